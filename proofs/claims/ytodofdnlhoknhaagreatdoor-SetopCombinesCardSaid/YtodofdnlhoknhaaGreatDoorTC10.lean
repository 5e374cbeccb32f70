/- Part 10 of the proof of the law. -/
import Derived.Test.YtodofdnlhoknhaaGreatDoorTC9
import Derived.WalkKit
import Derived.BigCall
import Derived.Lib.Strings
import Derived.Lib.Slices
import Derived.Lib.Walk
import Derived.Lib.Builder
import Derived.Lib.UnsafeStr
import Derived.Laws.Externs
import Derived.Laws.IdiomCopy
import Derived.Laws.BitsLemmas
import Derived.RegionTactic
set_option linter.defProp false
set_option linter.unusedVariables false
set_option linter.unusedSimpArgs false
set_option linter.unnecessarySimpa false
noncomputable section
namespace Go.Proofs
open Go.RowKit Go.Lib
def Tryz.lies_builder(n:Nat)(hn:1<=n):liesAt Tryz.prog Tryz.prog.depth 111 n 0 111 1:=by(have hc:Tryz.prog.cellsOf 111=2:=by kernel_rfl);have hd:Tryz.prog.depth=(2*(Tryz.prog.types.size+Made.depth)+1)+1:=rfl;generalize Tryz.prog=P at *;rw[hd];simp only[liesAt,Bool.or_eq_true];left;rw[hd];simp[rowAt,hc,hn,sameLayout]
set_option maxHeartbeats 2000000 in
set_option maxRecDepth 100000 in
def Tryz.copyCheck_used(b:Nat)(w:World)(h0:w.cell? ⟨b,0,none⟩=some (.pointer (some ⟨b,0,none⟩))):Calls Tryz.prog 130 #[.pointer (some ⟨b,0,none⟩)] w λ e w'=>e=.returned (.tuple #[])/\w'=w:=by(have hsz:(Tryz.prog.info? 111).map (·.size)=some 2:=by kernel_rfl);(obtain⟨j,hj,_⟩:=Option.map_eq_some_iff.1 hsz;have tp:Tryz.prog.underlying 108=some (.pointer 111):=by kernel_rfl);go_enter Tryz.func130,Tryz.ntmps130;go_wp2;rw[Lib.run_neq_ptr_same w _ tp hj];go_wp2;go_end0;exact⟨rfl,rfl⟩
set_option maxHeartbeats 2000000 in
set_option maxRecDepth 100000 in
def Tryz.copyCheck_fresh(b n:Nat)(hn:1<=n)(w:World)(h0:w.cell? ⟨b,0,none⟩=some (.pointer none))(J:w.shape? b=some (111,n*2))(Q:w.frozen? ⟨b,0,none⟩=false):Calls Tryz.prog 130 #[.pointer (some ⟨b,0,none⟩)] w λ e w'=>e=.returned (.tuple #[])/\w'=w.setCell ⟨b,0,none⟩ (.pointer (some ⟨b,0,none⟩)):=by
 have hsz:(Tryz.prog.info? 111).map (·.size)=some 2:=by kernel_rfl
 obtain⟨j,hj,O⟩:=Option.map_eq_some_iff.1 hsz;have hc:Tryz.prog.cellsOf 111=2:=by kernel_rfl
 have tp:Tryz.prog.underlying 108=some (.pointer 111):=by kernel_rfl
 have tu:Tryz.prog.underlying 171=some .unsafePointer:=by kernel_rfl
 have q:liesAt Tryz.prog Tryz.prog.depth 111 (n*2 / Tryz.prog.cellsOf 111) 0 111 1:=by rw[hc,Nat.mul_div_cancel _ (by decide)];exact Tryz.lies_builder n hn
 have c1:=Lib.run_to_unsafe w ⟨b,0,none⟩ tp tu hj (by rw[O];decide) J (show 0<n*2 by omega);have c2:=Lib.run_from_unsafe w ⟨b,0,none⟩ tu tp hj J q;clear q;go_enter Tryz.func130,Tryz.ntmps130;go_wp2;rw[run_callFunc_extern Tryz.func148 (by kernel_rfl) (by kernel_rfl) (by kernel_rfl) (e:=Extern.AbiNoEscape.same) (by kernel_rfl)];rw[Lib.run_noEscape];simp only[Result.andThen];rw[Oper.upon_value];go_wp2;go_end0;exact⟨rfl,rfl⟩
set_option maxHeartbeats 2000000 in
set_option maxRecDepth 100000 in
def Tryz.builder_string(b g cap:Nat)(l:List UInt8)(cur:Array Value)(w:World)(hb:w.cell? ⟨b,1,none⟩=some (.slice (some ⟨g,0,none⟩) l.length cap))(hg:w.heap[g]?=some (.cells cur 5 (0,0)))(q:∀j x,l[j]?=some x->w.cell? ((⟨g,0,none⟩:Addr).add j)=some (.int .u8 x.toNat))(V:l.length<=cur.size)(hcap:cap≠0)(h0:l≠[])(J:l.length<=9223372036854775807):Calls Tryz.prog 97 #[.pointer (some ⟨b,0,none⟩)] w λ e w'=>e=.returned (.string ⟨l.toArray⟩)/\w'=w.drew.freeze ⟨g,0,none⟩ l.length:=by(have c1:w.drew.cell? ⟨b,1,none⟩=some (.slice (some ⟨g,0,none⟩) l.length cap):=hb;have Q:Tryz.prog.underlying 155=some (.pointer 5):=by kernel_rfl);(have O:Tryz.prog.cellsOf 5=1:=by kernel_rfl);have Y:(Builtin.unsafeSliceData_ #[109] 155 #[.slice (some ⟨g,0,none⟩) l.length cap]).run Tryz.prog w.drew=.ok (.pointer (some ⟨g,0,none⟩)) w.drew:=Lib.run_unsafeSliceData_row _ _ _ _ _ _ hcap;have W:(Builtin.unsafeString_ #[155,3] 9 #[.pointer (some ⟨g,0,none⟩),.int .i64 l.length]).run Tryz.prog w.drew=.ok (.string ⟨l.toArray⟩) (w.drew.freeze ⟨g,0,none⟩ l.length):=Lib.run_unsafeString_row w.drew 155 3 9 5 Q O g cur.size (by have hg':w.drew.heap[g]?=some (.cells cur 5 (0,0)):=hg;simp[World.shape?,hg']) l h0 V J q;clear q;go_enter Tryz.func97,Tryz.ntmps97;go_wp2;go_region;all_goals (go_wp2;go_ret;exact⟨rfl,rfl⟩)
set_option maxHeartbeats 2000000 in
set_option maxRecDepth 100000 in
def Tryz.builder_string_nil(b:Nat)(w:World)(hb:w.cell? ⟨b,1,none⟩=some (.slice none 0 0)):Calls Tryz.prog 97 #[.pointer (some ⟨b,0,none⟩)] w λ e w'=>e=.returned (.string ⟨#[]⟩)/\w'=w.drew:=by have c1:w.drew.cell? ⟨b,1,none⟩=some (.slice none 0 0):=hb;have J:(Builtin.unsafeSliceData_ #[109] 155 #[.slice none 0 0]).run Tryz.prog w.drew=.ok (.pointer none) w.drew:=rfl;have q:=Lib.run_unsafeString_none (P:=Tryz.prog) w.drew 155 3 9 none;go_enter Tryz.func97,Tryz.ntmps97;go_wp2;go_region;all_goals (go_wp2;go_ret;exact⟨rfl,rfl⟩)
end Go.Proofs
end
noncomputable section
namespace Go.Sim
open Go.RowKit Go.Proofs
def M.isByte:AV->Bool|.int .u8 n=>decide (0<=n)&&decide (n<256)|_=>false
def M.isBytes(xs:List AV):Bool:=xs.all M.isByte
def M.strOf(xs:List AV):List UInt8:=xs.map λ x=>UInt8.ofNat x.toInt.toNat
def YT(s:List UInt8):M.strOf (M.byteAVs s)=s:=by unfold M.strOf M.byteAVs;rw[List.map_map];(conv=>rhs;rw[<-List.map_id s]);exact List.map_congr_left λ u _=>by simp[AV.toInt]
def Yd(s:List UInt8):M.isBytes (M.byteAVs s):=by unfold M.isBytes M.byteAVs;rw[zI];intro x hx;obtain⟨u,_,rfl⟩:=zK.1 hx;have:=u.toNat_lt;simp only[M.isByte,zf,zl];omega
def Yl(s t:List UInt8):M.byteAVs (s++t)=M.byteAVs s++M.byteAVs t:=by simp[M.byteAVs]
def BD(s:List UInt8):(M.byteAVs s).length=s.length:=by simp[M.byteAVs]
def xEC{x:AV}(h:M.isByte x):∃u:UInt8,x=.int .u8 u.toNat:=by unfold M.isByte at h;split at h;(rename_i n;simp only[zf,zl]at h;refine⟨UInt8.ofNat n.toNat,?_⟩;have:(UInt8.ofNat n.toNat).toNat=n.toNat:=by rw[UInt8.toNat_ofNat',Nat.mod_eq_of_lt Ω]);rw[this];congr 1;omega;simp at h
def xBm(w:World)(g n k:Nat)(h:k≠g):(w.freeze ⟨g,0,none⟩ n).heap[k]?=w.heap[k]?:=by unfold World.freeze;split;rfl;simp[Array.getElem?_modify,Ne.symm h]
def xCF(w:World)(g n:Nat):(w.freeze ⟨g,0,none⟩ n).heap.size=w.heap.size:=by unfold World.freeze;split;rfl;simp
variable {H:List aC}
def xGa{w w':World}{A:Nat->Prop}{M:Id->Option MB}{B:Nat}(hR:HR w A M B H){id:Nat}{m:MB}{bx:aC}(J:0<m.cap)(hm:M (.b id)=some m)(hb:H[id]?=some bx)(Z:bW bx.ty=false)(ab:bx.frz=false)(Q:BoxAt w A M B (.b id) m bx)(v:Nat)(hv:m.ver<v)(sz:Nat)(ty:TypeId)(W:bW ty=false)(hs:w'.heap.size=w.heap.size)(hw:∀b,b≠m.b->w'.heap[b]?=w.heap[b]?):HR w' A (aV M (.b id) ⟨m.b,v,sz,0,ty⟩) B (H.set id ⟨v,sz,ty,[],false,true⟩)/\Mv w A M w' A (aV M (.b id) ⟨m.b,v,sz,0,ty⟩):=by
 have aa:A m.b:=(Q.guard J).1 ab;have O:aR M (aV M (.b id) ⟨m.b,v,sz,0,ty⟩):=Cc hm (.inr hv);have hw':∀b,b<w.heap.size->¬ A b->w'.heap[b]?=w.heap[b]?:=λ b _ hA=>hw b λ e=>hA (e▸aa);have hc:∀{p:Prop},0<(0:Nat)->p:=λ h=>absurd h Ω;have q:∀i m1,aV M (.b id) ⟨m.b,v,sz,0,ty⟩ i=some m1->0<m1.cap->i≠.b id/\M i=some m1:=λ i m1 h1 h0=>by by_cases hi:i=.b id;subst hi;simp[aV]at h1;subst h1;exact absurd h0 Ψ;exact⟨hi,by simpa[aV,hi]using h1⟩
 refine⟨⟨λ i m1 h1=>?_,λ i i' m1 m2 h1 h2 c1 c2 he=>hR.inj i i' m1 m2 (q i m1 h1 c1).2 (q i' m2 h2 c2).2 c1 c2 he,λ b hb=>by rw[hs];exact hR.lt b hb⟩,⟨by omega,hw',λ _ _ h=>h,λ _ _ h _=>h,O,⟨λ b _ hb=>hw b λ e=>hb (.b id) m hm J e.symm,λ i m1 h1 h0=>.inl ⟨i,m1,(q i m1 h1 h0).2,h0,rfl⟩⟩⟩⟩;by_cases hi:i=.b id;subst hi;have:m1=⟨m.b,v,sz,0,ty⟩:=by simp[aV]at h1;exact h1.symm
 subst this;exact⟨⟨v,sz,ty,[],false,true⟩,by rw[iN,zL (jZ hb)],rfl,rfl,lR W,zQ _,zQ _,λ x hx=>by simp at hx,hc,hc,hc,hc⟩;have V:M i=some m1:=by simpa[aV,hi]using h1
 obtain⟨Y,g1,g2⟩:=hR.box i m1 V;exact⟨Y,by rw[rV hb Z W hi];exact g1,g2.mono (λ h0=>hw _ λ e=>hi (hR.inj i (.b id) m1 m V hm h0 J e)) hw' Ω (λ _ _ h=>h) g2.guard O⟩
def Jr{w:World}{A:Nat->Prop}{M:Id->Option MB}{B:Nat}(hR:HR w A M B H){v:Value}{a x:AV}{ty:TypeId}{frz pm:Bool}(J:bW ty=false)(hv:aD w A M v (.own (.b 0) 0 0 0))(hb:H[0]?=some ⟨0,2,ty,[.agg [a,x]],frz,pm⟩):∃m c,M (.b 0)=some m/\BoxAt w A M B (.b 0) m ⟨0,2,ty,[.agg [a,x]],frz,pm⟩/\1<=m.cap/\v=.pointer (some ⟨m.b,0,none⟩)/\w.heap[m.b]?=some (.cells c ty (0,0))/\c.size=m.cap*2/\m.sz=2/\aD w A (MP M pm) (c.getD 0 undef) a/\aD w A (MP M pm) (c.getD 1 undef) x/\w.cell? ⟨m.b,0,none⟩=some (c.getD 0 undef)/\w.cell? ⟨m.b,1,none⟩=some (c.getD 1 undef):=by
 obtain⟨m,hm,q,hp⟩:=tP hR hv (xor hb J);have hcap:1<=m.cap:=q.fits;have hsz:m.sz=2:=q.sz.symm;obtain⟨c,h1,h2,h3⟩:=q.plainCells J Ω;rw[hsz]at h2;have r0:=h3 0 0 Ψ Ω;have r1:=h3 0 1 Ψ Ω;have h1:w.heap[m.b]?=some (.cells c ty (0,0)):=h1;have e0:w.cell? ⟨m.b,0,none⟩=some (c.getD 0 undef):=by(have:0<c.size:=Ω);simp[World.cell?,h1,this]
 have e1:w.cell? ⟨m.b,1,none⟩=some (c.getD 1 undef):=by(have:1<c.size:=Ω);simp[World.cell?,h1,this]
 refine⟨m,c,hm,q,hcap,by simpa using hp,h1,h2,hsz,by simpa[AV.cells]using r0,by simpa[AV.cells]using r1,e0,e1⟩
def QG:List AV->List aC->Option (Bool×AV×List aC)|[.own (.b 0) 0 0 0],⟨0,2,ty,[.agg [.nilptr,x]],false,pm⟩::r=>(match Nat.beq ty 111 with|true=>some (true,.tuple [],⟨0,2,ty,[.agg [.own (.b 0) 0 0 0,x]],false,false⟩::r)|false=>none)|[.own (.b 0) 0 0 0],⟨0,2,ty,[.agg [.own (.b 0) 0 0 0,x]],false,pm⟩::r=>(match Nat.beq ty 111 with|true=>some (true,.tuple [],⟨0,2,ty,[.agg [.own (.b 0) 0 0 0,x]],false,pm⟩::r)|false=>none)|_,_=>none
def xCz:fP Tryz.prog xO6 130 QG:=λ xs H r H' h=>by
 unfold QG at h;split at h;rename_i ty x pm rest;split at h;case h_2=>simp at h
 rename_i J;have J:=zg J;subst J;simp only[z6,zb,true_and]at h;obtain⟨rfl,rfl⟩:=h;refine⟨xeI Tryz.func130 rfl Θ,λ w0 w A M vs hI hB hR O=>?_⟩;obtain⟨v,rfl,hv⟩:=rc1 O;obtain⟨m,c,hm,q,hcap,rfl,hh,Q,hsz,r0,r1,e0,e1⟩:=Jr hR (by rfl) hv rfl;have hn:c.getD 0 undef=.pointer none:=by revert r0;generalize c.getD 0 undef=z;intro r0;cases r0;rfl
 rw[hn]at e0;refine(Tryz.copyCheck_fresh m.b m.cap hcap w e0 (by simp[World.shape?,hh,Q]) (Lib.frozen_of_heap hh 0)).mono ?_;rintro e w' ⟨rfl,rfl⟩;rw[setCell_eq_setRow w m.b 0 c _ _ _ hh];have aa:x.one:=by have:=q.ok (.agg [.nilptr,x]) Ψ;simp only[AV.okElem,AV.cells,List.all_cons,zf]at this;exact this.2.2.1
 have W:(0:Nat)=m.ver:=q.ver;obtain⟨g1,g2,g3,g4,gt,g5⟩:=JU (m':=m) (bx':=⟨0,2,111,[.agg [.own (.b 0) 0 0 0,x]],false,false⟩) hR Ω hm rfl q rfl rfl rfl (c':=c.setIfInBounds 0 (.pointer (some ⟨m.b,0,none⟩))) rfl rfl rfl rfl (.inl rfl)
  W (by rw [hsz]) (by have:=q.ty;rw [lR rfl] at this;exact this) rfl hcap (fun y hy=>by
   simp only [zv] at hy;subst hy;rw [hsz];simp [AV.okElem,AV.cells,aa,show (AV.own (.b 0) 0 0 0).one=true from rfl]) (by rw [hsz];simpa using Q) (fun i j hi hj=>by
   have ab:i=0:=by simpa using hi
   subst ab;rw[hsz]at hj|-;have Z:0<c.size:=Ω
   have ac:1<c.size:=Ω
   match j,hj with
   | 0,_=>
    have:(c.setIfInBounds 0 (.pointer (some ⟨m.b,0,none⟩))).getD (0*2+0) undef=.pointer (some ⟨m.b,0,none⟩):=by simp[Z]
    rw[this];exact .own _ (.b 0) 0 0 0 m hm Ω rfl (λ _=>by rw[EU (q.nomap rfl)];simp)
   | 1,_=>
    have:(c.setIfInBounds 0 (.pointer (some ⟨m.b,0,none⟩))).getD (0*2+1) undef=c.getD 1 undef:=by simp[Array.getElem?_setIfInBounds]
    rw [this];exact r1.unmp)
 exact⟨_,A,_,rfl,hB.trans g4,λ _ _=>Iff.rfl,Ev.refl.step ⟨by simp[World.setRow],g3,λ _ _ h=>h,λ _ _ h _=>h,g2,gt⟩,by simpa using g1,.tuple #[] [] rfl Ψ⟩;rename_i ty x pm rest;split at h;case h_2=>simp at h
 rename_i J;have J:=zg J;subst J;simp only[z6,zb,true_and]at h;obtain⟨rfl,rfl⟩:=h;refine⟨xeI Tryz.func130 rfl Θ,λ w0 w A M vs hI hB hR O=>?_⟩;obtain⟨v,rfl,hv⟩:=rc1 O;obtain⟨m,c,hm,q,hcap,rfl,hh,Q,hsz,r0,r1,e0,e1⟩:=Jr hR (by rfl) hv rfl;obtain⟨m',V,Y,hp⟩:=tP hR r0.unmp (xor (n:=0) (bx:=⟨0,2,111,[.agg [.own (.b 0) 0 0 0,x]],false,pm⟩) rfl rfl);rw[hm]at V;obtain rfl:=(z6 _ _).mp V;rw[hp]at e0;refine(Tryz.copyCheck_used m.b w (by simpa using e0)).mono ?_;rintro e w' ⟨rfl,rfl⟩;exact⟨_,A,M,rfl,hB,λ _ _=>Iff.rfl,Ev.refl,hR,.tuple #[] [] rfl Ψ⟩;simp at h
def Oy:List AV->List aC->Option (Bool×AV×List aC)|[.own (.b 0) 0 0 0],[⟨0,2,ty,[.agg [a,.osl (.b 1) u 0 n]],false,pm⟩,⟨u',1,ty',bs,false,pm'⟩]=>(match Nat.beq ty 111&&(Nat.beq ty' 5&&Nat.beq u u')with|true=>some ((decide (n=bs.length)&&M.isBytes bs)&&decide (bs.length≠0),.str (M.strOf bs),[⟨0,2,ty,[.agg [a,.osl (.b 1) u 0 n]],false,pm⟩,⟨u+1,1,ty',[],false,true⟩])|false=>none)|[.own (.b 0) 0 0 0],⟨0,2,ty,[.agg [a,.nils]],false,pm⟩::r=>(match Nat.beq ty 111 with|true=>some (true,.str [],⟨0,2,ty,[.agg [a,.nils]],false,pm⟩::r)|false=>none)|_,_=>none
def xv6:fP Tryz.prog xO6 97 Oy:=λ xs H r H' h=>by
 unfold Oy at h;split at h;rename_i ty a u n pm u' am bs ag;split at h;case h_2=>simp at h
 rename_i O;simp only[zf]at O;obtain⟨h1,h2,h3⟩:=O;have h1:=zg h1;have h2:=zg h2;have h3:=zg h3;subst h1 h2 h3;simp only[z6,zb,zf,zl]at h;obtain⟨⟨⟨rfl,af⟩,hne⟩,rfl,rfl⟩:=h;refine⟨xeI Tryz.func97 rfl Θ,λ w0 w A MM vs hI hB hR W=>?_⟩;obtain⟨v,rfl,hv⟩:=rc1 W;obtain⟨m,c,hm,ab,hcap,rfl,hh,ah,hsz,r0,r1,e0,e1⟩:=Jr hR (by rfl) hv rfl;obtain⟨m1,a1,ai,q,aj,ae,ac⟩:=rx hR r1.unmp (xor (n:=1) (bx:=⟨u,1,5,bs,false,ag⟩) rfl rfl);have J:0<m1.cap:=by have:=q.fits;simp only at this;omega
 have ha:=ac J;subst ha;obtain⟨c1,k1,k2,k3⟩:=q.plainCells rfl J;have Q:m1.sz=1:=q.sz.symm;have ak:5=m1.ty:=by have:=q.ty;rw[lR rfl]at this;exact this
 rw[ae]at e1;simp only[Nat.zero_mul,Nat.sub_zero]at e1;have hl:(M.strOf bs).length=bs.length:=by simp[M.strOf]
 have V:∀j,j<bs.length->∃uu:UInt8,bs.getD j .top=.int .u8 uu.toNat/\(M.strOf bs)[j]?=some uu/\w.cell? ⟨m1.b,j,none⟩=some (.int .u8 uu.toNat):=λ j hj=>by have ad:bs.getD j .top∈bs:=jw hj;obtain⟨uu,hu⟩:=xEC (zI.1 af _ ad);refine⟨uu,hu,?_,?_⟩;have:bs[j]?=some (bs.getD j .top):=Fy hj;simp only[M.strOf,List.getElem?_map,this,hu,Option.map_some,AV.toInt,zN,UInt8.ofNat_toNat];have hr:=k3 j 0 hj Ω;(rw[Q,hu]at hr;simp only[Nat.mul_one,Nat.add_zero,AV.cells,List.getD_cons_zero]at hr;have:=hr.int_inv;have aa:j<c1.size:=by have:=q.fits;simp only at this;rw[k2,Q];omega);(simp only[World.cell?,k1];have e2:c1.getD j undef=c1[j]:=by simp[aa]);rw[e2]at this;simp[aa,this]
 refine (Tryz.builder_string m.b m1.b m1.cap (M.strOf bs) c1 w (by rw [hl];exact e1) k1 (fun j x hx=>by
  have hj:j<bs.length:=by
   rcases zJ j bs.length with h'|h'
   . exact h'
   . rw[zz Ω]at hx;simp at hx
  obtain⟨uu,g1,g2,g3⟩:=V j hj;rw[g2]at hx;obtain rfl:=(z6 _ _).mp hx;by_cases Z:j=0
  . subst Z;simpa[Addr.add]using g3
  . simpa [Addr.add,Z] using g3) (by rw [hl,k2,Q];have:=q.fits;simp only at this;omega) Ω (fun e=>hne (by rw [<-hl,e];rfl)) (by rw [hl];have h1:=q.fits;have h2:=q.capm;simp only at h1;unfold maxLen at h2;omega)).mono ?_
 rintro e w' ⟨rfl,rfl⟩;rw[hl];have Y:=q.low J;obtain⟨g1,g2⟩:=xGa hR J ai rfl rfl rfl q (u+1) (by have:=q.ver;simp only at this;omega) 1 5 rfl (w':=w.drew.freeze ⟨m1.b,0,none⟩ bs.length) (by rw[xCF];rfl) (λ b hb=>by rw[xBm _ _ _ _ hb];rfl);exact⟨_,A,_,rfl,Lib.below_freeze (hB.drew) (p:=⟨m1.b,0,none⟩) Y _,λ _ _=>Iff.rfl,Ev.refl.step g2,by simpa using g1,.str _⟩;rename_i ty a pm rest al;split at h;case h_2=>simp at h
 rename_i O;have O:=zg O;subst O;simp only[z6,zb,true_and]at h;obtain⟨rfl,rfl⟩:=h;refine⟨xeI Tryz.func97 rfl Θ,λ w0 w A MM vs hI hB hR W=>?_⟩;obtain⟨v,rfl,hv⟩:=rc1 W;obtain⟨m,c,hm,ab,hcap,rfl,hh,ah,hsz,r0,r1,e0,e1⟩:=Jr hR (by rfl) hv rfl;have hn:c.getD 1 undef=.slice none 0 0:=by revert r1;generalize c.getD 1 undef=z;intro r1;cases r1;rfl
 rw[hn]at e1;refine(Tryz.builder_string_nil m.b w e1).mono ?_;rintro e w' ⟨rfl,rfl⟩;exact⟨_,A,MM,rfl,hB.drew,λ _ _=>Iff.rfl,Ev.refl.step ⟨zd _,λ _ _ _=>rfl,λ _ _ h=>h,λ _ _ h _=>h,aR.refl MM,⟨λ _ _ _=>rfl,λ i m1 h1 h0=>.inl ⟨i,m1,h1,h0,rfl⟩⟩⟩,hR.drew,.str _⟩;simp at h
end Go.Sim
end
noncomputable section
namespace Go.Sim
open Go.RowKit
variable{α β γ:Type}
structure bI (α β:Type) where
 enc:β->α
 dec:α->Option β
 ok:∀a b,dec a=some b->a=enc b
def bG:bI α α:=⟨λ b=>b,some,λ a b h=>by simpa using h⟩
def pInt (k:IntKind):bI AV Int:=⟨.int k,fun v=>match v with
 |.int k' n=>match decide (k'=k)with
  |true=>some n
  |false=>none
 |_=>none,λ v n h=>by
 split at h
 . split at h
   . rename_i hk;simp only[z6]at h;rw[of_decide_eq_true hk,h]
   . simp at h
 . simp at h⟩
def pStr:bI AV (List UInt8):=⟨.str,fun v=>match v with
 |.str s=>some s
 |_=>none,λ v n h=>by
 split at h
 . simp only[z6]at h;rw[h]
 . simp at h⟩
def kV:bI AV Bool:=⟨.bool,fun v=>match v with
 |.bool s=>some s
 |_=>none,λ v n h=>by
 split at h
 . simp only[z6]at h;rw[h]
 . simp at h⟩
def wS (sz:Nat) (q:bI (List AV) β):bI AV β:=⟨fun b=>.list sz (q.enc b),fun v=>match v with
 |.list z xs=>match Nat.beq z sz with
  |true=>q.dec xs
  |false=>none
 |_=>none,λ v n h=>by
 split at h
 . split at h
   . rename_i hz;rw[zg hz,q.ok _ _ h]
   . simp at h
 . simp at h⟩
def cJ (id ver off:Nat):bI AV Nat:=⟨.osl id ver off,fun v=>match v with
 |.osl (.b i) e o n=>match Nat.beq i id&&(Nat.beq e ver&&Nat.beq o off)with
  |true=>some n
  |false=>none
 |_=>none,λ v n h=>by
 split at h
 . split at h
   . rename_i hz;simp only[zf]at hz;simp only[z6]at h;rw[zg hz.1,zg hz.2.1,zg hz.2.2,h]
   . simp at h
 . simp at h⟩
def mD (id off:Nat):bI AV (Nat×Nat):=⟨fun p=>.osl id p.1 off p.2,fun v=>match v with
 |.osl (.b i) e o n=>match Nat.beq i id&&Nat.beq o off with
  |true=>some (e,n)
  |false=>none
 |_=>none,λ v n h=>by
 split at h
 . split at h
   . rename_i hz;simp only[zf]at hz;simp only[z6]at h;rw[zg hz.1,zg hz.2,<-h]
   . simp at h
 . simp at h⟩
def CV (id j:Nat):bI AV (Nat×Nat):=⟨fun p=>.own id p.1 p.2 j,fun v=>match v with
 |.own (.b a) b c d=>match Nat.beq a id&&Nat.beq d j with
  |true=>some (b,c)
  |false=>none
 |_=>none,λ v n h=>by
 split at h
 . split at h
   . rename_i hz;simp only[zf]at hz;simp only[z6]at h;rw[zg hz.1,zg hz.2,<-h]
   . simp at h
 . simp at h⟩
def dz (id ver i j:Nat):bI AV Unit:=⟨fun _=>.own id ver i j,fun v=>match v with
 |.own (.b a) b c d=>match Nat.beq a id&&(Nat.beq b ver&&(Nat.beq c i&&Nat.beq d j))with
  |true=>some ()
  |false=>none
 |_=>none,λ v n h=>by
 split at h
 . split at h
   . rename_i hz;simp only[zf]at hz;rw[zg hz.1,zg hz.2.1,zg hz.2.2.1,zg hz.2.2.2]
   . simp at h
 . simp at h⟩
def ub (sz i j:Nat) (q:bI (List AV) β):bI AV β:=⟨fun b=>.eptr sz (q.enc b) i j,fun v=>match v with
 |.eptr a xs c d=>match Nat.beq a sz&&(Nat.beq c i&&Nat.beq d j)with
  |true=>q.dec xs
  |false=>none
 |_=>none,λ v n h=>by
 split at h
 . split at h
   . rename_i hz;simp only[zf]at hz;rw[zg hz.1,zg hz.2.1,zg hz.2.2,q.ok _ _ h]
   . simp at h
 . simp at h⟩
def gA (q:bI (List AV) β):bI AV β:=⟨fun b=>.agg (q.enc b),fun v=>match v with
 |.agg cs=>q.dec cs
 |_=>none,λ v n h=>by
 split at h
 . rw[q.ok _ _ h]
 . simp at h⟩
def em (f:Nat) (q:bI (List AV) β):bI AV β:=⟨fun b=>.func f (q.enc b),fun v=>match v with
 |.func g cs=>match Nat.beq g f with
  |true=>q.dec cs
  |false=>none
 |_=>none,λ v n h=>by
 split at h
 . split at h
   . rename_i hz;rw[zg hz,q.ok _ _ h]
   . simp at h
 . simp at h⟩
def eD:bI AV Unit:=⟨fun _=>.nils,fun v=>match v with
 |.nils=>some ()
 |_=>none,λ v n h=>by
 split at h
 . rfl
 . simp at h⟩
def od:bI AV Unit:=⟨fun _=>.nilptr,fun v=>match v with
 |.nilptr=>some ()
 |_=>none,λ v n h=>by
 split at h
 . rfl
 . simp at h⟩
def bT:bI (List α) Unit:=⟨fun _=>[],fun v=>match v with
 |[]=>some ()
 |_=>none,λ v n h=>by
 split at h
 . rfl
 . simp at h⟩
def bL (p:bI α β) (q:bI (List α) γ):bI (List α) (β×γ):=⟨fun b=>p.enc b.1::q.enc b.2,fun v=>match v with
 |x::t=>match p.dec x with
  |some b=>match q.dec t with
   |some c=>some (b,c)
   |none=>none
  |none=>none
 |_=>none,λ v n h=>by
 split at h
 . split at h
   . rename_i hp;split at h
     . rename_i hq;cases h;rw[p.ok _ _ hp,q.ok _ _ hq]
     . simp at h
   . simp at h
 . simp at h⟩
def fY (ver sz ty:Nat) (frz pm:Bool) (q:bI (List AV) β):bI aC β:=⟨fun b=>⟨ver,sz,ty,q.enc b,frz,pm⟩,fun v=>match v with
 |⟨a,b,c,xs,f,p⟩=>match Nat.beq a ver&&(Nat.beq b sz&&(Nat.beq c ty&&((f==frz)&&(p==pm))))with
  |true=>q.dec xs
  |false=>none,λ v n h=>by
 obtain⟨a,b,c,xs,f,p⟩:=v;dsimp only at h;split at h
 . rename_i hz;simp only[zf,beq_iff_eq]at hz;rw[zg hz.1,zg hz.2.1,zg hz.2.2.1,hz.2.2.2.1,hz.2.2.2.2,q.ok _ _ h]
 . simp at h⟩
def mC (sz ty:Nat) (frz pm:Bool) (q:bI (List AV) β):bI aC (Nat×β):=⟨fun b=>⟨b.1,sz,ty,q.enc b.2,frz,pm⟩,fun v=>match v with
 |⟨a,b,c,xs,f,p⟩=>match Nat.beq b sz&&(Nat.beq c ty&&((f==frz)&&(p==pm)))with
  |true=>match q.dec xs with
   |some y=>some (a,y)
   |none=>none
  |false=>none,λ v n h=>by
 obtain⟨a,b,c,xs,f,p⟩:=v;dsimp only at h;split at h
 . rename_i hz;simp only[zf,beq_iff_eq]at hz;split at h
   . rename_i y hy;simp only[z6]at h;rw[zg hz.1,zg hz.2.1,hz.2.2.1,hz.2.2.2,<-h,q.ok _ _ hy]
   . simp at h
 . simp at h⟩
def nX(a b:AV):Prop:=∀(w:World)(A:Nat->Prop)(M:Id->Option MB)(v:Value),aD w A M v a->aD w A M v b
def vU(aS bs:List AV):Prop:=aS.length=bs.length/\∀i,i<aS.length->nX (aS.getD i .top) (bs.getD i .top)
def nX.refl(a:AV):nX a a:=λ _ _ _ _ h=>h
def nX.of_eq{a b:AV}(h:a=b):nX a b:=h▸nX.refl a
def xIz(sz:Nat):nX .nils (.list sz []):=λ w A M v h=>by cases h;exact .list0 _ _ _
variable {aS bs:List AV}
def xJ5(h:vU aS bs):nX (.agg aS) (.agg bs):=λ w A M v hr=>by obtain⟨vs,rfl,h1,h2⟩:=hr.agg_inv;exact .agg vs bs (h1.trans h.1) λ i hi=>h.2 i (h.1.symm▸hi) w A M _ (h2 i (h.1.symm▸hi))
def VN{w:World}{A:Nat->Prop}{M:Id->Option MB}{vs:List Value}(h:vU aS bs)(hr:RC w A M vs aS):RC w A M vs bs:=⟨hr.1.trans h.1,λ i hi=>h.2 i (h.1.symm▸hi) w A M _ (hr.2 i (h.1.symm▸hi))⟩
structure dq (β:Type) where
 enc:β->AV
 dec:AV->Option β
 ok:∀a b,dec a=some b->nX a (enc b)
structure cK (β:Type) where
 enc:β->List AV
 dec:List AV->Option β
 ok:∀a b,dec a=some b->vU a (enc b)
def sEq(p:bI AV β):dq β:=⟨p.enc,p.dec,λ a b h=>nX.of_eq (p.ok a b h)⟩
def mL (sz:Nat) (q:bI (List AV) β):dq β:=⟨fun b=>.list sz (q.enc b),fun v=>match v with
 |.nils=>q.dec []
 |.list z xs=>match Nat.beq z sz with
  |true=>q.dec xs
  |false=>none
 |_=>none,λ v n h=>by
 split at h
 . rw[<-q.ok _ _ h];exact xIz sz
 . split at h
   . rename_i hz;rw[zg hz,q.ok _ _ h];exact nX.refl _
   . simp at h
 . simp at h⟩
def fO (q:cK β):dq β:=⟨fun b=>.agg (q.enc b),fun v=>match v with
 |.agg cs=>q.dec cs
 |_=>none,λ v n h=>by
 split at h
 . exact xJ5 (q.ok _ _ h)
 . simp at h⟩
def jj:cK Unit:=⟨fun _=>[],fun v=>match v with
 |[]=>some ()
 |_=>none,λ v n h=>by
 split at h
 . exact⟨rfl,λ i hi=>by simp at hi⟩
 . simp at h⟩
def cY (p:dq β) (q:cK γ):cK (β×γ):=⟨fun b=>p.enc b.1::q.enc b.2,fun v=>match v with
 |x::t=>match p.dec x with
  |some b=>match q.dec t with
   |some c=>some (b,c)
   |none=>none
  |none=>none
 |_=>none,λ v n h=>by
 split at h
 . split at h
   . rename_i hp;split at h
     . rename_i hq;cases h;obtain⟨h1,h2⟩:=q.ok _ _ hq;refine⟨by simp[h1],λ i hi=>?_⟩
       cases i with
       |zero=>exact p.ok _ _ hp
       |succ i=>exact h2 i (by simpa using hi)
     . simp at h
   . simp at h
 . simp at h⟩
def kr(pv:cK β)(g:β->Bool×AV):List AV->Option (Bool×AV):=λ xs=>match pv.dec xs with|some b=>some (g b)|none=>none
def ju(pv:cK β)(pb:bI (List aC) γ)(g:β->γ->Bool×AV×List aC):List AV->List aC->Option (Bool×AV×List aC):=λ xs H=>match pv.dec xs with|some b=>(match pb.dec H with|some c=>some (g b c)|none=>none)|none=>none
def sA (live liveO:List Nat) (conv:List (Nat×Nat×TypeId)) (pv:bI (List AV) β) (pb:bI (List aC) γ) (g:β->γ->Bool×LR):Lp:=⟨live,liveO,conv,fun xs H=>match pv.dec xs with|some b=>(match pb.dec H with|some c=>some (g b c)|none=>none)|none=>none⟩
section
variable{P:Program}{Inv:IV}
variable {n:FuncId}
def tK{pv:cK β}{g:β->Bool×AV}(h:∀b r,g b=(true,r)->Good P Inv n (pv.enc b) r):iz P Inv n (kr pv g):=λ xs r e=>by unfold kr at e;split at e;rename_i b hb;simp only[z6]at e;obtain⟨h1,h2⟩:=h b r e;exact⟨h1,λ w A vs hi ha hr=>h2 w A vs hi ha (VN (pv.ok _ _ hb) hr)⟩;simp at e
variable {pb:bI (List aC) γ}
def rt{pv:cK β}{g:β->γ->Bool×AV×List aC}(h:∀b c r H',g b c=(true,r,H')->bH P Inv n (pv.enc b) (pb.enc c) r H'):fP P Inv n (ju pv pb g):=λ xs H r H' e=>by unfold ju at e;split at e;rename_i b hb;split at e;rename_i c hc;simp only[z6]at e;rw[pb.ok _ _ hc];obtain⟨h1,h2⟩:=h b c r H' e;exact⟨h1,λ w0 w A M vs hi q hR hr=>h2 w0 w A M vs hi q hR (VN (pv.ok _ _ hb) hr)⟩;simp at e;simp at e
def V1{nt:Nat}{l:Code}{live liveO:List Nat}{conv:List (Nat×Nat×TypeId)}{pv:bI (List AV) β}{g:β->γ->Bool×LR}(h:∀b c r,g b c=(true,r)->fc P Inv l (λ e1 s1=>e1=r.eval.1/\s1=⟨aX nt (liveO.zip r.eval.2.1),r.eval.2.2⟩) ⟨aX nt (live.zip (pv.enc b)),pb.enc c⟩):dU P Inv nt l (sA live liveO conv pv pb g):=λ vals H r e=>by unfold sA at e;dsimp only at e;split at e;rename_i b hb;split at e;rename_i c hc;simp only[z6]at e;rw[pv.ok _ _ hb,pb.ok _ _ hc];exact h b c r e;simp at e;simp at e
end
def qS{x:Option α}{d:α}(h:x.isSome):x=some (x.getD d):=by cases x with|none=>simp at h|some y=>rfl
end Go.Sim
end
noncomputable section
namespace Go.Sim.M
open Go.RowKit Go.Proofs
def E0:dp:=(((dp.none.with 190 Om).with 95 Pe).withM 130 QG).withM 97 Oy
def xL6:dA Tryz.prog xO6 E0:=(((xEK.with xvv).with xzt).withM xCz).withM xv6
end Go.Sim.M
end
noncomputable section
namespace Go.Sim
open Go.RowKit
def mb{α:Type}(f:α->AV)(a:Option α)(b:Option AV):Prop:=∀r,a=some r->∃x,b=some x/\nX x (f r)
variable {b:Option AV}
def mb.none{α:Type}{f:α->AV}:mb f .none b:=λ r h=>by simp at h
def mb.some{α:Type}{f:α->AV}{a:α}{b:AV}(h:nX b (f a)):mb f (Option.some a) (Option.some b):=λ r e=>by cases e;exact⟨b,rfl,h⟩
def mb.br{α:Type}{f:α->AV}{t:Bool}{a a':Option α}{b':Option AV}(h1:mb f a b)(h2:mb f a' b'):mb f (Sim.br t a a') (Sim.br t b b'):=by cases t<;>assumption
variable {Inv:IV}{P:Program}{args:List AV}
def Good.sub{f:FuncId}{r r':AV}(h:Good P Inv f args r)(hs:nX r r'):Good P Inv f args r':=⟨h.1,λ w A vs hI hA q=>(h.2 w A vs hI hA q).mono λ e w'⟨v,he,hb,hr⟩=>⟨v,he,hb,hs w' A eF v hr⟩⟩
variable {H:List aC}{frz:Bool}{k:Nat}{pm:Bool}{sz v v':Nat}{xs:List AV}
def bH.bump1{f:FuncId}{ty:TypeId}(Q:bW ty=false)(hv:v<v')(h:bH P Inv f args H (.osl (.b 0) v 0 k) [⟨v,sz,ty,xs,frz,pm⟩]):bH P Inv f args H (.osl (.b 0) v' 0 k) [⟨v',sz,ty,xs,frz,pm⟩]:=by
 refine⟨h.1,λ w0 w A M vs hI hB hR W=>(h.2 w0 w A M vs hI hB hR W).mono ?_⟩;rintro e w' ⟨u,A',M',rfl,h1,h2,h3,h4,h5⟩;obtain⟨m,g1,g2,g3,g4⟩:=aD.osl_inv h5;obtain⟨bx,q1,q2⟩:=h4.box _ m g1;have:bx=⟨v,sz,ty,xs,frz,pm⟩:=by have:=q1;rw[iN]at this;simpa using this.symm
 subst this;have V:v=m.ver:=q2.ver;have O:aR M' (aV M' (.b 0) ⟨m.b,v',m.sz,m.cap,m.ty⟩):=Cc g1 (.inr (by simp only;omega));have J:∀id m1,aV M' (.b 0) ⟨m.b,v',m.sz,m.cap,m.ty⟩ id=some m1->∃m0,M' id=some m0/\m1.b=m0.b/\m1.cap=m0.cap:=λ id m1 q=>by by_cases hi:id=.b 0;subst hi;simp[aV]at q;subst q;exact⟨m,g1,rfl,rfl⟩;exact⟨m1,by simpa[aV,hi]using q,rfl,rfl⟩
 have hR':HR w' A' (aV M' (.b 0) ⟨m.b,v',m.sz,m.cap,m.ty⟩) w0.heap.size [⟨v',sz,ty,xs,frz,pm⟩]:=by refine⟨λ id m1 q=>?_,λ id id' m1 m2 k1 k2 c1 c2 he=>?_,h4.lt⟩;by_cases hi:id=.b 0;(subst hi;have:m1=⟨m.b,v',m.sz,m.cap,m.ty⟩:=by simp[aV]at q;exact q.symm);subst this;have q3:=q2.mono (w':=w') (λ _=>rfl) (λ _ _ _=>rfl) (zd _) (λ _ _ h=>h) q2.guard O;exact⟨⟨v',sz,ty,xs,frz,pm⟩,rfl,rfl,q3.sz,q3.ty,q3.capm,q3.fits,q3.ok,q3.low,q3.lt,q3.cells,q3.guard⟩;(have Y:M' id=some m1:=by simpa[aV,hi]using q);(obtain⟨bx,k1,k2⟩:=h4.box id m1 Y;have k3:getB [⟨v',sz,ty,xs,frz,pm⟩] id=some bx:=by rw[<-k1];exact rV (H:=[⟨v,sz,ty,xs,frz,pm⟩]) (n:=0) (bx:=⟨v,sz,ty,xs,frz,pm⟩) (bx':=⟨v',sz,ty,xs,frz,pm⟩) rfl Q Q hi);exact⟨bx,k3,k2.mono (λ _=>rfl) (λ _ _ _=>rfl) (zd _) (λ _ _ h=>h) k2.guard O⟩;obtain⟨n1,a1,a2,a3⟩:=J id m1 k1;obtain⟨n2,b1,b2,b3⟩:=J id' m2 k2;exact h4.inj id id' n1 n2 a1 b1 Ω Ω (by rw[<-a2,<-b2,he])
 refine⟨u,A',aV M' (.b 0) ⟨m.b,v',m.sz,m.cap,m.ty⟩,rfl,h1,h2,h3.step ⟨zd _,λ _ _ _=>rfl,λ _ _ h=>h,λ _ _ h _=>h,O,⟨λ _ _ _=>rfl,λ id m1 q h0=>?_⟩⟩,hR',?_⟩;obtain⟨n1,a1,a2,a3⟩:=J id m1 q;exact .inl ⟨id,n1,a1,by omega,a2⟩;exact .osl u (.b 0) v' 0 k ⟨m.b,v',m.sz,m.cap,m.ty⟩ (by simp[aV]) (zd _) g3 λ _=>g4 V
def bH.weaken{f:FuncId}{H1 H2:List aC}{r r2:AV}(h:bH P Inv f args H r H1)(hw:∀w A M B v,HR w A M B H1->aD w A M v r->∃M',HR w A M' B H2/\Mv w A M w A M'/\aD w A M' v r2):bH P Inv f args H r2 H2:=by refine⟨h.1,λ w0 w A M vs hI hB hR q=>(h.2 w0 w A M vs hI hB hR q).mono ?_⟩;rintro e w' ⟨u,A',M',rfl,h1,h2,h3,h4,h5⟩;obtain⟨M2,g1,g2,g3⟩:=hw w' A' M' _ u h4 h5;exact⟨u,A',M2,rfl,h1,h2,h3.step g2,g1,g3⟩
def xF9{w:World}{A:Nat->Prop}{M:Id->Option MB}{B:Nat}(hR:HR w A M B H){n:Nat}{m:MB}{bx:aC}(hm:M (.b n)=some m)(hb:H[n]?=some bx)(V:bW bx.ty=false)(v:Nat)(hv:m.ver<v)(sz:Nat)(ty:TypeId)(O:bW ty=false):HR w A (aV M (.b n) ⟨m.b,v,sz,0,ty⟩) B (H.set n ⟨v,sz,ty,[],false,true⟩)/\Mv w A M w A (aV M (.b n) ⟨m.b,v,sz,0,ty⟩):=by
 have J:aR M (aV M (.b n) ⟨m.b,v,sz,0,ty⟩):=Cc hm (.inr hv);have hc:∀{p:Prop},0<(0:Nat)->p:=λ h=>absurd h Ω;have q:∀i m1,aV M (.b n) ⟨m.b,v,sz,0,ty⟩ i=some m1->0<m1.cap->i≠.b n/\M i=some m1:=λ i m1 h1 h0=>by by_cases hi:i=.b n;subst hi;simp[aV]at h1;subst h1;exact absurd h0 Ψ;exact⟨hi,by simpa[aV,hi]using h1⟩
 refine⟨⟨λ i m1 h1=>?_,λ i i' m1 m2 h1 h2 c1 c2 he=>hR.inj i i' m1 m2 (q i m1 h1 c1).2 (q i' m2 h2 c2).2 c1 c2 he,hR.lt⟩,⟨zd _,λ _ _ _=>rfl,λ _ _ h=>h,λ _ _ h _=>h,J,⟨λ _ _ _=>rfl,λ i m1 h1 h0=>.inl ⟨i,m1,(q i m1 h1 h0).2,h0,rfl⟩⟩⟩⟩;by_cases hi:i=.b n;subst hi;have:m1=⟨m.b,v,sz,0,ty⟩:=by simp[aV]at h1;exact h1.symm
 subst this;exact⟨⟨v,sz,ty,[],false,true⟩,by rw[iN,zL (jZ hb)],rfl,rfl,lR O,zQ _,zQ _,λ x hx=>by simp at hx,hc,hc,hc,hc⟩;have W:M i=some m1:=by simpa[aV,hi]using h1
 obtain⟨Q,g1,g2⟩:=hR.box i m1 W;exact⟨Q,by rw[rV hb V O hi];exact g1,g2.mono (λ _=>rfl) (λ _ _ _=>rfl) (zd _) (λ _ _ h=>h) g2.guard J⟩
def bH.drop0{f:FuncId}{w V:Nat}{ty q:TypeId}{ys:List AV}{J Q:Bool}(O:bW ty=false)(hv:v<v')(h:bH P Inv f args H (.osl (.b 1) w 0 k) [⟨v,sz,ty,xs,frz,pm⟩,⟨w,V,q,ys,J,Q⟩]):bH P Inv f args H (.osl (.b 1) w 0 k) [⟨v',sz,ty,[],false,true⟩,⟨w,V,q,ys,J,Q⟩]:=h.weaken λ w1 A M B u hR hr=>by cases hm:M (.b 0)with|some m=>(obtain⟨bx,q1,q2⟩:=hR.box _ m hm;have hb:[(⟨v,sz,ty,xs,frz,pm⟩:aC),⟨w,V,q,ys,J,Q⟩][0]?=some ⟨v,sz,ty,xs,frz,pm⟩:=rfl;rw[iN,hb]at q1;cases q1;obtain⟨g1,g2⟩:=xF9 hR hm hb O v' (by have:v=m.ver:=q2.ver;omega) sz ty O;exact⟨_,g1,g2,g2.rel hr⟩)|none=>refine⟨M,⟨λ i m W=>?_,hR.inj,hR.lt⟩,Mv.refl,hr⟩;obtain⟨bx,q1,q2⟩:=hR.box i m W;refine⟨bx,?_,q2⟩;by_cases hi:i=.b 0;subst hi;rw[hm]at W;cases W;rw[<-q1];exact rV (H:=[⟨v,sz,ty,xs,frz,pm⟩,⟨w,V,q,ys,J,Q⟩]) (n:=0) (bx:=⟨v,sz,ty,xs,frz,pm⟩) (bx':=⟨v',sz,ty,[],false,true⟩) rfl O O hi
def bH.move0{f:FuncId}{w:Nat}{ty:TypeId}(q:bW ty=false)(hv:v<v')(h:bH P Inv f args H (.osl (.b 0) v 0 k) [⟨v,sz,ty,xs,frz,true⟩]):bH P Inv f args H (.osl (.b 1) w 0 k) [⟨v',sz,ty,[],false,true⟩,⟨w,sz,ty,xs,frz,true⟩]:=h.weaken λ w1 A M B u hR hr=>by
 obtain⟨m,g1,g2,g3,g4⟩:=aD.osl_inv hr;obtain⟨bx,q1,q2⟩:=hR.box _ m g1;have:bx=⟨v,sz,ty,xs,frz,true⟩:=by have:=q1;rw[iN]at this;simpa using this.symm
 subst this;have Q:v=m.ver:=q2.ver;have W:M (.b 1)=none:=by cases h1:M (.b 1)with|none=>rfl|some m1=>obtain⟨b1,k1,_⟩:=hR.box _ m1 h1;rw[iN]at k1;simp at k1
 have V:∀n i j m1,M (.r n i j)=some m1->n=0:=λ n i j m1 h1=>by obtain⟨b1,k1,_⟩:=hR.box _ m1 h1;obtain⟨b0,k2,_⟩:=tO k1;have:=jZ k2;simp at this;omega
 let M2:Id->Option MB:=aV (aV M (.b 0) ⟨m.b,v',sz,0,ty⟩) (.b 1) ⟨m.b,w,m.sz,m.cap,m.ty⟩;have e1:M2 (.b 1)=some ⟨m.b,w,m.sz,m.cap,m.ty⟩:=by simp[M2,aV]
 have e0:M2 (.b 0)=some ⟨m.b,v',sz,0,ty⟩:=by simp[M2,aV]
 have eo:∀i,i≠.b 0->i≠.b 1->M2 i=M i:=λ i h0 h1=>by simp[M2,aV,h0,h1]
 have J:aR M M2:=λ i m1 h1=>by by_cases h0:i=.b 0;subst h0;rw[g1]at h1;cases h1;exact⟨_,e0,.inr (by simp only;omega)⟩;by_cases h2:i=.b 1;subst h2;rw[W]at h1;cases h1;exact⟨m1,by rw[eo i h0 h2];exact h1,.inl rfl⟩
 have O:∀i m1,M2 i=some m1->0<m1.cap->i≠.b 0/\∃i0 m0,M i0=some m0/\m0.b=m1.b/\m0.cap=m1.cap/\(i=.b 1->i0=.b 0)/\(i≠.b 1->i0=i):=λ i m1 h1 h0=>by by_cases hi:i=.b 0;subst hi;rw[e0]at h1;cases h1;exact absurd h0 Ψ;refine⟨hi,?_⟩;by_cases h2:i=.b 1;subst h2;rw[e1]at h1;cases h1;exact⟨.b 0,m,g1,rfl,rfl,λ _=>rfl,λ h=>absurd rfl h⟩;rw[eo i hi h2]at h1;exact⟨i,m1,h1,rfl,rfl,λ h=>absurd h h2,λ _=>rfl⟩
 refine⟨M2,⟨λ i m1 h1=>?_,λ i i' m1 m2 h1 h2 c1 c2 he=>?_,hR.lt⟩,⟨zd _,λ _ _ _=>rfl,λ _ _ h=>h,λ _ _ h _=>h,J,⟨λ _ _ _=>rfl,λ i m1 h1 h0=>?_⟩⟩,?_⟩;by_cases hi:i=.b 0;subst hi;rw[e0]at h1;cases h1;have hc:∀{p:Prop},0<(0:Nat)->p:=λ h=>absurd h Ω
 exact⟨⟨v',sz,ty,[],false,true⟩,rfl,rfl,rfl,lR q,zQ _,zQ _,λ x hx=>by simp at hx,hc,hc,hc,hc⟩;by_cases h2:i=.b 1;subst h2;rw[e1]at h1;cases h1;have q3:=q2.mono (w':=w1) (A':=A) (λ _=>rfl) (λ _ _ _=>rfl) (zd _) (λ _ _ h=>h) q2.guard J;refine⟨⟨w,sz,ty,xs,frz,true⟩,rfl,rfl,q3.sz,q3.ty,q3.capm,q3.fits,q3.ok,q3.low,q3.lt,λ h0=>?_,q3.guard⟩;obtain⟨c,c1,c2,c3⟩:=q3.cells h0;refine⟨c,c1,c2,λ i j hi hj=>?_⟩;have:=c3 i j hi hj;rw[jH q,jX q]at this;rw[jH q,jX (bx:=⟨w,sz,ty,xs,frz,true⟩) q];exact this;rw[eo i hi h2]at h1;obtain⟨b1,k1,k2⟩:=hR.box i m1 h1;cases i with|b n=>(rw[iN]at k1;have:=jZ k1;have:n=0:=by simp at this;omega);subst this;exact absurd rfl hi|r n a b=>have hn:=V n a b m1 h1;subst hn;rw[pf (H:=[⟨v,sz,ty,xs,frz,true⟩]) (by rfl) q]at k1;cases k1;exact⟨fW,pf (by rfl) q,k2.mono (λ _=>rfl) (λ _ _ _=>rfl) (zd _) (λ _ _ h=>h) k2.guard J⟩
 obtain⟨a1,i0,n0,a2,a3,a4,a5,a6⟩:=O i m1 h1 c1;obtain⟨b1,j0,n1,b2,b3,b4,b5,b6⟩:=O i' m2 h2 c2;have:=hR.inj i0 j0 n0 n1 a2 b2 Ω Ω (by rw[a3,b3,he]);by_cases hi:i=.b 1;by_cases hj:i'=.b 1;rw[hi,hj];rw[a5 hi,b6 hj]at this;exact absurd this.symm b1;by_cases hj:i'=.b 1;rw[a6 hi,b5 hj]at this;exact absurd this a1;rw[a6 hi,b6 hj]at this;exact this;obtain⟨a1,i0,n0,a2,a3,a4,_,_⟩:=O i m1 h1 h0;exact .inl ⟨i0,n0,a2,by omega,a3.symm⟩;exact .osl u (.b 1) w 0 k ⟨m.b,w,m.sz,m.cap,m.ty⟩ e1 (zd _) g3 λ _=>g4 Q
end Go.Sim
end
noncomputable section
namespace Go.Sim
open Go.RowKit Go.Proofs
noncomputable abbrev P0:Program:=Tryz.prog
section
variable{α β γ ρ σ:Type}
def qI:bI AV Int:=pInt .i64
def qL(k:Nat):bI AV (List AV):=wS k bG
def qB{β:Type}(v s t:Nat)(q:bI (List AV) β):bI aC β:=fY v s t false true q
def bF(v s t:Nat)(x:List AV):aC:=⟨v,s,t,x,false,true⟩
def uI:dq Int:=sEq qI
def uL(k:Nat):dq (List AV):=mL k bG
def q1{α α0:Type}(a:bI α α0):bI (List α) (α0×Unit):=bL a (bT)
def q2{α α0 α1:Type}(a:bI α α0)(b:bI α α1):bI (List α) (α0×α1×Unit):=bL a (bL b (bT))
def q3{α α0 α1 α2:Type}(a:bI α α0)(b:bI α α1)(c:bI α α2):bI (List α) (α0×α1×α2×Unit):=bL a (bL b (bL c (bT)))
def q4{α α0 α1 α2 α3:Type}(a:bI α α0)(b:bI α α1)(c:bI α α2)(d:bI α α3):bI (List α) (α0×α1×α2×α3×Unit):=bL a (bL b (bL c (bL d (bT))))
def q5{α α0 α1 α2 α3 α4:Type}(a:bI α α0)(b:bI α α1)(c:bI α α2)(d:bI α α3)(e:bI α α4):bI (List α) (α0×α1×α2×α3×α4×Unit):=bL a (bL b (bL c (bL d (bL e (bT)))))
def q6{α α0 α1 α2 α3 α4 α5:Type}(a:bI α α0)(b:bI α α1)(c:bI α α2)(d:bI α α3)(e:bI α α4)(f:bI α α5):bI (List α) (α0×α1×α2×α3×α4×α5×Unit):=bL a (bL b (bL c (bL d (bL e (bL f (bT))))))
def q7{α α0 α1 α2 α3 α4 α5 α6:Type}(a:bI α α0)(b:bI α α1)(c:bI α α2)(d:bI α α3)(e:bI α α4)(f:bI α α5)(g:bI α α6):bI (List α) (α0×α1×α2×α3×α4×α5×α6×Unit):=bL a (bL b (bL c (bL d (bL e (bL f (bL g (bT)))))))
def q8{α α0 α1 α2 α3 α4 α5 α6 α7:Type}(a:bI α α0)(b:bI α α1)(c:bI α α2)(d:bI α α3)(e:bI α α4)(f:bI α α5)(g:bI α α6)(h:bI α α7):bI (List α) (α0×α1×α2×α3×α4×α5×α6×α7×Unit):=bL a (bL b (bL c (bL d (bL e (bL f (bL g (bL h (bT))))))))
def q9{α α0 α1 α2 α3 α4 α5 α6 α7 α8:Type}(a:bI α α0)(b:bI α α1)(c:bI α α2)(d:bI α α3)(e:bI α α4)(f:bI α α5)(g:bI α α6)(h:bI α α7)(i:bI α α8):bI (List α) (α0×α1×α2×α3×α4×α5×α6×α7×α8×Unit):=bL a (bL b (bL c (bL d (bL e (bL f (bL g (bL h (bL i (bT)))))))))
def F2{α α0 α1 α2 α3 α4 α5 α6 α7 α8 α9:Type}(a:bI α α0)(b:bI α α1)(c:bI α α2)(d:bI α α3)(e:bI α α4)(f:bI α α5)(g:bI α α6)(h:bI α α7)(i:bI α α8)(j:bI α α9):bI (List α) (α0×α1×α2×α3×α4×α5×α6×α7×α8×α9×Unit):=bL a (bL b (bL c (bL d (bL e (bL f (bL g (bL h (bL i (bL j (bT))))))))))
def u1{α0:Type}(a:dq α0):cK (α0×Unit):=cY a (jj)
def u2{α0 α1:Type}(a:dq α0)(b:dq α1):cK (α0×α1×Unit):=cY a (cY b (jj))
def u3{α0 α1 α2:Type}(a:dq α0)(b:dq α1)(c:dq α2):cK (α0×α1×α2×Unit):=cY a (cY b (cY c (jj)))
def u4{α0 α1 α2 α3:Type}(a:dq α0)(b:dq α1)(c:dq α2)(d:dq α3):cK (α0×α1×α2×α3×Unit):=cY a (cY b (cY c (cY d (jj))))
def u5{α0 α1 α2 α3 α4:Type}(a:dq α0)(b:dq α1)(c:dq α2)(d:dq α3)(e:dq α4):cK (α0×α1×α2×α3×α4×Unit):=cY a (cY b (cY c (cY d (cY e (jj)))))
def u6{α0 α1 α2 α3 α4 α5:Type}(a:dq α0)(b:dq α1)(c:dq α2)(d:dq α3)(e:dq α4)(f:dq α5):cK (α0×α1×α2×α3×α4×α5×Unit):=cY a (cY b (cY c (cY d (cY e (cY f (jj))))))
def u7{α0 α1 α2 α3 α4 α5 α6:Type}(a:dq α0)(b:dq α1)(c:dq α2)(d:dq α3)(e:dq α4)(f:dq α5)(g:dq α6):cK (α0×α1×α2×α3×α4×α5×α6×Unit):=cY a (cY b (cY c (cY d (cY e (cY f (cY g (jj)))))))
def LR.okB:LR->Bool|.leaf e _ _=>(match e with|.normal=>false|_=>true)|.node _ a b=>a.okB&&b.okB
def LR.okB_ne:∀{r:LR},r.okB->r.eval.1≠.normal|.leaf e _ _,h=>λ c=>by have c:e=.normal:=c;subst c;simp[LR.okB]at h|.node true a b,h=>LR.okB_ne (r:=a) (by simp only[LR.okB,zf]at h;exact h.1)|.node false a b,h=>LR.okB_ne (r:=b) (by simp only[LR.okB,zf]at h;exact h.2)
abbrev cS(σ ρ:Type):=σ->Option (σ⊕ρ)
def inL{σ ρ:Type}(s:σ):Option (σ⊕ρ):=some (.inl s)
def inR{σ ρ:Type}(p:ρ):Option (σ⊕ρ):=some (.inr p)
def bX(l:List AV)(i:Int):Bool:=decide ((0:Int)<=i)&&decide (i<(↑l.length:Int))
def dG(l:List AV)(i:Int)(s:Sh)(k:Nat):Bool:=decide (i.toNat<l.length)&&cX s ((l.getD i.toNat .top).cells.getD k .top)
def jl(l:List AV)(i:Int)(n:Nat)(ss:List Sh)(k:Nat):Bool:=decide (i.toNat<l.length)&&((l.getD i.toNat .top).cells.length==n&&ef ss (l.getD i.toNat .top).cells k)
def gC(l:List AV)(i:Int)(k:Nat):AV:=(l.getD i.toNat .top).cells.getD k .top
def iH(n:Nat)(l:List AV)(c z:Nat):Bool:=n==l.length&&(decide ((n+c)*z<=140737488355328)&&decide (n+c<=4611686018427387904))
abbrev RT:=Exit×List AV×List aC
abbrev HL(E:dp)(nt pin:Nat)(ls:List TypeId)(lp:List (Nat×Lp))(fn:Func):Prop:=dw Tryz.prog (xO6.at pin) (E.fn nt pin (eX ls) (jL lp)) (fn.body.getD .skip)
abbrev FX(E:dp)(nt pin:Nat)(ls:List TypeId)(lp:List (Nat×Lp))(fn:Func)(pv:cK β)(t:β->(T:Type)->T->(ρ->T)->T)(e:β->ρ->AV):Prop:=∀b,XF Tryz.prog (E.fn nt pin (eX ls) (jL lp)) fn (fn.body.getD .skip) (pv.enc b)=t b (Option AV) none λ p=>some (e b p)
abbrev FE(t:β->(T:Type)->T->(ρ->T)->T)(e:β->ρ->AV):Prop:=∀b,dQ (e b) (t b (Option ρ) none some) (t b (Option AV) none λ p=>some (e b p))
abbrev MX(E:dp)(nt pin:Nat)(ls:List TypeId)(lp:List (Nat×Lp))(fn:Func)(pv:cK β)(pb:bI (List aC) γ)(t:β->γ->(T:Type)->T->(ρ->T)->T)(e:β->γ->ρ->AV×List aC):Prop:=∀b c,mQ Tryz.prog (E.fn nt pin (eX ls) (jL lp)) fn (fn.body.getD .skip) (pv.enc b) (pb.enc c)=t b c (Option (AV×List aC)) none λ p=>some (e b c p)
abbrev ME(t:β->γ->(T:Type)->T->(ρ->T)->T)(e:β->γ->ρ->AV×List aC):Prop:=∀b c,dQ (e b c) (t b c (Option ρ) none some) (t b c (Option (AV×List aC)) none λ p=>some (e b c p))
abbrev TX(E:dp)(nt pin:Nat)(ls:List TypeId)(lp:List (Nat×Lp))(fn:Func)(pv:cK β)(t:β->(ρ->Option AV)->Option AV)(e:β->ρ->AV):Prop:=∀b,XF Tryz.prog (E.fn nt pin (eX ls) (jL lp)) fn (fn.body.getD .skip) (pv.enc b)=t b λ p=>some (e b p)
noncomputable abbrev LX(E:dp)(nt pin:Nat)(ls:List TypeId)(lp:List (Nat×Lp))(l:Code)(lv lo:List Nat)(cv:List (Nat×Nat×TypeId))(pv:bI (List AV) β)(pb:bI (List aC) γ)(F:β->γ->(σ->Option (σ⊕ρ))×σ×(ρ->LR))(G:β->γ->σ->(β×γ)×((σ->Option RT)->(ρ->Option RT)->Option RT)):Prop:=∀b c s,XR Tryz.prog (E.fn nt pin (eX ls) (jL lp)) lv lo cv l (pv.enc (G b c s).1.1) (pb.enc (G b c s).1.2)=(G b c s).2 (λ s=>some (encR (λ s=>(pv.enc (G b c s).1.1,pb.enc (G b c s).1.2)) (F b c).2.2 (.inl s))) λ p=>some (encR (λ s=>(pv.enc (G b c s).1.1,pb.enc (G b c s).1.2)) (F b c).2.2 (.inr p))
abbrev LE(pv:bI (List AV) β)(pb:bI (List aC) γ)(F:β->γ->(σ->Option (σ⊕ρ))×σ×(ρ->LR))(G:β->γ->σ->(β×γ)×((σ->Option RT)->(ρ->Option RT)->Option RT)):Prop:=∀b c s,dQ (encR (λ s=>(pv.enc (G b c s).1.1,pb.enc (G b c s).1.2)) (F b c).2.2) ((F b c).1 s) ((G b c s).2 (λ s=>some (encR (λ s=>(pv.enc (G b c s).1.1,pb.enc (G b c s).1.2)) (F b c).2.2 (.inl s))) λ p=>some (encR (λ s=>(pv.enc (G b c s).1.1,pb.enc (G b c s).1.2)) (F b c).2.2 (.inr p)))
variable {a:Option α}{b:Option β}
def eV{f:α->β}(Y:Option β)(h:b=Y)(he:dQ f a Y):dQ f a b:=h▸he
abbrev LA:=List AV
variable {P:Program}
def kU{Inv:IV}{E:dp}:∀c,c∈([]:List Code)->∀lp,E.lp (jp c)=some lp->dU P Inv E.nt c lp:=λ c h=>by simp at h
def fp{Inv:IV}{E:dp}{l:Code}{ls:List Code}{lp0:Lp}(hok:dU P Inv E.nt l lp0)(ht:∀c,c∈ls->∀lp,E.lp (jp c)=some lp->dU P Inv E.nt c lp)(h:E.lp (jp l)=some lp0:=by kernel_rfl):∀c,c∈l::ls->∀lp,E.lp (jp c)=some lp->dU P Inv E.nt c lp:=λ c hc lp hs=>by rcases zC.1 hc with rfl|hc;rw[h,z6]at hs;subst hs;exact hok;exact ht c hc lp hs
def eN{f:α->β}:dQ f none b:=dQ.none
def eS{f:α->β}{a:α}{b:β}(h:b=f a):dQ f (some a) (some b):=dQ.some h
def eB{f:α->β}{t:Bool}{a':Option α}{b':Option β}(h1:dQ f a b)(h2:dQ f a' b'):dQ f (br t a a') (br t b b'):=dQ.br h1 h2
def SJ(pv:cK β)(t:β->(T:Type)->T->(ρ->T)->T)(e:β->ρ->AV)(d:ρ):List AV->Option (Bool×AV):=kr pv λ b=>((t b (Option ρ) none some).isSome,e b ((t b (Option ρ) none some).getD d))
def fmO(pv:cK β)(pb:bI (List aC) γ)(t:β->γ->(T:Type)->T->(ρ->T)->T)(e:β->γ->ρ->AV×List aC)(d:ρ):List AV->List aC->Option (Bool×AV×List aC):=ju pv pb λ b c=>((t b c (Option ρ) none some).isSome,e b c ((t b c (Option ρ) none some).getD d))
noncomputable def SQ(lv lo:List Nat)(cv:List (Nat×Nat×TypeId))(pv:bI (List AV) β)(pb:bI (List aC) γ)(F:β->γ->(σ->Option (σ⊕ρ))×σ×(ρ->LR))(d:ρ):Lp:=sA lv lo cv pv pb λ b c=>((aB (F b c).1 (F b c).2.1).isSome,(F b c).2.2 ((aB (F b c).1 (F b c).2.1).getD d))
section
variable{E:dp}
def yD{α:Type}(e:ρ->α)(a:ρ)(x:Option α):Prop:=x=some (e a)
def eT{α:Type}{e:ρ->α}{t:Bool}{a b:ρ}{x y:Option α}(h1:yD e a x)(h2:yD e b y):yD e (br t a b) (br t x y):=by cases t<;>assumption
def eU{α:Type}{e:ρ->α}{a:ρ}{x:α}(h:x=e a):yD e a (some x):=congrArg some h
def ftO(pv:cK β)(f:β->ρ)(e:β->ρ->AV):List AV->Option (Bool×AV):=kr pv λ b=>(true,e b (f b))
variable {g:FuncId}
def ftC(h:dA Tryz.prog xO6 E){fn:Func}(hf:Tryz.prog.funcs[g]?=some fn)(nt pin:Nat)(ls:List TypeId)(lp:List (Nat×Lp)){pv:cK β}{f:β->ρ}{e:β->ρ->AV}
  (hl:HL E nt pin ls lp fn) (t:β->(ρ->Option AV)->Option AV) (hx:TX E nt pin ls lp fn pv t e:=by intro b;kernel_rfl)
  (he:∀b,yD (e b) (f b) (t b λ p=>some (e b p)):=by intro b;repeat' first|apply eT|exact eU rfl)
  (hb:fn.body.isSome:=by exact rfl) (hn:(fn.name == "runtime.NumGoroutine")=false:=by kernel_rfl):iz Tryz.prog xO6 g (ftO pv f e):=tK λ b r hh=>by
 obtain⟨_,h2⟩:=Prod.mk.inj hh;subst h2;exact yr (p:=pin) (Ce xOz (xOA Tryz.prog _) rfl h.fn hf hb hn hl ((hx b).trans (he b)))
variable {Inv:IV}{c:Code}
def lk0(h:jW c=[]:=by kernel_rfl)(hc:((jF c).all λ d=>(E.lp (gL d)).isNone):=by kernel_rfl):dw Tryz.prog Inv E c:=pM h hc
def fh{l:Code}{lp0:Lp}(hok:dU Tryz.prog Inv E.nt l lp0)(h:jW c=[l]:=by kernel_rfl)(he:E.lp (jp l)=some lp0:=by kernel_rfl)(hc:((jF c).all λ d=>(E.lp (gL d)).isNone):=by kernel_rfl):dw Tryz.prog Inv E c:=yu h (fp hok kU he) hc
structure EO where
 E:dp
 ok:dA Tryz.prog xO6 E
def EO.w(e:EO){o:List AV->Option (Bool×AV)}(c:iz Tryz.prog xO6 g o):EO:=⟨e.E.with g o,e.ok.with c⟩
def EO.wM(e:EO){o:List AV->List aC->Option (Bool×AV×List aC)}(c:fP Tryz.prog xO6 g o):EO:=⟨e.E.withM g o,e.ok.withM c⟩
variable {d:ρ}
def SI(h:dA Tryz.prog xO6 E){fn:Func}(hf:Tryz.prog.funcs[g]?=some fn)(nt pin:Nat)(ls:List TypeId)(lp:List (Nat×Lp)){pv:cK β}{t:β->(T:Type)->T->(ρ->T)->T}{e:β->ρ->AV}
  (hl:HL E nt pin ls lp fn) (hx:FX E nt pin ls lp fn pv t e:=by intro b;kernel_rfl)
  (he:FE t e:=by intro b;repeat' first|apply eB|exact eN|exact eS rfl)
  (hb:fn.body.isSome:=by exact rfl) (hn:(fn.name == "runtime.NumGoroutine")=false:=by kernel_rfl):iz Tryz.prog xO6 g (SJ pv t e d):=tK λ b r hh=>by
 obtain⟨h1,h2⟩:=Prod.mk.inj hh;subst h2;exact yr (p:=pin) (Ce xOz (xOA Tryz.prog _) rfl h.fn hf hb hn hl ((hx b).trans (he b _ (qS h1))))
variable {pb:bI (List aC) γ}
def fmC(h:dA Tryz.prog xO6 E){fn:Func}(hf:Tryz.prog.funcs[g]?=some fn)(nt pin:Nat)(ls:List TypeId)(lp:List (Nat×Lp)){pv:cK β}{t:β->γ->(T:Type)->T->(ρ->T)->T}{e:β->γ->ρ->AV×List aC}
  (hl:HL E nt pin ls lp fn) (hx:MX E nt pin ls lp fn pv pb t e:=by intro b c;kernel_rfl)
  (he:ME t e:=by intro b c;repeat' first|apply eB|exact eN|exact eS rfl)
  (hp:∀c,(pb.enc c).length=pin:=by exact λ _=>rfl) (hb:fn.body.isSome:=by exact rfl) (hn:(fn.name == "runtime.NumGoroutine")=false:=by kernel_rfl):fP Tryz.prog xO6 g (fmO pv pb t e d):=rt λ b c r H' hh=>by
 obtain⟨h1,h2⟩:=Prod.mk.inj hh;exact yn (p:=pin) (ym xOz (xOA Tryz.prog _) rfl h.fn (hp c) hf hb hn hl (((hx b c).trans (he b c _ (qS h1))).trans (congrArg some h2)))
def lpC(h:dA Tryz.prog xO6 E)(nt pin:Nat)(ls:List TypeId)(lp:List (Nat×Lp)){l:Code}{lv lo:List Nat}{cv:List (Nat×Nat×TypeId)}{pv:bI (List AV) β}{F:β->γ->(σ->Option (σ⊕ρ))×σ×(ρ->LR)}
  (hl:dw Tryz.prog (xO6.at pin) (E.fn nt pin (eX ls) (jL lp)) l) (G:β->γ->σ->(β×γ)×((σ->Option RT)->(ρ->Option RT)->Option RT))
  (hx:LX E nt pin ls lp l lv lo cv pv pb F G:=by intro b c s;kernel_rfl)
  (he:LE pv pb F G:=by intro b c s;repeat' first|apply eB|exact eN|exact eS rfl)
  (hM:∀b c,(G b c (F b c).2.1).1=(b,c):=by exact λ _ _=>rfl) (ho:∀b c r,((F b c).2.2 r).okB:=by exact λ _ _ _=>rfl):dU Tryz.prog (xO6.at pin) nt l (SQ lv lo cv pv pb F d):=V1 λ b c r hh=>by
 obtain⟨h1,h2⟩:=Prod.mk.inj hh;subst h2;have:=xyb xOz (xOA Tryz.prog _) rfl (h.fn (nt:=nt) (pin:=pin) (ls:=eX ls) (lp:=jL lp)) hl (λ s=>(pv.enc (G b c s).1.1,pb.enc (G b c s).1.2)) (F b c).2.2 (λ p=>LR.okB_ne (ho b c p)) (λ s r hr=>(hx b c s).trans (he b c s r hr)) (qS (d:=d) h1)
 dsimp only at this;rw[hM b c]at this;exact this
structure LO (pin nt:Nat) (l:Code) where
 lp:Lp
 ok:dU Tryz.prog (xO6.at pin) nt l lp
noncomputable def EO.f(x:EO){fn:Func}(hf:Tryz.prog.funcs[g]?=some fn)(nt pin:Nat)(ls:List TypeId)(lp:List (Nat×Lp))
 (hl:HL x.E nt pin ls lp fn) (pv:cK β) (t:β->(T:Type)->T->(ρ->T)->T) (e:β->ρ->AV) (d:ρ) (hx:FX x.E nt pin ls lp fn pv t e:=by intro b;kernel_rfl)
 (he:FE t e:=by intro b;repeat' first|apply eB|exact eN|exact eS rfl)
 (hb:fn.body.isSome:=by exact rfl) (hn:(fn.name == "runtime.NumGoroutine")=false:=by kernel_rfl):EO:=x.w (SI (d:=d) x.ok hf nt pin ls lp hl hx he hb hn)
noncomputable def EO.fM(x:EO){fn:Func}(hf:Tryz.prog.funcs[g]?=some fn)(nt pin:Nat)(ls:List TypeId)(lp:List (Nat×Lp))
 (hl:HL x.E nt pin ls lp fn) (pv:cK β) (pb:bI (List aC) γ) (t:β->γ->(T:Type)->T->(ρ->T)->T) (e:β->γ->ρ->AV×List aC) (d:ρ) (hx:MX x.E nt pin ls lp fn pv pb t e:=by intro b c;kernel_rfl)
 (he:ME t e:=by intro b c;repeat' first|apply eB|exact eN|exact eS rfl)
 (hp:∀c,(pb.enc c).length=pin:=by exact λ _=>rfl) (hb:fn.body.isSome:=by exact rfl) (hn:(fn.name == "runtime.NumGoroutine")=false:=by kernel_rfl):EO:=x.wM (fmC (d:=d) x.ok hf nt pin ls lp hl hx he hp hb hn)
noncomputable def EO.fT(x:EO){fn:Func}(hf:Tryz.prog.funcs[g]?=some fn)(nt pin:Nat)(ls:List TypeId)(lp:List (Nat×Lp))
 (hl:HL x.E nt pin ls lp fn) (t:β->(ρ->Option AV)->Option AV) (pv:cK β) (f:β->ρ) (e:β->ρ->AV) (hx:TX x.E nt pin ls lp fn pv t e:=by intro b;kernel_rfl)
 (he:∀b,yD (e b) (f b) (t b λ p=>some (e b p)):=by intro b;repeat' first|apply eT|exact eU rfl)
 (hb:fn.body.isSome:=by exact rfl) (hn:(fn.name == "runtime.NumGoroutine")=false:=by kernel_rfl):EO:=x.w (ftC x.ok hf nt pin ls lp hl t hx he hb hn)
noncomputable def EO.l(x:EO)(nt pin:Nat)(ls:List TypeId)(lp:List (Nat×Lp))(fn:Func)(k:Nat)(hl:dw Tryz.prog (xO6.at pin) (x.E.fn nt pin (eX ls) (jL lp)) (kL fn k))(lv lo:List Nat)(cv:List (Nat×Nat×TypeId))(pv:bI (List AV) β)(pb:bI (List aC) γ)(F:β->γ->(σ->Option (σ⊕ρ))×σ×(ρ->LR))(d:ρ)
 (G:β->γ->σ->(β×γ)×((σ->Option RT)->(ρ->Option RT)->Option RT))
 (hx:LX x.E nt pin ls lp (kL fn k) lv lo cv pv pb F G:=by intro b c s;kernel_rfl)
 (he:LE pv pb F G:=by intro b c s;repeat' first|apply eB|exact eN|exact eS rfl)
 (hM:∀b c,(G b c (F b c).2.1).1=(b,c):=by exact λ _ _=>rfl) (ho:∀b c r,((F b c).2.2 r).okB:=by exact λ _ _ _=>rfl):LO pin nt (kL fn k):=⟨SQ lv lo cv pv pb F d,lpC x.ok nt pin ls lp hl G hx he hM ho⟩
def lW{ls:List Code}(hl:∀l,l∈ls->∀lp,E.lp (jp l)=some lp->dU Tryz.prog Inv E.nt l lp)(h:jW c=ls:=by kernel_rfl)(hc:((jF c).all λ d=>(E.lp (gL d)).isNone):=by kernel_rfl):dw Tryz.prog Inv E c:=yu h hl hc
end
end
end Go.Sim
end
noncomputable section
namespace Go.Sim
def aH:(∀{σ ρ:Type}(s:σ),(inL s:Option (σ⊕ρ))=some (.inl s))/\(∀{σ ρ:Type}(p:ρ),(inR p:Option (σ⊕ρ))=some (.inr p))/\(∀(l:List AV)(i:Int),bX l i=(decide ((0:Int)<=i)&&decide (i<(↑l.length:Int))))/\(∀(l:List AV)(i:Int)(s:Sh)(k:Nat),dG l i s k=(decide (i.toNat<l.length)&&cX s ((l.getD i.toNat .top).cells.getD k .top)))/\(∀(l:List AV)(i:Int)(n:Nat)(ss:List Sh)(k:Nat),jl l i n ss k=(decide (i.toNat<l.length)&&((l.getD i.toNat .top).cells.length==n&&ef ss (l.getD i.toNat .top).cells k)))/\(∀(l:List AV)(i:Int)(k:Nat),gC l i k=(l.getD i.toNat .top).cells.getD k .top)/\(∀(n:Nat)(l:List AV)(c z:Nat),iH n l c z=(n==l.length&&(decide ((n+c)*z<=140737488355328)&&decide (n+c<=4611686018427387904)))):=⟨λ _=>rfl,λ _=>rfl,λ _ _=>rfl,λ _ _ _ _=>rfl,λ _ _ _ _ _=>rfl,λ _ _ _=>rfl,λ _ _ _ _=>rfl⟩
def bQ:((∀{α β:Type}{l:List α}(f:α->β),(l.map f).length=l.length)/\(∀{T:Type}{a b:T},br true a b=a)/\(∀{T:Type}{a b:T},br false a b=b)/\(∀(h:Decidable True),@decide True h)/\(∀(h:Decidable False),@decide False h=false)/\(∀b:Bool,(b&&true)=b)/\(∀b:Bool,(true&&b)=b)/\((!true)=false)/\((!false))/\(∀n:Nat,(n:Int).toNat=n)/\(∀n:Nat,(0:Int)<=(n:Int))/\(∀{α:Type}{a:α},(some a).isSome)/\(∀{α:Type}{a b:α},(some a).getD b=a)/\(∀{α:Type}[BEq α][ReflBEq α](a:α),(a==a))/\(∀n:Nat,0+n=n)/\(∀n:Nat,n - 0=n))/\(∀{σ ρ:Type}(s:σ),(inL s:Option (σ⊕ρ))=some (.inl s))/\(∀{σ ρ:Type}(p:ρ),(inR p:Option (σ⊕ρ))=some (.inr p))/\(∀(l:List AV)(i:Int),bX l i=(decide ((0:Int)<=i)&&decide (i<(↑l.length:Int))))/\(∀(l:List AV)(i:Int)(s:Sh)(k:Nat),dG l i s k=(decide (i.toNat<l.length)&&cX s ((l.getD i.toNat .top).cells.getD k .top)))/\(∀(l:List AV)(i:Int)(n:Nat)(ss:List Sh)(k:Nat),jl l i n ss k=(decide (i.toNat<l.length)&&((l.getD i.toNat .top).cells.length==n&&ef ss (l.getD i.toNat .top).cells k)))/\(∀(l:List AV)(i:Int)(k:Nat),gC l i k=(l.getD i.toNat .top).cells.getD k .top)/\(∀(n:Nat)(l:List AV)(c z:Nat),iH n l c z=(n==l.length&&(decide ((n+c)*z<=140737488355328)&&decide (n+c<=4611686018427387904)))):=⟨⟨za,rfl,rfl,λ h=>by simp,λ h=>by simp,zS,Bool.true_and,rfl,rfl,zN,Int.natCast_nonneg,rfl,rfl,λ a=>beq_self_eq_true a,zH,Nat.sub_zero⟩,aH⟩
def rA:(∀{α:Type}{l:List α},l.drop 0=l)/\(∀{α:Type}{l:List α}{i:Nat},l.length<=i->l.take i=l)/\(∀n:Nat,0+n=n)/\(∀{α β:Type}{l:List α}(f:α->β),(l.map f).length=l.length)/\(∀n:Nat,n<=n)/\(∀(h:Decidable True),@decide True h)/\(∀b:Bool,(b&&true)=b)/\(∀{T:Type}{a b:T},br true a b=a)/\(∀{α:Type}{a:α},(some a).isSome)/\(∀{α:Type}{a b:α},(some a).getD b=a):=⟨zr,zi,zH,za,zd,λ h=>by simp,zS,rfl,rfl,rfl⟩
end Go.Sim
noncomputable def Go.Sim.M.xL5:Go.Sim.EO:=Go.Sim.EO.mk Go.Sim.M.E0 Go.Sim.M.xL6
end
noncomputable section
set_option maxRecDepth 100000
namespace Go.Sim.M
open Go.IntKind (i64 u64 u8)
open Go.RowKit Go.Proofs
def Gr{T:Type}(a:List UInt8)(δ:T)(κ:Int×Nat×LA->T):T:=br (decide ((byteAVs a).length*1<=140737488355328)&&decide ((byteAVs a).length<=4611686018427387904)) (κ ((↑a.length:Int),(byteAVs a).length,byteAVs a)) δ
def rI(a:List UInt8):=Gr a none some
def xL8:EO:=xL5.fM Tryz.func94 19 1 [] [] lk0 (u2 (sEq (dz 0 0 0 0)) (sEq pStr)) (q1 (qB 0 2 111 (q1 (gA (q2 od eD))))) (λ(_,a,_) (((_,_,_),_),_) _=>Gr a) (λ _ _ p=>(AV.tuple [AV.int .i64 p.1,.top],([⟨0,2,111,[AV.agg [AV.own 0 0 0 0,AV.osl 1 0 0 p.2.1]],false,false⟩,bF 0 1 5 p.2.2]:List aC))) (0,0,[])
def Nd{T:Type}(a:List UInt8)(n:Nat)(b:LA)(δ:T)(κ:Int×Nat×LA->T):T:=br (n==b.length&&(decide ((n+(byteAVs a).length)*1<=140737488355328)&&decide (n+(byteAVs a).length<=4611686018427387904))) (κ ((↑a.length:Int),n+(byteAVs a).length,b++byteAVs a)) δ
def rH(a:List UInt8)(n:Nat)(b:LA):=Nd a n b none some
def xL9:EO:=xL8.fM Tryz.func94 19 2 [] [] lk0 (u2 (sEq (dz 0 0 0 0)) (sEq pStr)) (q2 (fY 0 2 111 false false (q1 (gA (q2 (dz 0 0 0 0) (cJ 1 0 0))))) (qB 0 1 5 bG)) (λ(_,a,_) (((_,n,_),_),b,_) _=>Nd a n b) (λ _ _ p=>(AV.tuple [AV.int .i64 p.1,.top],([⟨0,2,111,[AV.agg [AV.own 0 0 0 0,AV.osl 1 1 0 p.2.1]],false,false⟩,bF 1 1 5 p.2.2]:List aC))) (0,0,[])
def xnL{T:Type}(a:List UInt8)(n:Nat)(b:LA)(δ:T)(κ:Int×Nat×LA->T):T:=br (n==b.length&&(decide ((n+(byteAVs a).length)*1<=140737488355328)&&decide (n+(byteAVs a).length<=4611686018427387904))) (κ ((↑a.length:Int),n+(byteAVs a).length,b++byteAVs a)) δ
def Mw:EO:=xL9.fM Tryz.func94 19 2 [] [] lk0 (u2 (sEq (dz 0 0 0 0)) (sEq pStr)) (q2 (fY 0 2 111 false false (q1 (gA (q2 (dz 0 0 0 0) (cJ 1 1 0))))) (qB 1 1 5 bG)) (λ(_,a,_) (((_,n,_),_),b,_) _=>xnL a n b) (λ _ _ p=>(AV.tuple [AV.int .i64 p.1,.top],([⟨0,2,111,[AV.agg [AV.own 0 0 0 0,AV.osl 1 2 0 p.2.1]],false,false⟩,bF 2 1 5 p.2.2]:List aC))) (0,0,[])
def Ab:dp:=Mw.E.fn 17 1 (eX []) (jL [])
def xm7:dA P0 (xO6.at 1) Ab:=Mw.ok.fn
def xmE:dw P0 (xO6.at Ab.pin) Ab (Tryz.f96.body.getD .skip):=pM Θ
def Nr(c:Int):Int:=((c))
def WS(c:Int):Bool:=true
def WT{T:Type}(c:Int)(δ:T)(κ:Int->T):T:=κ (c)
def xpe(c:Int):fL (WS c) (mQ P0 Ab Tryz.f96 (Tryz.f96.body.getD .skip) [AV.own (0:Id) 0 0 0,AV.int .u8 c] [{ver:=0,sz:=2,ty:=(111:TypeId),xs:=[AV.agg [AV.nilptr,AV.nils]],frz:=false,pm:=true}]) ((.top,([⟨0,2,111,[AV.agg [AV.own 0 0 0 0,AV.osl 1 0 0 1]],false,false⟩,⟨0,1,5,[AV.int .u8 (Nr c)],false,true⟩]:List aC))):=by(have h:mQ P0 Ab Tryz.f96 (Tryz.f96.body.getD .skip) [AV.own (0:Id) 0 0 0,AV.int .u8 c] [{ver:=0,sz:=2,ty:=(111:TypeId),xs:=[AV.agg [AV.nilptr,AV.nils]],frz:=false,pm:=true}]=WT c none (λ(p:Int)=>some (((.top,([⟨0,2,111,[AV.agg [AV.own 0 0 0 0,AV.osl 1 0 0 1]],false,false⟩,⟨0,1,5,[AV.int .u8 p],false,true⟩]:List aC))):(AV×List aC))):=by kernel_rfl);rw[h];unfold Nr WS WT;repeat' (first|exact fL.none|exact fL.tt rfl|exact fL.some rfl|refine fL.l ?_|refine fL.r ?_|refine fL.br (f:=λ(p:Int)=>(((.top,([⟨0,2,111,[AV.agg [AV.own 0 0 0 0,AV.osl 1 0 0 1]],false,false⟩,⟨0,1,5,[AV.int .u8 p],false,true⟩]:List aC))):(AV×List aC))) ?_ ?_|refine fL.brt (f:=λ(p:Int)=>(((.top,([⟨0,2,111,[AV.agg [AV.own 0 0 0 0,AV.osl 1 0 0 1]],false,false⟩,⟨0,1,5,[AV.int .u8 p],false,true⟩]:List aC))):(AV×List aC))) ?_ ?_)
def xpd:LA->List aC->Option (Bool×AV×List aC):=ju (cY (sEq (dz 0 0 0 0)) (cY (sEq (pInt .u8)) jj)) (bL (fY 0 2 (111:TypeId) false true (bL (gA (bL od (bL eD bT))) bT)) bT) λ(_,(c,_)) (((_,(_,_)),_),_)=>(true,((.top,([⟨0,2,111,[AV.agg [AV.own 0 0 0 0,AV.osl 1 0 0 1]],false,false⟩,⟨0,1,5,[AV.int .u8 (Nr c)],false,true⟩]:List aC))))
def xpc:fP P0 xO6 96 (xpd):=rt λ b d h f e=>by obtain⟨_,⟨c,_⟩⟩:=b;obtain⟨⟨⟨_,⟨_,_⟩⟩,_⟩,_⟩:=d;obtain⟨g,a⟩:=Prod.mk.inj e;refine yn (p:=Ab.pin) (ym xOz (xOA P0 _) rfl xm7 rfl Tryz.func96 rfl (by kernel_rfl) xmE ((fL.get (xpe _) rfl).trans ?_));exact congrArg some a
def xMa:EO:=Mw.wM xpc
def WV{T:Type}(c:Int)(n:Nat)(a:LA)(δ:T)(κ:Nat×LA->T):T:=br (iH n a 1 1) (κ (n+1,a++[AV.int .u8 c])) δ
def GD(c:Int)(n:Nat)(a:LA):=WV c n a none some
def xMb:EO:=xMa.fM Tryz.func96 17 2 [] [] lk0 (u2 (sEq (dz 0 0 0 0)) (sEq (pInt .u8))) (q2 (fY 0 2 111 false false (q1 (gA (q2 (dz 0 0 0 0) (cJ 1 0 0))))) (qB 0 1 5 bG)) (λ(_,c,_) (((_,n,_),_),a,_) _=>WV c n a) (λ _ _ p=>(.top,([⟨0,2,111,[AV.agg [AV.own 0 0 0 0,AV.osl 1 1 0 p.1]],false,false⟩,bF 1 1 5 p.2]:List aC))) (0,[])
def Nk{T:Type}(c:Int)(n:Nat)(a:LA)(δ:T)(κ:Nat×LA->T):T:=br (iH n a 1 1) (κ (n+1,a++[AV.int .u8 c])) δ
def GE(c:Int)(n:Nat)(a:LA):=Nk c n a none some
def xMc:EO:=xMb.fM Tryz.func96 17 2 [] [] lk0 (u2 (sEq (dz 0 0 0 0)) (sEq (pInt .u8))) (q2 (fY 0 2 111 false false (q1 (gA (q2 (dz 0 0 0 0) (cJ 1 1 0))))) (qB 1 1 5 bG)) (λ(_,c,_) (((_,n,_),_),a,_) _=>Nk c n a) (λ _ _ p=>(.top,([⟨0,2,111,[AV.agg [AV.own 0 0 0 0,AV.osl 1 2 0 p.1]],false,false⟩,bF 2 1 5 p.2]:List aC))) (0,[])
def x6(a b:Int):Bool:=(br (decide (a>=0)) (br (decide (a<b)) ((decide (b<=1099511627776))) ((false))) ((false)))
def xzj{T:Type}(a b:Int)(δ:T)(κ:Bool->T):T:=br (decide (a>=0)) (br (decide (a<b)) (κ (decide (b<=1099511627776))) (κ (false))) (κ (false))
def Mx:EO:=xMc.fT Tryz.func111 18 0 [] [] lk0 (λ((a,b,_),_)=>xzj a b none) (u1 (fO (u2 uI uI))) (λ((a,b,_),_)=>x6 a b) (λ _ p=>(AV.bool p))
def Dn(b:Int)(a:LA):=((a.getD (0+b.toNat) .top).cells.getD 0 .top).toInt
def N6(d:Int)(c:Nat)(b a:LA):=((rH (Lib.itoa (Dn d b)) c a).getD (0,0,[])).snd
def N5(d:Int)(c:Nat)(b a:LA):=GE 32 (N6 d c b a).fst (N6 d c b a).snd
def N4(d:Int)(c:Nat)(b a:LA):=(N5 d c b a).getD (0,[])
def Hl{T:Type}(k:LA)(l j:Int)(e:Nat)(i c:Int)(d:Nat)(f g:Int)(h:List UInt8)(a b:LA)(δ:T)(κl:(Int×Nat×Int×Int×List UInt8×LA×LA)->T)(κr:(Nat×Int×Int×List UInt8×LA)->T):T:=br (decide (c<i)) (br (decide (0<=c)&&decide (c<(↑e:Int))) (br (decide (0+c.toNat<a.length)&&cX (Sh.int .i64) ((a.getD (0+c.toNat) .top).cells.getD 0 .top)) (br (decide ((-9223372036854775808)<=Dn c a)&&decide (Dn c a<=9223372036854775807)) (br ((rH (Lib.itoa (Dn c a)) d b).isSome) (br ((N5 c d a b).isSome) (κl (i64.wrap (c+1),(N4 c d a b).fst,f,g,h,a,(N4 c d a b).snd)) δ) δ) δ) δ) δ) (κr (d,f,g,h,b))
def sZ(k:LA)(l e:Int)(c:Nat)(f:Int):cS (Int×Nat×Int×Int×List UInt8×LA×LA) (Nat×Int×Int×List UInt8×LA):=λ(g,d,h,i,j,b,a)=>Hl k l e c f g d h i j b a none inL inR
def Hg:=Mx.l 37 0 [] [] Tryz.f141 1 lk0 [3,5,8,9,10,21,22,23] [3,5,8,9,10] [] (q8 (dz 0 0 0 0) (dz 1 0 0 0) (qL 3) qI qI (cJ 2 0 0) qI qI) (q4 (fY 0 2 111 false false (q1 (gA (q2 (dz 0 0 0 0) (cJ 3 0 0))))) (qB 0 3 87 (q1 (gA (q3 qI qI pStr)))) (qB 0 1 3 bG) (qB 0 1 5 bG)) (λ(_,_,k,m,e,c,f,g,_) (((_,d,_),_),((h,i,j,_),_),b,a,_)=>(sZ k m e c f,(g,d,h,i,j,b,a),λ p=>(.leaf (.exit 2) [AV.own 0 0 0 0,AV.own 1 0 0 0,AV.list 3 k,AV.int .i64 m,AV.int .i64 e] [⟨0,2,111,[AV.agg [AV.own 0 0 0 0,AV.osl 2 0 0 p.1]],false,false⟩,bF 0 3 87 [AV.agg [AV.int .i64 p.2.1,AV.int .i64 p.2.2.1,AV.str p.2.2.2.1]],bF 0 1 5 p.2.2.2.2]))) (0,0,0,[],[]) λ(_,_,k,m,e,c,f,_,_) _ (g,d,h,i,j,b,a)=>((((),(),k,m,e,c,f,g,()),((((),d,()),()),((h,i,j,()),()),b,a,())),Hl k m e c f g d h i j b a none)
def N3(b:LA)(e a:Int)(d:Nat)(c:LA):=aB (sZ b e a 3 3) (0,d,(gC b a 0).toInt,(gC b a 1).toInt,(gC b a 2).toStr,[AV.int .i64 (gC b a 0).toInt,AV.int .i64 (gC b a 1).toInt,AV.int .i64 (↑(gC b a 2).toStr.length:Int)],c)
def Hd(d:LA)(e c:Int)(b:Nat)(a:LA):=(N3 d e c b a).getD (0,0,0,[],[])
def N2(d:LA)(e c:Int)(b:Nat)(a:LA):=rH ((Hd d e c b a).snd.snd.snd).fst (Hd d e c b a).fst ((Hd d e c b a).snd.snd.snd).snd
def N1(d:LA)(e c:Int)(b:Nat)(a:LA):=((N2 d e c b a).getD (0,0,[])).snd
def Hk{T:Type}(d:LA)(e b:Int)(c:Nat)(a:LA)(δ:T)(κl:(Int×Nat×LA)->T)(κr:(Nat×LA)->T):T:=br (decide (b<e)) (br (bX d b) (br (jl d b 3 [Sh.int .i64,Sh.int .i64,Sh.str] 0) (br ((N3 d e b c a).isSome) (br ((N2 d e b c a).isSome) (κl (i64.wrap (b+1),(N1 d e b c a).fst,(N1 d e b c a).snd)) δ) δ) δ) δ) (κr (c,a))
def An(d:LA)(e:Int):cS (Int×Nat×LA) (Nat×LA):=λ(c,b,a)=>Hk d e c b a none inL inR
def XO:=Mx.l 37 0 [] [(6,Hg.lp)] Tryz.f141 0 (fh Hg.ok) [3,8,9,10] [3] [] (q4 (dz 0 0 0 0) (qL 3) qI qI) (q2 (fY 0 2 111 false false (q1 (gA (q2 (dz 0 0 0 0) (cJ 1 0 0))))) (qB 0 1 5 bG)) (λ(_,d,e,c,_) (((_,b,_),_),a,_)=>(An d e,(c,b,a),λ p=>(.leaf (.exit 0) [AV.own 0 0 0 0] [⟨0,2,111,[AV.agg [AV.own 0 0 0 0,AV.osl 1 0 0 p.1]],false,false⟩,bF 0 1 5 p.2]))) (0,[]) λ(_,d,e,_,_) _ (c,b,a)=>((((),d,e,c,()),((((),b,()),()),a,())),Hk d e c b a none)
def uy(a:LA):=((a.getD 0 .top).cells.getD 0 .top).toInt
def O4(a:LA):=GD 32 ((rI (Lib.itoa (uy a))).getD (0,0,[])).snd.fst ((rI (Lib.itoa (uy a))).getD (0,0,[])).snd.snd
def O3(a:LA):=(O4 a).getD (0,[])
def O2(a:LA):=aB (sZ a (↑a.length:Int) 0 3 3) (1,(O3 a).fst,uy a,((a.getD 0 .top).cells.getD 1 .top).toInt,((a.getD 0 .top).cells.getD 2 .top).toStr,[AV.int .i64 (uy a),AV.int .i64 ((a.getD 0 .top).cells.getD 1 .top).toInt,AV.int .i64 (↑((a.getD 0 .top).cells.getD 2 .top).toStr.length:Int)],(O3 a).snd)
def H9(a:LA):=(O2 a).getD (0,0,0,[],[])
def O1(a:LA):=rH ((H9 a).snd.snd.snd).fst (H9 a).fst ((H9 a).snd.snd.snd).snd
def O0(a:LA):=((O1 a).getD (0,0,[])).snd
def OZ(a:LA):=aB (An a (↑a.length:Int)) (1,(O0 a).fst,(O0 a).snd)
def Bq(a:LA):=(OZ a).getD (0,[])
def Pj{T:Type}(a:LA)(δ:T)(κ:List UInt8->T):T:=br (decide (0<(↑a.length:Int))) (br (decide (0<(↑a.length:Int))) (br (decide (0<a.length)&&((a.getD 0 .top).cells.length==3&&ef [Sh.int .i64,Sh.int .i64,Sh.str] (a.getD 0 .top).cells 0)) (br (decide ((-9223372036854775808)<=uy a)&&decide (uy a<=9223372036854775807)) (br ((rI (Lib.itoa (uy a))).isSome) (br ((O4 a).isSome) (br ((O2 a).isSome) (br ((O1 a).isSome) (br ((OZ a).isSome) (br (decide ((Bq a).fst=((Bq a).snd).length)&&isBytes ((Bq a).snd)&&decide (((Bq a).snd).length≠0)) (κ (strOf ((Bq a).snd))) δ) δ) δ) δ) δ) δ) δ) δ) δ) (κ ([]))
def EH(a:LA):=Pj a none some
def My:EO:=Mx.f Tryz.func141 37 0 [] [(6,Hg.lp),(3,XO.lp)] (lW (fp XO.ok (fp Hg.ok kU))) (u1 (uL 3)) (λ(a,_) _=>Pj a) (λ _ p=>AV.str p) []
def D3(b:Int)(a:LA):=((a.getD (0+b.toNat) .top).cells.getD 0 .top).toInt
def OX(d:Int)(c:Nat)(b a:LA):=((rH (Lib.itoa (D3 d b)) c a).getD (0,0,[])).snd
def OW(d:Int)(c:Nat)(b a:LA):=GE 32 (OX d c b a).fst (OX d c b a).snd
def OV(d:Int)(c:Nat)(b a:LA):=(OW d c b a).getD (0,[])
def IK{T:Type}(k:LA)(l j:Int)(e:Nat)(i c:Int)(d:Nat)(f g:Int)(h:List UInt8)(a b:LA)(δ:T)(κl:(Int×Nat×Int×Int×List UInt8×LA×LA)->T)(κr:(Nat×Int×Int×List UInt8×LA)->T):T:=br (decide (c<i)) (br (decide (0<=c)&&decide (c<(↑e:Int))) (br (decide (0+c.toNat<a.length)&&cX (Sh.int .i64) ((a.getD (0+c.toNat) .top).cells.getD 0 .top)) (br (decide ((-9223372036854775808)<=D3 c a)&&decide (D3 c a<=9223372036854775807)) (br ((rH (Lib.itoa (D3 c a)) d b).isSome) (br ((OW c d a b).isSome) (κl (i64.wrap (c+1),(OV c d a b).fst,f,g,h,a,(OV c d a b).snd)) δ) δ) δ) δ) δ) (κr (d,f,g,h,b))
def ta(k:LA)(l e:Int)(c:Nat)(f:Int):cS (Int×Nat×Int×Int×List UInt8×LA×LA) (Nat×Int×Int×List UInt8×LA):=λ(g,d,h,i,j,b,a)=>IK k l e c f g d h i j b a none inL inR
def H6:=My.l 37 0 [] [] Tryz.f62 1 lk0 [3,5,8,9,10,21,22,23] [3,5,8,9,10] [] (q8 (dz 0 0 0 0) (dz 1 0 0 0) (qL 3) qI qI (cJ 2 0 0) qI qI) (q4 (fY 0 2 111 false false (q1 (gA (q2 (dz 0 0 0 0) (cJ 3 0 0))))) (qB 0 3 87 (q1 (gA (q3 qI qI pStr)))) (qB 0 1 3 bG) (qB 0 1 5 bG)) (λ(_,_,k,m,e,c,f,g,_) (((_,d,_),_),((h,i,j,_),_),b,a,_)=>(ta k m e c f,(g,d,h,i,j,b,a),λ p=>(.leaf (.exit 2) [AV.own 0 0 0 0,AV.own 1 0 0 0,AV.list 3 k,AV.int .i64 m,AV.int .i64 e] [⟨0,2,111,[AV.agg [AV.own 0 0 0 0,AV.osl 2 0 0 p.1]],false,false⟩,bF 0 3 87 [AV.agg [AV.int .i64 p.2.1,AV.int .i64 p.2.2.1,AV.str p.2.2.2.1]],bF 0 1 5 p.2.2.2.2]))) (0,0,0,[],[]) λ(_,_,k,m,e,c,f,_,_) _ (g,d,h,i,j,b,a)=>((((),(),k,m,e,c,f,g,()),((((),d,()),()),((h,i,j,()),()),b,a,())),IK k m e c f g d h i j b a none)
def OU(b:LA)(e a:Int)(d:Nat)(c:LA):=aB (ta b e a 3 3) (0,d,(gC b a 0).toInt,(gC b a 1).toInt,(gC b a 2).toStr,[AV.int .i64 (gC b a 0).toInt,AV.int .i64 (gC b a 1).toInt,AV.int .i64 (↑(gC b a 2).toStr.length:Int)],c)
def H5(d:LA)(e c:Int)(b:Nat)(a:LA):=(OU d e c b a).getD (0,0,0,[],[])
def OT(d:LA)(e c:Int)(b:Nat)(a:LA):=rH ((H5 d e c b a).snd.snd.snd).fst (H5 d e c b a).fst ((H5 d e c b a).snd.snd.snd).snd
def OS(d:LA)(e c:Int)(b:Nat)(a:LA):=((OT d e c b a).getD (0,0,[])).snd
def IJ{T:Type}(d:LA)(e b:Int)(c:Nat)(a:LA)(δ:T)(κl:(Int×Nat×LA)->T)(κr:(Nat×LA)->T):T:=br (decide (b<e)) (br (bX d b) (br (jl d b 3 [Sh.int .i64,Sh.int .i64,Sh.str] 0) (br ((OU d e b c a).isSome) (br ((OT d e b c a).isSome) (κl (i64.wrap (b+1),(OS d e b c a).fst,(OS d e b c a).snd)) δ) δ) δ) δ) (κr (c,a))
def Bm(d:LA)(e:Int):cS (Int×Nat×LA) (Nat×LA):=λ(c,b,a)=>IJ d e c b a none inL inR
def Yp:=My.l 37 0 [] [(6,H6.lp)] Tryz.f62 0 (fh H6.ok) [3,8,9,10] [3] [] (q4 (dz 0 0 0 0) (qL 3) qI qI) (q2 (fY 0 2 111 false false (q1 (gA (q2 (dz 0 0 0 0) (cJ 1 0 0))))) (qB 0 1 5 bG)) (λ(_,d,e,c,_) (((_,b,_),_),a,_)=>(Bm d e,(c,b,a),λ p=>(.leaf (.exit 0) [AV.own 0 0 0 0] [⟨0,2,111,[AV.agg [AV.own 0 0 0 0,AV.osl 1 0 0 p.1]],false,false⟩,bF 0 1 5 p.2]))) (0,[]) λ(_,d,e,_,_) _ (c,b,a)=>((((),d,e,c,()),((((),b,()),()),a,())),IJ d e c b a none)
def uS(a:LA):=((a.getD 0 .top).cells.getD 0 .top).toInt
def P6(a:LA):=GD 32 ((rI (Lib.itoa (uS a))).getD (0,0,[])).snd.fst ((rI (Lib.itoa (uS a))).getD (0,0,[])).snd.snd
def P5(a:LA):=(P6 a).getD (0,[])
def P4(a:LA):=aB (ta a (↑a.length:Int) 0 3 3) (1,(P5 a).fst,uS a,((a.getD 0 .top).cells.getD 1 .top).toInt,((a.getD 0 .top).cells.getD 2 .top).toStr,[AV.int .i64 (uS a),AV.int .i64 ((a.getD 0 .top).cells.getD 1 .top).toInt,AV.int .i64 (↑((a.getD 0 .top).cells.getD 2 .top).toStr.length:Int)],(P5 a).snd)
def Jn(a:LA):=(P4 a).getD (0,0,0,[],[])
def P3(a:LA):=rH ((Jn a).snd.snd.snd).fst (Jn a).fst ((Jn a).snd.snd.snd).snd
def P2(a:LA):=((P3 a).getD (0,0,[])).snd
def P1(a:LA):=aB (Bm a (↑a.length:Int)) (1,(P2 a).fst,(P2 a).snd)
def BI(a:LA):=(P1 a).getD (0,[])
def Qy{T:Type}(a:LA)(δ:T)(κ:List UInt8->T):T:=br (decide (0<(↑a.length:Int))) (br (decide (0<(↑a.length:Int))) (br (decide (0<a.length)&&((a.getD 0 .top).cells.length==3&&ef [Sh.int .i64,Sh.int .i64,Sh.str] (a.getD 0 .top).cells 0)) (br (decide ((-9223372036854775808)<=uS a)&&decide (uS a<=9223372036854775807)) (br ((rI (Lib.itoa (uS a))).isSome) (br ((P6 a).isSome) (br ((P4 a).isSome) (br ((P3 a).isSome) (br ((P1 a).isSome) (br (decide ((BI a).fst=((BI a).snd).length)&&isBytes ((BI a).snd)&&decide (((BI a).snd).length≠0)) (κ (strOf ((BI a).snd))) δ) δ) δ) δ) δ) δ) δ) δ) δ) (κ ([]))
def iM(a:LA):=Qy a none some
def FK:EO:=My.f Tryz.func62 37 0 [] [(6,H6.lp),(3,Yp.lp)] (lW (fp Yp.ok (fp H6.ok kU))) (u1 (uL 3)) (λ(a,_) _=>Qy a) (λ _ p=>AV.str p) []
def rZ(x:Int):Bool:=((x !=x))
def xCy{T:Type}(x:Int)(δ:T)(κ:Bool->T):T:=κ (x !=x)
def xMd:EO:=FK.fT Tryz.func138 6 0 [] [] lk0 (λ(x,_)=>xCy x none) (u1 uI) (λ(x,_)=>rZ x) (λ _ p=>(AV.bool p))
def pF(x y:Int):Int:=(br (rZ x) (br (rZ y) ((0)) (((-1)))) (br (rZ y) ((1)) (br (decide (x<y)) (((-1))) (br (decide (x>y)) ((1)) ((0))))))
def xAt{T:Type}(x y:Int)(δ:T)(κ:Int->T):T:=br (rZ x) (br (rZ y) (κ (0)) (κ ((-1)))) (br (rZ y) (κ (1)) (br (decide (x<y)) (κ ((-1))) (br (decide (x>y)) (κ (1)) (κ (0)))))
def Mz:EO:=xMd.fT Tryz.func110 20 0 [] [] lk0 (λ(x,y,_)=>xAt x y none) (u2 uI uI) (λ(x,y,_)=>pF x y) (λ _ p=>(AV.int .i64 p))
def yk:dp:=Mz.E.fn 18 0 (eX []) (jL [])
def xA9:dA P0 (xO6.at 0) yk:=Mz.ok.fn
def xwT:dw P0 (xO6.at yk.pin) yk (Tryz.f109.body.getD .skip):=yu (ls:=[kL Tryz.f109 0]) Θ (fun l a lp b=>by
 simp only[zC,List.not_mem_nil,or_false]at a;rcases a with rfl
 . rw[show yk.lp (jp (kL Tryz.f109 0))=none by kernel_rfl]at b
   simp at b)
def yz(a b c:Int):Int:=(br (a !=0) ((a)) (br (b !=0) ((b)) (br (c !=0) ((c)) ((0)))))
def ZS(a b c:Int):Bool:=true
def TR{T:Type}(a b c:Int)(δ:T)(κ:Int->T):T:=br (a !=0) (κ (a)) (br (b !=0) (κ (b)) (br (c !=0) (κ (c)) (κ (0))))
def xHA(a b c:Int):fL (ZS a b c) (XF P0 yk Tryz.f109 (Tryz.f109.body.getD .skip) [AV.list 1 [AV.int .i64 a,AV.int .i64 b,AV.int .i64 c]]) (AV.int .i64 (yz a b c)):=by(have h:XF P0 yk Tryz.f109 (Tryz.f109.body.getD .skip) [AV.list 1 [AV.int .i64 a,AV.int .i64 b,AV.int .i64 c]]=TR a b c none (λ(p:Int)=>some ((AV.int .i64 p):AV)):=by kernel_rfl);rw[h];unfold yz ZS TR;repeat' (first|exact fL.none|exact fL.tt rfl|exact fL.some rfl|refine fL.l ?_|refine fL.r ?_|refine fL.br (f:=λ(p:Int)=>((AV.int .i64 p):AV)) ?_ ?_|refine fL.brt (f:=λ(p:Int)=>((AV.int .i64 p):AV)) ?_ ?_)
def xHz:LA->Option (Bool×AV):=kr (cY (mL 1 (bL (pInt .i64) (bL (pInt .i64) (bL (pInt .i64) bT)))) jj) λ((a,(b,(c,_))),_)=>(true,(AV.int .i64 (yz a b c)))
def xHy:iz P0 xO6 109 (xHz):=tK λ e h f=>by obtain⟨⟨a,⟨b,⟨c,_⟩⟩⟩,_⟩:=e;obtain⟨g,d⟩:=Prod.mk.inj f;refine yr (p:=yk.pin) (Ce xOz (xOA P0 _) rfl xA9 Tryz.func109 rfl (by kernel_rfl) xwT ((fL.get (xHA _ _ _) rfl).trans ?_));exact congrArg some d
def xMe:EO:=Mz.w xHy
def oC(a b:Int)(c:List UInt8)(d e:Int)(f:List UInt8):Int:=((yz (pF a d) (pF b e) (Lib.compareBytes c f)))
def xyV{T:Type}(a b:Int)(c:List UInt8)(d e:Int)(f:List UInt8)(δ:T)(κ:Int->T):T:=κ (yz (pF a d) (pF b e) (Lib.compareBytes c f))
def V7:EO:=xMe.fT Tryz.func173 22 0 [] [] lk0 (λ((a,b,c,_),(d,e,f,_),_)=>xyV a b c d e f none) (u2 (fO (u3 uI uI (sEq pStr))) (fO (u3 uI uI (sEq pStr)))) (λ((a,b,c,_),(d,e,f,_),_)=>oC a b c d e f) (λ _ p=>(AV.int .i64 p))
def Ae(c b:LA)(a:Int):=oC (gC b a 0).toInt (gC b a 1).toInt (gC b a 2).toStr (gC c a 0).toInt (gC c a 1).toInt (gC c a 2).toStr
def Ah{T:Type}(e c b:LA)(d a:Int)(δ:T)(κl:(Int)->T)(κr:(Bool×(Int)×(Unit))->T):T:=br (decide (a<d)) (br (bX b a) (br (jl b a 3 [Sh.int .i64,Sh.int .i64,Sh.str] 0) (br (decide (a>=c.length)) (κr (true,(1),())) (br (bX c a) (br (jl c a 3 [Sh.int .i64,Sh.int .i64,Sh.str] 0) (br (Ae c b a !=0) (κr (true,(Ae c b a),())) (κl (i64.wrap (a+1)))) δ) δ)) δ) δ) (κr (false,0,()))
def sS(d e a:LA)(b:Int):cS (Int) (Bool×(Int)×(Unit)):=λ(c)=>Ah d e a b c none inL inR
def Xi:=V7.l 39 0 [] [] Tryz.f172 0 lk0 [0,1,2,11,12,13] [0,1,6] [] (q6 (qL 3) (qL 3) (em 173 bT) (qL 3) qI qI) bT (λ(d,e,_,a,b,c,_) _=>(sS d e a b,(c),λ p=>(.node p.1 (.leaf .ret [AV.list 3 d,AV.list 3 e,AV.int .i64 p.2.1] []) (.leaf (.exit 0) [AV.list 3 d,AV.list 3 e,.top] [])))) (false,0,()) λ(d,e,_,a,b,_,_) _ (c)=>(((d,e,(),a,b,c,()),()),Ah d e a b c none)
def NI{T:Type}(a b:LA)(δ:T)(κ:Int->T):T:=br ((aB (sS a b a (↑a.length:Int)) 0).isSome) (br (((aB (sS a b a (↑a.length:Int)) 0).getD (false,0,())).fst) (κ (((aB (sS a b a (↑a.length:Int)) 0).getD (false,0,())).snd.fst)) (br (decide ((↑a.length:Int)<(↑b.length:Int))) (κ ((-1))) (κ (0)))) δ
def N7(a b:LA):=NI a b none some
def xMf:EO:=V7.f Tryz.func172 39 0 [] [(2,Xi.lp)] (fh Xi.ok) (u3 (uL 3) (uL 3) (sEq (em (173:FuncId) bT))) (λ(a,b,_,_) _=>NI a b) (λ _ p=>AV.int .i64 p) 0
def Pg{T:Type}(a b:LA)(δ:T)(κ:Int->T):T:=br ((N7 a b).isSome) (κ ((N7 a b).getD 0)) δ
def Jg(a b:LA):=Pg a b none some
def xMg:EO:=xMf.f Tryz.func144 8 0 [] [] lk0 (u2 (uL 3) (uL 3)) (λ(a,b,_) _=>Pg a b) (λ _ p=>AV.int .i64 p) 0
def OB{T:Type}(a c b d:LA)(δ:T)(κ:Int->T):T:=br ((Jg a b).isSome) (κ ((Jg a b).getD 0)) δ
def tc(c a d b:LA):=OB c a d b none some
def MA:EO:=xMg.f Tryz.func143 10 0 [] [] lk0 (u2 (fO (u2 (uL 3) (uL 2))) (fO (u2 (uL 3) (uL 2)))) (λ((c,a,_),(d,b,_),_) _=>OB c a d b) (λ _ p=>AV.int .i64 p) 0
def Nf(a:Nat)(j:Int):=decide (0<=i64.wrap (j - 1))&&decide (i64.wrap (j - 1)<(↑a:Int))
def Gi(j:Int):Nat:=0+(i64.wrap (j - 1)).toNat
def Ng(a:Nat)(j:Int):=decide (0<=j)&&decide (j<(↑a:Int))
def WJ(j:Int)(a:LA):=decide (0+j.toNat<a.length)
def WH(j:Int)(a:LA):=WJ j a&&((a.getD (0+j.toNat) .top).cells.length==2&&ef [Sh.list 3,Sh.list 2] (a.getD (0+j.toNat) .top).cells 0)
def yO(j:Int)(a:LA):=(a.getD (Gi j) .top).cells
def WF(j:Int)(a:LA):=decide (Gi j<a.length)&&((yO j a).length==2&&ef [Sh.list 3,Sh.list 2] (yO j a) 0)
def WG(j:Int)(a:LA):=tc ((a.getD (0+j.toNat) .top).cells.getD 0 .top).toList ((a.getD (0+j.toNat) .top).cells.getD 1 .top).toList ((yO j a).getD 0 .top).toList ((yO j a).getD 1 .top).toList
def WI(j:Int)(a:LA):=a.set (0+j.toNat) (AV.agg [AV.list 3 ((yO j a).getD 0 .top).toList,AV.list 2 ((yO j a).getD 1 .top).toList])
def WL{T:Type}(d:Nat)(a b i j:Int)(c:LA)(δ:T)(κl:(Int×LA)->T)(κr:(LA)->T):T:=br (decide (j>a)) (br (Ng d j) (br (WH j c) (br (Nf d j) (br (WF j c) (br ((WG j c).isSome) (br (decide ((WG j c).getD 0<0)) (br (Nf d j) (br (WF j c) (br (Ng d j) (br (WH j c) (br (Ng d j) (br (WJ j c) (br (Nf d j) (br (decide (Gi j<(WI j c).length)) (κl (i64.wrap (j - 1),(WI j c).set (Gi j) (AV.agg [AV.list 3 ((c.getD (0+j.toNat) .top).cells.getD 0 .top).toList,AV.list 2 ((c.getD (0+j.toNat) .top).cells.getD 1 .top).toList]))) δ) δ) δ) δ) δ) δ) δ) δ) (κr (c))) δ) δ) δ) δ) δ) (κr (c))
def Gc(d:Nat)(a b i:Int):cS (Int×LA) (LA):=λ(j,c)=>WL d a b i j c none inL inR
def Gh:=MA.l 53 1 [148] [] Tryz.f188 1 lk0 [0,1,2,3,8,9] [0,1,2,3,8] [] (q6 (cJ 0 0 0) qI qI (em 143 bT) qI qI) (q1 (qB 0 2 148 bG)) (λ(c,a,b,_,i,j,_) (d,_)=>(Gc c a b i,(j,d),λ p=>(.leaf (.exit 2) [AV.osl 0 0 0 c,AV.int .i64 a,AV.int .i64 b,AV.func 143 [],AV.int .i64 i] [bF 0 2 148 p]))) [] λ(c,a,b,_,i,_,_) _ (j,d)=>(((c,a,b,(),i,j,()),(d,())),WL c a b i j d none)
def WK{T:Type}(d:Nat)(a b i:Int)(c:LA)(δ:T)(κl:(Int×LA)->T)(κr:(LA)->T):T:=br (decide (i<b)) (br ((aB (Gc d a b i) (i,c)).isSome) (κl (i64.wrap (i+1),(aB (Gc d a b i) (i,c)).getD [])) δ) (κr (c))
def Gb(d:Nat)(a b:Int):cS (Int×LA) (LA):=λ(i,c)=>WK d a b i c none inL inR
def WM:=MA.l 53 1 [148] [(4,Gh.lp)] Tryz.f188 0 (fh Gh.ok) [0,1,2,3,8] [] [] (q5 (cJ 0 0 0) qI qI (em 143 bT) qI) (q1 (qB 0 2 148 bG)) (λ(d,a,b,_,i,_) (c,_)=>(Gb d a b,(i,c),λ p=>(.leaf (.exit 0) [] [bF 0 2 148 p]))) [] λ(d,a,b,_,_,_) _ (i,c)=>(((d,a,b,(),i,()),(c,())),WK d a b i c none)
def Na{T:Type}(n:Nat)(a b:Int)(c:LA)(δ:T)(κ:LA->T):T:=br ((aB (Gb n a b) (i64.wrap (a+1),c)).isSome) (κ ((aB (Gb n a b) (i64.wrap (a+1),c)).getD [])) δ
def yQ(n:Nat)(a b:Int)(c:LA):=Na n a b c none some
def V8:EO:=MA.fM Tryz.func188 53 1 [148] [(4,Gh.lp),(1,WM.lp)] (lW (fp WM.ok (fp Gh.ok kU))) (u4 (sEq (cJ 0 0 0)) uI uI (sEq (em (143:FuncId) bT))) (q1 (qB 0 2 148 bG)) (λ(n,a,b,_,_) (c,_) _=>Na n a b c) (λ _ _ p=>(AV.tuple [],([bF 0 2 148 p]:List aC))) []
def WP(a i:Int)(b:LA):=decide (0+(i64.wrap (a+i)).toNat<b.length)
def Gf(a i:Int)(b:LA):=(b.getD (0+(i64.wrap (a+i)).toNat) .top).cells
def WQ(b:Nat)(a i:Int):=decide (0<=i64.wrap (a+i))&&decide (i64.wrap (a+i)<(↑b:Int))
def WR(a:Nat)(b i:Int):=decide (0<=i64.wrap (b+i))&&decide (i64.wrap (b+i)<(↑a:Int))
def Gq(b i:Int):Nat:=0+(i64.wrap (b+i)).toNat
def Ge(b i:Int)(a:LA):=(a.getD (Gq b i) .top).cells
def WO(a b i:Int)(c:LA):=c.set (0+(i64.wrap (a+i)).toNat) (AV.agg [AV.list 3 ((Ge b i c).getD 0 .top).toList,AV.list 2 ((Ge b i c).getD 1 .top).toList])
def W3{T:Type}(d:Nat)(a b n i:Int)(c:LA)(δ:T)(κl:(Int×LA)->T)(κr:(LA)->T):T:=br (decide (i<n)) (br (WR d b i) (br (decide (Gq b i<c.length)&&((Ge b i c).length==2&&ef [Sh.list 3,Sh.list 2] (Ge b i c) 0)) (br (WQ d a i) (br (WP a i c&&((Gf a i c).length==2&&ef [Sh.list 3,Sh.list 2] (Gf a i c) 0)) (br (WQ d a i) (br (WP a i c) (br (WR d b i) (br (decide (Gq b i<(WO a b i c).length)) (κl (i64.wrap (i+1),(WO a b i c).set (Gq b i) (AV.agg [AV.list 3 ((Gf a i c).getD 0 .top).toList,AV.list 2 ((Gf a i c).getD 1 .top).toList]))) δ) δ) δ) δ) δ) δ) δ) δ) (κr (c))
def Gg(d:Nat)(a b n:Int):cS (Int×LA) (LA):=λ(i,c)=>W3 d a b n i c none inL inR
def WN:=V8.l 38 1 [148] [] Tryz.f213 0 lk0 [0,1,2,3,10] [] [] (q5 (cJ 0 0 0) qI qI qI qI) (q1 (qB 0 2 148 bG)) (λ(d,a,b,n,i,_) (c,_)=>(Gg d a b n,(i,c),λ p=>(.leaf (.exit 0) [] [bF 0 2 148 p]))) [] λ(d,a,b,n,_,_) _ (i,c)=>(((d,a,b,n,i,()),(c,())),W3 d a b n i c none)
def Nh{T:Type}(n:Nat)(a b k:Int)(c:LA)(δ:T)(κ:LA->T):T:=br ((aB (Gg n a b k) (0,c)).isSome) (κ ((aB (Gg n a b k) (0,c)).getD [])) δ
def up(n:Nat)(a b k:Int)(c:LA):=Nh n a b k c none some
def V9:EO:=V8.fM Tryz.func213 38 1 [148] [(1,WN.lp)] (fh WN.ok) (u5 (sEq (cJ 0 0 0)) uI uI uI (sEq (em (143:FuncId) bT))) (q1 (qB 0 2 148 bG)) (λ(n,a,b,k,_,_) (c,_) _=>Nh n a b k c) (λ _ _ p=>(AV.tuple [],([bF 0 2 148 p]:List aC))) []
def Xh{T:Type}(b:Nat)(m i j:Int)(a:LA)(δ:T)(κl:(Int×Int×LA)->T)(κr:(Int×LA)->T):T:=br (i !=j) (br (decide (i>j)) (br ((up b (i64.wrap (m - i)) m j a).isSome) (κl (i64.wrap (i - j),j,(up b (i64.wrap (m - i)) m j a).getD [])) δ) (br ((up b (i64.wrap (m - i)) (i64.wrap (i64.wrap (m+j) - i)) i a).isSome) (κl (i,i64.wrap (j - i),(up b (i64.wrap (m - i)) (i64.wrap (i64.wrap (m+j) - i)) i a).getD [])) δ)) (κr (i,a))
def Ni(b:Nat)(m:Int):cS (Int×Int×LA) (Int×LA):=λ(i,j,a)=>Xh b m i j a none inL inR
def Xf:=V9.l 58 1 [148] [] Tryz.f206 0 lk0 [0,2,4,10,11] [0,2,4,10] [] (q5 (cJ 0 0 0) qI (em 143 bT) qI qI) (q1 (qB 0 2 148 bG)) (λ(a,m,_,i,j,_) (b,_)=>(Ni a m,(i,j,b),λ p=>(.leaf (.exit 0) [AV.osl 0 0 0 a,AV.int .i64 m,AV.func 143 [],AV.int .i64 p.1] [bF 0 2 148 p.2]))) (0,[]) λ(a,m,_,_,_,_) _ (i,j,b)=>(((a,m,(),i,j,()),(b,())),Xh a m i j b none)
def Dj(n:Nat)(a m b:Int)(c:LA):=aB (Ni n m) (i64.wrap (m - a),i64.wrap (b - m),c)
def Nn(n:Nat)(a m b:Int)(c:LA):=up n (i64.wrap (m - (((Dj n a m b c).getD (0,[])).fst))) m (((Dj n a m b c).getD (0,[])).fst) ((Dj n a m b c).getD (0,[])).snd
def Nv{T:Type}(n:Nat)(a m b:Int)(c:LA)(δ:T)(κ:LA->T):T:=br ((Dj n a m b c).isSome) (br ((Nn n a m b c).isSome) (κ ((Nn n a m b c).getD [])) δ) δ
def xz(n:Nat)(a m b:Int)(c:LA):=Nv n a m b c none some
def tQ:EO:=V9.fM Tryz.func206 58 1 [148] [(2,Xf.lp)] (fh Xf.ok) (u5 (sEq (cJ 0 0 0)) uI uI uI (sEq (em (143:FuncId) bT))) (q1 (qB 0 2 148 bG)) (λ(n,a,m,b,_,_) (c,_) _=>Nv n a m b c) (λ _ _ p=>(AV.tuple [],([bF 0 2 148 p]:List aC))) []
def y8(i j:Int):=i64.wrap ((u64.wrap (i64.wrap (i+j))).fdiv 2)
def Gu(i j:Int)(a:LA):=(a.getD (0+(y8 i j).toNat) .top).cells
def W4(a i j:Int)(b:LA):=tc ((Gu i j b).getD 0 .top).toList ((Gu i j b).getD 1 .top).toList ((b.getD (0+a.toNat) .top).cells.getD 0 .top).toList ((b.getD (0+a.toNat) .top).cells.getD 1 .top).toList
def WY{T:Type}(c:Nat)(a i j:Int)(b:LA)(δ:T)(κl:(Int×Int×LA)->T)(κr:(Int×LA)->T):T:=br (decide (i<j)) (br (decide (0<=y8 i j)&&decide (y8 i j<(↑c:Int))) (br (decide (0+(y8 i j).toNat<b.length)&&((Gu i j b).length==2&&ef [Sh.list 3,Sh.list 2] (Gu i j b) 0)) (br (decide (0<=a)&&decide (a<(↑c:Int))) (br (decide (0+a.toNat<b.length)&&((b.getD (0+a.toNat) .top).cells.length==2&&ef [Sh.list 3,Sh.list 2] (b.getD (0+a.toNat) .top).cells 0)) (br ((W4 a i j b).isSome) (br (decide ((W4 a i j b).getD 0<0)) (κl (i64.wrap (y8 i j+1),j,b)) (κl (i,y8 i j,b))) δ) δ) δ) δ) δ) (κr (i,b))
def Dc(c:Nat)(a:Int):cS (Int×Int×LA) (Int×LA):=λ(i,j,b)=>WY c a i j b none inL inR
def wV:=tQ.l 220 1 [148] [] Tryz.f189 0 lk0 [0,1,4,10,11] [0,1,10] [] (q5 (cJ 0 0 0) qI (em 143 bT) qI qI) (q1 (qB 0 2 148 bG)) (λ(b,a,_,i,j,_) (c,_)=>(Dc b a,(i,j,c),λ p=>(.leaf (.exit 0) [AV.osl 0 0 0 b,AV.int .i64 a,AV.int .i64 p.1] [bF 0 2 148 p.2]))) (0,[]) λ(b,a,_,_,_,_) _ (i,j,c)=>(((b,a,(),i,j,()),(c,())),WY b a i j c none)
def W6(a:Nat)(k:Int):=decide (0<=i64.wrap (k+1))&&decide (i64.wrap (k+1)<(↑a:Int))
def Gw(k:Int):Nat:=0+(i64.wrap (k+1)).toNat
def W7(k:Int)(a:LA):=decide (0+k.toNat<a.length)
def Gv(k:Int)(a:LA):=(a.getD (Gw k) .top).cells
def W5(k:Int)(a:LA):=a.set (0+k.toNat) (AV.agg [AV.list 3 ((Gv k a).getD 0 .top).toList,AV.list 2 ((Gv k a).getD 1 .top).toList])
def WZ{T:Type}(b:Nat)(i k:Int)(a:LA)(δ:T)(κl:(Int×LA)->T)(κr:(LA)->T):T:=br (decide (k<i64.wrap (i - 1))) (br (W6 b k) (br (decide (Gw k<a.length)&&((Gv k a).length==2&&ef [Sh.list 3,Sh.list 2] (Gv k a) 0)) (br (decide (0<=k)&&decide (k<(↑b:Int))) (br (W7 k a&&((a.getD (0+k.toNat) .top).cells.length==2&&ef [Sh.list 3,Sh.list 2] (a.getD (0+k.toNat) .top).cells 0)) (br (decide (0<=k)&&decide (k<(↑b:Int))) (br (W7 k a) (br (W6 b k) (br (decide (Gw k<(W5 k a).length)) (κl (i64.wrap (k+1),(W5 k a).set (Gw k) (AV.agg [AV.list 3 ((a.getD (0+k.toNat) .top).cells.getD 0 .top).toList,AV.list 2 ((a.getD (0+k.toNat) .top).cells.getD 1 .top).toList]))) δ) δ) δ) δ) δ) δ) δ) δ) (κr (a))
def Nb(b:Nat)(i:Int):cS (Int×LA) (LA):=λ(k,a)=>WZ b i k a none inL inR
def y9:=tQ.l 220 1 [148] [(3,wV.lp)] Tryz.f189 1 lk0 [0,10,13] [] [] (q3 (cJ 0 0 0) qI qI) (q1 (qB 0 2 148 bG)) (λ(b,i,k,_) (a,_)=>(Nb b i,(k,a),λ p=>(.leaf (.exit 2) [] [bF 0 2 148 p]))) [] λ(b,i,_,_) _ (k,a)=>(((b,i,k,()),(a,())),WZ b i k a none)
def Aa(i j:Int):=i64.wrap ((u64.wrap (i64.wrap (i+j))).fdiv 2)
def Gj(i j:Int)(a:LA):=(a.getD (0+(Aa i j).toNat) .top).cells
def W8(m i j:Int)(a:LA):=tc ((a.getD (0+m.toNat) .top).cells.getD 0 .top).toList ((a.getD (0+m.toNat) .top).cells.getD 1 .top).toList ((Gj i j a).getD 0 .top).toList ((Gj i j a).getD 1 .top).toList
def W0{T:Type}(b:Nat)(m i j:Int)(a:LA)(δ:T)(κl:(Int×Int×LA)->T)(κr:(Int×LA)->T):T:=br (decide (i<j)) (br (decide (0<=m)&&decide (m<(↑b:Int))) (br (decide (0+m.toNat<a.length)&&((a.getD (0+m.toNat) .top).cells.length==2&&ef [Sh.list 3,Sh.list 2] (a.getD (0+m.toNat) .top).cells 0)) (br (decide (0<=Aa i j)&&decide (Aa i j<(↑b:Int))) (br (decide (0+(Aa i j).toNat<a.length)&&((Gj i j a).length==2&&ef [Sh.list 3,Sh.list 2] (Gj i j a) 0)) (br ((W8 m i j a).isSome) (br (!decide ((W8 m i j a).getD 0<0)) (κl (i64.wrap (Aa i j+1),j,a)) (κl (i,Aa i j,a))) δ) δ) δ) δ) δ) (κr (i,a))
def Dd(b:Nat)(m:Int):cS (Int×Int×LA) (Int×LA):=λ(i,j,a)=>W0 b m i j a none inL inR
def Dg:=tQ.l 220 1 [148] [(3,wV.lp),(9,y9.lp)] Tryz.f189 2 lk0 [0,2,4,14,15] [0,2,14] [] (q5 (cJ 0 0 0) qI (em 143 bT) qI qI) (q1 (qB 0 2 148 bG)) (λ(a,m,_,i,j,_) (b,_)=>(Dd a m,(i,j,b),λ p=>(.leaf (.exit 4) [AV.osl 0 0 0 a,AV.int .i64 m,AV.int .i64 p.1] [bF 0 2 148 p.2]))) (0,[]) λ(a,m,_,_,_,_) _ (i,j,b)=>(((a,m,(),i,j,()),(b,())),W0 a m i j b none)
def Xb(a:Nat)(k:Int):=decide (0<=i64.wrap (k - 1))&&decide (i64.wrap (k - 1)<(↑a:Int))
def Gm(k:Int):Nat:=0+(i64.wrap (k - 1)).toNat
def Xc(k:Int)(a:LA):=decide (0+k.toNat<a.length)
def Gl(k:Int)(a:LA):=(a.getD (Gm k) .top).cells
def W9(k:Int)(a:LA):=a.set (0+k.toNat) (AV.agg [AV.list 3 ((Gl k a).getD 0 .top).toList,AV.list 2 ((Gl k a).getD 1 .top).toList])
def W1{T:Type}(b:Nat)(i k:Int)(a:LA)(δ:T)(κl:(Int×LA)->T)(κr:(LA)->T):T:=br (decide (k>i)) (br (Xb b k) (br (decide (Gm k<a.length)&&((Gl k a).length==2&&ef [Sh.list 3,Sh.list 2] (Gl k a) 0)) (br (decide (0<=k)&&decide (k<(↑b:Int))) (br (Xc k a&&((a.getD (0+k.toNat) .top).cells.length==2&&ef [Sh.list 3,Sh.list 2] (a.getD (0+k.toNat) .top).cells 0)) (br (decide (0<=k)&&decide (k<(↑b:Int))) (br (Xc k a) (br (Xb b k) (br (decide (Gm k<(W9 k a).length)) (κl (i64.wrap (k - 1),(W9 k a).set (Gm k) (AV.agg [AV.list 3 ((a.getD (0+k.toNat) .top).cells.getD 0 .top).toList,AV.list 2 ((a.getD (0+k.toNat) .top).cells.getD 1 .top).toList]))) δ) δ) δ) δ) δ) δ) δ) δ) (κr (a))
def Nc(b:Nat)(i:Int):cS (Int×LA) (LA):=λ(k,a)=>W1 b i k a none inL inR
def Gk:=tQ.l 220 1 [148] [(3,wV.lp),(9,y9.lp),(15,Dg.lp)] Tryz.f189 3 lk0 [0,14,17] [] [] (q3 (cJ 0 0 0) qI qI) (q1 (qB 0 2 148 bG)) (λ(b,i,k,_) (a,_)=>(Nc b i,(k,a),λ p=>(.leaf (.exit 6) [] [bF 0 2 148 p]))) [] λ(b,i,_,_) _ (k,a)=>(((b,i,k,()),(a,())),W1 b i k a none)
def rG(a r:Int):=i64.wrap ((u64.wrap (i64.wrap (a+r))).fdiv 2)
def Gn(c b r:Int)(a:LA):=(a.getD (0+(i64.wrap (c - rG b r)).toNat) .top).cells
def Gp(b r:Int)(a:LA):=(a.getD (0+(rG b r).toNat) .top).cells
def WU(c b r:Int)(a:LA):=tc ((Gn c b r a).getD 0 .top).toList ((Gn c b r a).getD 1 .top).toList ((Gp b r a).getD 0 .top).toList ((Gp b r a).getD 1 .top).toList
def Xa{T:Type}(e:Nat)(a m b g n f c r:Int)(d:LA)(δ:T)(κl:(Int×Int×LA)->T)(κr:(Int×LA)->T):T:=br (decide (c<r)) (br (decide (0<=i64.wrap (f - rG c r))&&decide (i64.wrap (f - rG c r)<(↑e:Int))) (br (decide (0+(i64.wrap (f - rG c r)).toNat<d.length)&&((Gn f c r d).length==2&&ef [Sh.list 3,Sh.list 2] (Gn f c r d) 0)) (br (decide (0<=rG c r)&&decide (rG c r<(↑e:Int))) (br (decide (0+(rG c r).toNat<d.length)&&((Gp c r d).length==2&&ef [Sh.list 3,Sh.list 2] (Gp c r d) 0)) (br ((WU f c r d).isSome) (br (!decide ((WU f c r d).getD 0<0)) (κl (i64.wrap (rG c r+1),r,d)) (κl (c,rG c r,d))) δ) δ) δ) δ) δ) (κr (c,d))
def Gd(d:Nat)(a m b f n g:Int):cS (Int×Int×LA) (Int×LA):=λ(e,r,c)=>Xa d a m b f n g e r c none inL inR
def Nj:=tQ.l 220 1 [148] [(3,wV.lp),(9,y9.lp),(15,Dg.lp),(21,Gk.lp)] Tryz.f189 4 lk0 [0,1,2,3,4,18,19,20,21,22] [0,1,2,3,4,18,19,20] [] (F2 (cJ 0 0 0) qI qI qI (em 143 bT) qI qI qI qI qI) (q1 (qB 0 2 148 bG)) (λ(c,a,m,b,_,f,n,e,r,g,_) (d,_)=>(Gd c a m b f n g,(e,r,d),λ p=>(.leaf (.exit 8) [AV.osl 0 0 0 c,AV.int .i64 a,AV.int .i64 m,AV.int .i64 b,AV.func 143 [],AV.int .i64 f,AV.int .i64 n,AV.int .i64 p.1] [bF 0 2 148 p.2]))) (0,[]) λ(c,a,m,b,_,f,n,_,_,g,_) _ (e,r,d)=>(((c,a,m,b,(),f,n,e,r,g,()),(d,())),Xa c a m b f n g e r d none)
def Nl(R:Nat->Int->Int->Int->LA->Option (LA)):LA->List aC->Option (Bool×AV×List aC):=ju (cY (sEq (cJ 0 0 0)) (cY (sEq (pInt .i64)) (cY (sEq (pInt .i64)) (cY (sEq (pInt .i64)) (cY (sEq (em (143:FuncId) bT)) jj))))) (bL (fY 0 2 (148:TypeId) false true bG) bT) λ(n,(a,(m,(b,(_,_))))) (c,_)=>((R n a m b c).isSome,(AV.tuple [],([⟨0,2,148,((R n a m b c).getD []),false,true⟩]:List aC)))
def Gt(R:Nat->Int->Int->Int->LA->Option (LA)):Prop:=fP P0 xO6 189 (Nl R)
def qP(R:Nat->Int->Int->Int->LA->Option (LA)):dp:=(tQ.E.withM 189 (Nl R)).fn 220 1 (eX [148]) (jL [(3,wV.lp),(9,y9.lp),(15,Dg.lp),(21,Gk.lp),(33,Nj.lp)])
def xox(R:Nat->Int->Int->Int->LA->Option (LA))(a:Gt R):dA P0 (xO6.at 1) (qP R):=(tQ.ok.withM a).fn
def xm3 (R:Nat->Int->Int->Int->LA->Option (LA)) (c:Gt R):dw P0 (xO6.at (qP R).pin) (qP R) (Tryz.f189.body.getD .skip):=yu (ls:=[kL Tryz.f189 0,kL Tryz.f189 1,kL Tryz.f189 2,kL Tryz.f189 3,kL Tryz.f189 4]) Θ (fun l b lp a=>by
 simp only[zC,List.not_mem_nil,or_false]at b;rcases b with rfl|rfl|rfl|rfl|rfl
 . rw[show (qP R).lp (jp (kL Tryz.f189 0))=some (wV.lp) by kernel_rfl]at a
   simp only[z6]at a;subst a;exact wV.ok
 . rw[show (qP R).lp (jp (kL Tryz.f189 1))=some (y9.lp) by kernel_rfl]at a
   simp only[z6]at a;subst a;exact y9.ok
 . rw[show (qP R).lp (jp (kL Tryz.f189 2))=some (Dg.lp) by kernel_rfl]at a
   simp only[z6]at a;subst a;exact Dg.ok
 . rw[show (qP R).lp (jp (kL Tryz.f189 3))=some (Gk.lp) by kernel_rfl]at a
   simp only[z6]at a;subst a;exact Gk.ok
 . rw[show (qP R).lp (jp (kL Tryz.f189 4))=some (Nj.lp) by kernel_rfl]at a
   simp only [z6] at a;subst a;exact Nj.ok)
def eK(a b:Int):=i64.wrap ((u64.wrap (i64.wrap (a+b))).fdiv 2)
def yX(n:Nat)(a m:Int)(b:LA):=aB (Nc n ((aB (Dd n m) (a,m,b)).getD (0,[])).fst) (m,((aB (Dd n m) (a,m,b)).getD (0,[])).snd)
def yY(n:Nat)(a m b:Int)(c:LA):=aB (Nb n ((aB (Dc n a) (m,b,c)).getD (0,[])).fst) (a,((aB (Dc n a) (m,b,c)).getD (0,[])).snd)
def xg(n:Nat)(a m b:Int)(c:LA):=aB (Gd n a m b (eK a b) (i64.wrap (eK a b+m)) (i64.wrap (i64.wrap (eK a b+m) - 1))) (i64.wrap (i64.wrap (eK a b+m) - b),eK a b,c)
def xh(n:Nat)(a m b:Int)(c:LA):=aB (Gd n a m b (eK a b) (i64.wrap (eK a b+m)) (i64.wrap (i64.wrap (eK a b+m) - 1))) (a,m,c)
def lL(n:Nat)(a m b:Int)(c:LA):=((xg n a m b c).getD (0,[])).fst
def lM(n:Nat)(a m b:Int)(c:LA):=((xh n a m b c).getD (0,[])).fst
def nP(n:Nat)(a m b:Int)(c:LA):=((xg n a m b c).getD (0,[])).snd
def nQ(n:Nat)(a m b:Int)(c:LA):=((xh n a m b c).getD (0,[])).snd
def mU(n:Nat)(a m b:Int)(c:LA):=i64.wrap (i64.wrap (eK a b+m) - lL n a m b c)
def mV(n:Nat)(a m b:Int)(c:LA):=i64.wrap (i64.wrap (eK a b+m) - lM n a m b c)
def yT(n:Nat)(a m b:Int)(c:LA):=decide (lL n a m b c<eK a b)
def yU(n:Nat)(a m b:Int)(c:LA):=decide (a<lL n a m b c)
def yV(n:Nat)(a m b:Int)(c:LA):=decide (lM n a m b c<eK a b)
def yW(n:Nat)(a m b:Int)(c:LA):=decide (a<lM n a m b c)
def um(n:Nat)(a m b:Int)(c:LA):=decide (eK a b<mU n a m b c)
def ui(n:Nat)(a m b:Int)(c:LA):=decide (mU n a m b c<b)
def uj(n:Nat)(a m b:Int)(c:LA):=decide (eK a b<mV n a m b c)
def uk(n:Nat)(a m b:Int)(c:LA):=decide (mV n a m b c<b)
def pC(n:Nat)(a m b:Int)(c:LA):=(xz n (lL n a m b c) m (mU n a m b c) (nP n a m b c)).getD []
def pD(n:Nat)(a m b:Int)(c:LA):=(xz n (lM n a m b c) m (mV n a m b c) (nQ n a m b c)).getD []
def yZ(R:Nat->Int->Int->Int->LA->Option (LA))(n:Nat)(a m b:Int)(c:LA):Option (LA):=R n (eK a b) (mV n a m b c) b ((R n a (lM n a m b c) (eK a b) (pD n a m b c)).getD [])
def y7(R:Nat->Int->Int->Int->LA->Option (LA))(n:Nat)(a m b:Int)(c:LA):Option (LA):=R n (eK a b) (mU n a m b c) b ((R n a (lL n a m b c) (eK a b) (pC n a m b c)).getD [])
def xc{T:Type}(R:Nat->Int->Int->Int->LA->Option (LA))(n:Nat)(a m b:Int)(c:LA)(δ:T)(κ:LA->T):T:=br (um n a m b c) (br (ui n a m b c) (br ((R n (eK a b) (mU n a m b c) b (pC n a m b c)).isSome) (κ ((R n (eK a b) (mU n a m b c) b (pC n a m b c)).getD [])) δ) (κ (pC n a m b c))) (κ (pC n a m b c))
def xd{T:Type}(R:Nat->Int->Int->Int->LA->Option (LA))(n:Nat)(a m b:Int)(c:LA)(δ:T)(κ:LA->T):T:=br (uj n a m b c) (br (uk n a m b c) (br ((R n (eK a b) (mV n a m b c) b (pD n a m b c)).isSome) (κ ((R n (eK a b) (mV n a m b c) b (pD n a m b c)).getD [])) δ) (κ (pD n a m b c))) (κ (pD n a m b c))
def xe{T:Type}(R:Nat->Int->Int->Int->LA->Option (LA))(n:Nat)(a m b:Int)(c:LA)(δ:T)(κ:LA->T):T:=br (um n a m b c) (br (ui n a m b c) (br ((R n (eK a b) (mU n a m b c) b (nP n a m b c)).isSome) (κ ((R n (eK a b) (mU n a m b c) b (nP n a m b c)).getD [])) δ) (κ (nP n a m b c))) (κ (nP n a m b c))
def wY{T:Type}(R:Nat->Int->Int->Int->LA->Option (LA))(n:Nat)(a m b:Int)(c:LA)(δ:T)(κ:LA->T):T:=br (yU n a m b c) (br (yT n a m b c) (br ((R n a (lL n a m b c) (eK a b) (nP n a m b c)).isSome) (br (um n a m b c) (br (ui n a m b c) (br ((R n (eK a b) (mU n a m b c) b ((R n a (lL n a m b c) (eK a b) (nP n a m b c)).getD [])).isSome) (κ ((R n (eK a b) (mU n a m b c) b ((R n a (lL n a m b c) (eK a b) (nP n a m b c)).getD [])).getD [])) δ) (κ ((R n a (lL n a m b c) (eK a b) (nP n a m b c)).getD []))) (κ ((R n a (lL n a m b c) (eK a b) (nP n a m b c)).getD []))) δ) (xe R n a m b c δ κ)) (xe R n a m b c δ κ)
def xf{T:Type}(R:Nat->Int->Int->Int->LA->Option (LA))(n:Nat)(a m b:Int)(c:LA)(δ:T)(κ:LA->T):T:=br (uj n a m b c) (br (uk n a m b c) (br ((R n (eK a b) (mV n a m b c) b (nQ n a m b c)).isSome) (κ ((R n (eK a b) (mV n a m b c) b (nQ n a m b c)).getD [])) δ) (κ (nQ n a m b c))) (κ (nQ n a m b c))
def wZ{T:Type}(R:Nat->Int->Int->Int->LA->Option (LA))(n:Nat)(a m b:Int)(c:LA)(δ:T)(κ:LA->T):T:=br (yW n a m b c) (br (yV n a m b c) (br ((R n a (lM n a m b c) (eK a b) (nQ n a m b c)).isSome) (br (uj n a m b c) (br (uk n a m b c) (br ((R n (eK a b) (mV n a m b c) b ((R n a (lM n a m b c) (eK a b) (nQ n a m b c)).getD [])).isSome) (κ ((R n (eK a b) (mV n a m b c) b ((R n a (lM n a m b c) (eK a b) (nQ n a m b c)).getD [])).getD [])) δ) (κ ((R n a (lM n a m b c) (eK a b) (nQ n a m b c)).getD []))) (κ ((R n a (lM n a m b c) (eK a b) (nQ n a m b c)).getD []))) δ) (xf R n a m b c δ κ)) (xf R n a m b c δ κ)
def wX{T:Type}(R:Nat->Int->Int->Int->LA->Option (LA))(n:Nat)(a m b:Int)(c:LA)(δ:T)(κ:LA->T):T:=br (i64.wrap (m - a)==1) (br ((aB (Dc n a) (m,b,c)).isSome) (br ((yY n a m b c).isSome) (κ ((yY n a m b c).getD [])) δ) δ) (br (i64.wrap (b - m)==1) (br ((aB (Dd n m) (a,m,c)).isSome) (br ((yX n a m c).isSome) (κ ((yX n a m c).getD [])) δ) δ) (br (decide (m>eK a b)) (br ((xg n a m b c).isSome) (br (decide (lL n a m b c<m)) (br (decide (m<mU n a m b c)) (br ((xz n (lL n a m b c) m (mU n a m b c) (nP n a m b c)).isSome) (br (yU n a m b c) (br (yT n a m b c) (br ((R n a (lL n a m b c) (eK a b) (pC n a m b c)).isSome) (br (um n a m b c) (br (ui n a m b c) (br ((y7 R n a m b c).isSome) (κ ((y7 R n a m b c).getD [])) δ) (κ ((R n a (lL n a m b c) (eK a b) (pC n a m b c)).getD []))) (κ ((R n a (lL n a m b c) (eK a b) (pC n a m b c)).getD []))) δ) (xc R n a m b c δ κ)) (xc R n a m b c δ κ)) δ) (wY R n a m b c δ κ)) (wY R n a m b c δ κ)) δ) (br ((xh n a m b c).isSome) (br (decide (lM n a m b c<m)) (br (decide (m<mV n a m b c)) (br ((xz n (lM n a m b c) m (mV n a m b c) (nQ n a m b c)).isSome) (br (yW n a m b c) (br (yV n a m b c) (br ((R n a (lM n a m b c) (eK a b) (pD n a m b c)).isSome) (br (uj n a m b c) (br (uk n a m b c) (br ((yZ R n a m b c).isSome) (κ ((yZ R n a m b c).getD [])) δ) (κ ((R n a (lM n a m b c) (eK a b) (pD n a m b c)).getD []))) (κ ((R n a (lM n a m b c) (eK a b) (pD n a m b c)).getD []))) δ) (xd R n a m b c δ κ)) (xd R n a m b c δ κ)) δ) (wZ R n a m b c δ κ)) (wZ R n a m b c δ κ)) δ)))
def rJ(R:Nat->Int->Int->Int->LA->Option (LA))(n:Nat)(a m b:Int)(c:LA):=wX R n a m b c none some
def xqF(R:Nat->Int->Int->Int->LA->Option (LA))(n:Nat)(a m b:Int)(xs:LA):dQ (λ(p:LA)=>(((AV.tuple [],([⟨0,2,148,p,false,true⟩]:List aC))):(AV×List aC))) (rJ R n a m b xs) (mQ P0 (qP R) Tryz.f189 (Tryz.f189.body.getD .skip) [AV.osl (0:Id) 0 0 n,AV.int .i64 a,AV.int .i64 m,AV.int .i64 b,AV.func (143:FuncId) []] [{ver:=0,sz:=2,ty:=(148:TypeId),xs:=xs,frz:=false,pm:=true}]):=by(have h:mQ P0 (qP R) Tryz.f189 (Tryz.f189.body.getD .skip) [AV.osl (0:Id) 0 0 n,AV.int .i64 a,AV.int .i64 m,AV.int .i64 b,AV.func (143:FuncId) []] [{ver:=0,sz:=2,ty:=(148:TypeId),xs:=xs,frz:=false,pm:=true}]=wX R n a m b xs none (λ(p:LA)=>some (((AV.tuple [],([⟨0,2,148,p,false,true⟩]:List aC))):(AV×List aC))):=by kernel_rfl);rw[h];unfold rJ wX wY wZ xc xd xe xf;repeat' (first|refine dQ.br ?_ ?_|exact dQ.none|exact dQ.some rfl)
def xqE(R:Nat->Int->Int->Int->LA->Option (LA)):LA->List aC->Option (Bool×AV×List aC):=ju (cY (sEq (cJ 0 0 0)) (cY (sEq (pInt .i64)) (cY (sEq (pInt .i64)) (cY (sEq (pInt .i64)) (cY (sEq (em (143:FuncId) bT)) jj))))) (bL (fY 0 2 (148:TypeId) false true bG) bT) λ(n,(a,(m,(b,(_,_))))) (c,_)=>((rJ R n a m b c).isSome,((AV.tuple [],([⟨0,2,148,((rJ R n a m b c).getD []),false,true⟩]:List aC))))
def xqD(R:Nat->Int->Int->Int->LA->Option (LA))(c:Gt R):fP P0 xO6 189 (xqE R):=rt λ g h k j i=>by obtain⟨n,⟨a,⟨m,⟨b,⟨_,_⟩⟩⟩⟩⟩:=g;obtain⟨l,_⟩:=h;obtain⟨e,f⟩:=Prod.mk.inj i;refine yn (p:=(qP R).pin) (ym xOz (xOA P0 _) rfl (xox R c) rfl Tryz.func189 rfl Θ (xm3 R c) ((xqF R _ _ _ _ _ _ (qS (d:=[]) e)).trans ?_));exact congrArg some f
def pA:Nat->Nat->Int->Int->Int->LA->Option (LA)|0=>λ _ _ _ _ _=>none|fu_+1=>λ n a m b c=>rJ (pA fu_) n a m b c
def WX:∀n,Gt (pA n)|0=>rt λ _ _ _ _ h=>absurd (Prod.mk.inj h).1 Bool.false_ne_true|fu_+1=>λ a H r b h=>xqD (pA fu_) (WX fu_) a H r b h
def Wa:dp:=tQ.E.withM 189 (Nl (pA 1000))
def xHi:dA P0 xO6 Wa:=tQ.ok.withM (WX _)
def Kn:EO:=EO.mk Wa xHi
def Xd{T:Type}(d:Nat)(n e a b:Int)(c:LA)(δ:T)(κl:(Int×Int×LA)->T)(κr:(Int×LA)->T):T:=br (decide (b<=n)) (br ((yQ d a b c).isSome) (κl (b,i64.wrap (b+e),(yQ d a b c).getD [])) δ) (κr (a,c))
def Df(e:Nat)(n c:Int):cS (Int×Int×LA) (Int×LA):=λ(a,b,d)=>Xd e n c a b d none inL inR
def Gy:=Kn.l 63 1 [148] [] Tryz.f171 0 lk0 [0,1,2,6,7,8] [0,1,2,6,7] [] (q6 (cJ 0 0 0) qI (em 143 bT) qI qI qI) (q1 (qB 0 2 148 bG)) (λ(d,n,_,c,a,b,_) (e,_)=>(Df d n c,(a,b,e),λ p=>(.leaf (.exit 0) [AV.osl 0 0 0 d,AV.int .i64 n,AV.func 143 [],AV.int .i64 c,AV.int .i64 p.1] [bF 0 2 148 p.2]))) (0,[]) λ(d,n,_,c,_,_,_) _ (a,b,e)=>(((d,n,(),c,a,b,()),(e,())),Xd d n c a b e none)
def Xe{T:Type}(e:Nat)(n c a b:Int)(d:LA)(δ:T)(κl:(Int×Int×LA)->T)(κr:(Int×LA)->T):T:=br (decide (b<=n)) (br ((pA 1000 e a (i64.wrap (a+c)) b d).isSome) (κl (b,i64.wrap (b+i64.wrap (2*c)),(pA 1000 e a (i64.wrap (a+c)) b d).getD [])) δ) (κr (a,d))
def Gs(e:Nat)(n c:Int):cS (Int×Int×LA) (Int×LA):=λ(a,b,d)=>Xe e n c a b d none inL inR
def GC:=Kn.l 63 1 [148] [(2,Gy.lp)] Tryz.f171 2 lk0 [0,1,2,6,7,8] [0,1,2,6,7] [] (q6 (cJ 0 0 0) qI (em 143 bT) qI qI qI) (q1 (qB 0 2 148 bG)) (λ(d,n,_,c,a,b,_) (e,_)=>(Gs d n c,(a,b,e),λ p=>(.leaf (.exit 4) [AV.osl 0 0 0 d,AV.int .i64 n,AV.func 143 [],AV.int .i64 c,AV.int .i64 p.1] [bF 0 2 148 p.2]))) (0,[]) λ(d,n,_,c,_,_,_) _ (a,b,e)=>(((d,n,(),c,a,b,()),(e,())),Xe d n c a b e none)
def GB(c:Nat)(n a:Int)(b:LA):=aB (Gs c n a) (0,i64.wrap (2*a),b)
def yS(c:Nat)(n a:Int)(b:LA):=(GB c n a b).getD (0,[])
def GA(c:Nat)(n a:Int)(b:LA):=i64.wrap (((yS c n a b).fst)+a)
def Gz(b:Nat)(n a:Int)(c:LA):=pA 1000 b ((yS b n a c).fst) (GA b n a c) n ((yS b n a c).snd)
def De{T:Type}(c:Nat)(n a:Int)(b:LA)(δ:T)(κl:(Int×LA)->T)(κr:(LA)->T):T:=br (decide (a<n)) (br ((GB c n a b).isSome) (br (decide (GA c n a b<n)) (br ((Gz c n a b).isSome) (κl (i64.wrap (a*2),(Gz c n a b).getD [])) δ) (κl (i64.wrap (a*2),((yS c n a b).snd)))) δ) (κr (b))
def wU(c:Nat)(n:Int):cS (Int×LA) (LA):=λ(a,b)=>De c n a b none inL inR
def Xg:=Kn.l 63 1 [148] [(2,Gy.lp),(9,GC.lp)] Tryz.f171 1 (fh GC.ok) [0,1,2,6] [] [] (q4 (cJ 0 0 0) qI (em 143 bT) qI) (q1 (qB 0 2 148 bG)) (λ(c,n,_,a,_) (b,_)=>(wU c n,(a,b),λ p=>(.leaf (.exit 2) [] [bF 0 2 148 p]))) [] λ(c,n,_,_,_) _ (a,b)=>(((c,n,(),a,()),(b,())),De c n a b none)
def Nq(n:Nat)(k:Int)(a:LA):=(aB (Df n k 20) (0,20,a)).getD (0,[])
def Np(n:Nat)(k:Int)(a:LA):=yQ n (Nq n k a).fst k (Nq n k a).snd
def No(n:Nat)(k:Int)(a:LA):=aB (wU n k) (20,(Np n k a).getD [])
def Nw{T:Type}(n:Nat)(k:Int)(a:LA)(δ:T)(κ:LA->T):T:=br ((aB (Df n k 20) (0,20,a)).isSome) (br ((Np n k a).isSome) (br ((No n k a).isSome) (κ ((No n k a).getD [])) δ) δ) δ
def GH(n:Nat)(k:Int)(a:LA):=Nw n k a none some
def xMh:EO:=Kn.fM Tryz.func171 63 1 [148] [(2,Gy.lp),(9,GC.lp),(7,Xg.lp)] (lW (fp Gy.ok (fp Xg.ok (fp GC.ok kU)))) (u3 (sEq (cJ 0 0 0)) uI (sEq (em (143:FuncId) bT))) (q1 (qB 0 2 148 bG)) (λ(n,k,_,_) (a,_) _=>Nw n k a) (λ _ _ p=>(AV.tuple [],([bF 0 2 148 p]:List aC))) []
def Nm{T:Type}(n:Nat)(a:LA)(δ:T)(κ:LA->T):T:=br ((GH n (↑n:Int) a).isSome) (κ ((GH n (↑n:Int) a).getD [])) δ
def Nt(n:Nat)(a:LA):=Nm n a none some
def Wb:EO:=xMh.fM Tryz.func142 9 1 [148] [] lk0 (u2 (sEq (cJ 0 0 0)) (sEq (em (143:FuncId) bT))) (q1 (qB 0 2 148 bG)) (λ(n,_,_) (a,_) _=>Nm n a) (λ _ _ p=>(AV.tuple [],([bF 0 2 148 p]:List aC))) []
def Dk(b:LA)(c:Int)(a:LA):=a++[AV.agg [AV.list 3 (gC b c 0).toList,AV.list 2 []]]
def uv(a:Nat):Nat:=0+(↑a:Int).toNat
def xi(a:LA)(b:Int):=(EH (gC a b 0).toList).getD []
def Hj(d:LA)(f:Int)(b:Nat)(e:Int)(c a:LA):=decide (uv b<(Dk d e a).length)
def rM(c:LA)(b:Nat)(d:Int)(a:LA):=((Dk c d a).getD (uv b) .top).cells
def GW(a:LA)(b:Int):=decide ((xi a b).length<=4611686018427387904)
def Dl(b:LA)(c:Int)(a:LA):=(eO (AV.int .i64 0) a (xi b c)).toInt
def G6(c:LA)(b:Nat)(d:Int)(a:LA):=decide (0<=Dl c d a)&&decide (Dl c d a<(↑b:Int))
def o6(c:LA)(b:Nat)(d:Int)(a:LA):=((rM c b d a).getD 1 .top).toList.length
def nO(b:LA)(c:Int)(a:LA):Nat:=0+(Dl b c a).toNat
def GV(a:LA)(d:Nat)(b:Int)(c:LA):=((rM a d b c).getD 1 .top).toList++[AV.agg [AV.int .i64 (gC a b 1).toInt,AV.int .i64 (gC a b 2).toInt]]
def Dt(c:LA)(b:Nat)(d:Int)(a:LA):=(Dk c d a).set (uv b) (AV.agg (List.take 1 (rM c b d a)++[AV.int .i64 (↑(o6 c b d a):Int)]++List.drop 2 (rM c b d a)))
def G7(c:LA)(d:Int)(a b:LA):=decide (nO c d a<b.length)
def o7(c:LA)(d:Int)(a b:LA):=((b.getD (nO c d a) .top).cells.getD 1 .top).toList.length
def GU(b:LA)(c:Int)(a d:LA):=((d.getD (nO b c a) .top).cells.getD 1 .top).toList++[AV.agg [AV.int .i64 (gC b c 1).toInt,AV.int .i64 (gC b c 2).toInt]]
def AN(c:LA)(a:Nat)(d:Int)(b:LA):=((Dt c a d b).getD (uv a) .top).cells
def Dw(c:LA)(d:Int)(a b:LA):=b.set (nO c d a) (AV.agg (List.take 1 (b.getD (nO c d a) .top).cells++[AV.int .i64 (↑(o7 c d a b):Int)]++List.drop 2 (b.getD (nO c d a) .top).cells))
def AO(c:LA)(d:Int)(a b:LA):=((Dw c d a b).getD (nO c d a) .top).cells
def Ay{T:Type}(e:LA)(f:Int)(d:Nat)(c:Int)(b a:LA)(δ:T)(κl:(Nat×Int×LA×LA)->T)(κr:(Nat×LA)->T):T:=br (decide (c<f)) (br (bX e c) (br (jl e c 3 [Sh.list 3,Sh.int .i64,Sh.int .i64] 0) (br (!x6 (gC e c 1).toInt (gC e c 2).toInt) (κl (d,i64.wrap (c+1),b,a)) (br ((EH (gC e c 0).toList).isSome) (br (GW e c&&cX (Sh.int .i64) (eO (AV.int .i64 0) b (xi e c))) (br (!iL b (xi e c)) (br (decide (b.length<4611686018427387904)&&GW e c) (br (iH d a 1 48) (br (decide ((↑d:Int)<(↑(d+1):Int))) (br (Hj e f d c b a&&(jV 2 ((rM e d c a).getD 1 .top)&&(rM e d c a).length==2)) (br (Hj e f d c b a&&(jV 2 ((rM e d c a).getD 1 .top)&&((rM e d c a).length==2&&(2*o6 e d c a==2*o6 e d c a&&(o6 e d c a==o6 e d c a&&(o6 e d c a==o6 e d c a&&(decide ((o6 e d c a+1)*16<=140737488355328)&&decide (o6 e d c a+1<=4611686018427387904)))))))) (br (decide ((↑d:Int)<(↑(d+1):Int))) (br (decide (uv d<(Dt e d c a).length)&&((AN e d c a).length==2&&(o6 e d c a+1==(GV e d c a).length&&yM ((AN e d c a).getD 1 .top) (o6 e d c a+1)))) (κl (d+1,i64.wrap (c+1),dP b (xi e c) (AV.int .i64 (↑d:Int)),(Dt e d c a).set (uv d) (AV.agg (List.take 1 (AN e d c a)++[AV.list 2 (GV e d c a)]++List.drop 2 (AN e d c a))))) δ) δ) δ) δ) δ) δ) δ) (br (G6 e d c b) (br (G7 e c b a&&(jV 2 ((a.getD (nO e c b) .top).cells.getD 1 .top)&&(a.getD (nO e c b) .top).cells.length==2)) (br (G7 e c b a&&(jV 2 ((a.getD (nO e c b) .top).cells.getD 1 .top)&&((a.getD (nO e c b) .top).cells.length==2&&(2*o7 e c b a==2*o7 e c b a&&(o7 e c b a==o7 e c b a&&(o7 e c b a==o7 e c b a&&(decide ((o7 e c b a+1)*16<=140737488355328)&&decide (o7 e c b a+1<=4611686018427387904)))))))) (br (G6 e d c b) (br (decide (nO e c b<(Dw e c b a).length)&&((AO e c b a).length==2&&(o7 e c b a+1==(GU e c b a).length&&yM ((AO e c b a).getD 1 .top) (o7 e c b a+1)))) (κl (d,i64.wrap (c+1),b,(Dw e c b a).set (nO e c b) (AV.agg (List.take 1 (AO e c b a)++[AV.list 2 (GU e c b a)]++List.drop 2 (AO e c b a))))) δ) δ) δ) δ) δ)) δ) δ)) δ) δ) (κr (d,a))
def un(d:LA)(e:Int):cS (Nat×Int×LA×LA) (Nat×LA):=λ(c,f,a,b)=>Ay d e c f a b none inL inR
def XP:=Wb.l 60 0 [] [] Tryz.f126 0 lk0 [3,4,11,12,13] [4] [(4,2,223474614420)] (q5 (dz 0 0 0 0) (cJ 1 0 0) (qL 3) qI qI) (q2 (qB 0 2 1208925819615333616451584 bG) (qB 0 2 223474614420 bG)) (λ(_,c,d,e,f,_) (a,b,_)=>(un d e,(c,f,a,b),λ p=>(.leaf (.exit 0) [AV.osl 0 0 0 p.1] [bF 0 2 223474614420 p.2]))) (0,[]) λ(_,_,d,e,_,_) _ (c,f,a,b)=>((((),c,d,e,f,()),(a,b,())),Ay d e c f a b none)
def OC(l:LA):=aB (un l (↑l.length:Int)) (0,0,[],[])
def AT(l:LA):=(OC l).getD (0,[])
def HG(l:LA):=Nt ((AT l).fst) ((AT l).snd)
def O5{T:Type}(l:LA)(δ:T)(κ:LA->T):T:=br ((OC l).isSome) (br (yL 2 1 ((AT l).snd)) (br ((HG l).isSome) (br (decide (0+((AT l).fst)<=((HG l).getD []).length)&&true) (κ (List.take ((AT l).fst) (List.drop 0 ((HG l).getD [])))) δ) δ) δ) δ
def uN(l:LA):=O5 l none some
def Wc:EO:=Wb.f Tryz.func126 60 0 [] [(4,XP.lp)] (fh XP.ok) (u1 (uL 3)) (λ(l,_) _=>O5 l) (λ _ p=>AV.list 2 p) []
end Go.Sim.M
end
