/- Part 10. -/
import Derived.Test.YtodofdnlhoknhaaGreatDoorTS9
import Derived.WalkKit
import Derived.BigCall
import Derived.Lib.Strings
import Derived.Lib.Slices
import Derived.Lib.Walk
import Derived.Lib.Builder
import Derived.Lib.UnsafeStr
import Derived.Laws.Externs
import Derived.Laws.IdiomCopy
import Derived.Laws.BitsLemmas
import Derived.RegionTactic
set_option linter.all false
noncomputable section
namespace Go.Proofs
open Go.RowKit Go.Lib
def Tryz.lies_builder(n:Nat)(hn:1<=n):liesAt Tryz.prog Tryz.prog.depth 111 n 0 111 1:=by(have hc:Tryz.prog.cellsOf 111=2:=by kernel_rfl);have hd:Tryz.prog.depth=(2*(Tryz.prog.types.size+Made.depth)+1)+1:=rfl;generalize Tryz.prog=P at *;rw[hd];simp only[liesAt,Bool.or_eq_true];left;rw[hd];simp[rowAt,hc,hn,sameLayout]
set_option maxHeartbeats 2000000 in
set_option maxRecDepth 100000 in
def Tryz.copyCheck_used(b:Nat)(w:World)(h0:w.cell? ⟨b,0,none⟩=some (.pointer (some ⟨b,0,none⟩))):Calls Tryz.prog 130 #[.pointer (some ⟨b,0,none⟩)] w λ e w'=>e=.returned (.tuple #[])/\w'=w:=by(have hsz:(Tryz.prog.info? 111).map (·.size)=some 2:=by kernel_rfl);(obtain⟨j,hj,_⟩:=Option.map_eq_some_iff.1 hsz;have tp:Tryz.prog.underlying 108=some (.pointer 111):=by kernel_rfl);go_enter Tryz.func130,Tryz.ntmps130;go_wp2;rw[Lib.run_neq_ptr_same w _ tp hj];go_wp2;go_end0;exact⟨rfl,rfl⟩
set_option maxHeartbeats 2000000 in
set_option maxRecDepth 100000 in
def Tryz.copyCheck_fresh(b n:Nat)(hn:1<=n)(w:World)(h0:w.cell? ⟨b,0,none⟩=some (.pointer none))(J:w.shape? b=some (111,n*2))(Q:w.frozen? ⟨b,0,none⟩=false):Calls Tryz.prog 130 #[.pointer (some ⟨b,0,none⟩)] w λ e w'=>e=.returned (.tuple #[])/\w'=w.setCell ⟨b,0,none⟩ (.pointer (some ⟨b,0,none⟩)):=by
 have hsz:(Tryz.prog.info? 111).map (·.size)=some 2:=by kernel_rfl
 obtain⟨j,hj,O⟩:=Option.map_eq_some_iff.1 hsz;have hc:Tryz.prog.cellsOf 111=2:=by kernel_rfl
 have tp:Tryz.prog.underlying 108=some (.pointer 111):=by kernel_rfl
 have tu:Tryz.prog.underlying 171=some .unsafePointer:=by kernel_rfl
 have q:liesAt Tryz.prog Tryz.prog.depth 111 (n*2 / Tryz.prog.cellsOf 111) 0 111 1:=by rw[hc,Nat.mul_div_cancel _ (by decide)];exact Tryz.lies_builder n hn
 have c1:=Lib.run_to_unsafe w ⟨b,0,none⟩ tp tu hj (by rw[O];decide) J (show 0<n*2 by omega);have c2:=Lib.run_from_unsafe w ⟨b,0,none⟩ tu tp hj J q;clear q;go_enter Tryz.func130,Tryz.ntmps130;go_wp2;rw[run_callFunc_extern Tryz.func148 (by kernel_rfl) (by kernel_rfl) (by kernel_rfl) (e:=Extern.AbiNoEscape.same) (by kernel_rfl)];rw[Lib.run_noEscape];simp only[Result.andThen];rw[Oper.upon_value];go_wp2;go_end0;exact⟨rfl,rfl⟩
set_option maxHeartbeats 2000000 in
set_option maxRecDepth 100000 in
def Tryz.builder_string(b g cap:Nat)(l:List UInt8)(cur:Array Value)(w:World)(hb:w.cell? ⟨b,1,none⟩=some (.slice (some ⟨g,0,none⟩) l.length cap))(hg:w.heap[g]?=some (.cells cur 5 (0,0)))(q:∀j x,l[j]?=some x->w.cell? ((⟨g,0,none⟩:Addr).add j)=some (.int .u8 x.toNat))(V:l.length<=cur.size)(hcap:cap≠0)(h0:l≠[])(J:l.length<=9223372036854775807):Calls Tryz.prog 97 #[.pointer (some ⟨b,0,none⟩)] w λ e w'=>e=.returned (.string ⟨l.toArray⟩)/\w'=w.drew.freeze ⟨g,0,none⟩ l.length:=by(have c1:w.drew.cell? ⟨b,1,none⟩=some (.slice (some ⟨g,0,none⟩) l.length cap):=hb;have Q:Tryz.prog.underlying 155=some (.pointer 5):=by kernel_rfl);(have O:Tryz.prog.cellsOf 5=1:=by kernel_rfl);have Y:(Builtin.unsafeSliceData_ #[109] 155 #[.slice (some ⟨g,0,none⟩) l.length cap]).run Tryz.prog w.drew=.ok (.pointer (some ⟨g,0,none⟩)) w.drew:=Lib.run_unsafeSliceData_row _ _ _ _ _ _ hcap;have W:(Builtin.unsafeString_ #[155,3] 9 #[.pointer (some ⟨g,0,none⟩),.int .i64 l.length]).run Tryz.prog w.drew=.ok (.string ⟨l.toArray⟩) (w.drew.freeze ⟨g,0,none⟩ l.length):=Lib.run_unsafeString_row w.drew 155 3 9 5 Q O g cur.size (by have hg':w.drew.heap[g]?=some (.cells cur 5 (0,0)):=hg;simp[World.shape?,hg']) l h0 V J q;clear q;go_enter Tryz.func97,Tryz.ntmps97;go_wp2;go_region;all_goals (go_wp2;go_ret;exact⟨rfl,rfl⟩)
set_option maxHeartbeats 2000000 in
set_option maxRecDepth 100000 in
def Tryz.builder_string_nil(b:Nat)(w:World)(hb:w.cell? ⟨b,1,none⟩=some (.slice none 0 0)):Calls Tryz.prog 97 #[.pointer (some ⟨b,0,none⟩)] w λ e w'=>e=.returned (.string ⟨#[]⟩)/\w'=w.drew:=by have c1:w.drew.cell? ⟨b,1,none⟩=some (.slice none 0 0):=hb;have J:(Builtin.unsafeSliceData_ #[109] 155 #[.slice none 0 0]).run Tryz.prog w.drew=.ok (.pointer none) w.drew:=rfl;have q:=Lib.run_unsafeString_none (P:=Tryz.prog) w.drew 155 3 9 none;go_enter Tryz.func97,Tryz.ntmps97;go_wp2;go_region;all_goals (go_wp2;go_ret;exact⟨rfl,rfl⟩)
end Go.Proofs
end
noncomputable section
namespace Go.Sim
open Go.RowKit Go.Proofs
def M.isByte:AV->Bool|.int .u8 n=>decide (0<=n)&&decide (n<256)|_=>false
def M.isBytes(xs:List AV):Bool:=xs.all M.isByte
def M.strOf(xs:List AV):List UInt8:=xs.map λ x=>UInt8.ofNat x.toInt.toNat
def xuO(s:List UInt8):M.strOf (M.byteAVs s)=s:=by unfold M.strOf M.byteAVs;rw[List.map_map];(conv=>rhs;rw[<-List.map_id s]);exact List.map_congr_left λ u _=>by simp[AV.toInt]
def ZT(s:List UInt8):M.isBytes (M.byteAVs s):=by unfold M.isBytes M.byteAVs;rw[zI];intro x hx;obtain⟨u,_,rfl⟩:=zK.1 hx;have:=u.toNat_lt;simp only[M.isByte,zf,zl];omega
def Z7(s t:List UInt8):M.byteAVs (s++t)=M.byteAVs s++M.byteAVs t:=by simp[M.byteAVs]
def B1(s:List UInt8):(M.byteAVs s).length=s.length:=by simp[M.byteAVs]
def xFD{x:AV}(h:M.isByte x):∃u:UInt8,x=.int .u8 u.toNat:=by unfold M.isByte at h;split at h;(rename_i n;simp only[zf,zl]at h;refine⟨UInt8.ofNat n.toNat,?_⟩;have:(UInt8.ofNat n.toNat).toNat=n.toNat:=by rw[UInt8.toNat_ofNat',Nat.mod_eq_of_lt Ω]);rw[this];congr 1;omega;simp at h
def xCl(w:World)(g n k:Nat)(h:k≠g):(w.freeze ⟨g,0,none⟩ n).heap[k]?=w.heap[k]?:=by unfold World.freeze;split;rfl;simp[Array.getElem?_modify,Ne.symm h]
def xDB(w:World)(g n:Nat):(w.freeze ⟨g,0,none⟩ n).heap.size=w.heap.size:=by unfold World.freeze;split;rfl;simp
variable {H:List aC}
def xHc{w w':World}{A:Nat->Prop}{M:Id->Option MB}{B:Nat}(hR:HR w A M B H){id:Nat}{m:MB}{bx:aC}(J:0<m.cap)(hm:M (.b id)=some m)(hb:H[id]?=some bx)(Z:bW bx.ty=false)(ab:bx.frz=false)(Q:BoxAt w A M B (.b id) m bx)(v:Nat)(hv:m.ver<v)(sz:Nat)(ty:TypeId)(W:bW ty=false)(hs:w'.heap.size=w.heap.size)(hw:∀b,b≠m.b->w'.heap[b]?=w.heap[b]?):HR w' A (aV M (.b id) ⟨m.b,v,sz,0,ty⟩) B (H.set id ⟨v,sz,ty,[],false,true⟩)/\Mv w A M w' A (aV M (.b id) ⟨m.b,v,sz,0,ty⟩):=by
 have aa:A m.b:=(Q.guard J).1 ab;have O:aR M (aV M (.b id) ⟨m.b,v,sz,0,ty⟩):=CK hm (.inr hv);have hw':∀b,b<w.heap.size->¬ A b->w'.heap[b]?=w.heap[b]?:=λ b _ hA=>hw b λ e=>hA (e▸aa);have hc:∀{p:Prop},0<(0:Nat)->p:=λ h=>absurd h Ω;have q:∀i m1,aV M (.b id) ⟨m.b,v,sz,0,ty⟩ i=some m1->0<m1.cap->i≠.b id/\M i=some m1:=λ i m1 h1 h0=>by by_cases hi:i=.b id;subst hi;simp[aV]at h1;subst h1;exact absurd h0 Ψ;exact⟨hi,by simpa[aV,hi]using h1⟩
 refine⟨⟨λ i m1 h1=>?_,λ i i' m1 m2 h1 h2 c1 c2 he=>hR.inj i i' m1 m2 (q i m1 h1 c1).2 (q i' m2 h2 c2).2 c1 c2 he,λ b hb=>by rw[hs];exact hR.lt b hb⟩,⟨by omega,hw',λ _ _ h=>h,λ _ _ h _=>h,O,⟨λ b _ hb=>hw b λ e=>hb (.b id) m hm J e.symm,λ i m1 h1 h0=>.inl ⟨i,m1,(q i m1 h1 h0).2,h0,rfl⟩⟩⟩⟩;by_cases hi:i=.b id;subst hi;have:m1=⟨m.b,v,sz,0,ty⟩:=by simp[aV]at h1;exact h1.symm
 subst this;exact⟨⟨v,sz,ty,[],false,true⟩,by rw[iQ,zL (j6 hb)],rfl,rfl,lZ W,zQ _,zQ _,λ x hx=>by simp at hx,hc,hc,hc,hc⟩;have V:M i=some m1:=by simpa[aV,hi]using h1
 obtain⟨Y,g1,g2⟩:=hR.box i m1 V;exact⟨Y,by rw[rM hb Z W hi];exact g1,g2.mono (λ h0=>hw _ λ e=>hi (hR.inj i (.b id) m1 m V hm h0 J e)) hw' Ω (λ _ _ h=>h) g2.guard O⟩
def Ke{w:World}{A:Nat->Prop}{M:Id->Option MB}{B:Nat}(hR:HR w A M B H){v:Value}{a x:AV}{ty:TypeId}{frz pm:Bool}(J:bW ty=false)(hv:aD w A M v (.own (.b 0) 0 0 0))(hb:H[0]?=some ⟨0,2,ty,[.agg [a,x]],frz,pm⟩):∃m c,M (.b 0)=some m/\BoxAt w A M B (.b 0) m ⟨0,2,ty,[.agg [a,x]],frz,pm⟩/\1<=m.cap/\v=.pointer (some ⟨m.b,0,none⟩)/\w.heap[m.b]?=some (.cells c ty (0,0))/\c.size=m.cap*2/\m.sz=2/\aD w A (MP M pm) (c.getD 0 undef) a/\aD w A (MP M pm) (c.getD 1 undef) x/\w.cell? ⟨m.b,0,none⟩=some (c.getD 0 undef)/\w.cell? ⟨m.b,1,none⟩=some (c.getD 1 undef):=by
 obtain⟨m,hm,q,hp⟩:=tW hR hv (xoQ hb J);have hcap:1<=m.cap:=q.fits;have hsz:m.sz=2:=q.sz.symm;obtain⟨c,h1,h2,h3⟩:=q.plainCells J Ω;rw[hsz]at h2;have r0:=h3 0 0 Ψ Ω;have r1:=h3 0 1 Ψ Ω;have h1:w.heap[m.b]?=some (.cells c ty (0,0)):=h1;have e0:w.cell? ⟨m.b,0,none⟩=some (c.getD 0 undef):=by(have:0<c.size:=Ω);simp[World.cell?,h1,this]
 have e1:w.cell? ⟨m.b,1,none⟩=some (c.getD 1 undef):=by(have:1<c.size:=Ω);simp[World.cell?,h1,this]
 refine⟨m,c,hm,q,hcap,by simpa using hp,h1,h2,hsz,by simpa[AV.cells]using r0,by simpa[AV.cells]using r1,e0,e1⟩
def Rd:List AV->List aC->Option (Bool×AV×List aC)|[.own (.b 0) 0 0 0],⟨0,2,ty,[.agg [.nilptr,x]],false,pm⟩::r=>(match Nat.beq ty 111 with|true=>some (true,.tuple [],⟨0,2,ty,[.agg [.own (.b 0) 0 0 0,x]],false,false⟩::r)|false=>none)|[.own (.b 0) 0 0 0],⟨0,2,ty,[.agg [.own (.b 0) 0 0 0,x]],false,pm⟩::r=>(match Nat.beq ty 111 with|true=>some (true,.tuple [],⟨0,2,ty,[.agg [.own (.b 0) 0 0 0,x]],false,pm⟩::r)|false=>none)|_,_=>none
def xDv:fJ Tryz.prog xQa 130 Rd:=λ xs H r H' h=>by
 unfold Rd at h;split at h;rename_i ty x pm rest;split at h;case h_2=>simp at h
 rename_i J;have J:=zg J;subst J;simp only[z6,zb,true_and]at h;obtain⟨rfl,rfl⟩:=h;refine⟨xeZ Tryz.func130 rfl Θ,λ w0 w A M vs hI hB hR O=>?_⟩;obtain⟨v,rfl,hv⟩:=rc1 O;obtain⟨m,c,hm,q,hcap,rfl,hh,Q,hsz,r0,r1,e0,e1⟩:=Ke hR (by rfl) hv rfl;have hn:c.getD 0 undef=.pointer none:=by revert r0;generalize c.getD 0 undef=z;intro r0;cases r0;rfl
 rw[hn]at e0;refine(Tryz.copyCheck_fresh m.b m.cap hcap w e0 (by simp[World.shape?,hh,Q]) (Lib.frozen_of_heap hh 0)).mono ?_;rintro e w' ⟨rfl,rfl⟩;rw[setCell_eq_setRow w m.b 0 c _ _ _ hh];have aa:x.one:=by have:=q.ok (.agg [.nilptr,x]) Ψ;simp only[AV.okElem,AV.cells,List.all_cons,zf]at this;exact this.2.2.1
 have W:(0:Nat)=m.ver:=q.ver;obtain⟨g1,g2,g3,g4,gt,g5⟩:=KB (m':=m) (bx':=⟨0,2,111,[.agg [.own (.b 0) 0 0 0,x]],false,false⟩) hR Ω hm rfl q rfl rfl rfl (c':=c.setIfInBounds 0 (.pointer (some ⟨m.b,0,none⟩))) rfl rfl rfl rfl (.inl rfl)
  W (by rw [hsz]) (by have:=q.ty;rw [lZ rfl] at this;exact this) rfl hcap (fun y hy=>by
   simp only [zv] at hy;subst hy;rw [hsz];simp [AV.okElem,AV.cells,aa,show (AV.own (.b 0) 0 0 0).one=true from rfl]) (by rw [hsz];simpa using Q) (fun i j hi hj=>by
   have ab:i=0:=by simpa using hi
   subst ab;rw[hsz]at hj|-;have Z:0<c.size:=Ω
   have ac:1<c.size:=Ω
   match j,hj with
   | 0,_=>
    have:(c.setIfInBounds 0 (.pointer (some ⟨m.b,0,none⟩))).getD (0*2+0) undef=.pointer (some ⟨m.b,0,none⟩):=by simp[Z]
    rw[this];exact .own _ (.b 0) 0 0 0 m hm Ω rfl (λ _=>by rw[FH (q.nomap rfl)];simp)
   | 1,_=>
    have:(c.setIfInBounds 0 (.pointer (some ⟨m.b,0,none⟩))).getD (0*2+1) undef=c.getD 1 undef:=by simp[Array.getElem?_setIfInBounds]
    rw [this];exact r1.unmp)
 exact⟨_,A,_,rfl,hB.trans g4,λ _ _=>Iff.rfl,Ev.refl.step ⟨by simp[World.setRow],g3,λ _ _ h=>h,λ _ _ h _=>h,g2,gt⟩,by simpa using g1,.tuple #[] [] rfl Ψ⟩;rename_i ty x pm rest;split at h;case h_2=>simp at h
 rename_i J;have J:=zg J;subst J;simp only[z6,zb,true_and]at h;obtain⟨rfl,rfl⟩:=h;refine⟨xeZ Tryz.func130 rfl Θ,λ w0 w A M vs hI hB hR O=>?_⟩;obtain⟨v,rfl,hv⟩:=rc1 O;obtain⟨m,c,hm,q,hcap,rfl,hh,Q,hsz,r0,r1,e0,e1⟩:=Ke hR (by rfl) hv rfl;obtain⟨m',V,Y,hp⟩:=tW hR r0.unmp (xoQ (n:=0) (bx:=⟨0,2,111,[.agg [.own (.b 0) 0 0 0,x]],false,pm⟩) rfl rfl);rw[hm]at V;obtain rfl:=(z6 _ _).mp V;rw[hp]at e0;refine(Tryz.copyCheck_used m.b w (by simpa using e0)).mono ?_;rintro e w' ⟨rfl,rfl⟩;exact⟨_,A,M,rfl,hB,λ _ _=>Iff.rfl,Ev.refl,hR,.tuple #[] [] rfl Ψ⟩;simp at h
def Po:List AV->List aC->Option (Bool×AV×List aC)|[.own (.b 0) 0 0 0],[⟨0,2,ty,[.agg [a,.osl (.b 1) u 0 n]],false,pm⟩,⟨u',1,ty',bs,false,pm'⟩]=>(match Nat.beq ty 111&&(Nat.beq ty' 5&&Nat.beq u u')with|true=>some ((decide (n=bs.length)&&M.isBytes bs)&&decide (bs.length≠0),.str (M.strOf bs),[⟨0,2,ty,[.agg [a,.osl (.b 1) u 0 n]],false,pm⟩,⟨u+1,1,ty',[],false,true⟩])|false=>none)|[.own (.b 0) 0 0 0],⟨0,2,ty,[.agg [a,.nils]],false,pm⟩::r=>(match Nat.beq ty 111 with|true=>some (true,.str [],⟨0,2,ty,[.agg [a,.nils]],false,pm⟩::r)|false=>none)|_,_=>none
def xwS:fJ Tryz.prog xQa 97 Po:=λ xs H r H' h=>by
 unfold Po at h;split at h;rename_i ty a u n pm u' am bs ag;split at h;case h_2=>simp at h
 rename_i O;simp only[zf]at O;obtain⟨h1,h2,h3⟩:=O;have h1:=zg h1;have h2:=zg h2;have h3:=zg h3;subst h1 h2 h3;simp only[z6,zb,zf,zl]at h;obtain⟨⟨⟨rfl,af⟩,hne⟩,rfl,rfl⟩:=h;refine⟨xeZ Tryz.func97 rfl Θ,λ w0 w A MM vs hI hB hR W=>?_⟩;obtain⟨v,rfl,hv⟩:=rc1 W;obtain⟨m,c,hm,ab,hcap,rfl,hh,ah,hsz,r0,r1,e0,e1⟩:=Ke hR (by rfl) hv rfl;obtain⟨m1,a1,ai,q,aj,ae,ac⟩:=rm hR r1.unmp (xoQ (n:=1) (bx:=⟨u,1,5,bs,false,ag⟩) rfl rfl);have J:0<m1.cap:=by have:=q.fits;simp only at this;omega
 have ha:=ac J;subst ha;obtain⟨c1,k1,k2,k3⟩:=q.plainCells rfl J;have Q:m1.sz=1:=q.sz.symm;have ak:5=m1.ty:=by have:=q.ty;rw[lZ rfl]at this;exact this
 rw[ae]at e1;simp only[Nat.zero_mul,Nat.sub_zero]at e1;have hl:(M.strOf bs).length=bs.length:=by simp[M.strOf]
 have V:∀j,j<bs.length->∃uu:UInt8,bs.getD j .top=.int .u8 uu.toNat/\(M.strOf bs)[j]?=some uu/\w.cell? ⟨m1.b,j,none⟩=some (.int .u8 uu.toNat):=λ j hj=>by have ad:bs.getD j .top∈bs:=jA hj;obtain⟨uu,hu⟩:=xFD (zI.1 af _ ad);refine⟨uu,hu,?_,?_⟩;have:bs[j]?=some (bs.getD j .top):=Gt hj;simp only[M.strOf,List.getElem?_map,this,hu,Option.map_some,AV.toInt,zN,UInt8.ofNat_toNat];have hr:=k3 j 0 hj Ω;(rw[Q,hu]at hr;simp only[Nat.mul_one,Nat.add_zero,AV.cells,List.getD_cons_zero]at hr;have:=hr.int_inv;have aa:j<c1.size:=by have:=q.fits;simp only at this;rw[k2,Q];omega);(simp only[World.cell?,k1];have e2:c1.getD j undef=c1[j]:=by simp[aa]);rw[e2]at this;simp[aa,this]
 refine (Tryz.builder_string m.b m1.b m1.cap (M.strOf bs) c1 w (by rw [hl];exact e1) k1 (fun j x hx=>by
  have hj:j<bs.length:=by
   rcases zJ j bs.length with h'|h'
   . exact h'
   . rw[zz Ω]at hx;simp at hx
  obtain⟨uu,g1,g2,g3⟩:=V j hj;rw[g2]at hx;obtain rfl:=(z6 _ _).mp hx;by_cases Z:j=0
  . subst Z;simpa[Addr.add]using g3
  . simpa [Addr.add,Z] using g3) (by rw [hl,k2,Q];have:=q.fits;simp only at this;omega) Ω (fun e=>hne (by rw [<-hl,e];rfl)) (by rw [hl];have h1:=q.fits;have h2:=q.capm;simp only at h1;unfold maxLen at h2;omega)).mono ?_
 rintro e w' ⟨rfl,rfl⟩;rw[hl];have Y:=q.low J;obtain⟨g1,g2⟩:=xHc hR J ai rfl rfl rfl q (u+1) (by have:=q.ver;simp only at this;omega) 1 5 rfl (w':=w.drew.freeze ⟨m1.b,0,none⟩ bs.length) (by rw[xDB];rfl) (λ b hb=>by rw[xCl _ _ _ _ hb];rfl);exact⟨_,A,_,rfl,Lib.below_freeze (hB.drew) (p:=⟨m1.b,0,none⟩) Y _,λ _ _=>Iff.rfl,Ev.refl.step g2,by simpa using g1,.str _⟩;rename_i ty a pm rest al;split at h;case h_2=>simp at h
 rename_i O;have O:=zg O;subst O;simp only[z6,zb,true_and]at h;obtain⟨rfl,rfl⟩:=h;refine⟨xeZ Tryz.func97 rfl Θ,λ w0 w A MM vs hI hB hR W=>?_⟩;obtain⟨v,rfl,hv⟩:=rc1 W;obtain⟨m,c,hm,ab,hcap,rfl,hh,ah,hsz,r0,r1,e0,e1⟩:=Ke hR (by rfl) hv rfl;have hn:c.getD 1 undef=.slice none 0 0:=by revert r1;generalize c.getD 1 undef=z;intro r1;cases r1;rfl
 rw[hn]at e1;refine(Tryz.builder_string_nil m.b w e1).mono ?_;rintro e w' ⟨rfl,rfl⟩;exact⟨_,A,MM,rfl,hB.drew,λ _ _=>Iff.rfl,Ev.refl.step ⟨zd _,λ _ _ _=>rfl,λ _ _ h=>h,λ _ _ h _=>h,aR.refl MM,⟨λ _ _ _=>rfl,λ i m1 h1 h0=>.inl ⟨i,m1,h1,h0,rfl⟩⟩⟩,hR.drew,.str _⟩;simp at h
end Go.Sim
end
noncomputable section
namespace Go.Sim
open Go.RowKit
variable{α β γ:Type}
structure bJ (α β:Type) where
 enc:β->α
 dec:α->Option β
 ok:∀a b,dec a=some b->a=enc b
def bB:bJ α α:=⟨λ b=>b,some,λ a b h=>by simpa using h⟩
def pInt (k:IntKind):bJ AV Int:=⟨.int k,fun v=>match v with
 |.int k' n=>match decide (k'=k)with
  |true=>some n
  |false=>none
 |_=>none,λ v n h=>by
 split at h
 . split at h
   . rename_i hk;simp only[z6]at h;rw[of_decide_eq_true hk,h]
   . simp at h
 . simp at h⟩
def pStr:bJ AV (List UInt8):=⟨.str,fun v=>match v with
 |.str s=>some s
 |_=>none,λ v n h=>by
 split at h
 . simp only[z6]at h;rw[h]
 . simp at h⟩
def kX:bJ AV Bool:=⟨.bool,fun v=>match v with
 |.bool s=>some s
 |_=>none,λ v n h=>by
 split at h
 . simp only[z6]at h;rw[h]
 . simp at h⟩
def qM (sz:Nat) (q:bJ (List AV) β):bJ AV β:=⟨fun b=>.list sz (q.enc b),fun v=>match v with
 |.list z xs=>match Nat.beq z sz with
  |true=>q.dec xs
  |false=>none
 |_=>none,λ v n h=>by
 split at h
 . split at h
   . rename_i hz;rw[zg hz,q.ok _ _ h]
   . simp at h
 . simp at h⟩
def cC (id ver off:Nat):bJ AV Nat:=⟨.osl id ver off,fun v=>match v with
 |.osl (.b i) e o n=>match Nat.beq i id&&(Nat.beq e ver&&Nat.beq o off)with
  |true=>some n
  |false=>none
 |_=>none,λ v n h=>by
 split at h
 . split at h
   . rename_i hz;simp only[zf]at hz;simp only[z6]at h;rw[zg hz.1,zg hz.2.1,zg hz.2.2,h]
   . simp at h
 . simp at h⟩
def kZ (id off:Nat):bJ AV (Nat×Nat):=⟨fun p=>.osl id p.1 off p.2,fun v=>match v with
 |.osl (.b i) e o n=>match Nat.beq i id&&Nat.beq o off with
  |true=>some (e,n)
  |false=>none
 |_=>none,λ v n h=>by
 split at h
 . split at h
   . rename_i hz;simp only[zf]at hz;simp only[z6]at h;rw[zg hz.1,zg hz.2,<-h]
   . simp at h
 . simp at h⟩
def Dt (id j:Nat):bJ AV (Nat×Nat):=⟨fun p=>.own id p.1 p.2 j,fun v=>match v with
 |.own (.b a) b c d=>match Nat.beq a id&&Nat.beq d j with
  |true=>some (b,c)
  |false=>none
 |_=>none,λ v n h=>by
 split at h
 . split at h
   . rename_i hz;simp only[zf]at hz;simp only[z6]at h;rw[zg hz.1,zg hz.2,<-h]
   . simp at h
 . simp at h⟩
def dL (id ver i j:Nat):bJ AV Unit:=⟨fun _=>.own id ver i j,fun v=>match v with
 |.own (.b a) b c d=>match Nat.beq a id&&(Nat.beq b ver&&(Nat.beq c i&&Nat.beq d j))with
  |true=>some ()
  |false=>none
 |_=>none,λ v n h=>by
 split at h
 . split at h
   . rename_i hz;simp only[zf]at hz;rw[zg hz.1,zg hz.2.1,zg hz.2.2.1,zg hz.2.2.2]
   . simp at h
 . simp at h⟩
def ui (sz i j:Nat) (q:bJ (List AV) β):bJ AV β:=⟨fun b=>.eptr sz (q.enc b) i j,fun v=>match v with
 |.eptr a xs c d=>match Nat.beq a sz&&(Nat.beq c i&&Nat.beq d j)with
  |true=>q.dec xs
  |false=>none
 |_=>none,λ v n h=>by
 split at h
 . split at h
   . rename_i hz;simp only[zf]at hz;rw[zg hz.1,zg hz.2.1,zg hz.2.2,q.ok _ _ h]
   . simp at h
 . simp at h⟩
def iE (q:bJ (List AV) β):bJ AV β:=⟨fun b=>.agg (q.enc b),fun v=>match v with
 |.agg cs=>q.dec cs
 |_=>none,λ v n h=>by
 split at h
 . rw[q.ok _ _ h]
 . simp at h⟩
def ez (f:Nat) (q:bJ (List AV) β):bJ AV β:=⟨fun b=>.func f (q.enc b),fun v=>match v with
 |.func g cs=>match Nat.beq g f with
  |true=>q.dec cs
  |false=>none
 |_=>none,λ v n h=>by
 split at h
 . split at h
   . rename_i hz;rw[zg hz,q.ok _ _ h]
   . simp at h
 . simp at h⟩
def eF:bJ AV Unit:=⟨fun _=>.nils,fun v=>match v with
 |.nils=>some ()
 |_=>none,λ v n h=>by
 split at h
 . rfl
 . simp at h⟩
def oj:bJ AV Unit:=⟨fun _=>.nilptr,fun v=>match v with
 |.nilptr=>some ()
 |_=>none,λ v n h=>by
 split at h
 . rfl
 . simp at h⟩
def bO:bJ (List α) Unit:=⟨fun _=>[],fun v=>match v with
 |[]=>some ()
 |_=>none,λ v n h=>by
 split at h
 . rfl
 . simp at h⟩
def aZ (p:bJ α β) (q:bJ (List α) γ):bJ (List α) (β×γ):=⟨fun b=>p.enc b.1::q.enc b.2,fun v=>match v with
 |x::t=>match p.dec x with
  |some b=>match q.dec t with
   |some c=>some (b,c)
   |none=>none
  |none=>none
 |_=>none,λ v n h=>by
 split at h
 . split at h
   . rename_i hp;split at h
     . rename_i hq;cases h;rw[p.ok _ _ hp,q.ok _ _ hq]
     . simp at h
   . simp at h
 . simp at h⟩
def fu (ver sz ty:Nat) (frz pm:Bool) (q:bJ (List AV) β):bJ aC β:=⟨fun b=>⟨ver,sz,ty,q.enc b,frz,pm⟩,fun v=>match v with
 |⟨a,b,c,xs,f,p⟩=>match Nat.beq a ver&&(Nat.beq b sz&&(Nat.beq c ty&&((f==frz)&&(p==pm))))with
  |true=>q.dec xs
  |false=>none,λ v n h=>by
 obtain⟨a,b,c,xs,f,p⟩:=v;dsimp only at h;split at h
 . rename_i hz;simp only[zf,beq_iff_eq]at hz;rw[zg hz.1,zg hz.2.1,zg hz.2.2.1,hz.2.2.2.1,hz.2.2.2.2,q.ok _ _ h]
 . simp at h⟩
def kY (sz ty:Nat) (frz pm:Bool) (q:bJ (List AV) β):bJ aC (Nat×β):=⟨fun b=>⟨b.1,sz,ty,q.enc b.2,frz,pm⟩,fun v=>match v with
 |⟨a,b,c,xs,f,p⟩=>match Nat.beq b sz&&(Nat.beq c ty&&((f==frz)&&(p==pm)))with
  |true=>match q.dec xs with
   |some y=>some (a,y)
   |none=>none
  |false=>none,λ v n h=>by
 obtain⟨a,b,c,xs,f,p⟩:=v;dsimp only at h;split at h
 . rename_i hz;simp only[zf,beq_iff_eq]at hz;split at h
   . rename_i y hy;simp only[z6]at h;rw[zg hz.1,zg hz.2.1,hz.2.2.1,hz.2.2.2,<-h,q.ok _ _ hy]
   . simp at h
 . simp at h⟩
def n3(a b:AV):Prop:=∀(w:World)(A:Nat->Prop)(M:Id->Option MB)(v:Value),aD w A M v a->aD w A M v b
def wl(aS bs:List AV):Prop:=aS.length=bs.length/\∀i,i<aS.length->n3 (aS.getD i .top) (bs.getD i .top)
def n3.refl(a:AV):n3 a a:=λ _ _ _ _ h=>h
def n3.of_eq{a b:AV}(h:a=b):n3 a b:=h▸n3.refl a
def xJv(sz:Nat):n3 .nils (.list sz []):=λ w A M v h=>by cases h;exact .list0 _ _ _
variable {aS bs:List AV}
def xK8(h:wl aS bs):n3 (.agg aS) (.agg bs):=λ w A M v hr=>by obtain⟨vs,rfl,h1,h2⟩:=hr.agg_inv;exact .agg vs bs (h1.trans h.1) λ i hi=>h.2 i (h.1.symm▸hi) w A M _ (h2 i (h.1.symm▸hi))
def Xm{w:World}{A:Nat->Prop}{M:Id->Option MB}{vs:List Value}(h:wl aS bs)(hr:RC w A M vs aS):RC w A M vs bs:=⟨hr.1.trans h.1,λ i hi=>h.2 i (h.1.symm▸hi) w A M _ (hr.2 i (h.1.symm▸hi))⟩
structure dy (β:Type) where
 enc:β->AV
 dec:AV->Option β
 ok:∀a b,dec a=some b->n3 a (enc b)
structure cJ (β:Type) where
 enc:β->List AV
 dec:List AV->Option β
 ok:∀a b,dec a=some b->wl a (enc b)
def sEq(p:bJ AV β):dy β:=⟨p.enc,p.dec,λ a b h=>n3.of_eq (p.ok a b h)⟩
def mc (sz:Nat) (q:bJ (List AV) β):dy β:=⟨fun b=>.list sz (q.enc b),fun v=>match v with
 |.nils=>q.dec []
 |.list z xs=>match Nat.beq z sz with
  |true=>q.dec xs
  |false=>none
 |_=>none,λ v n h=>by
 split at h
 . rw[<-q.ok _ _ h];exact xJv sz
 . split at h
   . rename_i hz;rw[zg hz,q.ok _ _ h];exact n3.refl _
   . simp at h
 . simp at h⟩
def fP (q:cJ β):dy β:=⟨fun b=>.agg (q.enc b),fun v=>match v with
 |.agg cs=>q.dec cs
 |_=>none,λ v n h=>by
 split at h
 . exact xK8 (q.ok _ _ h)
 . simp at h⟩
def iU:cJ Unit:=⟨fun _=>[],fun v=>match v with
 |[]=>some ()
 |_=>none,λ v n h=>by
 split at h
 . exact⟨rfl,λ i hi=>by simp at hi⟩
 . simp at h⟩
def cT (p:dy β) (q:cJ γ):cJ (β×γ):=⟨fun b=>p.enc b.1::q.enc b.2,fun v=>match v with
 |x::t=>match p.dec x with
  |some b=>match q.dec t with
   |some c=>some (b,c)
   |none=>none
  |none=>none
 |_=>none,λ v n h=>by
 split at h
 . split at h
   . rename_i hp;split at h
     . rename_i hq;cases h;obtain⟨h1,h2⟩:=q.ok _ _ hq;refine⟨by simp[h1],λ i hi=>?_⟩
       cases i with
       |zero=>exact p.ok _ _ hp
       |succ i=>exact h2 i (by simpa using hi)
     . simp at h
   . simp at h
 . simp at h⟩
def kw(pv:cJ β)(g:β->Bool×AV):List AV->Option (Bool×AV):=λ xs=>match pv.dec xs with|some b=>some (g b)|none=>none
def jl(pv:cJ β)(pb:bJ (List aC) γ)(g:β->γ->Bool×AV×List aC):List AV->List aC->Option (Bool×AV×List aC):=λ xs H=>match pv.dec xs with|some b=>(match pb.dec H with|some c=>some (g b c)|none=>none)|none=>none
def mG (live liveO:List Nat) (conv:List (Nat×Nat×TypeId)) (pv:bJ (List AV) β) (pb:bJ (List aC) γ) (g:β->γ->Bool×LR):Lp:=⟨live,liveO,conv,fun xs H=>match pv.dec xs with|some b=>(match pb.dec H with|some c=>some (g b c)|none=>none)|none=>none⟩
section
variable{P:Program}{Inv:IV}
variable {n:FuncId}
def tP{pv:cJ β}{g:β->Bool×AV}(h:∀b r,g b=(true,r)->Good P Inv n (pv.enc b) r):ga P Inv n (kw pv g):=λ xs r e=>by unfold kw at e;split at e;rename_i b hb;simp only[z6]at e;obtain⟨h1,h2⟩:=h b r e;exact⟨h1,λ w A vs hi ha hr=>h2 w A vs hi ha (Xm (pv.ok _ _ hb) hr)⟩;simp at e
variable {pb:bJ (List aC) γ}
def pR{pv:cJ β}{g:β->γ->Bool×AV×List aC}(h:∀b c r H',g b c=(true,r,H')->bG P Inv n (pv.enc b) (pb.enc c) r H'):fJ P Inv n (jl pv pb g):=λ xs H r H' e=>by unfold jl at e;split at e;rename_i b hb;split at e;rename_i c hc;simp only[z6]at e;rw[pb.ok _ _ hc];obtain⟨h1,h2⟩:=h b c r H' e;exact⟨h1,λ w0 w A M vs hi q hR hr=>h2 w0 w A M vs hi q hR (Xm (pv.ok _ _ hb) hr)⟩;simp at e;simp at e
def CW{nt:Nat}{l:Code}{live liveO:List Nat}{conv:List (Nat×Nat×TypeId)}{pv:bJ (List AV) β}{g:β->γ->Bool×LR}(h:∀b c r,g b c=(true,r)->fg P Inv l (λ e1 s1=>e1=r.eval.1/\s1=⟨aX nt (liveO.zip r.eval.2.1),r.eval.2.2⟩) ⟨aX nt (live.zip (pv.enc b)),pb.enc c⟩):dp P Inv nt l (mG live liveO conv pv pb g):=λ vals H r e=>by unfold mG at e;dsimp only at e;split at e;rename_i b hb;split at e;rename_i c hc;simp only[z6]at e;rw[pv.ok _ _ hb,pb.ok _ _ hc];exact h b c r e;simp at e;simp at e
end
def nP{x:Option α}{d:α}(h:x.isSome):x=some (x.getD d):=by cases x with|none=>simp at h|some y=>rfl
end Go.Sim
end
noncomputable section
namespace Go.Sim.M
open Go.RowKit Go.Proofs
def E0:cZ:=(((cZ.none.with 190 PG).with 95 P2).withM 130 Rd).withM 97 Po
def xM9:di Tryz.prog xQa E0:=(((xFK.with xwe).with xAj).withM xDv).withM xwS
end Go.Sim.M
end
noncomputable section
namespace Go.Sim
open Go.RowKit
def mq{α:Type}(f:α->AV)(a:Option α)(b:Option AV):Prop:=∀r,a=some r->∃x,b=some x/\n3 x (f r)
variable {b:Option AV}
def mq.none{α:Type}{f:α->AV}:mq f .none b:=λ r h=>by simp at h
def mq.some{α:Type}{f:α->AV}{a:α}{b:AV}(h:n3 b (f a)):mq f (Option.some a) (Option.some b):=λ r e=>by cases e;exact⟨b,rfl,h⟩
def mq.br{α:Type}{f:α->AV}{t:Bool}{a a':Option α}{b':Option AV}(h1:mq f a b)(h2:mq f a' b'):mq f (Sim.br t a a') (Sim.br t b b'):=by cases t<;>assumption
variable {Inv:IV}{P:Program}{args:List AV}
def Good.sub{f:FuncId}{r r':AV}(h:Good P Inv f args r)(hs:n3 r r'):Good P Inv f args r':=⟨h.1,λ w A vs hI hA q=>(h.2 w A vs hI hA q).mono λ e w'⟨v,he,hb,hr⟩=>⟨v,he,hb,hs w' A er v hr⟩⟩
variable {H:List aC}{frz:Bool}{k:Nat}{pm:Bool}{sz v v':Nat}{xs:List AV}
def bG.bump1{f:FuncId}{ty:TypeId}(Q:bW ty=false)(hv:v<v')(h:bG P Inv f args H (.osl (.b 0) v 0 k) [⟨v,sz,ty,xs,frz,pm⟩]):bG P Inv f args H (.osl (.b 0) v' 0 k) [⟨v',sz,ty,xs,frz,pm⟩]:=by
 refine⟨h.1,λ w0 w A M vs hI hB hR W=>(h.2 w0 w A M vs hI hB hR W).mono ?_⟩;rintro e w' ⟨u,A',M',rfl,h1,h2,h3,h4,h5⟩;obtain⟨m,g1,g2,g3,g4⟩:=aD.osl_inv h5;obtain⟨bx,q1,q2⟩:=h4.box _ m g1;have:bx=⟨v,sz,ty,xs,frz,pm⟩:=by have:=q1;rw[iQ]at this;simpa using this.symm
 subst this;have V:v=m.ver:=q2.ver;have O:aR M' (aV M' (.b 0) ⟨m.b,v',m.sz,m.cap,m.ty⟩):=CK g1 (.inr (by simp only;omega));have J:∀id m1,aV M' (.b 0) ⟨m.b,v',m.sz,m.cap,m.ty⟩ id=some m1->∃m0,M' id=some m0/\m1.b=m0.b/\m1.cap=m0.cap:=λ id m1 q=>by by_cases hi:id=.b 0;subst hi;simp[aV]at q;subst q;exact⟨m,g1,rfl,rfl⟩;exact⟨m1,by simpa[aV,hi]using q,rfl,rfl⟩
 have hR':HR w' A' (aV M' (.b 0) ⟨m.b,v',m.sz,m.cap,m.ty⟩) w0.heap.size [⟨v',sz,ty,xs,frz,pm⟩]:=by refine⟨λ id m1 q=>?_,λ id id' m1 m2 k1 k2 c1 c2 he=>?_,h4.lt⟩;by_cases hi:id=.b 0;(subst hi;have:m1=⟨m.b,v',m.sz,m.cap,m.ty⟩:=by simp[aV]at q;exact q.symm);subst this;have q3:=q2.mono (w':=w') (λ _=>rfl) (λ _ _ _=>rfl) (zd _) (λ _ _ h=>h) q2.guard O;exact⟨⟨v',sz,ty,xs,frz,pm⟩,rfl,rfl,q3.sz,q3.ty,q3.capm,q3.fits,q3.ok,q3.low,q3.lt,q3.cells,q3.guard⟩;(have Y:M' id=some m1:=by simpa[aV,hi]using q);(obtain⟨bx,k1,k2⟩:=h4.box id m1 Y;have k3:getB [⟨v',sz,ty,xs,frz,pm⟩] id=some bx:=by rw[<-k1];exact rM (H:=[⟨v,sz,ty,xs,frz,pm⟩]) (n:=0) (bx:=⟨v,sz,ty,xs,frz,pm⟩) (bx':=⟨v',sz,ty,xs,frz,pm⟩) rfl Q Q hi);exact⟨bx,k3,k2.mono (λ _=>rfl) (λ _ _ _=>rfl) (zd _) (λ _ _ h=>h) k2.guard O⟩;obtain⟨n1,a1,a2,a3⟩:=J id m1 k1;obtain⟨n2,b1,b2,b3⟩:=J id' m2 k2;exact h4.inj id id' n1 n2 a1 b1 Ω Ω (by rw[<-a2,<-b2,he])
 refine⟨u,A',aV M' (.b 0) ⟨m.b,v',m.sz,m.cap,m.ty⟩,rfl,h1,h2,h3.step ⟨zd _,λ _ _ _=>rfl,λ _ _ h=>h,λ _ _ h _=>h,O,⟨λ _ _ _=>rfl,λ id m1 q h0=>?_⟩⟩,hR',?_⟩;obtain⟨n1,a1,a2,a3⟩:=J id m1 q;exact .inl ⟨id,n1,a1,by omega,a2⟩;exact .osl u (.b 0) v' 0 k ⟨m.b,v',m.sz,m.cap,m.ty⟩ (by simp[aV]) (zd _) g3 λ _=>g4 V
def bG.weaken{f:FuncId}{H1 H2:List aC}{r r2:AV}(h:bG P Inv f args H r H1)(hw:∀w A M B v,HR w A M B H1->aD w A M v r->∃M',HR w A M' B H2/\Mv w A M w A M'/\aD w A M' v r2):bG P Inv f args H r2 H2:=by refine⟨h.1,λ w0 w A M vs hI hB hR q=>(h.2 w0 w A M vs hI hB hR q).mono ?_⟩;rintro e w' ⟨u,A',M',rfl,h1,h2,h3,h4,h5⟩;obtain⟨M2,g1,g2,g3⟩:=hw w' A' M' _ u h4 h5;exact⟨u,A',M2,rfl,h1,h2,h3.step g2,g1,g3⟩
def xHb{w:World}{A:Nat->Prop}{M:Id->Option MB}{B:Nat}(hR:HR w A M B H){n:Nat}{m:MB}{bx:aC}(hm:M (.b n)=some m)(hb:H[n]?=some bx)(V:bW bx.ty=false)(v:Nat)(hv:m.ver<v)(sz:Nat)(ty:TypeId)(O:bW ty=false):HR w A (aV M (.b n) ⟨m.b,v,sz,0,ty⟩) B (H.set n ⟨v,sz,ty,[],false,true⟩)/\Mv w A M w A (aV M (.b n) ⟨m.b,v,sz,0,ty⟩):=by
 have J:aR M (aV M (.b n) ⟨m.b,v,sz,0,ty⟩):=CK hm (.inr hv);have hc:∀{p:Prop},0<(0:Nat)->p:=λ h=>absurd h Ω;have q:∀i m1,aV M (.b n) ⟨m.b,v,sz,0,ty⟩ i=some m1->0<m1.cap->i≠.b n/\M i=some m1:=λ i m1 h1 h0=>by by_cases hi:i=.b n;subst hi;simp[aV]at h1;subst h1;exact absurd h0 Ψ;exact⟨hi,by simpa[aV,hi]using h1⟩
 refine⟨⟨λ i m1 h1=>?_,λ i i' m1 m2 h1 h2 c1 c2 he=>hR.inj i i' m1 m2 (q i m1 h1 c1).2 (q i' m2 h2 c2).2 c1 c2 he,hR.lt⟩,⟨zd _,λ _ _ _=>rfl,λ _ _ h=>h,λ _ _ h _=>h,J,⟨λ _ _ _=>rfl,λ i m1 h1 h0=>.inl ⟨i,m1,(q i m1 h1 h0).2,h0,rfl⟩⟩⟩⟩;by_cases hi:i=.b n;subst hi;have:m1=⟨m.b,v,sz,0,ty⟩:=by simp[aV]at h1;exact h1.symm
 subst this;exact⟨⟨v,sz,ty,[],false,true⟩,by rw[iQ,zL (j6 hb)],rfl,rfl,lZ O,zQ _,zQ _,λ x hx=>by simp at hx,hc,hc,hc,hc⟩;have W:M i=some m1:=by simpa[aV,hi]using h1
 obtain⟨Q,g1,g2⟩:=hR.box i m1 W;exact⟨Q,by rw[rM hb V O hi];exact g1,g2.mono (λ _=>rfl) (λ _ _ _=>rfl) (zd _) (λ _ _ h=>h) g2.guard J⟩
def bG.drop0{f:FuncId}{w V:Nat}{ty q:TypeId}{ys:List AV}{J Q:Bool}(O:bW ty=false)(hv:v<v')(h:bG P Inv f args H (.osl (.b 1) w 0 k) [⟨v,sz,ty,xs,frz,pm⟩,⟨w,V,q,ys,J,Q⟩]):bG P Inv f args H (.osl (.b 1) w 0 k) [⟨v',sz,ty,[],false,true⟩,⟨w,V,q,ys,J,Q⟩]:=h.weaken λ w1 A M B u hR hr=>by cases hm:M (.b 0)with|some m=>(obtain⟨bx,q1,q2⟩:=hR.box _ m hm;have hb:[(⟨v,sz,ty,xs,frz,pm⟩:aC),⟨w,V,q,ys,J,Q⟩][0]?=some ⟨v,sz,ty,xs,frz,pm⟩:=rfl;rw[iQ,hb]at q1;cases q1;obtain⟨g1,g2⟩:=xHb hR hm hb O v' (by have:v=m.ver:=q2.ver;omega) sz ty O;exact⟨_,g1,g2,g2.rel hr⟩)|none=>refine⟨M,⟨λ i m W=>?_,hR.inj,hR.lt⟩,Mv.refl,hr⟩;obtain⟨bx,q1,q2⟩:=hR.box i m W;refine⟨bx,?_,q2⟩;by_cases hi:i=.b 0;subst hi;rw[hm]at W;cases W;rw[<-q1];exact rM (H:=[⟨v,sz,ty,xs,frz,pm⟩,⟨w,V,q,ys,J,Q⟩]) (n:=0) (bx:=⟨v,sz,ty,xs,frz,pm⟩) (bx':=⟨v',sz,ty,[],false,true⟩) rfl O O hi
def bG.move0{f:FuncId}{w:Nat}{ty:TypeId}(q:bW ty=false)(hv:v<v')(h:bG P Inv f args H (.osl (.b 0) v 0 k) [⟨v,sz,ty,xs,frz,true⟩]):bG P Inv f args H (.osl (.b 1) w 0 k) [⟨v',sz,ty,[],false,true⟩,⟨w,sz,ty,xs,frz,true⟩]:=h.weaken λ w1 A M B u hR hr=>by
 obtain⟨m,g1,g2,g3,g4⟩:=aD.osl_inv hr;obtain⟨bx,q1,q2⟩:=hR.box _ m g1;have:bx=⟨v,sz,ty,xs,frz,true⟩:=by have:=q1;rw[iQ]at this;simpa using this.symm
 subst this;have Q:v=m.ver:=q2.ver;have W:M (.b 1)=none:=by cases h1:M (.b 1)with|none=>rfl|some m1=>obtain⟨b1,k1,_⟩:=hR.box _ m1 h1;rw[iQ]at k1;simp at k1
 have V:∀n i j m1,M (.r n i j)=some m1->n=0:=λ n i j m1 h1=>by obtain⟨b1,k1,_⟩:=hR.box _ m1 h1;obtain⟨b0,k2,_⟩:=tV k1;have:=j6 k2;simp at this;omega
 let M2:Id->Option MB:=aV (aV M (.b 0) ⟨m.b,v',sz,0,ty⟩) (.b 1) ⟨m.b,w,m.sz,m.cap,m.ty⟩;have e1:M2 (.b 1)=some ⟨m.b,w,m.sz,m.cap,m.ty⟩:=by simp[M2,aV]
 have e0:M2 (.b 0)=some ⟨m.b,v',sz,0,ty⟩:=by simp[M2,aV]
 have eo:∀i,i≠.b 0->i≠.b 1->M2 i=M i:=λ i h0 h1=>by simp[M2,aV,h0,h1]
 have J:aR M M2:=λ i m1 h1=>by by_cases h0:i=.b 0;subst h0;rw[g1]at h1;cases h1;exact⟨_,e0,.inr (by simp only;omega)⟩;by_cases h2:i=.b 1;subst h2;rw[W]at h1;cases h1;exact⟨m1,by rw[eo i h0 h2];exact h1,.inl rfl⟩
 have O:∀i m1,M2 i=some m1->0<m1.cap->i≠.b 0/\∃i0 m0,M i0=some m0/\m0.b=m1.b/\m0.cap=m1.cap/\(i=.b 1->i0=.b 0)/\(i≠.b 1->i0=i):=λ i m1 h1 h0=>by by_cases hi:i=.b 0;subst hi;rw[e0]at h1;cases h1;exact absurd h0 Ψ;refine⟨hi,?_⟩;by_cases h2:i=.b 1;subst h2;rw[e1]at h1;cases h1;exact⟨.b 0,m,g1,rfl,rfl,λ _=>rfl,λ h=>absurd rfl h⟩;rw[eo i hi h2]at h1;exact⟨i,m1,h1,rfl,rfl,λ h=>absurd h h2,λ _=>rfl⟩
 refine⟨M2,⟨λ i m1 h1=>?_,λ i i' m1 m2 h1 h2 c1 c2 he=>?_,hR.lt⟩,⟨zd _,λ _ _ _=>rfl,λ _ _ h=>h,λ _ _ h _=>h,J,⟨λ _ _ _=>rfl,λ i m1 h1 h0=>?_⟩⟩,?_⟩;by_cases hi:i=.b 0;subst hi;rw[e0]at h1;cases h1;have hc:∀{p:Prop},0<(0:Nat)->p:=λ h=>absurd h Ω
 exact⟨⟨v',sz,ty,[],false,true⟩,rfl,rfl,rfl,lZ q,zQ _,zQ _,λ x hx=>by simp at hx,hc,hc,hc,hc⟩;by_cases h2:i=.b 1;subst h2;rw[e1]at h1;cases h1;have q3:=q2.mono (w':=w1) (A':=A) (λ _=>rfl) (λ _ _ _=>rfl) (zd _) (λ _ _ h=>h) q2.guard J;refine⟨⟨w,sz,ty,xs,frz,true⟩,rfl,rfl,q3.sz,q3.ty,q3.capm,q3.fits,q3.ok,q3.low,q3.lt,λ h0=>?_,q3.guard⟩;obtain⟨c,c1,c2,c3⟩:=q3.cells h0;refine⟨c,c1,c2,λ i j hi hj=>?_⟩;have:=c3 i j hi hj;rw[jL q,jY q]at this;rw[jL q,jY (bx:=⟨w,sz,ty,xs,frz,true⟩) q];exact this;rw[eo i hi h2]at h1;obtain⟨b1,k1,k2⟩:=hR.box i m1 h1;cases i with|b n=>(rw[iQ]at k1;have:=j6 k1;have:n=0:=by simp at this;omega);subst this;exact absurd rfl hi|r n a b=>have hn:=V n a b m1 h1;subst hn;rw[pg (H:=[⟨v,sz,ty,xs,frz,true⟩]) (by rfl) q]at k1;cases k1;exact⟨fY,pg (by rfl) q,k2.mono (λ _=>rfl) (λ _ _ _=>rfl) (zd _) (λ _ _ h=>h) k2.guard J⟩
 obtain⟨a1,i0,n0,a2,a3,a4,a5,a6⟩:=O i m1 h1 c1;obtain⟨b1,j0,n1,b2,b3,b4,b5,b6⟩:=O i' m2 h2 c2;have:=hR.inj i0 j0 n0 n1 a2 b2 Ω Ω (by rw[a3,b3,he]);by_cases hi:i=.b 1;by_cases hj:i'=.b 1;rw[hi,hj];rw[a5 hi,b6 hj]at this;exact absurd this.symm b1;by_cases hj:i'=.b 1;rw[a6 hi,b5 hj]at this;exact absurd this a1;rw[a6 hi,b6 hj]at this;exact this;obtain⟨a1,i0,n0,a2,a3,a4,_,_⟩:=O i m1 h1 h0;exact .inl ⟨i0,n0,a2,by omega,a3.symm⟩;exact .osl u (.b 1) w 0 k ⟨m.b,w,m.sz,m.cap,m.ty⟩ e1 (zd _) g3 λ _=>g4 Q
end Go.Sim
end
noncomputable section
namespace Go.Sim
open Go.RowKit Go.Proofs
noncomputable abbrev P0:Program:=Tryz.prog
section
variable{α β γ ρ σ:Type}
def qI:bJ AV Int:=pInt .i64
def qL(k:Nat):bJ AV (List AV):=qM k bB
def qB{β:Type}(v s t:Nat)(q:bJ (List AV) β):bJ aC β:=fu v s t false true q
def bF(v s t:Nat)(x:List AV):aC:=⟨v,s,t,x,false,true⟩
def uI:dy Int:=sEq qI
def uL(k:Nat):dy (List AV):=mc k bB
def q1{α α0:Type}(a:bJ α α0):bJ (List α) (α0×Unit):=aZ a (bO)
def q2{α α0 α1:Type}(a:bJ α α0)(b:bJ α α1):bJ (List α) (α0×α1×Unit):=aZ a (aZ b (bO))
def q3{α α0 α1 α2:Type}(a:bJ α α0)(b:bJ α α1)(c:bJ α α2):bJ (List α) (α0×α1×α2×Unit):=aZ a (aZ b (aZ c (bO)))
def q4{α α0 α1 α2 α3:Type}(a:bJ α α0)(b:bJ α α1)(c:bJ α α2)(d:bJ α α3):bJ (List α) (α0×α1×α2×α3×Unit):=aZ a (aZ b (aZ c (aZ d (bO))))
def q5{α α0 α1 α2 α3 α4:Type}(a:bJ α α0)(b:bJ α α1)(c:bJ α α2)(d:bJ α α3)(e:bJ α α4):bJ (List α) (α0×α1×α2×α3×α4×Unit):=aZ a (aZ b (aZ c (aZ d (aZ e (bO)))))
def q6{α α0 α1 α2 α3 α4 α5:Type}(a:bJ α α0)(b:bJ α α1)(c:bJ α α2)(d:bJ α α3)(e:bJ α α4)(f:bJ α α5):bJ (List α) (α0×α1×α2×α3×α4×α5×Unit):=aZ a (aZ b (aZ c (aZ d (aZ e (aZ f (bO))))))
def q7{α α0 α1 α2 α3 α4 α5 α6:Type}(a:bJ α α0)(b:bJ α α1)(c:bJ α α2)(d:bJ α α3)(e:bJ α α4)(f:bJ α α5)(g:bJ α α6):bJ (List α) (α0×α1×α2×α3×α4×α5×α6×Unit):=aZ a (aZ b (aZ c (aZ d (aZ e (aZ f (aZ g (bO)))))))
def q8{α α0 α1 α2 α3 α4 α5 α6 α7:Type}(a:bJ α α0)(b:bJ α α1)(c:bJ α α2)(d:bJ α α3)(e:bJ α α4)(f:bJ α α5)(g:bJ α α6)(h:bJ α α7):bJ (List α) (α0×α1×α2×α3×α4×α5×α6×α7×Unit):=aZ a (aZ b (aZ c (aZ d (aZ e (aZ f (aZ g (aZ h (bO))))))))
def q9{α α0 α1 α2 α3 α4 α5 α6 α7 α8:Type}(a:bJ α α0)(b:bJ α α1)(c:bJ α α2)(d:bJ α α3)(e:bJ α α4)(f:bJ α α5)(g:bJ α α6)(h:bJ α α7)(i:bJ α α8):bJ (List α) (α0×α1×α2×α3×α4×α5×α6×α7×α8×Unit):=aZ a (aZ b (aZ c (aZ d (aZ e (aZ f (aZ g (aZ h (aZ i (bO)))))))))
def GS{α α0 α1 α2 α3 α4 α5 α6 α7 α8 α9:Type}(a:bJ α α0)(b:bJ α α1)(c:bJ α α2)(d:bJ α α3)(e:bJ α α4)(f:bJ α α5)(g:bJ α α6)(h:bJ α α7)(i:bJ α α8)(j:bJ α α9):bJ (List α) (α0×α1×α2×α3×α4×α5×α6×α7×α8×α9×Unit):=aZ a (aZ b (aZ c (aZ d (aZ e (aZ f (aZ g (aZ h (aZ i (aZ j (bO))))))))))
def u1{α0:Type}(a:dy α0):cJ (α0×Unit):=cT a (iU)
def u2{α0 α1:Type}(a:dy α0)(b:dy α1):cJ (α0×α1×Unit):=cT a (cT b (iU))
def u3{α0 α1 α2:Type}(a:dy α0)(b:dy α1)(c:dy α2):cJ (α0×α1×α2×Unit):=cT a (cT b (cT c (iU)))
def u4{α0 α1 α2 α3:Type}(a:dy α0)(b:dy α1)(c:dy α2)(d:dy α3):cJ (α0×α1×α2×α3×Unit):=cT a (cT b (cT c (cT d (iU))))
def u5{α0 α1 α2 α3 α4:Type}(a:dy α0)(b:dy α1)(c:dy α2)(d:dy α3)(e:dy α4):cJ (α0×α1×α2×α3×α4×Unit):=cT a (cT b (cT c (cT d (cT e (iU)))))
def u6{α0 α1 α2 α3 α4 α5:Type}(a:dy α0)(b:dy α1)(c:dy α2)(d:dy α3)(e:dy α4)(f:dy α5):cJ (α0×α1×α2×α3×α4×α5×Unit):=cT a (cT b (cT c (cT d (cT e (cT f (iU))))))
def u7{α0 α1 α2 α3 α4 α5 α6:Type}(a:dy α0)(b:dy α1)(c:dy α2)(d:dy α3)(e:dy α4)(f:dy α5)(g:dy α6):cJ (α0×α1×α2×α3×α4×α5×α6×Unit):=cT a (cT b (cT c (cT d (cT e (cT f (cT g (iU)))))))
def LR.okB:LR->Bool|.leaf e _ _=>(match e with|.normal=>false|_=>true)|.node _ a b=>a.okB&&b.okB
def LR.okB_ne:∀{r:LR},r.okB->r.eval.1≠.normal|.leaf e _ _,h=>λ c=>by have c:e=.normal:=c;subst c;simp[LR.okB]at h|.node true a b,h=>LR.okB_ne (r:=a) (by simp only[LR.okB,zf]at h;exact h.1)|.node false a b,h=>LR.okB_ne (r:=b) (by simp only[LR.okB,zf]at h;exact h.2)
abbrev cS(σ ρ:Type):=σ->Option (σ⊕ρ)
def inL{σ ρ:Type}(s:σ):Option (σ⊕ρ):=some (.inl s)
def inR{σ ρ:Type}(p:ρ):Option (σ⊕ρ):=some (.inr p)
def bU(l:List AV)(i:Int):Bool:=decide ((0:Int)<=i)&&decide (i<(↑l.length:Int))
def dJ(l:List AV)(i:Int)(s:Sh)(k:Nat):Bool:=decide (i.toNat<l.length)&&dw s ((l.getD i.toNat .top).cells.getD k .top)
def jh(l:List AV)(i:Int)(n:Nat)(ss:List Sh)(k:Nat):Bool:=decide (i.toNat<l.length)&&((l.getD i.toNat .top).cells.length==n&&ew ss (l.getD i.toNat .top).cells k)
def gC(l:List AV)(i:Int)(k:Nat):AV:=(l.getD i.toNat .top).cells.getD k .top
def gz(n:Nat)(l:List AV)(c z:Nat):Bool:=n==l.length&&(decide ((n+c)*z<=140737488355328)&&decide (n+c<=4611686018427387904))
abbrev RT:=Exit×List AV×List aC
abbrev HL(E:cZ)(nt pin:Nat)(ls:List TypeId)(lp:List (Nat×Lp))(fn:Func):Prop:=cV Tryz.prog (xQa.at pin) (E.fn nt pin (dQ ls) (iS lp)) (fn.body.getD .skip)
abbrev FX(E:cZ)(nt pin:Nat)(ls:List TypeId)(lp:List (Nat×Lp))(fn:Func)(pv:cJ β)(t:β->(T:Type)->T->(ρ->T)->T)(e:β->ρ->AV):Prop:=∀b,XF Tryz.prog (E.fn nt pin (dQ ls) (iS lp)) fn (fn.body.getD .skip) (pv.enc b)=t b (Option AV) none λ p=>some (e b p)
abbrev FE(t:β->(T:Type)->T->(ρ->T)->T)(e:β->ρ->AV):Prop:=∀b,cU (e b) (t b (Option ρ) none some) (t b (Option AV) none λ p=>some (e b p))
abbrev MX(E:cZ)(nt pin:Nat)(ls:List TypeId)(lp:List (Nat×Lp))(fn:Func)(pv:cJ β)(pb:bJ (List aC) γ)(t:β->γ->(T:Type)->T->(ρ->T)->T)(e:β->γ->ρ->AV×List aC):Prop:=∀b c,l6 Tryz.prog (E.fn nt pin (dQ ls) (iS lp)) fn (fn.body.getD .skip) (pv.enc b) (pb.enc c)=t b c (Option (AV×List aC)) none λ p=>some (e b c p)
abbrev ME(t:β->γ->(T:Type)->T->(ρ->T)->T)(e:β->γ->ρ->AV×List aC):Prop:=∀b c,cU (e b c) (t b c (Option ρ) none some) (t b c (Option (AV×List aC)) none λ p=>some (e b c p))
abbrev TX(E:cZ)(nt pin:Nat)(ls:List TypeId)(lp:List (Nat×Lp))(fn:Func)(pv:cJ β)(t:β->(ρ->Option AV)->Option AV)(e:β->ρ->AV):Prop:=∀b,XF Tryz.prog (E.fn nt pin (dQ ls) (iS lp)) fn (fn.body.getD .skip) (pv.enc b)=t b λ p=>some (e b p)
noncomputable abbrev LX(E:cZ)(nt pin:Nat)(ls:List TypeId)(lp:List (Nat×Lp))(l:Code)(lv lo:List Nat)(cv:List (Nat×Nat×TypeId))(pv:bJ (List AV) β)(pb:bJ (List aC) γ)(F:β->γ->(σ->Option (σ⊕ρ))×σ×(ρ->LR))(G:β->γ->σ->(β×γ)×((σ->Option RT)->(ρ->Option RT)->Option RT)):Prop:=∀b c s,XR Tryz.prog (E.fn nt pin (dQ ls) (iS lp)) lv lo cv l (pv.enc (G b c s).1.1) (pb.enc (G b c s).1.2)=(G b c s).2 (λ s=>some (encR (λ s=>(pv.enc (G b c s).1.1,pb.enc (G b c s).1.2)) (F b c).2.2 (.inl s))) λ p=>some (encR (λ s=>(pv.enc (G b c s).1.1,pb.enc (G b c s).1.2)) (F b c).2.2 (.inr p))
abbrev LE(pv:bJ (List AV) β)(pb:bJ (List aC) γ)(F:β->γ->(σ->Option (σ⊕ρ))×σ×(ρ->LR))(G:β->γ->σ->(β×γ)×((σ->Option RT)->(ρ->Option RT)->Option RT)):Prop:=∀b c s,cU (encR (λ s=>(pv.enc (G b c s).1.1,pb.enc (G b c s).1.2)) (F b c).2.2) ((F b c).1 s) ((G b c s).2 (λ s=>some (encR (λ s=>(pv.enc (G b c s).1.1,pb.enc (G b c s).1.2)) (F b c).2.2 (.inl s))) λ p=>some (encR (λ s=>(pv.enc (G b c s).1.1,pb.enc (G b c s).1.2)) (F b c).2.2 (.inr p)))
variable {a:Option α}{b:Option β}
def eV{f:α->β}(Y:Option β)(h:b=Y)(he:cU f a Y):cU f a b:=h▸he
abbrev LA:=List AV
variable {P:Program}
def kr{Inv:IV}{E:cZ}:∀c,c∈([]:List Code)->∀lp,E.lp (jv c)=some lp->dp P Inv E.nt c lp:=λ c h=>by simp at h
def fe{Inv:IV}{E:cZ}{l:Code}{ls:List Code}{lp0:Lp}(hok:dp P Inv E.nt l lp0)(ht:∀c,c∈ls->∀lp,E.lp (jv c)=some lp->dp P Inv E.nt c lp)(h:E.lp (jv l)=some lp0:=by kernel_rfl):∀c,c∈l::ls->∀lp,E.lp (jv c)=some lp->dp P Inv E.nt c lp:=λ c hc lp hs=>by rcases zC.1 hc with rfl|hc;rw[h,z6]at hs;subst hs;exact hok;exact ht c hc lp hs
def eN{f:α->β}:cU f none b:=cU.none
def eS{f:α->β}{a:α}{b:β}(h:b=f a):cU f (some a) (some b):=cU.some h
def eB{f:α->β}{t:Bool}{a':Option α}{b':Option β}(h1:cU f a b)(h2:cU f a' b'):cU f (br t a a') (br t b b'):=cU.br h1 h2
def yT(pv:cJ β)(t:β->(T:Type)->T->(ρ->T)->T)(e:β->ρ->AV)(d:ρ):List AV->Option (Bool×AV):=kw pv λ b=>((t b (Option ρ) none some).isSome,e b ((t b (Option ρ) none some).getD d))
def fmO(pv:cJ β)(pb:bJ (List aC) γ)(t:β->γ->(T:Type)->T->(ρ->T)->T)(e:β->γ->ρ->AV×List aC)(d:ρ):List AV->List aC->Option (Bool×AV×List aC):=jl pv pb λ b c=>((t b c (Option ρ) none some).isSome,e b c ((t b c (Option ρ) none some).getD d))
noncomputable def TM(lv lo:List Nat)(cv:List (Nat×Nat×TypeId))(pv:bJ (List AV) β)(pb:bJ (List aC) γ)(F:β->γ->(σ->Option (σ⊕ρ))×σ×(ρ->LR))(d:ρ):Lp:=mG lv lo cv pv pb λ b c=>((aB (F b c).1 (F b c).2.1).isSome,(F b c).2.2 ((aB (F b c).1 (F b c).2.1).getD d))
section
variable{E:cZ}
def yO{α:Type}(e:ρ->α)(a:ρ)(x:Option α):Prop:=x=some (e a)
def eT{α:Type}{e:ρ->α}{t:Bool}{a b:ρ}{x y:Option α}(h1:yO e a x)(h2:yO e b y):yO e (br t a b) (br t x y):=by cases t<;>assumption
def eU{α:Type}{e:ρ->α}{a:ρ}{x:α}(h:x=e a):yO e a (some x):=congrArg some h
def ftO(pv:cJ β)(f:β->ρ)(e:β->ρ->AV):List AV->Option (Bool×AV):=kw pv λ b=>(true,e b (f b))
variable {g:FuncId}
def ftC(h:di Tryz.prog xQa E){fn:Func}(hf:Tryz.prog.funcs[g]?=some fn)(nt pin:Nat)(ls:List TypeId)(lp:List (Nat×Lp)){pv:cJ β}{f:β->ρ}{e:β->ρ->AV}
  (hl:HL E nt pin ls lp fn) (t:β->(ρ->Option AV)->Option AV) (hx:TX E nt pin ls lp fn pv t e:=by intro b;kernel_rfl)
  (he:∀b,yO (e b) (f b) (t b λ p=>some (e b p)):=by intro b;repeat' first|apply eT|exact eU rfl)
  (hb:fn.body.isSome:=by exact rfl) (hn:(fn.name == "runtime.NumGoroutine")=false:=by kernel_rfl):ga Tryz.prog xQa g (ftO pv f e):=tP λ b r hh=>by
 obtain⟨_,h2⟩:=Prod.mk.inj hh;subst h2;exact yD (p:=pin) (CL xPD (xPE Tryz.prog _) rfl h.fn hf hb hn hl ((hx b).trans (he b)))
variable {Inv:IV}{c:Code}
def lk0(h:jX c=[]:=by kernel_rfl)(hc:((jJ c).all λ d=>(E.lp (gM d)).isNone):=by kernel_rfl):cV Tryz.prog Inv E c:=oI h hc
def fc{l:Code}{lp0:Lp}(hok:dp Tryz.prog Inv E.nt l lp0)(h:jX c=[l]:=by kernel_rfl)(he:E.lp (jv l)=some lp0:=by kernel_rfl)(hc:((jJ c).all λ d=>(E.lp (gM d)).isNone):=by kernel_rfl):cV Tryz.prog Inv E c:=r7 h (fe hok kr he) hc
structure EO where
 E:cZ
 ok:di Tryz.prog xQa E
def EO.w(e:EO){o:List AV->Option (Bool×AV)}(c:ga Tryz.prog xQa g o):EO:=⟨e.E.with g o,e.ok.with c⟩
def EO.wM(e:EO){o:List AV->List aC->Option (Bool×AV×List aC)}(c:fJ Tryz.prog xQa g o):EO:=⟨e.E.withM g o,e.ok.withM c⟩
variable {d:ρ}
def yS(h:di Tryz.prog xQa E){fn:Func}(hf:Tryz.prog.funcs[g]?=some fn)(nt pin:Nat)(ls:List TypeId)(lp:List (Nat×Lp)){pv:cJ β}{t:β->(T:Type)->T->(ρ->T)->T}{e:β->ρ->AV}
  (hl:HL E nt pin ls lp fn) (hx:FX E nt pin ls lp fn pv t e:=by intro b;kernel_rfl)
  (he:FE t e:=by intro b;repeat' first|apply eB|exact eN|exact eS rfl)
  (hb:fn.body.isSome:=by exact rfl) (hn:(fn.name == "runtime.NumGoroutine")=false:=by kernel_rfl):ga Tryz.prog xQa g (yT pv t e d):=tP λ b r hh=>by
 obtain⟨h1,h2⟩:=Prod.mk.inj hh;subst h2;exact yD (p:=pin) (CL xPD (xPE Tryz.prog _) rfl h.fn hf hb hn hl ((hx b).trans (he b _ (nP h1))))
variable {pb:bJ (List aC) γ}
def fmC(h:di Tryz.prog xQa E){fn:Func}(hf:Tryz.prog.funcs[g]?=some fn)(nt pin:Nat)(ls:List TypeId)(lp:List (Nat×Lp)){pv:cJ β}{t:β->γ->(T:Type)->T->(ρ->T)->T}{e:β->γ->ρ->AV×List aC}
  (hl:HL E nt pin ls lp fn) (hx:MX E nt pin ls lp fn pv pb t e:=by intro b c;kernel_rfl)
  (he:ME t e:=by intro b c;repeat' first|apply eB|exact eN|exact eS rfl)
  (hp:∀c,(pb.enc c).length=pin:=by exact λ _=>rfl) (hb:fn.body.isSome:=by exact rfl) (hn:(fn.name == "runtime.NumGoroutine")=false:=by kernel_rfl):fJ Tryz.prog xQa g (fmO pv pb t e d):=pR λ b c r H' hh=>by
 obtain⟨h1,h2⟩:=Prod.mk.inj hh;exact vB (p:=pin) (vA xPD (xPE Tryz.prog _) rfl h.fn (hp c) hf hb hn hl (((hx b c).trans (he b c _ (nP h1))).trans (congrArg some h2)))
def lpC(h:di Tryz.prog xQa E)(nt pin:Nat)(ls:List TypeId)(lp:List (Nat×Lp)){l:Code}{lv lo:List Nat}{cv:List (Nat×Nat×TypeId)}{pv:bJ (List AV) β}{F:β->γ->(σ->Option (σ⊕ρ))×σ×(ρ->LR)}
  (hl:cV Tryz.prog (xQa.at pin) (E.fn nt pin (dQ ls) (iS lp)) l) (G:β->γ->σ->(β×γ)×((σ->Option RT)->(ρ->Option RT)->Option RT))
  (hx:LX E nt pin ls lp l lv lo cv pv pb F G:=by intro b c s;kernel_rfl)
  (he:LE pv pb F G:=by intro b c s;repeat' first|apply eB|exact eN|exact eS rfl)
  (hM:∀b c,(G b c (F b c).2.1).1=(b,c):=by exact λ _ _=>rfl) (ho:∀b c r,((F b c).2.2 r).okB:=by exact λ _ _ _=>rfl):dp Tryz.prog (xQa.at pin) nt l (TM lv lo cv pv pb F d):=CW λ b c r hh=>by
 obtain⟨h1,h2⟩:=Prod.mk.inj hh;subst h2;have:=Ct xPD (xPE Tryz.prog _) rfl (h.fn (nt:=nt) (pin:=pin) (ls:=dQ ls) (lp:=iS lp)) hl (λ s=>(pv.enc (G b c s).1.1,pb.enc (G b c s).1.2)) (F b c).2.2 (λ p=>LR.okB_ne (ho b c p)) (λ s r hr=>(hx b c s).trans (he b c s r hr)) (nP (d:=d) h1)
 dsimp only at this;rw[hM b c]at this;exact this
structure LO (pin nt:Nat) (l:Code) where
 lp:Lp
 ok:dp Tryz.prog (xQa.at pin) nt l lp
noncomputable def EO.f(x:EO){fn:Func}(hf:Tryz.prog.funcs[g]?=some fn)(nt pin:Nat)(ls:List TypeId)(lp:List (Nat×Lp))
 (hl:HL x.E nt pin ls lp fn) (pv:cJ β) (t:β->(T:Type)->T->(ρ->T)->T) (e:β->ρ->AV) (d:ρ) (hx:FX x.E nt pin ls lp fn pv t e:=by intro b;kernel_rfl)
 (he:FE t e:=by intro b;repeat' first|apply eB|exact eN|exact eS rfl)
 (hb:fn.body.isSome:=by exact rfl) (hn:(fn.name == "runtime.NumGoroutine")=false:=by kernel_rfl):EO:=x.w (yS (d:=d) x.ok hf nt pin ls lp hl hx he hb hn)
noncomputable def EO.fM(x:EO){fn:Func}(hf:Tryz.prog.funcs[g]?=some fn)(nt pin:Nat)(ls:List TypeId)(lp:List (Nat×Lp))
 (hl:HL x.E nt pin ls lp fn) (pv:cJ β) (pb:bJ (List aC) γ) (t:β->γ->(T:Type)->T->(ρ->T)->T) (e:β->γ->ρ->AV×List aC) (d:ρ) (hx:MX x.E nt pin ls lp fn pv pb t e:=by intro b c;kernel_rfl)
 (he:ME t e:=by intro b c;repeat' first|apply eB|exact eN|exact eS rfl)
 (hp:∀c,(pb.enc c).length=pin:=by exact λ _=>rfl) (hb:fn.body.isSome:=by exact rfl) (hn:(fn.name == "runtime.NumGoroutine")=false:=by kernel_rfl):EO:=x.wM (fmC (d:=d) x.ok hf nt pin ls lp hl hx he hp hb hn)
noncomputable def EO.fT(x:EO){fn:Func}(hf:Tryz.prog.funcs[g]?=some fn)(nt pin:Nat)(ls:List TypeId)(lp:List (Nat×Lp))
 (hl:HL x.E nt pin ls lp fn) (t:β->(ρ->Option AV)->Option AV) (pv:cJ β) (f:β->ρ) (e:β->ρ->AV) (hx:TX x.E nt pin ls lp fn pv t e:=by intro b;kernel_rfl)
 (he:∀b,yO (e b) (f b) (t b λ p=>some (e b p)):=by intro b;repeat' first|apply eT|exact eU rfl)
 (hb:fn.body.isSome:=by exact rfl) (hn:(fn.name == "runtime.NumGoroutine")=false:=by kernel_rfl):EO:=x.w (ftC x.ok hf nt pin ls lp hl t hx he hb hn)
noncomputable def EO.l(x:EO)(nt pin:Nat)(ls:List TypeId)(lp:List (Nat×Lp))(fn:Func)(k:Nat)(hl:cV Tryz.prog (xQa.at pin) (x.E.fn nt pin (dQ ls) (iS lp)) (gE fn k))(lv lo:List Nat)(cv:List (Nat×Nat×TypeId))(pv:bJ (List AV) β)(pb:bJ (List aC) γ)(F:β->γ->(σ->Option (σ⊕ρ))×σ×(ρ->LR))(d:ρ)
 (G:β->γ->σ->(β×γ)×((σ->Option RT)->(ρ->Option RT)->Option RT))
 (hx:LX x.E nt pin ls lp (gE fn k) lv lo cv pv pb F G:=by intro b c s;kernel_rfl)
 (he:LE pv pb F G:=by intro b c s;repeat' first|apply eB|exact eN|exact eS rfl)
 (hM:∀b c,(G b c (F b c).2.1).1=(b,c):=by exact λ _ _=>rfl) (ho:∀b c r,((F b c).2.2 r).okB:=by exact λ _ _ _=>rfl):LO pin nt (gE fn k):=⟨TM lv lo cv pv pb F d,lpC x.ok nt pin ls lp hl G hx he hM ho⟩
def l7{ls:List Code}(hl:∀l,l∈ls->∀lp,E.lp (jv l)=some lp->dp Tryz.prog Inv E.nt l lp)(h:jX c=ls:=by kernel_rfl)(hc:((jJ c).all λ d=>(E.lp (gM d)).isNone):=by kernel_rfl):cV Tryz.prog Inv E c:=r7 h hl hc
end
end
end Go.Sim
end
noncomputable section
namespace Go.Sim
def aI:(∀{σ ρ:Type}(s:σ),(inL s:Option (σ⊕ρ))=some (.inl s))/\(∀{σ ρ:Type}(p:ρ),(inR p:Option (σ⊕ρ))=some (.inr p))/\(∀(l:List AV)(i:Int),bU l i=(decide ((0:Int)<=i)&&decide (i<(↑l.length:Int))))/\(∀(l:List AV)(i:Int)(s:Sh)(k:Nat),dJ l i s k=(decide (i.toNat<l.length)&&dw s ((l.getD i.toNat .top).cells.getD k .top)))/\(∀(l:List AV)(i:Int)(n:Nat)(ss:List Sh)(k:Nat),jh l i n ss k=(decide (i.toNat<l.length)&&((l.getD i.toNat .top).cells.length==n&&ew ss (l.getD i.toNat .top).cells k)))/\(∀(l:List AV)(i:Int)(k:Nat),gC l i k=(l.getD i.toNat .top).cells.getD k .top)/\(∀(n:Nat)(l:List AV)(c z:Nat),gz n l c z=(n==l.length&&(decide ((n+c)*z<=140737488355328)&&decide (n+c<=4611686018427387904)))):=⟨λ _=>rfl,λ _=>rfl,λ _ _=>rfl,λ _ _ _ _=>rfl,λ _ _ _ _ _=>rfl,λ _ _ _=>rfl,λ _ _ _ _=>rfl⟩
def bR:((∀{α β:Type}{l:List α}(f:α->β),(l.map f).length=l.length)/\(∀{T:Type}{a b:T},br true a b=a)/\(∀{T:Type}{a b:T},br false a b=b)/\(∀(h:Decidable True),@decide True h)/\(∀(h:Decidable False),@decide False h=false)/\(∀b:Bool,(b&&true)=b)/\(∀b:Bool,(true&&b)=b)/\((!true)=false)/\((!false))/\(∀n:Nat,(n:Int).toNat=n)/\(∀n:Nat,(0:Int)<=(n:Int))/\(∀{α:Type}{a:α},(some a).isSome)/\(∀{α:Type}{a b:α},(some a).getD b=a)/\(∀{α:Type}[BEq α][ReflBEq α](a:α),(a==a))/\(∀n:Nat,0+n=n)/\(∀n:Nat,n - 0=n))/\(∀{σ ρ:Type}(s:σ),(inL s:Option (σ⊕ρ))=some (.inl s))/\(∀{σ ρ:Type}(p:ρ),(inR p:Option (σ⊕ρ))=some (.inr p))/\(∀(l:List AV)(i:Int),bU l i=(decide ((0:Int)<=i)&&decide (i<(↑l.length:Int))))/\(∀(l:List AV)(i:Int)(s:Sh)(k:Nat),dJ l i s k=(decide (i.toNat<l.length)&&dw s ((l.getD i.toNat .top).cells.getD k .top)))/\(∀(l:List AV)(i:Int)(n:Nat)(ss:List Sh)(k:Nat),jh l i n ss k=(decide (i.toNat<l.length)&&((l.getD i.toNat .top).cells.length==n&&ew ss (l.getD i.toNat .top).cells k)))/\(∀(l:List AV)(i:Int)(k:Nat),gC l i k=(l.getD i.toNat .top).cells.getD k .top)/\(∀(n:Nat)(l:List AV)(c z:Nat),gz n l c z=(n==l.length&&(decide ((n+c)*z<=140737488355328)&&decide (n+c<=4611686018427387904)))):=⟨⟨za,rfl,rfl,λ h=>by simp,λ h=>by simp,zS,Bool.true_and,rfl,rfl,zN,Int.natCast_nonneg,rfl,rfl,λ a=>beq_self_eq_true a,zH,Nat.sub_zero⟩,aI⟩
def po:(∀{α:Type}{l:List α},l.drop 0=l)/\(∀{α:Type}{l:List α}{i:Nat},l.length<=i->l.take i=l)/\(∀n:Nat,0+n=n)/\(∀{α β:Type}{l:List α}(f:α->β),(l.map f).length=l.length)/\(∀n:Nat,n<=n)/\(∀(h:Decidable True),@decide True h)/\(∀b:Bool,(b&&true)=b)/\(∀{T:Type}{a b:T},br true a b=a)/\(∀{α:Type}{a:α},(some a).isSome)/\(∀{α:Type}{a b:α},(some a).getD b=a):=⟨zr,zi,zH,za,zd,λ h=>by simp,zS,rfl,rfl,rfl⟩
end Go.Sim
noncomputable def Go.Sim.M.xM8:Go.Sim.EO:=Go.Sim.EO.mk Go.Sim.M.E0 Go.Sim.M.xM9
end
noncomputable section
set_option maxRecDepth 100000
namespace Go.Sim.M
open Go.IntKind (i64 u64 u8)
open Go.RowKit Go.Proofs
def G6{T:Type}(a:List UInt8)(δ:T)(κ:Int×Nat×LA->T):T:=br (decide ((byteAVs a).length*1<=140737488355328)&&decide ((byteAVs a).length<=4611686018427387904)) (κ ((↑a.length:Int),(byteAVs a).length,byteAVs a)) δ
def rH(a:List UInt8):=G6 a none some
def xNb:EO:=xM8.fM Tryz.func94 19 1 [] [] lk0 (u2 (sEq (dL 0 0 0 0)) (sEq pStr)) (q1 (qB 0 2 111 (q1 (iE (q2 oj eF))))) (λ(_,a,_) (((_,_,_),_),_) _=>G6 a) (λ _ _ p=>(AV.tuple [AV.int .i64 p.1,.top],([⟨0,2,111,[AV.agg [AV.own 0 0 0 0,AV.osl 1 0 0 p.2.1]],false,false⟩,bF 0 1 5 p.2.2]:List aC))) (0,0,[])
def Of{T:Type}(a:List UInt8)(n:Nat)(b:LA)(δ:T)(κ:Int×Nat×LA->T):T:=br (n==b.length&&(decide ((n+(byteAVs a).length)*1<=140737488355328)&&decide (n+(byteAVs a).length<=4611686018427387904))) (κ ((↑a.length:Int),n+(byteAVs a).length,b++byteAVs a)) δ
def rF(a:List UInt8)(n:Nat)(b:LA):=Of a n b none some
def xNc:EO:=xNb.fM Tryz.func94 19 2 [] [] lk0 (u2 (sEq (dL 0 0 0 0)) (sEq pStr)) (q2 (fu 0 2 111 false false (q1 (iE (q2 (dL 0 0 0 0) (cC 1 0 0))))) (qB 0 1 5 bB)) (λ(_,a,_) (((_,n,_),_),b,_) _=>Of a n b) (λ _ _ p=>(AV.tuple [AV.int .i64 p.1,.top],([⟨0,2,111,[AV.agg [AV.own 0 0 0 0,AV.osl 1 1 0 p.2.1]],false,false⟩,bF 1 1 5 p.2.2]:List aC))) (0,0,[])
def xn9{T:Type}(a:List UInt8)(n:Nat)(b:LA)(δ:T)(κ:Int×Nat×LA->T):T:=br (n==b.length&&(decide ((n+(byteAVs a).length)*1<=140737488355328)&&decide (n+(byteAVs a).length<=4611686018427387904))) (κ ((↑a.length:Int),n+(byteAVs a).length,b++byteAVs a)) δ
def NR:EO:=xNc.fM Tryz.func94 19 2 [] [] lk0 (u2 (sEq (dL 0 0 0 0)) (sEq pStr)) (q2 (fu 0 2 111 false false (q1 (iE (q2 (dL 0 0 0 0) (cC 1 1 0))))) (qB 1 1 5 bB)) (λ(_,a,_) (((_,n,_),_),b,_) _=>xn9 a n b) (λ _ _ p=>(AV.tuple [AV.int .i64 p.1,.top],([⟨0,2,111,[AV.agg [AV.own 0 0 0 0,AV.osl 1 2 0 p.2.1]],false,false⟩,bF 2 1 5 p.2.2]:List aC))) (0,0,[])
def Ao:cZ:=NR.E.fn 17 1 (dQ []) (iS [])
def xnv:di P0 (xQa.at 1) Ao:=NR.ok.fn
def xm2:cV P0 (xQa.at Ao.pin) Ao (Tryz.f96.body.getD .skip):=oI Θ
def Oo(c:Int):Int:=((c))
def Yy(c:Int):Bool:=true
def YB{T:Type}(c:Int)(δ:T)(κ:Int->T):T:=κ (c)
def xpC(c:Int):fQ (Yy c) (l6 P0 Ao Tryz.f96 (Tryz.f96.body.getD .skip) [AV.own (0:Id) 0 0 0,AV.int .u8 c] [{ver:=0,sz:=2,ty:=(111:TypeId),xs:=[AV.agg [AV.nilptr,AV.nils]],frz:=false,pm:=true}]) ((.top,([⟨0,2,111,[AV.agg [AV.own 0 0 0 0,AV.osl 1 0 0 1]],false,false⟩,⟨0,1,5,[AV.int .u8 (Oo c)],false,true⟩]:List aC))):=by(have h:l6 P0 Ao Tryz.f96 (Tryz.f96.body.getD .skip) [AV.own (0:Id) 0 0 0,AV.int .u8 c] [{ver:=0,sz:=2,ty:=(111:TypeId),xs:=[AV.agg [AV.nilptr,AV.nils]],frz:=false,pm:=true}]=YB c none (λ(p:Int)=>some (((.top,([⟨0,2,111,[AV.agg [AV.own 0 0 0 0,AV.osl 1 0 0 1]],false,false⟩,⟨0,1,5,[AV.int .u8 p],false,true⟩]:List aC))):(AV×List aC))):=by kernel_rfl);rw[h];unfold Oo Yy YB;repeat' (first|exact fQ.none|exact fQ.tt rfl|exact fQ.some rfl|refine fQ.l ?_|refine fQ.r ?_|refine fQ.br (f:=λ(p:Int)=>(((.top,([⟨0,2,111,[AV.agg [AV.own 0 0 0 0,AV.osl 1 0 0 1]],false,false⟩,⟨0,1,5,[AV.int .u8 p],false,true⟩]:List aC))):(AV×List aC))) ?_ ?_|refine fQ.brt (f:=λ(p:Int)=>(((.top,([⟨0,2,111,[AV.agg [AV.own 0 0 0 0,AV.osl 1 0 0 1]],false,false⟩,⟨0,1,5,[AV.int .u8 p],false,true⟩]:List aC))):(AV×List aC))) ?_ ?_)
def xpB:LA->List aC->Option (Bool×AV×List aC):=jl (cT (sEq (dL 0 0 0 0)) (cT (sEq (pInt .u8)) iU)) (aZ (fu 0 2 (111:TypeId) false true (aZ (iE (aZ oj (aZ eF bO))) bO)) bO) λ(_,(c,_)) (((_,(_,_)),_),_)=>(true,((.top,([⟨0,2,111,[AV.agg [AV.own 0 0 0 0,AV.osl 1 0 0 1]],false,false⟩,⟨0,1,5,[AV.int .u8 (Oo c)],false,true⟩]:List aC))))
def xpA:fJ P0 xQa 96 (xpB):=pR λ b d h f e=>by obtain⟨_,⟨c,_⟩⟩:=b;obtain⟨⟨⟨_,⟨_,_⟩⟩,_⟩,_⟩:=d;obtain⟨g,a⟩:=Prod.mk.inj e;refine vB (p:=Ao.pin) (vA xPD (xPE P0 _) rfl xnv rfl Tryz.func96 rfl (by kernel_rfl) xm2 ((fQ.get (xpC _) rfl).trans ?_));exact congrArg some a
def xNd:EO:=NR.wM xpA
def YI{T:Type}(c:Int)(n:Nat)(a:LA)(δ:T)(κ:Nat×LA->T):T:=br (gz n a 1 1) (κ (n+1,a++[AV.int .u8 c])) δ
def Ht(c:Int)(n:Nat)(a:LA):=YI c n a none some
def xNe:EO:=xNd.fM Tryz.func96 17 2 [] [] lk0 (u2 (sEq (dL 0 0 0 0)) (sEq (pInt .u8))) (q2 (fu 0 2 111 false false (q1 (iE (q2 (dL 0 0 0 0) (cC 1 0 0))))) (qB 0 1 5 bB)) (λ(_,c,_) (((_,n,_),_),a,_) _=>YI c n a) (λ _ _ p=>(.top,([⟨0,2,111,[AV.agg [AV.own 0 0 0 0,AV.osl 1 1 0 p.1]],false,false⟩,bF 1 1 5 p.2]:List aC))) (0,[])
def Ok{T:Type}(c:Int)(n:Nat)(a:LA)(δ:T)(κ:Nat×LA->T):T:=br (gz n a 1 1) (κ (n+1,a++[AV.int .u8 c])) δ
def Hu(c:Int)(n:Nat)(a:LA):=Ok c n a none some
def xNf:EO:=xNe.fM Tryz.func96 17 2 [] [] lk0 (u2 (sEq (dL 0 0 0 0)) (sEq (pInt .u8))) (q2 (fu 0 2 111 false false (q1 (iE (q2 (dL 0 0 0 0) (cC 1 1 0))))) (qB 1 1 5 bB)) (λ(_,c,_) (((_,n,_),_),a,_) _=>Ok c n a) (λ _ _ p=>(.top,([⟨0,2,111,[AV.agg [AV.own 0 0 0 0,AV.osl 1 2 0 p.1]],false,false⟩,bF 2 1 5 p.2]:List aC))) (0,[])
def yo(a b:Int):Bool:=(br (decide (a>=0)) (br (decide (a<b)) ((decide (b<=1099511627776))) ((false))) ((false)))
def xz5{T:Type}(a b:Int)(δ:T)(κ:Bool->T):T:=br (decide (a>=0)) (br (decide (a<b)) (κ (decide (b<=1099511627776))) (κ (false))) (κ (false))
def NS:EO:=xNf.fT Tryz.func111 18 0 [] [] lk0 (λ((a,b,_),_)=>xz5 a b none) (u1 (fP (u2 uI uI))) (λ((a,b,_),_)=>yo a b) (λ _ p=>(AV.bool p))
def Ek(b:Int)(a:LA):=((a.getD (0+b.toNat) .top).cells.getD 0 .top).toInt
def OV(d:Int)(c:Nat)(b a:LA):=((rF (Lib.itoa (Ek d b)) c a).getD (0,0,[])).snd
def OU(d:Int)(c:Nat)(b a:LA):=Hu 32 (OV d c b a).fst (OV d c b a).snd
def OT(d:Int)(c:Nat)(b a:LA):=(OU d c b a).getD (0,[])
def Is{T:Type}(k:LA)(l j:Int)(e:Nat)(i c:Int)(d:Nat)(f g:Int)(h:List UInt8)(a b:LA)(δ:T)(κl:(Int×Nat×Int×Int×List UInt8×LA×LA)->T)(κr:(Nat×Int×Int×List UInt8×LA)->T):T:=br (decide (c<i)) (br (decide (0<=c)&&decide (c<(↑e:Int))) (br (decide (0+c.toNat<a.length)&&dw (Sh.int .i64) ((a.getD (0+c.toNat) .top).cells.getD 0 .top)) (br (decide ((-9223372036854775808)<=Ek c a)&&decide (Ek c a<=9223372036854775807)) (br ((rF (Lib.itoa (Ek c a)) d b).isSome) (br ((OU c d a b).isSome) (κl (i64.wrap (c+1),(OT c d a b).fst,f,g,h,a,(OT c d a b).snd)) δ) δ) δ) δ) δ) (κr (d,f,g,h,b))
def s9(k:LA)(l e:Int)(c:Nat)(f:Int):cS (Int×Nat×Int×Int×List UInt8×LA×LA) (Nat×Int×Int×List UInt8×LA):=λ(g,d,h,i,j,b,a)=>Is k l e c f g d h i j b a none inL inR
def H9:=NS.l 37 0 [] [] Tryz.f141 1 lk0 [3,5,8,9,10,21,22,23] [3,5,8,9,10] [] (q8 (dL 0 0 0 0) (dL 1 0 0 0) (qL 3) qI qI (cC 2 0 0) qI qI) (q4 (fu 0 2 111 false false (q1 (iE (q2 (dL 0 0 0 0) (cC 3 0 0))))) (qB 0 3 87 (q1 (iE (q3 qI qI pStr)))) (qB 0 1 3 bB) (qB 0 1 5 bB)) (λ(_,_,k,m,e,c,f,g,_) (((_,d,_),_),((h,i,j,_),_),b,a,_)=>(s9 k m e c f,(g,d,h,i,j,b,a),λ p=>(.leaf (.exit 2) [AV.own 0 0 0 0,AV.own 1 0 0 0,AV.list 3 k,AV.int .i64 m,AV.int .i64 e] [⟨0,2,111,[AV.agg [AV.own 0 0 0 0,AV.osl 2 0 0 p.1]],false,false⟩,bF 0 3 87 [AV.agg [AV.int .i64 p.2.1,AV.int .i64 p.2.2.1,AV.str p.2.2.2.1]],bF 0 1 5 p.2.2.2.2]))) (0,0,0,[],[]) λ(_,_,k,m,e,c,f,_,_) _ (g,d,h,i,j,b,a)=>((((),(),k,m,e,c,f,g,()),((((),d,()),()),((h,i,j,()),()),b,a,())),Is k m e c f g d h i j b a none)
def OS(b:LA)(e a:Int)(d:Nat)(c:LA):=aB (s9 b e a 3 3) (0,d,(gC b a 0).toInt,(gC b a 1).toInt,(gC b a 2).toStr,[AV.int .i64 (gC b a 0).toInt,AV.int .i64 (gC b a 1).toInt,AV.int .i64 (↑(gC b a 2).toStr.length:Int)],c)
def H8(d:LA)(e c:Int)(b:Nat)(a:LA):=(OS d e c b a).getD (0,0,0,[],[])
def OR(d:LA)(e c:Int)(b:Nat)(a:LA):=rF ((H8 d e c b a).snd.snd.snd).fst (H8 d e c b a).fst ((H8 d e c b a).snd.snd.snd).snd
def OQ(d:LA)(e c:Int)(b:Nat)(a:LA):=((OR d e c b a).getD (0,0,[])).snd
def Ir{T:Type}(d:LA)(e b:Int)(c:Nat)(a:LA)(δ:T)(κl:(Int×Nat×LA)->T)(κr:(Nat×LA)->T):T:=br (decide (b<e)) (br (bU d b) (br (jh d b 3 [Sh.int .i64,Sh.int .i64,Sh.str] 0) (br ((OS d e b c a).isSome) (br ((OR d e b c a).isSome) (κl (i64.wrap (b+1),(OQ d e b c a).fst,(OQ d e b c a).snd)) δ) δ) δ) δ) (κr (c,a))
def AC(d:LA)(e:Int):cS (Int×Nat×LA) (Nat×LA):=λ(c,b,a)=>Ir d e c b a none inL inR
def Zt:=NS.l 37 0 [] [(6,H9.lp)] Tryz.f141 0 (fc H9.ok) [3,8,9,10] [3] [] (q4 (dL 0 0 0 0) (qL 3) qI qI) (q2 (fu 0 2 111 false false (q1 (iE (q2 (dL 0 0 0 0) (cC 1 0 0))))) (qB 0 1 5 bB)) (λ(_,d,e,c,_) (((_,b,_),_),a,_)=>(AC d e,(c,b,a),λ p=>(.leaf (.exit 0) [AV.own 0 0 0 0] [⟨0,2,111,[AV.agg [AV.own 0 0 0 0,AV.osl 1 0 0 p.1]],false,false⟩,bF 0 1 5 p.2]))) (0,[]) λ(_,d,e,_,_) _ (c,b,a)=>((((),d,e,c,()),((((),b,()),()),a,())),Ir d e c b a none)
def uH(a:LA):=((a.getD 0 .top).cells.getD 0 .top).toInt
def PU(a:LA):=Ht 32 ((rH (Lib.itoa (uH a))).getD (0,0,[])).snd.fst ((rH (Lib.itoa (uH a))).getD (0,0,[])).snd.snd
def PT(a:LA):=(PU a).getD (0,[])
def PS(a:LA):=aB (s9 a (↑a.length:Int) 0 3 3) (1,(PT a).fst,uH a,((a.getD 0 .top).cells.getD 1 .top).toInt,((a.getD 0 .top).cells.getD 2 .top).toStr,[AV.int .i64 (uH a),AV.int .i64 ((a.getD 0 .top).cells.getD 1 .top).toInt,AV.int .i64 (↑((a.getD 0 .top).cells.getD 2 .top).toStr.length:Int)],(PT a).snd)
def IL(a:LA):=(PS a).getD (0,0,0,[],[])
def PR(a:LA):=rF ((IL a).snd.snd.snd).fst (IL a).fst ((IL a).snd.snd.snd).snd
def PQ(a:LA):=((PR a).getD (0,0,[])).snd
def PP(a:LA):=aB (AC a (↑a.length:Int)) (1,(PQ a).fst,(PQ a).snd)
def BE(a:LA):=(PP a).getD (0,[])
def P6{T:Type}(a:LA)(δ:T)(κ:List UInt8->T):T:=br (decide (0<(↑a.length:Int))) (br (decide (0<(↑a.length:Int))) (br (decide (0<a.length)&&((a.getD 0 .top).cells.length==3&&ew [Sh.int .i64,Sh.int .i64,Sh.str] (a.getD 0 .top).cells 0)) (br (decide ((-9223372036854775808)<=uH a)&&decide (uH a<=9223372036854775807)) (br ((rH (Lib.itoa (uH a))).isSome) (br ((PU a).isSome) (br ((PS a).isSome) (br ((PR a).isSome) (br ((PP a).isSome) (br (decide ((BE a).fst=((BE a).snd).length)&&isBytes ((BE a).snd)&&decide (((BE a).snd).length≠0)) (κ (strOf ((BE a).snd))) δ) δ) δ) δ) δ) δ) δ) δ) δ) (κ ([]))
def Ft(a:LA):=P6 a none some
def NT:EO:=NS.f Tryz.func141 37 0 [] [(6,H9.lp),(3,Zt.lp)] (l7 (fe Zt.ok (fe H9.ok kr))) (u1 (uL 3)) (λ(a,_) _=>P6 a) (λ _ p=>AV.str p) []
def EK(b:Int)(a:LA):=((a.getD (0+b.toNat) .top).cells.getD 0 .top).toInt
def Qt(d:Int)(c:Nat)(b a:LA):=((rF (Lib.itoa (EK d b)) c a).getD (0,0,[])).snd
def Qs(d:Int)(c:Nat)(b a:LA):=Hu 32 (Qt d c b a).fst (Qt d c b a).snd
def Qr(d:Int)(c:Nat)(b a:LA):=(Qs d c b a).getD (0,[])
def JS{T:Type}(k:LA)(l j:Int)(e:Nat)(i c:Int)(d:Nat)(f g:Int)(h:List UInt8)(a b:LA)(δ:T)(κl:(Int×Nat×Int×Int×List UInt8×LA×LA)->T)(κr:(Nat×Int×Int×List UInt8×LA)->T):T:=br (decide (c<i)) (br (decide (0<=c)&&decide (c<(↑e:Int))) (br (decide (0+c.toNat<a.length)&&dw (Sh.int .i64) ((a.getD (0+c.toNat) .top).cells.getD 0 .top)) (br (decide ((-9223372036854775808)<=EK c a)&&decide (EK c a<=9223372036854775807)) (br ((rF (Lib.itoa (EK c a)) d b).isSome) (br ((Qs c d a b).isSome) (κl (i64.wrap (c+1),(Qr c d a b).fst,f,g,h,a,(Qr c d a b).snd)) δ) δ) δ) δ) δ) (κr (d,f,g,h,b))
def tg(k:LA)(l e:Int)(c:Nat)(f:Int):cS (Int×Nat×Int×Int×List UInt8×LA×LA) (Nat×Int×Int×List UInt8×LA):=λ(g,d,h,i,j,b,a)=>JS k l e c f g d h i j b a none inL inR
def I4:=NT.l 37 0 [] [] Tryz.f62 1 lk0 [3,5,8,9,10,21,22,23] [3,5,8,9,10] [] (q8 (dL 0 0 0 0) (dL 1 0 0 0) (qL 3) qI qI (cC 2 0 0) qI qI) (q4 (fu 0 2 111 false false (q1 (iE (q2 (dL 0 0 0 0) (cC 3 0 0))))) (qB 0 3 87 (q1 (iE (q3 qI qI pStr)))) (qB 0 1 3 bB) (qB 0 1 5 bB)) (λ(_,_,k,m,e,c,f,g,_) (((_,d,_),_),((h,i,j,_),_),b,a,_)=>(tg k m e c f,(g,d,h,i,j,b,a),λ p=>(.leaf (.exit 2) [AV.own 0 0 0 0,AV.own 1 0 0 0,AV.list 3 k,AV.int .i64 m,AV.int .i64 e] [⟨0,2,111,[AV.agg [AV.own 0 0 0 0,AV.osl 2 0 0 p.1]],false,false⟩,bF 0 3 87 [AV.agg [AV.int .i64 p.2.1,AV.int .i64 p.2.2.1,AV.str p.2.2.2.1]],bF 0 1 5 p.2.2.2.2]))) (0,0,0,[],[]) λ(_,_,k,m,e,c,f,_,_) _ (g,d,h,i,j,b,a)=>((((),(),k,m,e,c,f,g,()),((((),d,()),()),((h,i,j,()),()),b,a,())),JS k m e c f g d h i j b a none)
def Qq(b:LA)(e a:Int)(d:Nat)(c:LA):=aB (tg b e a 3 3) (0,d,(gC b a 0).toInt,(gC b a 1).toInt,(gC b a 2).toStr,[AV.int .i64 (gC b a 0).toInt,AV.int .i64 (gC b a 1).toInt,AV.int .i64 (↑(gC b a 2).toStr.length:Int)],c)
def I3(d:LA)(e c:Int)(b:Nat)(a:LA):=(Qq d e c b a).getD (0,0,0,[],[])
def Qp(d:LA)(e c:Int)(b:Nat)(a:LA):=rF ((I3 d e c b a).snd.snd.snd).fst (I3 d e c b a).fst ((I3 d e c b a).snd.snd.snd).snd
def Qo(d:LA)(e c:Int)(b:Nat)(a:LA):=((Qp d e c b a).getD (0,0,[])).snd
def JR{T:Type}(d:LA)(e b:Int)(c:Nat)(a:LA)(δ:T)(κl:(Int×Nat×LA)->T)(κr:(Nat×LA)->T):T:=br (decide (b<e)) (br (bU d b) (br (jh d b 3 [Sh.int .i64,Sh.int .i64,Sh.str] 0) (br ((Qq d e b c a).isSome) (br ((Qp d e b c a).isSome) (κl (i64.wrap (b+1),(Qo d e b c a).fst,(Qo d e b c a).snd)) δ) δ) δ) δ) (κr (c,a))
def Bq(d:LA)(e:Int):cS (Int×Nat×LA) (Nat×LA):=λ(c,b,a)=>JR d e c b a none inL inR
def ZW:=NT.l 37 0 [] [(6,I4.lp)] Tryz.f62 0 (fc I4.ok) [3,8,9,10] [3] [] (q4 (dL 0 0 0 0) (qL 3) qI qI) (q2 (fu 0 2 111 false false (q1 (iE (q2 (dL 0 0 0 0) (cC 1 0 0))))) (qB 0 1 5 bB)) (λ(_,d,e,c,_) (((_,b,_),_),a,_)=>(Bq d e,(c,b,a),λ p=>(.leaf (.exit 0) [AV.own 0 0 0 0] [⟨0,2,111,[AV.agg [AV.own 0 0 0 0,AV.osl 1 0 0 p.1]],false,false⟩,bF 0 1 5 p.2]))) (0,[]) λ(_,d,e,_,_) _ (c,b,a)=>((((),d,e,c,()),((((),b,()),()),a,())),JR d e c b a none)
def u0(a:LA):=((a.getD 0 .top).cells.getD 0 .top).toInt
def Rs(a:LA):=Ht 32 ((rH (Lib.itoa (u0 a))).getD (0,0,[])).snd.fst ((rH (Lib.itoa (u0 a))).getD (0,0,[])).snd.snd
def Rr(a:LA):=(Rs a).getD (0,[])
def Rq(a:LA):=aB (tg a (↑a.length:Int) 0 3 3) (1,(Rr a).fst,u0 a,((a.getD 0 .top).cells.getD 1 .top).toInt,((a.getD 0 .top).cells.getD 2 .top).toStr,[AV.int .i64 (u0 a),AV.int .i64 ((a.getD 0 .top).cells.getD 1 .top).toInt,AV.int .i64 (↑((a.getD 0 .top).cells.getD 2 .top).toStr.length:Int)],(Rr a).snd)
def Ki(a:LA):=(Rq a).getD (0,0,0,[],[])
def Rp(a:LA):=rF ((Ki a).snd.snd.snd).fst (Ki a).fst ((Ki a).snd.snd.snd).snd
def Ro(a:LA):=((Rp a).getD (0,0,[])).snd
def Rn(a:LA):=aB (Bq a (↑a.length:Int)) (1,(Ro a).fst,(Ro a).snd)
def Cl(a:LA):=(Rn a).getD (0,[])
def RY{T:Type}(a:LA)(δ:T)(κ:List UInt8->T):T:=br (decide (0<(↑a.length:Int))) (br (decide (0<(↑a.length:Int))) (br (decide (0<a.length)&&((a.getD 0 .top).cells.length==3&&ew [Sh.int .i64,Sh.int .i64,Sh.str] (a.getD 0 .top).cells 0)) (br (decide ((-9223372036854775808)<=u0 a)&&decide (u0 a<=9223372036854775807)) (br ((rH (Lib.itoa (u0 a))).isSome) (br ((Rs a).isSome) (br ((Rq a).isSome) (br ((Rp a).isSome) (br ((Rn a).isSome) (br (decide ((Cl a).fst=((Cl a).snd).length)&&isBytes ((Cl a).snd)&&decide (((Cl a).snd).length≠0)) (κ (strOf ((Cl a).snd))) δ) δ) δ) δ) δ) δ) δ) δ) δ) (κ ([]))
def iP(a:LA):=RY a none some
def GF:EO:=NT.f Tryz.func62 37 0 [] [(6,I4.lp),(3,ZW.lp)] (l7 (fe ZW.ok (fe I4.ok kr))) (u1 (uL 3)) (λ(a,_) _=>RY a) (λ _ p=>AV.str p) []
def rZ(x:Int):Bool:=((x !=x))
def xDu{T:Type}(x:Int)(δ:T)(κ:Bool->T):T:=κ (x !=x)
def xNg:EO:=GF.fT Tryz.func138 6 0 [] [] lk0 (λ(x,_)=>xDu x none) (u1 uI) (λ(x,_)=>rZ x) (λ _ p=>(AV.bool p))
def pI(x y:Int):Int:=(br (rZ x) (br (rZ y) ((0)) (((-1)))) (br (rZ y) ((1)) (br (decide (x<y)) (((-1))) (br (decide (x>y)) ((1)) ((0))))))
def xBn{T:Type}(x y:Int)(δ:T)(κ:Int->T):T:=br (rZ x) (br (rZ y) (κ (0)) (κ ((-1)))) (br (rZ y) (κ (1)) (br (decide (x<y)) (κ ((-1))) (br (decide (x>y)) (κ (1)) (κ (0)))))
def NU:EO:=xNg.fT Tryz.func110 20 0 [] [] lk0 (λ(x,y,_)=>xBn x y none) (u2 uI uI) (λ(x,y,_)=>pI x y) (λ _ p=>(AV.int .i64 p))
def yz:cZ:=NU.E.fn 18 0 (dQ []) (iS [])
def xB7:di P0 (xQa.at 0) yz:=NU.ok.fn
def xyG:cV P0 (xQa.at yz.pin) yz (Tryz.f109.body.getD .skip):=r7 (ls:=[gE Tryz.f109 0]) Θ (fun l a lp b=>by
 simp only[zC,List.not_mem_nil,or_false]at a;rcases a with rfl
 . rw[show yz.lp (jv (gE Tryz.f109 0))=none by kernel_rfl]at b
   simp at b)
def yK(a b c:Int):Int:=(br (a !=0) ((a)) (br (b !=0) ((b)) (br (c !=0) ((c)) ((0)))))
def xyH(a b c:Int):Bool:=true
def UM{T:Type}(a b c:Int)(δ:T)(κ:Int->T):T:=br (a !=0) (κ (a)) (br (b !=0) (κ (b)) (br (c !=0) (κ (c)) (κ (0))))
def xIy(a b c:Int):fQ (xyH a b c) (XF P0 yz Tryz.f109 (Tryz.f109.body.getD .skip) [AV.list 1 [AV.int .i64 a,AV.int .i64 b,AV.int .i64 c]]) (AV.int .i64 (yK a b c)):=by(have h:XF P0 yz Tryz.f109 (Tryz.f109.body.getD .skip) [AV.list 1 [AV.int .i64 a,AV.int .i64 b,AV.int .i64 c]]=UM a b c none (λ(p:Int)=>some ((AV.int .i64 p):AV)):=by kernel_rfl);rw[h];unfold yK xyH UM;repeat' (first|exact fQ.none|exact fQ.tt rfl|exact fQ.some rfl|refine fQ.l ?_|refine fQ.r ?_|refine fQ.br (f:=λ(p:Int)=>((AV.int .i64 p):AV)) ?_ ?_|refine fQ.brt (f:=λ(p:Int)=>((AV.int .i64 p):AV)) ?_ ?_)
def xIw:LA->Option (Bool×AV):=kw (cT (mc 1 (aZ (pInt .i64) (aZ (pInt .i64) (aZ (pInt .i64) bO)))) iU) λ((a,(b,(c,_))),_)=>(true,(AV.int .i64 (yK a b c)))
def xIv:ga P0 xQa 109 (xIw):=tP λ e h f=>by obtain⟨⟨a,⟨b,⟨c,_⟩⟩⟩,_⟩:=e;obtain⟨g,d⟩:=Prod.mk.inj f;refine yD (p:=yz.pin) (CL xPD (xPE P0 _) rfl xB7 Tryz.func109 rfl (by kernel_rfl) xyG ((fQ.get (xIy _ _ _) rfl).trans ?_));exact congrArg some d
def xNh:EO:=NU.w xIv
def oD(a b:Int)(c:List UInt8)(d e:Int)(f:List UInt8):Int:=((yK (pI a d) (pI b e) (Lib.compareBytes c f)))
def xzF{T:Type}(a b:Int)(c:List UInt8)(d e:Int)(f:List UInt8)(δ:T)(κ:Int->T):T:=κ (yK (pI a d) (pI b e) (Lib.compareBytes c f))
def XG:EO:=xNh.fT Tryz.func173 22 0 [] [] lk0 (λ((a,b,c,_),(d,e,f,_),_)=>xzF a b c d e f none) (u2 (fP (u3 uI uI (sEq pStr))) (fP (u3 uI uI (sEq pStr)))) (λ((a,b,c,_),(d,e,f,_),_)=>oD a b c d e f) (λ _ p=>(AV.int .i64 p))
def AB(c b:LA)(a:Int):=oD (gC b a 0).toInt (gC b a 1).toInt (gC b a 2).toStr (gC c a 0).toInt (gC c a 1).toInt (gC c a 2).toStr
def Au{T:Type}(e c b:LA)(d a:Int)(δ:T)(κl:(Int)->T)(κr:(Bool×(Int)×(Unit))->T):T:=br (decide (a<d)) (br (bU b a) (br (jh b a 3 [Sh.int .i64,Sh.int .i64,Sh.str] 0) (br (decide (a>=c.length)) (κr (true,(1),())) (br (bU c a) (br (jh c a 3 [Sh.int .i64,Sh.int .i64,Sh.str] 0) (br (AB c b a !=0) (κr (true,(AB c b a),())) (κl (i64.wrap (a+1)))) δ) δ)) δ) δ) (κr (false,0,()))
def sT(d e a:LA)(b:Int):cS (Int) (Bool×(Int)×(Unit)):=λ(c)=>Au d e a b c none inL inR
def YU:=XG.l 39 0 [] [] Tryz.f172 0 lk0 [0,1,2,11,12,13] [0,1,6] [] (q6 (qL 3) (qL 3) (ez 173 bO) (qL 3) qI qI) bO (λ(d,e,_,a,b,c,_) _=>(sT d e a b,(c),λ p=>(.node p.1 (.leaf .ret [AV.list 3 d,AV.list 3 e,AV.int .i64 p.2.1] []) (.leaf (.exit 0) [AV.list 3 d,AV.list 3 e,.top] [])))) (false,0,()) λ(d,e,_,a,b,_,_) _ (c)=>(((d,e,(),a,b,c,()),()),Au d e a b c none)
def OI{T:Type}(a b:LA)(δ:T)(κ:Int->T):T:=br ((aB (sT a b a (↑a.length:Int)) 0).isSome) (br (((aB (sT a b a (↑a.length:Int)) 0).getD (false,0,())).fst) (κ (((aB (sT a b a (↑a.length:Int)) 0).getD (false,0,())).snd.fst)) (br (decide ((↑a.length:Int)<(↑b.length:Int))) (κ ((-1))) (κ (0)))) δ
def O7(a b:LA):=OI a b none some
def xNi:EO:=XG.f Tryz.func172 39 0 [] [(2,YU.lp)] (fc YU.ok) (u3 (uL 3) (uL 3) (sEq (ez (173:FuncId) bO))) (λ(a,b,_,_) _=>OI a b) (λ _ p=>AV.int .i64 p) 0
def Qy{T:Type}(a b:LA)(δ:T)(κ:Int->T):T:=br ((O7 a b).isSome) (κ ((O7 a b).getD 0)) δ
def J4(a b:LA):=Qy a b none some
def xNj:EO:=xNi.f Tryz.func144 8 0 [] [] lk0 (u2 (uL 3) (uL 3)) (λ(a,b,_) _=>Qy a b) (λ _ p=>AV.int .i64 p) 0
def Pr{T:Type}(a c b d:LA)(δ:T)(κ:Int->T):T:=br ((J4 a b).isSome) (κ ((J4 a b).getD 0)) δ
def tm(c a d b:LA):=Pr c a d b none some
def NW:EO:=xNj.f Tryz.func143 10 0 [] [] lk0 (u2 (fP (u2 (uL 3) (uL 2))) (fP (u2 (uL 3) (uL 2)))) (λ((c,a,_),(d,b,_),_) _=>Pr c a d b) (λ _ p=>AV.int .i64 p) 0
def Og(a:Nat)(j:Int):=decide (0<=i64.wrap (j - 1))&&decide (i64.wrap (j - 1)<(↑a:Int))
def G9(j:Int):Nat:=0+(i64.wrap (j - 1)).toNat
def Oh(a:Nat)(j:Int):=decide (0<=j)&&decide (j<(↑a:Int))
def Ym(j:Int)(a:LA):=decide (0+j.toNat<a.length)
def Yk(j:Int)(a:LA):=Ym j a&&((a.getD (0+j.toNat) .top).cells.length==2&&ew [Sh.list 3,Sh.list 2] (a.getD (0+j.toNat) .top).cells 0)
def y9(j:Int)(a:LA):=(a.getD (G9 j) .top).cells
def Yi(j:Int)(a:LA):=decide (G9 j<a.length)&&((y9 j a).length==2&&ew [Sh.list 3,Sh.list 2] (y9 j a) 0)
def Yj(j:Int)(a:LA):=tm ((a.getD (0+j.toNat) .top).cells.getD 0 .top).toList ((a.getD (0+j.toNat) .top).cells.getD 1 .top).toList ((y9 j a).getD 0 .top).toList ((y9 j a).getD 1 .top).toList
def Yl(j:Int)(a:LA):=a.set (0+j.toNat) (AV.agg [AV.list 3 ((y9 j a).getD 0 .top).toList,AV.list 2 ((y9 j a).getD 1 .top).toList])
def Yo{T:Type}(d:Nat)(a b i j:Int)(c:LA)(δ:T)(κl:(Int×LA)->T)(κr:(LA)->T):T:=br (decide (j>a)) (br (Oh d j) (br (Yk j c) (br (Og d j) (br (Yi j c) (br ((Yj j c).isSome) (br (decide ((Yj j c).getD 0<0)) (br (Og d j) (br (Yi j c) (br (Oh d j) (br (Yk j c) (br (Oh d j) (br (Ym j c) (br (Og d j) (br (decide (G9 j<(Yl j c).length)) (κl (i64.wrap (j - 1),(Yl j c).set (G9 j) (AV.agg [AV.list 3 ((c.getD (0+j.toNat) .top).cells.getD 0 .top).toList,AV.list 2 ((c.getD (0+j.toNat) .top).cells.getD 1 .top).toList]))) δ) δ) δ) δ) δ) δ) δ) δ) (κr (c))) δ) δ) δ) δ) δ) (κr (c))
def G1(d:Nat)(a b i:Int):cS (Int×LA) (LA):=λ(j,c)=>Yo d a b i j c none inL inR
def G8:=NW.l 53 1 [148] [] Tryz.f188 1 lk0 [0,1,2,3,8,9] [0,1,2,3,8] [] (q6 (cC 0 0 0) qI qI (ez 143 bO) qI qI) (q1 (qB 0 2 148 bB)) (λ(c,a,b,_,i,j,_) (d,_)=>(G1 c a b i,(j,d),λ p=>(.leaf (.exit 2) [AV.osl 0 0 0 c,AV.int .i64 a,AV.int .i64 b,AV.func 143 [],AV.int .i64 i] [bF 0 2 148 p]))) [] λ(c,a,b,_,i,_,_) _ (j,d)=>(((c,a,b,(),i,j,()),(d,())),Yo c a b i j d none)
def Yn{T:Type}(d:Nat)(a b i:Int)(c:LA)(δ:T)(κl:(Int×LA)->T)(κr:(LA)->T):T:=br (decide (i<b)) (br ((aB (G1 d a b i) (i,c)).isSome) (κl (i64.wrap (i+1),(aB (G1 d a b i) (i,c)).getD [])) δ) (κr (c))
def G0(d:Nat)(a b:Int):cS (Int×LA) (LA):=λ(i,c)=>Yn d a b i c none inL inR
def Yh:=NW.l 53 1 [148] [(4,G8.lp)] Tryz.f188 0 (fc G8.ok) [0,1,2,3,8] [] [] (q5 (cC 0 0 0) qI qI (ez 143 bO) qI) (q1 (qB 0 2 148 bB)) (λ(d,a,b,_,i,_) (c,_)=>(G0 d a b,(i,c),λ p=>(.leaf (.exit 0) [] [bF 0 2 148 p]))) [] λ(d,a,b,_,_,_) _ (i,c)=>(((d,a,b,(),i,()),(c,())),Yn d a b i c none)
def Om{T:Type}(n:Nat)(a b:Int)(c:LA)(δ:T)(κ:LA->T):T:=br ((aB (G0 n a b) (i64.wrap (a+1),c)).isSome) (κ ((aB (G0 n a b) (i64.wrap (a+1),c)).getD [])) δ
def Aq(n:Nat)(a b:Int)(c:LA):=Om n a b c none some
def XH:EO:=NW.fM Tryz.func188 53 1 [148] [(4,G8.lp),(1,Yh.lp)] (l7 (fe Yh.ok (fe G8.ok kr))) (u4 (sEq (cC 0 0 0)) uI uI (sEq (ez (143:FuncId) bO))) (q1 (qB 0 2 148 bB)) (λ(n,a,b,_,_) (c,_) _=>Om n a b c) (λ _ _ p=>(AV.tuple [],([bF 0 2 148 p]:List aC))) []
def Yv(a i:Int)(b:LA):=decide (0+(i64.wrap (a+i)).toNat<b.length)
def G4(a i:Int)(b:LA):=(b.getD (0+(i64.wrap (a+i)).toNat) .top).cells
def Yw(b:Nat)(a i:Int):=decide (0<=i64.wrap (a+i))&&decide (i64.wrap (a+i)<(↑b:Int))
def Yx(a:Nat)(b i:Int):=decide (0<=i64.wrap (b+i))&&decide (i64.wrap (b+i)<(↑a:Int))
def G5(b i:Int):Nat:=0+(i64.wrap (b+i)).toNat
def G3(b i:Int)(a:LA):=(a.getD (G5 b i) .top).cells
def Yu(a b i:Int)(c:LA):=c.set (0+(i64.wrap (a+i)).toNat) (AV.agg [AV.list 3 ((G3 b i c).getD 0 .top).toList,AV.list 2 ((G3 b i c).getD 1 .top).toList])
def Yp{T:Type}(d:Nat)(a b n i:Int)(c:LA)(δ:T)(κl:(Int×LA)->T)(κr:(LA)->T):T:=br (decide (i<n)) (br (Yx d b i) (br (decide (G5 b i<c.length)&&((G3 b i c).length==2&&ew [Sh.list 3,Sh.list 2] (G3 b i c) 0)) (br (Yw d a i) (br (Yv a i c&&((G4 a i c).length==2&&ew [Sh.list 3,Sh.list 2] (G4 a i c) 0)) (br (Yw d a i) (br (Yv a i c) (br (Yx d b i) (br (decide (G5 b i<(Yu a b i c).length)) (κl (i64.wrap (i+1),(Yu a b i c).set (G5 b i) (AV.agg [AV.list 3 ((G4 a i c).getD 0 .top).toList,AV.list 2 ((G4 a i c).getD 1 .top).toList]))) δ) δ) δ) δ) δ) δ) δ) δ) (κr (c))
def G7(d:Nat)(a b n:Int):cS (Int×LA) (LA):=λ(i,c)=>Yp d a b n i c none inL inR
def Yt:=XH.l 38 1 [148] [] Tryz.f213 0 lk0 [0,1,2,3,10] [] [] (q5 (cC 0 0 0) qI qI qI qI) (q1 (qB 0 2 148 bB)) (λ(d,a,b,n,i,_) (c,_)=>(G7 d a b n,(i,c),λ p=>(.leaf (.exit 0) [] [bF 0 2 148 p]))) [] λ(d,a,b,n,_,_) _ (i,c)=>(((d,a,b,n,i,()),(c,())),Yp d a b n i c none)
def On{T:Type}(n:Nat)(a b k:Int)(c:LA)(δ:T)(κ:LA->T):T:=br ((aB (G7 n a b k) (0,c)).isSome) (κ ((aB (G7 n a b k) (0,c)).getD [])) δ
def up(n:Nat)(a b k:Int)(c:LA):=On n a b k c none some
def XI:EO:=XH.fM Tryz.func213 38 1 [148] [(1,Yt.lp)] (fc Yt.ok) (u5 (sEq (cC 0 0 0)) uI uI uI (sEq (ez (143:FuncId) bO))) (q1 (qB 0 2 148 bB)) (λ(n,a,b,k,_,_) (c,_) _=>On n a b k c) (λ _ _ p=>(AV.tuple [],([bF 0 2 148 p]:List aC))) []
def YR{T:Type}(b:Nat)(m i j:Int)(a:LA)(δ:T)(κl:(Int×Int×LA)->T)(κr:(Int×LA)->T):T:=br (i !=j) (br (decide (i>j)) (br ((up b (i64.wrap (m - i)) m j a).isSome) (κl (i64.wrap (i - j),j,(up b (i64.wrap (m - i)) m j a).getD [])) δ) (br ((up b (i64.wrap (m - i)) (i64.wrap (i64.wrap (m+j) - i)) i a).isSome) (κl (i,i64.wrap (j - i),(up b (i64.wrap (m - i)) (i64.wrap (i64.wrap (m+j) - i)) i a).getD [])) δ)) (κr (i,a))
def Oi(b:Nat)(m:Int):cS (Int×Int×LA) (Int×LA):=λ(i,j,a)=>YR b m i j a none inL inR
def YP:=XI.l 58 1 [148] [] Tryz.f206 0 lk0 [0,2,4,10,11] [0,2,4,10] [] (q5 (cC 0 0 0) qI (ez 143 bO) qI qI) (q1 (qB 0 2 148 bB)) (λ(a,m,_,i,j,_) (b,_)=>(Oi a m,(i,j,b),λ p=>(.leaf (.exit 0) [AV.osl 0 0 0 a,AV.int .i64 m,AV.func 143 [],AV.int .i64 p.1] [bF 0 2 148 p.2]))) (0,[]) λ(a,m,_,_,_,_) _ (i,j,b)=>(((a,m,(),i,j,()),(b,())),YR a m i j b none)
def DX(n:Nat)(a m b:Int)(c:LA):=aB (Oi n m) (i64.wrap (m - a),i64.wrap (b - m),c)
def OB(n:Nat)(a m b:Int)(c:LA):=up n (i64.wrap (m - (((DX n a m b c).getD (0,[])).fst))) m (((DX n a m b c).getD (0,[])).fst) ((DX n a m b c).getD (0,[])).snd
def Oq{T:Type}(n:Nat)(a m b:Int)(c:LA)(δ:T)(κ:LA->T):T:=br ((DX n a m b c).isSome) (br ((OB n a m b c).isSome) (κ ((OB n a m b c).getD [])) δ) δ
def xJ(n:Nat)(a m b:Int)(c:LA):=Oq n a m b c none some
def tY:EO:=XI.fM Tryz.func206 58 1 [148] [(2,YP.lp)] (fc YP.ok) (u5 (sEq (cC 0 0 0)) uI uI uI (sEq (ez (143:FuncId) bO))) (q1 (qB 0 2 148 bB)) (λ(n,a,m,b,_,_) (c,_) _=>Oq n a m b c) (λ _ _ p=>(AV.tuple [],([bF 0 2 148 p]:List aC))) []
def Al(i j:Int):=i64.wrap ((u64.wrap (i64.wrap (i+j))).fdiv 2)
def Hj(i j:Int)(a:LA):=(a.getD (0+(Al i j).toNat) .top).cells
def Yq(a i j:Int)(b:LA):=tm ((Hj i j b).getD 0 .top).toList ((Hj i j b).getD 1 .top).toList ((b.getD (0+a.toNat) .top).cells.getD 0 .top).toList ((b.getD (0+a.toNat) .top).cells.getD 1 .top).toList
def YL{T:Type}(c:Nat)(a i j:Int)(b:LA)(δ:T)(κl:(Int×Int×LA)->T)(κr:(Int×LA)->T):T:=br (decide (i<j)) (br (decide (0<=Al i j)&&decide (Al i j<(↑c:Int))) (br (decide (0+(Al i j).toNat<b.length)&&((Hj i j b).length==2&&ew [Sh.list 3,Sh.list 2] (Hj i j b) 0)) (br (decide (0<=a)&&decide (a<(↑c:Int))) (br (decide (0+a.toNat<b.length)&&((b.getD (0+a.toNat) .top).cells.length==2&&ew [Sh.list 3,Sh.list 2] (b.getD (0+a.toNat) .top).cells 0)) (br ((Yq a i j b).isSome) (br (decide ((Yq a i j b).getD 0<0)) (κl (i64.wrap (Al i j+1),j,b)) (κl (i,Al i j,b))) δ) δ) δ) δ) δ) (κr (i,b))
def DN(c:Nat)(a:Int):cS (Int×Int×LA) (Int×LA):=λ(i,j,b)=>YL c a i j b none inL inR
def xi:=tY.l 220 1 [148] [] Tryz.f189 0 lk0 [0,1,4,10,11] [0,1,10] [] (q5 (cC 0 0 0) qI (ez 143 bO) qI qI) (q1 (qB 0 2 148 bB)) (λ(b,a,_,i,j,_) (c,_)=>(DN b a,(i,j,c),λ p=>(.leaf (.exit 0) [AV.osl 0 0 0 b,AV.int .i64 a,AV.int .i64 p.1] [bF 0 2 148 p.2]))) (0,[]) λ(b,a,_,_,_,_) _ (i,j,c)=>(((b,a,(),i,j,()),(c,())),YL b a i j c none)
def Ys(a:Nat)(k:Int):=decide (0<=i64.wrap (k+1))&&decide (i64.wrap (k+1)<(↑a:Int))
def Hl(k:Int):Nat:=0+(i64.wrap (k+1)).toNat
def YC(k:Int)(a:LA):=decide (0+k.toNat<a.length)
def Hk(k:Int)(a:LA):=(a.getD (Hl k) .top).cells
def Yr(k:Int)(a:LA):=a.set (0+k.toNat) (AV.agg [AV.list 3 ((Hk k a).getD 0 .top).toList,AV.list 2 ((Hk k a).getD 1 .top).toList])
def YM{T:Type}(b:Nat)(i k:Int)(a:LA)(δ:T)(κl:(Int×LA)->T)(κr:(LA)->T):T:=br (decide (k<i64.wrap (i - 1))) (br (Ys b k) (br (decide (Hl k<a.length)&&((Hk k a).length==2&&ew [Sh.list 3,Sh.list 2] (Hk k a) 0)) (br (decide (0<=k)&&decide (k<(↑b:Int))) (br (YC k a&&((a.getD (0+k.toNat) .top).cells.length==2&&ew [Sh.list 3,Sh.list 2] (a.getD (0+k.toNat) .top).cells 0)) (br (decide (0<=k)&&decide (k<(↑b:Int))) (br (YC k a) (br (Ys b k) (br (decide (Hl k<(Yr k a).length)) (κl (i64.wrap (k+1),(Yr k a).set (Hl k) (AV.agg [AV.list 3 ((a.getD (0+k.toNat) .top).cells.getD 0 .top).toList,AV.list 2 ((a.getD (0+k.toNat) .top).cells.getD 1 .top).toList]))) δ) δ) δ) δ) δ) δ) δ) δ) (κr (a))
def Od(b:Nat)(i:Int):cS (Int×LA) (LA):=λ(k,a)=>YM b i k a none inL inR
def Am:=tY.l 220 1 [148] [(3,xi.lp)] Tryz.f189 1 lk0 [0,10,13] [] [] (q3 (cC 0 0 0) qI qI) (q1 (qB 0 2 148 bB)) (λ(b,i,k,_) (a,_)=>(Od b i,(k,a),λ p=>(.leaf (.exit 2) [] [bF 0 2 148 p]))) [] λ(b,i,_,_) _ (k,a)=>(((b,i,k,()),(a,())),YM b i k a none)
def An(i j:Int):=i64.wrap ((u64.wrap (i64.wrap (i+j))).fdiv 2)
def Hm(i j:Int)(a:LA):=(a.getD (0+(An i j).toNat) .top).cells
def YD(m i j:Int)(a:LA):=tm ((a.getD (0+m.toNat) .top).cells.getD 0 .top).toList ((a.getD (0+m.toNat) .top).cells.getD 1 .top).toList ((Hm i j a).getD 0 .top).toList ((Hm i j a).getD 1 .top).toList
def YN{T:Type}(b:Nat)(m i j:Int)(a:LA)(δ:T)(κl:(Int×Int×LA)->T)(κr:(Int×LA)->T):T:=br (decide (i<j)) (br (decide (0<=m)&&decide (m<(↑b:Int))) (br (decide (0+m.toNat<a.length)&&((a.getD (0+m.toNat) .top).cells.length==2&&ew [Sh.list 3,Sh.list 2] (a.getD (0+m.toNat) .top).cells 0)) (br (decide (0<=An i j)&&decide (An i j<(↑b:Int))) (br (decide (0+(An i j).toNat<a.length)&&((Hm i j a).length==2&&ew [Sh.list 3,Sh.list 2] (Hm i j a) 0)) (br ((YD m i j a).isSome) (br (!decide ((YD m i j a).getD 0<0)) (κl (i64.wrap (An i j+1),j,a)) (κl (i,An i j,a))) δ) δ) δ) δ) δ) (κr (i,a))
def DO(b:Nat)(m:Int):cS (Int×Int×LA) (Int×LA):=λ(i,j,a)=>YN b m i j a none inL inR
def DR:=tY.l 220 1 [148] [(3,xi.lp),(9,Am.lp)] Tryz.f189 2 lk0 [0,2,4,14,15] [0,2,14] [] (q5 (cC 0 0 0) qI (ez 143 bO) qI qI) (q1 (qB 0 2 148 bB)) (λ(a,m,_,i,j,_) (b,_)=>(DO a m,(i,j,b),λ p=>(.leaf (.exit 4) [AV.osl 0 0 0 a,AV.int .i64 m,AV.int .i64 p.1] [bF 0 2 148 p.2]))) (0,[]) λ(a,m,_,_,_,_) _ (i,j,b)=>(((a,m,(),i,j,()),(b,())),YN a m i j b none)
def YF(a:Nat)(k:Int):=decide (0<=i64.wrap (k - 1))&&decide (i64.wrap (k - 1)<(↑a:Int))
def Hc(k:Int):Nat:=0+(i64.wrap (k - 1)).toNat
def YG(k:Int)(a:LA):=decide (0+k.toNat<a.length)
def Hb(k:Int)(a:LA):=(a.getD (Hc k) .top).cells
def YE(k:Int)(a:LA):=a.set (0+k.toNat) (AV.agg [AV.list 3 ((Hb k a).getD 0 .top).toList,AV.list 2 ((Hb k a).getD 1 .top).toList])
def Yz{T:Type}(b:Nat)(i k:Int)(a:LA)(δ:T)(κl:(Int×LA)->T)(κr:(LA)->T):T:=br (decide (k>i)) (br (YF b k) (br (decide (Hc k<a.length)&&((Hb k a).length==2&&ew [Sh.list 3,Sh.list 2] (Hb k a) 0)) (br (decide (0<=k)&&decide (k<(↑b:Int))) (br (YG k a&&((a.getD (0+k.toNat) .top).cells.length==2&&ew [Sh.list 3,Sh.list 2] (a.getD (0+k.toNat) .top).cells 0)) (br (decide (0<=k)&&decide (k<(↑b:Int))) (br (YG k a) (br (YF b k) (br (decide (Hc k<(YE k a).length)) (κl (i64.wrap (k - 1),(YE k a).set (Hc k) (AV.agg [AV.list 3 ((a.getD (0+k.toNat) .top).cells.getD 0 .top).toList,AV.list 2 ((a.getD (0+k.toNat) .top).cells.getD 1 .top).toList]))) δ) δ) δ) δ) δ) δ) δ) δ) (κr (a))
def Oe(b:Nat)(i:Int):cS (Int×LA) (LA):=λ(k,a)=>Yz b i k a none inL inR
def Ha:=tY.l 220 1 [148] [(3,xi.lp),(9,Am.lp),(15,DR.lp)] Tryz.f189 3 lk0 [0,14,17] [] [] (q3 (cC 0 0 0) qI qI) (q1 (qB 0 2 148 bB)) (λ(b,i,k,_) (a,_)=>(Oe b i,(k,a),λ p=>(.leaf (.exit 6) [] [bF 0 2 148 p]))) [] λ(b,i,_,_) _ (k,a)=>(((b,i,k,()),(a,())),Yz b i k a none)
def rE(a r:Int):=i64.wrap ((u64.wrap (i64.wrap (a+r))).fdiv 2)
def Hd(c b r:Int)(a:LA):=(a.getD (0+(i64.wrap (c - rE b r)).toNat) .top).cells
def Hg(b r:Int)(a:LA):=(a.getD (0+(rE b r).toNat) .top).cells
def YH(c b r:Int)(a:LA):=tm ((Hd c b r a).getD 0 .top).toList ((Hd c b r a).getD 1 .top).toList ((Hg b r a).getD 0 .top).toList ((Hg b r a).getD 1 .top).toList
def YA{T:Type}(e:Nat)(a m b g n f c r:Int)(d:LA)(δ:T)(κl:(Int×Int×LA)->T)(κr:(Int×LA)->T):T:=br (decide (c<r)) (br (decide (0<=i64.wrap (f - rE c r))&&decide (i64.wrap (f - rE c r)<(↑e:Int))) (br (decide (0+(i64.wrap (f - rE c r)).toNat<d.length)&&((Hd f c r d).length==2&&ew [Sh.list 3,Sh.list 2] (Hd f c r d) 0)) (br (decide (0<=rE c r)&&decide (rE c r<(↑e:Int))) (br (decide (0+(rE c r).toNat<d.length)&&((Hg c r d).length==2&&ew [Sh.list 3,Sh.list 2] (Hg c r d) 0)) (br ((YH f c r d).isSome) (br (!decide ((YH f c r d).getD 0<0)) (κl (i64.wrap (rE c r+1),r,d)) (κl (c,rE c r,d))) δ) δ) δ) δ) δ) (κr (c,d))
def G2(d:Nat)(a m b f n g:Int):cS (Int×Int×LA) (Int×LA):=λ(e,r,c)=>YA d a m b f n g e r c none inL inR
def Oj:=tY.l 220 1 [148] [(3,xi.lp),(9,Am.lp),(15,DR.lp),(21,Ha.lp)] Tryz.f189 4 lk0 [0,1,2,3,4,18,19,20,21,22] [0,1,2,3,4,18,19,20] [] (GS (cC 0 0 0) qI qI qI (ez 143 bO) qI qI qI qI qI) (q1 (qB 0 2 148 bB)) (λ(c,a,m,b,_,f,n,e,r,g,_) (d,_)=>(G2 c a m b f n g,(e,r,d),λ p=>(.leaf (.exit 8) [AV.osl 0 0 0 c,AV.int .i64 a,AV.int .i64 m,AV.int .i64 b,AV.func 143 [],AV.int .i64 f,AV.int .i64 n,AV.int .i64 p.1] [bF 0 2 148 p.2]))) (0,[]) λ(c,a,m,b,_,f,n,_,_,g,_) _ (e,r,d)=>(((c,a,m,b,(),f,n,e,r,g,()),(d,())),YA c a m b f n g e r d none)
def Ol(R:Nat->Int->Int->Int->LA->Option (LA)):LA->List aC->Option (Bool×AV×List aC):=jl (cT (sEq (cC 0 0 0)) (cT (sEq (pInt .i64)) (cT (sEq (pInt .i64)) (cT (sEq (pInt .i64)) (cT (sEq (ez (143:FuncId) bO)) iU))))) (aZ (fu 0 2 (148:TypeId) false true bB) bO) λ(n,(a,(m,(b,(_,_))))) (c,_)=>((R n a m b c).isSome,(AV.tuple [],([⟨0,2,148,((R n a m b c).getD []),false,true⟩]:List aC)))
def Hi(R:Nat->Int->Int->Int->LA->Option (LA)):Prop:=fJ P0 xQa 189 (Ol R)
def qN(R:Nat->Int->Int->Int->LA->Option (LA)):cZ:=(tY.E.withM 189 (Ol R)).fn 220 1 (dQ [148]) (iS [(3,xi.lp),(9,Am.lp),(15,DR.lp),(21,Ha.lp),(33,Oj.lp)])
def xpo(R:Nat->Int->Int->Int->LA->Option (LA))(a:Hi R):di P0 (xQa.at 1) (qN R):=(tY.ok.withM a).fn
def xns (R:Nat->Int->Int->Int->LA->Option (LA)) (c:Hi R):cV P0 (xQa.at (qN R).pin) (qN R) (Tryz.f189.body.getD .skip):=r7 (ls:=[gE Tryz.f189 0,gE Tryz.f189 1,gE Tryz.f189 2,gE Tryz.f189 3,gE Tryz.f189 4]) Θ (fun l b lp a=>by
 simp only[zC,List.not_mem_nil,or_false]at b;rcases b with rfl|rfl|rfl|rfl|rfl
 . rw[show (qN R).lp (jv (gE Tryz.f189 0))=some (xi.lp) by kernel_rfl]at a
   simp only[z6]at a;subst a;exact xi.ok
 . rw[show (qN R).lp (jv (gE Tryz.f189 1))=some (Am.lp) by kernel_rfl]at a
   simp only[z6]at a;subst a;exact Am.ok
 . rw[show (qN R).lp (jv (gE Tryz.f189 2))=some (DR.lp) by kernel_rfl]at a
   simp only[z6]at a;subst a;exact DR.ok
 . rw[show (qN R).lp (jv (gE Tryz.f189 3))=some (Ha.lp) by kernel_rfl]at a
   simp only[z6]at a;subst a;exact Ha.ok
 . rw[show (qN R).lp (jv (gE Tryz.f189 4))=some (Oj.lp) by kernel_rfl]at a
   simp only [z6] at a;subst a;exact Oj.ok)
def eL(a b:Int):=i64.wrap ((u64.wrap (i64.wrap (a+b))).fdiv 2)
def Ah(n:Nat)(a m:Int)(b:LA):=aB (Oe n ((aB (DO n m) (a,m,b)).getD (0,[])).fst) (m,((aB (DO n m) (a,m,b)).getD (0,[])).snd)
def Ai(n:Nat)(a m b:Int)(c:LA):=aB (Od n ((aB (DN n a) (m,b,c)).getD (0,[])).fst) (a,((aB (DN n a) (m,b,c)).getD (0,[])).snd)
def xo(n:Nat)(a m b:Int)(c:LA):=aB (G2 n a m b (eL a b) (i64.wrap (eL a b+m)) (i64.wrap (i64.wrap (eL a b+m) - 1))) (i64.wrap (i64.wrap (eL a b+m) - b),eL a b,c)
def xp(n:Nat)(a m b:Int)(c:LA):=aB (G2 n a m b (eL a b) (i64.wrap (eL a b+m)) (i64.wrap (i64.wrap (eL a b+m) - 1))) (a,m,c)
def lO(n:Nat)(a m b:Int)(c:LA):=((xo n a m b c).getD (0,[])).fst
def lQ(n:Nat)(a m b:Int)(c:LA):=((xp n a m b c).getD (0,[])).fst
def nQ(n:Nat)(a m b:Int)(c:LA):=((xo n a m b c).getD (0,[])).snd
def nR(n:Nat)(a m b:Int)(c:LA):=((xp n a m b c).getD (0,[])).snd
def ng(n:Nat)(a m b:Int)(c:LA):=i64.wrap (i64.wrap (eL a b+m) - lO n a m b c)
def nh(n:Nat)(a m b:Int)(c:LA):=i64.wrap (i64.wrap (eL a b+m) - lQ n a m b c)
def Ad(n:Nat)(a m b:Int)(c:LA):=decide (lO n a m b c<eL a b)
def Ae(n:Nat)(a m b:Int)(c:LA):=decide (a<lO n a m b c)
def Af(n:Nat)(a m b:Int)(c:LA):=decide (lQ n a m b c<eL a b)
def Ag(n:Nat)(a m b:Int)(c:LA):=decide (a<lQ n a m b c)
def ur(n:Nat)(a m b:Int)(c:LA):=decide (eL a b<ng n a m b c)
def ut(n:Nat)(a m b:Int)(c:LA):=decide (ng n a m b c<b)
def uv(n:Nat)(a m b:Int)(c:LA):=decide (eL a b<nh n a m b c)
def uw(n:Nat)(a m b:Int)(c:LA):=decide (nh n a m b c<b)
def pD(n:Nat)(a m b:Int)(c:LA):=(xJ n (lO n a m b c) m (ng n a m b c) (nQ n a m b c)).getD []
def pE(n:Nat)(a m b:Int)(c:LA):=(xJ n (lQ n a m b c) m (nh n a m b c) (nR n a m b c)).getD []
def Aj(R:Nat->Int->Int->Int->LA->Option (LA))(n:Nat)(a m b:Int)(c:LA):Option (LA):=R n (eL a b) (nh n a m b c) b ((R n a (lQ n a m b c) (eL a b) (pE n a m b c)).getD [])
def Ak(R:Nat->Int->Int->Int->LA->Option (LA))(n:Nat)(a m b:Int)(c:LA):Option (LA):=R n (eL a b) (ng n a m b c) b ((R n a (lO n a m b c) (eL a b) (pD n a m b c)).getD [])
def xd{T:Type}(R:Nat->Int->Int->Int->LA->Option (LA))(n:Nat)(a m b:Int)(c:LA)(δ:T)(κ:LA->T):T:=br (ur n a m b c) (br (ut n a m b c) (br ((R n (eL a b) (ng n a m b c) b (pD n a m b c)).isSome) (κ ((R n (eL a b) (ng n a m b c) b (pD n a m b c)).getD [])) δ) (κ (pD n a m b c))) (κ (pD n a m b c))
def xe{T:Type}(R:Nat->Int->Int->Int->LA->Option (LA))(n:Nat)(a m b:Int)(c:LA)(δ:T)(κ:LA->T):T:=br (uv n a m b c) (br (uw n a m b c) (br ((R n (eL a b) (nh n a m b c) b (pE n a m b c)).isSome) (κ ((R n (eL a b) (nh n a m b c) b (pE n a m b c)).getD [])) δ) (κ (pE n a m b c))) (κ (pE n a m b c))
def xf{T:Type}(R:Nat->Int->Int->Int->LA->Option (LA))(n:Nat)(a m b:Int)(c:LA)(δ:T)(κ:LA->T):T:=br (ur n a m b c) (br (ut n a m b c) (br ((R n (eL a b) (ng n a m b c) b (nQ n a m b c)).isSome) (κ ((R n (eL a b) (ng n a m b c) b (nQ n a m b c)).getD [])) δ) (κ (nQ n a m b c))) (κ (nQ n a m b c))
def wZ{T:Type}(R:Nat->Int->Int->Int->LA->Option (LA))(n:Nat)(a m b:Int)(c:LA)(δ:T)(κ:LA->T):T:=br (Ae n a m b c) (br (Ad n a m b c) (br ((R n a (lO n a m b c) (eL a b) (nQ n a m b c)).isSome) (br (ur n a m b c) (br (ut n a m b c) (br ((R n (eL a b) (ng n a m b c) b ((R n a (lO n a m b c) (eL a b) (nQ n a m b c)).getD [])).isSome) (κ ((R n (eL a b) (ng n a m b c) b ((R n a (lO n a m b c) (eL a b) (nQ n a m b c)).getD [])).getD [])) δ) (κ ((R n a (lO n a m b c) (eL a b) (nQ n a m b c)).getD []))) (κ ((R n a (lO n a m b c) (eL a b) (nQ n a m b c)).getD []))) δ) (xf R n a m b c δ κ)) (xf R n a m b c δ κ)
def xg{T:Type}(R:Nat->Int->Int->Int->LA->Option (LA))(n:Nat)(a m b:Int)(c:LA)(δ:T)(κ:LA->T):T:=br (uv n a m b c) (br (uw n a m b c) (br ((R n (eL a b) (nh n a m b c) b (nR n a m b c)).isSome) (κ ((R n (eL a b) (nh n a m b c) b (nR n a m b c)).getD [])) δ) (κ (nR n a m b c))) (κ (nR n a m b c))
def xc{T:Type}(R:Nat->Int->Int->Int->LA->Option (LA))(n:Nat)(a m b:Int)(c:LA)(δ:T)(κ:LA->T):T:=br (Ag n a m b c) (br (Af n a m b c) (br ((R n a (lQ n a m b c) (eL a b) (nR n a m b c)).isSome) (br (uv n a m b c) (br (uw n a m b c) (br ((R n (eL a b) (nh n a m b c) b ((R n a (lQ n a m b c) (eL a b) (nR n a m b c)).getD [])).isSome) (κ ((R n (eL a b) (nh n a m b c) b ((R n a (lQ n a m b c) (eL a b) (nR n a m b c)).getD [])).getD [])) δ) (κ ((R n a (lQ n a m b c) (eL a b) (nR n a m b c)).getD []))) (κ ((R n a (lQ n a m b c) (eL a b) (nR n a m b c)).getD []))) δ) (xg R n a m b c δ κ)) (xg R n a m b c δ κ)
def xq{T:Type}(R:Nat->Int->Int->Int->LA->Option (LA))(n:Nat)(a m b:Int)(c:LA)(δ:T)(κ:LA->T):T:=br (i64.wrap (m - a)==1) (br ((aB (DN n a) (m,b,c)).isSome) (br ((Ai n a m b c).isSome) (κ ((Ai n a m b c).getD [])) δ) δ) (br (i64.wrap (b - m)==1) (br ((aB (DO n m) (a,m,c)).isSome) (br ((Ah n a m c).isSome) (κ ((Ah n a m c).getD [])) δ) δ) (br (decide (m>eL a b)) (br ((xo n a m b c).isSome) (br (decide (lO n a m b c<m)) (br (decide (m<ng n a m b c)) (br ((xJ n (lO n a m b c) m (ng n a m b c) (nQ n a m b c)).isSome) (br (Ae n a m b c) (br (Ad n a m b c) (br ((R n a (lO n a m b c) (eL a b) (pD n a m b c)).isSome) (br (ur n a m b c) (br (ut n a m b c) (br ((Ak R n a m b c).isSome) (κ ((Ak R n a m b c).getD [])) δ) (κ ((R n a (lO n a m b c) (eL a b) (pD n a m b c)).getD []))) (κ ((R n a (lO n a m b c) (eL a b) (pD n a m b c)).getD []))) δ) (xd R n a m b c δ κ)) (xd R n a m b c δ κ)) δ) (wZ R n a m b c δ κ)) (wZ R n a m b c δ κ)) δ) (br ((xp n a m b c).isSome) (br (decide (lQ n a m b c<m)) (br (decide (m<nh n a m b c)) (br ((xJ n (lQ n a m b c) m (nh n a m b c) (nR n a m b c)).isSome) (br (Ag n a m b c) (br (Af n a m b c) (br ((R n a (lQ n a m b c) (eL a b) (pE n a m b c)).isSome) (br (uv n a m b c) (br (uw n a m b c) (br ((Aj R n a m b c).isSome) (κ ((Aj R n a m b c).getD [])) δ) (κ ((R n a (lQ n a m b c) (eL a b) (pE n a m b c)).getD []))) (κ ((R n a (lQ n a m b c) (eL a b) (pE n a m b c)).getD []))) δ) (xe R n a m b c δ κ)) (xe R n a m b c δ κ)) δ) (xc R n a m b c δ κ)) (xc R n a m b c δ κ)) δ)))
def rB(R:Nat->Int->Int->Int->LA->Option (LA))(n:Nat)(a m b:Int)(c:LA):=xq R n a m b c none some
def xq4(R:Nat->Int->Int->Int->LA->Option (LA))(n:Nat)(a m b:Int)(xs:LA):cU (λ(p:LA)=>(((AV.tuple [],([⟨0,2,148,p,false,true⟩]:List aC))):(AV×List aC))) (rB R n a m b xs) (l6 P0 (qN R) Tryz.f189 (Tryz.f189.body.getD .skip) [AV.osl (0:Id) 0 0 n,AV.int .i64 a,AV.int .i64 m,AV.int .i64 b,AV.func (143:FuncId) []] [{ver:=0,sz:=2,ty:=(148:TypeId),xs:=xs,frz:=false,pm:=true}]):=by(have h:l6 P0 (qN R) Tryz.f189 (Tryz.f189.body.getD .skip) [AV.osl (0:Id) 0 0 n,AV.int .i64 a,AV.int .i64 m,AV.int .i64 b,AV.func (143:FuncId) []] [{ver:=0,sz:=2,ty:=(148:TypeId),xs:=xs,frz:=false,pm:=true}]=xq R n a m b xs none (λ(p:LA)=>some (((AV.tuple [],([⟨0,2,148,p,false,true⟩]:List aC))):(AV×List aC))):=by kernel_rfl);rw[h];unfold rB xq wZ xc xd xe xf xg;repeat' (first|refine cU.br ?_ ?_|exact cU.none|exact cU.some rfl)
def xq3(R:Nat->Int->Int->Int->LA->Option (LA)):LA->List aC->Option (Bool×AV×List aC):=jl (cT (sEq (cC 0 0 0)) (cT (sEq (pInt .i64)) (cT (sEq (pInt .i64)) (cT (sEq (pInt .i64)) (cT (sEq (ez (143:FuncId) bO)) iU))))) (aZ (fu 0 2 (148:TypeId) false true bB) bO) λ(n,(a,(m,(b,(_,_))))) (c,_)=>((rB R n a m b c).isSome,((AV.tuple [],([⟨0,2,148,((rB R n a m b c).getD []),false,true⟩]:List aC))))
def xq2(R:Nat->Int->Int->Int->LA->Option (LA))(c:Hi R):fJ P0 xQa 189 (xq3 R):=pR λ g h k j i=>by obtain⟨n,⟨a,⟨m,⟨b,⟨_,_⟩⟩⟩⟩⟩:=g;obtain⟨l,_⟩:=h;obtain⟨e,f⟩:=Prod.mk.inj i;refine vB (p:=(qN R).pin) (vA xPD (xPE P0 _) rfl (xpo R c) rfl Tryz.func189 rfl Θ (xns R c) ((xq4 R _ _ _ _ _ _ (nP (d:=[]) e)).trans ?_));exact congrArg some f
def pF:Nat->Nat->Int->Int->Int->LA->Option (LA)|0=>λ _ _ _ _ _=>none|fu_+1=>λ n a m b c=>rB (pF fu_) n a m b c
def YK:∀n,Hi (pF n)|0=>pR λ _ _ _ _ h=>absurd (Prod.mk.inj h).1 Bool.false_ne_true|fu_+1=>λ a H r b h=>xq2 (pF fu_) (YK fu_) a H r b h
def XJ:cZ:=tY.E.withM 189 (Ol (pF 1000))
def xIg:di P0 xQa XJ:=tY.ok.withM (YK _)
def K6:EO:=EO.mk XJ xIg
def YS{T:Type}(d:Nat)(n e a b:Int)(c:LA)(δ:T)(κl:(Int×Int×LA)->T)(κr:(Int×LA)->T):T:=br (decide (b<=n)) (br ((Aq d a b c).isSome) (κl (b,i64.wrap (b+e),(Aq d a b c).getD [])) δ) (κr (a,c))
def DQ(e:Nat)(n c:Int):cS (Int×Int×LA) (Int×LA):=λ(a,b,d)=>YS e n c a b d none inL inR
def Hn:=K6.l 63 1 [148] [] Tryz.f171 0 lk0 [0,1,2,6,7,8] [0,1,2,6,7] [] (q6 (cC 0 0 0) qI (ez 143 bO) qI qI qI) (q1 (qB 0 2 148 bB)) (λ(d,n,_,c,a,b,_) (e,_)=>(DQ d n c,(a,b,e),λ p=>(.leaf (.exit 0) [AV.osl 0 0 0 d,AV.int .i64 n,AV.func 143 [],AV.int .i64 c,AV.int .i64 p.1] [bF 0 2 148 p.2]))) (0,[]) λ(d,n,_,c,_,_,_) _ (a,b,e)=>(((d,n,(),c,a,b,()),(e,())),YS d n c a b e none)
def YO{T:Type}(e:Nat)(n c a b:Int)(d:LA)(δ:T)(κl:(Int×Int×LA)->T)(κr:(Int×LA)->T):T:=br (decide (b<=n)) (br ((pF 1000 e a (i64.wrap (a+c)) b d).isSome) (κl (b,i64.wrap (b+i64.wrap (2*c)),(pF 1000 e a (i64.wrap (a+c)) b d).getD [])) δ) (κr (a,d))
def Hh(e:Nat)(n c:Int):cS (Int×Int×LA) (Int×LA):=λ(a,b,d)=>YO e n c a b d none inL inR
def Hs:=K6.l 63 1 [148] [(2,Hn.lp)] Tryz.f171 2 lk0 [0,1,2,6,7,8] [0,1,2,6,7] [] (q6 (cC 0 0 0) qI (ez 143 bO) qI qI qI) (q1 (qB 0 2 148 bB)) (λ(d,n,_,c,a,b,_) (e,_)=>(Hh d n c,(a,b,e),λ p=>(.leaf (.exit 4) [AV.osl 0 0 0 d,AV.int .i64 n,AV.func 143 [],AV.int .i64 c,AV.int .i64 p.1] [bF 0 2 148 p.2]))) (0,[]) λ(d,n,_,c,_,_,_) _ (a,b,e)=>(((d,n,(),c,a,b,()),(e,())),YO d n c a b e none)
def Hr(c:Nat)(n a:Int)(b:LA):=aB (Hh c n a) (0,i64.wrap (2*a),b)
def Ac(c:Nat)(n a:Int)(b:LA):=(Hr c n a b).getD (0,[])
def Hq(c:Nat)(n a:Int)(b:LA):=i64.wrap (((Ac c n a b).fst)+a)
def Hp(b:Nat)(n a:Int)(c:LA):=pF 1000 b ((Ac b n a c).fst) (Hq b n a c) n ((Ac b n a c).snd)
def DP{T:Type}(c:Nat)(n a:Int)(b:LA)(δ:T)(κl:(Int×LA)->T)(κr:(LA)->T):T:=br (decide (a<n)) (br ((Hr c n a b).isSome) (br (decide (Hq c n a b<n)) (br ((Hp c n a b).isSome) (κl (i64.wrap (a*2),(Hp c n a b).getD [])) δ) (κl (i64.wrap (a*2),((Ac c n a b).snd)))) δ) (κr (b))
def xh(c:Nat)(n:Int):cS (Int×LA) (LA):=λ(a,b)=>DP c n a b none inL inR
def YQ:=K6.l 63 1 [148] [(2,Hn.lp),(9,Hs.lp)] Tryz.f171 1 (fc Hs.ok) [0,1,2,6] [] [] (q4 (cC 0 0 0) qI (ez 143 bO) qI) (q1 (qB 0 2 148 bB)) (λ(c,n,_,a,_) (b,_)=>(xh c n,(a,b),λ p=>(.leaf (.exit 2) [] [bF 0 2 148 p]))) [] λ(c,n,_,_,_) _ (a,b)=>(((c,n,(),a,()),(b,())),DP c n a b none)
def Ow(n:Nat)(k:Int)(a:LA):=(aB (DQ n k 20) (0,20,a)).getD (0,[])
def Ov(n:Nat)(k:Int)(a:LA):=Aq n (Ow n k a).fst k (Ow n k a).snd
def Ou(n:Nat)(k:Int)(a:LA):=aB (xh n k) (20,(Ov n k a).getD [])
def Ot{T:Type}(n:Nat)(k:Int)(a:LA)(δ:T)(κ:LA->T):T:=br ((aB (DQ n k 20) (0,20,a)).isSome) (br ((Ov n k a).isSome) (br ((Ou n k a).isSome) (κ ((Ou n k a).getD [])) δ) δ) δ
def HK(n:Nat)(k:Int)(a:LA):=Ot n k a none some
def xNk:EO:=K6.fM Tryz.func171 63 1 [148] [(2,Hn.lp),(9,Hs.lp),(7,YQ.lp)] (l7 (fe Hn.ok (fe YQ.ok (fe Hs.ok kr)))) (u3 (sEq (cC 0 0 0)) uI (sEq (ez (143:FuncId) bO))) (q1 (qB 0 2 148 bB)) (λ(n,k,_,_) (a,_) _=>Ot n k a) (λ _ _ p=>(AV.tuple [],([bF 0 2 148 p]:List aC))) []
def OA{T:Type}(n:Nat)(a:LA)(δ:T)(κ:LA->T):T:=br ((HK n (↑n:Int) a).isSome) (κ ((HK n (↑n:Int) a).getD [])) δ
def OC(n:Nat)(a:LA):=OA n a none some
def XK:EO:=xNk.fM Tryz.func142 9 1 [148] [] lk0 (u2 (sEq (cC 0 0 0)) (sEq (ez (143:FuncId) bO))) (q1 (qB 0 2 148 bB)) (λ(n,_,_) (a,_) _=>OA n a) (λ _ _ p=>(AV.tuple [],([bF 0 2 148 p]:List aC))) []
def Ea(b:LA)(c:Int)(a:LA):=a++[AV.agg [AV.list 3 (gC b c 0).toList,AV.list 2 []]]
def ux(a:Nat):Nat:=0+(↑a:Int).toNat
def xB(a:LA)(b:Int):=(Ft (gC a b 0).toList).getD []
def HM(d:LA)(f:Int)(b:Nat)(e:Int)(c a:LA):=decide (ux b<(Ea d e a).length)
def rI(c:LA)(b:Nat)(d:Int)(a:LA):=((Ea c d a).getD (ux b) .top).cells
def HZ(a:LA)(b:Int):=decide ((xB a b).length<=4611686018427387904)
def Eb(b:LA)(c:Int)(a:LA):=(eP (AV.int .i64 0) a (xB b c)).toInt
def HN(c:LA)(b:Nat)(d:Int)(a:LA):=decide (0<=Eb c d a)&&decide (Eb c d a<(↑b:Int))
def o7(c:LA)(b:Nat)(d:Int)(a:LA):=((rI c b d a).getD 1 .top).toList.length
def nS(b:LA)(c:Int)(a:LA):Nat:=0+(Eb b c a).toNat
def HY(a:LA)(d:Nat)(b:Int)(c:LA):=((rI a d b c).getD 1 .top).toList++[AV.agg [AV.int .i64 (gC a b 1).toInt,AV.int .i64 (gC a b 2).toInt]]
def D3(c:LA)(b:Nat)(d:Int)(a:LA):=(Ea c d a).set (ux b) (AV.agg (List.take 1 (rI c b d a)++[AV.int .i64 (↑(o7 c b d a):Int)]++List.drop 2 (rI c b d a)))
def Ih(c:LA)(d:Int)(a b:LA):=decide (nS c d a<b.length)
def o8(c:LA)(d:Int)(a b:LA):=((b.getD (nS c d a) .top).cells.getD 1 .top).toList.length
def HX(b:LA)(c:Int)(a d:LA):=((d.getD (nS b c a) .top).cells.getD 1 .top).toList++[AV.agg [AV.int .i64 (gC b c 1).toInt,AV.int .i64 (gC b c 2).toInt]]
def AM(c:LA)(a:Nat)(d:Int)(b:LA):=((D3 c a d b).getD (ux a) .top).cells
def D4(c:LA)(d:Int)(a b:LA):=b.set (nS c d a) (AV.agg (List.take 1 (b.getD (nS c d a) .top).cells++[AV.int .i64 (↑(o8 c d a b):Int)]++List.drop 2 (b.getD (nS c d a) .top).cells))
def AN(c:LA)(d:Int)(a b:LA):=((D4 c d a b).getD (nS c d a) .top).cells
def AX{T:Type}(e:LA)(f:Int)(d:Nat)(c:Int)(b a:LA)(δ:T)(κl:(Nat×Int×LA×LA)->T)(κr:(Nat×LA)->T):T:=br (decide (c<f)) (br (bU e c) (br (jh e c 3 [Sh.list 3,Sh.int .i64,Sh.int .i64] 0) (br (!yo (gC e c 1).toInt (gC e c 2).toInt) (κl (d,i64.wrap (c+1),b,a)) (br ((Ft (gC e c 0).toList).isSome) (br (HZ e c&&dw (Sh.int .i64) (eP (AV.int .i64 0) b (xB e c))) (br (!iO b (xB e c)) (br (decide (b.length<4611686018427387904)&&HZ e c) (br (gz d a 1 48) (br (decide ((↑d:Int)<(↑(d+1):Int))) (br (HM e f d c b a&&(jW 2 ((rI e d c a).getD 1 .top)&&(rI e d c a).length==2)) (br (HM e f d c b a&&(jW 2 ((rI e d c a).getD 1 .top)&&((rI e d c a).length==2&&(2*o7 e d c a==2*o7 e d c a&&(o7 e d c a==o7 e d c a&&(o7 e d c a==o7 e d c a&&(decide ((o7 e d c a+1)*16<=140737488355328)&&decide (o7 e d c a+1<=4611686018427387904)))))))) (br (decide ((↑d:Int)<(↑(d+1):Int))) (br (decide (ux d<(D3 e d c a).length)&&((AM e d c a).length==2&&(o7 e d c a+1==(HY e d c a).length&&y7 ((AM e d c a).getD 1 .top) (o7 e d c a+1)))) (κl (d+1,i64.wrap (c+1),dT b (xB e c) (AV.int .i64 (↑d:Int)),(D3 e d c a).set (ux d) (AV.agg (List.take 1 (AM e d c a)++[AV.list 2 (HY e d c a)]++List.drop 2 (AM e d c a))))) δ) δ) δ) δ) δ) δ) δ) (br (HN e d c b) (br (Ih e c b a&&(jW 2 ((a.getD (nS e c b) .top).cells.getD 1 .top)&&(a.getD (nS e c b) .top).cells.length==2)) (br (Ih e c b a&&(jW 2 ((a.getD (nS e c b) .top).cells.getD 1 .top)&&((a.getD (nS e c b) .top).cells.length==2&&(2*o8 e c b a==2*o8 e c b a&&(o8 e c b a==o8 e c b a&&(o8 e c b a==o8 e c b a&&(decide ((o8 e c b a+1)*16<=140737488355328)&&decide (o8 e c b a+1<=4611686018427387904)))))))) (br (HN e d c b) (br (decide (nS e c b<(D4 e c b a).length)&&((AN e c b a).length==2&&(o8 e c b a+1==(HX e c b a).length&&y7 ((AN e c b a).getD 1 .top) (o8 e c b a+1)))) (κl (d,i64.wrap (c+1),b,(D4 e c b a).set (nS e c b) (AV.agg (List.take 1 (AN e c b a)++[AV.list 2 (HX e c b a)]++List.drop 2 (AN e c b a))))) δ) δ) δ) δ) δ)) δ) δ)) δ) δ) (κr (d,a))
def uA(d:LA)(e:Int):cS (Nat×Int×LA×LA) (Nat×LA):=λ(c,f,a,b)=>AX d e c f a b none inL inR
def Zd:=XK.l 60 0 [] [] Tryz.f126 0 lk0 [3,4,11,12,13] [4] [(4,2,223474614420)] (q5 (dL 0 0 0 0) (cC 1 0 0) (qL 3) qI qI) (q2 (qB 0 2 1208925819615333616451584 bB) (qB 0 2 223474614420 bB)) (λ(_,c,d,e,f,_) (a,b,_)=>(uA d e,(c,f,a,b),λ p=>(.leaf (.exit 0) [AV.osl 0 0 0 p.1] [bF 0 2 223474614420 p.2]))) (0,[]) λ(_,_,d,e,_,_) _ (c,f,a,b)=>((((),c,d,e,f,()),(a,b,())),AX d e c f a b none)
def Ps(l:LA):=aB (uA l (↑l.length:Int)) (0,0,[],[])
def Bk(l:LA):=(Ps l).getD (0,[])
def IT(l:LA):=OC ((Bk l).fst) ((Bk l).snd)
def PV{T:Type}(l:LA)(δ:T)(κ:LA->T):T:=br ((Ps l).isSome) (br (yZ 2 1 ((Bk l).snd)) (br ((IT l).isSome) (br (decide (0+((Bk l).fst)<=((IT l).getD []).length)&&true) (κ (List.take ((Bk l).fst) (List.drop 0 ((IT l).getD [])))) δ) δ) δ) δ
def uW(l:LA):=PV l none some
def XL:EO:=XK.f Tryz.func126 60 0 [] [(4,Zd.lp)] (fc Zd.ok) (u1 (uL 3)) (λ(l,_) _=>PV l) (λ _ p=>AV.list 2 p) []
end Go.Sim.M
end
