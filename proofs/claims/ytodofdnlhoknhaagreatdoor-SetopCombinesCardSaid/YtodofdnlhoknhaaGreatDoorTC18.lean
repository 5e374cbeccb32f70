/- Part 18 of the proof of the law. -/
import Derived.Test.YtodofdnlhoknhaaGreatDoorTC17
import Derived.Lib.ItoaLen
set_option linter.defProp false
set_option linter.unusedVariables false
set_option linter.unusedSimpArgs false
set_option linter.unusedSectionVars false
set_option maxRecDepth 100000
noncomputable section
namespace Go.Sim.M
open Go.RowKit Go.Sim.Srt
def L4(l:List UInt8):Nat:=l.foldl (λ a c=>a*10+(c.toNat - 48)) 0
def UV(u:Nat):∀c,c∈Lib.decDigits u->48<=c.toNat/\c.toNat<=57:=by induction u using Nat.strongRecOn with|_ u ih=>intro c hc;rw[Lib.decDigits]at hc;split at hc;rw[zv]at hc;subst hc;rw[UInt8.toNat_ofNat'];omega;rw[zG,zv]at hc;rcases hc with hc|rfl;exact ih (u / 10) Ω c hc;rw[UInt8.toNat_ofNat'];omega
def VO(u:Nat):L4 (Lib.decDigits u)=u:=by induction u using Nat.strongRecOn with|_ u ih=>rw[Lib.decDigits];split;simp only[L4,List.foldl_cons,List.foldl_nil,UInt8.toNat_ofNat'];omega;have:=ih (u / 10) Ω;unfold L4 at this|-;rw[List.foldl_append,this];simp only[List.foldl_cons,List.foldl_nil,UInt8.toNat_ofNat'];omega
def UW{u v:Nat}(h:Lib.decDigits u=Lib.decDigits v):u=v:=by rw[<-VO u,h,VO]
def RS{a b:Int}(h:Lib.itoa a=Lib.itoa b):a=b:=by(unfold Lib.itoa at h;have k:∀u v:Nat,45::Lib.decDigits u≠Lib.decDigits v:=λ u v e=>by have:=UV v 45 (by rw[<-e];simp);have t:(45:UInt8).toNat=45:=rfl;omega);split at h<;>split at h;have:=UW (List.cons.inj h).2;omega;exact absurd h (k _ _);exact absurd h.symm (k _ _);have:=UW h;omega
def Cf(a:Int):(32:UInt8)∉Lib.itoa a:=by(have k:∀v:Nat,(32:UInt8)∉Lib.decDigits v:=λ v e=>by have:=UV v 32 e;have t:(32:UInt8).toNat=32:=rfl;omega);unfold Lib.itoa;split;rw[zC];rintro(h|h);simp at h;exact k _ h;exact k _
def KO:∀{a b x y:List UInt8},(32:UInt8)∉a->(32:UInt8)∉b->a++32::x=b++32::y->a=b/\x=y|[],[],x,y,_,_,h=>⟨rfl,(List.cons.inj h).2⟩|[],c::b,x,y,_,hb,h=>absurd (List.cons.inj h).1 λ e=>hb (by rw[e];simp)|c::a,[],x,y,ha,_,h=>absurd (List.cons.inj h).1 λ e=>ha (by rw[<-e];simp)|c::a,d::b,x,y,ha,hb,h=>by obtain⟨e1,h⟩:=List.cons.inj h;obtain⟨e2,e3⟩:=KO (a:=a) (b:=b) (λ e=>ha (by simp[e])) (λ e=>hb (by simp[e])) h;exact⟨by rw[e1,e2],e3⟩
def fg(v:Val):List UInt8:=Lib.itoa v.k++32::(Lib.itoa v.i++32::(Lib.itoa (v.t.length:Int)++32::v.t))
def keyOf(r:Row):List UInt8:=r.flatMap fg
def RV(v:Val)(s:List UInt8):fg v++s=Lib.itoa v.k++32::(Lib.itoa v.i++32::(Lib.itoa (v.t.length:Int)++32::(v.t++s))):=by simp[fg]
def BU(v:Val)(r:Row):keyOf (v::r)=fg v++keyOf r:=by simp[keyOf]
def KE(v:Val)(s:List UInt8):fg v++s≠[]:=by rw[RV];simp
def Fz:∀{r r':Row},keyOf r=keyOf r'->r=r'|[],[],_=>rfl|[],v::r',h=>by rw[BU]at h;exact absurd h.symm (KE _ _)|v::r,[],h=>by rw[BU]at h;exact absurd h (KE _ _)|v::r,v'::r',h=>by rw[BU,BU,RV,RV]at h;obtain⟨h1,h⟩:=KO (Cf _) (Cf _) h;obtain⟨h2,h⟩:=KO (Cf _) (Cf _) h;obtain⟨h3,h⟩:=KO (Cf _) (Cf _) h;have h3:=RS h3;obtain⟨h4,h⟩:=List.append_inj h Ω;(obtain rfl:=Fz h;have:v=v':=by obtain⟨k,i,t⟩:=v;obtain⟨k',i',t'⟩:=v';obtain rfl:=RS h1;obtain rfl:=RS h2;subst h4;rfl);rw[this]
def ot{n:Int}(h:(Lit.int .i64 n).wf):-9223372036854775808<=n/\n<=9223372036854775807:=by have h:(decide ((IntKind.i64).min<=n)&&decide (n<=(IntKind.i64).max)):=h;rw[zf,zl,zl]at h;exact h
variable {v:Val}
def T1(hw:v.wf)(ht:v.t.length<=1099511627776):(fg v).length<=66+v.t.length:=by obtain⟨w1,w2,_⟩:=hw;have a1:=Lib.itoa_length_le v.k (ot w1).1 (ot w1).2;have a2:=Lib.itoa_length_le v.i (ot w2).1 (ot w2).2;have a3:=Lib.itoa_length_le (v.t.length:Int) Ω Ω;simp only[fg,z8,zF];omega
def Cj(s B:List UInt8)(h:(B++s).length<=140737488355328):rH s B.length (byteAVs B)=some ((s.length:Int),(B++s).length,byteAVs (B++s)):=by(rw[z8]at h;have h2:B.length+s.length<=4611686018427387904:=Ω);unfold rH Nd;simp only[BD,beq_self_eq_true,Nat.mul_one,h,h2,zn,Bool.and_self,aW,Yl,z8,aH]
def Kd(B:List UInt8)(h:(B++[32]).length<=140737488355328):GE 32 B.length (byteAVs B)=some ((B++[32]).length,byteAVs (B++[32])):=by(rw[z8,zj]at h;have h2:B.length+1<=4611686018427387904:=Ω);unfold GE Nk;simp only[BD,beq_self_eq_true,Nat.mul_one,h,h2,zn,Bool.and_self,aW,Yl,z8,zj,aH];rfl
def aY(n:Int):List UInt8:=Lib.itoa n++[32]
def MC(t8:List AV)(t9 q:Int)(xs:List AV)(hx:xs.length=3)(j:Nat)(hj:j<3)(n:Int)(hn:xs.getD j .top=.int .i64 n)(h1:-9223372036854775808<=n)(h2:n<=9223372036854775807)(v0 v1:Int)(v2 B:List UInt8)(hB:B.length<=70368744177664):sZ t8 t9 q 3 3 ((j:Int),B.length,v0,v1,v2,xs,byteAVs B)=some (.inl (((j+1:Nat):Int),(B++aY n).length,v0,v1,v2,xs,byteAVs (B++aY n))):=by
 have hl:=Lib.itoa_length_le n h1 h2;have i1:(j:Int)<3:=Ω
 have i2:(j:Int)<((3:Nat):Int):=Ω
 have i3:j<xs.length:=Ω
 have e1:=Cj (Lib.itoa n) B (by rw[z8];omega);have e2:=Kd (B++Lib.itoa n) (by rw[z8,z8,zj];omega);have hc:((AV.int IntKind.i64 n).cells.getD 0 .top).toInt=n:=rfl;have hs:cX (Sh.int IntKind.i64) ((AV.int IntKind.i64 n).cells.getD 0 .top):=rfl;simp only[sZ,Hl,N4,N5,N6,Dn,bQ,i1,i2,i3,hn,hc,hs,h1,h2,e1,e2,dO (n:=j) Ω,aY,zw]
def xJy(t8:List AV)(t9 q:Int)(xs:List AV)(v0 v1:Int)(v2 B:List UInt8):sZ t8 t9 q 3 3 (((3:Nat):Int),B.length,v0,v1,v2,xs,byteAVs B)=some (.inr (B.length,v0,v1,v2,byteAVs B)):=by(have i1:¬ ((3:Nat):Int)<3:=Ω);simp only[sZ,Hl,i1,zm,bE,aH]
def Cb(v:Val):fg v=aY v.k++(aY v.i++(aY (v.t.length:Int)++v.t)):=by simp[fg,aY]
def pV(v:Val):Prop:=v.wf/\v.t.length<=1099511627776
def pV.len(h:pV v):(fg v).length<=1099511627842:=by have:=T1 h.1 h.2;have:=h.2;omega
def Uj(t8:List AV)(t9 q:Int)(v:Val)(h:pV v)(B:List UInt8)(hB:B.length<=35184372088832):aB (sZ t8 t9 q 3 3) ((1:Int),(B++aY v.k).length,v.k,v.i,v.t,[AV.int .i64 v.k,AV.int .i64 v.i,AV.int .i64 (v.t.length:Int)],byteAVs (B++aY v.k))=some ((B++aY v.k++aY v.i++aY (v.t.length:Int)).length,v.k,v.i,v.t,byteAVs (B++aY v.k++aY v.i++aY (v.t.length:Int))):=by have hl:=h.len;have ht:=h.2;rw[Cb,z8,z8,z8]at hl;have e1:=MC t8 t9 q [AV.int .i64 v.k,AV.int .i64 v.i,AV.int .i64 (v.t.length:Int)] rfl 1 Ω v.i rfl (ot h.1.2.1).1 (ot h.1.2.1).2 v.k v.i v.t (B++aY v.k) (by rw[z8];omega);have e2:=MC t8 t9 q [AV.int .i64 v.k,AV.int .i64 v.i,AV.int .i64 (v.t.length:Int)] rfl 2 Ω (v.t.length:Int) rfl Ω Ω v.k v.i v.t (B++aY v.k++aY v.i) (by rw[z8,z8];omega);exact(en e1).trans ((en e2).trans (cR (xJy ..)))
def xLD(t8:List AV)(t9 q:Int)(v:Val)(h:pV v)(B:List UInt8)(hB:B.length<=35184372088832):aB (sZ t8 t9 q 3 3) ((0:Int),B.length,v.k,v.i,v.t,[AV.int .i64 v.k,AV.int .i64 v.i,AV.int .i64 (v.t.length:Int)],byteAVs B)=some ((B++aY v.k++aY v.i++aY (v.t.length:Int)).length,v.k,v.i,v.t,byteAVs (B++aY v.k++aY v.i++aY (v.t.length:Int))):=by have e0:=MC t8 t9 q [AV.int .i64 v.k,AV.int .i64 v.i,AV.int .i64 (v.t.length:Int)] rfl 0 Ω v.k rfl (ot h.1.1).1 (ot h.1.1).2 v.k v.i v.t B Ω;exact(en e0).trans (Uj t8 t9 q v h B hB)
def V0(r:Row)(hr:r.length<=1048576)(h:∀v,v∈r->pV v)(hk:(keyOf r).length<=17592186044416):∀d k:Nat,k+d=r.length->aB (An (r.map encV) ((r.length:Nat):Int)) ((k:Int),(keyOf (r.take k)).length,byteAVs (keyOf (r.take k)))=some ((keyOf r).length,byteAVs (keyOf r))
 |0,k,hkk=>by
  obtain rfl:k=r.length:=by omega
  rw[y6];refine cR ?_;simp only[An,Hk,zy,zm,bE,aH]
 |d+1,k,hkk=>by
  have q:k<r.length:=by omega
  have hv:=h r[k] (zo q);have i1:(k:Int)<(r.length:Int):=by omega
  have gf:(r.map encV).getD k .top=encV r[k]:=cQ _ _ _ q;have tk:keyOf (r.take (k+1))=keyOf (r.take k)++fg r[k]:=by
   unfold keyOf;rw[List.take_add_one,ze q,List.flatMap_append];simp
  have le:(keyOf (r.take (k+1))).length<=(keyOf r).length:=by
   conv=>rhs;rw[<-List.take_append_drop (k+1) r]
   unfold keyOf;rw[List.flatMap_append,z8];omega
  have hl:=hv.len;rw[tk,z8]at le;have e1:=xLD (r.map encV) (r.length:Int) (k:Int) r[k] hv (keyOf (r.take k)) (by omega)
  have kn:keyOf (r.take k)++fg r[k]=keyOf (r.take k)++aY r[k].k++aY r[k].i++aY (r[k].t.length:Int)++r[k].t:=by rw[Cb];simp only[zw]
  have e2:=Cj r[k].t (keyOf (r.take k)++aY r[k].k++aY r[k].i++aY (r[k].t.length:Int)) (by rw[<-kn,z8];omega)
  rw[en (s':=(((k+1:Nat):Int),(keyOf (r.take (k+1))).length,byteAVs (keyOf (r.take (k+1))))) ?_]
  . exact V0 r hr h hk d (k+1) (by omega)
  . rw[tk,kn];simp only[An,Hk,N1,N2,Hd,N3,bQ,q,i1,gf,tW,tX,tY,lV,sV,e1,e2,dO (n:=k) (by omega)]
def xLE(r:Row)(hr:r.length<=1048576)(h:∀v,v∈r->pV v)(hk:(keyOf r).length<=17592186044416):EH (r.map encV)=some (keyOf r):=by match r with|[]=>rfl|v::t=>have hv:=h v Ψ;(have hl:=hv.len;have i1:(0:Int)<((t.length+1:Nat):Int):=Ω);(have i2:0<t.length+1:=Ω);(obtain⟨r1,r2⟩:=ot hv.1.1;have q:=Lib.itoa_length_le v.k r1 r2;have gf:((v::t).map encV).getD 0 .top=encV v:=rfl;have e0:rI (Lib.itoa v.k)=some (((Lib.itoa v.k).length:Int),(Lib.itoa v.k).length,byteAVs (Lib.itoa v.k)):=by(have m1:(Lib.itoa v.k).length<=140737488355328:=Ω);(have m2:(Lib.itoa v.k).length<=4611686018427387904:=Ω);unfold rI Gr;simp only[BD,Nat.mul_one,m1,m2,zn,Bool.and_self,aW,aH]);have e1:GD 32 (Lib.itoa v.k).length (byteAVs (Lib.itoa v.k))=some (([]++aY v.k).length,byteAVs ([]++aY v.k)):=Kd (Lib.itoa v.k) (by rw[z8,zj];omega);have e2:=Uj ((v::t).map encV) ((t.length+1:Nat):Int) 0 v hv [] Ψ;(have kn:fg v=[]++aY v.k++aY v.i++aY (v.t.length:Int)++v.t:=by rw[Cb];simp);have e3:=Cj v.t ([]++aY v.k++aY v.i++aY (v.t.length:Int)) (by rw[<-kn];omega);rw[<-kn]at e3;have e4:=V0 (v::t) hr h hk t.length 1 (by rw[zF];omega);(have tk:keyOf ((v::t).take 1)=fg v:=by simp[keyOf]);rw[tk,zF]at e4;have e4:aB (An ((v::t).map encV) ((t.length+1:Nat):Int)) ((1:Int),(fg v).length,byteAVs (fg v))=_:=e4;have hne:(keyOf (v::t)).length≠0:=λ e=>KE v (keyOf t) (by rw[<-BU];exact List.length_eq_zero_iff.1 e);unfold EH Pj Bq OZ O0 O1 H9 O2 O3 O4 uy;simp only[za,zF,i1,i2,gf,tW,tX,tY,lV,sV,r1,r2,e0,e1,e2,e3,e4,zn,aW,Bool.and_self,beq_self_eq_true,zk,zh,BD,Yd,YT,ne_eq,hne,not_false_eq_true,aH]
abbrev fx:=Row×List aF
def aL(g:fx):AV:=.agg [.list 3 (g.1.map encV),.list 2 (g.2.map aA)]
def mA(x:AV):Bool:=x.cells.length==(2:Nat)&&ef [Sh.list (3:Nat),Sh.list (2:Nat)] x.cells (0:Nat)
def qn(x:AV):AV:=AV.agg [AV.list (3:Nat) (x.cells.getD (0:Nat) AV.top).toList,AV.list (2:Nat) (x.cells.getD (1:Nat) AV.top).toList]
def ud(x y:AV):Bool:=(tc (x.cells.getD 0 AV.top).toList (x.cells.getD 1 AV.top).toList (y.cells.getD 0 AV.top).toList (y.cells.getD 1 AV.top).toList).isSome
def ue(x y:AV):Int:=(tc (x.cells.getD 0 AV.top).toList (x.cells.getD 1 AV.top).toList (y.cells.getD 0 AV.top).toList (y.cells.getD 1 AV.top).toList).getD 0
theorem wr(a:fx):mA (aL a):=rfl
theorem FY(a:fx):qn (aL a)=aL a:=rfl
section
variable{N:Nat}(hN:N <=2 ^ 60){ok:fx->Prop}{c:fx->fx->Int}(hc:∀x y,ok x->ok y->ud (aL x) (aL y) =true/\ue (aL x) (aL y) =c x y)
include hN
theorem Wi(a b n:Nat)(l r:List fx)(ha:a<=2 ^ 60)(hb:b<=2 ^ 60)(hn:n<=2 ^ 60)(hl:dB N ok l)(hr:qC a b n l=some r):up N a b n (List.map aL l)=some (List.map aL r)/\dB N ok r:=by obtain⟨e1,e2⟩:=xJW (okE:=mA) (ldE:=qn) wr FY hN a b n ha hb hn (g:=Gg N a b n) (λ i xs=>rfl) hl hr;refine⟨?_,e2⟩;unfold up Nh;rw[e1];rfl
theorem xMX(a m b:Nat)(l r:List fx)(h1:a<=m)(h2:m<=b)(h3:b<=N)(hl:dB N ok l)(hr:wD a m b l=some r):xz N a m b (List.map aL l)=some (List.map aL r)/\dB N ok r:=by unfold wD at hr;cases hi:aB (pr m) (m - a,b - m,l)with|none=>rw[hi]at hr;simp at hr|some p=>obtain⟨i,l'⟩:=p;rw[hi]at hr;obtain⟨e1,e2,e3⟩:=xJV (enc:=aL) hN (ok:=ok) (SW:=λ a b n xs=>up N a b n xs) (λ a b n l r ha hb hn hl hr=>Wi hN a b n l r ha hb hn hl hr) m Ω (g:=Ni N m) (λ i j xs=>rfl) Ω Ω hl hi;obtain⟨e4,e5⟩:=Wi hN (m - i) m i l' r Ω Ω Ω e3 hr;refine⟨?_,e5⟩;simp only[xz,Nv,Nn,Dj,ik (x:=(m:Int) - (a:Int)) (n:=m - a) Ω Ω,ik (x:=(b:Int) - (m:Int)) (n:=b - m) Ω Ω,e1,zh,zk,aW,ik (x:=(m:Int) - (i:Int)) (n:=m - i) Ω Ω,e4,aH]
include hc
theorem Wf(a b:Nat)(ha:a<=N)(hb:b<=N){l r:List fx}(hl:dB N ok l)(hr:wN c a b l=some r):yQ N a b (List.map aL l)=some (List.map aL r)/\dB N ok r:=by obtain⟨e1,e2⟩:=xIt (enc:=aL) hN (c:=c) (ok:=ok) a b hb (gi:=λ i=>Gc N a b i) (λ i l r hl hr=>xJU (okE:=mA) (ldE:=qn) wr FY hN (P:=ud) (V:=ue) hc a (λ j xs=>rfl) hl hr) (g:=Gb N a b) (λ i xs=>rfl) hl hr;refine⟨?_,e2⟩;unfold yQ Na;rw[ik (x:=(a:Int)+1) (n:=a+1) Ω Ω,e1];rfl
theorem Wj:∀(f a m b:Nat)(l r:List fx),a<m->m<b->b<=N->dB N ok l->ji c f a m b l=some r->pA f N a m b (List.map aL l)=some (List.map aL r)/\dB N ok r:=by intro f;induction f with|zero=>intro a m b l r _ _ _ _ hr;simp[ji]at hr|succ f ih=>
 intro a m b l r af ag hb hl hr;unfold ji at hr;show rJ (pA f) N a m b (List.map aL l)=some (List.map aL r)/\dB N ok r;have W:IntKind.i64.wrap ((m:Int) - (a:Int))=((m - a:Nat):Int):=ik Ω Ω;have ac:IntKind.i64.wrap ((b:Int) - (m:Int))=((b - m:Nat):Int):=ik Ω Ω;by_cases h1:m - a=1;rw[if_pos h1]at hr;cases hi:aB (lZ λ h=>(gN c l h a).map λ r=>decide (r<0)) (m,b)with|none=>rw[hi]at hr;simp at hr|some i=>rw[hi]at hr;obtain⟨e0,b1,b2⟩:=Ml (okE:=mA) wr hN (P:=ud) (V:=ue) hc (λ h=>h) (λ _=>a) (λ h=>h) (λ _=>(a:Int)) m b Ω (λ _ _ _=>rfl) (λ _ _ _=>rfl) (λ r=>decide (r<0)) (g:=Dc N a) (λ i j xs=>rfl) hl (zd _) (zd _) Ω hi;obtain⟨e1,e2⟩:=xLY (okE:=mA) (ldE:=qn) wr FY hN (ok:=ok) (i - 1) i Ω Ω (g:=Nb N i) (λ k xs=>rfl) hl hr;refine⟨?_,e2⟩;simp only[rJ,wX,wY,wZ,xc,xd,xe,xf,um,ui,mU,uj,uk,mV,lL,lM,nP,nQ,yT,yU,yV,eK,yW,yX,yY,xg,xh,yZ,y7,pC,pD,W,h1,e0,zh,zk,aW,e1,Int.natCast_one,beq_self_eq_true,aH]
 rw[if_neg h1]at hr;have d1:(((m - a:Nat):Int)==1)=false:=by simp;omega
 by_cases h2:b - m=1;rw[if_pos h2]at hr;cases hi:aB (lZ λ h=>(gN c l m h).map λ r=>!decide (r<0)) (a,m)with|none=>rw[hi]at hr;simp at hr|some i=>rw[hi]at hr;obtain⟨e0,b1,b2⟩:=Ml (okE:=mA) wr hN (P:=ud) (V:=ue) hc (λ _=>m) (λ h=>h) (λ _=>(m:Int)) (λ h=>h) a m Ω (λ _ _ _=>rfl) (λ _ _ _=>rfl) (λ r=>!decide (r<0)) (g:=Dd N m) (λ i j xs=>rfl) hl (zd _) (zd _) Ω hi;obtain⟨e1,e2⟩:=xIs (okE:=mA) (ldE:=qn) wr FY hN (ok:=ok) i (g:=Nc N i) (λ k xs=>rfl) hl hr;refine⟨?_,e2⟩;simp only[rJ,wX,wY,wZ,xc,xd,xe,xf,um,ui,mU,uj,uk,mV,lL,lM,nP,nQ,yT,yU,yV,eK,yW,yX,yY,xg,xh,yZ,y7,pC,pD,W,ac,d1,h2,e0,zh,zk,aW,bE,e1,Int.natCast_one,beq_self_eq_true,aH]
 rw[if_neg h2]at hr;have d2:(((b - m:Nat):Int)==1)=false:=by simp;omega
 have hh:IntKind.i64.wrap ((IntKind.u64.wrap (IntKind.i64.wrap ((a:Int)+(b:Int)))).fdiv 2)=(((a+b) / 2:Nat):Int):=MS Ω;obtain⟨q,Q⟩:∃q,q=(a+b) / 2:=⟨_,rfl⟩;rw[<-Q]at hr hh;have w2:IntKind.i64.wrap ((q:Int)+(m:Int))=((q+m:Nat):Int):=ik Ω Ω;have w3:IntKind.i64.wrap (((q+m:Nat):Int) - 1)=((q+m - 1:Nat):Int):=ik Ω Ω;obtain⟨lo,hi,ad,g1,g2,g3,g4,ae⟩:∃lo hi,(if q<m then(q+m - b,q)else(a,m))=(lo,hi)/\a<=lo/\lo<=hi/\hi<=m/\hi<=q/\((q<m/\lo=q+m - b/\hi=q)\/(¬ q<m/\lo=a/\hi=m)):=by by_cases h:q<m;exact⟨_,_,if_pos h,by omega,by omega,by omega,by omega,.inl ⟨h,rfl,rfl⟩⟩;exact⟨_,_,if_neg h,by omega,by omega,by omega,by omega,.inr ⟨h,rfl,rfl⟩⟩
 rw[ad]at hr;cases hs:aB (lZ λ h=>(gN c l (q+m - 1 - h) h).map λ r=>!decide (r<0)) (lo,hi)with|none=>rw[hs]at hr;simp at hr|some s=>rw[hs]at hr;dsimp only at hr;obtain⟨e0,b1,b2⟩:=Ml (okE:=mA) wr hN (P:=ud) (V:=ue) hc (λ h=>q+m - 1 - h) (λ h=>h) (λ h=>IntKind.i64.wrap (((q+m - 1:Nat):Int) - h)) (λ h=>h) lo hi Ω (λ h _ _=>ik Ω Ω) (λ _ _ _=>rfl) (λ r=>!decide (r<0)) (g:=Gd N a m b q ((q+m:Nat):Int) ((q+m - 1:Nat):Int)) (λ i j xs=>rfl) hl (zd _) (zd _) g2 hs;have w5:IntKind.i64.wrap (((q+m:Nat):Int) - (s:Int))=((q+m - s:Nat):Int):=ik Ω Ω;obtain⟨e,he⟩:∃e,e=q+m - s:=⟨_,rfl⟩;rw[<-he]at hr w5;cases J:(if s<m/\m<e then wD s m e l else some l)with|none=>rw[J]at hr;simp at hr|some l1=>
 rw[J]at hr;dsimp only at hr;have k1:(s<m/\m<e/\xz N s m e (List.map aL l)=some (List.map aL l1)/\dB N ok l1)\/(¬ (s<m/\m<e)/\l1=l):=by by_cases h:s<m/\m<e;rw[if_pos h]at J;obtain⟨x1,x2⟩:=xMX hN s m e l l1 Ω Ω Ω hl J;exact .inl ⟨h.1,h.2,x1,x2⟩;rw[if_neg h]at J;simp only[z6]at J;exact .inr ⟨h,J.symm⟩
 have aa:dB N ok l1:=by rcases k1 with k|k;exact k.2.2.2;rw[k.2];exact hl
 cases O:(if a<s/\s<q then ji c f a s q l1 else some l1)with|none=>rw[O]at hr;simp at hr|some l2=>
 rw[O]at hr;dsimp only at hr;have k2:(a<s/\s<q/\pA f N a s q (List.map aL l1)=some (List.map aL l2)/\dB N ok l2)\/(¬ (a<s/\s<q)/\l2=l1):=by by_cases h:a<s/\s<q;rw[if_pos h]at O;obtain⟨x1,x2⟩:=ih a s q l1 l2 h.1 h.2 Ω aa O;exact .inl ⟨h.1,h.2,x1,x2⟩;rw[if_neg h]at O;simp only[z6]at O;exact .inr ⟨h,O.symm⟩
 have Y:dB N ok l2:=by rcases k2 with k|k;exact k.2.2.2;rw[k.2];exact aa
 have k3:(q<e/\e<b/\pA f N q e b (List.map aL l2)=some (List.map aL r)/\dB N ok r)\/(¬ (q<e/\e<b)/\r=l2):=by by_cases h:q<e/\e<b;rw[if_pos h]at hr;obtain⟨x1,x2⟩:=ih q e b l2 r h.1 h.2 hb Y hr;exact .inl ⟨h.1,h.2,x1,x2⟩;rw[if_neg h]at hr;simp only[z6]at hr;exact .inr ⟨h,hr.symm⟩
 refine⟨?_,?_⟩;clear ih hc hl aa Y hr O J hs ad;rcases ae with⟨hm,ab,Z⟩|⟨hm,ab,Z⟩;rw[ab,Z]at e0;have w4:IntKind.i64.wrap (((q+m:Nat):Int) - (b:Int))=((q+m - b:Nat):Int):=ik Ω Ω;have dm:decide ((m:Int)>(q:Int)):=by simp[hm]
 simp only[rJ,wX,wY,wZ,xc,xd,xe,xf,um,ui,mU,uj,uk,mV,lL,lM,nP,nQ,yT,yU,yV,eK,yW,yX,yY,xg,xh,yZ,y7,pC,pD,W,ac,d1,d2,hh,w2,w3,w4,dm,e0,w5,zh,zk,aW,bE,Int.ofNat_lt,aH];rcases k1 with⟨p1,p2,p3,_⟩|⟨p1,rfl⟩<;>rcases k2 with⟨q1,q2,q3,_⟩|⟨q1,rfl⟩<;>rcases k3 with⟨r1,r2,r3,_⟩|⟨r1,rfl⟩ <;> (by_cases t1:s<m<;>by_cases t2:m<e<;>by_cases t3:a<s<;>by_cases t4:s<q<;>by_cases t5:q<e<;>by_cases t6:e<b<;>first|(exfalso;omega) | (simp only[*,-Q,-he,t1,t2,t3,t4,t5,t6,zn,zm,hm,zh,zk,aW,bE,aH]));rw[ab,Z]at e0;have dm:decide ((m:Int)>(q:Int))=false:=by simp;omega
 simp only[rJ,wX,wY,wZ,xc,xd,xe,xf,um,ui,mU,uj,uk,mV,lL,lM,nP,nQ,yT,yU,yV,eK,yW,yX,yY,xg,xh,yZ,y7,pC,pD,W,ac,d1,d2,hh,w2,w3,dm,e0,w5,zh,zk,aW,bE,Int.ofNat_lt,aH];rcases k1 with⟨p1,p2,p3,_⟩|⟨p1,rfl⟩<;>rcases k2 with⟨q1,q2,q3,_⟩|⟨q1,rfl⟩<;>rcases k3 with⟨r1,r2,r3,_⟩|⟨r1,rfl⟩ <;> (by_cases t1:s<m<;>by_cases t2:m<e<;>by_cases t3:a<s<;>by_cases t4:s<q<;>by_cases t5:q<e<;>by_cases t6:e<b<;>first|(exfalso;omega) | (simp only[*,-Q,-he,t1,t2,t3,t4,t5,t6,zn,zm,hm,zh,zk,aW,bE,aH]));rcases k3 with k|k;exact k.2.2.2;rw[k.2];exact Y
theorem xIw{l r:List fx}(hl:dB N ok l)(hr:Da c 1000 N l=some r):GH N N (List.map aL l)=some (List.map aL r)/\dB N ok r:=by unfold Da at hr;cases h1:aB (rE c N) (0,20,l)with|none=>rw[h1]at hr;simp at hr|some p=>obtain⟨a,l1⟩:=p;rw[h1]at hr;dsimp only at hr;obtain⟨e1,ha,_,V⟩:=Tr (enc:=aL) hN (ok:=ok) 20 Ω (p:=rE c N) (F:=λ a b l=>wN c a b l) (λ a b l l' h e=>by simp only[rE,h,if_true,e]) (λ a b l h e=>by simp only[rE,h,if_true,e]) (λ a b l h=>by simp only[rE,h,if_false]) (G:=λ a b xs=>yQ N a b xs) (λ a b l r O _ hb hl hr=>Wf hN hc a b Ω hb hl hr) (g:=Df N N 20) (λ a b xs=>rfl) (a:=0) hl h1 Ω;cases h2:wN c a N l1 with|none=>rw[h2]at hr;simp at hr|some l2=>
 rw[h2]at hr;dsimp only at hr;obtain⟨e2,Q⟩:=Wf hN hc a N ha (zd _) V h2;have e3:aB (wU N N) (((20:Nat):Int),List.map aL l2)=some (List.map aL r)/\dB N ok r:=by
  refine tA (I:=λ s=>1<=s.1/\dB N ok s.2) (J:=dB N ok) (e:=λ(s:Nat×List fx)=>((s.1:Int),List.map aL s.2)) (f:=List.map aL) ?_ (s:=(20,l2)) ⟨by omega,Q⟩ hr;rintro⟨bs,l⟩ ⟨hb,hl⟩;dsimp only at hb hl;by_cases h:bs<N;have wb:IntKind.i64.wrap (2*(bs:Int))=((2*bs:Nat):Int):=ik Ω Ω;have wb':IntKind.i64.wrap ((bs:Int)*2)=((bs*2:Nat):Int):=ik Ω Ω;cases h3:aB (rB c 1000 bs N) (0,2*bs,l)with|none=>exact m8 (by simp[qJ,h,h3])|some p=>
   obtain ⟨a,l3⟩:=p;obtain ⟨f1,f2,f3,f4⟩:=Tr (enc:=aL) hN (ok:=ok) (2*bs) Ω (p:=rB c 1000 bs N) (F:=fun a b l=>ji c 1000 a (a+bs) b l) (fun a b l l' h e=>by simp only [rB,h,if_true,e]) (fun a b l h e=>by simp only [rB,h,if_true,e]) (fun a b l h=>by simp only [rB,h,if_false]) (G:=fun a b xs=>pA 1000 N a (IntKind.i64.wrap (a+(bs:Int))) b xs) (fun a b l r O Y W hl hr=>by
    have:=Wj hN hc 1000 a (a+bs) b l r Ω Ω W hl hr
    rw[ik (x:=(a:Int)+(bs:Int)) (n:=a+bs) Ω Ω]
    exact this) (g:=Gs N N bs) (fun a b xs=>by rw [<-wb];rfl) (a:=0) hl (by rw [zH];exact h3) Ω
   rw[zH,<-wb]at f1;have f1':aB (Gs N N bs) ((0:Int),IntKind.i64.wrap (2*(bs:Int)),List.map aL l)=some ((a:Int),List.map aL l3):=f1;have q:IntKind.i64.wrap ((a:Int)+(bs:Int))=((a+bs:Nat):Int):=ik Ω Ω;by_cases h4:a+bs<N;(cases h5:ji c 1000 a (a+bs) N l3 with|none=>exact m8 (by simp[qJ,h,h3,h4,h5])|some l4=>obtain⟨f5,f6⟩:=Wj hN hc 1000 a (a+bs) N l3 l4 Ω h4 (zd _) f4 h5;refine pR (s0:=(bs*2,l4)) (by simp[qJ,h,h3,h4,h5]) ?_ ⟨by dsimp only;omega,f6⟩;(have q1:(bs:Int)<(N:Int):=Ω);(have q2:((a+bs:Nat):Int)<(N:Int):=Ω);simp only[wU,De,Gz,GA,yS,GB,f1',q1,q2,zn,aW,zk,zh,q,f5,wb',aH]);refine pR (s0:=(bs*2,l3)) (by simp[qJ,h,h3,h4]) ?_ ⟨by dsimp only;omega,f4⟩;(have q1:(bs:Int)<(N:Int):=Ω);(have q2:¬ ((a+bs:Nat):Int)<(N:Int):=Ω);simp only[wU,De,Gz,GA,yS,GB,f1',q1,q2,zn,zm,aW,bE,zk,zh,q,wb',aH]
  refine r8 (r0:=l) (by simp[qJ,h]) ?_ hl;have q1:¬ (bs:Int)<(N:Int):=Ω
  simp only[wU,De,q1,zm,bE,aH]
 have e1':aB (Df N N 20) ((0:Int),(20:Int),List.map aL l)=some ((a:Int),List.map aL l1):=e1;have e3':aB (wU N N) ((20:Int),List.map aL l2)=some (List.map aL r):=e3.1;refine⟨?_,e3.2⟩;simp only[GH,Nw,No,Np,Nq,e1',e2,e3',zk,zh,aW,aH]
end
theorem xMY{N:Nat}(hN:N*48<=140737488355328){ok:fx->Prop}{c:fx->fx->Int}(hc:∀x y:fx,ok x->ok y->ud (aL x) (aL y)/\ue (aL x) (aL y)=c x y)(l r:List fx)(hl:l.length=N)(ho:∀x,x∈l->ok x)(hr:Da c 1000 N l=some r):Nt N (List.map aL l)=some (List.map aL r):=by obtain⟨e1,e2⟩:=xIw (N:=N) Ω (ok:=ok) hc ⟨hl,ho⟩ hr;simp only[Nt,Nm,e1,zk,zh,aW,aH]
def fI:Nat->List Row->List AV|_,[]=>[]|k,r::R=>.agg [.str (keyOf r),.int .i64 (k:Int)]::fI (k+1) R
def UZ:∀(R:List Row)(k:Nat)(r:Row),aO (fI k R) (keyOf r)=R.findIdx? λ x=>decide (x=r)|[],_,_=>rfl|x::R,k,r=>by(have hk:fB (keyOf r) (((AV.agg [.str (keyOf x),.int .i64 (k:Int)]).cells).getD 0 .top)=decide (x=r):=by show (keyOf x==keyOf r)=_;by_cases h:x=r;subst h;simp;have:¬ keyOf x=keyOf r:=λ e=>h (Fz e);simp[h,this]);show (match fB (keyOf r) (((AV.agg [.str (keyOf x),.int .i64 (k:Int)]).cells).getD 0 .top)with|true=>some 0|false=>(aO (fI (k+1) R) (keyOf r)).map (·+1))=_;rw[hk,List.findIdx?_cons,UZ R (k+1) r];by_cases h:x=r<;>simp[h]
def TW:∀(R:List Row)(k:Nat),(fI k R).length=R.length|[],_=>rfl|_::R,k=>by show (fI (k+1) R).length+1=_;rw[TW R];rfl
def xzE:∀(R:List Row)(k:Nat)(r:Row),fI k (R++[r])=fI k R++[.agg [.str (keyOf r),.int .i64 ((k+R.length:Nat):Int)]]|[],_,_=>rfl|x::R,k,r=>by show _::fI (k+1) (R++[r])=_;rw[xzE R (k+1) r,zF,show k+1+R.length=k+(R.length+1) by omega];rfl
def TV:∀(R:List Row)(k j:Nat)(h:j<R.length),(fI k R).getD j .top=.agg [.str (keyOf R[j]),.int .i64 ((k+j:Nat):Int)]|x::R,k,0,h=>rfl|x::R,k,j+1,h=>by show (fI (k+1) R).getD j .top=_;rw[TV R (k+1) j (by simpa using h),show k+1+j=k+(j+1) by omega];rfl
def upd(G:List fx)(f:Fc):List fx:=match (G.map (·.1)).findIdx? λ x=>decide (x=f.r)with|some j=>G.set j (f.r,(G.getD j ([],[])).2++[f.p])|none=>G++[(f.r,[f.p])]
structure GI (l:List Fc) (G:List fx):Prop where
 nd:(G.map (·.1)).Nodup
 mem:∀r,r∈G.map (·.1)↔∃f,f∈l/\f.r=r/\pv f.p
 ps:∀g,g∈G->g.2=cW l g.1
 len:G.length<=l.length
def GI.nil:GI [] []:=⟨List.nodup_nil,λ r=>by simp,λ g hg=>by simp at hg,zd _⟩
def FC(l:List Fc)(f:Fc)(r:Row):cW (l++[f]) r=cW l r++(if f.r=r/\pv f.p then[f.p]else[]):=by unfold cW;rw[List.filter_append,zx];congr 1;by_cases h1:f.r=r<;>by_cases h2:pv f.p=true<;>simp[h1,h2]
variable {G:List fx}
def GI.skip{l:List Fc}(h:GI l G){f:Fc}(hf:pv f.p=false):GI (l++[f]) G:=
 ⟨h.nd,fun r=>by
  rw[h.mem];refine⟨λ⟨g,hg,e⟩=>⟨g,by simp[hg],e⟩,λ⟨g,hg,e1,e2⟩=>⟨g,?_,e1,e2⟩⟩
  rcases zG.1 hg with hg|hg
  . exact hg
  . rw [zv] at hg;subst hg;rw [hf] at e2;simp at e2,fun g hg=>by rw [FC,if_neg (by rw [hf];simp),zD];exact h.ps g hg,by rw [z8];have:=h.len;omega⟩
variable {R:List Row}{j:Nat}
def YI{r:Row}(h:R.findIdx? (λ x=>decide (x=r))=some j):∃hj:j<R.length,R[j]=r:=by obtain⟨hj,h1,_⟩:=List.findIdx?_eq_some_iff_getElem.1 h;exact⟨hj,by simpa using h1⟩
def xBj{r:Row}(h:R.findIdx? (λ x=>decide (x=r))=none):r∉R:=λ hr=>by have:=List.findIdx?_eq_none_iff.1 h r hr;simp at this
def Sr(hj:j<G.length){ps:List aF}{r:Row}(hr:G[j].1=r):(G.set j (r,ps)).map (·.1)=G.map (·.1):=by(rw[List.map_set];show (G.map (·.1)).set j r=_;rw[<-hr];have:(G.map (·.1))[j]'(by simpa using hj)=G[j].1:=by simp);rw[<-this];exact List.set_getElem_self _
def GI.upd{l:List Fc}(h:GI l G){f:Fc}(hf:pv f.p):GI (l++[f]) (M.upd G f):=by unfold M.upd;cases hi:(G.map (·.1)).findIdx? λ x=>decide (x=f.r)with|some j=>((obtain⟨hj,hr⟩:=YI hi;rw[za]at hj;rw[List.getElem_map]at hr;dsimp only;have gd:G.getD j ([],[])=G[j]:=by rw[z7,ze hj];rfl);rw[gd];refine⟨by rw[Sr hj hr];exact h.nd,λ r=>?_,λ g hg=>?_,by rw[y4,z8];have:=h.len;omega⟩;rw[Sr hj hr,h.mem];refine⟨λ⟨g,hg,e⟩=>⟨g,by simp[hg],e⟩,λ⟨g,hg,e1,e2⟩=>?_⟩;rcases zG.1 hg with hg|hg;exact⟨g,hg,e1,e2⟩;rw[zv]at hg;subst hg;refine(h.mem r).1 ?_;rw[<-e1,<-hr];exact zK.2 ⟨G[j],zo hj,rfl⟩;obtain⟨i,q,rfl⟩:=zp.1 hg;rw[y4]at q;rw[List.getElem_set];by_cases O:j=i;subst O;rw[if_pos rfl,FC,if_pos ⟨rfl,hf⟩,h.ps _ (zo hj),hr];rw[if_neg O,FC,if_neg ?_,zD];exact h.ps _ (zo q);(rintro⟨e,_⟩;have hn:=zB.1 h.nd;have ei:(G.map (·.1))[i]'(by simpa using q)=G[i].1:=by simp);(have ej:(G.map (·.1))[j]'(by simpa using hj)=G[j].1:=by simp);rcases Nat.lt_or_gt_of_ne O with J|J;exact hn j i (by simpa using hj) (by simpa using q) J (by rw[ei,ej,hr,e]);exact hn i j (by simpa using q) (by simpa using hj) J (by rw[ei,ej,hr,e]))|none=>(have hr:=xBj hi;dsimp only;have hz:cW l f.r=[]:=by unfold cW;rw[List.map_eq_nil_iff,List.filter_eq_nil_iff];intro g hg he;simp only[zf,zl]at he;exact hr ((h.mem _).2 ⟨g,hg,he⟩));refine⟨?_,λ r=>?_,λ g hg=>?_,by rw[z8,z8];have:=h.len;simp;omega⟩;rw[zx];refine List.nodup_append.2 ⟨h.nd,by simp,λ a ha b hb e=>?_⟩;simp at hb;exact hr (by rw[<-hb,<-e];exact ha);rw[zx,zG,h.mem];simp only[zV,zW,zv,zG];constructor;rintro(⟨g,hg,e⟩|rfl);exact⟨g,.inl hg,e⟩;exact⟨f,.inr rfl,rfl,hf⟩;rintro⟨g,hg|rfl,e⟩;exact .inl ⟨g,hg,e⟩;exact .inr e.1.symm;rcases zG.1 hg with hg|hg;rw[FC,if_neg ?_,zD];exact h.ps g hg;rintro⟨e,_⟩;exact hr (by rw[e];exact zK.2 ⟨g,hg,rfl⟩);rw[zv]at hg;subst hg;rw[FC,if_pos ⟨rfl,hf⟩,hz];rfl
def FR(g:fx):((aL g).cells.getD 0 .top).toList=g.1.map encV:=rfl
def xGj{α:Type}(l:List α)(x d:α):(l++[x]).getD l.length d=x:=by simp
def xIr{α:Type}(l:List α)(x y:α):(l++[x]).set l.length y=l++[y]:=by simp
def Wx(xs:List AV):(AV.agg xs).cells=xs:=rfl
def C2(n:Nat)(xs:List AV):(AV.list n xs).toList=xs:=rfl
def Wz(k:IntKind)(n:Int):(AV.int k n).toInt=n:=rfl
def Wy(xs:List AV):jV 2 (.list 2 xs):=rfl
def WC(n m:Nat):yM (.int .i64 (n:Int)) m=decide (n<m):=rfl
def WB:yM (.int .i64 0) 1:=rfl
def SL(a b:AV):[a,b].getD 0 .top=a:=rfl
def SM(a b:AV):[a,b].getD 1 .top=b:=rfl
def lt2(a b:AV):([a,b].length==2):=rfl
def SZ(a b:AV):List.take 1 [a,b]=[a]:=rfl
def SG(a b:AV):List.drop 2 [a,b]=[]:=rfl
def UX(g:fx):aL g=.agg [.list 3 (g.1.map encV),.list 2 (g.2.map aA)]:=rfl
def UY(p:aF):aA p=.agg [.int .i64 p.1,.int .i64 p.2]:=rfl
def kH(l:List Fc):Prop:=True
def kH.few{l:List Fc}(h:l.length<20):kH l:=trivial
def kH.of{l m:List Fc}(h:kH l)(hm:∀f,f∈m->∃g,g∈l/\f.r=g.r):kH m:=trivial
def F3(l:List Fc):kH l:=trivial
def Keyed(l:List Fc):Prop:=pi l/\∀f,f∈l->(∀v,v∈f.r->pV v)/\(keyOf f.r).length<=17592186044416
def Keyed.key{l:List Fc}(h:Keyed l){f:Fc}(hf:f∈l):EH (f.r.map encV)=some (keyOf f.r):=xLE f.r (h.1.2 f hf) (h.2 f hf).1 (h.2 f hf).2
def xGx(l:List Fc)(h:Keyed l)(k:Nat)(hk:k<l.length)(G:List fx)(hG:GI (l.take k) G):un (l.map encF) ((l.length:Nat):Int) (G.length,(k:Int),fI 0 (G.map (·.1)),G.map aL) =some (.inl ((if pv l[k].p then upd G l[k]else G).length,((k+1:Nat):Int),fI 0 ((if pv l[k].p then upd G l[k]else G).map (·.1)),(if pv l[k].p then upd G l[k]else G).map aL)):=by(have hl:=h.1.1;have i1:(k:Int)<(l.length:Int):=Ω);have gf:(l.map encF).getD k .top=encF l[k]:=cQ _ _ _ hk;have ek:=h.key (zo hk);have kl:=(h.2 _ (zo hk)).2;have O:=hG.len;rw[zt]at O;cases hv:pv l[k].p with|false=>simp only[un,Ay,bQ,i1,hk,gf,np,nq,nr,nF,nG,nH,lF,iJ,iI,B6,hv,dO (n:=k) Ω];rfl|true=>
 have k1:(keyOf l[k].r).length<=4611686018427387904:=Ω
 have hx:=UZ (G.map (·.1)) 0 l[k].r;have n1:(fI 0 (G.map (·.1))).length<4611686018427387904:=by rw[TW,za];omega
 have m1:(G.length+1)*48<=140737488355328:=Ω
 have m2:G.length+1<=4611686018427387904:=Ω
 simp only[if_true];cases hi:(G.map (·.1)).findIdx? λ x=>decide (x=l[k].r)with|none=>(rw[hi]at hx;have hu:upd G l[k]=G++[(l[k].r,[l[k].p])]:=by unfold upd;rw[hi]);(have hh:iL (fI 0 (G.map (·.1))) (keyOf l[k].r)=false:=by unfold iL;rw[hx];rfl);(have hg:eO (AV.int .i64 0) (fI 0 (G.map (·.1))) (keyOf l[k].r)=AV.int .i64 0:=by unfold eO;rw[hx]);(have hp:dP (fI 0 (G.map (·.1))) (keyOf l[k].r) (AV.int .i64 (G.length:Int))=fI 0 ((G++[(l[k].r,[l[k].p])]).map (·.1)):=by unfold dP;rw[hx,zx];show _=fI 0 (G.map (·.1)++[l[k].r]);rw[xzE,za,zH]);(have i2:(G.length:Int)<((G.length+1:Nat):Int):=Ω);(have J:cX (Sh.int .i64) (AV.int .i64 0):=rfl;have gl:∀x:AV,(G.map aL++[x]).getD G.length .top=x:=λ x=>by have:=xGj (G.map aL) x .top;rwa [za]at this);(have sl:∀x y:AV,(G.map aL++[x]).set G.length y=G.map aL++[y]:=λ x y=>by have:=xIr (G.map aL) x y;rwa [za]at this);rw[hu];simp only[un,Ay,Hj,AN,AO,Dt,G6,Dw,o6,G7,o7,rM,nO,Dk,GU,GV,uv,GW,Dl,xi,bQ,i1,hk,gf,np,nq,nr,nF,nG,nH,lF,iJ,iI,B6,hv,dO (n:=k) Ω,ek,k1,hh,hg,hp,n1,m1,m2,i2,J,gl,sl,z8,zj,zx,zV,zW,Wx,C2,Wz,Wy,WC,SL,SM,lt2,SZ,SG,y4,Nat.lt_succ_self,Bool.and_self,List.length_nil,zH,UX,UY,List.singleton_append,zU,zD,Int.natCast_zero];try simp[aW,WB,aH]|some j=>
 obtain⟨hj,hr⟩:=YI hi;rw[hi]at hx;have q:j<G.length:=by simpa using hj
 rw[List.getElem_map]at hr;have gd:G.getD j ([],[])=G[j]:=by rw[z7,ze q];rfl
 have hu:upd G l[k]=G.set j (l[k].r,G[j].2++[l[k].p]):=by unfold upd;rw[hi];dsimp only;rw[gd]
 have hh:iL (fI 0 (G.map (·.1))) (keyOf l[k].r):=by unfold iL;rw[hx];rfl
 have hg:eO (AV.int .i64 0) (fI 0 (G.map (·.1))) (keyOf l[k].r)=AV.int .i64 (j:Int):=by unfold eO;rw[hx];dsimp only;rw[TV _ _ _ hj,zH];rfl
 have gj:(G.map aL).getD j .top=aL G[j]:=cQ _ _ _ q;have i2:(j:Int)<(G.length:Int):=Ω
 have J:cX (Sh.int .i64) (AV.int .i64 (j:Int)):=rfl;have pl:G[j].2.length<=k:=by rw[hG.ps _ (zo q)];have:=KU (l.take k) G[j].1;rw[zt]at this;omega
 have m3:(G[j].2.length+1)*16<=140737488355328:=Ω
 have m4:G[j].2.length+1<=4611686018427387904:=Ω
 have gs:∀x:AV,((G.map aL).set j x).getD j .top=x:=λ x=>by rw[z7,zL (by simpa using q)];rfl
 have ss:∀x y:AV,((G.map aL).set j x).set j y=(G.map aL).set j y:=λ x y=>List.set_set ..;have tj:(AV.int IntKind.i64 (j:Int)).toInt=(j:Int):=rfl;have cj:(aL G[j]).cells=[.list 3 (l[k].r.map encV),.list 2 (G[j].2.map aA)]:=by rw[<-hr];rfl
 rw[hu,Sr q hr,y4,List.map_set];simp only[un,Ay,Hj,AN,AO,Dt,G6,Dw,o6,G7,o7,rM,nO,Dk,GU,GV,uv,GW,Dl,xi,bQ,i1,hk,gf,np,nq,nr,nF,nG,nH,lF,iJ,iI,B6,hv,dO (n:=k) Ω,ek,k1,hh,hg,i2,J,tj,gj,cj,q,y4,gs,ss,Wx,C2,Wz,Wy,WC,SL,SM,lt2,SZ,SG,m3,m4,Bool.and_self,z8,zj,Nat.lt_succ_self,UX,UY,zx,zV,zW,List.singleton_append,zD];try simp[aW,WB,hr,aH]
def lA(l:List Fc):List fx:=l.foldl (λ G f=>if pv f.p then upd G f else G) []
def T0(l:List Fc)(f:Fc):lA (l++[f])=if pv f.p then upd (lA l) f else lA l:=by simp[lA]
def VX:∀l:List Fc,GI l.reverse (lA l.reverse)|[]=>GI.nil|f::l=>by rw[List.reverse_cons,T0];have ih:=VX l;cases hv:pv f.p with|true=>rw[if_pos rfl];exact ih.upd hv|false=>rw[if_neg Ψ];exact ih.skip hv
def VY(l:List Fc):GI l (lA l):=by have:=VX l.reverse;rwa [List.reverse_reverse]at this
def xGZ(l:List Fc)(h:Keyed l):aB (un (l.map encF) ((l.length:Nat):Int)) ((0:Nat),(0:Int),[],[])=some ((lA l).length,(lA l).map aL):=by refine tC (λ k=>(((lA (l.take k)).length,((k:Nat):Int),fI 0 ((lA (l.take k)).map (·.1)),(lA (l.take k)).map aL):Nat×Int×List AV×List AV)) l.length _ (λ k hk=>?_) ?_ l.length 0 Ω;(rw[xGx l h k hk (lA (l.take k)) (VY _)];have tk:l.take (k+1)=l.take k++[l[k]]:=by rw[List.take_add_one,ze hk];rfl);rw[tk,T0];simp only[un,Ay,za,zy,zm,bE,y6,aH]
def xJg(x y:fx)(hx:x.1.length<=4398046511104):ud (aL x) (aL y)/\ue (aL x) (aL y)=aQ x.1 y.1:=by(have e:tc (x.1.map encV) (x.2.map aA) (y.1.map encV) (y.2.map aA)=some (aQ x.1 y.1):=by unfold tc OB;rw[xHd x.1 y.1 (by unfold maxLen;omega)];rfl);have e2:tc ((aL x).cells.getD 0 .top).toList ((aL x).cells.getD 1 .top).toList ((aL y).cells.getD 0 .top).toList ((aL y).cells.getD 1 .top).toList=some (aQ x.1 y.1):=e;unfold ud ue;rw[e2];exact⟨rfl,rfl⟩
def UD(l:List Fc)(h:Keyed l)(Q:kH l):∃S:List fx,uN (l.map encF)=some (S.map aL)/\rC l (S.map (·.1))/\(∀g,g∈S->g.2=cW l g.1)/\S.length<=l.length:=by
 have hg:=VY l;have O:=h.1.1;have J:=hg.len;have cG:Cm λ x y:fx=>aQ x.1 y.1:=mO.on (e:=λ x:fx=>x.1);obtain⟨r,e,p,s⟩:=(λ F(hF:20<=F)=>xCx cG.ord F (lA l).length (Uy (Nat.le_trans J O) hF) (lA l) rfl) 1000 (by decide);have es:=xMY (N:=(lA l).length) Ω (ok:=fun g=>g.1.length<=1048576) (c:=fun x y:fx=>aQ x.1 y.1) (fun x y hx hy=>xJg x y Ω) (lA l) r rfl (fun g q=>by
  obtain ⟨f,hf,e,_⟩:=(hg.mem g.1).1 (zK.2 ⟨g,q,rfl⟩);rw [<-e];exact h.1.2 f hf) e
 have rl:=p.length_eq;refine⟨r,?_,⟨?_,λ x=>?_⟩,λ g q=>hg.ps g (p.mem_iff.1 q),by rw[rl];exact J⟩;have el:=xGZ l h;have ra:yL 2 1 ((lA l).map aL):=by unfold yL;rw[zI];intro x hx;obtain⟨g,_,rfl⟩:=zK.1 hx;rfl
 have ll:(lA l).length<=r.length:=Ω
 have tt:List.take (lA l).length (r.map aL)=r.map aL:=zi (by rw[za];omega);unfold uN O5 HG AT OC;simp only[za,el,zk,zh,aW,ra,es,zH,ll,zn,zS,zr,tt,aH];refine xG7 (λ _ _=>vl) ?_ ?_;exact List.pairwise_map.2 s;exact((p.map (·.1)).nodup_iff).2 hg.nd;rw[(p.map (·.1)).mem_iff];exact hg.mem x
end Go.Sim.M
namespace Go.Sim.M
open Go.RowKit Go.Lib
def Fo(l:List AV)(i:Int):Bool:=decide ((0:Int)<=i)&&decide (i<(↑l.length:Int))
def Kc{T:Type}(l:List AV)(out_n:Nat)(q:Int)(na:Int)(nb:Int)(i:Int)(out_xs:List AV)(δ:T)(κl:(Int×Int×Int×List AV)->T)(κr:(Int×Int×Int×List AV)->T):T:=br (decide (i<(↑l.length:Int))) (br (Fo l i) (br (decide (i.toNat<l.length)&&cX (Sh.int IntKind.i64) ((l.getD i.toNat AV.top).cells.getD (0:Nat) AV.top)) (br (((l.getD i.toNat AV.top).cells.getD (0:Nat) AV.top).toInt==q) (br (Fo l i) (br (decide (i.toNat<l.length)&&cX (Sh.int IntKind.i64) ((l.getD i.toNat AV.top).cells.getD (1:Nat) AV.top)) (br (Fo l i) (br (decide (i.toNat<l.length)&&cX (Sh.int IntKind.i64) ((l.getD i.toNat AV.top).cells.getD (2:Nat) AV.top)) (κl (IntKind.i64.wrap (na+((l.getD i.toNat AV.top).cells.getD (1:Nat) AV.top).toInt),IntKind.i64.wrap (nb+((l.getD i.toNat AV.top).cells.getD (2:Nat) AV.top).toInt),IntKind.i64.wrap (i+(1:Int)),out_xs)) (δ)) (δ)) (δ)) (δ)) (κr (na,nb,i,out_xs))) (δ)) (δ)) (κr (na,nb,i,out_xs))
def yc(l:List AV)(out_n:Nat)(q:Int):(Int×Int×Int×List AV)->Option ((Int×Int×Int×List AV)⊕(Int×Int×Int×List AV)):=λ(na,nb,i,out_xs)=>Kc l out_n q na nb i out_xs none (λ s=>some (.inl s)) (λ p=>some (.inr p))
def B7(keep:Bool->Bool->Bool)(out_n:Nat):Bool:=decide ((0:Int)<=IntKind.i64.wrap ((↑out_n:Int) - (1:Int)))&&decide (IntKind.i64.wrap ((↑out_n:Int) - (1:Int))<(↑out_n:Int))
def JK(keep:Bool->Bool->Bool)(l:List AV)(out_n:Nat)(na:Int)(nb:Int)(i:Int)(q:Int)(out_xs:List AV):Int×Int×Int×List AV:=(aB (yc l out_n q) (na,nb,i,out_xs)).getD ((0:Int),(0:Int),(0:Int),[])
def oF(keep:Bool->Bool->Bool)(out_n:Nat):Nat:=(0:Nat)+(IntKind.i64.wrap ((↑out_n:Int) - (1:Int))).toNat
def J8(keep:Bool->Bool->Bool)(l:List AV)(out_n:Nat)(na:Int)(nb:Int)(i:Int)(q:Int)(out_xs:List AV):Int×Int×List AV:=(JK keep l out_n na nb i q out_xs).snd
def rk(keep:Bool->Bool->Bool)(l:List AV)(out_n:Nat)(na:Int)(nb:Int)(i:Int)(q:Int)(out_xs:List AV):Int:=(JK keep l out_n na nb i q out_xs).fst
def J7(keep:Bool->Bool->Bool)(l:List AV)(out_n:Nat)(na:Int)(nb:Int)(i:Int)(q:Int)(out_xs:List AV):Int×List AV:=(J8 keep l out_n na nb i q out_xs).snd
def rj(keep:Bool->Bool->Bool)(l:List AV)(out_n:Nat)(na:Int)(nb:Int)(i:Int)(q:Int)(out_xs:List AV):Int:=(J8 keep l out_n na nb i q out_xs).fst
def kC(keep:Bool->Bool->Bool)(l:List AV)(out_n:Nat)(na:Int)(nb:Int)(i:Int)(q:Int)(out_xs:List AV):List AV:=(J7 keep l out_n na nb i q out_xs).snd
def J5(keep:Bool->Bool->Bool)(l:List AV)(out_n:Nat)(na:Int)(nb:Int)(i:Int)(q:Int)(out_xs:List AV):Bool:=keep (decide (rk keep l out_n na nb i q out_xs>(0:Int))) (decide (rj keep l out_n na nb i q out_xs>(0:Int)))
def kP(keep:Bool->Bool->Bool)(l:List AV)(out_n:Nat)(na:Int)(nb:Int)(i:Int)(q:Int)(out_xs:List AV):Int:=(J7 keep l out_n na nb i q out_xs).fst
def B1(keep:Bool->Bool->Bool)(l:List AV)(out_n:Nat)(na:Int)(nb:Int)(i:Int)(q:Int)(out_xs:List AV):Bool:=decide (oF keep out_n<(kC keep l out_n na nb i q out_xs).length)
def J6(keep:Bool->Bool->Bool)(l:List AV)(out_n:Nat)(na:Int)(nb:Int)(i:Int)(q:Int)(out_xs:List AV):Bool:=decide (kP keep l out_n na nb i q out_xs<(↑l.length:Int))
def B9{T:Type}(keep:Bool->Bool->Bool)(l:List AV)(out_n:Nat)(na:Int)(nb:Int)(i:Int)(q:Int)(out_xs:List AV)(δ:T)(κl:(Nat×Int×Int×Int×Int×List AV)->T)(κr:(Nat×List AV)->T):T:=br (decide (q<(1099511627776:Int))) (br ((aB (yc l out_n q) (na,nb,i,out_xs)).isSome) (br (J6 keep l out_n na nb i q out_xs) (br (decide ((0:Int)<=kP keep l out_n na nb i q out_xs)&&J6 keep l out_n na nb i q out_xs) (br (decide ((kP keep l out_n na nb i q out_xs).toNat<l.length)&&cX (Sh.int IntKind.i64) ((l.getD (kP keep l out_n na nb i q out_xs).toNat AV.top).cells.getD (0:Nat) AV.top)) (br (J5 keep l out_n na nb i q out_xs) (br (decide ((↑out_n:Int)>(0:Int))) (br (B7 keep out_n) (br (B1 keep l out_n na nb i q out_xs&&cX (Sh.int IntKind.i64) (((kC keep l out_n na nb i q out_xs).getD (oF keep out_n) AV.top).cells.getD (1:Nat) AV.top)) (br ((((kC keep l out_n na nb i q out_xs).getD (oF keep out_n) AV.top).cells.getD (1:Nat) AV.top).toInt==q) (br (B7 keep out_n) (br (B1 keep l out_n na nb i q out_xs) (κl (out_n,rk keep l out_n na nb i q out_xs,rj keep l out_n na nb i q out_xs,kP keep l out_n na nb i q out_xs,((l.getD (kP keep l out_n na nb i q out_xs).toNat AV.top).cells.getD (0:Nat) AV.top).toInt,(kC keep l out_n na nb i q out_xs).set (oF keep out_n) (AV.agg (List.take (1:Nat) ((kC keep l out_n na nb i q out_xs).getD (oF keep out_n) AV.top).cells++[AV.int IntKind.i64 ((l.getD (kP keep l out_n na nb i q out_xs).toNat AV.top).cells.getD (0:Nat) AV.top).toInt]++List.drop (2:Nat) ((kC keep l out_n na nb i q out_xs).getD (oF keep out_n) AV.top).cells)))) (δ)) (δ)) (br (out_n==(kC keep l out_n na nb i q out_xs).length&&(decide ((out_n+(1:Nat))*(16:Nat)<=(140737488355328:Nat))&&decide (out_n+(1:Nat)<=(4611686018427387904:Nat)))) (κl (out_n+(1:Nat),rk keep l out_n na nb i q out_xs,rj keep l out_n na nb i q out_xs,kP keep l out_n na nb i q out_xs,((l.getD (kP keep l out_n na nb i q out_xs).toNat AV.top).cells.getD (0:Nat) AV.top).toInt,kC keep l out_n na nb i q out_xs++[AV.agg [AV.int IntKind.i64 q,AV.int IntKind.i64 ((l.getD (kP keep l out_n na nb i q out_xs).toNat AV.top).cells.getD (0:Nat) AV.top).toInt]])) (δ))) (δ)) (δ)) (br (out_n==(kC keep l out_n na nb i q out_xs).length&&(decide ((out_n+(1:Nat))*(16:Nat)<=(140737488355328:Nat))&&decide (out_n+(1:Nat)<=(4611686018427387904:Nat)))) (κl (out_n+(1:Nat),rk keep l out_n na nb i q out_xs,rj keep l out_n na nb i q out_xs,kP keep l out_n na nb i q out_xs,((l.getD (kP keep l out_n na nb i q out_xs).toNat AV.top).cells.getD (0:Nat) AV.top).toInt,kC keep l out_n na nb i q out_xs++[AV.agg [AV.int IntKind.i64 q,AV.int IntKind.i64 ((l.getD (kP keep l out_n na nb i q out_xs).toNat AV.top).cells.getD (0:Nat) AV.top).toInt]])) (δ))) (κl (out_n,rk keep l out_n na nb i q out_xs,rj keep l out_n na nb i q out_xs,kP keep l out_n na nb i q out_xs,((l.getD (kP keep l out_n na nb i q out_xs).toNat AV.top).cells.getD (0:Nat) AV.top).toInt,kC keep l out_n na nb i q out_xs))) (δ)) (δ)) (br (J5 keep l out_n na nb i q out_xs) (br (decide ((↑out_n:Int)>(0:Int))) (br (B7 keep out_n) (br (B1 keep l out_n na nb i q out_xs&&cX (Sh.int IntKind.i64) (((kC keep l out_n na nb i q out_xs).getD (oF keep out_n) AV.top).cells.getD (1:Nat) AV.top)) (br ((((kC keep l out_n na nb i q out_xs).getD (oF keep out_n) AV.top).cells.getD (1:Nat) AV.top).toInt==q) (br (B7 keep out_n) (br (B1 keep l out_n na nb i q out_xs) (κl (out_n,rk keep l out_n na nb i q out_xs,rj keep l out_n na nb i q out_xs,kP keep l out_n na nb i q out_xs,(1099511627776:Int),(kC keep l out_n na nb i q out_xs).set (oF keep out_n) (AV.agg (List.take (1:Nat) ((kC keep l out_n na nb i q out_xs).getD (oF keep out_n) AV.top).cells++[AV.int IntKind.i64 (1099511627776:Int)]++List.drop (2:Nat) ((kC keep l out_n na nb i q out_xs).getD (oF keep out_n) AV.top).cells)))) (δ)) (δ)) (br (out_n==(kC keep l out_n na nb i q out_xs).length&&(decide ((out_n+(1:Nat))*(16:Nat)<=(140737488355328:Nat))&&decide (out_n+(1:Nat)<=(4611686018427387904:Nat)))) (κl (out_n+(1:Nat),rk keep l out_n na nb i q out_xs,rj keep l out_n na nb i q out_xs,kP keep l out_n na nb i q out_xs,(1099511627776:Int),kC keep l out_n na nb i q out_xs++[AV.agg [AV.int IntKind.i64 q,AV.int IntKind.i64 (1099511627776:Int)]])) (δ))) (δ)) (δ)) (br (out_n==(kC keep l out_n na nb i q out_xs).length&&(decide ((out_n+(1:Nat))*(16:Nat)<=(140737488355328:Nat))&&decide (out_n+(1:Nat)<=(4611686018427387904:Nat)))) (κl (out_n+(1:Nat),rk keep l out_n na nb i q out_xs,rj keep l out_n na nb i q out_xs,kP keep l out_n na nb i q out_xs,(1099511627776:Int),kC keep l out_n na nb i q out_xs++[AV.agg [AV.int IntKind.i64 q,AV.int IntKind.i64 (1099511627776:Int)]])) (δ))) (κl (out_n,rk keep l out_n na nb i q out_xs,rj keep l out_n na nb i q out_xs,kP keep l out_n na nb i q out_xs,(1099511627776:Int),kC keep l out_n na nb i q out_xs)))) (δ)) (κr (out_n,out_xs))
def vd(keep:Bool->Bool->Bool)(l:List AV):(Nat×Int×Int×Int×Int×List AV)->Option ((Nat×Int×Int×Int×Int×List AV)⊕(Nat×List AV)):=λ(out_n,na,nb,i,q,out_xs)=>B9 keep l out_n na nb i q out_xs none (λ s=>some (.inl s)) (λ p=>some (.inr p))
def KS(keep:Bool->Bool->Bool)(a:List AV)(b:List AV):Option (Nat×List AV):=aB (vd keep ((ve a b).getD [])) ((0:Nat),(0:Int),(0:Int),(0:Int),(0:Int),[])
def KR(keep:Bool->Bool->Bool)(a:List AV)(b:List AV):Nat×List AV:=(KS keep a b).getD ((0:Nat),[])
def KP(keep:Bool->Bool->Bool)(a:List AV)(b:List AV):List AV:=(KR keep a b).snd
def KQ(keep:Bool->Bool->Bool)(a:List AV)(b:List AV):Nat:=(KR keep a b).fst
def Wh{T:Type}(keep:Bool->Bool->Bool)(a:List AV)(b:List AV)(δ:T)(κ:List AV->T):T:=br ((ve a b).isSome) (br ((KS keep a b).isSome) (br (decide ((0:Nat)+KQ keep a b<=(KP keep a b).length)&&true) (κ (List.take (KQ keep a b) (List.drop (0:Nat) (KP keep a b)))) (δ)) (δ)) (δ)
def F4(keep:Bool->Bool->Bool)(a:List AV)(b:List AV):Option (List AV):=Wh keep a b none some
open Go.Sort
def fq(e:jk):AV:=.agg [.int .i64 e.1,.int .i64 e.2.1,.int .i64 e.2.2]
theorem Zc(x y:Int):∀a b,bS x y (a++b)=bS x y a++bS x y b|[],b=>rfl|p::a,b=>by simp only[List.cons_append,bS,Zc x y a b];split<;>rfl
theorem ZV(x y:Int)(l:List aF)(n:Nat)(h:n<l.length):bS x y (l.take (n+1))=bS x y (l.take n)++(if pv l[n] then[(l[n].1,x,y),(l[n].2,-x,-y)]else[]):=by rw[List.take_add_one,ze h];show bS x y (l.take n++[l[n]])=_;rw[Zc];rfl
theorem ZF(B:List AV)(l:List aF)(hl:l.length<=1073741824):∀(k n:Nat),n+k=l.length->
  aB (ut B (l.map aA) ((l.length:Nat):Int)) ((bS 1 0 (l.take n)).length,((n:Nat):Int),(bS 1 0 (l.take n)).map fq)=some ((bS 1 0 l).length,(bS 1 0 l).map fq)
 |0,n,hk=>by
  obtain rfl:n=l.length:=by omega
  rw[zi (zd _)];refine cR ?_;unfold ut;simp only;unfold H8;rw[decide_eq_false (by omega:¬ ((l.length:Nat):Int)<((l.length:Nat):Int))]
  rfl
 |k+1,n,hk=>by
  have h1:n<l.length:=by omega
  have J:=yl 1 0 (l.take n);have q:(l.take n).length<=n:=by rw[zt];omega
  have d1:((n:Nat):Int)<((l.length:Nat):Int):=by omega
  have d2:(0:Int)<=((n:Nat):Int):=by omega
  have d3:((bS 1 0 (l.take n)).length+2)*24<=140737488355328:=by omega
  have d4:(bS 1 0 (l.take n)).length+2<=4611686018427387904:=by omega
  have d5:((bS 1 0 (l.take n)).length==(bS 1 0 (l.take n)).length)=true:=by simp
  have gf:(l.map aA).getD n .top=aA l[n]:=cQ _ _ _ h1;have c0:((aA l[n]).cells.getD 0 .top).toInt=l[n].1:=rfl;have c1:((aA l[n]).cells.getD 1 .top).toInt=l[n].2:=rfl;have sh:((aA l[n]).cells.length==(2:Nat)&&ef [Sh.int IntKind.i64,Sh.int IntKind.i64] (aA l[n]).cells (0:Nat))=true:=rfl;have st:ut B (l.map aA) ((l.length:Nat):Int) ((bS 1 0 (l.take n)).length,((n:Nat):Int),(bS 1 0 (l.take n)).map fq) =
    some (.inl ((bS 1 0 (l.take (n+1))).length,((n+1:Nat):Int),(bS 1 0 (l.take (n+1))).map fq)):=by
   rw[ZV 1 0 l n h1];unfold ut;simp only;unfold H8;rw[zN,gf,sh,c0,c1,B6,za,za,decide_eq_true d1,decide_eq_true d2,decide_eq_true h1,decide_eq_true d3,decide_eq_true d4,d5,tE (show n+1<=maxLen by unfold maxLen;omega)]
   cases pv l[n]with
   |true=>simp only[if_true,z8,zx];rfl
   |false=>simp only[zT,if_false,zD];rfl
  rw[en st];exact ZF B l hl k (n+1) (by omega)
theorem Zb(E0:List jk)(l:List aF)(hl:l.length<=1073741824)(hE:E0.length<=2147483648):∀(k n:Nat),n+k=l.length->
  aB (AG (l.map aA) ((l.length:Nat):Int)) ((E0++bS 0 1 (l.take n)).length,((n:Nat):Int),(E0++bS 0 1 (l.take n)).map fq)=some ((E0++bS 0 1 l).length,(E0++bS 0 1 l).map fq)
 |0,n,hk=>by
  obtain rfl:n=l.length:=by omega
  rw[zi (zd _)];refine cR ?_;unfold AG;simp only;unfold ID;rw[decide_eq_false (by omega:¬ ((l.length:Nat):Int)<((l.length:Nat):Int))]
  rfl
 |k+1,n,hk=>by
  have h1:n<l.length:=by omega
  have O:=yl 0 1 (l.take n);have J:(l.take n).length<=n:=by rw[zt];omega
  have q:(E0++bS 0 1 (l.take n)).length=E0.length+(bS 0 1 (l.take n)).length:=z8;have d1:((n:Nat):Int)<((l.length:Nat):Int):=by omega
  have d2:(0:Int)<=((n:Nat):Int):=by omega
  have d3:((E0++bS 0 1 (l.take n)).length+2)*24<=140737488355328:=by omega
  have d4:(E0++bS 0 1 (l.take n)).length+2<=4611686018427387904:=by omega
  have d5:((E0++bS 0 1 (l.take n)).length==(E0++bS 0 1 (l.take n)).length)=true:=by simp
  have gf:(l.map aA).getD n .top=aA l[n]:=cQ _ _ _ h1;have c0:((aA l[n]).cells.getD 0 .top).toInt=l[n].1:=rfl;have c1:((aA l[n]).cells.getD 1 .top).toInt=l[n].2:=rfl;have sh:((aA l[n]).cells.length==(2:Nat)&&ef [Sh.int IntKind.i64,Sh.int IntKind.i64] (aA l[n]).cells (0:Nat))=true:=rfl;have st:AG (l.map aA) ((l.length:Nat):Int) ((E0++bS 0 1 (l.take n)).length,((n:Nat):Int),(E0++bS 0 1 (l.take n)).map fq) =
    some (.inl ((E0++bS 0 1 (l.take (n+1))).length,((n+1:Nat):Int),(E0++bS 0 1 (l.take (n+1))).map fq)):=by
   rw[ZV 0 1 l n h1,<-zw];unfold AG;simp only;unfold ID;rw[zN,gf,sh,c0,c1,B6,za,za,decide_eq_true d1,decide_eq_true d2,decide_eq_true h1,decide_eq_true d3,decide_eq_true d4,d5,tE (show n+1<=maxLen by unfold maxLen;omega)]
   cases pv l[n]with
   |true=>rw[if_pos rfl,z8 (bs:=[(l[n].1,0,1),(l[n].2,-0,-1)]),zx (l₂:=[(l[n].1,0,1),(l[n].2,-0,-1)])];rfl
   |false=>rw[if_neg (by simp),zD];rfl
  rw[en st];exact Zb E0 l hl hE k (n+1) (by omega)
def wJ(e:jk):yE:=(Fin.ofNat 1099511627777 e.1.toNat,e.2.1,e.2.2)
def CS(x:yE):jk:=((x.1.val:Int),x.2.1,x.2.2)
theorem xJC{e:jk}(h1:0<=e.1)(h2:e.1<=1099511627776):CS (wJ e)=e:=by grind [CS,wJ]
theorem xJ2(E:List jk)(h:∀e,e∈E->0<=e.1/\e.1<=1099511627776):(E.map fq).all yH/\∃S:List jk,qy (E.map fq)=S.map fq/\S.Perm E/\S.Pairwise λ x y=>x.1<=y.1:=by
 refine⟨?_,(pdqL kh (E.map wJ)).map CS,?_,?_,?_⟩;rw[zI];intro x hx;obtain⟨e,he,rfl⟩:=zK.1 hx;have:=h e he;show (decide _&&decide _)=true;rw[decide_eq_true this.1,decide_eq_true this.2];rfl;unfold qy;have e1:(E.map fq).map oS=E.map wJ:=by rw[List.map_map];rfl
 rw[e1,List.map_map];rfl;have hp:=((B5 kh wG (E.map wJ)).1).map CS;have e2:(E.map wJ).map CS=E:=by rw[List.map_map];(conv=>rhs;rw[<-List.map_id E]);refine List.map_congr_left λ e he=>?_;exact xJC (h e he).1 (h e he).2
 rwa [e2]at hp;rw[List.pairwise_map];refine(Qm kh wG (E.map wJ)).imp λ{x y} q=>?_;show ((x.1.val:Nat):Int)<=((y.1.val:Nat):Int);unfold kh at q;omega
theorem xHI(a b:List aF)(ha:a.length<=1073741824)(hb:b.length<=1073741824):∃S:List jk,ve (a.map aA) (b.map aA)=some (S.map fq)/\S.Perm (bS 1 0 a++bS 0 1 b)/\S.Pairwise λ x y=>x.1<=y.1:=by
 have l1:=yl 1 0 a;have l2:=yl 0 1 b;have O:(bS 1 0 a++bS 0 1 b).length=(bS 1 0 a).length+(bS 0 1 b).length:=z8;obtain ⟨J,S,hS,hp,hs⟩:=xJ2 (bS 1 0 a++bS 0 1 b) (fun e he=>by
  rcases zG.1 he with he|he
  . exact B2 1 0 a e he
  . exact B2 0 1 b e he)
 refine⟨S,?_,hp,hs⟩;have h0:=ZF (b.map aA) a ha a.length 0 Ω;rw[List.take_zero]at h0;have h1:=Zb (bS 1 0 a) b hb Ω b.length 0 Ω;rw[List.take_zero]at h1;have h0:aB (ut (b.map aA) (a.map aA) (((a.map aA).length:Nat):Int)) (0,0,[])=some ((bS 1 0 a).length,(bS 1 0 a).map fq):=by rw[za];exact h0
 have v4:Jd (a.map aA) (b.map aA)=((bS 1 0 a).length,(bS 1 0 a).map fq):=by unfold Jd;rw[h0];rfl
 have v3:Jc (a.map aA) (b.map aA)=some ((bS 1 0 a++bS 0 1 b).length,(bS 1 0 a++bS 0 1 b).map fq):=by unfold Jc;rw[v4,za];have e:bS 1 0 a++bS 0 1 []=bS 1 0 a:=zD _;rw[e]at h1;exact h1
 have v2:Jb (a.map aA) (b.map aA)=((bS 1 0 a++bS 0 1 b).length,(bS 1 0 a++bS 0 1 b).map fq):=by unfold Jb;rw[v3];rfl
 have v0:BB (a.map aA) (b.map aA)=(bS 1 0 a++bS 0 1 b).length:=by unfold BB;rw[v2]
 have v1:BC (a.map aA) (b.map aA)=(bS 1 0 a++bS 0 1 b).map fq:=by unfold BC;rw[v2]
 have q:S.length=(bS 1 0 a++bS 0 1 b).length:=hp.length_eq;have d1:(bS 1 0 a++bS 0 1 b).length<4611686018427387904:=Ω
 have d2:0+(bS 1 0 a++bS 0 1 b).length<=(S.map fq).length:=by rw[za,q];omega
 have d3:(bS 1 0 a++bS 0 1 b).length.beq (bS 1 0 a++bS 0 1 b).length:=Nat.beq_refl _;have tk:List.take (bS 1 0 a++bS 0 1 b).length (List.drop 0 (S.map fq))=S.map fq:=by rw[zr,zi (by rw[za,q];exact zd _)]
 unfold ve P7;rw[h0,v3,v0,v1,J,hS,tk,za,d3,decide_eq_true d1,decide_eq_true d2];rfl
theorem xGv(out:List aF)(h:out≠[]):out=out.dropLast++[out[out.length - 1]'(by have:=List.length_pos_iff.2 h;omega)]:=by have:=List.dropLast_concat_getLast h;rw[List.getLast_eq_getElem]at this;exact this.symm
section
variable(S:List jk)(hS1:∀e,e ∈ S->0 <=e.1/\e.1 <=1099511627776)(hS2:∀e,e ∈ S->(-1 <=e.2.1/\e.2.1 <=1)/\(-1 <=e.2.2/\e.2.2 <=1))(hS3:S.Pairwise λ x y=>x.1 <=y.1)(hS4:S.length <=8589934592)
theorem Sy(g:jk->Int):∀l:List jk,(∀e,e∈l->-1<=g e/\g e<=1)->-(l.length:Int)<=di g l/\di g l<=l.length|[],_=>by simp[di]|e::l,h=>by have:=Sy g l λ x hx=>h x (List.mem_cons_of_mem _ hx);have:=h e (List.mem_cons_self ..);simp only[di,zF];omega
theorem T9(g:jk->Int)(n:Nat)(h:n<S.length):di g (S.take (n+1))=di g (S.take n)+g S[n]:=by rw[List.take_add_one,ze h];show di g (S.take n++[S[n]])=_;rw[YV];simp[di]
include hS1 hS2 hS3 hS4
theorem ZJ(on:Nat)(at':Int)(ox:List AV):∀(k i:Nat),i+k=S.length->∃j:Nat,i<=j/\j<=S.length/\
  aB (yc (S.map fq) on at') (di (·.2.1) (S.take i),di (·.2.2) (S.take i),((i:Nat):Int),ox)=some (di (·.2.1) (S.take j),di (·.2.2) (S.take j),((j:Nat):Int),ox)/\
  (∀(m:Nat)(h:m<S.length),i<=m->m<j->S[m].1=at')/\∀(h:j<S.length),S[j].1≠at'
 |0,i,hk=>by
  obtain rfl:i=S.length:=by omega
  refine⟨S.length,zd _,zd _,cR ?_,λ m _ h1 h2=>by omega,λ h=>absurd h (Nat.lt_irrefl _)⟩
  unfold yc;simp only;unfold Kc;rw[za,decide_eq_false (by omega:¬ ((S.length:Nat):Int)<((S.length:Nat):Int))]
  rfl
 |k+1,i,hk=>by
  have h1:i<S.length:=by omega
  have d1:((i:Nat):Int)<((S.length:Nat):Int):=by omega
  have d2:(0:Int)<=((i:Nat):Int):=by omega
  have gf:(S.map fq).getD i .top=fq S[i]:=cQ _ _ _ h1;have c0:((fq S[i]).cells.getD 0 .top).toInt=S[i].1:=rfl;have c1:((fq S[i]).cells.getD 1 .top).toInt=S[i].2.1:=rfl;have c2:((fq S[i]).cells.getD 2 .top).toInt=S[i].2.2:=rfl;have s0:cX (Sh.int IntKind.i64) ((fq S[i]).cells.getD 0 .top)=true:=rfl;have s1:cX (Sh.int IntKind.i64) ((fq S[i]).cells.getD 1 .top)=true:=rfl;have s2:cX (Sh.int IntKind.i64) ((fq S[i]).cells.getD 2 .top)=true:=rfl;have v0:Fo (S.map fq) ((i:Nat):Int)=true:=by unfold Fo;rw[za,decide_eq_true d1,decide_eq_true d2];rfl
  by_cases he:S[i].1=at'
  . have hb:=hS2 S[i] (zo h1);have b1:=Sy (·.2.1) (S.take i) λ e he=>(hS2 e (List.mem_of_mem_take he)).1
    have b2:=Sy (·.2.2) (S.take i) λ e he=>(hS2 e (List.mem_of_mem_take he)).2
    have hl:(S.take i).length=i:=by rw[zt];omega
    rw[hl]at b1 b2;have b3:=T9 S (·.2.1) i h1;have b4:=T9 S (·.2.2) i h1;have w1:IntKind.i64.wrap (di (·.2.1) (S.take i)+S[i].2.1)=di (·.2.1) (S.take (i+1)):=by rw[b3];exact il (by omega) (by omega)
    have w2:IntKind.i64.wrap (di (·.2.2) (S.take i)+S[i].2.2)=di (·.2.2) (S.take (i+1)):=by rw[b4];exact il (by omega) (by omega)
    have st:yc (S.map fq) on at' (di (·.2.1) (S.take i),di (·.2.2) (S.take i),((i:Nat):Int),ox)=some (.inl (di (·.2.1) (S.take (i+1)),di (·.2.2) (S.take (i+1)),((i+1:Nat):Int),ox)):=by
     unfold yc;simp only;unfold Kc;have e1:(S[i].1==at')=true:=by simp[he]
     rw[v0,zN,gf,s0,s1,s2,c0,c1,c2,za,decide_eq_true d1,decide_eq_true h1,e1,w1,w2,tE (show i+1<=maxLen by unfold maxLen;omega)]
     rfl
    obtain⟨j,j1,j2,j3,j4,j5⟩:=ZJ on at' ox k (i+1) (by omega)
    refine⟨j,by omega,j2,by rw[en st];exact j3,λ m hm h2 h3=>?_,j5⟩
    rcases Nat.eq_or_lt_of_le h2 with rfl|h2
    . exact he
    . exact j4 m hm h2 h3
  . refine⟨i,zd _,by omega,cR ?_,λ m _ h2 h3=>by omega,λ _=>he⟩
    unfold yc;simp only;unfold Kc;have e1:(S[i].1==at')=false:=by simp[he]
    rw[v0,zN,gf,s0,c0,za,decide_eq_true d1,decide_eq_true h1,e1];rfl
omit hS1 hS2 hS3 hS4
def FO(K:Int->Bool)(s:Nat×Int×Int×Int×Int×List AV):Prop:=∃(out:List aF)(i:Nat)(at':Int),s=(out.length,di (·.2.1) (S.take i),di (·.2.2) (S.take i),((i:Nat):Int),at',out.map aA)/\0<=at'/\at'<=1099511627776/\i<=S.length/\(∀(m:Nat)(h:m<S.length),m<i->S[m].1<at')/\(∀(m:Nat)(h:m<S.length),i<=m->at'<=S[m].1)/\cU out at' K/\(out.length:Int)<=at'
include hS1 hS2 hS3 hS4
set_option maxHeartbeats 4000000 in
theorem xC7(keep:Bool->Bool->Bool)(a b:List aF)(hp:S.Perm (bS 1 0 a++bS 0 1 b))(s:Nat×Int×Int×Int×Int×List AV)(hs:FO S (λ t=>keep (inL a t) (inL b t)) s):(∃s',vd keep (S.map fq) s=some (.inl s')/\FO S (λ t=>keep (inL a t) (inL b t)) s'/\(1099511627776 - s'.2.2.2.2.1).toNat<(1099511627776 - s.2.2.2.2.1).toNat) \/ ∃r,vd keep (S.map fq) s=some (.inr r)/\∃out:List aF,r=(out.length,out.map aA)/\cU out 1099511627776 (λ t=>keep (inL a t) (inL b t)):=by
 obtain⟨out,i,at',rfl,ai,a0,hi,aw,ax,J,a1⟩:=hs;by_cases hF:at'<1099511627776;left;obtain⟨j,j1,j2,j3,j4,j5⟩:=ZJ S hS1 hS2 hS3 hS4 out.length at' (out.map aA) (S.length - i) i (by omega);have al:∀(m:Nat)(h:m<S.length),m<j->S[m].1<=at':=λ m h hm=>by by_cases ay:m<i;have:=aw m h ay;omega;have:=j4 m h (by omega) hm;omega
 have ao:∀(m:Nat)(h:m<S.length),j<=m->at'<S[m].1:=λ m h hm=>by(have hj:j<S.length:=by omega);have h1:=ax j hj (by omega);(have h2:=j5 hj;have h3:S[j].1<=S[m].1:=by rcases Nat.eq_or_lt_of_le hm with rfl|hm;exact Int.le_refl _;exact zB.1 hS3 j m hj h hm);omega
 obtain⟨nx,O⟩:∃nx:Int,nx=if h:j<S.length then S[j].1 else 1099511627776:=⟨_,rfl⟩;have ab:at'<nx:=by rw[O];split;rename_i h;exact ao j h (zd _);exact hF
 have Q:nx<=1099511627776:=by rw[O];split;rename_i h;exact(hS1 _ (zo h)).2;exact Int.le_refl _
 have aj:∀(m:Nat)(h:m<S.length),j<=m->nx<=S[m].1:=λ m h hm=>by(have hj:j<S.length:=by omega);rw[O,dif_pos hj];rcases Nat.eq_or_lt_of_le hm with rfl|hm;exact Int.le_refl _;exact zB.1 hS3 j m hj h hm
 have am:∀(g:jk->Int)(t:Int),at'<=t->t<nx->di g (S.take j)=kA g t S:=λ g t Y Z=>by(conv=>rhs;rw[<-List.take_append_drop j S]);rw[JA,Th,Z7];omega;intro e he;obtain⟨m,hm,rfl⟩:=zp.1 he;rw[List.getElem_drop];have:=aj (j+m) (by rw[y3]at hm;omega) (by omega);omega;intro e he;obtain⟨m,hm,rfl⟩:=zp.1 he;rw[List.getElem_take];rw[zt]at hm;have:=al m (by omega) (by omega);omega
 have ag:∀t,at'<=t->t<nx->decide (di (·.2.1) (S.take j)>0)=inL a t/\decide (di (·.2.2) (S.take j)>0)=inL b t:=λ t Y Z=>by rw[am _ t Y Z,am _ t Y Z,Z8 _ t hp,Z8 _ t hp,JA,JA,Q8,ZD,xyP,Y5,Int.add_zero,Int.zero_add,TS,TS];exact⟨rfl,rfl⟩
 obtain⟨kv,aq⟩:∃kv:Bool,kv=keep (decide (di (·.2.1) (S.take j)>0)) (decide (di (·.2.2) (S.take j)>0)):=⟨_,rfl⟩;have hK:∀t,at'<=t->t<nx->keep (inL a t) (inL b t)=kv:=λ t Y Z=>by rw[aq,(ag t Y Z).1,(ag t Y Z).2]
 have au:JK keep (S.map fq) out.length (di (·.2.1) (S.take i)) (di (·.2.2) (S.take i)) ((i:Nat):Int) at' (out.map aA)=(di (·.2.1) (S.take j),di (·.2.2) (S.take j),((j:Nat):Int),out.map aA):=by unfold JK;rw[j3];rfl
 have v8:rk keep (S.map fq) out.length (di (·.2.1) (S.take i)) (di (·.2.2) (S.take i)) ((i:Nat):Int) at' (out.map aA)=di (·.2.1) (S.take j):=by unfold rk;rw[au]
 have v9:J8 keep (S.map fq) out.length (di (·.2.1) (S.take i)) (di (·.2.2) (S.take i)) ((i:Nat):Int) at' (out.map aA)=(di (·.2.2) (S.take j),((j:Nat):Int),out.map aA):=by unfold J8;rw[au]
 have v7:rj keep (S.map fq) out.length (di (·.2.1) (S.take i)) (di (·.2.2) (S.take i)) ((i:Nat):Int) at' (out.map aA)=di (·.2.2) (S.take j):=by unfold rj;rw[v9]
 have v6:J7 keep (S.map fq) out.length (di (·.2.1) (S.take i)) (di (·.2.2) (S.take i)) ((i:Nat):Int) at' (out.map aA)=(((j:Nat):Int),out.map aA):=by unfold J7;rw[v9]
 have v1:kC keep (S.map fq) out.length (di (·.2.1) (S.take i)) (di (·.2.2) (S.take i)) ((i:Nat):Int) at' (out.map aA)=out.map aA:=by unfold kC;rw[v6]
 have v3:kP keep (S.map fq) out.length (di (·.2.1) (S.take i)) (di (·.2.2) (S.take i)) ((i:Nat):Int) at' (out.map aA)=((j:Nat):Int):=by unfold kP;rw[v6]
 have v2:J5 keep (S.map fq) out.length (di (·.2.1) (S.take i)) (di (·.2.2) (S.take i)) ((i:Nat):Int) at' (out.map aA)=kv:=by unfold J5;rw[v8,v7,<-aq]
 have v0:B1 keep (S.map fq) out.length (di (·.2.1) (S.take i)) (di (·.2.2) (S.take i)) ((i:Nat):Int) at' (out.map aA)=decide (oF keep out.length<out.length):=by unfold B1;rw[v1,za]
 have v5:J6 keep (S.map fq) out.length (di (·.2.1) (S.take i)) (di (·.2.2) (S.take i)) ((i:Nat):Int) at' (out.map aA)=decide (j<S.length):=by unfold J6;rw[v3,za];by_cases h:j<S.length;rw[decide_eq_true h,decide_eq_true (by omega)];rw[decide_eq_false h,decide_eq_false (by omega)]
 have ak:(out.length+1)*16<=140737488355328:=by omega
 have ah:out.length+1<=4611686018427387904:=by omega
 have e1:(out.length==out.length):=by simp
 have dF:decide (at'<1099511627776):=decide_eq_true hF;have dj:decide ((0:Int)<=((j:Nat):Int)):=decide_eq_true (by omega);have W:∀h:j<S.length,(((S.map fq).getD j .top).cells.getD 0 .top).toInt=nx:=λ h=>by rw[cQ _ _ _ h,O,dif_pos h];rfl
 have af:∀h:j<S.length,cX (Sh.int IntKind.i64) (((S.map fq).getD j .top).cells.getD 0 .top):=λ h=>by rw[cQ _ _ _ h];rfl
 have ad:∀q:List aF,cU q nx (λ t=>keep (inL a t) (inL b t))->(q.length:Int)<=nx->FO S (λ t=>keep (inL a t) (inL b t)) (q.length,di (·.2.1) (S.take j),di (·.2.2) (S.take j),((j:Nat):Int),nx,q.map aA):=λ q ho hl=>
  ⟨q,j,nx,rfl,by omega,Q,j2,λ m h hm=>by have:=al m h hm;omega,λ m h hm=>aj m h hm,ho,hl⟩
 have mu:(1099511627776 - nx).toNat<(1099511627776 - at').toNat:=by omega
 cases kv with|false=>refine⟨(out.length,di (·.2.1) (S.take j),di (·.2.2) (S.take j),((j:Nat):Int),nx,out.map aA),?_,ad out (J.skip (by omega) hK) (by omega),mu⟩;unfold vd;simp only;unfold B9;rw[v1,v2,v3,v5,v7,v8,j3,dF,dj,zN,za];by_cases hj:j<S.length;rw[decide_eq_true hj,af hj,W hj];rfl;(rw[decide_eq_false hj];have:nx=1099511627776:=by rw[O,dif_neg hj]);rw[this];rfl|true=>
  by_cases hne:out=[];have ac:=J.add ai ab Q hK (λ p hp=>by rw[hne]at hp;cases hp);refine⟨((out++[(at',nx)]).length,di (·.2.1) (S.take j),di (·.2.2) (S.take j),((j:Nat):Int),nx,(out++[(at',nx)]).map aA),?_,ad _ ac (by rw[z8,zj];omega),mu⟩;have dl:decide (((out.length:Nat):Int)>0)=false:=by rw[hne];rfl
  unfold vd;simp only;unfold B9;rw[v1,v2,v3,v5,v7,v8,j3,dF,dj,zN,za,za,dl,e1,decide_eq_true ak,decide_eq_true ah];by_cases hj:j<S.length;rw[decide_eq_true hj,af hj,W hj,zx,z8];rfl;rw[decide_eq_false hj];have:nx=1099511627776:=by rw[O,dif_neg hj]
  rw[this,zx,z8];rfl;have az:=List.length_pos_iff.2 hne;have w1:IntKind.i64.wrap (((out.length:Nat):Int) - 1)=((out.length - 1:Nat):Int):=by rw[il (by omega) (by omega)];omega
  have ap:oF keep out.length=out.length - 1:=by unfold oF;rw[w1,zN];omega
  have v4:B7 keep out.length:=by unfold B7;rw[w1,decide_eq_true (by omega),decide_eq_true (by omega)];rfl
  have dl:decide (((out.length:Nat):Int)>0):=decide_eq_true (by omega);have dv:decide (out.length - 1<out.length):=decide_eq_true (by omega);have an:out.length - 1<out.length:=by omega
  have gl:(out.map aA).getD (out.length - 1) .top=aA out[out.length - 1]:=cQ _ _ _ an;have cl:((aA out[out.length - 1]).cells.getD 1 .top).toInt=out[out.length - 1].2:=rfl;have sl:cX (Sh.int IntKind.i64) ((aA out[out.length - 1]).cells.getD 1 .top):=rfl;have ae:=xGv out hne;by_cases hl:out[out.length - 1].2=at';have ar:=cU.ext (o:=out.dropLast) (p:=out[out.length - 1]) (by rw[<-ae];exact J) hl ab Q hK;have V:(out.dropLast++[(out[out.length - 1].1,nx)]).length=out.length:=by rw[z8,List.length_dropLast,zj];omega
  have aa:(out.map aA).set (out.length - 1) (AV.agg (List.take 1 (aA out[out.length - 1]).cells++[AV.int IntKind.i64 nx]++List.drop 2 (aA out[out.length - 1]).cells))=(out.dropLast++[(out[out.length - 1].1,nx)]).map aA:=by have e2:AV.agg (List.take 1 (aA out[out.length - 1]).cells++[AV.int IntKind.i64 nx]++List.drop 2 (aA out[out.length - 1]).cells)=aA (out[out.length - 1].1,nx):=rfl;rw[e2,<-List.map_set];congr 1;have e3:out.set (out.length - 1) (out[out.length - 1].1,nx)=(out.dropLast++[out[out.length - 1]]).set (out.length - 1) (out[out.length - 1].1,nx):=congrArg (λ l=>List.set l (out.length - 1) (out[out.length - 1].1,nx)) ae;rw[e3,List.set_append_right _ _ (by rw[List.length_dropLast];exact zd _),List.length_dropLast,Nat.sub_self];rfl
  refine⟨((out.dropLast++[(out[out.length - 1].1,nx)]).length,di (·.2.1) (S.take j),di (·.2.2) (S.take j),((j:Nat):Int),nx,(out.dropLast++[(out[out.length - 1].1,nx)]).map aA),?_,ad _ ar (by rw[V];omega),mu⟩;have e4:(out[out.length - 1].2==at'):=by simp[hl]
  unfold vd;simp only;unfold B9;rw[v0,v1,v2,v3,v4,v5,v7,v8,ap,j3,dF,dj,zN,za,gl,cl,sl,dl,dv,e4];by_cases hj:j<S.length;rw[decide_eq_true hj,af hj,W hj,aa,V];rfl;rw[decide_eq_false hj];have:nx=1099511627776:=by rw[O,dif_neg hj]
  rw[this]at aa V|-;rw[aa,V];rfl;have ac:=J.add ai ab Q hK (fun p hp=>by
   rw[ae]at hp;rcases zG.1 hp with hp|hp
   . have h1:=J.span.2;rw[ae]at h1;have:=(List.pairwise_append.1 h1).2.2 p hp _ (zv.2 rfl);have h2:=J.low _ (zo an);have h3:=iy.1 (J.span.1 _ (zo an));omega
   . rw [zv.1 hp];exact hl)
  refine⟨((out++[(at',nx)]).length,di (·.2.1) (S.take j),di (·.2.2) (S.take j),((j:Nat):Int),nx,(out++[(at',nx)]).map aA),?_,ad _ ac (by rw[z8,zj];omega),mu⟩;have e4:(out[out.length - 1].2==at')=false:=by simp[hl]
  unfold vd;simp only;unfold B9;rw[v0,v1,v2,v3,v4,v5,v7,v8,ap,j3,dF,dj,zN,za,za,gl,cl,sl,dl,dv,e4,e1,decide_eq_true ak,decide_eq_true ah];by_cases hj:j<S.length;rw[decide_eq_true hj,af hj,W hj,zx,z8];rfl;rw[decide_eq_false hj];have:nx=1099511627776:=by rw[O,dif_neg hj]
  rw[this,zx,z8];rfl
 right;have:at'=1099511627776:=by omega
 subst this;refine⟨(out.length,out.map aA),?_,out,rfl,J⟩;unfold vd;simp only;unfold B9;rw[decide_eq_false hF];rfl
end
theorem Q1:∀(l:List aF)(e:jk),e∈bS 1 0 l->(-1<=e.2.1/\e.2.1<=1)/\(-1<=e.2.2/\e.2.2<=1)|[],e,h=>by cases h|p::l,e,h=>by unfold bS at h;split at h;rcases zC.1 h with rfl|h;simp;rcases zC.1 h with rfl|h;simp;exact Q1 l e h;exact Q1 l e h
theorem Q2:∀(l:List aF)(e:jk),e∈bS 0 1 l->(-1<=e.2.1/\e.2.1<=1)/\(-1<=e.2.2/\e.2.2<=1)|[],e,h=>by cases h|p::l,e,h=>by unfold bS at h;split at h;rcases zC.1 h with rfl|h;simp;rcases zC.1 h with rfl|h;simp;exact Q2 l e h;exact Q2 l e h
theorem V3(keep:Bool->Bool->Bool)(a b:List aF)(ha:a.length<=1073741824)(hb:b.length<=1073741824):∃r:List aF,F4 keep (a.map aA) (b.map aA)=some (r.map aA)/\aZ r/\∀t,inL r t=(decide (0<=t)&&(decide (t<1099511627776)&&keep (inL a t) (inL b t))):=by
 obtain⟨S,hS,hp,V⟩:=xHI a b ha hb;have l1:=yl 1 0 a;have l2:=yl 0 1 b;have Q:S.length=(bS 1 0 a++bS 0 1 b).length:=hp.length_eq;rw[z8]at Q;have q:∀e,e∈S->e∈bS 1 0 a\/e∈bS 0 1 b:=λ e he=>zG.1 (hp.mem_iff.1 he);have J:∀e,e∈S->0<=e.1/\e.1<=1099511627776:=λ e he=>(q e he).elim (B2 1 0 a e) (B2 0 1 b e);have W:∀e,e∈S->(-1<=e.2.1/\e.2.1<=1)/\(-1<=e.2.2/\e.2.2<=1):=λ e he=>(q e he).elim (Q1 a e) (Q2 b e);obtain⟨r,hr,out,rfl,O⟩:=Kt (FO S (λ t=>keep (inL a t) (inL b t))) (λ s=>(1099511627776 - s.2.2.2.2.1).toNat) (λ r=>∃out:List aF,r=(out.length,out.map aA)/\cU out 1099511627776 (λ t=>keep (inL a t) (inL b t))) (xC7 S J W V Ω keep a b hp) (0,0,0,0,0,[]) ⟨[],0,0,rfl,Int.le_refl _,by omega,zQ _,λ m _ h=>by omega,λ m h _=>(J _ (zo h)).1,Rv _,by simp⟩;refine⟨out,?_,O.span,O.done⟩;have v3:KS keep (a.map aA) (b.map aA)=some (out.length,out.map aA):=by unfold KS;rw[hS];exact hr
 have v2:KR keep (a.map aA) (b.map aA)=(out.length,out.map aA):=by unfold KR;rw[v3];rfl
 have v0:KQ keep (a.map aA) (b.map aA)=out.length:=by unfold KQ;rw[v2]
 have v1:KP keep (a.map aA) (b.map aA)=out.map aA:=by unfold KP;rw[v2]
 have d1:0+out.length<=out.length:=Ω
 unfold F4 Wh;rw[hS,v3,v0,v1,za,decide_eq_true d1,zr,zi (by rw[za];exact zd _)];rfl
theorem xE5(a b:List AV):P8 a b=F4 BZ a b:=rfl
theorem Wg(a:List aF)(ha:a.length<=1073741824):∃r:List aF,r7 (a.map aA)=some (r.map aA)/\aZ r/\∀t,inL r t=inL a t:=by obtain⟨r,h1,h2,h3⟩:=V3 BZ a [] ha Ψ;refine⟨r,?_,h2,λ t=>?_⟩;unfold r7 Rf;rw[xE5,show ([]:List AV)=([]:List aF).map aA from rfl,h1];rfl;rw[h3 t];cases hc:inL a t with|false=>simp[BZ,eh,aH]|true=>have:=KB hc;simp[BZ,eh,this,aH]
theorem xE6(a b:List AV):P9 a b=F4 Bn a b:=rfl
theorem Zz(a b:List aF)(ha:a.length<=1073741824)(hb:b.length<=1073741824):∃r:List aF,x4 (a.map aA) (b.map aA)=some (r.map aA)/\aZ r/\∀t,inL r t=(inL a t&&!inL b t):=by obtain⟨r,h1,h2,h3⟩:=V3 Bn a b ha hb;refine⟨r,?_,h2,λ t=>?_⟩;unfold x4 OH;rw[xE6,h1];rfl;rw[h3 t];cases hc:inL a t with|false=>simp[Bn,eh,aH]|true=>have:=KB hc;simp[Bn,eh,this,aH]
end Go.Sim.M
namespace Go.Sim.M
open Go.RowKit Go.Sim.Srt
def Rs {ps:List aF} (h:ps.length<=262144):sf (ps.map fun p=>(p,(1:Int))):=⟨by simpa using h,fun c hc=>by
 obtain ⟨p,_,rfl⟩:=zK.1 hc;dsimp only;omega⟩
def xAu(ps:List aF)(h:ps.length<=262144):∃S,AS (ps.map aA)=some (S.map aA)/\aJ (λ t=>((ps.countP (aG · t):Nat):Int)) 1099511627776 S/\S.length<=2*ps.length+1:=by obtain⟨S,h1,h2,h3⟩:=Xj _ (Rs h);refine⟨S,by rw[xEs ps Ω,h1],?_,by simpa using h3⟩;rwa [show cM (ps.map λ p=>(p,(1:Int)))=λ t=>((ps.countP (aG · t):Nat):Int) from funext λ t=>Rh ps t]at h2
def xHB(l:List Fc)(row:Row)(t:Int)(g:Fc->List aF)(hg:∀f,(g f).countP (aG · t)=if f.r=row/\aG f.p t then 1 else 0):(l.flatMap g).countP (aG · t)=cnt l row t:=by induction l with|nil=>rfl|cons f l ih=>rw[zR,List.countP_append,ih,hg];have e2:cnt (f::l) row t=cnt l row t+if(decide (f.r=row)&&aG f.p t) then 1 else 0:=List.countP_cons;rw[e2];by_cases h:f.r=row/\aG f.p t=true;rw[if_pos h,if_pos (by simp[h.1,h.2])];omega;rw[if_neg h,if_neg (by simpa using h)];omega
def E9(l:List Fc)(row:Row)(hr:∀f,f∈l->f.r.length<=maxLen)(hl:l.length<=262144):∃S,mX (l.map encF) (row.map encV)=some (S.map aA)/\aJ (λ t=>((cnt l row t:Nat):Int)) 1099511627776 S/\S.length<=2*l.length+1:=by
 have e:=xtM row l Ω hr;have q:(l.flatMap λ f=>if aQ f.r row==0 then[(f.p,(1:Int))]else[])=(l.flatMap λ f=>if aQ f.r row==0 then[f.p]else[]).map λ p=>(p,(1:Int)):=by rw[List.map_flatMap];congr 1;funext f;split<;>simp
 rw[q]at e;generalize hq:(l.flatMap λ f=>if aQ f.r row==0 then[f.p]else[])=ps at e;have J:ps.length<=l.length:=by(rw[<-hq];have:=vD (c:=1) (g:=λ f:Fc=>if aQ f.r row==0 then[f.p]else[]) l λ f _=>by split<;>simp);omega
 obtain⟨S,h1,h2,h3⟩:=xLU _ (Rs (ps:=ps) Ω);refine⟨S,?_,?_,by rw[za]at h3;omega⟩;unfold mX Ps;simp only[OM,DX,e,rA,aH];simp only[h1,rA];rwa [show cM (ps.map fun p=>(p,(1:Int)))=fun t=>((cnt l row t:Nat):Int) from funext fun t=>by
  rw[Rh,<-hq,xHB l row t _ λ f=>?_]
  rw [qc];by_cases hr:f.r=row<;>cases hh:aG f.p t<;>simp [hr,hh]] at h2
open Go.Sort
def xJ3(E:List aF):(E.map aA).all yI/\∃P:List aF,qz (E.map aA)=P.map aA/\P.Perm E/\aI de P:=by(have e1:(E.map aA).map qd=E:=by(rw[List.map_map];conv=>rhs;rw[<-List.map_id E]);rfl);refine⟨?_,pdqL de E,?_,(B5 de wH E).1,(Qm de wH E).imp λ{x y} h=>?_⟩;rw[zI];intro x hx;obtain⟨e,he,rfl⟩:=zK.1 hx;rfl;unfold qz;rw[e1];rfl;have:=JP x y;omega
def T2(S:List aF)(hS:S.length<=524289)(hN:∀s,s∈S->0<=s.2/\s.2<=1048576):∀(d k:Nat)(J ox:List aF),k+d=S.length->kJ J->(fN J).length<=1048576->ox.length<=k*1048576->
  ∃q Q:List aF,aB (AM (S.map aA) ((S.length:Nat):Int)) ((k:Int),ox.length,J.length,((fN J).length:Int),ox.map aA,J.map aA)=some (Q.length,((fN q).length:Int),q.length,Q.map aA,q.map aA)/\
   kJ q/\(fN q,Q)=(S.drop k).foldl (λ x s=>fU x (s.1,s.2.toNat)) (fN J,ox)/\(fN q).length<=1048576/\Q.length<=S.length*1048576
 |0,k,J,ox,h,h1,h2,h3=>by
  obtain rfl:k=S.length:=by omega
  refine⟨J,ox,cR ?_,h1,by rw[zq (zd _)];rfl,h2,h3⟩
  simp only[AM,HQ,zy,zm,bE,aH]
 |d+1,k,J,ox,h,h1,h2,h3=>by
  have hk:k<S.length:=by omega
  obtain⟨n1,n2⟩:=hN _ (zo hk);obtain⟨m,hm⟩:∃m:Nat,S[k].2=(m:Int):=⟨S[k].2.toNat,by omega⟩
  obtain⟨O,e,a1,a2⟩:=UG S[k].1 m (fN J).length J ox h1 rfl (by omega) h2 (by omega)
  have V:(fN O).length=m:=by rw[a2,z8,zt,List.length_replicate];omega
  obtain ⟨q,Q,e',b1,b2,b3,b4⟩:=T2 S hS hN d (k+1) O (ox++(((fN J).drop m).reverse.map fun f=>(f,S[k].1))) (by omega) a1 (by omega) (by
   rw [z8,za,List.length_reverse,y3];omega)
  refine⟨q,Q,(en ?_).trans e',b1,?_,b3,b4⟩
  . have i1:(k:Int)<(S.length:Int):=by omega
    have gf:(S.map aA).getD k .top=aA S[k]:=cQ _ _ _ hk;have i2:¬ (0:Int)>(m:Int):=by omega
    have i3:¬ (1048576:Int)<(m:Int):=by omega
    have tk:List.take O.length (O.map aA)=O.map aA:=zi (by simp)
    rw[V];simp only[AM,HQ,xD,NN,NO,bQ,hk,i1,gf,fZ,f7,lP,sP,f8,ga,hm,i2,i3,if_false,e,tk,dO (n:=k) (by omega)]
  . rw[b2,jq hk,List.foldl_cons];congr 1;rw[hm,zN,a2];rfl
def xzR{N:Int->Nat}{H:Nat}(hb:H<=1048576)(hH:∀t,N t<=H)(h0:∀t,t<0\/1099511627776<=t->N t=0){S:List aF}(hS:aJ (λ t=>(N t:Int)) 1099511627776 S)(hl:S.length<=524289):∃P,kD (S.map aA)=some (P.map aA)/\bA N P:=by
 obtain ⟨q,ox,e,a1,a2,a3,a4⟩:=T2 S hl (fun s hs=>by
  obtain ⟨_,_,m3,_⟩:=(hS.mem s).1 hs;have:=hH s.1;omega) S.length 0 [] [] Ω (fun s hs=>by simp at hs) (by simp [fN]) Ψ
 obtain⟨J,e2,c1,c2⟩:=UG 1099511627776 0 (fN q).length q ox a1 rfl Ω a3 Ω;obtain⟨s1,P,s2,s3,s4⟩:=xJ3 (ox++(((fN q).drop 0).reverse.map λ f=>(f,(1099511627776:Int))));have m1:(ox++(((fN q).drop 0).reverse.map λ f=>(f,(1099511627776:Int)))).length<4611686018427387904:=by rw[z8,za,List.length_reverse,y3];omega
 refine⟨P,?_,xHY hH h0 hS ?_ s4⟩;have pl:=s3.length_eq;have e:aB (AM (S.map aA) ((S.length:Nat):Int)) ((0:Int),(0:Nat),(0:Nat),(0:Int),[],[])=_:=e;have e2:set2 1099511627776 0 ((fN q).length:Int) q.length ox.length (q.map aA) (ox.map aA)=_:=e2;generalize (ox++(((fN q).drop 0).reverse.map λ f=>(f,(1099511627776:Int))))=O at s1 s2 e2 pl m1;have bq:O.length.beq O.length:=by simp
 have m2:O.length<=P.length:=Ω
 have tt:List.take O.length (P.map aA)=P.map aA:=zi (by rw[za];omega);unfold kD Pd;simp only[tm,OI,Bo,OJ,za,e,zk,zh,aW,e2,bq,m1,s1,s2,zn,zS,zH,m2,zr,tt,aH];have a2:(fN q,ox)=S.foldl (λ x s=>fU x (s.1,s.2.toNat)) ([],[]):=a2;rw[<-a2];exact s3
def Ko(ps:List aF)(t:Int)(ht:t<0\/1099511627776<=t):ps.countP (aG · t)=0:=by rw[List.countP_eq_zero];intro p hp h;obtain⟨h1,h2,h3⟩:=jx.1 h;have:=iy.1 h1;omega
def xI4(ps:List aF)(hv:∀p,p∈ps->pv p)(hl:ps.length<=262144):∃P,xZ (ps.map aA)=some (P.map aA)/\bA (λ t=>ps.countP (aG · t)) P:=by unfold xZ OY;by_cases h1:ps.length=1;obtain⟨p,rfl⟩:=List.length_eq_one_iff.1 h1;refine⟨[p],rfl,List.pairwise_singleton _ _,λ k=>if k=0 then[p]else[],1,λ t=>?_,λ k=>?_,?_⟩;have:=List.countP_le_length (p:=(aG · t)) (l:=[p]);simpa using this;by_cases hk:k=0;subst hk;refine⟨⟨λ q hq=>by simp at hq;subst hq;exact hv _ Ψ,List.pairwise_singleton _ _⟩,λ t=>?_⟩;simp[inL];cases aG p t<;>simp;refine⟨by simp[hk,tw],λ t=>?_⟩;simp only[hk,if_false,m9];have:=List.countP_le_length (p:=(aG · t)) (l:=[p]);simp at this|-;omega;simp;obtain⟨S,e1,e2,e3⟩:=xAu ps hl;obtain⟨P,e4,e5⟩:=xzR (N:=λ t=>ps.countP (aG · t)) (H:=ps.length) Ω (λ t=>List.countP_le_length) (Ko ps) e2 Ω;(refine⟨P,?_,e5⟩;have i1:((ps.length:Int)==1)=false:=by simp;omega);simp only[za,i1,bE,e1,e4,zk,zh,aW,aH]
def mk(r:Row)(P:List aF):List Fc:=P.map λ p=>⟨r,p⟩
def Kq(L:Row->List aF):∀S:List fx,(S.flatMap λ g=>mk g.1 (L g.1))=cE (S.map (·.1)) L|[]=>rfl|g::S=>by rw[zR,Kq L S];rfl
def xzA(O:List AV)(J q:Int)(row:Row)(hr:row.length<=1048576)(g1:List AV)(P:List aF)(D:List Fc)(hb:D.length+P.length<=2199023255552)(hP:P.length<=1099511627776):aB (Ac O J q (P.map aA) ((P.length:Nat):Int)) (D.length,(0:Int),D.map encF,row.map encV,g1)=some ((D++mk row P).length,(D++mk row P).map encF):=by
 have key:=tC (step:=Ac O J q (P.map aA) ((P.length:Nat):Int)) (λ k=>(((D++mk row (P.take k)).length,((k:Nat):Int),(D++mk row (P.take k)).map encF,row.map encV,g1):Nat×Int×List AV×List AV×List AV)) P.length
  ((D++mk row P).length,(D++mk row P).map encF) (fun k hk=>by
  have i1:(k:Int)<(P.length:Int):=Ω
  have gf:(P.map aA).getD k .top=aA P[k]:=cQ _ _ _ hk;have dl:(D++mk row (P.take k)).length=D.length+k:=by unfold mk;rw[z8,za,zt];omega
  have m1:(D.length+k+1)*40<=140737488355328:=Ω
  have m2:D.length+k+1<=4611686018427387904:=Ω
  have m3:row.length*32<=140737488355328:=Ω
  have m4:row.length<=4611686018427387904:=Ω
  have tk:List.take row.length (row.map encV)=row.map encV:=zi Ψ
  have Q:mk row (P.take (k+1))=mk row (P.take k)++[⟨row,P[k]⟩]:=by unfold mk;rw[List.take_add_one,ze hk,zx];rfl
  rw[Q,<-zw];simp only[Ac,GZ,bQ,hk,i1,gf,fZ,f7,lP,sP,f8,ga,dl,m1,m2,m3,m4,zd,tk,zr,dO (n:=k) Ω]
  rw [z8,dl];simp [encF]) (by
  simp only [Ac,GZ,zy,zm,bE,y6,aH]) P.length 0 Ω
 have e0:D++mk row (P.take 0)=D:=by simp[mk]
 rw[e0]at key;exact key
def xFO(O:List AV)(q J:Int)(row:Row)(hr:row.length<=1048576)(g1:List AV)(P:List aF)(D:List Fc)(hb:D.length+P.length<=2199023255552)(hP:P.length<=1099511627776):aB (Nu O q J (P.map aA) ((P.length:Nat):Int)) (D.length,(0:Int),D.map encF,row.map encV,g1)=some ((D++mk row P).length,(D++mk row P).map encF):=xzA O q J row hr g1 P D hb hP
def vP(l:List Fc):Prop:=Keyed l/\l.length<=1024/\kH l
def FT(g:fx):((aL g).cells.getD 1 .top).toList=g.2.map aA:=rfl
def lG(g:fx):((aL g).cells.length==2):=rfl
def sG(g:fx):ef [Sh.list 3,Sh.list 2] (aL g).cells 0:=rfl
def xzB{f:List AV->Option (List AV)}{step:List AV->Int->Nat×Int×List AV->Option ((Nat×Int×List AV)⊕(Nat×List AV))}(J:step=Dh/\f=xZ\/step=Di/\f=r7)(S:List fx)(hS:S.length<=1024)(hr:∀g,g∈S->g.1.length<=1048576)(L:Row->List aF)(hL:∀g,g∈S->f (g.2.map aA)=some ((L g.1).map aA)/\(L g.1).length<=1048576):aB (step (S.map aL) ((S.length:Nat):Int)) ((0:Nat),(0:Int),[])=some ((cE (S.map (·.1)) L).length,(cE (S.map (·.1)) L).map encF):=by rw[<-Kq];refine vt S (λ g=>mk g.1 (L g.1)) encF 1048576 (λ g hg=>by unfold mk;rw[za];exact(hL g hg).2) (λ n h D hD=>?_) (λ D=>?_);(have i1:(n:Int)<(S.length:Int):=Ω);have gf:(S.map aL).getD n .top=aL S[n]:=cQ _ _ _ h;obtain⟨e1,e2⟩:=hL _ (zo h);have q:=hr _ (zo h);rcases J with⟨rfl,rfl⟩|⟨rfl,rfl⟩;have el:=xzA (S.map aL) (S.length:Int) (n:Int) S[n].1 q (S[n].2.map aA) (L S[n].1) D Ω Ω;simp only[Dh,GY,GJ,bQ,h,i1,gf,FR,FT,lG,sG,e1,el,dO (n:=n) Ω];have el:=xFO (S.map aL) (S.length:Int) (n:Int) S[n].1 q (S[n].2.map aA) (L S[n].1) D Ω Ω;simp only[Di,G0,GL,bQ,h,i1,gf,FR,FT,lG,sG,e1,el,dO (n:=n) Ω];rcases J with⟨rfl,rfl⟩|⟨rfl,rfl⟩;simp only[Dh,GY,zy,zm,bE,aH];simp only[Di,G0,zy,zm,bE,aH]
def vk{R:List Row}{Q:Row->List aF->Prop}(h:∀r,r∈R->∃P,Q r P):∃L:Row->List aF,∀r,r∈R->Q r (L r):=by refine⟨λ r=>if hr:r∈R then Classical.choose (h r hr)else[],λ r hr=>?_⟩;show Q r (if hr:r∈R then Classical.choose (h r hr)else[]);rw[dif_pos hr];exact Classical.choose_spec (h r hr)
def VM(l:List Fc)(r:Row):(λ t=>(cW l r).countP (aG · t))=cnt l r:=funext λ t=>Cl l r t
def Vj(l:List Fc)(h:vP l):∃B,o8 (l.map encF)=some (B.map encF)/\mH l B:=by
 obtain⟨S,e1,hR,J,O⟩:=UD l h.1 h.2.2;have hl:=h.2.1;obtain⟨L,hL⟩:=vk (R:=S.map (·.1)) (Q:=λ r P=>xZ ((cW l r).map aA)=some (P.map aA)/\bA (cnt l r) P/\P.length<=1048576) λ r hr=>by have q:=KU l r;obtain⟨P,a1,a2⟩:=xI4 (cW l r) xIc Ω;have a3:=a2.len;rw[VM]at a2;refine⟨P,a1,a2,Nat.le_trans a3 (Nat.mul_le_mul (Nat.le_trans q hl) (Nat.le_trans q hl))⟩
 have hk:∀g,g∈S->g.1∈S.map (·.1):=λ g hg=>zK.2 ⟨g,hg,rfl⟩;have eb:=xzB (.inl ⟨rfl,rfl⟩) S Ω (fun g hg=>by
  obtain ⟨f,hf,e,_⟩:=(hR.2 g.1).1 (hk g hg);rw [<-e];exact h.1.1.2 f hf) L (fun g hg=>by
  rw [J g hg];exact ⟨(hL _ (hk g hg)).1,(hL _ (hk g hg)).2.2⟩)
 refine⟨cE (S.map (·.1)) L,?_,S.map (·.1),L,hR,λ r hr=>(hL r hr).2.1,rfl⟩;have tt:∀F:List Fc,List.take F.length (F.map encF)=F.map encF:=λ F=>zi Ψ;unfold o8 Ph Oz NY Dy NL;simp only[e1,zk,zh,aW,za,eb,zH,zd,zn,zS,zr,tt,aH]
def xLX(l:List Fc)(h:vP l):∃B,BM (l.map encF)=some (B.map encF)/\mS l B:=by
 obtain⟨S,e1,hR,q,O⟩:=UD l h.1 h.2.2;have hl:=h.2.1;obtain⟨L,hL⟩:=vk (R:=S.map (·.1)) (Q:=λ r P=>r7 ((cW l r).map aA)=some (P.map aA)/\(aZ P/\∀t,inL P t=decide (0<cnt l r t))/\P.length<=1048576) λ r hr=>by have J:=KU l r;obtain⟨P,a1,a2,a3⟩:=Wg (cW l r) Ω;(have a4:∀t,inL P t=decide (0<(cW l r).countP (aG · t)):=λ t=>by rw[a3,Bool.eq_iff_iff,zl,List.countP_pos_iff];unfold inL;rw[List.any_eq_true]);refine⟨P,a1,⟨a2,λ t=>by rw[a4,Cl]⟩,?_⟩;have:=Sf (k:=0) a2 a4;omega
 have hk:∀g,g∈S->g.1∈S.map (·.1):=λ g hg=>zK.2 ⟨g,hg,rfl⟩;have eb:=xzB (.inr ⟨rfl,rfl⟩) S Ω (fun g hg=>by
  obtain ⟨f,hf,e,_⟩:=(hR.2 g.1).1 (hk g hg);rw [<-e];exact h.1.1.2 f hf) L (fun g hg=>by
  rw [q g hg];exact ⟨(hL _ (hk g hg)).1,(hL _ (hk g hg)).2.2⟩)
 refine⟨cE (S.map (·.1)) L,?_,S.map (·.1),L,hR,λ r hr=>(hL r hr).2.1,rfl⟩;have tt:∀F:List Fc,List.take F.length (F.map encF)=F.map encF:=λ F=>zi Ψ;unfold BM Pi OA NZ Dr NM;simp only[e1,zk,zh,aW,za,eb,zH,zd,zn,zS,zr,tt,aH]
end Go.Sim.M
namespace Go.Sim.M
open Go.RowKit Go.Sim.Srt
def pos(S:List aF)(i:Nat):Int:=match S[i]? with|some s=>s.1|none=>1099511627776
variable {S:List aF}{i:Nat}
def pQ(h:i<S.length):pos S i=S[i].1:=by unfold pos;rw[ze h]
def Ck(h:S.length<=i):pos S i=1099511627776:=by unfold pos;rw[zz h]
def xH8{N:Int->Nat}(hS:aJ (λ t=>(N t:Int)) 1099511627776 S)(hi:i<S.length):0<=pos S i/\pos S i<pos S (i+1)/\pos S (i+1)<=1099511627776/\S[i].2=(N S[i].1:Int)/\∀t,pos S i<=t->t<pos S (i+1)->N t=N S[i].1:=by
 obtain⟨m1,m2,m3,_⟩:=(hS.mem S[i]).1 (zo hi);rw[pQ hi];have hb:S[i].1<pos S (i+1)/\pos S (i+1)<=1099511627776:=by by_cases h:i+1<S.length;rw[pQ h];have:=zB.1 hS.asc i (i+1) hi h Ω;have:=((hS.mem S[i+1]).1 (zo h)).2.1;omega;rw[Ck Ω];omega
 refine⟨m1,hb.1,hb.2,m3,λ t h1 h2=>JR (a:=S[i].1) (b:=pos S (i+1)) (λ u u1 u2=>?_) (t - S[i].1).toNat t Ω h2⟩;by_cases e:N (u - 1)=N u;exact e;have hu:(u,(N u:Int))∈S:=(hS.mem _).2 ⟨by dsimp only;omega,by dsimp only;omega,rfl,.inr (by dsimp only;omega)⟩;obtain⟨k,hk,q⟩:=zp.1 hu;have O:S[k].1=u:=by rw[q]
 rcases zJ i k with J|J;have:i+1<S.length:=Ω
 rw[pQ this]at u2;rcases zJ (i+1) k with h3|h3;have:=zB.1 hS.asc (i+1) k this hk h3;omega;obtain rfl:k=i+1:=Ω
 omega;rcases zJ k i with h3|h3;have:=zB.1 hS.asc k i hk hi h3;omega;obtain rfl:k=i:=Ω
 omega
def xH9{N:Int->Nat}(hS:aJ (λ t=>(N t:Int)) 1099511627776 S):pos S 0=0:=by
 have h0:((0:Int),(N 0:Int))∈S:=(hS.mem _).2 ⟨by simp,by simp,rfl,.inl rfl⟩;obtain⟨k,hk,J⟩:=zp.1 h0;have h:0<S.length:=Ω
 have p0:=((hS.mem S[0]).1 (zo h)).1;rw[pQ h];have q:S[k].1=0:=by rw[J]
 rcases zJ 0 k with h3|h3;have:=zB.1 hS.asc 0 k h hk h3;omega;obtain rfl:k=0:=Ω
 exact q
def joined(out:List aF)(f t:Int):List aF:=match out.getLast? with|some p=>if p.2=f then out.dropLast++[(p.1,t)]else out++[(f,t)]|none=>out++[(f,t)]
def F6{n:Nat}(h:n<=1099511627776):(n+1)*16<=140737488355328/\n+1<=4611686018427387904/\n*16<=140737488355328/\n<=4611686018427387904:=Ω
def Ui(out:List aF)(f t:Int)(O:f<t)(J:∀p,p∈out->p.2<=f)(hl:out.length<=1048576):∃q,mY out.length f t (out.map aA)=some q/\br q.1 q.2.1.1 q.2.2.1=(joined out f t).length/\br q.1 q.2.1.2.2 q.2.2.2=(joined out f t).map aA:=by
 rcases JH out with rfl|⟨o,p,rfl⟩;refine⟨_,rfl,rfl,rfl⟩;have hp:=J p Ψ;have L:(o++[p]).length=o.length+1:=by simp
 rw[L]at hl;have w1:IntKind.i64.wrap (((o.length+1:Nat):Int) - 1)=(o.length:Int):=WE Ω;have i1:((o.length+1:Nat):Int)>0:=Ω
 have i2:(o.length:Int)<((o.length+1:Nat):Int):=Ω
 have i3:(o.length:Int)<=((o.length+1:Nat):Int):=Ω
 have i4:o.length<o.length+1:=Ω
 have i5:o.length<=o.length+1:=Ω
 have gl:((o++[p]).map aA).getD o.length .top=aA p:=by rw[zx];have:=TZ (o.map aA) (aA p) .top;rwa [za]at this
 have tl:List.take o.length ((o++[p]).map aA)=o.map aA:=by rw[zx];exact List.take_left' Ψ
 obtain⟨m1,m2,m3,m4⟩:=F6 (n:=o.length) Ω;obtain⟨m5,m6,_,_⟩:=F6 (n:=o.length+1) Ω;have jn:joined (o++[p]) f t=if p.2=f then o++[(p.1,t)]else o++[p]++[(f,t)]:=by unfold joined;simp
 by_cases he:p.2=f;have c1:p.2>=f:=Ω
 have c2:t>p.2:=Ω
 rw[jn,if_pos he,L];refine⟨(true,(o.length+1,(o++[p]).map aA,o.map aA++[aA (p.1,t)]),(0,[])),?_,by simp[aW,aH],by simp[aW,aH]⟩;unfold mY Ex Ee Ek tq I6 I7 El I8;simp only[bQ,L,w1,i1,i2,i3,i4,i5,gl,fZ,f7,lP,sP,f8,ga,c1,c2,tl,zr,m1,m2,m3,m4,if_true,pZ];have c1:¬ p.2>=f:=Ω
 rw[jn,if_neg he,L];refine⟨(false,(0,[],[]),(o.length+1+1,(o++[p]).map aA++[aA (f,t)])),?_,by simp[bE,aH],by simp[bE,aH]⟩;unfold mY Ex Ee Ek tq I6 I7 El I8;simp only[bQ,L,w1,i1,i2,i3,i4,gl,fZ,f7,lP,sP,f8,ga,c1,m5,m6,pZ]
variable {t:Int}
def xzP{out:List aF}{f:Int}{K:Int->Bool}(h:cU out f K)(h0:0<=f)(J:f<t)(hF:t<=1099511627776)(hK:∀u,f<=u->u<t->K u):cU (joined out f t) t K/\(joined out f t).length<=out.length+1:=by rcases JH out with rfl|⟨o,p,rfl⟩;exact⟨h.add h0 J hF hK (λ p hp=>by simp at hp),by simp[joined]⟩;(have jn:joined (o++[p]) f t=if p.2=f then o++[(p.1,t)]else o++[p]++[(f,t)]:=by unfold joined;simp);rw[jn];by_cases he:p.2=f;rw[if_pos he];exact⟨h.ext he J hF hK,by simp⟩;rw[if_neg he];refine⟨h.add h0 J hF hK (λ q hq e=>?_),by simp⟩;rcases zG.1 hq with hq|hq;have:=(List.pairwise_append.1 h.span.2).2.2 q hq p Ψ;have hv:=iy.1 (h.span.1 p Ψ);have:=h.low p Ψ;omega;rw[zv]at hq;subst hq;exact he e
def Mk{N:Int->Nat}(hS:aJ (λ t=>(N t:Int)) 1099511627776 S)(hl:S.length<=524289)(n:Int):∀(d i:Nat)(out:List aF),i+d=S.length->cU out (pos S i) (λ t=>decide (n<=(N t:Int)))->out.length<=i->
  ∃J:List aF,aB (mN (S.map aA) n) (out.length,(i:Int),out.map aA)=some (J.length,J.map aA)/\cU J 1099511627776 (λ t=>decide (n<=(N t:Int)))/\J.length<=S.length
 |0,i,out,h,ho,hn=>by
  obtain rfl:i=S.length:=by omega
  rw[Ck (zd _)]at ho;refine⟨out,cR ?_,ho,hn⟩;simp only[mN,pz,za,zy,zm,bE,aH]
 |d+1,i,out,h,ho,hn=>by
  have hi:i<S.length:=by omega
  obtain⟨p1,p2,p3,p4,p5⟩:=xH8 hS hi;have i1:(i:Int)<(S.length:Int):=by omega
  have gf:(S.map aA).getD i .top=aA S[i]:=cQ _ _ _ hi;have wi:=dO (n:=i) (by omega)
  have pe:=pQ hi;by_cases Q:S[i].2>=n
  . have hK:∀t,pos S i<=t->t<pos S (i+1)->(λ t=>decide (n<=(N t:Int))) t=true:=λ t t1 t2=>by
     dsimp only;rw[p5 t t1 t2,<-p4];exact decide_eq_true Q
    obtain⟨j1,j2⟩:=xzP ho p1 p2 p3 hK;obtain⟨q,q1,q2,q3⟩:=Ui out (pos S i) (pos S (i+1)) p2 ho.low (by omega)
    obtain⟨J,e',x1,x2⟩:=Mk hS hl n d (i+1) (joined out (pos S i) (pos S (i+1))) (by omega) j1 (by omega)
    refine⟨J,(en (s':=((joined out (pos S i) (pos S (i+1))).length,((i+1:Nat):Int),(joined out (pos S i) (pos S (i+1))).map aA)) ?_).trans e',x1,x2⟩;rw[<-q2,<-q3];by_cases O:i+1<S.length
    . have i2:((i+1:Nat):Int)<(S.length:Int):=by omega
      have gn:(S.map aA).getD (i+1) .top=aA S[i+1]:=cQ _ _ _ O;rw[pQ O,pe]at q1;simp only[mN,pz,rQ,oz,oy,rN,rO,bQ,i1,i2,hi,O,gf,gn,fZ,f7,lP,sP,f8,ga,Q,wi,q1]
    . have i2:¬ ((i+1:Nat):Int)<(S.length:Int):=by omega
      rw[Ck (S:=S) (i:=i+1) (by omega),pe]at q1
      simp only[mN,pz,rQ,oz,oy,rN,rO,bQ,i1,i2,hi,gf,fZ,f7,lP,sP,f8,ga,Q,wi,q1]
  . have hK:∀t,pos S i<=t->t<pos S (i+1)->(λ t=>decide (n<=(N t:Int))) t=false:=λ t t1 t2=>by
     dsimp only;rw[p5 t t1 t2,<-p4];exact decide_eq_false (by omega)
    obtain⟨J,e',x1,x2⟩:=Mk hS hl n d (i+1) out (by omega) (ho.skip (by omega) hK) (by omega)
    refine⟨J,(en (s':=(out.length,((i+1:Nat):Int),out.map aA)) ?_).trans e',x1,x2⟩;by_cases O:i+1<S.length
    . have i2:((i+1:Nat):Int)<(S.length:Int):=by omega
      have gn:(S.map aA).getD (i+1) .top=aA S[i+1]:=cQ _ _ _ O;simp only[mN,pz,rQ,oz,oy,rN,rO,bQ,i1,i2,hi,O,gf,gn,fZ,f7,lP,sP,f8,ga,Q,wi]
    . have i2:¬ ((i+1:Nat):Int)<(S.length:Int):=by omega
      simp only[mN,pz,rQ,oz,oy,rN,rO,bQ,i1,i2,hi,gf,fZ,f7,lP,sP,f8,ga,Q,wi]
def Vi{N:Int->Nat}(h0:∀t,t<0\/1099511627776<=t->N t=0)(hS:aJ (λ t=>(N t:Int)) 1099511627776 S)(hl:S.length<=524289)(k:Nat):∃A:List aF,mM (S.map aA) ((k+1:Nat):Int)=some (A.map aA)/\(aZ A/\∀t,inL A t=decide (k<N t))/\A.length<=S.length:=by obtain⟨A,e,a1,a2⟩:=Mk hS hl ((k+1:Nat):Int) S.length 0 [] Ω (by rw[xH9 hS];exact Rv _) (zd _);refine⟨A,?_,⟨a1.span,λ t=>?_⟩,a2⟩;have e:aB (mN (S.map aA) ((k+1:Nat):Int)) ((0:Nat),(0:Int),[])=_:=e;have tt:List.take A.length (A.map aA)=A.map aA:=zi Ψ;unfold mM HW;simp only[AY,e,zk,zh,aW,zH,za,zd,zn,zS,zr,tt,aH];rw[a1.done];by_cases h1:0<=t;by_cases h2:t<1099511627776;simp only[h1,h2,zn,Bool.true_and];rw[Bool.eq_iff_iff,zl,zl];omega;have:=h0 t (.inr Ω);simp[h2,this];have:=h0 t (.inl Ω);simp[h1,this]
def xGO(p q:aF):decide (I5 p.1 p.2 q.1 q.2<=0)=decide (de p q<=0):=by rw[Bool.eq_iff_iff,zl,zl,vF];unfold I5;simp only[eh,zS,aH];by_cases h1:p.1=q.1;by_cases h2:p.2=q.2;simp[h1,h2];by_cases h3:p.2<q.2;simp[h1,h2,h3];omega;simp[h1,h2,h3];omega;by_cases h3:p.1<q.1;simp[h1,h3];simp[h1,h3]
def TL(P:List aF)(hP:P.length<=1099511627775)(p:aF):∀(d i:Nat),i+d=P.length->(∀k(h:k<P.length),k<i->de P[k] p<=0)->∃m:Nat,m<=P.length/\(∀k(h:k<P.length),k<m->de P[k] p<=0)/\(∀h:m<P.length,¬ de P[m] p<=0)/\
  aB (xE (P.map aA)) (i,(i:Int),p.1,p.2,(P.take i).map aA)=some (m,(m:Int),p.1,p.2,(P.take m).map aA)
 |0,i,h,hk=>by
  obtain rfl:i=P.length:=by omega
  refine⟨P.length,zd _,hk,λ h=>by omega,cR ?_⟩
  simp only[xE,DQ,za,zy,zm,bE,aH]
 |d+1,i,h,hk=>by
  have hi:i<P.length:=by omega
  have i1:(i:Int)<(P.length:Int):=by omega
  have gf:(P.map aA).getD i .top=aA P[i]:=cQ _ _ _ hi;have tl:(P.take i).length=i:=by rw[zt];omega
  obtain⟨m1,m2,_,_⟩:=F6 (n:=i) (by omega)
  have rc:=xGO P[i] p;by_cases hc:de P[i] p<=0
  . rw [decide_eq_true hc] at rc;obtain ⟨m,a1,a2,a3,a4⟩:=TL P hP p d (i+1) (by omega) (fun k h h1=>by
     by_cases e:k=i
     . subst e;exact hc
     . exact hk k h (by omega))
    refine⟨m,a1,a2,a3,(en ?_).trans a4⟩;simp only[xE,DQ,Hr,bQ,i1,hi,gf,fZ,f7,lP,sP,f8,ga,rc,tl,m1,m2,dO (n:=i) (by omega),pZ]
    rw[List.take_add_one,ze hi,zx];rfl
  . rw[decide_eq_false hc]at rc;refine⟨i,by omega,hk,λ _=>hc,cR ?_⟩
    simp only[xE,DQ,Hr,bQ,i1,hi,gf,fZ,f7,lP,sP,f8,ga,rc]
def xH7(P:List aF)(hP:P.length<=1099511627775)(p:aF)(hs:aI de P):∃P':List aF,Jv (P.map aA) p.1 p.2=some (P'.map aA)/\P'.Perm (p::P)/\aI de P':=by
 obtain⟨m,a1,a2,a3,a4⟩:=TL P hP p P.length 0 Ω (λ k h h1=>by omega);refine⟨P.take m++p::P.drop m,?_,?_,?_⟩;have a4:aB (xE (P.map aA)) ((0:Nat),(0:Int),p.1,p.2,[])=_:=a4;have tl:(P.take m).length=m:=by rw[zt];omega
 obtain⟨m1,m2,_,_⟩:=F6 (n:=m) Ω;have i1:(m:Int)<=(P.length:Int):=Ω
 have t1:List.take (P.length - m) (List.drop m (P.map aA))=(P.drop m).map aA:=by rw[zi Ψ,List.map_drop]
 have dl:(P.drop m).length=P.length - m:=y3;have m3:(m+1+(P.length - m))*16<=140737488355328:=Ω
 have m4:m+1+(P.length - m)<=4611686018427387904:=Ω
 have J:(P.take m).map aA++[aA p]++(P.drop m).map aA=(P.take m++p::P.drop m).map aA:=by simp
 have fl:((P.take m++p::P.drop m).map aA).length=m+1+(P.length - m):=by simp;omega
 have tt:List.take (m+1+(P.length - m)) ((P.take m++p::P.drop m).map aA)=(P.take m++p::P.drop m).map aA:=zi (by rw[fl];exact zd _);have ag:AV.agg [.int .i64 p.1,.int .i64 p.2]=aA p:=rfl;unfold Jv PK;simp only[Eh,Pm,Pn,Ei,Po,qX,OK,a4,bQ,ag,tl,t1,dl,m1,m2,m3,m4,i1,z8,zj,J,zd,zr];have l9:m+(p::P.drop m).length=m+1+(P.length - m):=by rw[zF,dl];omega
 simp only[za,l9,zd,zn,aW,tt,aH];exact List.perm_middle.trans (by rw[List.take_append_drop]);refine List.pairwise_append.2 ⟨hs.sublist (List.take_sublist _ _),zM.2 ⟨λ q hq=>?_,hs.sublist (List.drop_sublist _ _)⟩,λ x hx y hy=>?_⟩;obtain⟨j,hj,rfl⟩:=zp.1 hq;rw[y3]at hj;rw[List.getElem_drop];have h1:=a3 Ω;have h2:de p P[m]<=0:=by rw[JP P[m] p];omega
 rcases Nat.eq_zero_or_pos j with rfl|O;exact h2;exact MQ.trans _ _ _ h2 (zB.1 hs m (m+j) Ω Ω Ω);obtain⟨i,hi,rfl⟩:=List.mem_take_iff_getElem.1 hx;rcases zC.1 hy with rfl|hy;exact a2 i Ω Ω;obtain⟨j,hj,rfl⟩:=zp.1 hy;rw[y3]at hj;rw[List.getElem_drop];exact zB.1 hs i (m+j) Ω Ω Ω
def UC(l:List AV)(n:Int)(s:List aF)(hs:s.length<=1048576):∀(d i:Nat)(out:List aF),i+d=s.length->aI de out->out.length+d<=1099511627775->∃q:List aF,aB (xn l n (s.map aA)) (out.map aA,(i:Int))=some (q.map aA)/\q.Perm (out++s.drop i)/\aI de q|0,i,out,h,ho,hl=>(by(obtain rfl:i=s.length:=Ω);refine⟨out,cR ?_,by rw[zq (zd _),zD],ho⟩;simp only[xn,Hq,za,zy,zm,bE,aH])|d+1,i,out,h,ho,hl=>by(have hi:i<s.length:=Ω);(have i1:(i:Int)<(s.length:Int):=Ω);have gf:(s.map aA).getD i .top=aA s[i]:=cQ _ _ _ hi;obtain⟨P',e1,p1,s1⟩:=xH7 out Ω s[i] ho;have pl:=p1.length_eq;rw[zF]at pl;obtain⟨q,e2,p2,s2⟩:=UC l n s hs d (i+1) P' Ω s1 Ω;refine⟨q,(en (s':=(P'.map aA,((i+1:Nat):Int))) ?_).trans e2,?_,s2⟩;simp only[xn,Hq,bQ,i1,hi,gf,fZ,f7,lP,sP,f8,ga,e1,dO (n:=i) Ω];refine p2.trans ((p1.append_right _).trans ?_);rw[jq hi];exact List.perm_middle.symm
def Sp(A:Nat->List aF)(C:Nat)(hC:C<=524289)(hA:∀k,mM (S.map aA) ((k+1:Nat):Int)=some ((A k).map aA)/\(A k).length<=C)(H:Nat)(hH:H<=1048575)(hE:A H=[]):∀(d k:Nat)(out:List aF),k+d=H->aI de out->out.Perm ((List.range k).flatMap A)->∃(K:Nat)(q:List aF),aB (uw (S.map aA)) (out.map aA,((k+1:Nat):Int))=some (true,(q.map aA,q.map aA),[])/\A K=[]/\K<=H/\q.Perm ((List.range K).flatMap A)/\aI de q|d,k,out,h,ho,hp=>by(obtain⟨e1,l1⟩:=hA k;have n1:((k+1:Nat):Int)<=1048576:=Ω);by_cases hk:A k=[];refine⟨k,out,cR ?_,hk,by omega,hp,ho⟩;rw[hk]at e1;simp only[uw,Hp,n1,e1,zn,aW,zk,zh,zW,aH];rfl;match d,h with
 |0,h=>(obtain rfl:k=H:=Ω);exact absurd hE hk
 |d+1,h=>
 have ol:out.length<=C*k:=by rw[hp.length_eq];have:=vD (g:=A) (List.range k) λ j _=>(hA j).2;rwa [List.length_range]at this
 have J:C*k<=524289*1048575:=Nat.mul_le_mul hC Ω;obtain⟨q,e2,p2,s2⟩:=UC (S.map aA) ((k+1:Nat):Int) (A k) Ω (A k).length 0 out Ω ho Ω;obtain ⟨K,o2,e3,k1,k2,p3,s3⟩:=Sp A C hC hA H hH hE d (k+1) q Ω s2 (by
  rw [List.range_succ,List.flatMap_append];rw [zr] at p2;refine p2.trans ((hp.append_right _).trans ?_);simp)
 refine⟨K,o2,(en ?_).trans e3,k1,k2,p3,s3⟩;have ne:(((A k).length:Int)==0)=false:=by have:(A k).length≠0:=λ e=>hk (List.length_eq_zero_iff.1 e);simp;exact hk
 have e2:aB (xn (S.map aA) ((k+1:Nat):Int) ((A k).map aA)) (out.map aA,(0:Int))=_:=e2;simp only[uw,Hp,n1,e1,zn,aW,bE,zk,zh,za,ne,e2,dO (n:=k+1) Ω,aH]
variable {H:Nat}
def Z3{N:Int->Nat}(hH:H<=1048575)(hN:∀t,N t<=H)(h0:∀t,t<0\/1099511627776<=t->N t=0)(hS:aJ (λ t=>(N t:Int)) 1099511627776 S)(hl:S.length<=524289):∃P,mW (S.map aA)=some (P.map aA)/\bA N P:=by
 have ha:=Vi h0 hS hl;have hA:=λ k=>Classical.choose_spec (ha k);obtain⟨A,q⟩:∃A:Nat->List aF,A=λ k=>Classical.choose (ha k):=⟨_,rfl⟩;have hA:∀k,mM (S.map aA) ((k+1:Nat):Int)=some ((A k).map aA)/\(aZ (A k)/\∀t,inL (A k) t=decide (k<N t))/\(A k).length<=S.length:=λ k=>by rw[q];exact hA k
 have hE:A H=[]:=Fs (hA H).2.1.1 λ t=>by rw[(hA H).2.1.2];have:=hN t;simp;omega
 obtain⟨K,P,e,k1,k2,p1,s1⟩:=Sp A S.length hl (λ k=>⟨(hA k).1,(hA k).2.2⟩) H hH hE H 0 [] Ω List.Pairwise.nil Ψ;refine⟨P,?_,s1,A,K,λ t=>?_,λ k=>(hA k).2.1,p1⟩;have e:aB (uw (S.map aA)) ([],(1:Int))=_:=e;unfold mW I0;simp only[DP,e,zk,zh,aW,aH];have:=(hA K).2.1.2 t;rw[k1,m9]at this;have:=of_decide_eq_false this.symm;omega
def Rm{r:Row}(h:∀v,v∈r->v.wf/\v.t.length<=1073741824)(hl:r.length<=60):(keyOf r).length<=17592186044416:=by(have:=vD (g:=fg) (c:=1073741890) r λ v hv=>by obtain⟨h1,h2⟩:=h v hv;have:=T1 h1 Ω;omega);unfold keyOf;have h2:1073741890*r.length<=1073741890*60:=Nat.mul_le_mul_left _ hl;omega
variable {Q:Row->Prop}
def mH.all{l B:List Fc}(h:mH l B)(hq:∀f,f∈l->Q f.r):∀f,f∈B->Q f.r:=λ f hf=>by obtain⟨_,g,hg,e⟩:=h.valid hf;rw[<-e];exact hq g hg
def mS.all{l B:List Fc}(h:mS l B)(hq:∀f,f∈l->Q f.r):∀f,f∈B->Q f.r:=λ f hf=>by obtain⟨R,L,h1,h2,rfl⟩:=h;obtain⟨a,b⟩:=B3 hf;obtain⟨g,g1,g2,_⟩:=(h1.2 _).1 a;rw[<-g2];exact hq g g1
def mS.len{l B:List Fc}(h:mS l B):B.length<=l.length*l.length:=by obtain⟨R,L,h1,h2,rfl⟩:=h;refine Ro (h1.1.nodup mO) λ r hr=>?_;(obtain⟨a,b⟩:=h2 r hr;have:=Sf (ps:=cW l r) (k:=0) a λ t=>by rw[b,Cl]);exact Nat.le_trans this (Nat.le_mul_self _)
def dk(S:List Row):Nat->List Row|0=>[]|k+1=>dk S k++(if k=0\/S[k - 1]?≠S[k]? then S[k]?.toList else[])
def Mp(S:List Row):∀k,(dk S k).length<=k|0=>zd _|k+1=>by(have:=Mp S k;unfold dk;rw[z8];have:(if k=0\/S[k - 1]?≠S[k]? then S[k]?.toList else[]).length<=1:=by split;cases S[k]?<;>simp;simp);omega
def We(S:List Row)(hs:aI aQ S):∀k,k<=S.length->eH aQ (dk S k)/\∀x,x∈dk S k↔x∈S.take k
 |0,_=>⟨List.Pairwise.nil,λ x=>by simp[dk]⟩
 |k+1,hk=>by
  obtain⟨h1,h2⟩:=We S hs k (by omega)
  have J:k<S.length:=by omega
  have tk:S.take (k+1)=S.take k++[S[k]]:=by rw[List.take_add_one,ze J];rfl
  unfold dk;rw[ze J,tk];by_cases hc:k=0\/S[k - 1]?≠some S[k]
  . rw[if_pos hc];refine⟨List.pairwise_append.2 ⟨h1,List.pairwise_singleton _ _,λ x hx y hy=>?_⟩,λ x=>by rw[zG,zG,h2];rfl⟩
    simp at hy;subst hy;obtain⟨i,hi,rfl⟩:=List.mem_take_iff_getElem.1 ((h2 x).1 hx);have O:k≠0:=by omega
    have q:k - 1<S.length:=by omega
    have hne:S[k - 1]≠S[k]:=λ e=>by
     rcases hc with hc|hc
     . exact O hc
     . exact hc (by rw[ze q,e])
    have c1:aQ S[k - 1] S[k]<=0:=zB.1 hs _ _ q J (by omega)
    have c2:aQ S[k - 1] S[k]<0:=by
     rcases Int.lt_or_eq_of_le c1 with c|c
     . exact c
     . exact absurd (vl c) hne
    rcases zJ i (k - 1)with Q|Q
    . have c3:aQ S[i] S[k - 1]<=0:=zB.1 hs _ _ (by omega) q Q
      exact mO.lt2 c3 c2
    . have:i=k - 1:=by omega
      subst this;exact c2
  . rw[if_neg hc,zD];refine⟨h1,λ x=>?_⟩
    rw[h2,zG,zv];refine⟨Or.inl,λ hh=>hh.elim id λ hx=>?_⟩
    have O:k≠0:=λ e=>hc (.inl e)
    have he:S[k - 1]?=some S[k]:=by
     by_cases e:S[k - 1]?=some S[k]
     . exact e
     . exact absurd (.inr e) hc
    have q:k - 1<S.length:=by omega
    rw[ze q,z6]at he;rw[hx,<-he];exact List.mem_take_iff_getElem.2 ⟨k - 1,by omega,rfl⟩
def xOi{n:Nat}(h:n<=1048576):(n+1)*24<=140737488355328/\n+1<=4611686018427387904:=Ω
def xCA(S:List Row)(hS:S.length<=1048576)(hr:∀x,x∈S->x.length<=maxLen):aB (xy (S.map encR)) ((0:Nat),(0:Int),[])=some ((dk S S.length).length,(dk S S.length).map encR):=by
 refine tC (λ k=>(((dk S k).length,((k:Nat):Int),(dk S k).map encR):Nat×Int×List AV)) S.length _ (λ k hk=>?_) ?_ S.length 0 Ω;have i1:(k:Int)<(S.length:Int):=Ω
 have gf:(S.map encR).getD k .top=encR S[k]:=cQ _ _ _ hk;have dl:=Mp S k;obtain⟨m1,m2⟩:=xOi (n:=(dk S k).length) Ω;cases k with|zero=>(have:dk S (0+1)=[S[0]]:=by simp[dk,ze hk]);rw[this];have i0:(((0:Nat):Int)==0):=rfl;simp only[xy,Dx,Dm,G3,bQ,hk,i0,i1,gf,p9,qw,m1,m2,dO (n:=0) Ω];rfl|succ j=>(have hj:j<S.length:=Ω);(have i0:(((j+1:Nat):Int)==0)=false:=by simp;omega);(have i2:(j:Int)<(S.length:Int):=Ω);(have gj:(S.map encR).getD j .top=encR S[j]:=cQ _ _ _ hj;have ee:=xLT S[j] S[j+1] (hr _ (zo hj));have wj:IntKind.i64.wrap (((j+1:Nat):Int) - 1)=(j:Int):=by rw[il Ω Ω];omega);(have sd:dk S (j+1+1)=dk S (j+1)++(if S[j]=S[j+1]then[]else[S[j+1]]):=by show dk S (j+1)++_=_;congr 1;rw[show j+1 - 1=j by omega,ze hj,ze hk];by_cases e:S[j]=S[j+1];simp[e];simp[e]);rw[sd];simp only[xy,Dx,Dm,G3,bQ,hk,hj,i0,i1,i2,gf,gj,p9,qw,ee,wj,qc,m1,m2,dO (n:=j+1) Ω];by_cases e:S[j]=S[j+1];simp[e,bE,aH];simp[e,aW,encR,aH]
 simp only[xy,Dx,Dm,za,zy,zm,bE,aH]
def xCB(l:List Row)(h:rD l):∃D,Pp (l.map encR)=some (D.map encR)/\eH aQ D/\(∀x,x∈D↔x∈l)/\D.length<=l.length:=by obtain⟨S,e1,p1,s1⟩:=xIq l h;have hS:=h.perm p1;obtain⟨a1,a2⟩:=We S s1 S.length (zd _);have e2:=xCA S hS.1 (λ x hx=>by have:=hS.2 x hx;unfold maxLen;omega);refine⟨dk S S.length,?_,a1,λ x=>by rw[a2,y6,p1.mem_iff],by rw[<-p1.length_eq];exact Mp _ _⟩;have tt:List.take (dk S S.length).length ((dk S S.length).map encR)=(dk S S.length).map encR:=zi Ψ;unfold Pp OG;simp only[DA,e1,e2,zk,zh,aW,zH,za,zd,zn,zS,zr,tt,aH]
def cF(f g:Fc):Int:=aQ f.r g.r
def MO:Cm cF:=mO.on (e:=λ f:Fc=>f.r)
def xEt(a b:List Fc)(ha:a.length+b.length<=1048576)(Z:∀x,x∈a->x.r.length<=1048576)(W:∀x,x∈b->x.r.length<=1048576)(sa:aI cF a)(sb:aI cF b):∀(n i k:Nat)(D:List Fc),(a.length - i)+(b.length - k)=n->i<=a.length->k<=b.length->D.length=i+k->∃r,aB (s7 (List.map encF a) (List.map encF b)) (D.length,(i:Int),(k:Int),List.map encF D)=some (a.length+b.length,List.map encF (D++r))/\r.Perm (a.drop i++b.drop k)/\aI cF r:=by intro n;induction n with|zero=>(intro i k D hn hi hk hD;have h1:¬ (i:Int)<(a.length:Int):=Ω);(have h2:¬ (k:Int)<(b.length:Int):=Ω);refine⟨[],cR ?_,?_,by simp[aI]⟩;simp only[s7,xS,xI,xJ,xK,AC,AD,AE,  za,eh,h1,h2,zm,zT,if_false,zD,aH];rw[show D.length=a.length+b.length by omega];rw[zq Ω,zq Ω];exact List.Perm.refl _|succ n ih=>
 intro i k D hn hi hk hD;have Y:(List.map encF D).length=D.length:=by simp
 have m1:(D.length+1)*40<=140737488355328:=Ω
 have m2:D.length+1<=4611686018427387904:=Ω
 have snoc:∀x:Fc,List.map encF D++[AV.agg [AV.list 3 (x.r.map encV),AV.int .i64 x.p.1,AV.int .i64 x.p.2]]=List.map encF (D++[x]):=λ x=>by simp[encF]
 have wi:=tE (n:=i) (show i+1<=maxLen by unfold maxLen;omega);have wk:=tE (n:=k) (show k+1<=maxLen by unfold maxLen;omega);by_cases J:i<a.length;have i1:(i:Int)<(a.length:Int):=Ω
 have i2:((i:Int)==(a.length:Int))=false:=by simp;omega
 have hx:a[i]?=some a[i]:=by simp[J]
 by_cases q:k<b.length;have k1:(k:Int)<(b.length:Int):=Ω
 have hy:b[k]?=some b[k]:=by simp[q]
 have e:=Ci b[k].r a[i].r (by have:=W b[k] (zo q);unfold maxLen;omega);by_cases hc:aQ b[k].r a[i].r<0;obtain⟨r,h1,h2,h3⟩:=ih i (k+1) (D++[b[k]]) Ω hi Ω (by simp;omega);refine⟨b[k]::r,?_,?_,?_⟩;refine kM (s':=((D++[b[k]]).length,(i:Int),((k+1:Nat):Int),List.map encF (D++[b[k]]))) ?_ (by rw[h1];simp);simp only[s7,xS,xI,xJ,xK,AC,AD,AE,  za,eh,i1,i2,k1,J,q,zn,zT,if_false,if_true,zN,gR hx,gR hy,np,nq,nr,nF,nG,nH,lF,iJ,iI,e,zk,zh,hc,Int.natCast_nonneg,zS,beq_self_eq_true,m1,m2,snoc,wk,aH];simp;rw[jq q];exact(h2.cons _).trans List.perm_middle.symm;refine zM.2 ⟨λ z hz=>?_,h3⟩;rcases zG.1 (h2.mem_iff.1 hz)with hz|hz;rw[jq J]at hz;rcases zC.1 hz with rfl|hz;exact Int.le_of_lt hc;obtain⟨j,hj,rfl⟩:=zp.1 hz;have Q:i+1+j<a.length:=by simp at hj;omega
 have:=lg sa (i:=i) (j:=i+1+j) Ω Q;rw[List.getElem_drop];exact MO.trans _ _ _ (Int.le_of_lt hc) this;obtain⟨j,hj,rfl⟩:=zp.1 hz;have O:k+1+j<b.length:=by simp at hj;omega
 rw[List.getElem_drop];exact lg sb (i:=k) (j:=k+1+j) Ω O;obtain⟨r,h1,h2,h3⟩:=ih (i+1) k (D++[a[i]]) Ω Ω hk (by simp;omega);refine⟨a[i]::r,?_,?_,?_⟩;refine kM (s':=((D++[a[i]]).length,((i+1:Nat):Int),(k:Int),List.map encF (D++[a[i]]))) ?_ (by rw[h1];simp);simp only[s7,xS,xI,xJ,xK,AC,AD,AE,  za,eh,i1,i2,k1,J,q,zn,zT,if_false,if_true,zN,gR hx,gR hy,np,nq,nr,nF,nG,nH,lF,iJ,iI,e,zk,zh,hc,zm,Int.natCast_nonneg,zS,beq_self_eq_true,m1,m2,snoc,wi,aH];simp;rw[jq J];exact h2.cons _;refine zM.2 ⟨λ z hz=>?_,h3⟩;have V:cF a[i] b[k]<=0:=MO.ord.le_of_not hc;rcases zG.1 (h2.mem_iff.1 hz)with hz|hz;obtain⟨j,hj,rfl⟩:=zp.1 hz;have Q:i+1+j<a.length:=by simp at hj;omega
 rw[List.getElem_drop];exact lg sa (i:=i) (j:=i+1+j) Ω Q;rw[jq q]at hz;rcases zC.1 hz with rfl|hz;exact V;obtain⟨j,hj,rfl⟩:=zp.1 hz;have O:k+1+j<b.length:=by simp at hj;omega
 rw[List.getElem_drop];exact MO.trans _ _ _ V (lg sb (i:=k) (j:=k+1+j) Ω O);have k1:¬ (k:Int)<(b.length:Int):=Ω
 obtain⟨r,h1,h2,h3⟩:=ih (i+1) k (D++[a[i]]) Ω Ω hk (by simp;omega);refine⟨a[i]::r,?_,?_,?_⟩;refine kM (s':=((D++[a[i]]).length,((i+1:Nat):Int),(k:Int),List.map encF (D++[a[i]]))) ?_ (by rw[h1];simp);simp only[s7,xS,xI,xJ,xK,AC,AD,AE,  za,eh,i1,i2,k1,J,zn,zm,zT,if_false,if_true,zN,gR hx,np,nq,nr,nF,nG,nH,lF,iJ,iI,Int.natCast_nonneg,zS,beq_self_eq_true,m1,m2,snoc,wi,aH];simp;rw[jq J];exact h2.cons _;refine zM.2 ⟨λ z hz=>?_,h3⟩;rw[zq (show b.length<=k by omega),zD]at h2;obtain⟨j,hj,rfl⟩:=zp.1 (h2.mem_iff.1 hz);have Q:i+1+j<a.length:=by simp at hj;omega
 rw[List.getElem_drop];exact lg sa (i:=i) (j:=i+1+j) Ω Q;have i1:¬ (i:Int)<(a.length:Int):=Ω
 have q:k<b.length:=Ω
 have k1:(k:Int)<(b.length:Int):=Ω
 have i2:((i:Int)==(a.length:Int)):=by simp;omega
 have hy:b[k]?=some b[k]:=by simp[q]
 obtain⟨r,h1,h2,h3⟩:=ih i (k+1) (D++[b[k]]) Ω hi Ω (by simp;omega);refine⟨b[k]::r,?_,?_,?_⟩;refine kM (s':=((D++[b[k]]).length,(i:Int),((k+1:Nat):Int),List.map encF (D++[b[k]]))) ?_ (by rw[h1];simp);simp only[s7,xS,xI,xJ,xK,AC,AD,AE,  za,eh,i1,i2,k1,q,zn,zm,zT,if_false,if_true,zN,gR hy,np,nq,nr,nF,nG,nH,lF,iJ,iI,Int.natCast_nonneg,zS,beq_self_eq_true,m1,m2,snoc,wk,aH];simp;rw[jq q];exact(h2.cons _).trans List.perm_middle.symm;refine zM.2 ⟨λ z hz=>?_,h3⟩;rw[zq (show a.length<=i by omega),zU]at h2;obtain⟨j,hj,rfl⟩:=zp.1 (h2.mem_iff.1 hz);have O:k+1+j<b.length:=by simp at hj;omega
 rw[List.getElem_drop];exact lg sb (i:=k) (j:=k+1+j) Ω O
def xEu(a b:List Fc)(ha:a.length+b.length<=1048576)(q:∀x,x∈a->x.r.length<=1048576)(J:∀x,x∈b->x.r.length<=1048576)(sa:aI cF a)(sb:aI cF b):∃r,PY (a.map encF) (b.map encF)=some (r.map encF)/\r.Perm (a++b)/\aI cF r:=by(obtain⟨r,h1,h2,h3⟩:=xEt a b ha q J sa sb _ 0 0 [] rfl (zQ _) (zQ _) rfl;simp only[zr,zU]at h1 h2;have h1':aB (s7 (a.map encF) (b.map encF)) (0,(0:Int),(0:Int),[])=some (r.length,r.map encF):=by rw[h2.length_eq,z8];exact h1);refine⟨r,?_,h2,h3⟩;unfold PY O8;simp only[D0,OP,h1',rA,aH]
def xCE:∀(f:Nat)(l:List Fc),l.length<=2 ^ f->pi l->∃r,rd (f+1) (List.map encF l)=some (List.map encF r)/\r.Perm l/\aI cF r:=by intro f;induction f with|zero=>((intro l hl hs;have h1:(l.length:Int)<2:=by simp at hl;omega);refine⟨l,?_,List.Perm.refl _,?_⟩;show qR (rd 0) (List.map encF l)=_;simp only[qR,Bv,za,h1,zn,aW,aH];match l,hl with|[],_=>exact List.Pairwise.nil|[x],_=>exact List.pairwise_singleton _ _)|succ f ih=>
 intro l hl hs;by_cases h2:l.length<=1;have h1:(l.length:Int)<2:=Ω
 refine⟨l,?_,List.Perm.refl _,?_⟩;show qR (rd (f+1)) (List.map encF l)=_;simp only[qR,Bv,za,h1,zn,aW,aH];match l,h2 with|[],_=>exact List.Pairwise.nil|[x],_=>exact List.pairwise_singleton _ _
 have hp:2 ^ (f+1)=2*2 ^ f:=by rw[Nat.pow_succ];omega
 have q:=hs.1;obtain⟨m,hm⟩:∃m,m=l.length / 2:=⟨_,rfl⟩;have st:pi (l.take m):=⟨by simp;omega,λ x hx=>hs.2 x (List.mem_of_mem_take hx)⟩;have sd:pi (l.drop m):=⟨by simp;omega,λ x hx=>hs.2 x (List.mem_of_mem_drop hx)⟩;obtain⟨r1,e1,p1,s1⟩:=ih (l.take m) (by simp;omega) st;obtain⟨r2,e2,p2,s2⟩:=ih (l.drop m) (by simp;omega) sd;have l1:=p1.length_eq;have l2:=p2.length_eq;simp only[zt,y3]at l1 l2;obtain⟨r,a1,a3,a4⟩:=xEu r1 r2 Ω (λ x hx=>st.2 x (p1.mem_iff.1 hx)) (λ x hx=>sd.2 x (p2.mem_iff.1 hx)) s1 s2;refine⟨r,?_,a3.trans ((p1.append p2).trans (by rw[List.take_append_drop])),a4⟩;have w:IntKind.i64.wrap ((l.length:Int).tdiv 2)=(m:Int):=by rw[Int.tdiv_eq_ediv_of_nonneg Ω];exact ik Ω Ω
 have t1:List.take m (List.map encF l)=List.map encF (l.take m):=by simp
 have t2:List.take (l.length - m) (List.drop m (List.map encF l))=List.map encF (l.drop m):=by rw[zi Ψ];simp
 have d0:¬ (l.length:Int)<2:=Ω
 have d2:(m:Int)<=(l.length:Int):=Ω
 show qR (rd (f+1)) (List.map encF l)=_;simp only[qR,Bv,Oo,Oq,Ot,  za,d0,bE,w,zN,Nat.sub_zero,zr,t1,t2,e1,e2,zk,zh,aW,d2,zn,zm,Int.natCast_nonneg,zS,a1,aH]
def R8(l:List Fc)(h:pi l):∃D,vh (l.map encF)=some (D.map encR)/\rC l D:=by
 have e0:=xux l h.1;have hf:(l.flatMap λ f=>if pv f.p then[f.r]else[]).length<=1*l.length:=vD l λ f _=>by split<;>simp
 have hm:∀x,x∈(l.flatMap λ f=>if pv f.p then[f.r]else[])↔∃f,f∈l/\f.r=x/\pv f.p:=λ x=>by rw[y5];constructor;rintro⟨f,hf,hx⟩;split at hx;simp at hx;exact⟨f,hf,hx.symm,by assumption⟩;simp at hx;rintro⟨f,hf,e,hv⟩;exact⟨f,hf,by rw[if_pos hv];simp[e]⟩
 have q:rD (l.flatMap fun f=>if pv f.p then [f.r] else []):=⟨by have:=h.1;omega,fun x hx=>by
  obtain ⟨f,hf,e,_⟩:=(hm x).1 hx;rw [<-e];exact h.2 f hf⟩
 obtain⟨D,d1,d2,d3,d4⟩:=xCB _ q;refine⟨D,?_,d2,λ r=>by rw[d3,hm]⟩;generalize (l.flatMap λ f=>if pv f.p then[f.r]else[])=w at e0 d1;have tt:List.take w.length (w.map encR)=w.map encR:=zi Ψ;unfold vh PX;simp only[PP,Ep,e0,zk,zh,aW,zH,za,zd,zn,zS,zr,tt,d1,aH]
def UE(S:List Fc)(hS:S.length<=1048576)(hr:∀f,f∈S->f.r.length<=maxLen)(on i:Nat)(hi:i<S.length)(xs:List AV):∀(d k:Nat),k+d=S.length->i<=k->∃j:Nat,k<=j/\j<=S.length/\(∀t(h:t<S.length),k<=t->t<j->S[t].r=S[i].r)/\(∀h:j<S.length,S[j].r≠S[i].r)/\
  aB (ux (S.map encF) on (i:Int)) ((k:Int),xs)=some ((j:Int),xs)
 |0,k,h,hik=>by
  obtain rfl:k=S.length:=by omega
  refine⟨S.length,zd _,zd _,λ t h1 h2 h3=>by omega,λ h=>by omega,cR ?_⟩
  simp only[ux,DC,za,zy,zm,bE,aH]
 |d+1,k,h,hik=>by
  have hk:k<S.length:=by omega
  have i1:(k:Int)<(S.length:Int):=by omega
  have i2:(i:Int)<(S.length:Int):=by omega
  have gk:(S.map encF).getD k .top=encF S[k]:=cQ _ _ _ hk;have gi:(S.map encF).getD i .top=encF S[i]:=cQ _ _ _ hi;have ec:=Ci S[k].r S[i].r (hr _ (zo hk));by_cases he:S[k].r=S[i].r
  . obtain⟨j,a1,a2,a3,a4,a5⟩:=UE S hS hr on i hi xs d (k+1) (by omega) (by omega)
    refine⟨j,by omega,a2,λ t h1 h2 h3=>?_,a4,(en (s':=(((k+1:Nat):Int),xs)) ?_).trans a5⟩
    . by_cases q:t=k
      . subst q;exact he
      . exact a3 t h1 (by omega) h3
    . have dd:decide (S[k].r=S[i].r)=true:=decide_eq_true he;simp only[ux,DC,bQ,i1,i2,hk,hi,gk,gi,np,nq,nr,nF,nG,nH,lF,iJ,iI,ec,qc,dd,dO (n:=k) (by omega)]
  . refine⟨k,zd _,by omega,λ t h1 h2 h3=>by omega,λ _=>he,cR ?_⟩
    simp only[ux,DC,bQ,i1,i2,hk,hi,gk,gi,np,nq,nr,nF,nG,nH,lF,iJ,iI,ec,qc,he,zm]
structure KZ (S:List Fc) (i:Nat) (G:List fx):Prop where
 st:eH aQ (G.map (·.1))
 mem:∀r,r∈G.map (·.1)↔∃f,f∈S.take i/\f.r=r/\pv f.p
 ps:∀g,g∈G->aJ (λ t=>((cnt S g.1 t:Nat):Int)) 1099511627776 g.2/\g.2.length<=2*S.length+1
 len:G.length<=i
 bd:∀a b(ha:a<S.length)(hb:b<S.length),a<i->i<=b->aQ S[a].r S[b].r<0
def xOj{n:Nat}(h:n<=1048576):(n+1)*48<=140737488355328/\n+1<=4611686018427387904:=Ω
def xzM(S:List Fc)(hS:S.length<=262144)(hr:∀f,f∈S->f.r.length<=1048576)(hs:aI cF S):∀(c i:Nat)(G:List fx),S.length - i<=c->i<=S.length->KZ S i G->
  ∃G',aB (Ar (S.map encF)) (G.length,(i:Int),G.map aL)=some (G'.length,G'.map aL)/\KZ S S.length G'
 |c,i,G,hc,hi,hG=>by
  by_cases af:i=S.length
  . subst af;refine⟨G,cR ?_,hG⟩;simp only[Ar,HK,za,zy,zm,bE,aH]
  . have O:i<S.length:=by omega
    obtain⟨j,a1,a2,a3,a4,a5⟩:=UE S (by omega) (λ f hf=>by have:=hr f hf;unfold maxLen;omega) G.length i O (G.map aL) (S.length - i) i (by omega) (zd _)
    have aa:i<j:=by
     rcases zJ i j with h|h
     . exact h
     . obtain rfl:j=i:=by omega
       exact absurd rfl (a4 O)
    have run_mem:∀f,f∈(S.drop i).take (j - i)↔∃t,∃h:t<S.length,i<=t/\t<j/\S[t]=f:=λ f=>by
     rw[List.mem_take_iff_getElem];constructor
     . rintro⟨m,hm,rfl⟩;rw[y3]at hm;exact⟨i+m,by omega,by omega,by omega,by rw[List.getElem_drop]⟩
     . rintro⟨t,h,h1,h2,rfl⟩;refine⟨t - i,by rw[y3];omega,?_⟩
       rw[List.getElem_drop];congr 1;omega
    have run_row:∀f,f∈(S.drop i).take (j - i)->f.r=S[i].r:=λ f hf=>by
     obtain⟨t,h,h1,h2,rfl⟩:=(run_mem f).1 hf;exact a3 t h h1 h2
    have Y:S.take j=S.take i++(S.drop i).take (j - i):=by
     rw[show j=i+(j - i) by omega,List.take_add,Nat.add_sub_cancel_left]
    have Q:S=S.take i++((S.drop i).take (j - i)++S.drop j):=by
     rw[<-zw,<-Y,List.take_append_drop]
    have rl:((S.drop i).take (j - i)).length=j - i:=by rw[zt,y3];omega
    have q:∀f,f∈S.take i->aQ f.r S[i].r<0:=λ f hf=>by
     obtain⟨t,ht,rfl⟩:=List.mem_take_iff_getElem.1 hf;exact hG.bd t i (by omega) O (by omega) (zd _)
    have J:∀t(h:t<S.length),j<=t->aQ S[i].r S[t].r<0:=λ t h ah=>by
     have hj:j<S.length:=by omega
     have c1:aQ S[i].r S[j].r<=0:=zB.1 hs i j O hj aa;have c2:aQ S[i].r S[j].r<0:=by
      rcases Int.lt_or_eq_of_le c1 with c|c
      . exact c
      . exact absurd (vl c).symm (a4 hj)
     rcases zJ j t with h1|h1
     . have c3:aQ S[j].r S[t].r<=0:=zB.1 hs j t hj h h1;exact mO.lt1 c2 c3
     . obtain rfl:t=j:=by omega
       exact c2
    have no_other:∀(l:List Fc)(ρ:Row)(t:Int),(∀f,f∈l->f.r≠ρ)->cnt l ρ t=0:=λ l ρ t h=>by
     unfold cnt;rw[List.countP_eq_zero];intro f hf hh;simp only[zf,zl]at hh;exact h f hf hh.1
    have ne_of:∀x y:Row,aQ x y<0->x≠y:=λ x y h e=>by subst e;rw[Ri]at h;omega
    have Z:∀t,cnt ((S.drop i).take (j - i)) S[i].r t=cnt S S[i].r t:=λ t=>by
     have e:cnt S S[i].r t=cnt (S.take i++((S.drop i).take (j - i)++S.drop j)) S[i].r t:=by rw[<-Q]
     rw [e,JL,JL,no_other (S.take i) _ t (fun f hf=>ne_of _ _ (q f hf)),no_other (S.drop j) _ t (fun f hf=>by
      obtain ⟨m,hm,rfl⟩:=zp.1 hf;rw [y3] at hm;rw [List.getElem_drop];exact fun e=>ne_of _ _ (J (j+m) (by omega) (by omega)) e.symm)]
     omega
    have V:pi ((S.drop i).take (j - i)):=⟨by omega,λ f hf=>hr f (List.mem_of_mem_drop (List.mem_of_mem_take hf))⟩
    obtain⟨D,d1,d2,d3⟩:=R8 _ V;obtain⟨St,s1,s2,s3⟩:=E9 ((S.drop i).take (j - i)) S[i].r (λ f hf=>by have:=V.2 f hf;unfold maxLen;omega) (by omega)
    have s2:aJ (λ t=>((cnt S S[i].r t:Nat):Int)) 1099511627776 St:=by
     have e:(λ t=>((cnt ((S.drop i).take (j - i)) S[i].r t:Nat):Int))=λ t=>((cnt S S[i].r t:Nat):Int):=funext λ t=>by rw[Z]
     rwa [e]at s2
    have tS:List.take (j - i) (List.drop i (S.map encF))=((S.drop i).take (j - i)).map encF:=by rw[<-List.map_drop,<-List.map_take]
    have hD:D=[]\/D=[S[i].r]:=by
     match D,d2,d3 with
     |[],_,_=>exact .inl rfl
     |[x],_,h=>right;obtain⟨f,hf,e,_⟩:=(h x).1 (by simp);rw[<-e,run_row f hf]
     |x::y::t,h1,h=>
      obtain⟨f,hf,e,_⟩:=(h x).1 (by simp)
      obtain⟨g,hg,e',_⟩:=(h y).1 (by simp)
      have:aQ x y<0:=(zM.1 h1).1 y (by simp)
      rw[<-e,<-e',run_row f hf,run_row g hg,Ri]at this;omega
    have ag:=hG.len;obtain⟨m1,m2⟩:=xOj (n:=G.length) (by omega)
    have nx:KZ S j (G++D.map λ ρ=>(ρ,St)):=by
     refine⟨?_,λ r=>?_,λ g hg=>?_,?_,λ a b ha hb ad ab=>?_⟩
     . rw[zx];refine List.pairwise_append.2 ⟨hG.st,?_,λ x hx y hy=>?_⟩
       . rcases hD with rfl|rfl
         . exact List.Pairwise.nil
         . exact List.pairwise_singleton _ _
       . obtain⟨f,hf,e,_⟩:=(hG.mem x).1 hx;rcases hD with rfl|rfl
         . simp at hy
         . simp at hy;subst hy;rw[<-e];exact q f hf
     . rw[zx,zG,hG.mem,Y];have e:r∈(D.map λ ρ=>(ρ,St)).map (·.1)↔r∈D:=by simp
       rw[e,d3];constructor
       . rintro(⟨f,hf,h⟩|⟨f,hf,h⟩)
         . exact⟨f,zG.2 (.inl hf),h⟩
         . exact⟨f,zG.2 (.inr hf),h⟩
       . rintro⟨f,hf,h⟩;rcases zG.1 hf with hf|hf
         . exact .inl ⟨f,hf,h⟩
         . exact .inr ⟨f,hf,h⟩
     . rcases zG.1 hg with hg|hg
       . exact hG.ps g hg
       . obtain⟨ρ,hρ,rfl⟩:=zK.1 hg;rcases hD with rfl|rfl
         . simp at hρ
         . simp at hρ;subst hρ;exact⟨s2,by rw[rl]at s3;dsimp only;omega⟩
     . rw[z8,za];rcases hD with rfl|rfl<;>simp<;>omega
     . rcases zJ a i with W|W
       . exact hG.bd a b ha hb W (by omega)
       . rw[a3 a ha W ad];exact J b hb ab
    obtain⟨G',e',ae⟩:=xzM S hS hr hs (c - 1) j _ (by omega) a2 nx
    refine⟨G',(en ?_).trans e',ae⟩;have i1:(i:Int)<(S.length:Int):=by omega
    have i2:(j:Int)<=(S.length:Int):=by omega
    have i3:(i:Int)<=(j:Int):=by omega
    have ac:aB (As (S.map encF) (i:Int) (j:Int) (D.map encR)) (G.length,(0:Int),G.map aL)=some ((G++D.map λ ρ=>(ρ,St)).length,(G++D.map λ ρ=>(ρ,St)).map aL):=by
     rcases hD with rfl|rfl
     . refine cR ?_;have z:¬ (0:Int)<(([]:List AV).length:Int):=by simp
       simp only[As,DD,zW,z,zm,bE,zD,aH]
     . have z0:(0:Int)<(1:Int):=by omega
       have g0:([S[i].r].map encR).getD 0 .top=encR S[i].r:=rfl;have w1:IntKind.i64.wrap ((0:Int)+1)=1:=rfl;refine(en (s':=((G++[(S[i].r,St)]).length,(1:Int),(G++[(S[i].r,St)]).map aL)) ?_).trans (cR ?_)
       . have l1:(([S[i].r]:List Row).length:Int)=1:=rfl;have z1:(0:Int)<=0:=by omega
         have z2:(0:Nat)<([S[i].r]:List Row).length:=by simp
         have z3:(0:Int).toNat=0:=rfl;simp only[As,DD,bQ,l1,z0,z1,z2,z3,g0,p9,qw,i2,i3,tS,s1,m1,m2,w1];simp[aL]
       . have l1:¬ (1:Int)<(([encR S[i].r]:List AV).length:Int):=by simp
         simp only[As,DD,zV,zW,l1,zm,bE,aH]
    simp only[Ar,HK,HA,ur,bQ,i1,i2,i3,a5,tS,d1,ac]
def Z0(l:List Fc)(h:pi l)(hl:l.length<=262144):∃G:List fx,uK (l.map encF)=some (G.map aL)/\rC l (G.map (·.1))/\(∀g,g∈G->aJ (λ t=>((cnt l g.1 t:Nat):Int)) 1099511627776 g.2/\g.2.length<=2*l.length+1)/\G.length<=l.length:=by obtain⟨S,e1,p1,s1⟩:=xCE 99 l (Nat.le_trans h.1 (Nat.le_trans (show 1048576<=2 ^ 20 by omega) (Nat.pow_le_pow_right Ω Ω))) h;have q:=p1.length_eq;obtain⟨G,e2,hG⟩:=xzM S Ω (λ f hf=>h.2 f (p1.mem_iff.1 hf)) s1 S.length 0 [] Ω Ω ⟨List.Pairwise.nil,λ r=>by simp,λ g hg=>by simp at hg,zd _,λ a b ha hb h1 h2=>by omega⟩;refine⟨G,?_,⟨hG.st,λ r=>?_⟩,λ g hg=>?_,by rw[<-q];exact hG.len⟩;have e1:rd 100 (l.map encF)=some (S.map encF):=e1;have e2:aB (Ar (S.map encF)) ((0:Nat),(0:Int),[])=_:=e2;have tt:List.take G.length (G.map aL)=G.map aL:=zi Ψ;unfold uK Pu;simp only[DZ,OO,e1,e2,zk,zh,aW,zH,za,zd,zn,zS,zr,tt,aH];rw[hG.mem,y6];constructor;rintro⟨f,hf,e⟩;exact⟨f,p1.mem_iff.1 hf,e⟩;rintro⟨f,hf,e⟩;exact⟨f,p1.mem_iff.2 hf,e⟩;(obtain⟨x1,x2⟩:=hG.ps g hg;have e:(λ t=>((cnt S g.1 t:Nat):Int))=λ t=>((cnt l g.1 t:Nat):Int):=funext λ t=>by rw[TU p1]);rw[e]at x1;exact⟨x1,by omega⟩
def JE(row:Row)(P:List aF)(hP:P.length<=1048576):tv (row.map encV) (P.map aA)=some ((mk row P).map encF):=by have e:=xtN row P hP;rw[MT (λ p:aF=>(⟨row,p⟩:Fc)) P]at e;have e:aB (xp (row.map encV) (P.map aA)) ((0:Nat),(0:Int),[])=some ((mk row P).length,(mk row P).map encF):=e;generalize mk row P=D at e;have tt:List.take D.length (D.map encF)=D.map encF:=zi Ψ;unfold tv Pt;simp only[DY,e,zk,zh,aW,zH,za,zd,zn,zS,zr,tt,aH]
def SX(g:fx):cX (Sh.list 3) ((aL g).cells.getD 0 .top):=rfl
def SY(g:fx):cX (Sh.list 2) ((aL g).cells.getD 1 .top):=rfl
variable {m:Nat}
def Wv{n:Nat}(h:n<=1048576*1024)(hm:m<=1048576):(n+m)*40<=140737488355328/\n+m<=4611686018427387904:=Ω
def xIi(G:List fx)(hG:G.length<=1024)(L:Row->List aF)(hL:∀g,g∈G->mW (g.2.map aA)=some ((L g.1).map aA)/\(L g.1).length<=1048576):aB (Bj (G.map aL)) ((0:Nat),(0:Int),[])=some ((cE (G.map (·.1)) L).length,(cE (G.map (·.1)) L).map encF):=by
 rw[<-Kq];refine vt G (λ g=>mk g.1 (L g.1)) encF 1048576 (λ g hg=>by unfold mk;rw[za];exact(hL g hg).2) (λ n h D hD=>?_) (λ D=>?_);have i1:(n:Int)<(G.length:Int):=Ω
 have gf:(G.map aL).getD n .top=aL G[n]:=cQ _ _ _ h;obtain⟨e1,e2⟩:=hL _ (zo h);have ed:=JE G[n].1 (L G[n].1) e2;have ml:(mk G[n].1 (L G[n].1)).length<=1048576:=by unfold mk;rw[za];exact e2
 have q:D.length<=1048576*1024:=Nat.le_trans hD (Nat.mul_le_mul_left _ Ω);obtain⟨m1,m2⟩:=Wv q ml;simp only[Bj,I3,HY,bQ,h,i1,gf,FR,FT,SX,SY,e1,ed,m1,m2,dO (n:=n) Ω,z8,zx];simp only[Bj,I3,za,zy,zm,bE,aH]
def xIj(G:List fx)(hG:G.length<=1024)(L:Row->List aF)(hL:∀g,g∈G->mM (g.2.map aA) 1=some ((L g.1).map aA)/\(L g.1).length<=1048576):aB (Bk (G.map aL)) ((0:Nat),(0:Int),[])=some ((cE (G.map (·.1)) L).length,(cE (G.map (·.1)) L).map encF):=by
 rw[<-Kq];refine vt G (λ g=>mk g.1 (L g.1)) encF 1048576 (λ g hg=>by unfold mk;rw[za];exact(hL g hg).2) (λ n h D hD=>?_) (λ D=>?_);have i1:(n:Int)<(G.length:Int):=Ω
 have gf:(G.map aL).getD n .top=aL G[n]:=cQ _ _ _ h;obtain⟨e1,e2⟩:=hL _ (zo h);have ed:=JE G[n].1 (L G[n].1) e2;have ml:(mk G[n].1 (L G[n].1)).length<=1048576:=by unfold mk;rw[za];exact e2
 have q:D.length<=1048576*1024:=Nat.le_trans hD (Nat.mul_le_mul_left _ Ω);obtain⟨m1,m2⟩:=Wv q ml;simp only[Bk,I4,H3,ON,bQ,h,i1,gf,FR,FT,SX,SY,e1,ed,m1,m2,dO (n:=n) Ω,z8,zx];simp only[Bk,I4,za,zy,zm,bE,aH]
def FH(l:List Fc)(r:Row)(t:Int):cnt l r t<=l.length:=List.countP_le_length
def Ky(l:List Fc)(r:Row)(t:Int)(h:t<0\/1099511627776<=t):cnt l r t=0:=by rw[<-Cl];exact Ko _ t h
def xJK(l:List Fc)(h:pi l)(hl:l.length<=1024):∃B,J2 (l.map encF)=some (B.map encF)/\mH l B:=by
 obtain⟨G,e1,hR,hS,O⟩:=Z0 l h Ω;have lv:∀g,g∈G->∃P,mW (g.2.map aA)=some (P.map aA)/\bA (cnt l g.1) P:=λ g hg=>by obtain⟨s1,s2⟩:=hS g hg;exact Z3 (N:=cnt l g.1) (H:=l.length) Ω (FH l g.1) (Ky l g.1) s1 Ω
 obtain⟨L,hL⟩:=vk (R:=G.map (·.1)) (Q:=λ r P=>(∀g,g∈G->g.1=r->mW (g.2.map aA)=some (P.map aA))/\bA (cnt l r) P) λ r hr=>by obtain⟨g,hg,rfl⟩:=zK.1 hr;obtain⟨P,p1,p2⟩:=lv g hg;refine⟨P,λ g' J e=>?_,p2⟩;obtain⟨P',q1,q2⟩:=lv g' J;rw[e]at q2;rw[q1,q2.unique p2]
 have hk:∀g,g∈G->g.1∈G.map (·.1):=λ g hg=>zK.2 ⟨g,hg,rfl⟩;have q:∀g,g∈G->(L g.1).length<=1048576:=λ g hg=>by have a:=(hL g.1 (hk g hg)).2;rw[<-VM]at a;have b:=KU l g.1;exact Nat.le_trans a.len (Nat.mul_le_mul (Nat.le_trans b hl) (Nat.le_trans b hl))
 have e2:=xIi G Ω L λ g hg=>⟨(hL g.1 (hk g hg)).1 g hg rfl,q g hg⟩;refine⟨cE (G.map (·.1)) L,?_,G.map (·.1),L,hR,λ r hr=>(hL r hr).2,rfl⟩;generalize cE (G.map (·.1)) L=F at e2;have tt:List.take F.length (F.map encF)=F.map encF:=zi Ψ;unfold J2 Qu;simp only[Ey,e1,e2,zk,zh,aW,zH,za,zd,zn,zS,zr,tt,aH]
def xJP(l:List Fc)(h:pi l)(hl:l.length<=1024):∃B,J3 (l.map encF)=some (B.map encF)/\mS l B:=by
 obtain⟨G,e1,hR,hS,J⟩:=Z0 l h Ω;have lv:∀g,g∈G->∃P,mM (g.2.map aA) 1=some (P.map aA)/\(aZ P/\∀t,inL P t=decide (0<cnt l g.1 t))/\P.length<=1048576:=λ g hg=>by obtain⟨s1,s2⟩:=hS g hg;obtain⟨P,p1,p2,p3⟩:=Vi (N:=cnt l g.1) (Ky l g.1) s1 Ω 0;exact⟨P,p1,p2,by omega⟩
 obtain⟨L,hL⟩:=vk (R:=G.map (·.1)) (Q:=λ r P=>(∀g,g∈G->g.1=r->mM (g.2.map aA) 1=some (P.map aA))/\(aZ P/\∀t,inL P t=decide (0<cnt l r t))/\P.length<=1048576) λ r hr=>by obtain⟨g,hg,rfl⟩:=zK.1 hr;obtain⟨P,p1,p2,p3⟩:=lv g hg;refine⟨P,λ g' q e=>?_,p2,p3⟩;obtain⟨P',q1,q2,_⟩:=lv g' q;rw[e]at q2;rw[q1,EN q2.1 p2.1 λ t=>by rw[q2.2,p2.2]]
 have hk:∀g,g∈G->g.1∈G.map (·.1):=λ g hg=>zK.2 ⟨g,hg,rfl⟩;have e2:=xIj G Ω L λ g hg=>⟨(hL g.1 (hk g hg)).1 g hg rfl,(hL g.1 (hk g hg)).2.2⟩;refine⟨cE (G.map (·.1)) L,?_,G.map (·.1),L,hR,λ r hr=>(hL r hr).2.1,rfl⟩;generalize cE (G.map (·.1)) L=F at e2;have tt:List.take F.length (F.map encF)=F.map encF:=zi Ψ;unfold J3 Qv;simp only[Ez,e1,e2,zk,zh,aW,zH,za,zd,zn,zS,zr,tt,aH]
def xIo{B:List Fc}(h:B.length<=1048576)(hr:∀f,f∈B->f.r.length<=60):qZ (B.map encF) (B.map encF)=some true:=by have:=Ta B B h (λ f hf=>by have:=hr f hf;unfold maxLen;omega);rwa [decide_eq_true rfl]at this
variable {N:Int->Int}
def aJ.at{T:Int}(h:aJ N T S)(hi:i<S.length):∀(d:Nat)(t:Int),t=S[i].1+d->t<T->(∀j(hj:j<S.length),i<j->t<S[j].1)->N t=S[i].2
 |0,t,ht,hT,_=>by
  have:=(h.mem S[i]).1 (zo hi);rw[ht,this.2.2.1];simp
 |d+1,t,ht,hT,hn=>by
  have ih:=h.at hi d (t - 1) (by omega) (by omega) (λ j hj q=>by have:=hn j hj q;omega)
  by_cases hc:N (t - 1)=N t
  . rw[<-hc,ih]
  . exfalso;have h0:=((h.mem S[i]).1 (zo hi)).1;have hm:(t,N t)∈S:=(h.mem (t,N t)).2 ⟨by simp only;omega,hT,rfl,.inr hc⟩
    obtain⟨j,hj,J⟩:=List.getElem_of_mem hm;have e1:S[j].1=t:=by rw[J]
    have q:i<j:=by
     rcases zJ i j with h'|h'
     . exact h'
     . exfalso;rcases zJ j i with h2|h2
       . have:=zB.1 h.asc j i hj hi h2;omega
       . have:i=j:=by omega
         subst this;omega
    have:=hn j hj q;omega
def aJ.first(h:aJ N 1099511627776 S):∃hp:0<S.length,S[0].1=0:=by have hm:((0:Int),N 0)∈S:=(h.mem (0,N 0)).2 ⟨by simp,by simp,rfl,.inl rfl⟩;(obtain⟨j,hj,q⟩:=List.getElem_of_mem hm;have e1:S[j].1=0:=by rw[q]);refine⟨by omega,?_⟩;have h0:=((h.mem S[0]).1 (zo Ω)).1;rcases Nat.eq_zero_or_pos j with rfl|hp;exact e1;have:=zB.1 h.asc 0 j Ω hj hp;omega
def CK(y:Int):rZ y=false:=by unfold rZ;simp
def CC(x y:Int):decide (pF x y<0)=decide (x<y)/\(pF x y==0)=decide (x=y):=by
 unfold pF;rw[CK,CK];simp only[bE,aH];by_cases h1:x<y;have h2:¬ x=y:=Ω
 simp[h1,h2,aW,aH];by_cases h3:x>y;have h2:¬ x=y:=Ω
 have h3':y<x:=h3;simp[h1,h2,h3',aW,bE,aH];have h2:x=y:=Ω
 subst h2;simp[aW,bE,aH]
def gS{k:Nat}(h:k<S.length):(S.map aA).getD k .top=aA S[k]:=cQ _ _ _ h
def xHq(S:List aF)(x:Int)(hn:S.length<=1048576)(h:S.Pairwise λ a b=>a.1<b.1):∃a:Nat,aB (rL (S.map aA) x ((S.length:Nat):Int)) ((0:Int),((S.length:Nat):Int))=some ((a:Nat):Int)/\a<=S.length/\(∀k(hk:k<S.length),k<a->S[k].1<x)/\∀k(hk:k<S.length),a<=k->x<=S[k].1:=by
 have O:=zB.1 h;obtain⟨r,h1,a,rfl,h2,h3,h4⟩:=Kt (step:=rL (S.map aA) x ((S.length:Nat):Int)) (λ s=>∃a b:Nat,s=((a:Int),(b:Int))/\a<=b/\b<=S.length/\(∀k(hk:k<S.length),k<a->S[k].1<x)/\∀k(hk:k<S.length),b<=k->x<=S[k].1) (λ s=>(s.2 - s.1).toNat)
  (fun r=>∃ a:Nat,r=(a:Int)/\a<=S.length/\(∀ k (hk:k<S.length),k<a->S[k].1<x)/\∀ k (hk:k<S.length),a<=k->x<=S[k].1) (fun s hs=>by
   obtain⟨a,b,rfl,aa,hb,V,Q⟩:=hs;by_cases Z:a<b
   . left;have e:=MS (i:=a) (j:=b) Ω
     have hm:(a+b) / 2<S.length:=Ω
     have g1:(a:Int)<(b:Int):=Ω
     have g2:(((a+b) / 2:Nat):Int)<(S.length:Int):=Ω
     have w:IntKind.i64.wrap ((((a+b) / 2:Nat):Int)+1)=(((a+b) / 2+1:Nat):Int):=dO Ω
     have J:=(CC S[(a+b) / 2].1 x).1;cases hc:decide (S[(a+b) / 2].1<x)with
     | true=>
      rw[hc]at J;refine⟨((((a+b) / 2+1:Nat):Int),(b:Int)),?_,⟨(a+b) / 2+1,b,rfl,by omega,hb,λ k hk Y=>?_,Q⟩,by dsimp only;omega⟩
      . simp only[rL,yR,yP,ul,yb,e,bQ,g1,g2,hm,gS hm,fZ,f7,lP,sP,f8,ga,J,w]
      . have hc':=of_decide_eq_true hc;rcases zJ k ((a+b) / 2)with q|q
        . have:=O k _ hk hm q;omega
        . have:k=(a+b) / 2:=Ω
          subst this;exact hc'
     | false=>
      rw[hc]at J;refine⟨((a:Int),(((a+b) / 2:Nat):Int)),?_,⟨a,(a+b) / 2,rfl,by omega,by omega,V,λ k hk W=>?_⟩,by dsimp only;omega⟩
      . simp only[rL,yR,yP,ul,yb,e,bQ,g1,g2,hm,gS hm,fZ,f7,lP,sP,f8,ga,J,w]
      . have hc':=of_decide_eq_false hc;rcases zJ ((a+b) / 2) k with q|q
        . have:=O _ k hm hk q;omega
        . have:k=(a+b) / 2:=Ω
          subst this;omega
   . right;obtain rfl:a=b:=Ω
     refine ⟨(a:Int),?_,a,rfl,hb,V,Q⟩;simp only [rL,yR,zy,zm,bE,aH]) ((0:Int),((S.length:Nat):Int)) ⟨0,S.length,rfl,by omega,by omega,fun k hk Y=>by omega,fun k hk W=>by omega⟩
 exact⟨a,h1,h2,h3,h4⟩
def FM(h:aJ N 1099511627776 S)(hl:S.length<=1048576)(h0:0<=t)(h1:t<1099511627776):kQ (S.map aA) t=some (N t):=by
 obtain⟨a,e1,ha,V,Y⟩:=xHq S t hl h.asc;obtain⟨hp,W⟩:=h.first;have Q:=zB.1 h.asc;have key:∃i:Nat,∃hi:i<S.length,ri (S.map aA) t=some (i:Int)/\S[i].1<=t/\∀j(hj:j<S.length),i<j->t<S[j].1:=by unfold ri Jh;unfold Ag Gx;simp only[Al,sR,za,e1,zk,zh,aW,zN,aH];rcases zJ a S.length with q|ac;(have g1:(a:Int)<(S.length:Int):=Ω);have J:=(CC S[a].1 t).2;by_cases he:S[a].1=t;rw[decide_eq_true he]at J;refine⟨a,q,?_,by omega,λ j hj O=>by have:=Q a j q hj O;omega⟩;simp only[g1,q,gS q,bQ,fZ,f7,lP,sP,f8,ga,yb,J];(rw[decide_eq_false he]at J;have aa:=Y a q (zd a);have ab:0<a:=by rcases Nat.eq_zero_or_pos a with rfl|h';omega;exact h');obtain⟨m,rfl⟩:∃m,a=m+1:=⟨a - 1,by omega⟩;refine⟨m,by omega,?_,by have:=V m Ω Ω;omega,λ j hj O=>?_⟩;(have w:IntKind.i64.wrap (((m+1:Nat):Int) - 1)=(m:Int):=by rw[il Ω Ω];omega);simp only[g1,q,gS q,bQ,fZ,f7,lP,sP,f8,ga,yb,J,w];rcases zJ (m+1) j with h'|h';have:=Q (m+1) j q hj h';omega;(have:j=m+1:=Ω);subst this;omega;(have g1:¬ (a:Int)<(S.length:Int):=Ω);obtain⟨m,rfl⟩:∃m,a=m+1:=⟨a - 1,by omega⟩;refine⟨m,by omega,?_,by have:=V m Ω Ω;omega,λ j hj O=>by omega⟩;(have w:IntKind.i64.wrap (((m+1:Nat):Int) - 1)=(m:Int):=by rw[il Ω Ω];omega);simp only[g1,zm,bE,zk,zh,aW,w,aH]
 obtain⟨i,hi,e2,ad,Z⟩:=key;have hv:N t=S[i].2:=h.at hi (t - S[i].1).toNat t Ω h1 Z;have g0:¬ t<0:=Ω
 have g1:¬ t>=1099511627776:=Ω
 have g2:¬ ((i:Nat):Int)<0:=Ω
 have g3:(i:Int)<(S.length:Int):=Ω
 unfold kQ JI;simp only[g0,g1,g2,g3,e2,gS hi,hi,bQ,fZ,f7,lP,sP,f8,ga,hv]
def nM(D:List Int)(n:Int):List Int:=match D.getLast? with|some d=>if d=n then D else D++[n]|none=>D++[n]
theorem Rx(n:Int):nM [] n=[n]:=rfl
theorem QP(D:List Int)(d n:Int):nM (D++[d]) n=if d=n then D++[d]else D++[d]++[n]:=by simp[nM]
theorem xz7(D:List Int)(n:Int):(nM D n).length<=D.length+1:=by unfold nM;split;split<;>simp;simp
variable {D:List Int}
theorem JZ{n x:Int}:x∈nM D n↔x∈D\/x=n:=by rcases List.eq_nil_or_concat D with rfl|⟨D',d,rfl⟩;simp[Rx];rw[List.concat_eq_append,QP];split;rename_i h;subst h;simp;simp[or_assoc]
theorem xz6{n:Int}(h:nf D)(hn:∀x,x∈D->x<=n):nf (nM D n):=by rcases List.eq_nil_or_concat D with rfl|⟨D',d,rfl⟩;simp[Rx];rw[List.concat_eq_append]at h hn|-;rw[QP];split;exact h;rename_i hne;refine List.pairwise_append.2 ⟨h,by simp,λ x hx y hy=>?_⟩;simp only[zv]at hy;subst hy;have hd:=hn d Ψ;rcases zG.1 hx with hx|hx;have:=(List.pairwise_append.1 h).2.2 x hx d Ψ;omega;simp only[zv]at hx;subst hx;omega
theorem gD{d:Int}:((D++[d]).map encN).getD D.length .top=encN d:=by simp[z7]
theorem Uz{T:Type}{δ:T}(κ:Nat->List AV->T)(D:List Int)(hD:D.length<=1099511627776)(n:Int):br ((↑D.length:Int)==(0:Int)) (br (D.length==(D.map encN).length&&(decide ((D.length+(1:Nat))*(8:Nat)<=(140737488355328:Nat))&&decide (D.length+(1:Nat)<=(4611686018427387904:Nat)))) (κ (D.length+1) (D.map encN++[AV.int IntKind.i64 n])) δ) (br (decide ((0:Int)<=IntKind.i64.wrap ((↑D.length:Int) - (1:Int)))&&decide (IntKind.i64.wrap ((↑D.length:Int) - (1:Int))<(↑D.length:Int))) (br (decide ((0:Nat)+(IntKind.i64.wrap ((↑D.length:Int) - (1:Int))).toNat<(D.map encN).length)&&cX (Sh.int IntKind.i64) (((D.map encN).getD ((0:Nat)+(IntKind.i64.wrap ((↑D.length:Int) - (1:Int))).toNat) AV.top).cells.getD (0:Nat) AV.top)) (br ((((D.map encN).getD ((0:Nat)+(IntKind.i64.wrap ((↑D.length:Int) - (1:Int))).toNat) AV.top).cells.getD (0:Nat) AV.top).toInt !=n) (br (D.length==(D.map encN).length&&(decide ((D.length+(1:Nat))*(8:Nat)<=(140737488355328:Nat))&&decide (D.length+(1:Nat)<=(4611686018427387904:Nat)))) (κ (D.length+1) (D.map encN++[AV.int IntKind.i64 n])) δ) (κ D.length (D.map encN))) δ) δ)=κ (nM D n).length ((nM D n).map encN):=by
 have c1:(D.length==(D.map encN).length&&(decide ((D.length+(1:Nat))*(8:Nat)<=(140737488355328:Nat))&&decide (D.length+(1:Nat)<=(4611686018427387904:Nat)))):=by simp only[za,beq_self_eq_true,Bool.true_and,zf,zl];omega
 rw[c1];rcases List.eq_nil_or_concat D with rfl|⟨D',d,rfl⟩;simp[aW,Rx,encN,aH];rw[List.concat_eq_append]at hD|-;have hl:(D'++[d]).length=D'.length+1:=by simp
 have w:IntKind.i64.wrap (((D'.length+1:Nat):Int) - 1)=(D'.length:Int):=by rw[il Ω Ω];omega
 have h0:(((D'.length+1:Nat):Int)==0)=false:=by simp;omega
 have g1:(D'.length:Int)<((D'.length+1:Nat):Int):=Ω
 have hs:cX (Sh.int IntKind.i64) ((encN d).cells.getD 0 .top):=rfl;have hi:((encN d).cells.getD 0 .top).toInt=d:=rfl;rw[QP,hl,h0,w];simp only[zN,zH,gD,hs,hi,g1,za,hl,Int.natCast_nonneg,zn,zS,Bool.true_and,bE,aW,Nat.lt_succ_self,aH];by_cases hd:d=n;subst hd;simp[bE,aH];have:(d !=n):=by simpa using hd
 rw[this,if_neg hd];simp[aW,encN,aH]
section
variable{S T:List aF}{i k:Nat}
theorem mv7(h:i<S.length):HV (S.map aA) (i:Int):=by(unfold HV;have:(i:Int)<(S.length:Int):=Ω);simp[this,aW,aH]
theorem mv6(h:i<S.length):HU (S.map aA) (i:Int):=by(unfold HU;have:(i:Int)<(S.length:Int):=Ω);simp[this,aW,aH]
theorem mv3(h:i<S.length):HT (S.map aA) (i:Int):=by unfold HT;simp only[gS h,h,bQ,fZ,f7,lP,sP,f8,ga]
theorem mv2(h:i<S.length):HS (S.map aA) (i:Int):=by unfold HS;simp only[gS h,h,bQ,fZ,f7,lP,sP,f8,ga]
theorem sD(h:i<S.length):DK (S.map aA) (i:Int)=S[i].1:=by unfold DK EY;simp only[gS h,bQ,fZ,f7,lP,sP,f8,ga]
theorem sB(h:i<S.length):DJ (S.map aA) (i:Int)=S[i].1:=by unfold DJ EY;simp only[gS h,bQ,fZ,f7,lP,sP,f8,ga]
theorem xLZ(hi:i<S.length)(hS:S.length<=1048576)(D:List Int)(hD:D.length<=1099511627776)(hk:k<=T.length)(h:∀hk:k<T.length,S[i].1<=T[k].1):sW (S.map aA) (T.map aA) (D.length,(i:Int),(k:Int),D.map encN)=some (.inl ((nM D S[i].1).length,((i+1:Nat):Int),(k:Int),(nM D S[i].1).map encN)):=by
 have hw:IntKind.i64.wrap ((i:Int)+1)=((i+1:Nat):Int):=dO Ω;have hb:=Uz (T:=Option ((Nat×Int×Int×List AV)⊕(Nat×List AV))) (δ:=none) (λ m out=>some (.inl (m,((i+1:Nat):Int),(k:Int),out))) D hD S[i].1;have c1:decide ((i:Int)<((S.map aA).length:Int)):=by simp;omega
 unfold sW DT Dq DF DG DH DI;dsimp only;rw[c1];simp only[aW,aH];rcases zJ k T.length with q|J;have c2:((k:Int)==((T.map aA).length:Int))=false:=by simp;omega
 have c8:DE (S.map aA) (T.map aA) (i:Int) (k:Int):=by unfold DE;rw[sD hi,sB q];exact decide_eq_true (h q)
 rw[c2];simp only[aW,bE,aH];rw[mv7 hi,mv3 hi,mv6 q,mv2 q,c8];simp only[aW,aH];unfold Ok;rw[sD hi,hw];exact hb;have c2:((k:Int)==((T.map aA).length:Int)):=by simp;omega
 rw[c2];simp only[aW,aH];rw[mv7 hi,mv3 hi];simp only[aW,aH];unfold Ok;rw[sD hi,hw];exact hb
theorem xLx(hk:k<T.length)(hT:T.length<=1048576)(D:List Int)(hD:D.length<=1099511627776)(hi:i<=S.length)(h:∀hi:i<S.length,T[k].1<S[i].1):sW (S.map aA) (T.map aA) (D.length,(i:Int),(k:Int),D.map encN)=some (.inl ((nM D T[k].1).length,(i:Int),((k+1:Nat):Int),(nM D T[k].1).map encN)):=by
 have hw:IntKind.i64.wrap ((k:Int)+1)=((k+1:Nat):Int):=dO Ω;have hb:=Uz (T:=Option ((Nat×Int×Int×List AV)⊕(Nat×List AV))) (δ:=none) (λ m out=>some (.inl (m,(i:Int),((k+1:Nat):Int),out))) D hD T[k].1;have c2:((k:Int)==((T.map aA).length:Int))=false:=by simp;omega
 have c3:decide ((k:Int)<((T.map aA).length:Int)):=by simp;omega
 unfold sW DT Dq DF DG DH DI;dsimp only;rcases zJ i S.length with q|J;have c1:decide ((i:Int)<((S.map aA).length:Int)):=by simp;omega
 have c8:DE (S.map aA) (T.map aA) (i:Int) (k:Int)=false:=by unfold DE;rw[sD q,sB hk];exact decide_eq_false (by have:=h q;omega)
 rw[c1,c2];simp only[aW,bE,aH];rw[mv7 q,mv3 q,mv6 hk,mv2 hk,c8];simp only[aW,bE,aH];unfold Ol;rw[sB hk,hw];exact hb;have c1:decide ((i:Int)<((S.map aA).length:Int))=false:=by simp;omega
 rw[c1];simp only[bE,aH];rw[c3];simp only[aW,aH];try rw[c2]
 try simp only[aW,bE,aH]
 try rw[c1]
 try simp only[aW,bE,aH]
 rw[mv6 hk,mv2 hk];simp only[aW,aH];unfold Ol;rw[sB hk,hw];exact hb
theorem xIy(D:List Int):sW (S.map aA) (T.map aA) (D.length,(S.length:Int),(T.length:Int),D.map encN)=some (.inr (D.length,D.map encN)):=by(have c1:decide ((S.length:Int)<((S.map aA).length:Int))=false:=by simp);(have c3:decide ((T.length:Int)<((T.map aA).length:Int))=false:=by simp);unfold sW DT Dq DF DG DH DI;dsimp only;rw[c1];simp only[bE,aH];rw[c3];simp only[bE,aH]
end
theorem xHx(S T:List aF)(hS:S.length<=1048576)(hT:T.length<=1048576)(aS:S.Pairwise λ a b=>a.1<b.1)(aT:T.Pairwise λ a b=>a.1<b.1):∃D:List Int,nS (S.map aA) (T.map aA)=some (D.map encN)/\nf D/\(∀x,x∈D↔(∃s,s∈S/\s.1=x)\/∃s,s∈T/\s.1=x)/\D.length<=S.length+T.length:=by
 have pS:=zB.1 aS;have pT:=zB.1 aT;obtain⟨r,h1,D,rfl,h2,h3,h4⟩:=Kt (step:=sW (S.map aA) (T.map aA)) (λ s=>∃(i k:Nat)(D:List Int),s=(D.length,(i:Int),(k:Int),D.map encN)/\i<=S.length/\k<=T.length/\nf D/\(∀x,x∈D↔(∃j,∃hj:j<S.length,j<i/\S[j].1=x)\/∃j,∃hj:j<T.length,j<k/\T[j].1=x)/\(∀x,x∈D->(∀h:i<S.length,x<=S[i].1)/\∀h:k<T.length,x<=T[k].1)/\D.length<=i+k) (λ s=>((S.length:Int) - s.2.1+((T.length:Int) - s.2.2.1)).toNat)
  (fun r=>∃ D:List Int,r=(D.length,D.map encN)/\nf D/\(∀ x,x∈D↔(∃ s,s∈S/\s.1=x)\/∃ s,s∈T/\s.1=x)/\D.length<=S.length+T.length) (fun s hs=>by
   obtain⟨i,k,D,rfl,hi,hk,hA,hm,Q,hl⟩:=hs;by_cases V:∃h:i<S.length,∀hk:k<T.length,S[i].1<=T[k].1
   . obtain⟨O,q⟩:=V;left;refine⟨_,xLZ O hS D Ω hk q,⟨i+1,k,nM D S[i].1,rfl,O,hk,xz6 hA λ x hx=>(Q x hx).1 O,λ x=>?_,λ x hx=>?_,by have:=xz7 D S[i].1;omega⟩,by dsimp only;omega⟩
     . rw[JZ,hm];constructor
       . rintro((⟨j,hj,W,e⟩|h)|rfl)
         . exact .inl ⟨j,hj,by omega,e⟩
         . exact .inr h
         . exact .inl ⟨i,O,by omega,rfl⟩
       . rintro(⟨j,hj,W,e⟩|h)
         . rcases zJ j i with h'|h'
           . exact .inl (.inl ⟨j,hj,h',e⟩)
           . have:j=i:=Ω
             subst this;exact .inr e.symm
         . exact .inl (.inr h)
     . have Y:x<=S[i].1:=by
        rcases JZ.1 hx with h|rfl
        . exact(Q x h).1 O
        . omega
       exact⟨λ h=>by have:=pS i (i+1) O h Ω;omega,λ h=>by have:=q h;omega⟩
   . by_cases J:k<T.length
     . left;have q:∀hi:i<S.length,T[k].1<S[i].1:=λ h=>by
        rcases Int.lt_or_le T[k].1 S[i].1 with h'|h'
        . exact h'
        . exact absurd ⟨h,λ _=>h'⟩ V
       refine⟨_,xLx J hT D Ω hi q,⟨i,k+1,nM D T[k].1,rfl,hi,J,xz6 hA λ x hx=>(Q x hx).2 J,λ x=>?_,λ x hx=>?_,by have:=xz7 D T[k].1;omega⟩,by dsimp only;omega⟩
       . rw[JZ,hm];constructor
         . rintro((h|⟨j,hj,W,e⟩)|rfl)
           . exact .inl h
           . exact .inr ⟨j,hj,by omega,e⟩
           . exact .inr ⟨k,J,by omega,rfl⟩
         . rintro(h|⟨j,hj,W,e⟩)
           . exact .inl (.inl h)
           . rcases zJ j k with h'|h'
             . exact .inl (.inr ⟨j,hj,h',e⟩)
             . have:j=k:=Ω
               subst this;exact .inr e.symm
       . have Y:x<=T[k].1:=by
          rcases JZ.1 hx with h|rfl
          . exact(Q x h).2 J
          . omega
         exact⟨λ h=>by have:=q h;omega,λ h=>by have:=pT k (k+1) J h Ω;omega⟩
     . right;have aa:i=S.length:=by
        rcases zJ i S.length with h'|h'
        . exact absurd ⟨h',λ h=>absurd h J⟩ V
        . omega
       have Z:k=T.length:=Ω
       subst aa Z;refine⟨_,xIy D,D,rfl,hA,λ x=>?_,hl⟩
       rw[hm];constructor
       . rintro(⟨j,hj,_,e⟩|⟨j,hj,_,e⟩)
         . exact .inl ⟨S[j],zo hj,e⟩
         . exact .inr ⟨T[j],zo hj,e⟩
       . rintro(⟨s,hs,e⟩|⟨s,hs,e⟩)
         . obtain⟨j,hj,rfl⟩:=List.getElem_of_mem hs;exact .inl ⟨j,hj,hj,e⟩
         . obtain ⟨j,hj,rfl⟩:=List.getElem_of_mem hs;exact .inr ⟨j,hj,hj,e⟩) ((0:Nat),(0:Int),(0:Int),[]) ⟨0,0,[],rfl,zQ _,zQ _,List.Pairwise.nil,fun x=>by simp,fun x hx=>by simp at hx,zd _⟩
 refine⟨D,?_,h2,h3,h4⟩;unfold nS Pz BG;rw[h1];simp[aW,zi,aH]
def mI(N:Int->Int)(S:List aF):Prop:=aJ N 1099511627776 S\/(S=[]/\∀t,N t=0)
def mI.asc(h:mI N S):S.Pairwise λ a b=>a.1<b.1:=by rcases h with h|⟨rfl,_⟩;exact h.asc;exact List.Pairwise.nil
def xKO(t:Int)(h0:0<=t)(h1:t<1099511627776):kQ [] t=some 0:=by
 have e1:aB (rL [] t (([]:List AV).length:Int)) ((0:Int),(([]:List AV).length:Int))=some 0:=cR (by
  simp [rL,yR,bE,aH])
 have e2:ri [] t=some (-1):=by unfold ri Jh Ag Gx;simp only[Al,sR,e1,aH];simp[aW,bE,aH];rw[il Ω Ω]
 have g0:¬ t<0:=Ω
 have g1:¬ t>=1099511627776:=Ω
 unfold kQ JI;simp[g0,g1,e2,aW,bE,aH]
def mI.at(h:mI N S)(hl:S.length<=1048576)(h0:0<=t)(h1:t<1099511627776):kQ (S.map aA) t=some (N t):=by rcases h with h|⟨rfl,hz⟩;exact FM h hl h0 h1;rw[hz];exact xKO t h0 h1
def mI.chg(h:mI N S)(h0:0<t)(h1:t<1099511627776)(hc:N (t - 1)≠N t):∃s,s∈S/\s.1=t:=by rcases h with h|⟨rfl,hz⟩;exact⟨(t,N t),(h.mem (t,N t)).2 ⟨by simp only;omega,h1,rfl,.inr hc⟩,rfl⟩;rw[hz,hz]at hc;exact absurd rfl hc
def mI.rng(h:mI N S){s:aF}(hs:s∈S):0<=s.1/\s.1<1099511627776:=by rcases h with h|⟨rfl,_⟩;have:=(h.mem s).1 hs;exact⟨this.1,this.2.1⟩;simp at hs
variable {F:Int->Int}
def RD:∀(D:List Int),nf D->∀(T:Int)(S:List aF),aJ F T S->(0<T->∀x,x∈D->T<=x)->0<=T->(T=0->(∃x,D.head?=some x/\x=0)\/D=[])->(∀x,x∈D->x<1099511627776)->(∀t,T<=t->0<t->t<1099511627776->F (t - 1)≠F t->t∈D)->(D=[]->0<T)->T<=1099511627776->
  aJ F 1099511627776 (D.foldl (λ S x=>cA S x (F x)) S)
 |[],_,T,S,hS,_,_,_,_,hch,hne,hT=>by
  have q:=hne rfl;simp only[List.foldl_nil];rcases Int.lt_or_le T 1099511627776 with Q|ab
  . have hc:∀d:Nat,T+d<=1099511627776 - 1->F (T+d)=F (T - 1):=by
     intro d;induction d with
     |zero=>
      intro h;have h2:¬ F (T - 1)≠F T:=λ hx=>by have:=hch T (Int.le_refl T) q Q hx;simp at this
      simp only[ne_eq,Decidable.not_not]at h2;simp[h2]
     |succ d ih=>
      intro h;have ih:=ih (by omega)
      have h2:¬ F (T+(d+1:Nat) - 1)≠F (T+(d+1:Nat)):=λ hx=>by have:=hch (T+(d+1:Nat)) (by omega) (by omega) (by omega) hx;simp at this
      simp only[ne_eq,Decidable.not_not]at h2;rw[<-h2,show T+((d+1:Nat):Int) - 1=T+d by omega,ih]
    have hF:∀t,T - 1<=t->t<1099511627776->F t=F (T - 1):=λ t h1 h2=>by
     rcases Int.lt_or_le t T with h3|h3
     . rw[show t=T - 1 by omega]
     . have:=hc (t - T).toNat (by omega)
       rw[show T+((t - T).toNat:Int)=t by omega]at this
       exact this
    refine⟨hS.asc,λ s=>?_,λ _=>?_⟩
    . rw[hS.mem];constructor
      . rintro⟨a,b,c,d⟩;exact⟨a,by omega,c,d⟩
      . rintro⟨a,b,c,d⟩;refine⟨a,?_,c,d⟩;rcases Int.lt_or_le s.1 T with h3|h3
        . exact h3
        . exfalso;rcases d with d|d
          . omega
          . have e1:=hF s.1 (by omega) b
            have e2:=hF (s.1 - 1) (by omega) (by omega)
            rw[c,e1]at d;exact d e2
    . obtain⟨S',f,hf⟩:=hS.last q;refine⟨S',f,?_⟩;rw[hF (1099511627776 - 1) (by omega) (by omega)]
      exact hf
  . have:T=1099511627776:=by omega
    rw[this]at hS;exact hS
 |x::D,hA,T,S,hS,hle,h0,hz,hx,hch,hne,hT=>by
  rw[List.foldl_cons];have Z:0<=x:=by
   rcases Int.lt_or_le 0 T with h|h
   . have:=hle h x (by simp);omega
   . have q:T=0:=by omega
     rcases hz q with⟨y,hy,rfl⟩|h'
     . simp at hy;omega
     . cases h'
  have ac:T<=x:=by
   rcases Int.lt_or_le 0 T with h|h
   . exact hle h x (by simp)
   . omega
  have Q:=hx x (by simp)
  have J:∀t,T<=t->0<t->t<x->F (t - 1)=F t:=λ t h1 h2 h3=>by
   have h4:¬ F (t - 1)≠F t:=λ hc=>by
    have hm:=hch t h1 h2 (by omega) hc
    rcases zC.1 hm with rfl|hm
    . omega
    . have:=(zM.1 hA).1 t hm;omega
   simpa using h4
  have Y:aJ F x S\/(x=0/\T=0):=by
   rcases Int.lt_or_le 0 T with V|aa
   . left;have hF:∀d:Nat,T+d<=x->F (T+d - 1)=F (T - 1):=by
      intro d;induction d with
      |zero=>intro _;simp
      |succ d ih=>
       intro h;have ih:=ih (by omega)
       have:=J (T+d) (by omega) (by omega) (by omega)
       rw[show T+((d+1:Nat):Int) - 1=T+d by omega,<-this,ih]
     have O:∀t,T - 1<=t->t<x->F t=F (T - 1):=λ t h1 h2=>by
      have:=hF (t+1 - T).toNat (by omega)
      rw[show T+((t+1 - T).toNat:Int) - 1=t by omega]at this
      exact this
     refine⟨hS.asc,λ s=>?_,λ _=>?_⟩
     . rw[hS.mem];constructor
       . rintro⟨a,b,c,d⟩;exact⟨a,by omega,c,d⟩
       . rintro⟨a,b,c,d⟩;refine⟨a,?_,c,d⟩;rcases Int.lt_or_le s.1 T with h3|h3
         . exact h3
         . exfalso;rcases d with d|d
           . omega
           . have e1:=O s.1 (by omega) b
             have e2:=O (s.1 - 1) (by omega) (by omega)
             rw[c,e1]at d;exact d e2
     . obtain⟨S',f,hf⟩:=hS.last V;refine⟨S',f,?_⟩;rw[O (x - 1) (by omega) (by omega)]
       exact hf
   . have q:T=0:=by omega
     rcases hz q with⟨y,hy,rfl⟩|h'
     . simp at hy;exact .inr ⟨by omega,q⟩
     . cases h'
  have W:aJ F (x+1) (cA S x (F x)):=by
   rcases Y with h|⟨h,q⟩
   . exact h.put Z (by omega) λ t h1 h2=>by rw[show t=x by omega]
   . subst h;rw[q]at hS;exact hS.put (Int.le_refl 0) (by omega) λ t h1 h2=>by rw[show t=0 by omega]
  exact RD D (zM.1 hA).2 (x+1) _ W (fun _ y hy=>by have:=(zM.1 hA).1 y hy;omega) (by omega) (fun h=>by omega) (fun y hy=>hx y (by simp [hy])) (fun t h1 h2 h3 hc=>by
   have hm:=hch t (by omega) h2 h3 hc
   rcases zC.1 hm with rfl|hm
   . omega
   . exact hm) (fun _=>by omega) (by omega)
def BN{F:Int->Int}:∀(D:List Int)(S:List aF),(D.foldl (λ S x=>cA S x (F x)) S).length<=S.length+D.length|[],S=>by simp|x::D,S=>by rw[List.foldl_cons];have h1:=BN (F:=F) D (cA S x (F x));have h2:=vA S x (F x);rw[zF];omega
variable {M:Int->Int}{T:List aF}
def JX(hS:aJ N 1099511627776 S)(hT:mI M T)(lS:S.length<=1048576)(lT:T.length<=1048576)(hF:∀t,F (t - 1)≠F t->N (t - 1)≠N t\/M (t - 1)≠M t):∃D:List Int,nS (S.map aA) (T.map aA)=some (D.map encN)/\D.length<=S.length+T.length/\(∀x,x∈D->0<=x/\x<1099511627776)/\aJ F 1099511627776 (D.foldl (λ S x=>cA S x (F x)) []):=by(obtain⟨D,h1,h2,h3,h4⟩:=xHx S T lS lT hS.asc hT.asc;have hr:∀x,x∈D->0<=x/\x<1099511627776:=λ x hx=>by rcases(h3 x).1 hx with⟨s,hs,rfl⟩|⟨s,hs,rfl⟩;have:=(hS.mem s).1 hs;exact⟨this.1,this.2.1⟩;exact hT.rng hs);obtain⟨hp,hf⟩:=hS.first;have h0:(0:Int)∈D:=(h3 0).2 (.inl ⟨S[0],zo hp,hf⟩);refine⟨D,h1,h4,hr,RD D h2 0 [] (.nil F) (λ h=>by omega) (Int.le_refl 0) (λ _=>.inl ?_) (λ x hx=>(hr x hx).2) (λ t ht J q hc=>?_) (λ h=>by rw[h]at h0;simp at h0) Ω⟩;(cases D with|nil=>simp at h0|cons x D=>refine⟨x,rfl,?_⟩;rcases zC.1 h0 with h|h;exact h.symm;have:=(zM.1 h2).1 0 h;have:=(hr x Ψ).1;omega);rcases hF t hc with h|h;exact(h3 t).2 (.inl ⟨(t,N t),(hS.mem (t,N t)).2 ⟨by simp only;omega,q,rfl,.inr h⟩,rfl⟩);obtain⟨s,hs,e⟩:=hT.chg J q h;exact(h3 t).2 (.inr ⟨s,hs,e⟩)
def Ul(hS:aJ N 1099511627776 S)(hT:mI M T)(lS:S.length<=1048576)(lT:T.length<=1048576)(hF:∀t,EV (N t) (M t)=F t)(D:List Int)(hD:∀x,x∈D->0<=x/\x<1099511627776)(hl:D.length<=2097152):∀(d k:Nat)(out:List aF),k+d=D.length->out.length<=k->aB (Ai (S.map aA) (T.map aA) (D.map encN) ((D.length:Nat):Int)) (out.length,(k:Int),out.map aA)=some (((D.drop k).foldl (λ S x=>cA S x (F x)) out).length,((D.drop k).foldl (λ S x=>cA S x (F x)) out).map aA)|0,k,out,hk,ho=>by(have:k=D.length:=Ω);subst this;refine cR ?_;simp[Ai,GS,bE,aH]|d+1,k,out,hk,ho=>by(have q:k<D.length:=Ω);obtain⟨h0,h1⟩:=hD D[k] (zo q);have a1:=FM hS lS h0 h1;have a2:=hT.at lT h0 h1;obtain⟨p,p1,p2,p3⟩:=yy out D[k] (F D[k]) Ω;(have p1:kG out.length D[k] (F D[k]) (out.map aA)=some p:=p1;have gf:(D.map encN).getD k .top=encN D[k]:=cQ _ _ _ q;have i1:(k:Int)<(D.length:Int):=Ω);have e:D.drop k=D[k]::D.drop (k+1):=List.drop_eq_getElem_cons q;rw[e,List.foldl_cons,<-Ul hS hT lS lT hF D hD hl d (k+1) (cA out D[k] (F D[k])) Ω (by have:=vA out D[k] (F D[k]);omega)];refine en ?_;rw[<-p2,<-p3];simp only[Ai,GS,xq,NB,bQ,q,i1,gf,cN,sN,a1,a2,hF,p1,dO (n:=k) Ω]
def xLf(hS:aJ N 1099511627776 S)(hT:mI M T)(lS:S.length<=1048576)(lT:T.length<=1048576)(hF:∀t,EV (N t) (M t)=F t):∃U:List aF,IG (S.map aA) (T.map aA)=some (U.map aA)/\aJ F 1099511627776 U/\U.length<=S.length+T.length:=by
 obtain ⟨D,h1,h2,h3,h4⟩:=JX hS hT lS lT (F:=F) (fun t h=>by
  by_cases hc:N (t - 1)=N t
  . right;intro h5;refine h ?_;rw[<-hF,<-hF,hc,h5]
  . exact .inl hc)
 refine⟨_,?_,h4,by have:=BN (F:=F) D [];simp at this;omega⟩;have q:=Ul hS hT lS lT hF D h3 Ω D.length 0 [] Ω Ψ;rw[zr]at q;have q:aB (Ai (S.map aA) (T.map aA) (D.map encN) ((D.length:Nat):Int)) ((0:Nat),(0:Int),[])=_:=q;obtain⟨hp,_⟩:=h4.first;generalize D.foldl (λ S x=>cA S x (F x)) []=U at q hp;have g0:(((U.length:Nat):Int)==0)=false:=by simp;intro h;rw[h]at hp;simp at hp
 unfold IG Og AH NP;simp only[h1,zk,zh,aW,za,q,g0,bE,aH];simp[aW,zi,aH]
def Uo(hS:aJ N 1099511627776 S)(hT:mI M T)(lS:S.length<=1048576)(lT:T.length<=1048576)(hF:∀t,EX (N t) (M t)=F t)(D:List Int)(hD:∀x,x∈D->0<=x/\x<1099511627776)(hl:D.length<=2097152):∀(d k:Nat)(out:List aF),k+d=D.length->out.length<=k->aB (Am (S.map aA) (T.map aA) (D.map encN) ((D.length:Nat):Int)) (out.length,(k:Int),out.map aA)=some (((D.drop k).foldl (λ S x=>cA S x (F x)) out).length,((D.drop k).foldl (λ S x=>cA S x (F x)) out).map aA)|0,k,out,hk,ho=>by(have:k=D.length:=Ω);subst this;refine cR ?_;simp[Am,Hi,bE,aH]|d+1,k,out,hk,ho=>by(have q:k<D.length:=Ω);obtain⟨h0,h1⟩:=hD D[k] (zo q);have a1:=FM hS lS h0 h1;have a2:=hT.at lT h0 h1;obtain⟨p,p1,p2,p3⟩:=yy out D[k] (F D[k]) Ω;(have p1:kG out.length D[k] (F D[k]) (out.map aA)=some p:=p1;have gf:(D.map encN).getD k .top=encN D[k]:=cQ _ _ _ q;have i1:(k:Int)<(D.length:Int):=Ω);have e:D.drop k=D[k]::D.drop (k+1):=List.drop_eq_getElem_cons q;rw[e,List.foldl_cons,<-Uo hS hT lS lT hF D hD hl d (k+1) (cA out D[k] (F D[k])) Ω (by have:=vA out D[k] (F D[k]);omega)];refine en ?_;rw[<-p2,<-p3];simp only[Am,Hi,xu,NE,bQ,q,i1,gf,cN,sN,a1,a2,hF,p1,dO (n:=k) Ω]
def xLi(hS:aJ N 1099511627776 S)(hT:mI M T)(lS:S.length<=1048576)(lT:T.length<=1048576)(hF:∀t,EX (N t) (M t)=F t):∃U:List aF,II (S.map aA) (T.map aA)=some (U.map aA)/\aJ F 1099511627776 U/\U.length<=S.length+T.length:=by
 obtain ⟨D,h1,h2,h3,h4⟩:=JX hS hT lS lT (F:=F) (fun t h=>by
  by_cases hc:N (t - 1)=N t
  . right;intro h5;refine h ?_;rw[<-hF,<-hF,hc,h5]
  . exact .inl hc)
 refine⟨_,?_,h4,by have:=BN (F:=F) D [];simp at this;omega⟩;have q:=Uo hS hT lS lT hF D h3 Ω D.length 0 [] Ω Ψ;rw[zr]at q;have q:aB (Am (S.map aA) (T.map aA) (D.map encN) ((D.length:Nat):Int)) ((0:Nat),(0:Int),[])=_:=q;obtain⟨hp,_⟩:=h4.first;generalize D.foldl (λ S x=>cA S x (F x)) []=U at q hp;have g0:(((U.length:Nat):Int)==0)=false:=by simp;intro h;rw[h]at hp;simp at hp
 unfold II Oj Ax NS;simp only[h1,zk,zh,aW,za,q,g0,bE,aH];simp[aW,zi,aH]
def Un(hS:aJ N 1099511627776 S)(hT:mI M T)(lS:S.length<=1048576)(lT:T.length<=1048576)(hF:∀t,EW (N t) (M t)=F t)(D:List Int)(hD:∀x,x∈D->0<=x/\x<1099511627776)(hl:D.length<=2097152):∀(d k:Nat)(out:List aF),k+d=D.length->out.length<=k->aB (Ak (S.map aA) (T.map aA) (D.map encN) ((D.length:Nat):Int)) (out.length,(k:Int),out.map aA)=some (((D.drop k).foldl (λ S x=>cA S x (F x)) out).length,((D.drop k).foldl (λ S x=>cA S x (F x)) out).map aA)|0,k,out,hk,ho=>by(have:k=D.length:=Ω);subst this;refine cR ?_;simp[Ak,Hh,bE,aH]|d+1,k,out,hk,ho=>by(have q:k<D.length:=Ω);obtain⟨h0,h1⟩:=hD D[k] (zo q);have a1:=FM hS lS h0 h1;have a2:=hT.at lT h0 h1;obtain⟨p,p1,p2,p3⟩:=yy out D[k] (F D[k]) Ω;(have p1:kG out.length D[k] (F D[k]) (out.map aA)=some p:=p1;have gf:(D.map encN).getD k .top=encN D[k]:=cQ _ _ _ q;have i1:(k:Int)<(D.length:Int):=Ω);have e:D.drop k=D[k]::D.drop (k+1):=List.drop_eq_getElem_cons q;rw[e,List.foldl_cons,<-Un hS hT lS lT hF D hD hl d (k+1) (cA out D[k] (F D[k])) Ω (by have:=vA out D[k] (F D[k]);omega)];refine en ?_;rw[<-p2,<-p3];simp only[Ak,Hh,xt,ND,bQ,q,i1,gf,cN,sN,a1,a2,hF,p1,dO (n:=k) Ω]
def xLh(hS:aJ N 1099511627776 S)(hT:mI M T)(lS:S.length<=1048576)(lT:T.length<=1048576)(hF:∀t,EW (N t) (M t)=F t):∃U:List aF,IH (S.map aA) (T.map aA)=some (U.map aA)/\aJ F 1099511627776 U/\U.length<=S.length+T.length:=by
 obtain ⟨D,h1,h2,h3,h4⟩:=JX hS hT lS lT (F:=F) (fun t h=>by
  by_cases hc:N (t - 1)=N t
  . right;intro h5;refine h ?_;rw[<-hF,<-hF,hc,h5]
  . exact .inl hc)
 refine⟨_,?_,h4,by have:=BN (F:=F) D [];simp at this;omega⟩;have q:=Un hS hT lS lT hF D h3 Ω D.length 0 [] Ω Ψ;rw[zr]at q;have q:aB (Ak (S.map aA) (T.map aA) (D.map encN) ((D.length:Nat):Int)) ((0:Nat),(0:Int),[])=_:=q;obtain⟨hp,_⟩:=h4.first;generalize D.foldl (λ S x=>cA S x (F x)) []=U at q hp;have g0:(((U.length:Nat):Int)==0)=false:=by simp;intro h;rw[h]at hp;simp at hp
 unfold IH Oi AR NR;simp only[h1,zk,zh,aW,za,q,g0,bE,aH];simp[aW,zi,aH]
def Um(hS:aJ N 1099511627776 S)(hT:mI M T)(lS:S.length<=1048576)(lT:T.length<=1048576)(hF:∀t,EP (N t) (M t)=F t)(D:List Int)(hD:∀x,x∈D->0<=x/\x<1099511627776)(hl:D.length<=2097152):∀(d k:Nat)(out:List aF),k+d=D.length->out.length<=k->aB (Aj (S.map aA) (T.map aA) (D.map encN) ((D.length:Nat):Int)) (out.length,(k:Int),out.map aA)=some (((D.drop k).foldl (λ S x=>cA S x (F x)) out).length,((D.drop k).foldl (λ S x=>cA S x (F x)) out).map aA)|0,k,out,hk,ho=>by(have:k=D.length:=Ω);subst this;refine cR ?_;simp[Aj,GT,bE,aH]|d+1,k,out,hk,ho=>by(have q:k<D.length:=Ω);obtain⟨h0,h1⟩:=hD D[k] (zo q);have a1:=FM hS lS h0 h1;have a2:=hT.at lT h0 h1;obtain⟨p,p1,p2,p3⟩:=yy out D[k] (F D[k]) Ω;(have p1:kG out.length D[k] (F D[k]) (out.map aA)=some p:=p1;have gf:(D.map encN).getD k .top=encN D[k]:=cQ _ _ _ q;have i1:(k:Int)<(D.length:Int):=Ω);have e:D.drop k=D[k]::D.drop (k+1):=List.drop_eq_getElem_cons q;rw[e,List.foldl_cons,<-Um hS hT lS lT hF D hD hl d (k+1) (cA out D[k] (F D[k])) Ω (by have:=vA out D[k] (F D[k]);omega)];refine en ?_;rw[<-p2,<-p3];simp only[Aj,GT,xr,NC,bQ,q,i1,gf,cN,sN,a1,a2,hF,p1,dO (n:=k) Ω]
def xLg(hS:aJ N 1099511627776 S)(hT:mI M T)(lS:S.length<=1048576)(lT:T.length<=1048576)(hF:∀t,EP (N t) (M t)=F t):∃U:List aF,DW (S.map aA) (T.map aA)=some (U.map aA)/\aJ F 1099511627776 U/\U.length<=S.length+T.length:=by
 obtain ⟨D,h1,h2,h3,h4⟩:=JX hS hT lS lT (F:=F) (fun t h=>by
  by_cases hc:N (t - 1)=N t
  . right;intro h5;refine h ?_;rw[<-hF,<-hF,hc,h5]
  . exact .inl hc)
 refine⟨_,?_,h4,by have:=BN (F:=F) D [];simp at this;omega⟩;have q:=Um hS hT lS lT hF D h3 Ω D.length 0 [] Ω Ψ;rw[zr]at q;have q:aB (Aj (S.map aA) (T.map aA) (D.map encN) ((D.length:Nat):Int)) ((0:Nat),(0:Int),[])=_:=q;obtain⟨hp,_⟩:=h4.first;generalize D.foldl (λ S x=>cA S x (F x)) []=U at q hp;have g0:(((U.length:Nat):Int)==0)=false:=by simp;intro h;rw[h]at hp;simp at hp
 unfold DW Oh AI NQ;simp only[h1,zk,zh,aW,za,q,g0,bE,aH];simp[aW,zi,aH]
def xKN(hS:aJ N 1099511627776 S)(hT:aJ M 1099511627776 T)(lS:S.length<=1048576)(lT:T.length<=1048576)(hN:∀t,0<=N t/\N t<=1048576)(hM:∀t,0<=M t/\M t<=1048576):∃U:List aF,Fl (S.map aA) (T.map aA)=some (U.map aA)/\aJ (λ t=>N t+M t) 1099511627776 U/\U.length<=S.length+T.length:=by
 obtain ⟨U,h1,h2,h3⟩:=xLf hS (.inl hT) lS lT (F:=fun t=>N t+M t) (fun t=>by
  have:=hN t;have:=hM t;unfold EV;rw [il Ω Ω])
 refine⟨U,?_,h2,h3⟩;unfold Fl Qz;simp only[h1,zk,zh,aW,aH]
def xLH(hS:aJ N 1099511627776 S)(hT:aJ M 1099511627776 T)(lS:S.length<=1048576)(lT:T.length<=1048576):∃U:List aF,Fm (S.map aA) (T.map aA)=some (U.map aA)/\aJ (λ t=>min (N t) (M t)) 1099511627776 U/\U.length<=S.length+T.length:=by
 obtain ⟨U,h1,h2,h3⟩:=xLh hS (.inl hT) lS lT (F:=fun t=>min (N t) (M t)) (fun t=>by
  unfold EW;split<;>omega)
 refine⟨U,?_,h2,h3⟩;unfold Fm QA;simp only[h1,zk,zh,aW,aH]
def xLo(hS:aJ N 1099511627776 S)(hT:aJ M 1099511627776 T)(lS:S.length<=262144)(lT:T.length<=262144)(hN:∀t,0<=N t/\N t<=1048576)(hM:∀t,0<=M t/\M t<=1048576):∃U:List aF,D9 (S.map aA) (T.map aA)=some (U.map aA)/\aJ (λ t=>max (N t - M t) 0) 1099511627776 U/\U.length<=S.length+T.length:=by
 obtain ⟨U,h1,h2,h3⟩:=xLi hS (.inl hT) Ω Ω (F:=fun t=>N t - M t) (fun t=>by
  have:=hN t;have:=hM t;unfold EX;rw [il Ω Ω])
 obtain ⟨V,g1,g2,g3⟩:=xLg h2 (T:=[]) (M:=fun _=>0) (.inr ⟨rfl,fun _=>rfl⟩) Ω Ψ (F:=fun t=>max (N t - M t) 0) (fun t=>by
  unfold EP;split<;>omega)
 refine⟨V,?_,g2,by simp at g3;omega⟩;have g1:DW (U.map aA) []=some (V.map aA):=g1;have e1:Fn (S.map aA) (T.map aA)=some (U.map aA):=by unfold Fn QD;simp only[h1,zk,zh,aW,aH]
 have e2:JJ (U.map aA)=some (V.map aA):=by unfold JJ Qa;simp only[g1,zk,zh,aW,aH]
 unfold D9 Ow;simp only[e1,e2,zk,zh,aW,aH]
def Mm(t8:List AV)(t9 q:Int)(xs:List AV)(hx:xs.length=3)(j:Nat)(hj:j<3)(n:Int)(hn:xs.getD j .top=.int .i64 n)(h1:-9223372036854775808<=n)(h2:n<=9223372036854775807)(v0 v1:Int)(v2 B:List UInt8)(hB:B.length<=70368744177664):ta t8 t9 q 3 3 ((j:Int),B.length,v0,v1,v2,xs,byteAVs B)=some (.inl (((j+1:Nat):Int),(B++aY n).length,v0,v1,v2,xs,byteAVs (B++aY n))):=by
 have hl:=Lib.itoa_length_le n h1 h2;have i1:(j:Int)<3:=Ω
 have i2:(j:Int)<((3:Nat):Int):=Ω
 have i3:j<xs.length:=Ω
 have e1:=Cj (Lib.itoa n) B (by rw[z8];omega);have e2:=Kd (B++Lib.itoa n) (by rw[z8,z8,zj];omega);have hc:((AV.int IntKind.i64 n).cells.getD 0 .top).toInt=n:=rfl;have hs:cX (Sh.int IntKind.i64) ((AV.int IntKind.i64 n).cells.getD 0 .top):=rfl;simp only[ta,IK,OV,OW,OX,D3,bQ,i1,i2,i3,hn,hc,hs,h1,h2,e1,e2,dO (n:=j) Ω,aY,zw]
def xIu(t8:List AV)(t9 q:Int)(xs:List AV)(v0 v1:Int)(v2 B:List UInt8):ta t8 t9 q 3 3 (((3:Nat):Int),B.length,v0,v1,v2,xs,byteAVs B)=some (.inr (B.length,v0,v1,v2,byteAVs B)):=by(have i1:¬ ((3:Nat):Int)<3:=Ω);simp only[ta,IK,i1,zm,bE,aH]
def Tt(t8:List AV)(t9 q:Int)(v:Val)(h:pV v)(B:List UInt8)(hB:B.length<=35184372088832):aB (ta t8 t9 q 3 3) ((1:Int),(B++aY v.k).length,v.k,v.i,v.t,[AV.int .i64 v.k,AV.int .i64 v.i,AV.int .i64 (v.t.length:Int)],byteAVs (B++aY v.k))=some ((B++aY v.k++aY v.i++aY (v.t.length:Int)).length,v.k,v.i,v.t,byteAVs (B++aY v.k++aY v.i++aY (v.t.length:Int))):=by have hl:=h.len;have ht:=h.2;rw[Cb,z8,z8,z8]at hl;have e1:=Mm t8 t9 q [AV.int .i64 v.k,AV.int .i64 v.i,AV.int .i64 (v.t.length:Int)] rfl 1 Ω v.i rfl (ot h.1.2.1).1 (ot h.1.2.1).2 v.k v.i v.t (B++aY v.k) (by rw[z8];omega);have e2:=Mm t8 t9 q [AV.int .i64 v.k,AV.int .i64 v.i,AV.int .i64 (v.t.length:Int)] rfl 2 Ω (v.t.length:Int) rfl Ω Ω v.k v.i v.t (B++aY v.k++aY v.i) (by rw[z8,z8];omega);exact(en e1).trans ((en e2).trans (cR (xIu ..)))
def xJX(t8:List AV)(t9 q:Int)(v:Val)(h:pV v)(B:List UInt8)(hB:B.length<=35184372088832):aB (ta t8 t9 q 3 3) ((0:Int),B.length,v.k,v.i,v.t,[AV.int .i64 v.k,AV.int .i64 v.i,AV.int .i64 (v.t.length:Int)],byteAVs B)=some ((B++aY v.k++aY v.i++aY (v.t.length:Int)).length,v.k,v.i,v.t,byteAVs (B++aY v.k++aY v.i++aY (v.t.length:Int))):=by have e0:=Mm t8 t9 q [AV.int .i64 v.k,AV.int .i64 v.i,AV.int .i64 (v.t.length:Int)] rfl 0 Ω v.k rfl (ot h.1.1).1 (ot h.1.1).2 v.k v.i v.t B Ω;exact(en e0).trans (Tt t8 t9 q v h B hB)
def UH(r:Row)(hr:r.length<=1048576)(h:∀v,v∈r->pV v)(hk:(keyOf r).length<=17592186044416):∀d k:Nat,k+d=r.length->aB (Bm (r.map encV) ((r.length:Nat):Int)) ((k:Int),(keyOf (r.take k)).length,byteAVs (keyOf (r.take k)))=some ((keyOf r).length,byteAVs (keyOf r))
 |0,k,hkk=>by
  obtain rfl:k=r.length:=by omega
  rw[y6];refine cR ?_;simp only[Bm,IJ,zy,zm,bE,aH]
 |d+1,k,hkk=>by
  have q:k<r.length:=by omega
  have hv:=h r[k] (zo q);have i1:(k:Int)<(r.length:Int):=by omega
  have gf:(r.map encV).getD k .top=encV r[k]:=cQ _ _ _ q;have tk:keyOf (r.take (k+1))=keyOf (r.take k)++fg r[k]:=by
   unfold keyOf;rw[List.take_add_one,ze q,List.flatMap_append];simp
  have le:(keyOf (r.take (k+1))).length<=(keyOf r).length:=by
   conv=>rhs;rw[<-List.take_append_drop (k+1) r]
   unfold keyOf;rw[List.flatMap_append,z8];omega
  have hl:=hv.len;rw[tk,z8]at le;have e1:=xJX (r.map encV) (r.length:Int) (k:Int) r[k] hv (keyOf (r.take k)) (by omega)
  have kn:keyOf (r.take k)++fg r[k]=keyOf (r.take k)++aY r[k].k++aY r[k].i++aY (r[k].t.length:Int)++r[k].t:=by rw[Cb];simp only[zw]
  have e2:=Cj r[k].t (keyOf (r.take k)++aY r[k].k++aY r[k].i++aY (r[k].t.length:Int)) (by rw[<-kn,z8];omega)
  rw[en (s':=(((k+1:Nat):Int),(keyOf (r.take (k+1))).length,byteAVs (keyOf (r.take (k+1))))) ?_]
  . exact UH r hr h hk d (k+1) (by omega)
  . rw[tk,kn];simp only[Bm,IJ,OS,OT,H5,OU,bQ,q,i1,gf,tW,tX,tY,lV,sV,e1,e2,dO (n:=k) (by omega)]
def Ss(r:Row)(hr:r.length<=1048576)(h:∀v,v∈r->pV v)(hk:(keyOf r).length<=17592186044416):iM (r.map encV)=some (keyOf r):=by match r with|[]=>rfl|v::t=>have hv:=h v Ψ;(have hl:=hv.len;have i1:(0:Int)<((t.length+1:Nat):Int):=Ω);(have i2:0<t.length+1:=Ω);(obtain⟨r1,r2⟩:=ot hv.1.1;have q:=Lib.itoa_length_le v.k r1 r2;have gf:((v::t).map encV).getD 0 .top=encV v:=rfl;have e0:rI (Lib.itoa v.k)=some (((Lib.itoa v.k).length:Int),(Lib.itoa v.k).length,byteAVs (Lib.itoa v.k)):=by(have m1:(Lib.itoa v.k).length<=140737488355328:=Ω);(have m2:(Lib.itoa v.k).length<=4611686018427387904:=Ω);unfold rI Gr;simp only[BD,Nat.mul_one,m1,m2,zn,Bool.and_self,aW,aH]);have e1:GD 32 (Lib.itoa v.k).length (byteAVs (Lib.itoa v.k))=some (([]++aY v.k).length,byteAVs ([]++aY v.k)):=Kd (Lib.itoa v.k) (by rw[z8,zj];omega);have e2:=Tt ((v::t).map encV) ((t.length+1:Nat):Int) 0 v hv [] Ψ;(have kn:fg v=[]++aY v.k++aY v.i++aY (v.t.length:Int)++v.t:=by rw[Cb];simp);have e3:=Cj v.t ([]++aY v.k++aY v.i++aY (v.t.length:Int)) (by rw[<-kn];omega);rw[<-kn]at e3;have e4:=UH (v::t) hr h hk t.length 1 (by rw[zF];omega);(have tk:keyOf ((v::t).take 1)=fg v:=by simp[keyOf]);rw[tk,zF]at e4;have e4:aB (Bm ((v::t).map encV) ((t.length+1:Nat):Int)) ((1:Int),(fg v).length,byteAVs (fg v))=_:=e4;have hne:(keyOf (v::t)).length≠0:=λ e=>KE v (keyOf t) (by rw[<-BU];exact List.length_eq_zero_iff.1 e);unfold iM Qy BI P1 P2 P3 Jn P4 P5 P6 uS;simp only[za,zF,i1,i2,gf,tW,tX,tY,lV,sV,r1,r2,e0,e1,e2,e3,e4,zn,aW,Bool.and_self,beq_self_eq_true,zk,zh,BD,Yd,YT,ne_eq,hne,not_false_eq_true,aH]
def Rn:∀(a b:List Int),(∀t,a.count t<=b.count t)->a.length<=b.length
 |[],b,_=>by simp
 |x::a,b,h=>by
  have hx:x∈b:=List.count_pos_iff.1 (by have:=h x;rw[List.count_cons_self]at this;omega)
  have ih:=Rn a (b.erase x) λ t=>by
   have:=h t;by_cases e:x=t
   . subst e;rw[List.count_cons_self]at this;rw[List.count_erase_self];omega
   . rw[List.count_cons_of_ne e]at this;rw[List.count_erase_of_ne (λ c=>e c.symm)];exact this
  rw[List.length_erase_of_mem hx]at ih;have:0<b.length:=List.length_pos_iff.2 λ c=>by rw[c]at hx;simp at hx
  rw[zF];omega
def uY(ps:List aF)(t:Int):ps.countP (aG · t)<=ps.countP (aG · (t - 1))+(ps.map (·.1)).count t:=by induction ps with|nil=>simp|cons p ps ih=>(rw[List.countP_cons,List.countP_cons,zV,List.count_cons];have:(if aG p t then 1 else 0)<=(if aG p (t - 1) then 1 else 0)+(if(p.1==t) then 1 else 0):=by by_cases h1:aG p t=true;obtain⟨hv,a,b⟩:=jx.1 h1;by_cases h2:p.1=t;(have e:(p.1==t):=by simpa using h2);rw[if_pos h1,if_pos e];omega;have:aG p (t - 1):=jx.2 ⟨hv,by omega,by omega⟩;rw[if_pos h1,if_pos this];omega;rw[if_neg h1];omega);omega
def Sz(a b:Nat):∀n:Nat,((List.range n).map λ k=>if a<=k/\k<b then 1 else 0).sum<=min n b - min n a|0=>by simp|n+1=>by rw[List.range_succ,zx,List.sum_append];have:=Sz a b n;simp only[zV,zW,List.sum_cons,List.sum_nil];split<;>omega
variable {P:List aF}
def bA.len1{ps:List aF}(h:bA (λ t=>ps.countP (aG · t)) P):P.length<=ps.length:=by(have:(P.map (·.1)).length<=(ps.map (·.1)).length:=by refine Rn _ _ λ t=>?_;(obtain⟨A,H,h1,h2,h3⟩:=h.lev;have e1:(P.map (·.1)).count t=((List.range H).map λ k=>((A k).map (·.1)).count t).sum:=by rw[(h3.map (·.1)).count_eq,List.map_flatMap,List.count_flatMap];rfl);(have e2:∀n,((List.range n).map λ k=>((A k).map (·.1)).count t).sum<=((List.range n).map λ k=>if ps.countP (aG · (t - 1))<=k/\k<ps.countP (aG · t)then 1 else 0).sum:=λ n=>by induction n with|zero=>simp|succ n ih=>(rw[List.range_succ,zx,zx,List.sum_append,List.sum_append];simp only[zV,zW,List.sum_cons,List.sum_nil];have hn:((A n).map (·.1)).Nodup:=by unfold List.Nodup;rw[List.pairwise_map];refine List.Pairwise.imp_of_mem (λ{p q} hp hq h=>?_) (h2 n).1.2;have:=iy.1 ((h2 n).1.1 p hp);omega);have J:((A n).map (·.1)).count t<=1:=List.nodup_iff_count.1 hn t;by_cases ht:t∈(A n).map (·.1);obtain⟨p,hp,rfl⟩:=zK.1 ht;obtain⟨a,b,_⟩:=Sg (N:=λ t=>ps.countP (aG · t)) (h2 n).1 (h2 n).2 hp;have hv:=iy.1 ((h2 n).1.1 p hp);have:=a p.1 (Int.le_refl _) hv.2.1;rw[if_pos ⟨b,this⟩];omega;rw[List.count_eq_zero.2 ht];omega);have e3:=e2 H;have e4:=Sz (ps.countP (aG · (t - 1))) (ps.countP (aG · t)) H;have e5:=uY ps t;have e6:=h1 t;omega);simpa using this
def ZK{L:Row->List aF}:∀{R:List Row}{l:List Fc},R.Nodup->(∀r,r∈R->(L r).length<=(cW l r).length)->(cE R L).length<=l.length
 |[],l,_,_=>by simp[cE]
 |r::R,l,hn,h=>by
  obtain⟨n1,n2⟩:=List.nodup_cons.1 hn;have e:cE (r::R) L=((L r).map λ p=>(⟨r,p⟩:Fc))++cE R L:=by simp[cE]
  let l2:=l.filter λ f=>!decide (f.r=r)
  have J:∀r',r'∈R->cW l2 r'=cW l r':=λ r' q=>by
   have hne:r'≠r:=λ e=>n1 (e▸q)
   unfold cW;simp only[l2,List.filter_filter];congr 1;refine List.filter_congr λ f _=>?_
   by_cases hf:f.r=r'
   . have:¬ f.r=r:=λ e=>hne (hf▸e)
     simp[hf,hne]
   . simp[hf]
  have ih:=ZK (L:=L) (l:=l2) n2 λ r' q=>by rw[J r' q];exact h r' (by simp[q])
  have h1:=h r (by simp)
  have hl:(cW l r).length+l2.length<=l.length:=by
   unfold cW;rw[za];have:=List.length_eq_countP_add_countP (λ f:Fc=>decide (f.r=r)) (l:=l)
   have a1:(l.filter λ f=>decide (f.r=r)&&pv f.p).length<=l.countP λ f=>decide (f.r=r):=by
    rw[<-List.countP_eq_length_filter];exact List.countP_mono_left λ f _ hf=>by simp only[zf]at hf;exact hf.1
   have a2:l2.length=l.countP λ f=>¬ decide (f.r=r)=true:=by
    rw[List.countP_eq_length_filter];simp[l2]
   omega
  rw[e,z8,za];omega
def mH.len1{l B:List Fc}(h:mH l B):B.length<=l.length:=by obtain⟨R,L,h1,h2,rfl⟩:=h;refine ZK (h1.1.nodup mO) λ r hr=>?_;have:=h2 r hr;rw[show cnt l r=λ t=>(cW l r).countP (aG · t) from funext λ t=>(Cl l r t).symm]at this;exact this.len1
abbrev TE:=Row×List aF×List aF
def ig:TE:=([],[],[])
def c1(p:aF):AV:=dJ (p,1)
def cL(e:TE):PE:=(keyOf e.1,e.1.map encV,e.2.1.map c1,e.2.2.map c1)
def mt(es:List TE)(r:Row):Option Nat:=es.findIdx? λ x=>decide (x.1=r)
def iX(es:List TE)(r:Row)(xa xb:List aF):List TE:=match mt es r with|some j=>es.set j ((es.getD j ig).1,(es.getD j ig).2.1++xa,(es.getD j ig).2.2++xb)|none=>es++[(r,xa,xb)]
def Ms(r:Row):∀es:List TE,sy (es.map cL) (keyOf r)=mt es r|[]=>rfl|x::es=>by(have ih:=Ms r es;unfold sy mt at ih|-;rw[zV,List.findIdx?_cons,List.findIdx?_cons,ih];have:((cL x).1==keyOf r)=decide (x.1=r):=by by_cases h:x.1=r;subst h;simp[cL];have h2:¬ keyOf x.1=keyOf r:=λ e=>h (Fz e);simp[cL,h,h2]);rw[this]
variable {es:List TE}{j:Nat}
def Kr(h:j<es.length):(es.map cL).getD j cZ=cL (es.getD j ig):=by simp[z7,h]
def Rl{r:Row}(h:mt es r=some j):∃hj:j<es.length,es[j].1=r:=by obtain⟨hj,h1,_⟩:=List.findIdx?_eq_some_iff_getElem.1 h;exact⟨hj,by simpa using h1⟩
def xGs{r:Row}(h:mt es r=none):r∉es.map (·.1):=λ hr=>by obtain⟨e,he,rfl⟩:=zK.1 hr;have:=List.findIdx?_eq_none_iff.1 h e he;simp at this
def xIe(es:List TE)(r:Row)(p:aF):kw false (es.map cL) (keyOf r) (r.map encV) (c1 p)=(iX es r [p] []).map cL:=by unfold kw iX;rw[Ms];cases h:mt es r with|none=>simp[cL]|some j=>obtain⟨hj,_⟩:=Rl h;simp only[Kr hj,List.map_set];simp[cL]
def xIf(es:List TE)(r:Row)(p:aF):kw true (es.map cL) (keyOf r) (r.map encV) (c1 p)=(iX es r [] [p]).map cL:=by unfold kw iX;rw[Ms];cases h:mt es r with|none=>simp[cL]|some j=>obtain⟨hj,_⟩:=Rl h;simp only[Kr hj,List.map_set];simp[cL]
structure EI (R:Row->Prop) (A B:Row->List aF) (n:Nat) (es:List TE):Prop where
 nd:(es.map (·.1)).Nodup
 mem:∀r,r∈es.map (·.1)↔R r
 pa:∀e,e∈es->e.2.1=A e.1
 pb:∀e,e∈es->e.2.2=B e.1
 zero:∀r,¬ R r->A r=[]/\B r=[]
 len:es.length<=n
def EI.nil:EI (λ _=>False) (λ _=>[]) (λ _=>[]) 0 []:=⟨List.nodup_nil,λ r=>by simp,λ g hg=>by simp at hg,λ g hg=>by simp at hg,λ _ _=>⟨rfl,rfl⟩,zd _⟩
def EI.add{R:Row->Prop}{A B:Row->List aF}{n:Nat}(h:EI R A B n es)(ρ:Row)(xa xb:List aF):EI (λ r=>R r\/ρ=r) (λ r=>A r++if ρ=r then xa else[]) (λ r=>B r++if ρ=r then xb else[]) (n+1) (iX es ρ xa xb):=by unfold iX;cases hi:mt es ρ with|some j=>((obtain⟨hj,hr⟩:=Rl hi;have gd:es.getD j ig=es[j]:=by rw[z7,ze hj];rfl);(dsimp only;rw[gd];have fst:(es.set j (es[j].1,es[j].2.1++xa,es[j].2.2++xb)).map (·.1)=es.map (·.1):=by(rw[List.map_set];have:(es.map (·.1))[j]'(by simpa using hj)=es[j].1:=by simp);show (es.map (·.1)).set j es[j].1=_;rw[<-this];exact List.set_getElem_self _);have hRρ:R ρ:=(h.mem ρ).1 (by rw[<-hr];exact zK.2 ⟨es[j],zo hj,rfl⟩);(have hne:∀i(q:i<es.length),j≠i->ρ≠es[i].1:=λ i q J e=>by(have hn:=zB.1 h.nd;have ei:(es.map (·.1))[i]'(by simpa using q)=es[i].1:=by simp);(have ej:(es.map (·.1))[j]'(by simpa using hj)=es[j].1:=by simp);rcases Nat.lt_or_gt_of_ne J with Q|Q;exact hn j i (by simpa using hj) (by simpa using q) Q (by rw[ei,ej,hr,e]);exact hn i j (by simpa using q) (by simpa using hj) Q (by rw[ei,ej,hr,e]));refine⟨by rw[fst];exact h.nd,λ r=>?_,λ g hg=>?_,λ g hg=>?_,λ r O=>?_,by rw[y4];have:=h.len;omega⟩;rw[fst,h.mem];refine⟨.inl,?_⟩;rintro(h1|rfl);exact h1;exact hRρ;obtain⟨i,q,rfl⟩:=zp.1 hg;rw[y4]at q;rw[List.getElem_set];by_cases J:j=i;subst J;rw[if_pos rfl];show es[j].2.1++xa=A es[j].1++_;rw[if_pos hr.symm,h.pa _ (zo hj)];rw[if_neg J,if_neg (hne i q J),zD];exact h.pa _ (zo q);obtain⟨i,q,rfl⟩:=zp.1 hg;rw[y4]at q;rw[List.getElem_set];by_cases J:j=i;subst J;rw[if_pos rfl];show es[j].2.2++xb=B es[j].1++_;rw[if_pos hr.symm,h.pb _ (zo hj)];rw[if_neg J,if_neg (hne i q J),zD];exact h.pb _ (zo q);have h1:¬ R r:=λ c=>O (.inl c);have h2:¬ ρ=r:=λ c=>O (.inr c);obtain⟨z1,z2⟩:=h.zero r h1;rw[if_neg h2,if_neg h2,z1,z2];exact⟨rfl,rfl⟩)|none=>have hr:=xGs hi;dsimp only;have hρ:¬ R ρ:=λ c=>hr ((h.mem ρ).2 c);obtain⟨z1,z2⟩:=h.zero ρ hρ;have hne:∀g,g∈es->ρ≠g.1:=λ g hg e=>hr (by rw[e];exact zK.2 ⟨g,hg,rfl⟩);refine⟨?_,λ r=>?_,λ g hg=>?_,λ g hg=>?_,λ r O=>?_,by rw[z8];have:=h.len;simp;omega⟩;rw[zx];refine List.nodup_append.2 ⟨h.nd,by simp,λ a ha b hb e=>?_⟩;simp at hb;exact hr (by rw[<-hb,<-e];exact ha);rw[zx,zG,h.mem];simp only[zV,zW,zv];exact⟨λ c=>c.imp id Eq.symm,λ c=>c.imp id Eq.symm⟩;rcases zG.1 hg with hg|hg;rw[if_neg (hne g hg),zD];exact h.pa g hg;rw[zv]at hg;subst hg;rw[if_pos rfl,z1];rfl;rcases zG.1 hg with hg|hg;rw[if_neg (hne g hg),zD];exact h.pb g hg;rw[zv]at hg;subst hg;rw[if_pos rfl,z2];rfl;have h1:¬ R r:=λ c=>O (.inl c);have h2:¬ ρ=r:=λ c=>O (.inr c);obtain⟨z1,z2⟩:=h.zero r h1;rw[if_neg h2,if_neg h2,z1,z2];exact⟨rfl,rfl⟩
def eZ(l:List Fc)(r:Row):List aF:=(l.filter λ f=>decide (f.r=r)).map (·.p)
def oI(l:List Fc)(r:Row)(t:Int):(eZ l r).countP (aG · t)=cnt l r t:=by unfold eZ cnt;rw[List.countP_map,List.countP_filter];refine List.countP_congr λ f _=>?_;simp[and_comm]
def R0(f:Fc)(l:List Fc)(r:Row):eZ (f::l) r=(if f.r=r then[f.p]else[])++eZ l r:=by unfold eZ;rw[List.filter_cons];by_cases h:f.r=r<;>simp[h]
def Ch(l:List Fc)(r:Row):(eZ l r).length<=l.length:=by unfold eZ;rw[za];exact List.length_filter_le _ _
def VS:∀(l:List Fc)(R:Row->Prop)(A B:Row->List aF)(n:Nat)(es:List TE),EI R A B n es->EI (λ r=>R r\/∃f,f∈l/\f.r=r) (λ r=>A r++eZ l r) B (n+l.length) (l.foldl (λ es f=>iX es f.r [f.p] []) es)
 |[],R,A,B,n,es,h=>by
  have e1:(λ r=>R r\/∃f,f∈([]:List Fc)/\f.r=r)=R:=funext λ r=>by simp
  have e2:(λ r=>A r++eZ [] r)=A:=funext λ r=>by simp[eZ]
  rw[e1,e2];exact h
 |f::l,R,A,B,n,es,h=>by
  have:=VS l _ _ _ _ _ (h.add f.r [f.p] []);rw[List.foldl_cons];have e1:(λ r=>(R r\/f.r=r)\/∃g,g∈l/\g.r=r)=λ r=>R r\/∃g,g∈f::l/\g.r=r:=funext λ r=>by simp[or_assoc]
  have e2:(λ r=>(A r++if f.r=r then[f.p]else[])++eZ l r)=λ r=>A r++eZ (f::l) r:=funext λ r=>by rw[R0,zw]
  have e3:(λ r=>B r++if f.r=r then[]else[])=B:=funext λ r=>by simp
  rw[e1,e2,e3]at this;rw[zF,show n+(l.length+1)=n+1+l.length by omega]
  exact this
def VT:∀(l:List Fc)(R:Row->Prop)(A B:Row->List aF)(n:Nat)(es:List TE),EI R A B n es->EI (λ r=>R r\/∃f,f∈l/\f.r=r) A (λ r=>B r++eZ l r) (n+l.length) (l.foldl (λ es f=>iX es f.r [] [f.p]) es)
 |[],R,A,B,n,es,h=>by
  have e1:(λ r=>R r\/∃f,f∈([]:List Fc)/\f.r=r)=R:=funext λ r=>by simp
  have e2:(λ r=>B r++eZ [] r)=B:=funext λ r=>by simp[eZ]
  rw[e1,e2];exact h
 |f::l,R,A,B,n,es,h=>by
  have:=VT l _ _ _ _ _ (h.add f.r [] [f.p]);rw[List.foldl_cons];have e1:(λ r=>(R r\/f.r=r)\/∃g,g∈l/\g.r=r)=λ r=>R r\/∃g,g∈f::l/\g.r=r:=funext λ r=>by simp[or_assoc]
  have e2:(λ r=>(B r++if f.r=r then[f.p]else[])++eZ l r)=λ r=>B r++eZ (f::l) r:=funext λ r=>by rw[R0,zw]
  have e3:(λ r=>A r++if f.r=r then[]else[])=A:=funext λ r=>by simp
  rw[e1,e2,e3]at this;rw[zF,show n+(l.length+1)=n+1+l.length by omega]
  exact this
def sk(a b:List Fc):List TE:=b.foldl (λ es f=>iX es f.r [] [f.p]) (a.foldl (λ es f=>iX es f.r [f.p] []) [])
def xJj(a b:List Fc):EI (λ r=>(∃f,f∈a/\f.r=r)\/∃f,f∈b/\f.r=r) (eZ a) (eZ b) (a.length+b.length) (sk a b):=by(have h:=VT b _ _ _ _ _ (VS a _ _ _ _ _ EI.nil);have e1:(λ r=>(False\/∃f,f∈a/\f.r=r)\/∃f,f∈b/\f.r=r)=λ r=>(∃f,f∈a/\f.r=r)\/∃f,f∈b/\f.r=r:=funext λ r=>by simp);have e2:(λ r=>([]:List aF)++eZ a r)=eZ a:=funext λ r=>rfl;have e3:(λ r=>([]:List aF)++eZ b r)=eZ b:=funext λ r=>rfl;rw[e1,e2,e3,show 0+a.length+b.length=a.length+b.length by omega]at h;exact h
def Keyed.skey{l:List Fc}(h:Keyed l){f:Fc}(hf:f∈l):iM (f.r.map encV)=some (keyOf f.r):=Ss f.r (h.1.2 f hf) (h.2 f hf).1 (h.2 f hf).2
def RU{f:Fc}(h:iM (f.r.map encV)=some (keyOf f.r)):jK (encF f)=keyOf f.r:=by show (iM (f.r.map encV)).getD []=_;rw[h];rfl
def xzG:∀(l:List Fc)(es:List TE),(∀f,f∈l->iM (f.r.map encV)=some (keyOf f.r))->(l.map encF).foldl (iw false) (es.map cL)=(l.foldl (λ es f=>iX es f.r [f.p] []) es).map cL|[],es,_=>rfl|f::l,es,h=>by(rw[zV,List.foldl_cons,List.foldl_cons];have e:(iw false) (es.map cL) (encF f)=(iX es f.r [f.p] []).map cL:=by show kw false (es.map cL) (jK (encF f)) (f.r.map encV) (c1 f.p)=_;rw[RU (h f Ψ),xIe]);rw[e];exact xzG l _ λ g hg=>h g (by simp[hg])
def xzH:∀(l:List Fc)(es:List TE),(∀f,f∈l->iM (f.r.map encV)=some (keyOf f.r))->(l.map encF).foldl (iw true) (es.map cL)=(l.foldl (λ es f=>iX es f.r [] [f.p]) es).map cL|[],es,_=>rfl|f::l,es,h=>by(rw[zV,List.foldl_cons,List.foldl_cons];have e:(iw true) (es.map cL) (encF f)=(iX es f.r [] [f.p]).map cL:=by show kw true (es.map cL) (jK (encF f)) (f.r.map encV) (c1 f.p)=_;rw[RU (h f Ψ),xIf]);rw[e];exact xzH l _ λ g hg=>h g (by simp[hg])
def xHC{a b:List Fc}(ha:Keyed a)(hb:Keyed b):cV (a.map encF) (b.map encF)=(sk a b).map cL:=by unfold cV sk;rw[show ([]:List PE)=([]:List TE).map cL from rfl,xzG a [] λ f hf=>ha.skey hf,xzH b _ λ f hf=>hb.skey hf]
def Ut{l:List Fc}(h:Keyed l){f:Fc}(hf:f∈l):rz (encF f):=by(have e1:=RU (h.skey hf);have e2:iM (rowF (encF f))=some (keyOf f.r):=h.skey hf;have e3:=(h.2 f hf).2;unfold rz;rw[e1,e2];have m:(keyOf f.r).length<=4611686018427387904:=Ω);have c1:Nat.beq (encF f).cells.length 3:=rfl;have c2:ef [.list 3,.int .i64,.int .i64] (encF f).cells 0:=rfl;have c3:((encF f).one==false):=rfl;rw[c1,c2,c3];simp[m]
def xFV{a b:List Fc}(ha:Keyed a)(hb:Keyed b):i7 (a.map encF) (b.map encF):=by unfold i7;have h1:=ha.1.1;have h2:=hb.1.1;simp only[zf,zI,List.mem_range,zl,za];refine⟨λ i hi=>?_,λ i hi=>?_,by omega⟩;rw[cQ _ _ _ hi];exact Ut ha (zo hi);rw[cQ _ _ _ hi];exact Ut hb (zo hi)
def yf{N:Int->Nat}(h:bA N P)(E:List Int)(hE:∀t,N t<=N (t - 1)+E.count t):P.length<=E.length:=by(have:(P.map (·.1)).length<=E.length:=by refine Rn _ _ λ t=>?_;(obtain⟨A,H,h1,h2,h3⟩:=h.lev;have e1:(P.map (·.1)).count t=((List.range H).map λ k=>((A k).map (·.1)).count t).sum:=by rw[(h3.map (·.1)).count_eq,List.map_flatMap,List.count_flatMap];rfl);(have e2:∀n,((List.range n).map λ k=>((A k).map (·.1)).count t).sum<=((List.range n).map λ k=>if N (t - 1)<=k/\k<N t then 1 else 0).sum:=λ n=>by induction n with|zero=>simp|succ n ih=>(rw[List.range_succ,zx,zx,List.sum_append,List.sum_append];simp only[zV,zW,List.sum_cons,List.sum_nil];have hn:((A n).map (·.1)).Nodup:=by unfold List.Nodup;rw[List.pairwise_map];refine List.Pairwise.imp_of_mem (λ{p q} hp hq h=>?_) (h2 n).1.2;have:=iy.1 ((h2 n).1.1 p hp);omega);have J:((A n).map (·.1)).count t<=1:=List.nodup_iff_count.1 hn t;by_cases ht:t∈(A n).map (·.1);obtain⟨p,hp,rfl⟩:=zK.1 ht;obtain⟨a,b,_⟩:=Sg (N:=N) (h2 n).1 (h2 n).2 hp;have hv:=iy.1 ((h2 n).1.1 p hp);have:=a p.1 (Int.le_refl _) hv.2.1;rw[if_pos ⟨b,this⟩];omega;rw[List.count_eq_zero.2 ht];omega);have e3:=e2 H;have e4:=Sz (N (t - 1)) (N t) H;have e5:=hE t;have e6:=h1 t;omega);simpa using this
def ZE(ps:List aF)(t:Int):ps.countP (aG · (t - 1))<=ps.countP (aG · t)+(ps.map (·.2)).count t:=by induction ps with|nil=>simp|cons p ps ih=>(rw[List.countP_cons,List.countP_cons,zV,List.count_cons];have:(if aG p (t - 1) then 1 else 0)<=(if aG p t then 1 else 0)+(if(p.2==t) then 1 else 0):=by by_cases h1:aG p (t - 1)=true;obtain⟨hv,a,b⟩:=jx.1 h1;by_cases h2:p.2=t;(have e:(p.2==t):=by simpa using h2);rw[if_pos h1,if_pos e];omega;have:aG p t:=jx.2 ⟨hv,by omega,by omega⟩;rw[if_pos h1,if_pos this];omega;rw[if_neg h1];omega);omega
structure pX (op:List AV->List AV->Option (List AV)) (g:Nat->Nat->Nat):Prop where
 run:∀{N M:Int->Nat}{S T:List aF},aJ (λ t=>(N t:Int)) 1099511627776 S->aJ (λ t=>(M t:Int)) 1099511627776 T->S.length<=131072->T.length<=131072->(∀t,N t<=1048576)->(∀t,M t<=1048576)->
  ∃U:List aF,op (S.map aA) (T.map aA)=some (U.map aA)/\aJ (λ t=>((g (N t) (M t):Nat):Int)) 1099511627776 U/\U.length<=S.length+T.length
 zero:g 0 0=0
 le:∀x y,g x y<=x+y
 inc:∀a b:List aF,∃E:List Int,E.length<=a.length+b.length/\∀t,g (a.countP (aG · t)) (b.countP (aG · t))<=g (a.countP (aG · (t - 1))) (b.countP (aG · (t - 1)))+E.count t
def opA:pX Fl (λ x y=>x+y) where
 run:=λ{N M S T} hS hT lS lT hN hM=>by
  obtain⟨U,h1,h2,h3⟩:=xKN hS hT Ω Ω (λ t=>by have:=hN t;omega) (λ t=>by have:=hM t;omega)
  refine⟨U,h1,?_,h3⟩;rwa [show (λ t=>(N t:Int)+(M t:Int))=λ t=>(((N t+M t:Nat)):Int) from funext λ t=>by omega]at h2
 zero:=rfl
 le:=λ x y=>zd _
 inc:=fun a b=>⟨a.map (·.1)++b.map (·.1),by simp,fun t=>by
  have h1:=uY a t;have h2:=uY b t;rw [List.count_append];omega⟩
def ST:pX Fm (λ x y=>min x y) where
 run:=λ{N M S T} hS hT lS lT hN hM=>by
  obtain⟨U,h1,h2,h3⟩:=xLH hS hT Ω Ω
  refine⟨U,h1,?_,h3⟩;rwa [show (λ t=>min (N t:Int) (M t:Int))=λ t=>((min (N t) (M t):Nat):Int) from funext λ t=>by omega]at h2
 zero:=rfl
 le:=λ x y=>by omega
 inc:=fun a b=>⟨a.map (·.1)++b.map (·.1),by simp,fun t=>by
  have h1:=uY a t;have h2:=uY b t;rw [List.count_append];omega⟩
def SU:pX D9 (λ x y=>x - y) where
 run:=λ{N M S T} hS hT lS lT hN hM=>by
  obtain⟨U,h1,h2,h3⟩:=xLo hS hT Ω Ω (λ t=>by have:=hN t;omega) (λ t=>by have:=hM t;omega)
  refine⟨U,h1,?_,h3⟩;rwa [show (λ t=>max ((N t:Int) - (M t:Int)) 0)=λ t=>((N t - M t:Nat):Int) from funext λ t=>by omega]at h2
 zero:=rfl
 le:=λ x y=>by omega
 inc:=fun a b=>⟨a.map (·.1)++b.map (·.2),by simp,fun t=>by
  have h1:=uY a t;have h2:=ZE b t;rw [List.count_append];omega⟩
def xKQ(ps:List aF):ps.map c1=(ps.map λ p=>(p,(1:Int))).map dJ:=by rw[List.map_map];rfl
def Ur(ps:List aF)(h:ps.length<=32768):∃S,e7 (ps.map c1)=some (S.map aA)/\aJ (λ t=>((ps.countP (aG · t):Nat):Int)) 1099511627776 S/\S.length<=2*ps.length+1:=by obtain⟨S,h1,h2,h3⟩:=Xj _ (Rs (ps:=ps) Ω);refine⟨S,by rw[xKQ,h1],?_,by simpa using h3⟩;rwa [show cM (ps.map λ p=>(p,(1:Int)))=λ t=>((ps.countP (aG · t):Nat):Int) from funext λ t=>Rh ps t]at h2
variable {g:Nat->Nat->Nat}{op:List AV->List AV->Option (List AV)}
def xHJ(h:pX op g)(r:Row)(pa pb:List aF)(ha:pa.length<=32768)(hb:pb.length<=32768):∃P:List aF,my op (cL (r,pa,pb))/\gP op (cL (r,pa,pb))=P.map aA/\bA (λ t=>g (pa.countP (aG · t)) (pb.countP (aG · t))) P/\P.length<=pa.length+pb.length:=by
 obtain⟨S,s1,s2,s3⟩:=Ur pa ha;obtain⟨T,t1,t2,t3⟩:=Ur pb hb;have la:∀t,pa.countP (aG · t)<=pa.length:=λ t=>List.countP_le_length;have lb:∀t,pb.countP (aG · t)<=pb.length:=λ t=>List.countP_le_length;obtain⟨U,u1,u2,u3⟩:=h.run s2 t2 Ω Ω (λ t=>by have:=la t;omega) (λ t=>by have:=lb t;omega);obtain ⟨P,p1,p2⟩:=xzR (N:=fun t=>g (pa.countP (aG · t)) (pb.countP (aG · t))) (H:=pa.length+pb.length) Ω (fun t=>by
  have:=h.le (pa.countP (aG · t)) (pb.countP (aG · t));have:=la t;have:=lb t;omega) (fun t ht=>by
  rw [Ko pa t ht,Ko pb t ht];exact h.zero) u2 Ω
 obtain⟨E,e1,e2⟩:=h.inc pa pb;have lv:gP op (cL (r,pa,pb))=P.map aA:=by show (kD ((op ((e7 (pa.map c1)).getD []) ((e7 (pb.map c1)).getD [])).getD [])).getD []=_;rw[s1,t1];show (kD ((op (S.map aA) (T.map aA)).getD [])).getD []=_;rw[u1];show (kD (U.map aA)).getD []=_;rw[p1];rfl
 refine⟨P,?_,lv,p2,?_⟩;unfold my;rw[lv];show ((e7 (pa.map c1)).isSome&&((e7 (pb.map c1)).isSome&&((op ((e7 (pa.map c1)).getD []) ((e7 (pb.map c1)).getD [])).isSome&&((kD ((op ((e7 (pa.map c1)).getD []) ((e7 (pb.map c1)).getD [])).getD [])).isSome&&_))))=true;rw[s1,t1];simp only[zh,zk,u1,p1,Bool.true_and,zI,List.mem_range,za];intro i hi;rw[cQ _ _ _ hi];rfl;have:=yf p2 E e2;omega
def T8(f:Fc)(l:List Fc):∀R:List Row,(R.map λ r=>(eZ (f::l) r).length).sum=R.countP (λ r=>decide (f.r=r))+(R.map λ r=>(eZ l r).length).sum|[]=>rfl|r::R=>by rw[zV,zV,List.sum_cons,List.sum_cons,T8 f l R,R0,List.countP_cons];by_cases h:f.r=r<;>simp[h]<;>omega
def xFx{R:List Row}(hR:R.Nodup)(x:Row):R.countP (λ r=>decide (x=r))<=1:=by induction R with|nil=>simp|cons r R ih=>obtain⟨n1,n2⟩:=List.nodup_cons.1 hR;rw[List.countP_cons];by_cases h:x=r;(have:R.countP (λ r=>decide (x=r))=0:=List.countP_eq_zero.2 λ y hy=>by intro e;simp only[zl]at e;exact n1 (by rw[<-h,e];exact hy));rw[this];split<;>omega;have:=ih n2;simp[h];omega
def FF:∀(l:List Fc)(R:List Row),R.Nodup->(R.map λ r=>(eZ l r).length).sum<=l.length|[],R,_=>(by(have:∀R:List Row,(R.map λ r=>(eZ [] r).length).sum=0:=λ R=>by induction R with|nil=>rfl|cons r R ih=>rw[zV,List.sum_cons,ih];rfl);rw[this];exact zQ _)|f::l,R,h=>by rw[T8,zF];have:=FF l R h;have:=xFx h f.r;omega
variable {L:Row->List aF}
def Q3{a b:List Fc}:∀(R:List Row),(∀r,r∈R->(L r).length<=(eZ a r).length+(eZ b r).length)->(cE R L).length<=(R.map λ r=>(eZ a r).length).sum+(R.map λ r=>(eZ b r).length).sum|[],_=>by simp[cE]|r::R,h=>by have ih:=Q3 R λ x hx=>h x (by simp[hx]);have h1:=h r Ψ;(have e:cE (r::R) L=((L r).map λ p=>(⟨r,p⟩:Fc))++cE R L:=by simp[cE]);rw[e,z8,za,zV,zV,List.sum_cons,List.sum_cons];omega
def jP(N:Row->Int->Nat)(B:List Fc):Prop:=∃R L,eH aQ R/\(∀r t,0<N r t->r∈R)/\(∀r,r∈R->bA (N r) (L r))/\B=cE R L
def Qf(L:Row->List aF):∀R:List Row,cE R L=cE (R.filter λ r=>!(L r).isEmpty) L|[]=>rfl|r::R=>by(have ih:=Qf L R;have e:∀R:List Row,cE (r::R) L=((L r).map λ p=>(⟨r,p⟩:Fc))++cE R L:=λ R=>by simp[cE]);rw[List.filter_cons];cases h:L r with|nil=>rw[e,h,ih];simp|cons p ps=>simp only[List.isEmpty_cons,Bool.not_false,if_true];rw[e,e,ih]
def bA.pos{N:Int->Nat}(h:bA N P):P≠[]↔∃t,0<N t:=by constructor;intro hp;obtain⟨p,hp⟩:=List.exists_mem_of_ne_nil P hp;refine⟨p.1,?_⟩;rw[<-h.count];exact List.countP_pos_iff.2 ⟨p,hp,Tl (h.valid p hp)⟩;rintro⟨t,ht⟩ rfl;rw[<-h.count]at ht;simp at ht
def jP.unique{N:Row->Int->Nat}{B B':List Fc}(h:jP N B)(h':jP N B'):B=B':=by
 obtain⟨R,L,h1,h2,h3,rfl⟩:=h;obtain⟨R',L',Q,J,q,rfl⟩:=h';rw[Qf L R,Qf L' R'];have hm:∀r,r∈R.filter (λ r=>!(L r).isEmpty)↔∃t,0<N r t:=λ r=>by rw[List.mem_filter];constructor;rintro⟨a,b⟩;exact(h3 r a).pos.1 (by simpa using b);rintro⟨t,ht⟩;have:=h2 r t ht;exact⟨this,by have:=(h3 r this).pos.2 ⟨t,ht⟩;simpa using this⟩
 have hm':∀r,r∈R'.filter (λ r=>!(L' r).isEmpty)↔∃t,0<N r t:=λ r=>by rw[List.mem_filter];constructor;rintro⟨a,b⟩;exact(q r a).pos.1 (by simpa using b);rintro⟨t,ht⟩;have:=J r t ht;exact⟨this,by have:=(q r this).pos.2 ⟨t,ht⟩;simpa using this⟩
 have eR:R.filter (λ r=>!(L r).isEmpty)=R'.filter (λ r=>!(L' r).isEmpty):=PB mO (λ _ _=>vl) (h1.sublist List.filter_sublist) (Q.sublist List.filter_sublist) λ r=>by rw[hm,hm']
 rw[<-eR];refine QH λ r hr=>?_;have V:=(List.mem_filter.1 hr).1;have O:=J r;obtain⟨t,ht⟩:=(hm r).1 hr;exact(h3 r V).unique (q r (O t ht))
def mH.isB{l B:List Fc}(h:mH l B):jP (cnt l) B:=by obtain⟨R,L,h1,h2,rfl⟩:=h;exact⟨R,L,h1.1,λ r t ht=>(h1.2 r).2 (yo.2 ⟨t,ht⟩),h2,rfl⟩
def jP.cntB{N:Row->Int->Nat}{B:List Fc}(h:jP N B)(r:Row)(t:Int):cnt B r t=N r t:=by obtain⟨R,L,h1,h2,h3,rfl⟩:=h;rw[Fh L r t R (h1.nodup mO)];split;rename_i hr;exact(h3 r hr).count t;rename_i hr;cases hc:N r t with|zero=>rfl|succ n=>exact absurd (h2 r t Ω) hr
def jP.valid{N:Row->Int->Nat}{B:List Fc}(h:jP N B){f:Fc}(hf:f∈B):pv f.p:=by obtain⟨R,L,h1,h2,h3,rfl⟩:=h;obtain⟨a,b⟩:=B3 hf;exact(h3 _ a).valid _ b
def jP.congr{N M:Row->Int->Nat}{B:List Fc}(h:jP N B)(e:∀r t,N r t=M r t):jP M B:=by rwa [show N=M from funext λ r=>funext λ t=>e r t]at h
def xER{α β:Type}(es:List α)(d:α)(f:α->List β):(List.range es.length).flatMap (λ k=>f (es.getD k d))=es.flatMap f:=by(have:(List.range es.length).map (λ k=>es.getD k d)=es:=by refine List.ext_getElem Ψ λ n h1 h2=>?_;simp[z7,h2]);conv=>rhs;rw[<-this,List.flatMap_map]
def Ys{α β:Type}{f g:α->List β}:∀{l:List α},(∀a,a∈l->f a=g a)->l.flatMap f=l.flatMap g|[],_=>rfl|a::l,h=>by rw[zR,zR,h a Ψ,Ys λ b hb=>h b (by simp[hb])]
def vP.perm{l l':List Fc}(h:vP l)(hp:l'.Perm l):vP l':=⟨⟨⟨by rw[hp.length_eq];exact h.1.1.1,λ f hf=>h.1.1.2 f (hp.mem_iff.1 hf)⟩,λ f hf=>h.1.2 f (hp.mem_iff.1 hf)⟩,by rw[hp.length_eq];exact h.2.1,h.2.2.of λ f hf=>⟨f,hp.mem_iff.1 hf,rfl⟩⟩
def Sd(h:pX op g){a b:List Fc}(ha:Keyed a)(hb:Keyed b)(hl:a.length+b.length<=1024)(ac:kH (a++b)):∃B:List Fc,ly op (a.map encF) (b.map encF)=some (B.map encF)/\jP (λ r t=>g (cnt a r t) (cnt b r t)) B/\B.length<=a.length+b.length/\∀f,f∈B->(∃x,x∈a/\x.r=f.r)\/∃x,x∈b/\x.r=f.r:=by
 have hE:=xJj a b;generalize af:sk a b=es at hE;have O:cV (a.map encF) (b.map encF)=es.map cL:=by rw[xHC ha hb,af]
 obtain⟨L,hL⟩:=vk (R:=es.map (·.1)) (Q:=λ r P=>my op (cL (r,eZ a r,eZ b r))/\gP op (cL (r,eZ a r,eZ b r))=P.map aA/\bA (λ t=>g (cnt a r t) (cnt b r t)) P/\P.length<=(eZ a r).length+(eZ b r).length) λ r hr=>by have l1:=Ch a r;have l2:=Ch b r;obtain⟨P,p1,p2,p3,p4⟩:=xHJ h r (eZ a r) (eZ b r) Ω Ω;refine⟨P,p1,p2,?_,p4⟩;rwa [show (λ t=>g ((eZ a r).countP (aG · t)) ((eZ b r).countP (aG · t)))=λ t=>g (cnt a r t) (cnt b r t) from funext λ t=>by rw[oI,oI]]at p3
 have Z:∀e,e∈es->e=(e.1,eZ a e.1,eZ b e.1):=λ e he=>by have h1:=hE.pa e he;have h2:=hE.pb e he;obtain⟨x,y,z⟩:=e;simp only at h1 h2;rw[h1,h2]
 have ab:∀e,e∈es->my op (cL e)/\gP op (cL e)=(L e.1).map aA:=λ e he=>by have h1:=hL e.1 (zK.2 ⟨e,he,rfl⟩);rw[<-Z e he]at h1;exact⟨h1.1,h1.2.1⟩
 have ae:∀k,k<es.length->fu op (es.map cL) k=(mk (es.getD k ig).1 (L (es.getD k ig).1)).map encF:=λ k hk=>by(have gd:es.getD k ig=es[k]:=by rw[z7,ze hk];rfl);unfold fu;rw[Kr hk,gd,(ab _ (zo hk)).2];unfold mk;rw[List.map_map,List.map_map];rfl
 have V:∀ord:List Nat,(∀k,k∈ord->k<es.length)->ord.flatMap (fu op (es.map cL))=(ord.flatMap λ k=>mk (es.getD k ig).1 (L (es.getD k ig).1)).map encF:=λ ord ho=>by rw[List.map_flatMap];exact Ys λ k hk=>ae k (ho k hk)
 have hF:(List.range es.length).flatMap (λ k=>mk (es.getD k ig).1 (L (es.getD k ig).1))=cE (es.map (·.1)) L:=by rw[xER es ig λ e=>mk e.1 (L e.1)];unfold cE;rw[List.flatMap_map];rfl
 have J:fJ op (es.map cL)=(cE (es.map (·.1)) L).map encF:=by unfold fJ;rw[za,V _ λ k hk=>List.mem_range.1 hk,hF]
 have aa:(cE (es.map (·.1)) L).length<=a.length+b.length:=by have h1:=Q3 (L:=L) (a:=a) (b:=b) (es.map (·.1)) λ r hr=>(hL r hr).2.2.2;have h2:=FF a _ hE.nd;have h3:=FF b _ hE.nd;omega
 have q:∀f,f∈cE (es.map (·.1)) L->(∃x,x∈a/\x.r=f.r)\/∃x,x∈b/\x.r=f.r:=λ f hf=>(hE.mem _).1 (B3 hf).1;have W:vP (cE (es.map (·.1)) L):=by refine⟨⟨⟨by omega,λ f hf=>?_⟩,λ f hf=>?_⟩,by omega,ac.of λ f hf=>?_⟩;rcases q f hf with⟨x,hx,e⟩|⟨x,hx,e⟩;rw[<-e];exact ha.1.2 x hx;rw[<-e];exact hb.1.2 x hx;rcases q f hf with⟨x,hx,e⟩|⟨x,hx,e⟩;rw[<-e];exact ha.2 x hx;rw[<-e];exact hb.2 x hx;rcases q f hf with⟨x,hx,e⟩|⟨x,hx,e⟩;exact⟨x,zG.2 (.inl hx),e.symm⟩;exact⟨x,zG.2 (.inr hx),e.symm⟩
 obtain⟨B,b1,b2⟩:=Vj _ W;have Y:∀r t,cnt (cE (es.map (·.1)) L) r t=g (cnt a r t) (cnt b r t):=λ r t=>by rw[Fh L r t _ hE.nd];split;rename_i hr;exact(hL r hr).2.2.1.count t;rename_i hr;have:=hE.zero r λ c=>hr ((hE.mem r).2 c);rw[<-oI a,<-oI b,this.1,this.2];exact h.zero.symm
 refine⟨B,?_,b2.isB.congr Y,Nat.le_trans b2.len1 aa,λ f hf=>?_⟩;have ad:kg op (a.map encF) (b.map encF):=by(unfold kg;rw[O,xFV ha hb,J,b1];have c2:((List.range (es.map cL).length).all λ k=>my op ((es.map cL).getD k cZ)):=by(simp only[zI,List.mem_range,za];intro k hk;have gd:es.getD k ig=es[k]:=by rw[z7,ze hk];rfl);rw[Kr hk,gd];exact(ab _ (zo hk)).1);(have c3:((cE (es.map (·.1)) L).map encF).length<=1099511627776:=by rw[za];omega);(have c4:∀ord:List Nat,ord.Perm (List.range (es.map cL).length)->o8 (ord.flatMap (fu op (es.map cL)))=some (B.map encF):=λ ord ho=>by rw[za]at ho;rw[V ord λ k hk=>List.mem_range.1 (ho.mem_iff.1 hk)];(have hp:(ord.flatMap λ k=>mk (es.getD k ig).1 (L (es.getD k ig).1)).Perm (cE (es.map (·.1)) L):=by rw[<-hF];exact ho.flatMap_right _);obtain⟨B',q1,q2⟩:=Vj _ (W.perm hp);rw[q1,q2.unique b2 λ r t=>TU hp r t]);rw[c2,decide_eq_true c3];simp only[Bool.true_and,zf,zl,zk,and_true];exact c4
 unfold ly;rw[ad];show o8 (fJ op (cV (a.map encF) (b.map encF)))=_;rw[O,J,b1];obtain⟨_,x,hx,e⟩:=b2.valid hf;rw[<-e];exact q x hx
def TP(h:aJ N 1099511627776 S)(hl:S.length<=1048576)(h0:0<=t)(h1:t<1099511627776):Cd (S.map aA) t=some (N t):=by
 obtain⟨hp,hf⟩:=h.first;have key:∀d k:Nat,k+d=S.length->∀n:Int,(k=0\/∃j,∃hj:j<S.length,j<k/\S[j].1<=t/\n=S[j].2/\∀i(hi:i<S.length),j<i->i<k->t<S[i].1)->aB (uA (S.map aA) t) (n,(k:Int))=some (N t):=by intro d;induction d with|zero=>((intro k hk n hn;have hk:k=S.length:=Ω);subst hk;rcases hn with hn|⟨j,hj,_,a1,a2,a3⟩;omega;obtain⟨m,hm⟩:∃m:Nat,t=S[j].1+m:=⟨(t - S[j].1).toNat,by omega⟩;have e:=h.at hj m t hm h1 λ i hi J=>a3 i hi J hi;rw[e,<-a2];refine cR ?_;simp only[uA,Em,za,zy,zm,bE,aH])|succ d ih=>
  intro k hk n hn;have q:k<S.length:=Ω
  have i1:(k:Int)<(S.length:Int):=Ω
  have g1:t>=0:=h0;have gf:(S.map aA).getD k .top=aA S[k]:=cQ _ _ _ q;by_cases hc:S[k].1<=t;rw[<-ih (k+1) Ω S[k].2 (.inr ⟨k,q,by omega,hc,rfl,λ i hi a b=>by omega⟩)];refine en ?_;simp only[uA,Em,bQ,q,i1,h1,g1,gf,fZ,f7,lP,sP,f8,ga,hc,dO (n:=k) Ω];rw [<-ih (k+1) Ω n (by
   rcases hn with hn|⟨j,hj,a0,a1,a2,a3⟩
   . subst hn;exact absurd Ω hc
   . refine .inr ⟨j,hj,by omega,a1,a2,λ i hi a b=>?_⟩
     rcases Nat.lt_or_eq_of_le (Nat.le_of_lt_succ b)with b|b
     . exact a3 i hi a b
     . subst b;omega)]
  refine en ?_;simp only[uA,Em,bQ,q,i1,h1,g1,gf,fZ,f7,lP,sP,f8,ga,hc,dO (n:=k) Ω]
 have:=key S.length 0 Ω 0 (.inl rfl);unfold Cd QR;have e:aB (uA (S.map aA) t) ((0:Int),(0:Int))=some (N t):=this;simp only[e,zk,zh,aW,aH]
def insS(P:List Int)(S:List aF):List Int:=S.foldl (λ P s=>dK P s.1) P
def RR:∀(S:List aF)(P:List Int)(x:Int),x∈insS P S↔x∈P\/∃s,s∈S/\s.1=x|[],P,x=>by simp[insS]|s::S,P,x=>by have:=RR S (dK P s.1) x;unfold insS at this|-;rw[List.foldl_cons,this,Ft];constructor;rintro((rfl|h)|⟨s',h1,h2⟩);exact .inr ⟨s,by simp,rfl⟩;exact .inl h;exact .inr ⟨s',by simp[h1],h2⟩;rintro(h|⟨s',h1,h2⟩);exact .inl (.inr h);rcases zC.1 h1 with rfl|h1;exact .inl (.inl h2.symm);exact .inr ⟨s',h1,h2⟩
def RP:∀(S:List aF){P:List Int},nf P->nf (insS P S)|[],P,h=>h|s::S,P,h=>RP S (Ks h s.1)
def RQ:∀(S:List aF)(P:List Int),(insS P S).length<=P.length+S.length|[],P=>by simp[insS]|s::S,P=>by have h1:=RQ S (dK P s.1);have h2:=vq P s.1;unfold insS at h1|-;rw[List.foldl_cons,zF];omega
def xJk(q:Int)(S:List aF)(b:List AV)(hS:S.length<=262144)(P:List Int)(hP:P.length<=262144):aB (uo q (S.map aA) b) (P.map encN,(0:Int))=some ((insS P S).map encN):=by
 have key:=JV (step:=uo q (S.map aA) b) (r:=(insS P S).map encN) S (fun P s=>dK P s.1) (fun k P=>(P.map encN,(k:Int))) (fun k P'=>P'.length<=P.length+k) (fun n h Q hQ=>by
  have i1:(n:Int)<(S.length:Int):=Ω
  have gf:(S.map aA).getD n .top=aA S[n]:=cQ _ _ _ h;have e:=JT Q S[n].1 Ω
  have:=vq Q S[n].1;refine⟨?_,by omega⟩
  simp only [uo,G9,bQ,h,i1,gf,fZ,f7,lP,sP,f8,ga,e,dO (n:=n) Ω]) S.length 0 P Ω Ω (by
  rw [zr];simp only [uo,G9,za,zy,zm,bE,aH];rfl)
 exact key
def xJl(q:Int)(a:List AV)(S:List aF)(hS:S.length<=262144)(P:List Int)(hP:P.length<=262144):aB (Av q a (S.map aA)) (P.map encN,(0:Int))=some ((insS P S).map encN):=by
 have key:=JV (step:=Av q a (S.map aA)) (r:=(insS P S).map encN) S (fun P s=>dK P s.1) (fun k P=>(P.map encN,(k:Int))) (fun k P'=>P'.length<=P.length+k) (fun n h Q hQ=>by
  have i1:(n:Int)<(S.length:Int):=Ω
  have gf:(S.map aA).getD n .top=aA S[n]:=cQ _ _ _ h;have e:=JT Q S[n].1 Ω
  have:=vq Q S[n].1;refine⟨?_,by omega⟩
  simp only [Av,Ha,bQ,h,i1,gf,fZ,f7,lP,sP,f8,ga,e,dO (n:=n) Ω]) S.length 0 P Ω Ω (by
  rw [zr];simp only [Av,Ha,za,zy,zm,bE,aH];rfl)
 exact key
def UU(q:Int)(hS:aJ N 1099511627776 S)(hT:aJ M 1099511627776 T)(lS:S.length<=131072)(lT:T.length<=131072)(hF:∀t,BS q (N t) (M t)=F t)(D:List Int)(hD:∀x,x∈D->0<=x/\x<1099511627776)(hl:D.length<=1048576):∀(d k:Nat)(out:List aF),k+d=D.length->out.length<=k->aB (Aw q (S.map aA) (T.map aA) (D.map encN)) (out.length,(k:Int),out.map aA)=some (((D.drop k).foldl (λ S x=>cA S x (F x)) out).length,((D.drop k).foldl (λ S x=>cA S x (F x)) out).map aA)|0,k,out,hk,ho=>by(have:k=D.length:=Ω);subst this;refine cR ?_;simp[Aw,Hb,bE,aH]|d+1,k,out,hk,ho=>by(have J:k<D.length:=Ω);obtain⟨h0,h1⟩:=hD D[k] (zo J);have a1:=TP hS Ω h0 h1;have a2:=TP hT Ω h0 h1;obtain⟨p,p1,p2,p3⟩:=yy out D[k] (F D[k]) Ω;(have gf:(D.map encN).getD k .top=encN D[k]:=cQ _ _ _ J;have i1:(k:Int)<(D.length:Int):=Ω);have e:D.drop k=D[k]::D.drop (k+1):=List.drop_eq_getElem_cons J;rw[e,List.foldl_cons,<-UU q hS hT lS lT hF D hD hl d (k+1) (cA out D[k] (F D[k])) Ω (by have:=vA out D[k] (F D[k]);omega)];refine en ?_;rw[<-p2,<-p3];simp only[Aw,Hb,xo,Ny,bQ,J,i1,gf,cN,sN,a1,a2,hF,p1,dO (n:=k) Ω]
def TQ(J:Int)(hS:aJ N 1099511627776 S)(hT:aJ M 1099511627776 T)(lS:S.length<=131072)(lT:T.length<=131072)(hF:∀t,BS J (N t) (M t)=F t):∃U:List aF,BE J (S.map aA) (T.map aA)=some (U.map aA)/\aJ F 1099511627776 U/\U.length<=S.length+T.length:=by
 have d1:=xJk J S (T.map aA) Ω [] Ψ;have V:=RQ S [];rw[List.length_nil,zH]at V;have d2:=xJl J (S.map aA) T Ω (insS [] S) Ω;have lD:=RQ T (insS [] S);have hm:∀x,x∈insS (insS [] S) T↔(∃s,s∈S/\s.1=x)\/∃s,s∈T/\s.1=x:=λ x=>by rw[RR,RR];simp
 have ha:nf (insS (insS [] S) T):=RP T (RP S List.Pairwise.nil);generalize insS (insS [] S) T=D at d2 lD hm ha;have hr:∀x,x∈D->0<=x/\x<1099511627776:=λ x hx=>by rcases(hm x).1 hx with⟨s,hs,rfl⟩|⟨s,hs,rfl⟩;have:=(hS.mem s).1 hs;exact⟨this.1,this.2.1⟩;have:=(hT.mem s).1 hs;exact⟨this.1,this.2.1⟩
 obtain⟨hp,hf⟩:=hS.first;have h0:(0:Int)∈D:=(hm 0).2 (.inl ⟨S[0],zo hp,hf⟩);have h4:aJ F 1099511627776 (D.foldl (λ S x=>cA S x (F x)) []):=by refine RD D ha 0 [] (.nil F) (λ h=>by omega) (Int.le_refl 0) (λ _=>.inl ?_) (λ x hx=>(hr x hx).2) (λ t ht W O hc=>?_) (λ h=>by rw[h]at h0;simp at h0) Ω;(cases D with|nil=>simp at h0|cons x D=>refine⟨x,rfl,?_⟩;rcases zC.1 h0 with h|h;exact h.symm;have:=(zM.1 ha).1 0 h;have:=(hr x Ψ).1;omega);(have:N (t - 1)≠N t\/M (t - 1)≠M t:=by by_cases Q:N (t - 1)=N t;right;intro h5;refine hc ?_;rw[<-hF,<-hF,Q,h5];exact .inl Q);rcases this with h|h;exact(hm t).2 (.inl ⟨(t,N t),(hS.mem (t,N t)).2 ⟨by simp only;omega,O,rfl,.inr h⟩,rfl⟩);exact(hm t).2 (.inr ⟨(t,M t),(hT.mem (t,M t)).2 ⟨by simp only;omega,O,rfl,.inr h⟩,rfl⟩)
 have q:=UU J hS hT lS lT hF D hr Ω D.length 0 [] Ω Ψ;rw[zr]at q;have hU:=BN (F:=F) D [];refine⟨_,?_,h4,by simp at hU;omega⟩;generalize D.foldl (λ S x=>cA S x (F x)) []=U at q;have d1:aB (uo J (S.map aA) (T.map aA)) ([],(0:Int))=some ((insS [] S).map encN):=d1;have q:aB (Aw J (S.map aA) (T.map aA) (D.map encN)) ((0:Nat),(0:Int),[])=some (U.length,U.map aA):=q;have tt:List.take U.length (U.map aA)=U.map aA:=zi Ψ;unfold BE OF;simp only[Bi,N9,d1,d2,q,zk,zh,aW,zH,za,zd,zn,zS,zr,tt,aH]
def xJQ{N M:Int->Nat}(hS:aJ (λ t=>(N t:Int)) 1099511627776 S)(hT:aJ (λ t=>(M t:Int)) 1099511627776 T)(lS:S.length<=131072)(lT:T.length<=131072)(hN:∀t,N t<=1048576)(hM:∀t,M t<=1048576):∃U:List aF,J1 (S.map aA) (T.map aA)=some (U.map aA)/\aJ (λ t=>(N t:Int) - (M t:Int)) 1099511627776 U/\U.length<=S.length+T.length:=by
 obtain ⟨U,h1,h2,h3⟩:=TQ 2 hS hT lS lT (F:=fun t=>(N t:Int) - (M t:Int)) (fun t=>by
  have:=hN t;have:=hM t;unfold BS;simp only[show ((2:Int)==1)=false from rfl,show ((2:Int)==2)=true from rfl,aW,bE,aH]
  rw [il Ω Ω])
 refine⟨U,?_,h2,h3⟩;unfold J1 Qr;simp only[h1,zk,zh,aW,aH]
def xJO{N M:Int->Nat}(hS:aJ (λ t=>(N t:Int)) 1099511627776 S)(hT:aJ (λ t=>(M t:Int)) 1099511627776 T)(lS:S.length<=131072)(lT:T.length<=131072):∃U:List aF,J0 (S.map aA) (T.map aA)=some (U.map aA)/\aJ (λ t=>((min (N t) (M t):Nat):Int)) 1099511627776 U/\U.length<=S.length+T.length:=by
 obtain ⟨U,h1,h2,h3⟩:=TQ 3 hS hT lS lT (F:=fun t=>((min (N t) (M t):Nat):Int)) (fun t=>by
  unfold BS;simp only[show ((3:Int)==1)=false from rfl,show ((3:Int)==2)=false from rfl,show ((3:Int)==3)=true from rfl,aW,bE,aH]
  split<;>omega)
 refine⟨U,?_,h2,h3⟩;unfold J0 Qp;simp only[h1,zk,zh,aW,aH]
def ZT{a b:Int}(h:∀t,a<t->t<b->N (t - 1)=N t):∀(d:Nat)(t:Int),t=a+d->t<b->N t=N a|0,t,e,_=>by rw[e];simp|d+1,t,e,hb=>by rw[<-h t Ω hb];exact ZT h d (t - 1) Ω Ω
def xGI(hS:aJ N 1099511627776 S)(hi:i<S.length):0<=pos S i/\pos S i<pos S (i+1)/\pos S (i+1)<=1099511627776/\S[i].2=N S[i].1/\∀t,pos S i<=t->t<pos S (i+1)->N t=N S[i].1:=by
 obtain⟨m1,m2,m3,_⟩:=(hS.mem S[i]).1 (zo hi);rw[pQ hi];have hb:S[i].1<pos S (i+1)/\pos S (i+1)<=1099511627776:=by by_cases h:i+1<S.length;rw[pQ h];have:=zB.1 hS.asc i (i+1) hi h Ω;have:=((hS.mem S[i+1]).1 (zo h)).2.1;omega;rw[Ck Ω];omega
 refine⟨m1,hb.1,hb.2,m3,λ t h1 h2=>ZT (a:=S[i].1) (b:=pos S (i+1)) (λ u u1 u2=>?_) (t - S[i].1).toNat t Ω h2⟩;by_cases e:N (u - 1)=N u;exact e;have hu:(u,N u)∈S:=(hS.mem _).2 ⟨by dsimp only;omega,by dsimp only;omega,rfl,.inr (by dsimp only;omega)⟩;obtain⟨k,hk,q⟩:=zp.1 hu;have O:S[k].1=u:=by rw[q]
 rcases zJ i k with J|J;have:i+1<S.length:=Ω
 rw[pQ this]at u2;rcases zJ (i+1) k with h3|h3;have:=zB.1 hS.asc (i+1) k this hk h3;omega;obtain rfl:k=i+1:=Ω
 omega;rcases zJ k i with h3|h3;have:=zB.1 hS.asc k i hk hi h3;omega;obtain rfl:k=i:=Ω
 omega
def xGJ(hS:aJ N 1099511627776 S):pos S 0=0:=by
 have h0:((0:Int),N 0)∈S:=(hS.mem _).2 ⟨by simp,by simp,rfl,.inl rfl⟩;obtain⟨k,hk,J⟩:=zp.1 h0;have h:0<S.length:=Ω
 have p0:=((hS.mem S[0]).1 (zo h)).1;rw[pQ h];have q:S[k].1=0:=by rw[J]
 rcases zJ 0 k with h3|h3;have:=zB.1 hS.asc 0 k h hk h3;omega;obtain rfl:k=0:=Ω
 exact q
def Sc(hS:aJ N 1099511627776 S)(hl:S.length<=524289)(n:Int):∀(d i:Nat)(out:List aF),i+d=S.length->cU out (pos S i) (λ t=>decide (n<=N t))->out.length<=i->
  ∃J:List aF,aB (mN (S.map aA) n) (out.length,(i:Int),out.map aA)=some (J.length,J.map aA)/\cU J 1099511627776 (λ t=>decide (n<=N t))/\J.length<=S.length
 |0,i,out,h,ho,hn=>by
  obtain rfl:i=S.length:=by omega
  rw[Ck (zd _)]at ho;refine⟨out,cR ?_,ho,hn⟩;simp only[mN,pz,za,zy,zm,bE,aH]
 |d+1,i,out,h,ho,hn=>by
  have hi:i<S.length:=by omega
  obtain⟨p1,p2,p3,p4,p5⟩:=xGI hS hi;have i1:(i:Int)<(S.length:Int):=by omega
  have gf:(S.map aA).getD i .top=aA S[i]:=cQ _ _ _ hi;have wi:=dO (n:=i) (by omega)
  have pe:=pQ hi;by_cases Q:S[i].2>=n
  . have hK:∀t,pos S i<=t->t<pos S (i+1)->(λ t=>decide (n<=N t)) t=true:=λ t t1 t2=>by
     dsimp only;rw[p5 t t1 t2,<-p4];exact decide_eq_true Q
    obtain⟨j1,j2⟩:=xzP ho p1 p2 p3 hK;obtain⟨q,q1,q2,q3⟩:=Ui out (pos S i) (pos S (i+1)) p2 ho.low (by omega)
    obtain⟨J,e',x1,x2⟩:=Sc hS hl n d (i+1) (joined out (pos S i) (pos S (i+1))) (by omega) j1 (by omega)
    refine⟨J,(en (s':=((joined out (pos S i) (pos S (i+1))).length,((i+1:Nat):Int),(joined out (pos S i) (pos S (i+1))).map aA)) ?_).trans e',x1,x2⟩;rw[<-q2,<-q3];by_cases O:i+1<S.length
    . have i2:((i+1:Nat):Int)<(S.length:Int):=by omega
      have gn:(S.map aA).getD (i+1) .top=aA S[i+1]:=cQ _ _ _ O;rw[pQ O,pe]at q1;simp only[mN,pz,rQ,oz,oy,rN,rO,bQ,i1,i2,hi,O,gf,gn,fZ,f7,lP,sP,f8,ga,Q,wi,q1]
    . have i2:¬ ((i+1:Nat):Int)<(S.length:Int):=by omega
      rw[Ck (S:=S) (i:=i+1) (by omega),pe]at q1
      simp only[mN,pz,rQ,oz,oy,rN,rO,bQ,i1,i2,hi,gf,fZ,f7,lP,sP,f8,ga,Q,wi,q1]
  . have hK:∀t,pos S i<=t->t<pos S (i+1)->(λ t=>decide (n<=N t)) t=false:=λ t t1 t2=>by
     dsimp only;rw[p5 t t1 t2,<-p4];exact decide_eq_false (by omega)
    obtain⟨J,e',x1,x2⟩:=Sc hS hl n d (i+1) out (by omega) (ho.skip (by omega) hK) (by omega)
    refine⟨J,(en (s':=(out.length,((i+1:Nat):Int),out.map aA)) ?_).trans e',x1,x2⟩;by_cases O:i+1<S.length
    . have i2:((i+1:Nat):Int)<(S.length:Int):=by omega
      have gn:(S.map aA).getD (i+1) .top=aA S[i+1]:=cQ _ _ _ O;simp only[mN,pz,rQ,oz,oy,rN,rO,bQ,i1,i2,hi,O,gf,gn,fZ,f7,lP,sP,f8,ga,Q,wi]
    . have i2:¬ ((i+1:Nat):Int)<(S.length:Int):=by omega
      simp only[mN,pz,rQ,oz,oy,rN,rO,bQ,i1,i2,hi,gf,fZ,f7,lP,sP,f8,ga,Q,wi]
def xI2(h0:∀t,t<0\/1099511627776<=t->N t<=0)(hS:aJ N 1099511627776 S)(hl:S.length<=524289)(k:Nat):∃A:List aF,mM (S.map aA) ((k+1:Nat):Int)=some (A.map aA)/\(aZ A/\∀t,inL A t=decide ((k:Int)<N t))/\A.length<=S.length:=by obtain⟨A,e,a1,a2⟩:=Sc hS hl ((k+1:Nat):Int) S.length 0 [] Ω (by rw[xGJ hS];exact Rv _) (zd _);refine⟨A,?_,⟨a1.span,λ t=>?_⟩,a2⟩;have e:aB (mN (S.map aA) ((k+1:Nat):Int)) ((0:Nat),(0:Int),[])=_:=e;have tt:List.take A.length (A.map aA)=A.map aA:=zi Ψ;unfold mM HW;simp only[AY,e,zk,zh,aW,zH,za,zd,zn,zS,zr,tt,aH];rw[a1.done];by_cases h1:0<=t;by_cases h2:t<1099511627776;simp only[h1,h2,zn,Bool.true_and];rw[Bool.eq_iff_iff,zl,zl];omega;have:=h0 t (.inr Ω);simp[h2];omega;have:=h0 t (.inl Ω);simp[h1];omega
def xCX(hH:H<=1048575)(hN:∀t,F t<=H)(h0:∀t,t<0\/1099511627776<=t->F t<=0)(hS:aJ F 1099511627776 S)(hl:S.length<=524289):∃P,mW (S.map aA)=some (P.map aA)/\bA (λ t=>(F t).toNat) P:=by
 have ha:=xI2 h0 hS hl;have hA:=λ k=>Classical.choose_spec (ha k);obtain⟨A,q⟩:∃A:Nat->List aF,A=λ k=>Classical.choose (ha k):=⟨_,rfl⟩;have hA:∀k,mM (S.map aA) ((k+1:Nat):Int)=some ((A k).map aA)/\(aZ (A k)/\∀t,inL (A k) t=decide ((k:Int)<F t))/\(A k).length<=S.length:=λ k=>by rw[q];exact hA k
 have hE:A H=[]:=Fs (hA H).2.1.1 λ t=>by rw[(hA H).2.1.2];have:=hN t;simp;omega
 obtain⟨K,P,e,k1,k2,p1,s1⟩:=Sp A S.length hl (λ k=>⟨(hA k).1,(hA k).2.2⟩) H hH hE H 0 [] Ω List.Pairwise.nil Ψ;refine⟨P,?_,s1,A,K,λ t=>?_,λ k=>⟨(hA k).2.1.1,λ t=>?_⟩,p1⟩;have e:aB (uw (S.map aA)) ([],(1:Int))=_:=e;unfold mW I0;simp only[DP,e,zk,zh,aW,aH];have:=(hA K).2.1.2 t;rw[k1,m9]at this;have:=of_decide_eq_false this.symm;omega;rw[(hA k).2.1.2 t,Bool.eq_iff_iff,zl,zl];omega
def Ls(v:Val):Prop:=-1125899906842624<=v.i/\v.i<=1125899906842624
def K0(v:Val):Prop:=v.wf/\v.t.length<=1073741824
def sI{n:Int}(h1:-9223372036854775808<=n)(h2:n<=9223372036854775807):(Lit.int .i64 n).wf:=by show (decide ((IntKind.i64).min<=n)&&decide (n<=(IntKind.i64).max))=true;rw[zf,zl,zl];exact⟨h1,h2⟩
def L8(v:Val):cX (Sh.int .i64) ((encV v).cells.getD 0 .top):=rfl
def qH(v:Val):Prop:=K0 v/\Ls v
def xz3(s:List UInt8)(hl:s.length<=200):∀d k:Nat,k+d=s.length->∃b,aB (rK s) (k:Int)=some (b,false,())|0,k,h=>by(have hk:k=s.length:=Ω);subst hk;refine⟨false,cR ?_⟩;simp only[rK,Ao,zy,zm,bE,aH]|d+1,k,h=>by(have h1:(k:Int)<(s.length:Int):=Ω);by_cases c1:(((s.getD k (0:UInt8)).toNat:Nat):Int)<32;refine⟨true,cR ?_⟩;simp only[rK,Ao,bQ,h1,c1];by_cases c2:(((s.getD k (0:UInt8)).toNat:Nat):Int)>126;refine⟨true,cR ?_⟩;simp only[rK,Ao,bQ,h1,c1,c2];obtain⟨b,ih⟩:=xz3 s hl d (k+1) Ω;refine⟨b,?_⟩;rw[<-ih];refine en ?_;simp only[rK,Ao,bQ,h1,c1,c2,dO (n:=k) Ω]
def xIb(s:List UInt8)(hl:s.length<=200):∃b,HX s=some b:=by obtain⟨b,e⟩:=xz3 s hl s.length 0 Ω;have e:aB (rK s) (0:Int)=some (b,false,()):=e;unfold HX Oa;rw[e];cases b with|true=>exact⟨false,rfl⟩|false=>exact⟨true,rfl⟩
def xJS(k i:Int)(t:List UInt8):∃b,Qs k i t=some b/\(b->qH ⟨k,i,t⟩):=by
 have G:0<=k->k<=3->-1125899906842624<=i->i<=1125899906842624->t.length<=200->qH ⟨k,i,t⟩:=λ h1 h2 h3 h4 h5=>
  ⟨⟨⟨sI (show -9223372036854775808<=k by omega) (show k<=9223372036854775807 by omega),sI (show -9223372036854775808<=i by omega) (show i<=9223372036854775807 by omega),by show t.length<=maxLen;unfold maxLen;omega⟩,by show t.length<=_;omega⟩,⟨h3,h4⟩⟩
 unfold Qs PL;by_cases k0:k=0;by_cases i0:i=0;refine⟨t==[],by simp[eh,k0,i0,aH],λ h=>?_⟩;have:t=[]:=by simpa using h
 exact G Ω Ω Ω Ω (by rw[this];simp);exact⟨false,by simp[eh,k0,i0,aH],λ h=>by simp at h⟩;by_cases k1:k=1;by_cases t0:t=[];by_cases i0:i>=-1125899906842624;refine⟨decide (i<=1125899906842624),by simp[eh,k1,t0,i0,aH],λ h=>?_⟩;have:i<=1125899906842624:=by simpa using h
 exact G Ω Ω Ω Ω (by rw[t0];simp);exact⟨false,by simp[eh,k1,t0,i0,aH],λ h=>by simp at h⟩;exact⟨false,by simp[eh,k1,t0,aH],λ h=>by simp at h⟩;by_cases k2:k=2;by_cases i0:i=0;by_cases tl:(t.length:Int)<=200;obtain⟨b,hb⟩:=xIb t Ω;refine⟨b,by simp[eh,k2,i0,tl,hb,aH],λ h=>?_⟩;exact G Ω Ω Ω Ω Ω;exact⟨false,by simp[eh,k2,i0,tl,aH],λ h=>by simp at h⟩;exact⟨false,by simp[eh,k2,i0,aH],λ h=>by simp at h⟩;by_cases k3:k=3;by_cases t0:t=[];by_cases i0:i=0;exact⟨true,by simp[eh,k3,t0,i0,aH],λ h=>G Ω Ω Ω Ω (by rw[t0];simp)⟩;refine⟨i==1,by simp[eh,k3,t0,i0,aH],λ h=>?_⟩;have:i=1:=by simpa using h
 exact G Ω Ω Ω Ω (by rw[t0];simp);exact⟨false,by simp[eh,k3,t0,aH],λ h=>by simp at h⟩;exact⟨false,by simp[eh,k0,k1,k2,k3,aH],λ h=>by simp at h⟩
def xzF(row:Row)(q:List Int)(hl:row.length=q.length)(hk:q.length<=48):∀d n:Nat,n+d=row.length->∃b,aB (qQ (row.map encV) (q.map encN)) (n:Int)=some (!b,false,())/\(b=true->∀v,v∈row.drop n->qH v)
 |0,n,h=>by
  have hn:n=row.length:=by omega
  subst hn;refine⟨true,cR ?_,λ _ v hv=>by rw[zq (zd _)]at hv;simp at hv⟩
  simp only[qQ,xV,za,zy,zm,bE,Bool.not_true,aH]
 |d+1,n,h=>by
  have hn:n<row.length:=by omega
  have J:n<q.length:=by omega
  have h1:(n:Int)<(row.length:Int):=by omega
  have h2:(n:Int)<(q.length:Int):=by omega
  have gf:(row.map encV).getD n .top=encV row[n]:=cQ _ _ _ hn;have gk:(q.map encN).getD n .top=encN q[n]:=cQ _ _ _ J;obtain⟨b1,e1,g1⟩:=xJS row[n].k row[n].i row[n].t;cases b1 with
  |false=>
   refine⟨false,cR ?_,λ h=>by simp at h⟩
   simp only[qQ,xV,Bc,bQ,hn,h1,gf,tW,tX,tY,lV,sV,e1]
  |true=>
   obtain⟨b,ih,O⟩:=xzF row q hl hk d (n+1) (by omega)
   have hd:∀c,c=true->b=c->∀v,v∈row.drop n->qH v:=λ c hc hb v hv=>by
    rw[jq hn]at hv;rcases zC.1 hv with rfl|hv
    . exact g1 rfl
    . exact O (by rw[hb,hc]) v hv
   by_cases k0:row[n].k=0
   . refine⟨b,?_,λ hb=>hd true rfl hb⟩
     rw[<-ih];refine en ?_;have k0':(row[n].k !=0)=false:=by simp[k0]
     simp only[qQ,xV,Bc,bQ,hn,h1,gf,tW,tX,tY,lV,sV,L8,e1,k0',dO (n:=n) (by omega)]
   . have k0':(row[n].k !=0)=true:=by simp[k0]
     by_cases kk:row[n].k=q[n]
     . refine⟨b,?_,λ hb=>hd true rfl hb⟩
       rw[<-ih];refine en ?_;have kk':(row[n].k !=q[n])=false:=by simp[kk]
       simp only[qQ,xV,Bc,bQ,hn,J,h1,h2,gf,gk,tW,tX,tY,lV,sV,cN,sN,L8,e1,k0',kk',dO (n:=n) (by omega)]
     . have kk':(row[n].k !=q[n])=true:=by simp[kk]
       refine⟨false,cR ?_,λ h=>by simp at h⟩
       simp only[qQ,xV,Bc,bQ,hn,J,h1,h2,gf,gk,tW,tX,tY,lV,sV,cN,sN,L8,e1,k0',kk']
def xIn(row:Row)(q:List Int)(hk:q.length<=48):∃b,JF (row.map encV) (q.map encN)=some b/\(b->row.length=q.length/\∀v,v∈row->qH v):=by unfold JF PU;by_cases hl:row.length=q.length;obtain⟨b,e,g⟩:=xzF row q hl hk row.length 0 Ω;have e:aB (qQ (row.map encV) (q.map encN)) (0:Int)=_:=e;refine⟨b,?_,λ hb=>⟨hl,by simpa using g hb⟩⟩;rw[e];simp only[bQ,hl,bne_self_eq_false];cases b<;>rfl;refine⟨false,?_,λ h=>by simp at h⟩;(have:(((row.length:Nat):Int) !=((q.length:Nat):Int)):=by simp;omega);simp only[za,this,aW,aH]
def xzQ(q:List Int)(hk:q.length<=48):∀d n:Nat,n+d=q.length->∃b,aB (sT (q.map encN)) (n:Int)=some (b,false,())|0,n,h=>by(have hn:n=q.length:=Ω);subst hn;refine⟨false,cR ?_⟩;simp only[sT,DR,za,zy,zm,bE,aH]|d+1,n,h=>by(have hn:n<q.length:=Ω);(have h1:(n:Int)<(q.length:Int):=Ω);have gk:(q.map encN).getD n .top=encN q[n]:=cQ _ _ _ hn;cases c:QT q[n]with|false=>refine⟨true,cR ?_⟩;simp only[sT,DR,bQ,hn,h1,gk,cN,sN,c]|true=>obtain⟨b,ih⟩:=xzQ q hk d (n+1) Ω;refine⟨b,?_⟩;rw[<-ih];refine en ?_;simp only[sT,DR,bQ,hn,h1,gk,cN,sN,c,dO (n:=n) Ω]
def xEZ(q:List Int)(hk:q.length<=48):∃b,Jw (q.map encN)=some b:=by obtain⟨b,e⟩:=xzQ q hk q.length 0 Ω;have e:aB (sT (q.map encN)) (0:Int)=some (b,false,()):=e;unfold Jw PN;rw[e];cases b with|true=>exact⟨false,rfl⟩|false=>exact⟨true,rfl⟩
def ng(q:List Int)(f:Fc):Prop:=pv f.p/\f.r.length=q.length/\∀v,v∈f.r->qH v
def Z5(q:List Int)(hk:q.length<=48)(l:List Fc)(hl:l.length<=1024):∀d n:Nat,n+d=l.length->∃b,aB sU ((n:Int),q.map encN,l.map encF)=some (if b=true then(false,(false,[],[]),(q.map encN,l.map encF))else(true,(false,q.map encN,l.map encF),([],[])))/\(b=true->∀f,f∈l.drop n->ng q f)|0,n,h=>by(have hn:n=l.length:=by omega);subst hn;refine⟨true,cR ?_,λ _ v hv=>by rw[zq (zd _)]at hv;simp at hv⟩;simp only[sU,Bd,za,zy,zm,bE,if_true,aH]|d+1,n,h=>by(have hn:n<l.length:=by omega);(have h1:(n:Int)<(l.length:Int):=by omega);have gf:(l.map encF).getD n .top=encF l[n]:=cQ _ _ _ hn;obtain⟨b1,e1,g1⟩:=xIn l[n].r q hk;cases hv:pv l[n].p with|false=>refine⟨false,cR ?_,λ h=>by simp at h⟩;simp only[sU,Bd,bQ,hn,h1,gf,np,nq,nr,nF,nG,nH,lF,iJ,iI,BX,hv,if_false];simp|true=>cases b1 with|false=>refine⟨false,cR ?_,λ h=>by simp at h⟩;simp only[sU,Bd,bQ,hn,h1,gf,np,nq,nr,nF,nG,nH,lF,iJ,iI,BX,hv,e1];simp|true=>obtain⟨b,ih,J⟩:=Z5 q hk l hl d (n+1) (by omega);refine⟨b,?_,λ hb f hf=>?_⟩;rw[<-ih];refine en ?_;simp only[sU,Bd,bQ,hn,h1,gf,np,nq,nr,nF,nG,nH,lF,iJ,iI,BX,hv,e1,dO (n:=n) (by omega)];rw[jq hn]at hf;rcases zC.1 hf with rfl|hf;exact⟨hv,g1 rfl⟩;exact J hb f hf
def xIv(q:List Int)(hk:q.length<=48)(l:List Fc)(hl:l.length<=1024):∃b,Jx (q.map encN) (l.map encF)=some b/\(b=true->∀f,f∈l->ng q f):=by obtain⟨b,e,g⟩:=Z5 q hk l hl l.length 0 (by omega);have e:aB sU ((0:Int),q.map encN,l.map encF)=_:=e;obtain⟨bk,ek⟩:=xEZ q hk;unfold Jx PQ;cases b with|false=>rw[if_neg (by simp)]at e;refine⟨false,?_,λ h=>by simp at h⟩;simp only[D6,uH,bQ,e]|true=>(rw[if_pos rfl]at e;have h1:((q.length:Nat):Int)<=48:=by omega);by_cases h0:((q.length:Nat):Int)>0;refine⟨bk,?_,λ _ f hf=>g rfl f (by simpa using hf)⟩;simp only[D6,uH,bQ,e,h0,h1,ek];refine⟨false,?_,λ h=>by simp at h⟩;simp only[D6,uH,bQ,e,h0]
def To(a b:List Int)(ha:a.length<=1048576):Bu (a.map encN) (b.map encN)=some (decide (a=b)):=by
 unfold Bu Oc;by_cases hl:a.length=b.length;have e:aB (wW (a.map encN) (b.map encN)) (0:Int)=some (if a=b then(false,false,())else(true,false,())):=by refine U7 a b hl (λ n h h2=>?_) ?_;(have h1:(n:Int)<(a.length:Int):=Ω);(have h3:(n:Int)<(b.length:Int):=Ω);have gf:(a.map encN).getD n .top=encN a[n]:=cQ _ _ _ h;have gg:(b.map encN).getD n .top=encN b[n]:=cQ _ _ _ h2;simp only[wW,GP,bQ,h,h1,h2,h3,gf,gg,cN,sN,dO (n:=n) Ω];by_cases he:a[n]=b[n]<;>simp[he,aW,bE,eh,aH];simp only[wW,GP,za,zy,zm,bE,aH]
 have hne:(((a.length:Nat):Int) !=((b.length:Nat):Int))=false:=by simp[hl]
 simp only[za,hne,bE,e,aH];by_cases he:a=b<;>simp[he,aW,bE,aH];have hne:(((a.length:Nat):Int) !=((b.length:Nat):Int)):=by simp;omega
 have:a≠b:=λ e=>hl (by rw[e]);simp only[za,hne,aW,this,zm,aH]
def xHl(ka kb:List Int)(a b:List Fc)(hk:ka.length<=1048576)(h:a.length<=1048576)(hr:∀f,f∈a->f.r.length<=60):vc (ka.map encN) (a.map encF) (kb.map encN) (b.map encF)=some (decide (ka=kb)&&decide (a=b)):=by have e1:=To ka kb hk;have e2:=Ta a b h (λ f hf=>by have:=hr f hf;unfold maxLen;omega);unfold vc PO;simp only[e1,e2,zk,zh,aW,aH];cases decide (ka=kb)<;>simp[aW,bE,aH]
structure Ct (K:List Int) (l:List Fc):Prop where
 len:l.length<=16
 kl:K.length<=48
 fact:∀f,f∈l->ng K f
def VR(K:List Int)(l:List Fc):∃b,B4 (K.map encN) (l.map encF)=some b/\(b->Ct K l):=by unfold B4 QJ;simp only[za];by_cases h1:((l.length:Nat):Int)<=16;by_cases h2:((K.length:Nat):Int)<=48;obtain⟨b,e,g⟩:=xIv K Ω l Ω;refine⟨b,?_,λ hb=>⟨by omega,by omega,g hb⟩⟩;simp only[h1,h2,zn,aW,e,zk,zh,aH];refine⟨false,?_,λ h=>by simp at h⟩;simp only[h1,h2,zn,zm,aW,bE,aH];refine⟨false,?_,λ h=>by simp at h⟩;simp only[h1,zm,bE,aH]
def xJI(Ka Kb:List Int)(a b:List Fc):∃c,JC (Ka.map encN) (a.map encF) (Kb.map encN) (b.map encF)=some c/\(c->Ct Ka a/\Ct Kb b/\Ka=Kb):=by obtain⟨x,x1,x2⟩:=VR Ka a;obtain⟨y,y1,y2⟩:=VR Kb b;unfold JC Qj;cases x with|false=>exact⟨false,by simp only[x1,zk,zh,aW,bE,aH],λ h=>by simp at h⟩|true=>cases y with|false=>exact⟨false,by simp only[x1,y1,zk,zh,aW,bE,aH],λ h=>by simp at h⟩|true=>have e:=To Ka Kb (by have:=(x2 rfl).kl;omega);refine⟨decide (Ka=Kb),by simp only[x1,y1,e,zk,zh,aW,aH],λ h=>⟨x2 rfl,y2 rfl,by simpa using h⟩⟩
def bV(l:List Fc):Prop:=∀f,f∈l->f.r.length<=48/\∀v,v∈f.r->qH v
variable {K:List Int}
def Ct.nice{l:List Fc}(h:Ct K l):bV l:=λ f hf=>by have h1:=(h.fact f hf).2.1;have h2:=h.kl;exact⟨by omega,(h.fact f hf).2.2⟩
def bV.keyed{l:List Fc}(h:bV l)(hl:l.length<=1048576):Keyed l:=⟨⟨hl,λ f hf=>by have:=(h f hf).1;omega⟩,λ f hf=>⟨λ v hv=>⟨((h f hf).2 v hv).1.1,by have:=((h f hf).2 v hv).1.2;omega⟩,Rm (λ v hv=>((h f hf).2 v hv).1) (by have:=(h f hf).1;omega)⟩⟩
def bV.few{l:List Fc}(h:bV l)(hl:l.length<=1048576):pi l:=(h.keyed hl).1
def bV.bld{l:List Fc}(h:bV l)(hl:l.length<=1024)(q:kH l):vP l:=⟨h.keyed Ω,hl,q⟩
def bV.append{a b:List Fc}(ha:bV a)(hb:bV b):bV (a++b):=λ f hf=>by rcases zG.1 hf with h|h;exact ha f h;exact hb f h
def bV.of{a b l:List Fc}(ha:bV a)(hb:bV b)(h:∀f,f∈l->(∃x,x∈a/\x.r=f.r)\/∃x,x∈b/\x.r=f.r):bV l:=λ f hf=>by rcases h f hf with⟨x,hx,e⟩|⟨x,hx,e⟩;rw[<-e];exact ha x hx;rw[<-e];exact hb x hx
def xED(a b:List Fc)(h:a.length+b.length<=1048576):EB (a.map encF) (b.map encF)=some ((a++b).map encF):=by
 have m1:a.length*40<=140737488355328:=Ω
 have m2:a.length<=4611686018427387904:=Ω
 have m3:(a.length+b.length)*40<=140737488355328:=Ω
 have m4:a.length+b.length<=4611686018427387904:=Ω
 have tt:List.take (a.length+b.length) (a.map encF++b.map encF)=a.map encF++b.map encF:=zi Ψ;unfold EB Pa;simp only[za,z8,m1,m2,m3,m4,zH,zd,zn,Bool.and_self,beq_self_eq_true,aW,zr,tt,zx,aH]
def xG0(ka kb:List AV)(a b:List Fc)(ha:bV a)(hb:bV b)(hl:a.length+b.length<=1024):∃B:List Fc,EM ka (a.map encF) kb (b.map encF)=some (ka,B.map encF)/\jP (λ r t=>cnt a r t+cnt b r t) B:=by have e1:=xED a b Ω;obtain⟨B,b1,b2⟩:=xJK (a++b) ((ha.append hb).few (by rw[z8];omega)) (by rw[z8];omega);refine⟨B,?_,b2.isB.congr λ r t=>JL a b r t⟩;unfold EM Pv;simp only[e1,b1,zk,zh,aW,aH]
def xBU(ka:List AV)(a:List Fc)(ha:bV a)(hl:a.length<=1024):∃B:List Fc,D7 ka (a.map encF)=some (ka,B.map encF)/\mS a B:=by obtain⟨B,b1,b2⟩:=xJP a (ha.few Ω) hl;refine⟨B,?_,b2⟩;unfold D7 Ou;simp only[b1,zk,zh,aW,aH]
def PJ:∀(R l:List Row),R.Nodup->(∀r,r∈R->r∈l)->R.length<=l.length
 |[],l,_,_=>by simp
 |r::R,l,h,hs=>by
  obtain ⟨n1,n2⟩:=List.nodup_cons.1 h;have h1:=PJ R (l.filter fun x=>!decide (x=r)) n2 fun x hx=>List.mem_filter.2 ⟨hs x (by simp [hx]),by
   have:x≠r:=λ e=>n1 (e▸hx)
   simp [this]⟩
  have h2:(l.filter λ x=>!decide (x=r)).length<l.length:=List.length_filter_lt_length_iff_exists.2 ⟨r,hs r (by simp),by simp⟩
  rw[zF];omega
def Ww{n:Nat}(h:n<=1048576*2048)(hm:m<=2048):(n+m)*40<=140737488355328/\n+m<=4611686018427387904:=Ω
def KY(a b:List Fc)(r:Row)(P:List aF):Prop:=∃S T U:List aF,mX (a.map encF) (r.map encV)=some (S.map aA)/\mX (b.map encF) (r.map encV)=some (T.map aA)/\J1 (S.map aA) (T.map aA)=some (U.map aA)/\mW (U.map aA)=some (P.map aA)/\bA (λ t=>cnt a r t - cnt b r t) P/\P.length<=a.length+b.length
def xLG(a b:List Fc)(ha:bV a)(hb:bV b)(hl:a.length+b.length<=2048)(r:Row):∃P,KY a b r P:=by obtain⟨S,s1,s2,s3⟩:=E9 a r (λ f hf=>by have:=(ha f hf).1;unfold maxLen;omega) Ω;obtain⟨T,t1,t2,t3⟩:=E9 b r (λ f hf=>by have:=(hb f hf).1;unfold maxLen;omega) Ω;have la:=FH a r;have lb:=FH b r;obtain⟨U,u1,u2,u3⟩:=xJQ s2 t2 Ω Ω (λ t=>by have:=la t;omega) (λ t=>by have:=lb t;omega);obtain⟨P,p1,p2⟩:=xCX (F:=λ t=>((cnt a r t:Nat):Int) - ((cnt b r t:Nat):Int)) (H:=a.length) Ω (λ t=>by have:=la t;omega) (λ t ht=>by rw[Ky a r t ht];omega) u2 Ω;rw[show (λ t=>(((cnt a r t:Nat):Int) - ((cnt b r t:Nat):Int)).toNat)=λ t=>cnt a r t - cnt b r t from funext λ t=>by omega]at p2;(refine⟨P,S,T,U,s1,t1,u1,p1,p2,?_⟩;obtain⟨E,e1,e2⟩:=SU.inc (eZ a r) (eZ b r);have:=yf p2 E λ t=>by have:=e2 t;rw[oI,oI,oI,oI]at this;exact this);have:=Ch a r;have:=Ch b r;omega
def ZZ(a b:List Fc)(ka kb ko:List AV)(hl:a.length+b.length<=2048)(R:List Row)(hR:R.length<=1048576)(L:Row->List aF)(hL:∀r,r∈R->KY a b r (L r)):∀(d k:Nat)(D:List Fc),k+d=R.length->D.length<=2048*k->
  aB (At (R.map encR)) ((k:Int),ka,a.map encF,kb,b.map encF,ko,D.length,D.map encF)=some (ko,(D++cE (R.drop k) L).length,(D++cE (R.drop k) L).map encF)
 |0,k,D,hk,hD=>by
  have:k=R.length:=by omega
  subst this;refine cR ?_;rw[zq (zd _)];simp[cE,At,HM,bE,aH]
 |d+1,k,D,hk,hD=>by
  have q:k<R.length:=by omega
  have i1:(k:Int)<(R.length:Int):=by omega
  have gf:(R.map encR).getD k .top=encR R[k]:=cQ _ _ _ q;obtain⟨S,T,U,q1,q2,q3,q4,q5,q6⟩:=hL R[k] (zo q);have ed:=JE R[k] (L R[k]) (by omega)
  have ml:(mk R[k] (L R[k])).length<=2048:=by unfold mk;rw[za];omega
  obtain⟨m1,m2⟩:=Ww (n:=D.length) (m:=(mk R[k] (L R[k])).length) (by omega) ml
  have e:D++cE (R.drop k) L=(D++mk R[k] (L R[k]))++cE (R.drop (k+1)) L:=by
   rw[List.drop_eq_getElem_cons q,zw];rfl
  rw[e,<-ZZ a b ka kb ko hl R hR L hL d (k+1) (D++mk R[k] (L R[k])) (by omega) (by rw[z8];omega)]
  refine en ?_;simp only[At,HM,HC,HD,HE,bQ,q,i1,gf,p9,qw,q1,q2,q3,q4,ed,m1,m2,dO (n:=k) (by omega),z8,zx,Bool.and_self]
def xEY(ka kb:List AV)(a b:List Fc)(ha:bV a)(hb:bV b)(hl:a.length+b.length<=2048):∃B:List Fc,EA ka (a.map encF) kb (b.map encF)=some (ka,B.map encF)/\jP (λ r t=>cnt a r t - cnt b r t) B:=by obtain⟨R,r1,r2⟩:=R8 a (ha.few Ω);(have q:R.length<=a.length:=by(have h:=r2.1.nodup mO;have:R.length<=(a.map (·.r)).length:=PJ R _ h λ r hr=>by obtain⟨f,hf,e,_⟩:=(r2.2 r).1 hr;exact zK.2 ⟨f,hf,e⟩);simpa using this);obtain⟨L,hL⟩:=vk (R:=R) (Q:=KY a b) λ r _=>xLG a b ha hb hl r;have e:=ZZ a b ka kb ka hl R Ω L hL R.length 0 [] Ω Ψ;rw[zr,zU]at e;have e:aB (At (R.map encR)) ((0:Int),ka,a.map encF,kb,b.map encF,ka,(0:Nat),[])=some (ka,(cE R L).length,(cE R L).map encF):=e;refine⟨cE R L,?_,R,L,r2.1,λ r t ht=>?_,λ r hr=>?_,rfl⟩;generalize cE R L=B at e;have tt:List.take B.length (B.map encF)=B.map encF:=zi Ψ;unfold EA O9;simp only[Bw,OQ,r1,e,zk,zh,aW,zH,za,zd,zn,zS,zr,tt,aH];exact(r2.2 r).2 (yo.2 ⟨t,by have ht:0<cnt a r t - cnt b r t:=ht;omega⟩);obtain⟨S,T,U,q1,q2,q3,q4,q5,q6⟩:=hL r hr;exact q5
def KX(a b:List Fc)(r:Row)(P:List aF):Prop:=∃S T U:List aF,mX (a.map encF) (r.map encV)=some (S.map aA)/\mX (b.map encF) (r.map encV)=some (T.map aA)/\J0 (S.map aA) (T.map aA)=some (U.map aA)/\mW (U.map aA)=some (P.map aA)/\bA (λ t=>min (cnt a r t) (cnt b r t)) P/\P.length<=a.length+b.length
def xLF(a b:List Fc)(ha:bV a)(hb:bV b)(hl:a.length+b.length<=2048)(r:Row):∃P,KX a b r P:=by obtain⟨S,s1,s2,s3⟩:=E9 a r (λ f hf=>by have:=(ha f hf).1;unfold maxLen;omega) Ω;obtain⟨T,t1,t2,t3⟩:=E9 b r (λ f hf=>by have:=(hb f hf).1;unfold maxLen;omega) Ω;have la:=FH a r;have lb:=FH b r;obtain⟨U,u1,u2,u3⟩:=xJO s2 t2 Ω Ω;obtain⟨P,p1,p2⟩:=Z3 (N:=λ t=>min (cnt a r t) (cnt b r t)) (H:=a.length) Ω (λ t=>by have:=la t;omega) (λ t ht=>by rw[Ky a r t ht];omega) u2 Ω;(refine⟨P,S,T,U,s1,t1,u1,p1,p2,?_⟩;obtain⟨E,e1,e2⟩:=ST.inc (eZ a r) (eZ b r);have:=yf p2 E λ t=>by have:=e2 t;rw[oI,oI,oI,oI]at this;exact this);have:=Ch a r;have:=Ch b r;omega
def Tb(a b:List Fc)(ka kb ko:List AV)(hl:a.length+b.length<=2048)(R:List Row)(hR:R.length<=1048576)(L:Row->List aF)(hL:∀r,r∈R->KX a b r (L r)):∀(d k:Nat)(D:List Fc),k+d=R.length->D.length<=2048*k->
  aB (Af (R.map encR)) ((k:Int),ka,a.map encF,kb,b.map encF,ko,D.length,D.map encF)=some (ko,(D++cE (R.drop k) L).length,(D++cE (R.drop k) L).map encF)
 |0,k,D,hk,hD=>by
  have:k=R.length:=by omega
  subst this;refine cR ?_;rw[zq (zd _)];simp[cE,Af,GR,bE,aH]
 |d+1,k,D,hk,hD=>by
  have q:k<R.length:=by omega
  have i1:(k:Int)<(R.length:Int):=by omega
  have gf:(R.map encR).getD k .top=encR R[k]:=cQ _ _ _ q;obtain⟨S,T,U,q1,q2,q3,q4,q5,q6⟩:=hL R[k] (zo q);have ed:=JE R[k] (L R[k]) (by omega)
  have ml:(mk R[k] (L R[k])).length<=2048:=by unfold mk;rw[za];omega
  obtain⟨m1,m2⟩:=Ww (n:=D.length) (m:=(mk R[k] (L R[k])).length) (by omega) ml
  have e:D++cE (R.drop k) L=(D++mk R[k] (L R[k]))++cE (R.drop (k+1)) L:=by
   rw[List.drop_eq_getElem_cons q,zw];rfl
  rw[e,<-Tb a b ka kb ko hl R hR L hL d (k+1) (D++mk R[k] (L R[k])) (by omega) (by rw[z8];omega)]
  refine en ?_;simp only[Af,GR,G2,G4,Nz,NA,bQ,q,i1,gf,p9,qw,q1,q2,q3,q4,ed,m1,m2,dO (n:=k) (by omega),z8,zx,Bool.and_self]
def xGV(ka kb:List AV)(a b:List Fc)(ha:bV a)(hb:bV b)(hl:a.length+b.length<=2048):∃B:List Fc,D1 ka (a.map encF) kb (b.map encF)=some (ka,B.map encF)/\jP (λ r t=>min (cnt a r t) (cnt b r t)) B:=by obtain⟨R,r1,r2⟩:=R8 a (ha.few Ω);(have q:R.length<=a.length:=by(have h:=r2.1.nodup mO;have:R.length<=(a.map (·.r)).length:=PJ R _ h λ r hr=>by obtain⟨f,hf,e,_⟩:=(r2.2 r).1 hr;exact zK.2 ⟨f,hf,e⟩);simpa using this);obtain⟨L,hL⟩:=vk (R:=R) (Q:=KX a b) λ r _=>xLF a b ha hb hl r;have e:=Tb a b ka kb ka hl R Ω L hL R.length 0 [] Ω Ψ;rw[zr,zU]at e;have e:aB (Af (R.map encR)) ((0:Int),ka,a.map encF,kb,b.map encF,ka,(0:Nat),[])=some (ka,(cE R L).length,(cE R L).map encF):=e;refine⟨cE R L,?_,R,L,r2.1,λ r t ht=>?_,λ r hr=>?_,rfl⟩;generalize cE R L=B at e;have tt:List.take B.length (B.map encF)=B.map encF:=zi Ψ;unfold D1 Oe;simp only[AF,NX,r1,e,zk,zh,aW,zH,za,zd,zn,zS,zr,tt,aH];exact(r2.2 r).2 (yo.2 ⟨t,by have ht:0<min (cnt a r t) (cnt b r t):=ht;omega⟩);obtain⟨S,T,U,q1,q2,q3,q4,q5,q6⟩:=hL r hr;exact q5
structure kI (N:Row->Int->Nat) (m:Nat) (B:List Fc):Prop where
 isB:jP N B
 len:B.length<=m
 nice:bV B
def yq{N:Int->Nat}(h:aZ P)(hP:∀t,inL P t=decide (0<N t)):bA (λ t=>if 0<N t then 1 else 0) P:=by refine⟨List.Pairwise.imp_of_mem (λ{p q} hp hq J=>vF.2 (.inl (by have:=iy.1 (h.1 p hp);omega))) h.2,λ k=>if k=0 then P else[],1,λ t=>by split<;>omega,λ k=>?_,by simp⟩;by_cases hk:k=0;subst hk;refine⟨by simpa using h,λ t=>?_⟩;simp only[if_true,hP];by_cases h0:0<N t<;>simp[h0];refine⟨by simp[hk,tw],λ t=>?_⟩;simp only[hk,if_false,m9];symm;rw[decide_eq_false_iff_not];split<;>omega
def mS.isB{l B:List Fc}(h:mS l B):jP (λ r t=>if 0<cnt l r t then 1 else 0) B:=by obtain⟨R,L,h1,h2,rfl⟩:=h;refine⟨R,L,h1.1,λ r t ht=>(h1.2 r).2 (yo.2 ⟨t,?_⟩),λ r hr=>yq (h2 r hr).1 (h2 r hr).2,rfl⟩;by_cases h0:0<cnt l r t;exact h0;simp[h0]at ht
def mS.len1{l B:List Fc}(h:mS l B):B.length<=l.length:=by(obtain⟨R,L,h1,h2,rfl⟩:=h;have e:=Q3 (L:=L) (a:=l) (b:=[]) R λ r hr=>by(have:=yf (yq (h2 r hr).1 (h2 r hr).2) ((eZ l r).map (·.1)) λ t=>by have:=uY (eZ l r) t;rw[oI,oI]at this;by_cases c1:0<cnt l r t;by_cases c2:0<cnt l r (t - 1);simp only[c1,c2,if_true];omega;simp only[c1,c2,if_true,if_false];omega;simp only[c1,if_false];omega);simp at this;omega);have hn:=h1.1.nodup mO;have e2:=FF l R hn;have e3:=FF [] R hn;rw[List.length_nil]at e3;omega
def xOm(K:List Int):List.take K.length (K.map encN)=K.map encN:=zi Ψ
def Tj(K:List Int)(kb:List AV){a b:List Fc}(hK:K.length<=1048576)(ha:bV a)(hb:bV b)(hl:a.length+b.length<=1024)(q:kH (a++b)):∃B:List Fc,x9 (K.map encN) (a.map encF) kb (b.map encF)=some (K.map encN,B.map encF)/\kI (λ r t=>cnt a r t+cnt b r t) (a.length+b.length) B:=by obtain⟨B,b1,b2,b3,b4⟩:=Sd opA (ha.keyed Ω) (hb.keyed Ω) hl q;(refine⟨B,?_,b2,b3,ha.of hb b4⟩;have b1:Kk (a.map encF) (b.map encF)=some (B.map encF):=b1;have m:K.length<=1099511627776:=Ω);unfold x9 Pw;simp only[za,m,b1,zk,zh,zn,Bool.and_self,aW,aH]
def Z4(K:List Int)(kb:List AV){a b:List Fc}(hK:K.length<=1048576)(ha:bV a)(hb:bV b)(hl:a.length+b.length<=1024)(q:kH (a++b)):∃B:List Fc,x7 (K.map encN) (a.map encF) kb (b.map encF)=some (K.map encN,B.map encF)/\kI (λ r t=>cnt a r t - cnt b r t) (a.length+b.length) B:=by obtain⟨B,b1,b2,b3,b4⟩:=Sd SU (ha.keyed Ω) (hb.keyed Ω) hl q;(refine⟨B,?_,b2,b3,ha.of hb b4⟩;have b1:Km (a.map encF) (b.map encF)=some (B.map encF):=b1;have m:K.length<=1099511627776:=Ω);unfold x7 Pc;simp only[za,m,b1,zk,zh,zn,Bool.and_self,aW,aH]
def Tf(K:List Int)(kb:List AV){a b:List Fc}(hK:K.length<=1048576)(ha:bV a)(hb:bV b)(hl:a.length+b.length<=1024)(q:kH (a++b)):∃B:List Fc,xX (K.map encN) (a.map encF) kb (b.map encF)=some (K.map encN,B.map encF)/\kI (λ r t=>min (cnt a r t) (cnt b r t)) (a.length+b.length) B:=by obtain⟨B,b1,b2,b3,b4⟩:=Sd ST (ha.keyed Ω) (hb.keyed Ω) hl q;(refine⟨B,?_,b2,b3,ha.of hb b4⟩;have b1:Kl (a.map encF) (b.map encF)=some (B.map encF):=b1;have m:K.length<=1099511627776:=Ω);unfold xX Of;simp only[za,m,b1,zk,zh,zn,Bool.and_self,aW,aH]
def Uc{a:List Fc}(ha:bV a)(hl:a.length<=1024)(q:kH a):∃B:List Fc,BM (a.map encF)=some (B.map encF)/\mS a B/\kI (λ r t=>if 0<cnt a r t then 1 else 0) a.length B:=by obtain⟨B,b1,b2⟩:=xLX a (ha.bld hl q);exact⟨B,b1,b2,b2.isB,b2.len1,b2.all (Q:=λ r=>r.length<=48/\∀v,v∈r->qH v) ha⟩
def YF(K:List Int){a:List Fc}(hK:K.length<=1048576)(ha:bV a)(hl:a.length<=1024)(q:kH a):∃B:List Fc,th (K.map encN) (a.map encF)=some (K.map encN,B.map encF)/\mS a B/\kI (λ r t=>if 0<cnt a r t then 1 else 0) a.length B:=by(obtain⟨B,b1,b2,b3⟩:=Uc ha hl q;refine⟨B,?_,b2,b3⟩;have m1:K.length*8<=140737488355328:=Ω);(have m2:K.length<=4611686018427387904:=Ω);unfold th Ov;simp only[za,m1,m2,b1,zk,zh,zn,Bool.and_self,zH,zd,aW,zr,xOm,aH]
def kI.cnt{N:Row->Int->Nat}{B:List Fc}(h:kI N m B)(r:Row)(t:Int):cnt B r t=N r t:=h.isB.cntB r t
def bV.short{l:List Fc}(h:bV l):∀f,f∈l->f.r.length<=60:=λ f hf=>by have:=(h f hf).1;omega
def xEd{a b:List Fc}(hK:K.length<=1048576)(ha:a.length<=1048576)(hn:bV a)(e:a=b):vc (K.map encN) (a.map encF) (K.map encN) (b.map encF)=some true:=by rw[xHl K K a b hK ha hn.short,e];simp
def Kw{N:Row->Int->Nat}{a b:List Fc}(hK:K.length<=48)(ha:kI N m a)(hm:m<=1024)(hb:jP N b):vc (K.map encN) (a.map encF) (K.map encN) (b.map encF)=some true:=xEd Ω (by have:=ha.len;omega) ha.nice (ha.isB.unique hb)
def sF (ky:AV->List UInt8) (pt:AV->List AV) (s:List En×List AV) (f:AV):List En×List AV:=(dW s.1 (ky f) (lE f),match dY s.1 (ky f) with|none=>s.2++[.list 3 (pt f)]|some _=>s.2)
def VJ(ky:AV->List UInt8)(pt:AV->List AV):∀(l:List AV)(s:List En×List AV),(l.foldl (sF ky pt) s).1=l.foldl (λ es x=>dW es (ky x) (lE x)) s.1|[],s=>rfl|x::l,s=>by rw[List.foldl_cons,List.foldl_cons,VJ ky pt l];rfl
def VZ(k s:List UInt8)(p:AV):∀es:List En,(dY (dW es k p) s).isNone=((dY es s).isNone&&!(k==s))|[]=>by simp only[dW,dY];cases k==s<;>rfl|e::es=>by have ih:=VZ k s p es;rw[dW];cases he:e.1==k with|true=>((have e1:e.1=k:=by simpa using he);dsimp only;rw[dY,dY,e1];cases h:k==s with|true=>rfl|false=>simp)|false=>dsimp only;rw[dY,dY];cases h:e.1==s with|true=>rfl|false=>dsimp only;rw[Option.isNone_map,Option.isNone_map,ih]
def iZ(π:Row->Row)(l:List Fc)(ρ:Row):List aF:=(l.filter λ f=>decide (π f.r=ρ)).map (·.p)
def oO(π:Row->Row)(ky:AV->List UInt8)(pt:AV->List AV)(l:List Fc):Prop:=∀f,f∈l->ky (encF f)=keyOf (π f.r)/\pt (encF f)=(π f.r).map encV
variable {ky:AV->List UInt8}{pt:AV->List AV}{π:Row->Row}
def Mn:∀(l:List Fc)(h:oO π ky pt l)(es:List En)(R:List Row),R.Nodup->(∀r,(dY es (keyOf r)).isNone=decide (r∉R))->
  ∃R':List Row,((l.map encF).foldl (sF ky pt) (es,R.map encR)).2=R'.map encR/\R'.Nodup/\(∀r,r∈R'↔r∈R\/∃f,f∈l/\π f.r=r)/\R'.length<=R.length+l.length
 |[],h,es,R,hR,hi=>⟨R,rfl,hR,λ r=>by simp,by simp⟩
 |f::l,h,es,R,hR,hi=>by
  obtain⟨h1,h2⟩:=h f (by simp)
  have hl:oO π ky pt l:=λ g hg=>h g (by simp[hg])
  have q:=hi (π f.r);rw[zV,List.foldl_cons];have J:∀R2:List Row,(∀r,r∈R2↔r∈R\/π f.r=r)->∀r,(dY (dW es (keyOf (π f.r)) (lE (encF f))) (keyOf r)).isNone=decide (r∉R2):=λ R2 h2 r=>by
   rw[VZ,hi];by_cases hr:π f.r=r
   . have:(keyOf (π f.r)==keyOf r)=true:=by simp[hr]
     rw[this];have hm:r∈R2:=(h2 r).2 (.inr hr);simp[hm]
   . have:(keyOf (π f.r)==keyOf r)=false:=by
      rw[beq_eq_false_iff_ne];exact λ e=>hr (Fz e)
     rw[this];have:r∈R2↔r∈R:=by rw[h2];simp[hr]
     simp[this]
  cases hc:dY es (keyOf (π f.r))with
  |none=>
   rw[hc]at q;have hn:π f.r∉R:=by
    have:true=decide (π f.r∉R):=q;exact of_decide_eq_true this.symm
   have e:sF ky pt (es,R.map encR) (encF f)=(dW es (keyOf (π f.r)) (lE (encF f)),(R++[π f.r]).map encR):=by
    unfold sF;rw[h1,h2];dsimp only;rw[hc];simp[encR]
   rw [e];obtain ⟨R',r1,r2,r3,r4⟩:=Mn l hl (dW es (keyOf (π f.r)) (lE (encF f))) (R++[π f.r]) (List.nodup_append.2 ⟨hR,by simp,fun a ha b hb e=>by
    simp at hb;exact hn (by rw [<-hb,<-e];exact ha)⟩) (J _ fun r=>by
     rw [zG,zv];exact ⟨fun c=>c.imp id Eq.symm,fun c=>c.imp id Eq.symm⟩)
   refine⟨R',r1,r2,λ r=>?_,by rw[z8,zj]at r4;rw[zF];omega⟩
   rw[r3,zG,zv];constructor
   . rintro((h|rfl)|⟨g,g1,g2⟩)
     . exact .inl h
     . exact .inr ⟨f,by simp,rfl⟩
     . exact .inr ⟨g,by simp[g1],g2⟩
   . rintro(h|⟨g,g1,g2⟩)
     . exact .inl (.inl h)
     . rcases zC.1 g1 with rfl|g1
       . exact .inl (.inr g2.symm)
       . exact .inr ⟨g,g1,g2⟩
  |some j=>
   rw[hc]at q;have hn:π f.r∈R:=by
    have:false=decide (π f.r∉R):=q;have:=of_decide_eq_false this.symm;simpa using this
   have e:sF ky pt (es,R.map encR) (encF f)=(dW es (keyOf (π f.r)) (lE (encF f)),R.map encR):=by
    unfold sF;rw[h1];dsimp only;rw[hc]
   rw[e];obtain⟨R',r1,r2,r3,r4⟩:=Mn l hl (dW es (keyOf (π f.r)) (lE (encF f))) R hR (J _ λ r=>⟨.inl,λ c=>c.elim id λ e=>e▸hn⟩)
   refine⟨R',r1,r2,λ r=>?_,by rw[zF];omega⟩
   rw[r3];constructor
   . rintro(h|⟨g,g1,g2⟩)
     . exact .inl h
     . exact .inr ⟨g,by simp[g1],g2⟩
   . rintro(h|⟨g,g1,g2⟩)
     . exact .inl h
     . rcases zC.1 g1 with rfl|g1
       . exact .inl (g2▸hn)
       . exact .inr ⟨g,g1,g2⟩
def xGz(es:List En)(s:List UInt8):dL (es.map aK) s=eM es s:=by unfold dL;rw[yi];cases h:dY es s with|none=>exact(ZN h).symm|some i=>have hi:=yA h;rw[xya h];dsimp only;rw[show (es.map aK).getD i .top=aK (es.getD i default) by simp[z7,hi]];rfl
def xGY(es:List En)(s:List UInt8):(!iL (es.map aK) s || jV 2 (eO AV.nils (es.map aK) s)):=by unfold eO iL;rw[yi];cases h:dY es s with|none=>rfl|some i=>have hi:=yA h;dsimp only;rw[show (es.map aK).getD i .top=aK (es.getD i default) by simp[z7,hi]];rfl
def xJA{l:List Fc}(h:oO π ky pt l)(ρ:Row):dL ((((l.map encF).foldl (sF ky pt) ([],[])).1).map aK) (keyOf ρ)=(iZ π l ρ).map aA:=by(rw[xGz,VJ,xzU];show []++_=_;rw[zU];unfold iZ;rw[List.filter_map,List.map_map,List.map_map];have:l.filter ((λ x=>ky x==keyOf ρ)∘encF)=l.filter λ f=>decide (π f.r=ρ):=List.filter_congr λ f hf=>by show (ky (encF f)==keyOf ρ)=_;rw[(h f hf).1];by_cases hr:π f.r=ρ;simp[hr];(have:(keyOf (π f.r)==keyOf ρ)=false:=by rw[beq_eq_false_iff_ne];exact λ e=>hr (Fz e));rw[this];simp[hr]);rw[this];rfl
structure vT (π:Row->Row) (l:List Fc) (ms rs:List AV) (R:List Row):Prop where
 look:∀ρ,dL ms (keyOf ρ)=(iZ π l ρ).map aA
 row:∀s,(!iL ms s || jV 2 (eO AV.nils ms s))
 rows:rs=R.map encR
 nd:R.Nodup
 mem:∀r,r∈R↔∃f,f∈l/\π f.r=r
 len:R.length<=l.length
def Uw{l:List Fc}(h:oO π ky pt l):∃R,vT π l ((((l.map encF).foldl (sF ky pt) ([],[])).1).map aK) ((l.map encF).foldl (sF ky pt) ([],[])).2 R:=by(obtain⟨R,r1,r2,r3,r4⟩:=Mn l h [] [] List.nodup_nil λ r=>by simp[dY]);exact⟨R,xJA h,xGY _,r1,r2,λ r=>by rw[r3];simp,by simpa using r4⟩
def xLP{l:List Fc}(h:Keyed l):oO id (λ f=>kyQ none (rowF f)) (λ f=>lX none (rowF f)) l:=λ f hf=>by refine⟨?_,rfl⟩;show (iM (f.r.map encV)).getD []=keyOf f.r;rw[h.skey hf];rfl
def TK{l:List Fc}(h:Keyed l):Cg (l.map encF)/\∃R,vT id l (r6 (l.map encF)) (Rw (l.map encF)) R:=by
 refine⟨?_,Uw (xLP h)⟩;have hl:=h.1.1;unfold Cg;simp only[zf,zl,zI,List.mem_range,za];refine⟨by omega,λ i hi=>?_⟩;rw[cQ _ _ _ hi];have hf:=zo hi;have e1:=h.skey hf;have e2:=(h.2 _ hf).2;have m:(keyOf l[i].r).length<=4611686018427387904:=Ω
 unfold sn;have c1:((encF l[i]).cells.length==3):=rfl;have c2:ef [.list 3,.int .i64,.int .i64] (encF l[i]).cells 0:=rfl;have c3:F0 none (rowF (encF l[i])):=rfl;have c4:iM (lX none (rowF (encF l[i])))=some (keyOf l[i].r):=e1;have c5:kyQ none (rowF (encF l[i]))=keyOf l[i].r:=by unfold kyQ;rw[c4];rfl
 rw[c1,c2,c3,c4,c5];simp[m]
def U4(n:Nat)(r:Row)(hn:n<=r.length)(hr:r.length<=1048576):x8 (r.map encV) (n:Int)=some ((r.take n).map encV):=by(have v:Ed (r.map encV) (n:Int)=(n:Int):=by unfold Ed;rw[za];split<;>omega);(have h1:(n:Int)<=(r.length:Int):=Ω);unfold x8 PD;rw[v];simp only[za,h1,Int.natCast_nonneg,zn,Bool.and_self,aW,zN,Nat.sub_zero,zr,List.map_take,aH]
def Ua{l:List Fc}(h:bV l){f:Fc}(hf:f∈l)(n:Nat):iM ((f.r.take n).map encV)=some (keyOf (f.r.take n))/\(keyOf (f.r.take n)).length<=4611686018427387904:=by(obtain⟨h1,h2⟩:=h f hf;have hl:(f.r.take n).length<=48:=by rw[zt];omega);have hv:∀v,v∈f.r.take n->qH v:=λ v hv=>h2 v (List.mem_of_mem_take hv);have hk:=Rm (r:=f.r.take n) (λ v q=>(hv v q).1) Ω;exact⟨Ss _ Ω (λ v q=>⟨(hv v q).1.1,by have:=(hv v q).1.2;omega⟩) hk,by omega⟩
def xLO{l:List Fc}(h:bV l)(n:Nat)(hn:∀f,f∈l->n<=f.r.length):oO (·.take n) (λ f=>kyQ (some (n:Int)) (rowF f)) (λ f=>lX (some (n:Int)) (rowF f)) l:=λ f hf=>by(have e:lX (some (n:Int)) (rowF (encF f))=(f.r.take n).map encV:=by show (x8 (f.r.map encV) (n:Int)).getD []=_;rw[U4 n f.r (hn f hf) (by have:=(h f hf).1;omega)];rfl);refine⟨?_,e⟩;show (iM (lX (some (n:Int)) (rowF (encF f)))).getD []=keyOf (f.r.take n);rw[e,(Ua h hf n).1];rfl
def xH5{l:List Fc}(h:bV l)(hl:l.length<=1048576)(n:Nat)(hn:∀f,f∈l->n<=f.r.length):FB (l.map encF) (n:Int)/\∃R,vT (·.take n) l (Fp (l.map encF) (n:Int)) (JY (l.map encF) (n:Int)) R:=by
 refine⟨?_,Uw (xLO h n hn)⟩;unfold FB;simp only[zf,zl,zI,List.mem_range,za];refine⟨by omega,λ i hi=>?_⟩;rw[cQ _ _ _ hi];have hf:=zo hi;obtain⟨e1,e2⟩:=Ua h hf n;have e3:=U4 n l[i].r (hn _ hf) (by have:=(h _ hf).1;omega);have c3:F0 (some (n:Int)) (rowF (encF l[i])):=by show (x8 (l[i].r.map encV) (n:Int)).isSome=true;rw[e3];rfl
 have c6:lX (some (n:Int)) (rowF (encF l[i]))=(l[i].r.take n).map encV:=by show (x8 (l[i].r.map encV) (n:Int)).getD []=_;rw[e3];rfl
 have c5:kyQ (some (n:Int)) (rowF (encF l[i]))=keyOf (l[i].r.take n):=by unfold kyQ;rw[c6,e1];rfl
 unfold sn;have c1:((encF l[i]).cells.length==3):=rfl;have c2:ef [.list 3,.int .i64,.int .i64] (encF l[i]).cells 0:=rfl;rw[c1,c2,c3,c5,c6,e1];simp[e2]
theorem U6(X:List aF)(t:Int):inL X t=decide (0<X.countP (aG · t)):=by rw[Bool.eq_iff_iff,zl,List.countP_pos_iff];unfold inL;rw[List.any_eq_true]
theorem Sx{X Y r:List aF}(h:aZ r)(hr:∀t,inL r t=(inL X t&&!inL Y t)):r.length<=X.length+Y.length:=by
 have:=yf (yq (N:=fun t=>if 0<X.countP (aG · t)/\¬ 0<Y.countP (aG · t) then 1 else 0) h fun t=>by
  rw [hr,U6,U6];by_cases c1:0<X.countP (aG · t)<;>by_cases c2:0<Y.countP (aG · t)<;>simp [c1,c2]) (X.map (·.1)++Y.map (·.2)) fun t=>by
  have h1:=uY X t;have h2:=ZE Y t;rw[List.count_append];by_cases c1:0<X.countP (aG · t)
  . by_cases c2:0<Y.countP (aG · t)
    . simp[c1,c2]
    . by_cases c3:0<X.countP (aG · (t - 1))
      . by_cases c4:0<Y.countP (aG · (t - 1))
        . simp[c1,c2,c3,c4];omega
        . simp[c1,c2,c3,c4]
      . simp[c1,c2,c3];omega
  . simp[c1]
 simpa using this
theorem xFY(h t:Row)(hl:h.length+t.length<=1048576):Et (h.map encV) (t.map encV)=some ((h++t).map encV):=by
 have w0:IntKind.i64.wrap (0+(h.length:Int))=(h.length:Int):=by rw[il Ω Ω];omega
 have w1:IntKind.i64.wrap ((h.length:Int)+(t.length:Int))=((h.length+t.length:Nat):Int):=by rw[il Ω Ω];omega
 have n0:¬ (h.length:Int)<0:=Ω
 have n1:¬ ((h.length+t.length:Nat):Int)<0:=Ω
 have n2:((h.length+t.length:Nat):Int)<=4398046511104:=Ω
 have m1:h.length*32<=140737488355328:=Ω
 have m2:h.length<=4611686018427387904:=Ω
 have m3:(h.length+t.length)*32<=140737488355328:=Ω
 have m4:h.length+t.length<=4611686018427387904:=Ω
 have tt:List.take (h.length+t.length) (h.map encV++t.map encV)=h.map encV++t.map encV:=zi Ψ;have e:uU (h.map encV) (t.map encV)=some ((h++t).map encV):=by unfold uU H7 IA DS;simp only[za,w0,w1,n0,n1,n2,m1,m2,m3,m4,Int.natCast_nonneg,zH,zU,z8,zd,zn,zm,Bool.and_self,zS,beq_self_eq_true,aW,bE,zr,tt,zx,aH]
 unfold Et Pf;simp only[e,zk,zh,aW,aH]
structure KW (ms:List AV) (D:Row->List aF):Prop where
 look:∀ρ,dL ms (keyOf ρ)=(D ρ).map aA
 row:∀s,(!iL ms s || jV 2 (eO AV.nils ms s))
def ni(r:Row):Prop:=r.length<=48/\∀v,v∈r->qH v
theorem ni.key{r:Row}(h:ni r):iM (r.map encV)=some (keyOf r)/\(keyOf r).length<=4611686018427387904:=by have hk:=Rm (r:=r) (λ v q=>(h.2 v q).1) (by have:=h.1;omega);exact⟨Ss _ (by have:=h.1;omega) (λ v q=>⟨(h.2 v q).1.1,by have:=(h.2 v q).1.2;omega⟩) hk,by omega⟩
variable {Du Dv:Row->List aF}{du dv:List AV}
theorem U9(n:Int)(h:Row)(hu:KW du Du)(hv:KW dv Dv)(lu:∀r,(Du r).length<=64)(lv:∀r,(Dv r).length<=64)(T:List Row)(hT:T.length<=64)(ht:∀t,t∈T->ni t/\ni (h++t)):∀(d k:Nat)(l:List aF),k+d=T.length->l.length<=64+128*k->aZ l->∃l':List aF,(∀(on:Nat)(Q:List AV)(O J:Int)(a0 a1 hs os:List AV),aB (AK n (T.map encR) on (h.map encV) Q O J (T.map encR) ((T.length:Nat):Int)) (l.map aA,(k:Int),a0,a1,du,hs,dv,os)=some (l'.map aA,a0,a1,du,hs,dv,os))/\aZ l'/\∀τ,inL l' τ=(inL l τ&&(T.drop k).all λ t=>!(inL (Dv t) τ&&!inL (Du (h++t)) τ))|0,k,l,hk,hl,hs=>by(have:k=T.length:=Ω);subst this;refine⟨l,λ on Q O J a0 a1 hs os=>cR ?_,hs,λ τ=>by rw[zq (zd _)];simp⟩;simp[AK,HO,bE,aH]|d+1,k,l,hk,hl,hs=>by(have q:k<T.length:=Ω);obtain⟨t1,t2⟩:=ht T[k] (zo q);obtain⟨k1,k2⟩:=t1.key;obtain⟨k3,k4⟩:=t2.key;have c1:=xFY h T[k] (by have:=t2.1;rw[z8]at this;omega);have u1:=hu.look (h++T[k]);have u2:=hu.row (keyOf (h++T[k]));have v1:=hv.look T[k];have v2:=hv.row (keyOf T[k]);have W:=lu (h++T[k]);have V:=lv T[k];obtain⟨s,s1,s2,s3⟩:=Zz (Dv T[k]) (Du (h++T[k])) Ω Ω;have sl:=Sx s2 s3;obtain⟨r,r1,r2,r3⟩:=Zz l s Ω Ω;have rl:=Sx r2 r3;obtain⟨l',e,b1,b2⟩:=U9 n h hu hv lu lv T hT ht d (k+1) r Ω Ω r2;refine⟨l',λ on Q O J a0 a1 hs os=>?_,b1,λ τ=>?_⟩;(rw[<-e on Q O J a0 a1 hs os];refine en ?_;have i1:(k:Int)<(T.length:Int):=Ω);have gf:(T.map encR).getD k .top=encR T[k]:=cQ _ _ _ q;simp only[AK,HO,xB,xC,bQ,q,i1,gf,p9,qw,k1,k2,k3,k4,c1,u1,u2,v1,v2,s1,r1,dO (n:=k) Ω];rw[b2,r3,s3,jq q,List.all_cons,Bool.and_assoc]
theorem Va(n:Int)(q:List AV)(h:Row)(hh:h.length<=1048576)(P:List aF)(hP:P.length<=1048576)(V:List AV)(Q O:Int)(a0 a1 du hs dv:List AV):∀(d k:Nat)(D:List Fc),k+d=P.length->D.length+d<=1099511627776->
  aB (AL n q (h.map encV) V Q O (P.map aA) ((P.length:Nat):Int)) (D.length,(k:Int),a0,a1,du,hs,dv,D.map encF)=some ((D++mk h (P.drop k)).length,a0,a1,du,hs,dv,(D++mk h (P.drop k)).map encF)
 |0,k,D,hk,hD=>by
  have:k=P.length:=by omega
  subst this;rw[zq (zd _)];refine cR ?_;simp[AL,HP,bE,mk,aH]
 |d+1,k,D,hk,hD=>by
  have J:k<P.length:=by omega
  have i1:(k:Int)<(P.length:Int):=by omega
  have gf:(P.map aA).getD k .top=aA P[k]:=cQ _ _ _ J;have m1:(D.length+1)*40<=140737488355328:=by omega
  have m2:D.length+1<=4611686018427387904:=by omega
  have e:D++mk h (P.drop k)=(D++[(⟨h,P[k]⟩:Fc)])++mk h (P.drop (k+1)):=by rw[jq J,zw];rfl
  rw[e,<-Va n q h hh P hP V Q O a0 a1 du hs dv d (k+1) (D++[(⟨h,P[k]⟩:Fc)]) (by omega) (by rw[z8,zj];omega)]
  refine en ?_;simp only[AL,HP,bQ,J,i1,gf,fZ,f7,lP,sP,f8,ga,m1,m2,dO (n:=k) (by omega),z8,zj,zx,zV,zW]
  simp[encF]
def SB(n:Int)(T:List Row)(du dv:List AV)(He:Row->List aF)(Du Dv:Row->List aF)(h:Row)(L:List aF):Prop:=(∃l0:List aF,r7 ((He h).map aA)=some (l0.map aA)/\∀(on:Nat)(q:List AV)(t57 t58:Int)(a0 a1 hs os:List AV),aB (AK n (T.map encR) on (h.map encV) q t57 t58 (T.map encR) ((T.length:Nat):Int)) (l0.map aA,(0:Int),a0,a1,du,hs,dv,os)=some (L.map aA,a0,a1,du,hs,dv,os))/\aZ L/\(∀τ,inL L τ=(inL (He h) τ&&T.all λ t=>!(inL (Dv t) τ&&!inL (Du (h++t)) τ)))/\L.length<=1048576
theorem U8(n:Int)(T:List Row)(a0 a1:List AV){he:List AV}{He:Row->List aF}(hh:KW he He)(H:List Row)(hH:H.length<=1024)(hr:∀r,r∈H->ni r)(L:Row->List aF)(hL:∀r,r∈H->SB n T du dv He Du Dv r (L r)):∀(d k:Nat)(D:List Fc),k+d=H.length->D.length<=1048576*k->
  aB (AJ n (T.map encR) (H.map encR) ((H.length:Nat):Int)) (D.length,(k:Int),a0,a1,du,he,dv,D.map encF)=some ((D++cE (H.drop k) L).length,a0,a1,(D++cE (H.drop k) L).map encF)
 |0,k,D,hk,hD=>by
  have:k=H.length:=by omega
  subst this;rw[zq (zd _)];refine cR ?_;simp[AJ,HN,bE,cE,aH]
 |d+1,k,D,hk,hD=>by
  have q:k<H.length:=by omega
  have i1:(k:Int)<(H.length:Int):=by omega
  have gf:(H.map encR).getD k .top=encR H[k]:=cQ _ _ _ q;have t1:=hr H[k] (zo q);obtain⟨k1,k2⟩:=t1.key;have v1:=hh.look H[k];have v2:=hh.row (keyOf H[k]);obtain⟨⟨l0,q1,q2⟩,_,_,q3⟩:=hL H[k] (zo q);have e1:=q2 D.length (H.map encR) ((H.length:Nat):Int) (k:Int) a0 a1 he (D.map encF);have e2:=Va n (T.map encR) H[k] (by have:=t1.1;omega) (L H[k]) q3 (H.map encR) ((H.length:Nat):Int) (k:Int) a0 a1 du he dv (L H[k]).length 0 D (by omega) (by omega)
  rw[zr]at e2;have e2:aB (AL n (T.map encR) (H[k].map encV) (H.map encR) ((H.length:Nat):Int) (k:Int) ((L H[k]).map aA) (((L H[k]).length:Nat):Int)) (D.length,(0:Int),a0,a1,du,he,dv,D.map encF)=_:=e2;have ml:(mk H[k] (L H[k])).length<=1048576:=by unfold mk;rw[za];exact q3
  have e:D++cE (H.drop k) L=(D++mk H[k] (L H[k]))++cE (H.drop (k+1)) L:=by
   rw[jq q,zw];rfl
  rw[e,<-U8 n T a0 a1 hh H hH hr L hL d (k+1) (D++mk H[k] (L H[k])) (by omega) (by rw[z8];omega)]
  refine en ?_;simp only[AJ,HN,s9,rR,AQ,bQ,q,i1,gf,p9,qw,k1,k2,v1,v2,q1,e1,e2,dO (n:=k) (by omega)]
def lj(n:Nat)(a b:List Fc)(h:Row)(τ:Int):Prop:=(∃f,f∈a/\f.r.take n=h/\aG f.p τ)/\∀t,0<cnt b t τ->0<cnt a (h++t) τ
open Classical in
def fF(n:Nat)(a b:List Fc)(h:Row)(τ:Int):Nat:=if lj n a b h τ then 1 else 0
variable {h:Row}{τ:Int}
theorem vB{n:Nat}{a b:List Fc}:0<fF n a b h τ↔lj n a b h τ:=by unfold fF;split<;>simp_all
theorem tG(n:Nat)(a b:List Fc)(h:Row)(τ:Int):fF n a b h τ<=1:=by unfold fF;split<;>simp
theorem Mb{l:List Fc}:inL (iZ π l h) τ=true↔∃f,f∈l/\π f.r=h/\aG f.p τ:=by unfold inL iZ;rw[List.any_eq_true];constructor;rintro⟨p,hp,h1⟩;obtain⟨f,hf,rfl⟩:=zK.1 hp;obtain⟨f1,f2⟩:=List.mem_filter.1 hf;exact⟨f,f1,by simpa using f2,h1⟩;rintro⟨f,f1,f2,f3⟩;exact⟨f.p,zK.2 ⟨f,List.mem_filter.2 ⟨f1,by simpa using f2⟩,rfl⟩,f3⟩
theorem vL{l:List Fc}:inL (iZ id l h) τ=true↔0<cnt l h τ:=by rw[Mb,pg];rfl
theorem Kx(π:Row->Row)(l:List Fc)(h:Row):(iZ π l h).length<=l.length:=by unfold iZ;rw[za];exact List.length_filter_le _ _
structure oK (Ka Kb:List Int) (a b:List Fc) (n:Nat):Prop where
 na:bV a
 nb:bV b
 la:a.length<=16
 lb:b.length<=16
 ka:Ka.length<=48
 kn:n+Kb.length=Ka.length
 n0:0<n
 ra:∀f,f∈a->f.r.length=Ka.length
 rb:∀f,f∈b->f.r.length=Kb.length
variable{Ka Kb:List Int}{a b:List Fc}{n:Nat}
theorem oK.head(h:oK Ka Kb a b n){f:Fc}(hf:f∈a):(f.r.take n).length=n:=by have:=h.ra f hf;have:=h.kn;rw[zt];omega
theorem oK.bound(h:oK Ka Kb a b n){h0:Row}(hn:h0.length=n)(τ:Int):fF n a b h0 τ<=fF n a b h0 (τ - 1)+((iZ (·.take n) a h0).map (·.1)++b.map (·.p.2)).count τ:=by
 by_cases c:lj n a b h0 τ;by_cases c':lj n a b h0 (τ - 1);have:=vB.2 c';have:=tG n a b h0 τ;omega;have Q:τ∈(iZ (·.take n) a h0).map (·.1)++b.map (·.p.2):=by obtain⟨⟨f,f1,f2,f3⟩,c2⟩:=c;by_cases hf:aG f.p (τ - 1)=true;(have:∃t,0<cnt b t (τ - 1)/\¬ 0<cnt a (h0++t) (τ - 1):=by apply Classical.byContradiction;intro O;exact c' ⟨⟨f,f1,f2,hf⟩,λ t ht=>Classical.byContradiction λ hx=>O ⟨t,ht,hx⟩⟩);obtain⟨t,t1,t2⟩:=this;by_cases hb:0<cnt b t τ;obtain⟨g,g1,g2,g3⟩:=pg.1 (c2 t hb);have g4:¬ aG g.p (τ - 1):=λ hx=>t2 (pg.2 ⟨g,g1,g2,hx⟩);(obtain⟨v1,v2,v3⟩:=jx.1 g3;have:g.p.1=τ:=by rcases Int.lt_or_le g.p.1 τ with J|q;exact absurd (jx.2 ⟨v1,by omega,by omega⟩) g4;omega);refine zG.2 (.inl (zK.2 ⟨g.p,zK.2 ⟨g,List.mem_filter.2 ⟨g1,?_⟩,rfl⟩,this⟩));simp only[zl];rw[g2,List.take_append_of_le_length Ω,<-hn,y6];obtain⟨g,g1,g2,g3⟩:=pg.1 t1;have g4:¬ aG g.p τ:=λ hx=>hb (pg.2 ⟨g,g1,g2,hx⟩);(obtain⟨v1,v2,v3⟩:=jx.1 g3;have:g.p.2=τ:=by rcases Int.lt_or_le τ g.p.2 with J|q;exact absurd (jx.2 ⟨v1,by omega,by omega⟩) g4;omega);exact zG.2 (.inr (zK.2 ⟨g,g1,this⟩));(obtain⟨v1,v2,v3⟩:=jx.1 f3;have:f.p.1=τ:=by rcases Int.lt_or_le f.p.1 τ with J|q;exact absurd (jx.2 ⟨v1,by omega,by omega⟩) hf;omega);exact zG.2 (.inl (zK.2 ⟨f.p,zK.2 ⟨f,List.mem_filter.2 ⟨f1,by simpa using f2⟩,rfl⟩,this⟩))
 have:=List.count_pos_iff.2 Q;have:=tG n a b h0 τ;omega;have:fF n a b h0 τ=0:=by cases hc:fF n a b h0 τ with|zero=>rfl|succ k=>exact absurd (vB.1 Ω) c
 omega
theorem ZG{g:Row->Nat}:∀(R:List Row),(∀r,r∈R->(L r).length<=g r)->(cE R L).length<=(R.map g).sum|[],_=>by simp[cE]|r::R,h=>by have ih:=ZG R λ x hx=>h x (by simp[hx]);have h1:=h r Ψ;(have e:cE (r::R) L=((L r).map λ p=>(⟨r,p⟩:Fc))++cE R L:=by simp[cE]);rw[e,z8,za,zV,List.sum_cons];omega
theorem Ti(c:Nat):∀R:List Row,(R.map λ _=>c).sum=c*R.length|[]=>rfl|r::R=>by rw[zV,List.sum_cons,Ti c R,zF,Nat.mul_add,Nat.mul_one];omega
theorem xE0(h:oK Ka Kb a b n):∃B:List Fc,Jm (Ka.map encN) (a.map encF) (Kb.map encN) (b.map encF)=some ((Ka.take n).map encN,B.map encF)/\kI (fF n a b) 512 B/\∀f,f∈B->∃g,g∈a/\g.r.take n=f.r:=by
 have O:=h.na;have V:=h.nb;have am:=h.la;have ao:=h.lb;have ak:=h.ka;have ai:=h.kn;have al:=h.n0;obtain⟨w1,Ra,wa⟩:=TK (O.keyed Ω);obtain⟨w2,Rb,wb⟩:=TK (V.keyed Ω);obtain⟨w3,H,wh⟩:=xH5 O Ω n λ f hf=>by have:=h.ra f hf;omega
 have hH:∀r,r∈H->ni r/\r.length=n:=λ r hr=>by obtain⟨f,f1,rfl⟩:=(wh.mem r).1 hr;have:=h.head f1;exact⟨⟨by omega,λ v hv=>(O f f1).2 v (List.mem_of_mem_take hv)⟩,this⟩
 have hT:∀r,r∈Rb->ni r/\r.length=Kb.length:=λ r hr=>by obtain⟨f,f1,rfl⟩:=(wb.mem r).1 hr;exact⟨⟨(V f f1).1,(V f f1).2⟩,h.rb f f1⟩
 have an:=wh.len;have aj:=wb.len;obtain⟨L,hL⟩:=vk (R:=H) (Q:=SB (n:Int) Rb (r6 (a.map encF)) (r6 (b.map encF)) (iZ (·.take n) a) (iZ id a) (iZ id b)) λ r hr=>by
  obtain⟨ac,ab⟩:=hH r hr;have bl:=Kx (·.take n) a r;obtain⟨l0,l1,l2,l3⟩:=Wg (iZ (·.take n) a r) Ω;have ll:l0.length<=(iZ (·.take n) a r).length+([]:List aF).length:=Sx (X:=iZ (·.take n) a r) (Y:=[]) l2 λ t=>by rw[l3,m9];simp
  obtain ⟨L,e1,e2,e3⟩:=U9 (n:Int) r (du:=r6 (a.map encF)) (dv:=r6 (b.map encF)) (Du:=iZ id a) (Dv:=iZ id b) ⟨wa.look,wa.row⟩ ⟨wb.look,wb.row⟩ (fun ρ=>by have:=Kx id a ρ;omega) (fun ρ=>by have:=Kx id b ρ;omega) Rb Ω (fun t ht=>by
   obtain ⟨t1,t2⟩:=hT t ht;exact ⟨t1,by rw [z8];omega,fun v hv=>by
    rcases zG.1 hv with hv|hv
    . exact ac.2 v hv
    . exact t1.2 v hv⟩) Rb.length 0 l0 Ω (by rw [List.length_nil] at ll;omega) l2
  rw[zr]at e3;have e4:∀τ,inL L τ=(inL (iZ (·.take n) a r) τ&&Rb.all λ t=>!(inL (iZ id b t) τ&&!inL (iZ id a (r++t)) τ)):=λ τ=>by rw[e3,l3]
  have dn:∀τ,inL L τ=decide (0<fF n a b r τ):=λ τ=>by rw[e4,Bool.eq_iff_iff,zl,vB,zf,Mb,zI];constructor;rintro⟨h1,h2⟩;refine⟨h1,λ t ht=>?_⟩;obtain⟨g,g1,g2,g3⟩:=pg.1 ht;have:=h2 t ((wb.mem t).2 ⟨g,g1,g2⟩);have hb:inL (iZ id b t) τ:=vL.2 ht;rw[hb]at this;exact vL.1 (by simpa using this);rintro⟨h1,h2⟩;refine⟨h1,λ t ht=>?_⟩;by_cases hb:inL (iZ id b t) τ=true;have:=vL.2 (h2 t (vL.1 hb));rw[this];simp;(have:inL (iZ id b t) τ=false:=by simpa using hb);rw[this];simp
  have len:=yf (yq (N:=fF n a b r) e2 dn) ((iZ (·.take n) a r).map (·.1)++b.map (·.p.2)) λ τ=>by have:=h.bound ab τ;have h1:=tG n a b r τ;have h2:=tG n a b r (τ - 1);split<;>split<;>omega
  refine⟨L,⟨l0,l1,λ on ah ae aa a0 a1 hs os=>e1 on ah ae aa a0 a1 hs os⟩,e2,e4,?_⟩;rw[z8,za,za]at len;omega
 have dn:∀r,r∈H->∀τ,inL (L r) τ=decide (0<fF n a b r τ):=λ r hr τ=>by obtain⟨_,_,e4,_⟩:=hL r hr;rw[e4,Bool.eq_iff_iff,zl,vB,zf,Mb,zI];constructor;rintro⟨h1,h2⟩;refine⟨h1,λ t ht=>?_⟩;obtain⟨g,g1,g2,g3⟩:=pg.1 ht;have:=h2 t ((wb.mem t).2 ⟨g,g1,g2⟩);have hb:inL (iZ id b t) τ:=vL.2 ht;rw[hb]at this;exact vL.1 (by simpa using this);rintro⟨h1,h2⟩;refine⟨h1,λ t ht=>?_⟩;by_cases hb:inL (iZ id b t) τ=true;have:=vL.2 (h2 t (vL.1 hb));rw[this];simp;(have:inL (iZ id b t) τ=false:=by simpa using hb);rw[this];simp
 have len:∀r,r∈H->(L r).length<=32:=λ r hr=>by(have len:=yf (yq (N:=fF n a b r) (hL r hr).2.1 (dn r hr)) ((iZ (·.take n) a r).map (·.1)++b.map (·.p.2)) λ τ=>by have:=h.bound (hH r hr).2 τ;have h1:=tG n a b r τ;have h2:=tG n a b r (τ - 1);split<;>split<;>omega);have bl:=Kx (·.take n) a r;rw[z8,za,za]at len;omega
 have hF:=ZG (L:=L) (g:=λ _=>32) H len;rw[Ti]at hF;have W:∀r τ,cnt (cE H L) r τ=fF n a b r τ:=λ r τ=>by rw[Fh L r τ H wh.nd];split;rename_i hr;rw[QY (hL r hr).2.1,dn r hr];have:=tG n a b r τ;by_cases c:0<fF n a b r τ;simp[c];omega;simp[c];omega;rename_i hr;cases hc:fF n a b r τ with|zero=>rfl|succ k=>obtain⟨⟨f,f1,f2,_⟩,_⟩:=vB.1 (show 0<fF n a b r τ by omega);exact absurd ((wh.mem r).2 ⟨f,f1,f2⟩) hr
 have q:∀f,f∈cE H L->∃g,g∈a/\g.r.take n=f.r:=λ f hf=>(wh.mem _).1 (B3 hf).1;have J:bV (cE H L):=λ f hf=>(hH f.r (B3 hf).1).1;obtain ⟨B,b1,b2,b3⟩:=Uc J Ω (kH.of (l:=a.map fun f=>⟨f.r.take n,f.p⟩) (kH.few (by rw [za];omega)) fun f hf=>by
  obtain ⟨g,g1,g2⟩:=q f hf;exact ⟨_,zK.2 ⟨g,g1,rfl⟩,g2.symm⟩)
 have hB:kI (fF n a b) 512 B:=⟨b2.isB.congr fun r t=>by
  rw [W];have:=tG n a b r t;split<;>omega,Nat.le_trans b3.len Ω,b3.nice⟩
 refine⟨B,?_,hB,b2.all (Q:=λ r=>∃g,g∈a/\g.r.take n=r) q⟩;have ad:Iz (Ka.map encN) (Kb.map encN)=(n:Int):=by(have w:IntKind.i64.wrap ((Ka.length:Int) - (Kb.length:Int))=(n:Int):=by rw[il Ω Ω];omega);unfold Iz;rw[za,za,w];split<;>omega
 have v3:rS (Ka.map encN) (Kb.map encN)=(n:Int):=by unfold rS;rw[ad];split<;>omega
 have e0:=U8 (n:Int) Rb (Ka.map encN) (a.map encF) (he:=Fp (a.map encF) (n:Int)) ⟨wh.look,wh.row⟩ H Ω (λ r hr=>(hH r hr).1) L hL H.length 0 [] Ω Ψ;rw[zr,zU]at e0;have e0:aB (AJ (n:Int) (Rb.map encR) (H.map encR) ((H.length:Nat):Int)) ((0:Nat),(0:Int),Ka.map encN,a.map encF,r6 (a.map encF),Fp (a.map encF) (n:Int),r6 (b.map encF),[])=some ((cE H L).length,Ka.map encN,a.map encF,(cE H L).map encF):=e0;generalize cE H L=F at e0 b1;have af:Iy (Ka.map encN) (a.map encF) (Kb.map encN) (b.map encF)=some (F.length,Ka.map encN,a.map encF,F.map encF):=by unfold Iy;rw[v3,wh.rows,wb.rows,za,e0]
 have tF:List.take F.length (F.map encF)=F.map encF:=zi Ψ;have ag:n<=Ka.length:=Ω
 have Z:(n:Int)<=(Ka.length:Int):=Ω
 have lt:((Ka.take n).map encN).length=n:=by rw[za,zt];omega
 have m1:n*8<=140737488355328:=Ω
 have m2:n<=4611686018427387904:=Ω
 have tk:List.take n (Ka.map encN)=(Ka.take n).map encN:=by rw[List.map_take]
 have t2:List.take n ((Ka.take n).map encN)=(Ka.take n).map encN:=zi Ω;unfold Jm Pb;simp only[D2,OR,H4,xW,v3,af,w1,w2,w3,zk,zh,aW,za,zH,zd,zn,zS,Bool.and_self,zr,tF,b1,Z,Int.natCast_nonneg,zN,Nat.sub_zero,tk,zU,lt,zt,Nat.min_eq_left ag,m1,m2,t2,aH]
end Go.Sim.M
namespace Go.Sim.M
open Go.RowKit Go.Sim.Srt
def bnd(f:Fc):List Int:=if pv f.p then(if f.p.2<1099511627776 then[f.p.1,f.p.2]else[f.p.1])else[]
variable {a b t:Int}
theorem rq(ha:0<=a)(q:a<b)(hb:b<=1099511627776):aG (a,b) t=decide (a<=t/\t<b):=by have:pv (a,b):=iy.2 ⟨ha,q,hb⟩;unfold aG;rw[this];by_cases h1:a<=t<;>by_cases h2:t<b<;>simp[h1,h2]
section
variable{Ka Kb:List Int}{a b:List Fc}{n:Nat}
end
def iv(n:Int):Val:=⟨1,n,[]⟩
def KD{n:Int}(h0:0<=n)(h1:n<=100):qH (iv n):=⟨⟨⟨sI (by show -9223372036854775808<=(1:Int);omega) (by show (1:Int)<=9223372036854775807;omega),sI (by show -9223372036854775808<=n;omega) (by show n<=9223372036854775807;omega),by show 0<=maxLen;omega⟩,by show 0<=_;omega⟩,⟨by show -1125899906842624<=n;omega,by show n<=1125899906842624;omega⟩⟩
def iO:List Fc:=[⟨[iv 1],(0,9)⟩,⟨[iv 1],(2,5)⟩]
def jT:List Fc:=[⟨[iv 1],(4,7)⟩]
def mj:List Fc:=[⟨[iv 1,iv 5],(0,6)⟩,⟨[iv 1,iv 6],(3,9)⟩,⟨[iv 2,iv 5],(0,9)⟩]
def mR:List Fc:=[⟨[iv 5],(1,9)⟩,⟨[iv 6],(4,8)⟩]
def Ga:bV iO:=λ f hf=>by
 simp only[iO,zC,List.not_mem_nil,or_false]at hf;rcases hf with rfl|rfl;all_goals
  refine⟨by simp,λ v hv=>?_⟩
  simp only[zC,List.not_mem_nil,or_false]at hv;subst hv;exact KD (by omega) (by omega)
def MU:bV jT:=λ f hf=>by simp only[jT,zC,List.not_mem_nil,or_false]at hf;subst hf;refine⟨by simp,λ v hv=>?_⟩;simp only[zC,List.not_mem_nil,or_false]at hv;subst hv;exact KD Ω Ω
def xOk:bV mj:=λ f hf=>by
 simp only[mj,zC,List.not_mem_nil,or_false]at hf;rcases hf with rfl|rfl|rfl;all_goals
  refine⟨by simp,λ v hv=>?_⟩
  simp only[zC,List.not_mem_nil,or_false]at hv;rcases hv with rfl|rfl<;>exact KD (by omega) (by omega)
def xOl:bV mR:=λ f hf=>by
 simp only[mR,zC,List.not_mem_nil,or_false]at hf;rcases hf with rfl|rfl;all_goals
  refine⟨by simp,λ v hv=>?_⟩
  simp only[zC,List.not_mem_nil,or_false]at hv;subst hv;exact KD (by omega) (by omega)
def xOh:oK [1,1] [1] mj mR 1 where
 na:=xOk
 nb:=xOl
 la:=by simp[mj]
 lb:=by simp[mR]
 ka:=by simp
 kn:=by simp
 n0:=Ω
 ra:=λ f hf=>by
  simp only[mj,zC,List.not_mem_nil,or_false]at hf;rcases hf with rfl|rfl|rfl<;>rfl
 rb:=λ f hf=>by
  simp only[mR,zC,List.not_mem_nil,or_false]at hf;rcases hf with rfl|rfl<;>rfl
def KC{N:Row->Int->Nat}{ρ:Row}{P:List aF}(h:bA (N ρ) P)(hz:∀r,r≠ρ->∀t,N r t=0):jP N (mk ρ P):=
 ⟨[ρ],fun _=>P,List.pairwise_singleton _ _,fun r t ht=>by
  by_cases hr:r=ρ
  . simp[hr]
  . rw [hz r hr t] at ht;omega,fun r hr=>by simp at hr;subst hr;exact h,by simp [cE,mk]⟩
def TT(f:Fc)(l:List Fc)(r:Row)(t:Int):cnt (f::l) r t=cnt l r t+if f.r=r/\aG f.p t then 1 else 0:=by have e2:cnt (f::l) r t=cnt l r t+if(decide (f.r=r)&&aG f.p t) then 1 else 0:=List.countP_cons;rw[e2];simp only[zf,zl]
def gK(r:Row)(t:Int):cnt iO r t=if r=[iv 1]then(if 0<=t/\t<9 then 1 else 0)+(if 2<=t/\t<5 then 1 else 0)else 0:=by have h1:=rq (a:=0) (b:=9) (t:=t) Ω Ω Ω;have h2:=rq (a:=2) (b:=5) (t:=t) Ω Ω Ω;simp only[iO,TT,h1,h2,zl];show 0+_+_=_;by_cases hr:r=[iv 1];subst hr;simp;omega;have:¬ [iv 1]=r:=λ e=>hr e.symm;simp[hr,this]
def nL(r:Row)(t:Int):cnt jT r t=if r=[iv 1]then(if 4<=t/\t<7 then 1 else 0)else 0:=by have h1:=rq (a:=4) (b:=7) (t:=t) Ω Ω Ω;simp only[jT,TT,h1,zl];show 0+_=_;by_cases hr:r=[iv 1];subst hr;simp;have:¬ [iv 1]=r:=λ e=>hr e.symm;simp[hr,this]
def wP(h0:0<=a)(h1:a<b)(h2:b<=1099511627776):aZ [(a,b)]:=⟨λ p hp=>by simp at hp;subst hp;exact iy.2 ⟨h0,h1,h2⟩,List.pairwise_singleton _ _⟩
def ws(h0:0<=a)(h1:a<b)(h2:b<=1099511627776):inL [(a,b)] t=decide (a<=t/\t<b):=by unfold inL;rw[List.any_cons,List.any_nil,Bool.or_false,rq h0 h1 h2]
variable {c d:Int}
def WD (h0:0<=a) (h1:a<b) (h2:b<c) (h3:c<d) (h4:d<=1099511627776):aZ [(a,b),(c,d)]:=⟨fun p hp=>by
 simp at hp;rcases hp with rfl|rfl
 . exact iy.2 ⟨h0,h1,by dsimp only;omega⟩
 . exact iy.2 ⟨by dsimp only;omega,h3,h4⟩,List.pairwise_pair.2 (by dsimp only;omega)⟩
def SO(h0:0<=a)(h1:a<b)(h2:b<c)(h3:c<d)(h4:d<=1099511627776):inL [(a,b),(c,d)] t=decide ((a<=t/\t<b)\/(c<=t/\t<d)):=by unfold inL;rw[List.any_cons,List.any_cons,List.any_nil,Bool.or_false,rq h0 h1 Ω,rq Ω h3 h4,Bool.eq_iff_iff];simp
def wL:List aF:=[(0,9),(2,7),(4,5)]
def wn:List aF:=[(0,5),(2,4),(7,9)]
def LD:bA (λ t=>cnt iO [iv 1] t+cnt jT [iv 1] t) wL:=by refine⟨?_,λ k=>match k with|0=>[(0,9)]|1=>[(2,7)]|2=>[(4,5)]|_=>[],3,λ t=>?_,λ k=>?_,List.Perm.refl _⟩;simp[aI,wL,vF];rw[gK,nL];simp only[if_true];split<;>split<;>split<;>omega;match k with|0=>refine⟨wP Ω Ω Ω,λ t=>?_⟩;show inL [(0,9)] t=_;rw[ws Ω Ω Ω,gK,nL,Bool.eq_iff_iff,zl,zl];simp only[if_true];split<;>split<;>split<;>omega|1=>refine⟨wP Ω Ω Ω,λ t=>?_⟩;show inL [(2,7)] t=_;rw[ws Ω Ω Ω,gK,nL,Bool.eq_iff_iff,zl,zl];simp only[if_true];split<;>split<;>split<;>omega|2=>refine⟨wP Ω Ω Ω,λ t=>?_⟩;show inL [(4,5)] t=_;rw[ws Ω Ω Ω,gK,nL,Bool.eq_iff_iff,zl,zl];simp only[if_true];split<;>split<;>split<;>omega|k+3=>refine⟨tw,λ t=>?_⟩;show inL [] t=_;rw[m9,gK,nL];symm;rw[decide_eq_false_iff_not];simp only[if_true];split<;>split<;>split<;>omega
def LF:bA (λ t=>cnt iO [iv 1] t - cnt jT [iv 1] t) wn:=by refine⟨?_,λ k=>match k with|0=>[(0,5),(7,9)]|1=>[(2,4)]|_=>[],2,λ t=>?_,λ k=>?_,?_⟩;simp[aI,wn,vF];rw[gK,nL];simp only[if_true];split<;>split<;>split<;>omega;(match k with|0=>refine⟨WD Ω Ω Ω Ω Ω,λ t=>?_⟩;show inL [(0,5),(7,9)] t=_;rw[SO Ω Ω Ω Ω Ω,gK,nL,Bool.eq_iff_iff,zl,zl];simp only[if_true];split<;>split<;>split<;>omega|1=>refine⟨wP Ω Ω Ω,λ t=>?_⟩;show inL [(2,4)] t=_;rw[ws Ω Ω Ω,gK,nL,Bool.eq_iff_iff,zl,zl];simp only[if_true];split<;>split<;>split<;>omega|k+2=>refine⟨tw,λ t=>?_⟩;show inL [] t=_;rw[m9,gK,nL];symm;rw[decide_eq_false_iff_not];simp only[if_true];split<;>split<;>split<;>omega);exact List.Perm.cons _ (List.Perm.swap _ _ _)
def LC:bA (λ t=>min (cnt iO [iv 1] t) (cnt jT [iv 1] t)) [(4,7)]:=by refine⟨?_,λ k=>match k with|0=>[(4,7)]|_=>[],1,λ t=>?_,λ k=>?_,List.Perm.refl _⟩;simp[aI];rw[gK,nL];simp only[if_true];split<;>split<;>split<;>omega;match k with|0=>refine⟨wP Ω Ω Ω,λ t=>?_⟩;show inL [(4,7)] t=_;rw[ws Ω Ω Ω,gK,nL,Bool.eq_iff_iff,zl,zl];simp only[if_true];split<;>split<;>split<;>omega|k+1=>refine⟨tw,λ t=>?_⟩;show inL [] t=_;rw[m9,gK,nL];symm;rw[decide_eq_false_iff_not];simp only[if_true];split<;>split<;>split<;>omega
def LB:bA (λ t=>if 0<cnt iO [iv 1] t then 1 else 0) [(0,9)]:=by refine⟨?_,λ k=>match k with|0=>[(0,9)]|_=>[],1,λ t=>?_,λ k=>?_,List.Perm.refl _⟩;simp[aI];split<;>omega;match k with|0=>refine⟨wP Ω Ω Ω,λ t=>?_⟩;show inL [(0,9)] t=_;rw[ws Ω Ω Ω,gK,Bool.eq_iff_iff,zl,zl];simp only[if_true];split<;>split<;>split<;>omega|k+1=>refine⟨tw,λ t=>?_⟩;show inL [] t=_;rw[m9];symm;rw[decide_eq_false_iff_not];split<;>omega
def Lx:jP (λ r t=>cnt iO r t+cnt jT r t) (mk [iv 1] wL):=KC (N:=λ r t=>cnt iO r t+cnt jT r t) LD λ r hr t=>by rw[gK,nL,if_neg hr,if_neg hr]
def Ly:jP (λ r t=>cnt iO r t - cnt jT r t) (mk [iv 1] wn):=KC (N:=λ r t=>cnt iO r t - cnt jT r t) LF λ r hr t=>by rw[gK,nL,if_neg hr,if_neg hr]
def Lv:jP (λ r t=>min (cnt iO r t) (cnt jT r t)) (mk [iv 1] [(4,7)]):=KC (N:=λ r t=>min (cnt iO r t) (cnt jT r t)) LC λ r hr t=>by rw[gK,nL,if_neg hr,if_neg hr];rfl
def Lu:jP (λ r t=>if 0<cnt iO r t then 1 else 0) (mk [iv 1] [(0,9)]):=KC (N:=λ r t=>if 0<cnt iO r t then 1 else 0) LB λ r hr t=>by rw[gK,if_neg hr];rfl
def S7{n:Nat}{a b:List Fc}{h:Row}{τ:Int}:lj n a b h τ↔(∃f,f∈a/\f.r.take n=h/\aG f.p τ)/\∀g,g∈b->aG g.p τ->∃f,f∈a/\f.r=h++g.r/\aG f.p τ:=by unfold lj;constructor;rintro⟨h1,h2⟩;exact⟨h1,λ g g1 g2=>pg.1 (h2 g.r (pg.2 ⟨g,g1,rfl,g2⟩))⟩;rintro⟨h1,h2⟩;refine⟨h1,λ t ht=>?_⟩;obtain⟨g,g1,rfl,g2⟩:=pg.1 ht;exact pg.2 (h2 g g1 g2)
def wl(τ:Int):(lj 1 mj mR [iv 1] τ↔0<=τ/\τ<6)/\(lj 1 mj mR [iv 2] τ↔(0<=τ/\τ<4)\/(8<=τ/\τ<9))/\∀h,lj 1 mj mR h τ->h=[iv 1]\/h=[iv 2]:=by
 have h1:=rq (a:=0) (b:=6) (t:=τ) Ω Ω Ω;have h2:=rq (a:=3) (b:=9) (t:=τ) Ω Ω Ω;have h3:=rq (a:=0) (b:=9) (t:=τ) Ω Ω Ω;have h4:=rq (a:=1) (b:=9) (t:=τ) Ω Ω Ω;have h5:=rq (a:=4) (b:=8) (t:=τ) Ω Ω Ω;have q:¬ iv 1=iv 2:=by simp[iv]
 have Q:¬ iv 2=iv 1:=by simp[iv]
 have J:¬ iv 5=iv 6:=by simp[iv]
 have O:¬ iv 6=iv 5:=by simp[iv]
 refine⟨?_,?_,λ h hh=>?_⟩;rw[S7];simp only[mj,mR,zC,List.not_mem_nil,or_false,exists_eq_or_imp,exists_eq_left,forall_eq_or_imp,forall_eq,h1,h2,h3,h4,h5,zl,List.take_succ_cons,List.take_zero,List.cons_append,zU,List.cons.injEq,and_true,true_and,q,Q,J,O,false_and,and_false,or_false,false_or,imp_false,not_and];omega;rw[S7];simp only[mj,mR,zC,List.not_mem_nil,or_false,exists_eq_or_imp,exists_eq_left,forall_eq_or_imp,forall_eq,h1,h2,h3,h4,h5,zl,List.take_succ_cons,List.take_zero,List.cons_append,zU,List.cons.injEq,and_true,true_and,q,Q,J,O,false_and,and_false,or_false,false_or,imp_false,not_and];omega;obtain⟨f,hf,rfl,_⟩:=hh.1;simp only[mj,zC,List.not_mem_nil,or_false]at hf;rcases hf with rfl|rfl|rfl<;>simp
def FU:Row->List aF:=λ r=>if r=[iv 1]then[(0,6)]else[(0,4),(8,9)]
def Lw:jP (fF 1 mj mR) (mk [iv 1] [(0,6)]++mk [iv 2] [(0,4),(8,9)]):=by
 have q:¬ [iv 2]=[iv 1]:=by simp[iv]
 refine⟨[[iv 1],[iv 2]],FU,?_,λ r t ht=>?_,λ r hr=>?_,?_⟩;refine List.pairwise_pair.2 ?_;have e1:aQ [iv 1] [iv 2]≠0:=λ e=>q (vl e).symm;have e2:aQ [iv 1] [iv 2]=-1:=by decide +kernel
 omega;rcases(wl t).2.2 r (vB.1 ht)with rfl|rfl<;>simp;have le:=tG 1 mj mR r;have e:fF 1 mj mR r=λ t=>if 0<fF 1 mj mR r t then 1 else 0:=funext λ t=>by have:=le t;split<;>omega
 rw[e];simp only[zC,List.not_mem_nil,or_false]at hr;rcases hr with rfl|rfl;have:FU [iv 1]=[(0,6)]:=if_pos rfl;rw[this];refine yq (wP Ω Ω Ω) λ t=>?_;rw[ws Ω Ω Ω,Bool.eq_iff_iff,zl,zl,vB,(wl t).1];have:FU [iv 2]=[(0,4),(8,9)]:=if_neg q;rw[this];refine yq (WD Ω Ω Ω Ω Ω) λ t=>?_;rw[SO Ω Ω Ω Ω Ω,Bool.eq_iff_iff,zl,zl,vB,(wl t).2.1];simp[cE,mk,FU,q]
end Go.Sim.M
