/- Part 18 of the proof of the law. -/
import Derived.Test.YtodofdnlhoknhaaGreatDoorTF17
import Derived.Lib.ItoaLen
set_option linter.defProp false
set_option linter.unusedVariables false
set_option linter.unusedSimpArgs false
set_option linter.unusedSectionVars false
set_option maxRecDepth 100000
set_option maxRecDepth 10000
noncomputable section
namespace Go.Sim.M
open Go.RowKit Go.Sim.Srt
def rdD(l:List UInt8):Nat:=l.foldl (λ a c=>a*10+(c.toNat - 48)) 0
def xCe(u:Nat):∀c,c∈Lib.decDigits u->48<=c.toNat/\c.toNat<=57:=by induction u using Nat.strongRecOn with|_ u ih=>intro c hc;rw[Lib.decDigits]at hc;split at hc;rw[zv]at hc;subst hc;rw[UInt8.toNat_ofNat'];omega;rw[zG,zv]at hc;rcases hc with hc|rfl;exact ih (u / 10) Ω c hc;rw[UInt8.toNat_ofNat'];omega
def xFE(u:Nat):rdD (Lib.decDigits u)=u:=by induction u using Nat.strongRecOn with|_ u ih=>rw[Lib.decDigits];split;simp only[rdD,List.foldl_cons,List.foldl_nil,UInt8.toNat_ofNat'];omega;have:=ih (u / 10) Ω;unfold rdD at this|-;rw[List.foldl_append,this];simp only[List.foldl_cons,List.foldl_nil,UInt8.toNat_ofNat'];omega
def xCf{u v:Nat}(h:Lib.decDigits u=Lib.decDigits v):u=v:=by rw[<-xFE u,h,xFE]
def xvn{a b:Int}(h:Lib.itoa a=Lib.itoa b):a=b:=by(unfold Lib.itoa at h;have k:∀u v:Nat,45::Lib.decDigits u≠Lib.decDigits v:=λ u v e=>by have:=xCe v 45 (by rw[<-e];simp);have t:(45:UInt8).toNat=45:=rfl;omega);split at h<;>split at h;have:=xCf (List.cons.inj h).2;omega;exact absurd h (k _ _);exact absurd h.symm (k _ _);have:=xCf h;omega
def xqw(a:Int):(32:UInt8)∉Lib.itoa a:=by(have k:∀v:Nat,(32:UInt8)∉Lib.decDigits v:=λ v e=>by have:=xCe v 32 e;have t:(32:UInt8).toNat=32:=rfl;omega);unfold Lib.itoa;split;rw[zC];rintro(h|h);simp at h;exact k _ h;exact k _
def xv1:∀{a b x y:List UInt8},(32:UInt8)∉a->(32:UInt8)∉b->a++32::x=b++32::y->a=b/\x=y|[],[],x,y,_,_,h=>⟨rfl,(List.cons.inj h).2⟩|[],c::b,x,y,_,hb,h=>absurd (List.cons.inj h).1 λ e=>hb (by rw[e];simp)|c::a,[],x,y,ha,_,h=>absurd (List.cons.inj h).1 λ e=>ha (by rw[<-e];simp)|c::a,d::b,x,y,ha,hb,h=>by obtain⟨e1,h⟩:=List.cons.inj h;obtain⟨e2,e3⟩:=xv1 (a:=a) (b:=b) (λ e=>ha (by simp[e])) (λ e=>hb (by simp[e])) h;exact⟨by rw[e1,e2],e3⟩
def keyV(v:Val):List UInt8:=Lib.itoa v.k++32::(Lib.itoa v.i++32::(Lib.itoa (v.t.length:Int)++32::v.t))
def keyOf(r:Row):List UInt8:=r.flatMap keyV
def xvq(v:Val)(s:List UInt8):keyV v++s=Lib.itoa v.k++32::(Lib.itoa v.i++32::(Lib.itoa (v.t.length:Int)++32::(v.t++s))):=by simp[keyV]
def xlG(v:Val)(r:Row):keyOf (v::r)=keyV v++keyOf r:=by simp[keyOf]
def xuu(v:Val)(s:List UInt8):keyV v++s≠[]:=by rw[xvq];simp
def xsf:∀{r r':Row},keyOf r=keyOf r'->r=r'|[],[],_=>rfl|[],v::r',h=>by rw[xlG]at h;exact absurd h.symm (xuu _ _)|v::r,[],h=>by rw[xlG]at h;exact absurd h (xuu _ _)|v::r,v'::r',h=>by rw[xlG,xlG,xvq,xvq]at h;obtain⟨h1,h⟩:=xv1 (xqw _) (xqw _) h;obtain⟨h2,h⟩:=xv1 (xqw _) (xqw _) h;obtain⟨h3,h⟩:=xv1 (xqw _) (xqw _) h;have h3:=xvn h3;obtain⟨h4,h⟩:=List.append_inj h Ω;(obtain rfl:=xsf h;have:v=v':=by obtain⟨k,i,t⟩:=v;obtain⟨k',i',t'⟩:=v';obtain rfl:=xvn h1;obtain rfl:=xvn h2;subst h4;rfl);rw[this]
def xMg{n:Int}(h:(Lit.int .i64 n).wf):-9223372036854775808<=n/\n<=9223372036854775807:=by have h:(decide ((IntKind.i64).min<=n)&&decide (n<=(IntKind.i64).max)):=h;rw[zf,zl,zl]at h;exact h
variable {v:Val}
def xAr(hw:v.wf)(ht:v.t.length<=1099511627776):(keyV v).length<=66+v.t.length:=by obtain⟨w1,w2,_⟩:=hw;have a1:=Lib.itoa_length_le v.k (xMg w1).1 (xMg w1).2;have a2:=Lib.itoa_length_le v.i (xMg w2).1 (xMg w2).2;have a3:=Lib.itoa_length_le (v.t.length:Int) Ω Ω;simp only[keyV,z8,zF];omega
def xqC(s B:List UInt8)(h:(B++s).length<=140737488355328):xaB s B.length (byteAVs B)=some ((s.length:Int),(B++s).length,byteAVs (B++s)):=by(rw[z8]at h;have h2:B.length+s.length<=4611686018427387904:=Ω);unfold xaB xeF;simp only[xha,beq_self_eq_true,Nat.mul_one,h,h2,zn,Bool.and_self,xab,xsb,z8,sUF]
def xtc(B:List UInt8)(h:(B++[32]).length<=140737488355328):xeg 32 B.length (byteAVs B)=some ((B++[32]).length,byteAVs (B++[32])):=by(rw[z8,zj]at h;have h2:B.length+1<=4611686018427387904:=Ω);unfold xeg xff;simp only[xha,beq_self_eq_true,Nat.mul_one,h,h2,zn,Bool.and_self,xab,xsb,z8,zj,sUF];rfl
def numI(n:Int):List UInt8:=Lib.itoa n++[32]
def xDv(t8:List AV)(t9 q:Int)(xs:List AV)(hx:xs.length=3)(j:Nat)(hj:j<3)(n:Int)(hn:xs.getD j .top=.int .i64 n)(h1:-9223372036854775808<=n)(h2:n<=9223372036854775807)(v0 v1:Int)(v2 B:List UInt8)(hB:B.length<=70368744177664):xbE t8 t9 q 3 3 ((j:Int),B.length,v0,v1,v2,xs,byteAVs B)=some (.inl (((j+1:Nat):Int),(B++numI n).length,v0,v1,v2,xs,byteAVs (B++numI n))):=by
 have hl:=Lib.itoa_length_le n h1 h2;have i1:(j:Int)<3:=Ω
 have i2:(j:Int)<((3:Nat):Int):=Ω
 have i3:j<xs.length:=Ω
 have e1:=xqC (Lib.itoa n) B (by rw[z8];omega);have e2:=xtc (B++Lib.itoa n) (by rw[z8,z8,zj];omega);have hc:((AV.int IntKind.i64 n).cells.getD 0 .top).toInt=n:=rfl;have hs:xMx (Sh.int IntKind.i64) ((AV.int IntKind.i64 n).cells.getD 0 .top):=rfl;simp only[xbE,xiQ,xkZ,xkx,xk0,xfU,sBU,i1,i2,i3,hn,hc,hs,h1,h2,e1,e2,xL0 (n:=j) Ω,numI,zw]
def xIk(t8:List AV)(t9 q:Int)(xs:List AV)(v0 v1:Int)(v2 B:List UInt8):xbE t8 t9 q 3 3 (((3:Nat):Int),B.length,v0,v1,v2,xs,byteAVs B)=some (.inr (B.length,v0,v1,v2,byteAVs B)):=by(have i1:¬ ((3:Nat):Int)<3:=Ω);simp only[xbE,xiQ,i1,zm,xae,sUF]
def xoK(v:Val):keyV v=numI v.k++(numI v.i++(numI (v.t.length:Int)++v.t)):=by simp[keyV,numI]
def KOk(v:Val):Prop:=v.wf/\v.t.length<=1099511627776
def KOk.len(h:KOk v):(keyV v).length<=1099511627842:=by have:=xAr h.1 h.2;have:=h.2;omega
def xCr(t8:List AV)(t9 q:Int)(v:Val)(h:KOk v)(B:List UInt8)(hB:B.length<=35184372088832):Iter (xbE t8 t9 q 3 3) ((1:Int),(B++numI v.k).length,v.k,v.i,v.t,[AV.int .i64 v.k,AV.int .i64 v.i,AV.int .i64 (v.t.length:Int)],byteAVs (B++numI v.k))=some ((B++numI v.k++numI v.i++numI (v.t.length:Int)).length,v.k,v.i,v.t,byteAVs (B++numI v.k++numI v.i++numI (v.t.length:Int))):=by have hl:=h.len;have ht:=h.2;rw[xoK,z8,z8,z8]at hl;have e1:=xDv t8 t9 q [AV.int .i64 v.k,AV.int .i64 v.i,AV.int .i64 (v.t.length:Int)] rfl 1 Ω v.i rfl (xMg h.1.2.1).1 (xMg h.1.2.1).2 v.k v.i v.t (B++numI v.k) (by rw[z8];omega);have e2:=xDv t8 t9 q [AV.int .i64 v.k,AV.int .i64 v.i,AV.int .i64 (v.t.length:Int)] rfl 2 Ω (v.t.length:Int) rfl Ω Ω v.k v.i v.t (B++numI v.k++numI v.i) (by rw[z8,z8];omega);exact(xak e1).trans ((xak e2).trans (xac (xIk ..)))
def xKh(t8:List AV)(t9 q:Int)(v:Val)(h:KOk v)(B:List UInt8)(hB:B.length<=35184372088832):Iter (xbE t8 t9 q 3 3) ((0:Int),B.length,v.k,v.i,v.t,[AV.int .i64 v.k,AV.int .i64 v.i,AV.int .i64 (v.t.length:Int)],byteAVs B)=some ((B++numI v.k++numI v.i++numI (v.t.length:Int)).length,v.k,v.i,v.t,byteAVs (B++numI v.k++numI v.i++numI (v.t.length:Int))):=by have e0:=xDv t8 t9 q [AV.int .i64 v.k,AV.int .i64 v.i,AV.int .i64 (v.t.length:Int)] rfl 0 Ω v.k rfl (xMg h.1.1).1 (xMg h.1.1).2 v.k v.i v.t B Ω;exact(xak e0).trans (xCr t8 t9 q v h B hB)
def xFl(r:Row)(hr:r.length<=1048576)(h:∀v,v∈r->KOk v)(hk:(keyOf r).length<=17592186044416):∀d k:Nat,k+d=r.length->Iter (xdU (r.map encV) ((r.length:Nat):Int)) ((k:Int),(keyOf (r.take k)).length,byteAVs (keyOf (r.take k)))=some ((keyOf r).length,byteAVs (keyOf r))
 |0,k,hkk=>by
  obtain rfl:k=r.length:=by omega
  rw[y6];refine xac ?_;simp only[xdU,xiP,zy,zm,xae,sUF]
 |d+1,k,hkk=>by
  have q:k<r.length:=by omega
  have hv:=h r[k] (zo q);have i1:(k:Int)<(r.length:Int):=by omega
  have gf:(r.map encV).getD k .top=encV r[k]:=xad _ _ _ q;have tk:keyOf (r.take (k+1))=keyOf (r.take k)++keyV r[k]:=by
   unfold keyOf;rw[List.take_add_one,ze q,List.flatMap_append];simp
  have le:(keyOf (r.take (k+1))).length<=(keyOf r).length:=by
   conv=>rhs;rw[<-List.take_append_drop (k+1) r]
   unfold keyOf;rw[List.flatMap_append,z8];omega
  have hl:=hv.len;rw[tk,z8]at le;have e1:=xKh (r.map encV) (r.length:Int) (k:Int) r[k] hv (keyOf (r.take k)) (by omega)
  have kn:keyOf (r.take k)++keyV r[k]=keyOf (r.take k)++numI r[k].k++numI r[k].i++numI (r[k].t.length:Int)++r[k].t:=by rw[xoK];simp only[zw]
  have e2:=xqC r[k].t (keyOf (r.take k)++numI r[k].k++numI r[k].i++numI (r[k].t.length:Int)) (by rw[<-kn,z8];omega)
  rw[xak (s':=(((k+1:Nat):Int),(keyOf (r.take (k+1))).length,byteAVs (keyOf (r.take (k+1))))) ?_]
  . exact xFl r hr h hk d (k+1) (by omega)
  . rw[tk,kn];simp only[xdU,xiP,xkW,xkX,xhP,xkY,sBU,q,i1,gf,cV0,cV1,cV2,lV,sV,e1,e2,xL0 (n:=k) (by omega)]
def xKi(r:Row)(hr:r.length<=1048576)(h:∀v,v∈r->KOk v)(hk:(keyOf r).length<=17592186044416):xkV (r.map encV)=some (keyOf r):=by match r with|[]=>rfl|v::t=>have hv:=h v Ψ;(have hl:=hv.len;have i1:(0:Int)<((t.length+1:Nat):Int):=Ω);(have i2:0<t.length+1:=Ω);(obtain⟨r1,r2⟩:=xMg hv.1.1;have q:=Lib.itoa_length_le v.k r1 r2;have gf:((v::t).map encV).getD 0 .top=encV v:=rfl;have e0:xaE (Lib.itoa v.k)=some (((Lib.itoa v.k).length:Int),(Lib.itoa v.k).length,byteAVs (Lib.itoa v.k)):=by(have m1:(Lib.itoa v.k).length<=140737488355328:=Ω);(have m2:(Lib.itoa v.k).length<=4611686018427387904:=Ω);unfold xaE xc7;simp only[xha,Nat.mul_one,m1,m2,zn,Bool.and_self,xab,sUF]);have e1:xef 32 (Lib.itoa v.k).length (byteAVs (Lib.itoa v.k))=some (([]++numI v.k).length,byteAVs ([]++numI v.k)):=xtc (Lib.itoa v.k) (by rw[z8,zj];omega);have e2:=xCr ((v::t).map encV) ((t.length+1:Nat):Int) 0 v hv [] Ψ;(have kn:keyV v=[]++numI v.k++numI v.i++numI (v.t.length:Int)++v.t:=by rw[xoK];simp);have e3:=xqC v.t ([]++numI v.k++numI v.i++numI (v.t.length:Int)) (by rw[<-kn];omega);rw[<-kn]at e3;have e4:=xFl (v::t) hr h hk t.length 1 (by rw[zF];omega);(have tk:keyOf ((v::t).take 1)=keyV v:=by simp[keyOf]);rw[tk,zF]at e4;have e4:Iter (xdU ((v::t).map encV) ((t.length+1:Nat):Int)) ((1:Int),(keyV v).length,byteAVs (keyV v))=_:=e4;have hne:(keyOf (v::t)).length≠0:=λ e=>xuu v (keyOf t) (by rw[<-xlG];exact List.length_eq_zero_iff.1 e);unfold xkV xoJ xgd xnH xnI xnJ xka xnK xnL xnM xdE;simp only[za,zF,i1,i2,gf,cV0,cV1,cV2,lV,sV,r1,r2,e0,e1,e2,e3,e4,zn,xab,Bool.and_self,beq_self_eq_true,zk,zh,xha,xrv,xtq,ne_eq,hne,not_false_eq_true,sUF]
abbrev Grp:=Row×List Per
def encG(g:Grp):AV:=.agg [.list 3 (g.1.map encV),.list 2 (g.2.map encP)]
def okEG(x:AV):Bool:=x.cells.length==(2:Nat)&&xM6 [Sh.list (3:Nat),Sh.list (2:Nat)] x.cells (0:Nat)
def ldEG(x:AV):AV:=AV.agg [AV.list (3:Nat) (x.cells.getD (0:Nat) AV.top).toList,AV.list (2:Nat) (x.cells.getD (1:Nat) AV.top).toList]
def xMt(x y:AV):Bool:=(xdV (x.cells.getD 0 AV.top).toList (x.cells.getD 1 AV.top).toList (y.cells.getD 0 AV.top).toList (y.cells.getD 1 AV.top).toList).isSome
def xMu(x y:AV):Int:=(xdV (x.cells.getD 0 AV.top).toList (x.cells.getD 1 AV.top).toList (y.cells.getD 0 AV.top).toList (y.cells.getD 1 AV.top).toList).getD 0
theorem heG(a:Grp):okEG (encG a):=rfl
theorem hdG(a:Grp):ldEG (encG a)=encG a:=rfl
section
variable{N:Nat}(hN:N <=2 ^ 60){ok:Grp->Prop}{c:Grp->Grp->Int}(hc:∀x y,ok x->ok y->xMt (encG x) (encG y) =true/\xMu (encG x) (encG y) =c x y)
include hN
theorem xHE(a b n:Nat)(l r:List Grp)(ha:a<=2 ^ 60)(hb:b<=2 ^ 60)(hn:n<=2 ^ 60)(hl:LOk N ok l)(hr:swr a b n l=some r):xa8 N a b n (List.map encG l)=some (List.map encG r)/\LOk N ok r:=by obtain⟨e1,e2⟩:=xIF (okE:=okEG) (ldE:=ldEG) heG hdG hN a b n ha hb hn (g:=xcM N a b n) (λ i xs=>rfl) hl hr;refine⟨?_,e2⟩;unfold xa8 xfX;rw[e1];rfl
theorem xLA(a m b:Nat)(l r:List Grp)(h1:a<=m)(h2:m<=b)(h3:b<=N)(hl:LOk N ok l)(hr:rot a m b l=some r):xco N a m b (List.map encG l)=some (List.map encG r)/\LOk N ok r:=by unfold rot at hr;cases hi:Iter (xL7 m) (m - a,b - m,l)with|none=>rw[hi]at hr;simp at hr|some p=>obtain⟨i,l'⟩:=p;rw[hi]at hr;obtain⟨e1,e2,e3⟩:=xIE (enc:=encG) hN (ok:=ok) (SW:=λ a b n xs=>xa8 N a b n xs) (λ a b n l r ha hb hn hl hr=>xHE hN a b n l r ha hb hn hl hr) m Ω (g:=xfc N m) (λ i j xs=>rfl) Ω Ω hl hi;obtain⟨e4,e5⟩:=xHE hN (m - i) m i l' r Ω Ω Ω e3 hr;refine⟨?_,e5⟩;simp only[xco,xhq,xgY,xdm,w64 (x:=(m:Int) - (a:Int)) (n:=m - a) Ω Ω,w64 (x:=(b:Int) - (m:Int)) (n:=b - m) Ω Ω,e1,zh,zk,xab,w64 (x:=(m:Int) - (i:Int)) (n:=m - i) Ω Ω,e4,sUF]
include hc
theorem xHB(a b:Nat)(ha:a<=N)(hb:b<=N){l r:List Grp}(hl:LOk N ok l)(hr:xMp c a b l=some r):xbC N a b (List.map encG l)=some (List.map encG r)/\LOk N ok r:=by obtain⟨e1,e2⟩:=xHg (enc:=encG) hN (c:=c) (ok:=ok) a b hb (gi:=λ i=>xb4 N a b i) (λ i l r hl hr=>xID (okE:=okEG) (ldE:=ldEG) heG hdG hN (P:=xMt) (V:=xMu) hc a (λ j xs=>rfl) hl hr) (g:=xb3 N a b) (λ i xs=>rfl) hl hr;refine⟨?_,e2⟩;unfold xbC xe0;rw[w64 (x:=(a:Int)+1) (n:=a+1) Ω Ω,e1];rfl
theorem xHF:∀(f a m b:Nat)(l r:List Grp),a<m->m<b->b<=N->LOk N ok l->symM c f a m b l=some r->xaz f N a m b (List.map encG l)=some (List.map encG r)/\LOk N ok r:=by intro f;induction f with|zero=>intro a m b l r _ _ _ _ hr;simp[symM]at hr|succ f ih=>
 intro a m b l r af ag hb hl hr;unfold symM at hr;show xaN (xaz f) N a m b (List.map encG l)=some (List.map encG r)/\LOk N ok r;have W:IntKind.i64.wrap ((m:Int) - (a:Int))=((m - a:Nat):Int):=w64 Ω Ω;have ac:IntKind.i64.wrap ((b:Int) - (m:Int))=((b - m:Nat):Int):=w64 Ω Ω;by_cases h1:m - a=1;rw[if_pos h1]at hr;cases hi:Iter (xL6 λ h=>(get2 c l h a).map λ r=>decide (r<0)) (m,b)with|none=>rw[hi]at hr;simp at hr|some i=>rw[hi]at hr;obtain⟨e0,b1,b2⟩:=xAZ (okE:=okEG) heG hN (P:=xMt) (V:=xMu) hc (λ h=>h) (λ _=>a) (λ h=>h) (λ _=>(a:Int)) m b Ω (λ _ _ _=>rfl) (λ _ _ _=>rfl) (λ r=>decide (r<0)) (g:=xbW N a) (λ i j xs=>rfl) hl (zd _) (zd _) Ω hi;obtain⟨e1,e2⟩:=xKB (okE:=okEG) (ldE:=ldEG) heG hdG hN (ok:=ok) (i - 1) i Ω Ω (g:=xeC N i) (λ k xs=>rfl) hl hr;refine⟨?_,e2⟩;simp only[xaN,xby,xbb,xbc,xbd,xbe,xbf,xbg,xaY,xaZ,xah,xax,xa0,xai,xaf,xag,xal,xam,xbL,xbM,xbN,xaa,xbO,xbP,xbQ,xbh,xbi,xbR,xbS,xav,xaw,W,h1,e0,zh,zk,xab,e1,Int.natCast_one,beq_self_eq_true,sUF]
 rw[if_neg h1]at hr;have d1:(((m - a:Nat):Int)==1)=false:=by simp;omega
 by_cases h2:b - m=1;rw[if_pos h2]at hr;cases hi:Iter (xL6 λ h=>(get2 c l m h).map λ r=>!decide (r<0)) (a,m)with|none=>rw[hi]at hr;simp at hr|some i=>rw[hi]at hr;obtain⟨e0,b1,b2⟩:=xAZ (okE:=okEG) heG hN (P:=xMt) (V:=xMu) hc (λ _=>m) (λ h=>h) (λ _=>(m:Int)) (λ h=>h) a m Ω (λ _ _ _=>rfl) (λ _ _ _=>rfl) (λ r=>!decide (r<0)) (g:=xbX N m) (λ i j xs=>rfl) hl (zd _) (zd _) Ω hi;obtain⟨e1,e2⟩:=xHf (okE:=okEG) (ldE:=ldEG) heG hdG hN (ok:=ok) i (g:=xeD N i) (λ k xs=>rfl) hl hr;refine⟨?_,e2⟩;simp only[xaN,xby,xbb,xbc,xbd,xbe,xbf,xbg,xaY,xaZ,xah,xax,xa0,xai,xaf,xag,xal,xam,xbL,xbM,xbN,xaa,xbO,xbP,xbQ,xbh,xbi,xbR,xbS,xav,xaw,W,ac,d1,h2,e0,zh,zk,xab,xae,e1,Int.natCast_one,beq_self_eq_true,sUF]
 rw[if_neg h2]at hr;have d2:(((b - m:Nat):Int)==1)=false:=by simp;omega
 have hh:IntKind.i64.wrap ((IntKind.u64.wrap (IntKind.i64.wrap ((a:Int)+(b:Int)))).fdiv 2)=(((a+b) / 2:Nat):Int):=xMD Ω;obtain⟨q,Q⟩:∃q,q=(a+b) / 2:=⟨_,rfl⟩;rw[<-Q]at hr hh;have w2:IntKind.i64.wrap ((q:Int)+(m:Int))=((q+m:Nat):Int):=w64 Ω Ω;have w3:IntKind.i64.wrap (((q+m:Nat):Int) - 1)=((q+m - 1:Nat):Int):=w64 Ω Ω;obtain⟨lo,hi,ad,g1,g2,g3,g4,ae⟩:∃lo hi,(if q<m then(q+m - b,q)else(a,m))=(lo,hi)/\a<=lo/\lo<=hi/\hi<=m/\hi<=q/\((q<m/\lo=q+m - b/\hi=q)\/(¬ q<m/\lo=a/\hi=m)):=by by_cases h:q<m;exact⟨_,_,if_pos h,by omega,by omega,by omega,by omega,.inl ⟨h,rfl,rfl⟩⟩;exact⟨_,_,if_neg h,by omega,by omega,by omega,by omega,.inr ⟨h,rfl,rfl⟩⟩
 rw[ad]at hr;cases hs:Iter (xL6 λ h=>(get2 c l (q+m - 1 - h) h).map λ r=>!decide (r<0)) (lo,hi)with|none=>rw[hs]at hr;simp at hr|some s=>rw[hs]at hr;dsimp only at hr;obtain⟨e0,b1,b2⟩:=xAZ (okE:=okEG) heG hN (P:=xMt) (V:=xMu) hc (λ h=>q+m - 1 - h) (λ h=>h) (λ h=>IntKind.i64.wrap (((q+m - 1:Nat):Int) - h)) (λ h=>h) lo hi Ω (λ h _ _=>w64 Ω Ω) (λ _ _ _=>rfl) (λ r=>!decide (r<0)) (g:=xc2 N a m b q ((q+m:Nat):Int) ((q+m - 1:Nat):Int)) (λ i j xs=>rfl) hl (zd _) (zd _) g2 hs;have w5:IntKind.i64.wrap (((q+m:Nat):Int) - (s:Int))=((q+m - s:Nat):Int):=w64 Ω Ω;obtain⟨e,he⟩:∃e,e=q+m - s:=⟨_,rfl⟩;rw[<-he]at hr w5;cases J:(if s<m/\m<e then rot s m e l else some l)with|none=>rw[J]at hr;simp at hr|some l1=>
 rw[J]at hr;dsimp only at hr;have k1:(s<m/\m<e/\xco N s m e (List.map encG l)=some (List.map encG l1)/\LOk N ok l1)\/(¬ (s<m/\m<e)/\l1=l):=by by_cases h:s<m/\m<e;rw[if_pos h]at J;obtain⟨x1,x2⟩:=xLA hN s m e l l1 Ω Ω Ω hl J;exact .inl ⟨h.1,h.2,x1,x2⟩;rw[if_neg h]at J;simp only[z6]at J;exact .inr ⟨h,J.symm⟩
 have aa:LOk N ok l1:=by rcases k1 with k|k;exact k.2.2.2;rw[k.2];exact hl
 cases O:(if a<s/\s<q then symM c f a s q l1 else some l1)with|none=>rw[O]at hr;simp at hr|some l2=>
 rw[O]at hr;dsimp only at hr;have k2:(a<s/\s<q/\xaz f N a s q (List.map encG l1)=some (List.map encG l2)/\LOk N ok l2)\/(¬ (a<s/\s<q)/\l2=l1):=by by_cases h:a<s/\s<q;rw[if_pos h]at O;obtain⟨x1,x2⟩:=ih a s q l1 l2 h.1 h.2 Ω aa O;exact .inl ⟨h.1,h.2,x1,x2⟩;rw[if_neg h]at O;simp only[z6]at O;exact .inr ⟨h,O.symm⟩
 have Y:LOk N ok l2:=by rcases k2 with k|k;exact k.2.2.2;rw[k.2];exact aa
 have k3:(q<e/\e<b/\xaz f N q e b (List.map encG l2)=some (List.map encG r)/\LOk N ok r)\/(¬ (q<e/\e<b)/\r=l2):=by by_cases h:q<e/\e<b;rw[if_pos h]at hr;obtain⟨x1,x2⟩:=ih q e b l2 r h.1 h.2 hb Y hr;exact .inl ⟨h.1,h.2,x1,x2⟩;rw[if_neg h]at hr;simp only[z6]at hr;exact .inr ⟨h,hr.symm⟩
 refine⟨?_,?_⟩;clear ih hc hl aa Y hr O J hs ad;rcases ae with⟨hm,ab,Z⟩|⟨hm,ab,Z⟩;rw[ab,Z]at e0;have w4:IntKind.i64.wrap (((q+m:Nat):Int) - (b:Int))=((q+m - b:Nat):Int):=w64 Ω Ω;have dm:decide ((m:Int)>(q:Int)):=by simp[hm]
 simp only[xaN,xby,xbb,xbc,xbd,xbe,xbf,xbg,xaY,xaZ,xah,xax,xa0,xai,xaf,xag,xal,xam,xbL,xbM,xbN,xaa,xbO,xbP,xbQ,xbh,xbi,xbR,xbS,xav,xaw,W,ac,d1,d2,hh,w2,w3,w4,dm,e0,w5,zh,zk,xab,xae,Int.ofNat_lt,sUF];rcases k1 with⟨p1,p2,p3,_⟩|⟨p1,rfl⟩<;>rcases k2 with⟨q1,q2,q3,_⟩|⟨q1,rfl⟩<;>rcases k3 with⟨r1,r2,r3,_⟩|⟨r1,rfl⟩ <;> (by_cases t1:s<m<;>by_cases t2:m<e<;>by_cases t3:a<s<;>by_cases t4:s<q<;>by_cases t5:q<e<;>by_cases t6:e<b<;>first|(exfalso;omega) | (simp only[*,-Q,-he,t1,t2,t3,t4,t5,t6,zn,zm,hm,zh,zk,xab,xae,sUF]));rw[ab,Z]at e0;have dm:decide ((m:Int)>(q:Int))=false:=by simp;omega
 simp only[xaN,xby,xbb,xbc,xbd,xbe,xbf,xbg,xaY,xaZ,xah,xax,xa0,xai,xaf,xag,xal,xam,xbL,xbM,xbN,xaa,xbO,xbP,xbQ,xbh,xbi,xbR,xbS,xav,xaw,W,ac,d1,d2,hh,w2,w3,dm,e0,w5,zh,zk,xab,xae,Int.ofNat_lt,sUF];rcases k1 with⟨p1,p2,p3,_⟩|⟨p1,rfl⟩<;>rcases k2 with⟨q1,q2,q3,_⟩|⟨q1,rfl⟩<;>rcases k3 with⟨r1,r2,r3,_⟩|⟨r1,rfl⟩ <;> (by_cases t1:s<m<;>by_cases t2:m<e<;>by_cases t3:a<s<;>by_cases t4:s<q<;>by_cases t5:q<e<;>by_cases t6:e<b<;>first|(exfalso;omega) | (simp only[*,-Q,-he,t1,t2,t3,t4,t5,t6,zn,zm,hm,zh,zk,xab,xae,sUF]));rcases k3 with k|k;exact k.2.2.2;rw[k.2];exact Y
theorem xHj{l r:List Grp}(hl:LOk N ok l)(hr:xMw c 1000 N l=some r):xfT N N (List.map encG l)=some (List.map encG r)/\LOk N ok r:=by unfold xMw at hr;cases h1:Iter (xMr c N) (0,20,l)with|none=>rw[h1]at hr;simp at hr|some p=>obtain⟨a,l1⟩:=p;rw[h1]at hr;dsimp only at hr;obtain⟨e1,ha,_,V⟩:=xAx (enc:=encG) hN (ok:=ok) 20 Ω (p:=xMr c N) (F:=λ a b l=>xMp c a b l) (λ a b l l' h e=>by simp only[xMr,h,if_true,e]) (λ a b l h e=>by simp only[xMr,h,if_true,e]) (λ a b l h=>by simp only[xMr,h,if_false]) (G:=λ a b xs=>xbC N a b xs) (λ a b l r O _ hb hl hr=>xHB hN hc a b Ω hb hl hr) (g:=xck N N 20) (λ a b xs=>rfl) (a:=0) hl h1 Ω;cases h2:xMp c a N l1 with|none=>rw[h2]at hr;simp at hr|some l2=>
 rw[h2]at hr;dsimp only at hr;obtain⟨e2,Q⟩:=xHB hN hc a N ha (zd _) V h2;have e3:Iter (xa2 N N) (((20:Nat):Int),List.map encG l2)=some (List.map encG r)/\LOk N ok r:=by
  refine xhT (I:=λ s=>1<=s.1/\LOk N ok s.2) (J:=LOk N ok) (e:=λ(s:Nat×List Grp)=>((s.1:Int),List.map encG s.2)) (f:=List.map encG) ?_ (s:=(20,l2)) ⟨by omega,Q⟩ hr;rintro⟨bs,l⟩ ⟨hb,hl⟩;dsimp only at hb hl;by_cases h:bs<N;have wb:IntKind.i64.wrap (2*(bs:Int))=((2*bs:Nat):Int):=w64 Ω Ω;have wb':IntKind.i64.wrap ((bs:Int)*2)=((bs*2:Nat):Int):=w64 Ω Ω;cases h3:Iter (xMe c 1000 bs N) (0,2*bs,l)with|none=>exact xfg (by simp[xMn,h,h3])|some p=>
   obtain ⟨a,l3⟩:=p;obtain ⟨f1,f2,f3,f4⟩:=xAx (enc:=encG) hN (ok:=ok) (2*bs) Ω (p:=xMe c 1000 bs N) (F:=fun a b l=>symM c 1000 a (a+bs) b l) (fun a b l l' h e=>by simp only [xMe,h,if_true,e]) (fun a b l h e=>by simp only [xMe,h,if_true,e]) (fun a b l h=>by simp only [xMe,h,if_false]) (G:=fun a b xs=>xaz 1000 N a (IntKind.i64.wrap (a+(bs:Int))) b xs) (fun a b l r O Y W hl hr=>by
    have:=xHF hN hc 1000 a (a+bs) b l r Ω Ω W hl hr
    rw[w64 (x:=(a:Int)+(bs:Int)) (n:=a+bs) Ω Ω]
    exact this) (g:=xdn N N bs) (fun a b xs=>by rw [<-wb];rfl) (a:=0) hl (by rw [zH];exact h3) Ω
   rw[zH,<-wb]at f1;have f1':Iter (xdn N N bs) ((0:Int),IntKind.i64.wrap (2*(bs:Int)),List.map encG l)=some ((a:Int),List.map encG l3):=f1;have q:IntKind.i64.wrap ((a:Int)+(bs:Int))=((a+bs:Nat):Int):=w64 Ω Ω;by_cases h4:a+bs<N;(cases h5:symM c 1000 a (a+bs) N l3 with|none=>exact xfg (by simp[xMn,h,h3,h4,h5])|some l4=>obtain⟨f5,f6⟩:=xHF hN hc 1000 a (a+bs) N l3 l4 Ω h4 (zd _) f4 h5;refine xmz (s0:=(bs*2,l4)) (by simp[xMn,h,h3,h4,h5]) ?_ ⟨by dsimp only;omega,f6⟩;(have q1:(bs:Int)<(N:Int):=Ω);(have q2:((a+bs:Nat):Int)<(N:Int):=Ω);simp only[xa2,xcP,xd9,xea,xbK,xeb,f1',q1,q2,zn,xab,zk,zh,q,f5,wb',sUF]);refine xmz (s0:=(bs*2,l3)) (by simp[xMn,h,h3,h4]) ?_ ⟨by dsimp only;omega,f4⟩;(have q1:(bs:Int)<(N:Int):=Ω);(have q2:¬ ((a+bs:Nat):Int)<(N:Int):=Ω);simp only[xa2,xcP,xd9,xea,xbK,xeb,f1',q1,q2,zn,zm,xab,xae,zk,zh,q,wb',sUF]
  refine xmo (r0:=l) (by simp[xMn,h]) ?_ hl;have q1:¬ (bs:Int)<(N:Int):=Ω
  simp only[xa2,xcP,q1,zm,xae,sUF]
 have e1':Iter (xck N N 20) ((0:Int),(20:Int),List.map encG l)=some ((a:Int),List.map encG l1):=e1;have e3':Iter (xa2 N N) ((20:Int),List.map encG l2)=some (List.map encG r):=e3.1;refine⟨?_,e3.2⟩;simp only[xfT,xhr,xgZ,xgx,xg0,e1',e2,e3',zk,zh,xab,sUF]
end
theorem xLB{N:Nat}(hN:N*48<=140737488355328){ok:Grp->Prop}{c:Grp->Grp->Int}(hc:∀x y:Grp,ok x->ok y->xMt (encG x) (encG y)/\xMu (encG x) (encG y)=c x y)(l r:List Grp)(hl:l.length=N)(ho:∀x,x∈l->ok x)(hr:xMw c 1000 N l=some r):xhF N (List.map encG l)=some (List.map encG r):=by obtain⟨e1,e2⟩:=xHj (N:=N) Ω (ok:=ok) hc ⟨hl,ho⟩ hr;simp only[xhF,xgX,e1,zk,zh,xab,sUF]
def ents:Nat->List Row->List AV|_,[]=>[]|k,r::R=>.agg [.str (keyOf r),.int .i64 (k:Int)]::ents (k+1) R
def xCi:∀(R:List Row)(k:Nat)(r:Row),mapIx (ents k R) (keyOf r)=R.findIdx? λ x=>decide (x=r)|[],_,_=>rfl|x::R,k,r=>by(have hk:isKey (keyOf r) (((AV.agg [.str (keyOf x),.int .i64 (k:Int)]).cells).getD 0 .top)=decide (x=r):=by show (keyOf x==keyOf r)=_;by_cases h:x=r;subst h;simp;have:¬ keyOf x=keyOf r:=λ e=>h (xsf e);simp[h,this]);show (match isKey (keyOf r) (((AV.agg [.str (keyOf x),.int .i64 (k:Int)]).cells).getD 0 .top)with|true=>some 0|false=>(mapIx (ents (k+1) R) (keyOf r)).map (·+1))=_;rw[hk,List.findIdx?_cons,xCi R (k+1) r];by_cases h:x=r<;>simp[h]
def xAc:∀(R:List Row)(k:Nat),(ents k R).length=R.length|[],_=>rfl|_::R,k=>by show (ents (k+1) R).length+1=_;rw[xAc R];rfl
def xyE:∀(R:List Row)(k:Nat)(r:Row),ents k (R++[r])=ents k R++[.agg [.str (keyOf r),.int .i64 ((k+R.length:Nat):Int)]]|[],_,_=>rfl|x::R,k,r=>by show _::ents (k+1) (R++[r])=_;rw[xyE R (k+1) r,zF,show k+1+R.length=k+(R.length+1) by omega];rfl
def xAb:∀(R:List Row)(k j:Nat)(h:j<R.length),(ents k R).getD j .top=.agg [.str (keyOf R[j]),.int .i64 ((k+j:Nat):Int)]|x::R,k,0,h=>rfl|x::R,k,j+1,h=>by show (ents (k+1) R).getD j .top=_;rw[xAb R (k+1) j (by simpa using h),show k+1+j=k+(j+1) by omega];rfl
def upd(G:List Grp)(f:Fc):List Grp:=match (G.map (·.1)).findIdx? λ x=>decide (x=f.r)with|some j=>G.set j (f.r,(G.getD j ([],[])).2++[f.p])|none=>G++[(f.r,[f.p])]
structure GI (l:List Fc) (G:List Grp):Prop where
 nd:(G.map (·.1)).Nodup
 mem:∀r,r∈G.map (·.1)↔∃f,f∈l/\f.r=r/\pv f.p
 ps:∀g,g∈G->g.2=psOf l g.1
 len:G.length<=l.length
def GI.nil:GI [] []:=⟨List.nodup_nil,λ r=>by simp,λ g hg=>by simp at hg,zd _⟩
def xsk(l:List Fc)(f:Fc)(r:Row):psOf (l++[f]) r=psOf l r++(if f.r=r/\pv f.p then[f.p]else[]):=by unfold psOf;rw[List.filter_append,zx];congr 1;by_cases h1:f.r=r<;>by_cases h2:pv f.p=true<;>simp[h1,h2]
variable {G:List Grp}
def GI.skip{l:List Fc}(h:GI l G){f:Fc}(hf:pv f.p=false):GI (l++[f]) G:=
 ⟨h.nd,fun r=>by
  rw[h.mem];refine⟨λ⟨g,hg,e⟩=>⟨g,by simp[hg],e⟩,λ⟨g,hg,e1,e2⟩=>⟨g,?_,e1,e2⟩⟩
  rcases zG.1 hg with hg|hg
  . exact hg
  . rw [zv] at hg;subst hg;rw [hf] at e2;simp at e2,fun g hg=>by rw [xsk,if_neg (by rw [hf];simp),zD];exact h.ps g hg,by rw [z8];have:=h.len;omega⟩
variable {R:List Row}{j:Nat}
def xtP{r:Row}(h:R.findIdx? (λ x=>decide (x=r))=some j):∃hj:j<R.length,R[j]=r:=by obtain⟨hj,h1,_⟩:=List.findIdx?_eq_some_iff_getElem.1 h;exact⟨hj,by simpa using h1⟩
def xAe{r:Row}(h:R.findIdx? (λ x=>decide (x=r))=none):r∉R:=λ hr=>by have:=List.findIdx?_eq_none_iff.1 h r hr;simp at this
def xyo(hj:j<G.length){ps:List Per}{r:Row}(hr:G[j].1=r):(G.set j (r,ps)).map (·.1)=G.map (·.1):=by(rw[List.map_set];show (G.map (·.1)).set j r=_;rw[<-hr];have:(G.map (·.1))[j]'(by simpa using hj)=G[j].1:=by simp);rw[<-this];exact List.set_getElem_self _
def GI.upd{l:List Fc}(h:GI l G){f:Fc}(hf:pv f.p):GI (l++[f]) (M.upd G f):=by unfold M.upd;cases hi:(G.map (·.1)).findIdx? λ x=>decide (x=f.r)with|some j=>((obtain⟨hj,hr⟩:=xtP hi;rw[za]at hj;rw[List.getElem_map]at hr;dsimp only;have gd:G.getD j ([],[])=G[j]:=by rw[z7,ze hj];rfl);rw[gd];refine⟨by rw[xyo hj hr];exact h.nd,λ r=>?_,λ g hg=>?_,by rw[y4,z8];have:=h.len;omega⟩;rw[xyo hj hr,h.mem];refine⟨λ⟨g,hg,e⟩=>⟨g,by simp[hg],e⟩,λ⟨g,hg,e1,e2⟩=>?_⟩;rcases zG.1 hg with hg|hg;exact⟨g,hg,e1,e2⟩;rw[zv]at hg;subst hg;refine(h.mem r).1 ?_;rw[<-e1,<-hr];exact zK.2 ⟨G[j],zo hj,rfl⟩;obtain⟨i,q,rfl⟩:=zp.1 hg;rw[y4]at q;rw[List.getElem_set];by_cases O:j=i;subst O;rw[if_pos rfl,xsk,if_pos ⟨rfl,hf⟩,h.ps _ (zo hj),hr];rw[if_neg O,xsk,if_neg ?_,zD];exact h.ps _ (zo q);(rintro⟨e,_⟩;have hn:=zB.1 h.nd;have ei:(G.map (·.1))[i]'(by simpa using q)=G[i].1:=by simp);(have ej:(G.map (·.1))[j]'(by simpa using hj)=G[j].1:=by simp);rcases Nat.lt_or_gt_of_ne O with J|J;exact hn j i (by simpa using hj) (by simpa using q) J (by rw[ei,ej,hr,e]);exact hn i j (by simpa using q) (by simpa using hj) J (by rw[ei,ej,hr,e]))|none=>(have hr:=xAe hi;dsimp only;have hz:psOf l f.r=[]:=by unfold psOf;rw[List.map_eq_nil_iff,List.filter_eq_nil_iff];intro g hg he;simp only[zf,zl]at he;exact hr ((h.mem _).2 ⟨g,hg,he⟩));refine⟨?_,λ r=>?_,λ g hg=>?_,by rw[z8,z8];have:=h.len;simp;omega⟩;rw[zx];refine List.nodup_append.2 ⟨h.nd,by simp,λ a ha b hb e=>?_⟩;simp at hb;exact hr (by rw[<-hb,<-e];exact ha);rw[zx,zG,h.mem];simp only[zV,zW,zv,zG];constructor;rintro(⟨g,hg,e⟩|rfl);exact⟨g,.inl hg,e⟩;exact⟨f,.inr rfl,rfl,hf⟩;rintro⟨g,hg|rfl,e⟩;exact .inl ⟨g,hg,e⟩;exact .inr e.1.symm;rcases zG.1 hg with hg|hg;rw[xsk,if_neg ?_,zD];exact h.ps g hg;rintro⟨e,_⟩;exact hr (by rw[e];exact zK.2 ⟨g,hg,rfl⟩);rw[zv]at hg;subst hg;rw[xsk,if_pos ⟨rfl,hf⟩,hz];rfl
def cG0(g:Grp):((encG g).cells.getD 0 .top).toList=g.1.map encV:=rfl
def xE9{α:Type}(l:List α)(x d:α):(l++[x]).getD l.length d=x:=by simp
def xHe{α:Type}(l:List α)(x y:α):(l++[x]).set l.length y=l++[y]:=by simp
def xMI(xs:List AV):(AV.agg xs).cells=xs:=rfl
def tolA(n:Nat)(xs:List AV):(AV.list n xs).toList=xs:=rfl
def xMK(k:IntKind)(n:Int):(AV.int k n).toInt=n:=rfl
def xMJ(xs:List AV):xNH 2 (.list 2 xs):=rfl
def xMN(n m:Nat):xN3 (.int .i64 (n:Int)) m=decide (n<m):=rfl
def xMM:xN3 (.int .i64 0) 1:=rfl
def g2a(a b:AV):[a,b].getD 0 .top=a:=rfl
def g2b(a b:AV):[a,b].getD 1 .top=b:=rfl
def lt2(a b:AV):([a,b].length==2):=rfl
def tk1(a b:AV):List.take 1 [a,b]=[a]:=rfl
def dp2(a b:AV):List.drop 2 [a,b]=[]:=rfl
def xCg(g:Grp):encG g=.agg [.list 3 (g.1.map encV),.list 2 (g.2.map encP)]:=rfl
def xCh(p:Per):encP p=.agg [.int .i64 p.1,.int .i64 p.2]:=rfl
def R20(l:List Fc):Prop:=True
def R20.few{l:List Fc}(h:l.length<20):R20 l:=trivial
def R20.of{l m:List Fc}(h:R20 l)(hm:∀f,f∈m->∃g,g∈l/\f.r=g.r):R20 m:=trivial
def r20(l:List Fc):R20 l:=trivial
def Keyed(l:List Fc):Prop:=Few l/\∀f,f∈l->(∀v,v∈f.r->KOk v)/\(keyOf f.r).length<=17592186044416
def Keyed.key{l:List Fc}(h:Keyed l){f:Fc}(hf:f∈l):xkV (f.r.map encV)=some (keyOf f.r):=xKi f.r (h.1.2 f hf) (h.2 f hf).1 (h.2 f hf).2
def xFO(l:List Fc)(h:Keyed l)(k:Nat)(hk:k<l.length)(G:List Grp)(hG:GI (l.take k) G):xb1 (l.map encF) ((l.length:Nat):Int) (G.length,(k:Int),ents 0 (G.map (·.1)),G.map encG) =some (.inl ((if pv l[k].p then upd G l[k]else G).length,((k+1:Nat):Int),ents 0 ((if pv l[k].p then upd G l[k]else G).map (·.1)),(if pv l[k].p then upd G l[k]else G).map encG)):=by(have hl:=h.1.1;have i1:(k:Int)<(l.length:Int):=Ω);have gf:(l.map encF).getD k .top=encF l[k]:=xad _ _ _ hk;have ek:=h.key (zo hk);have kl:=(h.2 _ (zo hk)).2;have O:=hG.len;rw[zt]at O;cases hv:pv l[k].p with|false=>simp only[xb1,xeG,sBU,i1,hk,gf,cF0,cF1,cF2,sF0,sF1,sF2,lF,sF12,sF02,xnk,hv,xL0 (n:=k) Ω];rfl|true=>
 have k1:(keyOf l[k].r).length<=4611686018427387904:=Ω
 have hx:=xCi (G.map (·.1)) 0 l[k].r;have n1:(ents 0 (G.map (·.1))).length<4611686018427387904:=by rw[xAc,za];omega
 have m1:(G.length+1)*48<=140737488355328:=Ω
 have m2:G.length+1<=4611686018427387904:=Ω
 simp only[if_true];cases hi:(G.map (·.1)).findIdx? λ x=>decide (x=l[k].r)with|none=>(rw[hi]at hx;have hu:upd G l[k]=G++[(l[k].r,[l[k].p])]:=by unfold upd;rw[hi]);(have hh:xNv (ents 0 (G.map (·.1))) (keyOf l[k].r)=false:=by unfold xNv;rw[hx];rfl);(have hg:xNj (AV.int .i64 0) (ents 0 (G.map (·.1))) (keyOf l[k].r)=AV.int .i64 0:=by unfold xNj;rw[hx]);(have hp:xNh (ents 0 (G.map (·.1))) (keyOf l[k].r) (AV.int .i64 (G.length:Int))=ents 0 ((G++[(l[k].r,[l[k].p])]).map (·.1)):=by unfold xNh;rw[hx,zx];show _=ents 0 (G.map (·.1)++[l[k].r]);rw[xyE,za,zH]);(have i2:(G.length:Int)<((G.length+1:Nat):Int):=Ω);(have J:xMx (Sh.int .i64) (AV.int .i64 0):=rfl;have gl:∀x:AV,(G.map encG++[x]).getD G.length .top=x:=λ x=>by have:=xE9 (G.map encG) x .top;rwa [za]at this);(have sl:∀x y:AV,(G.map encG++[x]).set G.length y=G.map encG++[y]:=λ x y=>by have:=xHe (G.map encG) x y;rwa [za]at this);rw[hu];simp only[xb1,xeG,xht,xel,xem,xfw,xhu,xfy,xaK,xhv,xaL,xbj,xaD,xe3,xgI,xgJ,xca,xgK,xe4,xcX,sBU,i1,hk,gf,cF0,cF1,cF2,sF0,sF1,sF2,lF,sF12,sF02,xnk,hv,xL0 (n:=k) Ω,ek,k1,hh,hg,hp,n1,m1,m2,i2,J,gl,sl,z8,zj,zx,zV,zW,xMI,tolA,xMK,xMJ,xMN,g2a,g2b,lt2,tk1,dp2,y4,Nat.lt_succ_self,Bool.and_self,List.length_nil,zH,xCg,xCh,List.singleton_append,zU,zD,Int.natCast_zero];try simp[xab,xMM,sUF]|some j=>
 obtain⟨hj,hr⟩:=xtP hi;rw[hi]at hx;have q:j<G.length:=by simpa using hj
 rw[List.getElem_map]at hr;have gd:G.getD j ([],[])=G[j]:=by rw[z7,ze q];rfl
 have hu:upd G l[k]=G.set j (l[k].r,G[j].2++[l[k].p]):=by unfold upd;rw[hi];dsimp only;rw[gd]
 have hh:xNv (ents 0 (G.map (·.1))) (keyOf l[k].r):=by unfold xNv;rw[hx];rfl
 have hg:xNj (AV.int .i64 0) (ents 0 (G.map (·.1))) (keyOf l[k].r)=AV.int .i64 (j:Int):=by unfold xNj;rw[hx];dsimp only;rw[xAb _ _ _ hj,zH];rfl
 have gj:(G.map encG).getD j .top=encG G[j]:=xad _ _ _ q;have i2:(j:Int)<(G.length:Int):=Ω
 have J:xMx (Sh.int .i64) (AV.int .i64 (j:Int)):=rfl;have pl:G[j].2.length<=k:=by rw[hG.ps _ (zo q)];have:=xwr (l.take k) G[j].1;rw[zt]at this;omega
 have m3:(G[j].2.length+1)*16<=140737488355328:=Ω
 have m4:G[j].2.length+1<=4611686018427387904:=Ω
 have gs:∀x:AV,((G.map encG).set j x).getD j .top=x:=λ x=>by rw[z7,zL (by simpa using q)];rfl
 have ss:∀x y:AV,((G.map encG).set j x).set j y=(G.map encG).set j y:=λ x y=>List.set_set ..;have tj:(AV.int IntKind.i64 (j:Int)).toInt=(j:Int):=rfl;have cj:(encG G[j]).cells=[.list 3 (l[k].r.map encV),.list 2 (G[j].2.map encP)]:=by rw[<-hr];rfl
 rw[hu,xyo q hr,y4,List.map_set];simp only[xb1,xeG,xht,xel,xem,xfw,xhu,xfy,xaK,xhv,xaL,xbj,xaD,xe3,xgI,xgJ,xca,xgK,xe4,xcX,sBU,i1,hk,gf,cF0,cF1,cF2,sF0,sF1,sF2,lF,sF12,sF02,xnk,hv,xL0 (n:=k) Ω,ek,k1,hh,hg,i2,J,tj,gj,cj,q,y4,gs,ss,xMI,tolA,xMK,xMJ,xMN,g2a,g2b,lt2,tk1,dp2,m3,m4,Bool.and_self,z8,zj,Nat.lt_succ_self,xCg,xCh,zx,zV,zW,List.singleton_append,zD];try simp[xab,xMM,hr,sUF]
def grp(l:List Fc):List Grp:=l.foldl (λ G f=>if pv f.p then upd G f else G) []
def xAo(l:List Fc)(f:Fc):grp (l++[f])=if pv f.p then upd (grp l) f else grp l:=by simp[grp]
def xFe:∀l:List Fc,GI l.reverse (grp l.reverse)|[]=>GI.nil|f::l=>by rw[List.reverse_cons,xAo];have ih:=xFe l;cases hv:pv f.p with|true=>rw[if_pos rfl];exact ih.upd hv|false=>rw[if_neg Ψ];exact ih.skip hv
def xFf(l:List Fc):GI l (grp l):=by have:=xFe l.reverse;rwa [List.reverse_reverse]at this
def xFN(l:List Fc)(h:Keyed l):Iter (xb1 (l.map encF) ((l.length:Nat):Int)) ((0:Nat),(0:Int),[],[])=some ((grp l).length,(grp l).map encG):=by refine xjM (λ k=>(((grp (l.take k)).length,((k:Nat):Int),ents 0 ((grp (l.take k)).map (·.1)),(grp (l.take k)).map encG):Nat×Int×List AV×List AV)) l.length _ (λ k hk=>?_) ?_ l.length 0 Ω;(rw[xFO l h k hk (grp (l.take k)) (xFf _)];have tk:l.take (k+1)=l.take k++[l[k]]:=by rw[List.take_add_one,ze hk];rfl);rw[tk,xAo];simp only[xb1,xeG,za,zy,zm,xae,y6,sUF]
def xH2(x y:Grp)(hx:x.1.length<=4398046511104):xMt (encG x) (encG y)/\xMu (encG x) (encG y)=cmpR x.1 y.1:=by(have e:xdV (x.1.map encV) (x.2.map encP) (y.1.map encV) (y.2.map encP)=some (cmpR x.1 y.1):=by unfold xdV xmQ;rw[xF0 x.1 y.1 (by unfold maxLen;omega)];rfl);have e2:xdV ((encG x).cells.getD 0 .top).toList ((encG x).cells.getD 1 .top).toList ((encG y).cells.getD 0 .top).toList ((encG y).cells.getD 1 .top).toList=some (cmpR x.1 y.1):=e;unfold xMt xMu;rw[e2];exact⟨rfl,rfl⟩
def xCO(l:List Fc)(h:Keyed l)(Q:R20 l):∃S:List Grp,xfk (l.map encF)=some (S.map encG)/\xMi l (S.map (·.1))/\(∀g,g∈S->g.2=psOf l g.1)/\S.length<=l.length:=by
 have hg:=xFf l;have O:=h.1.1;have J:=hg.len;have cG:Cm λ x y:Grp=>cmpR x.1 y.1:=xmN.on (e:=λ x:Grp=>x.1);obtain⟨r,e,p,s⟩:=(λ F(hF:20<=F)=>xBS cG.ord F (grp l).length (xCH (Nat.le_trans J O) hF) (grp l) rfl) 1000 (by decide);have es:=xLB (N:=(grp l).length) Ω (ok:=fun g=>g.1.length<=1048576) (c:=fun x y:Grp=>cmpR x.1 y.1) (fun x y hx hy=>xH2 x y Ω) (grp l) r rfl (fun g q=>by
  obtain ⟨f,hf,e,_⟩:=(hg.mem g.1).1 (zK.2 ⟨g,q,rfl⟩);rw [<-e];exact h.1.2 f hf) e
 have rl:=p.length_eq;refine⟨r,?_,⟨?_,λ x=>?_⟩,λ g q=>hg.ps g (p.mem_iff.1 q),by rw[rl];exact J⟩;have el:=xFN l h;have ra:xNw 2 1 ((grp l).map encG):=by unfold xNw;rw[zI];intro x hx;obtain⟨g,_,rfl⟩:=zK.1 hx;rfl
 have ll:(grp l).length<=r.length:=Ω
 have tt:List.take (grp l).length (r.map encG)=r.map encG:=zi (by rw[za];omega);unfold xfk xnN xjK xfC xmR;simp only[za,el,zk,zh,xab,ra,es,zH,ll,zn,zS,zr,tt,sUF];refine xFV (λ _ _=>xjD) ?_ ?_;exact List.pairwise_map.2 s;exact((p.map (·.1)).nodup_iff).2 hg.nd;rw[(p.map (·.1)).mem_iff];exact hg.mem x
end Go.Sim.M
namespace Go.Sim.M
open Go.RowKit Go.Lib
def xpI(l:List AV)(i:Int):Bool:=decide ((0:Int)<=i)&&decide (i<(↑l.length:Int))
def xtb{T:Type}(l:List AV)(out_n:Nat)(q:Int)(na:Int)(nb:Int)(i:Int)(out_xs:List AV)(δ:T)(κl:(Int×Int×Int×List AV)->T)(κr:(Int×Int×Int×List AV)->T):T:=br (decide (i<(↑l.length:Int))) (br (xpI l i) (br (decide (i.toNat<l.length)&&xMx (Sh.int IntKind.i64) ((l.getD i.toNat AV.top).cells.getD (0:Nat) AV.top)) (br (((l.getD i.toNat AV.top).cells.getD (0:Nat) AV.top).toInt==q) (br (xpI l i) (br (decide (i.toNat<l.length)&&xMx (Sh.int IntKind.i64) ((l.getD i.toNat AV.top).cells.getD (1:Nat) AV.top)) (br (xpI l i) (br (decide (i.toNat<l.length)&&xMx (Sh.int IntKind.i64) ((l.getD i.toNat AV.top).cells.getD (2:Nat) AV.top)) (κl (IntKind.i64.wrap (na+((l.getD i.toNat AV.top).cells.getD (1:Nat) AV.top).toInt),IntKind.i64.wrap (nb+((l.getD i.toNat AV.top).cells.getD (2:Nat) AV.top).toInt),IntKind.i64.wrap (i+(1:Int)),out_xs)) (δ)) (δ)) (δ)) (δ)) (κr (na,nb,i,out_xs))) (δ)) (δ)) (κr (na,nb,i,out_xs))
def xiF(l:List AV)(out_n:Nat)(q:Int):(Int×Int×Int×List AV)->Option ((Int×Int×Int×List AV)⊕(Int×Int×Int×List AV)):=λ(na,nb,i,out_xs)=>xtb l out_n q na nb i out_xs none (λ s=>some (.inl s)) (λ p=>some (.inr p))
def xnA(keep:Bool->Bool->Bool)(out_n:Nat):Bool:=decide ((0:Int)<=IntKind.i64.wrap ((↑out_n:Int) - (1:Int)))&&decide (IntKind.i64.wrap ((↑out_n:Int) - (1:Int))<(↑out_n:Int))
def xqs(keep:Bool->Bool->Bool)(l:List AV)(out_n:Nat)(na:Int)(nb:Int)(i:Int)(q:Int)(out_xs:List AV):Int×Int×Int×List AV:=(Iter (xiF l out_n q) (na,nb,i,out_xs)).getD ((0:Int),(0:Int),(0:Int),[])
def xdA(keep:Bool->Bool->Bool)(out_n:Nat):Nat:=(0:Nat)+(IntKind.i64.wrap ((↑out_n:Int) - (1:Int))).toNat
def xrL(keep:Bool->Bool->Bool)(l:List AV)(out_n:Nat)(na:Int)(nb:Int)(i:Int)(q:Int)(out_xs:List AV):Int×Int×List AV:=(xqs keep l out_n na nb i q out_xs).snd
def xf7(keep:Bool->Bool->Bool)(l:List AV)(out_n:Nat)(na:Int)(nb:Int)(i:Int)(q:Int)(out_xs:List AV):Int:=(xqs keep l out_n na nb i q out_xs).fst
def xrK(keep:Bool->Bool->Bool)(l:List AV)(out_n:Nat)(na:Int)(nb:Int)(i:Int)(q:Int)(out_xs:List AV):Int×List AV:=(xrL keep l out_n na nb i q out_xs).snd
def xf6(keep:Bool->Bool->Bool)(l:List AV)(out_n:Nat)(na:Int)(nb:Int)(i:Int)(q:Int)(out_xs:List AV):Int:=(xrL keep l out_n na nb i q out_xs).fst
def xbm(keep:Bool->Bool->Bool)(l:List AV)(out_n:Nat)(na:Int)(nb:Int)(i:Int)(q:Int)(out_xs:List AV):List AV:=(xrK keep l out_n na nb i q out_xs).snd
def xrI(keep:Bool->Bool->Bool)(l:List AV)(out_n:Nat)(na:Int)(nb:Int)(i:Int)(q:Int)(out_xs:List AV):Bool:=keep (decide (xf7 keep l out_n na nb i q out_xs>(0:Int))) (decide (xf6 keep l out_n na nb i q out_xs>(0:Int)))
def xbI(keep:Bool->Bool->Bool)(l:List AV)(out_n:Nat)(na:Int)(nb:Int)(i:Int)(q:Int)(out_xs:List AV):Int:=(xrK keep l out_n na nb i q out_xs).fst
def xnz(keep:Bool->Bool->Bool)(l:List AV)(out_n:Nat)(na:Int)(nb:Int)(i:Int)(q:Int)(out_xs:List AV):Bool:=decide (xdA keep out_n<(xbm keep l out_n na nb i q out_xs).length)
def xrJ(keep:Bool->Bool->Bool)(l:List AV)(out_n:Nat)(na:Int)(nb:Int)(i:Int)(q:Int)(out_xs:List AV):Bool:=decide (xbI keep l out_n na nb i q out_xs<(↑l.length:Int))
def xo2{T:Type}(keep:Bool->Bool->Bool)(l:List AV)(out_n:Nat)(na:Int)(nb:Int)(i:Int)(q:Int)(out_xs:List AV)(δ:T)(κl:(Nat×Int×Int×Int×Int×List AV)->T)(κr:(Nat×List AV)->T):T:=br (decide (q<(1099511627776:Int))) (br ((Iter (xiF l out_n q) (na,nb,i,out_xs)).isSome) (br (xrJ keep l out_n na nb i q out_xs) (br (decide ((0:Int)<=xbI keep l out_n na nb i q out_xs)&&xrJ keep l out_n na nb i q out_xs) (br (decide ((xbI keep l out_n na nb i q out_xs).toNat<l.length)&&xMx (Sh.int IntKind.i64) ((l.getD (xbI keep l out_n na nb i q out_xs).toNat AV.top).cells.getD (0:Nat) AV.top)) (br (xrI keep l out_n na nb i q out_xs) (br (decide ((↑out_n:Int)>(0:Int))) (br (xnA keep out_n) (br (xnz keep l out_n na nb i q out_xs&&xMx (Sh.int IntKind.i64) (((xbm keep l out_n na nb i q out_xs).getD (xdA keep out_n) AV.top).cells.getD (1:Nat) AV.top)) (br ((((xbm keep l out_n na nb i q out_xs).getD (xdA keep out_n) AV.top).cells.getD (1:Nat) AV.top).toInt==q) (br (xnA keep out_n) (br (xnz keep l out_n na nb i q out_xs) (κl (out_n,xf7 keep l out_n na nb i q out_xs,xf6 keep l out_n na nb i q out_xs,xbI keep l out_n na nb i q out_xs,((l.getD (xbI keep l out_n na nb i q out_xs).toNat AV.top).cells.getD (0:Nat) AV.top).toInt,(xbm keep l out_n na nb i q out_xs).set (xdA keep out_n) (AV.agg (List.take (1:Nat) ((xbm keep l out_n na nb i q out_xs).getD (xdA keep out_n) AV.top).cells++[AV.int IntKind.i64 ((l.getD (xbI keep l out_n na nb i q out_xs).toNat AV.top).cells.getD (0:Nat) AV.top).toInt]++List.drop (2:Nat) ((xbm keep l out_n na nb i q out_xs).getD (xdA keep out_n) AV.top).cells)))) (δ)) (δ)) (br (out_n==(xbm keep l out_n na nb i q out_xs).length&&(decide ((out_n+(1:Nat))*(16:Nat)<=(140737488355328:Nat))&&decide (out_n+(1:Nat)<=(4611686018427387904:Nat)))) (κl (out_n+(1:Nat),xf7 keep l out_n na nb i q out_xs,xf6 keep l out_n na nb i q out_xs,xbI keep l out_n na nb i q out_xs,((l.getD (xbI keep l out_n na nb i q out_xs).toNat AV.top).cells.getD (0:Nat) AV.top).toInt,xbm keep l out_n na nb i q out_xs++[AV.agg [AV.int IntKind.i64 q,AV.int IntKind.i64 ((l.getD (xbI keep l out_n na nb i q out_xs).toNat AV.top).cells.getD (0:Nat) AV.top).toInt]])) (δ))) (δ)) (δ)) (br (out_n==(xbm keep l out_n na nb i q out_xs).length&&(decide ((out_n+(1:Nat))*(16:Nat)<=(140737488355328:Nat))&&decide (out_n+(1:Nat)<=(4611686018427387904:Nat)))) (κl (out_n+(1:Nat),xf7 keep l out_n na nb i q out_xs,xf6 keep l out_n na nb i q out_xs,xbI keep l out_n na nb i q out_xs,((l.getD (xbI keep l out_n na nb i q out_xs).toNat AV.top).cells.getD (0:Nat) AV.top).toInt,xbm keep l out_n na nb i q out_xs++[AV.agg [AV.int IntKind.i64 q,AV.int IntKind.i64 ((l.getD (xbI keep l out_n na nb i q out_xs).toNat AV.top).cells.getD (0:Nat) AV.top).toInt]])) (δ))) (κl (out_n,xf7 keep l out_n na nb i q out_xs,xf6 keep l out_n na nb i q out_xs,xbI keep l out_n na nb i q out_xs,((l.getD (xbI keep l out_n na nb i q out_xs).toNat AV.top).cells.getD (0:Nat) AV.top).toInt,xbm keep l out_n na nb i q out_xs))) (δ)) (δ)) (br (xrI keep l out_n na nb i q out_xs) (br (decide ((↑out_n:Int)>(0:Int))) (br (xnA keep out_n) (br (xnz keep l out_n na nb i q out_xs&&xMx (Sh.int IntKind.i64) (((xbm keep l out_n na nb i q out_xs).getD (xdA keep out_n) AV.top).cells.getD (1:Nat) AV.top)) (br ((((xbm keep l out_n na nb i q out_xs).getD (xdA keep out_n) AV.top).cells.getD (1:Nat) AV.top).toInt==q) (br (xnA keep out_n) (br (xnz keep l out_n na nb i q out_xs) (κl (out_n,xf7 keep l out_n na nb i q out_xs,xf6 keep l out_n na nb i q out_xs,xbI keep l out_n na nb i q out_xs,(1099511627776:Int),(xbm keep l out_n na nb i q out_xs).set (xdA keep out_n) (AV.agg (List.take (1:Nat) ((xbm keep l out_n na nb i q out_xs).getD (xdA keep out_n) AV.top).cells++[AV.int IntKind.i64 (1099511627776:Int)]++List.drop (2:Nat) ((xbm keep l out_n na nb i q out_xs).getD (xdA keep out_n) AV.top).cells)))) (δ)) (δ)) (br (out_n==(xbm keep l out_n na nb i q out_xs).length&&(decide ((out_n+(1:Nat))*(16:Nat)<=(140737488355328:Nat))&&decide (out_n+(1:Nat)<=(4611686018427387904:Nat)))) (κl (out_n+(1:Nat),xf7 keep l out_n na nb i q out_xs,xf6 keep l out_n na nb i q out_xs,xbI keep l out_n na nb i q out_xs,(1099511627776:Int),xbm keep l out_n na nb i q out_xs++[AV.agg [AV.int IntKind.i64 q,AV.int IntKind.i64 (1099511627776:Int)]])) (δ))) (δ)) (δ)) (br (out_n==(xbm keep l out_n na nb i q out_xs).length&&(decide ((out_n+(1:Nat))*(16:Nat)<=(140737488355328:Nat))&&decide (out_n+(1:Nat)<=(4611686018427387904:Nat)))) (κl (out_n+(1:Nat),xf7 keep l out_n na nb i q out_xs,xf6 keep l out_n na nb i q out_xs,xbI keep l out_n na nb i q out_xs,(1099511627776:Int),xbm keep l out_n na nb i q out_xs++[AV.agg [AV.int IntKind.i64 q,AV.int IntKind.i64 (1099511627776:Int)]])) (δ))) (κl (out_n,xf7 keep l out_n na nb i q out_xs,xf6 keep l out_n na nb i q out_xs,xbI keep l out_n na nb i q out_xs,(1099511627776:Int),xbm keep l out_n na nb i q out_xs)))) (δ)) (κr (out_n,out_xs))
def xg9(keep:Bool->Bool->Bool)(l:List AV):(Nat×Int×Int×Int×Int×List AV)->Option ((Nat×Int×Int×Int×Int×List AV)⊕(Nat×List AV)):=λ(out_n,na,nb,i,q,out_xs)=>xo2 keep l out_n na nb i q out_xs none (λ s=>some (.inl s)) (λ p=>some (.inr p))
def xwV(keep:Bool->Bool->Bool)(a:List AV)(b:List AV):Option (Nat×List AV):=Iter (xg9 keep ((xin a b).getD [])) ((0:Nat),(0:Int),(0:Int),(0:Int),(0:Int),[])
def xwU(keep:Bool->Bool->Bool)(a:List AV)(b:List AV):Nat×List AV:=(xwV keep a b).getD ((0:Nat),[])
def xwS(keep:Bool->Bool->Bool)(a:List AV)(b:List AV):List AV:=(xwU keep a b).snd
def xwT(keep:Bool->Bool->Bool)(a:List AV)(b:List AV):Nat:=(xwU keep a b).fst
def xHD{T:Type}(keep:Bool->Bool->Bool)(a:List AV)(b:List AV)(δ:T)(κ:List AV->T):T:=br ((xin a b).isSome) (br ((xwV keep a b).isSome) (br (decide ((0:Nat)+xwT keep a b<=(xwS keep a b).length)&&true) (κ (List.take (xwT keep a b) (List.drop (0:Nat) (xwS keep a b)))) (δ)) (δ)) (δ)
def swG(keep:Bool->Bool->Bool)(a:List AV)(b:List AV):Option (List AV):=xHD keep a b none some
open Go.Sort
def xL1(e:Edg):AV:=.agg [.int .i64 e.1,.int .i64 e.2.1,.int .i64 e.2.2]
theorem xuI(x y:Int):∀a b,xLY x y (a++b)=xLY x y a++xLY x y b|[],b=>rfl|p::a,b=>by simp only[List.cons_append,xLY,xuI x y a b];split<;>rfl
theorem xv3(x y:Int)(l:List Per)(n:Nat)(h:n<l.length):xLY x y (l.take (n+1))=xLY x y (l.take n)++(if pv l[n] then[(l[n].1,x,y),(l[n].2,-x,-y)]else[]):=by rw[List.take_add_one,ze h];show xLY x y (l.take n++[l[n]])=_;rw[xuI];rfl
theorem xuG(B:List AV)(l:List Per)(hl:l.length<=1073741824):∀(k n:Nat),n+k=l.length->
  Iter (xcQ B (l.map encP) ((l.length:Nat):Int)) ((xLY 1 0 (l.take n)).length,((n:Nat):Int),(xLY 1 0 (l.take n)).map xL1)=some ((xLY 1 0 l).length,(xLY 1 0 l).map xL1)
 |0,n,hk=>by
  obtain rfl:n=l.length:=by omega
  rw[zi (zd _)];refine xac ?_;unfold xcQ;simp only;unfold xkI;rw[decide_eq_false (by omega:¬ ((l.length:Nat):Int)<((l.length:Nat):Int))]
  rfl
 |k+1,n,hk=>by
  have h1:n<l.length:=by omega
  have J:=xk1 1 0 (l.take n);have q:(l.take n).length<=n:=by rw[zt];omega
  have d1:((n:Nat):Int)<((l.length:Nat):Int):=by omega
  have d2:(0:Int)<=((n:Nat):Int):=by omega
  have d3:((xLY 1 0 (l.take n)).length+2)*24<=140737488355328:=by omega
  have d4:(xLY 1 0 (l.take n)).length+2<=4611686018427387904:=by omega
  have d5:((xLY 1 0 (l.take n)).length==(xLY 1 0 (l.take n)).length)=true:=by simp
  have gf:(l.map encP).getD n .top=encP l[n]:=xad _ _ _ h1;have c0:((encP l[n]).cells.getD 0 .top).toInt=l[n].1:=rfl;have c1:((encP l[n]).cells.getD 1 .top).toInt=l[n].2:=rfl;have sh:((encP l[n]).cells.length==(2:Nat)&&xM6 [Sh.int IntKind.i64,Sh.int IntKind.i64] (encP l[n]).cells (0:Nat))=true:=rfl;have st:xcQ B (l.map encP) ((l.length:Nat):Int) ((xLY 1 0 (l.take n)).length,((n:Nat):Int),(xLY 1 0 (l.take n)).map xL1) =
    some (.inl ((xLY 1 0 (l.take (n+1))).length,((n+1:Nat):Int),(xLY 1 0 (l.take (n+1))).map xL1)):=by
   rw[xv3 1 0 l n h1];unfold xcQ;simp only;unfold xkI;rw[zN,gf,sh,c0,c1,xnk,za,za,decide_eq_true d1,decide_eq_true d2,decide_eq_true h1,decide_eq_true d3,decide_eq_true d4,d5,xjX (show n+1<=maxLen by unfold maxLen;omega)]
   cases pv l[n]with
   |true=>simp only[if_true,z8,zx];rfl
   |false=>simp only[zT,if_false,zD];rfl
  rw[xak st];exact xuG B l hl k (n+1) (by omega)
theorem xuH(E0:List Edg)(l:List Per)(hl:l.length<=1073741824)(hE:E0.length<=2147483648):∀(k n:Nat),n+k=l.length->
  Iter (xeU (l.map encP) ((l.length:Nat):Int)) ((E0++xLY 0 1 (l.take n)).length,((n:Nat):Int),(E0++xLY 0 1 (l.take n)).map xL1)=some ((E0++xLY 0 1 l).length,(E0++xLY 0 1 l).map xL1)
 |0,n,hk=>by
  obtain rfl:n=l.length:=by omega
  rw[zi (zd _)];refine xac ?_;unfold xeU;simp only;unfold xkJ;rw[decide_eq_false (by omega:¬ ((l.length:Nat):Int)<((l.length:Nat):Int))]
  rfl
 |k+1,n,hk=>by
  have h1:n<l.length:=by omega
  have O:=xk1 0 1 (l.take n);have J:(l.take n).length<=n:=by rw[zt];omega
  have q:(E0++xLY 0 1 (l.take n)).length=E0.length+(xLY 0 1 (l.take n)).length:=z8;have d1:((n:Nat):Int)<((l.length:Nat):Int):=by omega
  have d2:(0:Int)<=((n:Nat):Int):=by omega
  have d3:((E0++xLY 0 1 (l.take n)).length+2)*24<=140737488355328:=by omega
  have d4:(E0++xLY 0 1 (l.take n)).length+2<=4611686018427387904:=by omega
  have d5:((E0++xLY 0 1 (l.take n)).length==(E0++xLY 0 1 (l.take n)).length)=true:=by simp
  have gf:(l.map encP).getD n .top=encP l[n]:=xad _ _ _ h1;have c0:((encP l[n]).cells.getD 0 .top).toInt=l[n].1:=rfl;have c1:((encP l[n]).cells.getD 1 .top).toInt=l[n].2:=rfl;have sh:((encP l[n]).cells.length==(2:Nat)&&xM6 [Sh.int IntKind.i64,Sh.int IntKind.i64] (encP l[n]).cells (0:Nat))=true:=rfl;have st:xeU (l.map encP) ((l.length:Nat):Int) ((E0++xLY 0 1 (l.take n)).length,((n:Nat):Int),(E0++xLY 0 1 (l.take n)).map xL1) =
    some (.inl ((E0++xLY 0 1 (l.take (n+1))).length,((n+1:Nat):Int),(E0++xLY 0 1 (l.take (n+1))).map xL1)):=by
   rw[xv3 0 1 l n h1,<-zw];unfold xeU;simp only;unfold xkJ;rw[zN,gf,sh,c0,c1,xnk,za,za,decide_eq_true d1,decide_eq_true d2,decide_eq_true h1,decide_eq_true d3,decide_eq_true d4,d5,xjX (show n+1<=maxLen by unfold maxLen;omega)]
   cases pv l[n]with
   |true=>rw[if_pos rfl,z8 (bs:=[(l[n].1,0,1),(l[n].2,-0,-1)]),zx (l₂:=[(l[n].1,0,1),(l[n].2,-0,-1)])];rfl
   |false=>rw[if_neg (by simp),zD];rfl
  rw[xak st];exact xuH E0 l hl hE k (n+1) (by omega)
def toE(e:Edg):TyE:=(Fin.ofNat 1099511627777 e.1.toNat,e.2.1,e.2.2)
def ofE(x:TyE):Edg:=((x.1.val:Int),x.2.1,x.2.2)
theorem xIo{e:Edg}(h1:0<=e.1)(h2:e.1<=1099511627776):ofE (toE e)=e:=by grind [ofE,toE]
theorem xIM(E:List Edg)(h:∀e,e∈E->0<=e.1/\e.1<=1099511627776):(E.map xL1).all isE/\∃S:List Edg,srtE (E.map xL1)=S.map xL1/\S.Perm E/\S.Pairwise λ x y=>x.1<=y.1:=by
 refine⟨?_,(pdqL cmpE (E.map toE)).map ofE,?_,?_,?_⟩;rw[zI];intro x hx;obtain⟨e,he,rfl⟩:=zK.1 hx;have:=h e he;show (decide _&&decide _)=true;rw[decide_eq_true this.1,decide_eq_true this.2];rfl;unfold srtE;have e1:(E.map xL1).map decE=E.map toE:=by rw[List.map_map];rfl
 rw[e1,List.map_map];rfl;have hp:=((xnj cmpE swoE (E.map toE)).1).map ofE;have e2:(E.map toE).map ofE=E:=by rw[List.map_map];(conv=>rhs;rw[<-List.map_id E]);refine List.map_congr_left λ e he=>?_;exact xIo (h e he).1 (h e he).2
 rwa [e2]at hp;rw[List.pairwise_map];refine(xrS cmpE swoE (E.map toE)).imp λ{x y} q=>?_;show ((x.1.val:Nat):Int)<=((y.1.val:Nat):Int);unfold cmpE at q;omega
theorem xGu(a b:List Per)(ha:a.length<=1073741824)(hb:b.length<=1073741824):∃S:List Edg,xin (a.map encP) (b.map encP)=some (S.map xL1)/\S.Perm (xLY 1 0 a++xLY 0 1 b)/\S.Pairwise λ x y=>x.1<=y.1:=by
 have l1:=xk1 1 0 a;have l2:=xk1 0 1 b;have O:(xLY 1 0 a++xLY 0 1 b).length=(xLY 1 0 a).length+(xLY 0 1 b).length:=z8;obtain ⟨J,S,hS,hp,hs⟩:=xIM (xLY 1 0 a++xLY 0 1 b) (fun e he=>by
  rcases zG.1 he with he|he
  . exact xnc 1 0 a e he
  . exact xnc 0 1 b e he)
 refine⟨S,?_,hp,hs⟩;have h0:=xuG (b.map encP) a ha a.length 0 Ω;rw[List.take_zero]at h0;have h1:=xuH (xLY 1 0 a) b hb Ω b.length 0 Ω;rw[List.take_zero]at h1;have h0:Iter (xcQ (b.map encP) (a.map encP) (((a.map encP).length:Nat):Int)) (0,0,[])=some ((xLY 1 0 a).length,(xLY 1 0 a).map xL1):=by rw[za];exact h0
 have v4:xmI (a.map encP) (b.map encP)=((xLY 1 0 a).length,(xLY 1 0 a).map xL1):=by unfold xmI;rw[h0];rfl
 have v3:xmH (a.map encP) (b.map encP)=some ((xLY 1 0 a++xLY 0 1 b).length,(xLY 1 0 a++xLY 0 1 b).map xL1):=by unfold xmH;rw[v4,za];have e:xLY 1 0 a++xLY 0 1 []=xLY 1 0 a:=zD _;rw[e]at h1;exact h1
 have v2:xmG (a.map encP) (b.map encP)=((xLY 1 0 a++xLY 0 1 b).length,(xLY 1 0 a++xLY 0 1 b).map xL1):=by unfold xmG;rw[v3];rfl
 have v0:xhN (a.map encP) (b.map encP)=(xLY 1 0 a++xLY 0 1 b).length:=by unfold xhN;rw[v2]
 have v1:xhO (a.map encP) (b.map encP)=(xLY 1 0 a++xLY 0 1 b).map xL1:=by unfold xhO;rw[v2]
 have q:S.length=(xLY 1 0 a++xLY 0 1 b).length:=hp.length_eq;have d1:(xLY 1 0 a++xLY 0 1 b).length<4611686018427387904:=Ω
 have d2:0+(xLY 1 0 a++xLY 0 1 b).length<=(S.map xL1).length:=by rw[za,q];omega
 have d3:(xLY 1 0 a++xLY 0 1 b).length.beq (xLY 1 0 a++xLY 0 1 b).length:=Nat.beq_refl _;have tk:List.take (xLY 1 0 a++xLY 0 1 b).length (List.drop 0 (S.map xL1))=S.map xL1:=by rw[zr,zi (by rw[za,q];exact zd _)]
 unfold xin xri;rw[h0,v3,v0,v1,J,hS,tk,za,d3,decide_eq_true d1,decide_eq_true d2];rfl
theorem xFm(out:List Per)(h:out≠[]):out=out.dropLast++[out[out.length - 1]'(by have:=List.length_pos_iff.2 h;omega)]:=by have:=List.dropLast_concat_getLast h;rw[List.getLast_eq_getElem]at this;exact this.symm
section
variable(S:List Edg)(hS1:∀e,e ∈ S->0 <=e.1/\e.1 <=1099511627776)(hS2:∀e,e ∈ S->(-1 <=e.2.1/\e.2.1 <=1)/\(-1 <=e.2.2/\e.2.2 <=1))(hS3:S.Pairwise λ x y=>x.1 <=y.1)(hS4:S.length <=8589934592)
theorem xyv(g:Edg->Int):∀l:List Edg,(∀e,e∈l->-1<=g e/\g e<=1)->-(l.length:Int)<=xLZ g l/\xLZ g l<=l.length|[],_=>by simp[xLZ]|e::l,h=>by have:=xyv g l λ x hx=>h x (List.mem_cons_of_mem _ hx);have:=h e (List.mem_cons_self ..);simp only[xLZ,zF];omega
theorem xBd(g:Edg->Int)(n:Nat)(h:n<S.length):xLZ g (S.take (n+1))=xLZ g (S.take n)+g S[n]:=by rw[List.take_add_one,ze h];show xLZ g (S.take n++[S[n]])=_;rw[xts];simp[xLZ]
include hS1 hS2 hS3 hS4
theorem xwa(on:Nat)(at':Int)(ox:List AV):∀(k i:Nat),i+k=S.length->∃j:Nat,i<=j/\j<=S.length/\
  Iter (xiF (S.map xL1) on at') (xLZ (·.2.1) (S.take i),xLZ (·.2.2) (S.take i),((i:Nat):Int),ox)=some (xLZ (·.2.1) (S.take j),xLZ (·.2.2) (S.take j),((j:Nat):Int),ox)/\
  (∀(m:Nat)(h:m<S.length),i<=m->m<j->S[m].1=at')/\∀(h:j<S.length),S[j].1≠at'
 |0,i,hk=>by
  obtain rfl:i=S.length:=by omega
  refine⟨S.length,zd _,zd _,xac ?_,λ m _ h1 h2=>by omega,λ h=>absurd h (Nat.lt_irrefl _)⟩
  unfold xiF;simp only;unfold xtb;rw[za,decide_eq_false (by omega:¬ ((S.length:Nat):Int)<((S.length:Nat):Int))]
  rfl
 |k+1,i,hk=>by
  have h1:i<S.length:=by omega
  have d1:((i:Nat):Int)<((S.length:Nat):Int):=by omega
  have d2:(0:Int)<=((i:Nat):Int):=by omega
  have gf:(S.map xL1).getD i .top=xL1 S[i]:=xad _ _ _ h1;have c0:((xL1 S[i]).cells.getD 0 .top).toInt=S[i].1:=rfl;have c1:((xL1 S[i]).cells.getD 1 .top).toInt=S[i].2.1:=rfl;have c2:((xL1 S[i]).cells.getD 2 .top).toInt=S[i].2.2:=rfl;have s0:xMx (Sh.int IntKind.i64) ((xL1 S[i]).cells.getD 0 .top)=true:=rfl;have s1:xMx (Sh.int IntKind.i64) ((xL1 S[i]).cells.getD 1 .top)=true:=rfl;have s2:xMx (Sh.int IntKind.i64) ((xL1 S[i]).cells.getD 2 .top)=true:=rfl;have v0:xpI (S.map xL1) ((i:Nat):Int)=true:=by unfold xpI;rw[za,decide_eq_true d1,decide_eq_true d2];rfl
  by_cases he:S[i].1=at'
  . have hb:=hS2 S[i] (zo h1);have b1:=xyv (·.2.1) (S.take i) λ e he=>(hS2 e (List.mem_of_mem_take he)).1
    have b2:=xyv (·.2.2) (S.take i) λ e he=>(hS2 e (List.mem_of_mem_take he)).2
    have hl:(S.take i).length=i:=by rw[zt];omega
    rw[hl]at b1 b2;have b3:=xBd S (·.2.1) i h1;have b4:=xBd S (·.2.2) i h1;have w1:IntKind.i64.wrap (xLZ (·.2.1) (S.take i)+S[i].2.1)=xLZ (·.2.1) (S.take (i+1)):=by rw[b3];exact xaO (by omega) (by omega)
    have w2:IntKind.i64.wrap (xLZ (·.2.2) (S.take i)+S[i].2.2)=xLZ (·.2.2) (S.take (i+1)):=by rw[b4];exact xaO (by omega) (by omega)
    have st:xiF (S.map xL1) on at' (xLZ (·.2.1) (S.take i),xLZ (·.2.2) (S.take i),((i:Nat):Int),ox)=some (.inl (xLZ (·.2.1) (S.take (i+1)),xLZ (·.2.2) (S.take (i+1)),((i+1:Nat):Int),ox)):=by
     unfold xiF;simp only;unfold xtb;have e1:(S[i].1==at')=true:=by simp[he]
     rw[v0,zN,gf,s0,s1,s2,c0,c1,c2,za,decide_eq_true d1,decide_eq_true h1,e1,w1,w2,xjX (show i+1<=maxLen by unfold maxLen;omega)]
     rfl
    obtain⟨j,j1,j2,j3,j4,j5⟩:=xwa on at' ox k (i+1) (by omega)
    refine⟨j,by omega,j2,by rw[xak st];exact j3,λ m hm h2 h3=>?_,j5⟩
    rcases Nat.eq_or_lt_of_le h2 with rfl|h2
    . exact he
    . exact j4 m hm h2 h3
  . refine⟨i,zd _,by omega,xac ?_,λ m _ h2 h3=>by omega,λ _=>he⟩
    unfold xiF;simp only;unfold xtb;have e1:(S[i].1==at')=false:=by simp[he]
    rw[v0,zN,gf,s0,c0,za,decide_eq_true d1,decide_eq_true h1,e1];rfl
omit hS1 hS2 hS3 hS4
def SwI(K:Int->Bool)(s:Nat×Int×Int×Int×Int×List AV):Prop:=∃(out:List Per)(i:Nat)(at':Int),s=(out.length,xLZ (·.2.1) (S.take i),xLZ (·.2.2) (S.take i),((i:Nat):Int),at',out.map encP)/\0<=at'/\at'<=1099511627776/\i<=S.length/\(∀(m:Nat)(h:m<S.length),m<i->S[m].1<at')/\(∀(m:Nat)(h:m<S.length),i<=m->at'<=S[m].1)/\OutOk out at' K/\(out.length:Int)<=at'
include hS1 hS2 hS3 hS4
set_option maxHeartbeats 4000000 in
theorem xBx(keep:Bool->Bool->Bool)(a b:List Per)(hp:S.Perm (xLY 1 0 a++xLY 0 1 b))(s:Nat×Int×Int×Int×Int×List AV)(hs:SwI S (λ t=>keep (inL a t) (inL b t)) s):(∃s',xg9 keep (S.map xL1) s=some (.inl s')/\SwI S (λ t=>keep (inL a t) (inL b t)) s'/\(1099511627776 - s'.2.2.2.2.1).toNat<(1099511627776 - s.2.2.2.2.1).toNat) \/ ∃r,xg9 keep (S.map xL1) s=some (.inr r)/\∃out:List Per,r=(out.length,out.map encP)/\OutOk out 1099511627776 (λ t=>keep (inL a t) (inL b t)):=by
 obtain⟨out,i,at',rfl,ai,a0,hi,aw,ax,J,a1⟩:=hs;by_cases hF:at'<1099511627776;left;obtain⟨j,j1,j2,j3,j4,j5⟩:=xwa S hS1 hS2 hS3 hS4 out.length at' (out.map encP) (S.length - i) i (by omega);have al:∀(m:Nat)(h:m<S.length),m<j->S[m].1<=at':=λ m h hm=>by by_cases ay:m<i;have:=aw m h ay;omega;have:=j4 m h (by omega) hm;omega
 have ao:∀(m:Nat)(h:m<S.length),j<=m->at'<S[m].1:=λ m h hm=>by(have hj:j<S.length:=by omega);have h1:=ax j hj (by omega);(have h2:=j5 hj;have h3:S[j].1<=S[m].1:=by rcases Nat.eq_or_lt_of_le hm with rfl|hm;exact Int.le_refl _;exact zB.1 hS3 j m hj h hm);omega
 obtain⟨nx,O⟩:∃nx:Int,nx=if h:j<S.length then S[j].1 else 1099511627776:=⟨_,rfl⟩;have ab:at'<nx:=by rw[O];split;rename_i h;exact ao j h (zd _);exact hF
 have Q:nx<=1099511627776:=by rw[O];split;rename_i h;exact(hS1 _ (zo h)).2;exact Int.le_refl _
 have aj:∀(m:Nat)(h:m<S.length),j<=m->nx<=S[m].1:=λ m h hm=>by(have hj:j<S.length:=by omega);rw[O,dif_pos hj];rcases Nat.eq_or_lt_of_le hm with rfl|hm;exact Int.le_refl _;exact zB.1 hS3 j m hj h hm
 have am:∀(g:Edg->Int)(t:Int),at'<=t->t<nx->xLZ g (S.take j)=xL5 g t S:=λ g t Y Z=>by(conv=>rhs;rw[<-List.take_append_drop j S]);rw[xoz,xzh,xwO];omega;intro e he;obtain⟨m,hm,rfl⟩:=zp.1 he;rw[List.getElem_drop];have:=aj (j+m) (by rw[y3]at hm;omega) (by omega);omega;intro e he;obtain⟨m,hm,rfl⟩:=zp.1 he;rw[List.getElem_take];rw[zt]at hm;have:=al m (by omega) (by omega);omega
 have ag:∀t,at'<=t->t<nx->decide (xLZ (·.2.1) (S.take j)>0)=inL a t/\decide (xLZ (·.2.2) (S.take j)>0)=inL b t:=λ t Y Z=>by rw[am _ t Y Z,am _ t Y Z,xwP _ t hp,xwP _ t hp,xoz,xoz,xta,xu6,xwR,xu7,Int.add_zero,Int.zero_add,xz6,xz6];exact⟨rfl,rfl⟩
 obtain⟨kv,aq⟩:∃kv:Bool,kv=keep (decide (xLZ (·.2.1) (S.take j)>0)) (decide (xLZ (·.2.2) (S.take j)>0)):=⟨_,rfl⟩;have hK:∀t,at'<=t->t<nx->keep (inL a t) (inL b t)=kv:=λ t Y Z=>by rw[aq,(ag t Y Z).1,(ag t Y Z).2]
 have au:xqs keep (S.map xL1) out.length (xLZ (·.2.1) (S.take i)) (xLZ (·.2.2) (S.take i)) ((i:Nat):Int) at' (out.map encP)=(xLZ (·.2.1) (S.take j),xLZ (·.2.2) (S.take j),((j:Nat):Int),out.map encP):=by unfold xqs;rw[j3];rfl
 have v8:xf7 keep (S.map xL1) out.length (xLZ (·.2.1) (S.take i)) (xLZ (·.2.2) (S.take i)) ((i:Nat):Int) at' (out.map encP)=xLZ (·.2.1) (S.take j):=by unfold xf7;rw[au]
 have v9:xrL keep (S.map xL1) out.length (xLZ (·.2.1) (S.take i)) (xLZ (·.2.2) (S.take i)) ((i:Nat):Int) at' (out.map encP)=(xLZ (·.2.2) (S.take j),((j:Nat):Int),out.map encP):=by unfold xrL;rw[au]
 have v7:xf6 keep (S.map xL1) out.length (xLZ (·.2.1) (S.take i)) (xLZ (·.2.2) (S.take i)) ((i:Nat):Int) at' (out.map encP)=xLZ (·.2.2) (S.take j):=by unfold xf6;rw[v9]
 have v6:xrK keep (S.map xL1) out.length (xLZ (·.2.1) (S.take i)) (xLZ (·.2.2) (S.take i)) ((i:Nat):Int) at' (out.map encP)=(((j:Nat):Int),out.map encP):=by unfold xrK;rw[v9]
 have v1:xbm keep (S.map xL1) out.length (xLZ (·.2.1) (S.take i)) (xLZ (·.2.2) (S.take i)) ((i:Nat):Int) at' (out.map encP)=out.map encP:=by unfold xbm;rw[v6]
 have v3:xbI keep (S.map xL1) out.length (xLZ (·.2.1) (S.take i)) (xLZ (·.2.2) (S.take i)) ((i:Nat):Int) at' (out.map encP)=((j:Nat):Int):=by unfold xbI;rw[v6]
 have v2:xrI keep (S.map xL1) out.length (xLZ (·.2.1) (S.take i)) (xLZ (·.2.2) (S.take i)) ((i:Nat):Int) at' (out.map encP)=kv:=by unfold xrI;rw[v8,v7,<-aq]
 have v0:xnz keep (S.map xL1) out.length (xLZ (·.2.1) (S.take i)) (xLZ (·.2.2) (S.take i)) ((i:Nat):Int) at' (out.map encP)=decide (xdA keep out.length<out.length):=by unfold xnz;rw[v1,za]
 have v5:xrJ keep (S.map xL1) out.length (xLZ (·.2.1) (S.take i)) (xLZ (·.2.2) (S.take i)) ((i:Nat):Int) at' (out.map encP)=decide (j<S.length):=by unfold xrJ;rw[v3,za];by_cases h:j<S.length;rw[decide_eq_true h,decide_eq_true (by omega)];rw[decide_eq_false h,decide_eq_false (by omega)]
 have ak:(out.length+1)*16<=140737488355328:=by omega
 have ah:out.length+1<=4611686018427387904:=by omega
 have e1:(out.length==out.length):=by simp
 have dF:decide (at'<1099511627776):=decide_eq_true hF;have dj:decide ((0:Int)<=((j:Nat):Int)):=decide_eq_true (by omega);have W:∀h:j<S.length,(((S.map xL1).getD j .top).cells.getD 0 .top).toInt=nx:=λ h=>by rw[xad _ _ _ h,O,dif_pos h];rfl
 have af:∀h:j<S.length,xMx (Sh.int IntKind.i64) (((S.map xL1).getD j .top).cells.getD 0 .top):=λ h=>by rw[xad _ _ _ h];rfl
 have ad:∀q:List Per,OutOk q nx (λ t=>keep (inL a t) (inL b t))->(q.length:Int)<=nx->SwI S (λ t=>keep (inL a t) (inL b t)) (q.length,xLZ (·.2.1) (S.take j),xLZ (·.2.2) (S.take j),((j:Nat):Int),nx,q.map encP):=λ q ho hl=>
  ⟨q,j,nx,rfl,by omega,Q,j2,λ m h hm=>by have:=al m h hm;omega,λ m h hm=>aj m h hm,ho,hl⟩
 have mu:(1099511627776 - nx).toNat<(1099511627776 - at').toNat:=by omega
 cases kv with|false=>refine⟨(out.length,xLZ (·.2.1) (S.take j),xLZ (·.2.2) (S.take j),((j:Nat):Int),nx,out.map encP),?_,ad out (J.skip (by omega) hK) (by omega),mu⟩;unfold xg9;simp only;unfold xo2;rw[v1,v2,v3,v5,v7,v8,j3,dF,dj,zN,za];by_cases hj:j<S.length;rw[decide_eq_true hj,af hj,W hj];rfl;(rw[decide_eq_false hj];have:nx=1099511627776:=by rw[O,dif_neg hj]);rw[this];rfl|true=>
  by_cases hne:out=[];have ac:=J.add ai ab Q hK (λ p hp=>by rw[hne]at hp;cases hp);refine⟨((out++[(at',nx)]).length,xLZ (·.2.1) (S.take j),xLZ (·.2.2) (S.take j),((j:Nat):Int),nx,(out++[(at',nx)]).map encP),?_,ad _ ac (by rw[z8,zj];omega),mu⟩;have dl:decide (((out.length:Nat):Int)>0)=false:=by rw[hne];rfl
  unfold xg9;simp only;unfold xo2;rw[v1,v2,v3,v5,v7,v8,j3,dF,dj,zN,za,za,dl,e1,decide_eq_true ak,decide_eq_true ah];by_cases hj:j<S.length;rw[decide_eq_true hj,af hj,W hj,zx,z8];rfl;rw[decide_eq_false hj];have:nx=1099511627776:=by rw[O,dif_neg hj]
  rw[this,zx,z8];rfl;have az:=List.length_pos_iff.2 hne;have w1:IntKind.i64.wrap (((out.length:Nat):Int) - 1)=((out.length - 1:Nat):Int):=by rw[xaO (by omega) (by omega)];omega
  have ap:xdA keep out.length=out.length - 1:=by unfold xdA;rw[w1,zN];omega
  have v4:xnA keep out.length:=by unfold xnA;rw[w1,decide_eq_true (by omega),decide_eq_true (by omega)];rfl
  have dl:decide (((out.length:Nat):Int)>0):=decide_eq_true (by omega);have dv:decide (out.length - 1<out.length):=decide_eq_true (by omega);have an:out.length - 1<out.length:=by omega
  have gl:(out.map encP).getD (out.length - 1) .top=encP out[out.length - 1]:=xad _ _ _ an;have cl:((encP out[out.length - 1]).cells.getD 1 .top).toInt=out[out.length - 1].2:=rfl;have sl:xMx (Sh.int IntKind.i64) ((encP out[out.length - 1]).cells.getD 1 .top):=rfl;have ae:=xFm out hne;by_cases hl:out[out.length - 1].2=at';have ar:=OutOk.ext (o:=out.dropLast) (p:=out[out.length - 1]) (by rw[<-ae];exact J) hl ab Q hK;have V:(out.dropLast++[(out[out.length - 1].1,nx)]).length=out.length:=by rw[z8,List.length_dropLast,zj];omega
  have aa:(out.map encP).set (out.length - 1) (AV.agg (List.take 1 (encP out[out.length - 1]).cells++[AV.int IntKind.i64 nx]++List.drop 2 (encP out[out.length - 1]).cells))=(out.dropLast++[(out[out.length - 1].1,nx)]).map encP:=by have e2:AV.agg (List.take 1 (encP out[out.length - 1]).cells++[AV.int IntKind.i64 nx]++List.drop 2 (encP out[out.length - 1]).cells)=encP (out[out.length - 1].1,nx):=rfl;rw[e2,<-List.map_set];congr 1;have e3:out.set (out.length - 1) (out[out.length - 1].1,nx)=(out.dropLast++[out[out.length - 1]]).set (out.length - 1) (out[out.length - 1].1,nx):=congrArg (λ l=>List.set l (out.length - 1) (out[out.length - 1].1,nx)) ae;rw[e3,List.set_append_right _ _ (by rw[List.length_dropLast];exact zd _),List.length_dropLast,Nat.sub_self];rfl
  refine⟨((out.dropLast++[(out[out.length - 1].1,nx)]).length,xLZ (·.2.1) (S.take j),xLZ (·.2.2) (S.take j),((j:Nat):Int),nx,(out.dropLast++[(out[out.length - 1].1,nx)]).map encP),?_,ad _ ar (by rw[V];omega),mu⟩;have e4:(out[out.length - 1].2==at'):=by simp[hl]
  unfold xg9;simp only;unfold xo2;rw[v0,v1,v2,v3,v4,v5,v7,v8,ap,j3,dF,dj,zN,za,gl,cl,sl,dl,dv,e4];by_cases hj:j<S.length;rw[decide_eq_true hj,af hj,W hj,aa,V];rfl;rw[decide_eq_false hj];have:nx=1099511627776:=by rw[O,dif_neg hj]
  rw[this]at aa V|-;rw[aa,V];rfl;have ac:=J.add ai ab Q hK (fun p hp=>by
   rw[ae]at hp;rcases zG.1 hp with hp|hp
   . have h1:=J.span.2;rw[ae]at h1;have:=(List.pairwise_append.1 h1).2.2 p hp _ (zv.2 rfl);have h2:=J.low _ (zo an);have h3:=xbH.1 (J.span.1 _ (zo an));omega
   . rw [zv.1 hp];exact hl)
  refine⟨((out++[(at',nx)]).length,xLZ (·.2.1) (S.take j),xLZ (·.2.2) (S.take j),((j:Nat):Int),nx,(out++[(at',nx)]).map encP),?_,ad _ ac (by rw[z8,zj];omega),mu⟩;have e4:(out[out.length - 1].2==at')=false:=by simp[hl]
  unfold xg9;simp only;unfold xo2;rw[v0,v1,v2,v3,v4,v5,v7,v8,ap,j3,dF,dj,zN,za,za,gl,cl,sl,dl,dv,e4,e1,decide_eq_true ak,decide_eq_true ah];by_cases hj:j<S.length;rw[decide_eq_true hj,af hj,W hj,zx,z8];rfl;rw[decide_eq_false hj];have:nx=1099511627776:=by rw[O,dif_neg hj]
  rw[this,zx,z8];rfl
 right;have:at'=1099511627776:=by omega
 subst this;refine⟨(out.length,out.map encP),?_,out,rfl,J⟩;unfold xg9;simp only;unfold xo2;rw[decide_eq_false hF];rfl
end
theorem xsA:∀(l:List Per)(e:Edg),e∈xLY 1 0 l->(-1<=e.2.1/\e.2.1<=1)/\(-1<=e.2.2/\e.2.2<=1)|[],e,h=>by cases h|p::l,e,h=>by unfold xLY at h;split at h;rcases zC.1 h with rfl|h;simp;rcases zC.1 h with rfl|h;simp;exact xsA l e h;exact xsA l e h
theorem xsB:∀(l:List Per)(e:Edg),e∈xLY 0 1 l->(-1<=e.2.1/\e.2.1<=1)/\(-1<=e.2.2/\e.2.2<=1)|[],e,h=>by cases h|p::l,e,h=>by unfold xLY at h;split at h;rcases zC.1 h with rfl|h;simp;rcases zC.1 h with rfl|h;simp;exact xsB l e h;exact xsB l e h
theorem xFx(keep:Bool->Bool->Bool)(a b:List Per)(ha:a.length<=1073741824)(hb:b.length<=1073741824):∃r:List Per,swG keep (a.map encP) (b.map encP)=some (r.map encP)/\IsSpan r/\∀t,inL r t=(decide (0<=t)&&(decide (t<1099511627776)&&keep (inL a t) (inL b t))):=by
 obtain⟨S,hS,hp,V⟩:=xGu a b ha hb;have l1:=xk1 1 0 a;have l2:=xk1 0 1 b;have Q:S.length=(xLY 1 0 a++xLY 0 1 b).length:=hp.length_eq;rw[z8]at Q;have q:∀e,e∈S->e∈xLY 1 0 a\/e∈xLY 0 1 b:=λ e he=>zG.1 (hp.mem_iff.1 he);have J:∀e,e∈S->0<=e.1/\e.1<=1099511627776:=λ e he=>(q e he).elim (xnc 1 0 a e) (xnc 0 1 b e);have W:∀e,e∈S->(-1<=e.2.1/\e.2.1<=1)/\(-1<=e.2.2/\e.2.2<=1):=λ e he=>(q e he).elim (xsA a e) (xsB b e);obtain⟨r,hr,out,rfl,O⟩:=xsK (SwI S (λ t=>keep (inL a t) (inL b t))) (λ s=>(1099511627776 - s.2.2.2.2.1).toNat) (λ r=>∃out:List Per,r=(out.length,out.map encP)/\OutOk out 1099511627776 (λ t=>keep (inL a t) (inL b t))) (xBx S J W V Ω keep a b hp) (0,0,0,0,0,[]) ⟨[],0,0,rfl,Int.le_refl _,by omega,zQ _,λ m _ h=>by omega,λ m h _=>(J _ (zo h)).1,xy0 _,by simp⟩;refine⟨out,?_,O.span,O.done⟩;have v3:xwV keep (a.map encP) (b.map encP)=some (out.length,out.map encP):=by unfold xwV;rw[hS];exact hr
 have v2:xwU keep (a.map encP) (b.map encP)=(out.length,out.map encP):=by unfold xwU;rw[v3];rfl
 have v0:xwT keep (a.map encP) (b.map encP)=out.length:=by unfold xwT;rw[v2]
 have v1:xwS keep (a.map encP) (b.map encP)=out.map encP:=by unfold xwS;rw[v2]
 have d1:0+out.length<=out.length:=Ω
 unfold swG xHD;rw[hS,v3,v0,v1,za,decide_eq_true d1,zr,zi (by rw[za];exact zd _)];rfl
theorem xD0(a b:List AV):xrj a b=swG xns a b:=rfl
theorem xHC(a:List Per)(ha:a.length<=1073741824):∃r:List Per,xj5 (a.map encP)=some (r.map encP)/\IsSpan r/\∀t,inL r t=inL a t:=by obtain⟨r,h1,h2,h3⟩:=xFx xns a [] ha Ψ;refine⟨r,?_,h2,λ t=>?_⟩;unfold xj5 xuf;rw[xD0,show ([]:List AV)=([]:List Per).map encP from rfl,h1];rfl;rw[h3 t];cases hc:inL a t with|false=>simp[xns,xaH,sUF]|true=>have:=xus hc;simp[xns,xaH,this,sUF]
theorem xD1(a b:List AV):xrk a b=swG xgp a b:=rfl
theorem xu4(a b:List Per)(ha:a.length<=1073741824)(hb:b.length<=1073741824):∃r:List Per,xgA (a.map encP) (b.map encP)=some (r.map encP)/\IsSpan r/\∀t,inL r t=(inL a t&&!inL b t):=by obtain⟨r,h1,h2,h3⟩:=xFx xgp a b ha hb;refine⟨r,?_,h2,λ t=>?_⟩;unfold xgA xon;rw[xD1,h1];rfl;rw[h3 t];cases hc:inL a t with|false=>simp[xgp,xaH,sUF]|true=>have:=xus hc;simp[xgp,xaH,this,sUF]
end Go.Sim.M
namespace Go.Sim.M
open Go.RowKit Go.Sim.Srt
def xt1 {ps:List Per} (h:ps.length<=262144):Tame (ps.map fun p=>(p,(1:Int))):=⟨by simpa using h,fun c hc=>by
 obtain ⟨p,_,rfl⟩:=zK.1 hc;dsimp only;omega⟩
def xzr(ps:List Per)(h:ps.length<=262144):∃S,xfB (ps.map encP)=some (S.map encP)/\StepI (λ t=>((ps.countP (hasP · t):Nat):Int)) 1099511627776 S/\S.length<=2*ps.length+1:=by obtain⟨S,h1,h2,h3⟩:=xle _ (xt1 h);refine⟨S,by rw[xDl ps Ω,h1],?_,by simpa using h3⟩;rwa [show sumC (ps.map λ p=>(p,(1:Int)))=λ t=>((ps.countP (hasP · t):Nat):Int) from funext λ t=>xui ps t]at h2
def xGn(l:List Fc)(row:Row)(t:Int)(g:Fc->List Per)(hg:∀f,(g f).countP (hasP · t)=if f.r=row/\hasP f.p t then 1 else 0):(l.flatMap g).countP (hasP · t)=cnt l row t:=by induction l with|nil=>rfl|cons f l ih=>rw[zR,List.countP_append,ih,hg];have e2:cnt (f::l) row t=cnt l row t+if(decide (f.r=row)&&hasP f.p t) then 1 else 0:=List.countP_cons;rw[e2];by_cases h:f.r=row/\hasP f.p t=true;rw[if_pos h,if_pos (by simp[h.1,h.2])];omega;rw[if_neg h,if_neg (by simpa using h)];omega
def xDK(l:List Fc)(row:Row)(hr:∀f,f∈l->f.r.length<=maxLen)(hl:l.length<=262144):∃S,xn6 (l.map encF) (row.map encV)=some (S.map encP)/\StepI (λ t=>((cnt l row t:Nat):Int)) 1099511627776 S/\S.length<=2*l.length+1:=by
 have e:=xsW row l Ω hr;have q:(l.flatMap λ f=>if cmpR f.r row==0 then[(f.p,(1:Int))]else[])=(l.flatMap λ f=>if cmpR f.r row==0 then[f.p]else[]).map λ p=>(p,(1:Int)):=by rw[List.map_flatMap];congr 1;funext f;split<;>simp
 rw[q]at e;generalize hq:(l.flatMap λ f=>if cmpR f.r row==0 then[f.p]else[])=ps at e;have J:ps.length<=l.length:=by(rw[<-hq];have:=xk2 (c:=1) (g:=λ f:Fc=>if cmpR f.r row==0 then[f.p]else[]) l λ f _=>by split<;>simp);omega
 obtain⟨S,h1,h2,h3⟩:=xKw _ (xt1 (ps:=ps) Ω);refine⟨S,?_,?_,by rw[za]at h3;omega⟩;unfold xn6 xoU;simp only[xn7,xh3,e,sOO,sUF];simp only[h1,sOO];rwa [show sumC (ps.map fun p=>(p,(1:Int)))=fun t=>((cnt l row t:Nat):Int) from funext fun t=>by
  rw[xui,<-hq,xGn l row t _ λ f=>?_]
  rw [cmp0];by_cases hr:f.r=row<;>cases hh:hasP f.p t<;>simp [hr,hh]] at h2
open Go.Sort
def xIN(E:List Per):(E.map encP).all isP/\∃P:List Per,srtP (E.map encP)=P.map encP/\P.Perm E/\Sorted cmpP P:=by(have e1:(E.map encP).map decP=E:=by(rw[List.map_map];conv=>rhs;rw[<-List.map_id E]);rfl);refine⟨?_,pdqL cmpP E,?_,(xnj cmpP swoP E).1,(xrS cmpP swoP E).imp λ{x y} h=>?_⟩;rw[zI];intro x hx;obtain⟨e,he,rfl⟩:=zK.1 hx;rfl;unfold srtP;rw[e1];rfl;have:=xrr x y;omega
def xAs(S:List Per)(hS:S.length<=524289)(hN:∀s,s∈S->0<=s.2/\s.2<=1048576):∀(d k:Nat)(J ox:List Per),k+d=S.length->StOk J->(xL3 J).length<=1048576->ox.length<=k*1048576->
  ∃q Q:List Per,Iter (xed (S.map encP) ((S.length:Nat):Int)) ((k:Int),ox.length,J.length,((xL3 J).length:Int),ox.map encP,J.map encP)=some (Q.length,((xL3 q).length:Int),q.length,Q.map encP,q.map encP)/\
   StOk q/\(xL3 q,Q)=(S.drop k).foldl (λ x s=>setF x (s.1,s.2.toNat)) (xL3 J,ox)/\(xL3 q).length<=1048576/\Q.length<=S.length*1048576
 |0,k,J,ox,h,h1,h2,h3=>by
  obtain rfl:k=S.length:=by omega
  refine⟨J,ox,xac ?_,h1,by rw[zq (zd _)];rfl,h2,h3⟩
  simp only[xed,xi2,zy,zm,xae,sUF]
 |d+1,k,J,ox,h,h1,h2,h3=>by
  have hk:k<S.length:=by omega
  obtain⟨n1,n2⟩:=hN _ (zo hk);obtain⟨m,hm⟩:∃m:Nat,S[k].2=(m:Int):=⟨S[k].2.toNat,by omega⟩
  obtain⟨O,e,a1,a2⟩:=xCR S[k].1 m (xL3 J).length J ox h1 rfl (by omega) h2 (by omega)
  have V:(xL3 O).length=m:=by rw[a2,z8,zt,List.length_replicate];omega
  obtain ⟨q,Q,e',b1,b2,b3,b4⟩:=xAs S hS hN d (k+1) O (ox++(((xL3 J).drop m).reverse.map fun f=>(f,S[k].1))) (by omega) a1 (by omega) (by
   rw [z8,za,List.length_reverse,y3];omega)
  refine⟨q,Q,(xak ?_).trans e',b1,?_,b3,b4⟩
  . have i1:(k:Int)<(S.length:Int):=by omega
    have gf:(S.map encP).getD k .top=encP S[k]:=xad _ _ _ hk;have i2:¬ (0:Int)>(m:Int):=by omega
    have i3:¬ (1048576:Int)<(m:Int):=by omega
    have tk:List.take O.length (O.map encP)=O.map encP:=zi (by simp)
    rw[V];simp only[xed,xi2,xdO,xlt,xlu,sBU,hk,i1,gf,cP0,cP1,lP,sP,sP0,sP1,hm,i2,i3,if_false,e,tk,xL0 (n:=k) (by omega)]
  . rw[b2,xaP hk,List.foldl_cons];congr 1;rw[hm,zN,a2];rfl
def xyS{N:Int->Nat}{H:Nat}(hb:H<=1048576)(hH:∀t,N t<=H)(h0:∀t,t<0\/1099511627776<=t->N t=0){S:List Per}(hS:StepI (λ t=>(N t:Int)) 1099511627776 S)(hl:S.length<=524289):∃P,xaI (S.map encP)=some (P.map encP)/\IsLevs N P:=by
 obtain ⟨q,ox,e,a1,a2,a3,a4⟩:=xAs S hl (fun s hs=>by
  obtain ⟨_,_,m3,_⟩:=(hS.mem s).1 hs;have:=hH s.1;omega) S.length 0 [] [] Ω (fun s hs=>by simp at hs) (by simp [xL3]) Ψ
 obtain⟨J,e2,c1,c2⟩:=xCR 1099511627776 0 (xL3 q).length q ox a1 rfl Ω a3 Ω;obtain⟨s1,P,s2,s3,s4⟩:=xIN (ox++(((xL3 q).drop 0).reverse.map λ f=>(f,(1099511627776:Int))));have m1:(ox++(((xL3 q).drop 0).reverse.map λ f=>(f,(1099511627776:Int)))).length<4611686018427387904:=by rw[z8,za,List.length_reverse,y3];omega
 refine⟨P,?_,xGL hH h0 hS ?_ s4⟩;have pl:=s3.length_eq;have e:Iter (xed (S.map encP) ((S.length:Nat):Int)) ((0:Int),(0:Nat),(0:Nat),(0:Int),[],[])=_:=e;have e2:set2 1099511627776 0 ((xL3 q).length:Int) q.length ox.length (q.map encP) (ox.map encP)=_:=e2;generalize (ox++(((xL3 q).drop 0).reverse.map λ f=>(f,(1099511627776:Int))))=O at s1 s2 e2 pl m1;have bq:O.length.beq O.length:=by simp
 have m2:O.length<=P.length:=Ω
 have tt:List.take O.length (P.map encP)=P.map encP:=zi (by rw[za];omega);unfold xaI xo0;simp only[xdz,xos,xgq,xot,za,e,zk,zh,xab,e2,bq,m1,s1,s2,zn,zS,zH,m2,zr,tt,sUF];have a2:(xL3 q,ox)=S.foldl (λ x s=>setF x (s.1,s.2.toNat)) ([],[]):=a2;rw[<-a2];exact s3
def xsy(ps:List Per)(t:Int)(ht:t<0\/1099511627776<=t):ps.countP (hasP · t)=0:=by rw[List.countP_eq_zero];intro p hp h;obtain⟨h1,h2,h3⟩:=xba.1 h;have:=xbH.1 h1;omega
def xHR(ps:List Per)(hv:∀p,p∈ps->pv p)(hl:ps.length<=262144):∃P,xgs (ps.map encP)=some (P.map encP)/\IsLevs (λ t=>ps.countP (hasP · t)) P:=by unfold xgs xnG;by_cases h1:ps.length=1;obtain⟨p,rfl⟩:=List.length_eq_one_iff.1 h1;refine⟨[p],rfl,List.pairwise_singleton _ _,λ k=>if k=0 then[p]else[],1,λ t=>?_,λ k=>?_,?_⟩;have:=List.countP_le_length (p:=(hasP · t)) (l:=[p]);simpa using this;by_cases hk:k=0;subst hk;refine⟨⟨λ q hq=>by simp at hq;subst hq;exact hv _ Ψ,List.pairwise_singleton _ _⟩,λ t=>?_⟩;simp[inL];cases hasP p t<;>simp;refine⟨by simp[hk,xlF],λ t=>?_⟩;simp only[hk,if_false,xhH];have:=List.countP_le_length (p:=(hasP · t)) (l:=[p]);simp at this|-;omega;simp;obtain⟨S,e1,e2,e3⟩:=xzr ps hl;obtain⟨P,e4,e5⟩:=xyS (N:=λ t=>ps.countP (hasP · t)) (H:=ps.length) Ω (λ t=>List.countP_le_length) (xsy ps) e2 Ω;(refine⟨P,?_,e5⟩;have i1:((ps.length:Int)==1)=false:=by simp;omega);simp only[za,i1,xae,e1,e4,zk,zh,xab,sUF]
def mk(r:Row)(P:List Per):List Fc:=P.map λ p=>⟨r,p⟩
def xvi(L:Row->List Per):∀S:List Grp,(S.flatMap λ g=>mk g.1 (L g.1))=xLx (S.map (·.1)) L|[]=>rfl|g::S=>by rw[zR,xvi L S];rfl
def xyA(O:List AV)(J q:Int)(row:Row)(hr:row.length<=1048576)(g1:List AV)(P:List Per)(D:List Fc)(hb:D.length+P.length<=2199023255552)(hP:P.length<=1099511627776):Iter (xcz O J q (P.map encP) ((P.length:Nat):Int)) (D.length,(0:Int),D.map encF,row.map encV,g1)=some ((D++mk row P).length,(D++mk row P).map encF):=by
 have key:=xjM (step:=xcz O J q (P.map encP) ((P.length:Nat):Int)) (λ k=>(((D++mk row (P.take k)).length,((k:Nat):Int),(D++mk row (P.take k)).map encF,row.map encV,g1):Nat×Int×List AV×List AV×List AV)) P.length
  ((D++mk row P).length,(D++mk row P).map encF) (fun k hk=>by
  have i1:(k:Int)<(P.length:Int):=Ω
  have gf:(P.map encP).getD k .top=encP P[k]:=xad _ _ _ hk;have dl:(D++mk row (P.take k)).length=D.length+k:=by unfold mk;rw[z8,za,zt];omega
  have m1:(D.length+k+1)*40<=140737488355328:=Ω
  have m2:D.length+k+1<=4611686018427387904:=Ω
  have m3:row.length*32<=140737488355328:=Ω
  have m4:row.length<=4611686018427387904:=Ω
  have tk:List.take row.length (row.map encV)=row.map encV:=zi Ψ
  have Q:mk row (P.take (k+1))=mk row (P.take k)++[⟨row,P[k]⟩]:=by unfold mk;rw[List.take_add_one,ze hk,zx];rfl
  rw[Q,<-zw];simp only[xcz,xga,sBU,hk,i1,gf,cP0,cP1,lP,sP,sP0,sP1,dl,m1,m2,m3,m4,zd,tk,zr,xL0 (n:=k) Ω]
  rw [z8,dl];simp [encF]) (by
  simp only [xcz,xga,zy,zm,xae,y6,sUF]) P.length 0 Ω
 have e0:D++mk row (P.take 0)=D:=by simp[mk]
 rw[e0]at key;exact key
def xEE(O:List AV)(q J:Int)(row:Row)(hr:row.length<=1048576)(g1:List AV)(P:List Per)(D:List Fc)(hb:D.length+P.length<=2199023255552)(hP:P.length<=1099511627776):Iter (xhh O q J (P.map encP) ((P.length:Nat):Int)) (D.length,(0:Int),D.map encF,row.map encV,g1)=some ((D++mk row P).length,(D++mk row P).map encF):=xyA O q J row hr g1 P D hb hP
def Bld(l:List Fc):Prop:=Keyed l/\l.length<=1024/\R20 l
def cGs(g:Grp):((encG g).cells.getD 1 .top).toList=g.2.map encP:=rfl
def lG(g:Grp):((encG g).cells.length==2):=rfl
def sG(g:Grp):xM6 [Sh.list 3,Sh.list 2] (encG g).cells 0:=rfl
def xyB{f:List AV->Option (List AV)}{step:List AV->Int->Nat×Int×List AV->Option ((Nat×Int×List AV)⊕(Nat×List AV))}(J:step=xdC/\f=xgs\/step=xdD/\f=xj5)(S:List Grp)(hS:S.length<=1024)(hr:∀g,g∈S->g.1.length<=1048576)(L:Row->List Per)(hL:∀g,g∈S->f (g.2.map encP)=some ((L g.1).map encP)/\(L g.1).length<=1048576):Iter (step (S.map encG) ((S.length:Nat):Int)) ((0:Nat),(0:Int),[])=some ((xLx (S.map (·.1)) L).length,(xLx (S.map (·.1)) L).map encF):=by rw[<-xvi];refine xmU S (λ g=>mk g.1 (L g.1)) encF 1048576 (λ g hg=>by unfold mk;rw[za];exact(hL g hg).2) (λ n h D hD=>?_) (λ D=>?_);(have i1:(n:Int)<(S.length:Int):=Ω);have gf:(S.map encG).getD n .top=encG S[n]:=xad _ _ _ h;obtain⟨e1,e2⟩:=hL _ (zo h);have q:=hr _ (zo h);rcases J with⟨rfl,rfl⟩|⟨rfl,rfl⟩;have el:=xyA (S.map encG) (S.length:Int) (n:Int) S[n].1 q (S[n].2.map encP) (L S[n].1) D Ω Ω;simp only[xdC,xf9,xfP,sBU,h,i1,gf,cG0,cGs,lG,sG,e1,el,xL0 (n:=n) Ω];have el:=xEE (S.map encG) (S.length:Int) (n:Int) S[n].1 q (S[n].2.map encP) (L S[n].1) D Ω Ω;simp only[xdD,xgb,xfR,sBU,h,i1,gf,cG0,cGs,lG,sG,e1,el,xL0 (n:=n) Ω];rcases J with⟨rfl,rfl⟩|⟨rfl,rfl⟩;simp only[xdC,xf9,zy,zm,xae,sUF];simp only[xdD,xgb,zy,zm,xae,sUF]
def xph{R:List Row}{Q:Row->List Per->Prop}(h:∀r,r∈R->∃P,Q r P):∃L:Row->List Per,∀r,r∈R->Q r (L r):=by refine⟨λ r=>if hr:r∈R then Classical.choose (h r hr)else[],λ r hr=>?_⟩;show Q r (if hr:r∈R then Classical.choose (h r hr)else[]);rw[dif_pos hr];exact Classical.choose_spec (h r hr)
def xFB(l:List Fc)(r:Row):(λ t=>(psOf l r).countP (hasP · t))=cnt l r:=funext λ t=>xsj l r t
def xEA(l:List Fc)(h:Bld l):∃B,xcy (l.map encF)=some (B.map encF)/\xL8 l B:=by
 obtain⟨S,e1,hR,J,O⟩:=xCO l h.1 h.2.2;have hl:=h.2.1;obtain⟨L,hL⟩:=xph (R:=S.map (·.1)) (Q:=λ r P=>xgs ((psOf l r).map encP)=some (P.map encP)/\IsLevs (cnt l r) P/\P.length<=1048576) λ r hr=>by have q:=xwr l r;obtain⟨P,a1,a2⟩:=xHR (psOf l r) xGx Ω;have a3:=a2.len;rw[xFB]at a2;refine⟨P,a1,a2,Nat.le_trans a3 (Nat.mul_le_mul (Nat.le_trans q hl) (Nat.le_trans q hl))⟩
 have hk:∀g,g∈S->g.1∈S.map (·.1):=λ g hg=>zK.2 ⟨g,hg,rfl⟩;have eb:=xyB (.inl ⟨rfl,rfl⟩) S Ω (fun g hg=>by
  obtain ⟨f,hf,e,_⟩:=(hR.2 g.1).1 (hk g hg);rw [<-e];exact h.1.1.2 f hf) L (fun g hg=>by
  rw [J g hg];exact ⟨(hL _ (hk g hg)).1,(hL _ (hk g hg)).2.2⟩)
 refine⟨xLx (S.map (·.1)) L,?_,S.map (·.1),L,hR,λ r hr=>(hL r hr).2.1,rfl⟩;have tt:∀F:List Fc,List.take F.length (F.map encF)=F.map encF:=λ F=>zi Ψ;unfold xcy xoH xmO xkS xft xj7;simp only[e1,zk,zh,xab,za,eb,zH,zd,zn,zS,zr,tt,sUF]
def xKA(l:List Fc)(h:Bld l):∃B,xi8 (l.map encF)=some (B.map encF)/\xMf l B:=by
 obtain⟨S,e1,hR,q,O⟩:=xCO l h.1 h.2.2;have hl:=h.2.1;obtain⟨L,hL⟩:=xph (R:=S.map (·.1)) (Q:=λ r P=>xj5 ((psOf l r).map encP)=some (P.map encP)/\(IsSpan P/\∀t,inL P t=decide (0<cnt l r t))/\P.length<=1048576) λ r hr=>by have J:=xwr l r;obtain⟨P,a1,a2,a3⟩:=xHC (psOf l r) Ω;(have a4:∀t,inL P t=decide (0<(psOf l r).countP (hasP · t)):=λ t=>by rw[a3,Bool.eq_iff_iff,zl,List.countP_pos_iff];unfold inL;rw[List.any_eq_true]);refine⟨P,a1,⟨a2,λ t=>by rw[a4,xsj]⟩,?_⟩;have:=xyd (k:=0) a2 a4;omega
 have hk:∀g,g∈S->g.1∈S.map (·.1):=λ g hg=>zK.2 ⟨g,hg,rfl⟩;have eb:=xyB (.inr ⟨rfl,rfl⟩) S Ω (fun g hg=>by
  obtain ⟨f,hf,e,_⟩:=(hR.2 g.1).1 (hk g hg);rw [<-e];exact h.1.1.2 f hf) L (fun g hg=>by
  rw [q g hg];exact ⟨(hL _ (hk g hg)).1,(hL _ (hk g hg)).2.2⟩)
 refine⟨xLx (S.map (·.1)) L,?_,S.map (·.1),L,hR,λ r hr=>(hL r hr).2.1,rfl⟩;have tt:∀F:List Fc,List.take F.length (F.map encF)=F.map encF:=λ F=>zi Ψ;unfold xi8 xoI xmP xkT xfu xj8;simp only[e1,zk,zh,xab,za,eb,zH,zd,zn,zS,zr,tt,sUF]
end Go.Sim.M
namespace Go.Sim.M
open Go.RowKit Go.Sim.Srt
def pos(S:List Per)(i:Nat):Int:=match S[i]? with|some s=>s.1|none=>1099511627776
variable {S:List Per}{i:Nat}
def xsi(h:i<S.length):pos S i=S[i].1:=by unfold pos;rw[ze h]
def xAJ(h:S.length<=i):pos S i=1099511627776:=by unfold pos;rw[zz h]
def xGW{N:Int->Nat}(hS:StepI (λ t=>(N t:Int)) 1099511627776 S)(hi:i<S.length):0<=pos S i/\pos S i<pos S (i+1)/\pos S (i+1)<=1099511627776/\S[i].2=(N S[i].1:Int)/\∀t,pos S i<=t->t<pos S (i+1)->N t=N S[i].1:=by
 obtain⟨m1,m2,m3,_⟩:=(hS.mem S[i]).1 (zo hi);rw[xsi hi];have hb:S[i].1<pos S (i+1)/\pos S (i+1)<=1099511627776:=by by_cases h:i+1<S.length;rw[xsi h];have:=zB.1 hS.asc i (i+1) hi h Ω;have:=((hS.mem S[i+1]).1 (zo h)).2.1;omega;rw[xAJ Ω];omega
 refine⟨m1,hb.1,hb.2,m3,λ t h1 h2=>xrt (a:=S[i].1) (b:=pos S (i+1)) (λ u u1 u2=>?_) (t - S[i].1).toNat t Ω h2⟩;by_cases e:N (u - 1)=N u;exact e;have hu:(u,(N u:Int))∈S:=(hS.mem _).2 ⟨by dsimp only;omega,by dsimp only;omega,rfl,.inr (by dsimp only;omega)⟩;obtain⟨k,hk,q⟩:=zp.1 hu;have O:S[k].1=u:=by rw[q]
 rcases zJ i k with J|J;have:i+1<S.length:=Ω
 rw[xsi this]at u2;rcases zJ (i+1) k with h3|h3;have:=zB.1 hS.asc (i+1) k this hk h3;omega;obtain rfl:k=i+1:=Ω
 omega;rcases zJ k i with h3|h3;have:=zB.1 hS.asc k i hk hi h3;omega;obtain rfl:k=i:=Ω
 omega
def xGX{N:Int->Nat}(hS:StepI (λ t=>(N t:Int)) 1099511627776 S):pos S 0=0:=by
 have h0:((0:Int),(N 0:Int))∈S:=(hS.mem _).2 ⟨by simp,by simp,rfl,.inl rfl⟩;obtain⟨k,hk,J⟩:=zp.1 h0;have h:0<S.length:=Ω
 have p0:=((hS.mem S[0]).1 (zo h)).1;rw[xsi h];have q:S[k].1=0:=by rw[J]
 rcases zJ 0 k with h3|h3;have:=zB.1 hS.asc 0 k h hk h3;omega;obtain rfl:k=0:=Ω
 exact q
def joined(out:List Per)(f t:Int):List Per:=match out.getLast? with|some p=>if p.2=f then out.dropLast++[(p.1,t)]else out++[(f,t)]|none=>out++[(f,t)]
def xMA{n:Nat}(h:n<=1099511627776):(n+1)*16<=140737488355328/\n+1<=4611686018427387904/\n*16<=140737488355328/\n<=4611686018427387904:=Ω
def xIj(out:List Per)(f t:Int)(O:f<t)(J:∀p,p∈out->p.2<=f)(hl:out.length<=1048576):∃q,xcu out.length f t (out.map encP)=some q/\br q.1 q.2.1.1 q.2.2.1=(joined out f t).length/\br q.1 q.2.1.2.2 q.2.2.2=(joined out f t).map encP:=by
 rcases xqp out with rfl|⟨o,p,rfl⟩;refine⟨_,rfl,rfl,rfl⟩;have hp:=J p Ψ;have L:(o++[p]).length=o.length+1:=by simp
 rw[L]at hl;have w1:IntKind.i64.wrap (((o.length+1:Nat):Int) - 1)=(o.length:Int):=xMQ Ω;have i1:((o.length+1:Nat):Int)>0:=Ω
 have i2:(o.length:Int)<((o.length+1:Nat):Int):=Ω
 have i3:(o.length:Int)<=((o.length+1:Nat):Int):=Ω
 have i4:o.length<o.length+1:=Ω
 have i5:o.length<=o.length+1:=Ω
 have gl:((o++[p]).map encP).getD o.length .top=encP p:=by rw[zx];have:=xAl (o.map encP) (encP p) .top;rwa [za]at this
 have tl:List.take o.length ((o++[p]).map encP)=o.map encP:=by rw[zx];exact List.take_left' Ψ
 obtain⟨m1,m2,m3,m4⟩:=xMA (n:=o.length) Ω;obtain⟨m5,m6,_,_⟩:=xMA (n:=o.length+1) Ω;have jn:joined (o++[p]) f t=if p.2=f then o++[(p.1,t)]else o++[p]++[(f,t)]:=by unfold joined;simp
 by_cases he:p.2=f;have c1:p.2>=f:=Ω
 have c2:t>p.2:=Ω
 rw[jn,if_pos he,L];refine⟨(true,(o.length+1,(o++[p]).map encP,o.map encP++[encP (p.1,t)]),(0,[])),?_,by simp[xab,sUF],by simp[xab,sUF]⟩;unfold xcu xli xjc xjY xez xmB xmC xjZ xmD;simp only[sBU,L,w1,i1,i2,i3,i4,i5,gl,cP0,cP1,lP,sP,sP0,sP1,c1,c2,tl,zr,m1,m2,m3,m4,if_true,aggP];have c1:¬ p.2>=f:=Ω
 rw[jn,if_neg he,L];refine⟨(false,(0,[],[]),(o.length+1+1,(o++[p]).map encP++[encP (f,t)])),?_,by simp[xae,sUF],by simp[xae,sUF]⟩;unfold xcu xli xjc xjY xez xmB xmC xjZ xmD;simp only[sBU,L,w1,i1,i2,i3,i4,gl,cP0,cP1,lP,sP,sP0,sP1,c1,m5,m6,aggP]
variable {t:Int}
def xFk{out:List Per}{f:Int}{K:Int->Bool}(h:OutOk out f K)(h0:0<=f)(J:f<t)(hF:t<=1099511627776)(hK:∀u,f<=u->u<t->K u):OutOk (joined out f t) t K/\(joined out f t).length<=out.length+1:=by rcases xqp out with rfl|⟨o,p,rfl⟩;exact⟨h.add h0 J hF hK (λ p hp=>by simp at hp),by simp[joined]⟩;(have jn:joined (o++[p]) f t=if p.2=f then o++[(p.1,t)]else o++[p]++[(f,t)]:=by unfold joined;simp);rw[jn];by_cases he:p.2=f;rw[if_pos he];exact⟨h.ext he J hF hK,by simp⟩;rw[if_neg he];refine⟨h.add h0 J hF hK (λ q hq e=>?_),by simp⟩;rcases zG.1 hq with hq|hq;have:=(List.pairwise_append.1 h.span.2).2.2 q hq p Ψ;have hv:=xbH.1 (h.span.1 p Ψ);have:=h.low p Ψ;omega;rw[zv]at hq;subst hq;exact he e
def xzV{N:Int->Nat}(hS:StepI (λ t=>(N t:Int)) 1099511627776 S)(hl:S.length<=524289)(n:Int):∀(d i:Nat)(out:List Per),i+d=S.length->OutOk out (pos S i) (λ t=>decide (n<=(N t:Int)))->out.length<=i->
  ∃J:List Per,Iter (xa5 (S.map encP) n) (out.length,(i:Int),out.map encP)=some (J.length,J.map encP)/\OutOk J 1099511627776 (λ t=>decide (n<=(N t:Int)))/\J.length<=S.length
 |0,i,out,h,ho,hn=>by
  obtain rfl:i=S.length:=by omega
  rw[xAJ (zd _)]at ho;refine⟨out,xac ?_,ho,hn⟩;simp only[xa5,xdJ,za,zy,zm,xae,sUF]
 |d+1,i,out,h,ho,hn=>by
  have hi:i<S.length:=by omega
  obtain⟨p1,p2,p3,p4,p5⟩:=xGW hS hi;have i1:(i:Int)<(S.length:Int):=by omega
  have gf:(S.map encP).getD i .top=encP S[i]:=xad _ _ _ hi;have wi:=xL0 (n:=i) (by omega)
  have pe:=xsi hi;by_cases Q:S[i].2>=n
  . have hK:∀t,pos S i<=t->t<pos S (i+1)->(λ t=>decide (n<=(N t:Int))) t=true:=λ t t1 t2=>by
     dsimp only;rw[p5 t t1 t2,<-p4];exact decide_eq_true Q
    obtain⟨j1,j2⟩:=xFk ho p1 p2 p3 hK;obtain⟨q,q1,q2,q3⟩:=xIj out (pos S i) (pos S (i+1)) p2 ho.low (by omega)
    obtain⟨J,e',x1,x2⟩:=xzV hS hl n d (i+1) (joined out (pos S i) (pos S (i+1))) (by omega) j1 (by omega)
    refine⟨J,(xak (s':=((joined out (pos S i) (pos S (i+1))).length,((i+1:Nat):Int),(joined out (pos S i) (pos S (i+1))).map encP)) ?_).trans e',x1,x2⟩;rw[<-q2,<-q3];by_cases O:i+1<S.length
    . have i2:((i+1:Nat):Int)<(S.length:Int):=by omega
      have gn:(S.map encP).getD (i+1) .top=encP S[i+1]:=xad _ _ _ O;rw[xsi O,pe]at q1;simp only[xa5,xdJ,xeo,xbv,xbk,xdW,xdX,sBU,i1,i2,hi,O,gf,gn,cP0,cP1,lP,sP,sP0,sP1,Q,wi,q1]
    . have i2:¬ ((i+1:Nat):Int)<(S.length:Int):=by omega
      rw[xAJ (S:=S) (i:=i+1) (by omega),pe]at q1
      simp only[xa5,xdJ,xeo,xbv,xbk,xdW,xdX,sBU,i1,i2,hi,gf,cP0,cP1,lP,sP,sP0,sP1,Q,wi,q1]
  . have hK:∀t,pos S i<=t->t<pos S (i+1)->(λ t=>decide (n<=(N t:Int))) t=false:=λ t t1 t2=>by
     dsimp only;rw[p5 t t1 t2,<-p4];exact decide_eq_false (by omega)
    obtain⟨J,e',x1,x2⟩:=xzV hS hl n d (i+1) out (by omega) (ho.skip (by omega) hK) (by omega)
    refine⟨J,(xak (s':=(out.length,((i+1:Nat):Int),out.map encP)) ?_).trans e',x1,x2⟩;by_cases O:i+1<S.length
    . have i2:((i+1:Nat):Int)<(S.length:Int):=by omega
      have gn:(S.map encP).getD (i+1) .top=encP S[i+1]:=xad _ _ _ O;simp only[xa5,xdJ,xeo,xbv,xbk,xdW,xdX,sBU,i1,i2,hi,O,gf,gn,cP0,cP1,lP,sP,sP0,sP1,Q,wi]
    . have i2:¬ ((i+1:Nat):Int)<(S.length:Int):=by omega
      simp only[xa5,xdJ,xeo,xbv,xbk,xdW,xdX,sBU,i1,i2,hi,gf,cP0,cP1,lP,sP,sP0,sP1,Q,wi]
def xJr{N:Int->Nat}(h0:∀t,t<0\/1099511627776<=t->N t=0)(hS:StepI (λ t=>(N t:Int)) 1099511627776 S)(hl:S.length<=524289)(k:Nat):∃A:List Per,xfn (S.map encP) ((k+1:Nat):Int)=some (A.map encP)/\(IsSpan A/\∀t,inL A t=decide (k<N t))/\A.length<=S.length:=by obtain⟨A,e,a1,a2⟩:=xzV hS hl ((k+1:Nat):Int) S.length 0 [] Ω (by rw[xGX hS];exact xy0 _) (zd _);refine⟨A,?_,⟨a1.span,λ t=>?_⟩,a2⟩;have e:Iter (xa5 (S.map encP) ((k+1:Nat):Int)) ((0:Nat),(0:Int),[])=_:=e;have tt:List.take A.length (A.map encP)=A.map encP:=zi Ψ;unfold xfn xn0;simp only[xhm,e,zk,zh,xab,zH,za,zd,zn,zS,zr,tt,sUF];rw[a1.done];by_cases h1:0<=t;by_cases h2:t<1099511627776;simp only[h1,h2,zn,Bool.true_and];rw[Bool.eq_iff_iff,zl,zl];omega;have:=h0 t (.inr Ω);simp[h2,this];have:=h0 t (.inl Ω);simp[h1,this]
def xFD(p q:Per):decide (xmA p.1 p.2 q.1 q.2<=0)=decide (cmpP p q<=0):=by rw[Bool.eq_iff_iff,zl,zl,xna];unfold xmA;simp only[xaH,zS,sUF];by_cases h1:p.1=q.1;by_cases h2:p.2=q.2;simp[h1,h2];by_cases h3:p.2<q.2;simp[h1,h2,h3];omega;simp[h1,h2,h3];omega;by_cases h3:p.1<q.1;simp[h1,h3];simp[h1,h3]
def xAI(P:List Per)(hP:P.length<=1099511627775)(p:Per):∀(d i:Nat),i+d=P.length->(∀k(h:k<P.length),k<i->cmpP P[k] p<=0)->∃m:Nat,m<=P.length/\(∀k(h:k<P.length),k<m->cmpP P[k] p<=0)/\(∀h:m<P.length,¬ cmpP P[m] p<=0)/\
  Iter (xdc (P.map encP)) (i,(i:Int),p.1,p.2,(P.take i).map encP)=some (m,(m:Int),p.1,p.2,(P.take m).map encP)
 |0,i,h,hk=>by
  obtain rfl:i=P.length:=by omega
  refine⟨P.length,zd _,hk,λ h=>by omega,xac ?_⟩
  simp only[xdc,xhn,za,zy,zm,xae,sUF]
 |d+1,i,h,hk=>by
  have hi:i<P.length:=by omega
  have i1:(i:Int)<(P.length:Int):=by omega
  have gf:(P.map encP).getD i .top=encP P[i]:=xad _ _ _ hi;have tl:(P.take i).length=i:=by rw[zt];omega
  obtain⟨m1,m2,_,_⟩:=xMA (n:=i) (by omega)
  have rc:=xFD P[i] p;by_cases hc:cmpP P[i] p<=0
  . rw [decide_eq_true hc] at rc;obtain ⟨m,a1,a2,a3,a4⟩:=xAI P hP p d (i+1) (by omega) (fun k h h1=>by
     by_cases e:k=i
     . subst e;exact hc
     . exact hk k h (by omega))
    refine⟨m,a1,a2,a3,(xak ?_).trans a4⟩;simp only[xdc,xhn,xiV,sBU,i1,hi,gf,cP0,cP1,lP,sP,sP0,sP1,rc,tl,m1,m2,xL0 (n:=i) (by omega),aggP]
    rw[List.take_add_one,ze hi,zx];rfl
  . rw[decide_eq_false hc]at rc;refine⟨i,by omega,hk,λ _=>hc,xac ?_⟩
    simp only[xdc,xhn,xiV,sBU,i1,hi,gf,cP0,cP1,lP,sP,sP0,sP1,rc]
def xGV(P:List Per)(hP:P.length<=1099511627775)(p:Per)(hs:Sorted cmpP P):∃P':List Per,xpa (P.map encP) p.1 p.2=some (P'.map encP)/\P'.Perm (p::P)/\Sorted cmpP P':=by
 obtain⟨m,a1,a2,a3,a4⟩:=xAI P hP p P.length 0 Ω (λ k h h1=>by omega);refine⟨P.take m++p::P.drop m,?_,?_,?_⟩;have a4:Iter (xdc (P.map encP)) ((0:Nat),(0:Int),p.1,p.2,[])=_:=a4;have tl:(P.take m).length=m:=by rw[zt];omega
 obtain⟨m1,m2,_,_⟩:=xMA (n:=m) Ω;have i1:(m:Int)<=(P.length:Int):=Ω
 have t1:List.take (P.length - m) (List.drop m (P.map encP))=(P.drop m).map encP:=by rw[zi Ψ,List.map_drop]
 have dl:(P.drop m).length=P.length - m:=y3;have m3:(m+1+(P.length - m))*16<=140737488355328:=Ω
 have m4:m+1+(P.length - m)<=4611686018427387904:=Ω
 have J:(P.take m).map encP++[encP p]++(P.drop m).map encP=(P.take m++p::P.drop m).map encP:=by simp
 have fl:((P.take m++p::P.drop m).map encP).length=m+1+(P.length - m):=by simp;omega
 have tt:List.take (m+1+(P.length - m)) ((P.take m++p::P.drop m).map encP)=(P.take m++p::P.drop m).map encP:=zi (by rw[fl];exact zd _);have ag:AV.agg [.int .i64 p.1,.int .i64 p.2]=encP p:=rfl;unfold xpa xpP;simp only[xjf,xoO,xoP,xjg,xoQ,xce,xn1,a4,sBU,ag,tl,t1,dl,m1,m2,m3,m4,i1,z8,zj,J,zd,zr];have l9:m+(p::P.drop m).length=m+1+(P.length - m):=by rw[zF,dl];omega
 simp only[za,l9,zd,zn,xab,tt,sUF];exact List.perm_middle.trans (by rw[List.take_append_drop]);refine List.pairwise_append.2 ⟨hs.sublist (List.take_sublist _ _),zM.2 ⟨λ q hq=>?_,hs.sublist (List.drop_sublist _ _)⟩,λ x hx y hy=>?_⟩;obtain⟨j,hj,rfl⟩:=zp.1 hq;rw[y3]at hj;rw[List.getElem_drop];have h1:=a3 Ω;have h2:cmpP p P[m]<=0:=by rw[xrr P[m] p];omega
 rcases Nat.eq_zero_or_pos j with rfl|O;exact h2;exact xGf.trans _ _ _ h2 (zB.1 hs m (m+j) Ω Ω Ω);obtain⟨i,hi,rfl⟩:=List.mem_take_iff_getElem.1 hx;rcases zC.1 hy with rfl|hy;exact a2 i Ω Ω;obtain⟨j,hj,rfl⟩:=zp.1 hy;rw[y3]at hj;rw[List.getElem_drop];exact zB.1 hs i (m+j) Ω Ω Ω
def xCN(l:List AV)(n:Int)(s:List Per)(hs:s.length<=1048576):∀(d i:Nat)(out:List Per),i+d=s.length->Sorted cmpP out->out.length+d<=1099511627775->∃q:List Per,Iter (xc0 l n (s.map encP)) (out.map encP,(i:Int))=some (q.map encP)/\q.Perm (out++s.drop i)/\Sorted cmpP q|0,i,out,h,ho,hl=>(by(obtain rfl:i=s.length:=Ω);refine⟨out,xac ?_,by rw[zq (zd _),zD],ho⟩;simp only[xc0,xiU,za,zy,zm,xae,sUF])|d+1,i,out,h,ho,hl=>by(have hi:i<s.length:=Ω);(have i1:(i:Int)<(s.length:Int):=Ω);have gf:(s.map encP).getD i .top=encP s[i]:=xad _ _ _ hi;obtain⟨P',e1,p1,s1⟩:=xGV out Ω s[i] ho;have pl:=p1.length_eq;rw[zF]at pl;obtain⟨q,e2,p2,s2⟩:=xCN l n s hs d (i+1) P' Ω s1 Ω;refine⟨q,(xak (s':=(P'.map encP,((i+1:Nat):Int))) ?_).trans e2,?_,s2⟩;simp only[xc0,xiU,sBU,i1,hi,gf,cP0,cP1,lP,sP,sP0,sP1,e1,xL0 (n:=i) Ω];refine p2.trans ((p1.append_right _).trans ?_);rw[xaP hi];exact List.perm_middle.symm
def xCM(A:Nat->List Per)(C:Nat)(hC:C<=524289)(hA:∀k,xfn (S.map encP) ((k+1:Nat):Int)=some ((A k).map encP)/\(A k).length<=C)(H:Nat)(hH:H<=1048575)(hE:A H=[]):∀(d k:Nat)(out:List Per),k+d=H->Sorted cmpP out->out.Perm ((List.range k).flatMap A)->∃(K:Nat)(q:List Per),Iter (xcx (S.map encP)) (out.map encP,((k+1:Nat):Int))=some (true,(q.map encP,q.map encP),[])/\A K=[]/\K<=H/\q.Perm ((List.range K).flatMap A)/\Sorted cmpP q|d,k,out,h,ho,hp=>by(obtain⟨e1,l1⟩:=hA k;have n1:((k+1:Nat):Int)<=1048576:=Ω);by_cases hk:A k=[];refine⟨k,out,xac ?_,hk,by omega,hp,ho⟩;rw[hk]at e1;simp only[xcx,xiT,n1,e1,zn,xab,zk,zh,zW,sUF];rfl;match d,h with
 |0,h=>(obtain rfl:k=H:=Ω);exact absurd hE hk
 |d+1,h=>
 have ol:out.length<=C*k:=by rw[hp.length_eq];have:=xk2 (g:=A) (List.range k) λ j _=>(hA j).2;rwa [List.length_range]at this
 have J:C*k<=524289*1048575:=Nat.mul_le_mul hC Ω;obtain⟨q,e2,p2,s2⟩:=xCN (S.map encP) ((k+1:Nat):Int) (A k) Ω (A k).length 0 out Ω ho Ω;obtain ⟨K,o2,e3,k1,k2,p3,s3⟩:=xCM A C hC hA H hH hE d (k+1) q Ω s2 (by
  rw [List.range_succ,List.flatMap_append];rw [zr] at p2;refine p2.trans ((hp.append_right _).trans ?_);simp)
 refine⟨K,o2,(xak ?_).trans e3,k1,k2,p3,s3⟩;have ne:(((A k).length:Int)==0)=false:=by have:(A k).length≠0:=λ e=>hk (List.length_eq_zero_iff.1 e);simp;exact hk
 have e2:Iter (xc0 (S.map encP) ((k+1:Nat):Int) ((A k).map encP)) (out.map encP,(0:Int))=_:=e2;simp only[xcx,xiT,n1,e1,zn,xab,xae,zk,zh,za,ne,e2,xL0 (n:=k+1) Ω,sUF]
def xDU{N:Int->Nat}{H:Nat}(hH:H<=1048575)(hN:∀t,N t<=H)(h0:∀t,t<0\/1099511627776<=t->N t=0)(hS:StepI (λ t=>(N t:Int)) 1099511627776 S)(hl:S.length<=524289):∃P,xe9 (S.map encP)=some (P.map encP)/\IsLevs N P:=by
 have ha:=xJr h0 hS hl;have hA:=λ k=>Classical.choose_spec (ha k);obtain⟨A,q⟩:∃A:Nat->List Per,A=λ k=>Classical.choose (ha k):=⟨_,rfl⟩;have hA:∀k,xfn (S.map encP) ((k+1:Nat):Int)=some ((A k).map encP)/\(IsSpan (A k)/\∀t,inL (A k) t=decide (k<N t))/\(A k).length<=S.length:=λ k=>by rw[q];exact hA k
 have hE:A H=[]:=xs8 (hA H).2.1.1 λ t=>by rw[(hA H).2.1.2];have:=hN t;simp;omega
 obtain⟨K,P,e,k1,k2,p1,s1⟩:=xCM A S.length hl (λ k=>⟨(hA k).1,(hA k).2.2⟩) H hH hE H 0 [] Ω List.Pairwise.nil Ψ;refine⟨P,?_,s1,A,K,λ t=>?_,λ k=>(hA k).2.1,p1⟩;have e:Iter (xcx (S.map encP)) ([],(1:Int))=_:=e;unfold xe9 xoN;simp only[xkA,e,zk,zh,xab,sUF];have:=(hA K).2.1.2 t;rw[k1,xhH]at this;have:=of_decide_eq_false this.symm;omega
def xtT{r:Row}(h:∀v,v∈r->v.wf/\v.t.length<=1073741824)(hl:r.length<=60):(keyOf r).length<=17592186044416:=by(have:=xk2 (g:=keyV) (c:=1073741890) r λ v hv=>by obtain⟨h1,h2⟩:=h v hv;have:=xAr h1 Ω;omega);unfold keyOf;have h2:1073741890*r.length<=1073741890*60:=Nat.mul_le_mul_left _ hl;omega
variable {Q:Row->Prop}
def xL8.all{l B:List Fc}(h:xL8 l B)(hq:∀f,f∈l->Q f.r):∀f,f∈B->Q f.r:=λ f hf=>by obtain⟨_,g,hg,e⟩:=h.valid hf;rw[<-e];exact hq g hg
def xMf.all{l B:List Fc}(h:xMf l B)(hq:∀f,f∈l->Q f.r):∀f,f∈B->Q f.r:=λ f hf=>by obtain⟨R,L,h1,h2,rfl⟩:=h;obtain⟨a,b⟩:=xnd hf;obtain⟨g,g1,g2,_⟩:=(h1.2 _).1 a;rw[<-g2];exact hq g g1
def xMf.len{l B:List Fc}(h:xMf l B):B.length<=l.length*l.length:=by obtain⟨R,L,h1,h2,rfl⟩:=h;refine xtW (h1.1.nodup xmN) λ r hr=>?_;(obtain⟨a,b⟩:=h2 r hr;have:=xyd (ps:=psOf l r) (k:=0) a λ t=>by rw[b,xsj]);exact Nat.le_trans this (Nat.le_mul_self _)
def dk(S:List Row):Nat->List Row|0=>[]|k+1=>dk S k++(if k=0\/S[k - 1]?≠S[k]? then S[k]?.toList else[])
def xAa(S:List Row):∀k,(dk S k).length<=k|0=>zd _|k+1=>by(have:=xAa S k;unfold dk;rw[z8];have:(if k=0\/S[k - 1]?≠S[k]? then S[k]?.toList else[]).length<=1:=by split;cases S[k]?<;>simp;simp);omega
def xHA(S:List Row)(hs:Sorted cmpR S):∀k,k<=S.length->Strict cmpR (dk S k)/\∀x,x∈dk S k↔x∈S.take k
 |0,_=>⟨List.Pairwise.nil,λ x=>by simp[dk]⟩
 |k+1,hk=>by
  obtain⟨h1,h2⟩:=xHA S hs k (by omega)
  have J:k<S.length:=by omega
  have tk:S.take (k+1)=S.take k++[S[k]]:=by rw[List.take_add_one,ze J];rfl
  unfold dk;rw[ze J,tk];by_cases hc:k=0\/S[k - 1]?≠some S[k]
  . rw[if_pos hc];refine⟨List.pairwise_append.2 ⟨h1,List.pairwise_singleton _ _,λ x hx y hy=>?_⟩,λ x=>by rw[zG,zG,h2];rfl⟩
    simp at hy;subst hy;obtain⟨i,hi,rfl⟩:=List.mem_take_iff_getElem.1 ((h2 x).1 hx);have O:k≠0:=by omega
    have q:k - 1<S.length:=by omega
    have hne:S[k - 1]≠S[k]:=λ e=>by
     rcases hc with hc|hc
     . exact O hc
     . exact hc (by rw[ze q,e])
    have c1:cmpR S[k - 1] S[k]<=0:=zB.1 hs _ _ q J (by omega)
    have c2:cmpR S[k - 1] S[k]<0:=by
     rcases Int.lt_or_eq_of_le c1 with c|c
     . exact c
     . exact absurd (xjD c) hne
    rcases zJ i (k - 1)with Q|Q
    . have c3:cmpR S[i] S[k - 1]<=0:=zB.1 hs _ _ (by omega) q Q
      exact xmN.lt2 c3 c2
    . have:i=k - 1:=by omega
      subst this;exact c2
  . rw[if_neg hc,zD];refine⟨h1,λ x=>?_⟩
    rw[h2,zG,zv];refine⟨Or.inl,λ hh=>hh.elim id λ hx=>?_⟩
    have O:k≠0:=λ e=>hc (.inl e)
    have he:S[k - 1]?=some S[k]:=by
     by_cases e:S[k - 1]?=some S[k]
     . exact e
     . exact absurd (.inr e) hc
    have q:k - 1<S.length:=by omega
    rw[ze q,z6]at he;rw[hx,<-he];exact List.mem_take_iff_getElem.2 ⟨k - 1,by omega,rfl⟩
def xMV{n:Nat}(h:n<=1048576):(n+1)*24<=140737488355328/\n+1<=4611686018427387904:=Ω
def xBs(S:List Row)(hS:S.length<=1048576)(hr:∀x,x∈S->x.length<=maxLen):Iter (xcn (S.map encR)) ((0:Nat),(0:Int),[])=some ((dk S S.length).length,(dk S S.length).map encR):=by
 refine xjM (λ k=>(((dk S k).length,((k:Nat):Int),(dk S k).map encR):Nat×Int×List AV)) S.length _ (λ k hk=>?_) ?_ S.length 0 Ω;have i1:(k:Int)<(S.length:Int):=Ω
 have gf:(S.map encR).getD k .top=encR S[k]:=xad _ _ _ hk;have dl:=xAa S k;obtain⟨m1,m2⟩:=xMV (n:=(dk S k).length) Ω;cases k with|zero=>(have:dk S (0+1)=[S[0]]:=by simp[dk,ze hk]);rw[this];have i0:(((0:Nat):Int)==0):=rfl;simp only[xcn,xfA,xeO,xgU,sBU,hk,i0,i1,gf,cR0,sR0,m1,m2,xL0 (n:=0) Ω];rfl|succ j=>(have hj:j<S.length:=Ω);(have i0:(((j+1:Nat):Int)==0)=false:=by simp;omega);(have i2:(j:Int)<(S.length:Int):=Ω);(have gj:(S.map encR).getD j .top=encR S[j]:=xad _ _ _ hj;have ee:=xKv S[j] S[j+1] (hr _ (zo hj));have wj:IntKind.i64.wrap (((j+1:Nat):Int) - 1)=(j:Int):=by rw[xaO Ω Ω];omega);(have sd:dk S (j+1+1)=dk S (j+1)++(if S[j]=S[j+1]then[]else[S[j+1]]):=by show dk S (j+1)++_=_;congr 1;rw[show j+1 - 1=j by omega,ze hj,ze hk];by_cases e:S[j]=S[j+1];simp[e];simp[e]);rw[sd];simp only[xcn,xfA,xeO,xgU,sBU,hk,hj,i0,i1,i2,gf,gj,cR0,sR0,ee,wj,cmp0,m1,m2,xL0 (n:=j+1) Ω];by_cases e:S[j]=S[j+1];simp[e,xae,sUF];simp[e,xab,encR,sUF]
 simp only[xcn,xfA,xeO,za,zy,zm,xae,sUF]
def xBt(l:List Row)(h:xMq l):∃D,xoR (l.map encR)=some (D.map encR)/\Strict cmpR D/\(∀x,x∈D↔x∈l)/\D.length<=l.length:=by obtain⟨S,e1,p1,s1⟩:=xHd l h;have hS:=h.perm p1;obtain⟨a1,a2⟩:=xHA S s1 S.length (zd _);have e2:=xBs S hS.1 (λ x hx=>by have:=hS.2 x hx;unfold maxLen;omega);refine⟨dk S S.length,?_,a1,λ x=>by rw[a2,y6,p1.mem_iff],by rw[<-p1.length_eq];exact xAa _ _⟩;have tt:List.take (dk S S.length).length ((dk S S.length).map encR)=(dk S S.length).map encR:=zi Ψ;unfold xoR xmx;simp only[xgC,e1,e2,zk,zh,xab,zH,za,zd,zn,zS,zr,tt,sUF]
def cF(f g:Fc):Int:=cmpR f.r g.r
def xGe:Cm cF:=xmN.on (e:=λ f:Fc=>f.r)
def xDm(a b:List Fc)(ha:a.length+b.length<=1048576)(Z:∀x,x∈a->x.r.length<=1048576)(W:∀x,x∈b->x.r.length<=1048576)(sa:Sorted cF a)(sb:Sorted cF b):∀(n i k:Nat)(D:List Fc),(a.length - i)+(b.length - k)=n->i<=a.length->k<=b.length->D.length=i+k->∃r,Iter (xbG (List.map encF a) (List.map encF b)) (D.length,(i:Int),(k:Int),List.map encF D)=some (a.length+b.length,List.map encF (D++r))/\r.Perm (a.drop i++b.drop k)/\Sorted cF r:=by intro n;induction n with|zero=>(intro i k D hn hi hk hD;have h1:¬ (i:Int)<(a.length:Int):=Ω);(have h2:¬ (k:Int)<(b.length:Int):=Ω);refine⟨[],xac ?_,?_,by simp[Sorted]⟩;simp only[xbG,xej,xdg,xdh,xdi,xeR,xeS,xeT,  za,xaH,h1,h2,zm,zT,if_false,zD,sUF];rw[show D.length=a.length+b.length by omega];rw[zq Ω,zq Ω];exact List.Perm.refl _|succ n ih=>
 intro i k D hn hi hk hD;have Y:(List.map encF D).length=D.length:=by simp
 have m1:(D.length+1)*40<=140737488355328:=Ω
 have m2:D.length+1<=4611686018427387904:=Ω
 have snoc:∀x:Fc,List.map encF D++[AV.agg [AV.list 3 (x.r.map encV),AV.int .i64 x.p.1,AV.int .i64 x.p.2]]=List.map encF (D++[x]):=λ x=>by simp[encF]
 have wi:=xjX (n:=i) (show i+1<=maxLen by unfold maxLen;omega);have wk:=xjX (n:=k) (show k+1<=maxLen by unfold maxLen;omega);by_cases J:i<a.length;have i1:(i:Int)<(a.length:Int):=Ω
 have i2:((i:Int)==(a.length:Int))=false:=by simp;omega
 have hx:a[i]?=some a[i]:=by simp[J]
 by_cases q:k<b.length;have k1:(k:Int)<(b.length:Int):=Ω
 have hy:b[k]?=some b[k]:=by simp[q]
 have e:=xqB b[k].r a[i].r (by have:=W b[k] (zo q);unfold maxLen;omega);by_cases hc:cmpR b[k].r a[i].r<0;obtain⟨r,h1,h2,h3⟩:=ih i (k+1) (D++[b[k]]) Ω hi Ω (by simp;omega);refine⟨b[k]::r,?_,?_,?_⟩;refine xaM (s':=((D++[b[k]]).length,(i:Int),((k+1:Nat):Int),List.map encF (D++[b[k]]))) ?_ (by rw[h1];simp);simp only[xbG,xej,xdg,xdh,xdi,xeR,xeS,xeT,  za,xaH,i1,i2,k1,J,q,zn,zT,if_false,if_true,zN,gR hx,gR hy,cF0,cF1,cF2,sF0,sF1,sF2,lF,sF12,sF02,e,zk,zh,hc,Int.natCast_nonneg,zS,beq_self_eq_true,m1,m2,snoc,wk,sUF];simp;rw[xaP q];exact(h2.cons _).trans List.perm_middle.symm;refine zM.2 ⟨λ z hz=>?_,h3⟩;rcases zG.1 (h2.mem_iff.1 hz)with hz|hz;rw[xaP J]at hz;rcases zC.1 hz with rfl|hz;exact Int.le_of_lt hc;obtain⟨j,hj,rfl⟩:=zp.1 hz;have Q:i+1+j<a.length:=by simp at hj;omega
 have:=xbt sa (i:=i) (j:=i+1+j) Ω Q;rw[List.getElem_drop];exact xGe.trans _ _ _ (Int.le_of_lt hc) this;obtain⟨j,hj,rfl⟩:=zp.1 hz;have O:k+1+j<b.length:=by simp at hj;omega
 rw[List.getElem_drop];exact xbt sb (i:=k) (j:=k+1+j) Ω O;obtain⟨r,h1,h2,h3⟩:=ih (i+1) k (D++[a[i]]) Ω Ω hk (by simp;omega);refine⟨a[i]::r,?_,?_,?_⟩;refine xaM (s':=((D++[a[i]]).length,((i+1:Nat):Int),(k:Int),List.map encF (D++[a[i]]))) ?_ (by rw[h1];simp);simp only[xbG,xej,xdg,xdh,xdi,xeR,xeS,xeT,  za,xaH,i1,i2,k1,J,q,zn,zT,if_false,if_true,zN,gR hx,gR hy,cF0,cF1,cF2,sF0,sF1,sF2,lF,sF12,sF02,e,zk,zh,hc,zm,Int.natCast_nonneg,zS,beq_self_eq_true,m1,m2,snoc,wi,sUF];simp;rw[xaP J];exact h2.cons _;refine zM.2 ⟨λ z hz=>?_,h3⟩;have V:cF a[i] b[k]<=0:=xGe.ord.le_of_not hc;rcases zG.1 (h2.mem_iff.1 hz)with hz|hz;obtain⟨j,hj,rfl⟩:=zp.1 hz;have Q:i+1+j<a.length:=by simp at hj;omega
 rw[List.getElem_drop];exact xbt sa (i:=i) (j:=i+1+j) Ω Q;rw[xaP q]at hz;rcases zC.1 hz with rfl|hz;exact V;obtain⟨j,hj,rfl⟩:=zp.1 hz;have O:k+1+j<b.length:=by simp at hj;omega
 rw[List.getElem_drop];exact xGe.trans _ _ _ V (xbt sb (i:=k) (j:=k+1+j) Ω O);have k1:¬ (k:Int)<(b.length:Int):=Ω
 obtain⟨r,h1,h2,h3⟩:=ih (i+1) k (D++[a[i]]) Ω Ω hk (by simp;omega);refine⟨a[i]::r,?_,?_,?_⟩;refine xaM (s':=((D++[a[i]]).length,((i+1:Nat):Int),(k:Int),List.map encF (D++[a[i]]))) ?_ (by rw[h1];simp);simp only[xbG,xej,xdg,xdh,xdi,xeR,xeS,xeT,  za,xaH,i1,i2,k1,J,zn,zm,zT,if_false,if_true,zN,gR hx,cF0,cF1,cF2,sF0,sF1,sF2,lF,sF12,sF02,Int.natCast_nonneg,zS,beq_self_eq_true,m1,m2,snoc,wi,sUF];simp;rw[xaP J];exact h2.cons _;refine zM.2 ⟨λ z hz=>?_,h3⟩;rw[zq (show b.length<=k by omega),zD]at h2;obtain⟨j,hj,rfl⟩:=zp.1 (h2.mem_iff.1 hz);have Q:i+1+j<a.length:=by simp at hj;omega
 rw[List.getElem_drop];exact xbt sa (i:=i) (j:=i+1+j) Ω Q;have i1:¬ (i:Int)<(a.length:Int):=Ω
 have q:k<b.length:=Ω
 have k1:(k:Int)<(b.length:Int):=Ω
 have i2:((i:Int)==(a.length:Int)):=by simp;omega
 have hy:b[k]?=some b[k]:=by simp[q]
 obtain⟨r,h1,h2,h3⟩:=ih i (k+1) (D++[b[k]]) Ω hi Ω (by simp;omega);refine⟨b[k]::r,?_,?_,?_⟩;refine xaM (s':=((D++[b[k]]).length,(i:Int),((k+1:Nat):Int),List.map encF (D++[b[k]]))) ?_ (by rw[h1];simp);simp only[xbG,xej,xdg,xdh,xdi,xeR,xeS,xeT,  za,xaH,i1,i2,k1,q,zn,zm,zT,if_false,if_true,zN,gR hy,cF0,cF1,cF2,sF0,sF1,sF2,lF,sF12,sF02,Int.natCast_nonneg,zS,beq_self_eq_true,m1,m2,snoc,wk,sUF];simp;rw[xaP q];exact(h2.cons _).trans List.perm_middle.symm;refine zM.2 ⟨λ z hz=>?_,h3⟩;rw[zq (show a.length<=i by omega),zU]at h2;obtain⟨j,hj,rfl⟩:=zp.1 (h2.mem_iff.1 hz);have O:k+1+j<b.length:=by simp at hj;omega
 rw[List.getElem_drop];exact xbt sb (i:=k) (j:=k+1+j) Ω O
def xDn(a b:List Fc)(ha:a.length+b.length<=1048576)(q:∀x,x∈a->x.r.length<=1048576)(J:∀x,x∈b->x.r.length<=1048576)(sa:Sorted cF a)(sb:Sorted cF b):∃r,xq6 (a.map encF) (b.map encF)=some (r.map encF)/\r.Perm (a++b)/\Sorted cF r:=by(obtain⟨r,h1,h2,h3⟩:=xDm a b ha q J sa sb _ 0 0 [] rfl (zQ _) (zQ _) rfl;simp only[zr,zU]at h1 h2;have h1':Iter (xbG (a.map encF) (b.map encF)) (0,(0:Int),(0:Int),[])=some (r.length,r.map encF):=by rw[h2.length_eq,z8];exact h1);refine⟨r,?_,h2,h3⟩;unfold xq6 xoX;simp only[xh8,xn9,h1',sOO,sUF]
def xBw:∀(f:Nat)(l:List Fc),l.length<=2 ^ f->Few l->∃r,xcg (f+1) (List.map encF l)=some (List.map encF r)/\r.Perm l/\Sorted cF r:=by intro f;induction f with|zero=>((intro l hl hs;have h1:(l.length:Int)<2:=by simp at hl;omega);refine⟨l,?_,List.Perm.refl _,?_⟩;show xc3 (xcg 0) (List.map encF l)=_;simp only[xc3,xgi,za,h1,zn,xab,sUF];match l,hl with|[],_=>exact List.Pairwise.nil|[x],_=>exact List.pairwise_singleton _ _)|succ f ih=>
 intro l hl hs;by_cases h2:l.length<=1;have h1:(l.length:Int)<2:=Ω
 refine⟨l,?_,List.Perm.refl _,?_⟩;show xc3 (xcg (f+1)) (List.map encF l)=_;simp only[xc3,xgi,za,h1,zn,xab,sUF];match l,h2 with|[],_=>exact List.Pairwise.nil|[x],_=>exact List.pairwise_singleton _ _
 have hp:2 ^ (f+1)=2*2 ^ f:=by rw[Nat.pow_succ];omega
 have q:=hs.1;obtain⟨m,hm⟩:∃m,m=l.length / 2:=⟨_,rfl⟩;have st:Few (l.take m):=⟨by simp;omega,λ x hx=>hs.2 x (List.mem_of_mem_take hx)⟩;have sd:Few (l.drop m):=⟨by simp;omega,λ x hx=>hs.2 x (List.mem_of_mem_drop hx)⟩;obtain⟨r1,e1,p1,s1⟩:=ih (l.take m) (by simp;omega) st;obtain⟨r2,e2,p2,s2⟩:=ih (l.drop m) (by simp;omega) sd;have l1:=p1.length_eq;have l2:=p2.length_eq;simp only[zt,y3]at l1 l2;obtain⟨r,a1,a3,a4⟩:=xDn r1 r2 Ω (λ x hx=>st.2 x (p1.mem_iff.1 hx)) (λ x hx=>sd.2 x (p2.mem_iff.1 hx)) s1 s2;refine⟨r,?_,a3.trans ((p1.append p2).trans (by rw[List.take_append_drop])),a4⟩;have w:IntKind.i64.wrap ((l.length:Int).tdiv 2)=(m:Int):=by rw[Int.tdiv_eq_ediv_of_nonneg Ω];exact w64 Ω Ω
 have t1:List.take m (List.map encF l)=List.map encF (l.take m):=by simp
 have t2:List.take (l.length - m) (List.drop m (List.map encF l))=List.map encF (l.drop m):=by rw[zi Ψ];simp
 have d0:¬ (l.length:Int)<2:=Ω
 have d2:(m:Int)<=(l.length:Int):=Ω
 show xc3 (xcg (f+1)) (List.map encF l)=_;simp only[xc3,xgi,xm1,xm2,xm3,  za,d0,xae,w,zN,Nat.sub_zero,zr,t1,t2,e1,e2,zk,zh,xab,d2,zn,zm,Int.natCast_nonneg,zS,a1,sUF]
def xHc(l:List Fc)(h:Few l):∃D,xqn (l.map encF)=some (D.map encR)/\xMi l D:=by
 have e0:=xt8 l h.1;have hf:(l.flatMap λ f=>if pv f.p then[f.r]else[]).length<=1*l.length:=xk2 l λ f _=>by split<;>simp
 have hm:∀x,x∈(l.flatMap λ f=>if pv f.p then[f.r]else[])↔∃f,f∈l/\f.r=x/\pv f.p:=λ x=>by rw[y5];constructor;rintro⟨f,hf,hx⟩;split at hx;simp at hx;exact⟨f,hf,hx.symm,by assumption⟩;simp at hx;rintro⟨f,hf,e,hv⟩;exact⟨f,hf,by rw[if_pos hv];simp[e]⟩
 have q:xMq (l.flatMap fun f=>if pv f.p then [f.r] else []):=⟨by have:=h.1;omega,fun x hx=>by
  obtain ⟨f,hf,e,_⟩:=(hm x).1 hx;rw [<-e];exact h.2 f hf⟩
 obtain⟨D,d1,d2,d3,d4⟩:=xBt _ q;refine⟨D,?_,d2,λ r=>by rw[d3,hm]⟩;generalize (l.flatMap λ f=>if pv f.p then[f.r]else[])=w at e0 d1;have tt:List.take w.length (w.map encR)=w.map encR:=zi Ψ;unfold xqn xq5;simp only[xpU,xj0,e0,zk,zh,xab,zH,za,zd,zn,zS,zr,tt,d1,sUF]
def xCP(S:List Fc)(hS:S.length<=1048576)(hr:∀f,f∈S->f.r.length<=maxLen)(on i:Nat)(hi:i<S.length)(xs:List AV):∀(d k:Nat),k+d=S.length->i<=k->∃j:Nat,k<=j/\j<=S.length/\(∀t(h:t<S.length),k<=t->t<j->S[t].r=S[i].r)/\(∀h:j<S.length,S[j].r≠S[i].r)/\
  Iter (xcf (S.map encF) on (i:Int)) ((k:Int),xs)=some ((j:Int),xs)
 |0,k,h,hik=>by
  obtain rfl:k=S.length:=by omega
  refine⟨S.length,zd _,zd _,λ t h1 h2 h3=>by omega,λ h=>by omega,xac ?_⟩
  simp only[xcf,xgD,za,zy,zm,xae,sUF]
 |d+1,k,h,hik=>by
  have hk:k<S.length:=by omega
  have i1:(k:Int)<(S.length:Int):=by omega
  have i2:(i:Int)<(S.length:Int):=by omega
  have gk:(S.map encF).getD k .top=encF S[k]:=xad _ _ _ hk;have gi:(S.map encF).getD i .top=encF S[i]:=xad _ _ _ hi;have ec:=xqB S[k].r S[i].r (hr _ (zo hk));by_cases he:S[k].r=S[i].r
  . obtain⟨j,a1,a2,a3,a4,a5⟩:=xCP S hS hr on i hi xs d (k+1) (by omega) (by omega)
    refine⟨j,by omega,a2,λ t h1 h2 h3=>?_,a4,(xak (s':=(((k+1:Nat):Int),xs)) ?_).trans a5⟩
    . by_cases q:t=k
      . subst q;exact he
      . exact a3 t h1 (by omega) h3
    . have dd:decide (S[k].r=S[i].r)=true:=decide_eq_true he;simp only[xcf,xgD,sBU,i1,i2,hk,hi,gk,gi,cF0,cF1,cF2,sF0,sF1,sF2,lF,sF12,sF02,ec,cmp0,dd,xL0 (n:=k) (by omega)]
  . refine⟨k,zd _,by omega,λ t h1 h2 h3=>by omega,λ _=>he,xac ?_⟩
    simp only[xcf,xgD,sBU,i1,i2,hk,hi,gk,gi,cF0,cF1,cF2,sF0,sF1,sF2,lF,sF12,sF02,ec,cmp0,he,zm]
structure RGI (S:List Fc) (i:Nat) (G:List Grp):Prop where
 st:Strict cmpR (G.map (·.1))
 mem:∀r,r∈G.map (·.1)↔∃f,f∈S.take i/\f.r=r/\pv f.p
 ps:∀g,g∈G->StepI (λ t=>((cnt S g.1 t:Nat):Int)) 1099511627776 g.2/\g.2.length<=2*S.length+1
 len:G.length<=i
 bd:∀a b(ha:a<S.length)(hb:b<S.length),a<i->i<=b->cmpR S[a].r S[b].r<0
def xMW{n:Nat}(h:n<=1048576):(n+1)*48<=140737488355328/\n+1<=4611686018427387904:=Ω
def xyM(S:List Fc)(hS:S.length<=262144)(hr:∀f,f∈S->f.r.length<=1048576)(hs:Sorted cF S):∀(c i:Nat)(G:List Grp),S.length - i<=c->i<=S.length->RGI S i G->
  ∃G',Iter (xd1 (S.map encF)) (G.length,(i:Int),G.map encG)=some (G'.length,G'.map encG)/\RGI S S.length G'
 |c,i,G,hc,hi,hG=>by
  by_cases af:i=S.length
  . subst af;refine⟨G,xac ?_,hG⟩;simp only[xd1,xiZ,za,zy,zm,xae,sUF]
  . have O:i<S.length:=by omega
    obtain⟨j,a1,a2,a3,a4,a5⟩:=xCP S (by omega) (λ f hf=>by have:=hr f hf;unfold maxLen;omega) G.length i O (G.map encG) (S.length - i) i (by omega) (zd _)
    have aa:i<j:=by
     rcases zJ i j with h|h
     . exact h
     . obtain rfl:j=i:=by omega
       exact absurd rfl (a4 O)
    have run_mem:∀f,f∈(S.drop i).take (j - i)↔∃t,∃h:t<S.length,i<=t/\t<j/\S[t]=f:=λ f=>by
     rw[List.mem_take_iff_getElem];constructor
     . rintro⟨m,hm,rfl⟩;rw[y3]at hm;exact⟨i+m,by omega,by omega,by omega,by rw[List.getElem_drop]⟩
     . rintro⟨t,h,h1,h2,rfl⟩;refine⟨t - i,by rw[y3];omega,?_⟩
       rw[List.getElem_drop];congr 1;omega
    have run_row:∀f,f∈(S.drop i).take (j - i)->f.r=S[i].r:=λ f hf=>by
     obtain⟨t,h,h1,h2,rfl⟩:=(run_mem f).1 hf;exact a3 t h h1 h2
    have Y:S.take j=S.take i++(S.drop i).take (j - i):=by
     rw[show j=i+(j - i) by omega,List.take_add,Nat.add_sub_cancel_left]
    have Q:S=S.take i++((S.drop i).take (j - i)++S.drop j):=by
     rw[<-zw,<-Y,List.take_append_drop]
    have rl:((S.drop i).take (j - i)).length=j - i:=by rw[zt,y3];omega
    have q:∀f,f∈S.take i->cmpR f.r S[i].r<0:=λ f hf=>by
     obtain⟨t,ht,rfl⟩:=List.mem_take_iff_getElem.1 hf;exact hG.bd t i (by omega) O (by omega) (zd _)
    have J:∀t(h:t<S.length),j<=t->cmpR S[i].r S[t].r<0:=λ t h ah=>by
     have hj:j<S.length:=by omega
     have c1:cmpR S[i].r S[j].r<=0:=zB.1 hs i j O hj aa;have c2:cmpR S[i].r S[j].r<0:=by
      rcases Int.lt_or_eq_of_le c1 with c|c
      . exact c
      . exact absurd (xjD c).symm (a4 hj)
     rcases zJ j t with h1|h1
     . have c3:cmpR S[j].r S[t].r<=0:=zB.1 hs j t hj h h1;exact xmN.lt1 c2 c3
     . obtain rfl:t=j:=by omega
       exact c2
    have no_other:∀(l:List Fc)(ρ:Row)(t:Int),(∀f,f∈l->f.r≠ρ)->cnt l ρ t=0:=λ l ρ t h=>by
     unfold cnt;rw[List.countP_eq_zero];intro f hf hh;simp only[zf,zl]at hh;exact h f hf hh.1
    have ne_of:∀x y:Row,cmpR x y<0->x≠y:=λ x y h e=>by subst e;rw[xtM]at h;omega
    have Z:∀t,cnt ((S.drop i).take (j - i)) S[i].r t=cnt S S[i].r t:=λ t=>by
     have e:cnt S S[i].r t=cnt (S.take i++((S.drop i).take (j - i)++S.drop j)) S[i].r t:=by rw[<-Q]
     rw [e,xsw,xsw,no_other (S.take i) _ t (fun f hf=>ne_of _ _ (q f hf)),no_other (S.drop j) _ t (fun f hf=>by
      obtain ⟨m,hm,rfl⟩:=zp.1 hf;rw [y3] at hm;rw [List.getElem_drop];exact fun e=>ne_of _ _ (J (j+m) (by omega) (by omega)) e.symm)]
     omega
    have V:Few ((S.drop i).take (j - i)):=⟨by omega,λ f hf=>hr f (List.mem_of_mem_drop (List.mem_of_mem_take hf))⟩
    obtain⟨D,d1,d2,d3⟩:=xHc _ V;obtain⟨St,s1,s2,s3⟩:=xDK ((S.drop i).take (j - i)) S[i].r (λ f hf=>by have:=V.2 f hf;unfold maxLen;omega) (by omega)
    have s2:StepI (λ t=>((cnt S S[i].r t:Nat):Int)) 1099511627776 St:=by
     have e:(λ t=>((cnt ((S.drop i).take (j - i)) S[i].r t:Nat):Int))=λ t=>((cnt S S[i].r t:Nat):Int):=funext λ t=>by rw[Z]
     rwa [e]at s2
    have tS:List.take (j - i) (List.drop i (S.map encF))=((S.drop i).take (j - i)).map encF:=by rw[<-List.map_drop,<-List.map_take]
    have hD:D=[]\/D=[S[i].r]:=by
     match D,d2,d3 with
     |[],_,_=>exact .inl rfl
     |[x],_,h=>right;obtain⟨f,hf,e,_⟩:=(h x).1 (by simp);rw[<-e,run_row f hf]
     |x::y::t,h1,h=>
      obtain⟨f,hf,e,_⟩:=(h x).1 (by simp)
      obtain⟨g,hg,e',_⟩:=(h y).1 (by simp)
      have:cmpR x y<0:=(zM.1 h1).1 y (by simp)
      rw[<-e,<-e',run_row f hf,run_row g hg,xtM]at this;omega
    have ag:=hG.len;obtain⟨m1,m2⟩:=xMW (n:=G.length) (by omega)
    have nx:RGI S j (G++D.map λ ρ=>(ρ,St)):=by
     refine⟨?_,λ r=>?_,λ g hg=>?_,?_,λ a b ha hb ad ab=>?_⟩
     . rw[zx];refine List.pairwise_append.2 ⟨hG.st,?_,λ x hx y hy=>?_⟩
       . rcases hD with rfl|rfl
         . exact List.Pairwise.nil
         . exact List.pairwise_singleton _ _
       . obtain⟨f,hf,e,_⟩:=(hG.mem x).1 hx;rcases hD with rfl|rfl
         . simp at hy
         . simp at hy;subst hy;rw[<-e];exact q f hf
     . rw[zx,zG,hG.mem,Y];have e:r∈(D.map λ ρ=>(ρ,St)).map (·.1)↔r∈D:=by simp
       rw[e,d3];constructor
       . rintro(⟨f,hf,h⟩|⟨f,hf,h⟩)
         . exact⟨f,zG.2 (.inl hf),h⟩
         . exact⟨f,zG.2 (.inr hf),h⟩
       . rintro⟨f,hf,h⟩;rcases zG.1 hf with hf|hf
         . exact .inl ⟨f,hf,h⟩
         . exact .inr ⟨f,hf,h⟩
     . rcases zG.1 hg with hg|hg
       . exact hG.ps g hg
       . obtain⟨ρ,hρ,rfl⟩:=zK.1 hg;rcases hD with rfl|rfl
         . simp at hρ
         . simp at hρ;subst hρ;exact⟨s2,by rw[rl]at s3;dsimp only;omega⟩
     . rw[z8,za];rcases hD with rfl|rfl<;>simp<;>omega
     . rcases zJ a i with W|W
       . exact hG.bd a b ha hb W (by omega)
       . rw[a3 a ha W ad];exact J b hb ab
    obtain⟨G',e',ae⟩:=xyM S hS hr hs (c - 1) j _ (by omega) a2 nx
    refine⟨G',(xak ?_).trans e',ae⟩;have i1:(i:Int)<(S.length:Int):=by omega
    have i2:(j:Int)<=(S.length:Int):=by omega
    have i3:(i:Int)<=(j:Int):=by omega
    have ac:Iter (xd2 (S.map encF) (i:Int) (j:Int) (D.map encR)) (G.length,(0:Int),G.map encG)=some ((G++D.map λ ρ=>(ρ,St)).length,(G++D.map λ ρ=>(ρ,St)).map encG):=by
     rcases hD with rfl|rfl
     . refine xac ?_;have z:¬ (0:Int)<(([]:List AV).length:Int):=by simp
       simp only[xd2,xgE,zW,z,zm,xae,zD,sUF]
     . have z0:(0:Int)<(1:Int):=by omega
       have g0:([S[i].r].map encR).getD 0 .top=encR S[i].r:=rfl;have w1:IntKind.i64.wrap ((0:Int)+1)=1:=rfl;refine(xak (s':=((G++[(S[i].r,St)]).length,(1:Int),(G++[(S[i].r,St)]).map encG)) ?_).trans (xac ?_)
       . have l1:(([S[i].r]:List Row).length:Int)=1:=rfl;have z1:(0:Int)<=0:=by omega
         have z2:(0:Nat)<([S[i].r]:List Row).length:=by simp
         have z3:(0:Int).toNat=0:=rfl;simp only[xd2,xgE,sBU,l1,z0,z1,z2,z3,g0,cR0,sR0,i2,i3,tS,s1,m1,m2,w1];simp[encG]
       . have l1:¬ (1:Int)<(([encR S[i].r]:List AV).length:Int):=by simp
         simp only[xd2,xgE,zV,zW,l1,zm,xae,sUF]
    simp only[xd1,xiZ,xh5,xcO,sBU,i1,i2,i3,a5,tS,d1,ac]
def xDS(l:List Fc)(h:Few l)(hl:l.length<=262144):∃G:List Grp,xln (l.map encF)=some (G.map encG)/\xMi l (G.map (·.1))/\(∀g,g∈G->StepI (λ t=>((cnt l g.1 t:Nat):Int)) 1099511627776 g.2/\g.2.length<=2*l.length+1)/\G.length<=l.length:=by obtain⟨S,e1,p1,s1⟩:=xBw 99 l (Nat.le_trans h.1 (Nat.le_trans (show 1048576<=2 ^ 20 by omega) (Nat.pow_le_pow_right Ω Ω))) h;have q:=p1.length_eq;obtain⟨G,e2,hG⟩:=xyM S Ω (λ f hf=>h.2 f (p1.mem_iff.1 hf)) s1 S.length 0 [] Ω Ω ⟨List.Pairwise.nil,λ r=>by simp,λ g hg=>by simp at hg,zd _,λ a b ha hb h1 h2=>by omega⟩;refine⟨G,?_,⟨hG.st,λ r=>?_⟩,λ g hg=>?_,by rw[<-q];exact hG.len⟩;have e1:xcg 100 (l.map encF)=some (S.map encF):=e1;have e2:Iter (xd1 (S.map encF)) ((0:Nat),(0:Int),[])=_:=e2;have tt:List.take G.length (G.map encG)=G.map encG:=zi Ψ;unfold xln xoW;simp only[xh7,xn8,e1,e2,zk,zh,xab,zH,za,zd,zn,zS,zr,tt,sUF];rw[hG.mem,y6];constructor;rintro⟨f,hf,e⟩;exact⟨f,p1.mem_iff.1 hf,e⟩;rintro⟨f,hf,e⟩;exact⟨f,p1.mem_iff.2 hf,e⟩;(obtain⟨x1,x2⟩:=hG.ps g hg;have e:(λ t=>((cnt S g.1 t:Nat):Int))=λ t=>((cnt l g.1 t:Nat):Int):=funext λ t=>by rw[xz8 p1]);rw[e]at x1;exact⟨x1,by omega⟩
def xDL(row:Row)(P:List Per)(hP:P.length<=1048576):xlm (row.map encV) (P.map encP)=some ((mk row P).map encF):=by have e:=xsX row P hP;rw[xMG (λ p:Per=>(⟨row,p⟩:Fc)) P]at e;have e:Iter (xc1 (row.map encV) (P.map encP)) ((0:Nat),(0:Int),[])=some ((mk row P).length,(mk row P).map encF):=e;generalize mk row P=D at e;have tt:List.take D.length (D.map encF)=D.map encF:=zi Ψ;unfold xlm xoV;simp only[xh4,e,zk,zh,xab,zH,za,zd,zn,zS,zr,tt,sUF]
def sG0(g:Grp):xMx (Sh.list 3) ((encG g).cells.getD 0 .top):=rfl
def sG1(g:Grp):xMx (Sh.list 2) ((encG g).cells.getD 1 .top):=rfl
variable {m:Nat}
def xMT{n:Nat}(h:n<=1048576*1024)(hm:m<=1048576):(n+m)*40<=140737488355328/\n+m<=4611686018427387904:=Ω
def xG5(G:List Grp)(hG:G.length<=1024)(L:Row->List Per)(hL:∀g,g∈G->xe9 (g.2.map encP)=some ((L g.1).map encP)/\(L g.1).length<=1048576):Iter (xfi (G.map encG)) ((0:Nat),(0:Int),[])=some ((xLx (G.map (·.1)) L).length,(xLx (G.map (·.1)) L).map encF):=by
 rw[<-xvi];refine xmU G (λ g=>mk g.1 (L g.1)) encF 1048576 (λ g hg=>by unfold mk;rw[za];exact(hL g hg).2) (λ n h D hD=>?_) (λ D=>?_);have i1:(n:Int)<(G.length:Int):=Ω
 have gf:(G.map encG).getD n .top=encG G[n]:=xad _ _ _ h;obtain⟨e1,e2⟩:=hL _ (zo h);have ed:=xDL G[n].1 (L G[n].1) e2;have ml:(mk G[n].1 (L G[n].1)).length<=1048576:=by unfold mk;rw[za];exact e2
 have q:D.length<=1048576*1024:=Nat.le_trans hD (Nat.mul_le_mul_left _ Ω);obtain⟨m1,m2⟩:=xMT q ml;simp only[xfi,xlx,xkC,sBU,h,i1,gf,cG0,cGs,sG0,sG1,e1,ed,m1,m2,xL0 (n:=n) Ω,z8,zx];simp only[xfi,xlx,za,zy,zm,xae,sUF]
def xJU(l:List Fc)(r:Row)(t:Int):cnt l r t<=l.length:=List.countP_le_length
def xH4(l:List Fc)(r:Row)(t:Int)(h:t<0\/1099511627776<=t):cnt l r t=0:=by rw[<-xsj];exact xsy _ t h
def xIv(l:List Fc)(h:Few l)(hl:l.length<=1024):∃B,xrB (l.map encF)=some (B.map encF)/\xL8 l B:=by
 obtain⟨G,e1,hR,hS,O⟩:=xDS l h Ω;have lv:∀g,g∈G->∃P,xe9 (g.2.map encP)=some (P.map encP)/\IsLevs (cnt l g.1) P:=λ g hg=>by obtain⟨s1,s2⟩:=hS g hg;exact xDU (N:=cnt l g.1) (H:=l.length) Ω (xJU l g.1) (xH4 l g.1) s1 Ω
 obtain⟨L,hL⟩:=xph (R:=G.map (·.1)) (Q:=λ r P=>(∀g,g∈G->g.1=r->xe9 (g.2.map encP)=some (P.map encP))/\IsLevs (cnt l r) P) λ r hr=>by obtain⟨g,hg,rfl⟩:=zK.1 hr;obtain⟨P,p1,p2⟩:=lv g hg;refine⟨P,λ g' J e=>?_,p2⟩;obtain⟨P',q1,q2⟩:=lv g' J;rw[e]at q2;rw[q1,q2.unique p2]
 have hk:∀g,g∈G->g.1∈G.map (·.1):=λ g hg=>zK.2 ⟨g,hg,rfl⟩;have q:∀g,g∈G->(L g.1).length<=1048576:=λ g hg=>by have a:=(hL g.1 (hk g hg)).2;rw[<-xFB]at a;have b:=xwr l g.1;exact Nat.le_trans a.len (Nat.mul_le_mul (Nat.le_trans b hl) (Nat.le_trans b hl))
 have e2:=xG5 G Ω L λ g hg=>⟨(hL g.1 (hk g hg)).1 g hg rfl,q g hg⟩;refine⟨xLx (G.map (·.1)) L,?_,G.map (·.1),L,hR,λ r hr=>(hL r hr).2,rfl⟩;generalize xLx (G.map (·.1)) L=F at e2;have tt:List.take F.length (F.map encF)=F.map encF:=zi Ψ;unfold xrB xrY;simp only[xll,e1,e2,zk,zh,xab,zH,za,zd,zn,zS,zr,tt,sUF]
def xHa{B:List Fc}(h:B.length<=1048576)(hr:∀f,f∈B->f.r.length<=60):xbp (B.map encF) (B.map encF)=some true:=by have:=xub B B h (λ f hf=>by have:=hr f hf;unfold maxLen;omega);rwa [decide_eq_true rfl]at this
variable {N:Int->Int}
def StepI.at{T:Int}(h:StepI N T S)(hi:i<S.length):∀(d:Nat)(t:Int),t=S[i].1+d->t<T->(∀j(hj:j<S.length),i<j->t<S[j].1)->N t=S[i].2
 |0,t,ht,hT,_=>by
  have:=(h.mem S[i]).1 (zo hi);rw[ht,this.2.2.1];simp
 |d+1,t,ht,hT,hn=>by
  have ih:=h.at hi d (t - 1) (by omega) (by omega) (λ j hj q=>by have:=hn j hj q;omega)
  by_cases hc:N (t - 1)=N t
  . rw[<-hc,ih]
  . exfalso;have h0:=((h.mem S[i]).1 (zo hi)).1;have hm:(t,N t)∈S:=(h.mem (t,N t)).2 ⟨by simp only;omega,hT,rfl,.inr hc⟩
    obtain⟨j,hj,J⟩:=List.getElem_of_mem hm;have e1:S[j].1=t:=by rw[J]
    have q:i<j:=by
     rcases zJ i j with h'|h'
     . exact h'
     . exfalso;rcases zJ j i with h2|h2
       . have:=zB.1 h.asc j i hj hi h2;omega
       . have:i=j:=by omega
         subst this;omega
    have:=hn j hj q;omega
def StepI.first(h:StepI N 1099511627776 S):∃hp:0<S.length,S[0].1=0:=by have hm:((0:Int),N 0)∈S:=(h.mem (0,N 0)).2 ⟨by simp,by simp,rfl,.inl rfl⟩;(obtain⟨j,hj,q⟩:=List.getElem_of_mem hm;have e1:S[j].1=0:=by rw[q]);refine⟨by omega,?_⟩;have h0:=((h.mem S[0]).1 (zo Ω)).1;rcases Nat.eq_zero_or_pos j with rfl|hp;exact e1;have:=zB.1 h.asc 0 j Ω hj hp;omega
def nanC(y:Int):xg6 y=false:=by unfold xg6;simp
def cmpC(x y:Int):decide (xdP x y<0)=decide (x<y)/\(xdP x y==0)=decide (x=y):=by
 unfold xdP;rw[nanC,nanC];simp only[xae,sUF];by_cases h1:x<y;have h2:¬ x=y:=Ω
 simp[h1,h2,xab,sUF];by_cases h3:x>y;have h2:¬ x=y:=Ω
 have h3':y<x:=h3;simp[h1,h2,h3',xab,xae,sUF];have h2:x=y:=Ω
 subst h2;simp[xab,xae,sUF]
def gS{k:Nat}(h:k<S.length):(S.map encP).getD k .top=encP S[k]:=xad _ _ _ h
def xGd(S:List Per)(x:Int)(hn:S.length<=1048576)(h:S.Pairwise λ a b=>a.1<b.1):∃a:Nat,Iter (xay (S.map encP) x ((S.length:Nat):Int)) ((0:Int),((S.length:Nat):Int))=some ((a:Nat):Int)/\a<=S.length/\(∀k(hk:k<S.length),k<a->S[k].1<x)/\∀k(hk:k<S.length),a<=k->x<=S[k].1:=by
 have O:=zB.1 h;obtain⟨r,h1,a,rfl,h2,h3,h4⟩:=xsK (step:=xay (S.map encP) x ((S.length:Nat):Int)) (λ s=>∃a b:Nat,s=((a:Int),(b:Int))/\a<=b/\b<=S.length/\(∀k(hk:k<S.length),k<a->S[k].1<x)/\∀k(hk:k<S.length),b<=k->x<=S[k].1) (λ s=>(s.2 - s.1).toNat)
  (fun r=>∃ a:Nat,r=(a:Int)/\a<=S.length/\(∀ k (hk:k<S.length),k<a->S[k].1<x)/\∀ k (hk:k<S.length),a<=k->x<=S[k].1) (fun s hs=>by
   obtain⟨a,b,rfl,aa,hb,V,Q⟩:=hs;by_cases Z:a<b
   . left;have e:=xMD (i:=a) (j:=b) Ω
     have hm:(a+b) / 2<S.length:=Ω
     have g1:(a:Int)<(b:Int):=Ω
     have g2:(((a+b) / 2:Nat):Int)<(S.length:Int):=Ω
     have w:IntKind.i64.wrap ((((a+b) / 2:Nat):Int)+1)=(((a+b) / 2+1:Nat):Int):=xL0 Ω
     have J:=(cmpC S[(a+b) / 2].1 x).1;cases hc:decide (S[(a+b) / 2].1<x)with
     | true=>
      rw[hc]at J;refine⟨((((a+b) / 2+1:Nat):Int),(b:Int)),?_,⟨(a+b) / 2+1,b,rfl,by omega,hb,λ k hk Y=>?_,Q⟩,by dsimp only;omega⟩
      . simp only[xay,xbJ,xbB,xaQ,xiE,e,sBU,g1,g2,hm,gS hm,cP0,cP1,lP,sP,sP0,sP1,J,w]
      . have hc':=of_decide_eq_true hc;rcases zJ k ((a+b) / 2)with q|q
        . have:=O k _ hk hm q;omega
        . have:k=(a+b) / 2:=Ω
          subst this;exact hc'
     | false=>
      rw[hc]at J;refine⟨((a:Int),(((a+b) / 2:Nat):Int)),?_,⟨a,(a+b) / 2,rfl,by omega,by omega,V,λ k hk W=>?_⟩,by dsimp only;omega⟩
      . simp only[xay,xbJ,xbB,xaQ,xiE,e,sBU,g1,g2,hm,gS hm,cP0,cP1,lP,sP,sP0,sP1,J,w]
      . have hc':=of_decide_eq_false hc;rcases zJ ((a+b) / 2) k with q|q
        . have:=O _ k hm hk q;omega
        . have:k=(a+b) / 2:=Ω
          subst this;omega
   . right;obtain rfl:a=b:=Ω
     refine ⟨(a:Int),?_,a,rfl,hb,V,Q⟩;simp only [xay,xbJ,zy,zm,xae,sUF]) ((0:Int),((S.length:Nat):Int)) ⟨0,S.length,rfl,by omega,by omega,fun k hk Y=>by omega,fun k hk W=>by omega⟩
 exact⟨a,h1,h2,h3,h4⟩
def xvV(h:StepI N 1099511627776 S)(hl:S.length<=1048576)(h0:0<=t)(h1:t<1099511627776):xcp (S.map encP) t=some (N t):=by
 obtain⟨a,e1,ha,V,Y⟩:=xGd S t hl h.asc;obtain⟨hp,W⟩:=h.first;have Q:=zB.1 h.asc;have key:∃i:Nat,∃hi:i<S.length,xfe (S.map encP) t=some (i:Int)/\S[i].1<=t/\∀j(hj:j<S.length),i<j->t<S[j].1:=by unfold xfe xow;unfold xcR xex;simp only[xb9,xaR,za,e1,zk,zh,xab,zN,sUF];rcases zJ a S.length with q|ac;(have g1:(a:Int)<(S.length:Int):=Ω);have J:=(cmpC S[a].1 t).2;by_cases he:S[a].1=t;rw[decide_eq_true he]at J;refine⟨a,q,?_,by omega,λ j hj O=>by have:=Q a j q hj O;omega⟩;simp only[g1,q,gS q,sBU,cP0,cP1,lP,sP,sP0,sP1,xiE,J];(rw[decide_eq_false he]at J;have aa:=Y a q (zd a);have ab:0<a:=by rcases Nat.eq_zero_or_pos a with rfl|h';omega;exact h');obtain⟨m,rfl⟩:∃m,a=m+1:=⟨a - 1,by omega⟩;refine⟨m,by omega,?_,by have:=V m Ω Ω;omega,λ j hj O=>?_⟩;(have w:IntKind.i64.wrap (((m+1:Nat):Int) - 1)=(m:Int):=by rw[xaO Ω Ω];omega);simp only[g1,q,gS q,sBU,cP0,cP1,lP,sP,sP0,sP1,xiE,J,w];rcases zJ (m+1) j with h'|h';have:=Q (m+1) j q hj h';omega;(have:j=m+1:=Ω);subst this;omega;(have g1:¬ (a:Int)<(S.length:Int):=Ω);obtain⟨m,rfl⟩:∃m,a=m+1:=⟨a - 1,by omega⟩;refine⟨m,by omega,?_,by have:=V m Ω Ω;omega,λ j hj O=>by omega⟩;(have w:IntKind.i64.wrap (((m+1:Nat):Int) - 1)=(m:Int):=by rw[xaO Ω Ω];omega);simp only[g1,zm,xae,zk,zh,xab,w,sUF]
 obtain⟨i,hi,e2,ad,Z⟩:=key;have hv:N t=S[i].2:=h.at hi (t - S[i].1).toNat t Ω h1 Z;have g0:¬ t<0:=Ω
 have g1:¬ t>=1099511627776:=Ω
 have g2:¬ ((i:Nat):Int)<0:=Ω
 have g3:(i:Int)<(S.length:Int):=Ω
 unfold xcp xqq;simp only[g0,g1,g2,g3,e2,gS hi,hi,sBU,cP0,cP1,lP,sP,sP0,sP1,hv]
def xMd(D:List Int)(n:Int):List Int:=match D.getLast? with|some d=>if d=n then D else D++[n]|none=>D++[n]
theorem xt6(n:Int):xMd [] n=[n]:=rfl
theorem xsQ(D:List Int)(d n:Int):xMd (D++[d]) n=if d=n then D++[d]else D++[d]++[n]:=by simp[xMd]
theorem xy9(D:List Int)(n:Int):(xMd D n).length<=D.length+1:=by unfold xMd;split;split<;>simp;simp
variable {D:List Int}
theorem xrA{n x:Int}:x∈xMd D n↔x∈D\/x=n:=by rcases List.eq_nil_or_concat D with rfl|⟨D',d,rfl⟩;simp[xt6];rw[List.concat_eq_append,xsQ];split;rename_i h;subst h;simp;simp[or_assoc]
theorem xy8{n:Int}(h:Asc D)(hn:∀x,x∈D->x<=n):Asc (xMd D n):=by rcases List.eq_nil_or_concat D with rfl|⟨D',d,rfl⟩;simp[xt6];rw[List.concat_eq_append]at h hn|-;rw[xsQ];split;exact h;rename_i hne;refine List.pairwise_append.2 ⟨h,by simp,λ x hx y hy=>?_⟩;simp only[zv]at hy;subst hy;have hd:=hn d Ψ;rcases zG.1 hx with hx|hx;have:=(List.pairwise_append.1 h).2.2 x hx d Ψ;omega;simp only[zv]at hx;subst hx;omega
theorem gD{d:Int}:((D++[d]).map encN).getD D.length .top=encN d:=by simp[z7]
theorem xCI{T:Type}{δ:T}(κ:Nat->List AV->T)(D:List Int)(hD:D.length<=1099511627776)(n:Int):br ((↑D.length:Int)==(0:Int)) (br (D.length==(D.map encN).length&&(decide ((D.length+(1:Nat))*(8:Nat)<=(140737488355328:Nat))&&decide (D.length+(1:Nat)<=(4611686018427387904:Nat)))) (κ (D.length+1) (D.map encN++[AV.int IntKind.i64 n])) δ) (br (decide ((0:Int)<=IntKind.i64.wrap ((↑D.length:Int) - (1:Int)))&&decide (IntKind.i64.wrap ((↑D.length:Int) - (1:Int))<(↑D.length:Int))) (br (decide ((0:Nat)+(IntKind.i64.wrap ((↑D.length:Int) - (1:Int))).toNat<(D.map encN).length)&&xMx (Sh.int IntKind.i64) (((D.map encN).getD ((0:Nat)+(IntKind.i64.wrap ((↑D.length:Int) - (1:Int))).toNat) AV.top).cells.getD (0:Nat) AV.top)) (br ((((D.map encN).getD ((0:Nat)+(IntKind.i64.wrap ((↑D.length:Int) - (1:Int))).toNat) AV.top).cells.getD (0:Nat) AV.top).toInt !=n) (br (D.length==(D.map encN).length&&(decide ((D.length+(1:Nat))*(8:Nat)<=(140737488355328:Nat))&&decide (D.length+(1:Nat)<=(4611686018427387904:Nat)))) (κ (D.length+1) (D.map encN++[AV.int IntKind.i64 n])) δ) (κ D.length (D.map encN))) δ) δ)=κ (xMd D n).length ((xMd D n).map encN):=by
 have c1:(D.length==(D.map encN).length&&(decide ((D.length+(1:Nat))*(8:Nat)<=(140737488355328:Nat))&&decide (D.length+(1:Nat)<=(4611686018427387904:Nat)))):=by simp only[za,beq_self_eq_true,Bool.true_and,zf,zl];omega
 rw[c1];rcases List.eq_nil_or_concat D with rfl|⟨D',d,rfl⟩;simp[xab,xt6,encN,sUF];rw[List.concat_eq_append]at hD|-;have hl:(D'++[d]).length=D'.length+1:=by simp
 have w:IntKind.i64.wrap (((D'.length+1:Nat):Int) - 1)=(D'.length:Int):=by rw[xaO Ω Ω];omega
 have h0:(((D'.length+1:Nat):Int)==0)=false:=by simp;omega
 have g1:(D'.length:Int)<((D'.length+1:Nat):Int):=Ω
 have hs:xMx (Sh.int IntKind.i64) ((encN d).cells.getD 0 .top):=rfl;have hi:((encN d).cells.getD 0 .top).toInt=d:=rfl;rw[xsQ,hl,h0,w];simp only[zN,zH,gD,hs,hi,g1,za,hl,Int.natCast_nonneg,zn,zS,Bool.true_and,xae,xab,Nat.lt_succ_self,sUF];by_cases hd:d=n;subst hd;simp[xae,sUF];have:(d !=n):=by simpa using hd
 rw[this,if_neg hd];simp[xab,encN,sUF]
section
variable{S T:List Per}{i k:Nat}
theorem mv7(h:i<S.length):xi6 (S.map encP) (i:Int):=by(unfold xi6;have:(i:Int)<(S.length:Int):=Ω);simp[this,xab,sUF]
theorem mv6(h:i<S.length):xi5 (S.map encP) (i:Int):=by(unfold xi5;have:(i:Int)<(S.length:Int):=Ω);simp[this,xab,sUF]
theorem mv3(h:i<S.length):xi4 (S.map encP) (i:Int):=by unfold xi4;simp only[gS h,h,sBU,cP0,cP1,lP,sP,sP0,sP1]
theorem mv2(h:i<S.length):xi3 (S.map encP) (i:Int):=by unfold xi3;simp only[gS h,h,sBU,cP0,cP1,lP,sP,sP0,sP1]
theorem mv11(h:i<S.length):xf4 (S.map encP) (i:Int)=S[i].1:=by unfold xf4 xoy;simp only[gS h,sBU,cP0,cP1,lP,sP,sP0,sP1]
theorem mv10(h:i<S.length):xf3 (S.map encP) (i:Int)=S[i].1:=by unfold xf3 xoy;simp only[gS h,sBU,cP0,cP1,lP,sP,sP0,sP1]
theorem xKC(hi:i<S.length)(hS:S.length<=1048576)(D:List Int)(hD:D.length<=1099511627776)(hk:k<=T.length)(h:∀hk:k<T.length,S[i].1<=T[k].1):xbx (S.map encP) (T.map encP) (D.length,(i:Int),(k:Int),D.map encN)=some (.inl ((xMd D S[i].1).length,((i+1:Nat):Int),(k:Int),(xMd D S[i].1).map encN)):=by
 have hw:IntKind.i64.wrap ((i:Int)+1)=((i+1:Nat):Int):=xL0 Ω;have hb:=xCI (T:=Option ((Nat×Int×Int×List AV)⊕(Nat×List AV))) (δ:=none) (λ m out=>some (.inl (m,((i+1:Nat):Int),(k:Int),out))) D hD S[i].1;have c1:decide ((i:Int)<((S.map encP).length:Int)):=by simp;omega
 unfold xbx xhs xfZ xfx xf0 xf1 xf2;dsimp only;rw[c1];simp only[xab,sUF];rcases zJ k T.length with q|J;have c2:((k:Int)==((T.map encP).length:Int))=false:=by simp;omega
 have c8:xgH (S.map encP) (T.map encP) (i:Int) (k:Int):=by unfold xgH;rw[mv11 hi,mv10 q];exact decide_eq_true (h q)
 rw[c2];simp only[xab,xae,sUF];rw[mv7 hi,mv3 hi,mv6 q,mv2 q,c8];simp only[xab,sUF];unfold xmh;rw[mv11 hi,hw];exact hb;have c2:((k:Int)==((T.map encP).length:Int)):=by simp;omega
 rw[c2];simp only[xab,sUF];rw[mv7 hi,mv3 hi];simp only[xab,sUF];unfold xmh;rw[mv11 hi,hw];exact hb
theorem xKD(hk:k<T.length)(hT:T.length<=1048576)(D:List Int)(hD:D.length<=1099511627776)(hi:i<=S.length)(h:∀hi:i<S.length,T[k].1<S[i].1):xbx (S.map encP) (T.map encP) (D.length,(i:Int),(k:Int),D.map encN)=some (.inl ((xMd D T[k].1).length,(i:Int),((k+1:Nat):Int),(xMd D T[k].1).map encN)):=by
 have hw:IntKind.i64.wrap ((k:Int)+1)=((k+1:Nat):Int):=xL0 Ω;have hb:=xCI (T:=Option ((Nat×Int×Int×List AV)⊕(Nat×List AV))) (δ:=none) (λ m out=>some (.inl (m,(i:Int),((k+1:Nat):Int),out))) D hD T[k].1;have c2:((k:Int)==((T.map encP).length:Int))=false:=by simp;omega
 have c3:decide ((k:Int)<((T.map encP).length:Int)):=by simp;omega
 unfold xbx xhs xfZ xfx xf0 xf1 xf2;dsimp only;rcases zJ i S.length with q|J;have c1:decide ((i:Int)<((S.map encP).length:Int)):=by simp;omega
 have c8:xgH (S.map encP) (T.map encP) (i:Int) (k:Int)=false:=by unfold xgH;rw[mv11 q,mv10 hk];exact decide_eq_false (by have:=h q;omega)
 rw[c1,c2];simp only[xab,xae,sUF];rw[mv7 q,mv3 q,mv6 hk,mv2 hk,c8];simp only[xab,xae,sUF];unfold xmi;rw[mv10 hk,hw];exact hb;have c1:decide ((i:Int)<((S.map encP).length:Int))=false:=by simp;omega
 rw[c1];simp only[xae,sUF];rw[c3];simp only[xab,sUF];try rw[c2]
 try simp only[xab,xae,sUF]
 try rw[c1]
 try simp only[xab,xae,sUF]
 rw[mv6 hk,mv2 hk];simp only[xab,sUF];unfold xmi;rw[mv10 hk,hw];exact hb
theorem xHk(D:List Int):xbx (S.map encP) (T.map encP) (D.length,(S.length:Int),(T.length:Int),D.map encN)=some (.inr (D.length,D.map encN)):=by(have c1:decide ((S.length:Int)<((S.map encP).length:Int))=false:=by simp);(have c3:decide ((T.length:Int)<((T.map encP).length:Int))=false:=by simp);unfold xbx xhs xfZ xfx xf0 xf1 xf2;dsimp only;rw[c1];simp only[xae,sUF];rw[c3];simp only[xae,sUF]
end
theorem xGN(S T:List Per)(hS:S.length<=1048576)(hT:T.length<=1048576)(aS:S.Pairwise λ a b=>a.1<b.1)(aT:T.Pairwise λ a b=>a.1<b.1):∃D:List Int,xcq (S.map encP) (T.map encP)=some (D.map encN)/\Asc D/\(∀x,x∈D↔(∃s,s∈S/\s.1=x)\/∃s,s∈T/\s.1=x)/\D.length<=S.length+T.length:=by
 have pS:=zB.1 aS;have pT:=zB.1 aT;obtain⟨r,h1,D,rfl,h2,h3,h4⟩:=xsK (step:=xbx (S.map encP) (T.map encP)) (λ s=>∃(i k:Nat)(D:List Int),s=(D.length,(i:Int),(k:Int),D.map encN)/\i<=S.length/\k<=T.length/\Asc D/\(∀x,x∈D↔(∃j,∃hj:j<S.length,j<i/\S[j].1=x)\/∃j,∃hj:j<T.length,j<k/\T[j].1=x)/\(∀x,x∈D->(∀h:i<S.length,x<=S[i].1)/\∀h:k<T.length,x<=T[k].1)/\D.length<=i+k) (λ s=>((S.length:Int) - s.2.1+((T.length:Int) - s.2.2.1)).toNat)
  (fun r=>∃ D:List Int,r=(D.length,D.map encN)/\Asc D/\(∀ x,x∈D↔(∃ s,s∈S/\s.1=x)\/∃ s,s∈T/\s.1=x)/\D.length<=S.length+T.length) (fun s hs=>by
   obtain⟨i,k,D,rfl,hi,hk,hA,hm,Q,hl⟩:=hs;by_cases V:∃h:i<S.length,∀hk:k<T.length,S[i].1<=T[k].1
   . obtain⟨O,q⟩:=V;left;refine⟨_,xKC O hS D Ω hk q,⟨i+1,k,xMd D S[i].1,rfl,O,hk,xy8 hA λ x hx=>(Q x hx).1 O,λ x=>?_,λ x hx=>?_,by have:=xy9 D S[i].1;omega⟩,by dsimp only;omega⟩
     . rw[xrA,hm];constructor
       . rintro((⟨j,hj,W,e⟩|h)|rfl)
         . exact .inl ⟨j,hj,by omega,e⟩
         . exact .inr h
         . exact .inl ⟨i,O,by omega,rfl⟩
       . rintro(⟨j,hj,W,e⟩|h)
         . rcases zJ j i with h'|h'
           . exact .inl (.inl ⟨j,hj,h',e⟩)
           . have:j=i:=Ω
             subst this;exact .inr e.symm
         . exact .inl (.inr h)
     . have Y:x<=S[i].1:=by
        rcases xrA.1 hx with h|rfl
        . exact(Q x h).1 O
        . omega
       exact⟨λ h=>by have:=pS i (i+1) O h Ω;omega,λ h=>by have:=q h;omega⟩
   . by_cases J:k<T.length
     . left;have q:∀hi:i<S.length,T[k].1<S[i].1:=λ h=>by
        rcases Int.lt_or_le T[k].1 S[i].1 with h'|h'
        . exact h'
        . exact absurd ⟨h,λ _=>h'⟩ V
       refine⟨_,xKD J hT D Ω hi q,⟨i,k+1,xMd D T[k].1,rfl,hi,J,xy8 hA λ x hx=>(Q x hx).2 J,λ x=>?_,λ x hx=>?_,by have:=xy9 D T[k].1;omega⟩,by dsimp only;omega⟩
       . rw[xrA,hm];constructor
         . rintro((h|⟨j,hj,W,e⟩)|rfl)
           . exact .inl h
           . exact .inr ⟨j,hj,by omega,e⟩
           . exact .inr ⟨k,J,by omega,rfl⟩
         . rintro(h|⟨j,hj,W,e⟩)
           . exact .inl (.inl h)
           . rcases zJ j k with h'|h'
             . exact .inl (.inr ⟨j,hj,h',e⟩)
             . have:j=k:=Ω
               subst this;exact .inr e.symm
       . have Y:x<=T[k].1:=by
          rcases xrA.1 hx with h|rfl
          . exact(Q x h).2 J
          . omega
         exact⟨λ h=>by have:=q h;omega,λ h=>by have:=pT k (k+1) J h Ω;omega⟩
     . right;have aa:i=S.length:=by
        rcases zJ i S.length with h'|h'
        . exact absurd ⟨h',λ h=>absurd h J⟩ V
        . omega
       have Z:k=T.length:=Ω
       subst aa Z;refine⟨_,xHk D,D,rfl,hA,λ x=>?_,hl⟩
       rw[hm];constructor
       . rintro(⟨j,hj,_,e⟩|⟨j,hj,_,e⟩)
         . exact .inl ⟨S[j],zo hj,e⟩
         . exact .inr ⟨T[j],zo hj,e⟩
       . rintro(⟨s,hs,e⟩|⟨s,hs,e⟩)
         . obtain⟨j,hj,rfl⟩:=List.getElem_of_mem hs;exact .inl ⟨j,hj,hj,e⟩
         . obtain ⟨j,hj,rfl⟩:=List.getElem_of_mem hs;exact .inr ⟨j,hj,hj,e⟩) ((0:Nat),(0:Int),(0:Int),[]) ⟨0,0,[],rfl,zQ _,zQ _,List.Pairwise.nil,fun x=>by simp,fun x hx=>by simp at hx,zd _⟩
 refine⟨D,?_,h2,h3,h4⟩;unfold xcq xp1 xhf;rw[h1];simp[xab,zi,sUF]
def xL9(N:Int->Int)(S:List Per):Prop:=StepI N 1099511627776 S\/(S=[]/\∀t,N t=0)
def xL9.asc(h:xL9 N S):S.Pairwise λ a b=>a.1<b.1:=by rcases h with h|⟨rfl,_⟩;exact h.asc;exact List.Pairwise.nil
def xJq(t:Int)(h0:0<=t)(h1:t<1099511627776):xcp [] t=some 0:=by
 have e1:Iter (xay [] t (([]:List AV).length:Int)) ((0:Int),(([]:List AV).length:Int))=some 0:=xac (by
  simp [xay,xbJ,xae,sUF])
 have e2:xfe [] t=some (-1):=by unfold xfe xow xcR xex;simp only[xb9,xaR,e1,sUF];simp[xab,xae,sUF];rw[xaO Ω Ω]
 have g0:¬ t<0:=Ω
 have g1:¬ t>=1099511627776:=Ω
 unfold xcp xqq;simp[g0,g1,e2,xab,xae,sUF]
def xL9.at(h:xL9 N S)(hl:S.length<=1048576)(h0:0<=t)(h1:t<1099511627776):xcp (S.map encP) t=some (N t):=by rcases h with h|⟨rfl,hz⟩;exact xvV h hl h0 h1;rw[hz];exact xJq t h0 h1
def xL9.chg(h:xL9 N S)(h0:0<t)(h1:t<1099511627776)(hc:N (t - 1)≠N t):∃s,s∈S/\s.1=t:=by rcases h with h|⟨rfl,hz⟩;exact⟨(t,N t),(h.mem (t,N t)).2 ⟨by simp only;omega,h1,rfl,.inr hc⟩,rfl⟩;rw[hz,hz]at hc;exact absurd rfl hc
def xL9.rng(h:xL9 N S){s:Per}(hs:s∈S):0<=s.1/\s.1<1099511627776:=by rcases h with h|⟨rfl,_⟩;have:=(h.mem s).1 hs;exact⟨this.1,this.2.1⟩;simp at hs
variable {F:Int->Int}
def xAh:∀(D:List Int),Asc D->∀(T:Int)(S:List Per),StepI F T S->(0<T->∀x,x∈D->T<=x)->0<=T->(T=0->(∃x,D.head?=some x/\x=0)\/D=[])->(∀x,x∈D->x<1099511627776)->(∀t,T<=t->0<t->t<1099511627776->F (t - 1)≠F t->t∈D)->(D=[]->0<T)->T<=1099511627776->
  StepI F 1099511627776 (D.foldl (λ S x=>putS S x (F x)) S)
 |[],_,T,S,hS,_,_,_,_,hch,hne,hT=>by
  have q:=hne rfl;simp only[List.foldl_nil];rcases Int.lt_or_le T 1099511627776 with Q|ab
  . have hc:∀d:Nat,T+d<=1099511627776 - 1->F (T+d)=F (T - 1):=by
     intro d;induction d with
     |zero=>
      intro h;have h2:¬ F (T - 1)≠F T:=λ hx=>by have:=hch T (Int.le_refl T) q Q hx;simp at this
      simp only[ne_eq,Decidable.not_not]at h2;simp[h2]
     |succ d ih=>
      intro h;have ih:=ih (by omega)
      have h2:¬ F (T+(d+1:Nat) - 1)≠F (T+(d+1:Nat)):=λ hx=>by have:=hch (T+(d+1:Nat)) (by omega) (by omega) (by omega) hx;simp at this
      simp only[ne_eq,Decidable.not_not]at h2;rw[<-h2,show T+((d+1:Nat):Int) - 1=T+d by omega,ih]
    have hF:∀t,T - 1<=t->t<1099511627776->F t=F (T - 1):=λ t h1 h2=>by
     rcases Int.lt_or_le t T with h3|h3
     . rw[show t=T - 1 by omega]
     . have:=hc (t - T).toNat (by omega)
       rw[show T+((t - T).toNat:Int)=t by omega]at this
       exact this
    refine⟨hS.asc,λ s=>?_,λ _=>?_⟩
    . rw[hS.mem];constructor
      . rintro⟨a,b,c,d⟩;exact⟨a,by omega,c,d⟩
      . rintro⟨a,b,c,d⟩;refine⟨a,?_,c,d⟩;rcases Int.lt_or_le s.1 T with h3|h3
        . exact h3
        . exfalso;rcases d with d|d
          . omega
          . have e1:=hF s.1 (by omega) b
            have e2:=hF (s.1 - 1) (by omega) (by omega)
            rw[c,e1]at d;exact d e2
    . obtain⟨S',f,hf⟩:=hS.last q;refine⟨S',f,?_⟩;rw[hF (1099511627776 - 1) (by omega) (by omega)]
      exact hf
  . have:T=1099511627776:=by omega
    rw[this]at hS;exact hS
 |x::D,hA,T,S,hS,hle,h0,hz,hx,hch,hne,hT=>by
  rw[List.foldl_cons];have Z:0<=x:=by
   rcases Int.lt_or_le 0 T with h|h
   . have:=hle h x (by simp);omega
   . have q:T=0:=by omega
     rcases hz q with⟨y,hy,rfl⟩|h'
     . simp at hy;omega
     . cases h'
  have ac:T<=x:=by
   rcases Int.lt_or_le 0 T with h|h
   . exact hle h x (by simp)
   . omega
  have Q:=hx x (by simp)
  have J:∀t,T<=t->0<t->t<x->F (t - 1)=F t:=λ t h1 h2 h3=>by
   have h4:¬ F (t - 1)≠F t:=λ hc=>by
    have hm:=hch t h1 h2 (by omega) hc
    rcases zC.1 hm with rfl|hm
    . omega
    . have:=(zM.1 hA).1 t hm;omega
   simpa using h4
  have Y:StepI F x S\/(x=0/\T=0):=by
   rcases Int.lt_or_le 0 T with V|aa
   . left;have hF:∀d:Nat,T+d<=x->F (T+d - 1)=F (T - 1):=by
      intro d;induction d with
      |zero=>intro _;simp
      |succ d ih=>
       intro h;have ih:=ih (by omega)
       have:=J (T+d) (by omega) (by omega) (by omega)
       rw[show T+((d+1:Nat):Int) - 1=T+d by omega,<-this,ih]
     have O:∀t,T - 1<=t->t<x->F t=F (T - 1):=λ t h1 h2=>by
      have:=hF (t+1 - T).toNat (by omega)
      rw[show T+((t+1 - T).toNat:Int) - 1=t by omega]at this
      exact this
     refine⟨hS.asc,λ s=>?_,λ _=>?_⟩
     . rw[hS.mem];constructor
       . rintro⟨a,b,c,d⟩;exact⟨a,by omega,c,d⟩
       . rintro⟨a,b,c,d⟩;refine⟨a,?_,c,d⟩;rcases Int.lt_or_le s.1 T with h3|h3
         . exact h3
         . exfalso;rcases d with d|d
           . omega
           . have e1:=O s.1 (by omega) b
             have e2:=O (s.1 - 1) (by omega) (by omega)
             rw[c,e1]at d;exact d e2
     . obtain⟨S',f,hf⟩:=hS.last V;refine⟨S',f,?_⟩;rw[O (x - 1) (by omega) (by omega)]
       exact hf
   . have q:T=0:=by omega
     rcases hz q with⟨y,hy,rfl⟩|h'
     . simp at hy;exact .inr ⟨by omega,q⟩
     . cases h'
  have W:StepI F (x+1) (putS S x (F x)):=by
   rcases Y with h|⟨h,q⟩
   . exact h.put Z (by omega) λ t h1 h2=>by rw[show t=x by omega]
   . subst h;rw[q]at hS;exact hS.put (Int.le_refl 0) (by omega) λ t h1 h2=>by rw[show t=0 by omega]
  exact xAh D (zM.1 hA).2 (x+1) _ W (fun _ y hy=>by have:=(zM.1 hA).1 y hy;omega) (by omega) (fun h=>by omega) (fun y hy=>hx y (by simp [hy])) (fun t h1 h2 h3 hc=>by
   have hm:=hch t (by omega) h2 h3 hc
   rcases zC.1 hm with rfl|hm
   . omega
   . exact hm) (fun _=>by omega) (by omega)
def xk3{F:Int->Int}:∀(D:List Int)(S:List Per),(D.foldl (λ S x=>putS S x (F x)) S).length<=S.length+D.length|[],S=>by simp|x::D,S=>by rw[List.foldl_cons];have h1:=xk3 (F:=F) D (putS S x (F x));have h2:=xmY S x (F x);rw[zF];omega
variable {M:Int->Int}{T:List Per}
def xry(hS:StepI N 1099511627776 S)(hT:xL9 M T)(lS:S.length<=1048576)(lT:T.length<=1048576)(hF:∀t,F (t - 1)≠F t->N (t - 1)≠N t\/M (t - 1)≠M t):∃D:List Int,xcq (S.map encP) (T.map encP)=some (D.map encN)/\D.length<=S.length+T.length/\(∀x,x∈D->0<=x/\x<1099511627776)/\StepI F 1099511627776 (D.foldl (λ S x=>putS S x (F x)) []):=by(obtain⟨D,h1,h2,h3,h4⟩:=xGN S T lS lT hS.asc hT.asc;have hr:∀x,x∈D->0<=x/\x<1099511627776:=λ x hx=>by rcases(h3 x).1 hx with⟨s,hs,rfl⟩|⟨s,hs,rfl⟩;have:=(hS.mem s).1 hs;exact⟨this.1,this.2.1⟩;exact hT.rng hs);obtain⟨hp,hf⟩:=hS.first;have h0:(0:Int)∈D:=(h3 0).2 (.inl ⟨S[0],zo hp,hf⟩);refine⟨D,h1,h4,hr,xAh D h2 0 [] (.nil F) (λ h=>by omega) (Int.le_refl 0) (λ _=>.inl ?_) (λ x hx=>(hr x hx).2) (λ t ht J q hc=>?_) (λ h=>by rw[h]at h0;simp at h0) Ω⟩;(cases D with|nil=>simp at h0|cons x D=>refine⟨x,rfl,?_⟩;rcases zC.1 h0 with h|h;exact h.symm;have:=(zM.1 h2).1 0 h;have:=(hr x Ψ).1;omega);rcases hF t hc with h|h;exact(h3 t).2 (.inl ⟨(t,N t),(hS.mem (t,N t)).2 ⟨by simp only;omega,q,rfl,.inr h⟩,rfl⟩);obtain⟨s,hs,e⟩:=hT.chg J q h;exact(h3 t).2 (.inr ⟨s,hs,e⟩)
def xCt(hS:StepI N 1099511627776 S)(hT:xL9 M T)(lS:S.length<=1048576)(lT:T.length<=1048576)(hF:∀t,xor (N t) (M t)=F t)(D:List Int)(hD:∀x,x∈D->0<=x/\x<1099511627776)(hl:D.length<=2097152):∀(d k:Nat)(out:List Per),k+d=D.length->out.length<=k->Iter (xcT (S.map encP) (T.map encP) (D.map encN) ((D.length:Nat):Int)) (out.length,(k:Int),out.map encP)=some (((D.drop k).foldl (λ S x=>putS S x (F x)) out).length,((D.drop k).foldl (λ S x=>putS S x (F x)) out).map encP)|0,k,out,hk,ho=>by(have:k=D.length:=Ω);subst this;refine xac ?_;simp[xcT,xg1,xae,sUF]|d+1,k,out,hk,ho=>by(have q:k<D.length:=Ω);obtain⟨h0,h1⟩:=hD D[k] (zo q);have a1:=xvV hS lS h0 h1;have a2:=hT.at lT h0 h1;obtain⟨p,p1,p2,p3⟩:=xqz out D[k] (F D[k]) Ω;(have p1:xbA out.length D[k] (F D[k]) (out.map encP)=some p:=p1;have gf:(D.map encN).getD k .top=encN D[k]:=xad _ _ _ q;have i1:(k:Int)<(D.length:Int):=Ω);have e:D.drop k=D[k]::D.drop (k+1):=List.drop_eq_getElem_cons q;rw[e,List.foldl_cons,<-xCt hS hT lS lT hF D hD hl d (k+1) (putS out D[k] (F D[k])) Ω (by have:=xmY out D[k] (F D[k]);omega)];refine xak ?_;rw[<-p2,<-p3];simp only[xcT,xg1,xcF,xjy,sBU,q,i1,gf,cN,sN,a1,a2,hF,p1,xL0 (n:=k) Ω]
def xJV(hS:StepI N 1099511627776 S)(hT:xL9 M T)(lS:S.length<=1048576)(lT:T.length<=1048576)(hF:∀t,xor (N t) (M t)=F t):∃U:List Per,xkM (S.map encP) (T.map encP)=some (U.map encP)/\StepI F 1099511627776 U/\U.length<=S.length+T.length:=by
 obtain ⟨D,h1,h2,h3,h4⟩:=xry hS hT lS lT (F:=F) (fun t h=>by
  by_cases hc:N (t - 1)=N t
  . right;intro h5;refine h ?_;rw[<-hF,<-hF,hc,h5]
  . exact .inl hc)
 refine⟨_,?_,h4,by have:=xk3 (F:=F) D [];simp at this;omega⟩;have q:=xCt hS hT lS lT hF D h3 Ω D.length 0 [] Ω Ψ;rw[zr]at q;have q:Iter (xcT (S.map encP) (T.map encP) (D.map encN) ((D.length:Nat):Int)) ((0:Nat),(0:Int),[])=_:=q;obtain⟨hp,_⟩:=h4.first;generalize D.foldl (λ S x=>putS S x (F x)) []=U at q hp;have g0:(((U.length:Nat):Int)==0)=false:=by simp;intro h;rw[h]at hp;simp at hp
 unfold xkM xmd xeW xlv;simp only[h1,zk,zh,xab,za,q,g0,xae,sUF];simp[xab,zi,sUF]
def xCw(hS:StepI N 1099511627776 S)(hT:xL9 M T)(lS:S.length<=1048576)(lT:T.length<=1048576)(hF:∀t,xov (N t) (M t)=F t)(D:List Int)(hD:∀x,x∈D->0<=x/\x<1099511627776)(hl:D.length<=2097152):∀(d k:Nat)(out:List Per),k+d=D.length->out.length<=k->Iter (xcW (S.map encP) (T.map encP) (D.map encN) ((D.length:Nat):Int)) (out.length,(k:Int),out.map encP)=some (((D.drop k).foldl (λ S x=>putS S x (F x)) out).length,((D.drop k).foldl (λ S x=>putS S x (F x)) out).map encP)|0,k,out,hk,ho=>by(have:k=D.length:=Ω);subst this;refine xac ?_;simp[xcW,xg4,xae,sUF]|d+1,k,out,hk,ho=>by(have q:k<D.length:=Ω);obtain⟨h0,h1⟩:=hD D[k] (zo q);have a1:=xvV hS lS h0 h1;have a2:=hT.at lT h0 h1;obtain⟨p,p1,p2,p3⟩:=xqz out D[k] (F D[k]) Ω;(have p1:xbA out.length D[k] (F D[k]) (out.map encP)=some p:=p1;have gf:(D.map encN).getD k .top=encN D[k]:=xad _ _ _ q;have i1:(k:Int)<(D.length:Int):=Ω);have e:D.drop k=D[k]::D.drop (k+1):=List.drop_eq_getElem_cons q;rw[e,List.foldl_cons,<-xCw hS hT lS lT hF D hD hl d (k+1) (putS out D[k] (F D[k])) Ω (by have:=xmY out D[k] (F D[k]);omega)];refine xak ?_;rw[<-p2,<-p3];simp only[xcW,xg4,xcI,xjB,sBU,q,i1,gf,cN,sN,a1,a2,hF,p1,xL0 (n:=k) Ω]
def xJY(hS:StepI N 1099511627776 S)(hT:xL9 M T)(lS:S.length<=1048576)(lT:T.length<=1048576)(hF:∀t,xov (N t) (M t)=F t):∃U:List Per,xkO (S.map encP) (T.map encP)=some (U.map encP)/\StepI F 1099511627776 U/\U.length<=S.length+T.length:=by
 obtain ⟨D,h1,h2,h3,h4⟩:=xry hS hT lS lT (F:=F) (fun t h=>by
  by_cases hc:N (t - 1)=N t
  . right;intro h5;refine h ?_;rw[<-hF,<-hF,hc,h5]
  . exact .inl hc)
 refine⟨_,?_,h4,by have:=xk3 (F:=F) D [];simp at this;omega⟩;have q:=xCw hS hT lS lT hF D h3 Ω D.length 0 [] Ω Ψ;rw[zr]at q;have q:Iter (xcW (S.map encP) (T.map encP) (D.map encN) ((D.length:Nat):Int)) ((0:Nat),(0:Int),[])=_:=q;obtain⟨hp,_⟩:=h4.first;generalize D.foldl (λ S x=>putS S x (F x)) []=U at q hp;have g0:(((U.length:Nat):Int)==0)=false:=by simp;intro h;rw[h]at hp;simp at hp
 unfold xkO xmg xeZ xlz;simp only[h1,zk,zh,xab,za,q,g0,xae,sUF];simp[xab,zi,sUF]
def xCv(hS:StepI N 1099511627776 S)(hT:xL9 M T)(lS:S.length<=1048576)(lT:T.length<=1048576)(hF:∀t,xou (N t) (M t)=F t)(D:List Int)(hD:∀x,x∈D->0<=x/\x<1099511627776)(hl:D.length<=2097152):∀(d k:Nat)(out:List Per),k+d=D.length->out.length<=k->Iter (xcV (S.map encP) (T.map encP) (D.map encN) ((D.length:Nat):Int)) (out.length,(k:Int),out.map encP)=some (((D.drop k).foldl (λ S x=>putS S x (F x)) out).length,((D.drop k).foldl (λ S x=>putS S x (F x)) out).map encP)|0,k,out,hk,ho=>by(have:k=D.length:=Ω);subst this;refine xac ?_;simp[xcV,xg3,xae,sUF]|d+1,k,out,hk,ho=>by(have q:k<D.length:=Ω);obtain⟨h0,h1⟩:=hD D[k] (zo q);have a1:=xvV hS lS h0 h1;have a2:=hT.at lT h0 h1;obtain⟨p,p1,p2,p3⟩:=xqz out D[k] (F D[k]) Ω;(have p1:xbA out.length D[k] (F D[k]) (out.map encP)=some p:=p1;have gf:(D.map encN).getD k .top=encN D[k]:=xad _ _ _ q;have i1:(k:Int)<(D.length:Int):=Ω);have e:D.drop k=D[k]::D.drop (k+1):=List.drop_eq_getElem_cons q;rw[e,List.foldl_cons,<-xCv hS hT lS lT hF D hD hl d (k+1) (putS out D[k] (F D[k])) Ω (by have:=xmY out D[k] (F D[k]);omega)];refine xak ?_;rw[<-p2,<-p3];simp only[xcV,xg3,xcH,xjA,sBU,q,i1,gf,cN,sN,a1,a2,hF,p1,xL0 (n:=k) Ω]
def xJX(hS:StepI N 1099511627776 S)(hT:xL9 M T)(lS:S.length<=1048576)(lT:T.length<=1048576)(hF:∀t,xou (N t) (M t)=F t):∃U:List Per,xkN (S.map encP) (T.map encP)=some (U.map encP)/\StepI F 1099511627776 U/\U.length<=S.length+T.length:=by
 obtain ⟨D,h1,h2,h3,h4⟩:=xry hS hT lS lT (F:=F) (fun t h=>by
  by_cases hc:N (t - 1)=N t
  . right;intro h5;refine h ?_;rw[<-hF,<-hF,hc,h5]
  . exact .inl hc)
 refine⟨_,?_,h4,by have:=xk3 (F:=F) D [];simp at this;omega⟩;have q:=xCv hS hT lS lT hF D h3 Ω D.length 0 [] Ω Ψ;rw[zr]at q;have q:Iter (xcV (S.map encP) (T.map encP) (D.map encN) ((D.length:Nat):Int)) ((0:Nat),(0:Int),[])=_:=q;obtain⟨hp,_⟩:=h4.first;generalize D.foldl (λ S x=>putS S x (F x)) []=U at q hp;have g0:(((U.length:Nat):Int)==0)=false:=by simp;intro h;rw[h]at hp;simp at hp
 unfold xkN xmf xeY xly;simp only[h1,zk,zh,xab,za,q,g0,xae,sUF];simp[xab,zi,sUF]
def xCu(hS:StepI N 1099511627776 S)(hT:xL9 M T)(lS:S.length<=1048576)(lT:T.length<=1048576)(hF:∀t,xmu (N t) (M t)=F t)(D:List Int)(hD:∀x,x∈D->0<=x/\x<1099511627776)(hl:D.length<=2097152):∀(d k:Nat)(out:List Per),k+d=D.length->out.length<=k->Iter (xcU (S.map encP) (T.map encP) (D.map encN) ((D.length:Nat):Int)) (out.length,(k:Int),out.map encP)=some (((D.drop k).foldl (λ S x=>putS S x (F x)) out).length,((D.drop k).foldl (λ S x=>putS S x (F x)) out).map encP)|0,k,out,hk,ho=>by(have:k=D.length:=Ω);subst this;refine xac ?_;simp[xcU,xg2,xae,sUF]|d+1,k,out,hk,ho=>by(have q:k<D.length:=Ω);obtain⟨h0,h1⟩:=hD D[k] (zo q);have a1:=xvV hS lS h0 h1;have a2:=hT.at lT h0 h1;obtain⟨p,p1,p2,p3⟩:=xqz out D[k] (F D[k]) Ω;(have p1:xbA out.length D[k] (F D[k]) (out.map encP)=some p:=p1;have gf:(D.map encN).getD k .top=encN D[k]:=xad _ _ _ q;have i1:(k:Int)<(D.length:Int):=Ω);have e:D.drop k=D[k]::D.drop (k+1):=List.drop_eq_getElem_cons q;rw[e,List.foldl_cons,<-xCu hS hT lS lT hF D hD hl d (k+1) (putS out D[k] (F D[k])) Ω (by have:=xmY out D[k] (F D[k]);omega)];refine xak ?_;rw[<-p2,<-p3];simp only[xcU,xg2,xcG,xjz,sBU,q,i1,gf,cN,sN,a1,a2,hF,p1,xL0 (n:=k) Ω]
def xJW(hS:StepI N 1099511627776 S)(hT:xL9 M T)(lS:S.length<=1048576)(lT:T.length<=1048576)(hF:∀t,xmu (N t) (M t)=F t):∃U:List Per,xiw (S.map encP) (T.map encP)=some (U.map encP)/\StepI F 1099511627776 U/\U.length<=S.length+T.length:=by
 obtain ⟨D,h1,h2,h3,h4⟩:=xry hS hT lS lT (F:=F) (fun t h=>by
  by_cases hc:N (t - 1)=N t
  . right;intro h5;refine h ?_;rw[<-hF,<-hF,hc,h5]
  . exact .inl hc)
 refine⟨_,?_,h4,by have:=xk3 (F:=F) D [];simp at this;omega⟩;have q:=xCu hS hT lS lT hF D h3 Ω D.length 0 [] Ω Ψ;rw[zr]at q;have q:Iter (xcU (S.map encP) (T.map encP) (D.map encN) ((D.length:Nat):Int)) ((0:Nat),(0:Int),[])=_:=q;obtain⟨hp,_⟩:=h4.first;generalize D.foldl (λ S x=>putS S x (F x)) []=U at q hp;have g0:(((U.length:Nat):Int)==0)=false:=by simp;intro h;rw[h]at hp;simp at hp
 unfold xiw xme xeX xlw;simp only[h1,zk,zh,xab,za,q,g0,xae,sUF];simp[xab,zi,sUF]
def xJp(hS:StepI N 1099511627776 S)(hT:StepI M 1099511627776 T)(lS:S.length<=1048576)(lT:T.length<=1048576)(hN:∀t,0<=N t/\N t<=1048576)(hM:∀t,0<=M t/\M t<=1048576):∃U:List Per,xpE (S.map encP) (T.map encP)=some (U.map encP)/\StepI (λ t=>N t+M t) 1099511627776 U/\U.length<=S.length+T.length:=by
 obtain ⟨U,h1,h2,h3⟩:=xJV hS (.inl hT) lS lT (F:=fun t=>N t+M t) (fun t=>by
  have:=hN t;have:=hM t;unfold xor;rw [xaO Ω Ω])
 refine⟨U,?_,h2,h3⟩;unfold xpE xr3;simp only[h1,zk,zh,xab,sUF]
def xKj(hS:StepI N 1099511627776 S)(hT:StepI M 1099511627776 T)(lS:S.length<=1048576)(lT:T.length<=1048576):∃U:List Per,xpG (S.map encP) (T.map encP)=some (U.map encP)/\StepI (λ t=>min (N t) (M t)) 1099511627776 U/\U.length<=S.length+T.length:=by
 obtain ⟨U,h1,h2,h3⟩:=xJX hS (.inl hT) lS lT (F:=fun t=>min (N t) (M t)) (fun t=>by
  unfold xou;split<;>omega)
 refine⟨U,?_,h2,h3⟩;unfold xpG xr4;simp only[h1,zk,zh,xab,sUF]
def xJ3(hS:StepI N 1099511627776 S)(hT:StepI M 1099511627776 T)(lS:S.length<=262144)(lT:T.length<=262144)(hN:∀t,0<=N t/\N t<=1048576)(hM:∀t,0<=M t/\M t<=1048576):∃U:List Per,xjo (S.map encP) (T.map encP)=some (U.map encP)/\StepI (λ t=>max (N t - M t) 0) 1099511627776 U/\U.length<=S.length+T.length:=by
 obtain ⟨U,h1,h2,h3⟩:=xJY hS (.inl hT) Ω Ω (F:=fun t=>N t - M t) (fun t=>by
  have:=hN t;have:=hM t;unfold xov;rw [xaO Ω Ω])
 obtain ⟨V,g1,g2,g3⟩:=xJW h2 (T:=[]) (M:=fun _=>0) (.inr ⟨rfl,fun _=>rfl⟩) Ω Ψ (F:=fun t=>max (N t - M t) 0) (fun t=>by
  unfold xmu;split<;>omega)
 refine⟨V,?_,g2,by simp at g3;omega⟩;have g1:xiw (U.map encP) []=some (V.map encP):=g1;have e1:xpH (S.map encP) (T.map encP)=some (U.map encP):=by unfold xpH xr7;simp only[h1,zk,zh,xab,sUF]
 have e2:xqr (U.map encP)=some (V.map encP):=by unfold xqr xrl;simp only[g1,zk,zh,xab,sUF]
 unfold xjo xm5;simp only[e1,e2,zk,zh,xab,sUF]
def xA1(t8:List AV)(t9 q:Int)(xs:List AV)(hx:xs.length=3)(j:Nat)(hj:j<3)(n:Int)(hn:xs.getD j .top=.int .i64 n)(h1:-9223372036854775808<=n)(h2:n<=9223372036854775807)(v0 v1:Int)(v2 B:List UInt8)(hB:B.length<=70368744177664):xcv t8 t9 q 3 3 ((j:Int),B.length,v0,v1,v2,xs,byteAVs B)=some (.inl (((j+1:Nat):Int),(B++numI n).length,v0,v1,v2,xs,byteAVs (B++numI n))):=by
 have hl:=Lib.itoa_length_le n h1 h2;have i1:(j:Int)<3:=Ω
 have i2:(j:Int)<((3:Nat):Int):=Ω
 have i3:j<xs.length:=Ω
 have e1:=xqC (Lib.itoa n) B (by rw[z8];omega);have e2:=xtc (B++Lib.itoa n) (by rw[z8,z8,zj];omega);have hc:((AV.int IntKind.i64 n).cells.getD 0 .top).toInt=n:=rfl;have hs:xMx (Sh.int IntKind.i64) ((AV.int IntKind.i64 n).cells.getD 0 .top):=rfl;simp only[xcv,xl3,xoh,xoi,xoj,xic,sBU,i1,i2,i3,hn,hc,hs,h1,h2,e1,e2,xL0 (n:=j) Ω,numI,zw]
def xHh(t8:List AV)(t9 q:Int)(xs:List AV)(v0 v1:Int)(v2 B:List UInt8):xcv t8 t9 q 3 3 (((3:Nat):Int),B.length,v0,v1,v2,xs,byteAVs B)=some (.inr (B.length,v0,v1,v2,byteAVs B)):=by(have i1:¬ ((3:Nat):Int)<3:=Ω);simp only[xcv,xl3,i1,zm,xae,sUF]
def xA0(t8:List AV)(t9 q:Int)(v:Val)(h:KOk v)(B:List UInt8)(hB:B.length<=35184372088832):Iter (xcv t8 t9 q 3 3) ((1:Int),(B++numI v.k).length,v.k,v.i,v.t,[AV.int .i64 v.k,AV.int .i64 v.i,AV.int .i64 (v.t.length:Int)],byteAVs (B++numI v.k))=some ((B++numI v.k++numI v.i++numI (v.t.length:Int)).length,v.k,v.i,v.t,byteAVs (B++numI v.k++numI v.i++numI (v.t.length:Int))):=by have hl:=h.len;have ht:=h.2;rw[xoK,z8,z8,z8]at hl;have e1:=xA1 t8 t9 q [AV.int .i64 v.k,AV.int .i64 v.i,AV.int .i64 (v.t.length:Int)] rfl 1 Ω v.i rfl (xMg h.1.2.1).1 (xMg h.1.2.1).2 v.k v.i v.t (B++numI v.k) (by rw[z8];omega);have e2:=xA1 t8 t9 q [AV.int .i64 v.k,AV.int .i64 v.i,AV.int .i64 (v.t.length:Int)] rfl 2 Ω (v.t.length:Int) rfl Ω Ω v.k v.i v.t (B++numI v.k++numI v.i) (by rw[z8,z8];omega);exact(xak e1).trans ((xak e2).trans (xac (xHh ..)))
def xIG(t8:List AV)(t9 q:Int)(v:Val)(h:KOk v)(B:List UInt8)(hB:B.length<=35184372088832):Iter (xcv t8 t9 q 3 3) ((0:Int),B.length,v.k,v.i,v.t,[AV.int .i64 v.k,AV.int .i64 v.i,AV.int .i64 (v.t.length:Int)],byteAVs B)=some ((B++numI v.k++numI v.i++numI (v.t.length:Int)).length,v.k,v.i,v.t,byteAVs (B++numI v.k++numI v.i++numI (v.t.length:Int))):=by have e0:=xA1 t8 t9 q [AV.int .i64 v.k,AV.int .i64 v.i,AV.int .i64 (v.t.length:Int)] rfl 0 Ω v.k rfl (xMg h.1.1).1 (xMg h.1.1).2 v.k v.i v.t B Ω;exact(xak e0).trans (xA0 t8 t9 q v h B hB)
def xCS(r:Row)(hr:r.length<=1048576)(h:∀v,v∈r->KOk v)(hk:(keyOf r).length<=17592186044416):∀d k:Nat,k+d=r.length->Iter (xfj (r.map encV) ((r.length:Nat):Int)) ((k:Int),(keyOf (r.take k)).length,byteAVs (keyOf (r.take k)))=some ((keyOf r).length,byteAVs (keyOf r))
 |0,k,hkk=>by
  obtain rfl:k=r.length:=by omega
  rw[y6];refine xac ?_;simp only[xfj,xl2,zy,zm,xae,sUF]
 |d+1,k,hkk=>by
  have q:k<r.length:=by omega
  have hv:=h r[k] (zo q);have i1:(k:Int)<(r.length:Int):=by omega
  have gf:(r.map encV).getD k .top=encV r[k]:=xad _ _ _ q;have tk:keyOf (r.take (k+1))=keyOf (r.take k)++keyV r[k]:=by
   unfold keyOf;rw[List.take_add_one,ze q,List.flatMap_append];simp
  have le:(keyOf (r.take (k+1))).length<=(keyOf r).length:=by
   conv=>rhs;rw[<-List.take_append_drop (k+1) r]
   unfold keyOf;rw[List.flatMap_append,z8];omega
  have hl:=hv.len;rw[tk,z8]at le;have e1:=xIG (r.map encV) (r.length:Int) (k:Int) r[k] hv (keyOf (r.take k)) (by omega)
  have kn:keyOf (r.take k)++keyV r[k]=keyOf (r.take k)++numI r[k].k++numI r[k].i++numI (r[k].t.length:Int)++r[k].t:=by rw[xoK];simp only[zw]
  have e2:=xqC r[k].t (keyOf (r.take k)++numI r[k].k++numI r[k].i++numI (r[k].t.length:Int)) (by rw[<-kn,z8];omega)
  rw[xak (s':=(((k+1:Nat):Int),(keyOf (r.take (k+1))).length,byteAVs (keyOf (r.take (k+1))))) ?_]
  . exact xCS r hr h hk d (k+1) (by omega)
  . rw[tk,kn];simp only[xfj,xl2,xoe,xof,xkF,xog,sBU,q,i1,gf,cV0,cV1,cV2,lV,sV,e1,e2,xL0 (n:=k) (by omega)]
def xyp(r:Row)(hr:r.length<=1048576)(h:∀v,v∈r->KOk v)(hk:(keyOf r).length<=17592186044416):xaG (r.map encV)=some (keyOf r):=by match r with|[]=>rfl|v::t=>have hv:=h v Ψ;(have hl:=hv.len;have i1:(0:Int)<((t.length+1:Nat):Int):=Ω);(have i2:0<t.length+1:=Ω);(obtain⟨r1,r2⟩:=xMg hv.1.1;have q:=Lib.itoa_length_le v.k r1 r2;have gf:((v::t).map encV).getD 0 .top=encV v:=rfl;have e0:xaE (Lib.itoa v.k)=some (((Lib.itoa v.k).length:Int),(Lib.itoa v.k).length,byteAVs (Lib.itoa v.k)):=by(have m1:(Lib.itoa v.k).length<=140737488355328:=Ω);(have m2:(Lib.itoa v.k).length<=4611686018427387904:=Ω);unfold xaE xc7;simp only[xha,Nat.mul_one,m1,m2,zn,Bool.and_self,xab,sUF]);have e1:xef 32 (Lib.itoa v.k).length (byteAVs (Lib.itoa v.k))=some (([]++numI v.k).length,byteAVs ([]++numI v.k)):=xtc (Lib.itoa v.k) (by rw[z8,zj];omega);have e2:=xA0 ((v::t).map encV) ((t.length+1:Nat):Int) 0 v hv [] Ψ;(have kn:keyV v=[]++numI v.k++numI v.i++numI (v.t.length:Int)++v.t:=by rw[xoK];simp);have e3:=xqC v.t ([]++numI v.k++numI v.i++numI (v.t.length:Int)) (by rw[<-kn];omega);rw[<-kn]at e3;have e4:=xCS (v::t) hr h hk t.length 1 (by rw[zF];omega);(have tk:keyOf ((v::t).take 1)=keyV v:=by simp[keyOf]);rw[tk,zF]at e4;have e4:Iter (xfj ((v::t).map encV) ((t.length+1:Nat):Int)) ((1:Int),(keyV v).length,byteAVs (keyV v))=_:=e4;have hne:(keyOf (v::t)).length≠0:=λ e=>xuu v (keyOf t) (by rw[<-xlG];exact List.length_eq_zero_iff.1 e);unfold xaG xr2 xjp xra xrb xrc xok xrd xre xrf xfp;simp only[za,zF,i1,i2,gf,cV0,cV1,cV2,lV,sV,r1,r2,e0,e1,e2,e3,e4,zn,xab,Bool.and_self,beq_self_eq_true,zk,zh,xha,xrv,xtq,ne_eq,hne,not_false_eq_true,sUF]
def xtV:∀(a b:List Int),(∀t,a.count t<=b.count t)->a.length<=b.length
 |[],b,_=>by simp
 |x::a,b,h=>by
  have hx:x∈b:=List.count_pos_iff.1 (by have:=h x;rw[List.count_cons_self]at this;omega)
  have ih:=xtV a (b.erase x) λ t=>by
   have:=h t;by_cases e:x=t
   . subst e;rw[List.count_cons_self]at this;rw[List.count_erase_self];omega
   . rw[List.count_cons_of_ne e]at this;rw[List.count_erase_of_ne (λ c=>e c.symm)];exact this
  rw[List.length_erase_of_mem hx]at ih;have:0<b.length:=List.length_pos_iff.2 λ c=>by rw[c]at hx;simp at hx
  rw[zF];omega
def xhR(ps:List Per)(t:Int):ps.countP (hasP · t)<=ps.countP (hasP · (t - 1))+(ps.map (·.1)).count t:=by induction ps with|nil=>simp|cons p ps ih=>(rw[List.countP_cons,List.countP_cons,zV,List.count_cons];have:(if hasP p t then 1 else 0)<=(if hasP p (t - 1) then 1 else 0)+(if(p.1==t) then 1 else 0):=by by_cases h1:hasP p t=true;obtain⟨hv,a,b⟩:=xba.1 h1;by_cases h2:p.1=t;(have e:(p.1==t):=by simpa using h2);rw[if_pos h1,if_pos e];omega;have:hasP p (t - 1):=xba.2 ⟨hv,by omega,by omega⟩;rw[if_pos h1,if_pos this];omega;rw[if_neg h1];omega);omega
def xyw(a b:Nat):∀n:Nat,((List.range n).map λ k=>if a<=k/\k<b then 1 else 0).sum<=min n b - min n a|0=>by simp|n+1=>by rw[List.range_succ,zx,List.sum_append];have:=xyw a b n;simp only[zV,zW,List.sum_cons,List.sum_nil];split<;>omega
variable {P:List Per}
def IsLevs.len1{ps:List Per}(h:IsLevs (λ t=>ps.countP (hasP · t)) P):P.length<=ps.length:=by(have:(P.map (·.1)).length<=(ps.map (·.1)).length:=by refine xtV _ _ λ t=>?_;(obtain⟨A,H,h1,h2,h3⟩:=h.lev;have e1:(P.map (·.1)).count t=((List.range H).map λ k=>((A k).map (·.1)).count t).sum:=by rw[(h3.map (·.1)).count_eq,List.map_flatMap,List.count_flatMap];rfl);(have e2:∀n,((List.range n).map λ k=>((A k).map (·.1)).count t).sum<=((List.range n).map λ k=>if ps.countP (hasP · (t - 1))<=k/\k<ps.countP (hasP · t)then 1 else 0).sum:=λ n=>by induction n with|zero=>simp|succ n ih=>(rw[List.range_succ,zx,zx,List.sum_append,List.sum_append];simp only[zV,zW,List.sum_cons,List.sum_nil];have hn:((A n).map (·.1)).Nodup:=by unfold List.Nodup;rw[List.pairwise_map];refine List.Pairwise.imp_of_mem (λ{p q} hp hq h=>?_) (h2 n).1.2;have:=xbH.1 ((h2 n).1.1 p hp);omega);have J:((A n).map (·.1)).count t<=1:=List.nodup_iff_count.1 hn t;by_cases ht:t∈(A n).map (·.1);obtain⟨p,hp,rfl⟩:=zK.1 ht;obtain⟨a,b,_⟩:=xye (N:=λ t=>ps.countP (hasP · t)) (h2 n).1 (h2 n).2 hp;have hv:=xbH.1 ((h2 n).1.1 p hp);have:=a p.1 (Int.le_refl _) hv.2.1;rw[if_pos ⟨b,this⟩];omega;rw[List.count_eq_zero.2 ht];omega);have e3:=e2 H;have e4:=xyw (ps.countP (hasP · (t - 1))) (ps.countP (hasP · t)) H;have e5:=xhR ps t;have e6:=h1 t;omega);simpa using this
def xwc{L:Row->List Per}:∀{R:List Row}{l:List Fc},R.Nodup->(∀r,r∈R->(L r).length<=(psOf l r).length)->(xLx R L).length<=l.length
 |[],l,_,_=>by simp[xLx]
 |r::R,l,hn,h=>by
  obtain⟨n1,n2⟩:=List.nodup_cons.1 hn;have e:xLx (r::R) L=((L r).map λ p=>(⟨r,p⟩:Fc))++xLx R L:=by simp[xLx]
  let l2:=l.filter λ f=>!decide (f.r=r)
  have J:∀r',r'∈R->psOf l2 r'=psOf l r':=λ r' q=>by
   have hne:r'≠r:=λ e=>n1 (e▸q)
   unfold psOf;simp only[l2,List.filter_filter];congr 1;refine List.filter_congr λ f _=>?_
   by_cases hf:f.r=r'
   . have:¬ f.r=r:=λ e=>hne (hf▸e)
     simp[hf,hne]
   . simp[hf]
  have ih:=xwc (L:=L) (l:=l2) n2 λ r' q=>by rw[J r' q];exact h r' (by simp[q])
  have h1:=h r (by simp)
  have hl:(psOf l r).length+l2.length<=l.length:=by
   unfold psOf;rw[za];have:=List.length_eq_countP_add_countP (λ f:Fc=>decide (f.r=r)) (l:=l)
   have a1:(l.filter λ f=>decide (f.r=r)&&pv f.p).length<=l.countP λ f=>decide (f.r=r):=by
    rw[<-List.countP_eq_length_filter];exact List.countP_mono_left λ f _ hf=>by simp only[zf]at hf;exact hf.1
   have a2:l2.length=l.countP λ f=>¬ decide (f.r=r)=true:=by
    rw[List.countP_eq_length_filter];simp[l2]
   omega
  rw[e,z8,za];omega
def xL8.len1{l B:List Fc}(h:xL8 l B):B.length<=l.length:=by obtain⟨R,L,h1,h2,rfl⟩:=h;refine xwc (h1.1.nodup xmN) λ r hr=>?_;have:=h2 r hr;rw[show cnt l r=λ t=>(psOf l r).countP (hasP · t) from funext λ t=>(xsj l r t).symm]at this;exact this.len1
abbrev TE:=Row×List Per×List Per
def defT:TE:=([],[],[])
def c1(p:Per):AV:=encC (p,1)
def encE(e:TE):PE:=(keyOf e.1,e.1.map encV,e.2.1.map c1,e.2.2.map c1)
def ixTE(es:List TE)(r:Row):Option Nat:=es.findIdx? λ x=>decide (x.1=r)
def addT(es:List TE)(r:Row)(xa xb:List Per):List TE:=match ixTE es r with|some j=>es.set j ((es.getD j defT).1,(es.getD j defT).2.1++xa,(es.getD j defT).2.2++xb)|none=>es++[(r,xa,xb)]
def xAq(r:Row):∀es:List TE,ixP (es.map encE) (keyOf r)=ixTE es r|[]=>rfl|x::es=>by(have ih:=xAq r es;unfold ixP ixTE at ih|-;rw[zV,List.findIdx?_cons,List.findIdx?_cons,ih];have:((encE x).1==keyOf r)=decide (x.1=r):=by by_cases h:x.1=r;subst h;simp[encE];have h2:¬ keyOf x.1=keyOf r:=λ e=>h (xsf e);simp[encE,h,h2]);rw[this]
variable {es:List TE}{j:Nat}
def xsH(h:j<es.length):(es.map encE).getD j defP=encE (es.getD j defT):=by simp[z7,h]
def xtS{r:Row}(h:ixTE es r=some j):∃hj:j<es.length,es[j].1=r:=by obtain⟨hj,h1,_⟩:=List.findIdx?_eq_some_iff_getElem.1 h;exact⟨hj,by simpa using h1⟩
def xFi{r:Row}(h:ixTE es r=none):r∉es.map (·.1):=λ hr=>by obtain⟨e,he,rfl⟩:=zK.1 hr;have:=List.findIdx?_eq_none_iff.1 h e he;simp at this
def xG1(es:List TE)(r:Row)(p:Per):putP false (es.map encE) (keyOf r) (r.map encV) (c1 p)=(addT es r [p] []).map encE:=by unfold putP addT;rw[xAq];cases h:ixTE es r with|none=>simp[encE]|some j=>obtain⟨hj,_⟩:=xtS h;simp only[xsH hj,List.map_set];simp[encE]
def xG2(es:List TE)(r:Row)(p:Per):putP true (es.map encE) (keyOf r) (r.map encV) (c1 p)=(addT es r [] [p]).map encE:=by unfold putP addT;rw[xAq];cases h:ixTE es r with|none=>simp[encE]|some j=>obtain⟨hj,_⟩:=xtS h;simp only[xsH hj,List.map_set];simp[encE]
structure EI (R:Row->Prop) (A B:Row->List Per) (n:Nat) (es:List TE):Prop where
 nd:(es.map (·.1)).Nodup
 mem:∀r,r∈es.map (·.1)↔R r
 pa:∀e,e∈es->e.2.1=A e.1
 pb:∀e,e∈es->e.2.2=B e.1
 zero:∀r,¬ R r->A r=[]/\B r=[]
 len:es.length<=n
def EI.nil:EI (λ _=>False) (λ _=>[]) (λ _=>[]) 0 []:=⟨List.nodup_nil,λ r=>by simp,λ g hg=>by simp at hg,λ g hg=>by simp at hg,λ _ _=>⟨rfl,rfl⟩,zd _⟩
def EI.add{R:Row->Prop}{A B:Row->List Per}{n:Nat}(h:EI R A B n es)(ρ:Row)(xa xb:List Per):EI (λ r=>R r\/ρ=r) (λ r=>A r++if ρ=r then xa else[]) (λ r=>B r++if ρ=r then xb else[]) (n+1) (addT es ρ xa xb):=by unfold addT;cases hi:ixTE es ρ with|some j=>((obtain⟨hj,hr⟩:=xtS hi;have gd:es.getD j defT=es[j]:=by rw[z7,ze hj];rfl);(dsimp only;rw[gd];have fst:(es.set j (es[j].1,es[j].2.1++xa,es[j].2.2++xb)).map (·.1)=es.map (·.1):=by(rw[List.map_set];have:(es.map (·.1))[j]'(by simpa using hj)=es[j].1:=by simp);show (es.map (·.1)).set j es[j].1=_;rw[<-this];exact List.set_getElem_self _);have hRρ:R ρ:=(h.mem ρ).1 (by rw[<-hr];exact zK.2 ⟨es[j],zo hj,rfl⟩);(have hne:∀i(q:i<es.length),j≠i->ρ≠es[i].1:=λ i q J e=>by(have hn:=zB.1 h.nd;have ei:(es.map (·.1))[i]'(by simpa using q)=es[i].1:=by simp);(have ej:(es.map (·.1))[j]'(by simpa using hj)=es[j].1:=by simp);rcases Nat.lt_or_gt_of_ne J with Q|Q;exact hn j i (by simpa using hj) (by simpa using q) Q (by rw[ei,ej,hr,e]);exact hn i j (by simpa using q) (by simpa using hj) Q (by rw[ei,ej,hr,e]));refine⟨by rw[fst];exact h.nd,λ r=>?_,λ g hg=>?_,λ g hg=>?_,λ r O=>?_,by rw[y4];have:=h.len;omega⟩;rw[fst,h.mem];refine⟨.inl,?_⟩;rintro(h1|rfl);exact h1;exact hRρ;obtain⟨i,q,rfl⟩:=zp.1 hg;rw[y4]at q;rw[List.getElem_set];by_cases J:j=i;subst J;rw[if_pos rfl];show es[j].2.1++xa=A es[j].1++_;rw[if_pos hr.symm,h.pa _ (zo hj)];rw[if_neg J,if_neg (hne i q J),zD];exact h.pa _ (zo q);obtain⟨i,q,rfl⟩:=zp.1 hg;rw[y4]at q;rw[List.getElem_set];by_cases J:j=i;subst J;rw[if_pos rfl];show es[j].2.2++xb=B es[j].1++_;rw[if_pos hr.symm,h.pb _ (zo hj)];rw[if_neg J,if_neg (hne i q J),zD];exact h.pb _ (zo q);have h1:¬ R r:=λ c=>O (.inl c);have h2:¬ ρ=r:=λ c=>O (.inr c);obtain⟨z1,z2⟩:=h.zero r h1;rw[if_neg h2,if_neg h2,z1,z2];exact⟨rfl,rfl⟩)|none=>have hr:=xFi hi;dsimp only;have hρ:¬ R ρ:=λ c=>hr ((h.mem ρ).2 c);obtain⟨z1,z2⟩:=h.zero ρ hρ;have hne:∀g,g∈es->ρ≠g.1:=λ g hg e=>hr (by rw[e];exact zK.2 ⟨g,hg,rfl⟩);refine⟨?_,λ r=>?_,λ g hg=>?_,λ g hg=>?_,λ r O=>?_,by rw[z8];have:=h.len;simp;omega⟩;rw[zx];refine List.nodup_append.2 ⟨h.nd,by simp,λ a ha b hb e=>?_⟩;simp at hb;exact hr (by rw[<-hb,<-e];exact ha);rw[zx,zG,h.mem];simp only[zV,zW,zv];exact⟨λ c=>c.imp id Eq.symm,λ c=>c.imp id Eq.symm⟩;rcases zG.1 hg with hg|hg;rw[if_neg (hne g hg),zD];exact h.pa g hg;rw[zv]at hg;subst hg;rw[if_pos rfl,z1];rfl;rcases zG.1 hg with hg|hg;rw[if_neg (hne g hg),zD];exact h.pb g hg;rw[zv]at hg;subst hg;rw[if_pos rfl,z2];rfl;have h1:¬ R r:=λ c=>O (.inl c);have h2:¬ ρ=r:=λ c=>O (.inr c);obtain⟨z1,z2⟩:=h.zero r h1;rw[if_neg h2,if_neg h2,z1,z2];exact⟨rfl,rfl⟩
def xL2(l:List Fc)(r:Row):List Per:=(l.filter λ f=>decide (f.r=r)).map (·.p)
def xqA(l:List Fc)(r:Row)(t:Int):(xL2 l r).countP (hasP · t)=cnt l r t:=by unfold xL2 cnt;rw[List.countP_map,List.countP_filter];refine List.countP_congr λ f _=>?_;simp[and_comm]
def xvy(f:Fc)(l:List Fc)(r:Row):xL2 (f::l) r=(if f.r=r then[f.p]else[])++xL2 l r:=by unfold xL2;rw[List.filter_cons];by_cases h:f.r=r<;>simp[h]
def xCJ(l:List Fc)(r:Row):(xL2 l r).length<=l.length:=by unfold xL2;rw[za];exact List.length_filter_le _ _
def xE4:∀(l:List Fc)(R:Row->Prop)(A B:Row->List Per)(n:Nat)(es:List TE),EI R A B n es->EI (λ r=>R r\/∃f,f∈l/\f.r=r) (λ r=>A r++xL2 l r) B (n+l.length) (l.foldl (λ es f=>addT es f.r [f.p] []) es)
 |[],R,A,B,n,es,h=>by
  have e1:(λ r=>R r\/∃f,f∈([]:List Fc)/\f.r=r)=R:=funext λ r=>by simp
  have e2:(λ r=>A r++xL2 [] r)=A:=funext λ r=>by simp[xL2]
  rw[e1,e2];exact h
 |f::l,R,A,B,n,es,h=>by
  have:=xE4 l _ _ _ _ _ (h.add f.r [f.p] []);rw[List.foldl_cons];have e1:(λ r=>(R r\/f.r=r)\/∃g,g∈l/\g.r=r)=λ r=>R r\/∃g,g∈f::l/\g.r=r:=funext λ r=>by simp[or_assoc]
  have e2:(λ r=>(A r++if f.r=r then[f.p]else[])++xL2 l r)=λ r=>A r++xL2 (f::l) r:=funext λ r=>by rw[xvy,zw]
  have e3:(λ r=>B r++if f.r=r then[]else[])=B:=funext λ r=>by simp
  rw[e1,e2,e3]at this;rw[zF,show n+(l.length+1)=n+1+l.length by omega]
  exact this
def xE5:∀(l:List Fc)(R:Row->Prop)(A B:Row->List Per)(n:Nat)(es:List TE),EI R A B n es->EI (λ r=>R r\/∃f,f∈l/\f.r=r) A (λ r=>B r++xL2 l r) (n+l.length) (l.foldl (λ es f=>addT es f.r [] [f.p]) es)
 |[],R,A,B,n,es,h=>by
  have e1:(λ r=>R r\/∃f,f∈([]:List Fc)/\f.r=r)=R:=funext λ r=>by simp
  have e2:(λ r=>B r++xL2 [] r)=B:=funext λ r=>by simp[xL2]
  rw[e1,e2];exact h
 |f::l,R,A,B,n,es,h=>by
  have:=xE5 l _ _ _ _ _ (h.add f.r [] [f.p]);rw[List.foldl_cons];have e1:(λ r=>(R r\/f.r=r)\/∃g,g∈l/\g.r=r)=λ r=>R r\/∃g,g∈f::l/\g.r=r:=funext λ r=>by simp[or_assoc]
  have e2:(λ r=>(B r++if f.r=r then[f.p]else[])++xL2 l r)=λ r=>B r++xL2 (f::l) r:=funext λ r=>by rw[xvy,zw]
  have e3:(λ r=>A r++if f.r=r then[]else[])=A:=funext λ r=>by simp
  rw[e1,e2,e3]at this;rw[zF,show n+(l.length+1)=n+1+l.length by omega]
  exact this
def colT(a b:List Fc):List TE:=b.foldl (λ es f=>addT es f.r [] [f.p]) (a.foldl (λ es f=>addT es f.r [f.p] []) [])
def xH6(a b:List Fc):EI (λ r=>(∃f,f∈a/\f.r=r)\/∃f,f∈b/\f.r=r) (xL2 a) (xL2 b) (a.length+b.length) (colT a b):=by(have h:=xE5 b _ _ _ _ _ (xE4 a _ _ _ _ _ EI.nil);have e1:(λ r=>(False\/∃f,f∈a/\f.r=r)\/∃f,f∈b/\f.r=r)=λ r=>(∃f,f∈a/\f.r=r)\/∃f,f∈b/\f.r=r:=funext λ r=>by simp);have e2:(λ r=>([]:List Per)++xL2 a r)=xL2 a:=funext λ r=>rfl;have e3:(λ r=>([]:List Per)++xL2 b r)=xL2 b:=funext λ r=>rfl;rw[e1,e2,e3,show 0+a.length+b.length=a.length+b.length by omega]at h;exact h
def Keyed.skey{l:List Fc}(h:Keyed l){f:Fc}(hf:f∈l):xaG (f.r.map encV)=some (keyOf f.r):=xyp f.r (h.1.2 f hf) (h.2 f hf).1 (h.2 f hf).2
def xvp{f:Fc}(h:xaG (f.r.map encV)=some (keyOf f.r)):keyF (encF f)=keyOf f.r:=by show (xaG (f.r.map encV)).getD []=_;rw[h];rfl
def xyG:∀(l:List Fc)(es:List TE),(∀f,f∈l->xaG (f.r.map encV)=some (keyOf f.r))->(l.map encF).foldl (stepP false) (es.map encE)=(l.foldl (λ es f=>addT es f.r [f.p] []) es).map encE|[],es,_=>rfl|f::l,es,h=>by(rw[zV,List.foldl_cons,List.foldl_cons];have e:(stepP false) (es.map encE) (encF f)=(addT es f.r [f.p] []).map encE:=by show putP false (es.map encE) (keyF (encF f)) (f.r.map encV) (c1 f.p)=_;rw[xvp (h f Ψ),xG1]);rw[e];exact xyG l _ λ g hg=>h g (by simp[hg])
def xyH:∀(l:List Fc)(es:List TE),(∀f,f∈l->xaG (f.r.map encV)=some (keyOf f.r))->(l.map encF).foldl (stepP true) (es.map encE)=(l.foldl (λ es f=>addT es f.r [] [f.p]) es).map encE|[],es,_=>rfl|f::l,es,h=>by(rw[zV,List.foldl_cons,List.foldl_cons];have e:(stepP true) (es.map encE) (encF f)=(addT es f.r [] [f.p]).map encE:=by show putP true (es.map encE) (keyF (encF f)) (f.r.map encV) (c1 f.p)=_;rw[xvp (h f Ψ),xG2]);rw[e];exact xyH l _ λ g hg=>h g (by simp[hg])
def xGo{a b:List Fc}(ha:Keyed a)(hb:Keyed b):colV (a.map encF) (b.map encF)=(colT a b).map encE:=by unfold colV colT;rw[show ([]:List PE)=([]:List TE).map encE from rfl,xyG a [] λ f hf=>ha.skey hf,xyH b _ λ f hf=>hb.skey hf]
def xCB{l:List Fc}(h:Keyed l){f:Fc}(hf:f∈l):okF (encF f):=by(have e1:=xvp (h.skey hf);have e2:xaG (rowF (encF f))=some (keyOf f.r):=h.skey hf;have e3:=(h.2 f hf).2;unfold okF;rw[e1,e2];have m:(keyOf f.r).length<=4611686018427387904:=Ω);have c1:Nat.beq (encF f).cells.length 3:=rfl;have c2:xM6 [.list 3,.int .i64,.int .i64] (encF f).cells 0:=rfl;have c3:((encF f).one==false):=rfl;rw[c1,c2,c3];simp[m]
def xEL{a b:List Fc}(ha:Keyed a)(hb:Keyed b):colOk (a.map encF) (b.map encF):=by unfold colOk;have h1:=ha.1.1;have h2:=hb.1.1;simp only[zf,zI,List.mem_range,zl,za];refine⟨λ i hi=>?_,λ i hi=>?_,by omega⟩;rw[xad _ _ _ hi];exact xCB ha (zo hi);rw[xad _ _ _ hi];exact xCB hb (zo hi)
def xpm{N:Int->Nat}(h:IsLevs N P)(E:List Int)(hE:∀t,N t<=N (t - 1)+E.count t):P.length<=E.length:=by(have:(P.map (·.1)).length<=E.length:=by refine xtV _ _ λ t=>?_;(obtain⟨A,H,h1,h2,h3⟩:=h.lev;have e1:(P.map (·.1)).count t=((List.range H).map λ k=>((A k).map (·.1)).count t).sum:=by rw[(h3.map (·.1)).count_eq,List.map_flatMap,List.count_flatMap];rfl);(have e2:∀n,((List.range n).map λ k=>((A k).map (·.1)).count t).sum<=((List.range n).map λ k=>if N (t - 1)<=k/\k<N t then 1 else 0).sum:=λ n=>by induction n with|zero=>simp|succ n ih=>(rw[List.range_succ,zx,zx,List.sum_append,List.sum_append];simp only[zV,zW,List.sum_cons,List.sum_nil];have hn:((A n).map (·.1)).Nodup:=by unfold List.Nodup;rw[List.pairwise_map];refine List.Pairwise.imp_of_mem (λ{p q} hp hq h=>?_) (h2 n).1.2;have:=xbH.1 ((h2 n).1.1 p hp);omega);have J:((A n).map (·.1)).count t<=1:=List.nodup_iff_count.1 hn t;by_cases ht:t∈(A n).map (·.1);obtain⟨p,hp,rfl⟩:=zK.1 ht;obtain⟨a,b,_⟩:=xye (N:=N) (h2 n).1 (h2 n).2 hp;have hv:=xbH.1 ((h2 n).1.1 p hp);have:=a p.1 (Int.le_refl _) hv.2.1;rw[if_pos ⟨b,this⟩];omega;rw[List.count_eq_zero.2 ht];omega);have e3:=e2 H;have e4:=xyw (N (t - 1)) (N t) H;have e5:=hE t;have e6:=h1 t;omega);simpa using this
def xuF(ps:List Per)(t:Int):ps.countP (hasP · (t - 1))<=ps.countP (hasP · t)+(ps.map (·.2)).count t:=by induction ps with|nil=>simp|cons p ps ih=>(rw[List.countP_cons,List.countP_cons,zV,List.count_cons];have:(if hasP p (t - 1) then 1 else 0)<=(if hasP p t then 1 else 0)+(if(p.2==t) then 1 else 0):=by by_cases h1:hasP p (t - 1)=true;obtain⟨hv,a,b⟩:=xba.1 h1;by_cases h2:p.2=t;(have e:(p.2==t):=by simpa using h2);rw[if_pos h1,if_pos e];omega;have:hasP p t:=xba.2 ⟨hv,by omega,by omega⟩;rw[if_pos h1,if_pos this];omega;rw[if_neg h1];omega);omega
structure OpOk (op:List AV->List AV->Option (List AV)) (g:Nat->Nat->Nat):Prop where
 run:∀{N M:Int->Nat}{S T:List Per},StepI (λ t=>(N t:Int)) 1099511627776 S->StepI (λ t=>(M t:Int)) 1099511627776 T->S.length<=131072->T.length<=131072->(∀t,N t<=1048576)->(∀t,M t<=1048576)->
  ∃U:List Per,op (S.map encP) (T.map encP)=some (U.map encP)/\StepI (λ t=>((g (N t) (M t):Nat):Int)) 1099511627776 U/\U.length<=S.length+T.length
 zero:g 0 0=0
 le:∀x y,g x y<=x+y
 inc:∀a b:List Per,∃E:List Int,E.length<=a.length+b.length/\∀t,g (a.countP (hasP · t)) (b.countP (hasP · t))<=g (a.countP (hasP · (t - 1))) (b.countP (hasP · (t - 1)))+E.count t
def opA:OpOk xpE (λ x y=>x+y) where
 run:=λ{N M S T} hS hT lS lT hN hM=>by
  obtain⟨U,h1,h2,h3⟩:=xJp hS hT Ω Ω (λ t=>by have:=hN t;omega) (λ t=>by have:=hM t;omega)
  refine⟨U,h1,?_,h3⟩;rwa [show (λ t=>(N t:Int)+(M t:Int))=λ t=>(((N t+M t:Nat)):Int) from funext λ t=>by omega]at h2
 zero:=rfl
 le:=λ x y=>zd _
 inc:=fun a b=>⟨a.map (·.1)++b.map (·.1),by simp,fun t=>by
  have h1:=xhR a t;have h2:=xhR b t;rw [List.count_append];omega⟩
def opM:OpOk xpG (λ x y=>min x y) where
 run:=λ{N M S T} hS hT lS lT hN hM=>by
  obtain⟨U,h1,h2,h3⟩:=xKj hS hT Ω Ω
  refine⟨U,h1,?_,h3⟩;rwa [show (λ t=>min (N t:Int) (M t:Int))=λ t=>((min (N t) (M t):Nat):Int) from funext λ t=>by omega]at h2
 zero:=rfl
 le:=λ x y=>by omega
 inc:=fun a b=>⟨a.map (·.1)++b.map (·.1),by simp,fun t=>by
  have h1:=xhR a t;have h2:=xhR b t;rw [List.count_append];omega⟩
def opX:OpOk xjo (λ x y=>x - y) where
 run:=λ{N M S T} hS hT lS lT hN hM=>by
  obtain⟨U,h1,h2,h3⟩:=xJ3 hS hT Ω Ω (λ t=>by have:=hN t;omega) (λ t=>by have:=hM t;omega)
  refine⟨U,h1,?_,h3⟩;rwa [show (λ t=>max ((N t:Int) - (M t:Int)) 0)=λ t=>((N t - M t:Nat):Int) from funext λ t=>by omega]at h2
 zero:=rfl
 le:=λ x y=>by omega
 inc:=fun a b=>⟨a.map (·.1)++b.map (·.2),by simp,fun t=>by
  have h1:=xhR a t;have h2:=xuF b t;rw [List.count_append];omega⟩
def xJt(ps:List Per):ps.map c1=(ps.map λ p=>(p,(1:Int))).map encC:=by rw[List.map_map];rfl
def xCA(ps:List Per)(h:ps.length<=32768):∃S,xan (ps.map c1)=some (S.map encP)/\StepI (λ t=>((ps.countP (hasP · t):Nat):Int)) 1099511627776 S/\S.length<=2*ps.length+1:=by obtain⟨S,h1,h2,h3⟩:=xle _ (xt1 (ps:=ps) Ω);refine⟨S,by rw[xJt,h1],?_,by simpa using h3⟩;rwa [show sumC (ps.map λ p=>(p,(1:Int)))=λ t=>((ps.countP (hasP · t):Nat):Int) from funext λ t=>xui ps t]at h2
variable {g:Nat->Nat->Nat}{op:List AV->List AV->Option (List AV)}
def xGv(h:OpOk op g)(r:Row)(pa pb:List Per)(ha:pa.length<=32768)(hb:pb.length<=32768):∃P:List Per,lvOk op (encE (r,pa,pb))/\lvOf op (encE (r,pa,pb))=P.map encP/\IsLevs (λ t=>g (pa.countP (hasP · t)) (pb.countP (hasP · t))) P/\P.length<=pa.length+pb.length:=by
 obtain⟨S,s1,s2,s3⟩:=xCA pa ha;obtain⟨T,t1,t2,t3⟩:=xCA pb hb;have la:∀t,pa.countP (hasP · t)<=pa.length:=λ t=>List.countP_le_length;have lb:∀t,pb.countP (hasP · t)<=pb.length:=λ t=>List.countP_le_length;obtain⟨U,u1,u2,u3⟩:=h.run s2 t2 Ω Ω (λ t=>by have:=la t;omega) (λ t=>by have:=lb t;omega);obtain ⟨P,p1,p2⟩:=xyS (N:=fun t=>g (pa.countP (hasP · t)) (pb.countP (hasP · t))) (H:=pa.length+pb.length) Ω (fun t=>by
  have:=h.le (pa.countP (hasP · t)) (pb.countP (hasP · t));have:=la t;have:=lb t;omega) (fun t ht=>by
  rw [xsy pa t ht,xsy pb t ht];exact h.zero) u2 Ω
 obtain⟨E,e1,e2⟩:=h.inc pa pb;have lv:lvOf op (encE (r,pa,pb))=P.map encP:=by show (xaI ((op ((xan (pa.map c1)).getD []) ((xan (pb.map c1)).getD [])).getD [])).getD []=_;rw[s1,t1];show (xaI ((op (S.map encP) (T.map encP)).getD [])).getD []=_;rw[u1];show (xaI (U.map encP)).getD []=_;rw[p1];rfl
 refine⟨P,?_,lv,p2,?_⟩;unfold lvOk;rw[lv];show ((xan (pa.map c1)).isSome&&((xan (pb.map c1)).isSome&&((op ((xan (pa.map c1)).getD []) ((xan (pb.map c1)).getD [])).isSome&&((xaI ((op ((xan (pa.map c1)).getD []) ((xan (pb.map c1)).getD [])).getD [])).isSome&&_))))=true;rw[s1,t1];simp only[zh,zk,u1,p1,Bool.true_and,zI,List.mem_range,za];intro i hi;rw[xad _ _ _ hi];rfl;have:=xpm p2 E e2;omega
def xBc(f:Fc)(l:List Fc):∀R:List Row,(R.map λ r=>(xL2 (f::l) r).length).sum=R.countP (λ r=>decide (f.r=r))+(R.map λ r=>(xL2 l r).length).sum|[]=>rfl|r::R=>by rw[zV,zV,List.sum_cons,List.sum_cons,xBc f l R,xvy,List.countP_cons];by_cases h:f.r=r<;>simp[h]<;>omega
def xEQ{R:List Row}(hR:R.Nodup)(x:Row):R.countP (λ r=>decide (x=r))<=1:=by induction R with|nil=>simp|cons r R ih=>obtain⟨n1,n2⟩:=List.nodup_cons.1 hR;rw[List.countP_cons];by_cases h:x=r;(have:R.countP (λ r=>decide (x=r))=0:=List.countP_eq_zero.2 λ y hy=>by intro e;simp only[zl]at e;exact n1 (by rw[<-h,e];exact hy));rw[this];split<;>omega;have:=ih n2;simp[h];omega
def xst:∀(l:List Fc)(R:List Row),R.Nodup->(R.map λ r=>(xL2 l r).length).sum<=l.length|[],R,_=>(by(have:∀R:List Row,(R.map λ r=>(xL2 [] r).length).sum=0:=λ R=>by induction R with|nil=>rfl|cons r R ih=>rw[zV,List.sum_cons,ih];rfl);rw[this];exact zQ _)|f::l,R,h=>by rw[xBc,zF];have:=xst l R h;have:=xEQ h f.r;omega
variable {L:Row->List Per}
def xsC{a b:List Fc}:∀(R:List Row),(∀r,r∈R->(L r).length<=(xL2 a r).length+(xL2 b r).length)->(xLx R L).length<=(R.map λ r=>(xL2 a r).length).sum+(R.map λ r=>(xL2 b r).length).sum|[],_=>by simp[xLx]|r::R,h=>by have ih:=xsC R λ x hx=>h x (by simp[hx]);have h1:=h r Ψ;(have e:xLx (r::R) L=((L r).map λ p=>(⟨r,p⟩:Fc))++xLx R L:=by simp[xLx]);rw[e,z8,za,zV,zV,List.sum_cons,List.sum_cons];omega
def IsB(N:Row->Int->Nat)(B:List Fc):Prop:=∃R L,Strict cmpR R/\(∀r t,0<N r t->r∈R)/\(∀r,r∈R->IsLevs (N r) (L r))/\B=xLx R L
def xqI(L:Row->List Per):∀R:List Row,xLx R L=xLx (R.filter λ r=>!(L r).isEmpty) L|[]=>rfl|r::R=>by(have ih:=xqI L R;have e:∀R:List Row,xLx (r::R) L=((L r).map λ p=>(⟨r,p⟩:Fc))++xLx R L:=λ R=>by simp[xLx]);rw[List.filter_cons];cases h:L r with|nil=>rw[e,h,ih];simp|cons p ps=>simp only[List.isEmpty_cons,Bool.not_false,if_true];rw[e,e,ih]
def IsLevs.pos{N:Int->Nat}(h:IsLevs N P):P≠[]↔∃t,0<N t:=by constructor;intro hp;obtain⟨p,hp⟩:=List.exists_mem_of_ne_nil P hp;refine⟨p.1,?_⟩;rw[<-h.count];exact List.countP_pos_iff.2 ⟨p,hp,xzk (h.valid p hp)⟩;rintro⟨t,ht⟩ rfl;rw[<-h.count]at ht;simp at ht
def IsB.unique{N:Row->Int->Nat}{B B':List Fc}(h:IsB N B)(h':IsB N B'):B=B':=by
 obtain⟨R,L,h1,h2,h3,rfl⟩:=h;obtain⟨R',L',Q,J,q,rfl⟩:=h';rw[xqI L R,xqI L' R'];have hm:∀r,r∈R.filter (λ r=>!(L r).isEmpty)↔∃t,0<N r t:=λ r=>by rw[List.mem_filter];constructor;rintro⟨a,b⟩;exact(h3 r a).pos.1 (by simpa using b);rintro⟨t,ht⟩;have:=h2 r t ht;exact⟨this,by have:=(h3 r this).pos.2 ⟨t,ht⟩;simpa using this⟩
 have hm':∀r,r∈R'.filter (λ r=>!(L' r).isEmpty)↔∃t,0<N r t:=λ r=>by rw[List.mem_filter];constructor;rintro⟨a,b⟩;exact(q r a).pos.1 (by simpa using b);rintro⟨t,ht⟩;have:=J r t ht;exact⟨this,by have:=(q r this).pos.2 ⟨t,ht⟩;simpa using this⟩
 have eR:R.filter (λ r=>!(L r).isEmpty)=R'.filter (λ r=>!(L' r).isEmpty):=xp3 xmN (λ _ _=>xjD) (h1.sublist List.filter_sublist) (Q.sublist List.filter_sublist) λ r=>by rw[hm,hm']
 rw[<-eR];refine xrO λ r hr=>?_;have V:=(List.mem_filter.1 hr).1;have O:=J r;obtain⟨t,ht⟩:=(hm r).1 hr;exact(h3 r V).unique (q r (O t ht))
def xL8.isB{l B:List Fc}(h:xL8 l B):IsB (cnt l) B:=by obtain⟨R,L,h1,h2,rfl⟩:=h;exact⟨R,L,h1.1,λ r t ht=>(h1.2 r).2 (xq8.2 ⟨t,ht⟩),h2,rfl⟩
def IsB.cntB{N:Row->Int->Nat}{B:List Fc}(h:IsB N B)(r:Row)(t:Int):cnt B r t=N r t:=by obtain⟨R,L,h1,h2,h3,rfl⟩:=h;rw[xpi L r t R (h1.nodup xmN)];split;rename_i hr;exact(h3 r hr).count t;rename_i hr;cases hc:N r t with|zero=>rfl|succ n=>exact absurd (h2 r t Ω) hr
def IsB.valid{N:Row->Int->Nat}{B:List Fc}(h:IsB N B){f:Fc}(hf:f∈B):pv f.p:=by obtain⟨R,L,h1,h2,h3,rfl⟩:=h;obtain⟨a,b⟩:=xnd hf;exact(h3 _ a).valid _ b
def IsB.congr{N M:Row->Int->Nat}{B:List Fc}(h:IsB N B)(e:∀r t,N r t=M r t):IsB M B:=by rwa [show N=M from funext λ r=>funext λ t=>e r t]at h
def xDJ{α β:Type}(es:List α)(d:α)(f:α->List β):(List.range es.length).flatMap (λ k=>f (es.getD k d))=es.flatMap f:=by(have:(List.range es.length).map (λ k=>es.getD k d)=es:=by refine List.ext_getElem Ψ λ n h1 h2=>?_;simp[z7,h2]);conv=>rhs;rw[<-this,List.flatMap_map]
def xsd{α β:Type}{f g:α->List β}:∀{l:List α},(∀a,a∈l->f a=g a)->l.flatMap f=l.flatMap g|[],_=>rfl|a::l,h=>by rw[zR,zR,h a Ψ,xsd λ b hb=>h b (by simp[hb])]
def Bld.perm{l l':List Fc}(h:Bld l)(hp:l'.Perm l):Bld l':=⟨⟨⟨by rw[hp.length_eq];exact h.1.1.1,λ f hf=>h.1.1.2 f (hp.mem_iff.1 hf)⟩,λ f hf=>h.1.2 f (hp.mem_iff.1 hf)⟩,by rw[hp.length_eq];exact h.2.1,h.2.2.of λ f hf=>⟨f,hp.mem_iff.1 hf,rfl⟩⟩
def xya(h:OpOk op g){a b:List Fc}(ha:Keyed a)(hb:Keyed b)(hl:a.length+b.length<=1024)(ac:R20 (a++b)):∃B:List Fc,cmbV op (a.map encF) (b.map encF)=some (B.map encF)/\IsB (λ r t=>g (cnt a r t) (cnt b r t)) B/\B.length<=a.length+b.length/\∀f,f∈B->(∃x,x∈a/\x.r=f.r)\/∃x,x∈b/\x.r=f.r:=by
 have hE:=xH6 a b;generalize af:colT a b=es at hE;have O:colV (a.map encF) (b.map encF)=es.map encE:=by rw[xGo ha hb,af]
 obtain⟨L,hL⟩:=xph (R:=es.map (·.1)) (Q:=λ r P=>lvOk op (encE (r,xL2 a r,xL2 b r))/\lvOf op (encE (r,xL2 a r,xL2 b r))=P.map encP/\IsLevs (λ t=>g (cnt a r t) (cnt b r t)) P/\P.length<=(xL2 a r).length+(xL2 b r).length) λ r hr=>by have l1:=xCJ a r;have l2:=xCJ b r;obtain⟨P,p1,p2,p3,p4⟩:=xGv h r (xL2 a r) (xL2 b r) Ω Ω;refine⟨P,p1,p2,?_,p4⟩;rwa [show (λ t=>g ((xL2 a r).countP (hasP · t)) ((xL2 b r).countP (hasP · t)))=λ t=>g (cnt a r t) (cnt b r t) from funext λ t=>by rw[xqA,xqA]]at p3
 have Z:∀e,e∈es->e=(e.1,xL2 a e.1,xL2 b e.1):=λ e he=>by have h1:=hE.pa e he;have h2:=hE.pb e he;obtain⟨x,y,z⟩:=e;simp only at h1 h2;rw[h1,h2]
 have ab:∀e,e∈es->lvOk op (encE e)/\lvOf op (encE e)=(L e.1).map encP:=λ e he=>by have h1:=hL e.1 (zK.2 ⟨e,he,rfl⟩);rw[<-Z e he]at h1;exact⟨h1.1,h1.2.1⟩
 have ae:∀k,k<es.length->fkOf op (es.map encE) k=(mk (es.getD k defT).1 (L (es.getD k defT).1)).map encF:=λ k hk=>by(have gd:es.getD k defT=es[k]:=by rw[z7,ze hk];rfl);unfold fkOf;rw[xsH hk,gd,(ab _ (zo hk)).2];unfold mk;rw[List.map_map,List.map_map];rfl
 have V:∀ord:List Nat,(∀k,k∈ord->k<es.length)->ord.flatMap (fkOf op (es.map encE))=(ord.flatMap λ k=>mk (es.getD k defT).1 (L (es.getD k defT).1)).map encF:=λ ord ho=>by rw[List.map_flatMap];exact xsd λ k hk=>ae k (ho k hk)
 have hF:(List.range es.length).flatMap (λ k=>mk (es.getD k defT).1 (L (es.getD k defT).1))=xLx (es.map (·.1)) L:=by rw[xDJ es defT λ e=>mk e.1 (L e.1)];unfold xLx;rw[List.flatMap_map];rfl
 have J:flatOf op (es.map encE)=(xLx (es.map (·.1)) L).map encF:=by unfold flatOf;rw[za,V _ λ k hk=>List.mem_range.1 hk,hF]
 have aa:(xLx (es.map (·.1)) L).length<=a.length+b.length:=by have h1:=xsC (L:=L) (a:=a) (b:=b) (es.map (·.1)) λ r hr=>(hL r hr).2.2.2;have h2:=xst a _ hE.nd;have h3:=xst b _ hE.nd;omega
 have q:∀f,f∈xLx (es.map (·.1)) L->(∃x,x∈a/\x.r=f.r)\/∃x,x∈b/\x.r=f.r:=λ f hf=>(hE.mem _).1 (xnd hf).1;have W:Bld (xLx (es.map (·.1)) L):=by refine⟨⟨⟨by omega,λ f hf=>?_⟩,λ f hf=>?_⟩,by omega,ac.of λ f hf=>?_⟩;rcases q f hf with⟨x,hx,e⟩|⟨x,hx,e⟩;rw[<-e];exact ha.1.2 x hx;rw[<-e];exact hb.1.2 x hx;rcases q f hf with⟨x,hx,e⟩|⟨x,hx,e⟩;rw[<-e];exact ha.2 x hx;rw[<-e];exact hb.2 x hx;rcases q f hf with⟨x,hx,e⟩|⟨x,hx,e⟩;exact⟨x,zG.2 (.inl hx),e.symm⟩;exact⟨x,zG.2 (.inr hx),e.symm⟩
 obtain⟨B,b1,b2⟩:=xEA _ W;have Y:∀r t,cnt (xLx (es.map (·.1)) L) r t=g (cnt a r t) (cnt b r t):=λ r t=>by rw[xpi L r t _ hE.nd];split;rename_i hr;exact(hL r hr).2.2.1.count t;rename_i hr;have:=hE.zero r λ c=>hr ((hE.mem r).2 c);rw[<-xqA a,<-xqA b,this.1,this.2];exact h.zero.symm
 refine⟨B,?_,b2.isB.congr Y,Nat.le_trans b2.len1 aa,λ f hf=>?_⟩;have ad:cmbOk op (a.map encF) (b.map encF):=by(unfold cmbOk;rw[O,xEL ha hb,J,b1];have c2:((List.range (es.map encE).length).all λ k=>lvOk op ((es.map encE).getD k defP)):=by(simp only[zI,List.mem_range,za];intro k hk;have gd:es.getD k defT=es[k]:=by rw[z7,ze hk];rfl);rw[xsH hk,gd];exact(ab _ (zo hk)).1);(have c3:((xLx (es.map (·.1)) L).map encF).length<=1099511627776:=by rw[za];omega);(have c4:∀ord:List Nat,ord.Perm (List.range (es.map encE).length)->xcy (ord.flatMap (fkOf op (es.map encE)))=some (B.map encF):=λ ord ho=>by rw[za]at ho;rw[V ord λ k hk=>List.mem_range.1 (ho.mem_iff.1 hk)];(have hp:(ord.flatMap λ k=>mk (es.getD k defT).1 (L (es.getD k defT).1)).Perm (xLx (es.map (·.1)) L):=by rw[<-hF];exact ho.flatMap_right _);obtain⟨B',q1,q2⟩:=xEA _ (W.perm hp);rw[q1,q2.unique b2 λ r t=>xz8 hp r t]);rw[c2,decide_eq_true c3];simp only[Bool.true_and,zf,zl,zk,and_true];exact c4
 unfold cmbV;rw[ad];show xcy (flatOf op (colV (a.map encF) (b.map encF)))=_;rw[O,J,b1];obtain⟨_,x,hx,e⟩:=b2.valid hf;rw[<-e];exact q x hx
def inRg(v:Val):Prop:=-1125899906842624<=v.i/\v.i<=1125899906842624
def TVal(v:Val):Prop:=v.wf/\v.t.length<=1073741824
def wf64{n:Int}(h1:-9223372036854775808<=n)(h2:n<=9223372036854775807):(Lit.int .i64 n).wf:=by show (decide ((IntKind.i64).min<=n)&&decide (n<=(IntKind.i64).max))=true;rw[zf,zl,zl];exact⟨h1,h2⟩
def sV0(v:Val):xMx (Sh.int .i64) ((encV v).cells.getD 0 .top):=rfl
def xMm(v:Val):Prop:=TVal v/\inRg v
def xy5(s:List UInt8)(hl:s.length<=200):∀d k:Nat,k+d=s.length->∃b,Iter (xaW s) (k:Int)=some (b,false,())|0,k,h=>by(have hk:k=s.length:=Ω);subst hk;refine⟨false,xac ?_⟩;simp only[xaW,xdZ,zy,zm,xae,sUF]|d+1,k,h=>by(have h1:(k:Int)<(s.length:Int):=Ω);by_cases c1:(((s.getD k (0:UInt8)).toNat:Nat):Int)<32;refine⟨true,xac ?_⟩;simp only[xaW,xdZ,sBU,h1,c1];by_cases c2:(((s.getD k (0:UInt8)).toNat:Nat):Int)>126;refine⟨true,xac ?_⟩;simp only[xaW,xdZ,sBU,h1,c1,c2];obtain⟨b,ih⟩:=xy5 s hl d (k+1) Ω;refine⟨b,?_⟩;rw[<-ih];refine xak ?_;simp only[xaW,xdZ,sBU,h1,c1,c2,xL0 (n:=k) Ω]
def xGZ(s:List UInt8)(hl:s.length<=200):∃b,xkB s=some b:=by obtain⟨b,e⟩:=xy5 s hl s.length 0 Ω;have e:Iter (xaW s) (0:Int)=some (b,false,()):=e;unfold xkB xl8;rw[e];cases b with|true=>exact⟨false,rfl⟩|false=>exact⟨true,rfl⟩
def xIB(k i:Int)(t:List UInt8):∃b,xrW k i t=some b/\(b->xMm ⟨k,i,t⟩):=by
 have G:0<=k->k<=3->-1125899906842624<=i->i<=1125899906842624->t.length<=200->xMm ⟨k,i,t⟩:=λ h1 h2 h3 h4 h5=>
  ⟨⟨⟨wf64 (show -9223372036854775808<=k by omega) (show k<=9223372036854775807 by omega),wf64 (show -9223372036854775808<=i by omega) (show i<=9223372036854775807 by omega),by show t.length<=maxLen;unfold maxLen;omega⟩,by show t.length<=_;omega⟩,⟨h3,h4⟩⟩
 unfold xrW xpQ;by_cases k0:k=0;by_cases i0:i=0;refine⟨t==[],by simp[xaH,k0,i0,sUF],λ h=>?_⟩;have:t=[]:=by simpa using h
 exact G Ω Ω Ω Ω (by rw[this];simp);exact⟨false,by simp[xaH,k0,i0,sUF],λ h=>by simp at h⟩;by_cases k1:k=1;by_cases t0:t=[];by_cases i0:i>=-1125899906842624;refine⟨decide (i<=1125899906842624),by simp[xaH,k1,t0,i0,sUF],λ h=>?_⟩;have:i<=1125899906842624:=by simpa using h
 exact G Ω Ω Ω Ω (by rw[t0];simp);exact⟨false,by simp[xaH,k1,t0,i0,sUF],λ h=>by simp at h⟩;exact⟨false,by simp[xaH,k1,t0,sUF],λ h=>by simp at h⟩;by_cases k2:k=2;by_cases i0:i=0;by_cases tl:(t.length:Int)<=200;obtain⟨b,hb⟩:=xGZ t Ω;refine⟨b,by simp[xaH,k2,i0,tl,hb,sUF],λ h=>?_⟩;exact G Ω Ω Ω Ω Ω;exact⟨false,by simp[xaH,k2,i0,tl,sUF],λ h=>by simp at h⟩;exact⟨false,by simp[xaH,k2,i0,sUF],λ h=>by simp at h⟩;by_cases k3:k=3;by_cases t0:t=[];by_cases i0:i=0;exact⟨true,by simp[xaH,k3,t0,i0,sUF],λ h=>G Ω Ω Ω Ω (by rw[t0];simp)⟩;refine⟨i==1,by simp[xaH,k3,t0,i0,sUF],λ h=>?_⟩;have:i=1:=by simpa using h
 exact G Ω Ω Ω Ω (by rw[t0];simp);exact⟨false,by simp[xaH,k3,t0,sUF],λ h=>by simp at h⟩;exact⟨false,by simp[xaH,k0,k1,k2,k3,sUF],λ h=>by simp at h⟩
def xyF(row:Row)(q:List Int)(hl:row.length=q.length)(hk:q.length<=48):∀d n:Nat,n+d=row.length->∃b,Iter (xbl (row.map encV) (q.map encN)) (n:Int)=some (!b,false,())/\(b=true->∀v,v∈row.drop n->xMm v)
 |0,n,h=>by
  have hn:n=row.length:=by omega
  subst hn;refine⟨true,xac ?_,λ _ v hv=>by rw[zq (zd _)]at hv;simp at hv⟩
  simp only[xbl,xfa,za,zy,zm,xae,Bool.not_true,sUF]
 |d+1,n,h=>by
  have hn:n<row.length:=by omega
  have J:n<q.length:=by omega
  have h1:(n:Int)<(row.length:Int):=by omega
  have h2:(n:Int)<(q.length:Int):=by omega
  have gf:(row.map encV).getD n .top=encV row[n]:=xad _ _ _ hn;have gk:(q.map encN).getD n .top=encN q[n]:=xad _ _ _ J;obtain⟨b1,e1,g1⟩:=xIB row[n].k row[n].i row[n].t;cases b1 with
  |false=>
   refine⟨false,xac ?_,λ h=>by simp at h⟩
   simp only[xbl,xfa,xfJ,sBU,hn,h1,gf,cV0,cV1,cV2,lV,sV,e1]
  |true=>
   obtain⟨b,ih,O⟩:=xyF row q hl hk d (n+1) (by omega)
   have hd:∀c,c=true->b=c->∀v,v∈row.drop n->xMm v:=λ c hc hb v hv=>by
    rw[xaP hn]at hv;rcases zC.1 hv with rfl|hv
    . exact g1 rfl
    . exact O (by rw[hb,hc]) v hv
   by_cases k0:row[n].k=0
   . refine⟨b,?_,λ hb=>hd true rfl hb⟩
     rw[<-ih];refine xak ?_;have k0':(row[n].k !=0)=false:=by simp[k0]
     simp only[xbl,xfa,xfJ,sBU,hn,h1,gf,cV0,cV1,cV2,lV,sV,sV0,e1,k0',xL0 (n:=n) (by omega)]
   . have k0':(row[n].k !=0)=true:=by simp[k0]
     by_cases kk:row[n].k=q[n]
     . refine⟨b,?_,λ hb=>hd true rfl hb⟩
       rw[<-ih];refine xak ?_;have kk':(row[n].k !=q[n])=false:=by simp[kk]
       simp only[xbl,xfa,xfJ,sBU,hn,J,h1,h2,gf,gk,cV0,cV1,cV2,lV,sV,cN,sN,sV0,e1,k0',kk',xL0 (n:=n) (by omega)]
     . have kk':(row[n].k !=q[n])=true:=by simp[kk]
       refine⟨false,xac ?_,λ h=>by simp at h⟩
       simp only[xbl,xfa,xfJ,sBU,hn,J,h1,h2,gf,gk,cV0,cV1,cV2,lV,sV,cN,sN,sV0,e1,k0',kk']
def xG9(row:Row)(q:List Int)(hk:q.length<=48):∃b,xqm (row.map encV) (q.map encN)=some b/\(b->row.length=q.length/\∀v,v∈row->xMm v):=by unfold xqm xq0;by_cases hl:row.length=q.length;obtain⟨b,e,g⟩:=xyF row q hl hk row.length 0 Ω;have e:Iter (xbl (row.map encV) (q.map encN)) (0:Int)=_:=e;refine⟨b,?_,λ hb=>⟨hl,by simpa using g hb⟩⟩;rw[e];simp only[sBU,hl,bne_self_eq_false];cases b<;>rfl;refine⟨false,?_,λ h=>by simp at h⟩;(have:(((row.length:Nat):Int) !=((q.length:Nat):Int)):=by simp;omega);simp only[za,this,xab,sUF]
def xyR(q:List Int)(hk:q.length<=48):∀d n:Nat,n+d=q.length->∃b,Iter (xbY (q.map encN)) (n:Int)=some (b,false,())|0,n,h=>by(have hn:n=q.length:=Ω);subst hn;refine⟨false,xac ?_⟩;simp only[xbY,xho,za,zy,zm,xae,sUF]|d+1,n,h=>by(have hn:n<q.length:=Ω);(have h1:(n:Int)<(q.length:Int):=Ω);have gk:(q.map encN).getD n .top=encN q[n]:=xad _ _ _ hn;cases c:xsV q[n]with|false=>refine⟨true,xac ?_⟩;simp only[xbY,xho,sBU,hn,h1,gk,cN,sN,c]|true=>obtain⟨b,ih⟩:=xyR q hk d (n+1) Ω;refine⟨b,?_⟩;rw[<-ih];refine xak ?_;simp only[xbY,xho,sBU,hn,h1,gk,cN,sN,c,xL0 (n:=n) Ω]
def xDT(q:List Int)(hk:q.length<=48):∃b,xpb (q.map encN)=some b:=by obtain⟨b,e⟩:=xyR q hk q.length 0 Ω;have e:Iter (xbY (q.map encN)) (0:Int)=some (b,false,()):=e;unfold xpb xpS;rw[e];cases b with|true=>exact⟨false,rfl⟩|false=>exact⟨true,rfl⟩
def FactOk(q:List Int)(f:Fc):Prop:=pv f.p/\f.r.length=q.length/\∀v,v∈f.r->xMm v
def xwL(q:List Int)(hk:q.length<=48)(l:List Fc)(hl:l.length<=1024):∀d n:Nat,n+d=l.length->∃b,Iter xbZ ((n:Int),q.map encN,l.map encF)=some (if b=true then(false,(false,[],[]),(q.map encN,l.map encF))else(true,(false,q.map encN,l.map encF),([],[])))/\(b=true->∀f,f∈l.drop n->FactOk q f)|0,n,h=>by(have hn:n=l.length:=by omega);subst hn;refine⟨true,xac ?_,λ _ v hv=>by rw[zq (zd _)]at hv;simp at hv⟩;simp only[xbZ,xfL,za,zy,zm,xae,if_true,sUF]|d+1,n,h=>by(have hn:n<l.length:=by omega);(have h1:(n:Int)<(l.length:Int):=by omega);have gf:(l.map encF).getD n .top=encF l[n]:=xad _ _ _ hn;obtain⟨b1,e1,g1⟩:=xG9 l[n].r q hk;cases hv:pv l[n].p with|false=>refine⟨false,xac ?_,λ h=>by simp at h⟩;simp only[xbZ,xfL,sBU,hn,h1,gf,cF0,cF1,cF2,sF0,sF1,sF2,lF,sF12,sF02,xno,hv,if_false];simp|true=>cases b1 with|false=>refine⟨false,xac ?_,λ h=>by simp at h⟩;simp only[xbZ,xfL,sBU,hn,h1,gf,cF0,cF1,cF2,sF0,sF1,sF2,lF,sF12,sF02,xno,hv,e1];simp|true=>obtain⟨b,ih,J⟩:=xwL q hk l hl d (n+1) (by omega);refine⟨b,?_,λ hb f hf=>?_⟩;rw[<-ih];refine xak ?_;simp only[xbZ,xfL,sBU,hn,h1,gf,cF0,cF1,cF2,sF0,sF1,sF2,lF,sF12,sF02,xno,hv,e1,xL0 (n:=n) (by omega)];rw[xaP hn]at hf;rcases zC.1 hf with rfl|hf;exact⟨hv,g1 rfl⟩;exact J hb f hf
def xHi(q:List Int)(hk:q.length<=48)(l:List Fc)(hl:l.length<=1024):∃b,xpc (q.map encN) (l.map encF)=some b/\(b=true->∀f,f∈l->FactOk q f):=by obtain⟨b,e,g⟩:=xwL q hk l hl l.length 0 (by omega);have e:Iter xbZ ((0:Int),q.map encN,l.map encF)=_:=e;obtain⟨bk,ek⟩:=xDT q hk;unfold xpc xpV;cases b with|false=>rw[if_neg (by simp)]at e;refine⟨false,?_,λ h=>by simp at h⟩;simp only[xjl,xeQ,sBU,e]|true=>(rw[if_pos rfl]at e;have h1:((q.length:Nat):Int)<=48:=by omega);by_cases h0:((q.length:Nat):Int)>0;refine⟨bk,?_,λ _ f hf=>g rfl f (by simpa using hf)⟩;simp only[xjl,xeQ,sBU,e,h0,h1,ek];refine⟨false,?_,λ h=>by simp at h⟩;simp only[xjl,xeQ,sBU,e,h0]
def xAV(a b:List Int)(ha:a.length<=1048576):xgh (a.map encN) (b.map encN)=some (decide (a=b)):=by
 unfold xgh xma;by_cases hl:a.length=b.length;have e:Iter (xb5 (a.map encN) (b.map encN)) (0:Int)=some (if a=b then(false,false,())else(true,false,())):=by refine xCp a b hl (λ n h h2=>?_) ?_;(have h1:(n:Int)<(a.length:Int):=Ω);(have h3:(n:Int)<(b.length:Int):=Ω);have gf:(a.map encN).getD n .top=encN a[n]:=xad _ _ _ h;have gg:(b.map encN).getD n .top=encN b[n]:=xad _ _ _ h2;simp only[xb5,xgV,sBU,h,h1,h2,h3,gf,gg,cN,sN,xL0 (n:=n) Ω];by_cases he:a[n]=b[n]<;>simp[he,xab,xae,xaH,sUF];simp only[xb5,xgV,za,zy,zm,xae,sUF]
 have hne:(((a.length:Nat):Int) !=((b.length:Nat):Int))=false:=by simp[hl]
 simp only[za,hne,xae,e,sUF];by_cases he:a=b<;>simp[he,xab,xae,sUF];have hne:(((a.length:Nat):Int) !=((b.length:Nat):Int)):=by simp;omega
 have:a≠b:=λ e=>hl (by rw[e]);simp only[za,hne,xab,this,zm,sUF]
def xF8(ka kb:List Int)(a b:List Fc)(hk:ka.length<=1048576)(h:a.length<=1048576)(hr:∀f,f∈a->f.r.length<=60):xb2 (ka.map encN) (a.map encF) (kb.map encN) (b.map encF)=some (decide (ka=kb)&&decide (a=b)):=by have e1:=xAV ka kb hk;have e2:=xub a b h (λ f hf=>by have:=hr f hf;unfold maxLen;omega);unfold xb2 xpT;simp only[e1,e2,zk,zh,xab,sUF];cases decide (ka=kb)<;>simp[xab,xae,sUF]
structure SR1 (K:List Int) (l:List Fc):Prop where
 len:l.length<=16
 kl:K.length<=48
 fact:∀f,f∈l->FactOk K f
def xE3(K:List Int)(l:List Fc):∃b,xni (K.map encN) (l.map encF)=some b/\(b->SR1 K l):=by unfold xni xrQ;simp only[za];by_cases h1:((l.length:Nat):Int)<=16;by_cases h2:((K.length:Nat):Int)<=48;obtain⟨b,e,g⟩:=xHi K Ω l Ω;refine⟨b,?_,λ hb=>⟨by omega,by omega,g hb⟩⟩;simp only[h1,h2,zn,xab,e,zk,zh,sUF];refine⟨false,?_,λ h=>by simp at h⟩;simp only[h1,h2,zn,zm,xab,xae,sUF];refine⟨false,?_,λ h=>by simp at h⟩;simp only[h1,zm,xae,sUF]
def xCE(Ka Kb:List Int)(a b:List Fc):∃c,xlP (Ka.map encN) (a.map encF) (Kb.map encN) (b.map encF)=some c/\(c->SR1 Ka a/\SR1 Kb b/\Ka=Kb):=by obtain⟨x,x1,x2⟩:=xE3 Ka a;obtain⟨y,y1,y2⟩:=xE3 Kb b;unfold xlP xqS;cases x with|false=>exact⟨false,by simp only[x1,zk,zh,xab,xae,sUF],λ h=>by simp at h⟩|true=>cases y with|false=>exact⟨false,by simp only[x1,y1,zk,zh,xab,xae,sUF],λ h=>by simp at h⟩|true=>have e:=xAV Ka Kb (by have:=(x2 rfl).kl;omega);refine⟨decide (Ka=Kb),by simp only[x1,y1,e,zk,zh,xab,sUF],λ h=>⟨x2 rfl,y2 rfl,by simpa using h⟩⟩
def Nice(l:List Fc):Prop:=∀f,f∈l->f.r.length<=48/\∀v,v∈f.r->xMm v
variable {K:List Int}
def SR1.nice{l:List Fc}(h:SR1 K l):Nice l:=λ f hf=>by have h1:=(h.fact f hf).2.1;have h2:=h.kl;exact⟨by omega,(h.fact f hf).2.2⟩
def Nice.keyed{l:List Fc}(h:Nice l)(hl:l.length<=1048576):Keyed l:=⟨⟨hl,λ f hf=>by have:=(h f hf).1;omega⟩,λ f hf=>⟨λ v hv=>⟨((h f hf).2 v hv).1.1,by have:=((h f hf).2 v hv).1.2;omega⟩,xtT (λ v hv=>((h f hf).2 v hv).1) (by have:=(h f hf).1;omega)⟩⟩
def Nice.few{l:List Fc}(h:Nice l)(hl:l.length<=1048576):Few l:=(h.keyed hl).1
def Nice.bld{l:List Fc}(h:Nice l)(hl:l.length<=1024)(q:R20 l):Bld l:=⟨h.keyed Ω,hl,q⟩
def Nice.append{a b:List Fc}(ha:Nice a)(hb:Nice b):Nice (a++b):=λ f hf=>by rcases zG.1 hf with h|h;exact ha f h;exact hb f h
def Nice.of{a b l:List Fc}(ha:Nice a)(hb:Nice b)(h:∀f,f∈l->(∃x,x∈a/\x.r=f.r)\/∃x,x∈b/\x.r=f.r):Nice l:=λ f hf=>by rcases h f hf with⟨x,hx,e⟩|⟨x,hx,e⟩;rw[<-e];exact ha x hx;rw[<-e];exact hb x hx
structure RelB (N:Row->Int->Nat) (m:Nat) (B:List Fc):Prop where
 isB:IsB N B
 len:B.length<=m
 nice:Nice B
def xm8{N:Int->Nat}(h:IsSpan P)(hP:∀t,inL P t=decide (0<N t)):IsLevs (λ t=>if 0<N t then 1 else 0) P:=by refine⟨List.Pairwise.imp_of_mem (λ{p q} hp hq J=>xna.2 (.inl (by have:=xbH.1 (h.1 p hp);omega))) h.2,λ k=>if k=0 then P else[],1,λ t=>by split<;>omega,λ k=>?_,by simp⟩;by_cases hk:k=0;subst hk;refine⟨by simpa using h,λ t=>?_⟩;simp only[if_true,hP];by_cases h0:0<N t<;>simp[h0];refine⟨by simp[hk,xlF],λ t=>?_⟩;simp only[hk,if_false,xhH];symm;rw[decide_eq_false_iff_not];split<;>omega
def xMf.isB{l B:List Fc}(h:xMf l B):IsB (λ r t=>if 0<cnt l r t then 1 else 0) B:=by obtain⟨R,L,h1,h2,rfl⟩:=h;refine⟨R,L,h1.1,λ r t ht=>(h1.2 r).2 (xq8.2 ⟨t,?_⟩),λ r hr=>xm8 (h2 r hr).1 (h2 r hr).2,rfl⟩;by_cases h0:0<cnt l r t;exact h0;simp[h0]at ht
def xMf.len1{l B:List Fc}(h:xMf l B):B.length<=l.length:=by(obtain⟨R,L,h1,h2,rfl⟩:=h;have e:=xsC (L:=L) (a:=l) (b:=[]) R λ r hr=>by(have:=xpm (xm8 (h2 r hr).1 (h2 r hr).2) ((xL2 l r).map (·.1)) λ t=>by have:=xhR (xL2 l r) t;rw[xqA,xqA]at this;by_cases c1:0<cnt l r t;by_cases c2:0<cnt l r (t - 1);simp only[c1,c2,if_true];omega;simp only[c1,c2,if_true,if_false];omega;simp only[c1,if_false];omega);simp at this;omega);have hn:=h1.1.nodup xmN;have e2:=xst l R hn;have e3:=xst [] R hn;rw[List.length_nil]at e3;omega
def xMZ(K:List Int):List.take K.length (K.map encN)=K.map encN:=zi Ψ
def xlB(K:List Int)(kb:List AV){a b:List Fc}(hK:K.length<=1048576)(ha:Nice a)(hb:Nice b)(hl:a.length+b.length<=1024)(q:R20 (a++b)):∃B:List Fc,xa1 (K.map encN) (a.map encF) kb (b.map encF)=some (K.map encN,B.map encF)/\RelB (λ r t=>cnt a r t+cnt b r t) (a.length+b.length) B:=by obtain⟨B,b1,b2,b3,b4⟩:=xya opA (ha.keyed Ω) (hb.keyed Ω) hl q;(refine⟨B,?_,b2,b3,ha.of hb b4⟩;have b1:xs3 (a.map encF) (b.map encF)=some (B.map encF):=b1;have m:K.length<=1099511627776:=Ω);unfold xa1 xpW;simp only[za,m,b1,zk,zh,zn,Bool.and_self,xab,sUF]
def xol(K:List Int)(kb:List AV){a b:List Fc}(hK:K.length<=1048576)(ha:Nice a)(hb:Nice b)(hl:a.length+b.length<=1024)(q:R20 (a++b)):∃B:List Fc,xcj (K.map encN) (a.map encF) kb (b.map encF)=some (K.map encN,B.map encF)/\RelB (λ r t=>cnt a r t - cnt b r t) (a.length+b.length) B:=by obtain⟨B,b1,b2,b3,b4⟩:=xya opX (ha.keyed Ω) (hb.keyed Ω) hl q;(refine⟨B,?_,b2,b3,ha.of hb b4⟩;have b1:xs5 (a.map encF) (b.map encF)=some (B.map encF):=b1;have m:K.length<=1099511627776:=Ω);unfold xcj xox;simp only[za,m,b1,zk,zh,zn,Bool.and_self,xab,sUF]
def xnq(K:List Int)(kb:List AV){a b:List Fc}(hK:K.length<=1048576)(ha:Nice a)(hb:Nice b)(hl:a.length+b.length<=1024)(q:R20 (a++b)):∃B:List Fc,xaU (K.map encN) (a.map encF) kb (b.map encF)=some (K.map encN,B.map encF)/\RelB (λ r t=>min (cnt a r t) (cnt b r t)) (a.length+b.length) B:=by obtain⟨B,b1,b2,b3,b4⟩:=xya opM (ha.keyed Ω) (hb.keyed Ω) hl q;(refine⟨B,?_,b2,b3,ha.of hb b4⟩;have b1:xs4 (a.map encF) (b.map encF)=some (B.map encF):=b1;have m:K.length<=1099511627776:=Ω);unfold xaU xmc;simp only[za,m,b1,zk,zh,zn,Bool.and_self,xab,sUF]
def xCU{a:List Fc}(ha:Nice a)(hl:a.length<=1024)(q:R20 a):∃B:List Fc,xi8 (a.map encF)=some (B.map encF)/\xMf a B/\RelB (λ r t=>if 0<cnt a r t then 1 else 0) a.length B:=by obtain⟨B,b1,b2⟩:=xKA a (ha.bld hl q);exact⟨B,b1,b2,b2.isB,b2.len1,b2.all (Q:=λ r=>r.length<=48/\∀v,v∈r->xMm v) ha⟩
def xAW(K:List Int){a:List Fc}(hK:K.length<=1048576)(ha:Nice a)(hl:a.length<=1024)(q:R20 a):∃B:List Fc,xhe (K.map encN) (a.map encF)=some (K.map encN,B.map encF)/\xMf a B/\RelB (λ r t=>if 0<cnt a r t then 1 else 0) a.length B:=by(obtain⟨B,b1,b2,b3⟩:=xCU ha hl q;refine⟨B,?_,b2,b3⟩;have m1:K.length*8<=140737488355328:=Ω);(have m2:K.length<=4611686018427387904:=Ω);unfold xhe xm4;simp only[za,m1,m2,b1,zk,zh,zn,Bool.and_self,zH,zd,xab,zr,xMZ,sUF]
def RelB.cnt{N:Row->Int->Nat}{B:List Fc}(h:RelB N m B)(r:Row)(t:Int):cnt B r t=N r t:=h.isB.cntB r t
def Nice.short{l:List Fc}(h:Nice l):∀f,f∈l->f.r.length<=60:=λ f hf=>by have:=(h f hf).1;omega
def xC6{a b:List Fc}(hK:K.length<=1048576)(ha:a.length<=1048576)(hn:Nice a)(e:a=b):xb2 (K.map encN) (a.map encF) (K.map encN) (b.map encF)=some true:=by rw[xF8 K K a b hK ha hn.short,e];simp
def xqu{N:Row->Int->Nat}{a b:List Fc}(hK:K.length<=48)(ha:RelB N m a)(hm:m<=1024)(hb:IsB N b):xb2 (K.map encN) (a.map encF) (K.map encN) (b.map encF)=some true:=xC6 Ω (by have:=ha.len;omega) ha.nice (ha.isB.unique hb)
def sqG (ky:AV->List UInt8) (pt:AV->List AV) (s:List En×List AV) (f:AV):List En×List AV:=(addE s.1 (ky f) (perA f),match ixE s.1 (ky f) with|none=>s.2++[.list 3 (pt f)]|some _=>s.2)
def xFU(ky:AV->List UInt8)(pt:AV->List AV):∀(l:List AV)(s:List En×List AV),(l.foldl (sqG ky pt) s).1=l.foldl (λ es x=>addE es (ky x) (perA x)) s.1|[],s=>rfl|x::l,s=>by rw[List.foldl_cons,List.foldl_cons,xFU ky pt l];rfl
def xFj(k s:List UInt8)(p:AV):∀es:List En,(ixE (addE es k p) s).isNone=((ixE es s).isNone&&!(k==s))|[]=>by simp only[addE,ixE];cases k==s<;>rfl|e::es=>by have ih:=xFj k s p es;rw[addE];cases he:e.1==k with|true=>((have e1:e.1=k:=by simpa using he);dsimp only;rw[ixE,ixE,e1];cases h:k==s with|true=>rfl|false=>simp)|false=>dsimp only;rw[ixE,ixE];cases h:e.1==s with|true=>rfl|false=>dsimp only;rw[Option.isNone_map,Option.isNone_map,ih]
def byP(π:Row->Row)(l:List Fc)(ρ:Row):List Per:=(l.filter λ f=>decide (π f.r=ρ)).map (·.p)
def PtOk(π:Row->Row)(ky:AV->List UInt8)(pt:AV->List AV)(l:List Fc):Prop:=∀f,f∈l->ky (encF f)=keyOf (π f.r)/\pt (encF f)=(π f.r).map encV
variable {ky:AV->List UInt8}{pt:AV->List AV}{π:Row->Row}
def xA2:∀(l:List Fc)(h:PtOk π ky pt l)(es:List En)(R:List Row),R.Nodup->(∀r,(ixE es (keyOf r)).isNone=decide (r∉R))->
  ∃R':List Row,((l.map encF).foldl (sqG ky pt) (es,R.map encR)).2=R'.map encR/\R'.Nodup/\(∀r,r∈R'↔r∈R\/∃f,f∈l/\π f.r=r)/\R'.length<=R.length+l.length
 |[],h,es,R,hR,hi=>⟨R,rfl,hR,λ r=>by simp,by simp⟩
 |f::l,h,es,R,hR,hi=>by
  obtain⟨h1,h2⟩:=h f (by simp)
  have hl:PtOk π ky pt l:=λ g hg=>h g (by simp[hg])
  have q:=hi (π f.r);rw[zV,List.foldl_cons];have J:∀R2:List Row,(∀r,r∈R2↔r∈R\/π f.r=r)->∀r,(ixE (addE es (keyOf (π f.r)) (perA (encF f))) (keyOf r)).isNone=decide (r∉R2):=λ R2 h2 r=>by
   rw[xFj,hi];by_cases hr:π f.r=r
   . have:(keyOf (π f.r)==keyOf r)=true:=by simp[hr]
     rw[this];have hm:r∈R2:=(h2 r).2 (.inr hr);simp[hm]
   . have:(keyOf (π f.r)==keyOf r)=false:=by
      rw[beq_eq_false_iff_ne];exact λ e=>hr (xsf e)
     rw[this];have:r∈R2↔r∈R:=by rw[h2];simp[hr]
     simp[this]
  cases hc:ixE es (keyOf (π f.r))with
  |none=>
   rw[hc]at q;have hn:π f.r∉R:=by
    have:true=decide (π f.r∉R):=q;exact of_decide_eq_true this.symm
   have e:sqG ky pt (es,R.map encR) (encF f)=(addE es (keyOf (π f.r)) (perA (encF f)),(R++[π f.r]).map encR):=by
    unfold sqG;rw[h1,h2];dsimp only;rw[hc];simp[encR]
   rw [e];obtain ⟨R',r1,r2,r3,r4⟩:=xA2 l hl (addE es (keyOf (π f.r)) (perA (encF f))) (R++[π f.r]) (List.nodup_append.2 ⟨hR,by simp,fun a ha b hb e=>by
    simp at hb;exact hn (by rw [<-hb,<-e];exact ha)⟩) (J _ fun r=>by
     rw [zG,zv];exact ⟨fun c=>c.imp id Eq.symm,fun c=>c.imp id Eq.symm⟩)
   refine⟨R',r1,r2,λ r=>?_,by rw[z8,zj]at r4;rw[zF];omega⟩
   rw[r3,zG,zv];constructor
   . rintro((h|rfl)|⟨g,g1,g2⟩)
     . exact .inl h
     . exact .inr ⟨f,by simp,rfl⟩
     . exact .inr ⟨g,by simp[g1],g2⟩
   . rintro(h|⟨g,g1,g2⟩)
     . exact .inl (.inl h)
     . rcases zC.1 g1 with rfl|g1
       . exact .inl (.inr g2.symm)
       . exact .inr ⟨g,g1,g2⟩
  |some j=>
   rw[hc]at q;have hn:π f.r∈R:=by
    have:false=decide (π f.r∉R):=q;have:=of_decide_eq_false this.symm;simpa using this
   have e:sqG ky pt (es,R.map encR) (encF f)=(addE es (keyOf (π f.r)) (perA (encF f)),R.map encR):=by
    unfold sqG;rw[h1];dsimp only;rw[hc]
   rw[e];obtain⟨R',r1,r2,r3,r4⟩:=xA2 l hl (addE es (keyOf (π f.r)) (perA (encF f))) R hR (J _ λ r=>⟨.inl,λ c=>c.elim id λ e=>e▸hn⟩)
   refine⟨R',r1,r2,λ r=>?_,by rw[zF];omega⟩
   rw[r3];constructor
   . rintro(h|⟨g,g1,g2⟩)
     . exact .inl h
     . exact .inr ⟨g,by simp[g1],g2⟩
   . rintro(h|⟨g,g1,g2⟩)
     . exact .inl h
     . rcases zC.1 g1 with rfl|g1
       . exact .inl (g2▸hn)
       . exact .inr ⟨g,g1,g2⟩
def xFp(es:List En)(s:List UInt8):lookL (es.map encEn) s=lookE es s:=by unfold lookL;rw[xlb];cases h:ixE es s with|none=>exact(xwf h).symm|some i=>have hi:=xqN h;rw[xwg h];dsimp only;rw[show (es.map encEn).getD i .top=encEn (es.getD i default) by simp[z7,hi]];rfl
def xFM(es:List En)(s:List UInt8):(!xNv (es.map encEn) s || xNH 2 (xNj AV.nils (es.map encEn) s)):=by unfold xNj xNv;rw[xlb];cases h:ixE es s with|none=>rfl|some i=>have hi:=xqN h;dsimp only;rw[show (es.map encEn).getD i .top=encEn (es.getD i default) by simp[z7,hi]];rfl
def xIm{l:List Fc}(h:PtOk π ky pt l)(ρ:Row):lookL ((((l.map encF).foldl (sqG ky pt) ([],[])).1).map encEn) (keyOf ρ)=(byP π l ρ).map encP:=by(rw[xFp,xFU,xyV];show []++_=_;rw[zU];unfold byP;rw[List.filter_map,List.map_map,List.map_map];have:l.filter ((λ x=>ky x==keyOf ρ)∘encF)=l.filter λ f=>decide (π f.r=ρ):=List.filter_congr λ f hf=>by show (ky (encF f)==keyOf ρ)=_;rw[(h f hf).1];by_cases hr:π f.r=ρ;simp[hr];(have:(keyOf (π f.r)==keyOf ρ)=false:=by rw[beq_eq_false_iff_ne];exact λ e=>hr (xsf e));rw[this];simp[hr]);rw[this];rfl
structure PerM (π:Row->Row) (l:List Fc) (ms rs:List AV) (R:List Row):Prop where
 look:∀ρ,lookL ms (keyOf ρ)=(byP π l ρ).map encP
 row:∀s,(!xNv ms s || xNH 2 (xNj AV.nils ms s))
 rows:rs=R.map encR
 nd:R.Nodup
 mem:∀r,r∈R↔∃f,f∈l/\π f.r=r
 len:R.length<=l.length
def xCF{l:List Fc}(h:PtOk π ky pt l):∃R,PerM π l ((((l.map encF).foldl (sqG ky pt) ([],[])).1).map encEn) ((l.map encF).foldl (sqG ky pt) ([],[])).2 R:=by(obtain⟨R,r1,r2,r3,r4⟩:=xA2 l h [] [] List.nodup_nil λ r=>by simp[ixE]);exact⟨R,xIm h,xFM _,r1,r2,λ r=>by rw[r3];simp,by simpa using r4⟩
def xKr{l:List Fc}(h:Keyed l):PtOk id (λ f=>kyQ none (rowF f)) (λ f=>ptQ none (rowF f)) l:=λ f hf=>by refine⟨?_,rfl⟩;show (xaG (f.r.map encV)).getD []=keyOf f.r;rw[h.skey hf];rfl
def xAH{l:List Fc}(h:Keyed l):xqy (l.map encF)/\∃R,PerM id l (xiC (l.map encF)) (xt4 (l.map encF)) R:=by
 refine⟨?_,xCF (xKr h)⟩;have hl:=h.1.1;unfold xqy;simp only[zf,zl,zI,List.mem_range,za];refine⟨by omega,λ i hi=>?_⟩;rw[xad _ _ _ hi];have hf:=zo hi;have e1:=h.skey hf;have e2:=(h.2 _ hf).2;have m:(keyOf l[i].r).length<=4611686018427387904:=Ω
 unfold foQ;have c1:((encF l[i]).cells.length==3):=rfl;have c2:xM6 [.list 3,.int .i64,.int .i64] (encF l[i]).cells 0:=rfl;have c3:okQ none (rowF (encF l[i])):=rfl;have c4:xaG (ptQ none (rowF (encF l[i])))=some (keyOf l[i].r):=e1;have c5:kyQ none (rowF (encF l[i]))=keyOf l[i].r:=by unfold kyQ;rw[c4];rfl
 rw[c1,c2,c3,c4,c5];simp[m]
def xCn(n:Nat)(r:Row)(hn:n<=r.length)(hr:r.length<=1048576):xiA (r.map encV) (n:Int)=some ((r.take n).map encV):=by(have v:xi9 (r.map encV) (n:Int)=(n:Int):=by unfold xi9;rw[za];split<;>omega);(have h1:(n:Int)<=(r.length:Int):=Ω);unfold xiA xpK;rw[v];simp only[za,h1,Int.natCast_nonneg,zn,Bool.and_self,xab,zN,Nat.sub_zero,zr,List.map_take,sUF]
def xBe{l:List Fc}(h:Nice l){f:Fc}(hf:f∈l)(n:Nat):xaG ((f.r.take n).map encV)=some (keyOf (f.r.take n))/\(keyOf (f.r.take n)).length<=4611686018427387904:=by(obtain⟨h1,h2⟩:=h f hf;have hl:(f.r.take n).length<=48:=by rw[zt];omega);have hv:∀v,v∈f.r.take n->xMm v:=λ v hv=>h2 v (List.mem_of_mem_take hv);have hk:=xtT (r:=f.r.take n) (λ v q=>(hv v q).1) Ω;exact⟨xyp _ Ω (λ v q=>⟨(hv v q).1.1,by have:=(hv v q).1.2;omega⟩) hk,by omega⟩
def xKq{l:List Fc}(h:Nice l)(n:Nat)(hn:∀f,f∈l->n<=f.r.length):PtOk (·.take n) (λ f=>kyQ (some (n:Int)) (rowF f)) (λ f=>ptQ (some (n:Int)) (rowF f)) l:=λ f hf=>by(have e:ptQ (some (n:Int)) (rowF (encF f))=(f.r.take n).map encV:=by show (xiA (f.r.map encV) (n:Int)).getD []=_;rw[xCn n f.r (hn f hf) (by have:=(h f hf).1;omega)];rfl);refine⟨?_,e⟩;show (xaG (ptQ (some (n:Int)) (rowF (encF f)))).getD []=keyOf (f.r.take n);rw[e,(xBe h hf n).1];rfl
def xGT{l:List Fc}(h:Nice l)(hl:l.length<=1048576)(n:Nat)(hn:∀f,f∈l->n<=f.r.length):xsh (l.map encF) (n:Int)/\∃R,PerM (·.take n) l (xqX (l.map encF) (n:Int)) (xrz (l.map encF) (n:Int)) R:=by
 refine⟨?_,xCF (xKq h n hn)⟩;unfold xsh;simp only[zf,zl,zI,List.mem_range,za];refine⟨by omega,λ i hi=>?_⟩;rw[xad _ _ _ hi];have hf:=zo hi;obtain⟨e1,e2⟩:=xBe h hf n;have e3:=xCn n l[i].r (hn _ hf) (by have:=(h _ hf).1;omega);have c3:okQ (some (n:Int)) (rowF (encF l[i])):=by show (xiA (l[i].r.map encV) (n:Int)).isSome=true;rw[e3];rfl
 have c6:ptQ (some (n:Int)) (rowF (encF l[i]))=(l[i].r.take n).map encV:=by show (xiA (l[i].r.map encV) (n:Int)).getD []=_;rw[e3];rfl
 have c5:kyQ (some (n:Int)) (rowF (encF l[i]))=keyOf (l[i].r.take n):=by unfold kyQ;rw[c6,e1];rfl
 unfold foQ;have c1:((encF l[i]).cells.length==3):=rfl;have c2:xM6 [.list 3,.int .i64,.int .i64] (encF l[i]).cells 0:=rfl;rw[c1,c2,c3,c5,c6,e1];simp[e2]
theorem xCo(X:List Per)(t:Int):inL X t=decide (0<X.countP (hasP · t)):=by rw[Bool.eq_iff_iff,zl,List.countP_pos_iff];unfold inL;rw[List.any_eq_true]
theorem xyu{X Y r:List Per}(h:IsSpan r)(hr:∀t,inL r t=(inL X t&&!inL Y t)):r.length<=X.length+Y.length:=by
 have:=xpm (xm8 (N:=fun t=>if 0<X.countP (hasP · t)/\¬ 0<Y.countP (hasP · t) then 1 else 0) h fun t=>by
  rw [hr,xCo,xCo];by_cases c1:0<X.countP (hasP · t)<;>by_cases c2:0<Y.countP (hasP · t)<;>simp [c1,c2]) (X.map (·.1)++Y.map (·.2)) fun t=>by
  have h1:=xhR X t;have h2:=xuF Y t;rw[List.count_append];by_cases c1:0<X.countP (hasP · t)
  . by_cases c2:0<Y.countP (hasP · t)
    . simp[c1,c2]
    . by_cases c3:0<X.countP (hasP · (t - 1))
      . by_cases c4:0<Y.countP (hasP · (t - 1))
        . simp[c1,c2,c3,c4];omega
        . simp[c1,c2,c3,c4]
      . simp[c1,c2,c3];omega
  . simp[c1]
 simpa using this
theorem xEO(h t:Row)(hl:h.length+t.length<=1048576):xlC (h.map encV) (t.map encV)=some ((h++t).map encV):=by
 have w0:IntKind.i64.wrap (0+(h.length:Int))=(h.length:Int):=by rw[xaO Ω Ω];omega
 have w1:IntKind.i64.wrap ((h.length:Int)+(t.length:Int))=((h.length+t.length:Nat):Int):=by rw[xaO Ω Ω];omega
 have n0:¬ (h.length:Int)<0:=Ω
 have n1:¬ ((h.length+t.length:Nat):Int)<0:=Ω
 have n2:((h.length+t.length:Nat):Int)<=4398046511104:=Ω
 have m1:h.length*32<=140737488355328:=Ω
 have m2:h.length<=4611686018427387904:=Ω
 have m3:(h.length+t.length)*32<=140737488355328:=Ω
 have m4:h.length+t.length<=4611686018427387904:=Ω
 have tt:List.take (h.length+t.length) (h.map encV++t.map encV)=h.map encV++t.map encV:=zi Ψ;have e:xfq (h.map encV) (t.map encV)=some ((h++t).map encV):=by unfold xfq xkH xjT xhp;simp only[za,w0,w1,n0,n1,n2,m1,m2,m3,m4,Int.natCast_nonneg,zH,zU,z8,zd,zn,zm,Bool.and_self,zS,beq_self_eq_true,xab,xae,zr,tt,zx,sUF]
 unfold xlC xo3;simp only[e,zk,zh,xab,sUF]
structure LkM (ms:List AV) (D:Row->List Per):Prop where
 look:∀ρ,lookL ms (keyOf ρ)=(D ρ).map encP
 row:∀s,(!xNv ms s || xNH 2 (xNj AV.nils ms s))
def TRow(r:Row):Prop:=r.length<=48/\∀v,v∈r->xMm v
theorem TRow.key{r:Row}(h:TRow r):xaG (r.map encV)=some (keyOf r)/\(keyOf r).length<=4611686018427387904:=by have hk:=xtT (r:=r) (λ v q=>(h.2 v q).1) (by have:=h.1;omega);exact⟨xyp _ (by have:=h.1;omega) (λ v q=>⟨(h.2 v q).1.1,by have:=(h.2 v q).1.2;omega⟩) hk,by omega⟩
variable {Du Dv:Row->List Per}{du dv:List AV}
theorem xEX(n:Int)(h:Row)(hu:LkM du Du)(hv:LkM dv Dv)(lu:∀r,(Du r).length<=64)(lv:∀r,(Dv r).length<=64)(T:List Row)(hT:T.length<=64)(ht:∀t,t∈T->TRow t/\TRow (h++t)):∀(d k:Nat)(l:List Per),k+d=T.length->l.length<=64+128*k->IsSpan l->∃l':List Per,(∀(on:Nat)(Q:List AV)(O J:Int)(a0 a1 hs os:List AV),Iter (xd4 n (T.map encR) on (h.map encV) Q O J (T.map encR) ((T.length:Nat):Int)) (l.map encP,(k:Int),a0,a1,du,hs,dv,os)=some (l'.map encP,a0,a1,du,hs,dv,os))/\IsSpan l'/\∀τ,inL l' τ=(inL l τ&&(T.drop k).all λ t=>!(inL (Dv t) τ&&!inL (Du (h++t)) τ))|0,k,l,hk,hl,hs=>by(have:k=T.length:=Ω);subst this;refine⟨l,λ on Q O J a0 a1 hs os=>xac ?_,hs,λ τ=>by rw[zq (zd _)];simp⟩;simp[xd4,xi0,xae,sUF]|d+1,k,l,hk,hl,hs=>by(have q:k<T.length:=Ω);obtain⟨t1,t2⟩:=ht T[k] (zo q);obtain⟨k1,k2⟩:=t1.key;obtain⟨k3,k4⟩:=t2.key;have c1:=xEO h T[k] (by have:=t2.1;rw[z8]at this;omega);have u1:=hu.look (h++T[k]);have u2:=hu.row (keyOf (h++T[k]));have v1:=hv.look T[k];have v2:=hv.row (keyOf T[k]);have V:=lu (h++T[k]);have lv1:=lv T[k];obtain⟨s,s1,s2,s3⟩:=xu4 (Dv T[k]) (Du (h++T[k])) Ω Ω;have sl:=xyu s2 s3;obtain⟨r,r1,r2,r3⟩:=xu4 l s Ω Ω;have rl:=xyu r2 r3;obtain⟨l',e,b1,b2⟩:=xEX n h hu hv lu lv T hT ht d (k+1) r Ω Ω r2;refine⟨l',λ on Q O J a0 a1 hs os=>?_,b1,λ τ=>?_⟩;(rw[<-e on Q O J a0 a1 hs os];refine xak ?_;have i1:(k:Int)<(T.length:Int):=Ω);have gf:(T.map encR).getD k .top=encR T[k]:=xad _ _ _ q;simp only[xd4,xi0,xdL,xdM,sBU,q,i1,gf,cR0,sR0,k1,k2,k3,k4,c1,u1,u2,v1,v2,s1,r1,xL0 (n:=k) Ω];rw[b2,r3,s3,xaP q,List.all_cons,Bool.and_assoc]
theorem xEY(n:Int)(q:List AV)(h:Row)(hh:h.length<=1048576)(P:List Per)(hP:P.length<=1048576)(V:List AV)(Q O:Int)(a0 a1 du hs dv:List AV):∀(d k:Nat)(D:List Fc),k+d=P.length->D.length+d<=1099511627776->
  Iter (xd5 n q (h.map encV) V Q O (P.map encP) ((P.length:Nat):Int)) (D.length,(k:Int),a0,a1,du,hs,dv,D.map encF)=some ((D++mk h (P.drop k)).length,a0,a1,du,hs,dv,(D++mk h (P.drop k)).map encF)
 |0,k,D,hk,hD=>by
  have:k=P.length:=by omega
  subst this;rw[zq (zd _)];refine xac ?_;simp[xd5,xi1,xae,mk,sUF]
 |d+1,k,D,hk,hD=>by
  have J:k<P.length:=by omega
  have i1:(k:Int)<(P.length:Int):=by omega
  have gf:(P.map encP).getD k .top=encP P[k]:=xad _ _ _ J;have m1:(D.length+1)*40<=140737488355328:=by omega
  have m2:D.length+1<=4611686018427387904:=by omega
  have e:D++mk h (P.drop k)=(D++[(⟨h,P[k]⟩:Fc)])++mk h (P.drop (k+1)):=by rw[xaP J,zw];rfl
  rw[e,<-xEY n q h hh P hP V Q O a0 a1 du hs dv d (k+1) (D++[(⟨h,P[k]⟩:Fc)]) (by omega) (by rw[z8,zj];omega)]
  refine xak ?_;simp only[xd5,xi1,sBU,J,i1,gf,cP0,cP1,lP,sP,sP0,sP1,m1,m2,xL0 (n:=k) (by omega),z8,zj,zx,zV,zW]
  simp[encF]
def LvD(n:Int)(T:List Row)(du dv:List AV)(He:Row->List Per)(Du Dv:Row->List Per)(h:Row)(L:List Per):Prop:=(∃l0:List Per,xj5 ((He h).map encP)=some (l0.map encP)/\∀(on:Nat)(q:List AV)(t57 t58:Int)(a0 a1 hs os:List AV),Iter (xd4 n (T.map encR) on (h.map encV) q t57 t58 (T.map encR) ((T.length:Nat):Int)) (l0.map encP,(0:Int),a0,a1,du,hs,dv,os)=some (L.map encP,a0,a1,du,hs,dv,os))/\IsSpan L/\(∀τ,inL L τ=(inL (He h) τ&&T.all λ t=>!(inL (Dv t) τ&&!inL (Du (h++t)) τ)))/\L.length<=1048576
theorem xEW(n:Int)(T:List Row)(a0 a1:List AV){he:List AV}{He:Row->List Per}(hh:LkM he He)(H:List Row)(hH:H.length<=1024)(hr:∀r,r∈H->TRow r)(L:Row->List Per)(hL:∀r,r∈H->LvD n T du dv He Du Dv r (L r)):∀(d k:Nat)(D:List Fc),k+d=H.length->D.length<=1048576*k->
  Iter (xd3 n (T.map encR) (H.map encR) ((H.length:Nat):Int)) (D.length,(k:Int),a0,a1,du,he,dv,D.map encF)=some ((D++xLx (H.drop k) L).length,a0,a1,(D++xLx (H.drop k) L).map encF)
 |0,k,D,hk,hD=>by
  have:k=H.length:=by omega
  subst this;rw[zq (zd _)];refine xac ?_;simp[xd3,xix,xae,xLx,sUF]
 |d+1,k,D,hk,hD=>by
  have q:k<H.length:=by omega
  have i1:(k:Int)<(H.length:Int):=by omega
  have gf:(H.map encR).getD k .top=encR H[k]:=xad _ _ _ q;have t1:=hr H[k] (zo q);obtain⟨k1,k2⟩:=t1.key;have v1:=hh.look H[k];have v2:=hh.row (keyOf H[k]);obtain⟨⟨l0,q1,q2⟩,_,_,q3⟩:=hL H[k] (zo q);have e1:=q2 D.length (H.map encR) ((H.length:Nat):Int) (k:Int) a0 a1 he (D.map encF);have e2:=xEY n (T.map encR) H[k] (by have:=t1.1;omega) (L H[k]) q3 (H.map encR) ((H.length:Nat):Int) (k:Int) a0 a1 du he dv (L H[k]).length 0 D (by omega) (by omega)
  rw[zr]at e2;have e2:Iter (xd5 n (T.map encR) (H[k].map encV) (H.map encR) ((H.length:Nat):Int) (k:Int) ((L H[k]).map encP) (((L H[k]).length:Nat):Int)) (D.length,(0:Int),a0,a1,du,he,dv,D.map encF)=_:=e2;have ml:(mk H[k] (L H[k])).length<=1048576:=by unfold mk;rw[za];exact q3
  have e:D++xLx (H.drop k) L=(D++mk H[k] (L H[k]))++xLx (H.drop (k+1)) L:=by
   rw[xaP q,zw];rfl
  rw[e,<-xEW n T a0 a1 hh H hH hr L hL d (k+1) (D++mk H[k] (L H[k])) (by omega) (by rw[z8];omega)]
  refine xak ?_;simp only[xd3,xix,xci,xbw,xeq,sBU,q,i1,gf,cR0,sR0,k1,k2,v1,v2,q1,e1,e2,xL0 (n:=k) (by omega)]
def DivB(n:Nat)(a b:List Fc)(h:Row)(τ:Int):Prop:=(∃f,f∈a/\f.r.take n=h/\hasP f.p τ)/\∀t,0<cnt b t τ->0<cnt a (h++t) τ
open Classical in
def DivN(n:Nat)(a b:List Fc)(h:Row)(τ:Int):Nat:=if DivB n a b h τ then 1 else 0
variable {h:Row}{τ:Int}
theorem xkP{n:Nat}{a b:List Fc}:0<DivN n a b h τ↔DivB n a b h τ:=by unfold DivN;split<;>simp_all
theorem xlD(n:Nat)(a b:List Fc)(h:Row)(τ:Int):DivN n a b h τ<=1:=by unfold DivN;split<;>simp
theorem xzX{l:List Fc}:inL (byP π l h) τ=true↔∃f,f∈l/\π f.r=h/\hasP f.p τ:=by unfold inL byP;rw[List.any_eq_true];constructor;rintro⟨p,hp,h1⟩;obtain⟨f,hf,rfl⟩:=zK.1 hp;obtain⟨f1,f2⟩:=List.mem_filter.1 hf;exact⟨f,f1,by simpa using f2,h1⟩;rintro⟨f,f1,f2,f3⟩;exact⟨f.p,zK.2 ⟨f,List.mem_filter.2 ⟨f1,by simpa using f2⟩,rfl⟩,f3⟩
theorem xpg{l:List Fc}:inL (byP id l h) τ=true↔0<cnt l h τ:=by rw[xzX,xhb];rfl
theorem xup(π:Row->Row)(l:List Fc)(h:Row):(byP π l h).length<=l.length:=by unfold byP;rw[za];exact List.length_filter_le _ _
structure Divs (Ka Kb:List Int) (a b:List Fc) (n:Nat):Prop where
 na:Nice a
 nb:Nice b
 la:a.length<=16
 lb:b.length<=16
 ka:Ka.length<=48
 kn:n+Kb.length=Ka.length
 n0:0<n
 ra:∀f,f∈a->f.r.length=Ka.length
 rb:∀f,f∈b->f.r.length=Kb.length
variable{Ka Kb:List Int}{a b:List Fc}{n:Nat}
theorem Divs.head(h:Divs Ka Kb a b n){f:Fc}(hf:f∈a):(f.r.take n).length=n:=by have:=h.ra f hf;have:=h.kn;rw[zt];omega
theorem Divs.bound(h:Divs Ka Kb a b n){h0:Row}(hn:h0.length=n)(τ:Int):DivN n a b h0 τ<=DivN n a b h0 (τ - 1)+((byP (·.take n) a h0).map (·.1)++b.map (·.p.2)).count τ:=by
 by_cases c:DivB n a b h0 τ;by_cases c':DivB n a b h0 (τ - 1);have:=xkP.2 c';have:=xlD n a b h0 τ;omega;have Q:τ∈(byP (·.take n) a h0).map (·.1)++b.map (·.p.2):=by obtain⟨⟨f,f1,f2,f3⟩,c2⟩:=c;by_cases hf:hasP f.p (τ - 1)=true;(have:∃t,0<cnt b t (τ - 1)/\¬ 0<cnt a (h0++t) (τ - 1):=by apply Classical.byContradiction;intro O;exact c' ⟨⟨f,f1,f2,hf⟩,λ t ht=>Classical.byContradiction λ hx=>O ⟨t,ht,hx⟩⟩);obtain⟨t,t1,t2⟩:=this;by_cases hb:0<cnt b t τ;obtain⟨g,g1,g2,g3⟩:=xhb.1 (c2 t hb);have g4:¬ hasP g.p (τ - 1):=λ hx=>t2 (xhb.2 ⟨g,g1,g2,hx⟩);(obtain⟨v1,v2,v3⟩:=xba.1 g3;have:g.p.1=τ:=by rcases Int.lt_or_le g.p.1 τ with J|q;exact absurd (xba.2 ⟨v1,by omega,by omega⟩) g4;omega);refine zG.2 (.inl (zK.2 ⟨g.p,zK.2 ⟨g,List.mem_filter.2 ⟨g1,?_⟩,rfl⟩,this⟩));simp only[zl];rw[g2,List.take_append_of_le_length Ω,<-hn,y6];obtain⟨g,g1,g2,g3⟩:=xhb.1 t1;have g4:¬ hasP g.p τ:=λ hx=>hb (xhb.2 ⟨g,g1,g2,hx⟩);(obtain⟨v1,v2,v3⟩:=xba.1 g3;have:g.p.2=τ:=by rcases Int.lt_or_le τ g.p.2 with J|q;exact absurd (xba.2 ⟨v1,by omega,by omega⟩) g4;omega);exact zG.2 (.inr (zK.2 ⟨g,g1,this⟩));(obtain⟨v1,v2,v3⟩:=xba.1 f3;have:f.p.1=τ:=by rcases Int.lt_or_le f.p.1 τ with J|q;exact absurd (xba.2 ⟨v1,by omega,by omega⟩) hf;omega);exact zG.2 (.inl (zK.2 ⟨f.p,zK.2 ⟨f,List.mem_filter.2 ⟨f1,by simpa using f2⟩,rfl⟩,this⟩))
 have:=List.count_pos_iff.2 Q;have:=xlD n a b h0 τ;omega;have:DivN n a b h0 τ=0:=by cases hc:DivN n a b h0 τ with|zero=>rfl|succ k=>exact absurd (xkP.1 Ω) c
 omega
theorem xv5{g:Row->Nat}:∀(R:List Row),(∀r,r∈R->(L r).length<=g r)->(xLx R L).length<=(R.map g).sum|[],_=>by simp[xLx]|r::R,h=>by have ih:=xv5 R λ x hx=>h x (by simp[hx]);have h1:=h r Ψ;(have e:xLx (r::R) L=((L r).map λ p=>(⟨r,p⟩:Fc))++xLx R L:=by simp[xLx]);rw[e,z8,za,zV,List.sum_cons];omega
theorem xzi(c:Nat):∀R:List Row,(R.map λ _=>c).sum=c*R.length|[]=>rfl|r::R=>by rw[zV,List.sum_cons,xzi c R,zF,Nat.mul_add,Nat.mul_one];omega
theorem xDW(h:Divs Ka Kb a b n):∃B:List Fc,xoc (Ka.map encN) (a.map encF) (Kb.map encN) (b.map encF)=some ((Ka.take n).map encN,B.map encF)/\RelB (DivN n a b) 512 B/\∀f,f∈B->∃g,g∈a/\g.r.take n=f.r:=by
 have O:=h.na;have V:=h.nb;have am:=h.la;have ao:=h.lb;have ak:=h.ka;have ai:=h.kn;have al:=h.n0;obtain⟨w1,Ra,wa⟩:=xAH (O.keyed Ω);obtain⟨w2,Rb,wb⟩:=xAH (V.keyed Ω);obtain⟨w3,H,wh⟩:=xGT O Ω n λ f hf=>by have:=h.ra f hf;omega
 have hH:∀r,r∈H->TRow r/\r.length=n:=λ r hr=>by obtain⟨f,f1,rfl⟩:=(wh.mem r).1 hr;have:=h.head f1;exact⟨⟨by omega,λ v hv=>(O f f1).2 v (List.mem_of_mem_take hv)⟩,this⟩
 have hT:∀r,r∈Rb->TRow r/\r.length=Kb.length:=λ r hr=>by obtain⟨f,f1,rfl⟩:=(wb.mem r).1 hr;exact⟨⟨(V f f1).1,(V f f1).2⟩,h.rb f f1⟩
 have an:=wh.len;have aj:=wb.len;obtain⟨L,hL⟩:=xph (R:=H) (Q:=LvD (n:Int) Rb (xiC (a.map encF)) (xiC (b.map encF)) (byP (·.take n) a) (byP id a) (byP id b)) λ r hr=>by
  obtain⟨ac,ab⟩:=hH r hr;have bl:=xup (·.take n) a r;obtain⟨l0,l1,l2,l3⟩:=xHC (byP (·.take n) a r) Ω;have ll:l0.length<=(byP (·.take n) a r).length+([]:List Per).length:=xyu (X:=byP (·.take n) a r) (Y:=[]) l2 λ t=>by rw[l3,xhH];simp
  obtain ⟨L,e1,e2,e3⟩:=xEX (n:Int) r (du:=xiC (a.map encF)) (dv:=xiC (b.map encF)) (Du:=byP id a) (Dv:=byP id b) ⟨wa.look,wa.row⟩ ⟨wb.look,wb.row⟩ (fun ρ=>by have:=xup id a ρ;omega) (fun ρ=>by have:=xup id b ρ;omega) Rb Ω (fun t ht=>by
   obtain ⟨t1,t2⟩:=hT t ht;exact ⟨t1,by rw [z8];omega,fun v hv=>by
    rcases zG.1 hv with hv|hv
    . exact ac.2 v hv
    . exact t1.2 v hv⟩) Rb.length 0 l0 Ω (by rw [List.length_nil] at ll;omega) l2
  rw[zr]at e3;have e4:∀τ,inL L τ=(inL (byP (·.take n) a r) τ&&Rb.all λ t=>!(inL (byP id b t) τ&&!inL (byP id a (r++t)) τ)):=λ τ=>by rw[e3,l3]
  have dn:∀τ,inL L τ=decide (0<DivN n a b r τ):=λ τ=>by rw[e4,Bool.eq_iff_iff,zl,xkP,zf,xzX,zI];constructor;rintro⟨h1,h2⟩;refine⟨h1,λ t ht=>?_⟩;obtain⟨g,g1,g2,g3⟩:=xhb.1 ht;have:=h2 t ((wb.mem t).2 ⟨g,g1,g2⟩);have hb:inL (byP id b t) τ:=xpg.2 ht;rw[hb]at this;exact xpg.1 (by simpa using this);rintro⟨h1,h2⟩;refine⟨h1,λ t ht=>?_⟩;by_cases hb:inL (byP id b t) τ=true;have:=xpg.2 (h2 t (xpg.1 hb));rw[this];simp;(have:inL (byP id b t) τ=false:=by simpa using hb);rw[this];simp
  have len:=xpm (xm8 (N:=DivN n a b r) e2 dn) ((byP (·.take n) a r).map (·.1)++b.map (·.p.2)) λ τ=>by have:=h.bound ab τ;have h1:=xlD n a b r τ;have h2:=xlD n a b r (τ - 1);split<;>split<;>omega
  refine⟨L,⟨l0,l1,λ on ah ae aa a0 a1 hs os=>e1 on ah ae aa a0 a1 hs os⟩,e2,e4,?_⟩;rw[z8,za,za]at len;omega
 have dn:∀r,r∈H->∀τ,inL (L r) τ=decide (0<DivN n a b r τ):=λ r hr τ=>by obtain⟨_,_,e4,_⟩:=hL r hr;rw[e4,Bool.eq_iff_iff,zl,xkP,zf,xzX,zI];constructor;rintro⟨h1,h2⟩;refine⟨h1,λ t ht=>?_⟩;obtain⟨g,g1,g2,g3⟩:=xhb.1 ht;have:=h2 t ((wb.mem t).2 ⟨g,g1,g2⟩);have hb:inL (byP id b t) τ:=xpg.2 ht;rw[hb]at this;exact xpg.1 (by simpa using this);rintro⟨h1,h2⟩;refine⟨h1,λ t ht=>?_⟩;by_cases hb:inL (byP id b t) τ=true;have:=xpg.2 (h2 t (xpg.1 hb));rw[this];simp;(have:inL (byP id b t) τ=false:=by simpa using hb);rw[this];simp
 have len:∀r,r∈H->(L r).length<=32:=λ r hr=>by(have len:=xpm (xm8 (N:=DivN n a b r) (hL r hr).2.1 (dn r hr)) ((byP (·.take n) a r).map (·.1)++b.map (·.p.2)) λ τ=>by have:=h.bound (hH r hr).2 τ;have h1:=xlD n a b r τ;have h2:=xlD n a b r (τ - 1);split<;>split<;>omega);have bl:=xup (·.take n) a r;rw[z8,za,za]at len;omega
 have hF:=xv5 (L:=L) (g:=λ _=>32) H len;rw[xzi]at hF;have W:∀r τ,cnt (xLx H L) r τ=DivN n a b r τ:=λ r τ=>by rw[xpi L r τ H wh.nd];split;rename_i hr;rw[xs7 (hL r hr).2.1,dn r hr];have:=xlD n a b r τ;by_cases c:0<DivN n a b r τ;simp[c];omega;simp[c];omega;rename_i hr;cases hc:DivN n a b r τ with|zero=>rfl|succ k=>obtain⟨⟨f,f1,f2,_⟩,_⟩:=xkP.1 (show 0<DivN n a b r τ by omega);exact absurd ((wh.mem r).2 ⟨f,f1,f2⟩) hr
 have q:∀f,f∈xLx H L->∃g,g∈a/\g.r.take n=f.r:=λ f hf=>(wh.mem _).1 (xnd hf).1;have J:Nice (xLx H L):=λ f hf=>(hH f.r (xnd hf).1).1;obtain ⟨B,b1,b2,b3⟩:=xCU J Ω (R20.of (l:=a.map fun f=>⟨f.r.take n,f.p⟩) (R20.few (by rw [za];omega)) fun f hf=>by
  obtain ⟨g,g1,g2⟩:=q f hf;exact ⟨_,zK.2 ⟨g,g1,rfl⟩,g2.symm⟩)
 have hB:RelB (DivN n a b) 512 B:=⟨b2.isB.congr fun r t=>by
  rw [W];have:=xlD n a b r t;split<;>omega,Nat.le_trans b3.len Ω,b3.nice⟩
 refine⟨B,?_,hB,b2.all (Q:=λ r=>∃g,g∈a/\g.r.take n=r) q⟩;have ad:xjR (Ka.map encN) (Kb.map encN)=(n:Int):=by(have w:IntKind.i64.wrap ((Ka.length:Int) - (Kb.length:Int))=(n:Int):=by rw[xaO Ω Ω];omega);unfold xjR;rw[za,za,w];split<;>omega
 have v3:xcL (Ka.map encN) (Kb.map encN)=(n:Int):=by unfold xcL;rw[ad];split<;>omega
 have e0:=xEW (n:Int) Rb (Ka.map encN) (a.map encF) (he:=xqX (a.map encF) (n:Int)) ⟨wh.look,wh.row⟩ H Ω (λ r hr=>(hH r hr).1) L hL H.length 0 [] Ω Ψ;rw[zr,zU]at e0;have e0:Iter (xd3 (n:Int) (Rb.map encR) (H.map encR) ((H.length:Nat):Int)) ((0:Nat),(0:Int),Ka.map encN,a.map encF,xiC (a.map encF),xqX (a.map encF) (n:Int),xiC (b.map encF),[])=some ((xLx H L).length,Ka.map encN,a.map encF,(xLx H L).map encF):=e0;generalize xLx H L=F at e0 b1;have af:xjQ (Ka.map encN) (a.map encF) (Kb.map encN) (b.map encF)=some (F.length,Ka.map encN,a.map encF,F.map encF):=by unfold xjQ;rw[v3,wh.rows,wb.rows,za,e0]
 have tF:List.take F.length (F.map encF)=F.map encF:=zi Ψ;have ag:n<=Ka.length:=Ω
 have Z:(n:Int)<=(Ka.length:Int):=Ω
 have lt:((Ka.take n).map encN).length=n:=by rw[za,zt];omega
 have m1:n*8<=140737488355328:=Ω
 have m2:n<=4611686018427387904:=Ω
 have tk:List.take n (Ka.map encN)=(Ka.take n).map encN:=by rw[List.map_take]
 have t2:List.take n ((Ka.take n).map encN)=(Ka.take n).map encN:=zi Ω;unfold xoc xoZ;simp only[xib,xod,xkE,xfb,v3,af,w1,w2,w3,zk,zh,xab,za,zH,zd,zn,zS,Bool.and_self,zr,tF,b1,Z,Int.natCast_nonneg,zN,Nat.sub_zero,tk,zU,lt,zt,Nat.min_eq_left ag,m1,m2,t2,sUF]
end Go.Sim.M
namespace Go.Sim.M
open Go.RowKit Go.Sim.Srt
def bnd(f:Fc):List Int:=if pv f.p then(if f.p.2<1099511627776 then[f.p.1,f.p.2]else[f.p.1])else[]
variable {a b t:Int}
theorem xja(ha:0<=a)(q:a<b)(hb:b<=1099511627776):hasP (a,b) t=decide (a<=t/\t<b):=by have:pv (a,b):=xbH.2 ⟨ha,q,hb⟩;unfold hasP;rw[this];by_cases h1:a<=t<;>by_cases h2:t<b<;>simp[h1,h2]
section
variable{Ka Kb:List Int}{a b:List Fc}{n:Nat}
end
def iv(n:Int):Val:=⟨1,n,[]⟩
def xIh{n:Int}(h0:0<=n)(h1:n<=100):xMm (iv n):=⟨⟨⟨wf64 (by show -9223372036854775808<=(1:Int);omega) (by show (1:Int)<=9223372036854775807;omega),wf64 (by show -9223372036854775808<=n;omega) (by show n<=9223372036854775807;omega),by show 0<=maxLen;omega⟩,by show 0<=_;omega⟩,⟨by show -1125899906842624<=n;omega,by show n<=1125899906842624;omega⟩⟩
def exA:List Fc:=[⟨[iv 1],(0,9)⟩,⟨[iv 1],(2,5)⟩]
def exB:List Fc:=[⟨[iv 1],(4,7)⟩]
def exX:List Fc:=[⟨[iv 1,iv 5],(0,6)⟩,⟨[iv 1,iv 6],(3,9)⟩,⟨[iv 2,iv 5],(0,9)⟩]
def exY:List Fc:=[⟨[iv 5],(1,9)⟩,⟨[iv 6],(4,8)⟩]
def xuy{l:List Fc}(h:l.all (λ f=>decide (f.r.length<=48)&&f.r.all λ v=>decide (v=iv v.i)&&(decide (0<=v.i)&&decide (v.i<=100)))):Nice l:=λ f hf=>by have h1:=zI.1 h f hf;simp only[zf,zl]at h1;refine⟨h1.1,λ v hv=>?_⟩;have h2:=zI.1 h1.2 v hv;simp only[zf,zl]at h2;rw[h2.1];exact xIh h2.2.1 h2.2.2
def xMC:Nice exA:=xuy (by decide)
def xMH:Nice exB:=xuy (by decide)
def xMX:Nice exX:=xuy (by decide)
def xMY:Nice exY:=xuy (by decide)
def xMU:Divs [1,1] [1] exX exY 1 where
 na:=xMX
 nb:=xMY
 la:=by simp[exX]
 lb:=by simp[exY]
 ka:=by simp
 kn:=by simp
 n0:=Ω
 ra:=λ f hf=>by
  simp only[exX,zC,List.not_mem_nil,or_false]at hf;rcases hf with rfl|rfl|rfl<;>rfl
 rb:=λ f hf=>by
  simp only[exY,zC,List.not_mem_nil,or_false]at hf;rcases hf with rfl|rfl<;>rfl
def xut{N:Row->Int->Nat}{ρ:Row}{P:List Per}(h:IsLevs (N ρ) P)(hz:∀r,r≠ρ->∀t,N r t=0):IsB N (mk ρ P):=
 ⟨[ρ],fun _=>P,List.pairwise_singleton _ _,fun r t ht=>by
  by_cases hr:r=ρ
  . simp[hr]
  . rw [hz r hr t] at ht;omega,fun r hr=>by simp at hr;subst hr;exact h,by simp [xLx,mk]⟩
def xz7(f:Fc)(l:List Fc)(r:Row)(t:Int):cnt (f::l) r t=cnt l r t+if f.r=r/\hasP f.p t then 1 else 0:=by have e2:cnt (f::l) r t=cnt l r t+if(decide (f.r=r)&&hasP f.p t) then 1 else 0:=List.countP_cons;rw[e2];simp only[zf,zl]
def cntA(r:Row)(t:Int):cnt exA r t=if r=[iv 1]then(if 0<=t/\t<9 then 1 else 0)+(if 2<=t/\t<5 then 1 else 0)else 0:=by have h1:=xja (a:=0) (b:=9) (t:=t) Ω Ω Ω;have h2:=xja (a:=2) (b:=5) (t:=t) Ω Ω Ω;simp only[exA,xz7,h1,h2,zl];show 0+_+_=_;by_cases hr:r=[iv 1];subst hr;simp;omega;have:¬ [iv 1]=r:=λ e=>hr e.symm;simp[hr,this]
def xMb(r:Row)(t:Int):cnt exB r t=if r=[iv 1]then(if 4<=t/\t<7 then 1 else 0)else 0:=by have h1:=xja (a:=4) (b:=7) (t:=t) Ω Ω Ω;simp only[exB,xz7,h1,zl];show 0+_=_;by_cases hr:r=[iv 1];subst hr;simp;have:¬ [iv 1]=r:=λ e=>hr e.symm;simp[hr,this]
def xMO(h0:0<=a)(h1:a<b)(h2:b<=1099511627776):IsSpan [(a,b)]:=⟨λ p hp=>by simp at hp;subst hp;exact xbH.2 ⟨h0,h1,h2⟩,List.pairwise_singleton _ _⟩
def in1(h0:0<=a)(h1:a<b)(h2:b<=1099511627776):inL [(a,b)] t=decide (a<=t/\t<b):=by unfold inL;rw[List.any_cons,List.any_nil,Bool.or_false,xja h0 h1 h2]
variable {c d:Int}
def xMP (h0:0<=a) (h1:a<b) (h2:b<c) (h3:c<d) (h4:d<=1099511627776):IsSpan [(a,b),(c,d)]:=⟨fun p hp=>by
 simp at hp;rcases hp with rfl|rfl
 . exact xbH.2 ⟨h0,h1,by dsimp only;omega⟩
 . exact xbH.2 ⟨by dsimp only;omega,h3,h4⟩,List.pairwise_pair.2 (by dsimp only;omega)⟩
def in2(h0:0<=a)(h1:a<b)(h2:b<c)(h3:c<d)(h4:d<=1099511627776):inL [(a,b),(c,d)] t=decide ((a<=t/\t<b)\/(c<=t/\t<d)):=by unfold inL;rw[List.any_cons,List.any_cons,List.any_nil,Bool.or_false,xja h0 h1 Ω,xja Ω h3 h4,Bool.eq_iff_iff];simp
def unP:List Per:=[(0,9),(2,7),(4,5)]
def exP:List Per:=[(0,5),(2,4),(7,9)]
variable {N:Int->Nat}{k:Nat}
def lv1(h0:0<=a)(h1:a<b)(h2:b<=1099511627776)(h:∀t,(a<=t/\t<b)↔k<N t):IsSpan [(a,b)]/\∀t,inL [(a,b)] t=decide (k<N t):=⟨xMO h0 h1 h2,λ t=>by rw[in1 h0 h1 h2,Bool.eq_iff_iff,zl,zl,h]⟩
def lv0(h:∀t,¬ k<N t):IsSpan []/\∀t,inL [] t=decide (k<N t):=⟨xlF,λ t=>by rw[xhH,decide_eq_false (h t)]⟩
def levU:IsLevs (λ t=>cnt exA [iv 1] t+cnt exB [iv 1] t) unP:=by refine⟨?_,λ k=>match k with|0=>[(0,9)]|1=>[(2,7)]|2=>[(4,5)]|_=>[],3,λ t=>?_,λ k=>?_,List.Perm.refl _⟩;simp[Sorted,unP,xna];rw[cntA,xMb];simp only[if_true];split<;>split<;>split<;>omega;match k with|0=>refine lv1 Ω Ω Ω λ t=>?_;rw[cntA,xMb];simp only[if_true];split<;>split<;>split<;>omega|1=>refine lv1 Ω Ω Ω λ t=>?_;rw[cntA,xMb];simp only[if_true];split<;>split<;>split<;>omega|2=>refine lv1 Ω Ω Ω λ t=>?_;rw[cntA,xMb];simp only[if_true];split<;>split<;>split<;>omega|k+3=>refine lv0 λ t=>?_;rw[cntA,xMb];simp only[if_true];split<;>split<;>split<;>omega
def levX:IsLevs (λ t=>cnt exA [iv 1] t - cnt exB [iv 1] t) exP:=by refine⟨?_,λ k=>match k with|0=>[(0,5),(7,9)]|1=>[(2,4)]|_=>[],2,λ t=>?_,λ k=>?_,?_⟩;simp[Sorted,exP,xna];rw[cntA,xMb];simp only[if_true];split<;>split<;>split<;>omega;(match k with|0=>refine⟨xMP Ω Ω Ω Ω Ω,λ t=>?_⟩;show inL [(0,5),(7,9)] t=_;rw[in2 Ω Ω Ω Ω Ω,cntA,xMb,Bool.eq_iff_iff,zl,zl];simp only[if_true];split<;>split<;>split<;>omega|1=>refine lv1 Ω Ω Ω λ t=>?_;rw[cntA,xMb];simp only[if_true];split<;>split<;>split<;>omega|k+2=>refine lv0 λ t=>?_;rw[cntA,xMb];simp only[if_true];split<;>split<;>split<;>omega);exact List.Perm.cons _ (List.Perm.swap _ _ _)
def levM:IsLevs (λ t=>min (cnt exA [iv 1] t) (cnt exB [iv 1] t)) [(4,7)]:=by refine⟨?_,λ k=>match k with|0=>[(4,7)]|_=>[],1,λ t=>?_,λ k=>?_,List.Perm.refl _⟩;simp[Sorted];rw[cntA,xMb];simp only[if_true];split<;>split<;>split<;>omega;match k with|0=>refine lv1 Ω Ω Ω λ t=>?_;rw[cntA,xMb];simp only[if_true];split<;>split<;>split<;>omega|k+1=>refine lv0 λ t=>?_;rw[cntA,xMb];simp only[if_true];split<;>split<;>split<;>omega
def levD:IsLevs (λ t=>if 0<cnt exA [iv 1] t then 1 else 0) [(0,9)]:=by refine⟨?_,λ k=>match k with|0=>[(0,9)]|_=>[],1,λ t=>?_,λ k=>?_,List.Perm.refl _⟩;simp[Sorted];split<;>omega;match k with|0=>refine lv1 Ω Ω Ω λ t=>?_;rw[cntA];simp only[if_true];split<;>split<;>split<;>omega|k+1=>refine lv0 λ t=>?_;split<;>omega
def isbU:IsB (λ r t=>cnt exA r t+cnt exB r t) (mk [iv 1] unP):=xut (N:=λ r t=>cnt exA r t+cnt exB r t) levU λ r hr t=>by rw[cntA,xMb,if_neg hr,if_neg hr]
def isbX:IsB (λ r t=>cnt exA r t - cnt exB r t) (mk [iv 1] exP):=xut (N:=λ r t=>cnt exA r t - cnt exB r t) levX λ r hr t=>by rw[cntA,xMb,if_neg hr,if_neg hr]
def isbM:IsB (λ r t=>min (cnt exA r t) (cnt exB r t)) (mk [iv 1] [(4,7)]):=xut (N:=λ r t=>min (cnt exA r t) (cnt exB r t)) levM λ r hr t=>by rw[cntA,xMb,if_neg hr,if_neg hr];rfl
def isbD:IsB (λ r t=>if 0<cnt exA r t then 1 else 0) (mk [iv 1] [(0,9)]):=xut (N:=λ r t=>if 0<cnt exA r t then 1 else 0) levD λ r hr t=>by rw[cntA,if_neg hr];rfl
def xzI{n:Nat}{a b:List Fc}{h:Row}{τ:Int}:DivB n a b h τ↔(∃f,f∈a/\f.r.take n=h/\hasP f.p τ)/\∀g,g∈b->hasP g.p τ->∃f,f∈a/\f.r=h++g.r/\hasP f.p τ:=by unfold DivB;constructor;rintro⟨h1,h2⟩;exact⟨h1,λ g g1 g2=>xhb.1 (h2 g.r (xhb.2 ⟨g,g1,rfl,g2⟩))⟩;rintro⟨h1,h2⟩;refine⟨h1,λ t ht=>?_⟩;obtain⟨g,g1,rfl,g2⟩:=xhb.1 ht;exact xhb.2 (h2 g g1 g2)
def divE(τ:Int):(DivB 1 exX exY [iv 1] τ↔0<=τ/\τ<6)/\(DivB 1 exX exY [iv 2] τ↔(0<=τ/\τ<4)\/(8<=τ/\τ<9))/\∀h,DivB 1 exX exY h τ->h=[iv 1]\/h=[iv 2]:=by
 have h1:=xja (a:=0) (b:=6) (t:=τ) Ω Ω Ω;have h2:=xja (a:=3) (b:=9) (t:=τ) Ω Ω Ω;have h3:=xja (a:=0) (b:=9) (t:=τ) Ω Ω Ω;have h4:=xja (a:=1) (b:=9) (t:=τ) Ω Ω Ω;have h5:=xja (a:=4) (b:=8) (t:=τ) Ω Ω Ω;have q:¬ iv 1=iv 2:=by simp[iv]
 have Q:¬ iv 2=iv 1:=by simp[iv]
 have J:¬ iv 5=iv 6:=by simp[iv]
 have O:¬ iv 6=iv 5:=by simp[iv]
 refine⟨?_,?_,λ h hh=>?_⟩;rw[xzI];simp only[exX,exY,zC,List.not_mem_nil,or_false,exists_eq_or_imp,exists_eq_left,forall_eq_or_imp,forall_eq,h1,h2,h3,h4,h5,zl,List.take_succ_cons,List.take_zero,List.cons_append,zU,List.cons.injEq,and_true,true_and,q,Q,J,O,false_and,and_false,or_false,false_or,imp_false,not_and];omega;rw[xzI];simp only[exX,exY,zC,List.not_mem_nil,or_false,exists_eq_or_imp,exists_eq_left,forall_eq_or_imp,forall_eq,h1,h2,h3,h4,h5,zl,List.take_succ_cons,List.take_zero,List.cons_append,zU,List.cons.injEq,and_true,true_and,q,Q,J,O,false_and,and_false,or_false,false_or,imp_false,not_and];omega;obtain⟨f,hf,rfl,_⟩:=hh.1;simp only[exX,zC,List.not_mem_nil,or_false]at hf;rcases hf with rfl|rfl|rfl<;>simp
def dvR:Row->List Per:=λ r=>if r=[iv 1]then[(0,6)]else[(0,4),(8,9)]
def isbQ:IsB (DivN 1 exX exY) (mk [iv 1] [(0,6)]++mk [iv 2] [(0,4),(8,9)]):=by
 have q:¬ [iv 2]=[iv 1]:=by simp[iv]
 refine⟨[[iv 1],[iv 2]],dvR,?_,λ r t ht=>?_,λ r hr=>?_,?_⟩;refine List.pairwise_pair.2 ?_;have e1:cmpR [iv 1] [iv 2]≠0:=λ e=>q (xjD e).symm;have e2:cmpR [iv 1] [iv 2]=-1:=by decide +kernel
 omega;rcases(divE t).2.2 r (xkP.1 ht)with rfl|rfl<;>simp;have le:=xlD 1 exX exY r;have e:DivN 1 exX exY r=λ t=>if 0<DivN 1 exX exY r t then 1 else 0:=funext λ t=>by have:=le t;split<;>omega
 rw[e];simp only[zC,List.not_mem_nil,or_false]at hr;rcases hr with rfl|rfl;have:dvR [iv 1]=[(0,6)]:=if_pos rfl;rw[this];refine xm8 (xMO Ω Ω Ω) λ t=>?_;rw[in1 Ω Ω Ω,Bool.eq_iff_iff,zl,zl,xkP,(divE t).1];have:dvR [iv 2]=[(0,4),(8,9)]:=if_neg q;rw[this];refine xm8 (xMP Ω Ω Ω Ω Ω) λ t=>?_;rw[in2 Ω Ω Ω Ω Ω,Bool.eq_iff_iff,zl,zl,xkP,(divE t).2.1];simp[xLx,mk,dvR,q]
def xCk(f t:Int)(row:List Int)(hl:row.length<=8):xau f t (row.map encN)=some ((row.map iv).map encV,f,t):=by
 have key:=xjM (step:=xeL (row.map encN)) (fun k=>(((k:Nat):Int),(0:Int),(0:Int),f,t,((row.take k).map iv).length,((row.take k).map iv).map encV)) row.length ((0:Int),(0:Int),(row.map iv).length,f,t,(row.map iv).map encV) (fun k hk=>by
  have i1:(k:Int)<(row.length:Int):=Ω
  have gf:(row.map encN).getD k .top=encN row[k]:=xad _ _ _ hk;have tl:((row.take k).map iv).length<=8:=by rw[za,zt];omega
  have m1:(((row.take k).map iv).length+1)*32<=140737488355328:=Ω
  have m2:((row.take k).map iv).length+1<=4611686018427387904:=Ω
  have tk:(row.take (k+1)).map iv=(row.take k).map iv++[iv row[k]]:=by rw[List.take_add_one,ze hk,zx];rfl
  rw[tk];generalize (row.take k).map iv=D at m1 m2;simp only[xeL,xky,za,z8,zj,i1,hk,gf,cN,sN,m1,m2,zN,Int.natCast_nonneg,beq_self_eq_true,zn,Bool.and_self,zS,xab,xL0 (n:=k) Ω,zx,zV,zW,sUF]
  simp [encV,iv]) (by
  simp only [xeL,xky,za,zy,zm,xae,y6,sUF]) row.length 0 Ω
 have key:Iter (xeL (row.map encN)) ((0:Int),(0:Int),(0:Int),f,t,(0:Nat),[])=some ((0:Int),(0:Int),(row.map iv).length,f,t,(row.map iv).map encV):=key;generalize row.map iv=D at key;have tt:List.take D.length (D.map encV)=D.map encV:=zi Ψ;unfold xau xqR;simp only[xgy,xpM,key,zk,zh,xab,za,zH,zd,zn,Bool.and_self,zr,tt,sUF]
def xFI(c:Nat)(hc:c<=8)(l:List AV):xeM (c:Int) l=some ((List.replicate c (1:Int)).map encN,l):=by
 have key:=xjM (step:=xc9 (c:Int)) (fun k=>(((k:Nat):Int),l,(List.replicate k (1:Int)).length,(List.replicate k (1:Int)).map encN)) c ((List.replicate c (1:Int)).length,l,(List.replicate c (1:Int)).map encN) (fun k hk=>by
  have i1:(k:Int)<(c:Int):=Ω
  have tl:(List.replicate k (1:Int)).length<=8:=by rw[List.length_replicate];omega
  have m1:((List.replicate k (1:Int)).length+1)*8<=140737488355328:=Ω
  have m2:(List.replicate k (1:Int)).length+1<=4611686018427387904:=Ω
  have tk:List.replicate (k+1) (1:Int)=List.replicate k 1++[1]:=List.replicate_succ';rw [tk];generalize List.replicate k (1:Int)=D at m1 m2;simp only [xc9,xhw,za,z8,zj,i1,m1,m2,beq_self_eq_true,zn,Bool.and_self,xab,xL0 (n:=k) Ω,zx,zV,zW,encN,sUF]) (by
  simp only [xc9,xhw,zy,zm,xae,sUF]) c 0 Ω
 have key:Iter (xc9 (c:Int)) ((0:Int),l,(0:Nat),[])=some ((List.replicate c (1:Int)).length,l,(List.replicate c (1:Int)).map encN):=key;generalize List.replicate c (1:Int)=D at key;have tt:List.take D.length (D.map encN)=D.map encN:=zi Ψ;unfold xeM xmV;simp only[xfh,xl7,key,zk,zh,xab,za,zH,zd,zn,Bool.and_self,zr,tt,sUF]
def xMa(f t a:Int):xau f t [AV.int .i64 a]=some ([encV (iv a)],f,t):=xCk f t [a] Ψ
def xMB(f t a b:Int):xau f t [AV.int .i64 a,AV.int .i64 b]=some ([encV (iv a),encV (iv b)],f,t):=xCk f t [a,b] Ψ
def rel1(l:List AV):xeM 1 l=some (([1]:List Int).map encN,l):=xFI 1 Ω l
def rel2(l:List AV):xeM 2 l=some (([1,1]:List Int).map encN,l):=xFI 2 Ω l
def xGb:xa1 (([1]:List Int).map encN) (exA.map encF) (([1]:List Int).map encN) (exB.map encF)=some (([1]:List Int).map encN,(mk [iv 1] unP).map encF):=by obtain⟨B,e,h⟩:=xlB [1] (([1]:List Int).map encN) Ψ xMC xMH (by simp[exA,exB]) (R20.few (by simp[exA,exB]));rw[h.isB.unique isbU]at e;exact e
def xEz:xcj (([1]:List Int).map encN) (exA.map encF) (([1]:List Int).map encN) (exB.map encF)=some (([1]:List Int).map encN,(mk [iv 1] exP).map encF):=by obtain⟨B,e,h⟩:=xol [1] (([1]:List Int).map encN) Ψ xMC xMH (by simp[exA,exB]) (R20.few (by simp[exA,exB]));rw[h.isB.unique isbX]at e;exact e
def xGa:xaU (([1]:List Int).map encN) (exA.map encF) (([1]:List Int).map encN) (exB.map encF)=some (([1]:List Int).map encN,(mk [iv 1] [(4,7)]).map encF):=by obtain⟨B,e,h⟩:=xnq [1] (([1]:List Int).map encN) Ψ xMC xMH (by simp[exA,exB]) (R20.few (by simp[exA,exB]));rw[h.isB.unique isbM]at e;exact e
def xHQ:xhe (([1]:List Int).map encN) (exA.map encF)=some (([1]:List Int).map encN,(mk [iv 1] [(0,9)]).map encF):=by obtain⟨B,e,_,h⟩:=xAW [1] Ψ xMC (by simp[exA]) (R20.few (by simp[exA]));rw[h.isB.unique isbD]at e;exact e
def xJs:xoc (([1,1]:List Int).map encN) (exX.map encF) (([1]:List Int).map encN) (exY.map encF)=some (([1]:List Int).map encN,(mk [iv 1] [(0,6)]++mk [iv 2] [(0,4),(8,9)]).map encF):=by obtain⟨B,e,h,_⟩:=xDW xMU;rw[h.isB.unique isbQ]at e;exact e
def xq9{l:List Fc}(hl:l.length<=8)(hr:∀f,f∈l->f.r.length<=60):xbp (l.map encF) (l.map encF)=some true:=xHa Ω hr
def xvd:xg7=some true:=by
 have E40:xhW:=by unfold xhW;rw[xMa];rfl
 have E17:xke=some (([1]:List Int).map encN,exA.map encF):=by unfold xke xdl xe6 xku;rw[xMa,xMa,rel1];rfl
 have E20:xkh=some (([1]:List Int).map encN,exB.map encF):=by unfold xkh xkv;rw[xMa,rel1];rfl
 have E11:xkb=some (([1,1]:List Int).map encN,exX.map encF):=by unfold xkb xki xkj xkk;rw[xMB,xMB,xMB,rel2];rfl
 have E16:xkd=some (([1]:List Int).map encN,exY.map encF):=by unfold xkd xks xkn;rw[xMa,xMa,rel1];rfl
 have F9:xeK=([1]:List Int).map encN:=by unfold xeK xkc;rw[E17];rfl
 have F8:xeJ=exA.map encF:=by unfold xeJ xkc;rw[E17];rfl
 have F13:xhV=([1]:List Int).map encN:=by unfold xhV xkg;rw[E20];rfl
 have F12:xge=exB.map encF:=by unfold xge xkg;rw[E20];rfl
 have E7:xlO=some (([1]:List Int).map encN,(mk [iv 1] unP).map encF):=by unfold xlO;rw[F9,F8,F13,F12];exact xGb
 have E5:xlM=some (([1]:List Int).map encN,(mk [iv 1] exP).map encF):=by unfold xlM;rw[F9,F8,F13,F12];exact xEz
 have E6:xlN=some (([1]:List Int).map encN,(mk [iv 1] [(4,7)]).map encF):=by unfold xlN;rw[F9,F8,F13,F12];exact xGa
 have ED:xhe xeK xeJ=some (([1]:List Int).map encN,(mk [iv 1] [(0,9)]).map encF):=by rw[F9,F8];exact xHQ
 have E1:xlI=some (([1]:List Int).map encN,(mk [iv 1] [(0,6)]++mk [iv 2] [(0,4),(8,9)]).map encF):=by unfold xlI xnS xnT;rw[E11,E16];exact xJs
 have E3:xlK=some true:=by
  unfold xlK xdl xe6 xkr xko;rw [E7,xMa,xMa,xMa];exact xq9 (l:=mk [iv 1] unP) (by simp [mk,unP]) (fun f hf=>by
   obtain ⟨p,_,rfl⟩:=zK.1 hf;simp)
 have E2:xlJ=some true:=by
  unfold xlJ xkt xkw xkl;rw [E5,xMa,xMa,xMa];exact xq9 (l:=mk [iv 1] exP) (by simp [mk,exP]) (fun f hf=>by
   obtain ⟨p,_,rfl⟩:=zK.1 hf;simp)
 have E4:xlL=some true:=by
  unfold xlL;rw [E6,F12];exact xq9 (l:=mk [iv 1] [(4,7)]) (by simp [mk]) (fun f hf=>by
   obtain ⟨p,_,rfl⟩:=zK.1 hf;simp)
 have E18:xkf=some true:=by
  unfold xkf xdl xe6;rw [ED,xMa];exact xq9 (l:=mk [iv 1] [(0,9)]) (by simp [mk]) (fun f hf=>by
   obtain ⟨p,_,rfl⟩:=zK.1 hf;simp)
 have E0:xlH=some true:=by
  unfold xlH xkp xkq xkm;rw [E1,xMa,xMa,xMa];exact xq9 (l:=mk [iv 1] [(0,6)]++mk [iv 2] [(0,4),(8,9)]) (by simp [mk]) (fun f hf=>by
   rcases zG.1 hf with hf|hf;all_goals
    obtain ⟨p,_,rfl⟩:=zK.1 hf;simp)
 unfold xg7 xpL;simp only[xMa,xMB,E40,E17,E20,E11,E16,E7,E5,E6,ED,E1,E3,E2,E4,E18,E0,zk,zh,xab,sUF]
def xwb(Ka Kb Kc:List Int)(a b c:List Fc):xiB (Ka.map encN) (a.map encF) (Kb.map encN) (b.map encF) (Kc.map encN) (c.map encF)=some true:=by obtain⟨p,p1,p2⟩:=xCE Ka Kb a b;obtain⟨q,q1,q2⟩:=xCE Kb Kc b c;unfold xiB xhj;cases p with|false=>simp only[p1,xvd,zk,zh,Bool.not_false,xab,sUF]|true=>obtain⟨ha,hb,rfl⟩:=p2 rfl;cases q with|false=>simp only[p1,q1,xvd,zk,zh,Bool.not_false,Bool.not_true,xab,xae,sUF]|true=>obtain⟨_,hc,rfl⟩:=q2 rfl;have hk:=ha.kl;have la:=ha.len;have lb:=hb.len;have lc:=hc.len;obtain⟨U,u1,u2⟩:=xlB Ka (Ka.map encN) Ω ha.nice hb.nice Ω (r20 _);have ul:=u2.len;obtain⟨D,d1,d2⟩:=xol Ka (Ka.map encN) Ω ha.nice hb.nice Ω (r20 _);have dl:=d2.len;obtain⟨I,i1,i2⟩:=xnq Ka (Ka.map encN) Ω ha.nice hb.nice Ω (r20 _);have il:=i2.len;obtain⟨Ub,af,ad⟩:=xlB Ka (Ka.map encN) (a:=b) (b:=a) Ω hb.nice ha.nice Ω (r20 _);obtain⟨Ib,ah,ac⟩:=xnq Ka (Ka.map encN) (a:=b) (b:=a) Ω hb.nice ha.nice Ω (r20 _);obtain⟨AD,ai,aa⟩:=xol Ka (Ka.map encN) (a:=a) (b:=D) Ω ha.nice d2.nice Ω (r20 _);obtain⟨DI,Q,O⟩:=xlB Ka (Ka.map encN) (a:=D) (b:=I) Ω d2.nice i2.nice Ω (r20 _);have ak:=O.len;obtain⟨Ba,Z,W⟩:=xIv a (ha.nice.few Ω) Ω;obtain⟨Uc,ae,J⟩:=xlB Ka (Ka.map encN) (a:=b) (b:=c) Ω hb.nice hc.nice Ω (r20 _);have aj:=J.len;obtain⟨AU,ab,ag⟩:=xol Ka (Ka.map encN) (a:=a) (b:=Uc) Ω ha.nice J.nice Ω (r20 _);obtain⟨DC,Y,V⟩:=xol Ka (Ka.map encN) (a:=D) (b:=c) Ω d2.nice hc.nice Ω (r20 _);obtain⟨UC,s1,s2⟩:=xlB Ka (Ka.map encN) (a:=U) (b:=c) Ω u2.nice hc.nice Ω (r20 _);obtain⟨AUc,t1,t2⟩:=xlB Ka (Ka.map encN) (a:=a) (b:=Uc) Ω ha.nice J.nice Ω (r20 _);obtain⟨IC,v1,v2⟩:=xnq Ka (Ka.map encN) (a:=I) (b:=c) Ω i2.nice hc.nice Ω (r20 _);obtain⟨Ic,w1,w2⟩:=xnq Ka (Ka.map encN) (a:=b) (b:=c) Ω hb.nice hc.nice Ω (r20 _);have al:=w2.len;obtain⟨AI,x1,x2⟩:=xnq Ka (Ka.map encN) (a:=a) (b:=Ic) Ω ha.nice w2.nice Ω (r20 _);have L1:xb2 (Ka.map encN) (U.map encF) (Ka.map encN) (Ub.map encF)=some true:=xqu hk u2 Ω (ad.isB.congr λ r t=>by omega);have L2:xb2 (Ka.map encN) (I.map encF) (Ka.map encN) (Ib.map encF)=some true:=xqu hk i2 Ω (ac.isB.congr λ r t=>by omega);have L3:xb2 (Ka.map encN) (I.map encF) (Ka.map encN) (AD.map encF)=some true:=xqu hk i2 Ω (aa.isB.congr λ r t=>by rw[d2.cnt];omega);(have L4:xbp (DI.map encF) (Ba.map encF)=some true:=by have e:DI=Ba:=(O.isB.congr λ r t=>by rw[d2.cnt,i2.cnt];omega).unique W.isB;rw[xub DI Ba Ω (λ f hf=>by have:=(O.nice f hf).1;unfold maxLen;omega),e];simp);have L5:xb2 (Ka.map encN) (AU.map encF) (Ka.map encN) (DC.map encF)=some true:=xqu hk ag Ω (V.isB.congr λ r t=>by rw[d2.cnt,J.cnt];omega);have L6:xb2 (Ka.map encN) (UC.map encF) (Ka.map encN) (AUc.map encF)=some true:=xqu hk s2 Ω (t2.isB.congr λ r t=>by rw[u2.cnt,J.cnt];omega);have L7:xb2 (Ka.map encN) (IC.map encF) (Ka.map encN) (AI.map encF)=some true:=xqu hk v2 Ω (x2.isB.congr λ r t=>by rw[i2.cnt,w2.cnt];omega);simp only[xgL,xgM,xgN,xgO,xgP,xgQ,xgR,xgS,xgu,xgv,xb7,xb8,xes,xet,xeu,xev,xgw,xew,p1,q1,xvd,u1,d1,i1,af,ah,ai,Q,Z,ae,ab,Y,s1,t1,v1,w1,x1,L1,L2,L3,L4,L5,L6,L7,zk,zh,Bool.not_true,xab,xae,sUF]
end Go.Sim.M
namespace Go.Sim.M
def xvg(x y z:List Int×List Fc){P Q R:Prop}(_:P)(_:Q)(_:R):xiB (x.1.map encN) (x.2.map encF) (y.1.map encN) (y.2.map encF) (z.1.map encN) (z.2.map encF)=some true:=xwb x.1 y.1 z.1 x.2 y.2 z.2
end Go.Sim.M
namespace Go.Proofs.YtodofdnlhoknhaaGreatDoor.setopDifferences
open Go.ChangeShapes Go.WideShapes Go.ChangeAt Go.RowKit Go.Sim
theorem contract(H:Type)(enc:TypeId×Value->H)(W:World)(base:Nat)(args:Array Value)(ds gs:List (DataW H))(before:List MemPlace)(hval:∀(j:Nat) t v,Tryz.f7.params[j]?=some t->args[j]?=some v->Value.okWide Tryz.prog W .any base t v)(hW:DataW.Whole enc Tryz.prog Tryz.f7.params.toList Rows.setopDifferencesSpec.vars false W args.toList ds gs before)(hL:laidMetH Tryz.prog Rows.setopDifferencesRow.laid W)(hsh:W.ShapedOpen Tryz.prog):Calls Tryz.prog 7 args W λ e W'=>∃v,e=.returned v/\Rows.setopDifferencesSpec.post enc Tryz.prog Tryz.f7 false true false false W args v W':=by
 have hW':=hW;obtain⟨p,q,hA0,hV,rfl,hfz,hnd⟩:=hW;have hA:DataW.TrodAll enc Tryz.prog W 0 (λ _=>true) true Tryz.f7.params.toList args.toList ds p:=hA0;have hAk:=hA;rw[Tryz.params7]at hA hval;obtain⟨v0,vs0,d0,ds0,p0,q0,hargs,rfl,rfl,h0,r0⟩:=trodAll_cons hA;obtain⟨v1,vs1,d1,ds1,p1,q1,rfl,rfl,rfl,h1,r1⟩:=trodAll_cons r0;obtain⟨v2,vs2,d2,ds2,p2,q2,rfl,rfl,rfl,h2,r2⟩:=trodAll_cons r1;obtain⟨rfl,rfl,rfl⟩:=trodAll_nil r2;obtain rfl:args=#[v0,v1,v2]:=by cases args;simp_all
 obtain⟨rfl,rfl⟩:=trodVars_none hV;obtain⟨a0,rr0,b0,w0⟩:=xvu (hval 0 25 v0 rfl rfl) h0;obtain⟨a1,rr1,b1,w1⟩:=xvu (hval 1 25 v1 rfl rfl) h1;obtain⟨a2,rr2,b2,w2⟩:=xvu (hval 2 25 v2 rfl rfl) h2;clear hA0;have hI:xNJ W:=xKg rfl Θ hL hsh;have hpl:=M.xvg a0 a1 a2 w0 w1 w2;have hg:Sim.Good Tryz.prog xNJ 7 [(.agg [.list 1 (a0.1.map M.encN),.list 3 (a0.2.map M.encF)]),(.agg [.list 1 (a1.1.map M.encN),.list 3 (a1.2.map M.encF)]),(.agg [.list 1 (a2.1.map M.encN),.list 3 (a2.2.map M.encF)])] (.bool true):=M.xqO _ _ (congrArg (λ x:Option Bool=>some (x.isSome,AV.bool (x.getD false))) hpl);have hrc:RC W (λ _=>False) xNe [v0,v1,v2] [(.agg [.list 1 (a0.1.map M.encN),.list 3 (a0.2.map M.encF)]),(.agg [.list 1 (a1.1.map M.encN),.list 3 (a1.2.map M.encF)]),(.agg [.list 1 (a2.1.map M.encN),.list 3 (a2.2.map M.encF)])]:=by refine⟨rfl,λ i hi=>?_⟩;match i,hi with|0,_=>exact rr0|1,_=>exact rr1|2,_=>exact rr2
 refine(hg.2 W (λ _=>False) _ hI (λ _ h=>h.elim) hrc).mono λ e W'⟨v,he,hb,hr⟩=>?_;subst he;obtain rfl:=hr.bool_inv;exact⟨_,rfl,xFz rfl hW' ⟨rfl,rfl,rfl⟩ rfl Tryz.underlying4 (by simpa using xtf xML hb Θ hAk) hb⟩
noncomputable def wit:Array Value:=#[.agg #[.slice none 0 0,.slice none 0 0],.agg #[.slice none 0 0,.slice none 0 0],.agg #[.slice none 0 0,.slice none 0 0]]
theorem laid_met(os:Os):laidMet Tryz.prog Rows.setopDifferencesRow.laid ((xMv Tryz.prog Rows.setopDifferencesRow.laid os).forCall (λ _ _=>0) ⟨#[],wit,[]⟩).memory:=laidMet_of_run3 8 Θ Θ Θ
theorem reads(os:Os){H:Type}(enc:TypeId×Value->H):∃places,DataW.whole enc Tryz.prog ((xMv Tryz.prog Rows.setopDifferencesRow.laid os).forCall (λ _ _=>0) ⟨#[],wit,[]⟩).memory Tryz.f7.params.toList Rows.setopDifferencesSpec.vars false wit.toList 8=some ([.agg [.nil,.nil],.agg [.nil,.nil],.agg [.nil,.nil]],[],places):=⟨[],by kernel_rfl⟩
set_option maxRecDepth 100000 in
theorem lifted(os:Os)(started:os.Started)(H:Type)(enc:TypeId×Value->H)(F:Stop.Interp):ReturnsInHanded {} Tryz.checked os 7 .any ((OpenSpec.ofChange Rows.setopDifferencesSpec).preRow enc Tryz.prog Tryz.f7 Rows.setopDifferencesRow.domain false Rows.setopDifferencesRow.laid) (((OpenSpec.ofChange Rows.setopDifferencesSpec).at F).post enc Tryz.prog Tryz.f7 false true false false):=by obtain⟨places,hx⟩:=reads os enc;refine returnsInHanded_of_row (C:=Tryz.checked) (s:=OpenSpec.ofChange Rows.setopDifferencesSpec) xMS started (by kernel_rfl) Tryz.func7 (witness_row_at (enc:=enc) (C:=Tryz.checked) false (xMv Tryz.prog Rows.setopDifferencesRow.laid os) wit rfl (by kernel_rfl) (by kernel_rfl) (by kernel_rfl) (OpenSpec.preRow_of_cond 8 hx (by kernel_rfl) (λ k hk=>by cases hk) (by kernel_rfl) (laid_met os))) ?_;intro W base args ds gs before hval hW _ _ _ hL hsh _;exact contract H enc W base args ds gs before hval hW hL hsh
theorem said:Rows.SetopDifferencesSaid :=
 OpenClaim.holds_of_cond 7 Tryz.f7 rfl rfl rfl rfl rfl rfl rfl ⟨rfl,rfl,rfl,rfl,rfl⟩ rfl rfl rfl rfl rfl (by kernel_rfl) Tryz.func7 (by kernel_rfl)
  (of_decide_eq_true (by kernel_rfl)) (by unfold Func.isWrapper;first|(rw [if_pos (by decide +kernel)];kernel_rfl)|(rw [if_neg (by decide +kernel)];exact ⟨rfl,rfl⟩))
  (fun os started H enc _ F=>by rw [OpenClaim.pre_eq_preRow];exact lifted os started H enc F)
theorem plain(f:FuncId)(fn:Func)(hf:Tryz.pinned.checked.prog.funcNamed "bitemporal/bitemporallaw25.SetopDifferences" =some f)(hfn:Tryz.pinned.checked.prog.funcs[f]?=some fn):false=Tryz.pinned.checked.prog.looks []/\∀(j:Nat) t,fn.params[j]?=some t->Tryz.pinned.checked.prog.wantsStandIn t=false:=by obtain rfl:f=7:=Option.some.inj ((show Tryz.prog.funcNamed "bitemporal/bitemporallaw25.SetopDifferences" =some 7 by kernel_rfl).symm.trans hf) |>.symm;obtain rfl:fn=Tryz.f7:=(Option.some.inj (Tryz.func7.symm.trans hfn)).symm;refine⟨by kernel_rfl,λ j t ht=>?_⟩;(rw[Tryz.params7]at ht;have hm:=Array.mem_of_getElem? ht;have:([25,25,25]:List Nat).all (λ t=>!(Tryz.prog.wantsStandIn t)):=by kernel_rfl);have:=List.all_eq_true.1 this t (by simpa using hm);show Tryz.prog.wantsStandIn t=false;simpa using this
theorem card:Rows.SetopDifferencesCardSaid:=Claim7.holds_tied_plain_at .later [] _ _ _ _ said (λ _ h=>by cases h) Θ (λ _ h=>by cases h) setopDifferences_row_tie rfl ⟨rfl,rfl⟩ Θ rfl plain Θ
end Go.Proofs.YtodofdnlhoknhaaGreatDoor.setopDifferences
