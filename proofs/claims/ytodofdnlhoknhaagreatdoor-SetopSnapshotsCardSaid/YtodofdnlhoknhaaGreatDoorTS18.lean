/- Part 18. -/
import Derived.Test.YtodofdnlhoknhaaGreatDoorTS17
import Derived.Lib.ItoaLen
set_option linter.all false
set_option maxRecDepth 100000
noncomputable section
namespace Go.Sim.M
open Go.RowKit Go.Sim.Srt
def Nd(l:List UInt8):Nat:=l.foldl (λ a c=>a*10+(c.toNat - 48)) 0
def Ws(u:Nat):∀c,c∈Lib.decDigits u->48<=c.toNat/\c.toNat<=57:=by induction u using Nat.strongRecOn with|_ u ih=>intro c hc;rw[Lib.decDigits]at hc;split at hc;rw[zv]at hc;subst hc;rw[UInt8.toNat_ofNat'];omega;rw[zG,zv]at hc;rcases hc with hc|rfl;exact ih (u / 10) Ω c hc;rw[UInt8.toNat_ofNat'];omega
def Xn(u:Nat):Nd (Lib.decDigits u)=u:=by induction u using Nat.strongRecOn with|_ u ih=>rw[Lib.decDigits];split;simp only[Nd,List.foldl_cons,List.foldl_nil,UInt8.toNat_ofNat'];omega;have:=ih (u / 10) Ω;unfold Nd at this|-;rw[List.foldl_append,this];simp only[List.foldl_cons,List.foldl_nil,UInt8.toNat_ofNat'];omega
def Wt{u v:Nat}(h:Lib.decDigits u=Lib.decDigits v):u=v:=by rw[<-Xn u,h,Xn]
def SM{a b:Int}(h:Lib.itoa a=Lib.itoa b):a=b:=by(unfold Lib.itoa at h;have k:∀u v:Nat,45::Lib.decDigits u≠Lib.decDigits v:=λ u v e=>by have:=Ws v 45 (by rw[<-e];simp);have t:(45:UInt8).toNat=45:=rfl;omega);split at h<;>split at h;have:=Wt (List.cons.inj h).2;omega;exact absurd h (k _ _);exact absurd h.symm (k _ _);have:=Wt h;omega
def CM(a:Int):(32:UInt8)∉Lib.itoa a:=by(have k:∀v:Nat,(32:UInt8)∉Lib.decDigits v:=λ v e=>by have:=Ws v 32 e;have t:(32:UInt8).toNat=32:=rfl;omega);unfold Lib.itoa;split;rw[zC];rintro(h|h);simp at h;exact k _ h;exact k _
def LG:∀{a b x y:List UInt8},(32:UInt8)∉a->(32:UInt8)∉b->a++32::x=b++32::y->a=b/\x=y|[],[],x,y,_,_,h=>⟨rfl,(List.cons.inj h).2⟩|[],c::b,x,y,_,hb,h=>absurd (List.cons.inj h).1 λ e=>hb (by rw[e];simp)|c::a,[],x,y,ha,_,h=>absurd (List.cons.inj h).1 λ e=>ha (by rw[<-e];simp)|c::a,d::b,x,y,ha,hb,h=>by obtain⟨e1,h⟩:=List.cons.inj h;obtain⟨e2,e3⟩:=LG (a:=a) (b:=b) (λ e=>ha (by simp[e])) (λ e=>hb (by simp[e])) h;exact⟨by rw[e1,e2],e3⟩
def fi(v:Val):List UInt8:=Lib.itoa v.k++32::(Lib.itoa v.i++32::(Lib.itoa (v.t.length:Int)++32::v.t))
def keyOf(r:Row):List UInt8:=r.flatMap fi
def SO(v:Val)(s:List UInt8):fi v++s=Lib.itoa v.k++32::(Lib.itoa v.i++32::(Lib.itoa (v.t.length:Int)++32::(v.t++s))):=by simp[fi]
def Cr(v:Val)(r:Row):keyOf (v::r)=fi v++keyOf r:=by simp[keyOf]
def Lq(v:Val)(s:List UInt8):fi v++s≠[]:=by rw[SO];simp
def Gu:∀{r r':Row},keyOf r=keyOf r'->r=r'|[],[],_=>rfl|[],v::r',h=>by rw[Cr]at h;exact absurd h.symm (Lq _ _)|v::r,[],h=>by rw[Cr]at h;exact absurd h (Lq _ _)|v::r,v'::r',h=>by rw[Cr,Cr,SO,SO]at h;obtain⟨h1,h⟩:=LG (CM _) (CM _) h;obtain⟨h2,h⟩:=LG (CM _) (CM _) h;obtain⟨h3,h⟩:=LG (CM _) (CM _) h;have h3:=SM h3;obtain⟨h4,h⟩:=List.append_inj h Ω;(obtain rfl:=Gu h;have:v=v':=by obtain⟨k,i,t⟩:=v;obtain⟨k',i',t'⟩:=v';obtain rfl:=SM h1;obtain rfl:=SM h2;subst h4;rfl);rw[this]
def oz{n:Int}(h:(Lit.int .i64 n).wf):-9223372036854775808<=n/\n<=9223372036854775807:=by have h:(decide ((IntKind.i64).min<=n)&&decide (n<=(IntKind.i64).max)):=h;rw[zf,zl,zl]at h;exact h
variable {v:Val}
def Vu(hw:v.wf)(ht:v.t.length<=1099511627776):(fi v).length<=66+v.t.length:=by obtain⟨w1,w2,_⟩:=hw;have a1:=Lib.itoa_length_le v.k (oz w1).1 (oz w1).2;have a2:=Lib.itoa_length_le v.i (oz w2).1 (oz w2).2;have a3:=Lib.itoa_length_le (v.t.length:Int) Ω Ω;simp only[fi,z8,zF];omega
def CR(s B:List UInt8)(h:(B++s).length<=140737488355328):rF s B.length (byteAVs B)=some ((s.length:Int),(B++s).length,byteAVs (B++s)):=by(rw[z8]at h;have h2:B.length+s.length<=4611686018427387904:=Ω);unfold rF Of;simp only[B1,beq_self_eq_true,Nat.mul_one,h,h2,zn,Bool.and_self,aW,Z7,z8,aI]
def Lm(B:List UInt8)(h:(B++[32]).length<=140737488355328):Hu 32 B.length (byteAVs B)=some ((B++[32]).length,byteAVs (B++[32])):=by(rw[z8,zj]at h;have h2:B.length+1<=4611686018427387904:=Ω);unfold Hu Ok;simp only[B1,beq_self_eq_true,Nat.mul_one,h,h2,zn,Bool.and_self,aW,Z7,z8,zj,aI];rfl
def aY(n:Int):List UInt8:=Lib.itoa n++[32]
def NV(t8:List AV)(t9 q:Int)(xs:List AV)(hx:xs.length=3)(j:Nat)(hj:j<3)(n:Int)(hn:xs.getD j .top=.int .i64 n)(h1:-9223372036854775808<=n)(h2:n<=9223372036854775807)(v0 v1:Int)(v2 B:List UInt8)(hB:B.length<=70368744177664):s9 t8 t9 q 3 3 ((j:Int),B.length,v0,v1,v2,xs,byteAVs B)=some (.inl (((j+1:Nat):Int),(B++aY n).length,v0,v1,v2,xs,byteAVs (B++aY n))):=by
 have hl:=Lib.itoa_length_le n h1 h2;have i1:(j:Int)<3:=Ω
 have i2:(j:Int)<((3:Nat):Int):=Ω
 have i3:j<xs.length:=Ω
 have e1:=CR (Lib.itoa n) B (by rw[z8];omega);have e2:=Lm (B++Lib.itoa n) (by rw[z8,z8,zj];omega);have hc:((AV.int IntKind.i64 n).cells.getD 0 .top).toInt=n:=rfl;have hs:dw (Sh.int IntKind.i64) ((AV.int IntKind.i64 n).cells.getD 0 .top):=rfl;simp only[s9,Is,OT,OU,OV,Ek,bR,i1,i2,i3,hn,hc,hs,h1,h2,e1,e2,dN (n:=j) Ω,aY,zw]
def xKC(t8:List AV)(t9 q:Int)(xs:List AV)(v0 v1:Int)(v2 B:List UInt8):s9 t8 t9 q 3 3 (((3:Nat):Int),B.length,v0,v1,v2,xs,byteAVs B)=some (.inr (B.length,v0,v1,v2,byteAVs B)):=by(have i1:¬ ((3:Nat):Int)<3:=Ω);simp only[s9,Is,i1,zm,bE,aI]
def CJ(v:Val):fi v=aY v.k++(aY v.i++(aY (v.t.length:Int)++v.t)):=by simp[fi,aY]
def pX(v:Val):Prop:=v.wf/\v.t.length<=1099511627776
def pX.len(h:pX v):(fi v).length<=1099511627842:=by have:=Vu h.1 h.2;have:=h.2;omega
def WG(t8:List AV)(t9 q:Int)(v:Val)(h:pX v)(B:List UInt8)(hB:B.length<=35184372088832):aB (s9 t8 t9 q 3 3) ((1:Int),(B++aY v.k).length,v.k,v.i,v.t,[AV.int .i64 v.k,AV.int .i64 v.i,AV.int .i64 (v.t.length:Int)],byteAVs (B++aY v.k))=some ((B++aY v.k++aY v.i++aY (v.t.length:Int)).length,v.k,v.i,v.t,byteAVs (B++aY v.k++aY v.i++aY (v.t.length:Int))):=by have hl:=h.len;have ht:=h.2;rw[CJ,z8,z8,z8]at hl;have e1:=NV t8 t9 q [AV.int .i64 v.k,AV.int .i64 v.i,AV.int .i64 (v.t.length:Int)] rfl 1 Ω v.i rfl (oz h.1.2.1).1 (oz h.1.2.1).2 v.k v.i v.t (B++aY v.k) (by rw[z8];omega);have e2:=NV t8 t9 q [AV.int .i64 v.k,AV.int .i64 v.i,AV.int .i64 (v.t.length:Int)] rfl 2 Ω (v.t.length:Int) rfl Ω Ω v.k v.i v.t (B++aY v.k++aY v.i) (by rw[z8,z8];omega);exact(eH e1).trans ((eH e2).trans (cQ (xKC ..)))
def xMH(t8:List AV)(t9 q:Int)(v:Val)(h:pX v)(B:List UInt8)(hB:B.length<=35184372088832):aB (s9 t8 t9 q 3 3) ((0:Int),B.length,v.k,v.i,v.t,[AV.int .i64 v.k,AV.int .i64 v.i,AV.int .i64 (v.t.length:Int)],byteAVs B)=some ((B++aY v.k++aY v.i++aY (v.t.length:Int)).length,v.k,v.i,v.t,byteAVs (B++aY v.k++aY v.i++aY (v.t.length:Int))):=by have e0:=NV t8 t9 q [AV.int .i64 v.k,AV.int .i64 v.i,AV.int .i64 (v.t.length:Int)] rfl 0 Ω v.k rfl (oz h.1.1).1 (oz h.1.1).2 v.k v.i v.t B Ω;exact(eH e0).trans (WG t8 t9 q v h B hB)
def Xz(r:Row)(hr:r.length<=1048576)(h:∀v,v∈r->pX v)(hk:(keyOf r).length<=17592186044416):∀d k:Nat,k+d=r.length->aB (AC (r.map encV) ((r.length:Nat):Int)) ((k:Int),(keyOf (r.take k)).length,byteAVs (keyOf (r.take k)))=some ((keyOf r).length,byteAVs (keyOf r))
 |0,k,hkk=>by
  obtain rfl:k=r.length:=by omega
  rw[y6];refine cQ ?_;simp only[AC,Ir,zy,zm,bE,aI]
 |d+1,k,hkk=>by
  have q:k<r.length:=by omega
  have hv:=h r[k] (zo q);have i1:(k:Int)<(r.length:Int):=by omega
  have gf:(r.map encV).getD k .top=encV r[k]:=cH _ _ _ q;have tk:keyOf (r.take (k+1))=keyOf (r.take k)++fi r[k]:=by
   unfold keyOf;rw[List.take_add_one,ze q,List.flatMap_append];simp
  have le:(keyOf (r.take (k+1))).length<=(keyOf r).length:=by
   conv=>rhs;rw[<-List.take_append_drop (k+1) r]
   unfold keyOf;rw[List.flatMap_append,z8];omega
  have hl:=hv.len;rw[tk,z8]at le;have e1:=xMH (r.map encV) (r.length:Int) (k:Int) r[k] hv (keyOf (r.take k)) (by omega)
  have kn:keyOf (r.take k)++fi r[k]=keyOf (r.take k)++aY r[k].k++aY r[k].i++aY (r[k].t.length:Int)++r[k].t:=by rw[CJ];simp only[zw]
  have e2:=CR r[k].t (keyOf (r.take k)++aY r[k].k++aY r[k].i++aY (r[k].t.length:Int)) (by rw[<-kn,z8];omega)
  rw[eH (s':=(((k+1:Nat):Int),(keyOf (r.take (k+1))).length,byteAVs (keyOf (r.take (k+1))))) ?_]
  . exact Xz r hr h hk d (k+1) (by omega)
  . rw[tk,kn];simp only[AC,Ir,OQ,OR,H8,OS,bR,q,i1,gf,uc,ud,ue,lV,sV,e1,e2,dN (n:=k) (by omega)]
def xMI(r:Row)(hr:r.length<=1048576)(h:∀v,v∈r->pX v)(hk:(keyOf r).length<=17592186044416):Ft (r.map encV)=some (keyOf r):=by match r with|[]=>rfl|v::t=>have hv:=h v Ψ;(have hl:=hv.len;have i1:(0:Int)<((t.length+1:Nat):Int):=Ω);(have i2:0<t.length+1:=Ω);(obtain⟨r1,r2⟩:=oz hv.1.1;have q:=Lib.itoa_length_le v.k r1 r2;have gf:((v::t).map encV).getD 0 .top=encV v:=rfl;have e0:rH (Lib.itoa v.k)=some (((Lib.itoa v.k).length:Int),(Lib.itoa v.k).length,byteAVs (Lib.itoa v.k)):=by(have m1:(Lib.itoa v.k).length<=140737488355328:=Ω);(have m2:(Lib.itoa v.k).length<=4611686018427387904:=Ω);unfold rH G6;simp only[B1,Nat.mul_one,m1,m2,zn,Bool.and_self,aW,aI]);have e1:Ht 32 (Lib.itoa v.k).length (byteAVs (Lib.itoa v.k))=some (([]++aY v.k).length,byteAVs ([]++aY v.k)):=Lm (Lib.itoa v.k) (by rw[z8,zj];omega);have e2:=WG ((v::t).map encV) ((t.length+1:Nat):Int) 0 v hv [] Ψ;(have kn:fi v=[]++aY v.k++aY v.i++aY (v.t.length:Int)++v.t:=by rw[CJ];simp);have e3:=CR v.t ([]++aY v.k++aY v.i++aY (v.t.length:Int)) (by rw[<-kn];omega);rw[<-kn]at e3;have e4:=Xz (v::t) hr h hk t.length 1 (by rw[zF];omega);(have tk:keyOf ((v::t).take 1)=fi v:=by simp[keyOf]);rw[tk,zF]at e4;have e4:aB (AC ((v::t).map encV) ((t.length+1:Nat):Int)) ((1:Int),(fi v).length,byteAVs (fi v))=_:=e4;have hne:(keyOf (v::t)).length≠0:=λ e=>Lq v (keyOf t) (by rw[<-Cr];exact List.length_eq_zero_iff.1 e);unfold Ft P6 BE PP PQ PR IL PS PT PU uH;simp only[za,zF,i1,i2,gf,uc,ud,ue,lV,sV,r1,r2,e0,e1,e2,e3,e4,zn,aW,Bool.and_self,beq_self_eq_true,zk,zh,B1,ZT,xuO,ne_eq,hne,not_false_eq_true,aI]
abbrev fI:=Row×List aF
def aM(g:fI):AV:=.agg [.list 3 (g.1.map encV),.list 2 (g.2.map aA)]
def mJ(x:AV):Bool:=x.cells.length==(2:Nat)&&ew [Sh.list (3:Nat),Sh.list (2:Nat)] x.cells (0:Nat)
def qn(x:AV):AV:=AV.agg [AV.list (3:Nat) (x.cells.getD (0:Nat) AV.top).toList,AV.list (2:Nat) (x.cells.getD (1:Nat) AV.top).toList]
def uk(x y:AV):Bool:=(tm (x.cells.getD 0 AV.top).toList (x.cells.getD 1 AV.top).toList (y.cells.getD 0 AV.top).toList (y.cells.getD 1 AV.top).toList).isSome
def ul(x y:AV):Int:=(tm (x.cells.getD 0 AV.top).toList (x.cells.getD 1 AV.top).toList (y.cells.getD 0 AV.top).toList (y.cells.getD 1 AV.top).toList).getD 0
theorem wB(a:fI):mJ (aM a):=rfl
theorem GN(a:fI):qn (aM a)=aM a:=rfl
section
variable{N:Nat}(hN:N <=2 ^ 60){ok:fI->Prop}{c:fI->fI->Int}(hc:∀x y,ok x->ok y->uk (aM x) (aM y) =true/\ul (aM x) (aM y) =c x y)
include hN
theorem XT(a b n:Nat)(l r:List fI)(ha:a<=2 ^ 60)(hb:b<=2 ^ 60)(hn:n<=2 ^ 60)(hl:dE N ok l)(hr:qA a b n l=some r):up N a b n (List.map aM l)=some (List.map aM r)/\dE N ok r:=by obtain⟨e1,e2⟩:=xKZ (okE:=mJ) (ldE:=qn) wB GN hN a b n ha hb hn (g:=G7 N a b n) (λ i xs=>rfl) hl hr;refine⟨?_,e2⟩;unfold up On;rw[e1];rfl
theorem xN0(a m b:Nat)(l r:List fI)(h1:a<=m)(h2:m<=b)(h3:b<=N)(hl:dE N ok l)(hr:wK a m b l=some r):xJ N a m b (List.map aM l)=some (List.map aM r)/\dE N ok r:=by unfold wK at hr;cases hi:aB (pr m) (m - a,b - m,l)with|none=>rw[hi]at hr;simp at hr|some p=>obtain⟨i,l'⟩:=p;rw[hi]at hr;obtain⟨e1,e2,e3⟩:=xKY (enc:=aM) hN (ok:=ok) (SW:=λ a b n xs=>up N a b n xs) (λ a b n l r ha hb hn hl hr=>XT hN a b n l r ha hb hn hl hr) m Ω (g:=Oi N m) (λ i j xs=>rfl) Ω Ω hl hi;obtain⟨e4,e5⟩:=XT hN (m - i) m i l' r Ω Ω Ω e3 hr;refine⟨?_,e5⟩;simp only[xJ,Oq,OB,DX,io (x:=(m:Int) - (a:Int)) (n:=m - a) Ω Ω,io (x:=(b:Int) - (m:Int)) (n:=b - m) Ω Ω,e1,zh,zk,aW,io (x:=(m:Int) - (i:Int)) (n:=m - i) Ω Ω,e4,aI]
include hc
theorem XO(a b:Nat)(ha:a<=N)(hb:b<=N){l r:List fI}(hl:dE N ok l)(hr:wU c a b l=some r):Aq N a b (List.map aM l)=some (List.map aM r)/\dE N ok r:=by obtain⟨e1,e2⟩:=xJq (enc:=aM) hN (c:=c) (ok:=ok) a b hb (gi:=λ i=>G1 N a b i) (λ i l r hl hr=>xKX (okE:=mJ) (ldE:=qn) wB GN hN (P:=uk) (V:=ul) hc a (λ j xs=>rfl) hl hr) (g:=G0 N a b) (λ i xs=>rfl) hl hr;refine⟨?_,e2⟩;unfold Aq Om;rw[io (x:=(a:Int)+1) (n:=a+1) Ω Ω,e1];rfl
theorem XU:∀(f a m b:Nat)(l r:List fI),a<m->m<b->b<=N->dE N ok l->jq c f a m b l=some r->pF f N a m b (List.map aM l)=some (List.map aM r)/\dE N ok r:=by intro f;induction f with|zero=>intro a m b l r _ _ _ _ hr;simp[jq]at hr|succ f ih=>
 intro a m b l r af ag hb hl hr;unfold jq at hr;show rB (pF f) N a m b (List.map aM l)=some (List.map aM r)/\dE N ok r;have W:IntKind.i64.wrap ((m:Int) - (a:Int))=((m - a:Nat):Int):=io Ω Ω;have ac:IntKind.i64.wrap ((b:Int) - (m:Int))=((b - m:Nat):Int):=io Ω Ω;by_cases h1:m - a=1;rw[if_pos h1]at hr;cases hi:aB (mb λ h=>(gP c l h a).map λ r=>decide (r<0)) (m,b)with|none=>rw[hi]at hr;simp at hr|some i=>rw[hi]at hr;obtain⟨e0,b1,b2⟩:=NH (okE:=mJ) wB hN (P:=uk) (V:=ul) hc (λ h=>h) (λ _=>a) (λ h=>h) (λ _=>(a:Int)) m b Ω (λ _ _ _=>rfl) (λ _ _ _=>rfl) (λ r=>decide (r<0)) (g:=DN N a) (λ i j xs=>rfl) hl (zd _) (zd _) Ω hi;obtain⟨e1,e2⟩:=xM0 (okE:=mJ) (ldE:=qn) wB GN hN (ok:=ok) (i - 1) i Ω Ω (g:=Od N i) (λ k xs=>rfl) hl hr;refine⟨?_,e2⟩;simp only[rB,xq,wZ,xc,xd,xe,xf,xg,ur,ut,ng,uv,uw,nh,lO,lQ,nQ,nR,Ad,Ae,Af,eL,Ag,Ah,Ai,xo,xp,Aj,Ak,pD,pE,W,h1,e0,zh,zk,aW,e1,Int.natCast_one,beq_self_eq_true,aI]
 rw[if_neg h1]at hr;have d1:(((m - a:Nat):Int)==1)=false:=by simp;omega
 by_cases h2:b - m=1;rw[if_pos h2]at hr;cases hi:aB (mb λ h=>(gP c l m h).map λ r=>!decide (r<0)) (a,m)with|none=>rw[hi]at hr;simp at hr|some i=>rw[hi]at hr;obtain⟨e0,b1,b2⟩:=NH (okE:=mJ) wB hN (P:=uk) (V:=ul) hc (λ _=>m) (λ h=>h) (λ _=>(m:Int)) (λ h=>h) a m Ω (λ _ _ _=>rfl) (λ _ _ _=>rfl) (λ r=>!decide (r<0)) (g:=DO N m) (λ i j xs=>rfl) hl (zd _) (zd _) Ω hi;obtain⟨e1,e2⟩:=xJp (okE:=mJ) (ldE:=qn) wB GN hN (ok:=ok) i (g:=Oe N i) (λ k xs=>rfl) hl hr;refine⟨?_,e2⟩;simp only[rB,xq,wZ,xc,xd,xe,xf,xg,ur,ut,ng,uv,uw,nh,lO,lQ,nQ,nR,Ad,Ae,Af,eL,Ag,Ah,Ai,xo,xp,Aj,Ak,pD,pE,W,ac,d1,h2,e0,zh,zk,aW,bE,e1,Int.natCast_one,beq_self_eq_true,aI]
 rw[if_neg h2]at hr;have d2:(((b - m:Nat):Int)==1)=false:=by simp;omega
 have hh:IntKind.i64.wrap ((IntKind.u64.wrap (IntKind.i64.wrap ((a:Int)+(b:Int)))).fdiv 2)=(((a+b) / 2:Nat):Int):=N7 Ω;obtain⟨q,Q⟩:∃q,q=(a+b) / 2:=⟨_,rfl⟩;rw[<-Q]at hr hh;have w2:IntKind.i64.wrap ((q:Int)+(m:Int))=((q+m:Nat):Int):=io Ω Ω;have w3:IntKind.i64.wrap (((q+m:Nat):Int) - 1)=((q+m - 1:Nat):Int):=io Ω Ω;obtain⟨lo,hi,ad,g1,g2,g3,g4,ae⟩:∃lo hi,(if q<m then(q+m - b,q)else(a,m))=(lo,hi)/\a<=lo/\lo<=hi/\hi<=m/\hi<=q/\((q<m/\lo=q+m - b/\hi=q)\/(¬ q<m/\lo=a/\hi=m)):=by by_cases h:q<m;exact⟨_,_,if_pos h,by omega,by omega,by omega,by omega,.inl ⟨h,rfl,rfl⟩⟩;exact⟨_,_,if_neg h,by omega,by omega,by omega,by omega,.inr ⟨h,rfl,rfl⟩⟩
 rw[ad]at hr;cases hs:aB (mb λ h=>(gP c l (q+m - 1 - h) h).map λ r=>!decide (r<0)) (lo,hi)with|none=>rw[hs]at hr;simp at hr|some s=>rw[hs]at hr;dsimp only at hr;obtain⟨e0,b1,b2⟩:=NH (okE:=mJ) wB hN (P:=uk) (V:=ul) hc (λ h=>q+m - 1 - h) (λ h=>h) (λ h=>IntKind.i64.wrap (((q+m - 1:Nat):Int) - h)) (λ h=>h) lo hi Ω (λ h _ _=>io Ω Ω) (λ _ _ _=>rfl) (λ r=>!decide (r<0)) (g:=G2 N a m b q ((q+m:Nat):Int) ((q+m - 1:Nat):Int)) (λ i j xs=>rfl) hl (zd _) (zd _) g2 hs;have w5:IntKind.i64.wrap (((q+m:Nat):Int) - (s:Int))=((q+m - s:Nat):Int):=io Ω Ω;obtain⟨e,he⟩:∃e,e=q+m - s:=⟨_,rfl⟩;rw[<-he]at hr w5;cases J:(if s<m/\m<e then wK s m e l else some l)with|none=>rw[J]at hr;simp at hr|some l1=>
 rw[J]at hr;dsimp only at hr;have k1:(s<m/\m<e/\xJ N s m e (List.map aM l)=some (List.map aM l1)/\dE N ok l1)\/(¬ (s<m/\m<e)/\l1=l):=by by_cases h:s<m/\m<e;rw[if_pos h]at J;obtain⟨x1,x2⟩:=xN0 hN s m e l l1 Ω Ω Ω hl J;exact .inl ⟨h.1,h.2,x1,x2⟩;rw[if_neg h]at J;simp only[z6]at J;exact .inr ⟨h,J.symm⟩
 have aa:dE N ok l1:=by rcases k1 with k|k;exact k.2.2.2;rw[k.2];exact hl
 cases O:(if a<s/\s<q then jq c f a s q l1 else some l1)with|none=>rw[O]at hr;simp at hr|some l2=>
 rw[O]at hr;dsimp only at hr;have k2:(a<s/\s<q/\pF f N a s q (List.map aM l1)=some (List.map aM l2)/\dE N ok l2)\/(¬ (a<s/\s<q)/\l2=l1):=by by_cases h:a<s/\s<q;rw[if_pos h]at O;obtain⟨x1,x2⟩:=ih a s q l1 l2 h.1 h.2 Ω aa O;exact .inl ⟨h.1,h.2,x1,x2⟩;rw[if_neg h]at O;simp only[z6]at O;exact .inr ⟨h,O.symm⟩
 have Y:dE N ok l2:=by rcases k2 with k|k;exact k.2.2.2;rw[k.2];exact aa
 have k3:(q<e/\e<b/\pF f N q e b (List.map aM l2)=some (List.map aM r)/\dE N ok r)\/(¬ (q<e/\e<b)/\r=l2):=by by_cases h:q<e/\e<b;rw[if_pos h]at hr;obtain⟨x1,x2⟩:=ih q e b l2 r h.1 h.2 hb Y hr;exact .inl ⟨h.1,h.2,x1,x2⟩;rw[if_neg h]at hr;simp only[z6]at hr;exact .inr ⟨h,hr.symm⟩
 refine⟨?_,?_⟩;clear ih hc hl aa Y hr O J hs ad;rcases ae with⟨hm,ab,Z⟩|⟨hm,ab,Z⟩;rw[ab,Z]at e0;have w4:IntKind.i64.wrap (((q+m:Nat):Int) - (b:Int))=((q+m - b:Nat):Int):=io Ω Ω;have dm:decide ((m:Int)>(q:Int)):=by simp[hm]
 simp only[rB,xq,wZ,xc,xd,xe,xf,xg,ur,ut,ng,uv,uw,nh,lO,lQ,nQ,nR,Ad,Ae,Af,eL,Ag,Ah,Ai,xo,xp,Aj,Ak,pD,pE,W,ac,d1,d2,hh,w2,w3,w4,dm,e0,w5,zh,zk,aW,bE,Int.ofNat_lt,aI];rcases k1 with⟨p1,p2,p3,_⟩|⟨p1,rfl⟩<;>rcases k2 with⟨q1,q2,q3,_⟩|⟨q1,rfl⟩<;>rcases k3 with⟨r1,r2,r3,_⟩|⟨r1,rfl⟩ <;> (by_cases t1:s<m<;>by_cases t2:m<e<;>by_cases t3:a<s<;>by_cases t4:s<q<;>by_cases t5:q<e<;>by_cases t6:e<b<;>first|(exfalso;omega) | (simp only[*,-Q,-he,t1,t2,t3,t4,t5,t6,zn,zm,hm,zh,zk,aW,bE,aI]));rw[ab,Z]at e0;have dm:decide ((m:Int)>(q:Int))=false:=by simp;omega
 simp only[rB,xq,wZ,xc,xd,xe,xf,xg,ur,ut,ng,uv,uw,nh,lO,lQ,nQ,nR,Ad,Ae,Af,eL,Ag,Ah,Ai,xo,xp,Aj,Ak,pD,pE,W,ac,d1,d2,hh,w2,w3,dm,e0,w5,zh,zk,aW,bE,Int.ofNat_lt,aI];rcases k1 with⟨p1,p2,p3,_⟩|⟨p1,rfl⟩<;>rcases k2 with⟨q1,q2,q3,_⟩|⟨q1,rfl⟩<;>rcases k3 with⟨r1,r2,r3,_⟩|⟨r1,rfl⟩ <;> (by_cases t1:s<m<;>by_cases t2:m<e<;>by_cases t3:a<s<;>by_cases t4:s<q<;>by_cases t5:q<e<;>by_cases t6:e<b<;>first|(exfalso;omega) | (simp only[*,-Q,-he,t1,t2,t3,t4,t5,t6,zn,zm,hm,zh,zk,aW,bE,aI]));rcases k3 with k|k;exact k.2.2.2;rw[k.2];exact Y
theorem xJt{l r:List fI}(hl:dE N ok l)(hr:DM c 1000 N l=some r):HK N N (List.map aM l)=some (List.map aM r)/\dE N ok r:=by unfold DM at hr;cases h1:aB (rz c N) (0,20,l)with|none=>rw[h1]at hr;simp at hr|some p=>obtain⟨a,l1⟩:=p;rw[h1]at hr;dsimp only at hr;obtain⟨e1,ha,_,V⟩:=U1 (enc:=aM) hN (ok:=ok) 20 Ω (p:=rz c N) (F:=λ a b l=>wU c a b l) (λ a b l l' h e=>by simp only[rz,h,if_true,e]) (λ a b l h e=>by simp only[rz,h,if_true,e]) (λ a b l h=>by simp only[rz,h,if_false]) (G:=λ a b xs=>Aq N a b xs) (λ a b l r O _ hb hl hr=>XO hN hc a b Ω hb hl hr) (g:=DQ N N 20) (λ a b xs=>rfl) (a:=0) hl h1 Ω;cases h2:wU c a N l1 with|none=>rw[h2]at hr;simp at hr|some l2=>
 rw[h2]at hr;dsimp only at hr;obtain⟨e2,Q⟩:=XO hN hc a N ha (zd _) V h2;have e3:aB (xh N N) (((20:Nat):Int),List.map aM l2)=some (List.map aM r)/\dE N ok r:=by
  refine tI (I:=λ s=>1<=s.1/\dE N ok s.2) (J:=dE N ok) (e:=λ(s:Nat×List fI)=>((s.1:Int),List.map aM s.2)) (f:=List.map aM) ?_ (s:=(20,l2)) ⟨by omega,Q⟩ hr;rintro⟨bs,l⟩ ⟨hb,hl⟩;dsimp only at hb hl;by_cases h:bs<N;have wb:IntKind.i64.wrap (2*(bs:Int))=((2*bs:Nat):Int):=io Ω Ω;have wb':IntKind.i64.wrap ((bs:Int)*2)=((bs*2:Nat):Int):=io Ω Ω;cases h3:aB (rx c 1000 bs N) (0,2*bs,l)with|none=>exact nm (by simp[qH,h,h3])|some p=>
   obtain ⟨a,l3⟩:=p;obtain ⟨f1,f2,f3,f4⟩:=U1 (enc:=aM) hN (ok:=ok) (2*bs) Ω (p:=rx c 1000 bs N) (F:=fun a b l=>jq c 1000 a (a+bs) b l) (fun a b l l' h e=>by simp only [rx,h,if_true,e]) (fun a b l h e=>by simp only [rx,h,if_true,e]) (fun a b l h=>by simp only [rx,h,if_false]) (G:=fun a b xs=>pF 1000 N a (IntKind.i64.wrap (a+(bs:Int))) b xs) (fun a b l r O Y W hl hr=>by
    have:=XU hN hc 1000 a (a+bs) b l r Ω Ω W hl hr
    rw[io (x:=(a:Int)+(bs:Int)) (n:=a+bs) Ω Ω]
    exact this) (g:=Hh N N bs) (fun a b xs=>by rw [<-wb];rfl) (a:=0) hl (by rw [zH];exact h3) Ω
   rw[zH,<-wb]at f1;have f1':aB (Hh N N bs) ((0:Int),IntKind.i64.wrap (2*(bs:Int)),List.map aM l)=some ((a:Int),List.map aM l3):=f1;have q:IntKind.i64.wrap ((a:Int)+(bs:Int))=((a+bs:Nat):Int):=io Ω Ω;by_cases h4:a+bs<N;(cases h5:jq c 1000 a (a+bs) N l3 with|none=>exact nm (by simp[qH,h,h3,h4,h5])|some l4=>obtain⟨f5,f6⟩:=XU hN hc 1000 a (a+bs) N l3 l4 Ω h4 (zd _) f4 h5;refine pV (s0:=(bs*2,l4)) (by simp[qH,h,h3,h4,h5]) ?_ ⟨by dsimp only;omega,f6⟩;(have q1:(bs:Int)<(N:Int):=Ω);(have q2:((a+bs:Nat):Int)<(N:Int):=Ω);simp only[xh,DP,Hp,Hq,Ac,Hr,f1',q1,q2,zn,aW,zk,zh,q,f5,wb',aI]);refine pV (s0:=(bs*2,l3)) (by simp[qH,h,h3,h4]) ?_ ⟨by dsimp only;omega,f4⟩;(have q1:(bs:Int)<(N:Int):=Ω);(have q2:¬ ((a+bs:Nat):Int)<(N:Int):=Ω);simp only[xh,DP,Hp,Hq,Ac,Hr,f1',q1,q2,zn,zm,aW,bE,zk,zh,q,wb',aI]
  refine sc (r0:=l) (by simp[qH,h]) ?_ hl;have q1:¬ (bs:Int)<(N:Int):=Ω
  simp only[xh,DP,q1,zm,bE,aI]
 have e1':aB (DQ N N 20) ((0:Int),(20:Int),List.map aM l)=some ((a:Int),List.map aM l1):=e1;have e3':aB (xh N N) ((20:Int),List.map aM l2)=some (List.map aM r):=e3.1;refine⟨?_,e3.2⟩;simp only[HK,Ot,Ou,Ov,Ow,e1',e2,e3',zk,zh,aW,aI]
end
theorem xN1{N:Nat}(hN:N*48<=140737488355328){ok:fI->Prop}{c:fI->fI->Int}(hc:∀x y:fI,ok x->ok y->uk (aM x) (aM y)/\ul (aM x) (aM y)=c x y)(l r:List fI)(hl:l.length=N)(ho:∀x,x∈l->ok x)(hr:DM c 1000 N l=some r):OC N (List.map aM l)=some (List.map aM r):=by obtain⟨e1,e2⟩:=xJt (N:=N) Ω (ok:=ok) hc ⟨hl,ho⟩ hr;simp only[OC,OA,e1,zk,zh,aW,aI]
def fL:Nat->List Row->List AV|_,[]=>[]|k,r::R=>.agg [.str (keyOf r),.int .i64 (k:Int)]::fL (k+1) R
def Wx:∀(R:List Row)(k:Nat)(r:Row),aP (fL k R) (keyOf r)=R.findIdx? λ x=>decide (x=r)|[],_,_=>rfl|x::R,k,r=>by(have hk:fC (keyOf r) (((AV.agg [.str (keyOf x),.int .i64 (k:Int)]).cells).getD 0 .top)=decide (x=r):=by show (keyOf x==keyOf r)=_;by_cases h:x=r;subst h;simp;have:¬ keyOf x=keyOf r:=λ e=>h (Gu e);simp[h,this]);show (match fC (keyOf r) (((AV.agg [.str (keyOf x),.int .i64 (k:Int)]).cells).getD 0 .top)with|true=>some 0|false=>(aP (fL (k+1) R) (keyOf r)).map (·+1))=_;rw[hk,List.findIdx?_cons,Wx R (k+1) r];by_cases h:x=r<;>simp[h]
def Vp:∀(R:List Row)(k:Nat),(fL k R).length=R.length|[],_=>rfl|_::R,k=>by show (fL (k+1) R).length+1=_;rw[Vp R];rfl
def UB:∀(R:List Row)(k:Nat)(r:Row),fL k (R++[r])=fL k R++[.agg [.str (keyOf r),.int .i64 ((k+R.length:Nat):Int)]]|[],_,_=>rfl|x::R,k,r=>by show _::fL (k+1) (R++[r])=_;rw[UB R (k+1) r,zF,show k+1+R.length=k+(R.length+1) by omega];rfl
def Vo:∀(R:List Row)(k j:Nat)(h:j<R.length),(fL k R).getD j .top=.agg [.str (keyOf R[j]),.int .i64 ((k+j:Nat):Int)]|x::R,k,0,h=>rfl|x::R,k,j+1,h=>by show (fL (k+1) R).getD j .top=_;rw[Vo R (k+1) j (by simpa using h),show k+1+j=k+(j+1) by omega];rfl
def upd(G:List fI)(f:Fc):List fI:=match (G.map (·.1)).findIdx? λ x=>decide (x=f.r)with|some j=>G.set j (f.r,(G.getD j ([],[])).2++[f.p])|none=>G++[(f.r,[f.p])]
structure GI (l:List Fc) (G:List fI):Prop where
 nd:(G.map (·.1)).Nodup
 mem:∀r,r∈G.map (·.1)↔∃f,f∈l/\f.r=r/\pv f.p
 ps:∀g,g∈G->g.2=cY l g.1
 len:G.length<=l.length
def GI.nil:GI [] []:=⟨List.nodup_nil,λ r=>by simp,λ g hg=>by simp at hg,zd _⟩
def Gq(l:List Fc)(f:Fc)(r:Row):cY (l++[f]) r=cY l r++(if f.r=r/\pv f.p then[f.p]else[]):=by unfold cY;rw[List.filter_append,zx];congr 1;by_cases h1:f.r=r<;>by_cases h2:pv f.p=true<;>simp[h1,h2]
variable {G:List fI}
def GI.skip{l:List Fc}(h:GI l G){f:Fc}(hf:pv f.p=false):GI (l++[f]) G:=
 ⟨h.nd,fun r=>by
  rw[h.mem];refine⟨λ⟨g,hg,e⟩=>⟨g,by simp[hg],e⟩,λ⟨g,hg,e1,e2⟩=>⟨g,?_,e1,e2⟩⟩
  rcases zG.1 hg with hg|hg
  . exact hg
  . rw [zv] at hg;subst hg;rw [hf] at e2;simp at e2,fun g hg=>by rw [Gq,if_neg (by rw [hf];simp),zD];exact h.ps g hg,by rw [z8];have:=h.len;omega⟩
variable {R:List Row}{j:Nat}
def xvf{r:Row}(h:R.findIdx? (λ x=>decide (x=r))=some j):∃hj:j<R.length,R[j]=r:=by obtain⟨hj,h1,_⟩:=List.findIdx?_eq_some_iff_getElem.1 h;exact⟨hj,by simpa using h1⟩
def xCh{r:Row}(h:R.findIdx? (λ x=>decide (x=r))=none):r∉R:=λ hr=>by have:=List.findIdx?_eq_none_iff.1 h r hr;simp at this
def Nm(hj:j<G.length){ps:List aF}{r:Row}(hr:G[j].1=r):(G.set j (r,ps)).map (·.1)=G.map (·.1):=by(rw[List.map_set];show (G.map (·.1)).set j r=_;rw[<-hr];have:(G.map (·.1))[j]'(by simpa using hj)=G[j].1:=by simp);rw[<-this];exact List.set_getElem_self _
def GI.upd{l:List Fc}(h:GI l G){f:Fc}(hf:pv f.p):GI (l++[f]) (M.upd G f):=by unfold M.upd;cases hi:(G.map (·.1)).findIdx? λ x=>decide (x=f.r)with|some j=>((obtain⟨hj,hr⟩:=xvf hi;rw[za]at hj;rw[List.getElem_map]at hr;dsimp only;have gd:G.getD j ([],[])=G[j]:=by rw[z7,ze hj];rfl);rw[gd];refine⟨by rw[Nm hj hr];exact h.nd,λ r=>?_,λ g hg=>?_,by rw[y4,z8];have:=h.len;omega⟩;rw[Nm hj hr,h.mem];refine⟨λ⟨g,hg,e⟩=>⟨g,by simp[hg],e⟩,λ⟨g,hg,e1,e2⟩=>?_⟩;rcases zG.1 hg with hg|hg;exact⟨g,hg,e1,e2⟩;rw[zv]at hg;subst hg;refine(h.mem r).1 ?_;rw[<-e1,<-hr];exact zK.2 ⟨G[j],zo hj,rfl⟩;obtain⟨i,q,rfl⟩:=zp.1 hg;rw[y4]at q;rw[List.getElem_set];by_cases O:j=i;subst O;rw[if_pos rfl,Gq,if_pos ⟨rfl,hf⟩,h.ps _ (zo hj),hr];rw[if_neg O,Gq,if_neg ?_,zD];exact h.ps _ (zo q);(rintro⟨e,_⟩;have hn:=zB.1 h.nd;have ei:(G.map (·.1))[i]'(by simpa using q)=G[i].1:=by simp);(have ej:(G.map (·.1))[j]'(by simpa using hj)=G[j].1:=by simp);rcases Nat.lt_or_gt_of_ne O with J|J;exact hn j i (by simpa using hj) (by simpa using q) J (by rw[ei,ej,hr,e]);exact hn i j (by simpa using q) (by simpa using hj) J (by rw[ei,ej,hr,e]))|none=>(have hr:=xCh hi;dsimp only;have hz:cY l f.r=[]:=by unfold cY;rw[List.map_eq_nil_iff,List.filter_eq_nil_iff];intro g hg he;simp only[zf,zl]at he;exact hr ((h.mem _).2 ⟨g,hg,he⟩));refine⟨?_,λ r=>?_,λ g hg=>?_,by rw[z8,z8];have:=h.len;simp;omega⟩;rw[zx];refine List.nodup_append.2 ⟨h.nd,by simp,λ a ha b hb e=>?_⟩;simp at hb;exact hr (by rw[<-hb,<-e];exact ha);rw[zx,zG,h.mem];simp only[zV,zW,zv,zG];constructor;rintro(⟨g,hg,e⟩|rfl);exact⟨g,.inl hg,e⟩;exact⟨f,.inr rfl,rfl,hf⟩;rintro⟨g,hg|rfl,e⟩;exact .inl ⟨g,hg,e⟩;exact .inr e.1.symm;rcases zG.1 hg with hg|hg;rw[Gq,if_neg ?_,zD];exact h.ps g hg;rintro⟨e,_⟩;exact hr (by rw[e];exact zK.2 ⟨g,hg,rfl⟩);rw[zv]at hg;subst hg;rw[Gq,if_pos ⟨rfl,hf⟩,hz];rfl
def L6(g:fI):((aM g).cells.getD 0 .top).toList=g.1.map encV:=rfl
def T6{α:Type}(l:List α)(x d:α):(l++[x]).getD l.length d=x:=by simp
def Tb{α:Type}(l:List α)(x y:α):(l++[x]).set l.length y=l++[y]:=by simp
def X8(xs:List AV):(AV.agg xs).cells=xs:=rfl
def DD(n:Nat)(xs:List AV):(AV.list n xs).toList=xs:=rfl
def Yb(k:IntKind)(n:Int):(AV.int k n).toInt=n:=rfl
def Ya(xs:List AV):jW 2 (.list 2 xs):=rfl
def Yd(n m:Nat):y7 (.int .i64 (n:Int)) m=decide (n<m):=rfl
def Yc:y7 (.int .i64 0) 1:=rfl
def TF(a b:AV):[a,b].getD 0 .top=a:=rfl
def TG(a b:AV):[a,b].getD 1 .top=b:=rfl
def lt2(a b:AV):([a,b].length==2):=rfl
def TP(a b:AV):List.take 1 [a,b]=[a]:=rfl
def TC(a b:AV):List.drop 2 [a,b]=[]:=rfl
def Wv(g:fI):aM g=.agg [.list 3 (g.1.map encV),.list 2 (g.2.map aA)]:=rfl
def Ww(p:aF):aA p=.agg [.int .i64 p.1,.int .i64 p.2]:=rfl
def kJ(l:List Fc):Prop:=True
def kJ.few{l:List Fc}(h:l.length<20):kJ l:=trivial
def kJ.of{l m:List Fc}(h:kJ l)(hm:∀f,f∈m->∃g,g∈l/\f.r=g.r):kJ m:=trivial
def GT(l:List Fc):kJ l:=trivial
def Keyed(l:List Fc):Prop:=oM l/\∀f,f∈l->(∀v,v∈f.r->pX v)/\(keyOf f.r).length<=17592186044416
def Keyed.key{l:List Fc}(h:Keyed l){f:Fc}(hf:f∈l):Ft (f.r.map encV)=some (keyOf f.r):=xMI f.r (h.1.2 f hf) (h.2 f hf).1 (h.2 f hf).2
def xHZ(l:List Fc)(h:Keyed l)(k:Nat)(hk:k<l.length)(G:List fI)(hG:GI (l.take k) G):uA (l.map encF) ((l.length:Nat):Int) (G.length,(k:Int),fL 0 (G.map (·.1)),G.map aM) =some (.inl ((if pv l[k].p then upd G l[k]else G).length,((k+1:Nat):Int),fL 0 ((if pv l[k].p then upd G l[k]else G).map (·.1)),(if pv l[k].p then upd G l[k]else G).map aM)):=by(have hl:=h.1.1;have i1:(k:Int)<(l.length:Int):=Ω);have gf:(l.map encF).getD k .top=encF l[k]:=cH _ _ _ hk;have ek:=h.key (zo hk);have kl:=(h.2 _ (zo hk)).2;have O:=hG.len;rw[zt]at O;cases hv:pv l[k].p with|false=>simp only[uA,AX,bR,i1,hk,gf,mV,mW,mX,m7,m8,m9,lF,im,il,CB,hv,dN (n:=k) Ω];rfl|true=>
 have k1:(keyOf l[k].r).length<=4611686018427387904:=Ω
 have hx:=Wx (G.map (·.1)) 0 l[k].r;have n1:(fL 0 (G.map (·.1))).length<4611686018427387904:=by rw[Vp,za];omega
 have m1:(G.length+1)*48<=140737488355328:=Ω
 have m2:G.length+1<=4611686018427387904:=Ω
 simp only[if_true];cases hi:(G.map (·.1)).findIdx? λ x=>decide (x=l[k].r)with|none=>(rw[hi]at hx;have hu:upd G l[k]=G++[(l[k].r,[l[k].p])]:=by unfold upd;rw[hi]);(have hh:iO (fL 0 (G.map (·.1))) (keyOf l[k].r)=false:=by unfold iO;rw[hx];rfl);(have hg:eP (AV.int .i64 0) (fL 0 (G.map (·.1))) (keyOf l[k].r)=AV.int .i64 0:=by unfold eP;rw[hx]);(have hp:dT (fL 0 (G.map (·.1))) (keyOf l[k].r) (AV.int .i64 (G.length:Int))=fL 0 ((G++[(l[k].r,[l[k].p])]).map (·.1)):=by unfold dT;rw[hx,zx];show _=fL 0 (G.map (·.1)++[l[k].r]);rw[UB,za,zH]);(have i2:(G.length:Int)<((G.length+1:Nat):Int):=Ω);(have J:dw (Sh.int .i64) (AV.int .i64 0):=rfl;have gl:∀x:AV,(G.map aM++[x]).getD G.length .top=x:=λ x=>by have:=T6 (G.map aM) x .top;rwa [za]at this);(have sl:∀x y:AV,(G.map aM++[x]).set G.length y=G.map aM++[y]:=λ x y=>by have:=Tb (G.map aM) x y;rwa [za]at this);rw[hu];simp only[uA,AX,HM,AM,AN,D3,HN,D4,o7,Ih,o8,rI,nS,Ea,HX,HY,ux,HZ,Eb,xB,bR,i1,hk,gf,mV,mW,mX,m7,m8,m9,lF,im,il,CB,hv,dN (n:=k) Ω,ek,k1,hh,hg,hp,n1,m1,m2,i2,J,gl,sl,z8,zj,zx,zV,zW,X8,DD,Yb,Ya,Yd,TF,TG,lt2,TP,TC,y4,Nat.lt_succ_self,Bool.and_self,List.length_nil,zH,Wv,Ww,List.singleton_append,zU,zD,Int.natCast_zero];try simp[aW,Yc,aI]|some j=>
 obtain⟨hj,hr⟩:=xvf hi;rw[hi]at hx;have q:j<G.length:=by simpa using hj
 rw[List.getElem_map]at hr;have gd:G.getD j ([],[])=G[j]:=by rw[z7,ze q];rfl
 have hu:upd G l[k]=G.set j (l[k].r,G[j].2++[l[k].p]):=by unfold upd;rw[hi];dsimp only;rw[gd]
 have hh:iO (fL 0 (G.map (·.1))) (keyOf l[k].r):=by unfold iO;rw[hx];rfl
 have hg:eP (AV.int .i64 0) (fL 0 (G.map (·.1))) (keyOf l[k].r)=AV.int .i64 (j:Int):=by unfold eP;rw[hx];dsimp only;rw[Vo _ _ _ hj,zH];rfl
 have gj:(G.map aM).getD j .top=aM G[j]:=cH _ _ _ q;have i2:(j:Int)<(G.length:Int):=Ω
 have J:dw (Sh.int .i64) (AV.int .i64 (j:Int)):=rfl;have pl:G[j].2.length<=k:=by rw[hG.ps _ (zo q)];have:=LC (l.take k) G[j].1;rw[zt]at this;omega
 have m3:(G[j].2.length+1)*16<=140737488355328:=Ω
 have m4:G[j].2.length+1<=4611686018427387904:=Ω
 have gs:∀x:AV,((G.map aM).set j x).getD j .top=x:=λ x=>by rw[z7,zL (by simpa using q)];rfl
 have ss:∀x y:AV,((G.map aM).set j x).set j y=(G.map aM).set j y:=λ x y=>List.set_set ..;have tj:(AV.int IntKind.i64 (j:Int)).toInt=(j:Int):=rfl;have cj:(aM G[j]).cells=[.list 3 (l[k].r.map encV),.list 2 (G[j].2.map aA)]:=by rw[<-hr];rfl
 rw[hu,Nm q hr,y4,List.map_set];simp only[uA,AX,HM,AM,AN,D3,HN,D4,o7,Ih,o8,rI,nS,Ea,HX,HY,ux,HZ,Eb,xB,bR,i1,hk,gf,mV,mW,mX,m7,m8,m9,lF,im,il,CB,hv,dN (n:=k) Ω,ek,k1,hh,hg,i2,J,tj,gj,cj,q,y4,gs,ss,X8,DD,Yb,Ya,Yd,TF,TG,lt2,TP,TC,m3,m4,Bool.and_self,z8,zj,Nat.lt_succ_self,Wv,Ww,zx,zV,zW,List.singleton_append,zD];try simp[aW,Yc,hr,aI]
def lE(l:List Fc):List fI:=l.foldl (λ G f=>if pv f.p then upd G f else G) []
def Vt(l:List Fc)(f:Fc):lE (l++[f])=if pv f.p then upd (lE l) f else lE l:=by simp[lE]
def Xw:∀l:List Fc,GI l.reverse (lE l.reverse)|[]=>GI.nil|f::l=>by rw[List.reverse_cons,Vt];have ih:=Xw l;cases hv:pv f.p with|true=>rw[if_pos rfl];exact ih.upd hv|false=>rw[if_neg Ψ];exact ih.skip hv
def Xx(l:List Fc):GI l (lE l):=by have:=Xw l.reverse;rwa [List.reverse_reverse]at this
def xHY(l:List Fc)(h:Keyed l):aB (uA (l.map encF) ((l.length:Nat):Int)) ((0:Nat),(0:Int),[],[])=some ((lE l).length,(lE l).map aM):=by refine r6 (λ k=>(((lE (l.take k)).length,((k:Nat):Int),fL 0 ((lE (l.take k)).map (·.1)),(lE (l.take k)).map aM):Nat×Int×List AV×List AV)) l.length _ (λ k hk=>?_) ?_ l.length 0 Ω;(rw[xHZ l h k hk (lE (l.take k)) (Xx _)];have tk:l.take (k+1)=l.take k++[l[k]]:=by rw[List.take_add_one,ze hk];rfl);rw[tk,Vt];simp only[uA,AX,za,zy,zm,bE,y6,aI]
def xKg(x y:fI)(hx:x.1.length<=4398046511104):uk (aM x) (aM y)/\ul (aM x) (aM y)=aK x.1 y.1:=by(have e:tm (x.1.map encV) (x.2.map aA) (y.1.map encV) (y.2.map aA)=some (aK x.1 y.1):=by unfold tm Pr;rw[xIb x.1 y.1 (by unfold maxLen;omega)];rfl);have e2:tm ((aM x).cells.getD 0 .top).toList ((aM x).cells.getD 1 .top).toList ((aM y).cells.getD 0 .top).toList ((aM y).cells.getD 1 .top).toList=some (aK x.1 y.1):=e;unfold uk ul;rw[e2];exact⟨rfl,rfl⟩
def Wb(l:List Fc)(h:Keyed l)(Q:kJ l):∃S:List fI,uW (l.map encF)=some (S.map aM)/\ry l (S.map (·.1))/\(∀g,g∈S->g.2=cY l g.1)/\S.length<=l.length:=by
 have hg:=Xx l;have O:=h.1.1;have J:=hg.len;have cG:Cm λ x y:fI=>aK x.1 y.1:=mj.on (e:=λ x:fI=>x.1);obtain⟨r,e,p,s⟩:=(λ F(hF:20<=F)=>xDW cG.ord F (lE l).length (V4 (Nat.le_trans J O) hF) (lE l) rfl) 1000 (by decide);have es:=xN1 (N:=(lE l).length) Ω (ok:=fun g=>g.1.length<=1048576) (c:=fun x y:fI=>aK x.1 y.1) (fun x y hx hy=>xKg x y Ω) (lE l) r rfl (fun g q=>by
  obtain ⟨f,hf,e,_⟩:=(hg.mem g.1).1 (zK.2 ⟨g,q,rfl⟩);rw [<-e];exact h.1.2 f hf) e
 have rl:=p.length_eq;refine⟨r,?_,⟨?_,λ x=>?_⟩,λ g q=>hg.ps g (p.mem_iff.1 q),by rw[rl];exact J⟩;have el:=xHY l h;have ra:yZ 2 1 ((lE l).map aM):=by unfold yZ;rw[zI];intro x hx;obtain⟨g,_,rfl⟩:=zK.1 hx;rfl
 have ll:(lE l).length<=r.length:=Ω
 have tt:List.take (lE l).length (r.map aM)=r.map aM:=zi (by rw[za];omega);unfold uW PV IT Bk Ps;simp only[za,el,zk,zh,aW,ra,es,zH,ll,zn,zS,zr,tt,aI];refine xH5 (λ _ _=>tH) ?_ ?_;exact List.pairwise_map.2 s;exact((p.map (·.1)).nodup_iff).2 hg.nd;rw[(p.map (·.1)).mem_iff];exact hg.mem x
end Go.Sim.M
namespace Go.Sim.M
open Go.RowKit Go.Lib Go.Sort
def fq(e:js):AV:=.agg [.int .i64 e.1,.int .i64 e.2.1,.int .i64 e.2.2]
theorem xwk(x y:Int):∀a b,bT x y (a++b)=bT x y a++bT x y b|[],b=>rfl|p::a,b=>by simp only[List.cons_append,bT,xwk x y a b];split<;>rfl
theorem xyN(x y:Int)(l:List aF)(n:Nat)(h:n<l.length):bT x y (l.take (n+1))=bT x y (l.take n)++(if pv l[n] then[(l[n].1,x,y),(l[n].2,-x,-y)]else[]):=by rw[List.take_add_one,ze h];show bT x y (l.take n++[l[n]])=_;rw[xwk];rfl
theorem xwi(B:List AV)(l:List aF)(hl:l.length<=1073741824):∀(k n:Nat),n+k=l.length->
  aB (uF B (l.map aA) ((l.length:Nat):Int)) ((bT 1 0 (l.take n)).length,((n:Nat):Int),(bT 1 0 (l.take n)).map fq)=some ((bT 1 0 l).length,(bT 1 0 l).map fq)
 |0,n,hk=>by
  obtain rfl:n=l.length:=by omega
  rw[zi (zd _)];refine cQ ?_;unfold uF;simp only;unfold I6;rw[decide_eq_false (by omega:¬ ((l.length:Nat):Int)<((l.length:Nat):Int))]
  rfl
 |k+1,n,hk=>by
  have h1:n<l.length:=by omega
  have J:=yA 1 0 (l.take n);have q:(l.take n).length<=n:=by rw[zt];omega
  have d1:((n:Nat):Int)<((l.length:Nat):Int):=by omega
  have d2:(0:Int)<=((n:Nat):Int):=by omega
  have d3:((bT 1 0 (l.take n)).length+2)*24<=140737488355328:=by omega
  have d4:(bT 1 0 (l.take n)).length+2<=4611686018427387904:=by omega
  have d5:((bT 1 0 (l.take n)).length==(bT 1 0 (l.take n)).length)=true:=by simp
  have gf:(l.map aA).getD n .top=aA l[n]:=cH _ _ _ h1;have c0:((aA l[n]).cells.getD 0 .top).toInt=l[n].1:=rfl;have c1:((aA l[n]).cells.getD 1 .top).toInt=l[n].2:=rfl;have sh:((aA l[n]).cells.length==(2:Nat)&&ew [Sh.int IntKind.i64,Sh.int IntKind.i64] (aA l[n]).cells (0:Nat))=true:=rfl;have st:uF B (l.map aA) ((l.length:Nat):Int) ((bT 1 0 (l.take n)).length,((n:Nat):Int),(bT 1 0 (l.take n)).map fq) =
    some (.inl ((bT 1 0 (l.take (n+1))).length,((n+1:Nat):Int),(bT 1 0 (l.take (n+1))).map fq)):=by
   rw[xyN 1 0 l n h1];unfold uF;simp only;unfold I6;rw[zN,gf,sh,c0,c1,CB,za,za,decide_eq_true d1,decide_eq_true d2,decide_eq_true h1,decide_eq_true d3,decide_eq_true d4,d5,tM (show n+1<=maxLen by unfold maxLen;omega)]
   cases pv l[n]with
   |true=>simp only[if_true,z8,zx];rfl
   |false=>simp only[zT,if_false,zD];rfl
  rw[eH st];exact xwi B l hl k (n+1) (by omega)
theorem xwj(E0:List js)(l:List aF)(hl:l.length<=1073741824)(hE:E0.length<=2147483648):∀(k n:Nat),n+k=l.length->
  aB (Bu (l.map aA) ((l.length:Nat):Int)) ((E0++bT 0 1 (l.take n)).length,((n:Nat):Int),(E0++bT 0 1 (l.take n)).map fq)=some ((E0++bT 0 1 l).length,(E0++bT 0 1 l).map fq)
 |0,n,hk=>by
  obtain rfl:n=l.length:=by omega
  rw[zi (zd _)];refine cQ ?_;unfold Bu;simp only;unfold I7;rw[decide_eq_false (by omega:¬ ((l.length:Nat):Int)<((l.length:Nat):Int))]
  rfl
 |k+1,n,hk=>by
  have h1:n<l.length:=by omega
  have O:=yA 0 1 (l.take n);have J:(l.take n).length<=n:=by rw[zt];omega
  have q:(E0++bT 0 1 (l.take n)).length=E0.length+(bT 0 1 (l.take n)).length:=z8;have d1:((n:Nat):Int)<((l.length:Nat):Int):=by omega
  have d2:(0:Int)<=((n:Nat):Int):=by omega
  have d3:((E0++bT 0 1 (l.take n)).length+2)*24<=140737488355328:=by omega
  have d4:(E0++bT 0 1 (l.take n)).length+2<=4611686018427387904:=by omega
  have d5:((E0++bT 0 1 (l.take n)).length==(E0++bT 0 1 (l.take n)).length)=true:=by simp
  have gf:(l.map aA).getD n .top=aA l[n]:=cH _ _ _ h1;have c0:((aA l[n]).cells.getD 0 .top).toInt=l[n].1:=rfl;have c1:((aA l[n]).cells.getD 1 .top).toInt=l[n].2:=rfl;have sh:((aA l[n]).cells.length==(2:Nat)&&ew [Sh.int IntKind.i64,Sh.int IntKind.i64] (aA l[n]).cells (0:Nat))=true:=rfl;have st:Bu (l.map aA) ((l.length:Nat):Int) ((E0++bT 0 1 (l.take n)).length,((n:Nat):Int),(E0++bT 0 1 (l.take n)).map fq) =
    some (.inl ((E0++bT 0 1 (l.take (n+1))).length,((n+1:Nat):Int),(E0++bT 0 1 (l.take (n+1))).map fq)):=by
   rw[xyN 0 1 l n h1,<-zw];unfold Bu;simp only;unfold I7;rw[zN,gf,sh,c0,c1,CB,za,za,decide_eq_true d1,decide_eq_true d2,decide_eq_true h1,decide_eq_true d3,decide_eq_true d4,d5,tM (show n+1<=maxLen by unfold maxLen;omega)]
   cases pv l[n]with
   |true=>rw[if_pos rfl,z8 (bs:=[(l[n].1,0,1),(l[n].2,-0,-1)]),zx (l₂:=[(l[n].1,0,1),(l[n].2,-0,-1)])];rfl
   |false=>rw[if_neg (by simp),zD];rfl
  rw[eH st];exact xwj E0 l hl hE k (n+1) (by omega)
def wR(e:js):yP:=(Fin.ofNat 1099511627777 e.1.toNat,e.2.1,e.2.2)
def Dq(x:yP):js:=((x.1.val:Int),x.2.1,x.2.2)
theorem xKG{e:js}(h1:0<=e.1)(h2:e.1<=1099511627776):Dq (wR e)=e:=by grind [Dq,wR]
theorem xK5(E:List js)(h:∀e,e∈E->0<=e.1/\e.1<=1099511627776):(E.map fq).all yU/\∃S:List js,qx (E.map fq)=S.map fq/\S.Perm E/\S.Pairwise λ x y=>x.1<=y.1:=by
 refine⟨?_,(pdqL ki (E.map wR)).map Dq,?_,?_,?_⟩;rw[zI];intro x hx;obtain⟨e,he,rfl⟩:=zK.1 hx;have:=h e he;show (decide _&&decide _)=true;rw[decide_eq_true this.1,decide_eq_true this.2];rfl;unfold qx;have e1:(E.map fq).map oT=E.map wR:=by rw[List.map_map];rfl
 rw[e1,List.map_map];rfl;have hp:=((CA ki wO (E.map wR)).1).map Dq;have e2:(E.map wR).map Dq=E:=by rw[List.map_map];(conv=>rhs;rw[<-List.map_id E]);refine List.map_congr_left λ e he=>?_;exact xKG (h e he).1 (h e he).2
 rwa [e2]at hp;rw[List.pairwise_map];refine(Q5 ki wO (E.map wR)).imp λ{x y} q=>?_;show ((x.1.val:Nat):Int)<=((y.1.val:Nat):Int);unfold ki at q;omega
theorem xIG(a b:List aF)(ha:a.length<=1073741824)(hb:b.length<=1073741824):∃S:List js,Kx (a.map aA) (b.map aA)=some (S.map fq)/\S.Perm (bT 1 0 a++bT 0 1 b)/\S.Pairwise λ x y=>x.1<=y.1:=by
 have l1:=yA 1 0 a;have l2:=yA 0 1 b;have O:(bT 1 0 a++bT 0 1 b).length=(bT 1 0 a).length+(bT 0 1 b).length:=z8;obtain ⟨J,S,hS,hp,hs⟩:=xK5 (bT 1 0 a++bT 0 1 b) (fun e he=>by
  rcases zG.1 he with he|he
  . exact Cw 1 0 a e he
  . exact Cw 0 1 b e he)
 refine⟨S,?_,hp,hs⟩;have h0:=xwi (b.map aA) a ha a.length 0 Ω;rw[List.take_zero]at h0;have h1:=xwj (bT 1 0 a) b hb Ω b.length 0 Ω;rw[List.take_zero]at h1;have h0:aB (uF (b.map aA) (a.map aA) (((a.map aA).length:Nat):Int)) (0,0,[])=some ((bT 1 0 a).length,(bT 1 0 a).map fq):=by rw[za];exact h0
 have v4:J1 (a.map aA) (b.map aA)=((bT 1 0 a).length,(bT 1 0 a).map fq):=by unfold J1;rw[h0];rfl
 have v3:J0 (a.map aA) (b.map aA)=some ((bT 1 0 a++bT 0 1 b).length,(bT 1 0 a++bT 0 1 b).map fq):=by unfold J0;rw[v4,za];have e:bT 1 0 a++bT 0 1 []=bT 1 0 a:=zD _;rw[e]at h1;exact h1
 have v2:JZ (a.map aA) (b.map aA)=((bT 1 0 a++bT 0 1 b).length,(bT 1 0 a++bT 0 1 b).map fq):=by unfold JZ;rw[v3];rfl
 have v0:B7 (a.map aA) (b.map aA)=(bT 1 0 a++bT 0 1 b).length:=by unfold B7;rw[v2]
 have v1:B8 (a.map aA) (b.map aA)=(bT 1 0 a++bT 0 1 b).map fq:=by unfold B8;rw[v2]
 have q:S.length=(bT 1 0 a++bT 0 1 b).length:=hp.length_eq;have d1:(bT 1 0 a++bT 0 1 b).length<4611686018427387904:=Ω
 have d2:0+(bT 1 0 a++bT 0 1 b).length<=(S.map fq).length:=by rw[za,q];omega
 have d3:(bT 1 0 a++bT 0 1 b).length.beq (bT 1 0 a++bT 0 1 b).length:=Nat.beq_refl _;have tk:List.take (bT 1 0 a++bT 0 1 b).length (List.drop 0 (S.map fq))=S.map fq:=by rw[zr,zi (by rw[za,q];exact zd _)]
 unfold Kx Rt;rw[h0,v3,v0,v1,J,hS,tk,za,d3,decide_eq_true d1,decide_eq_true d2];rfl
theorem xHy(out:List aF)(h:out≠[]):out=out.dropLast++[out[out.length - 1]'(by have:=List.length_pos_iff.2 h;omega)]:=by have:=List.dropLast_concat_getLast h;rw[List.getLast_eq_getElem]at this;exact this.symm
section
variable(S:List js)(hS1:∀e,e ∈ S->0 <=e.1/\e.1 <=1099511627776)(hS2:∀e,e ∈ S->(-1 <=e.2.1/\e.2.1 <=1)/\(-1 <=e.2.2/\e.2.2 <=1))(hS3:S.Pairwise λ x y=>x.1 <=y.1)(hS4:S.length <=8589934592)
theorem Nt(g:js->Int):∀l:List js,(∀e,e∈l->-1<=g e/\g e<=1)->-(l.length:Int)<=dx g l/\dx g l<=l.length|[],_=>by simp[dx]|e::l,h=>by have:=Nt g l λ x hx=>h x (List.mem_cons_of_mem _ hx);have:=h e (List.mem_cons_self ..);simp only[dx,zF];omega
theorem VI(g:js->Int)(n:Nat)(h:n<S.length):dx g (S.take (n+1))=dx g (S.take n)+g S[n]:=by rw[List.take_add_one,ze h];show dx g (S.take n++[S[n]])=_;rw[xuQ];simp[dx]
include hS1 hS2 hS3 hS4
theorem xyU(on:Nat)(at':Int)(ox:List AV):∀(k i:Nat),i+k=S.length->∃j:Nat,i<=j/\j<=S.length/\
  aB (tD (S.map fq) on at') (dx (·.2.1) (S.take i),dx (·.2.2) (S.take i),((i:Nat):Int),ox)=some (dx (·.2.1) (S.take j),dx (·.2.2) (S.take j),((j:Nat):Int),ox)/\
  (∀(m:Nat)(h:m<S.length),i<=m->m<j->S[m].1=at')/\∀(h:j<S.length),S[j].1≠at'
 |0,i,hk=>by
  obtain rfl:i=S.length:=by omega
  refine⟨S.length,zd _,zd _,cQ ?_,λ m _ h1 h2=>by omega,λ h=>absurd h (Nat.lt_irrefl _)⟩
  unfold tD;simp only;unfold CH;rw[za,decide_eq_false (by omega:¬ ((S.length:Nat):Int)<((S.length:Nat):Int))]
  rfl
 |k+1,i,hk=>by
  have h1:i<S.length:=by omega
  have d1:((i:Nat):Int)<((S.length:Nat):Int):=by omega
  have d2:(0:Int)<=((i:Nat):Int):=by omega
  have gf:(S.map fq).getD i .top=fq S[i]:=cH _ _ _ h1;have c0:((fq S[i]).cells.getD 0 .top).toInt=S[i].1:=rfl;have c1:((fq S[i]).cells.getD 1 .top).toInt=S[i].2.1:=rfl;have c2:((fq S[i]).cells.getD 2 .top).toInt=S[i].2.2:=rfl;have s0:dw (Sh.int IntKind.i64) ((fq S[i]).cells.getD 0 .top)=true:=rfl;have s1:dw (Sh.int IntKind.i64) ((fq S[i]).cells.getD 1 .top)=true:=rfl;have s2:dw (Sh.int IntKind.i64) ((fq S[i]).cells.getD 2 .top)=true:=rfl;have v0:F5 (S.map fq) ((i:Nat):Int)=true:=by unfold F5;rw[za,decide_eq_true d1,decide_eq_true d2];rfl
  by_cases he:S[i].1=at'
  . have hb:=hS2 S[i] (zo h1);have b1:=Nt (·.2.1) (S.take i) λ e he=>(hS2 e (List.mem_of_mem_take he)).1
    have b2:=Nt (·.2.2) (S.take i) λ e he=>(hS2 e (List.mem_of_mem_take he)).2
    have hl:(S.take i).length=i:=by rw[zt];omega
    rw[hl]at b1 b2;have b3:=VI S (·.2.1) i h1;have b4:=VI S (·.2.2) i h1;have w1:IntKind.i64.wrap (dx (·.2.1) (S.take i)+S[i].2.1)=dx (·.2.1) (S.take (i+1)):=by rw[b3];exact gx (by omega) (by omega)
    have w2:IntKind.i64.wrap (dx (·.2.2) (S.take i)+S[i].2.2)=dx (·.2.2) (S.take (i+1)):=by rw[b4];exact gx (by omega) (by omega)
    have st:tD (S.map fq) on at' (dx (·.2.1) (S.take i),dx (·.2.2) (S.take i),((i:Nat):Int),ox)=some (.inl (dx (·.2.1) (S.take (i+1)),dx (·.2.2) (S.take (i+1)),((i+1:Nat):Int),ox)):=by
     unfold tD;simp only;unfold CH;have e1:(S[i].1==at')=true:=by simp[he]
     rw[v0,zN,gf,s0,s1,s2,c0,c1,c2,za,decide_eq_true d1,decide_eq_true h1,e1,w1,w2,tM (show i+1<=maxLen by unfold maxLen;omega)]
     rfl
    obtain⟨j,j1,j2,j3,j4,j5⟩:=xyU on at' ox k (i+1) (by omega)
    refine⟨j,by omega,j2,by rw[eH st];exact j3,λ m hm h2 h3=>?_,j5⟩
    rcases Nat.eq_or_lt_of_le h2 with rfl|h2
    . exact he
    . exact j4 m hm h2 h3
  . refine⟨i,zd _,by omega,cQ ?_,λ m _ h2 h3=>by omega,λ _=>he⟩
    unfold tD;simp only;unfold CH;have e1:(S[i].1==at')=false:=by simp[he]
    rw[v0,zN,gf,s0,c0,za,decide_eq_true d1,decide_eq_true h1,e1];rfl
omit hS1 hS2 hS3 hS4
def GH(K:Int->Bool)(s:Nat×Int×Int×Int×Int×List AV):Prop:=∃(out:List aF)(i:Nat)(at':Int),s=(out.length,dx (·.2.1) (S.take i),dx (·.2.2) (S.take i),((i:Nat):Int),at',out.map aA)/\0<=at'/\at'<=1099511627776/\i<=S.length/\(∀(m:Nat)(h:m<S.length),m<i->S[m].1<at')/\(∀(m:Nat)(h:m<S.length),i<=m->at'<=S[m].1)/\dq out at' K/\(out.length:Int)<=at'
include hS1 hS2 hS3 hS4
set_option maxHeartbeats 4000000 in
theorem xD3(keep:Bool->Bool->Bool)(a b:List aF)(hp:S.Perm (bT 1 0 a++bT 0 1 b))(s:Nat×Int×Int×Int×Int×List AV)(hs:GH S (λ t=>keep (inL a t) (inL b t)) s):(∃s',rX keep (S.map fq) s=some (.inl s')/\GH S (λ t=>keep (inL a t) (inL b t)) s'/\(1099511627776 - s'.2.2.2.2.1).toNat<(1099511627776 - s.2.2.2.2.1).toNat) \/ ∃r,rX keep (S.map fq) s=some (.inr r)/\∃out:List aF,r=(out.length,out.map aA)/\dq out 1099511627776 (λ t=>keep (inL a t) (inL b t)):=by
 obtain⟨out,i,at',rfl,ai,a0,hi,aw,ax,J,a1⟩:=hs;by_cases hF:at'<1099511627776;left;obtain⟨j,j1,j2,j3,j4,j5⟩:=xyU S hS1 hS2 hS3 hS4 out.length at' (out.map aA) (S.length - i) i (by omega);have al:∀(m:Nat)(h:m<S.length),m<j->S[m].1<=at':=λ m h hm=>by by_cases ay:m<i;have:=aw m h ay;omega;have:=j4 m h (by omega) hm;omega
 have ao:∀(m:Nat)(h:m<S.length),j<=m->at'<S[m].1:=λ m h hm=>by(have hj:j<S.length:=by omega);have h1:=ax j hj (by omega);(have h2:=j5 hj;have h3:S[j].1<=S[m].1:=by rcases Nat.eq_or_lt_of_le hm with rfl|hm;exact Int.le_refl _;exact zB.1 hS3 j m hj h hm);omega
 obtain⟨nx,O⟩:∃nx:Int,nx=if h:j<S.length then S[j].1 else 1099511627776:=⟨_,rfl⟩;have ab:at'<nx:=by rw[O];split;rename_i h;exact ao j h (zd _);exact hF
 have Q:nx<=1099511627776:=by rw[O];split;rename_i h;exact(hS1 _ (zo h)).2;exact Int.le_refl _
 have aj:∀(m:Nat)(h:m<S.length),j<=m->nx<=S[m].1:=λ m h hm=>by(have hj:j<S.length:=by omega);rw[O,dif_pos hj];rcases Nat.eq_or_lt_of_le hm with rfl|hm;exact Int.le_refl _;exact zB.1 hS3 j m hj h hm
 have am:∀(g:js->Int)(t:Int),at'<=t->t<nx->dx g (S.take j)=kC g t S:=λ g t Y Z=>by(conv=>rhs;rw[<-List.take_append_drop j S]);rw[Kk,UU,xzv];omega;intro e he;obtain⟨m,hm,rfl⟩:=zp.1 he;rw[List.getElem_drop];have:=aj (j+m) (by rw[y3]at hm;omega) (by omega);omega;intro e he;obtain⟨m,hm,rfl⟩:=zp.1 he;rw[List.getElem_take];rw[zt]at hm;have:=al m (by omega) (by omega);omega
 have ag:∀t,at'<=t->t<nx->decide (dx (·.2.1) (S.take j)>0)=inL a t/\decide (dx (·.2.2) (S.take j)>0)=inL b t:=λ t Y Z=>by rw[am _ t Y Z,am _ t Y Z,xzw _ t hp,xzw _ t hp,Kk,Kk,Sm,xwL,xzz,xwM,Int.add_zero,Int.zero_add,UN,UN];exact⟨rfl,rfl⟩
 obtain⟨kv,aq⟩:∃kv:Bool,kv=keep (decide (dx (·.2.1) (S.take j)>0)) (decide (dx (·.2.2) (S.take j)>0)):=⟨_,rfl⟩;have hK:∀t,at'<=t->t<nx->keep (inL a t) (inL b t)=kv:=λ t Y Z=>by rw[aq,(ag t Y Z).1,(ag t Y Z).2]
 have au:KA keep (S.map fq) out.length (dx (·.2.1) (S.take i)) (dx (·.2.2) (S.take i)) ((i:Nat):Int) at' (out.map aA)=(dx (·.2.1) (S.take j),dx (·.2.2) (S.take j),((j:Nat):Int),out.map aA):=by unfold KA;rw[j3];rfl
 have v8:rh keep (S.map fq) out.length (dx (·.2.1) (S.take i)) (dx (·.2.2) (S.take i)) ((i:Nat):Int) at' (out.map aA)=dx (·.2.1) (S.take j):=by unfold rh;rw[au]
 have v9:KY keep (S.map fq) out.length (dx (·.2.1) (S.take i)) (dx (·.2.2) (S.take i)) ((i:Nat):Int) at' (out.map aA)=(dx (·.2.2) (S.take j),((j:Nat):Int),out.map aA):=by unfold KY;rw[au]
 have v7:rg keep (S.map fq) out.length (dx (·.2.1) (S.take i)) (dx (·.2.2) (S.take i)) ((i:Nat):Int) at' (out.map aA)=dx (·.2.2) (S.take j):=by unfold rg;rw[v9]
 have v6:KX keep (S.map fq) out.length (dx (·.2.1) (S.take i)) (dx (·.2.2) (S.take i)) ((i:Nat):Int) at' (out.map aA)=(((j:Nat):Int),out.map aA):=by unfold KX;rw[v9]
 have v1:kE keep (S.map fq) out.length (dx (·.2.1) (S.take i)) (dx (·.2.2) (S.take i)) ((i:Nat):Int) at' (out.map aA)=out.map aA:=by unfold kE;rw[v6]
 have v3:kQ keep (S.map fq) out.length (dx (·.2.1) (S.take i)) (dx (·.2.2) (S.take i)) ((i:Nat):Int) at' (out.map aA)=((j:Nat):Int):=by unfold kQ;rw[v6]
 have v2:KV keep (S.map fq) out.length (dx (·.2.1) (S.take i)) (dx (·.2.2) (S.take i)) ((i:Nat):Int) at' (out.map aA)=kv:=by unfold KV;rw[v8,v7,<-aq]
 have v0:CG keep (S.map fq) out.length (dx (·.2.1) (S.take i)) (dx (·.2.2) (S.take i)) ((i:Nat):Int) at' (out.map aA)=decide (oG keep out.length<out.length):=by unfold CG;rw[v1,za]
 have v5:KW keep (S.map fq) out.length (dx (·.2.1) (S.take i)) (dx (·.2.2) (S.take i)) ((i:Nat):Int) at' (out.map aA)=decide (j<S.length):=by unfold KW;rw[v3,za];by_cases h:j<S.length;rw[decide_eq_true h,decide_eq_true (by omega)];rw[decide_eq_false h,decide_eq_false (by omega)]
 have ak:(out.length+1)*16<=140737488355328:=by omega
 have ah:out.length+1<=4611686018427387904:=by omega
 have e1:(out.length==out.length):=by simp
 have dF:decide (at'<1099511627776):=decide_eq_true hF;have dj:decide ((0:Int)<=((j:Nat):Int)):=decide_eq_true (by omega);have W:∀h:j<S.length,(((S.map fq).getD j .top).cells.getD 0 .top).toInt=nx:=λ h=>by rw[cH _ _ _ h,O,dif_pos h];rfl
 have af:∀h:j<S.length,dw (Sh.int IntKind.i64) (((S.map fq).getD j .top).cells.getD 0 .top):=λ h=>by rw[cH _ _ _ h];rfl
 have ad:∀q:List aF,dq q nx (λ t=>keep (inL a t) (inL b t))->(q.length:Int)<=nx->GH S (λ t=>keep (inL a t) (inL b t)) (q.length,dx (·.2.1) (S.take j),dx (·.2.2) (S.take j),((j:Nat):Int),nx,q.map aA):=λ q ho hl=>
  ⟨q,j,nx,rfl,by omega,Q,j2,λ m h hm=>by have:=al m h hm;omega,λ m h hm=>aj m h hm,ho,hl⟩
 have mu:(1099511627776 - nx).toNat<(1099511627776 - at').toNat:=by omega
 cases kv with|false=>refine⟨(out.length,dx (·.2.1) (S.take j),dx (·.2.2) (S.take j),((j:Nat):Int),nx,out.map aA),?_,ad out (J.skip (by omega) hK) (by omega),mu⟩;unfold rX;simp only;unfold vL;rw[v1,v2,v3,v5,v7,v8,j3,dF,dj,zN,za];by_cases hj:j<S.length;rw[decide_eq_true hj,af hj,W hj];rfl;(rw[decide_eq_false hj];have:nx=1099511627776:=by rw[O,dif_neg hj]);rw[this];rfl|true=>
  by_cases hne:out=[];have ac:=J.add ai ab Q hK (λ p hp=>by rw[hne]at hp;cases hp);refine⟨((out++[(at',nx)]).length,dx (·.2.1) (S.take j),dx (·.2.2) (S.take j),((j:Nat):Int),nx,(out++[(at',nx)]).map aA),?_,ad _ ac (by rw[z8,zj];omega),mu⟩;have dl:decide (((out.length:Nat):Int)>0)=false:=by rw[hne];rfl
  unfold rX;simp only;unfold vL;rw[v1,v2,v3,v5,v7,v8,j3,dF,dj,zN,za,za,dl,e1,decide_eq_true ak,decide_eq_true ah];by_cases hj:j<S.length;rw[decide_eq_true hj,af hj,W hj,zx,z8];rfl;rw[decide_eq_false hj];have:nx=1099511627776:=by rw[O,dif_neg hj]
  rw[this,zx,z8];rfl;have az:=List.length_pos_iff.2 hne;have w1:IntKind.i64.wrap (((out.length:Nat):Int) - 1)=((out.length - 1:Nat):Int):=by rw[gx (by omega) (by omega)];omega
  have ap:oG keep out.length=out.length - 1:=by unfold oG;rw[w1,zN];omega
  have v4:Cv keep out.length:=by unfold Cv;rw[w1,decide_eq_true (by omega),decide_eq_true (by omega)];rfl
  have dl:decide (((out.length:Nat):Int)>0):=decide_eq_true (by omega);have dv:decide (out.length - 1<out.length):=decide_eq_true (by omega);have an:out.length - 1<out.length:=by omega
  have gl:(out.map aA).getD (out.length - 1) .top=aA out[out.length - 1]:=cH _ _ _ an;have cl:((aA out[out.length - 1]).cells.getD 1 .top).toInt=out[out.length - 1].2:=rfl;have sl:dw (Sh.int IntKind.i64) ((aA out[out.length - 1]).cells.getD 1 .top):=rfl;have ae:=xHy out hne;by_cases hl:out[out.length - 1].2=at';have ar:=dq.ext (o:=out.dropLast) (p:=out[out.length - 1]) (by rw[<-ae];exact J) hl ab Q hK;have V:(out.dropLast++[(out[out.length - 1].1,nx)]).length=out.length:=by rw[z8,List.length_dropLast,zj];omega
  have aa:(out.map aA).set (out.length - 1) (AV.agg (List.take 1 (aA out[out.length - 1]).cells++[AV.int IntKind.i64 nx]++List.drop 2 (aA out[out.length - 1]).cells))=(out.dropLast++[(out[out.length - 1].1,nx)]).map aA:=by have e2:AV.agg (List.take 1 (aA out[out.length - 1]).cells++[AV.int IntKind.i64 nx]++List.drop 2 (aA out[out.length - 1]).cells)=aA (out[out.length - 1].1,nx):=rfl;rw[e2,<-List.map_set];congr 1;have e3:out.set (out.length - 1) (out[out.length - 1].1,nx)=(out.dropLast++[out[out.length - 1]]).set (out.length - 1) (out[out.length - 1].1,nx):=congrArg (λ l=>List.set l (out.length - 1) (out[out.length - 1].1,nx)) ae;rw[e3,List.set_append_right _ _ (by rw[List.length_dropLast];exact zd _),List.length_dropLast,Nat.sub_self];rfl
  refine⟨((out.dropLast++[(out[out.length - 1].1,nx)]).length,dx (·.2.1) (S.take j),dx (·.2.2) (S.take j),((j:Nat):Int),nx,(out.dropLast++[(out[out.length - 1].1,nx)]).map aA),?_,ad _ ar (by rw[V];omega),mu⟩;have e4:(out[out.length - 1].2==at'):=by simp[hl]
  unfold rX;simp only;unfold vL;rw[v0,v1,v2,v3,v4,v5,v7,v8,ap,j3,dF,dj,zN,za,gl,cl,sl,dl,dv,e4];by_cases hj:j<S.length;rw[decide_eq_true hj,af hj,W hj,aa,V];rfl;rw[decide_eq_false hj];have:nx=1099511627776:=by rw[O,dif_neg hj]
  rw[this]at aa V|-;rw[aa,V];rfl;have ac:=J.add ai ab Q hK (fun p hp=>by
   rw[ae]at hp;rcases zG.1 hp with hp|hp
   . have h1:=J.span.2;rw[ae]at h1;have:=(List.pairwise_append.1 h1).2.2 p hp _ (zv.2 rfl);have h2:=J.low _ (zo an);have h3:=iF.1 (J.span.1 _ (zo an));omega
   . rw [zv.1 hp];exact hl)
  refine⟨((out++[(at',nx)]).length,dx (·.2.1) (S.take j),dx (·.2.2) (S.take j),((j:Nat):Int),nx,(out++[(at',nx)]).map aA),?_,ad _ ac (by rw[z8,zj];omega),mu⟩;have e4:(out[out.length - 1].2==at')=false:=by simp[hl]
  unfold rX;simp only;unfold vL;rw[v0,v1,v2,v3,v4,v5,v7,v8,ap,j3,dF,dj,zN,za,za,gl,cl,sl,dl,dv,e4,e1,decide_eq_true ak,decide_eq_true ah];by_cases hj:j<S.length;rw[decide_eq_true hj,af hj,W hj,zx,z8];rfl;rw[decide_eq_false hj];have:nx=1099511627776:=by rw[O,dif_neg hj]
  rw[this,zx,z8];rfl
 right;have:at'=1099511627776:=by omega
 subst this;refine⟨(out.length,out.map aA),?_,out,rfl,J⟩;unfold rX;simp only;unfold vL;rw[decide_eq_false hF];rfl
end
theorem RK:∀(l:List aF)(e:js),e∈bT 1 0 l->(-1<=e.2.1/\e.2.1<=1)/\(-1<=e.2.2/\e.2.2<=1)|[],e,h=>by cases h|p::l,e,h=>by unfold bT at h;split at h;rcases zC.1 h with rfl|h;simp;rcases zC.1 h with rfl|h;simp;exact RK l e h;exact RK l e h
theorem RL:∀(l:List aF)(e:js),e∈bT 0 1 l->(-1<=e.2.1/\e.2.1<=1)/\(-1<=e.2.2/\e.2.2<=1)|[],e,h=>by cases h|p::l,e,h=>by unfold bT at h;split at h;rcases zC.1 h with rfl|h;simp;rcases zC.1 h with rfl|h;simp;exact RL l e h;exact RL l e h
theorem XA(keep:Bool->Bool->Bool)(a b:List aF)(ha:a.length<=1073741824)(hb:b.length<=1073741824):∃r:List aF,yW keep (a.map aA) (b.map aA)=some (r.map aA)/\bA r/\∀t,inL r t=(decide (0<=t)&&(decide (t<1099511627776)&&keep (inL a t) (inL b t))):=by
 obtain⟨S,hS,hp,V⟩:=xIG a b ha hb;have l1:=yA 1 0 a;have l2:=yA 0 1 b;have Q:S.length=(bT 1 0 a++bT 0 1 b).length:=hp.length_eq;rw[z8]at Q;have q:∀e,e∈S->e∈bT 1 0 a\/e∈bT 0 1 b:=λ e he=>zG.1 (hp.mem_iff.1 he);have J:∀e,e∈S->0<=e.1/\e.1<=1099511627776:=λ e he=>(q e he).elim (Cw 1 0 a e) (Cw 0 1 b e);have W:∀e,e∈S->(-1<=e.2.1/\e.2.1<=1)/\(-1<=e.2.2/\e.2.2<=1):=λ e he=>(q e he).elim (RK a e) (RL b e);obtain⟨r,hr,out,rfl,O⟩:=K4 (GH S (λ t=>keep (inL a t) (inL b t))) (λ s=>(1099511627776 - s.2.2.2.2.1).toNat) (λ r=>∃out:List aF,r=(out.length,out.map aA)/\dq out 1099511627776 (λ t=>keep (inL a t) (inL b t))) (xD3 S J W V Ω keep a b hp) (0,0,0,0,0,[]) ⟨[],0,0,rfl,Int.le_refl _,by omega,zQ _,λ m _ h=>by omega,λ m h _=>(J _ (zo h)).1,Um _,by simp⟩;refine⟨out,?_,O.span,O.done⟩;have v3:LS keep (a.map aA) (b.map aA)=some (out.length,out.map aA):=by unfold LS;rw[hS];exact hr
 have v2:LQ keep (a.map aA) (b.map aA)=(out.length,out.map aA):=by unfold LQ;rw[v3];rfl
 have v0:LP keep (a.map aA) (b.map aA)=out.length:=by unfold LP;rw[v2]
 have v1:LN keep (a.map aA) (b.map aA)=out.map aA:=by unfold LN;rw[v2]
 have d1:0+out.length<=out.length:=Ω
 unfold yW GW;rw[hS,v3,v0,v1,za,decide_eq_true d1,zr,zi (by rw[za];exact zd _)];rfl
theorem xF8(a b:List AV):Ru a b=yW tK a b:=rfl
theorem XP(a:List aF)(ha:a.length<=1073741824):∃r:List aF,r9 (a.map aA)=some (r.map aA)/\bA r/\∀t,inL r t=inL a t:=by obtain⟨r,h1,h2,h3⟩:=XA tK a [] ha Ψ;refine⟨r,?_,h2,λ t=>?_⟩;unfold r9 Sq;rw[xF8,show ([]:List AV)=([]:List aF).map aA from rfl,h1];rfl;rw[h3 t];cases hc:inL a t with|false=>simp[tK,dY,aI]|true=>have:=LB hc;simp[tK,dY,this,aI]
theorem xF9(a b:List AV):Rv a b=yW tq a b:=rfl
theorem xwJ(a b:List aF)(ha:a.length<=1073741824)(hb:b.length<=1073741824):∃r:List aF,yn (a.map aA) (b.map aA)=some (r.map aA)/\bA r/\∀t,inL r t=(inL a t&&!inL b t):=by obtain⟨r,h1,h2,h3⟩:=XA tq a b ha hb;refine⟨r,?_,h2,λ t=>?_⟩;unfold yn Qu;rw[xF9,h1];rfl;rw[h3 t];cases hc:inL a t with|false=>simp[tq,dY,aI]|true=>have:=LB hc;simp[tq,dY,this,aI]
end Go.Sim.M
namespace Go.Sim.M
open Go.RowKit Go.Sim.Srt
def SH {ps:List aF} (h:ps.length<=262144):si (ps.map fun p=>(p,(1:Int))):=⟨by simpa using h,fun c hc=>by
 obtain ⟨p,_,rfl⟩:=zK.1 hc;dsimp only;omega⟩
def xBo(ps:List aF)(h:ps.length<=262144):∃S,Bj (ps.map aA)=some (S.map aA)/\aL (λ t=>((ps.countP (aG · t):Nat):Int)) 1099511627776 S/\S.length<=2*ps.length+1:=by obtain⟨S,h1,h2,h3⟩:=YT _ (SH h);refine⟨S,by rw[xFt ps Ω,h1],?_,by simpa using h3⟩;rwa [show cM (ps.map λ p=>(p,(1:Int)))=λ t=>((ps.countP (aG · t):Nat):Int) from funext λ t=>Ss ps t]at h2
def xIz(l:List Fc)(row:Row)(t:Int)(g:Fc->List aF)(hg:∀f,(g f).countP (aG · t)=if f.r=row/\aG f.p t then 1 else 0):(l.flatMap g).countP (aG · t)=cnt l row t:=by induction l with|nil=>rfl|cons f l ih=>rw[zR,List.countP_append,ih,hg];have e2:cnt (f::l) row t=cnt l row t+if(decide (f.r=row)&&aG f.p t) then 1 else 0:=List.countP_cons;rw[e2];by_cases h:f.r=row/\aG f.p t=true;rw[if_pos h,if_pos (by simp[h.1,h.2])];omega;rw[if_neg h,if_neg (by simpa using h)];omega
def xFS(l:List Fc)(row:Row)(hr:∀f,f∈l->f.r.length<=maxLen)(hl:l.length<=262144):∃S,J7 (l.map encF) (row.map encV)=some (S.map aA)/\aL (λ t=>((cnt l row t:Nat):Int)) 1099511627776 S/\S.length<=2*l.length+1:=by
 have e:=xui row l Ω hr;have q:(l.flatMap λ f=>if aK f.r row==0 then[(f.p,(1:Int))]else[])=(l.flatMap λ f=>if aK f.r row==0 then[f.p]else[]).map λ p=>(p,(1:Int)):=by rw[List.map_flatMap];congr 1;funext f;split<;>simp
 rw[q]at e;generalize hq:(l.flatMap λ f=>if aK f.r row==0 then[f.p]else[])=ps at e;have J:ps.length<=l.length:=by(rw[<-hq];have:=vJ (c:=1) (g:=λ f:Fc=>if aK f.r row==0 then[f.p]else[]) l λ f _=>by split<;>simp);omega
 obtain⟨S,h1,h2,h3⟩:=xMX _ (SH (ps:=ps) Ω);refine⟨S,?_,?_,by rw[za]at h3;omega⟩;unfold J7 Qh;simp only[Qk,ER,e,po,aI];simp only[h1,po];rwa [show cM (ps.map fun p=>(p,(1:Int)))=fun t=>((cnt l row t:Nat):Int) from funext fun t=>by
  rw[Ss,<-hq,xIz l row t _ λ f=>?_]
  rw [kM];by_cases hr:f.r=row<;>cases hh:aG f.p t<;>simp [hr,hh]] at h2
open Go.Sort
def xK6(E:List aF):(E.map aA).all yV/\∃P:List aF,qy (E.map aA)=P.map aA/\P.Perm E/\aH dh P:=by(have e1:(E.map aA).map qd=E:=by(rw[List.map_map];conv=>rhs;rw[<-List.map_id E]);rfl);refine⟨?_,pdqL dh E,?_,(CA dh wP E).1,(Q5 dh wP E).imp λ{x y} h=>?_⟩;rw[zI];intro x hx;obtain⟨e,he,rfl⟩:=zK.1 hx;rfl;unfold qy;rw[e1];rfl;have:=KK x y;omega
def Vv(S:List aF)(hS:S.length<=524289)(hN:∀s,s∈S->0<=s.2/\s.2<=1048576):∀(d k:Nat)(J ox:List aF),k+d=S.length->kL J->(fR J).length<=1048576->ox.length<=k*1048576->
  ∃q Q:List aF,aB (Bi (S.map aA) ((S.length:Nat):Int)) ((k:Int),ox.length,J.length,((fR J).length:Int),ox.map aA,J.map aA)=some (Q.length,((fR q).length:Int),q.length,Q.map aA,q.map aA)/\
   kL q/\(fR q,Q)=(S.drop k).foldl (λ x s=>fW x (s.1,s.2.toNat)) (fR J,ox)/\(fR q).length<=1048576/\Q.length<=S.length*1048576
 |0,k,J,ox,h,h1,h2,h3=>by
  obtain rfl:k=S.length:=by omega
  refine⟨J,ox,cQ ?_,h1,by rw[zq (zd _)];rfl,h2,h3⟩
  simp only[Bi,IG,zy,zm,bE,aI]
 |d+1,k,J,ox,h,h1,h2,h3=>by
  have hk:k<S.length:=by omega
  obtain⟨n1,n2⟩:=hN _ (zo hk);obtain⟨m,hm⟩:∃m:Nat,S[k].2=(m:Int):=⟨S[k].2.toNat,by omega⟩
  obtain⟨O,e,a1,a2⟩:=Wf S[k].1 m (fR J).length J ox h1 rfl (by omega) h2 (by omega)
  have V:(fR O).length=m:=by rw[a2,z8,zt,List.length_replicate];omega
  obtain ⟨q,Q,e',b1,b2,b3,b4⟩:=Vv S hS hN d (k+1) O (ox++(((fR J).drop m).reverse.map fun f=>(f,S[k].1))) (by omega) a1 (by omega) (by
   rw [z8,za,List.length_reverse,y3];omega)
  refine⟨q,Q,(eH ?_).trans e',b1,?_,b3,b4⟩
  . have i1:(k:Int)<(S.length:Int):=by omega
    have gf:(S.map aA).getD k .top=aA S[k]:=cH _ _ _ hk;have i2:¬ (0:Int)>(m:Int):=by omega
    have i3:¬ (1048576:Int)<(m:Int):=by omega
    have tk:List.take O.length (O.map aA)=O.map aA:=zi (by simp)
    rw[V];simp only[Bi,IG,xO,Pa,Pb,bR,hk,i1,gf,iq,ir,lP,sP,iB,iC,hm,i2,i3,if_false,e,tk,dN (n:=k) (by omega)]
  . rw[b2,jr hk,List.foldl_cons];congr 1;rw[hm,zN,a2];rfl
def Ud{N:Int->Nat}{H:Nat}(hb:H<=1048576)(hH:∀t,N t<=H)(h0:∀t,t<0\/1099511627776<=t->N t=0){S:List aF}(hS:aL (λ t=>(N t:Int)) 1099511627776 S)(hl:S.length<=524289):∃P,kF (S.map aA)=some (P.map aA)/\bD N P:=by
 obtain ⟨q,ox,e,a1,a2,a3,a4⟩:=Vv S hl (fun s hs=>by
  obtain ⟨_,_,m3,_⟩:=(hS.mem s).1 hs;have:=hH s.1;omega) S.length 0 [] [] Ω (fun s hs=>by simp at hs) (by simp [fR]) Ψ
 obtain⟨J,e2,c1,c2⟩:=Wf 1099511627776 0 (fR q).length q ox a1 rfl Ω a3 Ω;obtain⟨s1,P,s2,s3,s4⟩:=xK6 (ox++(((fR q).drop 0).reverse.map λ f=>(f,(1099511627776:Int))));have m1:(ox++(((fR q).drop 0).reverse.map λ f=>(f,(1099511627776:Int)))).length<4611686018427387904:=by rw[z8,za,List.length_reverse,y3];omega
 refine⟨P,?_,xIW hH h0 hS ?_ s4⟩;have pl:=s3.length_eq;have e:aB (Bi (S.map aA) ((S.length:Nat):Int)) ((0:Int),(0:Nat),(0:Nat),(0:Int),[],[])=_:=e;have e2:set2 1099511627776 0 ((fR q).length:Int) q.length ox.length (q.map aA) (ox.map aA)=_:=e2;generalize (ox++(((fR q).drop 0).reverse.map λ f=>(f,(1099511627776:Int))))=O at s1 s2 e2 pl m1;have bq:O.length.beq O.length:=by simp
 have m2:O.length<=P.length:=Ω
 have tt:List.take O.length (P.map aA)=P.map aA:=zi (by rw[za];omega);unfold kF P1;simp only[tr,Qv,B5,Qw,za,e,zk,zh,aW,e2,bq,m1,s1,s2,zn,zS,zH,m2,zr,tt,aI];have a2:(fR q,ox)=S.foldl (λ x s=>fW x (s.1,s.2.toNat)) ([],[]):=a2;rw[<-a2];exact s3
def K8(ps:List aF)(t:Int)(ht:t<0\/1099511627776<=t):ps.countP (aG · t)=0:=by rw[List.countP_eq_zero];intro p hp h;obtain⟨h1,h2,h3⟩:=jB.1 h;have:=iF.1 h1;omega
def xJ0(ps:List aF)(hv:∀p,p∈ps->pv p)(hl:ps.length<=262144):∃P,yl (ps.map aA)=some (P.map aA)/\bD (λ t=>ps.countP (aG · t)) P:=by unfold yl PO;by_cases h1:ps.length=1;obtain⟨p,rfl⟩:=List.length_eq_one_iff.1 h1;refine⟨[p],rfl,List.pairwise_singleton _ _,λ k=>if k=0 then[p]else[],1,λ t=>?_,λ k=>?_,?_⟩;have:=List.countP_le_length (p:=(aG · t)) (l:=[p]);simpa using this;by_cases hk:k=0;subst hk;refine⟨⟨λ q hq=>by simp at hq;subst hq;exact hv _ Ψ,List.pairwise_singleton _ _⟩,λ t=>?_⟩;simp[inL];cases aG p t<;>simp;refine⟨by simp[hk,Cq],λ t=>?_⟩;simp only[hk,if_false,pQ];have:=List.countP_le_length (p:=(aG · t)) (l:=[p]);simp at this|-;omega;simp;obtain⟨S,e1,e2,e3⟩:=xBo ps hl;obtain⟨P,e4,e5⟩:=Ud (N:=λ t=>ps.countP (aG · t)) (H:=ps.length) Ω (λ t=>List.countP_le_length) (K8 ps) e2 Ω;(refine⟨P,?_,e5⟩;have i1:((ps.length:Int)==1)=false:=by simp;omega);simp only[za,i1,bE,e1,e4,zk,zh,aW,aI]
def mk(r:Row)(P:List aF):List Fc:=P.map λ p=>⟨r,p⟩
def SY(L:Row->List aF):∀S:List fI,(S.flatMap λ g=>mk g.1 (L g.1))=dB (S.map (·.1)) L|[]=>rfl|g::S=>by rw[zR,SY L S];rfl
def Ux(O:List AV)(J q:Int)(row:Row)(hr:row.length<=1048576)(g1:List AV)(P:List aF)(D:List Fc)(hb:D.length+P.length<=2199023255552)(hP:P.length<=1099511627776):aB (Az O J q (P.map aA) ((P.length:Nat):Int)) (D.length,(0:Int),D.map encF,row.map encV,g1)=some ((D++mk row P).length,(D++mk row P).map encF):=by
 have key:=r6 (step:=Az O J q (P.map aA) ((P.length:Nat):Int)) (λ k=>(((D++mk row (P.take k)).length,((k:Nat):Int),(D++mk row (P.take k)).map encF,row.map encV,g1):Nat×Int×List AV×List AV×List AV)) P.length
  ((D++mk row P).length,(D++mk row P).map encF) (fun k hk=>by
  have i1:(k:Int)<(P.length:Int):=Ω
  have gf:(P.map aA).getD k .top=aA P[k]:=cH _ _ _ hk;have dl:(D++mk row (P.take k)).length=D.length+k:=by unfold mk;rw[z8,za,zt];omega
  have m1:(D.length+k+1)*40<=140737488355328:=Ω
  have m2:D.length+k+1<=4611686018427387904:=Ω
  have m3:row.length*32<=140737488355328:=Ω
  have m4:row.length<=4611686018427387904:=Ω
  have tk:List.take row.length (row.map encV)=row.map encV:=zi Ψ
  have Q:mk row (P.take (k+1))=mk row (P.take k)++[⟨row,P[k]⟩]:=by unfold mk;rw[List.take_add_one,ze hk,zx];rfl
  rw[Q,<-zw];simp only[Az,HC,bR,hk,i1,gf,iq,ir,lP,sP,iB,iC,dl,m1,m2,m3,m4,zd,tk,zr,dN (n:=k) Ω]
  rw [z8,dl];simp [encF]) (by
  simp only [Az,HC,zy,zm,bE,y6,aI]) P.length 0 Ω
 have e0:D++mk row (P.take 0)=D:=by simp[mk]
 rw[e0]at key;exact key
def xGP(O:List AV)(q J:Int)(row:Row)(hr:row.length<=1048576)(g1:List AV)(P:List aF)(D:List Fc)(hb:D.length+P.length<=2199023255552)(hP:P.length<=1099511627776):aB (Ox O q J (P.map aA) ((P.length:Nat):Int)) (D.length,(0:Int),D.map encF,row.map encV,g1)=some ((D++mk row P).length,(D++mk row P).map encF):=Ux O q J row hr g1 P D hb hP
def vX(l:List Fc):Prop:=Keyed l/\l.length<=1024/\kJ l
def L7(g:fI):((aM g).cells.getD 1 .top).toList=g.2.map aA:=rfl
def lG(g:fI):((aM g).cells.length==2):=rfl
def sG(g:fI):ew [Sh.list 3,Sh.list 2] (aM g).cells 0:=rfl
def Uy{f:List AV->Option (List AV)}{step:List AV->Int->Nat×Int×List AV->Option ((Nat×Int×List AV)⊕(Nat×List AV))}(J:step=DS/\f=yl\/step=DT/\f=r9)(S:List fI)(hS:S.length<=1024)(hr:∀g,g∈S->g.1.length<=1048576)(L:Row->List aF)(hL:∀g,g∈S->f (g.2.map aA)=some ((L g.1).map aA)/\(L g.1).length<=1048576):aB (step (S.map aM) ((S.length:Nat):Int)) ((0:Nat),(0:Int),[])=some ((dB (S.map (·.1)) L).length,(dB (S.map (·.1)) L).map encF):=by rw[<-SY];refine vE S (λ g=>mk g.1 (L g.1)) encF 1048576 (λ g hg=>by unfold mk;rw[za];exact(hL g hg).2) (λ n h D hD=>?_) (λ D=>?_);(have i1:(n:Int)<(S.length:Int):=Ω);have gf:(S.map aM).getD n .top=aM S[n]:=cH _ _ _ h;obtain⟨e1,e2⟩:=hL _ (zo h);have q:=hr _ (zo h);rcases J with⟨rfl,rfl⟩|⟨rfl,rfl⟩;have el:=Ux (S.map aM) (S.length:Int) (n:Int) S[n].1 q (S[n].2.map aA) (L S[n].1) D Ω Ω;simp only[DS,HB,HG,bR,h,i1,gf,L6,L7,lG,sG,e1,el,dN (n:=n) Ω];have el:=xGP (S.map aM) (S.length:Int) (n:Int) S[n].1 q (S[n].2.map aA) (L S[n].1) D Ω Ω;simp only[DT,HD,HI,bR,h,i1,gf,L6,L7,lG,sG,e1,el,dN (n:=n) Ω];rcases J with⟨rfl,rfl⟩|⟨rfl,rfl⟩;simp only[DS,HB,zy,zm,bE,aI];simp only[DT,HD,zy,zm,bE,aI]
def F6{R:List Row}{Q:Row->List aF->Prop}(h:∀r,r∈R->∃P,Q r P):∃L:Row->List aF,∀r,r∈R->Q r (L r):=by refine⟨λ r=>if hr:r∈R then Classical.choose (h r hr)else[],λ r hr=>?_⟩;show Q r (if hr:r∈R then Classical.choose (h r hr)else[]);rw[dif_pos hr];exact Classical.choose_spec (h r hr)
def Xl(l:List Fc)(r:Row):(λ t=>(cY l r).countP (aG · t))=cnt l r:=funext λ t=>CT l r t
def WS(l:List Fc)(h:vX l):∃B,pd (l.map encF)=some (B.map encF)/\mN l B:=by
 obtain⟨S,e1,hR,J,O⟩:=Wb l h.1 h.2.2;have hl:=h.2.1;obtain⟨L,hL⟩:=F6 (R:=S.map (·.1)) (Q:=λ r P=>yl ((cY l r).map aA)=some (P.map aA)/\bD (cnt l r) P/\P.length<=1048576) λ r hr=>by have q:=LC l r;obtain⟨P,a1,a2⟩:=xJ0 (cY l r) xJb Ω;have a3:=a2.len;rw[Xl]at a2;refine⟨P,a1,a2,Nat.le_trans a3 (Nat.mul_le_mul (Nat.le_trans q hl) (Nat.le_trans q hl))⟩
 have hk:∀g,g∈S->g.1∈S.map (·.1):=λ g hg=>zK.2 ⟨g,hg,rfl⟩;have eb:=Uy (.inl ⟨rfl,rfl⟩) S Ω (fun g hg=>by
  obtain ⟨f,hf,e,_⟩:=(hR.2 g.1).1 (hk g hg);rw [<-e];exact h.1.1.2 f hf) L (fun g hg=>by
  rw [J g hg];exact ⟨(hL _ (hk g hg)).1,(hL _ (hk g hg)).2.2⟩)
 refine⟨dB (S.map (·.1)) L,?_,S.map (·.1),L,hR,λ r hr=>(hL r hr).2.1,rfl⟩;have tt:∀F:List Fc,List.take F.length (F.map encF)=F.map encF:=λ F=>zi Ψ;unfold pd P4 Pp ON D9 OE;simp only[e1,zk,zh,aW,za,eb,zH,zd,zn,zS,zr,tt,aI]
def xMx(l:List Fc)(h:vX l):∃B,Cf (l.map encF)=some (B.map encF)/\oy l B:=by
 obtain⟨S,e1,hR,q,O⟩:=Wb l h.1 h.2.2;have hl:=h.2.1;obtain⟨L,hL⟩:=F6 (R:=S.map (·.1)) (Q:=λ r P=>r9 ((cY l r).map aA)=some (P.map aA)/\(bA P/\∀t,inL P t=decide (0<cnt l r t))/\P.length<=1048576) λ r hr=>by have J:=LC l r;obtain⟨P,a1,a2,a3⟩:=XP (cY l r) Ω;(have a4:∀t,inL P t=decide (0<(cY l r).countP (aG · t)):=λ t=>by rw[a3,Bool.eq_iff_iff,zl,List.countP_pos_iff];unfold inL;rw[List.any_eq_true]);refine⟨P,a1,⟨a2,λ t=>by rw[a4,CT]⟩,?_⟩;have:=Tt (k:=0) a2 a4;omega
 have hk:∀g,g∈S->g.1∈S.map (·.1):=λ g hg=>zK.2 ⟨g,hg,rfl⟩;have eb:=Uy (.inr ⟨rfl,rfl⟩) S Ω (fun g hg=>by
  obtain ⟨f,hf,e,_⟩:=(hR.2 g.1).1 (hk g hg);rw [<-e];exact h.1.1.2 f hf) L (fun g hg=>by
  rw [q g hg];exact ⟨(hL _ (hk g hg)).1,(hL _ (hk g hg)).2.2⟩)
 refine⟨dB (S.map (·.1)) L,?_,S.map (·.1),L,hR,λ r hr=>(hL r hr).2.1,rfl⟩;have tt:∀F:List Fc,List.take F.length (F.map encF)=F.map encF:=λ F=>zi Ψ;unfold Cf P5 Pq OO Ec OF;simp only[e1,zk,zh,aW,za,eb,zH,zd,zn,zS,zr,tt,aI]
end Go.Sim.M
namespace Go.Sim.M
open Go.RowKit Go.Sim.Srt
def pos(S:List aF)(i:Nat):Int:=match S[i]? with|some s=>s.1|none=>1099511627776
variable {S:List aF}{i:Nat}
def CS(h:i<S.length):pos S i=S[i].1:=by unfold pos;rw[ze h]
def NK(h:S.length<=i):pos S i=1099511627776:=by unfold pos;rw[zz h]
def xI7{N:Int->Nat}(hS:aL (λ t=>(N t:Int)) 1099511627776 S)(hi:i<S.length):0<=pos S i/\pos S i<pos S (i+1)/\pos S (i+1)<=1099511627776/\S[i].2=(N S[i].1:Int)/\∀t,pos S i<=t->t<pos S (i+1)->N t=N S[i].1:=by
 obtain⟨m1,m2,m3,_⟩:=(hS.mem S[i]).1 (zo hi);rw[CS hi];have hb:S[i].1<pos S (i+1)/\pos S (i+1)<=1099511627776:=by by_cases h:i+1<S.length;rw[CS h];have:=zB.1 hS.asc i (i+1) hi h Ω;have:=((hS.mem S[i+1]).1 (zo h)).2.1;omega;rw[NK Ω];omega
 refine⟨m1,hb.1,hb.2,m3,λ t h1 h2=>KM (a:=S[i].1) (b:=pos S (i+1)) (λ u u1 u2=>?_) (t - S[i].1).toNat t Ω h2⟩;by_cases e:N (u - 1)=N u;exact e;have hu:(u,(N u:Int))∈S:=(hS.mem _).2 ⟨by dsimp only;omega,by dsimp only;omega,rfl,.inr (by dsimp only;omega)⟩;obtain⟨k,hk,q⟩:=zp.1 hu;have O:S[k].1=u:=by rw[q]
 rcases zJ i k with J|J;have:i+1<S.length:=Ω
 rw[CS this]at u2;rcases zJ (i+1) k with h3|h3;have:=zB.1 hS.asc (i+1) k this hk h3;omega;obtain rfl:k=i+1:=Ω
 omega;rcases zJ k i with h3|h3;have:=zB.1 hS.asc k i hk hi h3;omega;obtain rfl:k=i:=Ω
 omega
def xI8{N:Int->Nat}(hS:aL (λ t=>(N t:Int)) 1099511627776 S):pos S 0=0:=by
 have h0:((0:Int),(N 0:Int))∈S:=(hS.mem _).2 ⟨by simp,by simp,rfl,.inl rfl⟩;obtain⟨k,hk,J⟩:=zp.1 h0;have h:0<S.length:=Ω
 have p0:=((hS.mem S[0]).1 (zo h)).1;rw[CS h];have q:S[k].1=0:=by rw[J]
 rcases zJ 0 k with h3|h3;have:=zB.1 hS.asc 0 k h hk h3;omega;obtain rfl:k=0:=Ω
 exact q
def joined(out:List aF)(f t:Int):List aF:=match out.getLast? with|some p=>if p.2=f then out.dropLast++[(p.1,t)]else out++[(f,t)]|none=>out++[(f,t)]
def GX{n:Nat}(h:n<=1099511627776):(n+1)*16<=140737488355328/\n+1<=4611686018427387904/\n*16<=140737488355328/\n<=4611686018427387904:=Ω
def xKB(out:List aF)(f t:Int)(O:f<t)(J:∀p,p∈out->p.2<=f)(hl:out.length<=1048576):∃q,nj out.length f t (out.map aA)=some q/\br q.1 q.2.1.1 q.2.2.1=(joined out f t).length/\br q.1 q.2.1.2.2 q.2.2.2=(joined out f t).map aA:=by
 rcases Kv out with rfl|⟨o,p,rfl⟩;refine⟨_,rfl,rfl,rfl⟩;have hp:=J p Ψ;have L:(o++[p]).length=o.length+1:=by simp
 rw[L]at hl;have w1:IntKind.i64.wrap (((o.length+1:Nat):Int) - 1)=(o.length:Int):=Yg Ω;have i1:((o.length+1:Nat):Int)>0:=Ω
 have i2:(o.length:Int)<((o.length+1:Nat):Int):=Ω
 have i3:(o.length:Int)<=((o.length+1:Nat):Int):=Ω
 have i4:o.length<o.length+1:=Ω
 have i5:o.length<=o.length+1:=Ω
 have gl:((o++[p]).map aA).getD o.length .top=aA p:=by rw[zx];have:=Vs (o.map aA) (aA p) .top;rwa [za]at this
 have tl:List.take o.length ((o++[p]).map aA)=o.map aA:=by rw[zx];exact List.take_left' Ψ
 obtain⟨m1,m2,m3,m4⟩:=GX (n:=o.length) Ω;obtain⟨m5,m6,_,_⟩:=GX (n:=o.length+1) Ω;have jn:joined (o++[p]) f t=if p.2=f then o++[(p.1,t)]else o++[p]++[(f,t)]:=by unfold joined;simp
 by_cases he:p.2=f;have c1:p.2>=f:=Ω
 have c2:t>p.2:=Ω
 rw[jn,if_pos he,L];refine⟨(true,(o.length+1,(o++[p]).map aA,o.map aA++[aA (p.1,t)]),(0,[])),?_,by simp[aW,aI],by simp[aW,aI]⟩;unfold nj Fx EU Ff tx JT JU Fg JV;simp only[bR,L,w1,i1,i2,i3,i4,i5,gl,iq,ir,lP,sP,iB,iC,c1,c2,tl,zr,m1,m2,m3,m4,if_true,p7];have c1:¬ p.2>=f:=Ω
 rw[jn,if_neg he,L];refine⟨(false,(0,[],[]),(o.length+1+1,(o++[p]).map aA++[aA (f,t)])),?_,by simp[bE,aI],by simp[bE,aI]⟩;unfold nj Fx EU Ff tx JT JU Fg JV;simp only[bR,L,w1,i1,i2,i3,i4,gl,iq,ir,lP,sP,iB,iC,c1,m5,m6,p7]
variable {t:Int}
def xHv{out:List aF}{f:Int}{K:Int->Bool}(h:dq out f K)(h0:0<=f)(J:f<t)(hF:t<=1099511627776)(hK:∀u,f<=u->u<t->K u):dq (joined out f t) t K/\(joined out f t).length<=out.length+1:=by rcases Kv out with rfl|⟨o,p,rfl⟩;exact⟨h.add h0 J hF hK (λ p hp=>by simp at hp),by simp[joined]⟩;(have jn:joined (o++[p]) f t=if p.2=f then o++[(p.1,t)]else o++[p]++[(f,t)]:=by unfold joined;simp);rw[jn];by_cases he:p.2=f;rw[if_pos he];exact⟨h.ext he J hF hK,by simp⟩;rw[if_neg he];refine⟨h.add h0 J hF hK (λ q hq e=>?_),by simp⟩;rcases zG.1 hq with hq|hq;have:=(List.pairwise_append.1 h.span.2).2.2 q hq p Ψ;have hv:=iF.1 (h.span.1 p Ψ);have:=h.low p Ψ;omega;rw[zv]at hq;subst hq;exact he e
def NE{N:Int->Nat}(hS:aL (λ t=>(N t:Int)) 1099511627776 S)(hl:S.length<=524289)(n:Int):∀(d i:Nat)(out:List aF),i+d=S.length->dq out (pos S i) (λ t=>decide (n<=(N t:Int)))->out.length<=i->
  ∃J:List aF,aB (rG (S.map aA) n) (out.length,(i:Int),out.map aA)=some (J.length,J.map aA)/\dq J 1099511627776 (λ t=>decide (n<=(N t:Int)))/\J.length<=S.length
 |0,i,out,h,ho,hn=>by
  obtain rfl:i=S.length:=by omega
  rw[NK (zd _)]at ho;refine⟨out,cQ ?_,ho,hn⟩;simp only[rG,xL,za,zy,zm,bE,aI]
 |d+1,i,out,h,ho,hn=>by
  have hi:i<S.length:=by omega
  obtain⟨p1,p2,p3,p4,p5⟩:=xI7 hS hi;have i1:(i:Int)<(S.length:Int):=by omega
  have gf:(S.map aA).getD i .top=aA S[i]:=cH _ _ _ hi;have wi:=dN (n:=i) (by omega)
  have pe:=CS hi;by_cases Q:S[i].2>=n
  . have hK:∀t,pos S i<=t->t<pos S (i+1)->(λ t=>decide (n<=(N t:Int))) t=true:=λ t t1 t2=>by
     dsimp only;rw[p5 t t1 t2,<-p4];exact decide_eq_true Q
    obtain⟨j1,j2⟩:=xHv ho p1 p2 p3 hK;obtain⟨q,q1,q2,q3⟩:=xKB out (pos S i) (pos S (i+1)) p2 ho.low (by omega)
    obtain⟨J,e',x1,x2⟩:=NE hS hl n d (i+1) (joined out (pos S i) (pos S (i+1))) (by omega) j1 (by omega)
    refine⟨J,(eH (s':=((joined out (pos S i) (pos S (i+1))).length,((i+1:Nat):Int),(joined out (pos S i) (pos S (i+1))).map aA)) ?_).trans e',x1,x2⟩;rw[<-q2,<-q3];by_cases O:i+1<S.length
    . have i2:((i+1:Nat):Int)<(S.length:Int):=by omega
      have gn:(S.map aA).getD (i+1) .top=aA S[i+1]:=cH _ _ _ O;rw[CS O,pe]at q1;simp only[rG,xL,AO,rK,rJ,AD,AE,bR,i1,i2,hi,O,gf,gn,iq,ir,lP,sP,iB,iC,Q,wi,q1]
    . have i2:¬ ((i+1:Nat):Int)<(S.length:Int):=by omega
      rw[NK (S:=S) (i:=i+1) (by omega),pe]at q1
      simp only[rG,xL,AO,rK,rJ,AD,AE,bR,i1,i2,hi,gf,iq,ir,lP,sP,iB,iC,Q,wi,q1]
  . have hK:∀t,pos S i<=t->t<pos S (i+1)->(λ t=>decide (n<=(N t:Int))) t=false:=λ t t1 t2=>by
     dsimp only;rw[p5 t t1 t2,<-p4];exact decide_eq_false (by omega)
    obtain⟨J,e',x1,x2⟩:=NE hS hl n d (i+1) out (by omega) (ho.skip (by omega) hK) (by omega)
    refine⟨J,(eH (s':=(out.length,((i+1:Nat):Int),out.map aA)) ?_).trans e',x1,x2⟩;by_cases O:i+1<S.length
    . have i2:((i+1:Nat):Int)<(S.length:Int):=by omega
      have gn:(S.map aA).getD (i+1) .top=aA S[i+1]:=cH _ _ _ O;simp only[rG,xL,AO,rK,rJ,AD,AE,bR,i1,i2,hi,O,gf,gn,iq,ir,lP,sP,iB,iC,Q,wi]
    . have i2:¬ ((i+1:Nat):Int)<(S.length:Int):=by omega
      simp only[rG,xL,AO,rK,rJ,AD,AE,bR,i1,i2,hi,gf,iq,ir,lP,sP,iB,iC,Q,wi]
def xLR{N:Int->Nat}(h0:∀t,t<0\/1099511627776<=t->N t=0)(hS:aL (λ t=>(N t:Int)) 1099511627776 S)(hl:S.length<=524289)(k:Nat):∃A:List aF,uY (S.map aA) ((k+1:Nat):Int)=some (A.map aA)/\(bA A/\∀t,inL A t=decide (k<N t))/\A.length<=S.length:=by obtain⟨A,e,a1,a2⟩:=NE hS hl ((k+1:Nat):Int) S.length 0 [] Ω (by rw[xI8 hS];exact Um _) (zd _);refine⟨A,?_,⟨a1.span,λ t=>?_⟩,a2⟩;have e:aB (rG (S.map aA) ((k+1:Nat):Int)) ((0:Nat),(0:Int),[])=_:=e;have tt:List.take A.length (A.map aA)=A.map aA:=zi Ψ;unfold uY PI;simp only[Ep,e,zk,zh,aW,zH,za,zd,zn,zS,zr,tt,aI];rw[a1.done];by_cases h1:0<=t;by_cases h2:t<1099511627776;simp only[h1,h2,zn,Bool.true_and];rw[Bool.eq_iff_iff,zl,zl];omega;have:=h0 t (.inr Ω);simp[h2,this];have:=h0 t (.inl Ω);simp[h1,this]
def xHO(p q:aF):decide (J5 p.1 p.2 q.1 q.2<=0)=decide (dh p q<=0):=by rw[Bool.eq_iff_iff,zl,zl,vN];unfold J5;simp only[dY,zS,aI];by_cases h1:p.1=q.1;by_cases h2:p.2=q.2;simp[h1,h2];by_cases h3:p.2<q.2;simp[h1,h2,h3];omega;simp[h1,h2,h3];omega;by_cases h3:p.1<q.1;simp[h1,h3];simp[h1,h3]
def Vg(P:List aF)(hP:P.length<=1099511627775)(p:aF):∀(d i:Nat),i+d=P.length->(∀k(h:k<P.length),k<i->dh P[k] p<=0)->∃m:Nat,m<=P.length/\(∀k(h:k<P.length),k<m->dh P[k] p<=0)/\(∀h:m<P.length,¬ dh P[m] p<=0)/\
  aB (xP (P.map aA)) (i,(i:Int),p.1,p.2,(P.take i).map aA)=some (m,(m:Int),p.1,p.2,(P.take m).map aA)
 |0,i,h,hk=>by
  obtain rfl:i=P.length:=by omega
  refine⟨P.length,zd _,hk,λ h=>by omega,cQ ?_⟩
  simp only[xP,Er,za,zy,zm,bE,aI]
 |d+1,i,h,hk=>by
  have hi:i<P.length:=by omega
  have i1:(i:Int)<(P.length:Int):=by omega
  have gf:(P.map aA).getD i .top=aA P[i]:=cH _ _ _ hi;have tl:(P.take i).length=i:=by rw[zt];omega
  obtain⟨m1,m2,_,_⟩:=GX (n:=i) (by omega)
  have rc:=xHO P[i] p;by_cases hc:dh P[i] p<=0
  . rw [decide_eq_true hc] at rc;obtain ⟨m,a1,a2,a3,a4⟩:=Vg P hP p d (i+1) (by omega) (fun k h h1=>by
     by_cases e:k=i
     . subst e;exact hc
     . exact hk k h (by omega))
    refine⟨m,a1,a2,a3,(eH ?_).trans a4⟩;simp only[xP,Er,Ix,bR,i1,hi,gf,iq,ir,lP,sP,iB,iC,rc,tl,m1,m2,dN (n:=i) (by omega),p7]
    rw[List.take_add_one,ze hi,zx];rfl
  . rw[decide_eq_false hc]at rc;refine⟨i,by omega,hk,λ _=>hc,cQ ?_⟩
    simp only[xP,Er,Ix,bR,i1,hi,gf,iq,ir,lP,sP,iB,iC,rc]
def xI6(P:List aF)(hP:P.length<=1099511627775)(p:aF)(hs:aH dh P):∃P':List aF,Ko (P.map aA) p.1 p.2=some (P'.map aA)/\P'.Perm (p::P)/\aH dh P':=by
 obtain⟨m,a1,a2,a3,a4⟩:=Vg P hP p P.length 0 Ω (λ k h h1=>by omega);refine⟨P.take m++p::P.drop m,?_,?_,?_⟩;have a4:aB (xP (P.map aA)) ((0:Nat),(0:Int),p.1,p.2,[])=_:=a4;have tl:(P.take m).length=m:=by rw[zt];omega
 obtain⟨m1,m2,_,_⟩:=GX (n:=m) Ω;have i1:(m:Int)<=(P.length:Int):=Ω
 have t1:List.take (P.length - m) (List.drop m (P.map aA))=(P.drop m).map aA:=by rw[zi Ψ,List.map_drop]
 have dl:(P.drop m).length=P.length - m:=y3;have m3:(m+1+(P.length - m))*16<=140737488355328:=Ω
 have m4:m+1+(P.length - m)<=4611686018427387904:=Ω
 have J:(P.take m).map aA++[aA p]++(P.drop m).map aA=(P.take m++p::P.drop m).map aA:=by simp
 have fl:((P.take m++p::P.drop m).map aA).length=m+1+(P.length - m):=by simp;omega
 have tt:List.take (m+1+(P.length - m)) ((P.take m++p::P.drop m).map aA)=(P.take m++p::P.drop m).map aA:=zi (by rw[fl];exact zd _);have ag:AV.agg [.int .i64 p.1,.int .i64 p.2]=aA p:=rfl;unfold Ko QL;simp only[EX,P9,Qa,EY,Qb,qP,PJ,a4,bR,ag,tl,t1,dl,m1,m2,m3,m4,i1,z8,zj,J,zd,zr];have l9:m+(p::P.drop m).length=m+1+(P.length - m):=by rw[zF,dl];omega
 simp only[za,l9,zd,zn,aW,tt,aI];exact List.perm_middle.trans (by rw[List.take_append_drop]);refine List.pairwise_append.2 ⟨hs.sublist (List.take_sublist _ _),zM.2 ⟨λ q hq=>?_,hs.sublist (List.drop_sublist _ _)⟩,λ x hx y hy=>?_⟩;obtain⟨j,hj,rfl⟩:=zp.1 hq;rw[y3]at hj;rw[List.getElem_drop];have h1:=a3 Ω;have h2:dh p P[m]<=0:=by rw[KK P[m] p];omega
 rcases Nat.eq_zero_or_pos j with rfl|O;exact h2;exact N6.trans _ _ _ h2 (zB.1 hs m (m+j) Ω Ω Ω);obtain⟨i,hi,rfl⟩:=List.mem_take_iff_getElem.1 hx;rcases zC.1 hy with rfl|hy;exact a2 i Ω Ω;obtain⟨j,hj,rfl⟩:=zp.1 hy;rw[y3]at hj;rw[List.getElem_drop];exact zB.1 hs i (m+j) Ω Ω Ω
def Wa(l:List AV)(n:Int)(s:List aF)(hs:s.length<=1048576):∀(d i:Nat)(out:List aF),i+d=s.length->aH dh out->out.length+d<=1099511627775->∃q:List aF,aB (xF l n (s.map aA)) (out.map aA,(i:Int))=some (q.map aA)/\q.Perm (out++s.drop i)/\aH dh q|0,i,out,h,ho,hl=>(by(obtain rfl:i=s.length:=Ω);refine⟨out,cQ ?_,by rw[zq (zd _),zD],ho⟩;simp only[xF,Iw,za,zy,zm,bE,aI])|d+1,i,out,h,ho,hl=>by(have hi:i<s.length:=Ω);(have i1:(i:Int)<(s.length:Int):=Ω);have gf:(s.map aA).getD i .top=aA s[i]:=cH _ _ _ hi;obtain⟨P',e1,p1,s1⟩:=xI6 out Ω s[i] ho;have pl:=p1.length_eq;rw[zF]at pl;obtain⟨q,e2,p2,s2⟩:=Wa l n s hs d (i+1) P' Ω s1 Ω;refine⟨q,(eH (s':=(P'.map aA,((i+1:Nat):Int))) ?_).trans e2,?_,s2⟩;simp only[xF,Iw,bR,i1,hi,gf,iq,ir,lP,sP,iB,iC,e1,dN (n:=i) Ω];refine p2.trans ((p1.append_right _).trans ?_);rw[jr hi];exact List.perm_middle.symm
def V9(A:Nat->List aF)(C:Nat)(hC:C<=524289)(hA:∀k,uY (S.map aA) ((k+1:Nat):Int)=some ((A k).map aA)/\(A k).length<=C)(H:Nat)(hH:H<=1048575)(hE:A H=[]):∀(d k:Nat)(out:List aF),k+d=H->aH dh out->out.Perm ((List.range k).flatMap A)->∃(K:Nat)(q:List aF),aB (xE (S.map aA)) (out.map aA,((k+1:Nat):Int))=some (true,(q.map aA,q.map aA),[])/\A K=[]/\K<=H/\q.Perm ((List.range K).flatMap A)/\aH dh q|d,k,out,h,ho,hp=>by(obtain⟨e1,l1⟩:=hA k;have n1:((k+1:Nat):Int)<=1048576:=Ω);by_cases hk:A k=[];refine⟨k,out,cQ ?_,hk,by omega,hp,ho⟩;rw[hk]at e1;simp only[xE,Iv,n1,e1,zn,aW,zk,zh,zW,aI];rfl;match d,h with
 |0,h=>(obtain rfl:k=H:=Ω);exact absurd hE hk
 |d+1,h=>
 have ol:out.length<=C*k:=by rw[hp.length_eq];have:=vJ (g:=A) (List.range k) λ j _=>(hA j).2;rwa [List.length_range]at this
 have J:C*k<=524289*1048575:=Nat.mul_le_mul hC Ω;obtain⟨q,e2,p2,s2⟩:=Wa (S.map aA) ((k+1:Nat):Int) (A k) Ω (A k).length 0 out Ω ho Ω;obtain ⟨K,o2,e3,k1,k2,p3,s3⟩:=V9 A C hC hA H hH hE d (k+1) q Ω s2 (by
  rw [List.range_succ,List.flatMap_append];rw [zr] at p2;refine p2.trans ((hp.append_right _).trans ?_);simp)
 refine⟨K,o2,(eH ?_).trans e3,k1,k2,p3,s3⟩;have ne:(((A k).length:Int)==0)=false:=by have:(A k).length≠0:=λ e=>hk (List.length_eq_zero_iff.1 e);simp;exact hk
 have e2:aB (xF (S.map aA) ((k+1:Nat):Int) ((A k).map aA)) (out.map aA,(0:Int))=_:=e2;simp only[xE,Iv,n1,e1,zn,aW,bE,zk,zh,za,ne,e2,dN (n:=k+1) Ω,aI]
def xF1{N:Int->Nat}{H:Nat}(hH:H<=1048575)(hN:∀t,N t<=H)(h0:∀t,t<0\/1099511627776<=t->N t=0)(hS:aL (λ t=>(N t:Int)) 1099511627776 S)(hl:S.length<=524289):∃P,tB (S.map aA)=some (P.map aA)/\bD N P:=by
 have ha:=xLR h0 hS hl;have hA:=λ k=>Classical.choose_spec (ha k);obtain⟨A,q⟩:∃A:Nat->List aF,A=λ k=>Classical.choose (ha k):=⟨_,rfl⟩;have hA:∀k,uY (S.map aA) ((k+1:Nat):Int)=some ((A k).map aA)/\(bA (A k)/\∀t,inL (A k) t=decide (k<N t))/\(A k).length<=S.length:=λ k=>by rw[q];exact hA k
 have hE:A H=[]:=Ll (hA H).2.1.1 λ t=>by rw[(hA H).2.1.2];have:=hN t;simp;omega
 obtain⟨K,P,e,k1,k2,p1,s1⟩:=V9 A S.length hl (λ k=>⟨(hA k).1,(hA k).2.2⟩) H hH hE H 0 [] Ω List.Pairwise.nil Ψ;refine⟨P,?_,s1,A,K,λ t=>?_,λ k=>(hA k).2.1,p1⟩;have e:aB (xE (S.map aA)) ([],(1:Int))=_:=e;unfold tB P8;simp only[Jt,e,zk,zh,aW,aI];have:=(hA K).2.1.2 t;rw[k1,pQ]at this;have:=of_decide_eq_false this.symm;omega
def SB{r:Row}(h:∀v,v∈r->v.wf/\v.t.length<=1073741824)(hl:r.length<=60):(keyOf r).length<=17592186044416:=by(have:=vJ (g:=fi) (c:=1073741890) r λ v hv=>by obtain⟨h1,h2⟩:=h v hv;have:=Vu h1 Ω;omega);unfold keyOf;have h2:1073741890*r.length<=1073741890*60:=Nat.mul_le_mul_left _ hl;omega
variable {Q:Row->Prop}
def mN.all{l B:List Fc}(h:mN l B)(hq:∀f,f∈l->Q f.r):∀f,f∈B->Q f.r:=λ f hf=>by obtain⟨_,g,hg,e⟩:=h.valid hf;rw[<-e];exact hq g hg
def oy.all{l B:List Fc}(h:oy l B)(hq:∀f,f∈l->Q f.r):∀f,f∈B->Q f.r:=λ f hf=>by obtain⟨R,L,h1,h2,rfl⟩:=h;obtain⟨a,b⟩:=Cy hf;obtain⟨g,g1,g2,_⟩:=(h1.2 _).1 a;rw[<-g2];exact hq g g1
def oy.len{l B:List Fc}(h:oy l B):B.length<=l.length*l.length:=by obtain⟨R,L,h1,h2,rfl⟩:=h;refine SD (h1.1.nodup mj) λ r hr=>?_;(obtain⟨a,b⟩:=h2 r hr;have:=Tt (ps:=cY l r) (k:=0) a λ t=>by rw[b,CT]);exact Nat.le_trans this (Nat.le_mul_self _)
def dk(S:List Row):Nat->List Row|0=>[]|k+1=>dk S k++(if k=0\/S[k - 1]?≠S[k]? then S[k]?.toList else[])
def GB(S:List Row):∀k,(dk S k).length<=k|0=>zd _|k+1=>by(have:=GB S k;unfold dk;rw[z8];have:(if k=0\/S[k - 1]?≠S[k]? then S[k]?.toList else[]).length<=1:=by split;cases S[k]?<;>simp;simp);omega
def GE(S:List Row)(hs:aH aK S):∀k,k<=S.length->cK aK (dk S k)/\∀x,x∈dk S k↔x∈S.take k
 |0,_=>⟨List.Pairwise.nil,λ x=>by simp[dk]⟩
 |k+1,hk=>by
  obtain⟨h1,h2⟩:=GE S hs k (by omega)
  have J:k<S.length:=by omega
  have tk:S.take (k+1)=S.take k++[S[k]]:=by rw[List.take_add_one,ze J];rfl
  unfold dk;rw[ze J,tk];by_cases hc:k=0\/S[k - 1]?≠some S[k]
  . rw[if_pos hc];refine⟨List.pairwise_append.2 ⟨h1,List.pairwise_singleton _ _,λ x hx y hy=>?_⟩,λ x=>by rw[zG,zG,h2];rfl⟩
    simp at hy;subst hy;obtain⟨i,hi,rfl⟩:=List.mem_take_iff_getElem.1 ((h2 x).1 hx);have O:k≠0:=by omega
    have q:k - 1<S.length:=by omega
    have hne:S[k - 1]≠S[k]:=λ e=>by
     rcases hc with hc|hc
     . exact O hc
     . exact hc (by rw[ze q,e])
    have c1:aK S[k - 1] S[k]<=0:=zB.1 hs _ _ q J (by omega)
    have c2:aK S[k - 1] S[k]<0:=by
     rcases Int.lt_or_eq_of_le c1 with c|c
     . exact c
     . exact absurd (tH c) hne
    rcases zJ i (k - 1)with Q|Q
    . have c3:aK S[i] S[k - 1]<=0:=zB.1 hs _ _ (by omega) q Q
      exact mj.lt2 c3 c2
    . have:i=k - 1:=by omega
      subst this;exact c2
  . rw[if_neg hc,zD];refine⟨h1,λ x=>?_⟩
    rw[h2,zG,zv];refine⟨Or.inl,λ hh=>hh.elim id λ hx=>?_⟩
    have O:k≠0:=λ e=>hc (.inl e)
    have he:S[k - 1]?=some S[k]:=by
     by_cases e:S[k - 1]?=some S[k]
     . exact e
     . exact absurd (.inr e) hc
    have q:k - 1<S.length:=by omega
    rw[ze q,z6]at he;rw[hx,<-he];exact List.mem_take_iff_getElem.2 ⟨k - 1,by omega,rfl⟩
def xPm{n:Nat}(h:n<=1048576):(n+1)*24<=140737488355328/\n+1<=4611686018427387904:=Ω
def xDw(S:List Row)(hS:S.length<=1048576)(hr:∀x,x∈S->x.length<=maxLen):aB (xH (S.map encR)) ((0:Nat),(0:Int),[])=some ((dk S S.length).length,(dk S S.length).map encR):=by
 refine r6 (λ k=>(((dk S k).length,((k:Nat):Int),(dk S k).map encR):Nat×Int×List AV)) S.length _ (λ k hk=>?_) ?_ S.length 0 Ω;have i1:(k:Int)<(S.length:Int):=Ω
 have gf:(S.map encR).getD k .top=encR S[k]:=cH _ _ _ hk;have dl:=GB S k;obtain⟨m1,m2⟩:=xPm (n:=(dk S k).length) Ω;cases k with|zero=>(have:dk S (0+1)=[S[0]]:=by simp[dk,ze hk]);rw[this];have i0:(((0:Nat):Int)==0):=rfl;simp only[xH,D5,DY,H3,bR,hk,i0,i1,gf,kV,lc,m1,m2,dN (n:=0) Ω];rfl|succ j=>(have hj:j<S.length:=Ω);(have i0:(((j+1:Nat):Int)==0)=false:=by simp;omega);(have i2:(j:Int)<(S.length:Int):=Ω);(have gj:(S.map encR).getD j .top=encR S[j]:=cH _ _ _ hj;have ee:=Gz S[j] S[j+1] (hr _ (zo hj));have wj:IntKind.i64.wrap (((j+1:Nat):Int) - 1)=(j:Int):=by rw[gx Ω Ω];omega);(have sd:dk S (j+1+1)=dk S (j+1)++(if S[j]=S[j+1]then[]else[S[j+1]]):=by show dk S (j+1)++_=_;congr 1;rw[show j+1 - 1=j by omega,ze hj,ze hk];by_cases e:S[j]=S[j+1];simp[e];simp[e]);rw[sd];simp only[xH,D5,DY,H3,bR,hk,hj,i0,i1,i2,gf,gj,kV,lc,ee,wj,kM,m1,m2,dN (n:=j+1) Ω];by_cases e:S[j]=S[j+1];simp[e,bE,aI];simp[e,aW,encR,aI]
 simp only[xH,D5,DY,za,zy,zm,bE,aI]
def xwh(l:List Row)(h:kO l):∃D,EZ (l.map encR)=some (D.map encR)/\cK aK D/\(∀x,x∈D↔x∈l)/\D.length<=l.length:=by obtain⟨S,e1,p1,s1⟩:=Ld l h;have hS:=h.perm p1;obtain⟨a1,a2⟩:=GE S s1 S.length (zd _);have e2:=xDw S hS.1 (λ x hx=>by have:=hS.2 x hx;unfold maxLen;omega);refine⟨dk S S.length,?_,a1,λ x=>by rw[a2,y6,p1.mem_iff],by rw[<-p1.length_eq];exact GB _ _⟩;have tt:List.take (dk S S.length).length ((dk S S.length).map encR)=(dk S S.length).map encR:=zi Ψ;unfold EZ Pv;simp only[Ex,e1,e2,zk,zh,aW,zH,za,zd,zn,zS,zr,tt,aI]
def cF(f g:Fc):Int:=aK f.r g.r
def N5:Cm cF:=mj.on (e:=λ f:Fc=>f.r)
def xFu(a b:List Fc)(ha:a.length+b.length<=1048576)(Z:∀x,x∈a->x.r.length<=1048576)(W:∀x,x∈b->x.r.length<=1048576)(sa:aH cF a)(sb:aH cF b):∀(n i k:Nat)(D:List Fc),(a.length - i)+(b.length - k)=n->i<=a.length->k<=b.length->D.length=i+k->∃r,aB (sU (List.map encF a) (List.map encF b)) (D.length,(i:Int),(k:Int),List.map encF D)=some (a.length+b.length,List.map encF (D++r))/\r.Perm (a.drop i++b.drop k)/\aH cF r:=by intro n;induction n with|zero=>(intro i k D hn hi hk hD;have h1:¬ (i:Int)<(a.length:Int):=Ω);(have h2:¬ (k:Int)<(b.length:Int):=Ω);refine⟨[],cQ ?_,?_,by simp[aH]⟩;simp only[sU,xY,xU,xV,xW,Br,Bs,Bt,  za,dY,h1,h2,zm,zT,if_false,zD,aI];rw[show D.length=a.length+b.length by omega];rw[zq Ω,zq Ω];exact List.Perm.refl _|succ n ih=>
 intro i k D hn hi hk hD;have Y:(List.map encF D).length=D.length:=by simp
 have m1:(D.length+1)*40<=140737488355328:=Ω
 have m2:D.length+1<=4611686018427387904:=Ω
 have snoc:∀x:Fc,List.map encF D++[AV.agg [AV.list 3 (x.r.map encV),AV.int .i64 x.p.1,AV.int .i64 x.p.2]]=List.map encF (D++[x]):=λ x=>by simp[encF]
 have wi:=tM (n:=i) (show i+1<=maxLen by unfold maxLen;omega);have wk:=tM (n:=k) (show k+1<=maxLen by unfold maxLen;omega);by_cases J:i<a.length;have i1:(i:Int)<(a.length:Int):=Ω
 have i2:((i:Int)==(a.length:Int))=false:=by simp;omega
 have hx:a[i]?=some a[i]:=by simp[J]
 by_cases q:k<b.length;have k1:(k:Int)<(b.length:Int):=Ω
 have hy:b[k]?=some b[k]:=by simp[q]
 have e:=yI b[k].r a[i].r (by have:=W b[k] (zo q);unfold maxLen;omega);by_cases hc:aK b[k].r a[i].r<0;obtain⟨r,h1,h2,h3⟩:=ih i (k+1) (D++[b[k]]) Ω hi Ω (by simp;omega);refine⟨b[k]::r,?_,?_,?_⟩;refine kP (s':=((D++[b[k]]).length,(i:Int),((k+1:Nat):Int),List.map encF (D++[b[k]]))) ?_ (by rw[h1];simp);simp only[sU,xY,xU,xV,xW,Br,Bs,Bt,  za,dY,i1,i2,k1,J,q,zn,zT,if_false,if_true,zN,gR hx,gR hy,mV,mW,mX,m7,m8,m9,lF,im,il,e,zk,zh,hc,Int.natCast_nonneg,zS,beq_self_eq_true,m1,m2,snoc,wk,aI];simp;rw[jr q];exact(h2.cons _).trans List.perm_middle.symm;refine zM.2 ⟨λ z hz=>?_,h3⟩;rcases zG.1 (h2.mem_iff.1 hz)with hz|hz;rw[jr J]at hz;rcases zC.1 hz with rfl|hz;exact Int.le_of_lt hc;obtain⟨j,hj,rfl⟩:=zp.1 hz;have Q:i+1+j<a.length:=by simp at hj;omega
 have:=li sa (i:=i) (j:=i+1+j) Ω Q;rw[List.getElem_drop];exact N5.trans _ _ _ (Int.le_of_lt hc) this;obtain⟨j,hj,rfl⟩:=zp.1 hz;have O:k+1+j<b.length:=by simp at hj;omega
 rw[List.getElem_drop];exact li sb (i:=k) (j:=k+1+j) Ω O;obtain⟨r,h1,h2,h3⟩:=ih (i+1) k (D++[a[i]]) Ω Ω hk (by simp;omega);refine⟨a[i]::r,?_,?_,?_⟩;refine kP (s':=((D++[a[i]]).length,((i+1:Nat):Int),(k:Int),List.map encF (D++[a[i]]))) ?_ (by rw[h1];simp);simp only[sU,xY,xU,xV,xW,Br,Bs,Bt,  za,dY,i1,i2,k1,J,q,zn,zT,if_false,if_true,zN,gR hx,gR hy,mV,mW,mX,m7,m8,m9,lF,im,il,e,zk,zh,hc,zm,Int.natCast_nonneg,zS,beq_self_eq_true,m1,m2,snoc,wi,aI];simp;rw[jr J];exact h2.cons _;refine zM.2 ⟨λ z hz=>?_,h3⟩;have V:cF a[i] b[k]<=0:=N5.ord.le_of_not hc;rcases zG.1 (h2.mem_iff.1 hz)with hz|hz;obtain⟨j,hj,rfl⟩:=zp.1 hz;have Q:i+1+j<a.length:=by simp at hj;omega
 rw[List.getElem_drop];exact li sa (i:=i) (j:=i+1+j) Ω Q;rw[jr q]at hz;rcases zC.1 hz with rfl|hz;exact V;obtain⟨j,hj,rfl⟩:=zp.1 hz;have O:k+1+j<b.length:=by simp at hj;omega
 rw[List.getElem_drop];exact N5.trans _ _ _ V (li sb (i:=k) (j:=k+1+j) Ω O);have k1:¬ (k:Int)<(b.length:Int):=Ω
 obtain⟨r,h1,h2,h3⟩:=ih (i+1) k (D++[a[i]]) Ω Ω hk (by simp;omega);refine⟨a[i]::r,?_,?_,?_⟩;refine kP (s':=((D++[a[i]]).length,((i+1:Nat):Int),(k:Int),List.map encF (D++[a[i]]))) ?_ (by rw[h1];simp);simp only[sU,xY,xU,xV,xW,Br,Bs,Bt,  za,dY,i1,i2,k1,J,zn,zm,zT,if_false,if_true,zN,gR hx,mV,mW,mX,m7,m8,m9,lF,im,il,Int.natCast_nonneg,zS,beq_self_eq_true,m1,m2,snoc,wi,aI];simp;rw[jr J];exact h2.cons _;refine zM.2 ⟨λ z hz=>?_,h3⟩;rw[zq (show b.length<=k by omega),zD]at h2;obtain⟨j,hj,rfl⟩:=zp.1 (h2.mem_iff.1 hz);have Q:i+1+j<a.length:=by simp at hj;omega
 rw[List.getElem_drop];exact li sa (i:=i) (j:=i+1+j) Ω Q;have i1:¬ (i:Int)<(a.length:Int):=Ω
 have q:k<b.length:=Ω
 have k1:(k:Int)<(b.length:Int):=Ω
 have i2:((i:Int)==(a.length:Int)):=by simp;omega
 have hy:b[k]?=some b[k]:=by simp[q]
 obtain⟨r,h1,h2,h3⟩:=ih i (k+1) (D++[b[k]]) Ω hi Ω (by simp;omega);refine⟨b[k]::r,?_,?_,?_⟩;refine kP (s':=((D++[b[k]]).length,(i:Int),((k+1:Nat):Int),List.map encF (D++[b[k]]))) ?_ (by rw[h1];simp);simp only[sU,xY,xU,xV,xW,Br,Bs,Bt,  za,dY,i1,i2,k1,q,zn,zm,zT,if_false,if_true,zN,gR hy,mV,mW,mX,m7,m8,m9,lF,im,il,Int.natCast_nonneg,zS,beq_self_eq_true,m1,m2,snoc,wk,aI];simp;rw[jr q];exact(h2.cons _).trans List.perm_middle.symm;refine zM.2 ⟨λ z hz=>?_,h3⟩;rw[zq (show a.length<=i by omega),zU]at h2;obtain⟨j,hj,rfl⟩:=zp.1 (h2.mem_iff.1 hz);have O:k+1+j<b.length:=by simp at hj;omega
 rw[List.getElem_drop];exact li sb (i:=k) (j:=k+1+j) Ω O
def xFv(a b:List Fc)(ha:a.length+b.length<=1048576)(q:∀x,x∈a->x.r.length<=1048576)(J:∀x,x∈b->x.r.length<=1048576)(sa:aH cF a)(sb:aH cF b):∃r,Rl (a.map encF) (b.map encF)=some (r.map encF)/\r.Perm (a++b)/\aH cF r:=by(obtain⟨r,h1,h2,h3⟩:=xFu a b ha q J sa sb _ 0 0 [] rfl (zQ _) (zQ _) rfl;simp only[zr,zU]at h1 h2;have h1':aB (sU (a.map encF) (b.map encF)) (0,(0:Int),(0:Int),[])=some (r.length,r.map encF):=by rw[h2.length_eq,z8];exact h1);refine⟨r,?_,h2,h3⟩;unfold Rl Qx;simp only[EH,Qm,h1',po,aI]
def xDA:∀(f:Nat)(l:List Fc),l.length<=2 ^ f->oM l->∃r,qU (f+1) (List.map encF l)=some (List.map encF r)/\r.Perm l/\aH cF r:=by intro f;induction f with|zero=>((intro l hl hs;have h1:(l.length:Int)<2:=by simp at hl;omega);refine⟨l,?_,List.Perm.refl _,?_⟩;show qS (qU 0) (List.map encF l)=_;simp only[qS,B0,za,h1,zn,aW,aI];match l,hl with|[],_=>exact List.Pairwise.nil|[x],_=>exact List.pairwise_singleton _ _)|succ f ih=>
 intro l hl hs;by_cases h2:l.length<=1;have h1:(l.length:Int)<2:=Ω
 refine⟨l,?_,List.Perm.refl _,?_⟩;show qS (qU (f+1)) (List.map encF l)=_;simp only[qS,B0,za,h1,zn,aW,aI];match l,h2 with|[],_=>exact List.Pairwise.nil|[x],_=>exact List.pairwise_singleton _ _
 have hp:2 ^ (f+1)=2*2 ^ f:=by rw[Nat.pow_succ];omega
 have q:=hs.1;obtain⟨m,hm⟩:∃m,m=l.length / 2:=⟨_,rfl⟩;have st:oM (l.take m):=⟨by simp;omega,λ x hx=>hs.2 x (List.mem_of_mem_take hx)⟩;have sd:oM (l.drop m):=⟨by simp;omega,λ x hx=>hs.2 x (List.mem_of_mem_drop hx)⟩;obtain⟨r1,e1,p1,s1⟩:=ih (l.take m) (by simp;omega) st;obtain⟨r2,e2,p2,s2⟩:=ih (l.drop m) (by simp;omega) sd;have l1:=p1.length_eq;have l2:=p2.length_eq;simp only[zt,y3]at l1 l2;obtain⟨r,a1,a3,a4⟩:=xFv r1 r2 Ω (λ x hx=>st.2 x (p1.mem_iff.1 hx)) (λ x hx=>sd.2 x (p2.mem_iff.1 hx)) s1 s2;refine⟨r,?_,a3.trans ((p1.append p2).trans (by rw[List.take_append_drop])),a4⟩;have w:IntKind.i64.wrap ((l.length:Int).tdiv 2)=(m:Int):=by rw[Int.tdiv_eq_ediv_of_nonneg Ω];exact io Ω Ω
 have t1:List.take m (List.map encF l)=List.map encF (l.take m):=by simp
 have t2:List.take (l.length - m) (List.drop m (List.map encF l))=List.map encF (l.drop m):=by rw[zi Ψ];simp
 have d0:¬ (l.length:Int)<2:=Ω
 have d2:(m:Int)<=(l.length:Int):=Ω
 show qS (qU (f+1)) (List.map encF l)=_;simp only[qS,B0,Ph,Pi,Pj,  za,d0,bE,w,zN,Nat.sub_zero,zr,t1,t2,e1,e2,zk,zh,aW,d2,zn,zm,Int.natCast_nonneg,zS,a1,aI]
def xJn(l:List Fc)(h:oM l):∃D,KI (l.map encF)=some (D.map encR)/\ry l D:=by
 have e0:=xvB l h.1;have hf:(l.flatMap λ f=>if pv f.p then[f.r]else[]).length<=1*l.length:=vJ l λ f _=>by split<;>simp
 have hm:∀x,x∈(l.flatMap λ f=>if pv f.p then[f.r]else[])↔∃f,f∈l/\f.r=x/\pv f.p:=λ x=>by rw[y5];constructor;rintro⟨f,hf,hx⟩;split at hx;simp at hx;exact⟨f,hf,hx.symm,by assumption⟩;simp at hx;rintro⟨f,hf,e,hv⟩;exact⟨f,hf,by rw[if_pos hv];simp[e]⟩
 have q:kO (l.flatMap fun f=>if pv f.p then [f.r] else []):=⟨by have:=h.1;omega,fun x hx=>by
  obtain ⟨f,hf,e,_⟩:=(hm x).1 hx;rw [<-e];exact h.2 f hf⟩
 obtain⟨D,d1,d2,d3,d4⟩:=xwh _ q;refine⟨D,?_,d2,λ r=>by rw[d3,hm]⟩;generalize (l.flatMap λ f=>if pv f.p then[f.r]else[])=w at e0 d1;have tt:List.take w.length (w.map encR)=w.map encR:=zi Ψ;unfold KI Rk;simp only[QQ,Fi,e0,zk,zh,aW,zH,za,zd,zn,zS,zr,tt,d1,aI]
def Wd(S:List Fc)(hS:S.length<=1048576)(hr:∀f,f∈S->f.r.length<=maxLen)(on i:Nat)(hi:i<S.length)(xs:List AV):∀(d k:Nat),k+d=S.length->i<=k->∃j:Nat,k<=j/\j<=S.length/\(∀t(h:t<S.length),k<=t->t<j->S[t].r=S[i].r)/\(∀h:j<S.length,S[j].r≠S[i].r)/\
  aB (uG (S.map encF) on (i:Int)) ((k:Int),xs)=some ((j:Int),xs)
 |0,k,h,hik=>by
  obtain rfl:k=S.length:=by omega
  refine⟨S.length,zd _,zd _,λ t h1 h2 h3=>by omega,λ h=>by omega,cQ ?_⟩
  simp only[uG,EA,za,zy,zm,bE,aI]
 |d+1,k,h,hik=>by
  have hk:k<S.length:=by omega
  have i1:(k:Int)<(S.length:Int):=by omega
  have i2:(i:Int)<(S.length:Int):=by omega
  have gk:(S.map encF).getD k .top=encF S[k]:=cH _ _ _ hk;have gi:(S.map encF).getD i .top=encF S[i]:=cH _ _ _ hi;have ec:=yI S[k].r S[i].r (hr _ (zo hk));by_cases he:S[k].r=S[i].r
  . obtain⟨j,a1,a2,a3,a4,a5⟩:=Wd S hS hr on i hi xs d (k+1) (by omega) (by omega)
    refine⟨j,by omega,a2,λ t h1 h2 h3=>?_,a4,(eH (s':=(((k+1:Nat):Int),xs)) ?_).trans a5⟩
    . by_cases q:t=k
      . subst q;exact he
      . exact a3 t h1 (by omega) h3
    . have dd:decide (S[k].r=S[i].r)=true:=decide_eq_true he;simp only[uG,EA,bR,i1,i2,hk,hi,gk,gi,mV,mW,mX,m7,m8,m9,lF,im,il,ec,kM,dd,dN (n:=k) (by omega)]
  . refine⟨k,zd _,by omega,λ t h1 h2 h3=>by omega,λ _=>he,cQ ?_⟩
    simp only[uG,EA,bR,i1,i2,hk,hi,gk,gi,mV,mW,mX,m7,m8,m9,lF,im,il,ec,kM,he,zm]
structure LY (S:List Fc) (i:Nat) (G:List fI):Prop where
 st:cK aK (G.map (·.1))
 mem:∀r,r∈G.map (·.1)↔∃f,f∈S.take i/\f.r=r/\pv f.p
 ps:∀g,g∈G->aL (λ t=>((cnt S g.1 t:Nat):Int)) 1099511627776 g.2/\g.2.length<=2*S.length+1
 len:G.length<=i
 bd:∀a b(ha:a<S.length)(hb:b<S.length),a<i->i<=b->aK S[a].r S[b].r<0
def xPn{n:Nat}(h:n<=1048576):(n+1)*48<=140737488355328/\n+1<=4611686018427387904:=Ω
def T7(S:List Fc)(hS:S.length<=262144)(hr:∀f,f∈S->f.r.length<=1048576)(hs:aH cF S):∀(c i:Nat)(G:List fI),S.length - i<=c->i<=S.length->LY S i G->
  ∃G',aB (Bd (S.map encF)) (G.length,(i:Int),G.map aM)=some (G'.length,G'.map aM)/\LY S S.length G'
 |c,i,G,hc,hi,hG=>by
  by_cases af:i=S.length
  . subst af;refine⟨G,cQ ?_,hG⟩;simp only[Bd,IC,za,zy,zm,bE,aI]
  . have O:i<S.length:=by omega
    obtain⟨j,a1,a2,a3,a4,a5⟩:=Wd S (by omega) (λ f hf=>by have:=hr f hf;unfold maxLen;omega) G.length i O (G.map aM) (S.length - i) i (by omega) (zd _)
    have aa:i<j:=by
     rcases zJ i j with h|h
     . exact h
     . obtain rfl:j=i:=by omega
       exact absurd rfl (a4 O)
    have run_mem:∀f,f∈(S.drop i).take (j - i)↔∃t,∃h:t<S.length,i<=t/\t<j/\S[t]=f:=λ f=>by
     rw[List.mem_take_iff_getElem];constructor
     . rintro⟨m,hm,rfl⟩;rw[y3]at hm;exact⟨i+m,by omega,by omega,by omega,by rw[List.getElem_drop]⟩
     . rintro⟨t,h,h1,h2,rfl⟩;refine⟨t - i,by rw[y3];omega,?_⟩
       rw[List.getElem_drop];congr 1;omega
    have run_row:∀f,f∈(S.drop i).take (j - i)->f.r=S[i].r:=λ f hf=>by
     obtain⟨t,h,h1,h2,rfl⟩:=(run_mem f).1 hf;exact a3 t h h1 h2
    have Y:S.take j=S.take i++(S.drop i).take (j - i):=by
     rw[show j=i+(j - i) by omega,List.take_add,Nat.add_sub_cancel_left]
    have Q:S=S.take i++((S.drop i).take (j - i)++S.drop j):=by
     rw[<-zw,<-Y,List.take_append_drop]
    have rl:((S.drop i).take (j - i)).length=j - i:=by rw[zt,y3];omega
    have q:∀f,f∈S.take i->aK f.r S[i].r<0:=λ f hf=>by
     obtain⟨t,ht,rfl⟩:=List.mem_take_iff_getElem.1 hf;exact hG.bd t i (by omega) O (by omega) (zd _)
    have J:∀t(h:t<S.length),j<=t->aK S[i].r S[t].r<0:=λ t h ah=>by
     have hj:j<S.length:=by omega
     have c1:aK S[i].r S[j].r<=0:=zB.1 hs i j O hj aa;have c2:aK S[i].r S[j].r<0:=by
      rcases Int.lt_or_eq_of_le c1 with c|c
      . exact c
      . exact absurd (tH c).symm (a4 hj)
     rcases zJ j t with h1|h1
     . have c3:aK S[j].r S[t].r<=0:=zB.1 hs j t hj h h1;exact mj.lt1 c2 c3
     . obtain rfl:t=j:=by omega
       exact c2
    have no_other:∀(l:List Fc)(ρ:Row)(t:Int),(∀f,f∈l->f.r≠ρ)->cnt l ρ t=0:=λ l ρ t h=>by
     unfold cnt;rw[List.countP_eq_zero];intro f hf hh;simp only[zf,zl]at hh;exact h f hf hh.1
    have ne_of:∀x y:Row,aK x y<0->x≠y:=λ x y h e=>by subst e;rw[vw]at h;omega
    have Z:∀t,cnt ((S.drop i).take (j - i)) S[i].r t=cnt S S[i].r t:=λ t=>by
     have e:cnt S S[i].r t=cnt (S.take i++((S.drop i).take (j - i)++S.drop j)) S[i].r t:=by rw[<-Q]
     rw [e,RJ,RJ,no_other (S.take i) _ t (fun f hf=>ne_of _ _ (q f hf)),no_other (S.drop j) _ t (fun f hf=>by
      obtain ⟨m,hm,rfl⟩:=zp.1 hf;rw [y3] at hm;rw [List.getElem_drop];exact fun e=>ne_of _ _ (J (j+m) (by omega) (by omega)) e.symm)]
     omega
    have V:oM ((S.drop i).take (j - i)):=⟨by omega,λ f hf=>hr f (List.mem_of_mem_drop (List.mem_of_mem_take hf))⟩
    obtain⟨D,d1,d2,d3⟩:=xJn _ V;obtain⟨St,s1,s2,s3⟩:=xFS ((S.drop i).take (j - i)) S[i].r (λ f hf=>by have:=V.2 f hf;unfold maxLen;omega) (by omega)
    have s2:aL (λ t=>((cnt S S[i].r t:Nat):Int)) 1099511627776 St:=by
     have e:(λ t=>((cnt ((S.drop i).take (j - i)) S[i].r t:Nat):Int))=λ t=>((cnt S S[i].r t:Nat):Int):=funext λ t=>by rw[Z]
     rwa [e]at s2
    have tS:List.take (j - i) (List.drop i (S.map encF))=((S.drop i).take (j - i)).map encF:=by rw[<-List.map_drop,<-List.map_take]
    have hD:D=[]\/D=[S[i].r]:=by
     match D,d2,d3 with
     |[],_,_=>exact .inl rfl
     |[x],_,h=>right;obtain⟨f,hf,e,_⟩:=(h x).1 (by simp);rw[<-e,run_row f hf]
     |x::y::t,h1,h=>
      obtain⟨f,hf,e,_⟩:=(h x).1 (by simp)
      obtain⟨g,hg,e',_⟩:=(h y).1 (by simp)
      have:aK x y<0:=(zM.1 h1).1 y (by simp)
      rw[<-e,<-e',run_row f hf,run_row g hg,vw]at this;omega
    have ag:=hG.len;obtain⟨m1,m2⟩:=xPn (n:=G.length) (by omega)
    have nx:LY S j (G++D.map λ ρ=>(ρ,St)):=by
     refine⟨?_,λ r=>?_,λ g hg=>?_,?_,λ a b ha hb ad ab=>?_⟩
     . rw[zx];refine List.pairwise_append.2 ⟨hG.st,?_,λ x hx y hy=>?_⟩
       . rcases hD with rfl|rfl
         . exact List.Pairwise.nil
         . exact List.pairwise_singleton _ _
       . obtain⟨f,hf,e,_⟩:=(hG.mem x).1 hx;rcases hD with rfl|rfl
         . simp at hy
         . simp at hy;subst hy;rw[<-e];exact q f hf
     . rw[zx,zG,hG.mem,Y];have e:r∈(D.map λ ρ=>(ρ,St)).map (·.1)↔r∈D:=by simp
       rw[e,d3];constructor
       . rintro(⟨f,hf,h⟩|⟨f,hf,h⟩)
         . exact⟨f,zG.2 (.inl hf),h⟩
         . exact⟨f,zG.2 (.inr hf),h⟩
       . rintro⟨f,hf,h⟩;rcases zG.1 hf with hf|hf
         . exact .inl ⟨f,hf,h⟩
         . exact .inr ⟨f,hf,h⟩
     . rcases zG.1 hg with hg|hg
       . exact hG.ps g hg
       . obtain⟨ρ,hρ,rfl⟩:=zK.1 hg;rcases hD with rfl|rfl
         . simp at hρ
         . simp at hρ;subst hρ;exact⟨s2,by rw[rl]at s3;dsimp only;omega⟩
     . rw[z8,za];rcases hD with rfl|rfl<;>simp<;>omega
     . rcases zJ a i with W|W
       . exact hG.bd a b ha hb W (by omega)
       . rw[a3 a ha W ad];exact J b hb ab
    obtain⟨G',e',ae⟩:=T7 S hS hr hs (c - 1) j _ (by omega) a2 nx
    refine⟨G',(eH ?_).trans e',ae⟩;have i1:(i:Int)<(S.length:Int):=by omega
    have i2:(j:Int)<=(S.length:Int):=by omega
    have i3:(i:Int)<=(j:Int):=by omega
    have ac:aB (Be (S.map encF) (i:Int) (j:Int) (D.map encR)) (G.length,(0:Int),G.map aM)=some ((G++D.map λ ρ=>(ρ,St)).length,(G++D.map λ ρ=>(ρ,St)).map aM):=by
     rcases hD with rfl|rfl
     . refine cQ ?_;have z:¬ (0:Int)<(([]:List AV).length:Int):=by simp
       simp only[Be,EB,zW,z,zm,bE,zD,aI]
     . have z0:(0:Int)<(1:Int):=by omega
       have g0:([S[i].r].map encR).getD 0 .top=encR S[i].r:=rfl;have w1:IntKind.i64.wrap ((0:Int)+1)=1:=rfl;refine(eH (s':=((G++[(S[i].r,St)]).length,(1:Int),(G++[(S[i].r,St)]).map aM)) ?_).trans (cQ ?_)
       . have l1:(([S[i].r]:List Row).length:Int)=1:=rfl;have z1:(0:Int)<=0:=by omega
         have z2:(0:Nat)<([S[i].r]:List Row).length:=by simp
         have z3:(0:Int).toNat=0:=rfl;simp only[Be,EB,bR,l1,z0,z1,z2,z3,g0,kV,lc,i2,i3,tS,s1,m1,m2,w1];simp[aM]
       . have l1:¬ (1:Int)<(([encR S[i].r]:List AV).length:Int):=by simp
         simp only[Be,EB,zV,zW,l1,zm,bE,aI]
    simp only[Bd,IC,Ig,uD,bR,i1,i2,i3,a5,tS,d1,ac]
def xFx(l:List Fc)(h:oM l)(hl:l.length<=262144):∃G:List fI,FA (l.map encF)=some (G.map aM)/\ry l (G.map (·.1))/\(∀g,g∈G->aL (λ t=>((cnt l g.1 t:Nat):Int)) 1099511627776 g.2/\g.2.length<=2*l.length+1)/\G.length<=l.length:=by obtain⟨S,e1,p1,s1⟩:=xDA 99 l (Nat.le_trans h.1 (Nat.le_trans (show 1048576<=2 ^ 20 by omega) (Nat.pow_le_pow_right Ω Ω))) h;have q:=p1.length_eq;obtain⟨G,e2,hG⟩:=T7 S Ω (λ f hf=>h.2 f (p1.mem_iff.1 hf)) s1 S.length 0 [] Ω Ω ⟨List.Pairwise.nil,λ r=>by simp,λ g hg=>by simp at hg,zd _,λ a b ha hb h1 h2=>by omega⟩;refine⟨G,?_,⟨hG.st,λ r=>?_⟩,λ g hg=>?_,by rw[<-q];exact hG.len⟩;have e1:qU 100 (l.map encF)=some (S.map encF):=e1;have e2:aB (Bd (S.map encF)) ((0:Nat),(0:Int),[])=_:=e2;have tt:List.take G.length (G.map aM)=G.map aM:=zi Ψ;unfold FA Qj;simp only[EF,Ql,e1,e2,zk,zh,aW,zH,za,zd,zn,zS,zr,tt,aI];rw[hG.mem,y6];constructor;rintro⟨f,hf,e⟩;exact⟨f,p1.mem_iff.1 hf,e⟩;rintro⟨f,hf,e⟩;exact⟨f,p1.mem_iff.2 hf,e⟩;(obtain⟨x1,x2⟩:=hG.ps g hg;have e:(λ t=>((cnt S g.1 t:Nat):Int))=λ t=>((cnt l g.1 t:Nat):Int):=funext λ t=>by rw[Vn p1]);rw[e]at x1;exact⟨x1,by omega⟩
def xFT(row:Row)(P:List aF)(hP:P.length<=1048576):Fz (row.map encV) (P.map aA)=some ((mk row P).map encF):=by have e:=xuj row P hP;rw[N8 (λ p:aF=>(⟨row,p⟩:Fc)) P]at e;have e:aB (xu (row.map encV) (P.map aA)) ((0:Nat),(0:Int),[])=some ((mk row P).length,(mk row P).map encF):=e;generalize mk row P=D at e;have tt:List.take D.length (D.map encF)=D.map encF:=zi Ψ;unfold Fz Qi;simp only[ES,e,zk,zh,aW,zH,za,zd,zn,zS,zr,tt,aI]
def sG0(g:fI):dw (Sh.list 3) ((aM g).cells.getD 0 .top):=rfl
def sG1(g:fI):dw (Sh.list 2) ((aM g).cells.getD 1 .top):=rfl
variable {m:Nat}
def xPk{n:Nat}(h:n<=1048576*1024)(hm:m<=1048576):(n+m)*40<=140737488355328/\n+m<=4611686018427387904:=Ω
def xJh(G:List fI)(hG:G.length<=1024)(L:Row->List aF)(hL:∀g,g∈G->tB (g.2.map aA)=some ((L g.1).map aA)/\(L g.1).length<=1048576):aB (Bp (G.map aM)) ((0:Nat),(0:Int),[])=some ((dB (G.map (·.1)) L).length,(dB (G.map (·.1)) L).map encF):=by
 rw[<-SY];refine vE G (λ g=>mk g.1 (L g.1)) encF 1048576 (λ g hg=>by unfold mk;rw[za];exact(hL g hg).2) (λ n h D hD=>?_) (λ D=>?_);have i1:(n:Int)<(G.length:Int):=Ω
 have gf:(G.map aM).getD n .top=aM G[n]:=cH _ _ _ h;obtain⟨e1,e2⟩:=hL _ (zo h);have ed:=xFT G[n].1 (L G[n].1) e2;have ml:(mk G[n].1 (L G[n].1)).length<=1048576:=by unfold mk;rw[za];exact e2
 have q:D.length<=1048576*1024:=Nat.le_trans hD (Nat.mul_le_mul_left _ Ω);obtain⟨m1,m2⟩:=xPk q ml;simp only[Bp,JQ,Jy,bR,h,i1,gf,L6,L7,sG0,sG1,e1,ed,m1,m2,dN (n:=n) Ω,z8,zx];simp only[Bp,JQ,za,zy,zm,bE,aI]
def xMi(l:List Fc)(r:Row)(t:Int):cnt l r t<=l.length:=List.countP_le_length
def xKk(l:List Fc)(r:Row)(t:Int)(h:t<0\/1099511627776<=t):cnt l r t=0:=by rw[<-CT];exact K8 _ t h
def xKP(l:List Fc)(h:oM l)(hl:l.length<=1024):∃B,Gd (l.map encF)=some (B.map encF)/\mN l B:=by
 obtain⟨G,e1,hR,hS,O⟩:=xFx l h Ω;have lv:∀g,g∈G->∃P,tB (g.2.map aA)=some (P.map aA)/\bD (cnt l g.1) P:=λ g hg=>by obtain⟨s1,s2⟩:=hS g hg;exact xF1 (N:=cnt l g.1) (H:=l.length) Ω (xMi l g.1) (xKk l g.1) s1 Ω
 obtain⟨L,hL⟩:=F6 (R:=G.map (·.1)) (Q:=λ r P=>(∀g,g∈G->g.1=r->tB (g.2.map aA)=some (P.map aA))/\bD (cnt l r) P) λ r hr=>by obtain⟨g,hg,rfl⟩:=zK.1 hr;obtain⟨P,p1,p2⟩:=lv g hg;refine⟨P,λ g' J e=>?_,p2⟩;obtain⟨P',q1,q2⟩:=lv g' J;rw[e]at q2;rw[q1,q2.unique p2]
 have hk:∀g,g∈G->g.1∈G.map (·.1):=λ g hg=>zK.2 ⟨g,hg,rfl⟩;have q:∀g,g∈G->(L g.1).length<=1048576:=λ g hg=>by have a:=(hL g.1 (hk g hg)).2;rw[<-Xl]at a;have b:=LC l g.1;exact Nat.le_trans a.len (Nat.mul_le_mul (Nat.le_trans b hl) (Nat.le_trans b hl))
 have e2:=xJh G Ω L λ g hg=>⟨(hL g.1 (hk g hg)).1 g hg rfl,q g hg⟩;refine⟨dB (G.map (·.1)) L,?_,G.map (·.1),L,hR,λ r hr=>(hL r hr).2,rfl⟩;generalize dB (G.map (·.1)) L=F at e2;have tt:List.take F.length (F.map encF)=F.map encF:=zi Ψ;unfold Gd RS;simp only[Fy,e1,e2,zk,zh,aW,zH,za,zd,zn,zS,zr,tt,aI]
def xJl{B:List Fc}(h:B.length<=1048576)(hr:∀f,f∈B->f.r.length<=60):qQ (B.map encF) (B.map encF)=some true:=by have:=T0 B B h (λ f hf=>by have:=hr f hf;unfold maxLen;omega);rwa [decide_eq_true rfl]at this
def aL.at{N:Int->Int}{T:Int}{S:List aF}(h:aL N T S){i:Nat}(hi:i<S.length):∀(d:Nat)(t:Int),t=S[i].1+d->t<T->(∀j(hj:j<S.length),i<j->t<S[j].1)->N t=S[i].2
 |0,t,ht,hT,_=>by
  have:=(h.mem S[i]).1 (zo hi);rw[ht,this.2.2.1];simp
 |d+1,t,ht,hT,hn=>by
  have ih:=h.at hi d (t - 1) (by omega) (by omega) (λ j hj q=>by have:=hn j hj q;omega)
  by_cases hc:N (t - 1)=N t
  . rw[<-hc,ih]
  . exfalso;have h0:=((h.mem S[i]).1 (zo hi)).1;have hm:(t,N t)∈S:=(h.mem (t,N t)).2 ⟨by simp only;omega,hT,rfl,.inr hc⟩
    obtain⟨j,hj,J⟩:=List.getElem_of_mem hm;have e1:S[j].1=t:=by rw[J]
    have q:i<j:=by
     rcases zJ i j with h'|h'
     . exact h'
     . exfalso;rcases zJ j i with h2|h2
       . have:=zB.1 h.asc j i hj hi h2;omega
       . have:i=j:=by omega
         subst this;omega
    have:=hn j hj q;omega
variable {N:Int->Int}
def aL.first(h:aL N 1099511627776 S):∃hp:0<S.length,S[0].1=0:=by have hm:((0:Int),N 0)∈S:=(h.mem (0,N 0)).2 ⟨by simp,by simp,rfl,.inl rfl⟩;(obtain⟨j,hj,q⟩:=List.getElem_of_mem hm;have e1:S[j].1=0:=by rw[q]);refine⟨by omega,?_⟩;have h0:=((h.mem S[0]).1 (zo Ω)).1;rcases Nat.eq_zero_or_pos j with rfl|hp;exact e1;have:=zB.1 h.asc 0 j Ω hj hp;omega
def Di(y:Int):rZ y=false:=by unfold rZ;simp
def Da(x y:Int):decide (pI x y<0)=decide (x<y)/\(pI x y==0)=decide (x=y):=by
 unfold pI;rw[Di,Di];simp only[bE,aI];by_cases h1:x<y;have h2:¬ x=y:=Ω
 simp[h1,h2,aW,aI];by_cases h3:x>y;have h2:¬ x=y:=Ω
 have h3':y<x:=h3;simp[h1,h2,h3',aW,bE,aI];have h2:x=y:=Ω
 subst h2;simp[aW,bE,aI]
def gS{k:Nat}(h:k<S.length):(S.map aA).getD k .top=aA S[k]:=cH _ _ _ h
def xIo(S:List aF)(x:Int)(hn:S.length<=1048576)(h:S.Pairwise λ a b=>a.1<b.1):∃a:Nat,aB (rD (S.map aA) x ((S.length:Nat):Int)) ((0:Int),((S.length:Nat):Int))=some ((a:Nat):Int)/\a<=S.length/\(∀k(hk:k<S.length),k<a->S[k].1<x)/\∀k(hk:k<S.length),a<=k->x<=S[k].1:=by
 have O:=zB.1 h;obtain⟨r,h1,a,rfl,h2,h3,h4⟩:=K4 (step:=rD (S.map aA) x ((S.length:Nat):Int)) (λ s=>∃a b:Nat,s=((a:Int),(b:Int))/\a<=b/\b<=S.length/\(∀k(hk:k<S.length),k<a->S[k].1<x)/\∀k(hk:k<S.length),b<=k->x<=S[k].1) (λ s=>(s.2 - s.1).toNat)
  (fun r=>∃ a:Nat,r=(a:Int)/\a<=S.length/\(∀ k (hk:k<S.length),k<a->S[k].1<x)/\∀ k (hk:k<S.length),a<=k->x<=S[k].1) (fun s hs=>by
   obtain⟨a,b,rfl,aa,hb,V,Q⟩:=hs;by_cases Z:a<b
   . left;have e:=N7 (i:=a) (j:=b) Ω
     have hm:(a+b) / 2<S.length:=Ω
     have g1:(a:Int)<(b:Int):=Ω
     have g2:(((a+b) / 2:Nat):Int)<(S.length:Int):=Ω
     have w:IntKind.i64.wrap ((((a+b) / 2:Nat):Int)+1)=(((a+b) / 2+1:Nat):Int):=dN Ω
     have J:=(Da S[(a+b) / 2].1 x).1;cases hc:decide (S[(a+b) / 2].1<x)with
     | true=>
      rw[hc]at J;refine⟨((((a+b) / 2+1:Nat):Int),(b:Int)),?_,⟨(a+b) / 2+1,b,rfl,by omega,hb,λ k hk Y=>?_,Q⟩,by dsimp only;omega⟩
      . simp only[rD,Ab,Ap,uq,yr,e,bR,g1,g2,hm,gS hm,iq,ir,lP,sP,iB,iC,J,w]
      . have hc':=of_decide_eq_true hc;rcases zJ k ((a+b) / 2)with q|q
        . have:=O k _ hk hm q;omega
        . have:k=(a+b) / 2:=Ω
          subst this;exact hc'
     | false=>
      rw[hc]at J;refine⟨((a:Int),(((a+b) / 2:Nat):Int)),?_,⟨a,(a+b) / 2,rfl,by omega,by omega,V,λ k hk W=>?_⟩,by dsimp only;omega⟩
      . simp only[rD,Ab,Ap,uq,yr,e,bR,g1,g2,hm,gS hm,iq,ir,lP,sP,iB,iC,J,w]
      . have hc':=of_decide_eq_false hc;rcases zJ ((a+b) / 2) k with q|q
        . have:=O _ k hm hk q;omega
        . have:k=(a+b) / 2:=Ω
          subst this;omega
   . right;obtain rfl:a=b:=Ω
     refine ⟨(a:Int),?_,a,rfl,hb,V,Q⟩;simp only [rD,Ab,zy,zm,bE,aI]) ((0:Int),((S.length:Nat):Int)) ⟨0,S.length,rfl,by omega,by omega,fun k hk Y=>by omega,fun k hk W=>by omega⟩
 exact⟨a,h1,h2,h3,h4⟩
def GC(h:aL N 1099511627776 S)(hl:S.length<=1048576)(h0:0<=t)(h1:t<1099511627776):kR (S.map aA) t=some (N t):=by
 obtain⟨a,e1,ha,V,Y⟩:=xIo S t hl h.asc;obtain⟨hp,W⟩:=h.first;have Q:=zB.1 h.asc;have key:∃i:Nat,∃hi:i<S.length,rf (S.map aA) t=some (i:Int)/\S[i].1<=t/\∀j(hj:j<S.length),i<j->t<S[j].1:=by unfold rf Kj;unfold At Hz;simp only[Aa,sS,za,e1,zk,zh,aW,zN,aI];rcases zJ a S.length with q|ac;(have g1:(a:Int)<(S.length:Int):=Ω);have J:=(Da S[a].1 t).2;by_cases he:S[a].1=t;rw[decide_eq_true he]at J;refine⟨a,q,?_,by omega,λ j hj O=>by have:=Q a j q hj O;omega⟩;simp only[g1,q,gS q,bR,iq,ir,lP,sP,iB,iC,yr,J];(rw[decide_eq_false he]at J;have aa:=Y a q (zd a);have ab:0<a:=by rcases Nat.eq_zero_or_pos a with rfl|h';omega;exact h');obtain⟨m,rfl⟩:∃m,a=m+1:=⟨a - 1,by omega⟩;refine⟨m,by omega,?_,by have:=V m Ω Ω;omega,λ j hj O=>?_⟩;(have w:IntKind.i64.wrap (((m+1:Nat):Int) - 1)=(m:Int):=by rw[gx Ω Ω];omega);simp only[g1,q,gS q,bR,iq,ir,lP,sP,iB,iC,yr,J,w];rcases zJ (m+1) j with h'|h';have:=Q (m+1) j q hj h';omega;(have:j=m+1:=Ω);subst this;omega;(have g1:¬ (a:Int)<(S.length:Int):=Ω);obtain⟨m,rfl⟩:∃m,a=m+1:=⟨a - 1,by omega⟩;refine⟨m,by omega,?_,by have:=V m Ω Ω;omega,λ j hj O=>by omega⟩;(have w:IntKind.i64.wrap (((m+1:Nat):Int) - 1)=(m:Int):=by rw[gx Ω Ω];omega);simp only[g1,zm,bE,zk,zh,aW,w,aI]
 obtain⟨i,hi,e2,ad,Z⟩:=key;have hv:N t=S[i].2:=h.at hi (t - S[i].1).toNat t Ω h1 Z;have g0:¬ t<0:=Ω
 have g1:¬ t>=1099511627776:=Ω
 have g2:¬ ((i:Nat):Int)<0:=Ω
 have g3:(i:Int)<(S.length:Int):=Ω
 unfold kR Ky;simp only[g0,g1,g2,g3,e2,gS hi,hi,bR,iq,ir,lP,sP,iB,iC,hv]
def nN(D:List Int)(n:Int):List Int:=match D.getLast? with|some d=>if d=n then D else D++[n]|none=>D++[n]
theorem SL(n:Int):nN [] n=[n]:=rfl
theorem RH(D:List Int)(d n:Int):nN (D++[d]) n=if d=n then D++[d]else D++[d]++[n]:=by simp[nN]
theorem TU(D:List Int)(n:Int):(nN D n).length<=D.length+1:=by unfold nN;split;split<;>simp;simp
variable {D:List Int}
theorem KS{n x:Int}:x∈nN D n↔x∈D\/x=n:=by rcases List.eq_nil_or_concat D with rfl|⟨D',d,rfl⟩;simp[SL];rw[List.concat_eq_append,RH];split;rename_i h;subst h;simp;simp[or_assoc]
theorem TT{n:Int}(h:pj D)(hn:∀x,x∈D->x<=n):pj (nN D n):=by rcases List.eq_nil_or_concat D with rfl|⟨D',d,rfl⟩;simp[SL];rw[List.concat_eq_append]at h hn|-;rw[RH];split;exact h;rename_i hne;refine List.pairwise_append.2 ⟨h,by simp,λ x hx y hy=>?_⟩;simp only[zv]at hy;subst hy;have hd:=hn d Ψ;rcases zG.1 hx with hx|hx;have:=(List.pairwise_append.1 h).2.2 x hx d Ψ;omega;simp only[zv]at hx;subst hx;omega
theorem gD{d:Int}:((D++[d]).map encN).getD D.length .top=encN d:=by simp[z7]
theorem V5{T:Type}{δ:T}(κ:Nat->List AV->T)(D:List Int)(hD:D.length<=1099511627776)(n:Int):br ((↑D.length:Int)==(0:Int)) (br (D.length==(D.map encN).length&&(decide ((D.length+(1:Nat))*(8:Nat)<=(140737488355328:Nat))&&decide (D.length+(1:Nat)<=(4611686018427387904:Nat)))) (κ (D.length+1) (D.map encN++[AV.int IntKind.i64 n])) δ) (br (decide ((0:Int)<=IntKind.i64.wrap ((↑D.length:Int) - (1:Int)))&&decide (IntKind.i64.wrap ((↑D.length:Int) - (1:Int))<(↑D.length:Int))) (br (decide ((0:Nat)+(IntKind.i64.wrap ((↑D.length:Int) - (1:Int))).toNat<(D.map encN).length)&&dw (Sh.int IntKind.i64) (((D.map encN).getD ((0:Nat)+(IntKind.i64.wrap ((↑D.length:Int) - (1:Int))).toNat) AV.top).cells.getD (0:Nat) AV.top)) (br ((((D.map encN).getD ((0:Nat)+(IntKind.i64.wrap ((↑D.length:Int) - (1:Int))).toNat) AV.top).cells.getD (0:Nat) AV.top).toInt !=n) (br (D.length==(D.map encN).length&&(decide ((D.length+(1:Nat))*(8:Nat)<=(140737488355328:Nat))&&decide (D.length+(1:Nat)<=(4611686018427387904:Nat)))) (κ (D.length+1) (D.map encN++[AV.int IntKind.i64 n])) δ) (κ D.length (D.map encN))) δ) δ)=κ (nN D n).length ((nN D n).map encN):=by
 have c1:(D.length==(D.map encN).length&&(decide ((D.length+(1:Nat))*(8:Nat)<=(140737488355328:Nat))&&decide (D.length+(1:Nat)<=(4611686018427387904:Nat)))):=by simp only[za,beq_self_eq_true,Bool.true_and,zf,zl];omega
 rw[c1];rcases List.eq_nil_or_concat D with rfl|⟨D',d,rfl⟩;simp[aW,SL,encN,aI];rw[List.concat_eq_append]at hD|-;have hl:(D'++[d]).length=D'.length+1:=by simp
 have w:IntKind.i64.wrap (((D'.length+1:Nat):Int) - 1)=(D'.length:Int):=by rw[gx Ω Ω];omega
 have h0:(((D'.length+1:Nat):Int)==0)=false:=by simp;omega
 have g1:(D'.length:Int)<((D'.length+1:Nat):Int):=Ω
 have hs:dw (Sh.int IntKind.i64) ((encN d).cells.getD 0 .top):=rfl;have hi:((encN d).cells.getD 0 .top).toInt=d:=rfl;rw[RH,hl,h0,w];simp only[zN,zH,gD,hs,hi,g1,za,hl,Int.natCast_nonneg,zn,zS,Bool.true_and,bE,aW,Nat.lt_succ_self,aI];by_cases hd:d=n;subst hd;simp[bE,aI];have:(d !=n):=by simpa using hd
 rw[this,if_neg hd];simp[aW,encN,aI]
section
variable{S T:List aF}{i k:Nat}
theorem mv7(h:i<S.length):IK (S.map aA) (i:Int):=by(unfold IK;have:(i:Int)<(S.length:Int):=Ω);simp[this,aW,aI]
theorem mv6(h:i<S.length):IJ (S.map aA) (i:Int):=by(unfold IJ;have:(i:Int)<(S.length:Int):=Ω);simp[this,aW,aI]
theorem mv3(h:i<S.length):II (S.map aA) (i:Int):=by unfold II;simp only[gS h,h,bR,iq,ir,lP,sP,iB,iC]
theorem mv2(h:i<S.length):IH (S.map aA) (i:Int):=by unfold IH;simp only[gS h,h,bR,iq,ir,lP,sP,iB,iC]
theorem sE(h:i<S.length):Ej (S.map aA) (i:Int)=S[i].1:=by unfold Ej F0;simp only[gS h,bR,iq,ir,lP,sP,iB,iC]
theorem sD(h:i<S.length):Ei (S.map aA) (i:Int)=S[i].1:=by unfold Ei F0;simp only[gS h,bR,iq,ir,lP,sP,iB,iC]
theorem xM1(hi:i<S.length)(hS:S.length<=1048576)(D:List Int)(hD:D.length<=1099511627776)(hk:k<=T.length)(h:∀hk:k<T.length,S[i].1<=T[k].1):s6 (S.map aA) (T.map aA) (D.length,(i:Int),(k:Int),D.map encN)=some (.inl ((nN D S[i].1).length,((i+1:Nat):Int),(k:Int),(nN D S[i].1).map encN)):=by
 have hw:IntKind.i64.wrap ((i:Int)+1)=((i+1:Nat):Int):=dN Ω;have hb:=V5 (T:=Option ((Nat×Int×Int×List AV)⊕(Nat×List AV))) (δ:=none) (λ m out=>some (.inl (m,((i+1:Nat):Int),(k:Int),out))) D hD S[i].1;have c1:decide ((i:Int)<((S.map aA).length:Int)):=by simp;omega
 unfold s6 Eu Ed Ee Ef Eg Eh;dsimp only;rw[c1];simp only[aW,aI];rcases zJ k T.length with q|J;have c2:((k:Int)==((T.map aA).length:Int))=false:=by simp;omega
 have c8:EE (S.map aA) (T.map aA) (i:Int) (k:Int):=by unfold EE;rw[sE hi,sD q];exact decide_eq_true (h q)
 rw[c2];simp only[aW,bE,aI];rw[mv7 hi,mv3 hi,mv6 q,mv2 q,c8];simp only[aW,aI];unfold PD;rw[sE hi,hw];exact hb;have c2:((k:Int)==((T.map aA).length:Int)):=by simp;omega
 rw[c2];simp only[aW,aI];rw[mv7 hi,mv3 hi];simp only[aW,aI];unfold PD;rw[sE hi,hw];exact hb
theorem xM2(hk:k<T.length)(hT:T.length<=1048576)(D:List Int)(hD:D.length<=1099511627776)(hi:i<=S.length)(h:∀hi:i<S.length,T[k].1<S[i].1):s6 (S.map aA) (T.map aA) (D.length,(i:Int),(k:Int),D.map encN)=some (.inl ((nN D T[k].1).length,(i:Int),((k+1:Nat):Int),(nN D T[k].1).map encN)):=by
 have hw:IntKind.i64.wrap ((k:Int)+1)=((k+1:Nat):Int):=dN Ω;have hb:=V5 (T:=Option ((Nat×Int×Int×List AV)⊕(Nat×List AV))) (δ:=none) (λ m out=>some (.inl (m,(i:Int),((k+1:Nat):Int),out))) D hD T[k].1;have c2:((k:Int)==((T.map aA).length:Int))=false:=by simp;omega
 have c3:decide ((k:Int)<((T.map aA).length:Int)):=by simp;omega
 unfold s6 Eu Ed Ee Ef Eg Eh;dsimp only;rcases zJ i S.length with q|J;have c1:decide ((i:Int)<((S.map aA).length:Int)):=by simp;omega
 have c8:EE (S.map aA) (T.map aA) (i:Int) (k:Int)=false:=by unfold EE;rw[sE q,sD hk];exact decide_eq_false (by have:=h q;omega)
 rw[c1,c2];simp only[aW,bE,aI];rw[mv7 q,mv3 q,mv6 hk,mv2 hk,c8];simp only[aW,bE,aI];unfold PF;rw[sD hk,hw];exact hb;have c1:decide ((i:Int)<((S.map aA).length:Int))=false:=by simp;omega
 rw[c1];simp only[bE,aI];rw[c3];simp only[aW,aI];try rw[c2]
 try simp only[aW,bE,aI]
 try rw[c1]
 try simp only[aW,bE,aI]
 rw[mv6 hk,mv2 hk];simp only[aW,aI];unfold PF;rw[sD hk,hw];exact hb
theorem xJu(D:List Int):s6 (S.map aA) (T.map aA) (D.length,(S.length:Int),(T.length:Int),D.map encN)=some (.inr (D.length,D.map encN)):=by(have c1:decide ((S.length:Int)<((S.map aA).length:Int))=false:=by simp);(have c3:decide ((T.length:Int)<((T.map aA).length:Int))=false:=by simp);unfold s6 Eu Ed Ee Ef Eg Eh;dsimp only;rw[c1];simp only[bE,aI];rw[c3];simp only[bE,aI]
end
theorem xIY(S T:List aF)(hS:S.length<=1048576)(hT:T.length<=1048576)(aS:S.Pairwise λ a b=>a.1<b.1)(aT:T.Pairwise λ a b=>a.1<b.1):∃D:List Int,nU (S.map aA) (T.map aA)=some (D.map encN)/\pj D/\(∀x,x∈D↔(∃s,s∈S/\s.1=x)\/∃s,s∈T/\s.1=x)/\D.length<=S.length+T.length:=by
 have pS:=zB.1 aS;have pT:=zB.1 aT;obtain⟨r,h1,D,rfl,h2,h3,h4⟩:=K4 (step:=s6 (S.map aA) (T.map aA)) (λ s=>∃(i k:Nat)(D:List Int),s=(D.length,(i:Int),(k:Int),D.map encN)/\i<=S.length/\k<=T.length/\pj D/\(∀x,x∈D↔(∃j,∃hj:j<S.length,j<i/\S[j].1=x)\/∃j,∃hj:j<T.length,j<k/\T[j].1=x)/\(∀x,x∈D->(∀h:i<S.length,x<=S[i].1)/\∀h:k<T.length,x<=T[k].1)/\D.length<=i+k) (λ s=>((S.length:Int) - s.2.1+((T.length:Int) - s.2.2.1)).toNat)
  (fun r=>∃ D:List Int,r=(D.length,D.map encN)/\pj D/\(∀ x,x∈D↔(∃ s,s∈S/\s.1=x)\/∃ s,s∈T/\s.1=x)/\D.length<=S.length+T.length) (fun s hs=>by
   obtain⟨i,k,D,rfl,hi,hk,hA,hm,Q,hl⟩:=hs;by_cases V:∃h:i<S.length,∀hk:k<T.length,S[i].1<=T[k].1
   . obtain⟨O,q⟩:=V;left;refine⟨_,xM1 O hS D Ω hk q,⟨i+1,k,nN D S[i].1,rfl,O,hk,TT hA λ x hx=>(Q x hx).1 O,λ x=>?_,λ x hx=>?_,by have:=TU D S[i].1;omega⟩,by dsimp only;omega⟩
     . rw[KS,hm];constructor
       . rintro((⟨j,hj,W,e⟩|h)|rfl)
         . exact .inl ⟨j,hj,by omega,e⟩
         . exact .inr h
         . exact .inl ⟨i,O,by omega,rfl⟩
       . rintro(⟨j,hj,W,e⟩|h)
         . rcases zJ j i with h'|h'
           . exact .inl (.inl ⟨j,hj,h',e⟩)
           . have:j=i:=Ω
             subst this;exact .inr e.symm
         . exact .inl (.inr h)
     . have Y:x<=S[i].1:=by
        rcases KS.1 hx with h|rfl
        . exact(Q x h).1 O
        . omega
       exact⟨λ h=>by have:=pS i (i+1) O h Ω;omega,λ h=>by have:=q h;omega⟩
   . by_cases J:k<T.length
     . left;have q:∀hi:i<S.length,T[k].1<S[i].1:=λ h=>by
        rcases Int.lt_or_le T[k].1 S[i].1 with h'|h'
        . exact h'
        . exact absurd ⟨h,λ _=>h'⟩ V
       refine⟨_,xM2 J hT D Ω hi q,⟨i,k+1,nN D T[k].1,rfl,hi,J,TT hA λ x hx=>(Q x hx).2 J,λ x=>?_,λ x hx=>?_,by have:=TU D T[k].1;omega⟩,by dsimp only;omega⟩
       . rw[KS,hm];constructor
         . rintro((h|⟨j,hj,W,e⟩)|rfl)
           . exact .inl h
           . exact .inr ⟨j,hj,by omega,e⟩
           . exact .inr ⟨k,J,by omega,rfl⟩
         . rintro(h|⟨j,hj,W,e⟩)
           . exact .inl (.inl h)
           . rcases zJ j k with h'|h'
             . exact .inl (.inr ⟨j,hj,h',e⟩)
             . have:j=k:=Ω
               subst this;exact .inr e.symm
       . have Y:x<=T[k].1:=by
          rcases KS.1 hx with h|rfl
          . exact(Q x h).2 J
          . omega
         exact⟨λ h=>by have:=q h;omega,λ h=>by have:=pT k (k+1) J h Ω;omega⟩
     . right;have aa:i=S.length:=by
        rcases zJ i S.length with h'|h'
        . exact absurd ⟨h',λ h=>absurd h J⟩ V
        . omega
       have Z:k=T.length:=Ω
       subst aa Z;refine⟨_,xJu D,D,rfl,hA,λ x=>?_,hl⟩
       rw[hm];constructor
       . rintro(⟨j,hj,_,e⟩|⟨j,hj,_,e⟩)
         . exact .inl ⟨S[j],zo hj,e⟩
         . exact .inr ⟨T[j],zo hj,e⟩
       . rintro(⟨s,hs,e⟩|⟨s,hs,e⟩)
         . obtain⟨j,hj,rfl⟩:=List.getElem_of_mem hs;exact .inl ⟨j,hj,hj,e⟩
         . obtain ⟨j,hj,rfl⟩:=List.getElem_of_mem hs;exact .inr ⟨j,hj,hj,e⟩) ((0:Nat),(0:Int),(0:Int),[]) ⟨0,0,[],rfl,zQ _,zQ _,List.Pairwise.nil,fun x=>by simp,fun x hx=>by simp at hx,zd _⟩
 refine⟨D,?_,h2,h3,h4⟩;unfold nU QC B4;rw[h1];simp[aW,zi,aI]
def mO(N:Int->Int)(S:List aF):Prop:=aL N 1099511627776 S\/(S=[]/\∀t,N t=0)
def mO.asc(h:mO N S):S.Pairwise λ a b=>a.1<b.1:=by rcases h with h|⟨rfl,_⟩;exact h.asc;exact List.Pairwise.nil
def xLQ(t:Int)(h0:0<=t)(h1:t<1099511627776):kR [] t=some 0:=by
 have e1:aB (rD [] t (([]:List AV).length:Int)) ((0:Int),(([]:List AV).length:Int))=some 0:=cQ (by
  simp [rD,Ab,bE,aI])
 have e2:rf [] t=some (-1):=by unfold rf Kj At Hz;simp only[Aa,sS,e1,aI];simp[aW,bE,aI];rw[gx Ω Ω]
 have g0:¬ t<0:=Ω
 have g1:¬ t>=1099511627776:=Ω
 unfold kR Ky;simp[g0,g1,e2,aW,bE,aI]
def mO.at(h:mO N S)(hl:S.length<=1048576)(h0:0<=t)(h1:t<1099511627776):kR (S.map aA) t=some (N t):=by rcases h with h|⟨rfl,hz⟩;exact GC h hl h0 h1;rw[hz];exact xLQ t h0 h1
def mO.chg(h:mO N S)(h0:0<t)(h1:t<1099511627776)(hc:N (t - 1)≠N t):∃s,s∈S/\s.1=t:=by rcases h with h|⟨rfl,hz⟩;exact⟨(t,N t),(h.mem (t,N t)).2 ⟨by simp only;omega,h1,rfl,.inr hc⟩,rfl⟩;rw[hz,hz]at hc;exact absurd rfl hc
def mO.rng(h:mO N S){s:aF}(hs:s∈S):0<=s.1/\s.1<1099511627776:=by rcases h with h|⟨rfl,_⟩;have:=(h.mem s).1 hs;exact⟨this.1,this.2.1⟩;simp at hs
variable {F:Int->Int}
def Vr:∀(D:List Int),pj D->∀(T:Int)(S:List aF),aL F T S->(0<T->∀x,x∈D->T<=x)->0<=T->(T=0->(∃x,D.head?=some x/\x=0)\/D=[])->(∀x,x∈D->x<1099511627776)->(∀t,T<=t->0<t->t<1099511627776->F (t - 1)≠F t->t∈D)->(D=[]->0<T)->T<=1099511627776->
  aL F 1099511627776 (D.foldl (λ S x=>cI S x (F x)) S)
 |[],_,T,S,hS,_,_,_,_,hch,hne,hT=>by
  have q:=hne rfl;simp only[List.foldl_nil];rcases Int.lt_or_le T 1099511627776 with Q|ab
  . have hc:∀d:Nat,T+d<=1099511627776 - 1->F (T+d)=F (T - 1):=by
     intro d;induction d with
     |zero=>
      intro h;have h2:¬ F (T - 1)≠F T:=λ hx=>by have:=hch T (Int.le_refl T) q Q hx;simp at this
      simp only[ne_eq,Decidable.not_not]at h2;simp[h2]
     |succ d ih=>
      intro h;have ih:=ih (by omega)
      have h2:¬ F (T+(d+1:Nat) - 1)≠F (T+(d+1:Nat)):=λ hx=>by have:=hch (T+(d+1:Nat)) (by omega) (by omega) (by omega) hx;simp at this
      simp only[ne_eq,Decidable.not_not]at h2;rw[<-h2,show T+((d+1:Nat):Int) - 1=T+d by omega,ih]
    have hF:∀t,T - 1<=t->t<1099511627776->F t=F (T - 1):=λ t h1 h2=>by
     rcases Int.lt_or_le t T with h3|h3
     . rw[show t=T - 1 by omega]
     . have:=hc (t - T).toNat (by omega)
       rw[show T+((t - T).toNat:Int)=t by omega]at this
       exact this
    refine⟨hS.asc,λ s=>?_,λ _=>?_⟩
    . rw[hS.mem];constructor
      . rintro⟨a,b,c,d⟩;exact⟨a,by omega,c,d⟩
      . rintro⟨a,b,c,d⟩;refine⟨a,?_,c,d⟩;rcases Int.lt_or_le s.1 T with h3|h3
        . exact h3
        . exfalso;rcases d with d|d
          . omega
          . have e1:=hF s.1 (by omega) b
            have e2:=hF (s.1 - 1) (by omega) (by omega)
            rw[c,e1]at d;exact d e2
    . obtain⟨S',f,hf⟩:=hS.last q;refine⟨S',f,?_⟩;rw[hF (1099511627776 - 1) (by omega) (by omega)]
      exact hf
  . have:T=1099511627776:=by omega
    rw[this]at hS;exact hS
 |x::D,hA,T,S,hS,hle,h0,hz,hx,hch,hne,hT=>by
  rw[List.foldl_cons];have Z:0<=x:=by
   rcases Int.lt_or_le 0 T with h|h
   . have:=hle h x (by simp);omega
   . have q:T=0:=by omega
     rcases hz q with⟨y,hy,rfl⟩|h'
     . simp at hy;omega
     . cases h'
  have ac:T<=x:=by
   rcases Int.lt_or_le 0 T with h|h
   . exact hle h x (by simp)
   . omega
  have Q:=hx x (by simp)
  have J:∀t,T<=t->0<t->t<x->F (t - 1)=F t:=λ t h1 h2 h3=>by
   have h4:¬ F (t - 1)≠F t:=λ hc=>by
    have hm:=hch t h1 h2 (by omega) hc
    rcases zC.1 hm with rfl|hm
    . omega
    . have:=(zM.1 hA).1 t hm;omega
   simpa using h4
  have Y:aL F x S\/(x=0/\T=0):=by
   rcases Int.lt_or_le 0 T with V|aa
   . left;have hF:∀d:Nat,T+d<=x->F (T+d - 1)=F (T - 1):=by
      intro d;induction d with
      |zero=>intro _;simp
      |succ d ih=>
       intro h;have ih:=ih (by omega)
       have:=J (T+d) (by omega) (by omega) (by omega)
       rw[show T+((d+1:Nat):Int) - 1=T+d by omega,<-this,ih]
     have O:∀t,T - 1<=t->t<x->F t=F (T - 1):=λ t h1 h2=>by
      have:=hF (t+1 - T).toNat (by omega)
      rw[show T+((t+1 - T).toNat:Int) - 1=t by omega]at this
      exact this
     refine⟨hS.asc,λ s=>?_,λ _=>?_⟩
     . rw[hS.mem];constructor
       . rintro⟨a,b,c,d⟩;exact⟨a,by omega,c,d⟩
       . rintro⟨a,b,c,d⟩;refine⟨a,?_,c,d⟩;rcases Int.lt_or_le s.1 T with h3|h3
         . exact h3
         . exfalso;rcases d with d|d
           . omega
           . have e1:=O s.1 (by omega) b
             have e2:=O (s.1 - 1) (by omega) (by omega)
             rw[c,e1]at d;exact d e2
     . obtain⟨S',f,hf⟩:=hS.last V;refine⟨S',f,?_⟩;rw[O (x - 1) (by omega) (by omega)]
       exact hf
   . have q:T=0:=by omega
     rcases hz q with⟨y,hy,rfl⟩|h'
     . simp at hy;exact .inr ⟨by omega,q⟩
     . cases h'
  have W:aL F (x+1) (cI S x (F x)):=by
   rcases Y with h|⟨h,q⟩
   . exact h.put Z (by omega) λ t h1 h2=>by rw[show t=x by omega]
   . subst h;rw[q]at hS;exact hS.put (Int.le_refl 0) (by omega) λ t h1 h2=>by rw[show t=0 by omega]
  exact Vr D (zM.1 hA).2 (x+1) _ W (fun _ y hy=>by have:=(zM.1 hA).1 y hy;omega) (by omega) (fun h=>by omega) (fun y hy=>hx y (by simp [hy])) (fun t h1 h2 h3 hc=>by
   have hm:=hch t (by omega) h2 h3 hc
   rcases zC.1 hm with rfl|hm
   . omega
   . exact hm) (fun _=>by omega) (by omega)
def Fu{F:Int->Int}:∀(D:List Int)(S:List aF),(D.foldl (λ S x=>cI S x (F x)) S).length<=S.length+D.length|[],S=>by simp|x::D,S=>by rw[List.foldl_cons];have h1:=Fu (F:=F) D (cI S x (F x));have h2:=yG S x (F x);rw[zF];omega
variable {M:Int->Int}{T:List aF}
def KP(hS:aL N 1099511627776 S)(hT:mO M T)(lS:S.length<=1048576)(lT:T.length<=1048576)(hF:∀t,F (t - 1)≠F t->N (t - 1)≠N t\/M (t - 1)≠M t):∃D:List Int,nU (S.map aA) (T.map aA)=some (D.map encN)/\D.length<=S.length+T.length/\(∀x,x∈D->0<=x/\x<1099511627776)/\aL F 1099511627776 (D.foldl (λ S x=>cI S x (F x)) []):=by(obtain⟨D,h1,h2,h3,h4⟩:=xIY S T lS lT hS.asc hT.asc;have hr:∀x,x∈D->0<=x/\x<1099511627776:=λ x hx=>by rcases(h3 x).1 hx with⟨s,hs,rfl⟩|⟨s,hs,rfl⟩;have:=(hS.mem s).1 hs;exact⟨this.1,this.2.1⟩;exact hT.rng hs);obtain⟨hp,hf⟩:=hS.first;have h0:(0:Int)∈D:=(h3 0).2 (.inl ⟨S[0],zo hp,hf⟩);refine⟨D,h1,h4,hr,Vr D h2 0 [] (.nil F) (λ h=>by omega) (Int.le_refl 0) (λ _=>.inl ?_) (λ x hx=>(hr x hx).2) (λ t ht J q hc=>?_) (λ h=>by rw[h]at h0;simp at h0) Ω⟩;(cases D with|nil=>simp at h0|cons x D=>refine⟨x,rfl,?_⟩;rcases zC.1 h0 with h|h;exact h.symm;have:=(zM.1 h2).1 0 h;have:=(hr x Ψ).1;omega);rcases hF t hc with h|h;exact(h3 t).2 (.inl ⟨(t,N t),(hS.mem (t,N t)).2 ⟨by simp only;omega,q,rfl,.inr h⟩,rfl⟩);obtain⟨s,hs,e⟩:=hT.chg J q h;exact(h3 t).2 (.inr ⟨s,hs,e⟩)
def VS(hS:aL N 1099511627776 S)(hT:mO M T)(lS:S.length<=1048576)(lT:T.length<=1048576)(hF:∀t,FW (N t) (M t)=F t)(D:List Int)(hD:∀x,x∈D->0<=x/\x<1099511627776)(hl:D.length<=2097152):∀(d k:Nat)(out:List aF),k+d=D.length->out.length<=k->aB (Av (S.map aA) (T.map aA) (D.map encN) ((D.length:Nat):Int)) (out.length,(k:Int),out.map aA)=some (((D.drop k).foldl (λ S x=>cI S x (F x)) out).length,((D.drop k).foldl (λ S x=>cI S x (F x)) out).map aA)|0,k,out,hk,ho=>by(have:k=D.length:=Ω);subst this;refine cQ ?_;simp[Av,HT,bE,aI]|d+1,k,out,hk,ho=>by(have q:k<D.length:=Ω);obtain⟨h0,h1⟩:=hD D[k] (zo q);have a1:=GC hS lS h0 h1;have a2:=hT.at lT h0 h1;obtain⟨p,p1,p2,p3⟩:=CO out D[k] (F D[k]) Ω;(have p1:kI out.length D[k] (F D[k]) (out.map aA)=some p:=p1;have gf:(D.map encN).getD k .top=encN D[k]:=cH _ _ _ q;have i1:(k:Int)<(D.length:Int):=Ω);have e:D.drop k=D[k]::D.drop (k+1):=List.drop_eq_getElem_cons q;rw[e,List.foldl_cons,<-VS hS hT lS lT hF D hD hl d (k+1) (cI out D[k] (F D[k])) Ω (by have:=yG out D[k] (F D[k]);omega)];refine eH ?_;rw[<-p2,<-p3];simp only[Av,HT,xw,OJ,bR,q,i1,gf,cN,sN,a1,a2,hF,p1,dN (n:=k) Ω]
def xMj(hS:aL N 1099511627776 S)(hT:mO M T)(lS:S.length<=1048576)(lT:T.length<=1048576)(hF:∀t,FW (N t) (M t)=F t):∃U:List aF,I8 (S.map aA) (T.map aA)=some (U.map aA)/\aL F 1099511627776 U/\U.length<=S.length+T.length:=by
 obtain ⟨D,h1,h2,h3,h4⟩:=KP hS hT lS lT (F:=F) (fun t h=>by
  by_cases hc:N (t - 1)=N t
  . right;intro h5;refine h ?_;rw[<-hF,<-hF,hc,h5]
  . exact .inl hc)
 refine⟨_,?_,h4,by have:=Fu (F:=F) D [];simp at this;omega⟩;have q:=VS hS hT lS lT hF D h3 Ω D.length 0 [] Ω Ψ;rw[zr]at q;have q:aB (Av (S.map aA) (T.map aA) (D.map encN) ((D.length:Nat):Int)) ((0:Nat),(0:Int),[])=_:=q;obtain⟨hp,_⟩:=h4.first;generalize D.foldl (λ S x=>cI S x (F x)) []=U at q hp;have g0:(((U.length:Nat):Int)==0)=false:=by simp;intro h;rw[h]at hp;simp at hp
 unfold I8 Pz Bv Pc;simp only[h1,zk,zh,aW,za,q,g0,bE,aI];simp[aW,zi,aI]
def VV(hS:aL N 1099511627776 S)(hT:mO M T)(lS:S.length<=1048576)(lT:T.length<=1048576)(hF:∀t,FZ (N t) (M t)=F t)(D:List Int)(hD:∀x,x∈D->0<=x/\x<1099511627776)(hl:D.length<=2097152):∀(d k:Nat)(out:List aF),k+d=D.length->out.length<=k->aB (Ay (S.map aA) (T.map aA) (D.map encN) ((D.length:Nat):Int)) (out.length,(k:Int),out.map aA)=some (((D.drop k).foldl (λ S x=>cI S x (F x)) out).length,((D.drop k).foldl (λ S x=>cI S x (F x)) out).map aA)|0,k,out,hk,ho=>by(have:k=D.length:=Ω);subst this;refine cQ ?_;simp[Ay,HW,bE,aI]|d+1,k,out,hk,ho=>by(have q:k<D.length:=Ω);obtain⟨h0,h1⟩:=hD D[k] (zo q);have a1:=GC hS lS h0 h1;have a2:=hT.at lT h0 h1;obtain⟨p,p1,p2,p3⟩:=CO out D[k] (F D[k]) Ω;(have p1:kI out.length D[k] (F D[k]) (out.map aA)=some p:=p1;have gf:(D.map encN).getD k .top=encN D[k]:=cH _ _ _ q;have i1:(k:Int)<(D.length:Int):=Ω);have e:D.drop k=D[k]::D.drop (k+1):=List.drop_eq_getElem_cons q;rw[e,List.foldl_cons,<-VV hS hT lS lT hF D hD hl d (k+1) (cI out D[k] (F D[k])) Ω (by have:=yG out D[k] (F D[k]);omega)];refine eH ?_;rw[<-p2,<-p3];simp only[Ay,HW,xA,OM,bR,q,i1,gf,cN,sN,a1,a2,hF,p1,dN (n:=k) Ω]
def xMm(hS:aL N 1099511627776 S)(hT:mO M T)(lS:S.length<=1048576)(lT:T.length<=1048576)(hF:∀t,FZ (N t) (M t)=F t):∃U:List aF,Ja (S.map aA) (T.map aA)=some (U.map aA)/\aL F 1099511627776 U/\U.length<=S.length+T.length:=by
 obtain ⟨D,h1,h2,h3,h4⟩:=KP hS hT lS lT (F:=F) (fun t h=>by
  by_cases hc:N (t - 1)=N t
  . right;intro h5;refine h ?_;rw[<-hF,<-hF,hc,h5]
  . exact .inl hc)
 refine⟨_,?_,h4,by have:=Fu (F:=F) D [];simp at this;omega⟩;have q:=VV hS hT lS lT hF D h3 Ω D.length 0 [] Ω Ψ;rw[zr]at q;have q:aB (Ay (S.map aA) (T.map aA) (D.map encN) ((D.length:Nat):Int)) ((0:Nat),(0:Int),[])=_:=q;obtain⟨hp,_⟩:=h4.first;generalize D.foldl (λ S x=>cI S x (F x)) []=U at q hp;have g0:(((U.length:Nat):Int)==0)=false:=by simp;intro h;rw[h]at hp;simp at hp
 unfold Ja PC By Pf;simp only[h1,zk,zh,aW,za,q,g0,bE,aI];simp[aW,zi,aI]
def VU(hS:aL N 1099511627776 S)(hT:mO M T)(lS:S.length<=1048576)(lT:T.length<=1048576)(hF:∀t,FY (N t) (M t)=F t)(D:List Int)(hD:∀x,x∈D->0<=x/\x<1099511627776)(hl:D.length<=2097152):∀(d k:Nat)(out:List aF),k+d=D.length->out.length<=k->aB (Ax (S.map aA) (T.map aA) (D.map encN) ((D.length:Nat):Int)) (out.length,(k:Int),out.map aA)=some (((D.drop k).foldl (λ S x=>cI S x (F x)) out).length,((D.drop k).foldl (λ S x=>cI S x (F x)) out).map aA)|0,k,out,hk,ho=>by(have:k=D.length:=Ω);subst this;refine cQ ?_;simp[Ax,HV,bE,aI]|d+1,k,out,hk,ho=>by(have q:k<D.length:=Ω);obtain⟨h0,h1⟩:=hD D[k] (zo q);have a1:=GC hS lS h0 h1;have a2:=hT.at lT h0 h1;obtain⟨p,p1,p2,p3⟩:=CO out D[k] (F D[k]) Ω;(have p1:kI out.length D[k] (F D[k]) (out.map aA)=some p:=p1;have gf:(D.map encN).getD k .top=encN D[k]:=cH _ _ _ q;have i1:(k:Int)<(D.length:Int):=Ω);have e:D.drop k=D[k]::D.drop (k+1):=List.drop_eq_getElem_cons q;rw[e,List.foldl_cons,<-VU hS hT lS lT hF D hD hl d (k+1) (cI out D[k] (F D[k])) Ω (by have:=yG out D[k] (F D[k]);omega)];refine eH ?_;rw[<-p2,<-p3];simp only[Ax,HV,xz,OL,bR,q,i1,gf,cN,sN,a1,a2,hF,p1,dN (n:=k) Ω]
def xMl(hS:aL N 1099511627776 S)(hT:mO M T)(lS:S.length<=1048576)(lT:T.length<=1048576)(hF:∀t,FY (N t) (M t)=F t):∃U:List aF,I9 (S.map aA) (T.map aA)=some (U.map aA)/\aL F 1099511627776 U/\U.length<=S.length+T.length:=by
 obtain ⟨D,h1,h2,h3,h4⟩:=KP hS hT lS lT (F:=F) (fun t h=>by
  by_cases hc:N (t - 1)=N t
  . right;intro h5;refine h ?_;rw[<-hF,<-hF,hc,h5]
  . exact .inl hc)
 refine⟨_,?_,h4,by have:=Fu (F:=F) D [];simp at this;omega⟩;have q:=VU hS hT lS lT hF D h3 Ω D.length 0 [] Ω Ψ;rw[zr]at q;have q:aB (Ax (S.map aA) (T.map aA) (D.map encN) ((D.length:Nat):Int)) ((0:Nat),(0:Int),[])=_:=q;obtain⟨hp,_⟩:=h4.first;generalize D.foldl (λ S x=>cI S x (F x)) []=U at q hp;have g0:(((U.length:Nat):Int)==0)=false:=by simp;intro h;rw[h]at hp;simp at hp
 unfold I9 PB Bx Pe;simp only[h1,zk,zh,aW,za,q,g0,bE,aI];simp[aW,zi,aI]
def VT(hS:aL N 1099511627776 S)(hT:mO M T)(lS:S.length<=1048576)(lT:T.length<=1048576)(hF:∀t,FL (N t) (M t)=F t)(D:List Int)(hD:∀x,x∈D->0<=x/\x<1099511627776)(hl:D.length<=2097152):∀(d k:Nat)(out:List aF),k+d=D.length->out.length<=k->aB (Aw (S.map aA) (T.map aA) (D.map encN) ((D.length:Nat):Int)) (out.length,(k:Int),out.map aA)=some (((D.drop k).foldl (λ S x=>cI S x (F x)) out).length,((D.drop k).foldl (λ S x=>cI S x (F x)) out).map aA)|0,k,out,hk,ho=>by(have:k=D.length:=Ω);subst this;refine cQ ?_;simp[Aw,HU,bE,aI]|d+1,k,out,hk,ho=>by(have q:k<D.length:=Ω);obtain⟨h0,h1⟩:=hD D[k] (zo q);have a1:=GC hS lS h0 h1;have a2:=hT.at lT h0 h1;obtain⟨p,p1,p2,p3⟩:=CO out D[k] (F D[k]) Ω;(have p1:kI out.length D[k] (F D[k]) (out.map aA)=some p:=p1;have gf:(D.map encN).getD k .top=encN D[k]:=cH _ _ _ q;have i1:(k:Int)<(D.length:Int):=Ω);have e:D.drop k=D[k]::D.drop (k+1):=List.drop_eq_getElem_cons q;rw[e,List.foldl_cons,<-VT hS hT lS lT hF D hD hl d (k+1) (cI out D[k] (F D[k])) Ω (by have:=yG out D[k] (F D[k]);omega)];refine eH ?_;rw[<-p2,<-p3];simp only[Aw,HU,xy,OK,bR,q,i1,gf,cN,sN,a1,a2,hF,p1,dN (n:=k) Ω]
def xMk(hS:aL N 1099511627776 S)(hT:mO M T)(lS:S.length<=1048576)(lT:T.length<=1048576)(hF:∀t,FL (N t) (M t)=F t):∃U:List aF,Fe (S.map aA) (T.map aA)=some (U.map aA)/\aL F 1099511627776 U/\U.length<=S.length+T.length:=by
 obtain ⟨D,h1,h2,h3,h4⟩:=KP hS hT lS lT (F:=F) (fun t h=>by
  by_cases hc:N (t - 1)=N t
  . right;intro h5;refine h ?_;rw[<-hF,<-hF,hc,h5]
  . exact .inl hc)
 refine⟨_,?_,h4,by have:=Fu (F:=F) D [];simp at this;omega⟩;have q:=VT hS hT lS lT hF D h3 Ω D.length 0 [] Ω Ψ;rw[zr]at q;have q:aB (Aw (S.map aA) (T.map aA) (D.map encN) ((D.length:Nat):Int)) ((0:Nat),(0:Int),[])=_:=q;obtain⟨hp,_⟩:=h4.first;generalize D.foldl (λ S x=>cI S x (F x)) []=U at q hp;have g0:(((U.length:Nat):Int)==0)=false:=by simp;intro h;rw[h]at hp;simp at hp
 unfold Fe PA Bw Pd;simp only[h1,zk,zh,aW,za,q,g0,bE,aI];simp[aW,zi,aI]
def xLP(hS:aL N 1099511627776 S)(hT:aL M 1099511627776 T)(lS:S.length<=1048576)(lT:T.length<=1048576)(hN:∀t,0<=N t/\N t<=1048576)(hM:∀t,0<=M t/\M t<=1048576):∃U:List aF,F2 (S.map aA) (T.map aA)=some (U.map aA)/\aL (λ t=>N t+M t) 1099511627776 U/\U.length<=S.length+T.length:=by
 obtain ⟨U,h1,h2,h3⟩:=xMj hS (.inl hT) lS lT (F:=fun t=>N t+M t) (fun t=>by
  have:=hN t;have:=hM t;unfold FW;rw [gx Ω Ω])
 refine⟨U,?_,h2,h3⟩;unfold F2 RZ;simp only[h1,zk,zh,aW,aI]
def xMJ(hS:aL N 1099511627776 S)(hT:aL M 1099511627776 T)(lS:S.length<=1048576)(lT:T.length<=1048576):∃U:List aF,F3 (S.map aA) (T.map aA)=some (U.map aA)/\aL (λ t=>min (N t) (M t)) 1099511627776 U/\U.length<=S.length+T.length:=by
 obtain ⟨U,h1,h2,h3⟩:=xMl hS (.inl hT) lS lT (F:=fun t=>min (N t) (M t)) (fun t=>by
  unfold FY;split<;>omega)
 refine⟨U,?_,h2,h3⟩;unfold F3 R0;simp only[h1,zk,zh,aW,aI]
def xMs(hS:aL N 1099511627776 S)(hT:aL M 1099511627776 T)(lS:S.length<=262144)(lT:T.length<=262144)(hN:∀t,0<=N t/\N t<=1048576)(hM:∀t,0<=M t/\M t<=1048576):∃U:List aF,Fo (S.map aA) (T.map aA)=some (U.map aA)/\aL (λ t=>max (N t - M t) 0) 1099511627776 U/\U.length<=S.length+T.length:=by
 obtain ⟨U,h1,h2,h3⟩:=xMm hS (.inl hT) Ω Ω (F:=fun t=>N t - M t) (fun t=>by
  have:=hN t;have:=hM t;unfold FZ;rw [gx Ω Ω])
 obtain ⟨V,g1,g2,g3⟩:=xMk h2 (T:=[]) (M:=fun _=>0) (.inr ⟨rfl,fun _=>rfl⟩) Ω Ψ (F:=fun t=>max (N t - M t) 0) (fun t=>by
  unfold FL;split<;>omega)
 refine⟨V,?_,g2,by simp at g3;omega⟩;have g1:Fe (U.map aA) []=some (V.map aA):=g1;have e1:F4 (S.map aA) (T.map aA)=some (U.map aA):=by unfold F4 R5;simp only[h1,zk,zh,aW,aI]
 have e2:Kz (U.map aA)=some (V.map aA):=by unfold Kz Rw;simp only[g1,zk,zh,aW,aI]
 unfold Fo Pm;simp only[e1,e2,zk,zh,aW,aI]
def NI(t8:List AV)(t9 q:Int)(xs:List AV)(hx:xs.length=3)(j:Nat)(hj:j<3)(n:Int)(hn:xs.getD j .top=.int .i64 n)(h1:-9223372036854775808<=n)(h2:n<=9223372036854775807)(v0 v1:Int)(v2 B:List UInt8)(hB:B.length<=70368744177664):tg t8 t9 q 3 3 ((j:Int),B.length,v0,v1,v2,xs,byteAVs B)=some (.inl (((j+1:Nat):Int),(B++aY n).length,v0,v1,v2,xs,byteAVs (B++aY n))):=by
 have hl:=Lib.itoa_length_le n h1 h2;have i1:(j:Int)<3:=Ω
 have i2:(j:Int)<((3:Nat):Int):=Ω
 have i3:j<xs.length:=Ω
 have e1:=CR (Lib.itoa n) B (by rw[z8];omega);have e2:=Lm (B++Lib.itoa n) (by rw[z8,z8,zj];omega);have hc:((AV.int IntKind.i64 n).cells.getD 0 .top).toInt=n:=rfl;have hs:dw (Sh.int IntKind.i64) ((AV.int IntKind.i64 n).cells.getD 0 .top):=rfl;simp only[tg,JS,Qr,Qs,Qt,EK,bR,i1,i2,i3,hn,hc,hs,h1,h2,e1,e2,dN (n:=j) Ω,aY,zw]
def xJr(t8:List AV)(t9 q:Int)(xs:List AV)(v0 v1:Int)(v2 B:List UInt8):tg t8 t9 q 3 3 (((3:Nat):Int),B.length,v0,v1,v2,xs,byteAVs B)=some (.inr (B.length,v0,v1,v2,byteAVs B)):=by(have i1:¬ ((3:Nat):Int)<3:=Ω);simp only[tg,JS,i1,zm,bE,aI]
def U2(t8:List AV)(t9 q:Int)(v:Val)(h:pX v)(B:List UInt8)(hB:B.length<=35184372088832):aB (tg t8 t9 q 3 3) ((1:Int),(B++aY v.k).length,v.k,v.i,v.t,[AV.int .i64 v.k,AV.int .i64 v.i,AV.int .i64 (v.t.length:Int)],byteAVs (B++aY v.k))=some ((B++aY v.k++aY v.i++aY (v.t.length:Int)).length,v.k,v.i,v.t,byteAVs (B++aY v.k++aY v.i++aY (v.t.length:Int))):=by have hl:=h.len;have ht:=h.2;rw[CJ,z8,z8,z8]at hl;have e1:=NI t8 t9 q [AV.int .i64 v.k,AV.int .i64 v.i,AV.int .i64 (v.t.length:Int)] rfl 1 Ω v.i rfl (oz h.1.2.1).1 (oz h.1.2.1).2 v.k v.i v.t (B++aY v.k) (by rw[z8];omega);have e2:=NI t8 t9 q [AV.int .i64 v.k,AV.int .i64 v.i,AV.int .i64 (v.t.length:Int)] rfl 2 Ω (v.t.length:Int) rfl Ω Ω v.k v.i v.t (B++aY v.k++aY v.i) (by rw[z8,z8];omega);exact(eH e1).trans ((eH e2).trans (cQ (xJr ..)))
def xKx(t8:List AV)(t9 q:Int)(v:Val)(h:pX v)(B:List UInt8)(hB:B.length<=35184372088832):aB (tg t8 t9 q 3 3) ((0:Int),B.length,v.k,v.i,v.t,[AV.int .i64 v.k,AV.int .i64 v.i,AV.int .i64 (v.t.length:Int)],byteAVs B)=some ((B++aY v.k++aY v.i++aY (v.t.length:Int)).length,v.k,v.i,v.t,byteAVs (B++aY v.k++aY v.i++aY (v.t.length:Int))):=by have e0:=NI t8 t9 q [AV.int .i64 v.k,AV.int .i64 v.i,AV.int .i64 (v.t.length:Int)] rfl 0 Ω v.k rfl (oz h.1.1).1 (oz h.1.1).2 v.k v.i v.t B Ω;exact(eH e0).trans (U2 t8 t9 q v h B hB)
def Wg(r:Row)(hr:r.length<=1048576)(h:∀v,v∈r->pX v)(hk:(keyOf r).length<=17592186044416):∀d k:Nat,k+d=r.length->aB (Bq (r.map encV) ((r.length:Nat):Int)) ((k:Int),(keyOf (r.take k)).length,byteAVs (keyOf (r.take k)))=some ((keyOf r).length,byteAVs (keyOf r))
 |0,k,hkk=>by
  obtain rfl:k=r.length:=by omega
  rw[y6];refine cQ ?_;simp only[Bq,JR,zy,zm,bE,aI]
 |d+1,k,hkk=>by
  have q:k<r.length:=by omega
  have hv:=h r[k] (zo q);have i1:(k:Int)<(r.length:Int):=by omega
  have gf:(r.map encV).getD k .top=encV r[k]:=cH _ _ _ q;have tk:keyOf (r.take (k+1))=keyOf (r.take k)++fi r[k]:=by
   unfold keyOf;rw[List.take_add_one,ze q,List.flatMap_append];simp
  have le:(keyOf (r.take (k+1))).length<=(keyOf r).length:=by
   conv=>rhs;rw[<-List.take_append_drop (k+1) r]
   unfold keyOf;rw[List.flatMap_append,z8];omega
  have hl:=hv.len;rw[tk,z8]at le;have e1:=xKx (r.map encV) (r.length:Int) (k:Int) r[k] hv (keyOf (r.take k)) (by omega)
  have kn:keyOf (r.take k)++fi r[k]=keyOf (r.take k)++aY r[k].k++aY r[k].i++aY (r[k].t.length:Int)++r[k].t:=by rw[CJ];simp only[zw]
  have e2:=CR r[k].t (keyOf (r.take k)++aY r[k].k++aY r[k].i++aY (r[k].t.length:Int)) (by rw[<-kn,z8];omega)
  rw[eH (s':=(((k+1:Nat):Int),(keyOf (r.take (k+1))).length,byteAVs (keyOf (r.take (k+1))))) ?_]
  . exact Wg r hr h hk d (k+1) (by omega)
  . rw[tk,kn];simp only[Bq,JR,Qo,Qp,I3,Qq,bR,q,i1,gf,uc,ud,ue,lV,sV,e1,e2,dN (n:=k) (by omega)]
def Nn(r:Row)(hr:r.length<=1048576)(h:∀v,v∈r->pX v)(hk:(keyOf r).length<=17592186044416):iP (r.map encV)=some (keyOf r):=by match r with|[]=>rfl|v::t=>have hv:=h v Ψ;(have hl:=hv.len;have i1:(0:Int)<((t.length+1:Nat):Int):=Ω);(have i2:0<t.length+1:=Ω);(obtain⟨r1,r2⟩:=oz hv.1.1;have q:=Lib.itoa_length_le v.k r1 r2;have gf:((v::t).map encV).getD 0 .top=encV v:=rfl;have e0:rH (Lib.itoa v.k)=some (((Lib.itoa v.k).length:Int),(Lib.itoa v.k).length,byteAVs (Lib.itoa v.k)):=by(have m1:(Lib.itoa v.k).length<=140737488355328:=Ω);(have m2:(Lib.itoa v.k).length<=4611686018427387904:=Ω);unfold rH G6;simp only[B1,Nat.mul_one,m1,m2,zn,Bool.and_self,aW,aI]);have e1:Ht 32 (Lib.itoa v.k).length (byteAVs (Lib.itoa v.k))=some (([]++aY v.k).length,byteAVs ([]++aY v.k)):=Lm (Lib.itoa v.k) (by rw[z8,zj];omega);have e2:=U2 ((v::t).map encV) ((t.length+1:Nat):Int) 0 v hv [] Ψ;(have kn:fi v=[]++aY v.k++aY v.i++aY (v.t.length:Int)++v.t:=by rw[CJ];simp);have e3:=CR v.t ([]++aY v.k++aY v.i++aY (v.t.length:Int)) (by rw[<-kn];omega);rw[<-kn]at e3;have e4:=Wg (v::t) hr h hk t.length 1 (by rw[zF];omega);(have tk:keyOf ((v::t).take 1)=fi v:=by simp[keyOf]);rw[tk,zF]at e4;have e4:aB (Bq ((v::t).map encV) ((t.length+1:Nat):Int)) ((1:Int),(fi v).length,byteAVs (fi v))=_:=e4;have hne:(keyOf (v::t)).length≠0:=λ e=>Lq v (keyOf t) (by rw[<-Cr];exact List.length_eq_zero_iff.1 e);unfold iP RY Cl Rn Ro Rp Ki Rq Rr Rs u0;simp only[za,zF,i1,i2,gf,uc,ud,ue,lV,sV,r1,r2,e0,e1,e2,e3,e4,zn,aW,Bool.and_self,beq_self_eq_true,zk,zh,B1,ZT,xuO,ne_eq,hne,not_false_eq_true,aI]
def SC:∀(a b:List Int),(∀t,a.count t<=b.count t)->a.length<=b.length
 |[],b,_=>by simp
 |x::a,b,h=>by
  have hx:x∈b:=List.count_pos_iff.1 (by have:=h x;rw[List.count_cons_self]at this;omega)
  have ih:=SC a (b.erase x) λ t=>by
   have:=h t;by_cases e:x=t
   . subst e;rw[List.count_cons_self]at this;rw[List.count_erase_self];omega
   . rw[List.count_cons_of_ne e]at this;rw[List.count_erase_of_ne (λ c=>e c.symm)];exact this
  rw[List.length_erase_of_mem hx]at ih;have:0<b.length:=List.length_pos_iff.2 λ c=>by rw[c]at hx;simp at hx
  rw[zF];omega
def vk(ps:List aF)(t:Int):ps.countP (aG · t)<=ps.countP (aG · (t - 1))+(ps.map (·.1)).count t:=by induction ps with|nil=>simp|cons p ps ih=>(rw[List.countP_cons,List.countP_cons,zV,List.count_cons];have:(if aG p t then 1 else 0)<=(if aG p (t - 1) then 1 else 0)+(if(p.1==t) then 1 else 0):=by by_cases h1:aG p t=true;obtain⟨hv,a,b⟩:=jB.1 h1;by_cases h2:p.1=t;(have e:(p.1==t):=by simpa using h2);rw[if_pos h1,if_pos e];omega;have:aG p (t - 1):=jB.2 ⟨hv,by omega,by omega⟩;rw[if_pos h1,if_pos this];omega;rw[if_neg h1];omega);omega
def Nu(a b:Nat):∀n:Nat,((List.range n).map λ k=>if a<=k/\k<b then 1 else 0).sum<=min n b - min n a|0=>by simp|n+1=>by rw[List.range_succ,zx,List.sum_append];have:=Nu a b n;simp only[zV,zW,List.sum_cons,List.sum_nil];split<;>omega
variable {P:List aF}
def bD.len1{ps:List aF}(h:bD (λ t=>ps.countP (aG · t)) P):P.length<=ps.length:=by(have:(P.map (·.1)).length<=(ps.map (·.1)).length:=by refine SC _ _ λ t=>?_;(obtain⟨A,H,h1,h2,h3⟩:=h.lev;have e1:(P.map (·.1)).count t=((List.range H).map λ k=>((A k).map (·.1)).count t).sum:=by rw[(h3.map (·.1)).count_eq,List.map_flatMap,List.count_flatMap];rfl);(have e2:∀n,((List.range n).map λ k=>((A k).map (·.1)).count t).sum<=((List.range n).map λ k=>if ps.countP (aG · (t - 1))<=k/\k<ps.countP (aG · t)then 1 else 0).sum:=λ n=>by induction n with|zero=>simp|succ n ih=>(rw[List.range_succ,zx,zx,List.sum_append,List.sum_append];simp only[zV,zW,List.sum_cons,List.sum_nil];have hn:((A n).map (·.1)).Nodup:=by unfold List.Nodup;rw[List.pairwise_map];refine List.Pairwise.imp_of_mem (λ{p q} hp hq h=>?_) (h2 n).1.2;have:=iF.1 ((h2 n).1.1 p hp);omega);have J:((A n).map (·.1)).count t<=1:=List.nodup_iff_count.1 hn t;by_cases ht:t∈(A n).map (·.1);obtain⟨p,hp,rfl⟩:=zK.1 ht;obtain⟨a,b,_⟩:=Tu (N:=λ t=>ps.countP (aG · t)) (h2 n).1 (h2 n).2 hp;have hv:=iF.1 ((h2 n).1.1 p hp);have:=a p.1 (Int.le_refl _) hv.2.1;rw[if_pos ⟨b,this⟩];omega;rw[List.count_eq_zero.2 ht];omega);have e3:=e2 H;have e4:=Nu (ps.countP (aG · (t - 1))) (ps.countP (aG · t)) H;have e5:=vk ps t;have e6:=h1 t;omega);simpa using this
def xyV{L:Row->List aF}:∀{R:List Row}{l:List Fc},R.Nodup->(∀r,r∈R->(L r).length<=(cY l r).length)->(dB R L).length<=l.length
 |[],l,_,_=>by simp[dB]
 |r::R,l,hn,h=>by
  obtain⟨n1,n2⟩:=List.nodup_cons.1 hn;have e:dB (r::R) L=((L r).map λ p=>(⟨r,p⟩:Fc))++dB R L:=by simp[dB]
  let l2:=l.filter λ f=>!decide (f.r=r)
  have J:∀r',r'∈R->cY l2 r'=cY l r':=λ r' q=>by
   have hne:r'≠r:=λ e=>n1 (e▸q)
   unfold cY;simp only[l2,List.filter_filter];congr 1;refine List.filter_congr λ f _=>?_
   by_cases hf:f.r=r'
   . have:¬ f.r=r:=λ e=>hne (hf▸e)
     simp[hf,hne]
   . simp[hf]
  have ih:=xyV (L:=L) (l:=l2) n2 λ r' q=>by rw[J r' q];exact h r' (by simp[q])
  have h1:=h r (by simp)
  have hl:(cY l r).length+l2.length<=l.length:=by
   unfold cY;rw[za];have:=List.length_eq_countP_add_countP (λ f:Fc=>decide (f.r=r)) (l:=l)
   have a1:(l.filter λ f=>decide (f.r=r)&&pv f.p).length<=l.countP λ f=>decide (f.r=r):=by
    rw[<-List.countP_eq_length_filter];exact List.countP_mono_left λ f _ hf=>by simp only[zf]at hf;exact hf.1
   have a2:l2.length=l.countP λ f=>¬ decide (f.r=r)=true:=by
    rw[List.countP_eq_length_filter];simp[l2]
   omega
  rw[e,z8,za];omega
def mN.len1{l B:List Fc}(h:mN l B):B.length<=l.length:=by obtain⟨R,L,h1,h2,rfl⟩:=h;refine xyV (h1.1.nodup mj) λ r hr=>?_;have:=h2 r hr;rw[show cnt l r=λ t=>(cY l r).countP (aG · t) from funext λ t=>(CT l r t).symm]at this;exact this.len1
abbrev TE:=Row×List aF×List aF
def ii:TE:=([],[],[])
def c1(p:aF):AV:=dO (p,1)
def cL(e:TE):PE:=(keyOf e.1,e.1.map encV,e.2.1.map c1,e.2.2.map c1)
def mE(es:List TE)(r:Row):Option Nat:=es.findIdx? λ x=>decide (x.1=r)
def i8(es:List TE)(r:Row)(xa xb:List aF):List TE:=match mE es r with|some j=>es.set j ((es.getD j ii).1,(es.getD j ii).2.1++xa,(es.getD j ii).2.2++xb)|none=>es++[(r,xa,xb)]
def NO(r:Row):∀es:List TE,sB (es.map cL) (keyOf r)=mE es r|[]=>rfl|x::es=>by(have ih:=NO r es;unfold sB mE at ih|-;rw[zV,List.findIdx?_cons,List.findIdx?_cons,ih];have:((cL x).1==keyOf r)=decide (x.1=r):=by by_cases h:x.1=r;subst h;simp[cL];have h2:¬ keyOf x.1=keyOf r:=λ e=>h (Gu e);simp[cL,h,h2]);rw[this]
variable {es:List TE}{j:Nat}
def K0(h:j<es.length):(es.map cL).getD j dc=cL (es.getD j ii):=by simp[z7,h]
def SA{r:Row}(h:mE es r=some j):∃hj:j<es.length,es[j].1=r:=by obtain⟨hj,h1,_⟩:=List.findIdx?_eq_some_iff_getElem.1 h;exact⟨hj,by simpa using h1⟩
def xHt{r:Row}(h:mE es r=none):r∉es.map (·.1):=λ hr=>by obtain⟨e,he,rfl⟩:=zK.1 hr;have:=List.findIdx?_eq_none_iff.1 h e he;simp at this
def xJd(es:List TE)(r:Row)(p:aF):kz false (es.map cL) (keyOf r) (r.map encV) (c1 p)=(i8 es r [p] []).map cL:=by unfold kz i8;rw[NO];cases h:mE es r with|none=>simp[cL]|some j=>obtain⟨hj,_⟩:=SA h;simp only[K0 hj,List.map_set];simp[cL]
def xJe(es:List TE)(r:Row)(p:aF):kz true (es.map cL) (keyOf r) (r.map encV) (c1 p)=(i8 es r [] [p]).map cL:=by unfold kz i8;rw[NO];cases h:mE es r with|none=>simp[cL]|some j=>obtain⟨hj,_⟩:=SA h;simp only[K0 hj,List.map_set];simp[cL]
structure EI (R:Row->Prop) (A B:Row->List aF) (n:Nat) (es:List TE):Prop where
 nd:(es.map (·.1)).Nodup
 mem:∀r,r∈es.map (·.1)↔R r
 pa:∀e,e∈es->e.2.1=A e.1
 pb:∀e,e∈es->e.2.2=B e.1
 zero:∀r,¬ R r->A r=[]/\B r=[]
 len:es.length<=n
def EI.nil:EI (λ _=>False) (λ _=>[]) (λ _=>[]) 0 []:=⟨List.nodup_nil,λ r=>by simp,λ g hg=>by simp at hg,λ g hg=>by simp at hg,λ _ _=>⟨rfl,rfl⟩,zd _⟩
def EI.add{R:Row->Prop}{A B:Row->List aF}{n:Nat}(h:EI R A B n es)(ρ:Row)(xa xb:List aF):EI (λ r=>R r\/ρ=r) (λ r=>A r++if ρ=r then xa else[]) (λ r=>B r++if ρ=r then xb else[]) (n+1) (i8 es ρ xa xb):=by unfold i8;cases hi:mE es ρ with|some j=>((obtain⟨hj,hr⟩:=SA hi;have gd:es.getD j ii=es[j]:=by rw[z7,ze hj];rfl);(dsimp only;rw[gd];have fst:(es.set j (es[j].1,es[j].2.1++xa,es[j].2.2++xb)).map (·.1)=es.map (·.1):=by(rw[List.map_set];have:(es.map (·.1))[j]'(by simpa using hj)=es[j].1:=by simp);show (es.map (·.1)).set j es[j].1=_;rw[<-this];exact List.set_getElem_self _);have hRρ:R ρ:=(h.mem ρ).1 (by rw[<-hr];exact zK.2 ⟨es[j],zo hj,rfl⟩);(have hne:∀i(q:i<es.length),j≠i->ρ≠es[i].1:=λ i q J e=>by(have hn:=zB.1 h.nd;have ei:(es.map (·.1))[i]'(by simpa using q)=es[i].1:=by simp);(have ej:(es.map (·.1))[j]'(by simpa using hj)=es[j].1:=by simp);rcases Nat.lt_or_gt_of_ne J with Q|Q;exact hn j i (by simpa using hj) (by simpa using q) Q (by rw[ei,ej,hr,e]);exact hn i j (by simpa using q) (by simpa using hj) Q (by rw[ei,ej,hr,e]));refine⟨by rw[fst];exact h.nd,λ r=>?_,λ g hg=>?_,λ g hg=>?_,λ r O=>?_,by rw[y4];have:=h.len;omega⟩;rw[fst,h.mem];refine⟨.inl,?_⟩;rintro(h1|rfl);exact h1;exact hRρ;obtain⟨i,q,rfl⟩:=zp.1 hg;rw[y4]at q;rw[List.getElem_set];by_cases J:j=i;subst J;rw[if_pos rfl];show es[j].2.1++xa=A es[j].1++_;rw[if_pos hr.symm,h.pa _ (zo hj)];rw[if_neg J,if_neg (hne i q J),zD];exact h.pa _ (zo q);obtain⟨i,q,rfl⟩:=zp.1 hg;rw[y4]at q;rw[List.getElem_set];by_cases J:j=i;subst J;rw[if_pos rfl];show es[j].2.2++xb=B es[j].1++_;rw[if_pos hr.symm,h.pb _ (zo hj)];rw[if_neg J,if_neg (hne i q J),zD];exact h.pb _ (zo q);have h1:¬ R r:=λ c=>O (.inl c);have h2:¬ ρ=r:=λ c=>O (.inr c);obtain⟨z1,z2⟩:=h.zero r h1;rw[if_neg h2,if_neg h2,z1,z2];exact⟨rfl,rfl⟩)|none=>have hr:=xHt hi;dsimp only;have hρ:¬ R ρ:=λ c=>hr ((h.mem ρ).2 c);obtain⟨z1,z2⟩:=h.zero ρ hρ;have hne:∀g,g∈es->ρ≠g.1:=λ g hg e=>hr (by rw[e];exact zK.2 ⟨g,hg,rfl⟩);refine⟨?_,λ r=>?_,λ g hg=>?_,λ g hg=>?_,λ r O=>?_,by rw[z8];have:=h.len;simp;omega⟩;rw[zx];refine List.nodup_append.2 ⟨h.nd,by simp,λ a ha b hb e=>?_⟩;simp at hb;exact hr (by rw[<-hb,<-e];exact ha);rw[zx,zG,h.mem];simp only[zV,zW,zv];exact⟨λ c=>c.imp id Eq.symm,λ c=>c.imp id Eq.symm⟩;rcases zG.1 hg with hg|hg;rw[if_neg (hne g hg),zD];exact h.pa g hg;rw[zv]at hg;subst hg;rw[if_pos rfl,z1];rfl;rcases zG.1 hg with hg|hg;rw[if_neg (hne g hg),zD];exact h.pb g hg;rw[zv]at hg;subst hg;rw[if_pos rfl,z2];rfl;have h1:¬ R r:=λ c=>O (.inl c);have h2:¬ ρ=r:=λ c=>O (.inr c);obtain⟨z1,z2⟩:=h.zero r h1;rw[if_neg h2,if_neg h2,z1,z2];exact⟨rfl,rfl⟩
def fx(l:List Fc)(r:Row):List aF:=(l.filter λ f=>decide (f.r=r)).map (·.p)
def CP(l:List Fc)(r:Row)(t:Int):(fx l r).countP (aG · t)=cnt l r t:=by unfold fx cnt;rw[List.countP_map,List.countP_filter];refine List.countP_congr λ f _=>?_;simp[and_comm]
def SU(f:Fc)(l:List Fc)(r:Row):fx (f::l) r=(if f.r=r then[f.p]else[])++fx l r:=by unfold fx;rw[List.filter_cons];by_cases h:f.r=r<;>simp[h]
def V6(l:List Fc)(r:Row):(fx l r).length<=l.length:=by unfold fx;rw[za];exact List.length_filter_le _ _
def Xr:∀(l:List Fc)(R:Row->Prop)(A B:Row->List aF)(n:Nat)(es:List TE),EI R A B n es->EI (λ r=>R r\/∃f,f∈l/\f.r=r) (λ r=>A r++fx l r) B (n+l.length) (l.foldl (λ es f=>i8 es f.r [f.p] []) es)
 |[],R,A,B,n,es,h=>by
  have e1:(λ r=>R r\/∃f,f∈([]:List Fc)/\f.r=r)=R:=funext λ r=>by simp
  have e2:(λ r=>A r++fx [] r)=A:=funext λ r=>by simp[fx]
  rw[e1,e2];exact h
 |f::l,R,A,B,n,es,h=>by
  have:=Xr l _ _ _ _ _ (h.add f.r [f.p] []);rw[List.foldl_cons];have e1:(λ r=>(R r\/f.r=r)\/∃g,g∈l/\g.r=r)=λ r=>R r\/∃g,g∈f::l/\g.r=r:=funext λ r=>by simp[or_assoc]
  have e2:(λ r=>(A r++if f.r=r then[f.p]else[])++fx l r)=λ r=>A r++fx (f::l) r:=funext λ r=>by rw[SU,zw]
  have e3:(λ r=>B r++if f.r=r then[]else[])=B:=funext λ r=>by simp
  rw[e1,e2,e3]at this;rw[zF,show n+(l.length+1)=n+1+l.length by omega]
  exact this
def Xs:∀(l:List Fc)(R:Row->Prop)(A B:Row->List aF)(n:Nat)(es:List TE),EI R A B n es->EI (λ r=>R r\/∃f,f∈l/\f.r=r) A (λ r=>B r++fx l r) (n+l.length) (l.foldl (λ es f=>i8 es f.r [] [f.p]) es)
 |[],R,A,B,n,es,h=>by
  have e1:(λ r=>R r\/∃f,f∈([]:List Fc)/\f.r=r)=R:=funext λ r=>by simp
  have e2:(λ r=>B r++fx [] r)=B:=funext λ r=>by simp[fx]
  rw[e1,e2];exact h
 |f::l,R,A,B,n,es,h=>by
  have:=Xs l _ _ _ _ _ (h.add f.r [] [f.p]);rw[List.foldl_cons];have e1:(λ r=>(R r\/f.r=r)\/∃g,g∈l/\g.r=r)=λ r=>R r\/∃g,g∈f::l/\g.r=r:=funext λ r=>by simp[or_assoc]
  have e2:(λ r=>(B r++if f.r=r then[f.p]else[])++fx l r)=λ r=>B r++fx (f::l) r:=funext λ r=>by rw[SU,zw]
  have e3:(λ r=>A r++if f.r=r then[]else[])=A:=funext λ r=>by simp
  rw[e1,e2,e3]at this;rw[zF,show n+(l.length+1)=n+1+l.length by omega]
  exact this
def sn(a b:List Fc):List TE:=b.foldl (λ es f=>i8 es f.r [] [f.p]) (a.foldl (λ es f=>i8 es f.r [f.p] []) [])
def xKm(a b:List Fc):EI (λ r=>(∃f,f∈a/\f.r=r)\/∃f,f∈b/\f.r=r) (fx a) (fx b) (a.length+b.length) (sn a b):=by(have h:=Xs b _ _ _ _ _ (Xr a _ _ _ _ _ EI.nil);have e1:(λ r=>(False\/∃f,f∈a/\f.r=r)\/∃f,f∈b/\f.r=r)=λ r=>(∃f,f∈a/\f.r=r)\/∃f,f∈b/\f.r=r:=funext λ r=>by simp);have e2:(λ r=>([]:List aF)++fx a r)=fx a:=funext λ r=>rfl;have e3:(λ r=>([]:List aF)++fx b r)=fx b:=funext λ r=>rfl;rw[e1,e2,e3,show 0+a.length+b.length=a.length+b.length by omega]at h;exact h
def Keyed.skey{l:List Fc}(h:Keyed l){f:Fc}(hf:f∈l):iP (f.r.map encV)=some (keyOf f.r):=Nn f.r (h.1.2 f hf) (h.2 f hf).1 (h.2 f hf).2
def SN{f:Fc}(h:iP (f.r.map encV)=some (keyOf f.r)):jO (encF f)=keyOf f.r:=by show (iP (f.r.map encV)).getD []=_;rw[h];rfl
def UD:∀(l:List Fc)(es:List TE),(∀f,f∈l->iP (f.r.map encV)=some (keyOf f.r))->(l.map encF).foldl (iD false) (es.map cL)=(l.foldl (λ es f=>i8 es f.r [f.p] []) es).map cL|[],es,_=>rfl|f::l,es,h=>by(rw[zV,List.foldl_cons,List.foldl_cons];have e:(iD false) (es.map cL) (encF f)=(i8 es f.r [f.p] []).map cL:=by show kz false (es.map cL) (jO (encF f)) (f.r.map encV) (c1 f.p)=_;rw[SN (h f Ψ),xJd]);rw[e];exact UD l _ λ g hg=>h g (by simp[hg])
def UE:∀(l:List Fc)(es:List TE),(∀f,f∈l->iP (f.r.map encV)=some (keyOf f.r))->(l.map encF).foldl (iD true) (es.map cL)=(l.foldl (λ es f=>i8 es f.r [] [f.p]) es).map cL|[],es,_=>rfl|f::l,es,h=>by(rw[zV,List.foldl_cons,List.foldl_cons];have e:(iD true) (es.map cL) (encF f)=(i8 es f.r [] [f.p]).map cL:=by show kz true (es.map cL) (jO (encF f)) (f.r.map encV) (c1 f.p)=_;rw[SN (h f Ψ),xJe]);rw[e];exact UE l _ λ g hg=>h g (by simp[hg])
def xIA{a b:List Fc}(ha:Keyed a)(hb:Keyed b):cX (a.map encF) (b.map encF)=(sn a b).map cL:=by unfold cX sn;rw[show ([]:List PE)=([]:List TE).map cL from rfl,UD a [] λ f hf=>ha.skey hf,UE b _ λ f hf=>hb.skey hf]
def VZ{l:List Fc}(h:Keyed l){f:Fc}(hf:f∈l):rt (encF f):=by(have e1:=SN (h.skey hf);have e2:iP (rowF (encF f))=some (keyOf f.r):=h.skey hf;have e3:=(h.2 f hf).2;unfold rt;rw[e1,e2];have m:(keyOf f.r).length<=4611686018427387904:=Ω);have c1:Nat.beq (encF f).cells.length 3:=rfl;have c2:ew [.list 3,.int .i64,.int .i64] (encF f).cells 0:=rfl;have c3:((encF f).one==false):=rfl;rw[c1,c2,c3];simp[m]
def xGX{a b:List Fc}(ha:Keyed a)(hb:Keyed b):jc (a.map encF) (b.map encF):=by unfold jc;have h1:=ha.1.1;have h2:=hb.1.1;simp only[zf,zI,List.mem_range,zl,za];refine⟨λ i hi=>?_,λ i hi=>?_,by omega⟩;rw[cH _ _ _ hi];exact VZ ha (zo hi);rw[cH _ _ _ hi];exact VZ hb (zo hi)
def Gc{N:Int->Nat}(h:bD N P)(E:List Int)(hE:∀t,N t<=N (t - 1)+E.count t):P.length<=E.length:=by(have:(P.map (·.1)).length<=E.length:=by refine SC _ _ λ t=>?_;(obtain⟨A,H,h1,h2,h3⟩:=h.lev;have e1:(P.map (·.1)).count t=((List.range H).map λ k=>((A k).map (·.1)).count t).sum:=by rw[(h3.map (·.1)).count_eq,List.map_flatMap,List.count_flatMap];rfl);(have e2:∀n,((List.range n).map λ k=>((A k).map (·.1)).count t).sum<=((List.range n).map λ k=>if N (t - 1)<=k/\k<N t then 1 else 0).sum:=λ n=>by induction n with|zero=>simp|succ n ih=>(rw[List.range_succ,zx,zx,List.sum_append,List.sum_append];simp only[zV,zW,List.sum_cons,List.sum_nil];have hn:((A n).map (·.1)).Nodup:=by unfold List.Nodup;rw[List.pairwise_map];refine List.Pairwise.imp_of_mem (λ{p q} hp hq h=>?_) (h2 n).1.2;have:=iF.1 ((h2 n).1.1 p hp);omega);have J:((A n).map (·.1)).count t<=1:=List.nodup_iff_count.1 hn t;by_cases ht:t∈(A n).map (·.1);obtain⟨p,hp,rfl⟩:=zK.1 ht;obtain⟨a,b,_⟩:=Tu (N:=N) (h2 n).1 (h2 n).2 hp;have hv:=iF.1 ((h2 n).1.1 p hp);have:=a p.1 (Int.le_refl _) hv.2.1;rw[if_pos ⟨b,this⟩];omega;rw[List.count_eq_zero.2 ht];omega);have e3:=e2 H;have e4:=Nu (N (t - 1)) (N t) H;have e5:=hE t;have e6:=h1 t;omega);simpa using this
def xwg(ps:List aF)(t:Int):ps.countP (aG · (t - 1))<=ps.countP (aG · t)+(ps.map (·.2)).count t:=by induction ps with|nil=>simp|cons p ps ih=>(rw[List.countP_cons,List.countP_cons,zV,List.count_cons];have:(if aG p (t - 1) then 1 else 0)<=(if aG p t then 1 else 0)+(if(p.2==t) then 1 else 0):=by by_cases h1:aG p (t - 1)=true;obtain⟨hv,a,b⟩:=jB.1 h1;by_cases h2:p.2=t;(have e:(p.2==t):=by simpa using h2);rw[if_pos h1,if_pos e];omega;have:aG p t:=jB.2 ⟨hv,by omega,by omega⟩;rw[if_pos h1,if_pos this];omega;rw[if_neg h1];omega);omega
structure pZ (op:List AV->List AV->Option (List AV)) (g:Nat->Nat->Nat):Prop where
 run:∀{N M:Int->Nat}{S T:List aF},aL (λ t=>(N t:Int)) 1099511627776 S->aL (λ t=>(M t:Int)) 1099511627776 T->S.length<=131072->T.length<=131072->(∀t,N t<=1048576)->(∀t,M t<=1048576)->
  ∃U:List aF,op (S.map aA) (T.map aA)=some (U.map aA)/\aL (λ t=>((g (N t) (M t):Nat):Int)) 1099511627776 U/\U.length<=S.length+T.length
 zero:g 0 0=0
 le:∀x y,g x y<=x+y
 inc:∀a b:List aF,∃E:List Int,E.length<=a.length+b.length/\∀t,g (a.countP (aG · t)) (b.countP (aG · t))<=g (a.countP (aG · (t - 1))) (b.countP (aG · (t - 1)))+E.count t
def opA:pZ F2 (λ x y=>x+y) where
 run:=λ{N M S T} hS hT lS lT hN hM=>by
  obtain⟨U,h1,h2,h3⟩:=xLP hS hT Ω Ω (λ t=>by have:=hN t;omega) (λ t=>by have:=hM t;omega)
  refine⟨U,h1,?_,h3⟩;rwa [show (λ t=>(N t:Int)+(M t:Int))=λ t=>(((N t+M t:Nat)):Int) from funext λ t=>by omega]at h2
 zero:=rfl
 le:=λ x y=>zd _
 inc:=fun a b=>⟨a.map (·.1)++b.map (·.1),by simp,fun t=>by
  have h1:=vk a t;have h2:=vk b t;rw [List.count_append];omega⟩
def opM:pZ F3 (λ x y=>min x y) where
 run:=λ{N M S T} hS hT lS lT hN hM=>by
  obtain⟨U,h1,h2,h3⟩:=xMJ hS hT Ω Ω
  refine⟨U,h1,?_,h3⟩;rwa [show (λ t=>min (N t:Int) (M t:Int))=λ t=>((min (N t) (M t):Nat):Int) from funext λ t=>by omega]at h2
 zero:=rfl
 le:=λ x y=>by omega
 inc:=fun a b=>⟨a.map (·.1)++b.map (·.1),by simp,fun t=>by
  have h1:=vk a t;have h2:=vk b t;rw [List.count_append];omega⟩
def opX:pZ Fo (λ x y=>x - y) where
 run:=λ{N M S T} hS hT lS lT hN hM=>by
  obtain⟨U,h1,h2,h3⟩:=xMs hS hT Ω Ω (λ t=>by have:=hN t;omega) (λ t=>by have:=hM t;omega)
  refine⟨U,h1,?_,h3⟩;rwa [show (λ t=>max ((N t:Int) - (M t:Int)) 0)=λ t=>((N t - M t:Nat):Int) from funext λ t=>by omega]at h2
 zero:=rfl
 le:=λ x y=>by omega
 inc:=fun a b=>⟨a.map (·.1)++b.map (·.2),by simp,fun t=>by
  have h1:=vk a t;have h2:=xwg b t;rw [List.count_append];omega⟩
def xLT(ps:List aF):ps.map c1=(ps.map λ p=>(p,(1:Int))).map dO:=by rw[List.map_map];rfl
def VY(ps:List aF)(h:ps.length<=32768):∃S,e7 (ps.map c1)=some (S.map aA)/\aL (λ t=>((ps.countP (aG · t):Nat):Int)) 1099511627776 S/\S.length<=2*ps.length+1:=by obtain⟨S,h1,h2,h3⟩:=YT _ (SH (ps:=ps) Ω);refine⟨S,by rw[xLT,h1],?_,by simpa using h3⟩;rwa [show cM (ps.map λ p=>(p,(1:Int)))=λ t=>((ps.countP (aG · t):Nat):Int) from funext λ t=>Ss ps t]at h2
variable {g:Nat->Nat->Nat}{op:List AV->List AV->Option (List AV)}
def xIH(h:pZ op g)(r:Row)(pa pb:List aF)(ha:pa.length<=32768)(hb:pb.length<=32768):∃P:List aF,mH op (cL (r,pa,pb))/\gQ op (cL (r,pa,pb))=P.map aA/\bD (λ t=>g (pa.countP (aG · t)) (pb.countP (aG · t))) P/\P.length<=pa.length+pb.length:=by
 obtain⟨S,s1,s2,s3⟩:=VY pa ha;obtain⟨T,t1,t2,t3⟩:=VY pb hb;have la:∀t,pa.countP (aG · t)<=pa.length:=λ t=>List.countP_le_length;have lb:∀t,pb.countP (aG · t)<=pb.length:=λ t=>List.countP_le_length;obtain⟨U,u1,u2,u3⟩:=h.run s2 t2 Ω Ω (λ t=>by have:=la t;omega) (λ t=>by have:=lb t;omega);obtain ⟨P,p1,p2⟩:=Ud (N:=fun t=>g (pa.countP (aG · t)) (pb.countP (aG · t))) (H:=pa.length+pb.length) Ω (fun t=>by
  have:=h.le (pa.countP (aG · t)) (pb.countP (aG · t));have:=la t;have:=lb t;omega) (fun t ht=>by
  rw [K8 pa t ht,K8 pb t ht];exact h.zero) u2 Ω
 obtain⟨E,e1,e2⟩:=h.inc pa pb;have lv:gQ op (cL (r,pa,pb))=P.map aA:=by show (kF ((op ((e7 (pa.map c1)).getD []) ((e7 (pb.map c1)).getD [])).getD [])).getD []=_;rw[s1,t1];show (kF ((op (S.map aA) (T.map aA)).getD [])).getD []=_;rw[u1];show (kF (U.map aA)).getD []=_;rw[p1];rfl
 refine⟨P,?_,lv,p2,?_⟩;unfold mH;rw[lv];show ((e7 (pa.map c1)).isSome&&((e7 (pb.map c1)).isSome&&((op ((e7 (pa.map c1)).getD []) ((e7 (pb.map c1)).getD [])).isSome&&((kF ((op ((e7 (pa.map c1)).getD []) ((e7 (pb.map c1)).getD [])).getD [])).isSome&&_))))=true;rw[s1,t1];simp only[zh,zk,u1,p1,Bool.true_and,zI,List.mem_range,za];intro i hi;rw[cH _ _ _ hi];rfl;have:=Gc p2 E e2;omega
def VH(f:Fc)(l:List Fc):∀R:List Row,(R.map λ r=>(fx (f::l) r).length).sum=R.countP (λ r=>decide (f.r=r))+(R.map λ r=>(fx l r).length).sum|[]=>rfl|r::R=>by rw[zV,zV,List.sum_cons,List.sum_cons,VH f l R,SU,List.countP_cons];by_cases h:f.r=r<;>simp[h]<;>omega
def xG1{R:List Row}(hR:R.Nodup)(x:Row):R.countP (λ r=>decide (x=r))<=1:=by induction R with|nil=>simp|cons r R ih=>obtain⟨n1,n2⟩:=List.nodup_cons.1 hR;rw[List.countP_cons];by_cases h:x=r;(have:R.countP (λ r=>decide (x=r))=0:=List.countP_eq_zero.2 λ y hy=>by intro e;simp only[zl]at e;exact n1 (by rw[<-h,e];exact hy));rw[this];split<;>omega;have:=ih n2;simp[h];omega
def Gs:∀(l:List Fc)(R:List Row),R.Nodup->(R.map λ r=>(fx l r).length).sum<=l.length|[],R,_=>(by(have:∀R:List Row,(R.map λ r=>(fx [] r).length).sum=0:=λ R=>by induction R with|nil=>rfl|cons r R ih=>rw[zV,List.sum_cons,ih];rfl);rw[this];exact zQ _)|f::l,R,h=>by rw[VH,zF];have:=Gs l R h;have:=xG1 h f.r;omega
variable {L:Row->List aF}
def RN{a b:List Fc}:∀(R:List Row),(∀r,r∈R->(L r).length<=(fx a r).length+(fx b r).length)->(dB R L).length<=(R.map λ r=>(fx a r).length).sum+(R.map λ r=>(fx b r).length).sum|[],_=>by simp[dB]|r::R,h=>by have ih:=RN R λ x hx=>h x (by simp[hx]);have h1:=h r Ψ;(have e:dB (r::R) L=((L r).map λ p=>(⟨r,p⟩:Fc))++dB R L:=by simp[dB]);rw[e,z8,za,zV,zV,List.sum_cons,List.sum_cons];omega
def kT(N:Row->Int->Nat)(B:List Fc):Prop:=∃R L,cK aK R/\(∀r t,0<N r t->r∈R)/\(∀r,r∈R->bD (N r) (L r))/\B=dB R L
def QZ(L:Row->List aF):∀R:List Row,dB R L=dB (R.filter λ r=>!(L r).isEmpty) L|[]=>rfl|r::R=>by(have ih:=QZ L R;have e:∀R:List Row,dB (r::R) L=((L r).map λ p=>(⟨r,p⟩:Fc))++dB R L:=λ R=>by simp[dB]);rw[List.filter_cons];cases h:L r with|nil=>rw[e,h,ih];simp|cons p ps=>simp only[List.isEmpty_cons,Bool.not_false,if_true];rw[e,e,ih]
def bD.pos{N:Int->Nat}(h:bD N P):P≠[]↔∃t,0<N t:=by constructor;intro hp;obtain⟨p,hp⟩:=List.exists_mem_of_ne_nil P hp;refine⟨p.1,?_⟩;rw[<-h.count];exact List.countP_pos_iff.2 ⟨p,hp,UY (h.valid p hp)⟩;rintro⟨t,ht⟩ rfl;rw[<-h.count]at ht;simp at ht
def kT.unique{N:Row->Int->Nat}{B B':List Fc}(h:kT N B)(h':kT N B'):B=B':=by
 obtain⟨R,L,h1,h2,h3,rfl⟩:=h;obtain⟨R',L',Q,J,q,rfl⟩:=h';rw[QZ L R,QZ L' R'];have hm:∀r,r∈R.filter (λ r=>!(L r).isEmpty)↔∃t,0<N r t:=λ r=>by rw[List.mem_filter];constructor;rintro⟨a,b⟩;exact(h3 r a).pos.1 (by simpa using b);rintro⟨t,ht⟩;have:=h2 r t ht;exact⟨this,by have:=(h3 r this).pos.2 ⟨t,ht⟩;simpa using this⟩
 have hm':∀r,r∈R'.filter (λ r=>!(L' r).isEmpty)↔∃t,0<N r t:=λ r=>by rw[List.mem_filter];constructor;rintro⟨a,b⟩;exact(q r a).pos.1 (by simpa using b);rintro⟨t,ht⟩;have:=J r t ht;exact⟨this,by have:=(q r this).pos.2 ⟨t,ht⟩;simpa using this⟩
 have eR:R.filter (λ r=>!(L r).isEmpty)=R'.filter (λ r=>!(L' r).isEmpty):=QE mj (λ _ _=>tH) (h1.sublist List.filter_sublist) (Q.sublist List.filter_sublist) λ r=>by rw[hm,hm']
 rw[<-eR];refine Re λ r hr=>?_;have V:=(List.mem_filter.1 hr).1;have O:=J r;obtain⟨t,ht⟩:=(hm r).1 hr;exact(h3 r V).unique (q r (O t ht))
def mN.isB{l B:List Fc}(h:mN l B):kT (cnt l) B:=by obtain⟨R,L,h1,h2,rfl⟩:=h;exact⟨R,L,h1.1,λ r t ht=>(h1.2 r).2 (Gk.2 ⟨t,ht⟩),h2,rfl⟩
def kT.cntB{N:Row->Int->Nat}{B:List Fc}(h:kT N B)(r:Row)(t:Int):cnt B r t=N r t:=by obtain⟨R,L,h1,h2,h3,rfl⟩:=h;rw[F7 L r t R (h1.nodup mj)];split;rename_i hr;exact(h3 r hr).count t;rename_i hr;cases hc:N r t with|zero=>rfl|succ n=>exact absurd (h2 r t Ω) hr
def kT.valid{N:Row->Int->Nat}{B:List Fc}(h:kT N B){f:Fc}(hf:f∈B):pv f.p:=by obtain⟨R,L,h1,h2,h3,rfl⟩:=h;obtain⟨a,b⟩:=Cy hf;exact(h3 _ a).valid _ b
def kT.congr{N M:Row->Int->Nat}{B:List Fc}(h:kT N B)(e:∀r t,N r t=M r t):kT M B:=by rwa [show N=M from funext λ r=>funext λ t=>e r t]at h
def xFR{α β:Type}(es:List α)(d:α)(f:α->List β):(List.range es.length).flatMap (λ k=>f (es.getD k d))=es.flatMap f:=by(have:(List.range es.length).map (λ k=>es.getD k d)=es:=by refine List.ext_getElem Ψ λ n h1 h2=>?_;simp[z7,h2]);conv=>rhs;rw[<-this,List.flatMap_map]
def Z8{α β:Type}{f g:α->List β}:∀{l:List α},(∀a,a∈l->f a=g a)->l.flatMap f=l.flatMap g|[],_=>rfl|a::l,h=>by rw[zR,zR,h a Ψ,Z8 λ b hb=>h b (by simp[hb])]
def vX.perm{l l':List Fc}(h:vX l)(hp:l'.Perm l):vX l':=⟨⟨⟨by rw[hp.length_eq];exact h.1.1.1,λ f hf=>h.1.1.2 f (hp.mem_iff.1 hf)⟩,λ f hf=>h.1.2 f (hp.mem_iff.1 hf)⟩,by rw[hp.length_eq];exact h.2.1,h.2.2.of λ f hf=>⟨f,hp.mem_iff.1 hf,rfl⟩⟩
def Tq(h:pZ op g){a b:List Fc}(ha:Keyed a)(hb:Keyed b)(hl:a.length+b.length<=1024)(ac:kJ (a++b)):∃B:List Fc,lA op (a.map encF) (b.map encF)=some (B.map encF)/\kT (λ r t=>g (cnt a r t) (cnt b r t)) B/\B.length<=a.length+b.length/\∀f,f∈B->(∃x,x∈a/\x.r=f.r)\/∃x,x∈b/\x.r=f.r:=by
 have hE:=xKm a b;generalize af:sn a b=es at hE;have O:cX (a.map encF) (b.map encF)=es.map cL:=by rw[xIA ha hb,af]
 obtain⟨L,hL⟩:=F6 (R:=es.map (·.1)) (Q:=λ r P=>mH op (cL (r,fx a r,fx b r))/\gQ op (cL (r,fx a r,fx b r))=P.map aA/\bD (λ t=>g (cnt a r t) (cnt b r t)) P/\P.length<=(fx a r).length+(fx b r).length) λ r hr=>by have l1:=V6 a r;have l2:=V6 b r;obtain⟨P,p1,p2,p3,p4⟩:=xIH h r (fx a r) (fx b r) Ω Ω;refine⟨P,p1,p2,?_,p4⟩;rwa [show (λ t=>g ((fx a r).countP (aG · t)) ((fx b r).countP (aG · t)))=λ t=>g (cnt a r t) (cnt b r t) from funext λ t=>by rw[CP,CP]]at p3
 have Z:∀e,e∈es->e=(e.1,fx a e.1,fx b e.1):=λ e he=>by have h1:=hE.pa e he;have h2:=hE.pb e he;obtain⟨x,y,z⟩:=e;simp only at h1 h2;rw[h1,h2]
 have ab:∀e,e∈es->mH op (cL e)/\gQ op (cL e)=(L e.1).map aA:=λ e he=>by have h1:=hL e.1 (zK.2 ⟨e,he,rfl⟩);rw[<-Z e he]at h1;exact⟨h1.1,h1.2.1⟩
 have ae:∀k,k<es.length->fv op (es.map cL) k=(mk (es.getD k ii).1 (L (es.getD k ii).1)).map encF:=λ k hk=>by(have gd:es.getD k ii=es[k]:=by rw[z7,ze hk];rfl);unfold fv;rw[K0 hk,gd,(ab _ (zo hk)).2];unfold mk;rw[List.map_map,List.map_map];rfl
 have V:∀ord:List Nat,(∀k,k∈ord->k<es.length)->ord.flatMap (fv op (es.map cL))=(ord.flatMap λ k=>mk (es.getD k ii).1 (L (es.getD k ii).1)).map encF:=λ ord ho=>by rw[List.map_flatMap];exact Z8 λ k hk=>ae k (ho k hk)
 have hF:(List.range es.length).flatMap (λ k=>mk (es.getD k ii).1 (L (es.getD k ii).1))=dB (es.map (·.1)) L:=by rw[xFR es ii λ e=>mk e.1 (L e.1)];unfold dB;rw[List.flatMap_map];rfl
 have J:fN op (es.map cL)=(dB (es.map (·.1)) L).map encF:=by unfold fN;rw[za,V _ λ k hk=>List.mem_range.1 hk,hF]
 have aa:(dB (es.map (·.1)) L).length<=a.length+b.length:=by have h1:=RN (L:=L) (a:=a) (b:=b) (es.map (·.1)) λ r hr=>(hL r hr).2.2.2;have h2:=Gs a _ hE.nd;have h3:=Gs b _ hE.nd;omega
 have q:∀f,f∈dB (es.map (·.1)) L->(∃x,x∈a/\x.r=f.r)\/∃x,x∈b/\x.r=f.r:=λ f hf=>(hE.mem _).1 (Cy hf).1;have W:vX (dB (es.map (·.1)) L):=by refine⟨⟨⟨by omega,λ f hf=>?_⟩,λ f hf=>?_⟩,by omega,ac.of λ f hf=>?_⟩;rcases q f hf with⟨x,hx,e⟩|⟨x,hx,e⟩;rw[<-e];exact ha.1.2 x hx;rw[<-e];exact hb.1.2 x hx;rcases q f hf with⟨x,hx,e⟩|⟨x,hx,e⟩;rw[<-e];exact ha.2 x hx;rw[<-e];exact hb.2 x hx;rcases q f hf with⟨x,hx,e⟩|⟨x,hx,e⟩;exact⟨x,zG.2 (.inl hx),e.symm⟩;exact⟨x,zG.2 (.inr hx),e.symm⟩
 obtain⟨B,b1,b2⟩:=WS _ W;have Y:∀r t,cnt (dB (es.map (·.1)) L) r t=g (cnt a r t) (cnt b r t):=λ r t=>by rw[F7 L r t _ hE.nd];split;rename_i hr;exact(hL r hr).2.2.1.count t;rename_i hr;have:=hE.zero r λ c=>hr ((hE.mem r).2 c);rw[<-CP a,<-CP b,this.1,this.2];exact h.zero.symm
 refine⟨B,?_,b2.isB.congr Y,Nat.le_trans b2.len1 aa,λ f hf=>?_⟩;have ad:kh op (a.map encF) (b.map encF):=by(unfold kh;rw[O,xGX ha hb,J,b1];have c2:((List.range (es.map cL).length).all λ k=>mH op ((es.map cL).getD k dc)):=by(simp only[zI,List.mem_range,za];intro k hk;have gd:es.getD k ii=es[k]:=by rw[z7,ze hk];rfl);rw[K0 hk,gd];exact(ab _ (zo hk)).1);(have c3:((dB (es.map (·.1)) L).map encF).length<=1099511627776:=by rw[za];omega);(have c4:∀ord:List Nat,ord.Perm (List.range (es.map cL).length)->pd (ord.flatMap (fv op (es.map cL)))=some (B.map encF):=λ ord ho=>by rw[za]at ho;rw[V ord λ k hk=>List.mem_range.1 (ho.mem_iff.1 hk)];(have hp:(ord.flatMap λ k=>mk (es.getD k ii).1 (L (es.getD k ii).1)).Perm (dB (es.map (·.1)) L):=by rw[<-hF];exact ho.flatMap_right _);obtain⟨B',q1,q2⟩:=WS _ (W.perm hp);rw[q1,q2.unique b2 λ r t=>Vn hp r t]);rw[c2,decide_eq_true c3];simp only[Bool.true_and,zf,zl,zk,and_true];exact c4
 unfold lA;rw[ad];show pd (fN op (cX (a.map encF) (b.map encF)))=_;rw[O,J,b1];obtain⟨_,x,hx,e⟩:=b2.valid hf;rw[<-e];exact q x hx
def Mo(v:Val):Prop:=-1125899906842624<=v.i/\v.i<=1125899906842624
def LZ(v:Val):Prop:=v.wf/\v.t.length<=1073741824
def sJ{n:Int}(h1:-9223372036854775808<=n)(h2:n<=9223372036854775807):(Lit.int .i64 n).wf:=by show (decide ((IntKind.i64).min<=n)&&decide (n<=(IntKind.i64).max))=true;rw[zf,zl,zl];exact⟨h1,h2⟩
def Ni(v:Val):dw (Sh.int .i64) ((encV v).cells.getD 0 .top):=rfl
def qG(v:Val):Prop:=LZ v/\Mo v
def Ut(s:List UInt8)(hl:s.length<=200):∀d k:Nat,k+d=s.length->∃b,aB (rC s) (k:Int)=some (b,false,())|0,k,h=>by(have hk:k=s.length:=Ω);subst hk;refine⟨false,cQ ?_⟩;simp only[rC,AF,zy,zm,bE,aI]|d+1,k,h=>by(have h1:(k:Int)<(s.length:Int):=Ω);by_cases c1:(((s.getD k (0:UInt8)).toNat:Nat):Int)<32;refine⟨true,cQ ?_⟩;simp only[rC,AF,bR,h1,c1];by_cases c2:(((s.getD k (0:UInt8)).toNat:Nat):Int)>126;refine⟨true,cQ ?_⟩;simp only[rC,AF,bR,h1,c1,c2];obtain⟨b,ih⟩:=Ut s hl d (k+1) Ω;refine⟨b,?_⟩;rw[<-ih];refine eH ?_;simp only[rC,AF,bR,h1,c1,c2,dN (n:=k) Ω]
def xJa(s:List UInt8)(hl:s.length<=200):∃b,Ju s=some b:=by obtain⟨b,e⟩:=Ut s hl s.length 0 Ω;have e:aB (rC s) (0:Int)=some (b,false,()):=e;unfold Ju OX;rw[e];cases b with|true=>exact⟨false,rfl⟩|false=>exact⟨true,rfl⟩
def xKV(k i:Int)(t:List UInt8):∃b,Q9 k i t=some b/\(b->qG ⟨k,i,t⟩):=by
 have G:0<=k->k<=3->-1125899906842624<=i->i<=1125899906842624->t.length<=200->qG ⟨k,i,t⟩:=λ h1 h2 h3 h4 h5=>
  ⟨⟨⟨sJ (show -9223372036854775808<=k by omega) (show k<=9223372036854775807 by omega),sJ (show -9223372036854775808<=i by omega) (show i<=9223372036854775807 by omega),by show t.length<=maxLen;unfold maxLen;omega⟩,by show t.length<=_;omega⟩,⟨h3,h4⟩⟩
 unfold Q9 QM;by_cases k0:k=0;by_cases i0:i=0;refine⟨t==[],by simp[dY,k0,i0,aI],λ h=>?_⟩;have:t=[]:=by simpa using h
 exact G Ω Ω Ω Ω (by rw[this];simp);exact⟨false,by simp[dY,k0,i0,aI],λ h=>by simp at h⟩;by_cases k1:k=1;by_cases t0:t=[];by_cases i0:i>=-1125899906842624;refine⟨decide (i<=1125899906842624),by simp[dY,k1,t0,i0,aI],λ h=>?_⟩;have:i<=1125899906842624:=by simpa using h
 exact G Ω Ω Ω Ω (by rw[t0];simp);exact⟨false,by simp[dY,k1,t0,i0,aI],λ h=>by simp at h⟩;exact⟨false,by simp[dY,k1,t0,aI],λ h=>by simp at h⟩;by_cases k2:k=2;by_cases i0:i=0;by_cases tl:(t.length:Int)<=200;obtain⟨b,hb⟩:=xJa t Ω;refine⟨b,by simp[dY,k2,i0,tl,hb,aI],λ h=>?_⟩;exact G Ω Ω Ω Ω Ω;exact⟨false,by simp[dY,k2,i0,tl,aI],λ h=>by simp at h⟩;exact⟨false,by simp[dY,k2,i0,aI],λ h=>by simp at h⟩;by_cases k3:k=3;by_cases t0:t=[];by_cases i0:i=0;exact⟨true,by simp[dY,k3,t0,i0,aI],λ h=>G Ω Ω Ω Ω (by rw[t0];simp)⟩;refine⟨i==1,by simp[dY,k3,t0,i0,aI],λ h=>?_⟩;have:i=1:=by simpa using h
 exact G Ω Ω Ω Ω (by rw[t0];simp);exact⟨false,by simp[dY,k3,t0,aI],λ h=>by simp at h⟩;exact⟨false,by simp[dY,k0,k1,k2,k3,aI],λ h=>by simp at h⟩
def UC(row:Row)(q:List Int)(hl:row.length=q.length)(hk:q.length<=48):∀d n:Nat,n+d=row.length->∃b,aB (qR (row.map encV) (q.map encN)) (n:Int)=some (!b,false,())/\(b=true->∀v,v∈row.drop n->qG v)
 |0,n,h=>by
  have hn:n=row.length:=by omega
  subst hn;refine⟨true,cQ ?_,λ _ v hv=>by rw[zq (zd _)]at hv;simp at hv⟩
  simp only[qR,yh,za,zy,zm,bE,Bool.not_true,aI]
 |d+1,n,h=>by
  have hn:n<row.length:=by omega
  have J:n<q.length:=by omega
  have h1:(n:Int)<(row.length:Int):=by omega
  have h2:(n:Int)<(q.length:Int):=by omega
  have gf:(row.map encV).getD n .top=encV row[n]:=cH _ _ _ hn;have gk:(q.map encN).getD n .top=encN q[n]:=cH _ _ _ J;obtain⟨b1,e1,g1⟩:=xKV row[n].k row[n].i row[n].t;cases b1 with
  |false=>
   refine⟨false,cQ ?_,λ h=>by simp at h⟩
   simp only[qR,yh,BS,bR,hn,h1,gf,uc,ud,ue,lV,sV,e1]
  |true=>
   obtain⟨b,ih,O⟩:=UC row q hl hk d (n+1) (by omega)
   have hd:∀c,c=true->b=c->∀v,v∈row.drop n->qG v:=λ c hc hb v hv=>by
    rw[jr hn]at hv;rcases zC.1 hv with rfl|hv
    . exact g1 rfl
    . exact O (by rw[hb,hc]) v hv
   by_cases k0:row[n].k=0
   . refine⟨b,?_,λ hb=>hd true rfl hb⟩
     rw[<-ih];refine eH ?_;have k0':(row[n].k !=0)=false:=by simp[k0]
     simp only[qR,yh,BS,bR,hn,h1,gf,uc,ud,ue,lV,sV,Ni,e1,k0',dN (n:=n) (by omega)]
   . have k0':(row[n].k !=0)=true:=by simp[k0]
     by_cases kk:row[n].k=q[n]
     . refine⟨b,?_,λ hb=>hd true rfl hb⟩
       rw[<-ih];refine eH ?_;have kk':(row[n].k !=q[n])=false:=by simp[kk]
       simp only[qR,yh,BS,bR,hn,J,h1,h2,gf,gk,uc,ud,ue,lV,sV,cN,sN,Ni,e1,k0',kk',dN (n:=n) (by omega)]
     . have kk':(row[n].k !=q[n])=true:=by simp[kk]
       refine⟨false,cQ ?_,λ h=>by simp at h⟩
       simp only[qR,yh,BS,bR,hn,J,h1,h2,gf,gk,uc,ud,ue,lV,sV,cN,sN,Ni,e1,k0',kk']
def xJk(row:Row)(q:List Int)(hk:q.length<=48):∃b,KH (row.map encV) (q.map encN)=some b/\(b->row.length=q.length/\∀v,v∈row->qG v):=by unfold KH Rg;by_cases hl:row.length=q.length;obtain⟨b,e,g⟩:=UC row q hl hk row.length 0 Ω;have e:aB (qR (row.map encV) (q.map encN)) (0:Int)=_:=e;refine⟨b,?_,λ hb=>⟨hl,by simpa using g hb⟩⟩;rw[e];simp only[bR,hl,bne_self_eq_false];cases b<;>rfl;refine⟨false,?_,λ h=>by simp at h⟩;(have:(((row.length:Nat):Int) !=((q.length:Nat):Int)):=by simp;omega);simp only[za,this,aW,aI]
def Uc(q:List Int)(hk:q.length<=48):∀d n:Nat,n+d=q.length->∃b,aB (sW (q.map encN)) (n:Int)=some (b,false,())|0,n,h=>by(have hn:n=q.length:=Ω);subst hn;refine⟨false,cQ ?_⟩;simp only[sW,Es,za,zy,zm,bE,aI]|d+1,n,h=>by(have hn:n<q.length:=Ω);(have h1:(n:Int)<(q.length:Int):=Ω);have gk:(q.map encN).getD n .top=encN q[n]:=cH _ _ _ hn;cases c:Se q[n]with|false=>refine⟨true,cQ ?_⟩;simp only[sW,Es,bR,hn,h1,gk,cN,sN,c]|true=>obtain⟨b,ih⟩:=Uc q hk d (n+1) Ω;refine⟨b,?_⟩;rw[<-ih];refine eH ?_;simp only[sW,Es,bR,hn,h1,gk,cN,sN,c,dN (n:=n) Ω]
def xF0(q:List Int)(hk:q.length<=48):∃b,Kp (q.map encN)=some b:=by obtain⟨b,e⟩:=Uc q hk q.length 0 Ω;have e:aB (sW (q.map encN)) (0:Int)=some (b,false,()):=e;unfold Kp QO;rw[e];cases b with|true=>exact⟨false,rfl⟩|false=>exact⟨true,rfl⟩
def np(q:List Int)(f:Fc):Prop:=pv f.p/\f.r.length=q.length/\∀v,v∈f.r->qG v
def xzs(q:List Int)(hk:q.length<=48)(l:List Fc)(hl:l.length<=1024):∀d n:Nat,n+d=l.length->∃b,aB sZ ((n:Int),q.map encN,l.map encF)=some (if b=true then(false,(false,[],[]),(q.map encN,l.map encF))else(true,(false,q.map encN,l.map encF),([],[])))/\(b=true->∀f,f∈l.drop n->np q f)|0,n,h=>by(have hn:n=l.length:=by omega);subst hn;refine⟨true,cQ ?_,λ _ v hv=>by rw[zq (zd _)]at hv;simp at hv⟩;simp only[sZ,BV,za,zy,zm,bE,if_true,aI]|d+1,n,h=>by(have hn:n<l.length:=by omega);(have h1:(n:Int)<(l.length:Int):=by omega);have gf:(l.map encF).getD n .top=encF l[n]:=cH _ _ _ hn;obtain⟨b1,e1,g1⟩:=xJk l[n].r q hk;cases hv:pv l[n].p with|false=>refine⟨false,cQ ?_,λ h=>by simp at h⟩;simp only[sZ,BV,bR,hn,h1,gf,mV,mW,mX,m7,m8,m9,lF,im,il,CD,hv,if_false];simp|true=>cases b1 with|false=>refine⟨false,cQ ?_,λ h=>by simp at h⟩;simp only[sZ,BV,bR,hn,h1,gf,mV,mW,mX,m7,m8,m9,lF,im,il,CD,hv,e1];simp|true=>obtain⟨b,ih,J⟩:=xzs q hk l hl d (n+1) (by omega);refine⟨b,?_,λ hb f hf=>?_⟩;rw[<-ih];refine eH ?_;simp only[sZ,BV,bR,hn,h1,gf,mV,mW,mX,m7,m8,m9,lF,im,il,CD,hv,e1,dN (n:=n) (by omega)];rw[jr hn]at hf;rcases zC.1 hf with rfl|hf;exact⟨hv,g1 rfl⟩;exact J hb f hf
def xJs(q:List Int)(hk:q.length<=48)(l:List Fc)(hl:l.length<=1024):∃b,Kq (q.map encN) (l.map encF)=some b/\(b=true->∀f,f∈l->np q f):=by obtain⟨b,e,g⟩:=xzs q hk l hl l.length 0 (by omega);have e:aB sZ ((0:Int),q.map encN,l.map encF)=_:=e;obtain⟨bk,ek⟩:=xF0 q hk;unfold Kq QR;cases b with|false=>rw[if_neg (by simp)]at e;refine⟨false,?_,λ h=>by simp at h⟩;simp only[Fm,vc,bR,e]|true=>(rw[if_pos rfl]at e;have h1:((q.length:Nat):Int)<=48:=by omega);by_cases h0:((q.length:Nat):Int)>0;refine⟨bk,?_,λ _ f hf=>g rfl f (by simpa using hf)⟩;simp only[Fm,vc,bR,e,h0,h1,ek];refine⟨false,?_,λ h=>by simp at h⟩;simp only[Fm,vc,bR,e,h0]
def Vw(a b:List Int)(ha:a.length<=1048576):BJ (a.map encN) (b.map encN)=some (decide (a=b)):=by
 unfold BJ O0;by_cases hl:a.length=b.length;have e:aB (xr (a.map encN) (b.map encN)) (0:Int)=some (if a=b then(false,false,())else(true,false,())):=by refine Tr a b hl (λ n h h2=>?_) ?_;(have h1:(n:Int)<(a.length:Int):=Ω);(have h3:(n:Int)<(b.length:Int):=Ω);have gf:(a.map encN).getD n .top=encN a[n]:=cH _ _ _ h;have gg:(b.map encN).getD n .top=encN b[n]:=cH _ _ _ h2;simp only[xr,H5,bR,h,h1,h2,h3,gf,gg,cN,sN,dN (n:=n) Ω];by_cases he:a[n]=b[n]<;>simp[he,aW,bE,dY,aI];simp only[xr,H5,za,zy,zm,bE,aI]
 have hne:(((a.length:Nat):Int) !=((b.length:Nat):Int))=false:=by simp[hl]
 simp only[za,hne,bE,e,aI];by_cases he:a=b<;>simp[he,aW,bE,aI];have hne:(((a.length:Nat):Int) !=((b.length:Nat):Int)):=by simp;omega
 have:a≠b:=λ e=>hl (by rw[e]);simp only[za,hne,aW,this,zm,aI]
structure C2 (K:List Int) (l:List Fc):Prop where
 len:l.length<=16
 kl:K.length<=48
 fact:∀f,f∈l->np K f
def Xq(K:List Int)(l:List Fc):∃b,Cz (K.map encN) (l.map encF)=some b/\(b->C2 K l):=by unfold Cz Q3;simp only[za];by_cases h1:((l.length:Nat):Int)<=16;by_cases h2:((K.length:Nat):Int)<=48;obtain⟨b,e,g⟩:=xJs K Ω l Ω;refine⟨b,?_,λ hb=>⟨by omega,by omega,g hb⟩⟩;simp only[h1,h2,zn,aW,e,zk,zh,aI];refine⟨false,?_,λ h=>by simp at h⟩;simp only[h1,h2,zn,zm,aW,bE,aI];refine⟨false,?_,λ h=>by simp at h⟩;simp only[h1,zm,bE,aI]
def xKN(Ka Kb:List Int)(a b:List Fc):∃c,KF (Ka.map encN) (a.map encF) (Kb.map encN) (b.map encF)=some c/\(c->C2 Ka a/\C2 Kb b/\Ka=Kb):=by obtain⟨x,x1,x2⟩:=Xq Ka a;obtain⟨y,y1,y2⟩:=Xq Kb b;unfold KF QT;cases x with|false=>exact⟨false,by simp only[x1,zk,zh,aW,bE,aI],λ h=>by simp at h⟩|true=>cases y with|false=>exact⟨false,by simp only[x1,y1,zk,zh,aW,bE,aI],λ h=>by simp at h⟩|true=>have e:=Vw Ka Kb (by have:=(x2 rfl).kl;omega);refine⟨decide (Ka=Kb),by simp only[x1,y1,e,zk,zh,aW,aI],λ h=>⟨x2 rfl,y2 rfl,by simpa using h⟩⟩
def cW(l:List Fc):Prop:=∀f,f∈l->f.r.length<=48/\∀v,v∈f.r->qG v
def C2.nice{K:List Int}{l:List Fc}(h:C2 K l):cW l:=λ f hf=>by have h1:=(h.fact f hf).2.1;have h2:=h.kl;exact⟨by omega,(h.fact f hf).2.2⟩
def cW.keyed{l:List Fc}(h:cW l)(hl:l.length<=1048576):Keyed l:=⟨⟨hl,λ f hf=>by have:=(h f hf).1;omega⟩,λ f hf=>⟨λ v hv=>⟨((h f hf).2 v hv).1.1,by have:=((h f hf).2 v hv).1.2;omega⟩,SB (λ v hv=>((h f hf).2 v hv).1) (by have:=(h f hf).1;omega)⟩⟩
def cW.few{l:List Fc}(h:cW l)(hl:l.length<=1048576):oM l:=(h.keyed hl).1
def cW.bld{l:List Fc}(h:cW l)(hl:l.length<=1024)(q:kJ l):vX l:=⟨h.keyed Ω,hl,q⟩
def cW.append{a b:List Fc}(ha:cW a)(hb:cW b):cW (a++b):=λ f hf=>by rcases zG.1 hf with h|h;exact ha f h;exact hb f h
def cW.of{a b l:List Fc}(ha:cW a)(hb:cW b)(h:∀f,f∈l->(∃x,x∈a/\x.r=f.r)\/∃x,x∈b/\x.r=f.r):cW l:=λ f hf=>by rcases h f hf with⟨x,hx,e⟩|⟨x,hx,e⟩;rw[<-e];exact ha x hx;rw[<-e];exact hb x hx
structure kK (N:Row->Int->Nat) (m:Nat) (B:List Fc):Prop where
 isB:kT N B
 len:B.length<=m
 nice:cW B
def yC{N:Int->Nat}(h:bA P)(hP:∀t,inL P t=decide (0<N t)):bD (λ t=>if 0<N t then 1 else 0) P:=by refine⟨List.Pairwise.imp_of_mem (λ{p q} hp hq J=>vN.2 (.inl (by have:=iF.1 (h.1 p hp);omega))) h.2,λ k=>if k=0 then P else[],1,λ t=>by split<;>omega,λ k=>?_,by simp⟩;by_cases hk:k=0;subst hk;refine⟨by simpa using h,λ t=>?_⟩;simp only[if_true,hP];by_cases h0:0<N t<;>simp[h0];refine⟨by simp[hk,Cq],λ t=>?_⟩;simp only[hk,if_false,pQ];symm;rw[decide_eq_false_iff_not];split<;>omega
def oy.isB{l B:List Fc}(h:oy l B):kT (λ r t=>if 0<cnt l r t then 1 else 0) B:=by obtain⟨R,L,h1,h2,rfl⟩:=h;refine⟨R,L,h1.1,λ r t ht=>(h1.2 r).2 (Gk.2 ⟨t,?_⟩),λ r hr=>yC (h2 r hr).1 (h2 r hr).2,rfl⟩;by_cases h0:0<cnt l r t;exact h0;simp[h0]at ht
def oy.len1{l B:List Fc}(h:oy l B):B.length<=l.length:=by(obtain⟨R,L,h1,h2,rfl⟩:=h;have e:=RN (L:=L) (a:=l) (b:=[]) R λ r hr=>by(have:=Gc (yC (h2 r hr).1 (h2 r hr).2) ((fx l r).map (·.1)) λ t=>by have:=vk (fx l r) t;rw[CP,CP]at this;by_cases c1:0<cnt l r t;by_cases c2:0<cnt l r (t - 1);simp only[c1,c2,if_true];omega;simp only[c1,c2,if_true,if_false];omega;simp only[c1,if_false];omega);simp at this;omega);have hn:=h1.1.nodup mj;have e2:=Gs l R hn;have e3:=Gs [] R hn;rw[List.length_nil]at e3;omega
def xPq(K:List Int):List.take K.length (K.map encN)=K.map encN:=zi Ψ
def UW(K:List Int)(kb:List AV){a b:List Fc}(hK:K.length<=1048576)(ha:cW a)(hb:cW b)(hl:a.length+b.length<=1024)(q:kJ (a++b)):∃B:List Fc,tC (K.map encN) (a.map encF) kb (b.map encF)=some (K.map encN,B.map encF)/\kK (λ r t=>cnt a r t+cnt b r t) (a.length+b.length) B:=by obtain⟨B,b1,b2,b3,b4⟩:=Tq opA (ha.keyed Ω) (hb.keyed Ω) hl q;(refine⟨B,?_,b2,b3,ha.of hb b4⟩;have b1:Li (a.map encF) (b.map encF)=some (B.map encF):=b1;have m:K.length<=1099511627776:=Ω);unfold tC Qz;simp only[za,m,b1,zk,zh,zn,Bool.and_self,aW,aI]
def xzo(K:List Int)(kb:List AV){a b:List Fc}(hK:K.length<=1048576)(ha:cW a)(hb:cW b)(hl:a.length+b.length<=1024)(q:kJ (a++b)):∃B:List Fc,tA (K.map encN) (a.map encF) kb (b.map encF)=some (K.map encN,B.map encF)/\kK (λ r t=>cnt a r t - cnt b r t) (a.length+b.length) B:=by obtain⟨B,b1,b2,b3,b4⟩:=Tq opX (ha.keyed Ω) (hb.keyed Ω) hl q;(refine⟨B,?_,b2,b3,ha.of hb b4⟩;have b1:Lk (a.map encF) (b.map encF)=some (B.map encF):=b1;have m:K.length<=1099511627776:=Ω);unfold tA PZ;simp only[za,m,b1,zk,zh,zn,Bool.and_self,aW,aI]
def UR(K:List Int)(kb:List AV){a b:List Fc}(hK:K.length<=1048576)(ha:cW a)(hb:cW b)(hl:a.length+b.length<=1024)(q:kJ (a++b)):∃B:List Fc,tw (K.map encN) (a.map encF) kb (b.map encF)=some (K.map encN,B.map encF)/\kK (λ r t=>min (cnt a r t) (cnt b r t)) (a.length+b.length) B:=by obtain⟨B,b1,b2,b3,b4⟩:=Tq opM (ha.keyed Ω) (hb.keyed Ω) hl q;(refine⟨B,?_,b2,b3,ha.of hb b4⟩;have b1:Lj (a.map encF) (b.map encF)=some (B.map encF):=b1;have m:K.length<=1099511627776:=Ω);unfold tw Py;simp only[za,m,b1,zk,zh,zn,Bool.and_self,aW,aI]
def VM{a:List Fc}(ha:cW a)(hl:a.length<=1024)(q:kJ a):∃B:List Fc,Cf (a.map encF)=some (B.map encF)/\oy a B/\kK (λ r t=>if 0<cnt a r t then 1 else 0) a.length B:=by obtain⟨B,b1,b2⟩:=xMx a (ha.bld hl q);exact⟨B,b1,b2,b2.isB,b2.len1,b2.all (Q:=λ r=>r.length<=48/\∀v,v∈r->qG v) ha⟩
def xvF(K:List Int){a:List Fc}(hK:K.length<=1048576)(ha:cW a)(hl:a.length<=1024)(q:kJ a):∃B:List Fc,qY (K.map encN) (a.map encF)=some (K.map encN,B.map encF)/\oy a B/\kK (λ r t=>if 0<cnt a r t then 1 else 0) a.length B:=by(obtain⟨B,b1,b2,b3⟩:=VM ha hl q;refine⟨B,?_,b2,b3⟩;have m1:K.length*8<=140737488355328:=Ω);(have m2:K.length<=4611686018427387904:=Ω);unfold qY Pk;simp only[za,m1,m2,b1,zk,zh,zn,Bool.and_self,zH,zd,aW,zr,xPq,aI]
def kK.cnt{N:Row->Int->Nat}{B:List Fc}(h:kK N m B)(r:Row)(t:Int):cnt B r t=N r t:=h.isB.cntB r t
def cW.short{l:List Fc}(h:cW l):∀f,f∈l->f.r.length<=60:=λ f hf=>by have:=(h f hf).1;omega
def sH (ky:AV->List UInt8) (pt:AV->List AV) (s:List En×List AV) (f:AV):List En×List AV:=(d8 s.1 (ky f) (lI f),match d9 s.1 (ky f) with|none=>s.2++[.list 3 (pt f)]|some _=>s.2)
def Xh(ky:AV->List UInt8)(pt:AV->List AV):∀(l:List AV)(s:List En×List AV),(l.foldl (sH ky pt) s).1=l.foldl (λ es x=>d8 es (ky x) (lI x)) s.1|[],s=>rfl|x::l,s=>by rw[List.foldl_cons,List.foldl_cons,Xh ky pt l];rfl
def Xy(k s:List UInt8)(p:AV):∀es:List En,(d9 (d8 es k p) s).isNone=((d9 es s).isNone&&!(k==s))|[]=>by simp only[d8,d9];cases k==s<;>rfl|e::es=>by have ih:=Xy k s p es;rw[d8];cases he:e.1==k with|true=>((have e1:e.1=k:=by simpa using he);dsimp only;rw[d9,d9,e1];cases h:k==s with|true=>rfl|false=>simp)|false=>dsimp only;rw[d9,d9];cases h:e.1==s with|true=>rfl|false=>dsimp only;rw[Option.isNone_map,Option.isNone_map,ih]
def jb(π:Row->Row)(l:List Fc)(ρ:Row):List aF:=(l.filter λ f=>decide (π f.r=ρ)).map (·.p)
def oP(π:Row->Row)(ky:AV->List UInt8)(pt:AV->List AV)(l:List Fc):Prop:=∀f,f∈l->ky (encF f)=keyOf (π f.r)/\pt (encF f)=(π f.r).map encV
variable {ky:AV->List UInt8}{pt:AV->List AV}{π:Row->Row}
def NJ:∀(l:List Fc)(h:oP π ky pt l)(es:List En)(R:List Row),R.Nodup->(∀r,(d9 es (keyOf r)).isNone=decide (r∉R))->
  ∃R':List Row,((l.map encF).foldl (sH ky pt) (es,R.map encR)).2=R'.map encR/\R'.Nodup/\(∀r,r∈R'↔r∈R\/∃f,f∈l/\π f.r=r)/\R'.length<=R.length+l.length
 |[],h,es,R,hR,hi=>⟨R,rfl,hR,λ r=>by simp,by simp⟩
 |f::l,h,es,R,hR,hi=>by
  obtain⟨h1,h2⟩:=h f (by simp)
  have hl:oP π ky pt l:=λ g hg=>h g (by simp[hg])
  have q:=hi (π f.r);rw[zV,List.foldl_cons];have J:∀R2:List Row,(∀r,r∈R2↔r∈R\/π f.r=r)->∀r,(d9 (d8 es (keyOf (π f.r)) (lI (encF f))) (keyOf r)).isNone=decide (r∉R2):=λ R2 h2 r=>by
   rw[Xy,hi];by_cases hr:π f.r=r
   . have:(keyOf (π f.r)==keyOf r)=true:=by simp[hr]
     rw[this];have hm:r∈R2:=(h2 r).2 (.inr hr);simp[hm]
   . have:(keyOf (π f.r)==keyOf r)=false:=by
      rw[beq_eq_false_iff_ne];exact λ e=>hr (Gu e)
     rw[this];have:r∈R2↔r∈R:=by rw[h2];simp[hr]
     simp[this]
  cases hc:d9 es (keyOf (π f.r))with
  |none=>
   rw[hc]at q;have hn:π f.r∉R:=by
    have:true=decide (π f.r∉R):=q;exact of_decide_eq_true this.symm
   have e:sH ky pt (es,R.map encR) (encF f)=(d8 es (keyOf (π f.r)) (lI (encF f)),(R++[π f.r]).map encR):=by
    unfold sH;rw[h1,h2];dsimp only;rw[hc];simp[encR]
   rw [e];obtain ⟨R',r1,r2,r3,r4⟩:=NJ l hl (d8 es (keyOf (π f.r)) (lI (encF f))) (R++[π f.r]) (List.nodup_append.2 ⟨hR,by simp,fun a ha b hb e=>by
    simp at hb;exact hn (by rw [<-hb,<-e];exact ha)⟩) (J _ fun r=>by
     rw [zG,zv];exact ⟨fun c=>c.imp id Eq.symm,fun c=>c.imp id Eq.symm⟩)
   refine⟨R',r1,r2,λ r=>?_,by rw[z8,zj]at r4;rw[zF];omega⟩
   rw[r3,zG,zv];constructor
   . rintro((h|rfl)|⟨g,g1,g2⟩)
     . exact .inl h
     . exact .inr ⟨f,by simp,rfl⟩
     . exact .inr ⟨g,by simp[g1],g2⟩
   . rintro(h|⟨g,g1,g2⟩)
     . exact .inl (.inl h)
     . rcases zC.1 g1 with rfl|g1
       . exact .inl (.inr g2.symm)
       . exact .inr ⟨g,g1,g2⟩
  |some j=>
   rw[hc]at q;have hn:π f.r∈R:=by
    have:false=decide (π f.r∉R):=q;have:=of_decide_eq_false this.symm;simpa using this
   have e:sH ky pt (es,R.map encR) (encF f)=(d8 es (keyOf (π f.r)) (lI (encF f)),R.map encR):=by
    unfold sH;rw[h1];dsimp only;rw[hc]
   rw[e];obtain⟨R',r1,r2,r3,r4⟩:=NJ l hl (d8 es (keyOf (π f.r)) (lI (encF f))) R hR (J _ λ r=>⟨.inl,λ c=>c.elim id λ e=>e▸hn⟩)
   refine⟨R',r1,r2,λ r=>?_,by rw[zF];omega⟩
   rw[r3];constructor
   . rintro(h|⟨g,g1,g2⟩)
     . exact .inl h
     . exact .inr ⟨g,by simp[g1],g2⟩
   . rintro(h|⟨g,g1,g2⟩)
     . exact .inl h
     . rcases zC.1 g1 with rfl|g1
       . exact .inl (g2▸hn)
       . exact .inr ⟨g,g1,g2⟩
def xHA(es:List En)(s:List UInt8):dP (es.map aJ) s=eO es s:=by unfold dP;rw[yx];cases h:d9 es s with|none=>exact(xyY h).symm|some i=>have hi:=yL h;rw[xyZ h];dsimp only;rw[show (es.map aJ).getD i .top=aJ (es.getD i default) by simp[z7,hi]];rfl
def xHX(es:List En)(s:List UInt8):(!iO (es.map aJ) s || jW 2 (eP AV.nils (es.map aJ) s)):=by unfold eP iO;rw[yx];cases h:d9 es s with|none=>rfl|some i=>have hi:=yL h;dsimp only;rw[show (es.map aJ).getD i .top=aJ (es.getD i default) by simp[z7,hi]];rfl
def xKE{l:List Fc}(h:oP π ky pt l)(ρ:Row):dP ((((l.map encF).foldl (sH ky pt) ([],[])).1).map aJ) (keyOf ρ)=(jb π l ρ).map aA:=by(rw[xHA,Xh,Ug];show []++_=_;rw[zU];unfold jb;rw[List.filter_map,List.map_map,List.map_map];have:l.filter ((λ x=>ky x==keyOf ρ)∘encF)=l.filter λ f=>decide (π f.r=ρ):=List.filter_congr λ f hf=>by show (ky (encF f)==keyOf ρ)=_;rw[(h f hf).1];by_cases hr:π f.r=ρ;simp[hr];(have:(keyOf (π f.r)==keyOf ρ)=false:=by rw[beq_eq_false_iff_ne];exact λ e=>hr (Gu e));rw[this];simp[hr]);rw[this];rfl
structure wg (π:Row->Row) (l:List Fc) (ms rs:List AV) (R:List Row):Prop where
 look:∀ρ,dP ms (keyOf ρ)=(jb π l ρ).map aA
 row:∀s,(!iO ms s || jW 2 (eP AV.nils ms s))
 rows:rs=R.map encR
 nd:R.Nodup
 mem:∀r,r∈R↔∃f,f∈l/\π f.r=r
 len:R.length<=l.length
def V2{l:List Fc}(h:oP π ky pt l):∃R,wg π l ((((l.map encF).foldl (sH ky pt) ([],[])).1).map aJ) ((l.map encF).foldl (sH ky pt) ([],[])).2 R:=by(obtain⟨R,r1,r2,r3,r4⟩:=NJ l h [] [] List.nodup_nil λ r=>by simp[d9]);exact⟨R,xKE h,xHX _,r1,r2,λ r=>by rw[r3];simp,by simpa using r4⟩
def xMR{l:List Fc}(h:Keyed l):oP id (λ f=>kyQ none (rowF f)) (λ f=>l8 none (rowF f)) l:=λ f hf=>by refine⟨?_,rfl⟩;show (iP (f.r.map encV)).getD []=keyOf f.r;rw[h.skey hf];rfl
def Vf{l:List Fc}(h:Keyed l):CN (l.map encF)/\∃R,wg id l (r8 (l.map encF)) (SJ (l.map encF)) R:=by
 refine⟨?_,V2 (xMR h)⟩;have hl:=h.1.1;unfold CN;simp only[zf,zl,zI,List.mem_range,za];refine⟨by omega,λ i hi=>?_⟩;rw[cH _ _ _ hi];have hf:=zo hi;have e1:=h.skey hf;have e2:=(h.2 _ hf).2;have m:(keyOf l[i].r).length<=4611686018427387904:=Ω
 unfold sq;have c1:((encF l[i]).cells.length==3):=rfl;have c2:ew [.list 3,.int .i64,.int .i64] (encF l[i]).cells 0:=rfl;have c3:GQ none (rowF (encF l[i])):=rfl;have c4:iP (l8 none (rowF (encF l[i])))=some (keyOf l[i].r):=e1;have c5:kyQ none (rowF (encF l[i]))=keyOf l[i].r:=by unfold kyQ;rw[c4];rfl
 rw[c1,c2,c3,c4,c5];simp[m]
def WC(n:Nat)(r:Row)(hn:n<=r.length)(hr:r.length<=1048576):yp (r.map encV) (n:Int)=some ((r.take n).map encV):=by(have v:Fa (r.map encV) (n:Int)=(n:Int):=by unfold Fa;rw[za];split<;>omega);(have h1:(n:Int)<=(r.length:Int):=Ω);unfold yp QG;rw[v];simp only[za,h1,Int.natCast_nonneg,zn,Bool.and_self,aW,zN,Nat.sub_zero,zr,List.map_take,aI]
def VJ{l:List Fc}(h:cW l){f:Fc}(hf:f∈l)(n:Nat):iP ((f.r.take n).map encV)=some (keyOf (f.r.take n))/\(keyOf (f.r.take n)).length<=4611686018427387904:=by(obtain⟨h1,h2⟩:=h f hf;have hl:(f.r.take n).length<=48:=by rw[zt];omega);have hv:∀v,v∈f.r.take n->qG v:=λ v hv=>h2 v (List.mem_of_mem_take hv);have hk:=SB (r:=f.r.take n) (λ v q=>(hv v q).1) Ω;exact⟨Nn _ Ω (λ v q=>⟨(hv v q).1.1,by have:=(hv v q).1.2;omega⟩) hk,by omega⟩
def xMQ{l:List Fc}(h:cW l)(n:Nat)(hn:∀f,f∈l->n<=f.r.length):oP (·.take n) (λ f=>kyQ (some (n:Int)) (rowF f)) (λ f=>l8 (some (n:Int)) (rowF f)) l:=λ f hf=>by(have e:l8 (some (n:Int)) (rowF (encF f))=(f.r.take n).map encV:=by show (yp (f.r.map encV) (n:Int)).getD []=_;rw[WC n f.r (hn f hf) (by have:=(h f hf).1;omega)];rfl);refine⟨?_,e⟩;show (iP (l8 (some (n:Int)) (rowF (encF f)))).getD []=keyOf (f.r.take n);rw[e,(VJ h hf n).1];rfl
def xI4{l:List Fc}(h:cW l)(hl:l.length<=1048576)(n:Nat)(hn:∀f,f∈l->n<=f.r.length):Gp (l.map encF) (n:Int)/\∃R,wg (·.take n) l (Gh (l.map encF) (n:Int)) (KR (l.map encF) (n:Int)) R:=by
 refine⟨?_,V2 (xMQ h n hn)⟩;unfold Gp;simp only[zf,zl,zI,List.mem_range,za];refine⟨by omega,λ i hi=>?_⟩;rw[cH _ _ _ hi];have hf:=zo hi;obtain⟨e1,e2⟩:=VJ h hf n;have e3:=WC n l[i].r (hn _ hf) (by have:=(h _ hf).1;omega);have c3:GQ (some (n:Int)) (rowF (encF l[i])):=by show (yp (l[i].r.map encV) (n:Int)).isSome=true;rw[e3];rfl
 have c6:l8 (some (n:Int)) (rowF (encF l[i]))=(l[i].r.take n).map encV:=by show (yp (l[i].r.map encV) (n:Int)).getD []=_;rw[e3];rfl
 have c5:kyQ (some (n:Int)) (rowF (encF l[i]))=keyOf (l[i].r.take n):=by unfold kyQ;rw[c6,e1];rfl
 unfold sq;have c1:((encF l[i]).cells.length==3):=rfl;have c2:ew [.list 3,.int .i64,.int .i64] (encF l[i]).cells 0:=rfl;rw[c1,c2,c3,c5,c6,e1];simp[e2]
theorem WD(X:List aF)(t:Int):inL X t=decide (0<X.countP (aG · t)):=by rw[Bool.eq_iff_iff,zl,List.countP_pos_iff];unfold inL;rw[List.any_eq_true]
theorem Nr{X Y r:List aF}(h:bA r)(hr:∀t,inL r t=(inL X t&&!inL Y t)):r.length<=X.length+Y.length:=by
 have:=Gc (yC (N:=fun t=>if 0<X.countP (aG · t)/\¬ 0<Y.countP (aG · t) then 1 else 0) h fun t=>by
  rw [hr,WD,WD];by_cases c1:0<X.countP (aG · t)<;>by_cases c2:0<Y.countP (aG · t)<;>simp [c1,c2]) (X.map (·.1)++Y.map (·.2)) fun t=>by
  have h1:=vk X t;have h2:=xwg Y t;rw[List.count_append];by_cases c1:0<X.countP (aG · t)
  . by_cases c2:0<Y.countP (aG · t)
    . simp[c1,c2]
    . by_cases c3:0<X.countP (aG · (t - 1))
      . by_cases c4:0<Y.countP (aG · (t - 1))
        . simp[c1,c2,c3,c4];omega
        . simp[c1,c2,c3,c4]
      . simp[c1,c2,c3];omega
  . simp[c1]
 simpa using this
theorem xGx(h t:Row)(hl:h.length+t.length<=1048576):FD (h.map encV) (t.map encV)=some ((h++t).map encV):=by
 have w0:IntKind.i64.wrap (0+(h.length:Int))=(h.length:Int):=by rw[gx Ω Ω];omega
 have w1:IntKind.i64.wrap ((h.length:Int)+(t.length:Int))=((h.length+t.length:Nat):Int):=by rw[gx Ω Ω];omega
 have n0:¬ (h.length:Int)<0:=Ω
 have n1:¬ ((h.length+t.length:Nat):Int)<0:=Ω
 have n2:((h.length+t.length:Nat):Int)<=4398046511104:=Ω
 have m1:h.length*32<=140737488355328:=Ω
 have m2:h.length<=4611686018427387904:=Ω
 have m3:(h.length+t.length)*32<=140737488355328:=Ω
 have m4:h.length+t.length<=4611686018427387904:=Ω
 have tt:List.take (h.length+t.length) (h.map encV++t.map encV)=h.map encV++t.map encV:=zi Ψ;have e:u9 (h.map encV) (t.map encV)=some ((h++t).map encV):=by unfold u9 I5 I0 Et;simp only[za,w0,w1,n0,n1,n2,m1,m2,m3,m4,Int.natCast_nonneg,zH,zU,z8,zd,zn,zm,Bool.and_self,zS,beq_self_eq_true,aW,bE,zr,tt,zx,aI]
 unfold FD P3;simp only[e,zk,zh,aW,aI]
structure LW (ms:List AV) (D:Row->List aF):Prop where
 look:∀ρ,dP ms (keyOf ρ)=(D ρ).map aA
 row:∀s,(!iO ms s || jW 2 (eP AV.nils ms s))
def nr(r:Row):Prop:=r.length<=48/\∀v,v∈r->qG v
theorem nr.key{r:Row}(h:nr r):iP (r.map encV)=some (keyOf r)/\(keyOf r).length<=4611686018427387904:=by have hk:=SB (r:=r) (λ v q=>(h.2 v q).1) (by have:=h.1;omega);exact⟨Nn _ (by have:=h.1;omega) (λ v q=>⟨(h.2 v q).1.1,by have:=(h.2 v q).1.2;omega⟩) hk,by omega⟩
variable {Du Dv:Row->List aF}{du dv:List AV}
theorem WI(n:Int)(h:Row)(hu:LW du Du)(hv:LW dv Dv)(lu:∀r,(Du r).length<=64)(lv:∀r,(Dv r).length<=64)(T:List Row)(hT:T.length<=64)(ht:∀t,t∈T->nr t/\nr (h++t)):∀(d k:Nat)(l:List aF),k+d=T.length->l.length<=64+128*k->bA l->∃l':List aF,(∀(on:Nat)(Q:List AV)(O J:Int)(a0 a1 hs os:List AV),aB (Bg n (T.map encR) on (h.map encV) Q O J (T.map encR) ((T.length:Nat):Int)) (l.map aA,(k:Int),a0,a1,du,hs,dv,os)=some (l'.map aA,a0,a1,du,hs,dv,os))/\bA l'/\∀τ,inL l' τ=(inL l τ&&(T.drop k).all λ t=>!(inL (Dv t) τ&&!inL (Du (h++t)) τ))|0,k,l,hk,hl,hs=>by(have:k=T.length:=Ω);subst this;refine⟨l,λ on Q O J a0 a1 hs os=>cQ ?_,hs,λ τ=>by rw[zq (zd _)];simp⟩;simp[Bg,IE,bE,aI]|d+1,k,l,hk,hl,hs=>by(have q:k<T.length:=Ω);obtain⟨t1,t2⟩:=ht T[k] (zo q);obtain⟨k1,k2⟩:=t1.key;obtain⟨k3,k4⟩:=t2.key;have c1:=xGx h T[k] (by have:=t2.1;rw[z8]at this;omega);have u1:=hu.look (h++T[k]);have u2:=hu.row (keyOf (h++T[k]));have v1:=hv.look T[k];have v2:=hv.row (keyOf T[k]);have V:=lu (h++T[k]);have lv1:=lv T[k];obtain⟨s,s1,s2,s3⟩:=xwJ (Dv T[k]) (Du (h++T[k])) Ω Ω;have sl:=Nr s2 s3;obtain⟨r,r1,r2,r3⟩:=xwJ l s Ω Ω;have rl:=Nr r2 r3;obtain⟨l',e,b1,b2⟩:=WI n h hu hv lu lv T hT ht d (k+1) r Ω Ω r2;refine⟨l',λ on Q O J a0 a1 hs os=>?_,b1,λ τ=>?_⟩;(rw[<-e on Q O J a0 a1 hs os];refine eH ?_;have i1:(k:Int)<(T.length:Int):=Ω);have gf:(T.map encR).getD k .top=encR T[k]:=cH _ _ _ q;simp only[Bg,IE,xM,xN,bR,q,i1,gf,kV,lc,k1,k2,k3,k4,c1,u1,u2,v1,v2,s1,r1,dN (n:=k) Ω];rw[b2,r3,s3,jr q,List.all_cons,Bool.and_assoc]
theorem WJ(n:Int)(q:List AV)(h:Row)(hh:h.length<=1048576)(P:List aF)(hP:P.length<=1048576)(V:List AV)(Q O:Int)(a0 a1 du hs dv:List AV):∀(d k:Nat)(D:List Fc),k+d=P.length->D.length+d<=1099511627776->
  aB (Bh n q (h.map encV) V Q O (P.map aA) ((P.length:Nat):Int)) (D.length,(k:Int),a0,a1,du,hs,dv,D.map encF)=some ((D++mk h (P.drop k)).length,a0,a1,du,hs,dv,(D++mk h (P.drop k)).map encF)
 |0,k,D,hk,hD=>by
  have:k=P.length:=by omega
  subst this;rw[zq (zd _)];refine cQ ?_;simp[Bh,IF,bE,mk,aI]
 |d+1,k,D,hk,hD=>by
  have J:k<P.length:=by omega
  have i1:(k:Int)<(P.length:Int):=by omega
  have gf:(P.map aA).getD k .top=aA P[k]:=cH _ _ _ J;have m1:(D.length+1)*40<=140737488355328:=by omega
  have m2:D.length+1<=4611686018427387904:=by omega
  have e:D++mk h (P.drop k)=(D++[(⟨h,P[k]⟩:Fc)])++mk h (P.drop (k+1)):=by rw[jr J,zw];rfl
  rw[e,<-WJ n q h hh P hP V Q O a0 a1 du hs dv d (k+1) (D++[(⟨h,P[k]⟩:Fc)]) (by omega) (by rw[z8,zj];omega)]
  refine eH ?_;simp only[Bh,IF,bR,J,i1,gf,iq,ir,lP,sP,iB,iC,m1,m2,dN (n:=k) (by omega),z8,zj,zx,zV,zW]
  simp[encF]
def Tw(n:Int)(T:List Row)(du dv:List AV)(He:Row->List aF)(Du Dv:Row->List aF)(h:Row)(L:List aF):Prop:=(∃l0:List aF,r9 ((He h).map aA)=some (l0.map aA)/\∀(on:Nat)(q:List AV)(t57 t58:Int)(a0 a1 hs os:List AV),aB (Bg n (T.map encR) on (h.map encV) q t57 t58 (T.map encR) ((T.length:Nat):Int)) (l0.map aA,(0:Int),a0,a1,du,hs,dv,os)=some (L.map aA,a0,a1,du,hs,dv,os))/\bA L/\(∀τ,inL L τ=(inL (He h) τ&&T.all λ t=>!(inL (Dv t) τ&&!inL (Du (h++t)) τ)))/\L.length<=1048576
theorem WH(n:Int)(T:List Row)(a0 a1:List AV){he:List AV}{He:Row->List aF}(hh:LW he He)(H:List Row)(hH:H.length<=1024)(hr:∀r,r∈H->nr r)(L:Row->List aF)(hL:∀r,r∈H->Tw n T du dv He Du Dv r (L r)):∀(d k:Nat)(D:List Fc),k+d=H.length->D.length<=1048576*k->
  aB (Bf n (T.map encR) (H.map encR) ((H.length:Nat):Int)) (D.length,(k:Int),a0,a1,du,he,dv,D.map encF)=some ((D++dB (H.drop k) L).length,a0,a1,(D++dB (H.drop k) L).map encF)
 |0,k,D,hk,hD=>by
  have:k=H.length:=by omega
  subst this;rw[zq (zd _)];refine cQ ?_;simp[Bf,ID,bE,dB,aI]
 |d+1,k,D,hk,hD=>by
  have q:k<H.length:=by omega
  have i1:(k:Int)<(H.length:Int):=by omega
  have gf:(H.map encR).getD k .top=encR H[k]:=cH _ _ _ q;have t1:=hr H[k] (zo q);obtain⟨k1,k2⟩:=t1.key;have v1:=hh.look H[k];have v2:=hh.row (keyOf H[k]);obtain⟨⟨l0,q1,q2⟩,_,_,q3⟩:=hL H[k] (zo q);have e1:=q2 D.length (H.map encR) ((H.length:Nat):Int) (k:Int) a0 a1 he (D.map encF);have e2:=WJ n (T.map encR) H[k] (by have:=t1.1;omega) (L H[k]) q3 (H.map encR) ((H.length:Nat):Int) (k:Int) a0 a1 du he dv (L H[k]).length 0 D (by omega) (by omega)
  rw[zr]at e2;have e2:aB (Bh n (T.map encR) (H[k].map encV) (H.map encR) ((H.length:Nat):Int) (k:Int) ((L H[k]).map aA) (((L H[k]).length:Nat):Int)) (D.length,(0:Int),a0,a1,du,he,dv,D.map encF)=_:=e2;have ml:(mk H[k] (L H[k])).length<=1048576:=by unfold mk;rw[za];exact q3
  have e:D++dB (H.drop k) L=(D++mk H[k] (L H[k]))++dB (H.drop (k+1)) L:=by
   rw[jr q,zw];rfl
  rw[e,<-WH n T a0 a1 hh H hH hr L hL d (k+1) (D++mk H[k] (L H[k])) (by omega) (by rw[z8];omega)]
  refine eH ?_;simp only[Bf,ID,tc,rL,AR,bR,q,i1,gf,kV,lc,k1,k2,v1,v2,q1,e1,e2,dN (n:=k) (by omega)]
def lk(n:Nat)(a b:List Fc)(h:Row)(τ:Int):Prop:=(∃f,f∈a/\f.r.take n=h/\aG f.p τ)/\∀t,0<cnt b t τ->0<cnt a (h++t) τ
open Classical in
def fG(n:Nat)(a b:List Fc)(h:Row)(τ:Int):Nat:=if lk n a b h τ then 1 else 0
variable {h:Row}{τ:Int}
theorem vI{n:Nat}{a b:List Fc}:0<fG n a b h τ↔lk n a b h τ:=by unfold fG;split<;>simp_all
theorem tT(n:Nat)(a b:List Fc)(h:Row)(τ:Int):fG n a b h τ<=1:=by unfold fG;split<;>simp
theorem NG{l:List Fc}:inL (jb π l h) τ=true↔∃f,f∈l/\π f.r=h/\aG f.p τ:=by unfold inL jb;rw[List.any_eq_true];constructor;rintro⟨p,hp,h1⟩;obtain⟨f,hf,rfl⟩:=zK.1 hp;obtain⟨f1,f2⟩:=List.mem_filter.1 hf;exact⟨f,f1,by simpa using f2,h1⟩;rintro⟨f,f1,f2,f3⟩;exact⟨f.p,zK.2 ⟨f,List.mem_filter.2 ⟨f1,by simpa using f2⟩,rfl⟩,f3⟩
theorem vT{l:List Fc}:inL (jb id l h) τ=true↔0<cnt l h τ:=by rw[NG,ph];rfl
theorem Lx(π:Row->Row)(l:List Fc)(h:Row):(jb π l h).length<=l.length:=by unfold jb;rw[za];exact List.length_filter_le _ _
structure oL (Ka Kb:List Int) (a b:List Fc) (n:Nat):Prop where
 na:cW a
 nb:cW b
 la:a.length<=16
 lb:b.length<=16
 ka:Ka.length<=48
 kn:n+Kb.length=Ka.length
 n0:0<n
 ra:∀f,f∈a->f.r.length=Ka.length
 rb:∀f,f∈b->f.r.length=Kb.length
variable{Ka Kb:List Int}{a b:List Fc}{n:Nat}
theorem oL.head(h:oL Ka Kb a b n){f:Fc}(hf:f∈a):(f.r.take n).length=n:=by have:=h.ra f hf;have:=h.kn;rw[zt];omega
theorem oL.bound(h:oL Ka Kb a b n){h0:Row}(hn:h0.length=n)(τ:Int):fG n a b h0 τ<=fG n a b h0 (τ - 1)+((jb (·.take n) a h0).map (·.1)++b.map (·.p.2)).count τ:=by
 by_cases c:lk n a b h0 τ;by_cases c':lk n a b h0 (τ - 1);have:=vI.2 c';have:=tT n a b h0 τ;omega;have Q:τ∈(jb (·.take n) a h0).map (·.1)++b.map (·.p.2):=by obtain⟨⟨f,f1,f2,f3⟩,c2⟩:=c;by_cases hf:aG f.p (τ - 1)=true;(have:∃t,0<cnt b t (τ - 1)/\¬ 0<cnt a (h0++t) (τ - 1):=by apply Classical.byContradiction;intro O;exact c' ⟨⟨f,f1,f2,hf⟩,λ t ht=>Classical.byContradiction λ hx=>O ⟨t,ht,hx⟩⟩);obtain⟨t,t1,t2⟩:=this;by_cases hb:0<cnt b t τ;obtain⟨g,g1,g2,g3⟩:=ph.1 (c2 t hb);have g4:¬ aG g.p (τ - 1):=λ hx=>t2 (ph.2 ⟨g,g1,g2,hx⟩);(obtain⟨v1,v2,v3⟩:=jB.1 g3;have:g.p.1=τ:=by rcases Int.lt_or_le g.p.1 τ with J|q;exact absurd (jB.2 ⟨v1,by omega,by omega⟩) g4;omega);refine zG.2 (.inl (zK.2 ⟨g.p,zK.2 ⟨g,List.mem_filter.2 ⟨g1,?_⟩,rfl⟩,this⟩));simp only[zl];rw[g2,List.take_append_of_le_length Ω,<-hn,y6];obtain⟨g,g1,g2,g3⟩:=ph.1 t1;have g4:¬ aG g.p τ:=λ hx=>hb (ph.2 ⟨g,g1,g2,hx⟩);(obtain⟨v1,v2,v3⟩:=jB.1 g3;have:g.p.2=τ:=by rcases Int.lt_or_le τ g.p.2 with J|q;exact absurd (jB.2 ⟨v1,by omega,by omega⟩) g4;omega);exact zG.2 (.inr (zK.2 ⟨g,g1,this⟩));(obtain⟨v1,v2,v3⟩:=jB.1 f3;have:f.p.1=τ:=by rcases Int.lt_or_le f.p.1 τ with J|q;exact absurd (jB.2 ⟨v1,by omega,by omega⟩) hf;omega);exact zG.2 (.inl (zK.2 ⟨f.p,zK.2 ⟨f,List.mem_filter.2 ⟨f1,by simpa using f2⟩,rfl⟩,this⟩))
 have:=List.count_pos_iff.2 Q;have:=tT n a b h0 τ;omega;have:fG n a b h0 τ=0:=by cases hc:fG n a b h0 τ with|zero=>rfl|succ k=>exact absurd (vI.1 Ω) c
 omega
theorem xyP{g:Row->Nat}:∀(R:List Row),(∀r,r∈R->(L r).length<=g r)->(dB R L).length<=(R.map g).sum|[],_=>by simp[dB]|r::R,h=>by have ih:=xyP R λ x hx=>h x (by simp[hx]);have h1:=h r Ψ;(have e:dB (r::R) L=((L r).map λ p=>(⟨r,p⟩:Fc))++dB R L:=by simp[dB]);rw[e,z8,za,zV,List.sum_cons];omega
theorem UV(c:Nat):∀R:List Row,(R.map λ _=>c).sum=c*R.length|[]=>rfl|r::R=>by rw[zV,List.sum_cons,UV c R,zF,Nat.mul_add,Nat.mul_one];omega
theorem xF3(h:oL Ka Kb a b n):∃B:List Fc,Kh (Ka.map encN) (a.map encF) (Kb.map encN) (b.map encF)=some ((Ka.take n).map encN,B.map encF)/\kK (fG n a b) 512 B/\∀f,f∈B->∃g,g∈a/\g.r.take n=f.r:=by
 have O:=h.na;have V:=h.nb;have am:=h.la;have ao:=h.lb;have ak:=h.ka;have ai:=h.kn;have al:=h.n0;obtain⟨w1,Ra,wa⟩:=Vf (O.keyed Ω);obtain⟨w2,Rb,wb⟩:=Vf (V.keyed Ω);obtain⟨w3,H,wh⟩:=xI4 O Ω n λ f hf=>by have:=h.ra f hf;omega
 have hH:∀r,r∈H->nr r/\r.length=n:=λ r hr=>by obtain⟨f,f1,rfl⟩:=(wh.mem r).1 hr;have:=h.head f1;exact⟨⟨by omega,λ v hv=>(O f f1).2 v (List.mem_of_mem_take hv)⟩,this⟩
 have hT:∀r,r∈Rb->nr r/\r.length=Kb.length:=λ r hr=>by obtain⟨f,f1,rfl⟩:=(wb.mem r).1 hr;exact⟨⟨(V f f1).1,(V f f1).2⟩,h.rb f f1⟩
 have an:=wh.len;have aj:=wb.len;obtain⟨L,hL⟩:=F6 (R:=H) (Q:=Tw (n:Int) Rb (r8 (a.map encF)) (r8 (b.map encF)) (jb (·.take n) a) (jb id a) (jb id b)) λ r hr=>by
  obtain⟨ac,ab⟩:=hH r hr;have bl:=Lx (·.take n) a r;obtain⟨l0,l1,l2,l3⟩:=XP (jb (·.take n) a r) Ω;have ll:l0.length<=(jb (·.take n) a r).length+([]:List aF).length:=Nr (X:=jb (·.take n) a r) (Y:=[]) l2 λ t=>by rw[l3,pQ];simp
  obtain ⟨L,e1,e2,e3⟩:=WI (n:Int) r (du:=r8 (a.map encF)) (dv:=r8 (b.map encF)) (Du:=jb id a) (Dv:=jb id b) ⟨wa.look,wa.row⟩ ⟨wb.look,wb.row⟩ (fun ρ=>by have:=Lx id a ρ;omega) (fun ρ=>by have:=Lx id b ρ;omega) Rb Ω (fun t ht=>by
   obtain ⟨t1,t2⟩:=hT t ht;exact ⟨t1,by rw [z8];omega,fun v hv=>by
    rcases zG.1 hv with hv|hv
    . exact ac.2 v hv
    . exact t1.2 v hv⟩) Rb.length 0 l0 Ω (by rw [List.length_nil] at ll;omega) l2
  rw[zr]at e3;have e4:∀τ,inL L τ=(inL (jb (·.take n) a r) τ&&Rb.all λ t=>!(inL (jb id b t) τ&&!inL (jb id a (r++t)) τ)):=λ τ=>by rw[e3,l3]
  have dn:∀τ,inL L τ=decide (0<fG n a b r τ):=λ τ=>by rw[e4,Bool.eq_iff_iff,zl,vI,zf,NG,zI];constructor;rintro⟨h1,h2⟩;refine⟨h1,λ t ht=>?_⟩;obtain⟨g,g1,g2,g3⟩:=ph.1 ht;have:=h2 t ((wb.mem t).2 ⟨g,g1,g2⟩);have hb:inL (jb id b t) τ:=vT.2 ht;rw[hb]at this;exact vT.1 (by simpa using this);rintro⟨h1,h2⟩;refine⟨h1,λ t ht=>?_⟩;by_cases hb:inL (jb id b t) τ=true;have:=vT.2 (h2 t (vT.1 hb));rw[this];simp;(have:inL (jb id b t) τ=false:=by simpa using hb);rw[this];simp
  have len:=Gc (yC (N:=fG n a b r) e2 dn) ((jb (·.take n) a r).map (·.1)++b.map (·.p.2)) λ τ=>by have:=h.bound ab τ;have h1:=tT n a b r τ;have h2:=tT n a b r (τ - 1);split<;>split<;>omega
  refine⟨L,⟨l0,l1,λ on ah ae aa a0 a1 hs os=>e1 on ah ae aa a0 a1 hs os⟩,e2,e4,?_⟩;rw[z8,za,za]at len;omega
 have dn:∀r,r∈H->∀τ,inL (L r) τ=decide (0<fG n a b r τ):=λ r hr τ=>by obtain⟨_,_,e4,_⟩:=hL r hr;rw[e4,Bool.eq_iff_iff,zl,vI,zf,NG,zI];constructor;rintro⟨h1,h2⟩;refine⟨h1,λ t ht=>?_⟩;obtain⟨g,g1,g2,g3⟩:=ph.1 ht;have:=h2 t ((wb.mem t).2 ⟨g,g1,g2⟩);have hb:inL (jb id b t) τ:=vT.2 ht;rw[hb]at this;exact vT.1 (by simpa using this);rintro⟨h1,h2⟩;refine⟨h1,λ t ht=>?_⟩;by_cases hb:inL (jb id b t) τ=true;have:=vT.2 (h2 t (vT.1 hb));rw[this];simp;(have:inL (jb id b t) τ=false:=by simpa using hb);rw[this];simp
 have len:∀r,r∈H->(L r).length<=32:=λ r hr=>by(have len:=Gc (yC (N:=fG n a b r) (hL r hr).2.1 (dn r hr)) ((jb (·.take n) a r).map (·.1)++b.map (·.p.2)) λ τ=>by have:=h.bound (hH r hr).2 τ;have h1:=tT n a b r τ;have h2:=tT n a b r (τ - 1);split<;>split<;>omega);have bl:=Lx (·.take n) a r;rw[z8,za,za]at len;omega
 have hF:=xyP (L:=L) (g:=λ _=>32) H len;rw[UV]at hF;have W:∀r τ,cnt (dB H L) r τ=fG n a b r τ:=λ r τ=>by rw[F7 L r τ H wh.nd];split;rename_i hr;rw[Sk (hL r hr).2.1,dn r hr];have:=tT n a b r τ;by_cases c:0<fG n a b r τ;simp[c];omega;simp[c];omega;rename_i hr;cases hc:fG n a b r τ with|zero=>rfl|succ k=>obtain⟨⟨f,f1,f2,_⟩,_⟩:=vI.1 (show 0<fG n a b r τ by omega);exact absurd ((wh.mem r).2 ⟨f,f1,f2⟩) hr
 have q:∀f,f∈dB H L->∃g,g∈a/\g.r.take n=f.r:=λ f hf=>(wh.mem _).1 (Cy hf).1;have J:cW (dB H L):=λ f hf=>(hH f.r (Cy hf).1).1;obtain ⟨B,b1,b2,b3⟩:=VM J Ω (kJ.of (l:=a.map fun f=>⟨f.r.take n,f.p⟩) (kJ.few (by rw [za];omega)) fun f hf=>by
  obtain ⟨g,g1,g2⟩:=q f hf;exact ⟨_,zK.2 ⟨g,g1,rfl⟩,g2.symm⟩)
 have hB:kK (fG n a b) 512 B:=⟨b2.isB.congr fun r t=>by
  rw [W];have:=tT n a b r t;split<;>omega,Nat.le_trans b3.len Ω,b3.nice⟩
 refine⟨B,?_,hB,b2.all (Q:=λ r=>∃g,g∈a/\g.r.take n=r) q⟩;have ad:IZ (Ka.map encN) (Kb.map encN)=(n:Int):=by(have w:IntKind.i64.wrap ((Ka.length:Int) - (Kb.length:Int))=(n:Int):=by rw[gx Ω Ω];omega);unfold IZ;rw[za,za,w];split<;>omega
 have v3:rO (Ka.map encN) (Kb.map encN)=(n:Int):=by unfold rO;rw[ad];split<;>omega
 have e0:=WH (n:Int) Rb (Ka.map encN) (a.map encF) (he:=Gh (a.map encF) (n:Int)) ⟨wh.look,wh.row⟩ H Ω (λ r hr=>(hH r hr).1) L hL H.length 0 [] Ω Ψ;rw[zr,zU]at e0;have e0:aB (Bf (n:Int) (Rb.map encR) (H.map encR) ((H.length:Nat):Int)) ((0:Nat),(0:Int),Ka.map encN,a.map encF,r8 (a.map encF),Gh (a.map encF) (n:Int),r8 (b.map encF),[])=some ((dB H L).length,Ka.map encN,a.map encF,(dB H L).map encF):=e0;generalize dB H L=F at e0 b1;have af:IY (Ka.map encN) (a.map encF) (Kb.map encN) (b.map encF)=some (F.length,Ka.map encN,a.map encF,F.map encF):=by unfold IY;rw[v3,wh.rows,wb.rows,za,e0]
 have tF:List.take F.length (F.map encF)=F.map encF:=zi Ψ;have ag:n<=Ka.length:=Ω
 have Z:(n:Int)<=(Ka.length:Int):=Ω
 have lt:((Ka.take n).map encN).length=n:=by rw[za,zt];omega
 have m1:n*8<=140737488355328:=Ω
 have m2:n<=4611686018427387904:=Ω
 have tk:List.take n (Ka.map encN)=(Ka.take n).map encN:=by rw[List.map_take]
 have t2:List.take n ((Ka.take n).map encN)=(Ka.take n).map encN:=zi Ω;unfold Kh PY;simp only[EJ,Qn,I2,yb,v3,af,w1,w2,w3,zk,zh,aW,za,zH,zd,zn,zS,Bool.and_self,zr,tF,b1,Z,Int.natCast_nonneg,zN,Nat.sub_zero,tk,zU,lt,zt,Nat.min_eq_left ag,m1,m2,t2,aI]
end Go.Sim.M
namespace Go.Sim.M
open Go.RowKit Go.Sim.Srt
def bnd(f:Fc):List Int:=if pv f.p then(if f.p.2<1099511627776 then[f.p.1,f.p.2]else[f.p.1])else[]
theorem xyh(t:Int)(l:List Fc)(hl:l.length<=1048576):aB (BT (l.map encF) t) ((0:Nat),(0:Int),[])=some ((l.flatMap (λ(f:Fc)=>if aG f.p t then[f.r]else[])).length,(l.flatMap (λ(f:Fc)=>if aG f.p t then[f.r]else[])).map encR):=by
 refine vE l (λ(f:Fc)=>if aG f.p t then[f.r]else[]) encR 1 (λ f hf=>?_) (λ n h D hD=>?_) (λ D=>?_);cases q:(aG (f).p t)<;>simp[q];have h1:(n:Int)<(l.length:Int):=Ω
 have m1:(D.length+1)*24<=140737488355328:=Ω
 have m2:D.length+1<=4611686018427387904:=Ω
 have gf:(l.map encF).getD n .top=encF l[n]:=cH _ _ _ h;simp only[BT,JY,bR,h,h1,gf,mV,mW,mX,m7,m8,m9,lF,im,il,Vk,m1,m2,dN (n:=n) Ω];cases q:(aG (l[n]).p t)<;>simp[encR,aW,bE,encR,q,aI];simp only[BT,JY,za,zy,zm,bE,aI]
theorem xMU(l:List Fc)(t:Int)(h:oM l):∃r,Lc (l.map encF) t=some (r.map encR)/\r.Perm (rq l t)/\aH aK r:=by obtain⟨r,e,p,s⟩:=Ld (rq l t) (h.at t);refine⟨r,?_,p,s⟩;have:=xyh t l h.1;unfold Lc Sf;simp only[RR,FK,this,po,aI];rw[show (l.flatMap λ f=>if aG f.p t then[f.r]else[])=rq l t from rfl,e];simp only[po]
theorem xs8(a b:List Row)(hl:a.length=b.length)(ha:a.length<=1048576)(hr:∀f,f∈a->f.length<=maxLen):aB (xI (a.map encR) (b.map encR)) (0:Int)=some (if a=b then(false,false,())else(true,false,())):=by
 refine Tr a b hl (λ n h h2=>?_) ?_;have h1:(n:Int)<(a.length:Int):=Ω
 have h3:(n:Int)<(b.length:Int):=Ω
 have gf:(a.map encR).getD n .top=encR a[n]:=cH _ _ _ h;have gg:(b.map encR).getD n .top=encR b[n]:=cH _ _ _ h2;have hm:=hr a[n] (zo h);simp only[xI,Ij,bR,h,h1,h2,h3,gf,gg,kV,lc,Gz _ _ hm,kM,dN (n:=n) Ω];by_cases he:a[n]=b[n]<;>simp[he,aW,bE,dY,aI];simp only[xI,Ij,za,zy,zm,bE,aI]
theorem xDT(a b:List Row)(ha:a.length<=1048576)(hr:∀f,f∈a->f.length<=maxLen):JP (a.map encR) (b.map encR)=some (decide (a=b)):=by unfold JP PH;by_cases hl:a.length=b.length;simp only[za,hl,bne_self_eq_false,bE,aI];rw[xs8 a b hl ha hr];by_cases h:a=b<;>simp[h,aW,bE,aI];have h:a≠b:=λ e=>hl (by rw[e]);(have h2:((a.length:Int) !=(b.length:Int)):=by simp;omega);simp[h,h2,aW,aI]
variable {a b t:Int}
theorem rk(ha:0<=a)(q:a<b)(hb:b<=1099511627776):aG (a,b) t=decide (a<=t/\t<b):=by have:pv (a,b):=iF.2 ⟨ha,q,hb⟩;unfold aG;rw[this];by_cases h1:a<=t<;>by_cases h2:t<b<;>simp[h1,h2]
section
variable{Ka Kb:List Int}{a b:List Fc}{n:Nat}
theorem xCd{Q:List Row}(hQ:cK aK Q)(r:Row):Q.count r=if r∈Q then 1 else 0:=by have h1:=List.nodup_iff_count.1 (hQ.nodup mj) r;by_cases h:r∈Q;have:=List.count_pos_iff.2 h;rw[if_pos h];omega;rw[if_neg h];exact List.count_eq_zero.2 h
end
variable {N:Row->Int->Nat}
theorem K7{m:Nat}{B:List Fc}(h:kK N m B)(hm:m<=1024):rN (B.map encF)=some true:=by have hl:=h.len;obtain⟨B',b1,b2⟩:=xKP B (h.nice.few Ω) Ω;have e:B'=B:=(b2.isB.congr λ r t=>h.cnt r t).unique h.isB;have e2:=T0 B B Ω (λ f hf=>by have:=(h.nice f hf).1;unfold maxLen;omega);rw[e]at b1;unfold rN O1;simp only[b1,e2,zk,zh,aW,aI];simp
def xKi(S:List Row)(hr:∀x,x∈S->x.length<=maxLen)(X:List Row)(C:List Int)(hC:C.length=X.length)(hX:X.length<=1048576)(k:Nat)(hk:k<S.length)(q:k<=1048576)(hn:∀j,k=j+1->S[j]?≠some S[k]):s8 (S.map encR) (X.length,X.length,(k:Int),X.map encR,C.map encN)=some (.inl ((X++[S[k]]).length,(X++[S[k]]).length,((k+1:Nat):Int),(X++[S[k]]).map encR,(C++[1]).map encN)):=by
 have i1:(k:Int)<(S.length:Int):=Ω
 have gf:(S.map encR).getD k .top=encR S[k]:=cH _ _ _ hk;have m1:(X.length+1)*24<=140737488355328:=Ω
 have m2:X.length+1<=4611686018427387904:=Ω
 have m3:(X.length+1)*8<=140737488355328:=Ω
 have w0:IntKind.i64.wrap (((X.length+1:Nat):Int) - 1)=(X.length:Int):=by rw[gx Ω Ω];omega
 have x1:(X.length:Int)<((X.length+1:Nat):Int):=Ω
 have x2:(0:Int)<=(X.length:Int):=Ω
 have x3:X.length<(C.map encN++[AV.int .i64 0]).length:=by simp;omega
 have x4:(C.map encN++[AV.int .i64 0]).getD X.length .top=AV.int .i64 0:=by have:=T6 (C.map encN) (AV.int .i64 0) .top;rw[za,hC]at this;exact this
 have x5:(C.map encN++[AV.int .i64 0]).set X.length (AV.int .i64 1)=C.map encN++[AV.int .i64 1]:=by have:=Tb (C.map encN) (AV.int .i64 0) (AV.int .i64 1);rw[za,hC]at this;exact this
 have x6:IntKind.i64.wrap ((AV.int .i64 0).toInt+1)=1:=by rfl
 have x7:dw (Sh.int .i64) (AV.int .i64 0):=rfl;have x8:(AV.int .i64 0:AV).cells.getD 0 .top=AV.int .i64 0:=rfl;cases k with|zero=>have i0:(((0:Nat):Int)==0):=rfl;simp only[s8,AJ,Ba,Ik,Il,Im,In,D6,D7,Io,xT,uy,xG,D8,bR,hk,i0,i1,gf,kV,lc,m1,m2,m3,w0,x1,x2,x3,x4,x5,x6,x7,x8,hC,Nat.lt_succ_self,dN (n:=0) Ω,z8,zj,zx,zV,zW];rfl|succ j=>
 have hj:j<S.length:=Ω
 have i0:(((j+1:Nat):Int)==0)=false:=by simp;omega
 have i2:(j:Int)<(S.length:Int):=Ω
 have gj:(S.map encR).getD j .top=encR S[j]:=cH _ _ _ hj;have ee:=Gz S[j] S[j+1] (hr _ (zo hj));have ne:S[j]≠S[j+1]:=λ e=>hn j rfl (by rw[ze hj,e]);have e0:(aK S[j] S[j+1]==0)=false:=by rw[kM];simp[ne]
 have wj:IntKind.i64.wrap (((j+1:Nat):Int) - 1)=(j:Int):=by rw[gx Ω Ω];omega
 simp only[s8,AJ,Ba,Ik,Il,Im,In,D6,D7,Io,xT,uy,xG,D8,bR,hk,hj,i0,i1,i2,gf,gj,kV,lc,ee,e0,wj,m1,m2,m3,w0,x1,x2,x3,x4,x5,x6,x7,x8,hC,Nat.lt_succ_self,dN (n:=j+1) Ω,z8,zj,zx,zV,zW];rfl
def xKj(S:List Row)(hr:∀x,x∈S->x.length<=maxLen)(X:List Row)(I:List Int)(c:Int)(hc:0<=c/\c<=1048576)(hC:I.length+1=X.length)(hX:X.length<=1048576)(j:Nat)(hk:j+1<S.length)(J:j<=1048576)(hn:S[j]?=some S[j+1]):s8 (S.map encR) (X.length,X.length,((j+1:Nat):Int),X.map encR,(I++[c]).map encN)=some (.inl (X.length,X.length,((j+1+1:Nat):Int),X.map encR,(I++[c+1]).map encN)):=by
 have i1:((j+1:Nat):Int)<(S.length:Int):=Ω
 have gf:(S.map encR).getD (j+1) .top=encR S[j+1]:=cH _ _ _ hk;have hj:j<S.length:=Ω
 have i0:(((j+1:Nat):Int)==0)=false:=by simp;omega
 have i2:(j:Int)<(S.length:Int):=Ω
 have gj:(S.map encR).getD j .top=encR S[j]:=cH _ _ _ hj;have ee:=Gz S[j] S[j+1] (hr _ (zo hj));have ne:S[j]=S[j+1]:=by rw[ze hj]at hn;simpa using hn
 have e0:(aK S[j] S[j+1]==0):=by rw[kM];simp[ne]
 have wj:IntKind.i64.wrap (((j+1:Nat):Int) - 1)=(j:Int):=by rw[gx Ω Ω];omega
 have w1:IntKind.i64.wrap ((X.length:Int) - 1)=(I.length:Int):=by rw[gx Ω Ω];omega
 have q:uy X.length=I.length:=by unfold uy;rw[w1];simp
 have x1:(I.length:Int)<(X.length:Int):=Ω
 have x3:I.length<(I++[c]).length:=by simp
 have x4:((I++[c]).map encN).getD I.length .top=encN c:=by rw[cH _ _ _ Ψ];simp
 have x5:((I++[c]).map encN).set I.length (AV.int .i64 (c+1))=(I++[c+1]).map encN:=by have:=Tb (I.map encN) (encN c) (encN (c+1));rw[za]at this;rw[zx,zx];exact this
 have x6:IntKind.i64.wrap (c+1)=c+1:=gx Ω Ω;simp only[s8,AJ,Ba,D6,D7,D8,bR,hk,hj,i0,i1,i2,gf,gj,kV,lc,ee,e0,wj,w1,q,x1,x3,x4,x5,x6,cN,sN,dN (n:=j+1) Ω];try rfl
variable {x:Row}
def xwI{I:List Row}(h:cK aK (I++[x])):∀y,y∈I->y≠x:=λ y hy e=>by have:=(List.pairwise_append.1 h).2.2 y hy x Ψ;rw[e,vw]at this;omega
def Wu(S:List Row):∀j(hj:j<S.length),∃I,dk S (j+1)=I++[S[j]]|0,hj=>⟨[],by simp[dk,ze hj]⟩|j+1,hj=>by(have hj':j<S.length:=Ω);obtain⟨I,hI⟩:=Wu S j hj';have hd:dk S (j+1+1)=dk S (j+1)++(if j+1=0\/S[j+1 - 1]?≠S[j+1]? then S[j+1]?.toList else[]):=rfl;rw[hd];split;exact⟨_,by rw[ze hj];rfl⟩;(rename_i hc;have:S[j]?=S[j+1]?:=by apply Classical.byContradiction;intro hne;exact hc (.inr (by simpa using hne)));rw[ze hj',ze hj,z6]at this;exact⟨I,by rw[zD,hI,this]⟩
def WE{l:List Row}{r:Row}(h:r≠x):(l++[x]).count r=l.count r:=by have:[x].count r=0:=List.count_eq_zero.2 (by simp[h]);rw[List.count_append,this,Nat.add_zero]
def US(l:List Row)(x:Row):(l++[x]).count x=l.count x+1:=by simp[List.count_append]
def cn(S:List Row)(k:Nat):List Int:=(dk S k).map λ r=>(((S.take k).count r:Nat):Int)
def WV(S:List Row)(k:Nat):(cn S k).length=(dk S k).length:=by simp[cn]
def xFs(S:List Row)(hS:S.length<=1048576)(hr:∀x,x∈S->x.length<=maxLen)(hs:aH aK S):aB (s8 (S.map encR)) ((0:Nat),(0:Nat),(0:Int),[],[])=some ((dk S S.length).length,(dk S S.length).length,(dk S S.length).map encR,(cn S S.length).map encN):=by
 refine r6 (λ k=>(((dk S k).length,(dk S k).length,((k:Nat):Int),(dk S k).map encR,(cn S k).map encN):Nat×Nat×Int×List AV×List AV)) S.length _ (λ k hk=>?_) ?_ S.length 0 Ω;have dl:=GB S k;have tk:S.take (k+1)=S.take k++[S[k]]:=by rw[List.take_add_one,ze hk];rfl
 have ok:=(GE S hs (k+1) Ω).1;by_cases hc:k=0\/S[k - 1]?≠S[k]?;have hd:dk S (k+1)=dk S k++[S[k]]:=by show dk S k++_=_;rw[if_pos hc,ze hk];rfl
 rw[hd]at ok;have hne:=xwI ok;have h0:(S.take k).count S[k]=0:=List.count_eq_zero.2 λ hm=>hne S[k] (((GE S hs k Ω).2 _).2 hm) rfl;have q:cn S (k+1)=cn S k++[1]:=by unfold cn;rw[hd,zx];congr 1;refine List.map_congr_left λ r hm=>?_;rw[tk,WE (hne r hm)];rw[List.map_singleton,tk,US,h0];rfl
 rw[hd,q];refine xKi S hr (dk S k) (cn S k) (WV S k) Ω k hk Ω λ j hj e=>?_;subst hj;rcases hc with hc|hc;omega;exact hc (by rw[ze hk];simpa using e);obtain⟨j,rfl⟩:∃j,k=j+1:=⟨k - 1,by omega⟩;have hj:j<S.length:=Ω
 have e:S[j]?=S[j+1]?:=by apply Classical.byContradiction;intro hne;exact hc (.inr (by simpa using hne))
 have e2:S[j]=S[j+1]:=by rw[ze hj,ze hk]at e;simpa using e
 have hd:dk S (j+1+1)=dk S (j+1):=by show dk S (j+1)++_=_;rw[if_neg hc,zD]
 obtain⟨I,hI⟩:=Wu S j hj;rw[hd,hI]at ok;have hne:=xwI ok;have c1:cn S (j+1)=(I.map λ r=>(((S.take (j+1)).count r:Nat):Int))++[(((S.take (j+1)).count S[j]:Nat):Int)]:=by unfold cn;rw[hI,zx];rfl
 have c2:cn S (j+1+1)=(I.map λ r=>(((S.take (j+1)).count r:Nat):Int))++[(((S.take (j+1)).count S[j]:Nat):Int)+1]:=by unfold cn;rw[hd,hI,zx];congr 1;refine List.map_congr_left λ r hm=>?_;rw[tk,WE (by rw[<-e2];exact hne r hm)];rw[List.map_singleton,tk,<-e2,US];simp
 have cl:(S.take (j+1)).count S[j]<=1048576:=Nat.le_trans List.count_le_length (by rw[zt];omega);rw[hd,c1,c2];exact xKj S hr (dk S (j+1)) _ _ ⟨by omega,by omega⟩ (by rw[hI];simp) Ω j hk Ω (by rw[e,ze hk]);simp only[s8,AJ,Ba,za,zy,zm,bE,aI]
def TV(l:List Row)(h:kO l):∃Q:List Row,rR (l.map encR)=some (Q.map encR,(Q.map λ r=>((l.count r:Nat):Int)).map encN)/\cK aK Q/\(∀x,x∈Q↔x∈l)/\Q.length<=l.length:=by
 obtain⟨S,e1,p1,s1⟩:=Ld l h;have hS:=h.perm p1;obtain⟨a1,a2⟩:=GE S s1 S.length (zd _);have e2:=xFs S hS.1 (λ x hx=>by have:=hS.2 x hx;unfold maxLen;omega) s1;have hc:cn S S.length=(dk S S.length).map λ r=>((l.count r:Nat):Int):=by unfold cn;refine List.map_congr_left λ r _=>?_;rw[y6,p1.count_eq]
 refine⟨dk S S.length,?_,a1,λ x=>by rw[a2,y6,p1.mem_iff],by rw[<-p1.length_eq];exact GB _ _⟩;have tt:List.take (dk S S.length).length ((dk S S.length).map encR)=(dk S S.length).map encR:=zi Ψ;have q:List.take (dk S S.length).length ((cn S S.length).map encN)=(cn S S.length).map encN:=zi (by simp[cn]);have v7:IX (l.map encR)=some ((dk S S.length).length,(dk S S.length).length,(dk S S.length).map encR,(cn S S.length).map encN):=by unfold IX;rw[e1];exact e2
 rw[<-hc];unfold rR PN;simp only[th,v7,e1,zk,zh,aW,zH,za,WV,zd,zn,zS,zr,tt,q,aI]
def XQ(Q Q2:List Row)(n m:List AV)(mn i:Nat)(hi:i<Q.length)(h2:Q2.length<=1048576)(hr:∀x,x∈Q2->x.length<=maxLen):∀d k,k+d=Q2.length->∃k',k<=k'/\k'<=Q2.length/\(∀j(h:j<Q2.length),k<=j->j<k'->aK Q2[j] Q[i]<0)/\(∀h:k'<Q2.length,¬ aK Q2[k'] Q[i]<0)/\
  ∀xs,aB (uz (Q.map encR) n (Q2.map encR) m mn (i:Int)) ((k:Int),xs)=some ((k':Int),xs)
 |0,k,hk=>by
  have:k=Q2.length:=by omega
  subst this;refine⟨_,zd _,zd _,λ j _ h1 h2=>by omega,λ h=>absurd h (Nat.lt_irrefl _),λ xs=>cQ ?_⟩
  simp only[uz,Ey,za,zy,zm,bE,aI]
 |d+1,k,hk=>by
  have q:k<Q2.length:=by omega
  have i1:(k:Int)<(Q2.length:Int):=by omega
  have i2:(i:Int)<(Q.length:Int):=by omega
  have gf:(Q2.map encR).getD k .top=encR Q2[k]:=cH _ _ _ q;have gi:(Q.map encR).getD i .top=encR Q[i]:=cH _ _ _ hi;have cc:=yI Q2[k] Q[i] (hr _ (zo q));by_cases hc:aK Q2[k] Q[i]<0
  . obtain⟨k',a1,a2,a3,a4,a5⟩:=XQ Q Q2 n m mn i hi h2 hr d (k+1) (by omega)
    refine⟨k',by omega,a2,λ j hj h1 h2=>?_,a4,λ xs=>?_⟩
    . rcases Nat.eq_or_lt_of_le h1 with e|e
      . subst e;exact hc
      . exact a3 j hj e h2
    . rw[<-a5 xs];refine eH ?_;simp only[uz,Ey,bR,q,hi,i1,i2,gf,gi,kV,lc,cc,hc,dN (n:=k) (by omega)]
  . refine⟨k,zd _,by omega,λ j _ h1 h2=>by omega,λ _=>hc,λ xs=>cQ ?_⟩
    simp only[uz,Ey,bR,q,hi,i1,i2,gf,gi,kV,lc,cc,hc]
def GV(Q Q2:List Row)(n:List AV)(f:Row->Nat)(hf:∀r,r∉Q2->f r=0)(Z:∀r,f r<=1048576)(hq:cK aK Q)(Y:cK aK Q2)(h1:Q.length<=1048576)(h2:Q2.length<=1048576)(hr:∀x,x∈Q2->x.length<=maxLen):∀d i k,i+d=Q.length->k<=Q2.length->(∀j(h:j<Q2.length),j<k->∀hi:i<Q.length,aK Q2[j] Q[i]<0)->∀E:List Int,E=(Q.take i).map (λ r=>((f r:Nat):Int))->
  aB (xt (Q.map encR) n (Q2.map encR) ((Q2.map λ r=>((f r:Nat):Int)).map encN)) (E.length,(k:Int),(i:Int),E.map encN)=some (Q.length,(Q.map λ r=>((f r:Nat):Int)).map encN)
 |0,i,k,hi,hk,hl,E,hE=>by
  have:i=Q.length:=by omega
  subst this;rw[y6]at hE;subst hE;refine cQ ?_;simp only[xt,Bo,AQ,za,zy,zm,bE,aI]
 |d+1,i,k,hi,hk,hl,E,hE=>by
  have q:i<Q.length:=by omega
  have i1:(i:Int)<(Q.length:Int):=by omega
  have gi:(Q.map encR).getD i .top=encR Q[i]:=cH _ _ _ q;obtain⟨k',a1,a2,a3,a4,a5⟩:=XQ Q Q2 n ((Q2.map λ r=>((f r:Nat):Int)).map encN) E.length i q h2 hr (Q2.length - k) k (by omega)
  have el:E.length=i:=by rw[hE,za,zt];omega
  have W:∀j(h:j<Q2.length),j<k'->aK Q2[j] Q[i]<0:=λ j h hj=>by
   rcases zJ j k with aa|aa
   . exact hl j h aa q
   . exact a3 j h aa hj
  have m1:(E.length+1)*8<=140737488355328:=by omega
  have m2:E.length+1<=4611686018427387904:=by omega
  have next:∀j(h:j<Q2.length),j<k'->∀hi:i+1<Q.length,aK Q2[j] Q[i+1]<0:=λ j h hj hi=>by
   have c1:=W j h hj;have c2:=zB.1 hq i (i+1) q hi (by omega)
   exact mj.lt1 c1 (by omega)
  have ab:∀v:Int,v=((f Q[i]:Nat):Int)->E++[v]=(Q.take (i+1)).map (λ r=>((f r:Nat):Int)):=λ v hv=>by
   rw[List.take_add_one,ze q,zx,<-hE,hv];rfl
  by_cases J:k'<Q2.length
  . have i2:(k':Int)<(Q2.length:Int):=by omega
    have gk:(Q2.map encR).getD k' .top=encR Q2[k']:=cH _ _ _ J;have gm:((Q2.map λ r=>((f r:Nat):Int)).map encN).getD k' .top=encN ((f Q2[k']:Nat):Int):=by rw[cH _ _ _ (by simpa using J)];simp
    have ee:=Gz Q2[k'] Q[i] (hr _ (zo J));by_cases e:Q2[k']=Q[i]
    . have e0:(aK Q2[k'] Q[i]==0)=true:=by rw[kM];simp[e]
      have key:=GV Q Q2 n f hf Z hq Y h1 h2 hr d (i+1) k' (by omega) a2 next (E++[((f Q2[k']:Nat):Int)]) (ab _ (by rw[e]))
      rw[<-key];refine eH ?_;simp only[xt,Bo,AQ,mT,El,AK,bR,q,J,i1,i2,gi,gk,gm,kV,lc,cN,sN,a5,ee,e0,m1,m2,dN (n:=i) (by omega),z8,zj,zx,zV,zW]
      try rfl
    . have e0:(aK Q2[k'] Q[i]==0)=false:=by rw[kM];simp[e]
      have hz:f Q[i]=0:=hf _ λ hm=>by
       obtain⟨p,hp,O⟩:=zp.1 hm;have c1:=a4 J;rcases Nat.lt_trichotomy p k' with V|V|V
       . have:=W p hp V;rw[O,vw]at this;omega
       . subst V;exact e O
       . have c2:=zB.1 Y k' p J hp V;rw[O]at c2;exact c1 c2
      have key:=GV Q Q2 n f hf Z hq Y h1 h2 hr d (i+1) k' (by omega) a2 next (E++[0]) (ab _ (by rw[hz];rfl))
      rw[<-key];refine eH ?_;simp only[xt,Bo,AQ,mT,El,AK,bR,q,J,i1,i2,gi,gk,kV,lc,cN,sN,a5,ee,e0,m1,m2,dN (n:=i) (by omega),z8,zj,zx,zV,zW]
      try rfl
  . have ek:k'=Q2.length:=by omega
    have i2:¬ (k':Int)<(Q2.length:Int):=by omega
    have hz:f Q[i]=0:=hf _ λ hm=>by
     obtain⟨p,hp,O⟩:=zp.1 hm;have:=W p hp (by omega);rw[O,vw]at this;omega
    have key:=GV Q Q2 n f hf Z hq Y h1 h2 hr d (i+1) k' (by omega) a2 next (E++[0]) (ab _ (by rw[hz];rfl))
    rw[<-key];refine eH ?_;simp only[xt,Bo,AQ,mT,El,AK,bR,q,i1,i2,gi,kV,lc,cN,sN,a5,m1,m2,dN (n:=i) (by omega),z8,zj,zx,zV,zW]
    try rfl
def Un(a b:List Row)(ha:kO a)(hb:kO b):∃Q:List Row,rV (a.map encR) (b.map encR)=some (Q.map encR,(Q.map λ r=>((a.count r:Nat):Int)).map encN,(Q.map λ r=>((b.count r:Nat):Int)).map encN)/\cK aK Q/\(∀x,x∈Q↔x∈a)/\Q.length<=a.length:=by obtain⟨Q,q1,q2,q3,q4⟩:=TV a ha;obtain⟨Q2,p1,p2,p3,p4⟩:=TV b hb;have la:=ha.1;have lb:=hb.1;have key:=GV Q Q2 ((Q.map λ r=>((a.count r:Nat):Int)).map encN) (λ r=>b.count r) (λ r hr=>List.count_eq_zero.2 λ hm=>hr ((p3 r).2 hm)) (λ r=>Nat.le_trans List.count_le_length hb.1) q2 p2 Ω Ω (λ x hx=>by have:=hb.2 x ((p3 x).1 hx);unfold maxLen;omega) Q.length 0 0 Ω Ω (λ j _ h=>by omega) [] Ψ;(have v3:Jw (a.map encR) (b.map encR)=some (Q.length,(Q.map λ r=>((b.count r:Nat):Int)).map encN):=by unfold Jw;rw[q1,p1];exact key);refine⟨Q,?_,q2,q3,q4⟩;have tt:List.take Q.length ((Q.map λ r=>((b.count r:Nat):Int)).map encN)=(Q.map λ r=>((b.count r:Nat):Int)).map encN:=zi Ψ;unfold rV Qg;simp only[EQ,v3,q1,p1,zk,zh,aW,zH,za,zd,zn,zS,zr,tt,aI]
def iv(n:Int):Val:=⟨1,n,[]⟩
def xKz{n:Int}(h0:0<=n)(h1:n<=100):qG (iv n):=⟨⟨⟨sJ (by show -9223372036854775808<=(1:Int);omega) (by show (1:Int)<=9223372036854775807;omega),sJ (by show -9223372036854775808<=n;omega) (by show n<=9223372036854775807;omega),by show 0<=maxLen;omega⟩,by show 0<=_;omega⟩,⟨by show -1125899906842624<=n;omega,by show n<=1125899906842624;omega⟩⟩
def jd:List Fc:=[⟨[iv 1],(0,9)⟩,⟨[iv 1],(2,5)⟩]
def kp:List Fc:=[⟨[iv 1],(4,7)⟩]
def mY:List Fc:=[⟨[iv 1,iv 5],(0,6)⟩,⟨[iv 1,iv 6],(3,9)⟩,⟨[iv 2,iv 5],(0,9)⟩]
def nB:List Fc:=[⟨[iv 5],(1,9)⟩,⟨[iv 6],(4,8)⟩]
def Lu{l:List Fc}(h:l.all (λ f=>decide (f.r.length<=48)&&f.r.all λ v=>decide (v=iv v.i)&&(decide (0<=v.i)&&decide (v.i<=100)))):cW l:=λ f hf=>by have h1:=zI.1 h f hf;simp only[zf,zl]at h1;refine⟨h1.1,λ v hv=>?_⟩;have h2:=zI.1 h1.2 v hv;simp only[zf,zl]at h2;rw[h2.1];exact xKz h2.2.1 h2.2.2
def GZ:cW jd:=Lu (by decide)
def N9:cW kp:=Lu (by decide)
def xPo:cW mY:=Lu (by decide)
def xPp:cW nB:=Lu (by decide)
def xPl:oL [1,1] [1] mY nB 1 where
 na:=xPo
 nb:=xPp
 la:=by simp[mY]
 lb:=by simp[nB]
 ka:=by simp
 kn:=by simp
 n0:=Ω
 ra:=λ f hf=>by
  simp only[mY,zC,List.not_mem_nil,or_false]at hf;rcases hf with rfl|rfl|rfl<;>rfl
 rb:=λ f hf=>by
  simp only[nB,zC,List.not_mem_nil,or_false]at hf;rcases hf with rfl|rfl<;>rfl
def Ln{ρ:Row}{P:List aF}(h:bD (N ρ) P)(hz:∀r,r≠ρ->∀t,N r t=0):kT N (mk ρ P):=
 ⟨[ρ],fun _=>P,List.pairwise_singleton _ _,fun r t ht=>by
  by_cases hr:r=ρ
  . simp[hr]
  . rw [hz r hr t] at ht;omega,fun r hr=>by simp at hr;subst hr;exact h,by simp [dB,mk]⟩
def Vm(f:Fc)(l:List Fc)(r:Row)(t:Int):cnt (f::l) r t=cnt l r t+if f.r=r/\aG f.p t then 1 else 0:=by have e2:cnt (f::l) r t=cnt l r t+if(decide (f.r=r)&&aG f.p t) then 1 else 0:=List.countP_cons;rw[e2];simp only[zf,zl]
def gL(r:Row)(t:Int):cnt jd r t=if r=[iv 1]then(if 0<=t/\t<9 then 1 else 0)+(if 2<=t/\t<5 then 1 else 0)else 0:=by have h1:=rk (a:=0) (b:=9) (t:=t) Ω Ω Ω;have h2:=rk (a:=2) (b:=5) (t:=t) Ω Ω Ω;simp only[jd,Vm,h1,h2,zl];show 0+_+_=_;by_cases hr:r=[iv 1];subst hr;simp;omega;have:¬ [iv 1]=r:=λ e=>hr e.symm;simp[hr,this]
def nM(r:Row)(t:Int):cnt kp r t=if r=[iv 1]then(if 4<=t/\t<7 then 1 else 0)else 0:=by have h1:=rk (a:=4) (b:=7) (t:=t) Ω Ω Ω;simp only[kp,Vm,h1,zl];show 0+_=_;by_cases hr:r=[iv 1];subst hr;simp;have:¬ [iv 1]=r:=λ e=>hr e.symm;simp[hr,this]
def Ye(h0:0<=a)(h1:a<b)(h2:b<=1099511627776):bA [(a,b)]:=⟨λ p hp=>by simp at hp;subst hp;exact iF.2 ⟨h0,h1,h2⟩,List.pairwise_singleton _ _⟩
def TJ(h0:0<=a)(h1:a<b)(h2:b<=1099511627776):inL [(a,b)] t=decide (a<=t/\t<b):=by unfold inL;rw[List.any_cons,List.any_nil,Bool.or_false,rk h0 h1 h2]
variable {c d:Int}
def Yf (h0:0<=a) (h1:a<b) (h2:b<c) (h3:c<d) (h4:d<=1099511627776):bA [(a,b),(c,d)]:=⟨fun p hp=>by
 simp at hp;rcases hp with rfl|rfl
 . exact iF.2 ⟨h0,h1,by dsimp only;omega⟩
 . exact iF.2 ⟨by dsimp only;omega,h3,h4⟩,List.pairwise_pair.2 (by dsimp only;omega)⟩
def TK(h0:0<=a)(h1:a<b)(h2:b<c)(h3:c<d)(h4:d<=1099511627776):inL [(a,b),(c,d)] t=decide ((a<=t/\t<b)\/(c<=t/\t<d)):=by unfold inL;rw[List.any_cons,List.any_cons,List.any_nil,Bool.or_false,rk h0 h1 Ω,rk Ω h3 h4,Bool.eq_iff_iff];simp
def wT:List aF:=[(0,9),(2,7),(4,5)]
def wy:List aF:=[(0,5),(2,4),(7,9)]
variable {k:Nat}
def lv1{N:Int->Nat}(h0:0<=a)(h1:a<b)(h2:b<=1099511627776)(h:∀t,(a<=t/\t<b)↔k<N t):bA [(a,b)]/\∀t,inL [(a,b)] t=decide (k<N t):=⟨Ye h0 h1 h2,λ t=>by rw[TJ h0 h1 h2,Bool.eq_iff_iff,zl,zl,h]⟩
def GO{N:Int->Nat}(h:∀t,¬ k<N t):bA []/\∀t,inL [] t=decide (k<N t):=⟨Cq,λ t=>by rw[pQ,decide_eq_false (h t)]⟩
def Mz:bD (λ t=>cnt jd [iv 1] t+cnt kp [iv 1] t) wT:=by refine⟨?_,λ k=>match k with|0=>[(0,9)]|1=>[(2,7)]|2=>[(4,5)]|_=>[],3,λ t=>?_,λ k=>?_,List.Perm.refl _⟩;simp[aH,wT,vN];rw[gL,nM];simp only[if_true];split<;>split<;>split<;>omega;match k with|0=>refine lv1 Ω Ω Ω λ t=>?_;rw[gL,nM];simp only[if_true];split<;>split<;>split<;>omega|1=>refine lv1 Ω Ω Ω λ t=>?_;rw[gL,nM];simp only[if_true];split<;>split<;>split<;>omega|2=>refine lv1 Ω Ω Ω λ t=>?_;rw[gL,nM];simp only[if_true];split<;>split<;>split<;>omega|k+3=>refine GO λ t=>?_;rw[gL,nM];simp only[if_true];split<;>split<;>split<;>omega
def MA:bD (λ t=>cnt jd [iv 1] t - cnt kp [iv 1] t) wy:=by refine⟨?_,λ k=>match k with|0=>[(0,5),(7,9)]|1=>[(2,4)]|_=>[],2,λ t=>?_,λ k=>?_,?_⟩;simp[aH,wy,vN];rw[gL,nM];simp only[if_true];split<;>split<;>split<;>omega;(match k with|0=>refine⟨Yf Ω Ω Ω Ω Ω,λ t=>?_⟩;show inL [(0,5),(7,9)] t=_;rw[TK Ω Ω Ω Ω Ω,gL,nM,Bool.eq_iff_iff,zl,zl];simp only[if_true];split<;>split<;>split<;>omega|1=>refine lv1 Ω Ω Ω λ t=>?_;rw[gL,nM];simp only[if_true];split<;>split<;>split<;>omega|k+2=>refine GO λ t=>?_;rw[gL,nM];simp only[if_true];split<;>split<;>split<;>omega);exact List.Perm.cons _ (List.Perm.swap _ _ _)
def My:bD (λ t=>min (cnt jd [iv 1] t) (cnt kp [iv 1] t)) [(4,7)]:=by refine⟨?_,λ k=>match k with|0=>[(4,7)]|_=>[],1,λ t=>?_,λ k=>?_,List.Perm.refl _⟩;simp[aH];rw[gL,nM];simp only[if_true];split<;>split<;>split<;>omega;match k with|0=>refine lv1 Ω Ω Ω λ t=>?_;rw[gL,nM];simp only[if_true];split<;>split<;>split<;>omega|k+1=>refine GO λ t=>?_;rw[gL,nM];simp only[if_true];split<;>split<;>split<;>omega
def Mx:bD (λ t=>if 0<cnt jd [iv 1] t then 1 else 0) [(0,9)]:=by refine⟨?_,λ k=>match k with|0=>[(0,9)]|_=>[],1,λ t=>?_,λ k=>?_,List.Perm.refl _⟩;simp[aH];split<;>omega;match k with|0=>refine lv1 Ω Ω Ω λ t=>?_;rw[gL];simp only[if_true];split<;>split<;>split<;>omega|k+1=>refine GO λ t=>?_;split<;>omega
def Mt:kT (λ r t=>cnt jd r t+cnt kp r t) (mk [iv 1] wT):=Ln (N:=λ r t=>cnt jd r t+cnt kp r t) Mz λ r hr t=>by rw[gL,nM,if_neg hr,if_neg hr]
def Mu:kT (λ r t=>cnt jd r t - cnt kp r t) (mk [iv 1] wy):=Ln (N:=λ r t=>cnt jd r t - cnt kp r t) MA λ r hr t=>by rw[gL,nM,if_neg hr,if_neg hr]
def Mr:kT (λ r t=>min (cnt jd r t) (cnt kp r t)) (mk [iv 1] [(4,7)]):=Ln (N:=λ r t=>min (cnt jd r t) (cnt kp r t)) My λ r hr t=>by rw[gL,nM,if_neg hr,if_neg hr];rfl
def Mq:kT (λ r t=>if 0<cnt jd r t then 1 else 0) (mk [iv 1] [(0,9)]):=Ln (N:=λ r t=>if 0<cnt jd r t then 1 else 0) Mx λ r hr t=>by rw[gL,if_neg hr];rfl
def UO{n:Nat}{a b:List Fc}{h:Row}{τ:Int}:lk n a b h τ↔(∃f,f∈a/\f.r.take n=h/\aG f.p τ)/\∀g,g∈b->aG g.p τ->∃f,f∈a/\f.r=h++g.r/\aG f.p τ:=by unfold lk;constructor;rintro⟨h1,h2⟩;exact⟨h1,λ g g1 g2=>ph.1 (h2 g.r (ph.2 ⟨g,g1,rfl,g2⟩))⟩;rintro⟨h1,h2⟩;refine⟨h1,λ t ht=>?_⟩;obtain⟨g,g1,rfl,g2⟩:=ph.1 ht;exact ph.2 (h2 g g1 g2)
def wv(τ:Int):(lk 1 mY nB [iv 1] τ↔0<=τ/\τ<6)/\(lk 1 mY nB [iv 2] τ↔(0<=τ/\τ<4)\/(8<=τ/\τ<9))/\∀h,lk 1 mY nB h τ->h=[iv 1]\/h=[iv 2]:=by
 have h1:=rk (a:=0) (b:=6) (t:=τ) Ω Ω Ω;have h2:=rk (a:=3) (b:=9) (t:=τ) Ω Ω Ω;have h3:=rk (a:=0) (b:=9) (t:=τ) Ω Ω Ω;have h4:=rk (a:=1) (b:=9) (t:=τ) Ω Ω Ω;have h5:=rk (a:=4) (b:=8) (t:=τ) Ω Ω Ω;have q:¬ iv 1=iv 2:=by simp[iv]
 have Q:¬ iv 2=iv 1:=by simp[iv]
 have J:¬ iv 5=iv 6:=by simp[iv]
 have O:¬ iv 6=iv 5:=by simp[iv]
 refine⟨?_,?_,λ h hh=>?_⟩;rw[UO];simp only[mY,nB,zC,List.not_mem_nil,or_false,exists_eq_or_imp,exists_eq_left,forall_eq_or_imp,forall_eq,h1,h2,h3,h4,h5,zl,List.take_succ_cons,List.take_zero,List.cons_append,zU,List.cons.injEq,and_true,true_and,q,Q,J,O,false_and,and_false,or_false,false_or,imp_false,not_and];omega;rw[UO];simp only[mY,nB,zC,List.not_mem_nil,or_false,exists_eq_or_imp,exists_eq_left,forall_eq_or_imp,forall_eq,h1,h2,h3,h4,h5,zl,List.take_succ_cons,List.take_zero,List.cons_append,zU,List.cons.injEq,and_true,true_and,q,Q,J,O,false_and,and_false,or_false,false_or,imp_false,not_and];omega;obtain⟨f,hf,rfl,_⟩:=hh.1;simp only[mY,zC,List.not_mem_nil,or_false]at hf;rcases hf with rfl|rfl|rfl<;>simp
def GK:Row->List aF:=λ r=>if r=[iv 1]then[(0,6)]else[(0,4),(8,9)]
def Ms:kT (fG 1 mY nB) (mk [iv 1] [(0,6)]++mk [iv 2] [(0,4),(8,9)]):=by
 have q:¬ [iv 2]=[iv 1]:=by simp[iv]
 refine⟨[[iv 1],[iv 2]],GK,?_,λ r t ht=>?_,λ r hr=>?_,?_⟩;refine List.pairwise_pair.2 ?_;have e1:aK [iv 1] [iv 2]≠0:=λ e=>q (tH e).symm;have e2:aK [iv 1] [iv 2]=-1:=by decide +kernel
 omega;rcases(wv t).2.2 r (vI.1 ht)with rfl|rfl<;>simp;have le:=tT 1 mY nB r;have e:fG 1 mY nB r=λ t=>if 0<fG 1 mY nB r t then 1 else 0:=funext λ t=>by have:=le t;split<;>omega
 rw[e];simp only[zC,List.not_mem_nil,or_false]at hr;rcases hr with rfl|rfl;have:GK [iv 1]=[(0,6)]:=if_pos rfl;rw[this];refine yC (Ye Ω Ω Ω) λ t=>?_;rw[TJ Ω Ω Ω,Bool.eq_iff_iff,zl,zl,vI,(wv t).1];have:GK [iv 2]=[(0,4),(8,9)]:=if_neg q;rw[this];refine yC (Yf Ω Ω Ω Ω Ω) λ t=>?_;rw[TK Ω Ω Ω Ω Ω,Bool.eq_iff_iff,zl,zl,vI,(wv t).2.1];simp[dB,mk,GK,q]
def Wz(f t:Int)(row:List Int)(hl:row.length<=8):gF f t (row.map encN)=some ((row.map iv).map encV,f,t):=by
 have key:=r6 (step:=AG (row.map encN)) (fun k=>(((k:Nat):Int),(0:Int),(0:Int),f,t,((row.take k).map iv).length,((row.take k).map iv).map encV)) row.length ((0:Int),(0:Int),(row.map iv).length,f,t,(row.map iv).map encV) (fun k hk=>by
  have i1:(k:Int)<(row.length:Int):=Ω
  have gf:(row.map encN).getD k .top=encN row[k]:=cH _ _ _ hk;have tl:((row.take k).map iv).length<=8:=by rw[za,zt];omega
  have m1:(((row.take k).map iv).length+1)*32<=140737488355328:=Ω
  have m2:((row.take k).map iv).length+1<=4611686018427387904:=Ω
  have tk:(row.take (k+1)).map iv=(row.take k).map iv++[iv row[k]]:=by rw[List.take_add_one,ze hk,zx];rfl
  rw[tk];generalize (row.take k).map iv=D at m1 m2;simp only[AG,Jr,za,z8,zj,i1,hk,gf,cN,sN,m1,m2,zN,Int.natCast_nonneg,beq_self_eq_true,zn,Bool.and_self,zS,aW,dN (n:=k) Ω,zx,zV,zW,aI]
  simp [encV,iv]) (by
  simp only [AG,Jr,za,zy,zm,bE,y6,aI]) row.length 0 Ω
 have key:aB (AG (row.map encN)) ((0:Int),(0:Int),(0:Int),f,t,(0:Nat),[])=some ((0:Int),(0:Int),(row.map iv).length,f,t,(row.map iv).map encV):=key;generalize row.map iv=D at key;have tt:List.take D.length (D.map encV)=D.map encV:=zi Ψ;unfold gF QS;simp only[ym,QI,key,zk,zh,aW,za,zH,zd,zn,Bool.and_self,zr,tt,aI]
def Xo(c:Nat)(hc:c<=8)(l:List AV):uV (c:Int) l=some ((List.replicate c (1:Int)).map encN,l):=by
 have key:=r6 (step:=Ar (c:Int)) (fun k=>(((k:Nat):Int),l,(List.replicate k (1:Int)).length,(List.replicate k (1:Int)).map encN)) c ((List.replicate c (1:Int)).length,l,(List.replicate c (1:Int)).map encN) (fun k hk=>by
  have i1:(k:Int)<(c:Int):=Ω
  have tl:(List.replicate k (1:Int)).length<=8:=by rw[List.length_replicate];omega
  have m1:((List.replicate k (1:Int)).length+1)*8<=140737488355328:=Ω
  have m2:(List.replicate k (1:Int)).length+1<=4611686018427387904:=Ω
  have tk:List.replicate (k+1) (1:Int)=List.replicate k 1++[1]:=List.replicate_succ';rw [tk];generalize List.replicate k (1:Int)=D at m1 m2;simp only [Ar,Ii,za,z8,zj,i1,m1,m2,beq_self_eq_true,zn,Bool.and_self,aW,dN (n:=k) Ω,zx,zV,zW,encN,aI]) (by
  simp only [Ar,Ii,zy,zm,bE,aI]) c 0 Ω
 have key:aB (Ar (c:Int)) ((0:Int),l,(0:Nat),[])=some ((List.replicate c (1:Int)).length,l,(List.replicate c (1:Int)).map encN):=key;generalize List.replicate c (1:Int)=D at key;have tt:List.take D.length (D.map encN)=D.map encN:=zi Ψ;unfold uV Pt;simp only[Bn,OW,key,zk,zh,aW,za,zH,zd,zn,Bool.and_self,zr,tt,aI]
def mP(f t a:Int):gF f t [AV.int .i64 a]=some ([encV (iv a)],f,t):=Wz f t [a] Ψ
def GY(f t a b:Int):gF f t [AV.int .i64 a,AV.int .i64 b]=some ([encV (iv a),encV (iv b)],f,t):=Wz f t [a,b] Ψ
def wJ(l:List AV):uV 1 l=some (([1]:List Int).map encN,l):=Xo 1 Ω l
def Nf(l:List AV):uV 2 l=some (([1,1]:List Int).map encN,l):=Xo 2 Ω l
def xIl:tC (([1]:List Int).map encN) (jd.map encF) (([1]:List Int).map encN) (kp.map encF)=some (([1]:List Int).map encN,(mk [iv 1] wT).map encF):=by obtain⟨B,e,h⟩:=UW [1] (([1]:List Int).map encN) Ψ GZ N9 (by simp[jd,kp]) (kJ.few (by simp[jd,kp]));rw[h.isB.unique Mt]at e;exact e
def xGK:tA (([1]:List Int).map encN) (jd.map encF) (([1]:List Int).map encN) (kp.map encF)=some (([1]:List Int).map encN,(mk [iv 1] wy).map encF):=by obtain⟨B,e,h⟩:=xzo [1] (([1]:List Int).map encN) Ψ GZ N9 (by simp[jd,kp]) (kJ.few (by simp[jd,kp]));rw[h.isB.unique Mu]at e;exact e
def xIk:tw (([1]:List Int).map encN) (jd.map encF) (([1]:List Int).map encN) (kp.map encF)=some (([1]:List Int).map encN,(mk [iv 1] [(4,7)]).map encF):=by obtain⟨B,e,h⟩:=UR [1] (([1]:List Int).map encN) Ψ GZ N9 (by simp[jd,kp]) (kJ.few (by simp[jd,kp]));rw[h.isB.unique Mr]at e;exact e
def xJx:qY (([1]:List Int).map encN) (jd.map encF)=some (([1]:List Int).map encN,(mk [iv 1] [(0,9)]).map encF):=by obtain⟨B,e,_,h⟩:=xvF [1] Ψ GZ (by simp[jd]) (kJ.few (by simp[jd]));rw[h.isB.unique Mq]at e;exact e
def xLS:Kh (([1,1]:List Int).map encN) (mY.map encF) (([1]:List Int).map encN) (nB.map encF)=some (([1]:List Int).map encN,(mk [iv 1] [(0,6)]++mk [iv 2] [(0,4),(8,9)]).map encF):=by obtain⟨B,e,h,_⟩:=xF3 xPl;rw[h.isB.unique Ms]at e;exact e
def Gl{l:List Fc}(hl:l.length<=8)(hr:∀f,f∈l->f.r.length<=60):qQ (l.map encF) (l.map encF)=some true:=xJl Ω hr
def UQ:Cg=some true:=by
 have E40:EM:=by unfold EM;rw[mP];rfl
 have E17:IQ=some (([1]:List Int).map encN,jd.map encF):=by unfold IQ tv ye Jo;rw[mP,mP,wJ];rfl
 have E20:Jb=some (([1]:List Int).map encN,kp.map encF):=by unfold Jb Jp;rw[mP,wJ];rfl
 have E11:IM=some (([1,1]:List Int).map encN,mY.map encF):=by unfold IM Jc Jd Je;rw[GY,GY,GY,Nf];rfl
 have E16:IP=some (([1]:List Int).map encN,nB.map encF):=by unfold IP Jm Jh;rw[mP,mP,wJ];rfl
 have F9:uU=([1]:List Int).map encN:=by unfold uU IN;rw[E17];rfl
 have F8:uS=jd.map encF:=by unfold uS IN;rw[E17];rfl
 have F13:EL=([1]:List Int).map encN:=by unfold EL IS;rw[E20];rfl
 have F12:BF=kp.map encF:=by unfold BF IS;rw[E20];rfl
 have E7:JJ=some (([1]:List Int).map encN,(mk [iv 1] wT).map encF):=by unfold JJ;rw[F9,F8,F13,F12];exact xIl
 have E5:JH=some (([1]:List Int).map encN,(mk [iv 1] wy).map encF):=by unfold JH;rw[F9,F8,F13,F12];exact xGK
 have E6:JI=some (([1]:List Int).map encN,(mk [iv 1] [(4,7)]).map encF):=by unfold JI;rw[F9,F8,F13,F12];exact xIk
 have ED:qY uU uS=some (([1]:List Int).map encN,(mk [iv 1] [(0,9)]).map encF):=by rw[F9,F8];exact xJx
 have E1:JD=some (([1]:List Int).map encN,(mk [iv 1] [(0,6)]++mk [iv 2] [(0,4),(8,9)]).map encF):=by unfold JD PW PX;rw[E11,E16];exact xLS
 have E3:JF=some true:=by
  unfold JF tv ye Jl Ji;rw [E7,mP,mP,mP];exact Gl (l:=mk [iv 1] wT) (by simp [mk,wT]) (fun f hf=>by
   obtain ⟨p,_,rfl⟩:=zK.1 hf;simp)
 have E2:JE=some true:=by
  unfold JE Jn Jq Jf;rw [E5,mP,mP,mP];exact Gl (l:=mk [iv 1] wy) (by simp [mk,wy]) (fun f hf=>by
   obtain ⟨p,_,rfl⟩:=zK.1 hf;simp)
 have E4:JG=some true:=by
  unfold JG;rw [E6,F12];exact Gl (l:=mk [iv 1] [(4,7)]) (by simp [mk]) (fun f hf=>by
   obtain ⟨p,_,rfl⟩:=zK.1 hf;simp)
 have E18:IR=some true:=by
  unfold IR tv ye;rw [ED,mP];exact Gl (l:=mk [iv 1] [(0,9)]) (by simp [mk]) (fun f hf=>by
   obtain ⟨p,_,rfl⟩:=zK.1 hf;simp)
 have E0:JC=some true:=by
  unfold JC Jj Jk Jg;rw [E1,mP,mP,mP];exact Gl (l:=mk [iv 1] [(0,6)]++mk [iv 2] [(0,4),(8,9)]) (by simp [mk]) (fun f hf=>by
   rcases zG.1 hf with hf|hf;all_goals
    obtain ⟨p,_,rfl⟩:=zK.1 hf;simp)
 unfold Cg QH;simp only[mP,GY,E40,E17,E20,E11,E16,E7,E5,E6,ED,E1,E3,E2,E4,E18,E0,zk,zh,aW,aI]
def Wc(r:Row)(n:Nat)(hn:n<=1048576):∀d k(D:List Row)(v:Nat),k+d=n->D.length+d<=1099511627776->
  aB (Bb (r.map encV) (n:Int)) (v,D.length,(k:Int),v,D.map encR)=some (v+d,D.length+d,(D++List.replicate d r).map encR,v+d)
 |0,k,D,v,hk,hD=>by
  have:k=n:=by omega
  subst this;refine cQ ?_;simp[Bb,Ez,bE,aI]
 |d+1,k,D,v,hk,hD=>by
  have i1:(k:Int)<(n:Int):=by omega
  have m1:(D.length+1)*24<=140737488355328:=by omega
  have m2:D.length+1<=4611686018427387904:=by omega
  have key:=Wc r n hn d (k+1) (D++[r]) (v+1) (by omega) (by rw[z8,zj];omega)
  rw[zw,z8,zj]at key;rw[show v+(d+1)=v+1+d by omega,show D.length+(d+1)=D.length+1+d by omega,List.replicate_succ,show r::List.replicate d r=[r]++List.replicate d r from rfl,<-key]
  refine eH ?_;simp only[Bb,Ez,za,i1,m1,m2,zn,beq_self_eq_true,Bool.and_self,Bool.true_and,aW,dN (n:=k) (by omega),zx,zV,zW,aI]
  rfl
def xMW(r:Row)(n:Nat)(hn:n<=1048576)(D:List Row)(hD:D.length<=549755813888):mZ D.length (r.map encV) (n:Int) (D.map encR)=some ((D++List.replicate n r).length,(D++List.replicate n r).map encR):=by
 have key:=Wc r n hn n 0 D 0 Ω Ω;have v3:Jx D.length (r.map encV) (n:Int) (D.map encR)=some (0+n,D.length+n,(D++List.replicate n r).map encR,0+n):=key;have e:vf D.length (r.map encV) (n:Int) (D.map encR)=some (0+n,D.length+n,(D++List.replicate n r).map encR,0+n):=by unfold vf B3;simp only[BL,v3,zk,zh,aW,aI]
 have h1:Nat.beq (0+n) (0+n):=Nat.beq_refl _;have h2:Nat.blt (0+n) 1099511627776:=by rw[Nat.blt_eq];omega
 unfold mZ;rw[e];show br (Nat.beq (0+n) (0+n)&&Nat.blt (0+n) 1099511627776) _ none=_;rw[h1,h2,z8,List.length_replicate];rfl
def fmR(f:Row->Nat)(Q:List Row):List Row:=Q.flatMap λ r=>List.replicate (f r) r
def SZ(f:Row->Nat)(x:Row):∀Q:List Row,cK aK Q->(fmR f Q).count x=if x∈Q then f x else 0
 |[],_=>by simp[fmR]
 |r::Q,h=>by
  have ih:=SZ f x Q (zM.1 h).2;have hx:=(zM.1 h).1;unfold fmR at ih|-;rw[zR,List.count_append,ih,List.count_replicate];by_cases e:r=x
  . subst e;have:r∉Q:=λ hm=>by have:=hx r hm;rw[vw]at this;omega
    simp[this]
  . have e1:(r==x)=false:=by simpa using e
    have e2:¬ x=r:=λ h=>e h.symm
    simp[e1,e2]
def Sy(f:Row->Nat):∀Q:List Row,cK aK Q->aH aK (fmR f Q)|[],_=>List.Pairwise.nil|r::Q,h=>by have ih:=Sy f Q (zM.1 h).2;have hx:=(zM.1 h).1;unfold fmR at ih|-;rw[zR];refine List.pairwise_append.2 ⟨List.pairwise_replicate.2 (.inr (by rw[vw];omega)),ih,λ a ha b hb=>?_⟩;rw[List.eq_of_mem_replicate ha];obtain⟨q,hq,hb⟩:=y5.1 hb;rw[List.eq_of_mem_replicate hb];have:=hx q hq;omega
def xKt(f:Row->Nat)(Q:List Row)(i:Nat)(h:i<Q.length)(D:List Row):D++fmR f (Q.drop i)=(D++List.replicate (f Q[i]) Q[i])++fmR f (Q.drop (i+1)):=by rw[jr h,zw];rfl
def Nk{step:Int×List AV×Nat×List AV->Option ((Int×List AV×Nat×List AV)⊕(List AV×Nat×List AV))}(Q:List Row)(h:Row->Nat)(hh:∀r,h r<=1024)(hQ:Q.length<=1048576)(ks:List AV)(he:∀D:List Row,step ((Q.length:Int),ks,D.length,D.map encR)=some (.inr (ks,D.length,D.map encR)))(hs:∀i(hi:i<Q.length)(D:List Row),mZ D.length (Q[i].map encV) ((h Q[i]:Nat):Int) (D.map encR)=some ((D++List.replicate (h Q[i]) Q[i]).length,(D++List.replicate (h Q[i]) Q[i]).map encR)->step ((i:Int),ks,D.length,D.map encR)=some (.inl (((i+1:Nat):Int),ks,(D++List.replicate (h Q[i]) Q[i]).length,(D++List.replicate (h Q[i]) Q[i]).map encR))):∀d i(D:List Row),i+d=Q.length->D.length<=1024*i->aB step ((i:Int),ks,D.length,D.map encR)=some (ks,(D++fmR h (Q.drop i)).length,(D++fmR h (Q.drop i)).map encR)|0,i,D,hi,hD=>by(have:i=Q.length:=Ω);subst this;rw[zq (zd _),show fmR h []=[] from rfl,zD];exact cQ (he D)|d+1,i,D,hi,hD=>by(have q:i<Q.length:=Ω);have h1:=hh Q[i];rw[xKt _ Q i q D,<-Nk Q h hh hQ ks he hs d (i+1) (D++List.replicate (h Q[i]) Q[i]) Ω (by rw[z8,List.length_replicate];omega)];exact eH (hs i q D (xMW Q[i] (h Q[i]) Ω D Ω))
def xKR(r:Row)(n:Int)(hn:n<0)(D:List Row):mZ D.length (r.map encV) n (D.map encR)=some (D.length,D.map encR):=by(have e1:¬ (0:Int)<n:=Ω);have v3:Jx D.length (r.map encV) n (D.map encR)=some (0,D.length,D.map encR,0):=cQ (by simp only[Bb,Ez,e1,zm,bE,aI]);(have e2:vf D.length (r.map encV) n (D.map encR)=some (0,D.length,D.map encR,0):=by unfold vf B3;simp only[BL,v3,zk,zh,aW,aI]);unfold mZ;rw[e2];rfl
def LF(Q:List Row)(f:Row->Nat)(i:Nat)(h:i<Q.length):((Q.map λ r=>((f r:Nat):Int)).map encN).getD i .top=encN ((f Q[i]:Nat):Int):=by rw[cH _ _ _ (by simpa using h)];simp
def pu(N:Row->Nat)(X:List Row):Prop:=aH aK X/\∀r,X.count r=N r
def pu.one{N:Row->Nat}{X Y:List Row}(hx:pu N X)(hy:pu N Y):X=Y:=Kw mj (λ _ _ h=>tH h) (List.perm_iff_count.2 λ r=>by rw[hx.2,hy.2]) hx.1 hy.1
def xJ2(ka kb:List AV)(a b:List Row)(ha:kO a)(hb:kO b)(la:a.length<=1024)(lb:b.length<=1024):∃X:List Row,Rj ka (a.map encR) kb (b.map encR)=some (ka,X.map encR)/\pu (λ r=>a.count r - b.count r) X:=by
 obtain ⟨Q,q1,q2,q3,q4⟩:=Un a b ha hb;have key:=Nk (step:=AZ (Q.map encR) ((Q.map fun r=>((a.count r:Nat):Int)).map encN) ((Q.map fun r=>((b.count r:Nat):Int)).map encN)) Q (fun r=>a.count r - b.count r) (fun r=>by have:=List.count_le_length (a:=r) (l:=a);omega) Ω ka (fun D=>by simp [AZ,Iz,bE,aI]) (fun i hi D hr=>by
  have i1:(i:Int)<(Q.length:Int):=Ω
  have gi:(Q.map encR).getD i .top=encR Q[i]:=cH _ _ _ hi;have gn:=LF Q (λ r=>a.count r) i hi
  have gm:=LF Q (λ r=>b.count r) i hi
  have f1:=List.count_le_length (a:=Q[i]) (l:=a);have g1:=List.count_le_length (a:=Q[i]) (l:=b);have w:IntKind.i64.wrap (((a.count Q[i]:Nat):Int) - ((b.count Q[i]:Nat):Int))=((a.count Q[i]:Nat):Int) - ((b.count Q[i]:Nat):Int):=gx Ω Ω
  have rr:mZ D.length (Q[i].map encV) (((a.count Q[i]:Nat):Int) - ((b.count Q[i]:Nat):Int)) (D.map encR)=some ((D++List.replicate (a.count Q[i] - b.count Q[i]) Q[i]).length,(D++List.replicate (a.count Q[i] - b.count Q[i]) Q[i]).map encR):=by
   rcases zJ (a.count Q[i]) (b.count Q[i])with h|h
   . rw[xKR _ _ Ω,show a.count Q[i] - b.count Q[i]=0 by omega,List.replicate_zero,zD]
   . rw[show ((a.count Q[i]:Nat):Int) - ((b.count Q[i]:Nat):Int)=((a.count Q[i] - b.count Q[i]:Nat):Int) by omega]
     exact hr
  simp only [AZ,Iz,Ib,bR,hi,i1,gi,gn,gm,kV,lc,cN,sN,w,rr,dN (n:=i) Ω]) Q.length 0 [] Ω Ψ
 have key:aB (AZ (Q.map encR) ((Q.map λ r=>((a.count r:Nat):Int)).map encN) ((Q.map λ r=>((b.count r:Nat):Int)).map encN)) ((0:Int),ka,(0:Nat),[])=_:=key;rw [zU,zr] at key;refine ⟨_,?_,Sy _ Q q2,fun r=>by
  rw[SZ _ r Q q2];split
  . rfl
  . rename_i h;have:a.count r=0:=List.count_eq_zero.2 λ hm=>h ((q3 r).2 hm)
    simp [this]⟩
 generalize fmR (λ r=>a.count r - b.count r) Q=X at key;have v4:Jv ka (a.map encR) (b.map encR)=some (ka,X.length,X.map encR):=by unfold Jv;rw[q1];exact key
 have tt:List.take X.length (X.map encR)=X.map encR:=zi Ψ;unfold Rj Qf;simp only[BI,v4,q1,zk,zh,aW,zH,za,zd,zn,zS,zr,tt,aI]
def xJ3(ka kb:List AV)(a b:List Row)(ha:kO a)(hb:kO b)(la:a.length<=1024)(lb:b.length<=1024):∃X:List Row,PM ka (a.map encR) kb (b.map encR)=some (ka,X.map encR)/\pu (λ r=>min (a.count r) (b.count r)) X:=by
 obtain ⟨Q,q1,q2,q3,q4⟩:=Un a b ha hb;have key:=Nk (step:=As (Q.map encR) ((Q.map fun r=>((a.count r:Nat):Int)).map encN) ((Q.map fun r=>((b.count r:Nat):Int)).map encN)) Q (fun r=>min (a.count r) (b.count r)) (fun r=>by have:=List.count_le_length (a:=r) (l:=a);omega) Ω ka (fun D=>by simp [As,H4,bE,aI]) (fun i hi D hr=>by
  have i1:(i:Int)<(Q.length:Int):=Ω
  have gi:(Q.map encR).getD i .top=encR Q[i]:=cH _ _ _ hi;have gn:=LF Q (λ r=>a.count r) i hi
  have gm:=LF Q (λ r=>b.count r) i hi
  have w:(if((b.count Q[i]:Nat):Int)<((a.count Q[i]:Nat):Int)then((b.count Q[i]:Nat):Int)else((a.count Q[i]:Nat):Int))=((min (a.count Q[i]) (b.count Q[i]):Nat):Int):=by
   split<;>omega
  simp only [As,H4,HF,bR,hi,i1,gi,gn,gm,kV,lc,cN,sN,w,hr,dN (n:=i) Ω]) Q.length 0 [] Ω Ψ
 have key:aB (As (Q.map encR) ((Q.map λ r=>((a.count r:Nat):Int)).map encN) ((Q.map λ r=>((b.count r:Nat):Int)).map encN)) ((0:Int),ka,(0:Nat),[])=_:=key;rw [zU,zr] at key;refine ⟨_,?_,Sy _ Q q2,fun r=>by
  rw[SZ _ r Q q2];split
  . rfl
  . rename_i h;have:a.count r=0:=List.count_eq_zero.2 λ hm=>h ((q3 r).2 hm)
    simp [this]⟩
 generalize fmR (λ r=>min (a.count r) (b.count r)) Q=X at key;have v4:Ic ka (a.map encR) (b.map encR)=some (ka,X.length,X.map encR):=by unfold Ic;rw[q1];exact key
 have tt:List.take X.length (X.map encR)=X.map encR:=zi Ψ;unfold PM OZ;simp only[AI,v4,q1,zk,zh,aW,zH,za,zd,zn,zS,zr,tt,aI]
def xJ6(ka kb:List AV)(a b:List Row)(h:kO (a++b)):∃X:List Row,Rc ka (a.map encR) kb (b.map encR)=some (ka,X.map encR)/\pu (λ r=>a.count r+b.count r) X:=by
 obtain⟨X,e,p,s⟩:=Ld (a++b) h;refine⟨X,?_,s,λ r=>by rw[p.count_eq,List.count_append]⟩;have hl:=h.1;rw[z8]at hl;have m1:a.length*24<=140737488355328:=Ω
 have m2:a.length<=4611686018427387904:=Ω
 have m3:(a.length+b.length)*24<=140737488355328:=Ω
 have m4:a.length+b.length<=4611686018427387904:=Ω
 have tt:List.take (a.length+b.length) (a.map encR++b.map encR)=(a++b).map encR:=by rw[zi Ψ,zx]
 unfold Rc QP;simp only[za,z8,m1,m2,m3,m4,zn,Bool.and_self,zS,beq_self_eq_true,aW,zH,zd,zr,tt,e,zk,zh,aI]
def xJ1(ka:List AV)(a:List Row)(ha:kO a):∃X:List Row,JO ka (a.map encR)=some (ka,X.map encR)/\pu (λ r=>if 0<a.count r then 1 else 0) X:=by obtain⟨D,e,s,m,_⟩:=xwh a ha;refine⟨D,?_,s.imp λ h=>by omega,λ r=>by rw[xCd s];simp only[m,List.count_pos_iff]⟩;unfold JO Px;simp only[e,zk,zh,aW,aI]
def xJo(K:List AV)(l:List Fc)(t:Int)(h:oM l):∃R:List Row,mS K (l.map encF) t=some (K,R.map encR)/\pu (λ r=>cnt l r t) R/\R.length<=l.length/\∀x,x∈R->∃f,f∈l/\f.r=x:=by obtain⟨R,e,p,s⟩:=xMU l t h;refine⟨R,?_,⟨s,λ r=>by rw[p.count_eq,xGJ]⟩,?_,λ x hx=>?_⟩;unfold mS Pg;simp only[e,zk,zh,aW,aI];rw[p.length_eq];exact Wl l t;obtain⟨f,hf,h1⟩:=y5.1 (p.mem_iff.1 hx);split at h1;simp at h1;exact⟨f,hf,h1.symm⟩;simp at h1
def KT(K:List Int)(hK:K.length<=1048576)(X Y:List Row)(hl:X.length<=1048576)(hr:∀f,f∈X->f.length<=maxLen)(e:X=Y):Cd (K.map encN) (X.map encR) (K.map encN) (Y.map encR)=some true:=by subst e;have e1:=Vw K K hK;have e2:=xDT X X hl hr;unfold Cd PL;simp[e1,e2,aW,aI]
def pu.congr{N M:Row->Nat}{X:List Row}(h:pu N X)(e:∀r,N r=M r):pu M X:=⟨h.1,λ r=>by rw[h.2,e]⟩
def CQ(K:List AV){l:List Fc}(hn:cW l)(hl:l.length<=1024)(t:Int):∃R:List Row,mS K (l.map encF) t=some (K,R.map encR)/\pu (λ r=>cnt l r t) R/\R.length<=l.length/\kO R/\∀x,x∈R->x.length<=maxLen:=by obtain⟨R,r1,r2,r3,r4⟩:=xJo K l t (hn.few Ω);(have hs:∀x,x∈R->x.length<=60:=λ x hx=>by obtain⟨f,hf,rfl⟩:=r4 x hx;exact hn.short f hf);exact⟨R,r1,r2,r3,⟨by omega,λ x hx=>by have:=hs x hx;omega⟩,λ x hx=>by have:=hs x hx;unfold maxLen;omega⟩
def xBs(Ka Kb:List Int)(a b:List Fc)(t:Int):OH (Ka.map encN) (a.map encF) (Kb.map encN) (b.map encF) t=some true:=by obtain⟨c,c1,c2⟩:=xKN Ka Kb a b;unfold OH OD;cases c with|false=>simp only[c1,UQ,zk,zh,Bool.not_false,aW,aI]|true=>
 obtain⟨ha,hb,rfl⟩:=c2 rfl;have hk:=ha.kl;have la:=ha.len;have lb:=hb.len;obtain⟨U,u1,u2⟩:=UW Ka (Ka.map encN) Ω ha.nice hb.nice Ω (GT _);obtain⟨X,x1,x2⟩:=xzo Ka (Ka.map encN) Ω ha.nice hb.nice Ω (GT _);obtain⟨M,m1,m2⟩:=UR Ka (Ka.map encN) Ω ha.nice hb.nice Ω (GT _);obtain⟨D,d1,d2,d3⟩:=xvF Ka Ω ha.nice Ω (GT _);have lU:=u2.len;have lX:=x2.len;have lM:=m2.len;have lD:=d3.len;obtain⟨R,r1,r2,r3,r4,r5⟩:=CQ (Ka.map encN) ha.nice Ω t;obtain⟨T,t1,t2,t3,t4,t5⟩:=CQ (Ka.map encN) hb.nice Ω t;obtain⟨RU,g1,g2,g3,g4,g5⟩:=CQ (Ka.map encN) u2.nice Ω t;obtain⟨RX,h1,h2,h3,h4,h5⟩:=CQ (Ka.map encN) x2.nice Ω t;obtain⟨RM,i1,i2,i3,i4,i5⟩:=CQ (Ka.map encN) m2.nice Ω t;obtain⟨RD,j1,j2,j3,j4,j5⟩:=CQ (Ka.map encN) d3.nice Ω t;have sh:kO (R++T):=⟨by rw[z8];omega,λ x hx=>(zG.1 hx).elim (r4.2 x) (t4.2 x)⟩;obtain⟨BU,y1,y2⟩:=xJ6 (Ka.map encN) (Ka.map encN) R T sh;obtain⟨BX,z1,z2⟩:=xJ2 (Ka.map encN) (Ka.map encN) R T r4 t4 Ω Ω;obtain⟨BM,p1,p2⟩:=xJ3 (Ka.map encN) (Ka.map encN) R T r4 t4 Ω Ω;obtain⟨BD,q1,q2⟩:=xJ1 (Ka.map encN) R r4;have k1:=K7 u2 Ω;have k2:=K7 x2 Ω;have k3:=K7 m2 Ω;have k4:=K7 d3 Ω;have q:xl (Ka.map encN) (a.map encF) t=Ka.map encN:=by unfold xl;rw[r1];rfl
 have J:xn (Ka.map encN) (a.map encF) t=R.map encR:=by unfold xn;rw[r1];rfl
 have V:DU (Ka.map encN) (a.map encF) (Ka.map encN) (b.map encF) t=some (Ka.map encN,RU.map encR):=by unfold DU;rw[u1];exact g1
 have W:DV (Ka.map encN) (a.map encF) (Ka.map encN) (b.map encF) t=some (Ka.map encN,RM.map encR):=by unfold DV;rw[m1];exact i1
 have Q:DW (Ka.map encN) (a.map encF) (Ka.map encN) (b.map encF) t=some (Ka.map encN,RX.map encR):=by unfold DW;rw[x1];exact h1
 have O:HA (Ka.map encN) (a.map encF) t=some (Ka.map encN,RD.map encR):=by unfold HA;rw[d1];exact j1
 have v7:DZ (Ka.map encN) (a.map encF) (Ka.map encN) (b.map encF) t=some (Ka.map encN,BU.map encR):=by unfold DZ;rw[q,J,t1];exact y1
 have v8:D0 (Ka.map encN) (a.map encF) (Ka.map encN) (b.map encF) t=some (Ka.map encN,BX.map encR):=by unfold D0;rw[q,J,t1];exact z1
 have v9:D1 (Ka.map encN) (a.map encF) (Ka.map encN) (b.map encF) t=some (Ka.map encN,BM.map encR):=by unfold D1;rw[q,J,t1];exact p1
 have v0:Hv (Ka.map encN) (a.map encF) (Ka.map encN) (b.map encF) t=some true:=by unfold Hv;rw[V,v7];exact KT Ka Ω RU BU Ω g5 (g2.one (y2.congr λ r=>by rw[u2.cnt,r2.2,t2.2]))
 have v1:Hw (Ka.map encN) (a.map encF) (Ka.map encN) (b.map encF) t=some true:=by unfold Hw;rw[Q,v8];exact KT Ka Ω RX BX Ω h5 (h2.one (z2.congr λ r=>by rw[x2.cnt,r2.2,t2.2]))
 have v2:Hx (Ka.map encN) (a.map encF) (Ka.map encN) (b.map encF) t=some true:=by unfold Hx;rw[W,v9];exact KT Ka Ω RM BM Ω i5 (i2.one (p2.congr λ r=>by rw[m2.cnt,r2.2,t2.2]))
 have v3:Hy (Ka.map encN) (a.map encF) t=some true:=by unfold Hy Oz Oy;rw[O,q,J,q1];exact KT Ka Ω RD BD Ω j5 (j2.one (q2.congr λ r=>by rw[d3.cnt,r2.2]))
 simp only[c1,UQ,r1,t1,u1,x1,m1,d1,k1,k2,k3,k4,q,J,V,W,Q,O,v7,v8,v9,v0,v1,v2,v3,q1,zk,zh,Bool.not_true,aW,bE,aI]
end Go.Sim.M
namespace Go.Sim.M
def xzU(x y:List Int×List Fc)(t:Int){P Q R:Prop}(_:P)(_:Q)(_:R):OH (x.1.map encN) (x.2.map encF) (y.1.map encN) (y.2.map encF) t=some true:=xBs x.1 y.1 x.2 y.2 t
end Go.Sim.M
