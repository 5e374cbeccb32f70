/- Part 17 of the proof of the law. -/
import Derived.Test.YtckgiglpmfpagaaGreatDoorQB16
import Derived.Lib.ItoaLen
set_option linter.unusedVariables false
set_option linter.unusedSimpArgs false
noncomputable section
set_option maxRecDepth 100000
namespace Go.Sim.M
open Go.RowKit Go.Sim.Srt
def okEW (x:AV):Bool:=x.cells.length==(9:Nat)&&xHh [Sh.int .i64,Sh.int .i64,Sh.list 3,Sh.int .i64,Sh.int .i64,Sh.int .i64,Sh.int .i64,Sh.int .i64,Sh.int .i64] x.cells 0
def ldEW (x:AV):AV:=.agg [.int .i64 (x.cells.getD 0 .top).toInt,.int .i64 (x.cells.getD 1 .top).toInt,.list 3 (x.cells.getD 2 .top).toList,.int .i64 (x.cells.getD 3 .top).toInt,.int .i64 (x.cells.getD 4 .top).toInt,.int .i64 (x.cells.getD 5 .top).toInt,.int .i64 (x.cells.getD 6 .top).toInt,.int .i64 (x.cells.getD 7 .top).toInt,.int .i64 (x.cells.getD 8 .top).toInt]
def cmpPW (x y:AV):Bool:=true
noncomputable def cmpVW (x y:AV):Int:=xrF (x.cells.getD 0 .top).toInt (x.cells.getD 1 .top).toInt (x.cells.getD 2 .top).toList (x.cells.getD 3 .top).toInt (x.cells.getD 4 .top).toInt (x.cells.getD 5 .top).toInt (x.cells.getD 6 .top).toInt (x.cells.getD 7 .top).toInt (x.cells.getD 8 .top).toInt (y.cells.getD 0 .top).toInt (y.cells.getD 1 .top).toInt (y.cells.getD 2 .top).toList (y.cells.getD 3 .top).toInt (y.cells.getD 4 .top).toInt (y.cells.getD 5 .top).toInt (y.cells.getD 6 .top).toInt (y.cells.getD 7 .top).toInt (y.cells.getD 8 .top).toInt
theorem heW (a:Ve):okEW (encW a)=true:=rfl
theorem hdW (a:Ve):ldEW (encW a)=encW a:=rfl
section
variable {N : Nat} (hN : N <= 2 ^ 60) {ok : Ve -> Prop} {c : Ve -> Ve -> Int} (hc : ∀ x y, ok x -> ok y -> cmpPW (encW x) (encW y) = true /\ cmpVW (encW x) (encW y) = c x y)
include hN
include hc
theorem xFS (a b:Nat) (ha:a<=N) (hb:b<=N) {l r:List Ve} (hl:LOk N ok l) (hr:insSort c a b l=some r):xbl N a b (List.map encW l)=some (List.map encW r)/\LOk N ok r:=by
 obtain ⟨e1,e2⟩:=xwV (enc:=encW) hN (c:=c) (ok:=ok) a b hb (gi:=fun i=>xbE N a b i) (fun i l r hl hr=>xzy (okE:=okEW) (ldE:=ldEW) heW hdW hN (P:=cmpPW) (V:=cmpVW) hc a (fun j xs=>rfl) hl hr) (g:=xbD N a b) (fun i xs=>rfl) hl hr
 refine ⟨?_,e2⟩;unfold xbl xee;rw [w64 (x:=(a:Int)+1) (n:=a+1) (by omega) (by omega),e1];rfl
theorem xC8 (q:N<20) {l r:List Ve} (hl:LOk N ok l) (hr:insSort c 0 N l=some r):xe2 N N (List.map encW l)=some (List.map encW r)/\LOk N ok r:=by
 obtain ⟨e1,e2⟩:=xFS hN hc 0 N (by omega) (zd _) hl hr
 have e1:xbl N 0 N (List.map encW l)=_:=e1;have q0:Iter (xbN N N 20) ((0:Int),(20:Int),List.map encW l)=some ((0:Int),List.map encW l):=by
  refine xaN ?_;have h1:¬ (20:Int)<=(N:Int):=by omega
  simp only [xbN,xe7,h1,zm,xaK,sUF]
 have q1:Iter (xcE N N) ((20:Int),List.map encW r)=some (List.map encW r):=by
  refine xaN ?_;have h1:¬ (20:Int)<(N:Int):=by omega
  simp only [xcE,xe8,h1,zm,xaK,sUF]
 refine ⟨?_,e2⟩;simp only [xe2,xgc,xfX,xfY,xfZ,q0,e1,q1,zk,zh,xaL,sUF]
end
end Go.Sim.M
namespace Go.Sim.M
open Go.RowKit Go.Sim.Srt
def rdD (l:List UInt8):Nat:=l.foldl (fun a c=>a*10+(c.toNat - 48)) 0
theorem xy2 (u:Nat):∀ c,c∈Lib.decDigits u->48<=c.toNat/\c.toNat<=57:=by
 induction u using Nat.strongRecOn with
 | _ u ih =>
  intro c hc;rw [Lib.decDigits] at hc;split at hc
  . rw [zv] at hc;subst hc;rw [UInt8.toNat_ofNat'];omega
  . rw [zG,zv] at hc;rcases hc with hc|rfl
    . exact ih (u / 10) (by omega) c hc
    . rw [UInt8.toNat_ofNat'];omega
theorem xBS (u:Nat):rdD (Lib.decDigits u)=u:=by
 induction u using Nat.strongRecOn with
 | _ u ih =>
  rw [Lib.decDigits];split
  . simp only [rdD,List.foldl_cons,List.foldl_nil,UInt8.toNat_ofNat'];omega
  . have:=ih (u / 10) (by omega)
    unfold rdD at this |-;rw [List.foldl_append,this];simp only [List.foldl_cons,List.foldl_nil,UInt8.toNat_ofNat'];omega
theorem xy3 {u v:Nat} (h:Lib.decDigits u=Lib.decDigits v):u=v:=by rw [<-xBS u,h,xBS]
theorem xsZ {a b:Int} (h:Lib.itoa a=Lib.itoa b):a=b:=by
 unfold Lib.itoa at h;have k:∀ u v:Nat,45::Lib.decDigits u≠Lib.decDigits v:=fun u v e=>by
  have:=xy2 v 45 (by rw [<-e];simp)
  have t:(45:UInt8).toNat=45:=rfl;omega
 split at h<;>split at h
 . have:=xy3 (List.cons.inj h).2;omega
 . exact absurd h (k _ _)
 . exact absurd h.symm (k _ _)
 . have:=xy3 h;omega
theorem xo6 (a:Int):(32:UInt8)∉Lib.itoa a:=by
 have k:∀ v:Nat,(32:UInt8)∉Lib.decDigits v:=fun v e=>by
  have:=xy2 v 32 e;have t:(32:UInt8).toNat=32:=rfl;omega
 unfold Lib.itoa;split
 . rw [zC];rintro (h|h)
   . simp at h
   . exact k _ h
 . exact k _
theorem xtw:∀ {a b x y:List UInt8},(32:UInt8)∉a->(32:UInt8)∉b->a++32::x=b++32::y->a=b/\x=y
 | [],[],x,y,_,_,h=>⟨rfl,(List.cons.inj h).2⟩
 | [],c::b,x,y,_,hb,h=>absurd (List.cons.inj h).1 fun e=>hb (by rw [e];simp)
 | c::a,[],x,y,ha,_,h=>absurd (List.cons.inj h).1 fun e=>ha (by rw [<-e];simp)
 | c::a,d::b,x,y,ha,hb,h=>by
  obtain ⟨e1,h⟩:=List.cons.inj h;obtain ⟨e2,e3⟩:=xtw (a:=a) (b:=b) (fun e=>ha (by simp [e])) (fun e=>hb (by simp [e])) h
  exact ⟨by rw [e1,e2],e3⟩
def keyV (v:Val):List UInt8:=Lib.itoa v.k++32::(Lib.itoa v.i++32::(Lib.itoa (v.t.length:Int)++32::v.t))
def keyOf (r:Row):List UInt8:=r.flatMap keyV
theorem xs0 (v:Val) (s:List UInt8):keyV v++s=Lib.itoa v.k++32::(Lib.itoa v.i++32::(Lib.itoa (v.t.length:Int)++32::(v.t++s))):=by simp [keyV]
theorem xmj (v:Val) (r:Row):keyOf (v::r)=keyV v++keyOf r:=by simp [keyOf]
theorem xuy (v:Val) (s:List UInt8):keyV v++s≠[]:=by rw [xs0];simp
theorem xzc:∀ {r r':Row},keyOf r=keyOf r'->r=r'
 | [],[],_=>rfl
 | [],v::r',h=>by rw [xmj] at h;exact absurd h.symm (xuy _ _)
 | v::r,[],h=>by rw [xmj] at h;exact absurd h (xuy _ _)
 | v::r,v'::r',h=>by
  rw [xmj,xmj,xs0,xs0] at h;obtain ⟨h1,h⟩:=xtw (xo6 _) (xo6 _) h;obtain ⟨h2,h⟩:=xtw (xo6 _) (xo6 _) h;obtain ⟨h3,h⟩:=xtw (xo6 _) (xo6 _) h;have h3:=xsZ h3;obtain ⟨h4,h⟩:=List.append_inj h (by omega)
  obtain rfl:=xzc h;have:v=v':=by
   obtain ⟨k,i,t⟩:=v;obtain ⟨k',i',t'⟩:=v';obtain rfl:=xsZ h1;obtain rfl:=xsZ h2;subst h4;rfl
  rw [this]
theorem xGC {n:Int} (h:(Lit.int .i64 n).wf=true):-9223372036854775808<=n/\n<=9223372036854775807:=by
 have h:(decide ((IntKind.i64).min<=n)&&decide (n<=(IntKind.i64).max))=true:=h;rw [zf,zl,zl] at h;exact h
theorem xwn {v:Val} (hw:v.wf) (ht:v.t.length<=1099511627776):(keyV v).length<=66+v.t.length:=by
 obtain ⟨w1,w2,_⟩:=hw;have a1:=Lib.itoa_length_le v.k (xGC w1).1 (xGC w1).2;have a2:=Lib.itoa_length_le v.i (xGC w2).1 (xGC w2).2;have a3:=Lib.itoa_length_le (v.t.length:Int) (by omega) (by omega)
 simp only [keyV,z8,zF];omega
theorem xuI (s B:List UInt8) (h:(B++s).length<=140737488355328):xbj s B.length (byteAVs B)=some ((s.length:Int),(B++s).length,byteAVs (B++s)):=by
 rw [z8] at h;have h2:B.length+s.length<=4611686018427387904:=by omega
 unfold xbj xd2;simp only [xkb,beq_self_eq_true,Nat.mul_one,h,h2,zn,Bool.and_self,xaL,xqq,z8,sUF]
theorem xw4 (B:List UInt8) (h:(B++[32]).length<=140737488355328):xeZ 32 B.length (byteAVs B)=some ((B++[32]).length,byteAVs (B++[32])):=by
 rw [z8,zj] at h;have h2:B.length+1<=4611686018427387904:=by omega
 unfold xeZ xer;simp only [xkb,beq_self_eq_true,Nat.mul_one,h,h2,zn,Bool.and_self,xaL,xqq,z8,zj,sUF];rfl
def numI (n:Int):List UInt8:=Lib.itoa n++[32]
theorem xz7 (t8:List AV) (t9 q:Int) (xs:List AV) (hx:xs.length=3) (j:Nat) (hj:j<3) (n:Int) (hn:xs.getD j .top=.int .i64 n) (h1:-9223372036854775808<=n) (h2:n<=9223372036854775807) (v0 v1:Int) (v2 B:List UInt8) (hB:B.length<=70368744177664) :
  xbn t8 t9 q 3 3 ((j:Int),B.length,v0,v1,v2,xs,byteAVs B)=some (.inl (((j+1:Nat):Int),(B++numI n).length,v0,v1,v2,xs,byteAVs (B++numI n))):=by
 have hl:=Lib.itoa_length_le n h1 h2;have i1:(j:Int)<3:=by omega
 have i2:(j:Int)<((3:Nat):Int):=by omega
 have i3:j<xs.length:=by omega
 have e1:=xuI (Lib.itoa n) B (by rw [z8];omega)
 have e2:=xw4 (B++Lib.itoa n) (by rw [z8,z8,zj];omega)
 have hc:((AV.int IntKind.i64 n).cells.getD 0 .top).toInt=n:=rfl;have hs:xHa (Sh.int IntKind.i64) ((AV.int IntKind.i64 n).cells.getD 0 .top)=true:=rfl;simp only [xbn,xhy,xjE,xjF,xjG,xe3,sBU,i1,i2,i3,hn,hc,hs,h1,h2,e1,e2,xGa (n:=j) (by omega),numI,zw]
theorem xDx (t8:List AV) (t9 q:Int) (xs:List AV) (v0 v1:Int) (v2 B:List UInt8):xbn t8 t9 q 3 3 (((3:Nat):Int),B.length,v0,v1,v2,xs,byteAVs B)=some (.inr (B.length,v0,v1,v2,byteAVs B)):=by
 have i1:¬ ((3:Nat):Int)<3:=by omega
 simp only [xbn,xhy,i1,zm,xaK,sUF]
theorem xs1 (v:Val):keyV v=numI v.k++(numI v.i++(numI (v.t.length:Int)++v.t)):=by simp [keyV,numI]
def KOk (v:Val):Prop:=v.wf/\v.t.length<=1099511627776
theorem KOk.len {v:Val} (h:KOk v):(keyV v).length<=1099511627842:=by have:=xwn h.1 h.2;have:=h.2;omega
theorem xzd (t8:List AV) (t9 q:Int) (v:Val) (h:KOk v) (B:List UInt8) (hB:B.length<=35184372088832) :
  Iter (xbn t8 t9 q 3 3) ((1:Int),(B++numI v.k).length,v.k,v.i,v.t,[AV.int .i64 v.k,AV.int .i64 v.i,AV.int .i64 (v.t.length:Int)],byteAVs (B++numI v.k))=some ((B++numI v.k++numI v.i++numI (v.t.length:Int)).length,v.k,v.i,v.t,byteAVs (B++numI v.k++numI v.i++numI (v.t.length:Int))):=by
 have hl:=h.len;have ht:=h.2;rw [xs1,z8,z8,z8] at hl;have e1:=xz7 t8 t9 q [AV.int .i64 v.k,AV.int .i64 v.i,AV.int .i64 (v.t.length:Int)] rfl 1 (by omega) v.i rfl (xGC h.1.2.1).1 (xGC h.1.2.1).2 v.k v.i v.t (B++numI v.k) (by rw [z8];omega)
 have e2:=xz7 t8 t9 q [AV.int .i64 v.k,AV.int .i64 v.i,AV.int .i64 (v.t.length:Int)] rfl 2 (by omega) (v.t.length:Int) rfl (by omega) (by omega) v.k v.i v.t (B++numI v.k++numI v.i) (by rw [z8,z8];omega)
 exact (xaT e1).trans ((xaT e2).trans (xaN (xDx ..)))
theorem xFb (t8:List AV) (t9 q:Int) (v:Val) (h:KOk v) (B:List UInt8) (hB:B.length<=35184372088832) :
  Iter (xbn t8 t9 q 3 3) ((0:Int),B.length,v.k,v.i,v.t,[AV.int .i64 v.k,AV.int .i64 v.i,AV.int .i64 (v.t.length:Int)],byteAVs B)=some ((B++numI v.k++numI v.i++numI (v.t.length:Int)).length,v.k,v.i,v.t,byteAVs (B++numI v.k++numI v.i++numI (v.t.length:Int))):=by
 have e0:=xz7 t8 t9 q [AV.int .i64 v.k,AV.int .i64 v.i,AV.int .i64 (v.t.length:Int)] rfl 0 (by omega) v.k rfl (xGC h.1.1).1 (xGC h.1.1).2 v.k v.i v.t B (by omega)
 exact (xaT e0).trans (xzd t8 t9 q v h B hB)
theorem xBB (r:Row) (hr:r.length<=1048576) (h:∀ v,v∈r->KOk v) (hk:(keyOf r).length<=17592186044416):∀ d k:Nat,k+d=r.length->Iter (xc8 (r.map encV) ((r.length:Nat):Int)) ((k:Int),(keyOf (r.take k)).length,byteAVs (keyOf (r.take k)))=some ((keyOf r).length,byteAVs (keyOf r))
 | 0,k,hkk=>by
  obtain rfl:k=r.length:=by omega
  rw [y4];refine xaN ?_;simp only [xc8,xhw,zy,zm,xaK,sUF]
 | d+1,k,hkk=>by
  have q:k<r.length:=by omega
  have hv:=h r[k] (zo q);have i1:(k:Int)<(r.length:Int):=by omega
  have gf:(r.map encV).getD k .top=encV r[k]:=xaM _ _ _ q;have tk:keyOf (r.take (k+1))=keyOf (r.take k)++keyV r[k]:=by
   unfold keyOf;rw [List.take_add_one,ze q,List.flatMap_append];simp
  have le:(keyOf (r.take (k+1))).length<=(keyOf r).length:=by
   conv=>rhs;rw [<-List.take_append_drop (k+1) r]
   unfold keyOf;rw [List.flatMap_append,z8];omega
  have hl:=hv.len;rw [tk,z8] at le;have e1:=xFb (r.map encV) (r.length:Int) (k:Int) r[k] hv (keyOf (r.take k)) (by omega)
  have kn:keyOf (r.take k)++keyV r[k]=keyOf (r.take k)++numI r[k].k++numI r[k].i++numI (r[k].t.length:Int)++r[k].t:=by rw [xs1];simp only [zw]
  have e2:=xuI r[k].t (keyOf (r.take k)++numI r[k].k++numI r[k].i++numI (r[k].t.length:Int)) (by rw [<-kn,z8];omega)
  rw [xaT (s':=(((k+1:Nat):Int),(keyOf (r.take (k+1))).length,byteAVs (keyOf (r.take (k+1))))) ?_]
  . exact xBB r hr h hk d (k+1) (by omega)
  . rw [tk,kn];simp only [xc8,xhw,xjz,xjA,xjB,xjC,xjD,sBU,q,i1,gf,cV0,cV1,cV2,lV,sV,e1,e2,xGa (n:=k) (by omega)]
theorem xFc (r:Row) (hr:r.length<=1048576) (h:∀ v,v∈r->KOk v) (hk:(keyOf r).length<=17592186044416):xjy (r.map encV)=some (keyOf r):=by
 match r with
 | []=>rfl
 | v::t =>
  have hv:=h v (by simp)
  have hl:=hv.len;have i1:(0:Int)<((t.length+1:Nat):Int):=by omega
  have i2:0<t.length+1:=by omega
  obtain ⟨r1,r2⟩:=xGC hv.1.1;have q:=Lib.itoa_length_le v.k r1 r2;have gf:((v::t).map encV).getD 0 .top=encV v:=rfl;have e0:xbW (Lib.itoa v.k)=some (((Lib.itoa v.k).length:Int),(Lib.itoa v.k).length,byteAVs (Lib.itoa v.k)):=by
   have m1:(Lib.itoa v.k).length<=140737488355328:=by omega
   have m2:(Lib.itoa v.k).length<=4611686018427387904:=by omega
   unfold xbW xef;simp only [xkb,Nat.mul_one,m1,m2,zn,Bool.and_self,xaL,sUF]
  have e1:xiq 32 (Lib.itoa v.k).length (byteAVs (Lib.itoa v.k))=some (([]++numI v.k).length,byteAVs ([]++numI v.k)):=xw4 (Lib.itoa v.k) (by rw [z8,zj];omega)
  have e2:=xzd ((v::t).map encV) ((t.length+1:Nat):Int) 0 v hv [] (by simp)
  have kn:keyV v=[]++numI v.k++numI v.i++numI (v.t.length:Int)++v.t:=by rw [xs1];simp
  have e3:=xuI v.t ([]++numI v.k++numI v.i++numI (v.t.length:Int)) (by rw [<-kn];omega)
  rw [<-kn] at e3;have e4:=xBB (v::t) hr h hk t.length 1 (by rw [zF];omega)
  have tk:keyOf ((v::t).take 1)=keyV v:=by simp [keyOf]
  rw [tk,zF] at e4;have e4:Iter (xc8 ((v::t).map encV) ((t.length+1:Nat):Int)) ((1:Int),(keyV v).length,byteAVs (keyV v))=_:=e4;have hne:(keyOf (v::t)).length≠0:=fun e=>xuy v (keyOf t) (by rw [<-xmj];exact List.length_eq_zero_iff.1 e)
  unfold xjy xnk xgE xl5 xl6 xl7 xl8 xl9 xma xmb xmc xmd xcS;simp only [za,zF,i1,i2,gf,cV0,cV1,cV2,lV,sV,r1,r2,e0,e1,e2,e3,e4,zn,xaL,Bool.and_self,beq_self_eq_true,zk,zh,xkb,xtK,xvI,ne_eq,hne,not_false_eq_true,sUF]
abbrev Grp:=Row×List Per
def encG (g:Grp):AV:=.agg [.list 3 (g.1.map encV),.list 2 (g.2.map encP)]
def okEG (x:AV):Bool:=x.cells.length==(2:Nat)&&xHh [Sh.list (3:Nat),Sh.list (2:Nat)] x.cells (0:Nat)
def ldEG (x:AV):AV:=AV.agg [AV.list (3:Nat) (x.cells.getD (0:Nat) AV.top).toList,AV.list (2:Nat) (x.cells.getD (1:Nat) AV.top).toList]
def xGE (x y:AV):Bool:=(xc9 (x.cells.getD 0 AV.top).toList (x.cells.getD 1 AV.top).toList (y.cells.getD 0 AV.top).toList (y.cells.getD 1 AV.top).toList).isSome
def xGF (x y:AV):Int:=(xc9 (x.cells.getD 0 AV.top).toList (x.cells.getD 1 AV.top).toList (y.cells.getD 0 AV.top).toList (y.cells.getD 1 AV.top).toList).getD 0
theorem heG (a:Grp):okEG (encG a)=true:=rfl
theorem hdG (a:Grp):ldEG (encG a)=encG a:=rfl
section
variable {N : Nat} (hN : N <= 2 ^ 60) {ok : Grp -> Prop} {c : Grp -> Grp -> Int} (hc : ∀ x y, ok x -> ok y -> xGE (encG x) (encG y) = true /\ xGF (encG x) (encG y) = c x y)
include hN
theorem xDs (a b n:Nat) (l r:List Grp) (ha:a<=2 ^ 60) (hb:b<=2 ^ 60) (hn:n<=2 ^ 60) (hl:LOk N ok l) (hr:swr a b n l=some r):xa7 N a b n (List.map encG l)=some (List.map encG r)/\LOk N ok r:=by
 obtain ⟨e1,e2⟩:=xEj (okE:=okEG) (ldE:=ldEG) heG hdG hN a b n ha hb hn (g:=xb6 N a b n) (fun i xs=>rfl) hl hr
 refine ⟨?_,e2⟩;unfold xa7 xe9;rw [e1];rfl
theorem xFZ (a m b:Nat) (l r:List Grp) (h1:a<=m) (h2:m<=b) (h3:b<=N) (hl:LOk N ok l) (hr:rot a m b l=some r):xbR N a m b (List.map encG l)=some (List.map encG r)/\LOk N ok r:=by
 unfold rot at hr;cases hi:Iter (xGh m) (m - a,b - m,l) with
 | none=>rw [hi] at hr;simp at hr
 | some p =>
  obtain ⟨i,l'⟩:=p;rw [hi] at hr;obtain ⟨e1,e2,e3⟩:=xEi (enc:=encG) hN (ok:=ok) (SW:=fun a b n xs=>xa7 N a b n xs) (fun a b n l r ha hb hn hl hr=>xDs hN a b n l r ha hb hn hl hr) m (by omega) (g:=xeo N m) (fun i j xs=>rfl) (by omega) (by omega) hl hi
  obtain ⟨e4,e5⟩:=xDs hN (m - i) m i l' r (by omega) (by omega) (by omega) e3 hr
  refine ⟨?_,e5⟩;simp only [xbR,xga,xfQ,xfR,xfS,xfT,w64 (x:=(m:Int) - (a:Int)) (n:=m - a) (by omega) (by omega),w64 (x:=(b:Int) - (m:Int)) (n:=b - m) (by omega) (by omega),e1,zh,zk,xaL,w64 (x:=(m:Int) - (i:Int)) (n:=m - i) (by omega) (by omega),e4,sUF]
include hc
theorem xDr (a b:Nat) (ha:a<=N) (hb:b<=N) {l r:List Grp} (hl:LOk N ok l) (hr:insSort c a b l=some r):xbk N a b (List.map encG l)=some (List.map encG r)/\LOk N ok r:=by
 obtain ⟨e1,e2⟩:=xwV (enc:=encG) hN (c:=c) (ok:=ok) a b hb (gi:=fun i=>xbC N a b i) (fun i l r hl hr=>xzy (okE:=okEG) (ldE:=ldEG) heG hdG hN (P:=xGE) (V:=xGF) hc a (fun j xs=>rfl) hl hr) (g:=xbB N a b) (fun i xs=>rfl) hl hr
 refine ⟨?_,e2⟩;unfold xbk xed;rw [w64 (x:=(a:Int)+1) (n:=a+1) (by omega) (by omega),e1];rfl
theorem xDt:∀ (f a m b:Nat) (l r:List Grp),a<m->m<b->b<=N->LOk N ok l->symM c f a m b l=some r->xaO f N a m b (List.map encG l)=some (List.map encG r)/\LOk N ok r:=by
 intro f;induction f with
 | zero=>intro a m b l r _ _ _ _ hr;simp [symM] at hr
 | succ f ih =>
  intro a m b l r af ag hb hl hr;unfold symM at hr;show xav (xaO f) N a m b (List.map encG l)=some (List.map encG r)/\LOk N ok r;have J:IntKind.i64.wrap ((m:Int) - (a:Int))=((m - a:Nat):Int):=w64 (by omega) (by omega)
  have O:IntKind.i64.wrap ((b:Int) - (m:Int))=((b - m:Nat):Int):=w64 (by omega) (by omega)
  by_cases h1:m - a=1
  . rw [if_pos h1] at hr;cases hi:Iter (xGf fun h=>(get2 c l h a).map fun r=>decide (r<0)) (m,b) with
    | none=>rw [hi] at hr;simp at hr
    | some i =>
     rw [hi] at hr;obtain ⟨e0,b1,b2⟩:=xwU (okE:=okEG) heG hN (P:=xGE) (V:=xGF) hc (fun h=>h) (fun _=>a) (fun h=>h) (fun _=>(a:Int)) m b (by omega) (fun _ _ _=>rfl) (fun _ _ _=>rfl) (fun r=>decide (r<0)) (g:=xbu N a) (fun i j xs=>rfl) hl (zd _) (zd _) (by omega) hi
     obtain ⟨e1,e2⟩:=xFn (okE:=okEG) (ldE:=ldEG) heG hdG hN (ok:=ok) (i - 1) i (by omega) (by omega) (g:=xdx N i) (fun k xs=>rfl) hl hr
     refine ⟨?_,e2⟩;simp only [xav,xaJ,xap,xaq,xar,xas,xat,xau,xal,xam,xad,xan,xao,xae,xab,xac,xaf,xag,xaw,xay,xaz,xaa,xaA,xaB,xaC,xaD,xaE,xaF,xaG,xaH,xaI,xah,xai,J,h1,e0,zh,zk,xaL,e1,Int.natCast_one,beq_self_eq_true,sUF]
  . rw [if_neg h1] at hr;have d1:(((m - a:Nat):Int)==1)=false:=by simp;omega
    by_cases h2:b - m=1
    . rw [if_pos h2] at hr;cases hi:Iter (xGf fun h=>(get2 c l m h).map fun r=>!decide (r<0)) (a,m) with
      | none=>rw [hi] at hr;simp at hr
      | some i =>
       rw [hi] at hr;obtain ⟨e0,b1,b2⟩:=xwU (okE:=okEG) heG hN (P:=xGE) (V:=xGF) hc (fun _=>m) (fun h=>h) (fun _=>(m:Int)) (fun h=>h) a m (by omega) (fun _ _ _=>rfl) (fun _ _ _=>rfl) (fun r=>!decide (r<0)) (g:=xbv N m) (fun i j xs=>rfl) hl (zd _) (zd _) (by omega) hi
       obtain ⟨e1,e2⟩:=xC5 (okE:=okEG) (ldE:=ldEG) heG hdG hN (ok:=ok) i (g:=xd0 N i) (fun k xs=>rfl) hl hr
       refine ⟨?_,e2⟩;simp only [xav,xaJ,xap,xaq,xar,xas,xat,xau,xal,xam,xad,xan,xao,xae,xab,xac,xaf,xag,xaw,xay,xaz,xaa,xaA,xaB,xaC,xaD,xaE,xaF,xaG,xaH,xaI,xah,xai,J,O,d1,h2,e0,zh,zk,xaL,xaK,e1,Int.natCast_one,beq_self_eq_true,sUF]
    . rw [if_neg h2] at hr;have d2:(((b - m:Nat):Int)==1)=false:=by simp;omega
      have hh:IntKind.i64.wrap ((IntKind.u64.wrap (IntKind.i64.wrap ((a:Int)+(b:Int)))).fdiv 2)=(((a+b) / 2:Nat):Int):=xGY (by omega)
      obtain ⟨q,ad⟩:∃ q,q=(a+b) / 2:=⟨_,rfl⟩;rw [<-ad] at hr hh;have w2:IntKind.i64.wrap ((q:Int)+(m:Int))=((q+m:Nat):Int):=w64 (by omega) (by omega)
      have w3:IntKind.i64.wrap (((q+m:Nat):Int) - 1)=((q+m - 1:Nat):Int):=w64 (by omega) (by omega)
      obtain ⟨lo,hi,ac,g1,g2,g3,g4,ae⟩:∃ lo hi,(if q<m then (q+m - b,q) else (a,m))=(lo,hi)/\a<=lo/\lo<=hi/\hi<=m/\hi<=q/\((q<m/\lo=q+m - b/\hi=q)\/(¬ q<m/\lo=a/\hi=m)):=by
       by_cases h:q<m
       . exact ⟨_,_,if_pos h,by omega,by omega,by omega,by omega,.inl ⟨h,rfl,rfl⟩⟩
       . exact ⟨_,_,if_neg h,by omega,by omega,by omega,by omega,.inr ⟨h,rfl,rfl⟩⟩
      rw [ac] at hr;cases hs:Iter (xGf fun h=>(get2 c l (q+m - 1 - h) h).map fun r=>!decide (r<0)) (lo,hi) with
      | none=>rw [hs] at hr;simp at hr
      | some s =>
       rw [hs] at hr;dsimp only at hr;obtain ⟨e0,b1,b2⟩:=xwU (okE:=okEG) heG hN (P:=xGE) (V:=xGF) hc (fun h=>q+m - 1 - h) (fun h=>h) (fun h=>IntKind.i64.wrap (((q+m - 1:Nat):Int) - h)) (fun h=>h) lo hi (by omega) (fun h _ _=>w64 (by omega) (by omega)) (fun _ _ _=>rfl) (fun r=>!decide (r<0)) (g:=xcj N a m b q ((q+m:Nat):Int) ((q+m - 1:Nat):Int)) (fun i j xs=>rfl) hl (zd _) (zd _) g2 hs
       have w5:IntKind.i64.wrap (((q+m:Nat):Int) - (s:Int))=((q+m - s:Nat):Int):=w64 (by omega) (by omega)
       obtain ⟨e,he⟩:∃ e,e=q+m - s:=⟨_,rfl⟩;rw [<-he] at hr w5;cases Q:(if s<m/\m<e then rot s m e l else some l) with
       | none=>rw [Q] at hr;simp at hr
       | some l1 =>
        rw [Q] at hr;dsimp only at hr;have k1:(s<m/\m<e/\xbR N s m e (List.map encG l)=some (List.map encG l1)/\LOk N ok l1)\/(¬ (s<m/\m<e)/\l1=l):=by
         by_cases h:s<m/\m<e
         . rw [if_pos h] at Q;obtain ⟨x1,x2⟩:=xFZ hN s m e l l1 (by omega) (by omega) (by omega) hl Q
           exact .inl ⟨h.1,h.2,x1,x2⟩
         . rw [if_neg h] at Q;simp only [z6] at Q;exact .inr ⟨h,Q.symm⟩
        have Z:LOk N ok l1:=by
         rcases k1 with k|k
         . exact k.2.2.2
         . rw [k.2];exact hl
        cases U:(if a<s/\s<q then symM c f a s q l1 else some l1) with
        | none=>rw [U] at hr;simp at hr
        | some l2 =>
         rw [U] at hr;dsimp only at hr;have k2:(a<s/\s<q/\xaO f N a s q (List.map encG l1)=some (List.map encG l2)/\LOk N ok l2)\/(¬ (a<s/\s<q)/\l2=l1):=by
          by_cases h:a<s/\s<q
          . rw [if_pos h] at U;obtain ⟨x1,x2⟩:=ih a s q l1 l2 h.1 h.2 (by omega) Z U
            exact .inl ⟨h.1,h.2,x1,x2⟩
          . rw [if_neg h] at U;simp only [z6] at U;exact .inr ⟨h,U.symm⟩
         have aa:LOk N ok l2:=by
          rcases k2 with k|k
          . exact k.2.2.2
          . rw [k.2];exact Z
         have k3:(q<e/\e<b/\xaO f N q e b (List.map encG l2)=some (List.map encG r)/\LOk N ok r)\/(¬ (q<e/\e<b)/\r=l2):=by
          by_cases h:q<e/\e<b
          . rw [if_pos h] at hr;obtain ⟨x1,x2⟩:=ih q e b l2 r h.1 h.2 hb aa hr;exact .inl ⟨h.1,h.2,x1,x2⟩
          . rw [if_neg h] at hr;simp only [z6] at hr;exact .inr ⟨h,hr.symm⟩
         refine ⟨?_,?_⟩
         . clear ih hc hl Z aa hr U Q hs ac;rcases ae with ⟨hm,ab,Y⟩|⟨hm,ab,Y⟩
           . rw [ab,Y] at e0;have w4:IntKind.i64.wrap (((q+m:Nat):Int) - (b:Int))=((q+m - b:Nat):Int):=w64 (by omega) (by omega)
             have dm:decide ((m:Int)>(q:Int))=true:=by simp [hm]
             rcases k1 with ⟨p1,p2,p3,_⟩|⟨p1,rfl⟩<;>rcases k2 with ⟨q1,q2,q3,_⟩|⟨q1,rfl⟩<;>rcases k3 with ⟨r1,r2,r3,_⟩|⟨r1,rfl⟩ <;>
              (by_cases t1:s<m<;>by_cases t2:m<e<;>by_cases t3:a<s<;>by_cases t4:s<q<;>by_cases t5:q<e<;>by_cases t6:e<b<;>first|(exfalso;omega) |
               (simp only [xav,xaJ,xap,xaq,xar,xas,xat,xau,xal,xam,xad,xan,xao,xae,xab,xac,xaf,xag,xaw,xay,xaz,xaa,xaA,xaB,xaC,xaD,xaE,xaF,xaG,xaH,xaI,xah,xai,J,O,d1,d2,hh,w2,w3,w4,dm,e0,w5,zh,zk,xaL,xaK,Int.ofNat_lt,t1,t2,t3,t4,t5,t6,zn,zm,hm,p3,q3,r3,sUF]) |
               (simp only [xav,xaJ,xap,xaq,xar,xas,xat,xau,xal,xam,xad,xan,xao,xae,xab,xac,xaf,xag,xaw,xay,xaz,xaa,xaA,xaB,xaC,xaD,xaE,xaF,xaG,xaH,xaI,xah,xai,J,O,d1,d2,hh,w2,w3,w4,dm,e0,w5,zh,zk,xaL,xaK,Int.ofNat_lt,t1,t2,t3,t4,t5,t6,zn,zm,hm,p3,q3,sUF]) |
               (simp only [xav,xaJ,xap,xaq,xar,xas,xat,xau,xal,xam,xad,xan,xao,xae,xab,xac,xaf,xag,xaw,xay,xaz,xaa,xaA,xaB,xaC,xaD,xaE,xaF,xaG,xaH,xaI,xah,xai,J,O,d1,d2,hh,w2,w3,w4,dm,e0,w5,zh,zk,xaL,xaK,Int.ofNat_lt,t1,t2,t3,t4,t5,t6,zn,zm,hm,p3,r3,sUF]) |
               (simp only [xav,xaJ,xap,xaq,xar,xas,xat,xau,xal,xam,xad,xan,xao,xae,xab,xac,xaf,xag,xaw,xay,xaz,xaa,xaA,xaB,xaC,xaD,xaE,xaF,xaG,xaH,xaI,xah,xai,J,O,d1,d2,hh,w2,w3,w4,dm,e0,w5,zh,zk,xaL,xaK,Int.ofNat_lt,t1,t2,t3,t4,t5,t6,zn,zm,hm,q3,r3,sUF]) |
               (simp only [xav,xaJ,xap,xaq,xar,xas,xat,xau,xal,xam,xad,xan,xao,xae,xab,xac,xaf,xag,xaw,xay,xaz,xaa,xaA,xaB,xaC,xaD,xaE,xaF,xaG,xaH,xaI,xah,xai,J,O,d1,d2,hh,w2,w3,w4,dm,e0,w5,zh,zk,xaL,xaK,Int.ofNat_lt,t1,t2,t3,t4,t5,t6,zn,zm,hm,p3,sUF]) |
               (simp only [xav,xaJ,xap,xaq,xar,xas,xat,xau,xal,xam,xad,xan,xao,xae,xab,xac,xaf,xag,xaw,xay,xaz,xaa,xaA,xaB,xaC,xaD,xaE,xaF,xaG,xaH,xaI,xah,xai,J,O,d1,d2,hh,w2,w3,w4,dm,e0,w5,zh,zk,xaL,xaK,Int.ofNat_lt,t1,t2,t3,t4,t5,t6,zn,zm,hm,q3,sUF]) |
               (simp only [xav,xaJ,xap,xaq,xar,xas,xat,xau,xal,xam,xad,xan,xao,xae,xab,xac,xaf,xag,xaw,xay,xaz,xaa,xaA,xaB,xaC,xaD,xaE,xaF,xaG,xaH,xaI,xah,xai,J,O,d1,d2,hh,w2,w3,w4,dm,e0,w5,zh,zk,xaL,xaK,Int.ofNat_lt,t1,t2,t3,t4,t5,t6,zn,zm,hm,r3,sUF]) |
               (simp only [xav,xaJ,xap,xaq,xar,xas,xat,xau,xal,xam,xad,xan,xao,xae,xab,xac,xaf,xag,xaw,xay,xaz,xaa,xaA,xaB,xaC,xaD,xaE,xaF,xaG,xaH,xaI,xah,xai,J,O,d1,d2,hh,w2,w3,w4,dm,e0,w5,zh,zk,xaL,xaK,Int.ofNat_lt,t1,t2,t3,t4,t5,t6,zn,zm,hm,sUF]))
           . rw [ab,Y] at e0;have dm:decide ((m:Int)>(q:Int))=false:=by simp;omega
             rcases k1 with ⟨p1,p2,p3,_⟩|⟨p1,rfl⟩<;>rcases k2 with ⟨q1,q2,q3,_⟩|⟨q1,rfl⟩<;>rcases k3 with ⟨r1,r2,r3,_⟩|⟨r1,rfl⟩ <;>
              (by_cases t1:s<m<;>by_cases t2:m<e<;>by_cases t3:a<s<;>by_cases t4:s<q<;>by_cases t5:q<e<;>by_cases t6:e<b<;>first|(exfalso;omega) |
               (simp only [xav,xaJ,xap,xaq,xar,xas,xat,xau,xal,xam,xad,xan,xao,xae,xab,xac,xaf,xag,xaw,xay,xaz,xaa,xaA,xaB,xaC,xaD,xaE,xaF,xaG,xaH,xaI,xah,xai,J,O,d1,d2,hh,w2,w3,dm,e0,w5,zh,zk,xaL,xaK,Int.ofNat_lt,t1,t2,t3,t4,t5,t6,zn,zm,hm,p3,q3,r3,sUF]) |
               (simp only [xav,xaJ,xap,xaq,xar,xas,xat,xau,xal,xam,xad,xan,xao,xae,xab,xac,xaf,xag,xaw,xay,xaz,xaa,xaA,xaB,xaC,xaD,xaE,xaF,xaG,xaH,xaI,xah,xai,J,O,d1,d2,hh,w2,w3,dm,e0,w5,zh,zk,xaL,xaK,Int.ofNat_lt,t1,t2,t3,t4,t5,t6,zn,zm,hm,p3,q3,sUF]) |
               (simp only [xav,xaJ,xap,xaq,xar,xas,xat,xau,xal,xam,xad,xan,xao,xae,xab,xac,xaf,xag,xaw,xay,xaz,xaa,xaA,xaB,xaC,xaD,xaE,xaF,xaG,xaH,xaI,xah,xai,J,O,d1,d2,hh,w2,w3,dm,e0,w5,zh,zk,xaL,xaK,Int.ofNat_lt,t1,t2,t3,t4,t5,t6,zn,zm,hm,p3,r3,sUF]) |
               (simp only [xav,xaJ,xap,xaq,xar,xas,xat,xau,xal,xam,xad,xan,xao,xae,xab,xac,xaf,xag,xaw,xay,xaz,xaa,xaA,xaB,xaC,xaD,xaE,xaF,xaG,xaH,xaI,xah,xai,J,O,d1,d2,hh,w2,w3,dm,e0,w5,zh,zk,xaL,xaK,Int.ofNat_lt,t1,t2,t3,t4,t5,t6,zn,zm,hm,q3,r3,sUF]) |
               (simp only [xav,xaJ,xap,xaq,xar,xas,xat,xau,xal,xam,xad,xan,xao,xae,xab,xac,xaf,xag,xaw,xay,xaz,xaa,xaA,xaB,xaC,xaD,xaE,xaF,xaG,xaH,xaI,xah,xai,J,O,d1,d2,hh,w2,w3,dm,e0,w5,zh,zk,xaL,xaK,Int.ofNat_lt,t1,t2,t3,t4,t5,t6,zn,zm,hm,p3,sUF]) |
               (simp only [xav,xaJ,xap,xaq,xar,xas,xat,xau,xal,xam,xad,xan,xao,xae,xab,xac,xaf,xag,xaw,xay,xaz,xaa,xaA,xaB,xaC,xaD,xaE,xaF,xaG,xaH,xaI,xah,xai,J,O,d1,d2,hh,w2,w3,dm,e0,w5,zh,zk,xaL,xaK,Int.ofNat_lt,t1,t2,t3,t4,t5,t6,zn,zm,hm,q3,sUF]) |
               (simp only [xav,xaJ,xap,xaq,xar,xas,xat,xau,xal,xam,xad,xan,xao,xae,xab,xac,xaf,xag,xaw,xay,xaz,xaa,xaA,xaB,xaC,xaD,xaE,xaF,xaG,xaH,xaI,xah,xai,J,O,d1,d2,hh,w2,w3,dm,e0,w5,zh,zk,xaL,xaK,Int.ofNat_lt,t1,t2,t3,t4,t5,t6,zn,zm,hm,r3,sUF]) |
               (simp only [xav,xaJ,xap,xaq,xar,xas,xat,xau,xal,xam,xad,xan,xao,xae,xab,xac,xaf,xag,xaw,xay,xaz,xaa,xaA,xaB,xaC,xaD,xaE,xaF,xaG,xaH,xaI,xah,xai,J,O,d1,d2,hh,w2,w3,dm,e0,w5,zh,zk,xaL,xaK,Int.ofNat_lt,t1,t2,t3,t4,t5,t6,zn,zm,hm,sUF]))
         . rcases k3 with k|k
           . exact k.2.2.2
           . rw [k.2];exact aa
theorem xC7 {l r:List Grp} (hl:LOk N ok l) (hr:xGJ c 1000 N l=some r):xe1 N N (List.map encG l)=some (List.map encG r)/\LOk N ok r:=by
 unfold xGJ at hr;cases h1:Iter (xGy c N) (0,20,l) with
 | none=>rw [h1] at hr;simp at hr
 | some p =>
  obtain ⟨a,l1⟩:=p;rw [h1] at hr;dsimp only at hr;obtain ⟨e1,ha,_,O⟩:=xwW (enc:=encG) hN (ok:=ok) 20 (by omega) (p:=xGy c N) (F:=fun a b l=>insSort c a b l) (fun a b l l' h e=>by simp only [xGy,h,if_true,e]) (fun a b l h e=>by simp only [xGy,h,if_true,e]) (fun a b l h=>by simp only [xGy,h,if_false]) (G:=fun a b xs=>xbk N a b xs) (fun a b l r U _ hb hl hr=>xDr hN hc a b (by omega) hb hl hr) (g:=xbM N N 20) (fun a b xs=>rfl) (a:=0) hl h1 (by omega)
  cases h2:insSort c a N l1 with
  | none=>rw [h2] at hr;simp at hr
  | some l2 =>
   rw [h2] at hr;dsimp only at hr;obtain ⟨e2,V⟩:=xDr hN hc a N ha (zd _) O h2;have e3:Iter (xa1 N N) (((20:Nat):Int),List.map encG l2)=some (List.map encG r)/\LOk N ok r:=by
    refine xgJ (I:=fun s=>1<=s.1/\LOk N ok s.2) (J:=LOk N ok) (e:=fun (s:Nat×List Grp)=>((s.1:Int),List.map encG s.2)) (f:=List.map encG) ?_ (s:=(20,l2)) ⟨by omega,V⟩ hr
    rintro ⟨bs,l⟩ ⟨hb,hl⟩;dsimp only at hb hl;by_cases h:bs<N
    . have wb:IntKind.i64.wrap (2*(bs:Int))=((2*bs:Nat):Int):=w64 (by omega) (by omega)
      have wb':IntKind.i64.wrap ((bs:Int)*2)=((bs*2:Nat):Int):=w64 (by omega) (by omega)
      cases h3:Iter (xGl c 1000 bs N) (0,2*bs,l) with
      | none=>exact xes (by simp [xGt,h,h3])
      | some p =>
       obtain ⟨a,l3⟩:=p;obtain ⟨f1,f2,f3,f4⟩:=xwW (enc:=encG) hN (ok:=ok) (2*bs) (by omega) (p:=xGl c 1000 bs N) (F:=fun a b l=>symM c 1000 a (a+bs) b l) (fun a b l l' h e=>by simp only [xGl,h,if_true,e]) (fun a b l h e=>by simp only [xGl,h,if_true,e]) (fun a b l h=>by simp only [xGl,h,if_false]) (G:=fun a b xs=>xaO 1000 N a (IntKind.i64.wrap (a+(bs:Int))) b xs) (fun a b l r U Y Q hl hr=>by
        have:=xDt hN hc 1000 a (a+bs) b l r (by omega) (by omega) Q hl hr
        rw [w64 (x:=(a:Int)+(bs:Int)) (n:=a+bs) (by omega) (by omega)]
        exact this) (g:=xcD N N bs) (fun a b xs=>by rw [<-wb];rfl) (a:=0) hl (by rw [zH];exact h3) (by omega)
       rw [zH,<-wb] at f1;have f1':Iter (xcD N N bs) ((0:Int),IntKind.i64.wrap (2*(bs:Int)),List.map encG l)=some ((a:Int),List.map encG l3):=f1;have q:IntKind.i64.wrap ((a:Int)+(bs:Int))=((a+bs:Nat):Int):=w64 (by omega) (by omega)
       by_cases h4:a+bs<N
       . cases h5:symM c 1000 a (a+bs) N l3 with
         | none=>exact xes (by simp [xGt,h,h3,h4,h5])
         | some l4 =>
          obtain ⟨f5,f6⟩:=xDt hN hc 1000 a (a+bs) N l3 l4 (by omega) h4 (zd _) f4 h5
          refine xkV (s0:=(bs*2,l4)) (by simp [xGt,h,h3,h4,h5]) ?_ ⟨by dsimp only;omega,f6⟩
          have q1:(bs:Int)<(N:Int):=by omega
          have q2:((a+bs:Nat):Int)<(N:Int):=by omega
          simp only [xa1,xcb,xdm,xdn,xdo,xdp,xdq,xdr,f1',q1,q2,zn,xaL,zk,zh,q,f5,wb',sUF]
       . refine xkV (s0:=(bs*2,l3)) (by simp [xGt,h,h3,h4]) ?_ ⟨by dsimp only;omega,f4⟩
         have q1:(bs:Int)<(N:Int):=by omega
         have q2:¬ ((a+bs:Nat):Int)<(N:Int):=by omega
         simp only [xa1,xcb,xdm,xdn,xdo,xdp,xdq,xdr,f1',q1,q2,zn,zm,xaL,xaK,zk,zh,q,wb',sUF]
    . refine xkM (r0:=l) (by simp [xGt,h]) ?_ hl
      have q1:¬ (bs:Int)<(N:Int):=by omega
      simp only [xa1,xcb,q1,zm,xaK,sUF]
   have e1':Iter (xbM N N 20) ((0:Int),(20:Int),List.map encG l)=some ((a:Int),List.map encG l1):=e1;have e3':Iter (xa1 N N) ((20:Int),List.map encG l2)=some (List.map encG r):=e3.1;refine ⟨?_,e3.2⟩;simp only [xe1,xgb,xfU,xfV,xfW,e1',e2,e3',zk,zh,xaL,sUF]
end
theorem xFx {N:Nat} (hN:N*48<=140737488355328) {ok:Grp->Prop} {c:Grp->Grp->Int} (hc:∀ x y:Grp,ok x->ok y->xGE (encG x) (encG y)=true/\xGF (encG x) (encG y)=c x y) (l r:List Grp) (hl:l.length=N) (ho:∀ x,x∈l->ok x) (hr:xGJ c 1000 N l=some r) :
  xgv N (List.map encG l)=some (List.map encG r):=by
 obtain ⟨e1,e2⟩:=xC7 (N:=N) (by omega) (ok:=ok) hc ⟨hl,ho⟩ hr
 simp only [xgv,xfO,e1,zk,zh,xaL,sUF]
end Go.Sim.M
end
noncomputable section
set_option maxRecDepth 100000
namespace Go.Sim.M
open Go.RowKit Go.Sim.Srt
def ents:Nat->List Row->List AV
 | _,[]=>[]
 | k,r::R=>.agg [.str (keyOf r),.int .i64 (k:Int)]::ents (k+1) R
theorem xy7:∀ (R:List Row) (k:Nat) (r:Row),mapIx (ents k R) (keyOf r)=R.findIdx? fun x=>decide (x=r)
 | [],_,_=>rfl
 | x::R,k,r=>by
  have hk:isKey (keyOf r) (((AV.agg [.str (keyOf x),.int .i64 (k:Int)]).cells).getD 0 .top)=decide (x=r):=by
   show (keyOf x==keyOf r)=_;by_cases h:x=r
   . subst h;simp
   . have:¬ keyOf x=keyOf r:=fun e=>h (xzc e)
     simp [h,this]
  show (match isKey (keyOf r) (((AV.agg [.str (keyOf x),.int .i64 (k:Int)]).cells).getD 0 .top) with|true=>some 0|false=>(mapIx (ents (k+1) R) (keyOf r)).map (·+1))=_
  rw [hk,List.findIdx?_cons,xy7 R (k+1) r];by_cases h:x=r<;>simp [h]
theorem xwb:∀ (R:List Row) (k:Nat),(ents k R).length=R.length
 | [],_=>rfl
 | _::R,k=>by show (ents (k+1) R).length+1=_;rw [xwb R];rfl
theorem xuR:∀ (R:List Row) (k:Nat) (r:Row),ents k (R++[r])=ents k R++[.agg [.str (keyOf r),.int .i64 ((k+R.length:Nat):Int)]]
 | [],_,_=>rfl
 | x::R,k,r=>by
  show _::ents (k+1) (R++[r])=_;rw [xuR R (k+1) r,zF,show k+1+R.length=k+(R.length+1) by omega];rfl
theorem xwa:∀ (R:List Row) (k j:Nat) (h:j<R.length),(ents k R).getD j .top=.agg [.str (keyOf R[j]),.int .i64 ((k+j:Nat):Int)]
 | x::R,k,0,h=>rfl
 | x::R,k,j+1,h=>by
  show (ents (k+1) R).getD j .top=_;rw [xwa R (k+1) j (by simpa using h),show k+1+j=k+(j+1) by omega];rfl
def upd (G:List Grp) (f:Fc):List Grp:=match (G.map (·.1)).findIdx? fun x=>decide (x=f.r) with
 | some j=>G.set j (f.r,(G.getD j ([],[])).2++[f.p])
 | none=>G++[(f.r,[f.p])]
structure GI (l:List Fc) (G:List Grp):Prop where
 nd:(G.map (·.1)).Nodup
 mem:∀ r,r∈G.map (·.1)↔∃ f,f∈l/\f.r=r/\pv f.p=true
 ps:∀ g,g∈G->g.2=psOf l g.1
 len:G.length<=l.length
theorem GI.nil:GI [] []:=⟨List.nodup_nil,fun r=>by simp,fun g hg=>by simp at hg,zd _⟩
theorem xqw (l:List Fc) (f:Fc) (r:Row):psOf (l++[f]) r=psOf l r++(if f.r=r/\pv f.p=true then [f.p] else []):=by
 unfold psOf;rw [List.filter_append,zx];congr 1;by_cases h1:f.r=r<;>by_cases h2:pv f.p=true<;>simp [h1,h2]
theorem GI.skip {l:List Fc} {G:List Grp} (h:GI l G) {f:Fc} (hf:pv f.p=false):GI (l++[f]) G :=
 ⟨h.nd,fun r=>by
  rw [h.mem];refine ⟨fun ⟨g,hg,e⟩=>⟨g,by simp [hg],e⟩,fun ⟨g,hg,e1,e2⟩=>⟨g,?_,e1,e2⟩⟩
  rcases zG.1 hg with hg|hg
  . exact hg
  . rw [zv] at hg;subst hg;rw [hf] at e2;simp at e2,fun g hg=>by rw [xqw,if_neg (by rw [hf];simp),zD];exact h.ps g hg,by rw [z8];have:=h.len;omega⟩
theorem xrG {R:List Row} {r:Row} {j:Nat} (h:R.findIdx? (fun x=>decide (x=r))=some j):∃ hj:j<R.length,R[j]=r:=by
 obtain ⟨hj,h1,_⟩:=List.findIdx?_eq_some_iff_getElem.1 h;exact ⟨hj,by simpa using h1⟩
theorem xwd {R:List Row} {r:Row} (h:R.findIdx? (fun x=>decide (x=r))=none):r∉R:=fun hr=>by
 have:=List.findIdx?_eq_none_iff.1 h r hr;simp at this
theorem xuE {G:List Grp} {j:Nat} (hj:j<G.length) {ps:List Per} {r:Row} (hr:G[j].1=r):(G.set j (r,ps)).map (·.1)=G.map (·.1):=by
 rw [List.map_set];show (G.map (·.1)).set j r=_;rw [<-hr];have:(G.map (·.1))[j]'(by simpa using hj)=G[j].1:=by simp
 rw [<-this];exact List.set_getElem_self _
theorem GI.upd {l:List Fc} {G:List Grp} (h:GI l G) {f:Fc} (hf:pv f.p=true):GI (l++[f]) (M.upd G f):=by
 unfold M.upd;cases hi:(G.map (·.1)).findIdx? fun x=>decide (x=f.r) with
 | some j =>
  obtain ⟨hj,hr⟩:=xrG hi;rw [za] at hj;rw [List.getElem_map] at hr;dsimp only;have gd:G.getD j ([],[])=G[j]:=by rw [z7,ze hj];rfl
  rw [gd];refine ⟨by rw [xuE hj hr];exact h.nd,fun r=>?_,fun g hg=>?_,by rw [y2,z8];have:=h.len;omega⟩
  . rw [xuE hj hr,h.mem];refine ⟨fun ⟨g,hg,e⟩=>⟨g,by simp [hg],e⟩,fun ⟨g,hg,e1,e2⟩=>?_⟩
    rcases zG.1 hg with hg|hg
    . exact ⟨g,hg,e1,e2⟩
    . rw [zv] at hg;subst hg;refine (h.mem r).1 ?_;rw [<-e1,<-hr];exact zK.2 ⟨G[j],zo hj,rfl⟩
  . obtain ⟨i,q,rfl⟩:=zp.1 hg;rw [y2] at q;rw [List.getElem_set];by_cases O:j=i
    . subst O;rw [if_pos rfl,xqw,if_pos ⟨rfl,hf⟩,h.ps _ (zo hj),hr]
    . rw [if_neg O,xqw,if_neg ?_,zD]
      . exact h.ps _ (zo q)
      . rintro ⟨e,_⟩;have hn:=zB.1 h.nd;have ei:(G.map (·.1))[i]'(by simpa using q)=G[i].1:=by simp
        have ej:(G.map (·.1))[j]'(by simpa using hj)=G[j].1:=by simp
        rcases Nat.lt_or_gt_of_ne O with J|J
        . exact hn j i (by simpa using hj) (by simpa using q) J (by rw [ei,ej,hr,e])
        . exact hn i j (by simpa using q) (by simpa using hj) J (by rw [ei,ej,hr,e])
 | none =>
  have hr:=xwd hi;dsimp only;have hz:psOf l f.r=[]:=by
   unfold psOf;rw [List.map_eq_nil_iff,List.filter_eq_nil_iff];intro g hg he;simp only [zf,zl] at he;exact hr ((h.mem _).2 ⟨g,hg,he⟩)
  refine ⟨?_,fun r=>?_,fun g hg=>?_,by rw [z8,z8];have:=h.len;simp;omega⟩
  . rw [zx];refine List.nodup_append.2 ⟨h.nd,by simp,fun a ha b hb e=>?_⟩
    simp at hb;exact hr (by rw [<-hb,<-e];exact ha)
  . rw [zx,zG,h.mem];simp only [zV,zW,zv,zG];constructor
    . rintro (⟨g,hg,e⟩|rfl)
      . exact ⟨g,.inl hg,e⟩
      . exact ⟨f,.inr rfl,rfl,hf⟩
    . rintro ⟨g,hg|rfl,e⟩
      . exact .inl ⟨g,hg,e⟩
      . exact .inr e.1.symm
  . rcases zG.1 hg with hg|hg
    . rw [xqw,if_neg ?_,zD]
      . exact h.ps g hg
      . rintro ⟨e,_⟩;exact hr (by rw [e];exact zK.2 ⟨g,hg,rfl⟩)
    . rw [zv] at hg;subst hg;rw [xqw,if_pos ⟨rfl,hf⟩,hz];rfl
theorem cG0 (g:Grp):((encG g).cells.getD 0 .top).toList=g.1.map encV:=rfl
theorem xBr {α:Type} (l:List α) (x d:α):(l++[x]).getD l.length d=x:=by simp
theorem xC4 {α:Type} (l:List α) (x y:α):(l++[x]).set l.length y=l++[y]:=by simp
theorem xGX (xs:List AV):(AV.agg xs).cells=xs:=rfl
theorem tolA (n:Nat) (xs:List AV):(AV.list n xs).toList=xs:=rfl
theorem xGx (k:IntKind) (n:Int):(AV.int k n).toInt=n:=rfl
theorem xGZ (xs:List AV):xHS 2 (.list 2 xs)=true:=rfl
theorem xG2 (n m:Nat):xIe (.int .i64 (n:Int)) m=decide (n<m):=rfl
theorem xG1:xIe (.int .i64 0) 1=true:=rfl
theorem g2a (a b:AV):[a,b].getD 0 .top=a:=rfl
theorem g2b (a b:AV):[a,b].getD 1 .top=b:=rfl
theorem lt2 (a b:AV):([a,b].length==2)=true:=rfl
theorem tk1 (a b:AV):List.take 1 [a,b]=[a]:=rfl
theorem dp2 (a b:AV):List.drop 2 [a,b]=[]:=rfl
theorem xy5 (g:Grp):encG g=.agg [.list 3 (g.1.map encV),.list 2 (g.2.map encP)]:=rfl
theorem xy6 (p:Per):encP p=.agg [.int .i64 p.1,.int .i64 p.2]:=rfl
def Keyed (l:List Fc):Prop:=Few l/\∀ f,f∈l->(∀ v,v∈f.r->KOk v)/\(keyOf f.r).length<=17592186044416
theorem Keyed.key {l:List Fc} (h:Keyed l) {f:Fc} (hf:f∈l):xjy (f.r.map encV)=some (keyOf f.r):=xFc f.r (h.1.2 f hf) (h.2 f hf).1 (h.2 f hf).2
theorem xB1 (l:List Fc) (h:Keyed l) (k:Nat) (hk:k<l.length) (G:List Grp) (hG:GI (l.take k) G) :
  xby (l.map encF) ((l.length:Nat):Int) (G.length,(k:Int),ents 0 (G.map (·.1)),G.map encG) =
   some (.inl ((if pv l[k].p=true then upd G l[k] else G).length,((k+1:Nat):Int),ents 0 ((if pv l[k].p=true then upd G l[k] else G).map (·.1)),(if pv l[k].p=true then upd G l[k] else G).map encG)):=by
 have hl:=h.1.1;have i1:(k:Int)<(l.length:Int):=by omega
 have gf:(l.map encF).getD k .top=encF l[k]:=xaM _ _ _ hk;have ek:=h.key (zo hk);have kl:=(h.2 _ (zo hk)).2;have O:=hG.len;rw [zt] at O;cases hv:pv l[k].p with
 | false =>
  simp only [xby,xd4,sBU,i1,hk,gf,cF0,cF1,cF2,sF0,sF1,sF2,lF,sF12,sF02,xn7,hv,xGa (n:=k) (by omega)]
  rfl
 | true =>
  have k1:(keyOf l[k].r).length<=4611686018427387904:=by omega
  have hx:=xy7 (G.map (·.1)) 0 l[k].r;have n1:(ents 0 (G.map (·.1))).length<4611686018427387904:=by rw [xwb,za];omega
  have m1:(G.length+1)*48<=140737488355328:=by omega
  have m2:G.length+1<=4611686018427387904:=by omega
  simp only [if_true];cases hi:(G.map (·.1)).findIdx? fun x=>decide (x=l[k].r) with
  | none =>
   rw [hi] at hx;have hu:upd G l[k]=G++[(l[k].r,[l[k].p])]:=by unfold upd;rw [hi]
   have hh:xHH (ents 0 (G.map (·.1))) (keyOf l[k].r)=false:=by unfold xHH;rw [hx];rfl
   have hg:xHu (AV.int .i64 0) (ents 0 (G.map (·.1))) (keyOf l[k].r)=AV.int .i64 0:=by unfold xHu;rw [hx]
   have hp:xHs (ents 0 (G.map (·.1))) (keyOf l[k].r) (AV.int .i64 (G.length:Int))=ents 0 ((G++[(l[k].r,[l[k].p])]).map (·.1)):=by
    unfold xHs;rw [hx,zx];show _=ents 0 (G.map (·.1)++[l[k].r]);rw [xuR,za,zH]
   have i2:(G.length:Int)<((G.length+1:Nat):Int):=by omega
   have J:xHa (Sh.int .i64) (AV.int .i64 0)=true:=rfl;have gl:∀ x:AV,(G.map encG++[x]).getD G.length .top=x:=fun x=>by have:=xBr (G.map encG) x .top;rwa [za] at this
   have sl:∀ x y:AV,(G.map encG++[x]).set G.length y=G.map encG++[y]:=fun x y=>by have:=xC4 (G.map encG) x y;rwa [za] at this
   rw [hu];simp only [xby,xd4,xgd,xge,xdB,xdC,xeD,xgf,xeE,xaV,xgg,xaW,xa9,xaR,xej,xfG,xfH,xbG,xfI,xek,xcd,sBU,i1,hk,gf,cF0,cF1,cF2,sF0,sF1,sF2,lF,sF12,sF02,xn7,hv,xGa (n:=k) (by omega),ek,k1,hh,hg,hp,n1,m1,m2,i2,J,gl,sl,z8,zj,zx,zV,zW,xGX,tolA,xGx,xGZ,xG2,g2a,g2b,lt2,tk1,dp2,y2,Nat.lt_succ_self,Bool.and_self,List.length_nil,zH,xy5,xy6,List.singleton_append,zU,zD,Int.natCast_zero]
   try simp [xaL,xG1,sUF]
  | some j =>
   obtain ⟨hj,hr⟩:=xrG hi;rw [hi] at hx;have q:j<G.length:=by simpa using hj
   rw [List.getElem_map] at hr;have gd:G.getD j ([],[])=G[j]:=by rw [z7,ze q];rfl
   have hu:upd G l[k]=G.set j (l[k].r,G[j].2++[l[k].p]):=by unfold upd;rw [hi];dsimp only;rw [gd]
   have hh:xHH (ents 0 (G.map (·.1))) (keyOf l[k].r)=true:=by unfold xHH;rw [hx];rfl
   have hg:xHu (AV.int .i64 0) (ents 0 (G.map (·.1))) (keyOf l[k].r)=AV.int .i64 (j:Int):=by
    unfold xHu;rw [hx];dsimp only;rw [xwa _ _ _ hj,zH];rfl
   have gj:(G.map encG).getD j .top=encG G[j]:=xaM _ _ _ q;have i2:(j:Int)<(G.length:Int):=by omega
   have J:xHa (Sh.int .i64) (AV.int .i64 (j:Int))=true:=rfl;have pl:G[j].2.length<=k:=by
    rw [hG.ps _ (zo q)];have:=xwF (l.take k) G[j].1;rw [zt] at this;omega
   have m3:(G[j].2.length+1)*16<=140737488355328:=by omega
   have m4:G[j].2.length+1<=4611686018427387904:=by omega
   have gs:∀ x:AV,((G.map encG).set j x).getD j .top=x:=fun x=>by
    rw [z7,zL (by simpa using q)];rfl
   have ss:∀ x y:AV,((G.map encG).set j x).set j y=(G.map encG).set j y:=fun x y=>List.set_set ..
   have tj:(AV.int IntKind.i64 (j:Int)).toInt=(j:Int):=rfl;have cj:(encG G[j]).cells=[.list 3 (l[k].r.map encV),.list 2 (G[j].2.map encP)]:=by rw [<-hr];rfl
   rw [hu,xuE q hr,y2,List.map_set];simp only [xby,xd4,xgd,xge,xdB,xdC,xeD,xgf,xeE,xaV,xgg,xaW,xa9,xaR,xej,xfG,xfH,xbG,xfI,xek,xcd,sBU,i1,hk,gf,cF0,cF1,cF2,sF0,sF1,sF2,lF,sF12,sF02,xn7,hv,xGa (n:=k) (by omega),ek,k1,hh,hg,i2,J,tj,gj,cj,q,y2,gs,ss,xGX,tolA,xGx,xGZ,xG2,g2a,g2b,lt2,tk1,dp2,m3,m4,Bool.and_self,z8,zj,Nat.lt_succ_self,xy5,xy6,zx,zV,zW,List.singleton_append,zD]
   try simp [xaL,xG1,hr,sUF]
def grp (l:List Fc):List Grp:=l.foldl (fun G f=>if pv f.p=true then upd G f else G) []
theorem xwi (l:List Fc) (f:Fc):grp (l++[f])=if pv f.p=true then upd (grp l) f else grp l:=by simp [grp]
theorem xBt:∀ l:List Fc,GI l.reverse (grp l.reverse)
 | []=>GI.nil
 | f::l=>by
  rw [List.reverse_cons,xwi];have ih:=xBt l;cases hv:pv f.p with
  | true=>rw [if_pos rfl];exact ih.upd hv
  | false=>rw [if_neg (by simp)];exact ih.skip hv
theorem xBu (l:List Fc):GI l (grp l):=by have:=xBt l.reverse;rwa [List.reverse_reverse] at this
theorem xB0 (l:List Fc) (h:Keyed l):Iter (xby (l.map encF) ((l.length:Nat):Int)) ((0:Nat),(0:Int),[],[])=some ((grp l).length,(grp l).map encG):=by
 refine xjJ (fun k=>(((grp (l.take k)).length,((k:Nat):Int),ents 0 ((grp (l.take k)).map (·.1)),(grp (l.take k)).map encG):Nat×Int×List AV×List AV)) l.length _ (fun k hk=>?_) ?_ l.length 0 (by omega)
 . rw [xB1 l h k hk (grp (l.take k)) (xBu _)];have tk:l.take (k+1)=l.take k++[l[k]]:=by rw [List.take_add_one,ze hk];rfl
   rw [tk,xwi]
 . simp only [xby,xd4,za,zy,zm,xaK,y4,sUF]
theorem xDP (x y:Grp) (hx:x.1.length<=4398046511104):xGE (encG x) (encG y)=true/\xGF (encG x) (encG y)=cmpR x.1 y.1:=by
 have e:xc9 (x.1.map encV) (x.2.map encP) (y.1.map encV) (y.2.map encP)=some (cmpR x.1 y.1):=by
  unfold xc9 xle;rw [xvq x.1 y.1 (by unfold maxLen;omega)];rfl
 have e2:xc9 ((encG x).cells.getD 0 .top).toList ((encG x).cells.getD 1 .top).toList ((encG y).cells.getD 0 .top).toList ((encG y).cells.getD 1 .top).toList=some (cmpR x.1 y.1):=e;unfold xGE xGF;rw [e2];exact ⟨rfl,rfl⟩
theorem xEd (l:List Fc) (h:Keyed l):∃ S:List Grp,xiP (l.map encF)=some (S.map encG)/\xGn l (S.map (·.1))/\(∀ g,g∈S->g.2=psOf l g.1)/\S.length<=l.length:=by
 have hg:=xBu l;have O:=h.1.1;have J:=hg.len;have cG:Cm fun x y:Grp=>cmpR x.1 y.1:=xpX.on (e:=fun x:Grp=>x.1)
 obtain ⟨r,e,p,s⟩:=(fun F (hF:20<=F)=>xyG cG.ord F (grp l).length (xzm (Nat.le_trans J O) hF) (grp l) rfl) 1000 (by decide)
 have es:=xFx (N:=(grp l).length) (by omega) (ok:=fun g=>g.1.length<=1048576) (c:=fun x y:Grp=>cmpR x.1 y.1) (fun x y hx hy=>xDP x y (by omega)) (grp l) r rfl (fun g q=>by
  obtain ⟨f,hf,e,_⟩:=(hg.mem g.1).1 (zK.2 ⟨g,q,rfl⟩);rw [<-e];exact h.1.2 f hf) e
 have rl:=p.length_eq;refine ⟨r,?_,⟨?_,fun x=>?_⟩,fun g q=>hg.ps g (p.mem_iff.1 q),by rw [rl];exact J⟩
 . have el:=xB0 l h;have ra:xHI 2 1 ((grp l).map encG)=true:=by
    unfold xHI;rw [zI];intro x hx;obtain ⟨g,_,rfl⟩:=zK.1 hx;rfl
   have ll:(grp l).length<=r.length:=by omega
   have tt:List.take (grp l).length (r.map encG)=r.map encG:=zi (by rw [za];omega)
   unfold xiP xme xlf xlg xiz xlh xli xlj;simp only [za,el,zk,zh,xaL,ra,es,zH,ll,zn,zS,zr,tt,sUF]
 . refine xB6 (fun _ _=>xlO) ?_ ?_
   . exact List.pairwise_map.2 s
   . exact ((p.map (·.1)).nodup_iff).2 hg.nd
 . rw [(p.map (·.1)).mem_iff];exact hg.mem x
end Go.Sim.M
end
noncomputable section
set_option maxRecDepth 100000
namespace Go.Sim.M
open Go.RowKit Go.Sim.Srt Go.Sort
theorem xEo (E:List Per):(E.map encP).all isP=true/\∃ P:List Per,srtP (E.map encP)=P.map encP/\P.Perm E/\Sorted cmpP P:=by
 have e1:(E.map encP).map decP=E:=by
  rw [List.map_map];conv=>rhs;rw [<-List.map_id E]
  rfl
 refine ⟨?_,pdqL cmpP E,?_,(xn6 cmpP swoP E).1,(xsA cmpP swoP E).imp fun {x y} h=>?_⟩
 . rw [zI];intro x hx;obtain ⟨e,he,rfl⟩:=zK.1 hx;rfl
 . unfold srtP;rw [e1];rfl
 . have:=xpL x y;omega
theorem xwp (S:List Per) (hS:S.length<=524289) (hN:∀ s,s∈S->0<=s.2/\s.2<=1048576):∀ (d k:Nat) (J ox:List Per),k+d=S.length->StOk J->(xGb J).length<=1048576->ox.length<=k*1048576 ->
  ∃ q Q:List Per,Iter (xdv (S.map encP) ((S.length:Nat):Int)) ((k:Int),ox.length,J.length,((xGb J).length:Int),ox.map encP,J.map encP)=some (Q.length,((xGb q).length:Int),q.length,Q.map encP,q.map encP) /\
   StOk q/\(xGb q,Q)=(S.drop k).foldl (fun x s=>setF x (s.1,s.2.toNat)) (xGb J,ox)/\(xGb q).length<=1048576/\Q.length<=S.length*1048576
 | 0,k,J,ox,h,h1,h2,h3=>by
  obtain rfl:k=S.length:=by omega
  refine ⟨J,ox,xaN ?_,h1,by rw [zq (zd _)];rfl,h2,h3⟩
  simp only [xdv,xhL,zy,zm,xaK,sUF]
 | d+1,k,J,ox,h,h1,h2,h3=>by
  have hk:k<S.length:=by omega
  obtain ⟨n1,n2⟩:=hN _ (zo hk);obtain ⟨m,hm⟩:∃ m:Nat,S[k].2=(m:Int):=⟨S[k].2.toNat,by omega⟩
  obtain ⟨O,e,a1,a2⟩:=xzw S[k].1 m (xGb J).length J ox h1 rfl (by omega) h2 (by omega)
  have U:(xGb O).length=m:=by rw [a2,z8,zt,List.length_replicate];omega
  obtain ⟨q,Q,e',b1,b2,b3,b4⟩:=xwp S hS hN d (k+1) O (ox++(((xGb J).drop m).reverse.map fun f=>(f,S[k].1))) (by omega) a1 (by omega) (by
   rw [z8,za,List.length_reverse,y1];omega)
  refine ⟨q,Q,(xaT ?_).trans e',b1,?_,b3,b4⟩
  . have i1:(k:Int)<(S.length:Int):=by omega
    have gf:(S.map encP).getD k .top=encP S[k]:=xaM _ _ _ hk;have i2:¬ (0:Int)>(m:Int):=by omega
    have i3:¬ (1048576:Int)<(m:Int):=by omega
    have tk:List.take O.length (O.map encP)=O.map encP:=zi (by simp)
    rw [U];simp only [xdv,xhL,xj2,xj3,xj4,xj5,xj6,xj7,xj8,sBU,hk,i1,gf,cP0,cP1,lP,sP,sP0,sP1,hm,i2,i3,if_false,e,tk,xGa (n:=k) (by omega)]
  . rw [b2,xa4 hk,List.foldl_cons];congr 1;rw [hm,zN,a2];rfl
theorem xBD {N:Int->Nat} {H:Nat} (hb:H<=1048576) (hH:∀ t,N t<=H) (h0:∀ t,t<0\/1099511627776<=t->N t=0) {S:List Per} (hS:StepI (fun t=>(N t:Int)) 1099511627776 S) (hl:S.length<=524289):∃ P,xmx (S.map encP)=some (P.map encP)/\IsLevs N P:=by
 obtain ⟨q,ox,e,a1,a2,a3,a4⟩:=xwp S hl (fun s hs=>by
  obtain ⟨_,_,m3,_⟩:=(hS.mem s).1 hs;have:=hH s.1;omega) S.length 0 [] [] (by omega) (fun s hs=>by simp at hs) (by simp [xGb]) (by simp)
 obtain ⟨J,e2,c1,c2⟩:=xzw 1099511627776 0 (xGb q).length q ox a1 rfl (by omega) a3 (by omega)
 obtain ⟨s1,P,s2,s3,s4⟩:=xEo (ox++(((xGb q).drop 0).reverse.map fun f=>(f,(1099511627776:Int))))
 have m1:(ox++(((xGb q).drop 0).reverse.map fun f=>(f,(1099511627776:Int)))).length<4611686018427387904:=by
  rw [z8,za,List.length_reverse,y1];omega
 refine ⟨P,?_,xCE hH h0 hS ?_ s4⟩
 . have pl:=s3.length_eq;have e:Iter (xdv (S.map encP) ((S.length:Nat):Int)) ((0:Int),(0:Nat),(0:Nat),(0:Int),[],[])=_:=e;have e2:set2 1099511627776 0 ((xGb q).length:Int) q.length ox.length (q.map encP) (ox.map encP)=_:=e2;generalize (ox++(((xGb q).drop 0).reverse.map fun f=>(f,(1099511627776:Int))))=O at s1 s2 e2 pl m1
   have bq:O.length.beq O.length=true:=by simp
   have m2:O.length<=P.length:=by omega
   have tt:List.take O.length (P.map encP)=P.map encP:=zi (by rw [za];omega)
   unfold xmx xnN;simp only [xhe,xhf,xm0,xm1,xm2,xm3,xm4,xm5,xm6,za,e,zk,zh,xaL,e2,bq,m1,s1,s2,zn,zS,zH,m2,zr,tt,sUF]
 . have a2:(xGb q,ox)=S.foldl (fun x s=>setF x (s.1,s.2.toNat)) ([],[]):=a2
   rw [<-a2];exact s3
theorem xv6 (ps:List Per) (t:Int) (ht:t<0\/1099511627776<=t):ps.countP (hasP · t)=0:=by
 rw [List.countP_eq_zero];intro p hp h;obtain ⟨h1,h2,h3⟩:=xfu.1 h;have:=xd6.1 h1;omega
theorem xDI (ps:List Per) (hv:∀ p,p∈ps->pv p=true) (hl:ps.length<=262144):∃ P,xft (ps.map encP)=some (P.map encP)/\IsLevs (fun t=>ps.countP (hasP · t)) P:=by
 unfold xft xl4;by_cases h1:ps.length=1
 . obtain ⟨p,rfl⟩:=List.length_eq_one_iff.1 h1;refine ⟨[p],rfl,List.pairwise_singleton _ _,fun k=>if k=0 then [p] else [],1,fun t=>?_,fun k=>?_,?_⟩
   . have:=List.countP_le_length (p:=(hasP · t)) (l:=[p]);simpa using this
   . by_cases hk:k=0
     . subst hk;refine ⟨⟨fun q hq=>by simp at hq;subst hq;exact hv _ (by simp),List.pairwise_singleton _ _⟩,fun t=>?_⟩
       simp [inL];cases hasP p t<;>simp
     . refine ⟨by simp [hk,xo0],fun t=>?_⟩
       simp only [hk,if_false,xlS];have:=List.countP_le_length (p:=(hasP · t)) (l:=[p]);simp at this |-;omega
   . simp
 . obtain ⟨S,e1,e2,e3⟩:=xvw ps hl;obtain ⟨P,e4,e5⟩:=xBD (N:=fun t=>ps.countP (hasP · t)) (H:=ps.length) (by omega) (fun t=>List.countP_le_length) (xv6 ps) e2 (by omega)
   refine ⟨P,?_,e5⟩;have i1:((ps.length:Int)==1)=false:=by simp;omega
   simp only [za,i1,xaK,e1,e4,zk,zh,xaL,sUF]
def mk (r:Row) (P:List Per):List Fc:=P.map fun p=>⟨r,p⟩
theorem xsS (L:Row->List Per):∀ S:List Grp,(S.flatMap fun g=>mk g.1 (L g.1))=xGg (S.map (·.1)) L
 | []=>rfl
 | g::S=>by rw [zR,xsS L S];rfl
theorem xA6 (O:List AV) (J Q:Int) (q:Row) (hr:q.length<=1048576) (g1:List AV) (P:List Per) (D:List Fc) (hb:D.length+P.length<=2199023255552) (hP:P.length<=1099511627776) :
  Iter (xbx O J Q (P.map encP) ((P.length:Nat):Int)) (D.length,(0:Int),D.map encF,q.map encV,g1)=some ((D++mk q P).length,(D++mk q P).map encF):=by
 have key:=xjJ (step:=xbx O J Q (P.map encP) ((P.length:Nat):Int)) (fun k=>(((D++mk q (P.take k)).length,((k:Nat):Int),(D++mk q (P.take k)).map encF,q.map encV,g1):Nat×Int×List AV×List AV×List AV)) P.length
  ((D++mk q P).length,(D++mk q P).map encF) (fun k hk=>by
  have i1:(k:Int)<(P.length:Int):=by omega
  have gf:(P.map encP).getD k .top=encP P[k]:=xaM _ _ _ hk;have dl:(D++mk q (P.take k)).length=D.length+k:=by unfold mk;rw [z8,za,zt];omega
  have m1:(D.length+k+1)*40<=140737488355328:=by omega
  have m2:D.length+k+1<=4611686018427387904:=by omega
  have m3:q.length*32<=140737488355328:=by omega
  have m4:q.length<=4611686018427387904:=by omega
  have tk:List.take q.length (q.map encV)=q.map encV:=zi (by simp)
  have U:mk q (P.take (k+1))=mk q (P.take k)++[⟨q,P[k]⟩]:=by unfold mk;rw [List.take_add_one,ze hk,zx];rfl
  rw [U,<-zw];simp only [xbx,xfc,sBU,hk,i1,gf,cP0,cP1,lP,sP,sP0,sP1,dl,m1,m2,m3,m4,zd,tk,zr,xGa (n:=k) (by omega)]
  rw [z8,dl];simp [encF]) (by
  simp only [xbx,xfc,zy,zm,xaK,y4,sUF]) P.length 0 (by omega)
 have e0:D++mk q (P.take 0)=D:=by simp [mk]
 rw [e0] at key;exact key
def Bld (l:List Fc):Prop:=Keyed l/\l.length<=1024
theorem cGs (g:Grp):((encG g).cells.getD 1 .top).toList=g.2.map encP:=rfl
theorem lG (g:Grp):((encG g).cells.length==2)=true:=rfl
theorem sG (g:Grp):xHh [Sh.list 3,Sh.list 2] (encG g).cells 0=true:=rfl
theorem xA7 (S:List Grp) (hS:S.length<=1024) (hr:∀ g,g∈S->g.1.length<=1048576) (L:Row->List Per) (hL:∀ g,g∈S->xft (g.2.map encP)=some ((L g.1).map encP)/\(L g.1).length<=1048576) :
  Iter (xcR (S.map encG) ((S.length:Nat):Int)) ((0:Nat),(0:Int),[])=some ((xGg (S.map (·.1)) L).length,(xGg (S.map (·.1)) L).map encF):=by
 rw [<-xsS];refine xjK S (fun g=>mk g.1 (L g.1)) encF 1048576 (fun g hg=>by unfold mk;rw [za];exact (hL g hg).2) (fun n h D hD=>?_) (fun D=>?_)
 . have i1:(n:Int)<(S.length:Int):=by omega
   have gf:(S.map encG).getD n .top=encG S[n]:=xaM _ _ _ h;obtain ⟨e1,e2⟩:=hL _ (zo h);have q:=hr _ (zo h);have el:=xA6 (S.map encG) (S.length:Int) (n:Int) S[n].1 q (S[n].2.map encP) (L S[n].1) D (by omega) (by omega)
   simp only [xcR,xfb,xhl,xhm,sBU,h,i1,gf,cG0,cGs,lG,sG,e1,el,xGa (n:=n) (by omega)]
 . simp only [xcR,xfb,zy,zm,xaK,sUF]
theorem xuN {R:List Row} {Q:Row->List Per->Prop} (h:∀ r,r∈R->∃ P,Q r P):∃ L:Row->List Per,∀ r,r∈R->Q r (L r):=by
 refine ⟨fun r=>if hr:r∈R then Classical.choose (h r hr) else [],fun r hr=>?_⟩
 show Q r (if hr:r∈R then Classical.choose (h r hr) else [])
 rw [dif_pos hr];exact Classical.choose_spec (h r hr)
theorem xBP (l:List Fc) (r:Row):(fun t=>(psOf l r).countP (hasP · t))=cnt l r:=funext fun t=>xtY l r t
theorem xET (l:List Fc) (h:Bld l):∃ B,xck (l.map encF)=some (B.map encF)/\xGo l B:=by
 obtain ⟨S,e1,hR,J,O⟩:=xEd l h.1;have hl:=h.2;obtain ⟨L,hL⟩:=xuN (R:=S.map (·.1)) (Q:=fun r P=>xft ((psOf l r).map encP)=some (P.map encP)/\IsLevs (cnt l r) P/\P.length<=1048576) fun r hr=>by
  have q:=xwF l r;obtain ⟨P,a1,a2⟩:=xDI (psOf l r) xCO (by omega)
  have a3:=a2.len;rw [xBP] at a2;refine ⟨P,a1,a2,Nat.le_trans a3 (Nat.mul_le_mul (Nat.le_trans q hl) (Nat.le_trans q hl))⟩
 have hk:∀ g,g∈S->g.1∈S.map (·.1):=fun g hg=>zK.2 ⟨g,hg,rfl⟩
 have eb:=xA7 S (by omega) (fun g hg=>by
  obtain ⟨f,hf,e,_⟩:=(hR.2 g.1).1 (hk g hg);rw [<-e];exact h.1.1.2 f hf) L (fun g hg=>by
  rw [J g hg];exact ⟨(hL _ (hk g hg)).1,(hL _ (hk g hg)).2.2⟩)
 refine ⟨xGg (S.map (·.1)) L,?_,S.map (·.1),L,hR,fun r hr=>(hL r hr).2.1,rfl⟩
 have tt:∀ F:List Fc,List.take F.length (F.map encF)=F.map encF:=fun F=>zi (by simp)
 unfold xck xnj xld xjv xiY xiZ xix xi0;simp only [e1,zk,zh,xaL,za,eb,zH,zd,zn,zS,zr,tt,sUF]
end Go.Sim.M
end
noncomputable section
set_option maxRecDepth 100000
namespace Go.Sim.M
open Go.RowKit Go.Sim.Srt
def pos (S:List Per) (i:Nat):Int:=match S[i]? with
 | some s=>s.1
 | none=>1099511627776
theorem xqv {S:List Per} {i:Nat} (h:i<S.length):pos S i=S[i].1:=by unfold pos;rw [ze h]
theorem xwD {S:List Per} {i:Nat} (h:S.length<=i):pos S i=1099511627776:=by unfold pos;rw [zz h]
theorem xCL {N:Int->Nat} {S:List Per} (hS:StepI (fun t=>(N t:Int)) 1099511627776 S) {i:Nat} (hi:i<S.length):0<=pos S i/\pos S i<pos S (i+1)/\pos S (i+1)<=1099511627776/\S[i].2=(N S[i].1:Int)/\∀ t,pos S i<=t->t<pos S (i+1)->N t=N S[i].1:=by
 obtain ⟨m1,m2,m3,_⟩:=(hS.mem S[i]).1 (zo hi);rw [xqv hi];have hb:S[i].1<pos S (i+1)/\pos S (i+1)<=1099511627776:=by
  by_cases h:i+1<S.length
  . rw [xqv h];have:=zB.1 hS.asc i (i+1) hi h (by omega)
    have:=((hS.mem S[i+1]).1 (zo h)).2.1;omega
  . rw [xwD (by omega)];omega
 refine ⟨m1,hb.1,hb.2,m3,fun t h1 h2=>xpN (a:=S[i].1) (b:=pos S (i+1)) (fun u u1 u2=>?_) (t - S[i].1).toNat t (by omega) h2⟩
 by_cases e:N (u - 1)=N u
 . exact e
 . have hu:(u,(N u:Int))∈S:=(hS.mem _).2 ⟨by dsimp only;omega,by dsimp only;omega,rfl,.inr (by dsimp only;omega)⟩
   obtain ⟨k,hk,q⟩:=zp.1 hu;have O:S[k].1=u:=by rw [q]
   rcases zJ i k with J|J
   . have:i+1<S.length:=by omega
     rw [xqv this] at u2;rcases zJ (i+1) k with h3|h3
     . have:=zB.1 hS.asc (i+1) k this hk h3;omega
     . obtain rfl:k=i+1:=by omega
       omega
   . rcases zJ k i with h3|h3
     . have:=zB.1 hS.asc k i hk hi h3;omega
     . obtain rfl:k=i:=by omega
       omega
theorem xCM {N:Int->Nat} {S:List Per} (hS:StepI (fun t=>(N t:Int)) 1099511627776 S):pos S 0=0:=by
 have h0:((0:Int),(N 0:Int))∈S:=(hS.mem _).2 ⟨by simp,by simp,rfl,.inl rfl⟩
 obtain ⟨k,hk,J⟩:=zp.1 h0;have h:0<S.length:=by omega
 have p0:=((hS.mem S[0]).1 (zo h)).1;rw [xqv h];have q:S[k].1=0:=by rw [J]
 rcases zJ 0 k with h3|h3
 . have:=zB.1 hS.asc 0 k h hk h3;omega
 . obtain rfl:k=0:=by omega
   exact q
def xGk (out:List Per) (f t:Int):List Per:=match out.getLast? with
 | some p=>if p.2=f then out.dropLast++[(p.1,t)] else out++[(f,t)]
 | none=>out++[(f,t)]
theorem xGO {n:Nat} (h:n<=1099511627776):(n+1)*16<=140737488355328/\n+1<=4611686018427387904/\n*16<=140737488355328/\n<=4611686018427387904:=by omega
theorem xDZ (out:List Per) (f t:Int) (O:f<t) (J:∀ p,p∈out->p.2<=f) (hl:out.length<=1048576):∃ q,xbY out.length f t (out.map encP)=some q/\br q.1 q.2.1.1 q.2.2.1=(xGk out f t).length/\br q.1 q.2.1.2.2 q.2.2.2=(xGk out f t).map encP:=by
 rcases xo4 out with rfl|⟨o,p,rfl⟩
 . refine ⟨_,rfl,rfl,rfl⟩
 . have hp:=J p (by simp)
   have L:(o++[p]).length=o.length+1:=by simp
   rw [L] at hl;have w1:IntKind.i64.wrap (((o.length+1:Nat):Int) - 1)=(o.length:Int):=xG3 (by omega)
   have i1:((o.length+1:Nat):Int)>0:=by omega
   have i2:(o.length:Int)<((o.length+1:Nat):Int):=by omega
   have i3:(o.length:Int)<=((o.length+1:Nat):Int):=by omega
   have i4:o.length<o.length+1:=by omega
   have i5:o.length<=o.length+1:=by omega
   have gl:((o++[p]).map encP).getD o.length .top=encP p:=by
    rw [zx];have:=xwh (o.map encP) (encP p) .top;rwa [za] at this
   have tl:List.take o.length ((o++[p]).map encP)=o.map encP:=by
    rw [zx];exact List.take_left' (by simp)
   obtain ⟨m1,m2,m3,m4⟩:=xGO (n:=o.length) (by omega)
   obtain ⟨m5,m6,_,_⟩:=xGO (n:=o.length+1) (by omega)
   have jn:xGk (o++[p]) f t=if p.2=f then o++[(p.1,t)] else o++[p]++[(f,t)]:=by
    unfold xGk;simp
   by_cases he:p.2=f
   . have c1:p.2>=f:=by omega
     have c2:t>p.2:=by omega
     rw [jn,if_pos he,L];refine ⟨(true,(o.length+1,(o++[p]).map encP,o.map encP++[encP (p.1,t)]),(0,[])),?_,by simp [xaL,sUF],by simp [xaL,sUF]⟩
     unfold xbY xjS xhP xiQ xdV xk6 xk7 xiR xk8;simp only [sBU,L,w1,i1,i2,i3,i4,i5,gl,cP0,cP1,lP,sP,sP0,sP1,c1,c2,tl,zr,m1,m2,m3,m4,if_true,aggP]
   . have c1:¬ p.2>=f:=by omega
     rw [jn,if_neg he,L];refine ⟨(false,(0,[],[]),(o.length+1+1,(o++[p]).map encP++[encP (f,t)])),?_,by simp [xaK,sUF],by simp [xaK,sUF]⟩
     unfold xbY xjS xhP xiQ xdV xk6 xk7 xiR xk8;simp only [sBU,L,w1,i1,i2,i3,i4,gl,cP0,cP1,lP,sP,sP0,sP1,c1,m5,m6,aggP]
theorem xBz {out:List Per} {f t:Int} {K:Int->Bool} (h:OutOk out f K) (h0:0<=f) (J:f<t) (hF:t<=1099511627776) (hK:∀ u,f<=u->u<t->K u=true):OutOk (xGk out f t) t K/\(xGk out f t).length<=out.length+1:=by
 rcases xo4 out with rfl|⟨o,p,rfl⟩
 . exact ⟨h.add h0 J hF hK (fun p hp=>by simp at hp),by simp [xGk]⟩
 . have jn:xGk (o++[p]) f t=if p.2=f then o++[(p.1,t)] else o++[p]++[(f,t)]:=by unfold xGk;simp
   rw [jn];by_cases he:p.2=f
   . rw [if_pos he];exact ⟨h.ext he J hF hK,by simp⟩
   . rw [if_neg he];refine ⟨h.add h0 J hF hK (fun q hq e=>?_),by simp⟩
     rcases zG.1 hq with hq|hq
     . have:=(List.pairwise_append.1 h.span.2).2.2 q hq p (by simp)
       have hv:=xd6.1 (h.span.1 p (by simp))
       have:=h.low p (by simp)
       omega
     . rw [zv] at hq;subst hq;exact he e
theorem xvW {N:Int->Nat} {S:List Per} (hS:StepI (fun t=>(N t:Int)) 1099511627776 S) (hl:S.length<=524289) (n:Int):∀ (d i:Nat) (out:List Per),i+d=S.length->OutOk out (pos S i) (fun t=>decide (n<=(N t:Int)))->out.length<=i ->
  ∃ J:List Per,Iter (xa6 (S.map encP) n) (out.length,(i:Int),out.map encP)=some (J.length,J.map encP)/\OutOk J 1099511627776 (fun t=>decide (n<=(N t:Int)))/\J.length<=S.length
 | 0,i,out,h,ho,hn=>by
  obtain rfl:i=S.length:=by omega
  rw [xwD (zd _)] at ho;refine ⟨out,xaN ?_,ho,hn⟩;simp only [xa6,xcY,za,zy,zm,xaK,sUF]
 | d+1,i,out,h,ho,hn=>by
  have hi:i<S.length:=by omega
  obtain ⟨p1,p2,p3,p4,p5⟩:=xCL hS hi;have i1:(i:Int)<(S.length:Int):=by omega
  have gf:(S.map encP).getD i .top=encP S[i]:=xaM _ _ _ hi;have wi:=xGa (n:=i) (by omega)
  have pe:=xqv hi;by_cases Q:S[i].2>=n
  . have hK:∀ t,pos S i<=t->t<pos S (i+1)->(fun t=>decide (n<=(N t:Int))) t=true:=fun t t1 t2=>by
     dsimp only;rw [p5 t t1 t2,<-p4];exact decide_eq_true Q
    obtain ⟨j1,j2⟩:=xBz ho p1 p2 p3 hK;obtain ⟨q,q1,q2,q3⟩:=xDZ out (pos S i) (pos S (i+1)) p2 ho.low (by omega)
    obtain ⟨J,e',x1,x2⟩:=xvW hS hl n d (i+1) (xGk out (pos S i) (pos S (i+1))) (by omega) j1 (by omega)
    refine ⟨J,(xaT (s':=((xGk out (pos S i) (pos S (i+1))).length,((i+1:Nat):Int),(xGk out (pos S i) (pos S (i+1))).map encP)) ?_).trans e',x1,x2⟩;rw [<-q2,<-q3];by_cases O:i+1<S.length
    . have i2:((i+1:Nat):Int)<(S.length:Int):=by omega
      have gn:(S.map encP).getD (i+1) .top=encP S[i+1]:=xaM _ _ _ O;rw [xqv O,pe] at q1;simp only [xa6,xcY,xdE,xdF,xdG,xdH,xdI,xdJ,xdK,xdL,xdM,xdN,xbJ,xda,xdb,xdc,sBU,i1,i2,hi,O,gf,gn,cP0,cP1,lP,sP,sP0,sP1,Q,wi,q1]
    . have i2:¬ ((i+1:Nat):Int)<(S.length:Int):=by omega
      rw [xwD (S:=S) (i:=i+1) (by omega),pe] at q1
      simp only [xa6,xcY,xdE,xdF,xdG,xdH,xdI,xdJ,xdK,xdL,xdM,xdN,xbJ,xda,xdb,xdc,sBU,i1,i2,hi,gf,cP0,cP1,lP,sP,sP0,sP1,Q,wi,q1]
  . have hK:∀ t,pos S i<=t->t<pos S (i+1)->(fun t=>decide (n<=(N t:Int))) t=false:=fun t t1 t2=>by
     dsimp only;rw [p5 t t1 t2,<-p4];exact decide_eq_false (by omega)
    obtain ⟨J,e',x1,x2⟩:=xvW hS hl n d (i+1) out (by omega) (ho.skip (by omega) hK) (by omega)
    refine ⟨J,(xaT (s':=(out.length,((i+1:Nat):Int),out.map encP)) ?_).trans e',x1,x2⟩;by_cases O:i+1<S.length
    . have i2:((i+1:Nat):Int)<(S.length:Int):=by omega
      have gn:(S.map encP).getD (i+1) .top=encP S[i+1]:=xaM _ _ _ O;simp only [xa6,xcY,xdE,xdF,xdG,xdH,xdI,xdJ,xdK,xdL,xdM,xdN,xbJ,xda,xdb,xdc,sBU,i1,i2,hi,O,gf,gn,cP0,cP1,lP,sP,sP0,sP1,Q,wi]
    . have i2:¬ ((i+1:Nat):Int)<(S.length:Int):=by omega
      simp only [xa6,xcY,xdE,xdF,xdG,xdH,xdI,xdJ,xdK,xdL,xdM,xdN,xbJ,xda,xdb,xdc,sBU,i1,i2,hi,gf,cP0,cP1,lP,sP,sP0,sP1,Q,wi]
theorem xES {N:Int->Nat} (h0:∀ t,t<0\/1099511627776<=t->N t=0) {S:List Per} (hS:StepI (fun t=>(N t:Int)) 1099511627776 S) (hl:S.length<=524289) (k:Nat):∃ A:List Per,xew (S.map encP) ((k+1:Nat):Int)=some (A.map encP)/\(IsSpan A/\∀ t,inL A t=decide (k<N t))/\A.length<=S.length:=by
 obtain ⟨A,e,a1,a2⟩:=xvW hS hl ((k+1:Nat):Int) S.length 0 [] (by omega) (by rw [xCM hS];exact xBM _) (zd _)
 refine ⟨A,?_,⟨a1.span,fun t=>?_⟩,a2⟩
 . have e:Iter (xa6 (S.map encP) ((k+1:Nat):Int)) ((0:Nat),(0:Int),[])=_:=e;have tt:List.take A.length (A.map encP)=A.map encP:=zi (by simp)
   unfold xew xmq;simp only [xlA,xlB,xlC,e,zk,zh,xaL,zH,za,zd,zn,zS,zr,tt,sUF]
 . rw [a1.done];by_cases h1:0<=t
   . by_cases h2:t<1099511627776
     . simp only [h1,h2,zn,Bool.true_and];rw [Bool.eq_iff_iff,zl,zl];omega
     . have:=h0 t (.inr (by omega));simp [h2,this]
   . have:=h0 t (.inl (by omega));simp [h1,this]
theorem xBR (p q:Per):decide (xk5 p.1 p.2 q.1 q.2<=0)=decide (cmpP p q<=0):=by
 rw [Bool.eq_iff_iff,zl,zl,xqr];unfold xk5;simp only [xbq,zS,sUF];by_cases h1:p.1=q.1
 . by_cases h2:p.2=q.2
   . simp [h1,h2]
   . by_cases h3:p.2<q.2
     . simp [h1,h2,h3];omega
     . simp [h1,h2,h3];omega
 . by_cases h3:p.1<q.1
   . simp [h1,h3]
   . simp [h1,h3]
theorem xwB (P:List Per) (hP:P.length<=1099511627775) (p:Per):∀ (d i:Nat),i+d=P.length->(∀ k (h:k<P.length),k<i->cmpP P[k] p<=0)->∃ m:Nat,m<=P.length/\(∀ k (h:k<P.length),k<m->cmpP P[k] p<=0)/\(∀ h:m<P.length,¬ cmpP P[m] p<=0) /\
  Iter (xcu (P.map encP)) (i,(i:Int),p.1,p.2,(P.take i).map encP)=some (m,(m:Int),p.1,p.2,(P.take m).map encP)
 | 0,i,h,hk=>by
  obtain rfl:i=P.length:=by omega
  refine ⟨P.length,zd _,hk,fun h=>by omega,xaN ?_⟩
  simp only [xcu,xf9,za,zy,zm,xaK,sUF]
 | d+1,i,h,hk=>by
  have hi:i<P.length:=by omega
  have i1:(i:Int)<(P.length:Int):=by omega
  have gf:(P.map encP).getD i .top=encP P[i]:=xaM _ _ _ hi;have tl:(P.take i).length=i:=by rw [zt];omega
  obtain ⟨m1,m2,_,_⟩:=xGO (n:=i) (by omega)
  have rc:=xBR P[i] p;by_cases hc:cmpP P[i] p<=0
  . rw [decide_eq_true hc] at rc;obtain ⟨m,a1,a2,a3,a4⟩:=xwB P hP p d (i+1) (by omega) (fun k h h1=>by
     by_cases e:k=i
     . subst e;exact hc
     . exact hk k h (by omega))
    refine ⟨m,a1,a2,a3,(xaT ?_).trans a4⟩;simp only [xcu,xf9,xhG,sBU,i1,hi,gf,cP0,cP1,lP,sP,sP0,sP1,rc,tl,m1,m2,xGa (n:=i) (by omega),aggP]
    rw [List.take_add_one,ze hi,zx];rfl
  . rw [decide_eq_false hc] at rc;refine ⟨i,by omega,hk,fun _=>hc,xaN ?_⟩
    simp only [xcu,xf9,xhG,sBU,i1,hi,gf,cP0,cP1,lP,sP,sP0,sP1,rc]
theorem xCI (P:List Per) (hP:P.length<=1099511627775) (p:Per) (hs:Sorted cmpP P):∃ P':List Per,xnX (P.map encP) p.1 p.2=some (P'.map encP)/\P'.Perm (p::P)/\Sorted cmpP P':=by
 obtain ⟨m,a1,a2,a3,a4⟩:=xwB P hP p P.length 0 (by omega) (fun k h h1=>by omega)
 refine ⟨P.take m++p::P.drop m,?_,?_,?_⟩
 . have a4:Iter (xcu (P.map encP)) ((0:Nat),(0:Int),p.1,p.2,[])=_:=a4;have tl:(P.take m).length=m:=by rw [zt];omega
   obtain ⟨m1,m2,_,_⟩:=xGO (n:=m) (by omega)
   have i1:(m:Int)<=(P.length:Int):=by omega
   have t1:List.take (P.length - m) (List.drop m (P.map encP))=(P.drop m).map encP:=by rw [zi (by simp),List.map_drop]
   have dl:(P.drop m).length=P.length - m:=y1;have m3:(m+1+(P.length - m))*16<=140737488355328:=by omega
   have m4:m+1+(P.length - m)<=4611686018427387904:=by omega
   have J:(P.take m).map encP++[encP p]++(P.drop m).map encP=(P.take m++p::P.drop m).map encP:=by simp
   have fl:((P.take m++p::P.drop m).map encP).length=m+1+(P.length - m):=by simp;omega
   have tt:List.take (m+1+(P.length - m)) ((P.take m++p::P.drop m).map encP)=(P.take m++p::P.drop m).map encP:=zi (by rw [fl];exact zd _)
   have ag:AV.agg [.int .i64 p.1,.int .i64 p.2]=encP p:=rfl;unfold xnX xoC;simp only [xhY,xnt,xnu,xhZ,xnv,xhx,xnw,xny,xnz,xnA,xmt,xmu,xmv,a4,sBU,ag,tl,t1,dl,m1,m2,m3,m4,i1,z8,zj,J,zd,zr];have l9:m+(p::P.drop m).length=m+1+(P.length - m):=by rw [zF,dl];omega
   simp only [za,l9,zd,zn,xaL,tt,sUF]
 . exact List.perm_middle.trans (by rw [List.take_append_drop])
 . refine List.pairwise_append.2 ⟨hs.sublist (List.take_sublist _ _),zM.2 ⟨fun q hq=>?_,hs.sublist (List.drop_sublist _ _)⟩,fun x hx y hy=>?_⟩
   . obtain ⟨j,hj,rfl⟩:=zp.1 hq;rw [y1] at hj;rw [List.getElem_drop];have h1:=a3 (by omega)
     have h2:cmpP p P[m]<=0:=by rw [xpL P[m] p];omega
     rcases Nat.eq_zero_or_pos j with rfl|O
     . exact h2
     . exact xCm.trans _ _ _ h2 (zB.1 hs m (m+j) (by omega) (by omega) (by omega))
   . obtain ⟨i,hi,rfl⟩:=List.mem_take_iff_getElem.1 hx;rcases zC.1 hy with rfl|hy
     . exact a2 i (by omega) (by omega)
     . obtain ⟨j,hj,rfl⟩:=zp.1 hy;rw [y1] at hj;rw [List.getElem_drop];exact zB.1 hs i (m+j) (by omega) (by omega) (by omega)
theorem xzs (l:List AV) (n:Int) (s:List Per) (hs:s.length<=1048576):∀ (d i:Nat) (out:List Per),i+d=s.length->Sorted cmpP out->out.length+d<=1099511627775->∃ q:List Per,Iter (xch l n (s.map encP)) (out.map encP,(i:Int))=some (q.map encP)/\q.Perm (out++s.drop i)/\Sorted cmpP q
 | 0,i,out,h,ho,hl=>by
  obtain rfl:i=s.length:=by omega
  refine ⟨out,xaN ?_,by rw [zq (zd _),zD],ho⟩
  simp only [xch,xhF,za,zy,zm,xaK,sUF]
 | d+1,i,out,h,ho,hl=>by
  have hi:i<s.length:=by omega
  have i1:(i:Int)<(s.length:Int):=by omega
  have gf:(s.map encP).getD i .top=encP s[i]:=xaM _ _ _ hi;obtain ⟨P',e1,p1,s1⟩:=xCI out (by omega) s[i] ho
  have pl:=p1.length_eq;rw [zF] at pl;obtain ⟨q,e2,p2,s2⟩:=xzs l n s hs d (i+1) P' (by omega) s1 (by omega)
  refine ⟨q,(xaT (s':=(P'.map encP,((i+1:Nat):Int))) ?_).trans e2,?_,s2⟩
  . simp only [xch,xhF,sBU,i1,hi,gf,cP0,cP1,lP,sP,sP0,sP1,e1,xGa (n:=i) (by omega)]
  . refine p2.trans ((p1.append_right _).trans ?_);rw [xa4 hi];exact List.perm_middle.symm
theorem xzr {S:List Per} (A:Nat->List Per) (C:Nat) (hC:C<=524289) (hA:∀ k,xew (S.map encP) ((k+1:Nat):Int)=some ((A k).map encP)/\(A k).length<=C) (H:Nat) (hH:H<=1048575) (hE:A H=[]):∀ (d k:Nat) (out:List Per),k+d=H->Sorted cmpP out->out.Perm ((List.range k).flatMap A) ->
  ∃ (K:Nat) (q:List Per),Iter (xcg (S.map encP)) (out.map encP,((k+1:Nat):Int))=some (true,(q.map encP,q.map encP),[])/\A K=[]/\K<=H/\q.Perm ((List.range K).flatMap A)/\Sorted cmpP q
 | d,k,out,h,ho,hp=>by
  obtain ⟨e1,l1⟩:=hA k;have n1:((k+1:Nat):Int)<=1048576:=by omega
  by_cases hk:A k=[]
  . refine ⟨k,out,xaN ?_,hk,by omega,hp,ho⟩
    rw [hk] at e1;simp only [xcg,xhE,n1,e1,zn,xaL,zk,zh,zW,sUF];rfl
  . match d,h with
    | 0,h =>
     obtain rfl:k=H:=by omega
     exact absurd hE hk
    | d+1,h =>
     have ol:out.length<=C*k:=by
      rw [hp.length_eq];have:=xjH (g:=A) (List.range k) fun j _=>(hA j).2
      rwa [List.length_range] at this
     have J:C*k<=524289*1048575:=Nat.mul_le_mul hC (by omega)
     obtain ⟨q,e2,p2,s2⟩:=xzs (S.map encP) ((k+1:Nat):Int) (A k) (by omega) (A k).length 0 out (by omega) ho (by omega)
     obtain ⟨K,o2,e3,k1,k2,p3,s3⟩:=xzr A C hC hA H hH hE d (k+1) q (by omega) s2 (by
      rw [List.range_succ,List.flatMap_append];rw [zr] at p2;refine p2.trans ((hp.append_right _).trans ?_);simp)
     refine ⟨K,o2,(xaT ?_).trans e3,k1,k2,p3,s3⟩;have ne:(((A k).length:Int)==0)=false:=by
      have:(A k).length≠0:=fun e=>hk (List.length_eq_zero_iff.1 e)
      simp;exact hk
     have e2:Iter (xch (S.map encP) ((k+1:Nat):Int) ((A k).map encP)) (out.map encP,(0:Int))=_:=e2;simp only [xcg,xhE,n1,e1,zn,xaL,xaK,zk,zh,za,ne,e2,xGa (n:=k+1) (by omega),sUF]
theorem xAs {N:Int->Nat} {H:Nat} (hH:H<=1048575) (hN:∀ t,N t<=H) (h0:∀ t,t<0\/1099511627776<=t->N t=0) {S:List Per} (hS:StepI (fun t=>(N t:Int)) 1099511627776 S) (hl:S.length<=524289):∃ P,xen (S.map encP)=some (P.map encP)/\IsLevs N P:=by
 have ha:=xES h0 hS hl;have hA:=fun k=>Classical.choose_spec (ha k)
 obtain ⟨A,q⟩:∃ A:Nat->List Per,A=fun k=>Classical.choose (ha k):=⟨_,rfl⟩
 have hA:∀ k,xew (S.map encP) ((k+1:Nat):Int)=some ((A k).map encP)/\(IsSpan (A k)/\∀ t,inL (A k) t=decide (k<N t))/\(A k).length<=S.length:=fun k=>by rw [q];exact hA k
 have hE:A H=[]:=xq2 (hA H).2.1.1 fun t=>by rw [(hA H).2.1.2];have:=hN t;simp;omega
 obtain ⟨K,P,e,k1,k2,p1,s1⟩:=xzr A S.length hl (fun k=>⟨(hA k).1,(hA k).2.2⟩) H hH hE H 0 [] (by omega) List.Pairwise.nil (by simp)
 refine ⟨P,?_,s1,A,K,fun t=>?_,fun k=>(hA k).2.1,p1⟩
 . have e:Iter (xcg (S.map encP)) ([],(1:Int))=_:=e;unfold xen xns;simp only [xmr,xms,e,zk,zh,xaL,sUF]
 . have:=(hA K).2.1.2 t;rw [k1,xlS] at this;have:=of_decide_eq_false this.symm;omega
def Tx (l:List Fc):Prop:=∀ f,f∈l->∀ v,v∈f.r->v.wf/\v.t.length<=1073741824
theorem xBA {r:Row} (h:∀ v,v∈r->v.wf/\v.t.length<=1073741824) (hl:r.length<=60):(keyOf r).length<=17592186044416:=by
 have:=xjH (g:=keyV) (c:=1073741890) r fun v hv=>by
  obtain ⟨h1,h2⟩:=h v hv;have:=xwn h1 (by omega);omega
 unfold keyOf;have h2:1073741890*r.length<=1073741890*60:=Nat.mul_le_mul_left _ hl;omega
theorem xFq {l:List Fc} (hl:l.length<=1024) (hr:∀ f,f∈l->f.r.length<=60) (ht:Tx l):Bld l :=
 ⟨⟨⟨by omega,fun f hf=>by have:=hr f hf;omega⟩,fun f hf=>⟨fun v hv=>⟨(ht f hf v hv).1,by have:=(ht f hf v hv).2;omega⟩,xBA (ht f hf) (hr f hf)⟩⟩,hl⟩
theorem xGo.all {l B:List Fc} (h:xGo l B) {Q:Row->Prop} (hq:∀ f,f∈l->Q f.r):∀ f,f∈B->Q f.r:=fun f hf=>by
 obtain ⟨_,g,hg,e⟩:=h.valid hf;rw [<-e];exact hq g hg
theorem xGH.all {l B:List Fc} (h:xGH l B) {Q:Row->Prop} (hq:∀ f,f∈l->Q f.r):∀ f,f∈B->Q f.r:=fun f hf=>by
 obtain ⟨R,L,h1,h2,rfl⟩:=h;obtain ⟨a,b⟩:=xuS hf;obtain ⟨g,g1,g2,_⟩:=(h1.2 _).1 a;rw [<-g2];exact hq g g1
theorem xGH.len {l B:List Fc} (h:xGH l B):B.length<=l.length*l.length:=by
 obtain ⟨R,L,h1,h2,rfl⟩:=h;refine xrM (h1.1.nodup xpX) fun r hr=>?_
 obtain ⟨a,b⟩:=h2 r hr;have:=xzf (ps:=psOf l r) (k:=0) a fun t=>by rw [b,xtY]
 exact Nat.le_trans this (Nat.le_mul_self _)
def dk (S:List Row):Nat->List Row
 | 0=>[]
 | k+1=>dk S k++(if k=0\/S[k - 1]?≠S[k]? then S[k]?.toList else [])
theorem xv8 (S:List Row):∀ k,(dk S k).length<=k
 | 0=>zd _
 | k+1=>by
  have:=xv8 S k;unfold dk;rw [z8];have:(if k=0\/S[k - 1]?≠S[k]? then S[k]?.toList else []).length<=1:=by
   split
   . cases S[k]?<;>simp
   . simp
  omega
theorem xDq (S:List Row) (hs:Sorted cmpR S):∀ k,k<=S.length->Strict cmpR (dk S k)/\∀ x,x∈dk S k↔x∈S.take k
 | 0,_=>⟨List.Pairwise.nil,fun x=>by simp [dk]⟩
 | k+1,hk=>by
  obtain ⟨h1,h2⟩:=xDq S hs k (by omega)
  have J:k<S.length:=by omega
  have tk:S.take (k+1)=S.take k++[S[k]]:=by rw [List.take_add_one,ze J];rfl
  unfold dk;rw [ze J,tk];by_cases hc:k=0\/S[k - 1]?≠some S[k]
  . rw [if_pos hc];refine ⟨List.pairwise_append.2 ⟨h1,List.pairwise_singleton _ _,fun x hx y hy=>?_⟩,fun x=>by rw [zG,zG,h2];rfl⟩
    simp at hy;subst hy;obtain ⟨i,hi,rfl⟩:=List.mem_take_iff_getElem.1 ((h2 x).1 hx);have O:k≠0:=by omega
    have q:k - 1<S.length:=by omega
    have hne:S[k - 1]≠S[k]:=fun e=>by
     rcases hc with hc|hc
     . exact O hc
     . exact hc (by rw [ze q,e])
    have c1:cmpR S[k - 1] S[k]<=0:=zB.1 hs _ _ q J (by omega)
    have c2:cmpR S[k - 1] S[k]<0:=by
     rcases Int.lt_or_eq_of_le c1 with c|c
     . exact c
     . exact absurd (xlO c) hne
    rcases zJ i (k - 1) with Q|Q
    . have c3:cmpR S[i] S[k - 1]<=0:=zB.1 hs _ _ (by omega) q Q
      exact xpX.lt2 c3 c2
    . have:i=k - 1:=by omega
      subst this;exact c2
  . rw [if_neg hc,zD];refine ⟨h1,fun x=>?_⟩
    rw [h2,zG,zv];refine ⟨Or.inl,fun hh=>hh.elim id fun hx=>?_⟩
    have O:k≠0:=fun e=>hc (.inl e)
    have he:S[k - 1]?=some S[k]:=by
     by_cases e:S[k - 1]?=some S[k]
     . exact e
     . exact absurd (.inr e) hc
    have q:k - 1<S.length:=by omega
    rw [ze q,z6] at he;rw [hx,<-he];exact List.mem_take_iff_getElem.2 ⟨k - 1,by omega,rfl⟩
theorem xG7 {n:Nat} (h:n<=1048576):(n+1)*24<=140737488355328/\n+1<=4611686018427387904:=by omega
theorem xyk (S:List Row) (hS:S.length<=1048576) (hr:∀ x,x∈S->x.length<=maxLen):Iter (xbQ (S.map encR)) ((0:Nat),(0:Int),[])=some ((dk S S.length).length,(dk S S.length).map encR):=by
 refine xjJ (fun k=>(((dk S k).length,((k:Nat):Int),(dk S k).map encR):Nat×Int×List AV)) S.length _ (fun k hk=>?_) ?_ S.length 0 (by omega)
 . have i1:(k:Int)<(S.length:Int):=by omega
   have gf:(S.map encR).getD k .top=encR S[k]:=xaM _ _ _ hk;have dl:=xv8 S k;obtain ⟨m1,m2⟩:=xG7 (n:=(dk S k).length) (by omega)
   cases k with
   | zero =>
    have:dk S (0+1)=[S[0]]:=by simp [dk,ze hk]
    rw [this];have i0:(((0:Nat):Int)==0)=true:=rfl;simp only [xbQ,xeG,xd8,xfK,xfL,xfM,sBU,hk,i0,i1,gf,cR0,sR0,m1,m2,xGa (n:=0) (by omega)]
    rfl
   | succ j =>
    have hj:j<S.length:=by omega
    have i0:(((j+1:Nat):Int)==0)=false:=by simp;omega
    have i2:(j:Int)<(S.length:Int):=by omega
    have gj:(S.map encR).getD j .top=encR S[j]:=xaM _ _ _ hj;have ee:=xFj S[j] S[j+1] (hr _ (zo hj));have wj:IntKind.i64.wrap (((j+1:Nat):Int) - 1)=(j:Int):=by rw [xc5 (by omega) (by omega)];omega
    have sd:dk S (j+1+1)=dk S (j+1)++(if S[j]=S[j+1] then [] else [S[j+1]]):=by
     show dk S (j+1)++_=_;congr 1;rw [show j+1 - 1=j by omega,ze hj,ze hk]
     by_cases e:S[j]=S[j+1]
     . simp [e]
     . simp [e]
    rw [sd];simp only [xbQ,xeG,xd8,xfK,xfL,xfM,sBU,hk,hj,i0,i1,i2,gf,gj,cR0,sR0,ee,wj,cmp0,m1,m2,xGa (n:=j+1) (by omega)]
    by_cases e:S[j]=S[j+1]
    . simp [e,xaK,sUF]
    . simp [e,xaL,encR,sUF]
 . simp only [xbQ,xeG,xd8,za,zy,zm,xaK,sUF]
theorem xyl (l:List Row) (h:xGv l):∃ D,xnB (l.map encR)=some (D.map encR)/\Strict cmpR D/\(∀ x,x∈D↔x∈l)/\D.length<=l.length:=by
 obtain ⟨S,e1,p1,s1⟩:=xCx l h;have hS:=h.perm p1;obtain ⟨a1,a2⟩:=xDq S s1 S.length (zd _);have e2:=xyk S hS.1 (fun x hx=>by have:=hS.2 x hx;unfold maxLen;omega)
 refine ⟨dk S S.length,?_,a1,fun x=>by rw [a2,y4,p1.mem_iff],by rw [<-p1.length_eq];exact xv8 _ _⟩
 have tt:List.take (dk S S.length).length ((dk S S.length).map encR)=(dk S S.length).map encR:=zi (by simp)
 unfold xnB xlD;simp only [xkC,xkD,xkE,e1,e2,zk,zh,xaL,zH,za,zd,zn,zS,zr,tt,sUF]
def cF (f g:Fc):Int:=cmpR f.r g.r
theorem xCl:Cm cF:=xpX.on (e:=fun f:Fc=>f.r)
theorem xz1 (a b:List Fc) (ha:a.length+b.length<=1048576) (Z:∀ x,x∈a->x.r.length<=1048576) (V:∀ x,x∈b->x.r.length<=1048576) (sa:Sorted cF a) (sb:Sorted cF b) :
  ∀ (n i k:Nat) (D:List Fc),(a.length - i)+(b.length - k)=n->i<=a.length->k<=b.length->D.length=i+k ->
   ∃ r,Iter (xbp (List.map encF a) (List.map encF b)) (D.length,(i:Int),(k:Int),List.map encF D)=some (a.length+b.length,List.map encF (D++r))/\r.Perm (a.drop i++b.drop k)/\Sorted cF r:=by
 intro n;induction n with
 | zero =>
  intro i k D hn hi hk hD;have h1:¬ (i:Int)<(a.length:Int):=by omega
  have h2:¬ (k:Int)<(b.length:Int):=by omega
  refine ⟨[],xaN ?_,?_,by simp [Sorted]⟩
  . simp only [xbp,xdz,xcz,xcA,xcB,xea,xeb,xec,xc3,xc4,  za,xbq,h1,h2,zm,zT,if_false,zD,sUF];rw [show D.length=a.length+b.length by omega]
  . rw [zq (by omega),zq (by omega)];exact List.Perm.refl _
 | succ n ih =>
  intro i k D hn hi hk hD;have Y:(List.map encF D).length=D.length:=by simp
  have m1:(D.length+1)*40<=140737488355328:=by omega
  have m2:D.length+1<=4611686018427387904:=by omega
  have snoc:∀ x:Fc,List.map encF D++[AV.agg [AV.list 3 (x.r.map encV),AV.int .i64 x.p.1,AV.int .i64 x.p.2]]=List.map encF (D++[x]):=fun x=>by simp [encF]
  have wi:=xnP (n:=i) (show i+1<=maxLen by unfold maxLen;omega)
  have wk:=xnP (n:=k) (show k+1<=maxLen by unfold maxLen;omega)
  by_cases J:i<a.length
  . have i1:(i:Int)<(a.length:Int):=by omega
    have i2:((i:Int)==(a.length:Int))=false:=by simp;omega
    have hx:a[i]?=some a[i]:=by simp [J]
    by_cases q:k<b.length
    . have k1:(k:Int)<(b.length:Int):=by omega
      have hy:b[k]?=some b[k]:=by simp [q]
      have e:=xnM b[k].r a[i].r (by have:=V b[k] (zo q);unfold maxLen;omega)
      by_cases hc:cmpR b[k].r a[i].r<0
      . obtain ⟨r,h1,h2,h3⟩:=ih i (k+1) (D++[b[k]]) (by omega) hi (by omega) (by simp;omega)
        refine ⟨b[k]::r,?_,?_,?_⟩
        . refine xaY (s':=((D++[b[k]]).length,(i:Int),((k+1:Nat):Int),List.map encF (D++[b[k]]))) ?_ (by rw [h1];simp)
          simp only [xbp,xdz,xcz,xcA,xcB,xea,xeb,xec,xc3,xc4,  za,xbq,i1,i2,k1,J,q,zn,zT,if_false,if_true,zN,gR hx,gR hy,cF0,cF1,cF2,sF0,sF1,sF2,lF,sF12,sF02,e,zk,zh,hc,Int.natCast_nonneg,zS,beq_self_eq_true,m1,m2,snoc,wk,sUF];simp
        . rw [xa4 q];exact (h2.cons _).trans List.perm_middle.symm
        . refine zM.2 ⟨fun z hz=>?_,h3⟩
          rcases zG.1 (h2.mem_iff.1 hz) with hz|hz
          . rw [xa4 J] at hz;rcases zC.1 hz with rfl|hz
            . exact Int.le_of_lt hc
            . obtain ⟨j,hj,rfl⟩:=zp.1 hz;have Q:i+1+j<a.length:=by simp at hj;omega
              have:=xbh sa (i:=i) (j:=i+1+j) (by omega) Q
              rw [List.getElem_drop];exact xCl.trans _ _ _ (Int.le_of_lt hc) this
          . obtain ⟨j,hj,rfl⟩:=zp.1 hz;have O:k+1+j<b.length:=by simp at hj;omega
            rw [List.getElem_drop];exact xbh sb (i:=k) (j:=k+1+j) (by omega) O
      . obtain ⟨r,h1,h2,h3⟩:=ih (i+1) k (D++[a[i]]) (by omega) (by omega) hk (by simp;omega)
        refine ⟨a[i]::r,?_,?_,?_⟩
        . refine xaY (s':=((D++[a[i]]).length,((i+1:Nat):Int),(k:Int),List.map encF (D++[a[i]]))) ?_ (by rw [h1];simp)
          simp only [xbp,xdz,xcz,xcA,xcB,xea,xeb,xec,xc3,xc4,  za,xbq,i1,i2,k1,J,q,zn,zT,if_false,if_true,zN,gR hx,gR hy,cF0,cF1,cF2,sF0,sF1,sF2,lF,sF12,sF02,e,zk,zh,hc,zm,Int.natCast_nonneg,zS,beq_self_eq_true,m1,m2,snoc,wi,sUF];simp
        . rw [xa4 J];exact h2.cons _
        . refine zM.2 ⟨fun z hz=>?_,h3⟩
          have U:cF a[i] b[k]<=0:=xCl.ord.le_of_not hc;rcases zG.1 (h2.mem_iff.1 hz) with hz|hz
          . obtain ⟨j,hj,rfl⟩:=zp.1 hz;have Q:i+1+j<a.length:=by simp at hj;omega
            rw [List.getElem_drop];exact xbh sa (i:=i) (j:=i+1+j) (by omega) Q
          . rw [xa4 q] at hz;rcases zC.1 hz with rfl|hz
            . exact U
            . obtain ⟨j,hj,rfl⟩:=zp.1 hz;have O:k+1+j<b.length:=by simp at hj;omega
              rw [List.getElem_drop];exact xCl.trans _ _ _ U (xbh sb (i:=k) (j:=k+1+j) (by omega) O)
    . have k1:¬ (k:Int)<(b.length:Int):=by omega
      obtain ⟨r,h1,h2,h3⟩:=ih (i+1) k (D++[a[i]]) (by omega) (by omega) hk (by simp;omega)
      refine ⟨a[i]::r,?_,?_,?_⟩
      . refine xaY (s':=((D++[a[i]]).length,((i+1:Nat):Int),(k:Int),List.map encF (D++[a[i]]))) ?_ (by rw [h1];simp)
        simp only [xbp,xdz,xcz,xcA,xcB,xea,xeb,xec,xc3,xc4,  za,xbq,i1,i2,k1,J,zn,zm,zT,if_false,if_true,zN,gR hx,cF0,cF1,cF2,sF0,sF1,sF2,lF,sF12,sF02,Int.natCast_nonneg,zS,beq_self_eq_true,m1,m2,snoc,wi,sUF];simp
      . rw [xa4 J];exact h2.cons _
      . refine zM.2 ⟨fun z hz=>?_,h3⟩
        rw [zq (show b.length<=k by omega),zD] at h2
        obtain ⟨j,hj,rfl⟩:=zp.1 (h2.mem_iff.1 hz);have Q:i+1+j<a.length:=by simp at hj;omega
        rw [List.getElem_drop];exact xbh sa (i:=i) (j:=i+1+j) (by omega) Q
  . have i1:¬ (i:Int)<(a.length:Int):=by omega
    have q:k<b.length:=by omega
    have k1:(k:Int)<(b.length:Int):=by omega
    have i2:((i:Int)==(a.length:Int))=true:=by simp;omega
    have hy:b[k]?=some b[k]:=by simp [q]
    obtain ⟨r,h1,h2,h3⟩:=ih i (k+1) (D++[b[k]]) (by omega) hi (by omega) (by simp;omega)
    refine ⟨b[k]::r,?_,?_,?_⟩
    . refine xaY (s':=((D++[b[k]]).length,(i:Int),((k+1:Nat):Int),List.map encF (D++[b[k]]))) ?_ (by rw [h1];simp)
      simp only [xbp,xdz,xcz,xcA,xcB,xea,xeb,xec,xc3,xc4,  za,xbq,i1,i2,k1,q,zn,zm,zT,if_false,if_true,zN,gR hy,cF0,cF1,cF2,sF0,sF1,sF2,lF,sF12,sF02,Int.natCast_nonneg,zS,beq_self_eq_true,m1,m2,snoc,wk,sUF];simp
    . rw [xa4 q];exact (h2.cons _).trans List.perm_middle.symm
    . refine zM.2 ⟨fun z hz=>?_,h3⟩
      rw [zq (show a.length<=i by omega),zU] at h2
      obtain ⟨j,hj,rfl⟩:=zp.1 (h2.mem_iff.1 hz);have O:k+1+j<b.length:=by simp at hj;omega
      rw [List.getElem_drop];exact xbh sb (i:=k) (j:=k+1+j) (by omega) O
theorem xz2 (a b:List Fc) (ha:a.length+b.length<=1048576) (J:∀ x,x∈a->x.r.length<=1048576) (q:∀ x,x∈b->x.r.length<=1048576) (sa:Sorted cF a) (sb:Sorted cF b) :
  ∃ r,xpA (a.map encF) (b.map encF)=some (r.map encF)/\r.Perm (a++b)/\Sorted cF r:=by
 obtain ⟨r,h1,h2,h3⟩:=xz1 a b ha J q sa sb _ 0 0 [] rfl (zQ _) (zQ _) rfl;simp only [zr,zU] at h1 h2;have h1':Iter (xbp (a.map encF) (b.map encF)) (0,(0:Int),(0:Int),[])=some (r.length,r.map encF):=by
  rw [h2.length_eq,z8];exact h1
 refine ⟨r,?_,h2,h3⟩;unfold xpA xnH;simp only [xmR,xmS,xmT,xmU,h1',sOO,sUF]
theorem xyn:∀ (f:Nat) (l:List Fc),l.length<=2 ^ f->Few l->∃ r,xbL (f+1) (List.map encF l)=some (List.map encF r)/\r.Perm l/\Sorted cF r:=by
 intro f;induction f with
 | zero =>
  intro l hl hs;have h1:(l.length:Int)<2:=by simp at hl;omega
  refine ⟨l,?_,List.Perm.refl _,?_⟩
  . show xcl (xbL 0) (List.map encF l)=_;simp only [xcl,xfg,za,h1,zn,xaL,sUF]
  . match l,hl with
    | [],_=>exact List.Pairwise.nil
    | [x],_=>exact List.pairwise_singleton _ _
 | succ f ih =>
  intro l hl hs;by_cases h2:l.length<=1
  . have h1:(l.length:Int)<2:=by omega
    refine ⟨l,?_,List.Perm.refl _,?_⟩
    . show xcl (xbL (f+1)) (List.map encF l)=_;simp only [xcl,xfg,za,h1,zn,xaL,sUF]
    . match l,h2 with
      | [],_=>exact List.Pairwise.nil
      | [x],_=>exact List.pairwise_singleton _ _
  . have hp:2 ^ (f+1)=2*2 ^ f:=by rw [Nat.pow_succ];omega
    have q:=hs.1;obtain ⟨m,hm⟩:∃ m,m=l.length / 2:=⟨_,rfl⟩;have st:Few (l.take m):=⟨by simp;omega,fun x hx=>hs.2 x (List.mem_of_mem_take hx)⟩
    have sd:Few (l.drop m):=⟨by simp;omega,fun x hx=>hs.2 x (List.mem_of_mem_drop hx)⟩
    obtain ⟨r1,e1,p1,s1⟩:=ih (l.take m) (by simp;omega) st
    obtain ⟨r2,e2,p2,s2⟩:=ih (l.drop m) (by simp;omega) sd
    have l1:=p1.length_eq;have l2:=p2.length_eq;simp only [zt,y1] at l1 l2;obtain ⟨r,a1,a3,a4⟩:=xz2 r1 r2 (by omega) (fun x hx=>st.2 x (p1.mem_iff.1 hx)) (fun x hx=>sd.2 x (p2.mem_iff.1 hx)) s1 s2
    refine ⟨r,?_,a3.trans ((p1.append p2).trans (by rw [List.take_append_drop])),a4⟩
    have w:IntKind.i64.wrap ((l.length:Int).tdiv 2)=(m:Int):=by
     rw [Int.tdiv_eq_ediv_of_nonneg (by omega)]
     exact w64 (by omega) (by omega)
    have t1:List.take m (List.map encF l)=List.map encF (l.take m):=by simp
    have t2:List.take (l.length - m) (List.drop m (List.map encF l))=List.map encF (l.drop m):=by
     rw [zi (by simp)];simp
    have d0:¬ (l.length:Int)<2:=by omega
    have d2:(m:Int)<=(l.length:Int):=by omega
    show xcl (xbL (f+1)) (List.map encF l)=_;simp only [xcl,xfg,xlF,xlG,xlH,  za,d0,xaK,w,zN,Nat.sub_zero,zr,t1,t2,e1,e2,zk,zh,xaL,d2,zn,zm,Int.natCast_nonneg,zS,a1,sUF]
theorem xCZ (l:List Fc) (h:Few l):∃ D,xo2 (l.map encF)=some (D.map encR)/\xGn l D:=by
 have e0:=xrX l h.1;have hf:(l.flatMap fun f=>if pv f.p=true then [f.r] else []).length<=1*l.length:=xjH l fun f _=>by split<;>simp
 have hm:∀ x,x∈(l.flatMap fun f=>if pv f.p=true then [f.r] else [])↔∃ f,f∈l/\f.r=x/\pv f.p=true:=fun x=>by
  rw [y3];constructor
  . rintro ⟨f,hf,hx⟩;split at hx
    . simp at hx;exact ⟨f,hf,hx.symm,by assumption⟩
    . simp at hx
  . rintro ⟨f,hf,e,hv⟩;exact ⟨f,hf,by rw [if_pos hv];simp [e]⟩
 have q:xGv (l.flatMap fun f=>if pv f.p=true then [f.r] else []):=⟨by have:=h.1;omega,fun x hx=>by
  obtain ⟨f,hf,e,_⟩:=(hm x).1 hx;rw [<-e];exact h.2 f hf⟩
 obtain ⟨D,d1,d2,d3,d4⟩:=xyl _ q;refine ⟨D,?_,d2,fun r=>by rw [d3,hm]⟩
 generalize (l.flatMap fun f=>if pv f.p=true then [f.r] else [])=w at e0 d1
 have tt:List.take w.length (w.map encR)=w.map encR:=zi (by simp)
 unfold xo2 xpz;simp only [xoE,xoF,xoG,xoH,e0,zk,zh,xaL,zH,za,zd,zn,zS,zr,tt,d1,sUF]
theorem xzu (S:List Fc) (hS:S.length<=1048576) (hr:∀ f,f∈S->f.r.length<=maxLen) (on i:Nat) (hi:i<S.length) (xs:List AV):∀ (d k:Nat),k+d=S.length->i<=k->∃ j:Nat,k<=j/\j<=S.length/\(∀ t (h:t<S.length),k<=t->t<j->S[t].r=S[i].r)/\(∀ h:j<S.length,S[j].r≠S[i].r) /\
  Iter (xbK (S.map encF) on (i:Int)) ((k:Int),xs)=some ((j:Int),xs)
 | 0,k,h,hik=>by
  obtain rfl:k=S.length:=by omega
  refine ⟨S.length,zd _,zd _,fun t h1 h2 h3=>by omega,fun h=>by omega,xaN ?_⟩
  simp only [xbK,xfA,za,zy,zm,xaK,sUF]
 | d+1,k,h,hik=>by
  have hk:k<S.length:=by omega
  have i1:(k:Int)<(S.length:Int):=by omega
  have i2:(i:Int)<(S.length:Int):=by omega
  have gk:(S.map encF).getD k .top=encF S[k]:=xaM _ _ _ hk;have gi:(S.map encF).getD i .top=encF S[i]:=xaM _ _ _ hi;have ec:=xnM S[k].r S[i].r (hr _ (zo hk));by_cases he:S[k].r=S[i].r
  . obtain ⟨j,a1,a2,a3,a4,a5⟩:=xzu S hS hr on i hi xs d (k+1) (by omega) (by omega)
    refine ⟨j,by omega,a2,fun t h1 h2 h3=>?_,a4,(xaT (s':=(((k+1:Nat):Int),xs)) ?_).trans a5⟩
    . by_cases q:t=k
      . subst q;exact he
      . exact a3 t h1 (by omega) h3
    . have dd:decide (S[k].r=S[i].r)=true:=decide_eq_true he;simp only [xbK,xfA,sBU,i1,i2,hk,hi,gk,gi,cF0,cF1,cF2,sF0,sF1,sF2,lF,sF12,sF02,ec,cmp0,dd,xGa (n:=k) (by omega)]
  . refine ⟨k,zd _,by omega,fun t h1 h2 h3=>by omega,fun _=>he,xaN ?_⟩
    simp only [xbK,xfA,sBU,i1,i2,hk,hi,gk,gi,cF0,cF1,cF2,sF0,sF1,sF2,lF,sF12,sF02,ec,cmp0,he,zm]
structure RGI (S:List Fc) (i:Nat) (G:List Grp):Prop where
 st:Strict cmpR (G.map (·.1))
 mem:∀ r,r∈G.map (·.1)↔∃ f,f∈S.take i/\f.r=r/\pv f.p=true
 ps:∀ g,g∈G->StepI (fun t=>((cnt S g.1 t:Nat):Int)) 1099511627776 g.2/\g.2.length<=2*S.length+1
 len:G.length<=i
 bd:∀ a b (ha:a<S.length) (hb:b<S.length),a<i->i<=b->cmpR S[a].r S[b].r<0
theorem xG8 {n:Nat} (h:n<=1048576):(n+1)*48<=140737488355328/\n+1<=4611686018427387904:=by omega
theorem xuY (S:List Fc) (hS:S.length<=262144) (hr:∀ f,f∈S->f.r.length<=1048576) (hs:Sorted cF S):∀ (c i:Nat) (G:List Grp),S.length - i<=c->i<=S.length->RGI S i G ->
  ∃ G',Iter (xdf (S.map encF)) (G.length,(i:Int),G.map encG)=some (G'.length,G'.map encG)/\RGI S S.length G'
 | c,i,G,hc,hi,hG=>by
  by_cases ac:i=S.length
  . subst ac;refine ⟨G,xaN ?_,hG⟩;simp only [xdf,xhJ,za,zy,zm,xaK,sUF]
  . have O:i<S.length:=by omega
    obtain ⟨j,a1,a2,a3,a4,a5⟩:=xzu S (by omega) (fun f hf=>by have:=hr f hf;unfold maxLen;omega) G.length i O (G.map encG) (S.length - i) i (by omega) (zd _)
    have af:i<j:=by
     rcases zJ i j with h|h
     . exact h
     . obtain rfl:j=i:=by omega
       exact absurd rfl (a4 O)
    have run_mem:∀ f,f∈(S.drop i).take (j - i)↔∃ t,∃ h:t<S.length,i<=t/\t<j/\S[t]=f:=fun f=>by
     rw [List.mem_take_iff_getElem];constructor
     . rintro ⟨m,hm,rfl⟩;rw [y1] at hm;exact ⟨i+m,by omega,by omega,by omega,by rw [List.getElem_drop]⟩
     . rintro ⟨t,h,h1,h2,rfl⟩;refine ⟨t - i,by rw [y1];omega,?_⟩
       rw [List.getElem_drop];congr 1;omega
    have run_row:∀ f,f∈(S.drop i).take (j - i)->f.r=S[i].r:=fun f hf=>by
     obtain ⟨t,h,h1,h2,rfl⟩:=(run_mem f).1 hf;exact a3 t h h1 h2
    have Y:S.take j=S.take i++(S.drop i).take (j - i):=by
     rw [show j=i+(j - i) by omega,List.take_add,Nat.add_sub_cancel_left]
    have Q:S=S.take i++((S.drop i).take (j - i)++S.drop j):=by
     rw [<-zw,<-Y,List.take_append_drop]
    have rl:((S.drop i).take (j - i)).length=j - i:=by rw [zt,y1];omega
    have J:∀ f,f∈S.take i->cmpR f.r S[i].r<0:=fun f hf=>by
     obtain ⟨t,ht,rfl⟩:=List.mem_take_iff_getElem.1 hf;exact hG.bd t i (by omega) O (by omega) (zd _)
    have q:∀ t (h:t<S.length),j<=t->cmpR S[i].r S[t].r<0:=fun t h ag=>by
     have hj:j<S.length:=by omega
     have c1:cmpR S[i].r S[j].r<=0:=zB.1 hs i j O hj af;have c2:cmpR S[i].r S[j].r<0:=by
      rcases Int.lt_or_eq_of_le c1 with c|c
      . exact c
      . exact absurd (xlO c).symm (a4 hj)
     rcases zJ j t with h1|h1
     . have c3:cmpR S[j].r S[t].r<=0:=zB.1 hs j t hj h h1;exact xpX.lt1 c2 c3
     . obtain rfl:t=j:=by omega
       exact c2
    have no_other:∀ (l:List Fc) (ρ:Row) (t:Int),(∀ f,f∈l->f.r≠ρ)->cnt l ρ t=0:=fun l ρ t h=>by
     unfold cnt;rw [List.countP_eq_zero];intro f hf hh;simp only [zf,zl] at hh;exact h f hf hh.1
    have ne_of:∀ x y:Row,cmpR x y<0->x≠y:=fun x y h e=>by subst e;rw [xrC] at h;omega
    have Z:∀ t,cnt ((S.drop i).take (j - i)) S[i].r t=cnt S S[i].r t:=fun t=>by
     have e:cnt S S[i].r t=cnt (S.take i++((S.drop i).take (j - i)++S.drop j)) S[i].r t:=by rw [<-Q]
     rw [e,xtv,xtv,no_other (S.take i) _ t (fun f hf=>ne_of _ _ (J f hf)),no_other (S.drop j) _ t (fun f hf=>by
      obtain ⟨m,hm,rfl⟩:=zp.1 hf;rw [y1] at hm;rw [List.getElem_drop];exact fun e=>ne_of _ _ (q (j+m) (by omega) (by omega)) e.symm)]
     omega
    have U:Few ((S.drop i).take (j - i)):=⟨by omega,fun f hf=>hr f (List.mem_of_mem_drop (List.mem_of_mem_take hf))⟩
    obtain ⟨D,d1,d2,d3⟩:=xCZ _ U;obtain ⟨St,s1,s2,s3⟩:=xAi ((S.drop i).take (j - i)) S[i].r (fun f hf=>by have:=U.2 f hf;unfold maxLen;omega) (by omega)
    have s2:StepI (fun t=>((cnt S S[i].r t:Nat):Int)) 1099511627776 St:=by
     have e:(fun t=>((cnt ((S.drop i).take (j - i)) S[i].r t:Nat):Int))=fun t=>((cnt S S[i].r t:Nat):Int):=funext fun t=>by rw [Z]
     rwa [e] at s2
    have tS:List.take (j - i) (List.drop i (S.map encF))=((S.drop i).take (j - i)).map encF:=by rw [<-List.map_drop,<-List.map_take]
    have hD:D=[]\/D=[S[i].r]:=by
     match D,d2,d3 with
     | [],_,_=>exact .inl rfl
     | [x],_,h=>right;obtain ⟨f,hf,e,_⟩:=(h x).1 (by simp);rw [<-e,run_row f hf]
     | x::y::t,h1,h =>
      obtain ⟨f,hf,e,_⟩:=(h x).1 (by simp)
      obtain ⟨g,hg,e',_⟩:=(h y).1 (by simp)
      have:cmpR x y<0:=(zM.1 h1).1 y (by simp)
      rw [<-e,<-e',run_row f hf,run_row g hg,xrC] at this;omega
    have ah:=hG.len;obtain ⟨m1,m2⟩:=xG8 (n:=G.length) (by omega)
    have nx:RGI S j (G++D.map fun ρ=>(ρ,St)):=by
     refine ⟨?_,fun r=>?_,fun g hg=>?_,?_,fun a b ha hb ab aa=>?_⟩
     . rw [zx];refine List.pairwise_append.2 ⟨hG.st,?_,fun x hx y hy=>?_⟩
       . rcases hD with rfl|rfl
         . exact List.Pairwise.nil
         . exact List.pairwise_singleton _ _
       . obtain ⟨f,hf,e,_⟩:=(hG.mem x).1 hx;rcases hD with rfl|rfl
         . simp at hy
         . simp at hy;subst hy;rw [<-e];exact J f hf
     . rw [zx,zG,hG.mem,Y];have e:r∈(D.map fun ρ=>(ρ,St)).map (·.1)↔r∈D:=by simp
       rw [e,d3];constructor
       . rintro (⟨f,hf,h⟩|⟨f,hf,h⟩)
         . exact ⟨f,zG.2 (.inl hf),h⟩
         . exact ⟨f,zG.2 (.inr hf),h⟩
       . rintro ⟨f,hf,h⟩;rcases zG.1 hf with hf|hf
         . exact .inl ⟨f,hf,h⟩
         . exact .inr ⟨f,hf,h⟩
     . rcases zG.1 hg with hg|hg
       . exact hG.ps g hg
       . obtain ⟨ρ,hρ,rfl⟩:=zK.1 hg;rcases hD with rfl|rfl
         . simp at hρ
         . simp at hρ;subst hρ;exact ⟨s2,by rw [rl] at s3;dsimp only;omega⟩
     . rw [z8,za];rcases hD with rfl|rfl<;>simp<;>omega
     . rcases zJ a i with V|V
       . exact hG.bd a b ha hb V (by omega)
       . rw [a3 a ha V ab];exact q b hb aa
    obtain ⟨G',e',ad⟩:=xuY S hS hr hs (c - 1) j _ (by omega) a2 nx
    refine ⟨G',(xaT ?_).trans e',ad⟩;have i1:(i:Int)<(S.length:Int):=by omega
    have i2:(j:Int)<=(S.length:Int):=by omega
    have i3:(i:Int)<=(j:Int):=by omega
    have ae:Iter (xdg (S.map encF) (i:Int) (j:Int) (D.map encR)) (G.length,(0:Int),G.map encG)=some ((G++D.map fun ρ=>(ρ,St)).length,(G++D.map fun ρ=>(ρ,St)).map encG):=by
     rcases hD with rfl|rfl
     . refine xaN ?_;have z:¬ (0:Int)<(([]:List AV).length:Int):=by simp
       simp only [xdg,xfB,zW,z,zm,xaK,zD,sUF]
     . have z0:(0:Int)<(1:Int):=by omega
       have g0:([S[i].r].map encR).getD 0 .top=encR S[i].r:=rfl;have w1:IntKind.i64.wrap ((0:Int)+1)=1:=rfl;refine (xaT (s':=((G++[(S[i].r,St)]).length,(1:Int),(G++[(S[i].r,St)]).map encG)) ?_).trans (xaN ?_)
       . have l1:(([S[i].r]:List Row).length:Int)=1:=rfl;have z1:(0:Int)<=0:=by omega
         have z2:(0:Nat)<([S[i].r]:List Row).length:=by simp
         have z3:(0:Int).toNat=0:=rfl;simp only [xdg,xfB,sBU,l1,z0,z1,z2,z3,g0,cR0,sR0,i2,i3,tS,s1,m1,m2,w1];simp [encG]
       . have l1:¬ (1:Int)<(([encR S[i].r]:List AV).length:Int):=by simp
         simp only [xdg,xfB,zV,zW,l1,zm,xaK,sUF]
    simp only [xdf,xhJ,xjW,xjX,xca,sBU,i1,i2,i3,a5,tS,d1,ae]
theorem xAr (l:List Fc) (h:Few l) (hl:l.length<=262144):∃ G:List Grp,xjV (l.map encF)=some (G.map encG)/\xGn l (G.map (·.1))/\(∀ g,g∈G->StepI (fun t=>((cnt l g.1 t:Nat):Int)) 1099511627776 g.2/\g.2.length<=2*l.length+1)/\G.length<=l.length:=by
 obtain ⟨S,e1,p1,s1⟩:=xyn 99 l (Nat.le_trans h.1 (Nat.le_trans (show 1048576<=2 ^ 20 by omega) (Nat.pow_le_pow_right (by omega) (by omega)))) h
 have q:=p1.length_eq;obtain ⟨G,e2,hG⟩:=xuY S (by omega) (fun f hf=>h.2 f (p1.mem_iff.1 hf)) s1 S.length 0 [] (by omega) (by omega) ⟨List.Pairwise.nil,fun r=>by simp,fun g hg=>by simp at hg,zd _,fun a b ha hb h1 h2=>by omega⟩
 refine ⟨G,?_,⟨hG.st,fun r=>?_⟩,fun g hg=>?_,by rw [<-q];exact hG.len⟩
 . have e1:xbL 100 (l.map encF)=some (S.map encF):=e1;have e2:Iter (xdf (S.map encF)) ((0:Nat),(0:Int),[])=_:=e2;have tt:List.take G.length (G.map encG)=G.map encG:=zi (by simp)
   unfold xjV xnG;simp only [xmN,xmO,xmP,xmQ,e1,e2,zk,zh,xaL,zH,za,zd,zn,zS,zr,tt,sUF]
 . rw [hG.mem,y4];constructor
   . rintro ⟨f,hf,e⟩;exact ⟨f,p1.mem_iff.1 hf,e⟩
   . rintro ⟨f,hf,e⟩;exact ⟨f,p1.mem_iff.2 hf,e⟩
 . obtain ⟨x1,x2⟩:=hG.ps g hg;have e:(fun t=>((cnt S g.1 t:Nat):Int))=fun t=>((cnt l g.1 t:Nat):Int):=funext fun t=>by rw [xCr p1]
   rw [e] at x1;exact ⟨x1,by omega⟩
theorem xAj (q:Row) (P:List Per) (hP:P.length<=1048576):xjU (q.map encV) (P.map encP)=some ((mk q P).map encF):=by
 have e:=xqX q P hP;rw [xGQ (fun p:Per=>(⟨q,p⟩:Fc)) P] at e
 have e:Iter (xci (q.map encV) (P.map encP)) ((0:Nat),(0:Int),[])=some ((mk q P).length,(mk q P).map encF):=e;generalize mk q P=D at e;have tt:List.take D.length (D.map encF)=D.map encF:=zi (by simp)
 unfold xjU xnF;simp only [xmK,xmL,xmM,e,zk,zh,xaL,zH,za,zd,zn,zS,zr,tt,sUF]
theorem sG0 (g:Grp):xHa (Sh.list 3) ((encG g).cells.getD 0 .top)=true:=rfl
theorem sG1 (g:Grp):xHa (Sh.list 2) ((encG g).cells.getD 1 .top)=true:=rfl
theorem xG6 {n m:Nat} (h:n<=1048576*1024) (hm:m<=1048576):(n+m)*40<=140737488355328/\n+m<=4611686018427387904:=by omega
theorem xCR (G:List Grp) (hG:G.length<=1024) (L:Row->List Per) (hL:∀ g,g∈G->xen (g.2.map encP)=some ((L g.1).map encP)/\(L g.1).length<=1048576) :
  Iter (xet (G.map encG)) ((0:Nat),(0:Int),[])=some ((xGg (G.map (·.1)) L).length,(xGg (G.map (·.1)) L).map encF):=by
 rw [<-xsS];refine xjK G (fun g=>mk g.1 (L g.1)) encF 1048576 (fun g hg=>by unfold mk;rw [za];exact (hL g hg).2) (fun n h D hD=>?_) (fun D=>?_)
 . have i1:(n:Int)<(G.length:Int):=by omega
   have gf:(G.map encG).getD n .top=encG G[n]:=xaM _ _ _ h;obtain ⟨e1,e2⟩:=hL _ (zo h);have ed:=xAj G[n].1 (L G[n].1) e2;have ml:(mk G[n].1 (L G[n].1)).length<=1048576:=by unfold mk;rw [za];exact e2
   have q:D.length<=1048576*1024:=Nat.le_trans hD (Nat.mul_le_mul_left _ (by omega))
   obtain ⟨m1,m2⟩:=xG6 q ml;simp only [xet,xkr,xjq,sBU,h,i1,gf,cG0,cGs,sG0,sG1,e1,ed,m1,m2,xGa (n:=n) (by omega),z8,zx]
 . simp only [xet,xkr,za,zy,zm,xaK,sUF]
theorem xEW (l:List Fc) (r:Row) (t:Int):cnt l r t<=l.length:=List.countP_le_length
theorem xDR (l:List Fc) (r:Row) (t:Int) (h:t<0\/1099511627776<=t):cnt l r t=0:=by rw [<-xtY];exact xv6 _ t h
theorem xD9 (l:List Fc) (h:Few l) (hl:l.length<=1024):∃ B,xgW (l.map encF)=some (B.map encF)/\xGo l B:=by
 obtain ⟨G,e1,hR,hS,O⟩:=xAr l h (by omega)
 have lv:∀ g,g∈G->∃ P,xen (g.2.map encP)=some (P.map encP)/\IsLevs (cnt l g.1) P:=fun g hg=>by
  obtain ⟨s1,s2⟩:=hS g hg;exact xAs (N:=cnt l g.1) (H:=l.length) (by omega) (xEW l g.1) (xDR l g.1) s1 (by omega)
 obtain ⟨L,hL⟩:=xuN (R:=G.map (·.1)) (Q:=fun r P=>(∀ g,g∈G->g.1=r->xen (g.2.map encP)=some (P.map encP))/\IsLevs (cnt l r) P) fun r hr=>by
  obtain ⟨g,hg,rfl⟩:=zK.1 hr;obtain ⟨P,p1,p2⟩:=lv g hg;refine ⟨P,fun g' J e=>?_,p2⟩
  obtain ⟨P',q1,q2⟩:=lv g' J;rw [e] at q2;rw [q1,q2.unique p2]
 have hk:∀ g,g∈G->g.1∈G.map (·.1):=fun g hg=>zK.2 ⟨g,hg,rfl⟩
 have q:∀ g,g∈G->(L g.1).length<=1048576:=fun g hg=>by
  have a:=(hL g.1 (hk g hg)).2;rw [<-xBP] at a;have b:=xwF l g.1;exact Nat.le_trans a.len (Nat.mul_le_mul (Nat.le_trans b hl) (Nat.le_trans b hl))
 have e2:=xCR G (by omega) L fun g hg=>⟨(hL g.1 (hk g hg)).1 g hg rfl,q g hg⟩
 refine ⟨xGg (G.map (·.1)) L,?_,G.map (·.1),L,hR,fun r hr=>(hL r hr).2,rfl⟩
 generalize xGg (G.map (·.1)) L=F at e2;have tt:List.take F.length (F.map encF)=F.map encF:=zi (by simp)
 unfold xgW xp9;simp only [xpu,xpv,xpw,e1,e2,zk,zh,xaL,zH,za,zd,zn,zS,zr,tt,sUF]
theorem xCk (l:List Fc) (h:Bld l):∃ B,xck (l.map encF)=some (B.map encF)/\xgW (l.map encF)=some (B.map encF)/\xGo l B:=by
 obtain ⟨B,b1,b2⟩:=xET l h;obtain ⟨B',c1,c2⟩:=xD9 l h.1.1 h.2;obtain rfl:B=B':=b2.unique c2 fun _ _=>rfl
 exact ⟨B,b1,c1,b2⟩
theorem xCV {B:List Fc} (h:B.length<=1048576) (hr:∀ f,f∈B->f.r.length<=60):xjr (B.map encF) (B.map encF)=some true:=by
 have:=xBX B B h (fun f hf=>by have:=hr f hf;unfold maxLen;omega)
 rwa [decide_eq_true rfl] at this
theorem xC6 (p q:Bool):(some (p&&q):Option Bool)=br p (some q) (some false):=by cases p<;>rfl
theorem xD8 (v:Ve):opV (encW v)=v.op:=by
 show xdT v.id v.sc (v.r.map encV) v.va.1 v.va.2 v.sy.1 v.sy.2 v.b v.u=v.op;unfold xdT Ve.op xGP;rw [xn7];cases pv v.sy<;>rfl
theorem xwz:∀ l:List Ve,(l.map encW).filter opV=(l.filter Ve.op).map encW
 | []=>rfl
 | v::l=>by
  rw [zV,List.filter_cons,List.filter_cons,xD8,xwz l];cases v.op<;>rfl
theorem xCB (l:List Ve):(l.map encW).all isVb=true:=by
 rw [List.all_map,zI];intro v _;rfl
theorem xqZ (v:Ve):xg1 v.id v.sc (v.r.map encV) v.va.1 v.va.2 v.sy.1 v.sy.2 v.b v.u=v.op:=by
 unfold xg1 Ve.op xGP;rw [xpV];cases pv v.sy<;>rfl
theorem xte (v:Ve):xkt v.id v.sc (v.r.map encV) v.va.1 v.va.2 v.sy.1 v.sy.2 v.b v.u=(v.r.map encV,v.va.1,v.va.2):=rfl
def TxV (l:List Ve):Prop:=∀ v,v∈l->∀ x,x∈v.r->x.wf/\x.t.length<=1073741824
end Go.Sim.M
end
noncomputable section
set_option maxRecDepth 10000
namespace Go.Sim
open Go.RowKit Go.Proofs Go.ChangeShapes Go.WideShapes Go.ChangeAt Go.Proofs.YtckgiglpmfpagaaGreatDoor
def tyW:List Ty:=[.int .i64,.int .i64,.slice tyV,.int .i64,.int .i64,.int .i64,.int .i64,.int .i64,.int .i64]
theorem xBo:flat Tryz.prog 9 22=some [.slice tyW]:=by kernel_rfl
def M.Ve.wf (v:M.Ve):Prop:=M.Row.wf v.r/\I64 v.id/\I64 v.sc/\I64 v.va.1/\I64 v.va.2/\I64 v.sy.1/\I64 v.sy.2/\I64 v.b/\I64 v.u
theorem xDd (x:AV) (hl:x.cells.length=tyW.length) (he:x=xHM x.cells) (hx:∀ j,j<tyW.length->OfTy (tyW.getD j .bool) (x.cells.getD j .top)):∃ a,x=M.encW a/\M.Ve.wf a:=by
 generalize x.cells=cs at *;match cs,hl with
 | [c0,c1,c2,c3,c4,c5,c6,c7,c8],_ =>
  have h0:=hx 0 (by decide)
  have h1:=hx 1 (by decide)
  have h2:=hx 2 (by decide)
  have h3:=hx 3 (by decide)
  have h4:=hx 4 (by decide)
  have h5:=hx 5 (by decide)
  have h6:=hx 6 (by decide)
  have h7:=hx 7 (by decide)
  have h8:=hx 8 (by decide)
  change OfTy (.int .i64) c0 at h0;change OfTy (.int .i64) c1 at h1;change OfTy (.slice tyV) c2 at h2;change OfTy (.int .i64) c3 at h3;change OfTy (.int .i64) c4 at h4;change OfTy (.int .i64) c5 at h5;change OfTy (.int .i64) c6 at h6;change OfTy (.int .i64) c7 at h7;change OfTy (.int .i64) c8 at h8;obtain ⟨l,rfl,hw⟩:=xw3 h2;cases h0 with
  | int _ n0 w0=>cases h1 with
   | int _ n1 w1=>cases h3 with
    | int _ n3 w3=>cases h4 with
     | int _ n4 w4=>cases h5 with
      | int _ n5 w5=>cases h6 with
       | int _ n6 w6=>cases h7 with
        | int _ n7 w7=>cases h8 with
         | int _ n8 w8=>exact ⟨⟨n0,n1,l,(n3,n4),(n5,n6),n7,n8⟩,he,hw,w0,w1,w3,w4,w5,w6,w7,w8⟩
section
variable {H : Type} {enc : TypeId × Value -> H} {w : World} {base b : Nat} {sp : Nat -> Bool} {held : Bool} {v : Value} {d : DataW H} {ps : List MemPlace}
theorem xBL (q:Value.okWide Tryz.prog w .any base 22 v) (hd:DataW.Trod enc Tryz.prog w b sp held 22 v d ps):∃ l:List M.Ve,Rel w (fun _=>False) xHp v (.list 9 (l.map M.encW))/\(∀ μ:DataW H->Nat,Meas μ->(AV.list 9 (l.map M.encW)).wt<=μ d)/\∀ a,a∈l->M.Ve.wf a:=by
 obtain ⟨a,h,hT,hB⟩:=xzi Tryz.underlying22 xBo q hd;obtain ⟨l,rfl,_,hw⟩:=xr6 (es:=tyW) xDd hT;exact ⟨l,h,hB,hw⟩
end
theorem xqE:∀ {xs:List AV} {x:AV},x∈xs->AV.wt x<=AV.wts xs
 | y::xs,x,h=>by
  simp only [AV.wts];rcases zC.1 h with rfl|h
  . omega
  . have:=xqE h;omega
theorem xuJ:∀ {xs:List AV},(∀ x,x∈xs->1<=AV.wt x)->xs.length<=AV.wts xs
 | [],_=>zQ _
 | y::xs,h=>by
  have a:=h y (by simp)
  have b:=xuJ (xs:=xs) fun x hx=>h x (by simp [hx])
  simp only [AV.wts,zF];omega
theorem xCd (v:M.Ve):AV.wt (M.encW v)=1+(1+(AV.wts (v.r.map M.encV)+1+(1+(1+(1+(1+(1+(1+0)))))))):=rfl
theorem M.txv_wt {l:List M.Ve} (h:(AV.list 9 (l.map M.encW)).wt<=1048576) (hw:∀ y,y∈l->y.wf):M.TxV l/\l.length<=1048576:=by
 have e3:(AV.list 9 (l.map M.encW)).wt=AV.wts (l.map M.encW)+1:=rfl;refine ⟨fun f hf v hv=>⟨(hw f hf).1.2 v hv,?_⟩,?_⟩
 . have h1:AV.wt (M.encW f)<=AV.wts (l.map M.encW):=xqE (zK.2 ⟨f,hf,rfl⟩);have h2:AV.wt (M.encV v)<=AV.wts (f.r.map M.encV):=xqE (zK.2 ⟨v,hv,rfl⟩);have e1:=xCd f;have e2:AV.wt (M.encV v)=1+(1+(v.t.length+1+0)):=rfl;omega
 . have:=xuJ (xs:=l.map M.encW) fun x hx=>by
    obtain ⟨v,_,rfl⟩:=zK.1 hx;have:=xCd v;omega
   rw [za] at this;omega
theorem M.txf_wt {l:List M.Fc} (h:(AV.list 3 (l.map M.encF)).wt<=1048576) (hw:∀ y,y∈l->y.wf):M.Tx l/\l.length<=1048576:=by
 have e3:(AV.list 3 (l.map M.encF)).wt=AV.wts (l.map M.encF)+1:=rfl;have e1:∀ f:M.Fc,AV.wt (M.encF f)=AV.wts (f.r.map M.encV)+1+(1+(1+0)):=fun _=>rfl
 refine ⟨fun f hf v hv=>⟨(hw f hf).1.2 v hv,?_⟩,?_⟩
 . have h1:AV.wt (M.encF f)<=AV.wts (l.map M.encF):=xqE (zK.2 ⟨f,hf,rfl⟩);have h2:AV.wt (M.encV v)<=AV.wts (f.r.map M.encV):=xqE (zK.2 ⟨v,hv,rfl⟩);have e2:AV.wt (M.encV v)=1+(1+(v.t.length+1+0)):=rfl;have:=e1 f;omega
 . have:=xuJ (xs:=l.map M.encF) fun x hx=>by
    obtain ⟨v,_,rfl⟩:=zK.1 hx;have:=e1 v;omega
   rw [za] at this;omega
end Go.Sim
end
noncomputable section
set_option maxRecDepth 100000
namespace Go.Sim.M
open Go.RowKit Go.Sim.Srt
theorem gN {l:List Int} {k:Nat} (h:k<l.length):(l.map encN).getD k .top=encN (l.getD k 0):=by
 rw [xaM _ _ _ h,z7,ze h,zh]
theorem p0:decide (((0:Nat):Int)>0)=false:=rfl
theorem p1 (k:Nat):decide (((k+1:Nat):Int)>0)=true:=by rw [zl];omega
def clo (c0 tm:Int) (b:Bool) (v:Ve):Ve:=match b with
 | true=>⟨v.id,v.sc,v.r,v.va,(v.sy.1,tm),v.b,c0⟩
 | false=>v
def hit (ids:List Int) (v:Ve):Bool:=v.op&&ids.any (·==v.id)
instance:Inhabited Fc:=⟨⟨[],(0,0)⟩⟩
theorem gF {l:List Fc} {k:Nat} (h:k<l.length):(l.map encF).getD k .top=encF (l.getD k default):=by
 rw [xaM _ _ _ h,z7,ze h,zh]
def asc (ids:List Int):Prop:=∀ k,k+1<ids.length->ids.getD k 0<ids.getD (k+1) 0
def xGs (v x:Ve):Bool:=v.op&&(x.op&&v.id==x.id)
def xGz (l:List Ve):Bool:=!((List.range l.length).any fun i=>(l.take i).any (xGs (l.getD i default)))
theorem xsm (l:List Ve) (hl:l.length<=1048576) {i:Nat} (hi:i<l.length):Iter (xbX (l.map encW) ((i:Nat):Int)) (0:Int)=some (br ((l.take i).any (xGs (l.getD i default))) (true,false,()) (false,false,())):=by
 have q:(l.take i).length=i:=by rw [zt];omega
 have:=xpP (step:=xbX (l.map encW) ((i:Nat):Int)) (l.take i) (fun k=>((k:Nat):Int)) (fun x=>br (xGs (l.getD i default) x) (some (true,false,())) none) (false,false,()) (fun k h=>by
  rw [xB8 h];rw [q] at h;have hk:k<l.length:=by omega
  have h1:(i:Int)<(l.length:Int):=by omega
  have h2:(k:Int)<(l.length:Int):=by omega
  have h3:(k:Int)<(i:Int):=by omega
  simp only [xbX,xiL,sBU,h,hi,hk,h1,h2,h3,gW hi,gW hk,cW0,cW1,cW2,cW3,cW4,cW5,cW6,cW7,cW8,lW,sW,sW0,sW2,sW34,sW56,xqZ,xGs,xzk,xrU,xrT,xA4,xGa (n:=k) (by omega)]) (by
  simp only [q,xbX,xiL,zy,zm,xaK,sUF]) (l.take i).length 0 (by simp)
 rw [zr,xsT] at this;have e:((0:Nat):Int)=0:=rfl;rw [e] at this;rw [this];cases (l.take i).any (xGs (l.getD i default))<;>rfl
theorem xCJ (l:List Ve) (hl:l.length<=1048576):xnY (l.map encW)=some (xGz l):=by
 have:=xpP (step:=xcC (l.map encW)) (List.range l.length) (fun k=>((k:Nat):Int)) (fun i=>br ((l.take i).any (xGs (l.getD i default))) (some (true,false,())) none) (false,false,()) (fun k h=>by
  rw [List.getElem_range];rw [List.length_range] at h;have h1:(k:Int)<(l.length:Int):=by omega
  have e:=xsm l hl h;simp only [xcC,xiK,sBU,h1,e,xGa (n:=k) (by omega)]
  cases (l.take k).any (xGs (l.getD k default))<;>rfl) (by
  simp only [List.length_range,xcC,xiK,za,zy,zm,xaK,sUF]) l.length 0 (by simp)
 rw [zr,xsT] at this;have e:((0:Nat):Int)=0:=rfl;rw [e] at this;unfold xnY xoJ xGz;rw [this];cases (List.range l.length).any fun i=>(l.take i).any (xGs (l.getD i default))<;>rfl
theorem xBm {n:Nat} {l:List Fc} (h:fewF n l=true):l.length<=n/\∀ f,f∈l->f.r.length<=60:=by
 simp only [fewF,zf,zl,zI] at h;exact h
def cmpW (x y:Ve):Int:=xcp x.id y.id
theorem xnh (x y:Int):(xcp x y<0↔x<y)/\(0<xcp x y↔y<x):=by
 rw [xzY];by_cases h1:x<y
 . simp [h1];omega
 . by_cases h2:x>y
   . simp [h1,h2]
   . simp [h1,h2]
theorem ordW:Ord cmpW:=⟨fun x y=>by
 unfold cmpW;have a:=xnh x.id y.id;have b:=xnh y.id x.id;rw [a.2,b.1],fun x y z h1 h2=>by
 unfold cmpW at *;have a:=xnh x.id y.id;have b:=xnh y.id z.id;have c:=xnh x.id z.id;have h1':¬ y.id<x.id:=fun h=>by have:=a.2.2 h;omega
 have h2':¬ z.id<y.id:=fun h=>by have:=b.2.2 h;omega
 have:¬ z.id<x.id:=by omega
 have:¬ 0<xcp x.id z.id:=fun h=>this (c.2.1 h)
 omega⟩
theorem xDe (l:List Ve) (q:l.length<20):∃ r,xeC l.length (l.map encW)=some (r.map encW)/\r.Perm l/\Sorted cmpW r:=by
 obtain ⟨r,e,p,s⟩:=xpj ordW [] l [];simp only [zU,zD,List.length_nil,zH] at e;obtain ⟨e1,_⟩:=xC8 (N:=l.length) (by omega) (ok:=fun _=>True) (c:=cmpW) (fun x y _ _=>⟨rfl,rfl⟩) q ⟨rfl,fun _ _=>trivial⟩ e
 refine ⟨r,?_,p,s⟩;unfold xeC xfP;rw [e1];rfl
def xGA (B:List Fc) (lf:List Bool) (v:Ve) (k:Nat):Bool:=!(lf.getD k false)&&((((B.getD k default).p.1==v.va.1)&&(((B.getD k default).p.2==v.va.2)&&true))&&decide ((B.getD k default).r=v.r))
def xGG (B:List Fc) (lf:List Bool) (v:Ve):Option Nat:=(List.range B.length).findSome? fun k=>br (xGA B lf v k) (some k) none
theorem xFp (a b:Row) (h:a.length<=maxLen):xn2 (a.map encV) (b.map encV)=some (decide (a=b)):=by
 unfold xn2 xoR;rw [xvq a b h];simp only [zk,zh,xaL,cmp0,sUF]
theorem gB {l:List Bool} {k:Nat} (h:k<l.length):(l.map AV.bool).getD k .top=.bool (l.getD k false):=by
 rw [xaM _ _ _ h,z7,ze h,zh]
theorem xC3 (l:List Bool) (k:Nat):(l.map AV.bool).set k (.bool true)=(l.set k true).map AV.bool:=by rw [List.map_set]
def xGU (B:List Fc) (lf:List Bool) (v:Ve):Bool×List AV×Nat×List AV:=match xGG B lf v with
 | some i=>(true,B.map encF,B.length,(lf.set i true).map AV.bool)
 | none=>(false,B.map encF,B.length,lf.map AV.bool)
theorem xEr (B:List Fc) (lf:List Bool) (v:Ve) (hB:B.length<=1048576) (q:lf.length=B.length) (hr:∀ f,f∈B->f.r.length<=maxLen) :
  xqK v.id v.sc (v.r.map encV) v.va.1 v.va.2 v.sy.1 v.sy.2 v.b v.u (B.map encF) B.length (lf.map AV.bool)=some (xGU B lf v):=by
 have:=xpP (step:=xe4 (B.map encF) ((B.length:Nat):Int)) (List.range B.length) (fun k=>(((k:Nat):Int),B.map encF,B.length,lf.map AV.bool,v.id,v.sc,v.r.map encV,v.va.1,v.va.2,v.sy.1,v.sy.2,v.b,v.u)) (fun k=>(br (xGA B lf v k) (some k) none).map fun i=>(true,(true,B.map encF,B.length,(lf.set i true).map AV.bool),(([],0,[]):List AV×Nat×List AV))) (false,(false,[],0,[]),(B.map encF,B.length,lf.map AV.bool)) (fun k h=>by
  rw [List.getElem_range];rw [List.length_range] at h;have h1:(k:Int)<(B.length:Int):=by omega
  have h2:k<lf.length:=by omega
  have hm:=xFp (B.getD k default).r v.r (hr _ (by rw [z7,ze h];exact zo h))
  have c0:(AV.bool (lf.getD k false)).cells.getD 0 .top=.bool (lf.getD k false):=rfl;have s0:xHa Sh.bool (.bool (lf.getD k false))=true:=rfl;have t0:(AV.bool (lf.getD k false)).toBool=lf.getD k false:=rfl;simp only [xe4,xjn,xlt,sBU,h,h1,h2,gF h,gB h2,c0,s0,t0,cF0,cF1,cF2,sF0,sF1,sF2,lF,sF12,sF02,hm,xC3,xGA,xFf,xzk,Option.map_some,Option.map_none,xrU,xrT,xA4,xGa (n:=k) (by omega)]) (by
  simp only [List.length_range,xe4,xjn,zy,zm,xaK,sUF]) B.length 0 (by simp)
 rw [zr,xwe] at this;have e:((0:Nat):Int)=0:=rfl;rw [e] at this;unfold xqK xpe;simp only [xor,xos,xot,xou,xov,xow,xoy,xoz,za,this,sUF];unfold xGU xGG;cases (List.range B.length).findSome? fun k=>br (xGA B lf v k) (some k) none<;>rfl
def xGi (B:List Fc) (s:List Int×List Bool) (v:Ve):List Int×List Bool:=match xGG B s.2 v with
 | some i=>(s.1,s.2.set i true)
 | none=>(s.1++[v.id],s.2)
theorem fit8 {n:Nat} (h:n<=1048576):decide ((n+1)*8<=140737488355328)=true/\decide (n+1<=4611686018427387904)=true:=⟨decide_eq_true (by omega),decide_eq_true (by omega)⟩
theorem xrm (A:List Ve) (B:List Fc) (q:List Bool) (hA:A.length<=1048576) (hB:B.length<=1048576) (h0:q.length=B.length) (hr:∀ f,f∈B->f.r.length<=maxLen) :
  Iter (xcO A.length ((A.length:Nat):Int)) ((0:Nat),(0:Int),B.map encF,B.length,[],A.map encW,q.map AV.bool)=some ((A.foldl (xGi B) ([],q)).1.length,B.map encF,B.length,(A.foldl (xGi B) ([],q)).1.map encN,(A.foldl (xGi B) ([],q)).2.map AV.bool):=by
 have:=xgI (step:=xcO A.length ((A.length:Nat):Int)) A (xGi B) (fun n s=>(s.1.length,((n:Nat):Int),B.map encF,B.length,s.1.map encN,A.map encW,s.2.map AV.bool)) (fun n s=>s.1.length<=n/\s.2.length=B.length) (r:=((A.foldl (xGi B) ([],q)).1.length,B.map encF,B.length,(A.foldl (xGi B) ([],q)).1.map encN,(A.foldl (xGi B) ([],q)).2.map AV.bool)) (fun n h s ⟨i1,i2⟩=>by
  have h1:(n:Int)<(A.length:Int):=by omega
  have ht:=xEr B s.2 A[n] hB i2 hr;have gf:(A.map encW).getD n .top=encW A[n]:=xaM _ _ _ h;obtain ⟨m1,m2⟩:=fit8 (n:=s.1.length) (by omega)
  constructor
  . simp only [xcO,xgF,xeF,xgi,xi5,xi6,xaX,sBU,h,h1,gf,cW0,cW1,cW2,cW3,cW4,cW5,cW6,cW7,cW8,lW,sW,sW0,sW2,sW34,sW56,ht,m1,m2,xGa (n:=n) (by omega)]
    unfold xGU xGi;cases xGG B s.2 A[n] with
    | some i=>rfl
    | none =>
     simp only [Bool.not_false,xaL,z8,zx,sUF];rfl
  . unfold xGi;cases xGG B s.2 A[n] with
    | some i=>exact ⟨by dsimp only;omega,by simpa using i2⟩
    | none=>exact ⟨by simp;omega,i2⟩) A.length 0 ([],q) (by omega) ⟨zd _,h0⟩ (by
  rw [zr];simp only [xcO,xgF,zy,zm,xaK,sUF])
 exact this
def xGM (B:List Fc) (lf:List Bool) (F:List Fc) (k:Nat):List Fc:=match lf.getD k false with
 | true=>F
 | false=>F++[B.getD k default]
def xGB (B:List Fc) (lf:List Bool):List Fc:=(List.range B.length).foldl (xGM B lf) []
theorem xrn (B:List Fc) (lf:List Bool) (n0:Nat) (ids:List AV) (hB:B.length<=1048576) (h0:lf.length=B.length) :
  Iter (xcP n0 (B.map encF) ((B.length:Nat):Int)) ((0:Nat),(0:Int),B.length,ids,[],lf.map AV.bool)=some ((xGB B lf).length,ids,(xGB B lf).map encF):=by
 have:=xgI (step:=xcP n0 (B.map encF) ((B.length:Nat):Int)) (List.range B.length) (xGM B lf) (fun n F=>(F.length,((n:Nat):Int),B.length,ids,F.map encF,lf.map AV.bool)) (fun n F=>F.length<=n) (r:=((xGB B lf).length,ids,(xGB B lf).map encF)) (fun n h F i1=>by
  rw [List.getElem_range];rw [List.length_range] at h;have h1:(n:Int)<(B.length:Int):=by omega
  have h2:n<lf.length:=by omega
  have c0:(AV.bool (lf.getD n false)).cells.getD 0 .top=.bool (lf.getD n false):=rfl;have s0:xHa Sh.bool (.bool (lf.getD n false))=true:=rfl;have t0:(AV.bool (lf.getD n false)).toBool=lf.getD n false:=rfl;have m1:decide ((F.length+1)*40<=140737488355328)=true:=decide_eq_true (by omega)
  have m2:decide (F.length+1<=4611686018427387904)=true:=decide_eq_true (by omega)
  constructor
  . simp only [xcP,xgG,sBU,h,h1,h2,gF h,gB h2,c0,s0,t0,cF0,cF1,cF2,sF0,sF1,sF2,lF,sF12,sF02,m1,m2,xGa (n:=n) (by omega)]
    unfold xGM;cases lf.getD n false with
    | true=>rfl
    | false =>
     simp only [Bool.not_false,xaL,z8,zx,sUF];rfl
  . unfold xGM;cases lf.getD n false with
    | true=>dsimp only;omega
    | false=>dsimp only;rw [z8,zj];omega) B.length 0 [] (by simp) (zd _) (by
  rw [zr,List.length_range];simp only [xcP,xgG,zy,zm,xaK,sUF];rfl)
 exact this
theorem xsD (p:Nat->Bool):∀ n:Nat,(∃ i,(List.range n).findSome? (fun k=>br (p k) (some k) none)=some i/\i<n/\p i=true/\∀ k,k<i->p k=false)\/((List.range n).findSome? (fun k=>br (p k) (some k) none)=none/\∀ k,k<n->p k=false)
 | 0=>.inr ⟨rfl,fun k h=>by omega⟩
 | n+1=>by
  rw [List.range_succ,List.findSome?_append];rcases xsD p n with ⟨i,h1,h2,h3,h4⟩|⟨h1,h2⟩
  . exact .inl ⟨i,by rw [h1];rfl,by omega,h3,h4⟩
  . rw [h1];cases hp:p n with
    | true=>exact .inl ⟨n,by simp [hp,xaL,sUF],by omega,hp,fun k hk=>h2 k hk⟩
    | false =>
     refine .inr ⟨by simp [hp,xaK,sUF],fun k hk=>?_⟩
     rcases zJ k n with h|h
     . exact h2 k h
     . rw [show k=n by omega];exact hp
def xGc (B:List Fc) (f:Fc):Nat:=B.countP fun g=>decide (g=f)
def occF (B:List Fc) (k:Nat):Nat:=xGc (B.take k) (B.getD k default)
theorem xo5 {B:List Fc} {k:Nat} (f:Fc) (h:k<B.length):xGc (B.take (k+1)) f=xGc (B.take k) f+if B.getD k default=f then 1 else 0:=by
 unfold xGc;rw [List.take_add_one,List.countP_append,ze h,z7,ze h];simp [List.countP_cons]
theorem xq6 {B:List Fc} (f:Fc):∀ d k,k+d<=B.length->xGc (B.take k) f<=xGc (B.take (k+d)) f
 | 0,_,_=>zd _
 | d+1,k,h=>by
  have a:=xq6 (B:=B) f d k (by omega)
  have b:=xo5 f (k:=k+d) (B:=B) (by omega)
  rw [<-Nat.add_assoc];omega
theorem xwu {B:List Fc} {f:Fc} {i k:Nat} (hi:B.getD i default=f) (hk:B.getD k default=f) (h:i<k) (hn:k<B.length):occF B i<occF B k:=by
 unfold occF;rw [hi,hk];have a:=xo5 f (k:=i) (B:=B) (by omega)
 rw [if_pos hi] at a;have b:=xq6 (B:=B) f (k - (i+1)) (i+1) (by omega)
 rw [show i+1+(k - (i+1))=k by omega] at b
 omega
theorem xu7 {B:List Fc} {f:Fc} {i:Nat} (hi:B.getD i default=f) (hn:i<B.length):occF B i<xGc B f:=by
 unfold occF;rw [hi];have a:=xo5 f (k:=i) (B:=B) hn;rw [if_pos hi] at a;have b:=xq6 (B:=B) f (B.length - (i+1)) (i+1) (by omega)
 rw [show i+1+(B.length - (i+1))=B.length by omega,y4] at b
 omega
theorem xtU {B:List Fc} {f:Fc} {c:Nat}:∀ n,n<=B.length->c<xGc (B.take n) f->∃ k,k<n/\B.getD k default=f/\occF B k=c
 | 0,_,h=>by simp [xGc] at h
 | n+1,hn,h=>by
  have a:=xo5 f (k:=n) (B:=B) (by omega)
  by_cases hb:B.getD n default=f
  . rw [if_pos hb] at a;rcases zJ c (xGc (B.take n) f) with q|J
    . obtain ⟨k,h1,h2,h3⟩:=xtU (B:=B) (f:=f) (c:=c) n (by omega) q
      exact ⟨k,by omega,h2,h3⟩
    . exact ⟨n,by omega,hb,by unfold occF;rw [hb];omega⟩
  . rw [if_neg hb] at a;obtain ⟨k,h1,h2,h3⟩:=xtU (B:=B) (f:=f) (c:=c) n (by omega) (by omega)
    exact ⟨k,by omega,h2,h3⟩
def cntA (A:List Ve) (f:Fc):Nat:=A.countP fun v=>decide (v.fc=f)
theorem xrE (A:List Ve) (v:Ve) (f:Fc):cntA (A++[v]) f=cntA A f+if v.fc=f then 1 else 0:=by
 unfold cntA;rw [List.countP_append];simp [List.countP_cons]
def InvB (B:List Fc) (lf:List Bool) (A:List Ve):Prop:=lf.length=B.length/\∀ k,k<B.length->lf.getD k false=decide (occF B k<cntA A (B.getD k default))
theorem xsU {B:List Fc} {lf:List Bool} {v:Ve} {k:Nat}:xGA B lf v k=true↔lf.getD k false=false/\B.getD k default=v.fc:=by
 unfold xGA;generalize B.getD k default=g;obtain ⟨gr,gp⟩:=g;obtain ⟨g1,g2⟩:=gp;simp only [zf,Bool.not_eq_true',beq_iff_eq,zl,and_true,Ve.fc,Fc.mk.injEq];constructor
 . rintro ⟨h1,⟨h2,h3⟩,h4⟩;exact ⟨h1,h4,Prod.ext h2 h3⟩
 . rintro ⟨h1,h4,h5⟩;exact ⟨h1,⟨congrArg Prod.fst h5,congrArg Prod.snd h5⟩,h4⟩
theorem xB9 {B:List Fc} {lf:List Bool} {A:List Ve} (h:InvB B lf A) (v:Ve) :
  (∃ i,xGG B lf v=some i/\cntA A v.fc<xGc B v.fc/\InvB B (lf.set i true) (A++[v]))\/(xGG B lf v=none/\xGc B v.fc<=cntA A v.fc/\InvB B lf (A++[v])):=by
 obtain ⟨hl,hk⟩:=h;unfold xGG;rcases xsD (xGA B lf v) B.length with ⟨i,h1,h2,h3,h4⟩|⟨h1,h2⟩
 . obtain ⟨f1,f2⟩:=xsU.1 h3;have e:=hk i h2;rw [f1,f2] at e;have e1:cntA A v.fc<=occF B i:=Nat.not_lt.1 (of_decide_eq_false e.symm);have e2:=xu7 f2 h2;obtain ⟨k0,g1,g2,g3⟩:=xtU (B:=B) (f:=v.fc) (c:=cntA A v.fc) B.length (zd _) (by rw [y4];omega)
   have q:xGA B lf v k0=true:=xsU.2 ⟨by rw [hk k0 g1,g2,g3];simp,g2⟩
   have Z:k0=i:=by
    rcases Nat.lt_trichotomy k0 i with O|U|V
    . rw [h4 k0 O] at q;simp at q
    . exact U
    . have:=xwu f2 g2 V g1;omega
   subst Z;refine .inl ⟨k0,h1,by omega,by rw [y2];exact hl,fun k J=>?_⟩
   rw [xrE];by_cases Q:k=k0
   . subst Q;rw [z7,zL (by omega),if_pos g2.symm,g2,g3]
     simp
   . rw [z7,zX (fun e=>Q e.symm),<-z7,hk k J]
     by_cases hb:v.fc=B.getD k default
     . rw [if_pos hb];have hne:occF B k≠cntA A (B.getD k default):=by
        rw [<-hb,<-g3];rcases zJ k k0 with O|aa
        . have:=xwu hb.symm g2 O g1;omega
        . have:=xwu g2 hb.symm (by omega) J;omega
       rw [decide_eq_decide];omega
     . rw [if_neg hb];rfl
 . have Y:xGc B v.fc<=cntA A v.fc:=by
    refine Nat.not_lt.1 fun O=>?_
    obtain ⟨k0,g1,g2,g3⟩:=xtU (B:=B) (f:=v.fc) (c:=cntA A v.fc) B.length (zd _) (by rw [y4];omega)
    have q:xGA B lf v k0=true:=xsU.2 ⟨by rw [hk k0 g1,g2,g3];simp,g2⟩
    rw [h2 k0 g1] at q;simp at q
   refine .inr ⟨h1,Y,hl,fun k J=>?_⟩
   rw [xrE,hk k J];by_cases hb:v.fc=B.getD k default
   . rw [if_pos hb];have:=xu7 hb.symm J;rw [<-hb,decide_eq_decide];omega
   . rw [if_neg hb];rfl
def xGe (B:List Fc):List Ve->List Ve->List Ve
 | _,[]=>[]
 | P,v::A=>match decide (xGc B v.fc<=cntA P v.fc) with
  | true=>v::xGe B (P++[v]) A
  | false=>xGe B (P++[v]) A
theorem xmY (B:List Fc) (P:List Ve) (v:Ve) (A:List Ve):xGe B P (v::A)=match decide (xGc B v.fc<=cntA P v.fc) with
 | true=>v::xGe B (P++[v]) A
 | false=>xGe B (P++[v]) A:=by rw [xGe]
theorem xrH {B:List Fc}:∀ (A P:List Ve) (ids:List Int) (lf:List Bool),InvB B lf P->(A.foldl (xGi B) (ids,lf)).1=ids++(xGe B P A).map Ve.id/\InvB B (A.foldl (xGi B) (ids,lf)).2 (P++A)
 | [],P,ids,lf,h=>⟨by simp [xGe],by simpa using h⟩
 | v::A,P,ids,lf,h=>by
  rw [List.foldl_cons];have ha:P++v::A=(P++[v])++A:=by simp
  rw [ha];rcases xB9 h v with ⟨i,h1,h2,h3⟩|⟨h1,h2,h3⟩
  . have e:xGi B (ids,lf) v=(ids,lf.set i true):=by unfold xGi;rw [h1]
    have hd:decide (xGc B v.fc<=cntA P v.fc)=false:=decide_eq_false (by omega)
    rw [e];obtain ⟨a,b⟩:=xrH A (P++[v]) ids (lf.set i true) h3;refine ⟨?_,b⟩;rw [a,xmY,hd]
  . have e:xGi B (ids,lf) v=(ids++[v.id],lf):=by unfold xGi;rw [h1]
    have hd:decide (xGc B v.fc<=cntA P v.fc)=true:=decide_eq_true h2;rw [e];obtain ⟨a,b⟩:=xrH A (P++[v]) (ids++[v.id]) lf h3;refine ⟨?_,b⟩;rw [a,xmY,hd];simp
theorem xG9 (B:List Fc):InvB B (List.replicate B.length false) []:=⟨by simp,fun k hk=>by
 rw [z7,List.getElem?_replicate,if_pos hk];simp [cntA]⟩
theorem xvh (B:List Fc):∀ (A P:List Ve),(xGe B P A).length<=A.length
 | [],_=>by simp [xGe]
 | v::A,P=>by
  have ih:=xvh B A (P++[v]);rw [xmY];cases decide (xGc B v.fc<=cntA P v.fc)<;>simp<;>omega
theorem xyu (l:List Ve) (to:List AV) (B:List Fc) (hB:xck to=some (B.map encF)) (J:B.length<=1048576) (Q:∀ f,f∈B->f.r.length<=maxLen) (hl:l.length<20) :
  ∃ A lf,A.Perm (l.filter Ve.op)/\Sorted cmpW A/\InvB B lf A/\xbr (l.map encW) to=some (((xGe B [] A).map Ve.id).map encN,(xGB B lf).map encF):=by
 have U:(l.filter Ve.op).length<=l.length:=List.length_filter_le _ _;obtain ⟨A,a1,a2,a3⟩:=xDe (l.filter Ve.op) (by omega)
 have q:A.length=(l.filter Ve.op).length:=a2.length_eq;obtain ⟨f1,f2⟩:=xrH A [] [] (List.replicate B.length false) (xG9 B);have e0:=xrm A B (List.replicate B.length false) (by omega) J (by simp) Q
 generalize hs:A.foldl (xGi B) ([],List.replicate B.length false)=s at f1 f2 e0;obtain ⟨ids,lf⟩:=s;simp only [zU] at f1 f2;subst f1;have e1:=xrn B lf ((xGe B [] A).map Ve.id).length (((xGe B [] A).map Ve.id).map encN) J f2.1;refine ⟨A,lf,a2,a3,f2,?_⟩;have r1:rfOk 88 (l.map encW) []=true:=by
  unfold rfOk;rw [xCB,Bool.true_and,zl];simp only [List.length_nil,za];omega
 have n1:(((B.map encF).length:Nat):Int).toNat=B.length:=by rw [za];rfl
 have n2:decide ((1:Int)*(B.length:Int)<=281474976710656)=true:=decide_eq_true (by omega)
 have n3:decide ((B.length:Int)<=4611686018427387904)=true:=decide_eq_true (by omega)
 have rp:List.replicate B.length (AV.bool false)=(List.replicate B.length false).map AV.bool:=by rw [List.map_replicate]
 have O:((l.filter Ve.op).map encW).length=A.length:=by rw [za,q]
 rw [<-q] at a1;unfold xbr xjm xdR;simp only [xlk,xll,xlm,xln,xlo,xlp,xiA,xlq,xlr,xls,xkz,xkA,xkB,xdR,hB,xwz,zU,zk,zh,xaL,n1,r1,O,a1,rp,sUF];simp only [za] at e0 e1 |-;simp only [e0,e1,zk,zh,xaL,n2,n3,Int.le_refl,zn,zS,Bool.true_and,zH,za,zd,zr,sUF];have t1:List.take (xGe B [] A).length (((xGe B [] A).map Ve.id).map encN)=((xGe B [] A).map Ve.id).map encN:=zi (by simp)
 have t2:List.take (xGB B lf).length ((xGB B lf).map encF)=(xGB B lf).map encF:=zi (by simp)
 simp only [t1,t2]
theorem xFR (a b:Fc):decide (a=b)=((a.p.1==b.p.1&&(a.p.2==b.p.2&&true))&&decide (a.r=b.r)):=by
 obtain ⟨ar,a1,a2⟩:=a;obtain ⟨q,b1,b2⟩:=b;rw [Bool.eq_iff_iff];simp only [zl,Fc.mk.injEq,zb,zf,beq_iff_eq,and_true];constructor
 . rintro ⟨h1,h2,h3⟩;exact ⟨⟨h2,h3⟩,h1⟩
 . rintro ⟨⟨h2,h3⟩,h1⟩;exact ⟨h1,h2,h3⟩
theorem xtg (a b:Fc) (h:a.r.length<=maxLen):xmW (a.r.map encV) a.p.1 a.p.2 (b.r.map encV) b.p.1 b.p.2=some (decide (a=b)):=by
 have hm:=xnM a.r b.r h;rw [xFR];simp only [xmW,xpB,hm,zk,zh,xaL,xC6,cmp0,sUF]
theorem xnS {α:Type} (p:α->Bool):∀ (l:List α) (c:Nat),l.foldl (fun c x=>br (p x) (c+1) c) c=c+l.countP p
 | [],c=>rfl
 | x::l,c=>by
  rw [List.foldl_cons,xnS p l,List.countP_cons];cases p x<;>simp [xaL,xaK,sUF];omega
theorem xGW {c:Nat} (h:c<=1048576):IntKind.i64.wrap ((c:Int)+1)=((c+1:Nat):Int):=xGa (by omega)
theorem xw1 (B:List Fc) (f:Fc) (hB:B.length<=1048576) (hr:∀ g,g∈B->g.r.length<=maxLen):xnZ (B.map encF) (f.r.map encV) f.p.1 f.p.2=some ((xGc B f:Nat):Int):=by
 have:=xgI (step:=xeH (B.map encF)) B (fun c g=>br (decide (g=f)) (c+1) c) (fun n (c:Nat)=>(((c:Nat):Int),((n:Nat):Int),f.r.map encV,f.p.1,f.p.2)) (fun n c=>c<=n) (r:=((xGc B f:Nat):Int)) (fun n h c i1=>by
  have h1:(n:Int)<(B.length:Int):=by omega
  have hm:=xtg B[n] f (hr _ (zo h));have gf:(B.map encF).getD n .top=encF B[n]:=xaM _ _ _ h;constructor
  . simp only [xeH,xiM,xkI,sBU,h,h1,gf,cF0,cF1,cF2,sF0,sF1,sF2,lF,sF12,sF02,hm,xGW (c:=c) (by omega),xGa (n:=n) (by omega)]
    cases decide (B[n]=f)<;>rfl
  . cases decide (B[n]=f)<;>simp [xaL,xaK,sUF]<;>omega) B.length 0 0 (by omega) (zd _) (by
  rw [zr,xnS,zH];simp only [xeH,xiM,za,zy,zm,xaK,sUF];rfl)
 unfold xnZ xoK xnL;have e:((0:Nat):Int)=0:=rfl;rw [e] at this;rw [this];rfl
def xGS (v x:Ve):Bool:=x.op&&(decide (x.fc=v.fc)&&decide (x.id<v.id))
def xGN (l:List Ve) (v:Ve):Nat:=l.countP (xGS v)
theorem xCW (l:List Ve) (W ids:List AV) (hl:l.length<=1048576) (hr:∀ v,v∈l->v.r.length<=maxLen) {i:Nat} (hi:i<l.length):Iter (xb1 (l.map encW) W ids ((i:Nat):Int)) ((0:Int),(0:Int))=some ((xGN l (l.getD i default):Nat):Int):=by
 have g1:(i:Int)<(l.length:Int):=by omega
 have:=xgI (step:=xb1 (l.map encW) W ids ((i:Nat):Int)) l (fun c x=>br (xGS (l.getD i default) x) (c+1) c) (fun n (c:Nat)=>(((c:Nat):Int),((n:Nat):Int))) (fun n c=>c<=n) (r:=((xGN l (l.getD i default):Nat):Int)) (fun n h c i1=>by
  have h1:(n:Int)<(l.length:Int):=by omega
  have hm:=xtg l[n].fc (l.getD i default).fc (hr _ (zo h));simp only [Ve.fc_r,Ve.fc_p] at hm;have gf:(l.map encW).getD n .top=encW l[n]:=xaM _ _ _ h;constructor
  . simp only [xb1,xgZ,xjc,xjd,xje,xjf,xgm,sBU,h,h1,hi,g1,gf,gW hi,cW0,cW1,cW2,cW3,cW4,cW5,cW6,cW7,cW8,lW,sW,sW0,sW2,sW34,sW56,xqZ,xte,hm,xGW (c:=c) (by omega),xGa (n:=n) (by omega),xGS]
    cases l[n].op<;>cases decide (l[n].fc=(l.getD i default).fc)<;>cases decide (l[n].id<(l.getD i default).id)<;>rfl
  . cases xGS (l.getD i default) l[n]<;>simp [xaL,xaK,sUF]<;>omega) l.length 0 0 (by omega) (zd _) (by
  rw [zr,xnS,zH];simp only [xb1,xgZ,za,zy,zm,xaK,sUF];rfl)
 exact this
def xGR (f:Fc) (x:Ve):Bool:=x.op&&decide (x.fc=f)
def xGw (l:List Ve) (f:Fc):Nat:=l.countP (xGR f)
theorem xCU (l:List Ve) (B:List Fc) (ids xs:List AV) (n0:Nat) (hl:l.length<=1048576) (hr:∀ v,v∈l->v.r.length<=maxLen) {i:Nat} (hi:i<B.length) (hB:B.length<=1048576):Iter (xb2 (l.map encW) (B.map encF) ids n0 ((i:Nat):Int)) ((0:Int),(0:Int),xs)=some (((xGw l (B.getD i default):Nat):Int),xs):=by
 have g1:(i:Int)<(B.length:Int):=by omega
 have:=xgI (step:=xb2 (l.map encW) (B.map encF) ids n0 ((i:Nat):Int)) l (fun c x=>br (xGR (B.getD i default) x) (c+1) c) (fun n (c:Nat)=>(((c:Nat):Int),((n:Nat):Int),xs)) (fun n c=>c<=n) (r:=(((xGw l (B.getD i default):Nat):Int),xs)) (fun n h c i1=>by
  have h1:(n:Int)<(l.length:Int):=by omega
  have hm:=xtg l[n].fc (B.getD i default) (hr _ (zo h));simp only [Ve.fc_r,Ve.fc_p] at hm;have gf:(l.map encW).getD n .top=encW l[n]:=xaM _ _ _ h;constructor
  . simp only [xb2,xg0,xjj,xjk,xjl,sBU,h,h1,hi,g1,gf,gF hi,cW0,cW1,cW2,cW3,cW4,cW5,cW6,cW7,cW8,lW,sW,sW0,sW2,sW34,sW56,cF0,cF1,cF2,sF0,sF1,sF2,lF,sF12,sF02,xqZ,xte,hm,xGW (c:=c) (by omega),xGa (n:=n) (by omega),xGR]
    cases l[n].op<;>cases decide (l[n].fc=B.getD i default)<;>rfl
  . cases xGR (B.getD i default) l[n]<;>simp [xaL,xaK,sUF]<;>omega) l.length 0 0 (by omega) (zd _) (by
  rw [zr,xnS,zH];simp only [xb2,xg0,za,zy,zm,xaK,sUF];rfl)
 exact this
def insP (l:List Ve) (B:List Fc) (v:Ve):Bool:=v.op&&decide (((xGN l v:Nat):Int)>=((xGc B v.fc:Nat):Int))
def insS (l:List Ve) (B:List Fc) (ids:List Int) (v:Ve):List Int:=br (insP l B v) (insI ids v.id) ids
theorem xEb (l:List Ve) (B:List Fc) (hl:l.length<=1048575) (hB:B.length<=1048576) (hr:∀ v,v∈l->v.r.length<=maxLen) (J:∀ f,f∈B->f.r.length<=maxLen) :
  Iter (xbA (l.map encW) (B.map encF)) ([],(0:Int))=some ((l.foldl (insS l B) []).map encN):=by
 have:=xgI (step:=xbA (l.map encW) (B.map encF)) l (insS l B) (fun n (ids:List Int)=>(ids.map encN,((n:Nat):Int))) (fun n ids=>ids.length<=n) (r:=(l.foldl (insS l B) []).map encN) (fun n h ids i1=>by
  have h1:(n:Int)<(l.length:Int):=by omega
  have eg:l.getD n default=l[n]:=by rw [z7,ze h,zh]
  have q:=xCW l (B.map encF) (ids.map encN) (by omega) hr h
  rw [eg] at q;have ht:=xw1 B l[n].fc hB J;simp only [Ve.fc_r,Ve.fc_p] at ht;have hi:=xrK ids l[n].id (by omega)
  have gf:(l.map encW).getD n .top=encW l[n]:=xaM _ _ _ h;constructor
  . simp only [xbA,xgY,xi9,xja,xjb,xgl,sBU,h,h1,gf,cW0,cW1,cW2,cW3,cW4,cW5,cW6,cW7,cW8,lW,sW,sW0,sW2,sW34,sW56,q,xqZ,xte,ht,hi,xGa (n:=n) (by omega),insS,insP]
    cases l[n].op<;>cases decide (((xGN l l[n]:Nat):Int)>=((xGc B l[n].fc:Nat):Int))<;>rfl
  . have:=xnn ids l[n].id;unfold insS;cases insP l B l[n]<;>simp only [xaL,xaK,sUF]<;>omega) l.length 0 [] (by omega) (zd _) (by
  rw [zr];simp only [xbA,xgY,za,zy,zm,xaK,sUF])
 exact this
def opnS (l:List Ve) (B:List Fc) (F:List Fc) (k:Nat):List Fc:=br (decide (((xGc (B.take k) (B.getD k default):Nat):Int)>=((xGw l (B.getD k default):Nat):Int))) (F++[B.getD k default]) F
theorem xCX (l:List Ve) (B:List Fc) (ids:List AV) (hl:l.length<=1048576) (hB:B.length<=1048576) (hr:∀ v,v∈l->v.r.length<=maxLen) (q:∀ f,f∈B->f.r.length<=maxLen) :
  Iter (xcQ (l.map encW) (B.map encF) ids) ((0:Nat),(0:Int),[])=some (((List.range B.length).foldl (opnS l B) []).length,((List.range B.length).foldl (opnS l B) []).map encF):=by
 have:=xgI (step:=xcQ (l.map encW) (B.map encF) ids) (List.range B.length) (opnS l B) (fun n (F:List Fc)=>(F.length,((n:Nat):Int),F.map encF)) (fun n F=>F.length<=n) (r:=(((List.range B.length).foldl (opnS l B) []).length,((List.range B.length).foldl (opnS l B) []).map encF)) (fun n h F i1=>by
  rw [List.getElem_range];rw [List.length_range] at h;have h1:(n:Int)<(B.length:Int):=by omega
  have h2:(n:Int)<=(B.length:Int):=by omega
  have hh:=xCU l B ids (F.map encF) F.length hl hr h hB;have ht:=xw1 (B.take n) (B.getD n default) (by rw [zt];omega) (fun g hg=>q g (List.mem_of_mem_take hg))
  have m1:decide ((F.length+1)*40<=140737488355328)=true:=decide_eq_true (by omega)
  have m2:decide (F.length+1<=4611686018427387904)=true:=decide_eq_true (by omega)
  have tk:List.take (n - 0) (List.drop 0 (B.map encF))=(B.take n).map encF:=by rw [zr,Nat.sub_zero,List.map_take]
  constructor
  . simp only [xcQ,xgx,xgn,xjg,xjh,xji,zN,tk,za,h,h1,h2,gF h,cF0,cF1,cF2,sF0,sF1,sF2,lF,sF12,sF02,hh,ht,m1,m2,zk,zh,xaL,zn,zS,Bool.true_and,Int.natCast_nonneg,beq_self_eq_true,xGa (n:=n) (by omega),opnS,sUF]
    cases decide (((xGc (B.take n) (B.getD n default):Nat):Int)>=((xGw l (B.getD n default):Nat):Int)) with
    | true=>simp only [xaL,z8,zx,sUF];rfl
    | false=>rfl
  . unfold opnS;cases decide (((xGc (B.take n) (B.getD n default):Nat):Int)>=((xGw l (B.getD n default):Nat):Int)) with
    | true=>rw [xaL,z8,zj];omega
    | false=>rw [xaK];omega) B.length 0 [] (by simp) (zd _) (by
  rw [zr,List.length_range];simp only [xcQ,xgx,za,zy,zm,xaK,sUF])
 exact this
theorem xyw (l:List Ve) (to:List AV) (B:List Fc) (J:xgW to=some (B.map encF)) (hl:l.length<=1048575) (hB:B.length<=1048576) (hr:∀ v,v∈l->v.r.length<=maxLen) (q:∀ f,f∈B->f.r.length<=maxLen) :
  xez (l.map encW) to=some ((l.foldl (insS l B) []).map encN,((List.range B.length).foldl (opnS l B) []).map encF):=by
 have e0:=xEb l B hl hB hr q;have e1:=xCX l B ((l.foldl (insS l B) []).map encN) (by omega) hB hr q
 generalize (List.range B.length).foldl (opnS l B) []=F at e1 |-;have tt:List.take F.length (F.map encF)=F.map encF:=zi (by simp)
 unfold xez xmV;simp only [xlI,xlJ,xlK,xlL,J,e0,e1,zk,zh,xaL,zH,za,zd,zn,zS,zr,tt,sUF]
theorem xtG {α β:Type} {f g:β->α->β}:∀ (l:List α) (b:β),(∀ a,a∈l->∀ b,f b a=g b a)->l.foldl f b=l.foldl g b
 | [],b,_=>rfl
 | a::l,b,h=>by
  rw [List.foldl_cons,List.foldl_cons,h a (by simp)]
  exact xtG l _ fun x hx=>h x (by simp [hx])
theorem xuO {l A:List Ve} (h:A.Perm (l.filter Ve.op)) (q:Ve->Bool):A.countP q=l.countP fun x=>x.op&&q x:=by
 rw [h.countP_eq,List.countP_filter];congr 1;funext x;exact Bool.and_comm _ _
theorem xze {l A:List Ve} {B:List Fc} {lf:List Bool} (h:A.Perm (l.filter Ve.op)) (hi:InvB B lf A):xGB B lf=(List.range B.length).foldl (opnS l B) []:=by
 refine xtG _ _ fun k hk F=>?_
 have e:=hi.2 k (List.mem_range.1 hk);have hc:cntA A (B.getD k default)=xGw l (B.getD k default):=xuO h _;rw [hc] at e;unfold xGM opnS;rw [e];by_cases hd:occF B k<xGw l (B.getD k default)
 . have:¬ ((xGc (B.take k) (B.getD k default):Nat):Int)>=((xGw l (B.getD k default):Nat):Int):=by unfold occF at hd;omega
   rw [decide_eq_true hd,decide_eq_false this];rfl
 . have:((xGc (B.take k) (B.getD k default):Nat):Int)>=((xGw l (B.getD k default):Nat):Int):=by unfold occF at hd;omega
   rw [decide_eq_false hd,decide_eq_true this];rfl
theorem xCK {l:List Ve} (h:xGz l=true):(l.filter Ve.op).Pairwise fun a b=>a.id≠b.id:=by
 rw [List.pairwise_filter,zB];intro i j hi hj q ha hb e;unfold xGz at h;rw [Bool.not_eq_true',<-Bool.not_eq_true,List.any_eq_true] at h;refine h ⟨j,List.mem_range.2 hj,List.any_eq_true.2 ⟨l[i],?_,?_⟩⟩
 . have hit:i<(l.take j).length:=by rw [zt];omega
   have:=zo hit;rwa [List.getElem_take] at this
 . rw [z7,ze hj,zh];unfold xGs;rw [hb,ha,e];simp
theorem xER {l A:List Ve} (hp:A.Perm (l.filter Ve.op)) (hs:Sorted cmpW A) (h:xGz l=true):A.Pairwise fun a b=>a.id<b.id:=by
 have h1:A.Pairwise fun a b=>a.id≠b.id:=(List.Perm.pairwise_iff (fun h e=>h e.symm) hp).2 (xCK h)
 unfold Sorted at hs;rw [zB] at h1 hs |-;intro i j hi hj q;have a:=h1 i j hi hj q;have b:=hs i j hi hj q;have c:=(xnh A[i].id A[j].id).2;unfold cmpW at b;have:¬ A[j].id<A[i].id:=fun h=>by have:=c.2 h;omega
 omega
theorem xvi (B:List Fc):∀ (A P:List Ve),(xGe B P A).Sublist A
 | [],_=>by unfold xGe;exact List.Sublist.refl _
 | v::A,P=>by
  have ih:=xvi B A (P++[v]);rw [xmY];cases decide (xGc B v.fc<=cntA P v.fc) with
  | true=>exact ih.cons_cons v
  | false=>exact ih.cons v
def befP (v x:Ve):Bool:=decide (x.fc=v.fc)&&decide (x.id<v.id)
theorem xr0 (B:List Fc) (v:Ve):∀ (A P:List Ve),(A.Pairwise fun a b=>a.id<b.id)->(v∈xGe B P A↔v∈A/\xGc B v.fc<=cntA P v.fc+A.countP (befP v))
 | [],P,_=>by simp [xGe]
 | w::A,P,h=>by
  obtain ⟨h1,h2⟩:=zM.1 h;have ih:=xr0 B v A (P++[w]) h2;rw [xrE] at ih;have key:v∈xGe B P (w::A)↔(v=w/\xGc B w.fc<=cntA P w.fc)\/v∈xGe B (P++[w]) A:=by
   rw [xmY];by_cases hd:xGc B w.fc<=cntA P w.fc
   . rw [decide_eq_true hd];simp [hd]
   . rw [decide_eq_false hd];simp [hd]
  rw [key,ih,zC,List.countP_cons];constructor
  . rintro (⟨rfl,q⟩|⟨hv,q⟩)
    . exact ⟨.inl rfl,by omega⟩
    . refine ⟨.inr hv,?_⟩;have J:=h1 v hv;by_cases hf:w.fc=v.fc
      . have:befP v w=true:=by unfold befP;simp [hf,J]
        rw [if_pos hf] at q;rw [if_pos this];omega
      . rw [if_neg hf] at q;omega
  . rintro ⟨rfl|hv,q⟩
    . left;refine ⟨rfl,?_⟩;have z:A.countP (befP v)=0:=List.countP_eq_zero.2 fun x hx=>by
       have:=h1 x hx;unfold befP;simp;omega
      have z2:befP v v=false:=by unfold befP;simp
      rw [z,z2] at q;simpa using q
    . right;refine ⟨hv,?_⟩;have J:=h1 v hv;by_cases hf:w.fc=v.fc
      . have:befP v w=true:=by unfold befP;simp [hf,J]
        rw [if_pos hf];rw [if_pos this] at q;omega
      . have:befP v w=false:=by unfold befP;simp [hf]
        rw [if_neg hf];rw [this] at q;simpa using q
theorem xsY (l:List Ve) (B:List Fc):∀ (L:List Ve) (ids:List Int),Asc ids->Asc (L.foldl (insS l B) ids)/\∀ x,x∈L.foldl (insS l B) ids↔x∈ids\/∃ v,v∈L/\insP l B v=true/\x=v.id
 | [],ids,h=>⟨h,fun x=>by simp⟩
 | v::L,ids,h=>by
  rw [List.foldl_cons];cases hv:insP l B v with
  | true =>
   have e:insS l B ids v=insI ids v.id:=by unfold insS;rw [hv];rfl
   rw [e];obtain ⟨a,b⟩:=xsY l B L (insI ids v.id) (xqN h v.id);refine ⟨a,fun x=>?_⟩
   rw [b,xpi];constructor
   . rintro ((rfl|hx)|⟨w,hw,h1,h2⟩)
     . exact .inr ⟨v,by simp,hv,rfl⟩
     . exact .inl hx
     . exact .inr ⟨w,by simp [hw],h1,h2⟩
   . rintro (hx|⟨w,hw,h1,h2⟩)
     . exact .inl (.inr hx)
     . rcases zC.1 hw with rfl|hw
       . exact .inl (.inl h2)
       . exact .inr ⟨w,hw,h1,h2⟩
  | false =>
   have e:insS l B ids v=ids:=by unfold insS;rw [hv];rfl
   rw [e];obtain ⟨a,b⟩:=xsY l B L ids h;refine ⟨a,fun x=>?_⟩
   rw [b];constructor
   . rintro (hx|⟨w,hw,h1,h2⟩)
     . exact .inl hx
     . exact .inr ⟨w,by simp [hw],h1,h2⟩
   . rintro (hx|⟨w,hw,h1,h2⟩)
     . exact .inl hx
     . rcases zC.1 hw with rfl|hw
       . rw [hv] at h1;simp at h1
       . exact .inr ⟨w,hw,h1,h2⟩
theorem xEx {l A:List Ve} {B:List Fc} (hp:A.Perm (l.filter Ve.op)) (hs:Sorted cmpW A) (h:xGz l=true):(xGe B [] A).map Ve.id=l.foldl (insS l B) []:=by
 have ha:=xER hp hs h;obtain ⟨f1,f2⟩:=xsY l B l [] List.Pairwise.nil;refine xzS (List.pairwise_map.2 (ha.sublist (xvi B A []))) f1 fun x=>?_
 rw [f2,zK];have J:∀ v,A.countP (befP v)=xGN l v:=fun v=>xuO hp _
 have q:∀ v,v∈A↔v∈l/\v.op=true:=fun v=>by rw [hp.mem_iff,List.mem_filter]
 constructor
 . rintro ⟨v,hv,rfl⟩;obtain ⟨g1,g2⟩:=(xr0 B v A [] ha).1 hv;rw [J] at g2;obtain ⟨g3,g4⟩:=(q v).1 g1;refine .inr ⟨v,g3,?_,rfl⟩;unfold insP;rw [g4,Bool.true_and,zl];simp [cntA] at g2;omega
 . rintro (hx|⟨v,hv,h1,rfl⟩)
   . simp at hx
   . unfold insP at h1;rw [zf,zl] at h1;refine ⟨v,(xr0 B v A [] ha).2 ⟨(q v).2 ⟨hv,h1.1⟩,?_⟩,rfl⟩;rw [J];simp [cntA];omega
theorem xvG (a:List Int) (h:a.length<=1048576):xnp (a.map encN) (a.map encN)=some true:=by
 have:=xjJ (step:=xbP (a.map encN) (a.map encN)) (fun k=>((k:Nat):Int)) a.length (false,false,()) (fun k hk=>by
  have h1:(k:Int)<(a.length:Int):=by omega
  have hn:(a.getD k 0 != a.getD k 0)=false:=by simp
  simp only [xbP,xgj,sBU,hk,h1,gN hk,cN,sN,hn,xGa (n:=k) (by omega)]) (by
  simp only [xbP,xgj,za,zy,zm,xaK,sUF]) a.length 0 (by omega)
 have e:((0:Nat):Int)=0:=rfl;rw [e] at this;unfold xnp xlu;rw [this];simp [xaL,xaK,sUF]
theorem xzj (l:List Ve) (B:List Fc):∀ (L:List Nat) (F:List Fc),(∀ k,k∈L->k<B.length)->(∀ f,f∈L.foldl (opnS l B) F->f∈F\/f∈B)/\(L.foldl (opnS l B) F).length<=F.length+L.length
 | [],F,_=>⟨fun f hf=>.inl hf,zd _⟩
 | k::L,F,h=>by
  rw [List.foldl_cons];obtain ⟨a,b⟩:=xzj l B L (opnS l B F k) fun j hj=>h j (by simp [hj])
  have hk:=h k (by simp)
  have q:B.getD k default∈B:=by rw [z7,ze hk];exact zo hk
  have hs:(∀ f,f∈opnS l B F k->f∈F\/f∈B)/\(opnS l B F k).length<=F.length+1:=by
   unfold opnS;cases decide (((xGc (B.take k) (B.getD k default):Nat):Int)>=((xGw l (B.getD k default):Nat):Int)) with
   | true =>
    rw [xaL];refine ⟨fun f hf=>?_,by simp⟩
    rcases zG.1 hf with hf|hf
    . exact .inl hf
    . rw [zv] at hf;subst hf;exact .inr q
   | false=>rw [xaK];exact ⟨fun f hf=>.inl hf,by omega⟩
  refine ⟨fun f hf=>?_,by rw [zF];omega⟩
  rcases a f hf with hf|hf
  . exact hs.1 f hf
  . exact .inr hf
theorem xvX {l:List Ve} {F:List Fc} (hl:l.length<=16) (hr:∀ v,v∈l->v.r.length<=60) (hF:F.length<=16) (J:∀ f,f∈F->f.r.length<=60) (ht:Tx F) (hp:xGz l=true) :
  ∃ (ids:List Int) (op:List Fc),xbr (l.map encW) (F.map encF)=some (ids.map encN,op.map encF)/\xez (l.map encW) (F.map encF)=some (ids.map encN,op.map encF)/\ids.length<=16/\op.length<=256/\∀ f,f∈op->f.r.length<=60:=by
 obtain ⟨B,b1,b2,b3⟩:=xCk F (xFq (by omega) J ht)
 have O:B.length<=256:=Nat.le_trans b3.len (by have:F.length*F.length<=16*16:=Nat.mul_le_mul hF hF;omega)
 have q:∀ f,f∈B->f.r.length<=60:=b3.all (Q:=fun r=>r.length<=60) J
 have hBr':∀ f,f∈B->f.r.length<=maxLen:=fun f hf=>by have:=q f hf;unfold maxLen;omega
 have hr':∀ v,v∈l->v.r.length<=maxLen:=fun v hv=>by have:=hr v hv;unfold maxLen;omega
 obtain ⟨A,lf,a1,a2,a3,a4⟩:=xyu l _ B b1 (by omega) hBr' (by omega)
 have e:=xyw l _ B b2 (by omega) (by omega) hr' hBr'
 rw [<-xEx a1 a2 hp,<-xze a1 a3] at e;obtain ⟨o1,o2⟩:=xzj l B (List.range B.length) [] fun k hk=>List.mem_range.1 hk
 rw [<-xze a1 a3] at o1 o2;have hA:A.length<=16:=by rw [a1.length_eq];exact Nat.le_trans (List.length_filter_le _ _) hl
 refine ⟨_,_,a4,e,?_,?_,fun f hf=>?_⟩
 . rw [za];exact Nat.le_trans (xvh B A []) hA
 . rw [List.length_range] at o2;simp at o2;omega
 . rcases o1 f hf with h|h
   . simp at h
   . exact q f h
theorem xyr (l:List Ve) (F:List Fc) (hl:l.length<=1048576) (hF:F.length<=1048576) (ht:Tx F):xjL (l.map encW) (F.map encF)=some true:=by
 unfold xjL xiD xhM xhN;rw [xCw l (by omega)]
 cases hf:fewV l with
 | false=>rfl
 | true =>
  obtain ⟨h1,h2⟩:=xBn hf;have q:=xzq F (by omega) 16
  rw [show ((16:Nat):Int)=(16:Int) from rfl] at q
  rw [q];cases hg:fewF 16 F with
  | false=>rfl
  | true =>
   obtain ⟨h3,h4⟩:=xBm hg;rw [xCJ l hl];cases hp:xGz l with
   | false=>rfl
   | true =>
    obtain ⟨ids,op,e1,e2,k1,k2,k3⟩:=xvX h1 h2 h3 h4 ht hp;have s1:=xvG ids (by omega)
    have s2:=xCV (B:=op) (by omega) k3
    unfold xqJ xpc;simp only [e1,e2,s1,s2,zk,zh,xaL,Bool.not_true,xaK,beq_self_eq_true,sUF]
end Go.Sim.M
end
noncomputable section
set_option maxRecDepth 10000
namespace Go.Sim
open Go.RowKit Go.Proofs Go.ChangeShapes Go.WideShapes Go.ChangeAt Go.Proofs.YtckgiglpmfpagaaGreatDoor
theorem M.card_between (l:List M.Ve) (F:List M.Fc) (hw:∀ y,y∈l->y.wf) (hx:F.length<=maxLen/\∀ y,y∈F->y.wf) (hb:(AV.list 9 (l.map M.encW)).wt+(AV.list 3 (F.map M.encF)).wt<=1048576):M.xjL (l.map M.encW) (F.map M.encF)=some true :=
 have hf:=M.txf_wt (Nat.le_trans (Nat.le_add_left _ _) hb) hx.2
 M.xyr l F (M.txv_wt (Nat.le_trans (Nat.le_add_right _ _) hb) hw).2 hf.2 hf.1
end Go.Sim
end
noncomputable section
set_option maxRecDepth 10000
namespace Go.Proofs.YtckgiglpmfpagaaGreatDoor.deltaBetween
open Go.ChangeShapes Go.WideShapes Go.ChangeAt Go.RowKit Go.Sim
theorem contract (H:Type) (enc:TypeId×Value->H) (W:World) (base:Nat) (args:Array Value) (ds gs:List (DataW H)) (before:List MemPlace)
  (hval:∀ (j:Nat) t v,Tryz.f4.params[j]?=some t->args[j]?=some v->Value.okWide Tryz.prog W .any base t v)
  (hW:DataW.Whole enc Tryz.prog Tryz.f4.params.toList Rows.deltaBetweenSpec.vars false W args.toList ds gs before) (hL:laidMetH Tryz.prog Rows.deltaBetweenUptoRow.laid W) (hsh:W.ShapedOpen Tryz.prog) (hbulk:Rows.uptoBulkAll (ds++gs)<=1048576) :
  Calls Tryz.prog 4 args W fun e W'=>∃ v,e=.returned v/\Rows.deltaBetweenSpec.post enc Tryz.prog Tryz.f4 false true false false W args v W':=by
 have hW':=hW;obtain ⟨p,q,hA0,hV,rfl,hfz,hnd⟩:=hW;have hA:DataW.TrodAll enc Tryz.prog W 0 (fun _=>true) true Tryz.f4.params.toList args.toList ds p:=hA0
 have hAk:=hA;rw [Tryz.params4] at hA hval;obtain ⟨v0,vs0,d0,ds0,p0,q0,hargs,rfl,rfl,h0,r0⟩:=trodAll_cons hA;obtain ⟨v1,vs1,d1,ds1,p1,q1,rfl,rfl,rfl,h1,r1⟩:=trodAll_cons r0;obtain ⟨rfl,rfl,rfl⟩:=trodAll_nil r1;obtain rfl:args=#[v0,v1]:=by cases args;simp_all
 obtain ⟨rfl,rfl⟩:=trodVars_none hV;obtain ⟨a0,rr0,b0,w0⟩:=xBL (hval 0 22 v0 rfl rfl) h0;obtain ⟨a1,rr1,b1,w1⟩:=xAd (hval 1 26 v1 rfl rfl) h1;clear hA0;have hbulk:(.list 9 (a0.map M.encW):AV).wt+(.list 3 (a1.map M.encF):AV).wt<=1048576:=by
  rw [List.append_nil,xnR] at hbulk;simp only [List.map_cons,List.map_nil,List.sum_cons,List.sum_nil] at hbulk;have:=b0 _ xu4;have:=b1 _ xu4;omega
 have hI:xHU W:=xE1 rfl (by kernel_rfl) hL hsh
 have hpl:=M.card_between a0 a1 w0 w1 hbulk;have hg:Sim.Good Tryz.prog xHU 4 [.list 9 (a0.map M.encW),.list 3 (a1.map M.encF)] (.bool true):=M.xqP _ _ (congrArg (fun x:Option Bool=>some (x.isSome,AV.bool (x.getD false))) hpl)
 have hrc:RC W (fun _=>False) xHp [v0,v1] [.list 9 (a0.map M.encW),.list 3 (a1.map M.encF)]:=by
  refine ⟨rfl,fun i hi=>?_⟩
  match i,hi with
  | 0,_=>exact rr0
  | 1,_=>exact rr1
 refine (hg.2 W (fun _=>False) _ hI (fun _ h=>h.elim) hrc).mono fun e W' ⟨v,he,hb,hr⟩=>?_
 subst he;obtain rfl:=hr.bool_inv;exact ⟨_,rfl,xBN rfl hW' ⟨rfl,rfl,rfl⟩ rfl Tryz.underlying4 (by simpa using xra xG0 hb (by kernel_rfl) hAk) hb⟩
noncomputable def wit:Array Value:=#[.slice none 0 0,.slice none 0 0]
theorem laid_met (os:Os):laidMet Tryz.prog Rows.deltaBetweenUptoRow.laid ((xGI Tryz.prog Rows.deltaBetweenUptoRow.laid os).forCall (fun _ _=>0) ⟨#[],wit,[]⟩).memory :=
 laidMet_of_run3 8 (by kernel_rfl) (by kernel_rfl) (by kernel_rfl)
theorem reads (os:Os) {H:Type} (enc:TypeId×Value->H):∃ places,DataW.whole enc Tryz.prog ((xGI Tryz.prog Rows.deltaBetweenUptoRow.laid os).forCall (fun _ _=>0) ⟨#[],wit,[]⟩).memory Tryz.f4.params.toList Rows.deltaBetweenSpec.vars false wit.toList 8=some ([.nil,.nil],[],places) :=
 ⟨[],by kernel_rfl⟩
set_option maxRecDepth 100000 in
theorem lifted (os:Os) (started:os.Started) (H:Type) (enc:TypeId×Value->H) (F:Stop.Interp) :
  ReturnsInHanded {} Tryz.checked os 4 .any ((Rows.OpenSpec.upto Rows.deltaBetweenSpec).preRow enc Tryz.prog Tryz.f4 Rows.deltaBetweenUptoRow.domain false Rows.deltaBetweenUptoRow.laid) (((Rows.OpenSpec.upto Rows.deltaBetweenSpec).at F).post enc Tryz.prog Tryz.f4 false true false false):=by
 obtain ⟨places,hx⟩:=reads os enc;refine returnsInHanded_of_row (C:=Tryz.checked) (s:=Rows.OpenSpec.upto Rows.deltaBetweenSpec) xG5 started (by kernel_rfl) Tryz.func4
  (witness_row_at (enc:=enc) (C:=Tryz.checked) false (xGI Tryz.prog Rows.deltaBetweenUptoRow.laid os) wit rfl (by kernel_rfl) (by kernel_rfl) (by kernel_rfl)
   (OpenSpec.preRow_of_cond 8 hx (by kernel_rfl) (fun k hk=>by cases hk;kernel_rfl) (by kernel_rfl) (laid_met os))) ?_
 intro W base args ds gs before hval hW _ hcond _ hL hsh _;exact contract H enc W base args ds gs before hval hW hL hsh (of_decide_eq_true (hcond _ rfl))
theorem said:Rows.DeltaBetweenUptoSaid :=
 OpenClaim.holds_of_cond 4 Tryz.f4 rfl rfl rfl rfl rfl rfl rfl ⟨rfl,rfl,rfl,rfl,rfl⟩ rfl rfl rfl rfl rfl (by kernel_rfl) Tryz.func4 (by kernel_rfl)
  (of_decide_eq_true (by kernel_rfl)) (by unfold Func.isWrapper;first|(rw [if_pos (by decide +kernel)];kernel_rfl)|(rw [if_neg (by decide +kernel)];exact ⟨rfl,rfl⟩))
  (fun os started H enc _ F=>by rw [OpenClaim.pre_eq_preRow];exact lifted os started H enc F)
theorem plain (f:FuncId) (fn:Func) (hf:Tryz.pinned.checked.prog.funcNamed "bitemporal/bitemporallaw32.DeltaBetween" = some f) (hfn:Tryz.pinned.checked.prog.funcs[f]?=some fn) :
  false=Tryz.pinned.checked.prog.looks []/\∀ (j:Nat) t,fn.params[j]?=some t->Tryz.pinned.checked.prog.wantsStandIn t=false:=by
 obtain rfl:f=4:=Option.some.inj ((show Tryz.prog.funcNamed "bitemporal/bitemporallaw32.DeltaBetween" = some 4 by kernel_rfl).symm.trans hf) |>.symm
 obtain rfl:fn=Tryz.f4:=(Option.some.inj (Tryz.func4.symm.trans hfn)).symm;refine ⟨by kernel_rfl,fun j t ht=>?_⟩
 rw [Tryz.params4] at ht;have hm:=Array.mem_of_getElem? ht;have:([22,26]:List Nat).all (fun t=>!(Tryz.prog.wantsStandIn t))=true:=by kernel_rfl
 have:=List.all_eq_true.1 this t (by simpa using hm)
 show Tryz.prog.wantsStandIn t=false;simpa using this
theorem card:Rows.DeltaBetweenUptoCardSaid :=
 Claim7.holds_tied_plain_at .later [] _ _ _ _ said (fun _ h=>by cases h) (by kernel_rfl) (fun _ h=>by cases h) deltaBetweenUpto_row_tie rfl ⟨rfl,rfl⟩ (by kernel_rfl) rfl plain (by kernel_rfl)
end Go.Proofs.YtckgiglpmfpagaaGreatDoor.deltaBetween
end
