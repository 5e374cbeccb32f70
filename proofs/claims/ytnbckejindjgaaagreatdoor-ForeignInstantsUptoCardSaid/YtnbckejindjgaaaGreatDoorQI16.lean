/- Part 16 of the proof of the law. -/
import Derived.Test.YtnbckejindjgaaaGreatDoorQI15
import Derived.Lib.ItoaLen
set_option linter.unusedVariables false
set_option linter.unusedSimpArgs false
set_option linter.unusedSectionVars false
noncomputable section
set_option maxRecDepth 100000
namespace Go.Sim.M
open Go.RowKit Go.Sim.Srt
def rdD (l:List UInt8):Nat:=l.foldl (fun a c=>a*10+(c.toNat - 48)) 0
theorem xEO (u:Nat):∀ c,c∈Lib.decDigits u->48<=c.toNat/\c.toNat<=57:=by
 induction u using Nat.strongRecOn with
 | _ u ih =>
  intro c hc;rw [Lib.decDigits] at hc;split at hc
  . rw [zv] at hc;subst hc;rw [UInt8.toNat_ofNat'];omega
  . rw [zG,zv] at hc;rcases hc with hc|rfl
    . exact ih (u / 10) (by omega) c hc
    . rw [UInt8.toNat_ofNat'];omega
theorem xHW (u:Nat):rdD (Lib.decDigits u)=u:=by
 induction u using Nat.strongRecOn with
 | _ u ih =>
  rw [Lib.decDigits];split
  . simp only [rdD,List.foldl_cons,List.foldl_nil,UInt8.toNat_ofNat'];omega
  . have:=ih (u / 10) (by omega)
    unfold rdD at this |-;rw [List.foldl_append,this];simp only [List.foldl_cons,List.foldl_nil,UInt8.toNat_ofNat'];omega
theorem xEP {u v:Nat} (h:Lib.decDigits u=Lib.decDigits v):u=v:=by rw [<-xHW u,h,xHW]
theorem xyt {a b:Int} (h:Lib.itoa a=Lib.itoa b):a=b:=by
 unfold Lib.itoa at h;have k:∀ u v:Nat,45::Lib.decDigits u≠Lib.decDigits v:=fun u v e=>by
  have:=xEO v 45 (by rw [<-e];simp)
  have t:(45:UInt8).toNat=45:=rfl;omega
 split at h<;>split at h
 . have:=xEP (List.cons.inj h).2;omega
 . exact absurd h (k _ _)
 . exact absurd h.symm (k _ _)
 . have:=xEP h;omega
theorem xrx (a:Int):(32:UInt8)∉Lib.itoa a:=by
 have k:∀ v:Nat,(32:UInt8)∉Lib.decDigits v:=fun v e=>by
  have:=xEO v 32 e;have t:(32:UInt8).toNat=32:=rfl;omega
 unfold Lib.itoa;split
 . rw [zC];rintro (h|h)
   . simp at h
   . exact k _ h
 . exact k _
theorem xza:∀ {a b x y:List UInt8},(32:UInt8)∉a->(32:UInt8)∉b->a++32::x=b++32::y->a=b/\x=y
 | [],[],x,y,_,_,h=>⟨rfl,(List.cons.inj h).2⟩
 | [],c::b,x,y,_,hb,h=>absurd (List.cons.inj h).1 fun e=>hb (by rw [e];simp)
 | c::a,[],x,y,ha,_,h=>absurd (List.cons.inj h).1 fun e=>ha (by rw [<-e];simp)
 | c::a,d::b,x,y,ha,hb,h=>by
  obtain ⟨e1,h⟩:=List.cons.inj h;obtain ⟨e2,e3⟩:=xza (a:=a) (b:=b) (fun e=>ha (by simp [e])) (fun e=>hb (by simp [e])) h
  exact ⟨by rw [e1,e2],e3⟩
def keyV (v:Val):List UInt8:=Lib.itoa v.k++32::(Lib.itoa v.i++32::(Lib.itoa (v.t.length:Int)++32::v.t))
def keyOf (r:Row):List UInt8:=r.flatMap keyV
theorem xyv (v:Val) (s:List UInt8):keyV v++s=Lib.itoa v.k++32::(Lib.itoa v.i++32::(Lib.itoa (v.t.length:Int)++32::(v.t++s))):=by simp [keyV]
theorem xk3 (v:Val) (r:Row):keyOf (v::r)=keyV v++keyOf r:=by simp [keyOf]
theorem xAg (v:Val) (s:List UInt8):keyV v++s≠[]:=by rw [xyv];simp
theorem xAh:∀ {r r':Row},keyOf r=keyOf r'->r=r'
 | [],[],_=>rfl
 | [],v::r',h=>by rw [xk3] at h;exact absurd h.symm (xAg _ _)
 | v::r,[],h=>by rw [xk3] at h;exact absurd h (xAg _ _)
 | v::r,v'::r',h=>by
  rw [xk3,xk3,xyv,xyv] at h;obtain ⟨h1,h⟩:=xza (xrx _) (xrx _) h;obtain ⟨h2,h⟩:=xza (xrx _) (xrx _) h;obtain ⟨h3,h⟩:=xza (xrx _) (xrx _) h;have h3:=xyt h3;obtain ⟨h4,h⟩:=List.append_inj h (by omega)
  obtain rfl:=xAh h;have:v=v':=by
   obtain ⟨k,i,t⟩:=v;obtain ⟨k',i',t'⟩:=v';obtain rfl:=xyt h1;obtain rfl:=xyt h2;subst h4;rfl
  rw [this]
theorem xMh {n:Int} (h:(Lit.int .i64 n).wf=true):-9223372036854775808<=n/\n<=9223372036854775807:=by
 have h:(decide ((IntKind.i64).min<=n)&&decide (n<=(IntKind.i64).max))=true:=h;rw [zf,zl,zl] at h;exact h
theorem xyw {v:Val} (hw:v.wf) (ht:v.t.length<=1099511627776):(keyV v).length<=66+v.t.length:=by
 obtain ⟨w1,w2,_⟩:=hw;have a1:=Lib.itoa_length_le v.k (xMh w1).1 (xMh w1).2;have a2:=Lib.itoa_length_le v.i (xMh w2).1 (xMh w2).2;have a3:=Lib.itoa_length_le (v.t.length:Int) (by omega) (by omega)
 simp only [keyV,z8,zF];omega
theorem xAC (s B:List UInt8) (h:(B++s).length<=140737488355328):xak s B.length (byteAVs B)=some ((s.length:Int),(B++s).length,byteAVs (B++s)):=by
 rw [z8] at h;have h2:B.length+s.length<=4611686018427387904:=by omega
 unfold xak xdk;simp only [xk1,beq_self_eq_true,Nat.mul_one,h,h2,zn,Bool.and_self,xab,xuf,z8,sUF]
theorem xDK (B:List UInt8) (h:(B++[32]).length<=140737488355328):xcF 32 B.length (byteAVs B)=some ((B++[32]).length,byteAVs (B++[32])):=by
 rw [z8,zj] at h;have h2:B.length+1<=4611686018427387904:=by omega
 unfold xcF xdX;simp only [xk1,beq_self_eq_true,Nat.mul_one,h,h2,zn,Bool.and_self,xab,xuf,z8,zj,sUF];rfl
def numI (n:Int):List UInt8:=Lib.itoa n++[32]
theorem xFT (t8:List AV) (t9 q:Int) (xs:List AV) (hx:xs.length=3) (j:Nat) (hj:j<3) (n:Int) (hn:xs.getD j .top=.int .i64 n) (h1:-9223372036854775808<=n) (h2:n<=9223372036854775807) (v0 v1:Int) (v2 B:List UInt8) (hB:B.length<=70368744177664) :
  xaP t8 t9 q 3 3 ((j:Int),B.length,v0,v1,v2,xs,byteAVs B)=some (.inl (((j+1:Nat):Int),(B++numI n).length,v0,v1,v2,xs,byteAVs (B++numI n))):=by
 have hl:=Lib.itoa_length_le n h1 h2;have i1:(j:Int)<3:=by omega
 have i2:(j:Int)<((3:Nat):Int):=by omega
 have i3:j<xs.length:=by omega
 have e1:=xAC (Lib.itoa n) B (by rw [z8];omega)
 have e2:=xDK (B++Lib.itoa n) (by rw [z8,z8,zj];omega)
 have hc:((AV.int IntKind.i64 n).cells.getD 0 .top).toInt=n:=rfl;have hs:xMT (Sh.int IntKind.i64) ((AV.int IntKind.i64 n).cells.getD 0 .top)=true:=rfl;simp only [xaP,xhs,xkm,xkn,xko,xeE,sBU,i1,i2,i3,hn,hc,hs,h1,h2,e1,e2,xLZ (n:=j) (by omega),numI,zw]
theorem xJS (t8:List AV) (t9 q:Int) (xs:List AV) (v0 v1:Int) (v2 B:List UInt8):xaP t8 t9 q 3 3 (((3:Nat):Int),B.length,v0,v1,v2,xs,byteAVs B)=some (.inr (B.length,v0,v1,v2,byteAVs B)):=by
 have i1:¬ ((3:Nat):Int)<3:=by omega
 simp only [xaP,xhs,i1,zm,xac,sUF]
theorem xyy (v:Val):keyV v=numI v.k++(numI v.i++(numI (v.t.length:Int)++v.t)):=by simp [keyV,numI]
def KOk (v:Val):Prop:=v.wf/\v.t.length<=1099511627776
theorem KOk.len {v:Val} (h:KOk v):(keyV v).length<=1099511627842:=by have:=xyw h.1 h.2;have:=h.2;omega
theorem xEx (t8:List AV) (t9 q:Int) (v:Val) (h:KOk v) (B:List UInt8) (hB:B.length<=35184372088832) :
  Iter (xaP t8 t9 q 3 3) ((1:Int),(B++numI v.k).length,v.k,v.i,v.t,[AV.int .i64 v.k,AV.int .i64 v.i,AV.int .i64 (v.t.length:Int)],byteAVs (B++numI v.k))=some ((B++numI v.k++numI v.i++numI (v.t.length:Int)).length,v.k,v.i,v.t,byteAVs (B++numI v.k++numI v.i++numI (v.t.length:Int))):=by
 have hl:=h.len;have ht:=h.2;rw [xyy,z8,z8,z8] at hl;have e1:=xFT t8 t9 q [AV.int .i64 v.k,AV.int .i64 v.i,AV.int .i64 (v.t.length:Int)] rfl 1 (by omega) v.i rfl (xMh h.1.2.1).1 (xMh h.1.2.1).2 v.k v.i v.t (B++numI v.k) (by rw [z8];omega)
 have e2:=xFT t8 t9 q [AV.int .i64 v.k,AV.int .i64 v.i,AV.int .i64 (v.t.length:Int)] rfl 2 (by omega) (v.t.length:Int) rfl (by omega) (by omega) v.k v.i v.t (B++numI v.k++numI v.i) (by rw [z8,z8];omega)
 exact (xaj e1).trans ((xaj e2).trans (xad (xJS ..)))
theorem xLh (t8:List AV) (t9 q:Int) (v:Val) (h:KOk v) (B:List UInt8) (hB:B.length<=35184372088832) :
  Iter (xaP t8 t9 q 3 3) ((0:Int),B.length,v.k,v.i,v.t,[AV.int .i64 v.k,AV.int .i64 v.i,AV.int .i64 (v.t.length:Int)],byteAVs B)=some ((B++numI v.k++numI v.i++numI (v.t.length:Int)).length,v.k,v.i,v.t,byteAVs (B++numI v.k++numI v.i++numI (v.t.length:Int))):=by
 have e0:=xFT t8 t9 q [AV.int .i64 v.k,AV.int .i64 v.i,AV.int .i64 (v.t.length:Int)] rfl 0 (by omega) v.k rfl (xMh h.1.1).1 (xMh h.1.1).2 v.k v.i v.t B (by omega)
 exact (xaj e0).trans (xEx t8 t9 q v h B hB)
theorem xHC (r:Row) (hr:r.length<=1048576) (h:∀ v,v∈r->KOk v) (hk:(keyOf r).length<=17592186044416):∀ d k:Nat,k+d=r.length->Iter (xcq (r.map encV) ((r.length:Nat):Int)) ((k:Int),(keyOf (r.take k)).length,byteAVs (keyOf (r.take k)))=some ((keyOf r).length,byteAVs (keyOf r))
 | 0,k,hkk=>by
  obtain rfl:k=r.length:=by omega
  rw [y7];refine xad ?_;simp only [xcq,xhr,zy,zm,xac,sUF]
 | d+1,k,hkk=>by
  have q:k<r.length:=by omega
  have hv:=h r[k] (zo q);have i1:(k:Int)<(r.length:Int):=by omega
  have gf:(r.map encV).getD k .top=encV r[k]:=xaa _ _ _ q;have tk:keyOf (r.take (k+1))=keyOf (r.take k)++keyV r[k]:=by
   unfold keyOf;rw [List.take_add_one,ze q,List.flatMap_append];simp
  have le:(keyOf (r.take (k+1))).length<=(keyOf r).length:=by
   conv=>rhs;rw [<-List.take_append_drop (k+1) r]
   unfold keyOf;rw [List.flatMap_append,z8];omega
  have hl:=hv.len;rw [tk,z8] at le;have e1:=xLh (r.map encV) (r.length:Int) (k:Int) r[k] hv (keyOf (r.take k)) (by omega)
  have kn:keyOf (r.take k)++keyV r[k]=keyOf (r.take k)++numI r[k].k++numI r[k].i++numI (r[k].t.length:Int)++r[k].t:=by rw [xyy];simp only [zw]
  have e2:=xAC r[k].t (keyOf (r.take k)++numI r[k].k++numI r[k].i++numI (r[k].t.length:Int)) (by rw [<-kn,z8];omega)
  rw [xaj (s':=(((k+1:Nat):Int),(keyOf (r.take (k+1))).length,byteAVs (keyOf (r.take (k+1))))) ?_]
  . exact xHC r hr h hk d (k+1) (by omega)
  . rw [tk,kn];simp only [xcq,xhr,xkh,xki,xkj,xkk,xkl,sBU,q,i1,gf,cV0,cV1,cV2,lV,sV,e1,e2,xLZ (n:=k) (by omega)]
theorem xHD (r:Row) (hr:r.length<=1048576) (h:∀ v,v∈r->KOk v) (hk:(keyOf r).length<=17592186044416):xhK (r.map encV)=some (keyOf r):=by
 match r with
 | []=>rfl
 | v::t =>
  have hv:=h v (by simp)
  have hl:=hv.len;have i1:(0:Int)<((t.length+1:Nat):Int):=by omega
  have i2:0<t.length+1:=by omega
  obtain ⟨r1,r2⟩:=xMh hv.1.1;have q:=Lib.itoa_length_le v.k r1 r2;have gf:((v::t).map encV).getD 0 .top=encV v:=rfl;have e0:xaq (Lib.itoa v.k)=some (((Lib.itoa v.k).length:Int),(Lib.itoa v.k).length,byteAVs (Lib.itoa v.k)):=by
   have m1:(Lib.itoa v.k).length<=140737488355328:=by omega
   have m2:(Lib.itoa v.k).length<=4611686018427387904:=by omega
   unfold xaq xdJ;simp only [xk1,Nat.mul_one,m1,m2,zn,Bool.and_self,xab,sUF]
  have e1:xey 32 (Lib.itoa v.k).length (byteAVs (Lib.itoa v.k))=some (([]++numI v.k).length,byteAVs ([]++numI v.k)):=xDK (Lib.itoa v.k) (by rw [z8,zj];omega)
  have e2:=xEx ((v::t).map encV) ((t.length+1:Nat):Int) 0 v hv [] (by simp)
  have kn:keyV v=[]++numI v.k++numI v.i++numI (v.t.length:Int)++v.t:=by rw [xyy];simp
  have e3:=xAC v.t ([]++numI v.k++numI v.i++numI (v.t.length:Int)) (by rw [<-kn];omega)
  rw [<-kn] at e3;have e4:=xHC (v::t) hr h hk t.length 1 (by rw [zF];omega)
  have tk:keyOf ((v::t).take 1)=keyV v:=by simp [keyOf]
  rw [tk,zF] at e4;have e4:Iter (xcq ((v::t).map encV) ((t.length+1:Nat):Int)) ((1:Int),(keyV v).length,byteAVs (keyV v))=_:=e4;have hne:(keyOf (v::t)).length≠0:=fun e=>xAg v (keyOf t) (by rw [<-xk3];exact List.length_eq_zero_iff.1 e)
  unfold xhK xo7 xgH xnn xno xnp xnq xnr xns xnt xnu xnv xca;simp only [za,zF,i1,i2,gf,cV0,cV1,cV2,lV,sV,r1,r2,e0,e1,e2,e3,e4,zn,xab,Bool.and_self,beq_self_eq_true,zk,zh,xk1,xzm,xB6,ne_eq,hne,not_false_eq_true,sUF]
end Go.Sim.M
end
noncomputable section
set_option maxRecDepth 100000
namespace Go.Sim.M
open Go.RowKit
theorem xqi {σ ρ α β:Type} {step:σ->Option (σ⊕ρ)} (l:List α) (g:α->List β) (st:Nat->List β->σ) (rr:List β->ρ) (D0:List β) (c:Nat) (hc:∀ a,a∈l->(g a).length<=c)
  (hs:∀ (n:Nat) (h:n<l.length) (D:List β),D.length<=D0.length+c*n->step (st n D)=some (.inl (st (n+1) (D++g l[n]))))
  (he:∀ D:List β,step (st l.length D)=some (.inr (rr D))):Iter step (st 0 D0)=some (rr (D0++l.flatMap g)):=by
 have key:∀ (d n:Nat) (D:List β),n+d=l.length->D.length<=D0.length+c*n->Iter step (st n D)=some (rr (D++(l.drop n).flatMap g)):=by
  intro d;induction d with
  | zero =>
   intro n D h hD;have:n=l.length:=by omega
   subst this;rw [zq (zd _),List.flatMap_nil,zD];exact xad (he D)
  | succ d ih =>
   intro n D h hD;have hn:n<l.length:=by omega
   have h2:(D++g l[n]).length<=D0.length+c*(n+1):=by
    rw [z8,Nat.mul_add,Nat.mul_one];have:=hc l[n] (zo hn);omega
   rw [xaj (hs n hn D hD),ih (n+1) (D++g l[n]) (by omega) h2,xaw hn,zR,zw]
 have:=key l.length 0 D0 (by omega) (by simp)
 simpa using this
theorem xwR {α β:Type} [Nonempty β] {l:List α} {Q:α->β->Prop} (h:∀ a,a∈l->∃ b,Q a b):∃ L:α->β,∀ a,a∈l->Q a (L a):=by
 classical
 refine ⟨fun a=>if ha:a∈l then (h a ha).choose else Classical.choice inferInstance,fun a ha=>?_⟩
 simp only [dif_pos ha];exact (h a ha).choose_spec
theorem xCJ {α β:Type} (g:α->List β) (f:α->β) (p:α->Bool) (h:∀ a,g a=if p a=true then [f a] else []):∀ l:List α,l.flatMap g=(l.filter p).map f
 | []=>rfl
 | a::l=>by
  rw [zR,xCJ g f p h l,h a,List.filter_cons];cases p a<;>simp
theorem xFc (row:Row) (i:Int):xiP (row.map encV) i=some (trip (atV row i)):=xCr row i
theorem xv8 (row:Row) (l:List Int) (hl:l.length<=1048576):Iter (xds (row.map encV) (l.map encN)) ((0:Nat),(0:Int),[])=some ((l.flatMap (fun (f:Int)=>[atV row f])).length,(l.flatMap (fun (f:Int)=>[atV row f])).map encV):=by
 refine xhi l (fun (f:Int)=>[atV row f]) encV 1 (fun f hf=>?_) (fun n h D hD=>?_) (fun D=>?_)
 . simp
 . have h1:(n:Int)<(l.length:Int):=by omega
   have m1:(D.length+1)*32<=140737488355328:=by omega
   have m2:D.length+1<=4611686018427387904:=by omega
   have gf:(l.map encN).getD n .top=encN l[n]:=xaa _ _ _ h;simp only [xds,xjx,xiR,xiS,sBU,h,h1,gf,cN,sN,xFc,trip,m1,m2,xLZ (n:=n) (by omega)]
   simp [encV]
 . simp only [xds,xjx,xiR,xiS,za,zy,zm,xac,sUF]
theorem xwh (row:Row) (ks:List Int) (hk:ks.length<=1048576):xfF (row.map encV) (ks.map encN)=some ((pick row ks).map encV):=by
 have e:=xv8 row ks hk;rw [xMm] at e;change Iter _ _=some ((pick row ks).length,(pick row ks).map encV) at e;have tt:List.take (pick row ks).length ((pick row ks).map encV)=(pick row ks).map encV:=zi (by simp)
 unfold xfF xsr;simp only [xqS,xqT,xqU,za,e,zn,zS,xab,zk,zh,zH,zr,tt,zd,sUF]
theorem xI8 (row:Row) (ks:List Int) (hk:ks.length<=1048576):xmj (row.map encV) (ks.map encN)=some (xL5 row ks):=by
 have e:=xs9 (step:=xaY (row.map encV) (ks.map encN)) ks (fun k=>(k:Int)) (fun i=>br ((atV row i).k==0) (some (true,true,())) none) (false,false,()) (fun k h=>by
  have h1:(k:Int)<(ks.length:Int):=by omega
  have gf:(ks.map encN).getD k .top=encN ks[k]:=xaa _ _ _ h;simp only [xaY,xgU,sBU,h,h1,gf,cN,sN,xFc,trip,xAo,xtd,xtc,xLZ (n:=k) (by omega)]) (by
  simp only [xaY,xgU,za,zy,zm,xac,sUF]) ks.length 0 (by simp)
 rw [zr,xyp] at e;have e:Iter (xaY (row.map encV) (ks.map encN)) (0:Int)=_:=e;unfold xmj xnZ;rw [e];show _=some (ks.any fun i=>(atV row i).k==0)
 cases ks.any fun i=>(atV row i).k==0<;>rfl
theorem xDu (n:List UInt8) (cs fs ck:List AV) (key:List Int) (row:Row) (hk:key.length<=1048576):xkK n cs (key.map encN) fs ck (row.map encV)=some ((pick row key).map encV):=by
 unfold xkK xtX;rw [xwh row key hk];rfl
theorem xBr (cols:List Int) (t:List UInt8) (row:Row) (hk:cols.length<=1048576):xh9 (cols.map encN) t (row.map encV)=some (!xL5 row cols):=by
 unfold xh9 xpY;rw [xI8 row cols hk];rfl
def Txt (r:Row):Prop:=∀ v,v∈r->v.wf/\v.t.length<=8388608
theorem Txt.at {r:Row} (h:Txt r) (i:Int):(atV r i).wf/\(atV r i).t.length<=8388608:=by
 unfold atV;split
 . exact ⟨⟨by decide,by decide,by simp [maxLen]⟩,by simp⟩
 . rw [z7];cases hg:r[i.toNat]? with
   | none=>exact ⟨⟨by decide,by decide,by simp [maxLen]⟩,by simp⟩
   | some v=>exact h v (List.mem_of_getElem? hg)
theorem xDe {r:Row} {ks:List Int} {v:Val} (h:v∈pick r ks):∃ i,i∈ks/\v=atV r i:=by
 obtain ⟨i,hi,e⟩:=zK.1 h;exact ⟨i,hi,e.symm⟩
theorem Txt.kok {r:Row} (h:Txt r) (ks:List Int):∀ v,v∈pick r ks->KOk v:=fun v hv=>by
 obtain ⟨i,_,rfl⟩:=xDe hv;have:=h.at i;exact ⟨this.1,by omega⟩
theorem xMB {c:Nat}:∀ {r:Row},(∀ v,v∈r->(keyV v).length<=c)->(keyOf r).length<=c*r.length
 | [],_=>by simp [keyOf]
 | v::r,h=>by
  have h1:=h v (by simp)
  have h2:=xMB (r:=r) fun x hx=>h x (by simp [hx])
  rw [xk3,z8,zF,Nat.mul_add,Nat.mul_one];omega
theorem Txt.len {r:Row} (h:Txt r) {ks:List Int} (hk:ks.length<=1048576):(keyOf (pick r ks)).length<=17592186044416:=by
 have h1:(keyOf (pick r ks)).length<=8388674*(pick r ks).length:=xMB fun v hv=>by
  obtain ⟨i,_,rfl⟩:=xDe hv;have:=h.at i;have:=xyw this.1 (by omega)
  omega
 rw [xuT] at h1;omega
theorem xLa (l:List AV):xfP l=xhK l:=rfl
theorem xHn {r:Row} (h:Txt r) {ks:List Int} (hk:ks.length<=1048576):xfP ((pick r ks).map encV)=some (keyOf (pick r ks)):=by
 rw [xLa];exact xHD _ (by rw [xuT];exact hk) (h.kok ks) (h.len hk)
end Go.Sim.M
end
noncomputable section
set_option maxRecDepth 100000
namespace Go.Sim.M
open Go.RowKit Go.Sim.Srt
abbrev Asc (l:List Int):Prop:=l.Pairwise fun x y=>x<y
def insI:List Int->Int->List Int
 | [],n=>[n]
 | x::l,n=>if x<n then x::insI l n else if n<x then n::x::l else x::l
theorem xiF:∀ (l:List Int) (n x:Int),x∈insI l n↔x=n\/x∈l
 | [],n,x=>by simp [insI]
 | y::l,n,x=>by
  unfold insI;split
  . rw [zC,xiF l n x,zC];constructor<;>rintro (h|h|h)<;>simp [h]
  . split
    . simp
    . have:y=n:=by omega
      subst this;simp
theorem xkw:∀ {l:List Int},Asc l->∀ n,Asc (insI l n)
 | [],_,n=>by simp [insI,Asc]
 | y::l,h,n=>by
  obtain ⟨h1,h2⟩:=zM.1 h;unfold insI;split
  . refine zM.2 ⟨fun z hz=>?_,xkw h2 n⟩
    rcases (xiF l n z).1 hz with rfl|hz
    . assumption
    . exact h1 z hz
  . split
    . rename_i hn;refine zM.2 ⟨fun z hz=>?_,h⟩
      rcases zC.1 hz with rfl|hz
      . exact hn
      . have:=h1 z hz;omega
    . exact h
theorem xe8:∀ (l:List Int) (n:Int),(insI l n).length<=l.length+1
 | [],n=>by simp [insI]
 | y::l,n=>by
  unfold insI;have:=xe8 l n;repeat' split
  all_goals simp
  all_goals omega
theorem xys (n:Int):∀ l:List Int,∃ m,m<=l.length/\(∀ k (h:k<m) (h2:k<l.length),l[k]<n)/\(∀ h:m<l.length,¬ l[m]<n)/\insI l n=l.take m++(if h:m<l.length then (if n<l[m] then n::l.drop m else l.drop m) else [n])
 | []=>⟨0,zd _,fun k h=>by omega,fun h=>by simp at h,by simp [insI]⟩
 | y::l=>by
  by_cases hy:y<n
  . obtain ⟨m,h1,h2,h3,h4⟩:=xys n l;refine ⟨m+1,by simpa using h1,fun k h hk=>?_,fun h=>?_,?_⟩
    . cases k with
      | zero=>simpa using hy
      | succ k=>simpa using h2 k (by omega) (by simpa using hk)
    . simpa using h3 (by simpa using h)
    . unfold insI;rw [if_pos hy,h4];by_cases hm:m<l.length<;>simp [hm]
  . refine ⟨0,zQ _,fun k h=>by omega,fun _=>by simpa using hy,?_⟩
    unfold insI;rw [if_neg hy];by_cases h:n<y<;>simp [h]
structure StepI (N:Int->Int) (T:Int) (S:List Per):Prop where
 asc:S.Pairwise fun a b=>a.1<b.1
 mem:∀ s,s∈S↔0<=s.1/\s.1<T/\s.2=N s.1/\(s.1=0\/N (s.1 - 1)≠s.2)
 last:0<T->∃ S' f,S=S'++[(f,N (T - 1))]
theorem StepI.nil (N:Int->Int):StepI N 0 []:=⟨List.Pairwise.nil,fun s=>by simp;omega,fun h=>by omega⟩
def putS (S:List Per) (f n:Int):List Per:=match S.getLast? with
 | some s=>if s.2=n then S else S++[(f,n)]
 | none=>S++[(f,n)]
theorem StepI.unique {N:Int->Int} {T:Int} {S S':List Per} (h:StepI N T S) (h':StepI N T S'):S=S' :=
 xvs xIt xs6 (h.asc.imp fun {x y} q=>by
  have h1:cmpP x y<=0:=xug.2 (.inl q);by_cases h0:cmpP x y=0
  . have:=xs6 x y h0;subst this;omega
  . omega) (h'.asc.imp fun {x y} q=>by
  have h1:cmpP x y<=0:=xug.2 (.inl q);by_cases h0:cmpP x y=0
  . have:=xs6 x y h0;subst this;omega
  . omega) fun s=>by rw [h.mem,h'.mem]
theorem StepI.put {N:Int->Int} {T T':Int} {S:List Per} (h:StepI N T S) (h0:0<=T) (q:T<T') (hc:∀ t,T<=t->t<T'->N t=N T):StepI N T' (putS S T (N T)):=by
 rcases Int.lt_or_eq_of_le h0 with hp|hz
 . obtain ⟨S',f,rfl⟩:=h.last hp;unfold putS;rw [List.getLast?_append];simp only [List.getLast?_singleton,Option.some_or];by_cases he:N (T - 1)=N T
   . rw [if_pos he];refine ⟨h.asc,fun s=>?_,fun _=>⟨S',f,by rw [he,hc (T' - 1) (by omega) (by omega)]⟩⟩
     rw [h.mem];constructor
     . rintro ⟨a,b,c,d⟩;exact ⟨a,by omega,c,d⟩
     . rintro ⟨a,b,c,d⟩;refine ⟨a,?_,c,d⟩;rcases Int.lt_or_le s.1 T with hs|hs
       . exact hs
       . exfalso;have e1:=hc s.1 hs b;rcases d with d|d
         . omega
         . rcases Int.lt_or_eq_of_le hs with h2|h2
           . have e2:=hc (s.1 - 1) (by omega) (by omega)
             exact d (by rw [e2,c,e1])
           . rw [<-h2] at d c;exact d (by rw [he,c])
   . rw [if_neg he];refine ⟨?_,fun s=>?_,fun _=>⟨_,T,by rw [hc (T' - 1) (by omega) (by omega)]⟩⟩
     . rw [List.pairwise_append];refine ⟨h.asc,List.pairwise_singleton _ _,fun a ha b hb=>?_⟩
       simp only [zv] at hb;subst hb;exact ((h.mem a).1 ha).2.1
     . rw [zG,h.mem,zv];constructor
       . rintro (⟨a,b,c,d⟩|rfl)
         . exact ⟨a,by omega,c,d⟩
         . exact ⟨h0,q,rfl,.inr he⟩
       . rintro ⟨a,b,c,d⟩;rcases Int.lt_or_le s.1 T with hs|hs
         . exact .inl ⟨a,hs,c,d⟩
         . right;have e1:=hc s.1 hs b;rcases Int.lt_or_eq_of_le hs with h2|h2
           . exfalso;have e2:=hc (s.1 - 1) (by omega) (by omega)
             rcases d with d|d
             . omega
             . exact d (by rw [e2,c,e1])
           . exact Prod.ext h2.symm (by rw [c,e1])
 . subst hz;have hS:S=[]:=by
    rw [List.eq_nil_iff_forall_not_mem];intro s hs;have:=(h.mem s).1 hs;omega
   subst hS;refine ⟨by simp [putS],fun s=>?_,fun _=>⟨[],0,by simp [putS];exact (hc (T' - 1) (by omega) (by omega)).symm⟩⟩
   simp only [putS,List.getLast?_nil,zU,zv];constructor
   . rintro rfl;exact ⟨Int.le_refl _,q,rfl,.inl rfl⟩
   . rintro ⟨a,b,c,d⟩;have e1:=hc s.1 a b;rcases Int.lt_or_eq_of_le a with h2|h2
     . exfalso;have e2:=hc (s.1 - 1) (by omega) (by omega)
       rcases d with d|d
       . omega
       . exact d (by rw [e2,c,e1])
     . exact Prod.ext h2.symm (by rw [c,e1])
theorem xDo (S:List Per) (f n:Int):(putS S f n).length<=S.length+1:=by
 unfold putS;repeat' split
 all_goals simp
def sumC (l:List Cnt) (t:Int):Int:=(l.map fun c=>if hasP c.1 t=true then c.2 else 0).sum
theorem xnf (c:Cnt) (l:List Cnt) (t:Int):sumC (c::l) t=(if hasP c.1 t=true then c.2 else 0)+sumC l t:=by simp [sumC]
theorem xEu (a b:List Cnt) (t:Int):sumC (a++b) t=sumC a t+sumC b t:=by simp [sumC]
theorem xDD (t:Int):sumC [] t=0:=rfl
theorem xzV {T T':Int}:∀ {l:List Cnt},(∀ c,c∈l->pv c.1=true->¬ (T<c.1.1/\c.1.1<T')/\¬ (T<c.1.2/\c.1.2<T'))->∀ t,T<=t->t<T'->sumC l t=sumC l T
 | [],_,t,_,_=>rfl
 | c::l,h,t,h1,h2=>by
  rw [xnf,xnf,xzV (fun c hc=>h c (by simp [hc])) t h1 h2]
  congr 2;cases hv:pv c.1 with
  | false=>simp [hasP,hv]
  | true =>
   have:=h c (by simp) hv
   simp only [hasP,hv,Bool.true_and,zf,zl,eq_iff_iff];omega
theorem xDC (B:Int) (hB:0<=B) (t:Int):∀ l:List Cnt,(∀ c,c∈l->-B<=c.2/\c.2<=B)->-(B*l.length)<=sumC l t/\sumC l t<=B*l.length
 | [],_=>by simp [xDD]
 | c::l,h=>by
  have ih:=xDC B hB t l fun c hc=>h c (by simp [hc])
  have hc:=h c (by simp)
  rw [xnf,zF,show B*((l.length+1:Nat):Int)=B*(l.length:Int)+B by rw [Int.natCast_add,Int.mul_add];simp]
  split<;>omega
theorem xBC (ps:List Per) (t:Int):sumC (ps.map fun p=>(p,(1:Int))) t=(ps.countP (hasP · t):Nat):=by
 induction ps with
 | nil=>rfl
 | cons p ps ih =>
  rw [zV,xnf,ih,List.countP_cons];split<;>simp_all<;>omega
theorem xLf (l:List Int) (n:Int) (hl:l.length<=1048576) (m:Nat) (hm:m<=l.length) (h1:∀ k (h:k<m) (h2:k<l.length),l[k]<n) (h2:∀ h:m<l.length,¬ l[m]<n) :
  Iter (xbH (l.map encN) n) ((0:Nat),(0:Int),[])=some (m,(m:Int),(l.take m).map encN):=by
 refine xkz (fun k=>((k,(k:Int),(l.take k).map encN):Nat×Int×List AV)) m _ (fun k hk=>?_) ?_ m 0 (by omega)
 . have q:k<l.length:=by omega
   have i1:(k:Int)<(l.length:Int):=by omega
   have i2:=h1 k hk q;have m1:(k+1)*8<=140737488355328:=by omega
   have m2:k+1<=4611686018427387904:=by omega
   have tl:(l.take k).length=k:=by rw [zt];omega
   have gf:(l.map encN).getD k .top=encN l[k]:=xaa _ _ _ q;simp only [xbH,xff,sBU,q,i1,i2,gf,cN,sN,tl,m1,m2,xLZ (n:=k) (by omega)]
   rw [List.take_add_one,ze q,zx];rfl
 . by_cases hml:m<l.length
   . have i1:(m:Int)<(l.length:Int):=by omega
     have i2:=h2 hml;have gf:(l.map encN).getD m .top=encN l[m]:=xaa _ _ _ hml;simp only [xbH,xff,sBU,hml,i1,i2,gf,cN,sN]
   . have i1:¬ (m:Int)<(l.length:Int):=by omega
     simp only [xbH,xff,sBU,i1]
theorem xCS (l:List Int) (hl:l.length<=1048576):∀ (d i:Nat) (D:List Int),i+d=l.length->D.length<=1048576+i ->
  Iter (xbI (l.map encN)) (D.length,(i:Int),D.map encN)=some ((D++l.drop i).length,(D++l.drop i).map encN)
 | 0,i,D,h,hD=>by
  obtain rfl:i=l.length:=by omega
  rw [zq (zd _),zD];refine xad ?_;simp only [xbI,xhz,za,zy,zm,xac,sUF]
 | d+1,i,D,h,hD=>by
  have q:i<l.length:=by omega
  have i1:(i:Int)<(l.length:Int):=by omega
  have m1:(D.length+1)*8<=140737488355328:=by omega
  have m2:D.length+1<=4611686018427387904:=by omega
  have gf:(l.map encN).getD i .top=encN l[i]:=xaa _ _ _ q;rw [xaj (s':=((D++[l[i]]).length,((i+1:Nat):Int),(D++[l[i]]).map encN)) ?_,xCS l hl d (i+1) (D++[l[i]]) (by omega) (by rw [z8];simp;omega),xaw q,zw]
  . rfl
  . simp only [xbI,xhz,sBU,q,i1,gf,cN,sN,m1,m2,xLZ (n:=i) (by omega)]
    simp [encN]
theorem xm8 (l:List Int) (n:Int) (hl:l.length<=1048576):xaA (l.map encN) n=some ((insI l n).map encN):=by
 obtain ⟨m,hm,h1,h2,h3⟩:=xys n l;have e0:=xLf l n hl m hm h1 h2;have tl:(l.take m).length=m:=by rw [zt];omega
 have e1:=xCS l hl (l.length - m) m (l.take m++[n]) (by omega) (by rw [z8,tl];simp;omega)
 have e2:=xCS l hl (l.length - m) m (l.take m) (by omega) (by omega)
 rw [z8,tl,zx] at e1;rw [tl] at e2;have e1:Iter (xbI (l.map encN)) (m+1,(m:Int),(l.take m).map encN++[AV.int .i64 n])=some ((l.take m++[n]++l.drop m).length,(l.take m++[n]++l.drop m).map encN):=e1;have m1:(m+1)*8<=140737488355328:=by omega
 have m2:m+1<=4611686018427387904:=by omega
 rw [h3];unfold xaA xpa xmG;by_cases hml:m<l.length
 . have i1:((m:Int)==(l.length:Int))=false:=by simp;omega
   have i2:(m:Int)<(l.length:Int):=by omega
   have gf:(l.map encN).getD m .top=encN l[m]:=xaa _ _ _ hml;rw [dif_pos hml];by_cases hn:n<l[m]
   . have i3:l[m]>n:=hn;simp only [xa4,xgK,xgL,xgM,xjX,xgN,xgO,xgP,xgQ,xgR,xel,xiN,xem,xen,xf6,xf7,e0,zk,zh,za,i1,i2,hml,gf,cN,sN,i3,m1,m2,tl,e1,sBU,sOO,↓reduceIte,zw,List.singleton_append]
   . have i3:¬ l[m]>n:=hn;simp only [xa4,xgK,xgL,xgM,xjX,xgN,xgO,xgP,xgQ,xgR,xel,xiN,xem,xen,xf6,xf7,e0,zk,zh,za,i1,i2,hml,gf,cN,sN,i3,e2,sBU,sOO,↓reduceIte]
 . have i1:((m:Int)==(l.length:Int))=true:=by simp;omega
   rw [dif_neg hml];have hd:l.drop m=[]:=zq (by omega)
   rw [hd,zD] at e1;simp only [xa4,xgK,xgL,xgM,xjX,xgN,xgO,xgP,xgQ,xgR,xel,xiN,xem,xen,xf6,xf7,e0,zk,zh,za,i1,m1,m2,tl,e1,sBU,sOO]
theorem xrY {α:Type} (l:List α):l=[]\/∃ m a,l=m++[a]:=by
 rcases List.eq_nil_or_concat l with h|⟨m,a,h⟩
 . exact .inl h
 . exact .inr ⟨m,a,by rw [h,List.concat_eq_append]⟩
theorem xFb (S:List Per) (f n:Int) (hS:S.length<=16777216):∃ p,xql S.length f n (S.map encP)=some p/\br p.1 p.2.1.1 p.2.2.1=(putS S f n).length/\br p.1 p.2.1.2 p.2.2.2=(putS S f n).map encP:=by
 have m1:(S.length+1)*16<=140737488355328:=by omega
 have m2:S.length+1<=4611686018427387904:=by omega
 rcases xrY S with rfl|⟨S',s,rfl⟩
 . refine ⟨(false,(0,[]),(1,[encP (f,n)])),?_,rfl,rfl⟩;unfold xql xqb xjj;simp [xaD,encP,sUF]
 . have hk:IntKind.i64.wrap (((S'++[s]).length:Int) - 1)=((S'.length:Nat):Int):=by
    rw [z8,xbs (by simp<;>omega) (by simp at hS |-<;>omega)];simp
   have g1:((S'++[s]).length:Int)>0:=by simp<;>omega
   have g2:(S'.length:Int)<((S'++[s]).length:Int):=by simp<;>omega
   have g3:S'.length<(S'++[s]).length:=by simp
   have gf:((S'++[s]).map encP).getD S'.length .top=encP s:=by
    rw [xaa _ _ _ (by simp)];simp
   have hl:(S'++[s]).getLast?=some s:=by simp
   by_cases he:s.2=n
   . refine ⟨(true,((S'++[s]).length,(S'++[s]).map encP),(0,[])),?_,?_,?_⟩
     . unfold xql xqb xjj;simp only [hk,g1,g2,g3,gf,sBU,cP0,cP1,lP,sP,sP0,sP1,he]
     . simp only [xab,putS,hl,if_pos he,sUF]
     . simp only [xab,putS,hl,if_pos he,sUF]
   . have he':(s.2==n)=false:=by simp [he]
     refine ⟨(false,(0,[]),((S'++[s]).length+1,(S'++[s]).map encP++[encP (f,n)])),?_,?_,?_⟩
     . unfold xql xqb xjj;simp only [hk,g1,g2,g3,gf,sBU,cP0,cP1,lP,sP,sP0,sP1,he',m1,m2];rfl
     . simp only [xac,putS,hl,if_neg he,sUF];simp
     . simp only [xac,putS,hl,if_neg he,sUF];simp
def ptsC (l:List Cnt):List Int:=l.foldl (fun P c=>if pv c.1=true then insI (insI P c.1.1) c.1.2 else P) [0]
theorem xDm (l:List Cnt) (c:Cnt):ptsC (l++[c])=if pv c.1=true then insI (insI (ptsC l) c.1.1) c.1.2 else ptsC l:=by simp [ptsC]
theorem xDn:∀ l:List Cnt,Asc (ptsC l.reverse)/\∀ x,x∈ptsC l.reverse↔x=0\/∃ c,c∈l/\pv c.1=true/\(x=c.1.1\/x=c.1.2)
 | []=>by simp [ptsC,Asc]
 | c::l=>by
  obtain ⟨h1,h2⟩:=xDn l;rw [List.reverse_cons,xDm];split
  . rename_i hv;refine ⟨xkw (xkw h1 _) _,fun x=>?_⟩
    rw [xiF,xiF,h2];constructor
    . rintro (h|h|h|⟨c',a,b,d⟩)
      . exact .inr ⟨c,by simp,hv,.inr h⟩
      . exact .inr ⟨c,by simp,hv,.inl h⟩
      . exact .inl h
      . exact .inr ⟨c',by simp [a],b,d⟩
    . rintro (h|⟨c',a,b,d⟩)
      . exact .inr (.inr (.inl h))
      . rcases zC.1 a with rfl|a
        . rcases d with d|d
          . exact .inr (.inl d)
          . exact .inl d
        . exact .inr (.inr (.inr ⟨c',a,b,d⟩))
  . rename_i hv;refine ⟨h1,fun x=>?_⟩
    rw [h2];constructor
    . rintro (h|⟨c',a,b,d⟩)
      . exact .inl h
      . exact .inr ⟨c',by simp [a],b,d⟩
    . rintro (h|⟨c',a,b,d⟩)
      . exact .inl h
      . rcases zC.1 a with rfl|a
        . exact absurd b hv
        . exact .inr ⟨c',a,b,d⟩
theorem xLl (l:List Cnt):Asc (ptsC l)/\∀ x,x∈ptsC l↔x=0\/∃ c,c∈l/\pv c.1=true/\(x=c.1.1\/x=c.1.2):=by
 have:=xDn l.reverse;simpa using this
theorem xLO (l:List Cnt) (hl:l.length<=262144):Iter (xf8 (l.map encC)) ([AV.int IntKind.i64 (0:Int)],(0:Int))=some ((ptsC l).map encN)/\(ptsC l).length<=2*l.length+1:=by
 have q:∀ l:List Cnt,(ptsC l.reverse).length<=2*l.length+1:=fun l=>by
  induction l with
  | nil=>simp [ptsC]
  | cons c l ih =>
   rw [List.reverse_cons,xDm];have a1:=xe8 (ptsC l.reverse) c.1.1;have a2:=xe8 (insI (ptsC l.reverse) c.1.1) c.1.2;split<;>simp<;>omega
 refine ⟨?_,by have:=q l.reverse;simpa using this⟩
 refine xm9 l (fun P c=>if pv c.1=true then insI (insI P c.1.1) c.1.2 else P) (fun n b=>(b.map encN,(n:Int))) (fun n b=>b.length<=2*n+1) (fun n h b hb=>?_) l.length 0 [0] (by omega) (by simp) ?_
 . have h1:(n:Int)<(l.length:Int):=by omega
   have gf:(l.map encC).getD n .top=encC l[n]:=xaa _ _ _ h;have a1:=xe8 b l[n].1.1;have a2:=xe8 (insI b l[n].1.1) l[n].1.2;have i1:=xm8 b l[n].1.1 (by omega)
   have i2:=xm8 (insI b l[n].1.1) l[n].1.2 (by omega)
   refine ⟨?_,by split<;>omega⟩
   simp only [xf8,xqP,xhU,sBU,h,h1,gf,cC0,cC1,cC2,lC,sC,sC3,sC2,xqy,i1,i2,xLZ (n:=n) (by omega),sC0,sC1]
   cases pv l[n].1<;>simp [xab,xac,sUF]
 . simp only [zr];simp only [xf8,xqP,xhU,za,zy,zm,xac,sUF];rfl
def Tame (l:List Cnt):Prop:=l.length<=262144/\∀ c,c∈l->-1099511627776<=c.2/\c.2<=1099511627776
theorem xLP (l:List Cnt) (hl:Tame l) (P:List Int) (hP:P.length<=1048576) (on k:Nat) (hk:k<P.length) (ox:List AV):Iter (xga (l.map encC) (P.map encN) on (k:Int)) ((0:Int),(0:Int),ox)=some (sumC l P[k],ox):=by
 have k1:(k:Int)<(P.length:Int):=by omega
 have gk:(P.map encN).getD k .top=encN P[k]:=xaa _ _ _ hk;have J:=hl.1;refine xkz (fun i=>((sumC (l.take i) P[k],(i:Int),ox):Int×Int×List AV)) l.length _ (fun i hi=>?_) ?_ l.length 0 (by omega)
 . have h1:(i:Int)<(l.length:Int):=by omega
   have gf:(l.map encC).getD i .top=encC l[i]:=xaa _ _ _ hi;have hs:sumC (l.take (i+1)) P[k]=sumC (l.take i) P[k]+if hasP l[i].1 P[k]=true then l[i].2 else 0:=by
    rw [List.take_add_one,ze hi,xEu];show _+sumC [l[i]] P[k]=_;rw [xnf,xDD];omega
   have hb:=xDC 1099511627776 (by omega) P[k] (l.take i) fun c hc=>hl.2 c (List.mem_of_mem_take hc)
   have q:(l.take i).length=i:=by rw [zt];omega
   rw [q] at hb;have hc:=hl.2 l[i] (zo hi);have hw:hasP l[i].1 P[k]=true->IntKind.i64.wrap (sumC (l.take i) P[k]+l[i].2)=sumC (l.take i) P[k]+l[i].2:=fun _=>xbs (by omega) (by omega)
   simp only [xga,xqQ,sBU,hi,h1,hk,k1,gf,gk,cC0,cC1,cC2,lC,sC,sC3,sC2,cN,sN,xyI,xLZ (n:=i) (by omega),hs]
   cases hc:hasP l[i].1 P[k] with
   | false=>simp [xac,sUF]
   | true=>rw [xab,hw hc];rfl
 . simp only [xga,xqQ,za,zy,zm,xac,y7,sUF]
theorem xLo (l:List Cnt) (hl:Tame l):∃ S,xyL (l.map encC)=some (S.map encP)/\StepI (sumC l) 1099511627776 S/\S.length<=2*l.length+1:=by
 obtain ⟨e0,am⟩:=xLO l hl.1;obtain ⟨V,U⟩:=xLl l;generalize hP:ptsC l=P at *;have al:=hl.1;have O:∀ x,x∈P->0<=x/\x<=1099511627776:=fun x hx=>by
  rcases (U x).1 hx with rfl|⟨c,_,hv,h⟩
  . omega
  . have:=xbi.1 hv;rcases h with rfl|rfl<;>omega
 obtain ⟨m,hm,W,Q⟩:∃ m,m<=P.length/\(∀ k (h:k<P.length),k<m->P[k]<1099511627776)/\∀ h:m<P.length,¬ P[m]<1099511627776:=by
  obtain ⟨m,a,b,c,_⟩:=xys 1099511627776 P;exact ⟨m,a,fun k h hk=>b k hk h,c⟩
 let G:Nat->List Per:=fun k=>(P.take k).foldl (fun S p=>putS S p (sumC l p)) []
 have hG:∀ k (h:k<P.length),G (k+1)=putS (G k) P[k] (sumC l P[k]):=fun k h=>by
  simp only [G];rw [List.take_add_one,ze h,List.foldl_append];rfl
 have ac:∀ k,k<=P.length->(G k).length<=k:=fun k=>by
  induction k with
  | zero=>intro _;simp [G]
  | succ k ih=>intro h;rw [hG k (by omega)];have:=xDo (G k) P[k] (sumC l P[k]);have:=ih (by omega);omega
 have aa:0<P.length:=List.length_pos_of_mem ((U 0).2 (.inl rfl));have q:P[0]=0:=by
  have h0:=(O P[0] (zo aa)).1;obtain ⟨j,hj,ad⟩:=zp.1 ((U 0).2 (.inl rfl));rcases Nat.eq_zero_or_pos j with rfl|ab
  . exact ad
  . have:=zB.1 V 0 j aa hj ab;omega
 have ak:0<m:=by
  rcases Nat.eq_zero_or_pos m with rfl|h
  . exact absurd (by rw [q];omega) (Q aa)
  . exact h
 have nb:∀ k (h:k<P.length) T',(∀ h2:k+1<P.length,T'<=P[k+1])->T'<=1099511627776->∀ t,P[k]<=t->t<T'->sumC l t=sumC l P[k]:=fun k h T' hT hF t h1 h2=>by
  have no:∀ x,x∈P->¬ (P[k]<x/\x<T'):=fun x hx ⟨a,b⟩=>by
   obtain ⟨j,hj,rfl⟩:=zp.1 hx;rcases Nat.lt_trichotomy j k with Z|rfl|Z
   . have:=zB.1 V j k hj h Z;omega
   . omega
   . rcases Nat.lt_or_eq_of_le Z with h3|h3
     . have:=zB.1 V (k+1) j (by omega) hj h3
       have:=hT (by omega);omega
     . have h4:j=k+1:=h3.symm;subst h4;have:=hT hj;omega
  refine xzV (T:=P[k]) (T':=T') (fun c hc hv=>⟨no _ ((U _).2 (.inr ⟨c,hc,hv,.inl rfl⟩)),no _ ((U _).2 (.inr ⟨c,hc,hv,.inr rfl⟩))⟩) t h1 h2
 have inv:∀ k (h:k<P.length),k<m->StepI (sumC l) P[k] (G k):=fun k=>by
  induction k with
  | zero=>intro h _;rw [q];exact .nil _
  | succ k ih =>
   intro h ae;rw [hG k (by omega)]
   have h1:=zB.1 V k (k+1) (by omega) h (by omega)
   have h2:=W (k+1) h ae;exact (ih (by omega) (by omega)).put (O _ (zo (by omega))).1 h1 (nb k (by omega) P[k+1] (fun _=>Int.le_refl _) (by omega))
 have ag:StepI (sumC l) 1099511627776 (G m):=by
  obtain ⟨k,rfl⟩:∃ k,m=k+1:=⟨m - 1,by omega⟩
  rw [hG k (by omega)]
  exact (inv k (by omega) (by omega)).put (O _ (zo (by omega))).1 (W k (by omega) (by omega)) (nb k (by omega) _ (fun h2=>by have:=Q h2;omega) (Int.le_refl _))
 refine ⟨G m,?_,ag,by have:=ac m hm;omega⟩
 have e1:Iter (xf9 (l.map encC) (P.map encN)) ((0:Nat),(0:Int),[])=some ((G m).length,(G m).map encP):=by
  refine xkz (fun k=>(((G k).length,(k:Int),(G k).map encP):Nat×Int×List AV)) m _ (fun k hk=>?_) ?_ m 0 (by omega)
  . have J:k<P.length:=by omega
    have k1:(k:Int)<(P.length:Int):=by omega
    have k2:=W k J hk;have gk:(P.map encN).getD k .top=encN P[k]:=xaa _ _ _ J;have e2:=xLP l hl P (by omega) (G k).length k J ((G k).map encP)
    have aj:=ac k (by omega)
    obtain ⟨p,ah,ai,af⟩:=xFb (G k) P[k] (sumC l P[k]) (by omega)
    simp only [xf9,xmi,xhV,xhW,xhX,xhY,xhZ,xhx,xh0,sBU,J,k1,k2,gk,cN,sN,e2,ah,ai,af,xLZ (n:=k) (by omega),hG k J]
  . by_cases Y:m<P.length
    . have k1:(m:Int)<(P.length:Int):=by omega
      have k2:=Q Y;have gk:(P.map encN).getD m .top=encN P[m]:=xaa _ _ _ Y;simp only [xf9,xmi,xhV,xhW,xhX,xhY,xhZ,xhx,xh0,sBU,Y,k1,k2,gk,cN,sN]
    . have k1:¬ (m:Int)<(P.length:Int):=by omega
      simp only [xf9,xmi,xhV,xhW,xhX,xhY,xhZ,xhx,xh0,sBU,k1]
 unfold xyL xzG;simp only [xtH,xtI,xtJ,xtK,e0,zh,zk,xab,e1,sOO,sUF]
end Go.Sim.M
end
noncomputable section
set_option maxRecDepth 100000
namespace Go.Sim.M
open Go.RowKit Go.Sim.Srt Go.Sort
def chg (c:Cnt):List Per:=if pv c.1=true then [(c.1.1,c.2),(c.1.2,-c.2)] else []
theorem xEJ {l:List Cnt}:∀ s,s∈l.flatMap chg->0<=s.1/\s.1<=1099511627776:=fun s hs=>by
 obtain ⟨c,hc,h⟩:=y6.1 hs;unfold chg at h;split at h
 . rename_i hv;have:=xbi.1 hv;simp only [zC,List.not_mem_nil,or_false] at h;rcases h with rfl|rfl<;>dsimp only<;>omega
 . simp at h
theorem xJK (c:Cnt):(chg c).length<=2:=by unfold chg;split<;>simp
def sumS (S:List Per) (t:Int):Int:=(S.map fun s=>if s.1<=t then s.2 else 0).sum
theorem xyf (a b:List Per) (t:Int):sumS (a++b) t=sumS a t+sumS b t:=by simp [sumS]
theorem xJj {a b:List Int} (h:a.Perm b):a.sum=b.sum:=by
 induction h with
 | nil=>rfl
 | cons x _ ih=>simp [ih]
 | swap x y l=>simp;omega
 | trans _ _ h1 h2=>rw [h1,h2]
theorem xIg {a b:List Per} (h:a.Perm b) (t:Int):sumS a t=sumS b t:=xJj (h.map _)
theorem xDE (t:Int):∀ l:List Cnt,sumS (l.flatMap chg) t=sumC l t
 | []=>rfl
 | c::l=>by
  rw [zR,xyf,xDE t l,xnf];congr 1;unfold chg;cases hv:pv c.1 with
  | false=>simp [sumS,hasP,hv]
  | true =>
   have:=xbi.1 hv;simp only [if_true,sumS,zV,zW,List.sum_cons,List.sum_nil,hasP,hv,Bool.true_and,zf,zl];by_cases h1:c.1.1<=t<;>by_cases h2:c.1.2<=t
   . rw [if_pos h1,if_pos h2,if_neg (by omega)];omega
   . rw [if_pos h1,if_neg h2,if_pos (by omega)];omega
   . omega
   . rw [if_neg h1,if_neg h2,if_neg (by omega)];omega
theorem sum0:∀ L:List Per,(L.map fun _=>(0:Int)).sum=0
 | []=>rfl
 | _::L=>by rw [zV,List.sum_cons,sum0 L];rfl
def preS (S:List Per) (i:Nat):Int:=((S.take i).map (·.2)).sum
theorem xBk (S:List Per) (i:Nat) (h:i<S.length):preS S (i+1)=preS S i+S[i].2:=by
 unfold preS;rw [List.take_add_one,ze h,zx,List.sum_append];simp
theorem xIZ (S:List Per) (i:Nat) (hi:i<=S.length) (t:Int) (h1:∀ k (h:k<S.length),k<i->S[k].1<=t) (h2:∀ k (h:k<S.length),i<=k->t<S[k].1):preS S i=sumS S t:=by
 have e:S=S.take i++S.drop i:=(List.take_append_drop i S).symm
 conv=>rhs;rw [e]
 rw [xyf];have a1:sumS (S.take i) t=preS S i:=by
  unfold sumS preS;congr 1;refine List.map_congr_left fun s hs=>?_
  obtain ⟨k,hk,rfl⟩:=zp.1 hs;rw [zt] at hk;rw [List.getElem_take,if_pos (h1 k (by omega) (by omega))]
 have a2:sumS (S.drop i) t=0:=by
  unfold sumS;have:(S.drop i).map (fun s=>if s.1<=t then s.2 else 0)=(S.drop i).map fun _=>(0:Int):=by
   refine List.map_congr_left fun s hs=>?_
   obtain ⟨k,hk,rfl⟩:=zp.1 hs;rw [y4] at hk;have:=h2 (i+k) (by omega) (by omega)
   rw [List.getElem_drop,if_neg (by omega)]
  rw [this];exact sum0 _
 omega
theorem xDi {B:Int} (hB:0<=B) (S:List Per) (h:∀ s,s∈S->-B<=s.2/\s.2<=B):∀ i,i<=S.length->-(B*i)<=preS S i/\preS S i<=B*i
 | 0,_=>by simp [preS]
 | i+1,hi=>by
  have ih:=xDi hB S h i (by omega)
  have hs:=h S[i] (zo (by omega))
  rw [xBk S i (by omega),show B*((i+1:Nat):Int)=B*(i:Int)+B by rw [Int.natCast_add,Int.mul_add];simp]
  omega
def toS (e:Per):TyS:=(Fin.ofNat 1099511627777 e.1.toNat,e.2)
def ofS (x:TyS):Per:=((x.1.val:Int),x.2)
theorem xJ1 {e:Per} (h1:0<=e.1) (h2:e.1<=1099511627776):ofS (toS e)=e:=by
 have:e.1.toNat % 1099511627777=e.1.toNat:=Nat.mod_eq_of_lt (by omega)
 simp only [ofS,toS,Fin.ofNat,this,Int.toNat_of_nonneg h1]
theorem xKr (E:List Per) (h:∀ e,e∈E->0<=e.1/\e.1<=1099511627776):(E.map encP).all isS=true/\∃ S:List Per,srtS (E.map encP)=S.map encP/\S.Perm E/\S.Pairwise fun x y=>x.1<=y.1:=by
 refine ⟨?_,(pdqL cmpS (E.map toS)).map ofS,?_,?_,?_⟩
 . rw [zI];intro x hx;obtain ⟨e,he,rfl⟩:=zK.1 hx;have:=h e he;show (decide _&&decide _)=true;rw [decide_eq_true this.1,decide_eq_true this.2];rfl
 . unfold srtS;have e1:(E.map encP).map decS=E.map toS:=by rw [List.map_map];rfl
   rw [e1,List.map_map];rfl
 . have hp:=((xna cmpS swoS (E.map toS)).1).map ofS;have e2:(E.map toS).map ofS=E:=by
    rw [List.map_map]
    conv=>rhs;rw [<-List.map_id E]
    refine List.map_congr_left fun e he=>?_
    exact xJ1 (h e he).1 (h e he).2
   rwa [e2] at hp
 . rw [List.pairwise_map];refine (xtG cmpS swoS (E.map toS)).imp fun {x y} q=>?_
   show ((x.1.val:Nat):Int)<=((y.1.val:Nat):Int);unfold cmpS at q;omega
theorem xJU (n o:Nat):xja n o=xdj n o 0:=rfl
theorem xyX (l:List Cnt) (hl:l.length<=1048576) (ht:∀ c,c∈l->-1099511627776<=c.2/\c.2<=1099511627776):Iter (xev (l.map encC) ((l.length:Nat):Int)) ((0:Nat),(0:Int),[])=some ((l.flatMap (fun (f:Cnt)=>chg f)).length,(l.flatMap (fun (f:Cnt)=>chg f)).map encP):=by
 refine xhi l (fun (f:Cnt)=>chg f) encP 2 (fun f hf=>?_) (fun n h D hD=>?_) (fun D=>?_)
 . cases q:(pv (f).1)<;>simp [chg,q]
 . have h1:(n:Int)<(l.length:Int):=by omega
   have m1:(D.length+2)*16<=140737488355328:=by omega
   have m2:D.length+2<=4611686018427387904:=by omega
   have gf:(l.map encC).getD n .top=encC l[n]:=xaa _ _ _ h;have hm:=ht l[n] (zo h);have hw:IntKind.i64.wrap (0 - l[n].2)=-l[n].2:=by rw [xbs (by omega) (by omega)];omega
   simp only [xev,xmr,sBU,h,h1,gf,cC0,cC1,cC2,lC,sC,sC3,sC2,xnb,hw,m1,m2,xLZ (n:=n) (by omega)]
   cases q:(pv (l[n]).1)<;>simp [encP,xab,xac,encR,chg,q,sUF]
 . simp only [xev,xmr,za,zy,zm,xac,sUF]
theorem xyr (S:List Per) (hS:S.length<=1048576) (hb:∀ s,s∈S->-1099511627776<=s.2/\s.2<=1099511627776) (on:Nat) (at':Int) (ox:List AV):∀ (d i:Nat),i+d=S.length->∃ j:Nat,i<=j/\j<=S.length/\(∀ k (h:k<S.length),i<=k->k<j->S[k].1=at')/\(∀ h:j<S.length,S[j].1≠at') /\
  Iter (xdj S.length on at') (preS S i,(i:Int),S.map encP,ox)=some (preS S j,(j:Int),S.map encP,ox)
 | 0,i,h=>by
  refine ⟨i,zd _,by omega,fun k _ h1 h2=>by omega,fun h=>by omega,xad ?_⟩
  have i1:¬ (i:Int)<(S.length:Int):=by omega
  simp only [xdj,xjp,xit,i1,zm,xac,sUF]
 | d+1,i,h=>by
  have hi:i<S.length:=by omega
  have i1:(i:Int)<(S.length:Int):=by omega
  have gf:(S.map encP).getD i .top=encP S[i]:=xaa _ _ _ hi;by_cases he:S[i].1=at'
  . obtain ⟨j,h1,h2,h3,h4,h5⟩:=xyr S hS hb on at' ox d (i+1) (by omega)
    refine ⟨j,by omega,h2,fun k hk a b=>?_,h4,?_⟩
    . rcases Nat.lt_or_eq_of_le a with a|a
      . exact h3 k hk a b
      . subst a;exact he
    . have hp:=xDi (B:=1099511627776) (by omega) S hb i (by omega)
      have hs:=hb S[i] (zo hi);rw [xaj (s':=(preS S (i+1),((i+1:Nat):Int),S.map encP,ox)) ?_,h5];simp only [xdj,xjp,xit,sBU,hi,i1,gf,cP0,cP1,lP,sP,sP0,sP1,he,xLZ (n:=i) (by omega),xBk S i hi]
      rw [xbs (by omega) (by omega)]
  . have he':(S[i].1==at')=false:=by simp [he]
    refine ⟨i,zd _,by omega,fun k _ h1 h2=>by omega,fun _=>he,xad ?_⟩
    simp only [xdj,xjp,xit,sBU,hi,i1,gf,cP0,cP1,lP,sP,sP0,sP1,he']
theorem xse (l:List Cnt) (hl:Tame l):∃ S,xu8 (l.map encC)=some (S.map encP)/\StepI (sumC l) 1099511627776 S/\S.length<=2*l.length+1:=by
 have aq:=hl.1;have e0:=xyX l (by omega) hl.2
 have hE:=xiD (g:=chg) (c:=2) l fun c _=>xJK c
 obtain ⟨ag,S,hS,hp,an⟩:=xKr (l.flatMap chg) xEJ;have af:S.length=(l.flatMap chg).length:=hp.length_eq;have Q:∀ s,s∈S->0<=s.1/\s.1<=1099511627776:=fun s hs=>xEJ s (hp.mem_iff.1 hs)
 have hb:∀ s,s∈S->-1099511627776<=s.2/\s.2<=1099511627776:=fun s hs=>by
  obtain ⟨c,hc,h⟩:=y6.1 (hp.mem_iff.1 hs);have:=hl.2 c hc;unfold chg at h;split at h
  . simp only [zC,List.not_mem_nil,or_false] at h;rcases h with rfl|rfl<;>dsimp only<;>omega
  . simp at h
 have hN:∀ t,sumS S t=sumC l t:=fun t=>by rw [xIg hp,xDE]
 have O:∀ a b (ha:a<S.length) (hb:b<S.length),a<=b->S[a].1<=S[b].1:=fun a b ha hb ak=>by
  rcases Nat.lt_or_eq_of_le ak with h|h
  . exact zB.1 an a b ha hb h
  . subst h;exact Int.le_refl _
 let T:Nat->Int:=fun i=>if h:i<S.length then S[i].1 else 1099511627776
 have step:∀ (out:List Per) (i j:Nat) (at':Int),0<=at'->i<=j->j<=S.length->StepI (sumC l) at' out->at'<1099511627776->(∀ k (h:k<S.length),k<i->S[k].1<=at')->(∀ k (h:k<S.length),i<=k->at'<=S[k].1)->(∀ k (h:k<S.length),i<=k->k<j->S[k].1=at')->(∀ h:j<S.length,S[j].1≠at') ->
   preS S j=sumC l at'/\StepI (sumC l) (T j) (putS out at' (preS S j))/\at'<T j/\∀ k (h:k<S.length),k<j->S[k].1<=at':=fun out i j at' h0 ai hj U hF ac aj al hne=>by
  have a1:∀ k (h:k<S.length),k<j->S[k].1<=at':=fun k h hk=>by
   rcases zJ k i with h1|h1
   . exact ac k h h1
   . rw [al k h h1 hk];exact Int.le_refl _
  have a2:∀ k (h:k<S.length),j<=k->at'<S[k].1:=fun k h hk=>by
   have J:j<S.length:=by omega
   have b1:=aj j J ai;have b2:=hne J;have b3:=O j k J h hk;omega
  have hT:at'<T j:=by
   simp only [T];split
   . rename_i h;exact a2 j h (zd _)
   . exact hF
  have aa:∀ t,at'<=t->t<T j->preS S j=sumC l t:=fun t h1 h2=>by
   rw [<-hN];refine xIZ S j hj t (fun k h hk=>by have:=a1 k h hk;omega) fun k h hk=>?_
   have J:j<S.length:=by omega
   have b3:=O j k J h hk;simp only [T,dif_pos J] at h2;omega
  have e:=aa at' (Int.le_refl _) hT;refine ⟨e,?_,hT,a1⟩;rw [e];exact U.put h0 hT fun t h1 h2=>by rw [<-aa t h1 h2,e]
 have ab:∀ (out:List Per) (f n:Int),out.length<=2*l.length+1->∃ p,xcP out.length f n (out.map encP)=some p/\br p.1 p.2.1.1 p.2.2.1=(putS out f n).length/\br p.1 p.2.1.2 p.2.2.2=(putS out f n).map encP:=fun out f n h=>xFb out f n (by omega)
 obtain ⟨j0,_,ae,h3,h4,e1⟩:=xyr S (by omega) hb 0 0 ([]:List AV) S.length 0 (by omega)
 obtain ⟨_,am,_,ap⟩:=step [] 0 j0 0 (Int.le_refl _) (zQ _) ae (.nil _) (by omega) (fun k _ h=>by omega) (fun k h _=>(Q _ (zo h)).1) h3 h4
 obtain ⟨p0,ad,V,Y⟩:=ab [] 0 (preS S j0) (by simp)
 have o0:putS [] 0 (preS S j0)=[(0,preS S j0)]:=rfl;obtain ⟨r,hr,out,rfl,U,ah⟩:=xCV (step:=xew S.length)
  (fun s=>∃ (out:List Per) (i:Nat),s=(out.length,preS S i,(i:Int),S.map encP,out.map encP)/\i<=S.length/\StepI (sumC l) (T i) out/\out.length<=i+1/\∀ k (h:k<S.length) (hi:i<S.length),k<i->S[k].1<=S[i].1) (fun s=>(S.length - s.2.2.1.toNat)) (fun r=>∃ out:List Per,r=(out.length,out.map encP)/\StepI (sumC l) 1099511627776 out/\out.length<=2*l.length+1)
  (by
   rintro _ ⟨out,i,rfl,hi,W,au,ac⟩;by_cases q:i<S.length
   . have i1:(i:Int)<(S.length:Int):=by omega
     have gf:(S.map encP).getD i .top=encP S[i]:=xaa _ _ _ q;have Z:T i=S[i].1:=dif_pos q;by_cases hF:S[i].1<1099511627776
     . left;obtain ⟨j,a1,a2,a3,a4,a5⟩:=xyr S (by omega) hb out.length S[i].1 (out.map encP) (S.length - i) i (by omega)
       rw [Z] at W;obtain ⟨b1,b2,b3,b4⟩:=step out i j S[i].1 (Q _ (zo q)).1 a1 a2 W hF (fun k h hk=>O k i h q (by omega)) (fun k h hk=>O i k q h hk) a3 a4
       have ai:i<j:=by
        rcases Nat.lt_or_eq_of_le a1 with h|h
        . exact h
        . subst h;exact absurd rfl (a4 q)
       obtain ⟨p,ad,V,Y⟩:=ab out S[i].1 (preS S j) (by omega)
       have ar:=xDo out S[i].1 (preS S j);refine ⟨((putS out S[i].1 (preS S j)).length,preS S j,(j:Int),S.map encP,(putS out S[i].1 (preS S j)).map encP),?_,⟨_,j,rfl,a2,b2,by omega,fun k h hj hk=>O k j h hj (by omega)⟩,by dsimp only;rw [zN,zN];omega⟩
       simp only [xew,xjo,xij,xik,xil,xim,xin,xio,xip,xiq,xir,xis,xg9,xha,xe6,sBU,q,i1,gf,cP0,cP1,lP,sP,sP0,sP1,hF,a5,ad,V,Y]
     . right;have ao:S[i].1=1099511627776:=by have:=(Q _ (zo q)).2;omega
       refine ⟨(out.length,out.map encP),?_,out,rfl,by rw [<-ao,<-Z];exact W,by omega⟩
       simp only [xew,xjo,xij,xik,xil,xim,xin,xio,xip,xiq,xir,xis,xg9,xha,xe6,sBU,q,i1,gf,cP0,cP1,lP,sP,sP0,sP1,hF]
   . right;have i1:¬ (i:Int)<(S.length:Int):=by omega
     have Z:T i=1099511627776:=dif_neg q;refine ⟨(out.length,out.map encP),?_,out,rfl,by rw [<-Z];exact W,by omega⟩
     simp only [xew,xjo,xij,xik,xil,xim,xin,xio,xip,xiq,xir,xis,xg9,xha,xe6,sBU,i1])
  (([(0,preS S j0)]:List Per).length,preS S j0,(j0:Int),S.map encP,([(0,preS S j0)]:List Per).map encP) ⟨[(0,preS S j0)],j0,rfl,ae,am,by simp,fun k h hj hk=>O k j0 h hj (by omega)⟩
 refine ⟨out,?_,U,ah⟩;have d1:(l.flatMap chg).length<4611686018427387904:=by omega
 have d2:((l.flatMap chg).length).beq (l.flatMap chg).length=true:=Nat.beq_refl _;have e1':Iter (xja (l.flatMap chg).length 0) ((0:Int),(0:Int),S.map encP,[])=some (preS S j0,(j0:Int),S.map encP,[]):=by
  rw [xJU,<-af];exact e1
 rw [af] at hr;unfold xu8 xu9;have hp1':xcP 0 0 (preS S j0) []=some p0:=ad;rw [o0] at V Y;simp only [xt0,xt1,xt2,xt3,xt4,xt5,xt6,xt7,xt8,xt9,xsV,xsW,xsX,xsY,xsZ,xkx,xoQ,xsx,za,e0,zh,zk,xab,ag,hS,d1,d2,e1',hp1',V,Y,hr,zn,zS,sOO,sUF]
end Go.Sim.M
end
noncomputable section
set_option maxRecDepth 100000
namespace Go.Sim.M
open Go.RowKit Go.Sim.Srt
theorem xMy {n:Nat} (h:n+1<=4611686018427387904):IntKind.i64.wrap (((n+1:Nat):Int) - 1)=(n:Int):=by rw [xbs (by omega) (by omega)];omega
theorem tkP (p:Per):List.take 1 (encP p).cells=[.int .i64 p.1]:=rfl
theorem dpP (p:Per):List.drop 2 (encP p).cells=[]:=rfl
theorem aggP (a b:Int):AV.agg [.int .i64 a,.int .i64 b]=encP (a,b):=rfl
theorem xCM {α:Type} (l:List α) (x d:α):(l++[x]).getD l.length d=x:=by simp
theorem xKh {α:Type} (l:List α) (x y:α):(l++[x]).set l.length y=l++[y]:=by simp
def xL0 (st:List Per):List Int:=st.flatMap fun s=>List.replicate s.2.toNat s.1
theorem xiC (st:List Per) (f m:Int):xL0 (st++[(f,m)])=xL0 st++List.replicate m.toNat f:=by simp [xL0]
def StOk (st:List Per):Prop:=∀ s,s∈st->1<=s.2
theorem StOk.len {st:List Per} (h:StOk st):st.length<=(xL0 st).length:=by
 unfold xL0;induction st with
 | nil=>simp
 | cons s st ih =>
  have h1:=h s (by simp)
  have:=ih fun s hs=>h s (by simp [hs])
  rw [zR,z8,zF,List.length_replicate];omega
theorem xAj (J n:Int) (v:Nat) (k t2 f:Int) (q:List Per) (ti:Nat) (O:ti<q.length) (hf:q[ti].1=f) (K:Nat) (hK:K<=1048576):∀ (d j:Nat) (ox:List Per) (vo:Nat),j+d=K->ox.length+d<=1099511627776 ->
  Iter (xce J n v ti k (K:Int)) ((j:Int),t2,q.length,v,ox.length,vo,v,q.map encP,vo,ox.map encP)=some (t2,v,q.length,vo+d,(ox++List.replicate d (f,J)).length,q.map encP,v,(ox++List.replicate d (f,J)).map encP,vo+d)
 | 0,j,ox,vo,h,hb=>by
  obtain rfl:j=K:=by omega
  refine xad ?_;simp only [xce,xjW,zy,zm,xac,List.replicate_zero,zD,Nat.add_zero,sUF]
 | d+1,j,ox,vo,h,hb=>by
  have i1:(j:Int)<(K:Int):=by omega
  have gf:(q.map encP).getD ti .top=encP q[ti]:=xaa _ _ _ O;have m1:(ox.length+1)*16<=140737488355328:=by omega
  have m2:ox.length+1<=4611686018427387904:=by omega
  have tk:List.take q.length (q.map encP)=q.map encP:=zi (by simp)
  rw [xaj (s':=(((j+1:Nat):Int),t2,q.length,v,(ox++[(f,J)]).length,vo+1,v,q.map encP,vo+1,(ox++[(f,J)]).map encP)) ?_,xAj J n v k t2 f q ti O hf K hK d (j+1) (ox++[(f,J)]) (vo+1) (by omega) (by rw [z8,zj];omega)]
  . rw [zw,show [(f,J)]++List.replicate d (f,J)=List.replicate (d+1) (f,J) from rfl,show vo+1+d=vo+(d+1) by omega]
  . simp only [xce,xjW,sBU,i1,O,gf,cP0,cP1,lP,sP,sP0,sP1,hf,m1,m2,tk,xLZ (n:=j) (by omega)]
    simp [encP]
theorem xFe {α:Type} (n:Nat) (a:α):(List.replicate n a).reverse=List.replicate n a:=List.reverse_replicate ..
theorem xAi (q:Int) (n:Nat):∀ (c:Nat) (J:List Per) (h:Nat) (ox:List Per) (v vo:Nat),J.length<=c->StOk J->(xL0 J).length=h->n<=h->h<=1048576->ox.length+h<=1099511627776 ->
  ∃ (O Q:List Per) (U:Nat),Iter (xbA q (n:Int)) ((h:Int),J.length,v,ox.length,vo,v,J.map encP,vo,ox.map encP)=some ((n:Int),v,O.length,U,Q.length,O.map encP,v,Q.map encP,U) /\
   StOk O/\xL0 O=(xL0 J).take n/\Q=ox++(((xL0 J).drop n).reverse.map fun f=>(f,q))
 | c,J,h,ox,v,vo,hc,hs,hh,hn,hb,ho=>by
  by_cases aa:n=h
  . subst aa;refine ⟨J,ox,vo,xad ?_,hs,?_,?_⟩
    . have i1:¬ ((n:Int)>(n:Int)):=by omega
      simp only [xbA,xeW,i1,zm,xac,sUF]
    . rw [zi (by omega)]
    . rw [zq (by omega)];simp
  . have ac:n<h:=by omega
    rcases xrY J with rfl|⟨st,⟨f,m⟩,rfl⟩
    . simp [xL0] at hh;omega
    . have hm:=hs (f,m) (by simp)
      dsimp only at hm;have W:StOk st:=fun s h=>hs s (by simp [h])
      have Z:(xL0 st).length+m.toNat=h:=by rw [<-hh,xiC,z8,List.length_replicate]
      obtain ⟨M,rfl⟩:∃ M:Nat,m=(M:Int):=⟨m.toNat,by omega⟩
      rw [zN] at Z;have sl:=hs.len;rw [z8,zj] at hc sl;rw [hh] at sl;have L1:(st++[(f,(M:Int))]).length=st.length+1:=by simp
      have i1:(h:Int)>(n:Int):=by omega
      have w1:IntKind.i64.wrap (((st.length+1:Nat):Int) - 1)=(st.length:Int):=xMy (by omega)
      have w2:IntKind.i64.wrap ((h:Int) - (n:Int))=((h - n:Nat):Int):=by rw [xbs (by omega) (by omega)];omega
      have i2:(st.length:Int)<((st.length+1:Nat):Int):=by omega
      have i3:st.length<(st++[(f,(M:Int))]).length:=by omega
      have g0:(st++[(f,(M:Int))])[st.length]'i3=(f,(M:Int)):=by simp
      have gf:((st++[(f,(M:Int))]).map encP).getD st.length .top=encP (f,(M:Int)):=by rw [xaa _ _ _ i3,g0]
      have tk:List.take (st.length+1) ((st++[(f,(M:Int))]).map encP)=(st++[(f,(M:Int))]).map encP:=zi (by simp)
      have V:∀ x:AV,((st++[(f,(M:Int))]).map encP).set st.length x=st.map encP++[x]:=fun x=>by
       rw [zx];have:=xKh (st.map encP) (encP (f,(M:Int))) x;rwa [za] at this
      have gl:∀ x:AV,(st.map encP++[x]).getD st.length .top=x:=fun x=>by have:=xCM (st.map encP) x .top;rwa [za] at this
      have tl:∀ x:AV,List.take st.length (st.map encP++[x])=st.map encP:=fun x=>by
       have:=List.take_left' (l₁:=st.map encP) (l₂:=[x]) (i:=st.length) (by simp)
       exact this
      by_cases hk:M<=h - n
      ·
       have i4:¬ ((h - n:Nat):Int)<(M:Int):=by omega
       have e1:=xAj q (n:Int) v (M:Int) (h:Int) f (st++[(f,(M:Int))]) st.length i3 (by rw [g0]) M (by omega) M 0 ox vo (by omega) (by omega)
       rw [L1] at e1;obtain ⟨O,Q,U,e2,h1,h2,h3⟩:=xAi q n (c - 1) st (h - M) (ox++List.replicate M (f,q)) v (vo+M) (by omega) W (by omega) (by omega) (by omega) (by rw [z8,List.length_replicate];omega)
       refine ⟨O,Q,U,(xaj (s':=(((h - M:Nat):Int),st.length,v,(ox++List.replicate M (f,q)).length,vo+M,v,st.map encP,vo+M,(ox++List.replicate M (f,q)).map encP)) ?_).trans e2,h1,?_,?_⟩
       . have w3:IntKind.i64.wrap ((h:Int) - (M:Int))=((h - M:Nat):Int):=by rw [xbs (by omega) (by omega)];omega
         have w4:IntKind.i64.wrap ((M:Int) - (M:Int))=0:=by rw [Int.sub_self];rfl
         have i5:(st.length:Int)<=((st.length+1:Nat):Int):=by omega
         have e1:Iter (xce q (n:Int) v st.length (M:Int) (M:Int)) ((0:Int),(h:Int),st.length+1,v,ox.length,vo,v,(st++[(f,(M:Int))]).map encP,vo,ox.map encP)=_:=e1;simp only [xbA,xeW,xdf,xcd,xiJ,xeg,xf4,xeh,xei,xej,xek,xiK,xhu,xfc,xfd,xhv,xhw,xfe,xcH,xhy,xaz,sBU,L1,i1,i2,w1,w2,w3,w4,i4,i5,gf,cP0,cP1,lP,sP,sP0,sP1,tk,e1,if_false,V,gl,tl,z8,zj,Nat.lt_succ_self,tkP,dpP,aggP,zD,List.singleton_append]
         try simp [xab,tl,gl,sUF]
       . rw [h2,xiC,List.take_append_of_le_length (by omega)]
       . rw [h3,xiC,zN,List.drop_append_of_le_length (by omega),List.reverse_append,xFe,zx,List.map_replicate,zw]
      ·
       have i4:((h - n:Nat):Int)<(M:Int):=by omega
       have e1:=xAj q (n:Int) v ((h - n:Nat):Int) (h:Int) f (st++[(f,(M:Int))]) st.length i3 (by rw [g0]) (h - n) (by omega) (h - n) 0 ox vo (by omega) (by omega)
       rw [L1] at e1;refine ⟨st++[(f,((M - (h - n):Nat):Int))],ox++List.replicate (h - n) (f,q),vo+(h - n),(xaj (s':=((n:Int),st.length+1,v,(ox++List.replicate (h - n) (f,q)).length,vo+(h - n),v,(st++[(f,((M - (h - n):Nat):Int))]).map encP,vo+(h - n),(ox++List.replicate (h - n) (f,q)).map encP)) ?_).trans (xad ?_),?_,?_,?_⟩
       . have w3:IntKind.i64.wrap ((h:Int) - ((h - n:Nat):Int))=(n:Int):=by rw [xbs (by omega) (by omega)];omega
         have w4:IntKind.i64.wrap ((M:Int) - ((h - n:Nat):Int))=((M - (h - n):Nat):Int):=by rw [xbs (by omega) (by omega)];omega
         have i6:(((M - (h - n):Nat):Int)==0)=false:=by simp;omega
         have e1:Iter (xce q (n:Int) v st.length ((h - n:Nat):Int) ((h - n:Nat):Int)) ((0:Int),(h:Int),st.length+1,v,ox.length,vo,v,(st++[(f,(M:Int))]).map encP,vo,ox.map encP)=_:=e1;have Y:∀ x:AV,List.take (st.length+1) (st.map encP++[x])=st.map encP++[x]:=fun x=>zi (by simp)
         simp only [xbA,xeW,xdf,xcd,xiJ,xeg,xf4,xeh,xei,xej,xek,xiK,xhu,xfc,xfd,xhv,xhw,xfe,xcH,xhy,xaz,sBU,L1,i1,i2,w1,w2,w3,w4,i4,gf,cP0,cP1,lP,sP,sP0,sP1,tk,e1,if_true,V,gl,tl,Y,z8,zj,Nat.lt_succ_self,tkP,dpP,aggP,zD,List.singleton_append]
         try simp [xab,xac,tl,Y,gl,i6,sUF]
       . have i5:¬ ((n:Int)>(n:Int)):=by omega
         simp only [xbA,xeW,i5,zm,xac,z8,zj,sUF]
       . intro s ab;rcases zG.1 ab with h1|h1
         . exact W s h1
         . rw [zv] at h1;subst h1;dsimp only;omega
       . rw [xiC,xiC,zN,zN,List.take_append];have:(xL0 st).take n=xL0 st:=zi (by omega)
         rw [this,List.take_replicate,show min (n - (xL0 st).length) M=M - (h - n) by omega]
       . rw [xiC,zN,List.drop_append,zq (show (xL0 st).length<=n by omega),zU,List.drop_replicate,xFe,List.map_replicate,show M - (n - (xL0 st).length)=h - n by omega]
theorem xFk (J:Int) (n h:Nat) (q ox:List Per) (hs:StOk q) (hh:(xL0 q).length=h) (hn:n<=1048576) (hb:h<=1048576) (ho:ox.length+1048576<=1099511627776) :
  ∃ O:List Per,set2 J (n:Int) (h:Int) q.length ox.length (q.map encP) (ox.map encP)=some ((n:Int),O.length,(ox++(((xL0 q).drop n).reverse.map fun f=>(f,J))).length,O.map encP,(ox++(((xL0 q).drop n).reverse.map fun f=>(f,J))).map encP) /\
   StOk O/\xL0 O=(xL0 q).take n++List.replicate (n - h) J:=by
 have sl:=hs.len;rw [hh] at sl;have tk:List.take q.length (q.map encP)=q.map encP:=zi (by simp)
 by_cases Z:h<n
 . have i1:(n:Int)>(h:Int):=by omega
   have w1:IntKind.i64.wrap ((n:Int) - (h:Int))=((n - h:Nat):Int):=by rw [xbs (by omega) (by omega)];omega
   have W:StOk (q++[(J,((n - h:Nat):Int))]):=fun s h1=>by
    rcases zG.1 h1 with h1|h1
    . exact hs s h1
    . rw [zv] at h1;subst h1;dsimp only;omega
   have hf:xL0 (q++[(J,((n - h:Nat):Int))])=xL0 q++List.replicate (n - h) J:=by rw [xiC,zN]
   have U:(xL0 (q++[(J,((n - h:Nat):Int))])).length=n:=by rw [hf,z8,List.length_replicate];omega
   obtain ⟨O,Y,V,e,h1,h2,h3⟩:=xAi J n (q.length+1) (q++[(J,((n - h:Nat):Int))]) n ox 1 0 (by simp) W U (zd _) hn (by omega)
   refine ⟨O,?_,h1,?_⟩
   . have d1:(xL0 q).drop n=[]:=zq (by omega)
     have d2:(xL0 (q++[(J,((n - h:Nat):Int))])).drop n=[]:=zq (by omega)
     rw [d2] at h3;subst h3;rw [d1];have m1:(q.length+1)*16<=140737488355328:=by omega
     have m2:q.length+1<=4611686018427387904:=by omega
     have Q:List.take (q.length+1) (q.map encP++[AV.agg [.int .i64 J,.int .i64 ((n - h:Nat):Int)]])=(q++[(J,((n - h:Nat):Int))]).map encP:=by
      rw [zi (by simp),zx];rfl
     rw [z8,zj] at e;unfold set2 xk5 xkA;simp only [xl5,xl6,xl7,xl8,xl9,xma,xmb,xmc,xmd,xme,xk6,xk7,xk8,xk9,xla,xlb,xlc,xld,i1,w1,zn,xab,za,beq_self_eq_true,m1,m2,Bool.and_self,Q,e,zk,zh,Option.bind_some,Nat.beq_refl,sUF]
   . rw [h2,hf,zi (by rw [<-hf];omega),zi (by omega)]
 . obtain ⟨O,Y,V,e,h1,h2,h3⟩:=xAi J n q.length q h ox 0 0 (zd _) hs hh (by omega) hb (by omega)
   refine ⟨O,?_,h1,by rw [h2,show n - h=0 by omega];simp⟩
   have i1:¬ (n:Int)>(h:Int):=by omega
   subst h3;unfold set2 xk5 xkA;simp only [xl5,xl6,xl7,xl8,xl9,xma,xmb,xmc,xmd,xme,xk6,xk7,xk8,xk9,xla,xlb,xlc,xld,i1,zm,xac,tk,e,zk,zh,xab,Option.bind_some,Nat.beq_refl,Bool.and_self,sUF]
def setF (s:List Int×List Per) (q:Int×Nat):List Int×List Per:=(s.1.take q.2++List.replicate (q.2 - s.1.length) q.1,s.2++((s.1.drop q.2).reverse.map fun f=>(f,q.1)))
theorem xwW {α β:Type} (A B:α->List β):∀ l:List α,(l.flatMap fun k=>A k++B k).Perm (l.flatMap A++l.flatMap B)
 | []=>List.Perm.refl _
 | a::l=>by
  rw [zR,zR,zR];have ih:=xwW A B l;refine (ih.append_left (A a++B a)).trans ?_;rw [zw,zw];refine List.Perm.append_left _ ?_;rw [<-zw,<-zw];exact List.Perm.append_right _ List.perm_append_comm
theorem xzC {β:Type} (g:Int->β):∀ (F:List Int) (H n:Nat),F.length<=H->(List.range H).flatMap (fun k=>if n<=k then (F[k]?).toList.map g else [])=(F.drop n).map g
 | [],H,n,_=>by
  rw [List.drop_nil,zW,List.flatMap_eq_nil_iff];intro k _;split<;>simp
 | x::F,0,n,h=>by simp at h
 | x::F,H+1,n,h=>by
  rw [List.range_succ_eq_map,zR,List.flatMap_map];have ih:=xzC g F H (n - 1) (by simpa using h)
  have e:(List.range H).flatMap (fun a=>if n<=a.succ then (((x::F)[a.succ]?).toList).map g else [])=(F.drop (n - 1)).map g:=by
   rw [<-ih];congr 1;funext a;have:(n<=a.succ)=(n - 1<=a):=by rw [eq_iff_iff];omega
   simp only [this,zZ,Nat.succ_eq_add_one]
  rw [e];cases n with
  | zero=>simp
  | succ n=>simp
structure LvI (N:Int->Nat) (H:Nat) (at':Int) (F:List Int) (out:List Per) (A:Nat->List Per):Prop where
 perm:out.Perm ((List.range H).flatMap A)
 span:∀ k,IsSpan (A k)
 low:∀ k (h:k<F.length),F[k]<=at'/\0<=F[k]/\∀ p,p∈A k->p.2<F[k]
 high:∀ k,F.length<=k->∀ p,p∈A k->p.2<=at'
 cov:∀ k t,t<=at'->((inL (A k) t=true\/∃ h:k<F.length,F[k]<=t)↔k<N t)
 len:F.length=N at'
 top:F.length<=H
theorem LvI.start {N:Int->Nat} {H:Nat} (h0:∀ t,t<0->N t=0):LvI N H (-1) [] [] fun _=>[] where
 perm:=by
  have:(List.range H).flatMap (fun _=>([]:List Per))=[]:=by simp
  rw [this]
 span _:=xk2
 low k h:=by simp at h
 high k _ p hp:=by simp at hp
 cov k t ht:=by rw [h0 t (by omega),xeV];simp
 len:=by rw [h0 _ (by omega)];rfl
 top:=zQ _
theorem LvI.set {N:Int->Nat} {H:Nat} {a b:Int} {F:List Int} {out:List Per} {A:Nat->List Per} (h:LvI N H a F out A) (ac:a<b) (h0:0<=b) (hb:b<=1099511627776) (hc:∀ t,a<=t->t<b->N t=N a) (hH:N b<=H) :
  ∃ A',LvI N H b (setF (F,out) (b,N b)).1 (setF (F,out) (b,N b)).2 A':=by
 have hl:=h.len;refine ⟨fun k=>A k++(if N b<=k then (F[k]?).toList.map (fun f=>(f,b)) else []),?_,?_,?_,?_,?_,?_,?_⟩
 . refine (List.Perm.append h.perm ?_).trans (xwW A _ _).symm;rw [xzC (fun f=>(f,b)) F H (N b) h.top]
   exact (List.reverse_perm _).map _
 . intro k;by_cases hk:N b<=k
   . rw [if_pos hk];by_cases J:k<F.length
     . obtain ⟨l1,l2,l3⟩:=h.low k J;rw [ze J];refine ⟨fun p hp=>?_,List.pairwise_append.2 ⟨(h.span k).2,by simp,fun p hp q hq=>?_⟩⟩
       . rcases zG.1 hp with hp|hp
         . exact (h.span k).1 p hp
         . simp at hp;subst hp;exact xbi.2 ⟨l2,by dsimp only;omega,hb⟩
       . simp at hq;subst hq;exact l3 p hp
     . rw [zz (by omega)];simpa using h.span k
   . rw [if_neg hk,zD];exact h.span k
 . intro k hk;simp only [setF] at hk |-;rw [z8,zt,List.length_replicate] at hk;have O:¬ N b<=k:=by omega
   simp only [O,if_false,zD];by_cases J:k<F.length
   . rw [List.getElem_append_left (by rw [zt];omega),List.getElem_take]
     obtain ⟨l1,l2,l3⟩:=h.low k J;exact ⟨by omega,l2,l3⟩
   . rw [List.getElem_append_right (by rw [zt];omega),List.getElem_replicate]
     exact ⟨Int.le_refl _,h0,fun p hp=>by have:=h.high k (by omega) p hp;omega⟩
 . intro k hk p hp;simp only [setF] at hk;rw [z8,zt,List.length_replicate] at hk;have O:N b<=k:=by omega
   simp only [O,if_true] at hp;by_cases J:k<F.length
   . rw [ze J] at hp;rcases zG.1 hp with hp|hp
     . obtain ⟨l1,l2,l3⟩:=h.low k J;have:=l3 p hp;omega
     . simp at hp;subst hp;exact Int.le_refl _
   . rw [zz (by omega)] at hp
     simp at hp;have:=h.high k (by omega) p hp;omega
 . intro k t ht;have U:(setF (F,out) (b,N b)).1=F.take (N b)++List.replicate (N b - F.length) b:=rfl;have key:(∃ hh:k<(setF (F,out) (b,N b)).1.length,(setF (F,out) (b,N b)).1[k]<=t)↔(k<N b/\((∃ hh:k<F.length,F[k]<=t)\/(F.length<=k/\b<=t))):=by
    constructor
    . rintro ⟨hh,Q⟩;have hh':=hh;rw [U,z8,zt,List.length_replicate] at hh';refine ⟨by omega,?_⟩
      by_cases J:k<F.length
      . refine .inl ⟨J,?_⟩;have e:(setF (F,out) (b,N b)).1[k]=F[k]:=by
         simp only [U];rw [List.getElem_append_left (by rw [zt];omega),List.getElem_take]
        rw [<-e];exact Q
      . refine .inr ⟨by omega,?_⟩
        have e:(setF (F,out) (b,N b)).1[k]=b:=by
         simp only [U];rw [List.getElem_append_right (by rw [zt];omega),List.getElem_replicate]
        rw [<-e];exact Q
    . rintro ⟨h1,h2⟩;have hh:k<(setF (F,out) (b,N b)).1.length:=by rw [U,z8,zt,List.length_replicate];omega
      refine ⟨hh,?_⟩;rcases h2 with ⟨J,Q⟩|⟨J,Q⟩
      . have e:(setF (F,out) (b,N b)).1[k]=F[k]:=by
         simp only [U];rw [List.getElem_append_left (by rw [zt];omega),List.getElem_take]
        rw [e];exact Q
      . have e:(setF (F,out) (b,N b)).1[k]=b:=by
         simp only [U];rw [List.getElem_append_right (by rw [zt];omega),List.getElem_replicate]
        rw [e];exact Q
   rw [key];have W:inL (A k++(if N b<=k then (F[k]?).toList.map (fun f=>(f,b)) else [])) t=true↔inL (A k) t=true\/(N b<=k/\(∃ hh:k<F.length,F[k]<=t)/\t<b):=by
    rw [xnL,Bool.or_eq_true];refine or_congr Iff.rfl ?_;by_cases O:N b<=k
    . rw [if_pos O];by_cases J:k<F.length
      . obtain ⟨l1,l2,l3⟩:=h.low k J;rw [ze J];have e:inL ((some F[k]).toList.map fun f=>(f,b)) t=hasP (F[k],b) t:=by simp [inL]
        rw [e,xbp,xbi];dsimp only;constructor
        . rintro ⟨_,h2,h3⟩;exact ⟨O,⟨J,h2⟩,h3⟩
        . rintro ⟨_,⟨_,h2⟩,h3⟩;exact ⟨⟨l2,by omega,hb⟩,h2,h3⟩
      . rw [zz (by omega)]
        simp only [Option.toList_none,zW,xeV,zT,false_iff];rintro ⟨_,⟨hh,_⟩,_⟩;omega
    . rw [if_neg O,xeV];simp only [zT,false_iff];rintro ⟨hh,_⟩;omega
   rw [W];by_cases aa:t<=a
   . have Y:=h.cov k t aa;rw [<-Y];constructor
     . rintro ((h1|⟨_,h2,_⟩)|⟨_,h2|⟨_,h3⟩⟩)
       . exact .inl h1
       . exact .inr h2
       . exact .inr h2
       . omega
     . rintro (h1|h2)
       . exact .inl (.inl h1)
       . by_cases O:N b<=k
         . exact .inl (.inr ⟨O,h2,by omega⟩)
         . exact .inr ⟨by omega,.inl h2⟩
   . have Z:inL (A k) t=true->False:=fun hi=>by
      obtain ⟨p,hp,_,p1,p2⟩:=xef.1 hi;by_cases J:k<F.length
      . obtain ⟨l1,l2,l3⟩:=h.low k J;have:=l3 p hp;omega
      . have:=h.high k (by omega) p hp;omega
     have ab:(∃ hh:k<F.length,F[k]<=t)↔k<F.length:=⟨fun ⟨hh,_⟩=>hh,fun hh=>⟨hh,by have:=(h.low k hh).1;omega⟩⟩
     rw [ab];by_cases V:t<b
     . rw [hc t (by omega) V,<-hl]
       constructor
       . rintro ((h1|⟨_,h2,_⟩)|⟨_,h2|⟨_,h3⟩⟩)
         . exact (Z h1).elim
         . exact h2
         . exact h2
         . omega
       . intro J;by_cases O:N b<=k
         . exact .inl (.inr ⟨O,J,V⟩)
         . exact .inr ⟨by omega,.inl J⟩
     . obtain rfl:t=b:=by omega
       constructor
       . rintro ((h1|⟨_,_,h2⟩)|⟨h1,_⟩)
         . exact (Z h1).elim
         . omega
         . exact h1
       . intro hk;refine .inr ⟨hk,?_⟩;by_cases J:k<F.length
         . exact .inl J
         . exact .inr ⟨by omega,Int.le_refl _⟩
 . show (F.take (N b)++List.replicate (N b - F.length) b).length=N b;rw [z8,zt,List.length_replicate];omega
 . show (F.take (N b)++List.replicate (N b - F.length) b).length<=H;rw [z8,zt,List.length_replicate];omega
theorem xs7 {N:Int->Nat} {a b:Int} (h:∀ t,a<t->t<b->N (t - 1)=N t):∀ (d:Nat) (t:Int),t=a+d->t<b->N t=N a
 | 0,t,e,_=>by rw [e];simp
 | d+1,t,e,hb=>by
  rw [<-h t (by omega) hb]
  exact xs7 h d (t - 1) (by omega) (by omega)
theorem xC0 {N:Int->Nat} {H:Nat} (hH:∀ t,N t<=H):∀ (R:List Per) (a:Int) (F:List Int) (out:List Per) (A:Nat->List Per),LvI N H a F out A->-1<=a->a<1099511627776->(∀ s,s∈R->a<s.1/\s.1<1099511627776/\s.2=(N s.1:Int))->R.Pairwise (fun x y=>x.1<y.1) ->
  (∀ t,a<t->t<1099511627776->N (t - 1)≠N t->∃ s,s∈R/\s.1=t)->∃ (a':Int) (A':Nat->List Per),LvI N H a' (R.foldl (fun x s=>setF x (s.1,s.2.toNat)) (F,out)).1 (R.foldl (fun x s=>setF x (s.1,s.2.toNat)) (F,out)).2 A'/\-1<=a'/\a'<1099511627776/\∀ t,a'<t->t<1099511627776->N (t - 1)=N t
 | [],a,F,out,A,h,h1,h2,_,_,hm=>⟨a,A,h,h1,h2,fun t t1 t2=>by
  by_cases e:N (t - 1)=N t
  . exact e
  . obtain ⟨s,hs,_⟩:=hm t t1 t2 e;simp at hs⟩
 | s::R,a,F,out,A,h,h1,h2,hr,hp,hm=>by
  obtain ⟨s1,s2,s3⟩:=hr s (by simp)
  obtain ⟨p1,p2⟩:=zM.1 hp;obtain ⟨A',h'⟩:=h.set (b:=s.1) s1 (by omega) (by omega) (fun t t1 t2=>xs7 (a:=a) (b:=s.1) (fun u u1 u2=>by
   by_cases e:N (u - 1)=N u
   . exact e
   . obtain ⟨q,hq,J⟩:=hm u u1 (by omega) e
     rcases zC.1 hq with rfl|hq
     . omega
     . have:=p1 q hq;omega) (t - a).toNat t (by omega) t2) (hH _)
  rw [List.foldl_cons];have e:setF (F,out) (s.1,s.2.toNat)=setF (F,out) (s.1,N s.1):=by rw [s3,zN]
  rw [e];obtain ⟨a',A2,g1,g2,g3,g4⟩:=xC0 hH R s.1 _ _ A' h' (by omega) s2 (fun q hq=>⟨p1 q hq,(hr q (by simp [hq])).2⟩) p2 (fun t t1 t2 e=>by
   obtain ⟨q,hq,J⟩:=hm t (by omega) t2 e
   rcases zC.1 hq with rfl|hq
   . omega
   . exact ⟨q,hq,J⟩)
  exact ⟨a',A2,g1,g2,g3,g4⟩
theorem xIN {N:Int->Nat} {H:Nat} (hH:∀ t,N t<=H) (h0:∀ t,t<0\/1099511627776<=t->N t=0) {S:List Per} (hS:StepI (fun t=>(N t:Int)) 1099511627776 S) {P:List Per} (hP:P.Perm (setF (S.foldl (fun x s=>setF x (s.1,s.2.toNat)) ([],[])) (1099511627776,0)).2) (hs:Sorted cmpP P):IsLevs N P:=by
 obtain ⟨a,A,g1,g2,g3,g4⟩:=xC0 hH S (-1) [] [] _ (LvI.start fun t ht=>h0 t (.inl ht)) (by omega) (by omega) (fun s hs=>by
  obtain ⟨m1,m2,m3,_⟩:=(hS.mem s).1 hs;exact ⟨by omega,m2,m3⟩) hS.asc (fun t t1 t2 e=>by
  refine ⟨(t,(N t:Int)),(hS.mem _).2 ⟨by dsimp only;omega,t2,rfl,?_⟩,rfl⟩
  refine .inr ?_;dsimp only;omega)
 have hz:N 1099511627776=0:=h0 _ (.inr (Int.le_refl _));obtain ⟨A',h'⟩:=g1.set (b:=1099511627776) g3 (by omega) (by omega) (fun t t1 t2=>xs7 (fun u u1 u2=>g4 u u1 u2) (t - a).toNat t (by omega) t2) (hH _)
 rw [hz] at h';have hF:=h'.len;rw [hz] at hF;refine ⟨hs,A',H,hH,fun k=>⟨h'.span k,fun t=>?_⟩,hP.trans h'.perm⟩
 rw [Bool.eq_iff_iff,zl];by_cases ht:t<=1099511627776
 . rw [<-h'.cov k t ht];refine ⟨Or.inl,fun hh=>hh.elim id fun ⟨hk,_⟩=>?_⟩
   rw [hF] at hk;omega
 . rw [h0 t (.inr (by omega))]
   refine ⟨fun hi=>?_,fun hh=>by omega⟩
   have:=(xuk hi).2;omega
abbrev Grp:=Row×List Per
def encG (g:Grp):AV:=.agg [.list 3 (g.1.map encV),.list 2 (g.2.map encP)]
def okEG (x:AV):Bool:=x.cells.length==(2:Nat)&&xMx [Sh.list (3:Nat),Sh.list (2:Nat)] x.cells (0:Nat)
def ldEG (x:AV):AV:=AV.agg [AV.list (3:Nat) (x.cells.getD (0:Nat) AV.top).toList,AV.list (2:Nat) (x.cells.getD (1:Nat) AV.top).toList]
def xMq (x y:AV):Bool:=(xfO (x.cells.getD 0 AV.top).toList (x.cells.getD 1 AV.top).toList (y.cells.getD 0 AV.top).toList (y.cells.getD 1 AV.top).toList).isSome
def xMr (x y:AV):Int:=(xfO (x.cells.getD 0 AV.top).toList (x.cells.getD 1 AV.top).toList (y.cells.getD 0 AV.top).toList (y.cells.getD 1 AV.top).toList).getD 0
theorem heG (a:Grp):okEG (encG a)=true:=rfl
theorem hdG (a:Grp):ldEG (encG a)=encG a:=rfl
section
variable {N : Nat} (hN : N <= 2 ^ 60) {ok : Grp -> Prop} {c : Grp -> Grp -> Int} (hc : ∀ x y, ok x -> ok y -> xMq (encG x) (encG y) = true /\ xMr (encG x) (encG y) = c x y)
include hN
include hc
theorem xLN (a b:Nat) (ha:a<=N) (hb:b<=N) {l r:List Grp} (hl:LOk N ok l) (hr:xMk c a b l=some r):xaN N a b (List.map encG l)=some (List.map encG r)/\LOk N ok r:=by
 obtain ⟨e1,e2⟩:=xJh (enc:=encG) hN (c:=c) (ok:=ok) a b hb (gi:=fun i=>xax N a b i) (fun i l r hl hr=>xKi (okE:=okEG) (ldE:=ldEG) heG hdG hN (P:=xMq) (V:=xMr) hc a (fun j xs=>rfl) hl hr) (g:=xaZ N a b) (fun i xs=>rfl) hl hr
 refine ⟨?_,e2⟩;unfold xaN xdI;rw [w64 (x:=(a:Int)+1) (n:=a+1) (by omega) (by omega),e1];rfl
theorem xJi (q:N<20) {l r:List Grp} (hl:LOk N ok l) (hr:xMk c 0 N l=some r):xeD N N (List.map encG l)=some (List.map encG r)/\LOk N ok r:=by
 obtain ⟨e1,e2⟩:=xLN hN hc 0 N (by omega) (zd _) hl hr
 have e1:xaN N 0 N (List.map encG l)=_:=e1;have q0:Iter (xa8 N N 20) ((0:Int),(20:Int),List.map encG l)=some ((0:Int),List.map encG l):=by
  refine xad ?_;have h1:¬ (20:Int)<=(N:Int):=by omega
  simp only [xa8,xeL,h1,zm,xac,sUF]
 have q1:Iter (xb2 N N) ((20:Int),List.map encG r)=some (List.map encG r):=by
  refine xad ?_;have h1:¬ (20:Int)<(N:Int):=by omega
  simp only [xb2,xeM,h1,zm,xac,sUF]
 refine ⟨?_,e2⟩;simp only [xeD,xgd,xfH,xfI,xfJ,q0,e1,q1,zk,zh,xab,sUF]
end
theorem xLQ {N:Nat} (hN:N*48<=140737488355328) {ok:Grp->Prop} {c:Grp->Grp->Int} (hc:∀ x y:Grp,ok x->ok y->xMq (encG x) (encG y)=true/\xMr (encG x) (encG y)=c x y) (q:N<20) (l r:List Grp) (hl:l.length=N) (ho:∀ x,x∈l->ok x) (hr:xMk c 0 N l=some r) :
  xgy N (List.map encG l)=some (List.map encG r):=by
 obtain ⟨e1,e2⟩:=xJi (N:=N) (by omega) (ok:=ok) hc q ⟨hl,ho⟩ hr
 simp only [xgy,xfG,e1,zk,zh,xab,sUF]
end Go.Sim.M
end
noncomputable section
set_option maxRecDepth 100000
namespace Go.Sim.M
open Go.RowKit Go.Sim.Srt
def ents:Nat->List Row->List AV
 | _,[]=>[]
 | k,r::R=>.agg [.str (keyOf r),.int .i64 (k:Int)]::ents (k+1) R
theorem xET:∀ (R:List Row) (k:Nat) (r:Row),mapIx (ents k R) (keyOf r)=R.findIdx? fun x=>decide (x=r)
 | [],_,_=>rfl
 | x::R,k,r=>by
  have hk:isKey (keyOf r) (((AV.agg [.str (keyOf x),.int .i64 (k:Int)]).cells).getD 0 .top)=decide (x=r):=by
   show (keyOf x==keyOf r)=_;by_cases h:x=r
   . subst h;simp
   . have:¬ keyOf x=keyOf r:=fun e=>h (xAh e)
     simp [h,this]
  show (match isKey (keyOf r) (((AV.agg [.str (keyOf x),.int .i64 (k:Int)]).cells).getD 0 .top) with|true=>some 0|false=>(mapIx (ents (k+1) R) (keyOf r)).map (·+1))=_
  rw [hk,List.findIdx?_cons,xET R (k+1) r];by_cases h:x=r<;>simp [h]
theorem xCG:∀ (R:List Row) (k:Nat),(ents k R).length=R.length
 | [],_=>rfl
 | _::R,k=>by show (ents (k+1) R).length+1=_;rw [xCG R];rfl
theorem xAR:∀ (R:List Row) (k:Nat) (r:Row),ents k (R++[r])=ents k R++[.agg [.str (keyOf r),.int .i64 ((k+R.length:Nat):Int)]]
 | [],_,_=>rfl
 | x::R,k,r=>by
  show _::ents (k+1) (R++[r])=_;rw [xAR R (k+1) r,zF,show k+1+R.length=k+(R.length+1) by omega];rfl
theorem xCF:∀ (R:List Row) (k j:Nat) (h:j<R.length),(ents k R).getD j .top=.agg [.str (keyOf R[j]),.int .i64 ((k+j:Nat):Int)]
 | x::R,k,0,h=>rfl
 | x::R,k,j+1,h=>by
  show (ents (k+1) R).getD j .top=_;rw [xCF R (k+1) j (by simpa using h),show k+1+j=k+(j+1) by omega];rfl
def upd (G:List Grp) (f:Fc):List Grp:=match (G.map (·.1)).findIdx? fun x=>decide (x=f.r) with
 | some j=>G.set j (f.r,(G.getD j ([],[])).2++[f.p])
 | none=>G++[(f.r,[f.p])]
structure GI (l:List Fc) (G:List Grp):Prop where
 nd:(G.map (·.1)).Nodup
 mem:∀ r,r∈G.map (·.1)↔∃ f,f∈l/\f.r=r/\pv f.p=true
 ps:∀ g,g∈G->g.2=psOf l g.1
 len:G.length<=l.length
theorem GI.nil:GI [] []:=⟨List.nodup_nil,fun r=>by simp,fun g hg=>by simp at hg,zd _⟩
theorem xun (l:List Fc) (f:Fc) (r:Row):psOf (l++[f]) r=psOf l r++(if f.r=r/\pv f.p=true then [f.p] else []):=by
 unfold psOf;rw [List.filter_append,zx];congr 1;by_cases h1:f.r=r<;>by_cases h2:pv f.p=true<;>simp [h1,h2]
theorem GI.skip {l:List Fc} {G:List Grp} (h:GI l G) {f:Fc} (hf:pv f.p=false):GI (l++[f]) G :=
 ⟨h.nd,fun r=>by
  rw [h.mem];refine ⟨fun ⟨g,hg,e⟩=>⟨g,by simp [hg],e⟩,fun ⟨g,hg,e1,e2⟩=>⟨g,?_,e1,e2⟩⟩
  rcases zG.1 hg with hg|hg
  . exact hg
  . rw [zv] at hg;subst hg;rw [hf] at e2;simp at e2,fun g hg=>by rw [xun,if_neg (by rw [hf];simp),zD];exact h.ps g hg,by rw [z8];have:=h.len;omega⟩
theorem xvP {R:List Row} {r:Row} {j:Nat} (h:R.findIdx? (fun x=>decide (x=r))=some j):∃ hj:j<R.length,R[j]=r:=by
 obtain ⟨hj,h1,_⟩:=List.findIdx?_eq_some_iff_getElem.1 h;exact ⟨hj,by simpa using h1⟩
theorem xCI {R:List Row} {r:Row} (h:R.findIdx? (fun x=>decide (x=r))=none):r∉R:=fun hr=>by
 have:=List.findIdx?_eq_none_iff.1 h r hr;simp at this
theorem xAu {G:List Grp} {j:Nat} (hj:j<G.length) {ps:List Per} {r:Row} (hr:G[j].1=r):(G.set j (r,ps)).map (·.1)=G.map (·.1):=by
 rw [List.map_set];show (G.map (·.1)).set j r=_;rw [<-hr];have:(G.map (·.1))[j]'(by simpa using hj)=G[j].1:=by simp
 rw [<-this];exact List.set_getElem_self _
theorem GI.upd {l:List Fc} {G:List Grp} (h:GI l G) {f:Fc} (hf:pv f.p=true):GI (l++[f]) (M.upd G f):=by
 unfold M.upd;cases hi:(G.map (·.1)).findIdx? fun x=>decide (x=f.r) with
 | some j =>
  obtain ⟨hj,hr⟩:=xvP hi;rw [za] at hj;rw [List.getElem_map] at hr;dsimp only;have gd:G.getD j ([],[])=G[j]:=by rw [z7,ze hj];rfl
  rw [gd];refine ⟨by rw [xAu hj hr];exact h.nd,fun r=>?_,fun g hg=>?_,by rw [y5,z8];have:=h.len;omega⟩
  . rw [xAu hj hr,h.mem];refine ⟨fun ⟨g,hg,e⟩=>⟨g,by simp [hg],e⟩,fun ⟨g,hg,e1,e2⟩=>?_⟩
    rcases zG.1 hg with hg|hg
    . exact ⟨g,hg,e1,e2⟩
    . rw [zv] at hg;subst hg;refine (h.mem r).1 ?_;rw [<-e1,<-hr];exact zK.2 ⟨G[j],zo hj,rfl⟩
  . obtain ⟨i,q,rfl⟩:=zp.1 hg;rw [y5] at q;rw [List.getElem_set];by_cases O:j=i
    . subst O;rw [if_pos rfl,xun,if_pos ⟨rfl,hf⟩,h.ps _ (zo hj),hr]
    . rw [if_neg O,xun,if_neg ?_,zD]
      . exact h.ps _ (zo q)
      . rintro ⟨e,_⟩;have hn:=zB.1 h.nd;have ei:(G.map (·.1))[i]'(by simpa using q)=G[i].1:=by simp
        have ej:(G.map (·.1))[j]'(by simpa using hj)=G[j].1:=by simp
        rcases Nat.lt_or_gt_of_ne O with J|J
        . exact hn j i (by simpa using hj) (by simpa using q) J (by rw [ei,ej,hr,e])
        . exact hn i j (by simpa using q) (by simpa using hj) J (by rw [ei,ej,hr,e])
 | none =>
  have hr:=xCI hi;dsimp only;have hz:psOf l f.r=[]:=by
   unfold psOf;rw [List.map_eq_nil_iff,List.filter_eq_nil_iff];intro g hg he;simp only [zf,zl] at he;exact hr ((h.mem _).2 ⟨g,hg,he⟩)
  refine ⟨?_,fun r=>?_,fun g hg=>?_,by rw [z8,z8];have:=h.len;simp;omega⟩
  . rw [zx];refine List.nodup_append.2 ⟨h.nd,by simp,fun a ha b hb e=>?_⟩
    simp at hb;exact hr (by rw [<-hb,<-e];exact ha)
  . rw [zx,zG,h.mem];simp only [zV,zW,zv,zG];constructor
    . rintro (⟨g,hg,e⟩|rfl)
      . exact ⟨g,.inl hg,e⟩
      . exact ⟨f,.inr rfl,rfl,hf⟩
    . rintro ⟨g,hg|rfl,e⟩
      . exact .inl ⟨g,hg,e⟩
      . exact .inr e.1.symm
  . rcases zG.1 hg with hg|hg
    . rw [xun,if_neg ?_,zD]
      . exact h.ps g hg
      . rintro ⟨e,_⟩;exact hr (by rw [e];exact zK.2 ⟨g,hg,rfl⟩)
    . rw [zv] at hg;subst hg;rw [xun,if_pos ⟨rfl,hf⟩,hz];rfl
theorem cG0 (g:Grp):((encG g).cells.getD 0 .top).toList=g.1.map encV:=rfl
theorem xHt {α:Type} (l:List α) (x d:α):(l++[x]).getD l.length d=x:=by simp
theorem xJg {α:Type} (l:List α) (x y:α):(l++[x]).set l.length y=l++[y]:=by simp
theorem xMz (xs:List AV):(AV.agg xs).cells=xs:=rfl
theorem tolA (n:Nat) (xs:List AV):(AV.list n xs).toList=xs:=rfl
theorem xMC (k:IntKind) (n:Int):(AV.int k n).toInt=n:=rfl
theorem xMA (xs:List AV):xNA 2 (.list 2 xs)=true:=rfl
theorem xMF (n m:Nat):xNX (.int .i64 (n:Int)) m=decide (n<m):=rfl
theorem xME:xNX (.int .i64 0) 1=true:=rfl
theorem g2a (a b:AV):[a,b].getD 0 .top=a:=rfl
theorem g2b (a b:AV):[a,b].getD 1 .top=b:=rfl
theorem lt2 (a b:AV):([a,b].length==2)=true:=rfl
theorem tk1 (a b:AV):List.take 1 [a,b]=[a]:=rfl
theorem dp2 (a b:AV):List.drop 2 [a,b]=[]:=rfl
theorem xER (g:Grp):encG g=.agg [.list 3 (g.1.map encV),.list 2 (g.2.map encP)]:=rfl
theorem xES (p:Per):encP p=.agg [.int .i64 p.1,.int .i64 p.2]:=rfl
def R20 (l:List Fc):Prop:=∃ R:List Row,R.length<20/\∀ f,f∈l->f.r∈R
theorem R20.few {l:List Fc} (h:l.length<20):R20 l:=⟨l.map (·.r),by rw [za];exact h,fun f hf=>zK.2 ⟨f,hf,rfl⟩⟩
theorem R20.of {l m:List Fc} (h:R20 l) (hm:∀ f,f∈m->∃ g,g∈l/\f.r=g.r):R20 m:=by
 obtain ⟨R,h1,h2⟩:=h;exact ⟨R,h1,fun f hf=>by obtain ⟨g,g1,g2⟩:=hm f hf;rw [g2];exact h2 g g1⟩
def Keyed (l:List Fc):Prop:=Few l/\(∀ f,f∈l->(∀ v,v∈f.r->KOk v)/\(keyOf f.r).length<=17592186044416)/\R20 l
theorem Keyed.key {l:List Fc} (h:Keyed l) {f:Fc} (hf:f∈l):xhK (f.r.map encV)=some (keyOf f.r):=xHD f.r (h.1.2 f hf) (h.2.1 f hf).1 (h.2.1 f hf).2
theorem xH6 (l:List Fc) (h:Keyed l) (k:Nat) (hk:k<l.length) (G:List Grp) (hG:GI (l.take k) G) :
  xaW (l.map encF) ((l.length:Nat):Int) (G.length,(k:Int),ents 0 (G.map (·.1)),G.map encG) =
   some (.inl ((if pv l[k].p=true then upd G l[k] else G).length,((k+1:Nat):Int),ents 0 ((if pv l[k].p=true then upd G l[k] else G).map (·.1)),(if pv l[k].p=true then upd G l[k] else G).map encG)):=by
 have hl:=h.1.1;have i1:(k:Int)<(l.length:Int):=by omega
 have gf:(l.map encF).getD k .top=encF l[k]:=xaa _ _ _ hk;have ek:=h.key (zo hk);have kl:=(h.2.1 _ (zo hk)).2;have O:=hG.len;rw [zt] at O;cases hv:pv l[k].p with
 | false =>
  simp only [xaW,xdl,sBU,i1,hk,gf,cF0,cF1,cF2,sF0,sF1,sF2,lF,sF12,sF02,xnb,hv,xLZ (n:=k) (by omega)]
  rfl
 | true =>
  have k1:(keyOf l[k].r).length<=4611686018427387904:=by omega
  have hx:=xET (G.map (·.1)) 0 l[k].r;have n1:(ents 0 (G.map (·.1))).length<4611686018427387904:=by rw [xCG,za];omega
  have m1:(G.length+1)*48<=140737488355328:=by omega
  have m2:G.length+1<=4611686018427387904:=by omega
  simp only [if_true];cases hi:(G.map (·.1)).findIdx? fun x=>decide (x=l[k].r) with
  | none =>
   rw [hi] at hx;have hu:upd G l[k]=G++[(l[k].r,[l[k].p])]:=by unfold upd;rw [hi]
   have hh:xNo (ents 0 (G.map (·.1))) (keyOf l[k].r)=false:=by unfold xNo;rw [hx];rfl
   have hg:xNc (AV.int .i64 0) (ents 0 (G.map (·.1))) (keyOf l[k].r)=AV.int .i64 0:=by unfold xNc;rw [hx]
   have hp:xNa (ents 0 (G.map (·.1))) (keyOf l[k].r) (AV.int .i64 (G.length:Int))=ents 0 ((G++[(l[k].r,[l[k].p])]).map (·.1)):=by
    unfold xNa;rw [hx,zx];show _=ents 0 (G.map (·.1)++[l[k].r]);rw [xAR,za,zH]
   have i2:(G.length:Int)<((G.length+1:Nat):Int):=by omega
   have J:xMT (Sh.int .i64) (AV.int .i64 0)=true:=rfl;have gl:∀ x:AV,(G.map encG++[x]).getD G.length .top=x:=fun x=>by have:=xHt (G.map encG) x .top;rwa [za] at this
   have sl:∀ x y:AV,(G.map encG++[x]).set G.length y=G.map encG++[y]:=fun x y=>by have:=xJg (G.map encG) x y;rwa [za] at this
   rw [hu];simp only [xaW,xdl,xge,xgf,xcQ,xcR,xd9,xgg,xea,xao,xgh,xap,xaE,xal,xdM,xfl,xfm,xa3,xfn,xdN,xbG,sBU,i1,hk,gf,cF0,cF1,cF2,sF0,sF1,sF2,lF,sF12,sF02,xnb,hv,xLZ (n:=k) (by omega),ek,k1,hh,hg,hp,n1,m1,m2,i2,J,gl,sl,z8,zj,zx,zV,zW,xMz,tolA,xMC,xMA,xMF,g2a,g2b,lt2,tk1,dp2,y5,Nat.lt_succ_self,Bool.and_self,List.length_nil,zH,xER,xES,List.singleton_append,zU,zD,Int.natCast_zero]
   try simp [xab,xME,sUF]
  | some j =>
   obtain ⟨hj,hr⟩:=xvP hi;rw [hi] at hx;have q:j<G.length:=by simpa using hj
   rw [List.getElem_map] at hr;have gd:G.getD j ([],[])=G[j]:=by rw [z7,ze q];rfl
   have hu:upd G l[k]=G.set j (l[k].r,G[j].2++[l[k].p]):=by unfold upd;rw [hi];dsimp only;rw [gd]
   have hh:xNo (ents 0 (G.map (·.1))) (keyOf l[k].r)=true:=by unfold xNo;rw [hx];rfl
   have hg:xNc (AV.int .i64 0) (ents 0 (G.map (·.1))) (keyOf l[k].r)=AV.int .i64 (j:Int):=by
    unfold xNc;rw [hx];dsimp only;rw [xCF _ _ _ hj,zH];rfl
   have gj:(G.map encG).getD j .top=encG G[j]:=xaa _ _ _ q;have i2:(j:Int)<(G.length:Int):=by omega
   have J:xMT (Sh.int .i64) (AV.int .i64 (j:Int))=true:=rfl;have pl:G[j].2.length<=k:=by
    rw [hG.ps _ (zo q)];have:=xDj (l.take k) G[j].1;rw [zt] at this;omega
   have m3:(G[j].2.length+1)*16<=140737488355328:=by omega
   have m4:G[j].2.length+1<=4611686018427387904:=by omega
   have gs:∀ x:AV,((G.map encG).set j x).getD j .top=x:=fun x=>by
    rw [z7,zL (by simpa using q)];rfl
   have ss:∀ x y:AV,((G.map encG).set j x).set j y=(G.map encG).set j y:=fun x y=>List.set_set ..
   have tj:(AV.int IntKind.i64 (j:Int)).toInt=(j:Int):=rfl;have cj:(encG G[j]).cells=[.list 3 (l[k].r.map encV),.list 2 (G[j].2.map encP)]:=by rw [<-hr];rfl
   rw [hu,xAu q hr,y5,List.map_set];simp only [xaW,xdl,xge,xgf,xcQ,xcR,xd9,xgg,xea,xao,xgh,xap,xaE,xal,xdM,xfl,xfm,xa3,xfn,xdN,xbG,sBU,i1,hk,gf,cF0,cF1,cF2,sF0,sF1,sF2,lF,sF12,sF02,xnb,hv,xLZ (n:=k) (by omega),ek,k1,hh,hg,i2,J,tj,gj,cj,q,y5,gs,ss,xMz,tolA,xMC,xMA,xMF,g2a,g2b,lt2,tk1,dp2,m3,m4,Bool.and_self,z8,zj,Nat.lt_succ_self,xER,xES,zx,zV,zW,List.singleton_append,zD]
   try simp [xab,xME,hr,sUF]
def grp (l:List Fc):List Grp:=l.foldl (fun G f=>if pv f.p=true then upd G f else G) []
theorem xCP (l:List Fc) (f:Fc):grp (l++[f])=if pv f.p=true then upd (grp l) f else grp l:=by simp [grp]
theorem xHu:∀ l:List Fc,GI l.reverse (grp l.reverse)
 | []=>GI.nil
 | f::l=>by
  rw [List.reverse_cons,xCP];have ih:=xHu l;cases hv:pv f.p with
  | true=>rw [if_pos rfl];exact ih.upd hv
  | false=>rw [if_neg (by simp)];exact ih.skip hv
theorem xHv (l:List Fc):GI l (grp l):=by have:=xHu l.reverse;rwa [List.reverse_reverse] at this
theorem xH5 (l:List Fc) (h:Keyed l):Iter (xaW (l.map encF) ((l.length:Nat):Int)) ((0:Nat),(0:Int),[],[])=some ((grp l).length,(grp l).map encG):=by
 refine xkz (fun k=>(((grp (l.take k)).length,((k:Nat):Int),ents 0 ((grp (l.take k)).map (·.1)),(grp (l.take k)).map encG):Nat×Int×List AV×List AV)) l.length _ (fun k hk=>?_) ?_ l.length 0 (by omega)
 . rw [xH6 l h k hk (grp (l.take k)) (xHv _)];have tk:l.take (k+1)=l.take k++[l[k]]:=by rw [List.take_add_one,ze hk];rfl
   rw [tk,xCP]
 . simp only [xaW,xdl,za,zy,zm,xac,y7,sUF]
theorem xJL (x y:Grp) (hx:x.1.length<=4398046511104):xMq (encG x) (encG y)=true/\xMr (encG x) (encG y)=cmpR x.1 y.1:=by
 have e:xfO (x.1.map encV) (x.2.map encP) (y.1.map encV) (y.2.map encP)=some (cmpR x.1 y.1):=by
  unfold xfO xmw;rw [xIi x.1 y.1 (by unfold maxLen;omega)];rfl
 have e2:xfO ((encG x).cells.getD 0 .top).toList ((encG x).cells.getD 1 .top).toList ((encG y).cells.getD 0 .top).toList ((encG y).cells.getD 1 .top).toList=some (cmpR x.1 y.1):=e;unfold xMq xMr;rw [e2];exact ⟨rfl,rfl⟩
theorem xKd (l:List Fc) (h:Keyed l):∃ S:List Grp,xjf (l.map encF)=some (S.map encG)/\xMc l (S.map (·.1))/\(∀ g,g∈S->g.2=psOf l g.1)/\S.length<=l.length:=by
 have hg:=xHv l;have Q:=h.1.1;have J:=hg.len;have cG:Cm fun x y:Grp=>cmpR x.1 y.1:=xqL.on (e:=fun x:Grp=>x.1)
 obtain ⟨R,U,hR⟩:=h.2.2;have O:(grp l).length<20:=by
  have:=hg.nd.length_le_of_subset (l₂:=R) fun r hr=>by
   obtain ⟨f,hf,e,_⟩:=(hg.mem r).1 hr;rw [<-e];exact hR f hf
  rw [za] at this;omega
 obtain ⟨r,e,p,s⟩:=xCR cG.ord [] (grp l) [];simp only [zU,zD,List.length_nil,zH] at e;have es:=xLQ (N:=(grp l).length) (by omega) (ok:=fun g=>g.1.length<=1048576) (c:=fun x y:Grp=>cmpR x.1 y.1) (fun x y hx hy=>xJL x y (by omega)) O (grp l) r rfl (fun g q=>by
  obtain ⟨f,hf,e,_⟩:=(hg.mem g.1).1 (zK.2 ⟨g,q,rfl⟩);rw [<-e];exact h.1.2 f hf) e
 have rl:=p.length_eq;refine ⟨r,?_,⟨?_,fun x=>?_⟩,fun g q=>hg.ps g (p.mem_iff.1 q),by rw [rl];exact J⟩
 . have el:=xH5 l h;have ra:xNp 2 1 ((grp l).map encG)=true:=by
    unfold xNp;rw [zI];intro x hx;obtain ⟨g,_,rfl⟩:=zK.1 hx;rfl
   have ll:(grp l).length<=r.length:=by omega
   have tt:List.take (grp l).length (r.map encG)=r.map encG:=zi (by rw [za];omega)
   unfold xjf xnw xmy xmz xiB xmA xmB xmC;simp only [za,el,zk,zh,xab,ra,es,zH,ll,zn,zS,zr,tt,sUF]
 . refine xIf (fun _ _=>xm5) ?_ ?_
   . exact List.pairwise_map.2 s
   . exact ((p.map (·.1)).nodup_iff).2 hg.nd
 . rw [(p.map (·.1)).mem_iff];exact hg.mem x
end Go.Sim.M
end
noncomputable section
set_option maxRecDepth 100000
namespace Go.Sim.M
open Go.RowKit Go.Lib
def xqJ (l:List AV) (i:Int):Bool:=decide ((0:Int)<=i)&&decide (i<(↑l.length:Int))
def xvb {T:Type} (l:List AV) (out_n:Nat) (q:Int) (na:Int) (nb:Int) (i:Int) (out_xs:List AV) (δ:T) (κl:(Int×Int×Int×List AV)->T) (κr:(Int×Int×Int×List AV)->T):T:=br (decide (i<(↑l.length:Int))) (br (xqJ l i) (br (decide (i.toNat<l.length)&&xMT (Sh.int IntKind.i64) ((l.getD i.toNat AV.top).cells.getD (0:Nat) AV.top)) (br (((l.getD i.toNat AV.top).cells.getD (0:Nat) AV.top).toInt==q) (br (xqJ l i) (br (decide (i.toNat<l.length)&&xMT (Sh.int IntKind.i64) ((l.getD i.toNat AV.top).cells.getD (1:Nat) AV.top)) (br (xqJ l i) (br (decide (i.toNat<l.length)&&xMT (Sh.int IntKind.i64) ((l.getD i.toNat AV.top).cells.getD (2:Nat) AV.top)) (κl (IntKind.i64.wrap (na+((l.getD i.toNat AV.top).cells.getD (1:Nat) AV.top).toInt),IntKind.i64.wrap (nb+((l.getD i.toNat AV.top).cells.getD (2:Nat) AV.top).toInt),IntKind.i64.wrap (i+(1:Int)),out_xs)) (δ)) (δ)) (δ)) (δ)) (κr (na,nb,i,out_xs))) (δ)) (δ)) (κr (na,nb,i,out_xs))
def xho (l:List AV) (out_n:Nat) (q:Int):(Int×Int×Int×List AV)->Option ((Int×Int×Int×List AV)⊕(Int×Int×Int×List AV)):=fun (na,nb,i,out_xs)=>xvb l out_n q na nb i out_xs none (fun s=>some (.inl s)) (fun p=>some (.inr p))
def xnh (keep:Bool->Bool->Bool) (out_n:Nat):Bool:=decide ((0:Int)<=IntKind.i64.wrap ((↑out_n:Int) - (1:Int)))&&decide (IntKind.i64.wrap ((↑out_n:Int) - (1:Int))<(↑out_n:Int))
def xrZ (keep:Bool->Bool->Bool) (l:List AV) (out_n:Nat) (na:Int) (nb:Int) (i:Int) (q:Int) (out_xs:List AV):Int×Int×Int×List AV:=(Iter (xho l out_n q) (na,nb,i,out_xs)).getD ((0:Int),(0:Int),(0:Int),[])
def xb3 (keep:Bool->Bool->Bool) (out_n:Nat):Nat:=(0:Nat)+(IntKind.i64.wrap ((↑out_n:Int) - (1:Int))).toNat
def xty (keep:Bool->Bool->Bool) (l:List AV) (out_n:Nat) (na:Int) (nb:Int) (i:Int) (q:Int) (out_xs:List AV):Int×Int×List AV:=(xrZ keep l out_n na nb i q out_xs).snd
def xeP (keep:Bool->Bool->Bool) (l:List AV) (out_n:Nat) (na:Int) (nb:Int) (i:Int) (q:Int) (out_xs:List AV):Int:=(xrZ keep l out_n na nb i q out_xs).fst
def xtw (keep:Bool->Bool->Bool) (l:List AV) (out_n:Nat) (na:Int) (nb:Int) (i:Int) (q:Int) (out_xs:List AV):Int×List AV:=(xty keep l out_n na nb i q out_xs).snd
def xeO (keep:Bool->Bool->Bool) (l:List AV) (out_n:Nat) (na:Int) (nb:Int) (i:Int) (q:Int) (out_xs:List AV):Int:=(xty keep l out_n na nb i q out_xs).fst
def xaH (keep:Bool->Bool->Bool) (l:List AV) (out_n:Nat) (na:Int) (nb:Int) (i:Int) (q:Int) (out_xs:List AV):List AV:=(xtw keep l out_n na nb i q out_xs).snd
def xtu (keep:Bool->Bool->Bool) (l:List AV) (out_n:Nat) (na:Int) (nb:Int) (i:Int) (q:Int) (out_xs:List AV):Bool:=keep (decide (xeP keep l out_n na nb i q out_xs>(0:Int))) (decide (xeO keep l out_n na nb i q out_xs>(0:Int)))
def xaT (keep:Bool->Bool->Bool) (l:List AV) (out_n:Nat) (na:Int) (nb:Int) (i:Int) (q:Int) (out_xs:List AV):Int:=(xtw keep l out_n na nb i q out_xs).fst
def xng (keep:Bool->Bool->Bool) (l:List AV) (out_n:Nat) (na:Int) (nb:Int) (i:Int) (q:Int) (out_xs:List AV):Bool:=decide (xb3 keep out_n<(xaH keep l out_n na nb i q out_xs).length)
def xtv (keep:Bool->Bool->Bool) (l:List AV) (out_n:Nat) (na:Int) (nb:Int) (i:Int) (q:Int) (out_xs:List AV):Bool:=decide (xaT keep l out_n na nb i q out_xs<(↑l.length:Int))
def xp2 {T:Type} (keep:Bool->Bool->Bool) (l:List AV) (out_n:Nat) (na:Int) (nb:Int) (i:Int) (q:Int) (out_xs:List AV) (δ:T) (κl:(Nat×Int×Int×Int×Int×List AV)->T) (κr:(Nat×List AV)->T):T:=br (decide (q<(1099511627776:Int))) (br ((Iter (xho l out_n q) (na,nb,i,out_xs)).isSome) (br (xtv keep l out_n na nb i q out_xs) (br (decide ((0:Int)<=xaT keep l out_n na nb i q out_xs)&&xtv keep l out_n na nb i q out_xs) (br (decide ((xaT keep l out_n na nb i q out_xs).toNat<l.length)&&xMT (Sh.int IntKind.i64) ((l.getD (xaT keep l out_n na nb i q out_xs).toNat AV.top).cells.getD (0:Nat) AV.top)) (br (xtu keep l out_n na nb i q out_xs) (br (decide ((↑out_n:Int)>(0:Int))) (br (xnh keep out_n) (br (xng keep l out_n na nb i q out_xs&&xMT (Sh.int IntKind.i64) (((xaH keep l out_n na nb i q out_xs).getD (xb3 keep out_n) AV.top).cells.getD (1:Nat) AV.top)) (br ((((xaH keep l out_n na nb i q out_xs).getD (xb3 keep out_n) AV.top).cells.getD (1:Nat) AV.top).toInt==q) (br (xnh keep out_n) (br (xng keep l out_n na nb i q out_xs) (κl (out_n,xeP keep l out_n na nb i q out_xs,xeO keep l out_n na nb i q out_xs,xaT keep l out_n na nb i q out_xs,((l.getD (xaT keep l out_n na nb i q out_xs).toNat AV.top).cells.getD (0:Nat) AV.top).toInt,(xaH keep l out_n na nb i q out_xs).set (xb3 keep out_n) (AV.agg (List.take (1:Nat) ((xaH keep l out_n na nb i q out_xs).getD (xb3 keep out_n) AV.top).cells++[AV.int IntKind.i64 ((l.getD (xaT keep l out_n na nb i q out_xs).toNat AV.top).cells.getD (0:Nat) AV.top).toInt]++List.drop (2:Nat) ((xaH keep l out_n na nb i q out_xs).getD (xb3 keep out_n) AV.top).cells)))) (δ)) (δ)) (br (out_n==(xaH keep l out_n na nb i q out_xs).length&&(decide ((out_n+(1:Nat))*(16:Nat)<=(140737488355328:Nat))&&decide (out_n+(1:Nat)<=(4611686018427387904:Nat)))) (κl (out_n+(1:Nat),xeP keep l out_n na nb i q out_xs,xeO keep l out_n na nb i q out_xs,xaT keep l out_n na nb i q out_xs,((l.getD (xaT keep l out_n na nb i q out_xs).toNat AV.top).cells.getD (0:Nat) AV.top).toInt,xaH keep l out_n na nb i q out_xs++[AV.agg [AV.int IntKind.i64 q,AV.int IntKind.i64 ((l.getD (xaT keep l out_n na nb i q out_xs).toNat AV.top).cells.getD (0:Nat) AV.top).toInt]])) (δ))) (δ)) (δ)) (br (out_n==(xaH keep l out_n na nb i q out_xs).length&&(decide ((out_n+(1:Nat))*(16:Nat)<=(140737488355328:Nat))&&decide (out_n+(1:Nat)<=(4611686018427387904:Nat)))) (κl (out_n+(1:Nat),xeP keep l out_n na nb i q out_xs,xeO keep l out_n na nb i q out_xs,xaT keep l out_n na nb i q out_xs,((l.getD (xaT keep l out_n na nb i q out_xs).toNat AV.top).cells.getD (0:Nat) AV.top).toInt,xaH keep l out_n na nb i q out_xs++[AV.agg [AV.int IntKind.i64 q,AV.int IntKind.i64 ((l.getD (xaT keep l out_n na nb i q out_xs).toNat AV.top).cells.getD (0:Nat) AV.top).toInt]])) (δ))) (κl (out_n,xeP keep l out_n na nb i q out_xs,xeO keep l out_n na nb i q out_xs,xaT keep l out_n na nb i q out_xs,((l.getD (xaT keep l out_n na nb i q out_xs).toNat AV.top).cells.getD (0:Nat) AV.top).toInt,xaH keep l out_n na nb i q out_xs))) (δ)) (δ)) (br (xtu keep l out_n na nb i q out_xs) (br (decide ((↑out_n:Int)>(0:Int))) (br (xnh keep out_n) (br (xng keep l out_n na nb i q out_xs&&xMT (Sh.int IntKind.i64) (((xaH keep l out_n na nb i q out_xs).getD (xb3 keep out_n) AV.top).cells.getD (1:Nat) AV.top)) (br ((((xaH keep l out_n na nb i q out_xs).getD (xb3 keep out_n) AV.top).cells.getD (1:Nat) AV.top).toInt==q) (br (xnh keep out_n) (br (xng keep l out_n na nb i q out_xs) (κl (out_n,xeP keep l out_n na nb i q out_xs,xeO keep l out_n na nb i q out_xs,xaT keep l out_n na nb i q out_xs,(1099511627776:Int),(xaH keep l out_n na nb i q out_xs).set (xb3 keep out_n) (AV.agg (List.take (1:Nat) ((xaH keep l out_n na nb i q out_xs).getD (xb3 keep out_n) AV.top).cells++[AV.int IntKind.i64 (1099511627776:Int)]++List.drop (2:Nat) ((xaH keep l out_n na nb i q out_xs).getD (xb3 keep out_n) AV.top).cells)))) (δ)) (δ)) (br (out_n==(xaH keep l out_n na nb i q out_xs).length&&(decide ((out_n+(1:Nat))*(16:Nat)<=(140737488355328:Nat))&&decide (out_n+(1:Nat)<=(4611686018427387904:Nat)))) (κl (out_n+(1:Nat),xeP keep l out_n na nb i q out_xs,xeO keep l out_n na nb i q out_xs,xaT keep l out_n na nb i q out_xs,(1099511627776:Int),xaH keep l out_n na nb i q out_xs++[AV.agg [AV.int IntKind.i64 q,AV.int IntKind.i64 (1099511627776:Int)]])) (δ))) (δ)) (δ)) (br (out_n==(xaH keep l out_n na nb i q out_xs).length&&(decide ((out_n+(1:Nat))*(16:Nat)<=(140737488355328:Nat))&&decide (out_n+(1:Nat)<=(4611686018427387904:Nat)))) (κl (out_n+(1:Nat),xeP keep l out_n na nb i q out_xs,xeO keep l out_n na nb i q out_xs,xaT keep l out_n na nb i q out_xs,(1099511627776:Int),xaH keep l out_n na nb i q out_xs++[AV.agg [AV.int IntKind.i64 q,AV.int IntKind.i64 (1099511627776:Int)]])) (δ))) (κl (out_n,xeP keep l out_n na nb i q out_xs,xeO keep l out_n na nb i q out_xs,xaT keep l out_n na nb i q out_xs,(1099511627776:Int),xaH keep l out_n na nb i q out_xs)))) (δ)) (κr (out_n,out_xs))
def xfM (keep:Bool->Bool->Bool) (l:List AV):(Nat×Int×Int×Int×Int×List AV)->Option ((Nat×Int×Int×Int×Int×List AV)⊕(Nat×List AV)):=fun (out_n,na,nb,i,q,out_xs)=>xp2 keep l out_n na nb i q out_xs none (fun s=>some (.inl s)) (fun p=>some (.inr p))
def xzx (keep:Bool->Bool->Bool) (a:List AV) (b:List AV):Option (Nat×List AV):=Iter (xfM keep ((xg1 a b).getD [])) ((0:Nat),(0:Int),(0:Int),(0:Int),(0:Int),[])
def xzZ (keep:Bool->Bool->Bool) (a:List AV) (b:List AV):Nat×List AV:=(xzx keep a b).getD ((0:Nat),[])
def xzX (keep:Bool->Bool->Bool) (a:List AV) (b:List AV):List AV:=(xzZ keep a b).snd
def xzY (keep:Bool->Bool->Bool) (a:List AV) (b:List AV):Nat:=(xzZ keep a b).fst
def xJv {T:Type} (keep:Bool->Bool->Bool) (a:List AV) (b:List AV) (δ:T) (κ:List AV->T):T:=br ((xg1 a b).isSome) (br ((xzx keep a b).isSome) (br (decide ((0:Nat)+xzY keep a b<=(xzX keep a b).length)&&true) (κ (List.take (xzY keep a b) (List.drop (0:Nat) (xzX keep a b)))) (δ)) (δ)) (δ)
def swG (keep:Bool->Bool->Bool) (a:List AV) (b:List AV):Option (List AV):=xJv keep a b none some
end Go.Sim.M
end
noncomputable section
set_option maxRecDepth 100000
namespace Go.Sim.M
open Go.RowKit Go.Lib Go.Sort
def xLx (e:Edg):AV:=.agg [.int .i64 e.1,.int .i64 e.2.1,.int .i64 e.2.2]
theorem xwU (x y:Int):∀ a b,xLV x y (a++b)=xLV x y a++xLV x y b
 | [],b=>rfl
 | p::a,b=>by
  simp only [List.cons_append,xLV,xwU x y a b];split<;>rfl
theorem xzc (x y:Int) (l:List Per) (n:Nat) (h:n<l.length):xLV x y (l.take (n+1))=xLV x y (l.take n)++(if pv l[n]=true then [(l[n].1,x,y),(l[n].2,-x,-y)] else []):=by
 rw [List.take_add_one,ze h];show xLV x y (l.take n++[l[n]])=_;rw [xwU];rfl
theorem xwS (B:List AV) (l:List Per) (hl:l.length<=1073741824):∀ (k n:Nat),n+k=l.length ->
  Iter (xbC B (l.map encP) ((l.length:Nat):Int)) ((xLV 1 0 (l.take n)).length,((n:Nat):Int),(xLV 1 0 (l.take n)).map xLx)=some ((xLV 1 0 l).length,(xLV 1 0 l).map xLx)
 | 0,n,hk=>by
  obtain rfl:n=l.length:=by omega
  rw [zi (zd _)];refine xad ?_;unfold xbC;simp only;unfold xj9;rw [decide_eq_false (by omega:¬ ((l.length:Nat):Int)<((l.length:Nat):Int))]
  rfl
 | k+1,n,hk=>by
  have h1:n<l.length:=by omega
  have J:=xkp 1 0 (l.take n);have q:(l.take n).length<=n:=by rw [zt];omega
  have d1:((n:Nat):Int)<((l.length:Nat):Int):=by omega
  have d2:(0:Int)<=((n:Nat):Int):=by omega
  have d3:((xLV 1 0 (l.take n)).length+2)*24<=140737488355328:=by omega
  have d4:(xLV 1 0 (l.take n)).length+2<=4611686018427387904:=by omega
  have d5:((xLV 1 0 (l.take n)).length==(xLV 1 0 (l.take n)).length)=true:=by simp
  have gf:(l.map encP).getD n .top=encP l[n]:=xaa _ _ _ h1;have c0:((encP l[n]).cells.getD 0 .top).toInt=l[n].1:=rfl;have c1:((encP l[n]).cells.getD 1 .top).toInt=l[n].2:=rfl;have sh:((encP l[n]).cells.length==(2:Nat)&&xMx [Sh.int IntKind.i64,Sh.int IntKind.i64] (encP l[n]).cells (0:Nat))=true:=rfl;have st:xbC B (l.map encP) ((l.length:Nat):Int) ((xLV 1 0 (l.take n)).length,((n:Nat):Int),(xLV 1 0 (l.take n)).map xLx) =
    some (.inl ((xLV 1 0 (l.take (n+1))).length,((n+1:Nat):Int),(xLV 1 0 (l.take (n+1))).map xLx)):=by
   rw [xzc 1 0 l n h1];unfold xbC;simp only;unfold xj9;rw [zN,gf,sh,c0,c1,xnb,za,za,decide_eq_true d1,decide_eq_true d2,decide_eq_true h1,decide_eq_true d3,decide_eq_true d4,d5,xjd (show n+1<=maxLen by unfold maxLen;omega)]
   cases pv l[n] with
   | true=>simp only [if_true,z8,zx];rfl
   | false=>simp only [zT,if_false,zD];rfl
  rw [xaj st];exact xwS B l hl k (n+1) (by omega)
theorem xwT (E0:List Edg) (l:List Per) (hl:l.length<=1073741824) (hE:E0.length<=2147483648):∀ (k n:Nat),n+k=l.length ->
  Iter (xdG (l.map encP) ((l.length:Nat):Int)) ((E0++xLV 0 1 (l.take n)).length,((n:Nat):Int),(E0++xLV 0 1 (l.take n)).map xLx)=some ((E0++xLV 0 1 l).length,(E0++xLV 0 1 l).map xLx)
 | 0,n,hk=>by
  obtain rfl:n=l.length:=by omega
  rw [zi (zd _)];refine xad ?_;unfold xdG;simp only;unfold xka;rw [decide_eq_false (by omega:¬ ((l.length:Nat):Int)<((l.length:Nat):Int))]
  rfl
 | k+1,n,hk=>by
  have h1:n<l.length:=by omega
  have O:=xkp 0 1 (l.take n);have J:(l.take n).length<=n:=by rw [zt];omega
  have q:(E0++xLV 0 1 (l.take n)).length=E0.length+(xLV 0 1 (l.take n)).length:=z8;have d1:((n:Nat):Int)<((l.length:Nat):Int):=by omega
  have d2:(0:Int)<=((n:Nat):Int):=by omega
  have d3:((E0++xLV 0 1 (l.take n)).length+2)*24<=140737488355328:=by omega
  have d4:(E0++xLV 0 1 (l.take n)).length+2<=4611686018427387904:=by omega
  have d5:((E0++xLV 0 1 (l.take n)).length==(E0++xLV 0 1 (l.take n)).length)=true:=by simp
  have gf:(l.map encP).getD n .top=encP l[n]:=xaa _ _ _ h1;have c0:((encP l[n]).cells.getD 0 .top).toInt=l[n].1:=rfl;have c1:((encP l[n]).cells.getD 1 .top).toInt=l[n].2:=rfl;have sh:((encP l[n]).cells.length==(2:Nat)&&xMx [Sh.int IntKind.i64,Sh.int IntKind.i64] (encP l[n]).cells (0:Nat))=true:=rfl;have st:xdG (l.map encP) ((l.length:Nat):Int) ((E0++xLV 0 1 (l.take n)).length,((n:Nat):Int),(E0++xLV 0 1 (l.take n)).map xLx) =
    some (.inl ((E0++xLV 0 1 (l.take (n+1))).length,((n+1:Nat):Int),(E0++xLV 0 1 (l.take (n+1))).map xLx)):=by
   rw [xzc 0 1 l n h1,<-zw];unfold xdG;simp only;unfold xka;rw [zN,gf,sh,c0,c1,xnb,za,za,decide_eq_true d1,decide_eq_true d2,decide_eq_true h1,decide_eq_true d3,decide_eq_true d4,d5,xjd (show n+1<=maxLen by unfold maxLen;omega)]
   cases pv l[n] with
   | true=>rw [if_pos rfl,z8 (bs:=[(l[n].1,0,1),(l[n].2,-0,-1)]),zx (l₂:=[(l[n].1,0,1),(l[n].2,-0,-1)])];rfl
   | false=>rw [if_neg (by simp),zD];rfl
  rw [xaj st];exact xwT E0 l hl hE k (n+1) (by omega)
def toE (e:Edg):TyE:=(Fin.ofNat 1099511627777 e.1.toNat,e.2.1,e.2.2)
def ofE (x:TyE):Edg:=((x.1.val:Int),x.2.1,x.2.2)
theorem xJ0 {e:Edg} (h1:0<=e.1) (h2:e.1<=1099511627776):ofE (toE e)=e:=by
 have:e.1.toNat % 1099511627777=e.1.toNat:=Nat.mod_eq_of_lt (by omega)
 simp only [ofE,toE,Fin.ofNat,this,Int.toNat_of_nonneg h1]
theorem xKp (E:List Edg) (h:∀ e,e∈E->0<=e.1/\e.1<=1099511627776):(E.map xLx).all isE=true/\∃ S:List Edg,srtE (E.map xLx)=S.map xLx/\S.Perm E/\S.Pairwise fun x y=>x.1<=y.1:=by
 refine ⟨?_,(pdqL cmpE (E.map toE)).map ofE,?_,?_,?_⟩
 . rw [zI];intro x hx;obtain ⟨e,he,rfl⟩:=zK.1 hx;have:=h e he;show (decide _&&decide _)=true;rw [decide_eq_true this.1,decide_eq_true this.2];rfl
 . unfold srtE;have e1:(E.map xLx).map decE=E.map toE:=by rw [List.map_map];rfl
   rw [e1,List.map_map];rfl
 . have hp:=((xna cmpE swoE (E.map toE)).1).map ofE;have e2:(E.map toE).map ofE=E:=by
    rw [List.map_map]
    conv=>rhs;rw [<-List.map_id E]
    refine List.map_congr_left fun e he=>?_
    exact xJ0 (h e he).1 (h e he).2
   rwa [e2] at hp
 . rw [List.pairwise_map];refine (xtG cmpE swoE (E.map toE)).imp fun {x y} q=>?_
   show ((x.1.val:Nat):Int)<=((y.1.val:Nat):Int);unfold cmpE at q;omega
theorem xID (a b:List Per) (ha:a.length<=1073741824) (hb:b.length<=1073741824) :
  ∃ S:List Edg,xg1 (a.map encP) (b.map encP)=some (S.map xLx)/\S.Perm (xLV 1 0 a++xLV 0 1 b)/\S.Pairwise fun x y=>x.1<=y.1:=by
 have l1:=xkp 1 0 a;have l2:=xkp 0 1 b;have O:(xLV 1 0 a++xLV 0 1 b).length=(xLV 1 0 a).length+(xLV 0 1 b).length:=z8;obtain ⟨q,S,hS,hp,hs⟩:=xKp (xLV 1 0 a++xLV 0 1 b) (fun e he=>by
  rcases zG.1 he with he|he
  . exact xm6 1 0 a e he
  . exact xm6 0 1 b e he)
 refine ⟨S,?_,hp,hs⟩;have h0:=xwS (b.map encP) a ha a.length 0 (by omega)
 rw [List.take_zero] at h0;have h1:=xwT (xLV 1 0 a) b hb (by omega) b.length 0 (by omega)
 rw [List.take_zero] at h1;have h0:Iter (xbC (b.map encP) (a.map encP) (((a.map encP).length:Nat):Int)) (0,0,[])=some ((xLV 1 0 a).length,(xLV 1 0 a).map xLx):=by rw [za];exact h0
 have v4:xmq (a.map encP) (b.map encP)=((xLV 1 0 a).length,(xLV 1 0 a).map xLx):=by unfold xmq;rw [h0];rfl
 have v3:xmp (a.map encP) (b.map encP)=some ((xLV 1 0 a++xLV 0 1 b).length,(xLV 1 0 a++xLV 0 1 b).map xLx):=by
  unfold xmp;rw [v4,za];have e:xLV 1 0 a++xLV 0 1 []=xLV 1 0 a:=zD _;rw [e] at h1;exact h1
 have v2:xmo (a.map encP) (b.map encP)=((xLV 1 0 a++xLV 0 1 b).length,(xLV 1 0 a++xLV 0 1 b).map xLx):=by unfold xmo;rw [v3];rfl
 have v0:xgE (a.map encP) (b.map encP)=(xLV 1 0 a++xLV 0 1 b).length:=by unfold xgE;rw [v2]
 have v1:xgF (a.map encP) (b.map encP)=(xLV 1 0 a++xLV 0 1 b).map xLx:=by unfold xgF;rw [v2]
 have J:S.length=(xLV 1 0 a++xLV 0 1 b).length:=hp.length_eq;have d1:(xLV 1 0 a++xLV 0 1 b).length<4611686018427387904:=by omega
 have d2:0+(xLV 1 0 a++xLV 0 1 b).length<=(S.map xLx).length:=by rw [za,J];omega
 have d3:(xLV 1 0 a++xLV 0 1 b).length.beq (xLV 1 0 a++xLV 0 1 b).length=true:=Nat.beq_refl _;have tk:List.take (xLV 1 0 a++xLV 0 1 b).length (List.drop 0 (S.map xLx))=S.map xLx:=by rw [zr,zi (by rw [za,J];exact zd _)]
 unfold xg1 xsT;rw [h0,v3,v0,v1,q,hS,tk,za,d3,decide_eq_true d1,decide_eq_true d2];rfl
theorem xHE (out:List Per) (h:out≠[]):out=out.dropLast++[out[out.length - 1]'(by have:=List.length_pos_iff.2 h;omega)]:=by
 have:=List.dropLast_concat_getLast h;rw [List.getLast_eq_getElem] at this;exact this.symm
section
variable (S : List Edg) (hS1 : ∀ e, e ∈ S -> 0 <= e.1 /\ e.1 <= 1099511627776) (hS2 : ∀ e, e ∈ S -> (-1 <= e.2.1 /\ e.2.1 <= 1) /\ (-1 <= e.2.2 /\ e.2.2 <= 1)) (hS3 : S.Pairwise fun x y => x.1 <= y.1) (hS4 : S.length <= 8589934592)
theorem xAB (g:Edg->Int):∀ l:List Edg,(∀ e,e∈l->-1<=g e/\g e<=1)->-(l.length:Int)<=xLY g l/\xLY g l<=l.length
 | [],_=>by simp [xLY]
 | e::l,h=>by
  have:=xAB g l fun x hx=>h x (List.mem_cons_of_mem _ hx)
  have:=h e (List.mem_cons_self ..);simp only [xLY,zF];omega
theorem xDF (g:Edg->Int) (n:Nat) (h:n<S.length):xLY g (S.take (n+1))=xLY g (S.take n)+g S[n]:=by
 rw [List.take_add_one,ze h];show xLY g (S.take n++[S[n]])=_;rw [xvu];simp [xLY]
include hS1 hS2 hS3 hS4
theorem xzl (on:Nat) (at':Int) (ox:List AV):∀ (k i:Nat),i+k=S.length->∃ j:Nat,i<=j/\j<=S.length /\
  Iter (xho (S.map xLx) on at') (xLY (·.2.1) (S.take i),xLY (·.2.2) (S.take i),((i:Nat):Int),ox)=some (xLY (·.2.1) (S.take j),xLY (·.2.2) (S.take j),((j:Nat):Int),ox) /\
  (∀ (m:Nat) (h:m<S.length),i<=m->m<j->S[m].1=at')/\∀ (h:j<S.length),S[j].1≠at'
 | 0,i,hk=>by
  obtain rfl:i=S.length:=by omega
  refine ⟨S.length,zd _,zd _,xad ?_,fun m _ h1 h2=>by omega,fun h=>absurd h (Nat.lt_irrefl _)⟩
  unfold xho;simp only;unfold xvb;rw [za,decide_eq_false (by omega:¬ ((S.length:Nat):Int)<((S.length:Nat):Int))]
  rfl
 | k+1,i,hk=>by
  have h1:i<S.length:=by omega
  have d1:((i:Nat):Int)<((S.length:Nat):Int):=by omega
  have d2:(0:Int)<=((i:Nat):Int):=by omega
  have gf:(S.map xLx).getD i .top=xLx S[i]:=xaa _ _ _ h1;have c0:((xLx S[i]).cells.getD 0 .top).toInt=S[i].1:=rfl;have c1:((xLx S[i]).cells.getD 1 .top).toInt=S[i].2.1:=rfl;have c2:((xLx S[i]).cells.getD 2 .top).toInt=S[i].2.2:=rfl;have s0:xMT (Sh.int IntKind.i64) ((xLx S[i]).cells.getD 0 .top)=true:=rfl;have s1:xMT (Sh.int IntKind.i64) ((xLx S[i]).cells.getD 1 .top)=true:=rfl;have s2:xMT (Sh.int IntKind.i64) ((xLx S[i]).cells.getD 2 .top)=true:=rfl;have v0:xqJ (S.map xLx) ((i:Nat):Int)=true:=by unfold xqJ;rw [za,decide_eq_true d1,decide_eq_true d2];rfl
  by_cases he:S[i].1=at'
  . have hb:=hS2 S[i] (zo h1);have b1:=xAB (·.2.1) (S.take i) fun e he=>(hS2 e (List.mem_of_mem_take he)).1
    have b2:=xAB (·.2.2) (S.take i) fun e he=>(hS2 e (List.mem_of_mem_take he)).2
    have hl:(S.take i).length=i:=by rw [zt];omega
    rw [hl] at b1 b2;have b3:=xDF S (·.2.1) i h1;have b4:=xDF S (·.2.2) i h1;have w1:IntKind.i64.wrap (xLY (·.2.1) (S.take i)+S[i].2.1)=xLY (·.2.1) (S.take (i+1)):=by rw [b3];exact xbs (by omega) (by omega)
    have w2:IntKind.i64.wrap (xLY (·.2.2) (S.take i)+S[i].2.2)=xLY (·.2.2) (S.take (i+1)):=by rw [b4];exact xbs (by omega) (by omega)
    have st:xho (S.map xLx) on at' (xLY (·.2.1) (S.take i),xLY (·.2.2) (S.take i),((i:Nat):Int),ox)=some (.inl (xLY (·.2.1) (S.take (i+1)),xLY (·.2.2) (S.take (i+1)),((i+1:Nat):Int),ox)):=by
     unfold xho;simp only;unfold xvb;have e1:(S[i].1==at')=true:=by simp [he]
     rw [v0,zN,gf,s0,s1,s2,c0,c1,c2,za,decide_eq_true d1,decide_eq_true h1,e1,w1,w2,xjd (show i+1<=maxLen by unfold maxLen;omega)]
     rfl
    obtain ⟨j,j1,j2,j3,j4,j5⟩:=xzl on at' ox k (i+1) (by omega)
    refine ⟨j,by omega,j2,by rw [xaj st];exact j3,fun m hm h2 h3=>?_,j5⟩
    rcases Nat.eq_or_lt_of_le h2 with rfl|h2
    . exact he
    . exact j4 m hm h2 h3
  . refine ⟨i,zd _,by omega,xad ?_,fun m _ h2 h3=>by omega,fun _=>he⟩
    unfold xho;simp only;unfold xvb;have e1:(S[i].1==at')=false:=by simp [he]
    rw [v0,zN,gf,s0,c0,za,decide_eq_true d1,decide_eq_true h1,e1];rfl
omit hS1 hS2 hS3 hS4
def SwI (K:Int->Bool) (s:Nat×Int×Int×Int×Int×List AV):Prop :=
 ∃ (out:List Per) (i:Nat) (at':Int),s=(out.length,xLY (·.2.1) (S.take i),xLY (·.2.2) (S.take i),((i:Nat):Int),at',out.map encP)/\0<=at'/\at'<=1099511627776/\i<=S.length /\
  (∀ (m:Nat) (h:m<S.length),m<i->S[m].1<at')/\(∀ (m:Nat) (h:m<S.length),i<=m->at'<=S[m].1)/\OutOk out at' K/\(out.length:Int)<=at'
include hS1 hS2 hS3 hS4
set_option maxHeartbeats 4000000 in
theorem xEv (keep:Bool->Bool->Bool) (a b:List Per) (hp:S.Perm (xLV 1 0 a++xLV 0 1 b)) (s:Nat×Int×Int×Int×Int×List AV) (hs:SwI S (fun t=>keep (inL a t) (inL b t)) s) :
  (∃ s',xfM keep (S.map xLx) s=some (.inl s')/\SwI S (fun t=>keep (inL a t) (inL b t)) s'/\(1099511627776 - s'.2.2.2.2.1).toNat<(1099511627776 - s.2.2.2.2.1).toNat) \/
  ∃ r,xfM keep (S.map xLx) s=some (.inr r)/\∃ out:List Per,r=(out.length,out.map encP)/\OutOk out 1099511627776 (fun t=>keep (inL a t) (inL b t)):=by
 obtain ⟨out,i,at',rfl,ai,az,hi,ax,au,J,a0⟩:=hs;by_cases hF:at'<1099511627776
 . left;obtain ⟨j,j1,j2,j3,j4,j5⟩:=xzl S hS1 hS2 hS3 hS4 out.length at' (out.map encP) (S.length - i) i (by omega)
   have al:∀ (m:Nat) (h:m<S.length),m<j->S[m].1<=at':=fun m h hm=>by
    by_cases aw:m<i
    . have:=ax m h aw;omega
    . have:=j4 m h (by omega) hm;omega
   have ar:∀ (m:Nat) (h:m<S.length),j<=m->at'<S[m].1:=fun m h hm=>by
    have hj:j<S.length:=by omega
    have h1:=au j hj (by omega)
    have h2:=j5 hj;have h3:S[j].1<=S[m].1:=by
     rcases Nat.eq_or_lt_of_le hm with rfl|hm
     . exact Int.le_refl _
     . exact zB.1 hS3 j m hj h hm
    omega
   obtain ⟨nx,O⟩:∃ nx:Int,nx=if h:j<S.length then S[j].1 else 1099511627776:=⟨_,rfl⟩
   have ab:at'<nx:=by
    rw [O];split
    . rename_i h;exact ar j h (zd _)
    . exact hF
   have U:nx<=1099511627776:=by
    rw [O];split
    . rename_i h;exact (hS1 _ (zo h)).2
    . exact Int.le_refl _
   have ah:∀ (m:Nat) (h:m<S.length),j<=m->nx<=S[m].1:=fun m h hm=>by
    have hj:j<S.length:=by omega
    rw [O,dif_pos hj];rcases Nat.eq_or_lt_of_le hm with rfl|hm
    . exact Int.le_refl _
    . exact zB.1 hS3 j m hj h hm
   have ak:∀ (g:Edg->Int) (t:Int),at'<=t->t<nx->xLY g (S.take j)=xL7 g t S:=fun g t W Y=>by
    conv=>rhs;rw [<-List.take_append_drop j S]
    rw [xoR,xBB,xzT]
    . omega
    . intro e he;obtain ⟨m,hm,rfl⟩:=zp.1 he;rw [List.getElem_drop];have:=ah (j+m) (by rw [y4] at hm;omega) (by omega)
      omega
    . intro e he;obtain ⟨m,hm,rfl⟩:=zp.1 he;rw [List.getElem_take];rw [zt] at hm;have:=al m (by omega) (by omega)
      omega
   have af:∀ t,at'<=t->t<nx->decide (xLY (·.2.1) (S.take j)>0)=inL a t/\decide (xLY (·.2.2) (S.take j)>0)=inL b t:=fun t W Y=>by
    rw [ak _ t W Y,ak _ t W Y,xzU _ t hp,xzU _ t hp,xoR,xoR,xva,xyg,xzW,xyh,Int.add_zero,Int.zero_add,xCC,xCC];exact ⟨rfl,rfl⟩
   obtain ⟨kv,aq⟩:∃ kv:Bool,kv=keep (decide (xLY (·.2.1) (S.take j)>0)) (decide (xLY (·.2.2) (S.take j)>0)):=⟨_,rfl⟩;have hK:∀ t,at'<=t->t<nx->keep (inL a t) (inL b t)=kv:=fun t W Y=>by
    rw [aq,(af t W Y).1,(af t W Y).2]
   have ao:xrZ keep (S.map xLx) out.length (xLY (·.2.1) (S.take i)) (xLY (·.2.2) (S.take i)) ((i:Nat):Int) at' (out.map encP)=(xLY (·.2.1) (S.take j),xLY (·.2.2) (S.take j),((j:Nat):Int),out.map encP):=by unfold xrZ;rw [j3];rfl
   have v8:xeP keep (S.map xLx) out.length (xLY (·.2.1) (S.take i)) (xLY (·.2.2) (S.take i)) ((i:Nat):Int) at' (out.map encP)=xLY (·.2.1) (S.take j):=by unfold xeP;rw [ao]
   have v9:xty keep (S.map xLx) out.length (xLY (·.2.1) (S.take i)) (xLY (·.2.2) (S.take i)) ((i:Nat):Int) at' (out.map encP)=(xLY (·.2.2) (S.take j),((j:Nat):Int),out.map encP):=by unfold xty;rw [ao]
   have v7:xeO keep (S.map xLx) out.length (xLY (·.2.1) (S.take i)) (xLY (·.2.2) (S.take i)) ((i:Nat):Int) at' (out.map encP)=xLY (·.2.2) (S.take j):=by unfold xeO;rw [v9]
   have v6:xtw keep (S.map xLx) out.length (xLY (·.2.1) (S.take i)) (xLY (·.2.2) (S.take i)) ((i:Nat):Int) at' (out.map encP)=(((j:Nat):Int),out.map encP):=by unfold xtw;rw [v9]
   have v1:xaH keep (S.map xLx) out.length (xLY (·.2.1) (S.take i)) (xLY (·.2.2) (S.take i)) ((i:Nat):Int) at' (out.map encP)=out.map encP:=by unfold xaH;rw [v6]
   have v3:xaT keep (S.map xLx) out.length (xLY (·.2.1) (S.take i)) (xLY (·.2.2) (S.take i)) ((i:Nat):Int) at' (out.map encP)=((j:Nat):Int):=by unfold xaT;rw [v6]
   have v2:xtu keep (S.map xLx) out.length (xLY (·.2.1) (S.take i)) (xLY (·.2.2) (S.take i)) ((i:Nat):Int) at' (out.map encP)=kv:=by unfold xtu;rw [v8,v7,<-aq]
   have v0:xng keep (S.map xLx) out.length (xLY (·.2.1) (S.take i)) (xLY (·.2.2) (S.take i)) ((i:Nat):Int) at' (out.map encP)=decide (xb3 keep out.length<out.length):=by unfold xng;rw [v1,za]
   have v5:xtv keep (S.map xLx) out.length (xLY (·.2.1) (S.take i)) (xLY (·.2.2) (S.take i)) ((i:Nat):Int) at' (out.map encP)=decide (j<S.length):=by
    unfold xtv;rw [v3,za];by_cases h:j<S.length
    . rw [decide_eq_true h,decide_eq_true (by omega)]
    . rw [decide_eq_false h,decide_eq_false (by omega)]
   have ag:(out.length+1)*16<=140737488355328:=by omega
   have aj:out.length+1<=4611686018427387904:=by omega
   have e1:(out.length==out.length)=true:=by simp
   have dF:decide (at'<1099511627776)=true:=decide_eq_true hF;have dj:decide ((0:Int)<=((j:Nat):Int))=true:=decide_eq_true (by omega)
   have Q:∀ h:j<S.length,(((S.map xLx).getD j .top).cells.getD 0 .top).toInt=nx:=fun h=>by
    rw [xaa _ _ _ h,O,dif_pos h];rfl
   have ad:∀ h:j<S.length,xMT (Sh.int IntKind.i64) (((S.map xLx).getD j .top).cells.getD 0 .top)=true:=fun h=>by
    rw [xaa _ _ _ h];rfl
   have ae:∀ q:List Per,OutOk q nx (fun t=>keep (inL a t) (inL b t))->(q.length:Int)<=nx->SwI S (fun t=>keep (inL a t) (inL b t)) (q.length,xLY (·.2.1) (S.take j),xLY (·.2.2) (S.take j),((j:Nat):Int),nx,q.map encP):=fun q ho hl =>
    ⟨q,j,nx,rfl,by omega,U,j2,fun m h hm=>by have:=al m h hm;omega,fun m h hm=>ah m h hm,ho,hl⟩
   have mu:(1099511627776 - nx).toNat<(1099511627776 - at').toNat:=by omega
   cases kv with
   | false =>
    refine ⟨(out.length,xLY (·.2.1) (S.take j),xLY (·.2.2) (S.take j),((j:Nat):Int),nx,out.map encP),?_,ae out (J.skip (by omega) hK) (by omega),mu⟩
    unfold xfM;simp only;unfold xp2;rw [v1,v2,v3,v5,v7,v8,j3,dF,dj,zN,za];by_cases hj:j<S.length
    . rw [decide_eq_true hj,ad hj,Q hj];rfl
    . rw [decide_eq_false hj];have:nx=1099511627776:=by rw [O,dif_neg hj]
      rw [this];rfl
   | true =>
    by_cases hne:out=[]
    . have Z:=J.add ai ab U hK (fun p hp=>by rw [hne] at hp;cases hp)
      refine ⟨((out++[(at',nx)]).length,xLY (·.2.1) (S.take j),xLY (·.2.2) (S.take j),((j:Nat):Int),nx,(out++[(at',nx)]).map encP),?_,ae _ Z (by rw [z8,zj];omega),mu⟩
      have dl:decide (((out.length:Nat):Int)>0)=false:=by rw [hne];rfl
      unfold xfM;simp only;unfold xp2;rw [v1,v2,v3,v5,v7,v8,j3,dF,dj,zN,za,za,dl,e1,decide_eq_true ag,decide_eq_true aj];by_cases hj:j<S.length
      . rw [decide_eq_true hj,ad hj,Q hj,zx,z8];rfl
      . rw [decide_eq_false hj];have:nx=1099511627776:=by rw [O,dif_neg hj]
        rw [this,zx,z8];rfl
    . have ay:=List.length_pos_iff.2 hne;have w1:IntKind.i64.wrap (((out.length:Nat):Int) - 1)=((out.length - 1:Nat):Int):=by rw [xbs (by omega) (by omega)];omega
      have an:xb3 keep out.length=out.length - 1:=by unfold xb3;rw [w1,zN];omega
      have v4:xnh keep out.length=true:=by
       unfold xnh;rw [w1,decide_eq_true (by omega),decide_eq_true (by omega)];rfl
      have dl:decide (((out.length:Nat):Int)>0)=true:=decide_eq_true (by omega)
      have dv:decide (out.length - 1<out.length)=true:=decide_eq_true (by omega)
      have am:out.length - 1<out.length:=by omega
      have gl:(out.map encP).getD (out.length - 1) .top=encP out[out.length - 1]:=xaa _ _ _ am;have cl:((encP out[out.length - 1]).cells.getD 1 .top).toInt=out[out.length - 1].2:=rfl;have sl:xMT (Sh.int IntKind.i64) ((encP out[out.length - 1]).cells.getD 1 .top)=true:=rfl;have ac:=xHE out hne;by_cases hl:out[out.length - 1].2=at'
      . have ap:=OutOk.ext (o:=out.dropLast) (p:=out[out.length - 1]) (by rw [<-ac];exact J) hl ab U hK
        have V:(out.dropLast++[(out[out.length - 1].1,nx)]).length=out.length:=by rw [z8,List.length_dropLast,zj];omega
        have aa:(out.map encP).set (out.length - 1) (AV.agg (List.take 1 (encP out[out.length - 1]).cells++[AV.int IntKind.i64 nx]++List.drop 2 (encP out[out.length - 1]).cells))=(out.dropLast++[(out[out.length - 1].1,nx)]).map encP:=by
         have e2:AV.agg (List.take 1 (encP out[out.length - 1]).cells++[AV.int IntKind.i64 nx]++List.drop 2 (encP out[out.length - 1]).cells)=encP (out[out.length - 1].1,nx):=rfl;rw [e2,<-List.map_set];congr 1;have e3:out.set (out.length - 1) (out[out.length - 1].1,nx)=(out.dropLast++[out[out.length - 1]]).set (out.length - 1) (out[out.length - 1].1,nx):=congrArg (fun l=>List.set l (out.length - 1) (out[out.length - 1].1,nx)) ac
         rw [e3,List.set_append_right _ _ (by rw [List.length_dropLast];exact zd _),List.length_dropLast,Nat.sub_self];rfl
        refine ⟨((out.dropLast++[(out[out.length - 1].1,nx)]).length,xLY (·.2.1) (S.take j),xLY (·.2.2) (S.take j),((j:Nat):Int),nx,(out.dropLast++[(out[out.length - 1].1,nx)]).map encP),?_,ae _ ap (by rw [V];omega),mu⟩
        have e4:(out[out.length - 1].2==at')=true:=by simp [hl]
        unfold xfM;simp only;unfold xp2;rw [v0,v1,v2,v3,v4,v5,v7,v8,an,j3,dF,dj,zN,za,gl,cl,sl,dl,dv,e4];by_cases hj:j<S.length
        . rw [decide_eq_true hj,ad hj,Q hj,aa,V];rfl
        . rw [decide_eq_false hj];have:nx=1099511627776:=by rw [O,dif_neg hj]
          rw [this] at aa V |-;rw [aa,V];rfl
      . have Z:=J.add ai ab U hK (fun p hp=>by
         rw [ac] at hp;rcases zG.1 hp with hp|hp
         . have h1:=J.span.2;rw [ac] at h1;have:=(List.pairwise_append.1 h1).2.2 p hp _ (zv.2 rfl);have h2:=J.low _ (zo am);have h3:=xbi.1 (J.span.1 _ (zo am));omega
         . rw [zv.1 hp];exact hl)
        refine ⟨((out++[(at',nx)]).length,xLY (·.2.1) (S.take j),xLY (·.2.2) (S.take j),((j:Nat):Int),nx,(out++[(at',nx)]).map encP),?_,ae _ Z (by rw [z8,zj];omega),mu⟩
        have e4:(out[out.length - 1].2==at')=false:=by simp [hl]
        unfold xfM;simp only;unfold xp2;rw [v0,v1,v2,v3,v4,v5,v7,v8,an,j3,dF,dj,zN,za,za,gl,cl,sl,dl,dv,e4,e1,decide_eq_true ag,decide_eq_true aj];by_cases hj:j<S.length
        . rw [decide_eq_true hj,ad hj,Q hj,zx,z8];rfl
        . rw [decide_eq_false hj];have:nx=1099511627776:=by rw [O,dif_neg hj]
          rw [this,zx,z8];rfl
 . right;have:at'=1099511627776:=by omega
   subst this;refine ⟨(out.length,out.map encP),?_,out,rfl,J⟩;unfold xfM;simp only;unfold xp2;rw [decide_eq_false hF];rfl
end
theorem xuE:∀ (l:List Per) (e:Edg),e∈xLV 1 0 l->(-1<=e.2.1/\e.2.1<=1)/\(-1<=e.2.2/\e.2.2<=1)
 | [],e,h=>by cases h
 | p::l,e,h=>by
  unfold xLV at h;split at h
  . rcases zC.1 h with rfl|h
    . simp
    . rcases zC.1 h with rfl|h
      . simp
      . exact xuE l e h
  . exact xuE l e h
theorem xuF:∀ (l:List Per) (e:Edg),e∈xLV 0 1 l->(-1<=e.2.1/\e.2.1<=1)/\(-1<=e.2.2/\e.2.2<=1)
 | [],e,h=>by cases h
 | p::l,e,h=>by
  unfold xLV at h;split at h
  . rcases zC.1 h with rfl|h
    . simp
    . rcases zC.1 h with rfl|h
      . simp
      . exact xuF l e h
  . exact xuF l e h
theorem xLs (keep:Bool->Bool->Bool) (a b:List Per) (ha:a.length<=1073741824) (hb:b.length<=1073741824) :
  ∃ r:List Per,swG keep (a.map encP) (b.map encP)=some (r.map encP)/\IsSpan r/\∀ t,inL r t=(decide (0<=t)&&(decide (t<1099511627776)&&keep (inL a t) (inL b t))):=by
 obtain ⟨S,hS,hp,Q⟩:=xID a b ha hb;have l1:=xkp 1 0 a;have l2:=xkp 0 1 b;have V:S.length=(xLV 1 0 a++xLV 0 1 b).length:=hp.length_eq;rw [z8] at V;have q:∀ e,e∈S->e∈xLV 1 0 a\/e∈xLV 0 1 b:=fun e he=>zG.1 (hp.mem_iff.1 he)
 have J:∀ e,e∈S->0<=e.1/\e.1<=1099511627776:=fun e he=>(q e he).elim (xm6 1 0 a e) (xm6 0 1 b e)
 have U:∀ e,e∈S->(-1<=e.2.1/\e.2.1<=1)/\(-1<=e.2.2/\e.2.2<=1):=fun e he=>(q e he).elim (xuE a e) (xuF b e)
 obtain ⟨r,hr,out,rfl,O⟩:=xCV (SwI S (fun t=>keep (inL a t) (inL b t))) (fun s=>(1099511627776 - s.2.2.2.2.1).toNat) (fun r=>∃ out:List Per,r=(out.length,out.map encP)/\OutOk out 1099511627776 (fun t=>keep (inL a t) (inL b t)))
  (xEv S J U Q (by omega) keep a b hp) (0,0,0,0,0,[]) ⟨[],0,0,rfl,Int.le_refl _,by omega,zQ _,fun m _ h=>by omega,fun m h _=>(J _ (zo h)).1,xv3 _,by simp⟩
 refine ⟨out,?_,O.span,O.done⟩;have v3:xzx keep (a.map encP) (b.map encP)=some (out.length,out.map encP):=by unfold xzx;rw [hS];exact hr
 have v2:xzZ keep (a.map encP) (b.map encP)=(out.length,out.map encP):=by unfold xzZ;rw [v3];rfl
 have v0:xzY keep (a.map encP) (b.map encP)=out.length:=by unfold xzY;rw [v2]
 have v1:xzX keep (a.map encP) (b.map encP)=out.map encP:=by unfold xzX;rw [v2]
 have d1:0+out.length<=out.length:=by omega
 unfold swG xJv;rw [hS,v3,v0,v1,za,decide_eq_true d1,zr,zi (by rw [za];exact zd _)]
 rfl
theorem xGq (a b:List AV):xsU a b=swG xe5 a b:=rfl
theorem xEt (a b:List Per) (ha:a.length<=1073741824) (hb:b.length<=1073741824) :
  ∃ r:List Per,xd8 (a.map encP) (b.map encP)=some (r.map encP)/\IsSpan r/\∀ t,inL r t=(inL a t&&!inL b t):=by
 obtain ⟨r,h1,h2,h3⟩:=xLs xe5 a b ha hb;refine ⟨r,?_,h2,fun t=>?_⟩
 . unfold xd8 xoF;rw [xGq,h1];rfl
 . rw [h3 t];cases hc:inL a t with
   | false=>simp [xe5,xaD,sUF]
   | true=>have:=xuk hc;simp [xe5,xaD,this,sUF]
end Go.Sim.M
end
noncomputable section
set_option maxRecDepth 100000
namespace Go.Sim.M
open Go.RowKit Go.Sim.Srt
theorem xCU {α:Type} {step:Int->Option (Int⊕(Bool×Bool×Unit))} (l:List α) (p:α->Bool)
  (hs:∀ (k:Nat) (h:k<l.length),step (k:Int)=if p l[k]=true then some (.inl ((k+1:Nat):Int)) else some (.inr (true,false,())))
  (he:step (l.length:Int)=some (.inr (false,false,()))):∀ d k:Nat,k+d=l.length->Iter step (k:Int)=some (if (l.drop k).all p=true then (false,false,()) else (true,false,()))
 | 0,k,h=>by
  have:k=l.length:=by omega
  subst this;rw [zq (zd _),List.all_nil,if_pos rfl];exact xad he
 | d+1,k,h=>by
  have hk:k<l.length:=by omega
  have:=hs k hk;have e:(l.drop k).all p=(p l[k]&&(l.drop (k+1)).all p):=by rw [xaw hk];rfl
  rw [e];cases hc:p l[k] with
  | true =>
   rw [if_pos hc] at this;rw [xaj this,xCU l p hs he d (k+1) (by omega),Bool.true_and]
  | false =>
   rw [if_neg (by rw [hc];simp)] at this
   rw [xad this];simp
theorem xBh {ps:List Per} (h:ps.length<=262144):Tame (ps.map fun p=>(p,(1:Int))):=⟨by simpa using h,fun c hc=>by
 obtain ⟨p,_,rfl⟩:=zK.1 hc;dsimp only;omega⟩
theorem xBK (ps:List Per) (h:ps.length<=262144):∃ S,xed (ps.map encP)=some (S.map encP)/\StepI (fun t=>((ps.countP (hasP · t):Nat):Int)) 1099511627776 S/\S.length<=2*ps.length+1:=by
 obtain ⟨S,h1,h2,h3⟩:=xse _ (xBh h);refine ⟨S,by rw [xFH ps (by omega),h1],?_,by simpa using h3⟩
 rwa [show sumC (ps.map fun p=>(p,(1:Int)))=fun t=>((ps.countP (hasP · t):Nat):Int) from funext fun t=>xBC ps t] at h2
theorem xIy (l:List Fc) (row:Row) (t:Int) (g:Fc->List Per) (hg:∀ f,(g f).countP (hasP · t)=if f.r=row/\hasP f.p t=true then 1 else 0):(l.flatMap g).countP (hasP · t)=cnt l row t:=by
 induction l with
 | nil=>rfl
 | cons f l ih =>
  rw [zR,List.countP_append,ih,hg];have e2:cnt (f::l) row t=cnt l row t+if (decide (f.r=row)&&hasP f.p t)=true then 1 else 0:=List.countP_cons
  rw [e2];by_cases h:f.r=row/\hasP f.p t=true
  . rw [if_pos h,if_pos (by simp [h.1,h.2])];omega
  . rw [if_neg h,if_neg (by simpa using h)];omega
theorem xF9 (l:List Fc) (row:Row) (hr:∀ f,f∈l->f.r.length<=maxLen) (hl:l.length<=262144):∃ S,xod (l.map encF) (row.map encV)=some (S.map encP)/\StepI (fun t=>((cnt l row t:Nat):Int)) 1099511627776 S/\S.length<=2*l.length+1:=by
 have e:=xux row l (by omega) hr
 have q:(l.flatMap fun f=>if cmpR f.r row==0 then [(f.p,(1:Int))] else [])=(l.flatMap fun f=>if cmpR f.r row==0 then [f.p] else []).map fun p=>(p,(1:Int)):=by
  rw [List.map_flatMap];congr 1;funext f;split<;>simp
 rw [q] at e;generalize hq:(l.flatMap fun f=>if cmpR f.r row==0 then [f.p] else [])=ps at e
 have J:ps.length<=l.length:=by
  rw [<-hq];have:=xiD (c:=1) (g:=fun f:Fc=>if cmpR f.r row==0 then [f.p] else []) l fun f _=>by split<;>simp
  omega
 obtain ⟨S,h1,h2,h3⟩:=xLo _ (xBh (ps:=ps) (by omega))
 refine ⟨S,?_,?_,by rw [za] at h3;omega⟩
 . unfold xod xus;simp only [xoe,xof,xog,xoh,e,sOO,sUF];simp only [h1,sOO]
 . rwa [show sumC (ps.map fun p=>(p,(1:Int)))=fun t=>((cnt l row t:Nat):Int) from funext fun t=>by
    rw [xBC,<-hq,xIy l row t _ fun f=>?_]
    rw [cmp0];by_cases hr:f.r=row<;>cases hh:hasP f.p t<;>simp [hr,hh]] at h2
end Go.Sim.M
end
noncomputable section
set_option maxRecDepth 100000
namespace Go.Sim.M
open Go.RowKit Go.Sim.Srt Go.Sort
theorem xKq (E:List Per):(E.map encP).all isP=true/\∃ P:List Per,srtP (E.map encP)=P.map encP/\P.Perm E/\Sorted cmpP P:=by
 have e1:(E.map encP).map decP=E:=by
  rw [List.map_map];conv=>rhs;rw [<-List.map_id E]
  rfl
 refine ⟨?_,pdqL cmpP E,?_,(xna cmpP swoP E).1,(xtG cmpP swoP E).imp fun {x y} h=>?_⟩
 . rw [zI];intro x hx;obtain ⟨e,he,rfl⟩:=zK.1 hx;rfl
 . unfold srtP;rw [e1];rfl
 . have:=xs5 x y;omega
theorem xCZ (S:List Per) (hS:S.length<=524289) (hN:∀ s,s∈S->0<=s.2/\s.2<=1048576):∀ (d k:Nat) (J ox:List Per),k+d=S.length->StOk J->(xL0 J).length<=1048576->ox.length<=k*1048576 ->
  ∃ q Q:List Per,Iter (xcE (S.map encP) ((S.length:Nat):Int)) ((k:Int),ox.length,J.length,((xL0 J).length:Int),ox.map encP,J.map encP)=some (Q.length,((xL0 q).length:Int),q.length,Q.map encP,q.map encP) /\
   StOk q/\(xL0 q,Q)=(S.drop k).foldl (fun x s=>setF x (s.1,s.2.toNat)) (xL0 J,ox)/\(xL0 q).length<=1048576/\Q.length<=S.length*1048576
 | 0,k,J,ox,h,h1,h2,h3=>by
  obtain rfl:k=S.length:=by omega
  refine ⟨J,ox,xad ?_,h1,by rw [zq (zd _)];rfl,h2,h3⟩
  simp only [xcE,xhI,zy,zm,xac,sUF]
 | d+1,k,J,ox,h,h1,h2,h3=>by
  have hk:k<S.length:=by omega
  obtain ⟨n1,n2⟩:=hN _ (zo hk);obtain ⟨m,hm⟩:∃ m:Nat,S[k].2=(m:Int):=⟨S[k].2.toNat,by omega⟩
  obtain ⟨O,e,a1,a2⟩:=xFk S[k].1 m (xL0 J).length J ox h1 rfl (by omega) h2 (by omega)
  have U:(xL0 O).length=m:=by rw [a2,z8,zt,List.length_replicate];omega
  obtain ⟨q,Q,e',b1,b2,b3,b4⟩:=xCZ S hS hN d (k+1) O (ox++(((xL0 J).drop m).reverse.map fun f=>(f,S[k].1))) (by omega) a1 (by omega) (by
   rw [z8,za,List.length_reverse,y4];omega)
  refine ⟨q,Q,(xaj ?_).trans e',b1,?_,b3,b4⟩
  . have i1:(k:Int)<(S.length:Int):=by omega
    have gf:(S.map encP).getD k .top=encP S[k]:=xaa _ _ _ hk;have i2:¬ (0:Int)>(m:Int):=by omega
    have i3:¬ (1048576:Int)<(m:Int):=by omega
    have tk:List.take O.length (O.map encP)=O.map encP:=zi (by simp)
    rw [U];simp only [xcE,xhI,xkT,xkU,xkV,xkW,xkX,xkY,xkZ,sBU,hk,i1,gf,cP0,cP1,lP,sP,sP0,sP1,hm,i2,i3,if_false,e,tk,xLZ (n:=k) (by omega)]
  . rw [b2,xaw hk,List.foldl_cons];congr 1;rw [hm,zN,a2];rfl
theorem xHH {N:Int->Nat} {H:Nat} (hb:H<=1048576) (hH:∀ t,N t<=H) (h0:∀ t,t<0\/1099511627776<=t->N t=0) {S:List Per} (hS:StepI (fun t=>(N t:Int)) 1099511627776 S) (hl:S.length<=524289):∃ P,xoI (S.map encP)=some (P.map encP)/\IsLevs N P:=by
 obtain ⟨q,ox,e,a1,a2,a3,a4⟩:=xCZ S hl (fun s hs=>by
  obtain ⟨_,_,m3,_⟩:=(hS.mem s).1 hs;have:=hH s.1;omega) S.length 0 [] [] (by omega) (fun s hs=>by simp at hs) (by simp [xL0]) (by simp)
 obtain ⟨J,e2,c1,c2⟩:=xFk 1099511627776 0 (xL0 q).length q ox a1 rfl (by omega) a3 (by omega)
 obtain ⟨s1,P,s2,s3,s4⟩:=xKq (ox++(((xL0 q).drop 0).reverse.map fun f=>(f,(1099511627776:Int))))
 have m1:(ox++(((xL0 q).drop 0).reverse.map fun f=>(f,(1099511627776:Int)))).length<4611686018427387904:=by
  rw [z8,za,List.length_reverse,y4];omega
 refine ⟨P,?_,xIN hH h0 hS ?_ s4⟩
 . have pl:=s3.length_eq;have e:Iter (xcE (S.map encP) ((S.length:Nat):Int)) ((0:Int),(0:Nat),(0:Nat),(0:Int),[],[])=_:=e;have e2:set2 1099511627776 0 ((xL0 q).length:Int) q.length ox.length (q.map encP) (ox.map encP)=_:=e2;generalize (ox++(((xL0 q).drop 0).reverse.map fun f=>(f,(1099511627776:Int))))=O at s1 s2 e2 pl m1
   have bq:O.length.beq O.length=true:=by simp
   have m2:O.length<=P.length:=by omega
   have tt:List.take O.length (P.map encP)=P.map encP:=zi (by rw [za];omega)
   unfold xoI xp0;simp only [xg7,xg8,xoJ,xoK,xoL,xoM,xoN,xoO,xoP,za,e,zk,zh,xab,e2,bq,m1,s1,s2,zn,zS,zH,m2,zr,tt,sUF]
 . have a2:(xL0 q,ox)=S.foldl (fun x s=>setF x (s.1,s.2.toNat)) ([],[]):=a2
   rw [<-a2];exact s3
theorem xCD (ps:List Per) (t:Int) (ht:t<0\/1099511627776<=t):ps.countP (hasP · t)=0:=by
 rw [List.countP_eq_zero];intro p hp h;obtain ⟨h1,h2,h3⟩:=xbp.1 h;have:=xbi.1 h1;omega
theorem xJF (ps:List Per) (hv:∀ p,p∈ps->pv p=true) (hl:ps.length<=262144):∃ P,xe7 (ps.map encP)=some (P.map encP)/\IsLevs (fun t=>ps.countP (hasP · t)) P:=by
 unfold xe7 xnm;by_cases h1:ps.length=1
 . obtain ⟨p,rfl⟩:=List.length_eq_one_iff.1 h1;refine ⟨[p],rfl,List.pairwise_singleton _ _,fun k=>if k=0 then [p] else [],1,fun t=>?_,fun k=>?_,?_⟩
   . have:=List.countP_le_length (p:=(hasP · t)) (l:=[p]);simpa using this
   . by_cases hk:k=0
     . subst hk;refine ⟨⟨fun q hq=>by simp at hq;subst hq;exact hv _ (by simp),List.pairwise_singleton _ _⟩,fun t=>?_⟩
       simp [inL];cases hasP p t<;>simp
     . refine ⟨by simp [hk,xk2],fun t=>?_⟩
       simp only [hk,if_false,xeV];have:=List.countP_le_length (p:=(hasP · t)) (l:=[p]);simp at this |-;omega
   . simp
 . obtain ⟨S,e1,e2,e3⟩:=xBK ps hl;obtain ⟨P,e4,e5⟩:=xHH (N:=fun t=>ps.countP (hasP · t)) (H:=ps.length) (by omega) (fun t=>List.countP_le_length) (xCD ps) e2 (by omega)
   refine ⟨P,?_,e5⟩;have i1:((ps.length:Int)==1)=false:=by simp;omega
   simp only [za,i1,xac,e1,e4,zk,zh,xab,sUF]
def mk (r:Row) (P:List Per):List Fc:=P.map fun p=>⟨r,p⟩
theorem xyo (L:Row->List Per):∀ S:List Grp,(S.flatMap fun g=>mk g.1 (L g.1))=xL3 (S.map (·.1)) L
 | []=>rfl
 | g::S=>by rw [zR,xyo L S];rfl
theorem xAK (O:List AV) (J q:Int) (row:Row) (hr:row.length<=1048576) (g1:List AV) (P:List Per) (D:List Fc) (hb:D.length+P.length<=2199023255552) (hP:P.length<=1099511627776) :
  Iter (xbm O J q (P.map encP) ((P.length:Nat):Int)) (D.length,(0:Int),D.map encF,row.map encV,g1)=some ((D++mk row P).length,(D++mk row P).map encF):=by
 have key:=xkz (step:=xbm O J q (P.map encP) ((P.length:Nat):Int)) (fun k=>(((D++mk row (P.take k)).length,((k:Nat):Int),(D++mk row (P.take k)).map encF,row.map encV,g1):Nat×Int×List AV×List AV×List AV)) P.length
  ((D++mk row P).length,(D++mk row P).map encF) (fun k hk=>by
  have i1:(k:Int)<(P.length:Int):=by omega
  have gf:(P.map encP).getD k .top=encP P[k]:=xaa _ _ _ hk;have dl:(D++mk row (P.take k)).length=D.length+k:=by unfold mk;rw [z8,za,zt];omega
  have m1:(D.length+k+1)*40<=140737488355328:=by omega
  have m2:D.length+k+1<=4611686018427387904:=by omega
  have m3:row.length*32<=140737488355328:=by omega
  have m4:row.length<=4611686018427387904:=by omega
  have tk:List.take row.length (row.map encV)=row.map encV:=zi (by simp)
  have Q:mk row (P.take (k+1))=mk row (P.take k)++[⟨row,P[k]⟩]:=by unfold mk;rw [List.take_add_one,ze hk,zx];rfl
  rw [Q,<-zw];simp only [xbm,xeR,sBU,hk,i1,gf,cP0,cP1,lP,sP,sP0,sP1,dl,m1,m2,m3,m4,zd,tk,zr,xLZ (n:=k) (by omega)]
  rw [z8,dl];simp [encF]) (by
  simp only [xbm,xeR,zy,zm,xac,y7,sUF]) P.length 0 (by omega)
 have e0:D++mk row (P.take 0)=D:=by simp [mk]
 rw [e0] at key;exact key
theorem xG9 (O:List AV) (J q:Int) (row:Row) (hr:row.length<=1048576) (g1:List AV) (P:List Per) (D:List Fc) (hb:D.length+P.length<=2199023255552) (hP:P.length<=1099511627776) :
  Iter (xkf O J q (P.map encP) ((P.length:Nat):Int)) (D.length,(0:Int),D.map encF,row.map encV,g1)=some ((D++mk row P).length,(D++mk row P).map encF) :=
 xAK O J q row hr g1 P D hb hP
def Bld (l:List Fc):Prop:=Keyed l/\l.length<=1024
theorem cGs (g:Grp):((encG g).cells.getD 1 .top).toList=g.2.map encP:=rfl
theorem lG (g:Grp):((encG g).cells.length==2)=true:=rfl
theorem sG (g:Grp):xMx [Sh.list 3,Sh.list 2] (encG g).cells 0=true:=rfl
theorem xHa {f:List AV->Option (List AV)} {step:List AV->Int->Nat×Int×List AV->Option ((Nat×Int×List AV)⊕(Nat×List AV))} (J:step=xb9/\f=xe7\/step=xfZ/\f=xwC) (S:List Grp) (hS:S.length<=1024) (hr:∀ g,g∈S->g.1.length<=1048576) (L:Row->List Per) (hL:∀ g,g∈S->f (g.2.map encP)=some ((L g.1).map encP)/\(L g.1).length<=1048576) :
  Iter (step (S.map encG) ((S.length:Nat):Int)) ((0:Nat),(0:Int),[])=some ((xL3 (S.map (·.1)) L).length,(xL3 (S.map (·.1)) L).map encF):=by
 rw [<-xyo];refine xhi S (fun g=>mk g.1 (L g.1)) encF 1048576 (fun g hg=>by unfold mk;rw [za];exact (hL g hg).2) (fun n h D hD=>?_) (fun D=>?_)
 . have i1:(n:Int)<(S.length:Int):=by omega
   have gf:(S.map encG).getD n .top=encG S[n]:=xaa _ _ _ h;obtain ⟨e1,e2⟩:=hL _ (zo h);have q:=hr _ (zo h);rcases J with ⟨rfl,rfl⟩|⟨rfl,rfl⟩
   . have el:=xAK (S.map encG) (S.length:Int) (n:Int) S[n].1 q (S[n].2.map encP) (L S[n].1) D (by omega) (by omega)
     simp only [xb9,xeQ,xhd,xhe,sBU,h,i1,gf,cG0,cGs,lG,sG,e1,el,xLZ (n:=n) (by omega)]
   . have el:=xG9 (S.map encG) (S.length:Int) (n:Int) S[n].1 q (S[n].2.map encP) (L S[n].1) D (by omega) (by omega)
     simp only [xfZ,xhJ,xhf,xhg,sBU,h,i1,gf,cG0,cGs,lG,sG,e1,el,xLZ (n:=n) (by omega)]
 . rcases J with ⟨rfl,rfl⟩|⟨rfl,rfl⟩
   . simp only [xb9,xeQ,zy,zm,xac,sUF]
   . simp only [xfZ,xhJ,zy,zm,xac,sUF]
theorem xAM {R:List Row} {Q:Row->List Per->Prop} (h:∀ r,r∈R->∃ P,Q r P):∃ L:Row->List Per,∀ r,r∈R->Q r (L r):=by
 refine ⟨fun r=>if hr:r∈R then Classical.choose (h r hr) else [],fun r hr=>?_⟩
 show Q r (if hr:r∈R then Classical.choose (h r hr) else [])
 rw [dif_pos hr];exact Classical.choose_spec (h r hr)
theorem xHT (l:List Fc) (r:Row):(fun t=>(psOf l r).countP (hasP · t))=cnt l r:=funext fun t=>xv5 l r t
theorem xK6 (l:List Fc) (h:Bld l):∃ B,xr4 (l.map encF)=some (B.map encF)/\xL6 l B:=by
 obtain ⟨S,e1,hR,J,O⟩:=xKd l h.1;have hl:=h.2;obtain ⟨L,hL⟩:=xAM (R:=S.map (·.1)) (Q:=fun r P=>xe7 ((psOf l r).map encP)=some (P.map encP)/\IsLevs (cnt l r) P/\P.length<=1048576) fun r hr=>by
  have q:=xDj l r;obtain ⟨P,a1,a2⟩:=xJF (psOf l r) xIx (by omega)
  have a3:=a2.len;rw [xHT] at a2;refine ⟨P,a1,a2,Nat.le_trans a3 (Nat.mul_le_mul (Nat.le_trans q hl) (Nat.le_trans q hl))⟩
 have hk:∀ g,g∈S->g.1∈S.map (·.1):=fun g hg=>zK.2 ⟨g,hg,rfl⟩
 have eb:=xHa (.inl ⟨rfl,rfl⟩) S (by omega) (fun g hg=>by
  obtain ⟨f,hf,e,_⟩:=(hR.2 g.1).1 (hk g hg);rw [<-e];exact h.1.1.2 f hf) L (fun g hg=>by
  rw [J g hg];exact ⟨(hL _ (hk g hg)).1,(hL _ (hk g hg)).2.2⟩)
 refine ⟨xL3 (S.map (·.1)) L,?_,S.map (·.1),L,hR,fun r hr=>(hL r hr).2.1,rfl⟩
 have tt:∀ F:List Fc,List.take F.length (F.map encF)=F.map encF:=fun F=>zi (by simp)
 unfold xr4 xo6 xmv xke xjB xjC xjD xjE;simp only [e1,zk,zh,xab,za,eb,zH,zd,zn,zS,zr,tt,sUF]
end Go.Sim.M
end
noncomputable section
set_option maxRecDepth 100000
namespace Go.Sim.M
open Go.RowKit Go.Sim.Srt
def pos (S:List Per) (i:Nat):Int:=match S[i]? with
 | some s=>s.1
 | none=>1099511627776
theorem xum {S:List Per} {i:Nat} (h:i<S.length):pos S i=S[i].1:=by unfold pos;rw [ze h]
theorem xDh {S:List Per} {i:Nat} (h:S.length<=i):pos S i=1099511627776:=by unfold pos;rw [zz h]
theorem xIX {N:Int->Nat} {S:List Per} (hS:StepI (fun t=>(N t:Int)) 1099511627776 S) {i:Nat} (hi:i<S.length):0<=pos S i/\pos S i<pos S (i+1)/\pos S (i+1)<=1099511627776/\S[i].2=(N S[i].1:Int)/\∀ t,pos S i<=t->t<pos S (i+1)->N t=N S[i].1:=by
 obtain ⟨m1,m2,m3,_⟩:=(hS.mem S[i]).1 (zo hi);rw [xum hi];have hb:S[i].1<pos S (i+1)/\pos S (i+1)<=1099511627776:=by
  by_cases h:i+1<S.length
  . rw [xum h];have:=zB.1 hS.asc i (i+1) hi h (by omega)
    have:=((hS.mem S[i+1]).1 (zo h)).2.1;omega
  . rw [xDh (by omega)];omega
 refine ⟨m1,hb.1,hb.2,m3,fun t h1 h2=>xs7 (a:=S[i].1) (b:=pos S (i+1)) (fun u u1 u2=>?_) (t - S[i].1).toNat t (by omega) h2⟩
 by_cases e:N (u - 1)=N u
 . exact e
 . have hu:(u,(N u:Int))∈S:=(hS.mem _).2 ⟨by dsimp only;omega,by dsimp only;omega,rfl,.inr (by dsimp only;omega)⟩
   obtain ⟨k,hk,q⟩:=zp.1 hu;have O:S[k].1=u:=by rw [q]
   rcases zJ i k with J|J
   . have:i+1<S.length:=by omega
     rw [xum this] at u2;rcases zJ (i+1) k with h3|h3
     . have:=zB.1 hS.asc (i+1) k this hk h3;omega
     . obtain rfl:k=i+1:=by omega
       omega
   . rcases zJ k i with h3|h3
     . have:=zB.1 hS.asc k i hk hi h3;omega
     . obtain rfl:k=i:=by omega
       omega
theorem xIY {N:Int->Nat} {S:List Per} (hS:StepI (fun t=>(N t:Int)) 1099511627776 S):pos S 0=0:=by
 have h0:((0:Int),(N 0:Int))∈S:=(hS.mem _).2 ⟨by simp,by simp,rfl,.inl rfl⟩
 obtain ⟨k,hk,q⟩:=zp.1 h0;have h:0<S.length:=by omega
 have p0:=((hS.mem S[0]).1 (zo h)).1;rw [xum h];have J:S[k].1=0:=by rw [q]
 rcases zJ 0 k with h3|h3
 . have:=zB.1 hS.asc 0 k h hk h3;omega
 . obtain rfl:k=0:=by omega
   exact J
def xL9 (out:List Per) (f t:Int):List Per:=match out.getLast? with
 | some p=>if p.2=f then out.dropLast++[(p.1,t)] else out++[(f,t)]
 | none=>out++[(f,t)]
theorem xMs {n:Nat} (h:n<=1099511627776):(n+1)*16<=140737488355328/\n+1<=4611686018427387904/\n*16<=140737488355328/\n<=4611686018427387904:=by omega
theorem xEZ (out:List Per) (f t:Int) (O:f<t) (J:∀ p,p∈out->p.2<=f) (hl:out.length<=1048576):∃ q,xgS out.length f t (out.map encP)=some q/\br q.1 q.2.1.1 q.2.2.1=(xL9 out f t).length/\br q.1 q.2.1.2.2 q.2.2.2=(xL9 out f t).map encP:=by
 rcases xrY out with rfl|⟨o,p,rfl⟩
 . refine ⟨_,rfl,rfl,rfl⟩
 . have hp:=J p (by simp)
   have L:(o++[p]).length=o.length+1:=by simp
   rw [L] at hl;have w1:IntKind.i64.wrap (((o.length+1:Nat):Int) - 1)=(o.length:Int):=xMy (by omega)
   have i1:((o.length+1:Nat):Int)>0:=by omega
   have i2:(o.length:Int)<((o.length+1:Nat):Int):=by omega
   have i3:(o.length:Int)<=((o.length+1:Nat):Int):=by omega
   have i4:o.length<o.length+1:=by omega
   have i5:o.length<=o.length+1:=by omega
   have gl:((o++[p]).map encP).getD o.length .top=encP p:=by
    rw [zx];have:=xCM (o.map encP) (encP p) .top;rwa [za] at this
   have tl:List.take o.length ((o++[p]).map encP)=o.map encP:=by
    rw [zx];exact List.take_left' (by simp)
   obtain ⟨m1,m2,m3,m4⟩:=xMs (n:=o.length) (by omega)
   obtain ⟨m5,m6,_,_⟩:=xMs (n:=o.length+1) (by omega)
   have jn:xL9 (o++[p]) f t=if p.2=f then o++[(p.1,t)] else o++[p]++[(f,t)]:=by
    unfold xL9;simp
   by_cases he:p.2=f
   . have c1:p.2>=f:=by omega
     have c2:t>p.2:=by omega
     rw [jn,if_pos he,L];refine ⟨(true,(o.length+1,(o++[p]).map encP,o.map encP++[encP (p.1,t)]),(0,[])),?_,by simp [xab,sUF],by simp [xab,sUF]⟩
     unfold xgS xsi xlf xjh xdb xmf xmg xji xmh;simp only [sBU,L,w1,i1,i2,i3,i4,i5,gl,cP0,cP1,lP,sP,sP0,sP1,c1,c2,tl,zr,m1,m2,m3,m4,if_true,aggP]
   . have c1:¬ p.2>=f:=by omega
     rw [jn,if_neg he,L];refine ⟨(false,(0,[],[]),(o.length+1+1,(o++[p]).map encP++[encP (f,t)])),?_,by simp [xac,sUF],by simp [xac,sUF]⟩
     unfold xgS xsi xlf xjh xdb xmf xmg xji xmh;simp only [sBU,L,w1,i1,i2,i3,i4,gl,cP0,cP1,lP,sP,sP0,sP1,c1,m5,m6,aggP]
theorem xA3 {out:List Per} {f t:Int} {K:Int->Bool} (h:OutOk out f K) (h0:0<=f) (J:f<t) (hF:t<=1099511627776) (hK:∀ u,f<=u->u<t->K u=true):OutOk (xL9 out f t) t K/\(xL9 out f t).length<=out.length+1:=by
 rcases xrY out with rfl|⟨o,p,rfl⟩
 . exact ⟨h.add h0 J hF hK (fun p hp=>by simp at hp),by simp [xL9]⟩
 . have jn:xL9 (o++[p]) f t=if p.2=f then o++[(p.1,t)] else o++[p]++[(f,t)]:=by unfold xL9;simp
   rw [jn];by_cases he:p.2=f
   . rw [if_pos he];exact ⟨h.ext he J hF hK,by simp⟩
   . rw [if_neg he];refine ⟨h.add h0 J hF hK (fun q hq e=>?_),by simp⟩
     rcases zG.1 hq with hq|hq
     . have:=(List.pairwise_append.1 h.span.2).2.2 q hq p (by simp)
       have hv:=xbi.1 (h.span.1 p (by simp))
       have:=h.low p (by simp)
       omega
     . rw [zv] at hq;subst hq;exact he e
theorem xCs {N:Int->Nat} {S:List Per} (hS:StepI (fun t=>(N t:Int)) 1099511627776 S) (hl:S.length<=524289) (n:Int):∀ (d i:Nat) (out:List Per),i+d=S.length->OutOk out (pos S i) (fun t=>decide (n<=(N t:Int)))->out.length<=i ->
  ∃ J:List Per,Iter (xaI (S.map encP) n) (out.length,(i:Int),out.map encP)=some (J.length,J.map encP)/\OutOk J 1099511627776 (fun t=>decide (n<=(N t:Int)))/\J.length<=S.length
 | 0,i,out,h,ho,hn=>by
  obtain rfl:i=S.length:=by omega
  rw [xDh (zd _)] at ho;refine ⟨out,xad ?_,ho,hn⟩;simp only [xaI,xdp,za,zy,zm,xac,sUF]
 | d+1,i,out,h,ho,hn=>by
  have hi:i<S.length:=by omega
  obtain ⟨p1,p2,p3,p4,p5⟩:=xIX hS hi;have i1:(i:Int)<(S.length:Int):=by omega
  have gf:(S.map encP).getD i .top=encP S[i]:=xaa _ _ _ hi;have wi:=xLZ (n:=i) (by omega)
  have pe:=xum hi;by_cases Q:S[i].2>=n
  . have hK:∀ t,pos S i<=t->t<pos S (i+1)->(fun t=>decide (n<=(N t:Int))) t=true:=fun t t1 t2=>by
     dsimp only;rw [p5 t t1 t2,<-p4];exact decide_eq_true Q
    obtain ⟨j1,j2⟩:=xA3 ho p1 p2 p3 hK;obtain ⟨q,q1,q2,q3⟩:=xEZ out (pos S i) (pos S (i+1)) p2 ho.low (by omega)
    obtain ⟨J,e',x1,x2⟩:=xCs hS hl n d (i+1) (xL9 out (pos S i) (pos S (i+1))) (by omega) j1 (by omega)
    refine ⟨J,(xaj (s':=((xL9 out (pos S i) (pos S (i+1))).length,((i+1:Nat):Int),(xL9 out (pos S i) (pos S (i+1))).map encP)) ?_).trans e',x1,x2⟩;rw [<-q2,<-q3];by_cases O:i+1<S.length
    . have i2:((i+1:Nat):Int)<(S.length:Int):=by omega
      have gn:(S.map encP).getD (i+1) .top=encP S[i+1]:=xaa _ _ _ O;rw [xum O,pe] at q1;simp only [xaI,xdp,xcT,xcU,xcV,xcW,xcX,xcY,xcZ,xcx,xc0,xc1,xa6,xcr,xcs,xct,sBU,i1,i2,hi,O,gf,gn,cP0,cP1,lP,sP,sP0,sP1,Q,wi,q1]
    . have i2:¬ ((i+1:Nat):Int)<(S.length:Int):=by omega
      rw [xDh (S:=S) (i:=i+1) (by omega),pe] at q1
      simp only [xaI,xdp,xcT,xcU,xcV,xcW,xcX,xcY,xcZ,xcx,xc0,xc1,xa6,xcr,xcs,xct,sBU,i1,i2,hi,gf,cP0,cP1,lP,sP,sP0,sP1,Q,wi,q1]
  . have hK:∀ t,pos S i<=t->t<pos S (i+1)->(fun t=>decide (n<=(N t:Int))) t=false:=fun t t1 t2=>by
     dsimp only;rw [p5 t t1 t2,<-p4];exact decide_eq_false (by omega)
    obtain ⟨J,e',x1,x2⟩:=xCs hS hl n d (i+1) out (by omega) (ho.skip (by omega) hK) (by omega)
    refine ⟨J,(xaj (s':=(out.length,((i+1:Nat):Int),out.map encP)) ?_).trans e',x1,x2⟩;by_cases O:i+1<S.length
    . have i2:((i+1:Nat):Int)<(S.length:Int):=by omega
      have gn:(S.map encP).getD (i+1) .top=encP S[i+1]:=xaa _ _ _ O;simp only [xaI,xdp,xcT,xcU,xcV,xcW,xcX,xcY,xcZ,xcx,xc0,xc1,xa6,xcr,xcs,xct,sBU,i1,i2,hi,O,gf,gn,cP0,cP1,lP,sP,sP0,sP1,Q,wi]
    . have i2:¬ ((i+1:Nat):Int)<(S.length:Int):=by omega
      simp only [xaI,xdp,xcT,xcU,xcV,xcW,xcX,xcY,xcZ,xcx,xc0,xc1,xa6,xcr,xcs,xct,sBU,i1,i2,hi,gf,cP0,cP1,lP,sP,sP0,sP1,Q,wi]
theorem xK5 {N:Int->Nat} (h0:∀ t,t<0\/1099511627776<=t->N t=0) {S:List Per} (hS:StepI (fun t=>(N t:Int)) 1099511627776 S) (hl:S.length<=524289) (k:Nat):∃ A:List Per,xd5 (S.map encP) ((k+1:Nat):Int)=some (A.map encP)/\(IsSpan A/\∀ t,inL A t=decide (k<N t))/\A.length<=S.length:=by
 obtain ⟨A,e,a1,a2⟩:=xCs hS hl ((k+1:Nat):Int) S.length 0 [] (by omega) (by rw [xIY hS];exact xv3 _) (zd _)
 refine ⟨A,?_,⟨a1.span,fun t=>?_⟩,a2⟩
 . have e:Iter (xaI (S.map encP) ((k+1:Nat):Int)) ((0:Nat),(0:Int),[])=_:=e;have tt:List.take A.length (A.map encP)=A.map encP:=zi (by simp)
   unfold xd5 xte;simp only [xmH,xmI,xmJ,e,zk,zh,xab,zH,za,zd,zn,zS,zr,tt,sUF]
 . rw [a1.done];by_cases h1:0<=t
   . by_cases h2:t<1099511627776
     . simp only [h1,h2,zn,Bool.true_and];rw [Bool.eq_iff_iff,zl,zl];omega
     . have:=h0 t (.inr (by omega));simp [h2,this]
   . have:=h0 t (.inl (by omega));simp [h1,this]
theorem xHV (p q:Per):decide (xqO p.1 p.2 q.1 q.2<=0)=decide (cmpP p q<=0):=by
 rw [Bool.eq_iff_iff,zl,zl,xug];unfold xqO;simp only [xaD,zS,sUF];by_cases h1:p.1=q.1
 . by_cases h2:p.2=q.2
   . simp [h1,h2]
   . by_cases h3:p.2<q.2
     . simp [h1,h2,h3];omega
     . simp [h1,h2,h3];omega
 . by_cases h3:p.1<q.1
   . simp [h1,h3]
   . simp [h1,h3]
theorem xDg (P:List Per) (hP:P.length<=1099511627775) (p:Per):∀ (d i:Nat),i+d=P.length->(∀ k (h:k<P.length),k<i->cmpP P[k] p<=0)->∃ m:Nat,m<=P.length/\(∀ k (h:k<P.length),k<m->cmpP P[k] p<=0)/\(∀ h:m<P.length,¬ cmpP P[m] p<=0) /\
  Iter (xc2 (P.map encP)) (i,(i:Int),p.1,p.2,(P.take i).map encP)=some (m,(m:Int),p.1,p.2,(P.take m).map encP)
 | 0,i,h,hk=>by
  obtain rfl:i=P.length:=by omega
  refine ⟨P.length,zd _,hk,fun h=>by omega,xad ?_⟩
  simp only [xc2,xiO,za,zy,zm,xac,sUF]
 | d+1,i,h,hk=>by
  have hi:i<P.length:=by omega
  have i1:(i:Int)<(P.length:Int):=by omega
  have gf:(P.map encP).getD i .top=encP P[i]:=xaa _ _ _ hi;have tl:(P.take i).length=i:=by rw [zt];omega
  obtain ⟨m1,m2,_,_⟩:=xMs (n:=i) (by omega)
  have rc:=xHV P[i] p;by_cases hc:cmpP P[i] p<=0
  . rw [decide_eq_true hc] at rc;obtain ⟨m,a1,a2,a3,a4⟩:=xDg P hP p d (i+1) (by omega) (fun k h h1=>by
     by_cases e:k=i
     . subst e;exact hc
     . exact hk k h (by omega))
    refine ⟨m,a1,a2,a3,(xaj ?_).trans a4⟩;simp only [xc2,xiO,xhA,sBU,i1,hi,gf,cP0,cP1,lP,sP,sP0,sP1,rc,tl,m1,m2,xLZ (n:=i) (by omega),aggP]
    rw [List.take_add_one,ze hi,zx];rfl
  . rw [decide_eq_false hc] at rc;refine ⟨i,by omega,hk,fun _=>hc,xad ?_⟩
    simp only [xc2,xiO,xhA,sBU,i1,hi,gf,cP0,cP1,lP,sP,sP0,sP1,rc]
theorem xIV (P:List Per) (hP:P.length<=1099511627775) (p:Per) (hs:Sorted cmpP P):∃ P':List Per,xqa (P.map encP) p.1 p.2=some (P'.map encP)/\P'.Perm (p::P)/\Sorted cmpP P':=by
 obtain ⟨m,a1,a2,a3,a4⟩:=xDg P hP p P.length 0 (by omega) (fun k h h1=>by omega)
 refine ⟨P.take m++p::P.drop m,?_,?_,?_⟩
 . have a4:Iter (xc2 (P.map encP)) ((0:Nat),(0:Int),p.1,p.2,[])=_:=a4;have tl:(P.take m).length=m:=by rw [zt];omega
   obtain ⟨m1,m2,_,_⟩:=xMs (n:=m) (by omega)
   have i1:(m:Int)<=(P.length:Int):=by omega
   have t1:List.take (P.length - m) (List.drop m (P.map encP))=(P.drop m).map encP:=by rw [zi (by simp),List.map_drop]
   have dl:(P.drop m).length=P.length - m:=y4;have m3:(m+1+(P.length - m))*16<=140737488355328:=by omega
   have m4:m+1+(P.length - m)<=4611686018427387904:=by omega
   have J:(P.take m).map encP++[encP p]++(P.drop m).map encP=(P.take m++p::P.drop m).map encP:=by simp
   have fl:((P.take m++p::P.drop m).map encP).length=m+1+(P.length - m):=by simp;omega
   have tt:List.take (m+1+(P.length - m)) ((P.take m++p::P.drop m).map encP)=(P.take m++p::P.drop m).map encP:=zi (by rw [fl];exact zd _)
   have ag:AV.agg [.int .i64 p.1,.int .i64 p.2]=encP p:=rfl;unfold xqa xvk;simp only [xh1,xpb,xpc,xh2,xpd,xh3,xpe,xpf,xpg,xph,xnV,xnW,xnX,a4,sBU,ag,tl,t1,dl,m1,m2,m3,m4,i1,z8,zj,J,zd,zr];have l9:m+(p::P.drop m).length=m+1+(P.length - m):=by rw [zF,dl];omega
   simp only [za,l9,zd,zn,xab,tt,sUF]
 . exact List.perm_middle.trans (by rw [List.take_append_drop])
 . refine List.pairwise_append.2 ⟨hs.sublist (List.take_sublist _ _),zM.2 ⟨fun q hq=>?_,hs.sublist (List.drop_sublist _ _)⟩,fun x hx y hy=>?_⟩
   . obtain ⟨j,hj,rfl⟩:=zp.1 hq;rw [y4] at hj;rw [List.getElem_drop];have h1:=a3 (by omega)
     have h2:cmpP p P[m]<=0:=by rw [xs5 P[m] p];omega
     rcases Nat.eq_zero_or_pos j with rfl|O
     . exact h2
     . exact xIt.trans _ _ _ h2 (zB.1 hs m (m+j) (by omega) (by omega) (by omega))
   . obtain ⟨i,hi,rfl⟩:=List.mem_take_iff_getElem.1 hx;rcases zC.1 hy with rfl|hy
     . exact a2 i (by omega) (by omega)
     . obtain ⟨j,hj,rfl⟩:=zp.1 hy;rw [y4] at hj;rw [List.getElem_drop];exact zB.1 hs i (m+j) (by omega) (by omega) (by omega)
theorem xFg (l:List AV) (n:Int) (s:List Per) (hs:s.length<=1048576):∀ (d i:Nat) (out:List Per),i+d=s.length->Sorted cmpP out->out.length+d<=1099511627775->∃ q:List Per,Iter (xcv l n (s.map encP)) (out.map encP,(i:Int))=some (q.map encP)/\q.Perm (out++s.drop i)/\Sorted cmpP q
 | 0,i,out,h,ho,hl=>by
  obtain rfl:i=s.length:=by omega
  refine ⟨out,xad ?_,by rw [zq (zd _),zD],ho⟩
  simp only [xcv,xlB,za,zy,zm,xac,sUF]
 | d+1,i,out,h,ho,hl=>by
  have hi:i<s.length:=by omega
  have i1:(i:Int)<(s.length:Int):=by omega
  have gf:(s.map encP).getD i .top=encP s[i]:=xaa _ _ _ hi;obtain ⟨P',e1,p1,s1⟩:=xIV out (by omega) s[i] ho
  have pl:=p1.length_eq;rw [zF] at pl;obtain ⟨q,e2,p2,s2⟩:=xFg l n s hs d (i+1) P' (by omega) s1 (by omega)
  refine ⟨q,(xaj (s':=(P'.map encP,((i+1:Nat):Int))) ?_).trans e2,?_,s2⟩
  . simp only [xcv,xlB,sBU,i1,hi,gf,cP0,cP1,lP,sP,sP0,sP1,e1,xLZ (n:=i) (by omega)]
  . refine p2.trans ((p1.append_right _).trans ?_);rw [xaw hi];exact List.perm_middle.symm
theorem xFf {S:List Per} (A:Nat->List Per) (C:Nat) (hC:C<=524289) (hA:∀ k,xd5 (S.map encP) ((k+1:Nat):Int)=some ((A k).map encP)/\(A k).length<=C) (H:Nat) (hH:H<=1048575) (hE:A H=[]):∀ (d k:Nat) (out:List Per),k+d=H->Sorted cmpP out->out.Perm ((List.range k).flatMap A) ->
  ∃ (K:Nat) (q:List Per),Iter (xcu (S.map encP)) (out.map encP,((k+1:Nat):Int))=some (true,(q.map encP,q.map encP),[])/\A K=[]/\K<=H/\q.Perm ((List.range K).flatMap A)/\Sorted cmpP q
 | d,k,out,h,ho,hp=>by
  obtain ⟨e1,l1⟩:=hA k;have n1:((k+1:Nat):Int)<=1048576:=by omega
  by_cases hk:A k=[]
  . refine ⟨k,out,xad ?_,hk,by omega,hp,ho⟩
    rw [hk] at e1;simp only [xcu,xlA,n1,e1,zn,xab,zk,zh,zW,sUF];rfl
  . match d,h with
    | 0,h =>
     obtain rfl:k=H:=by omega
     exact absurd hE hk
    | d+1,h =>
     have ol:out.length<=C*k:=by
      rw [hp.length_eq];have:=xiD (g:=A) (List.range k) fun j _=>(hA j).2
      rwa [List.length_range] at this
     have J:C*k<=524289*1048575:=Nat.mul_le_mul hC (by omega)
     obtain ⟨q,e2,p2,s2⟩:=xFg (S.map encP) ((k+1:Nat):Int) (A k) (by omega) (A k).length 0 out (by omega) ho (by omega)
     obtain ⟨K,o2,e3,k1,k2,p3,s3⟩:=xFf A C hC hA H hH hE d (k+1) q (by omega) s2 (by
      rw [List.range_succ,List.flatMap_append];rw [zr] at p2;refine p2.trans ((hp.append_right _).trans ?_);simp)
     refine ⟨K,o2,(xaj ?_).trans e3,k1,k2,p3,s3⟩;have ne:(((A k).length:Int)==0)=false:=by
      have:(A k).length≠0:=fun e=>hk (List.length_eq_zero_iff.1 e)
      simp;exact hk
     have e2:Iter (xcv (S.map encP) ((k+1:Nat):Int) ((A k).map encP)) (out.map encP,(0:Int))=_:=e2;simp only [xcu,xlA,n1,e1,zn,xab,xac,zk,zh,za,ne,e2,xLZ (n:=k+1) (by omega),sUF]
theorem xGj {N:Int->Nat} {H:Nat} (hH:H<=1048575) (hN:∀ t,N t<=H) (h0:∀ t,t<0\/1099511627776<=t->N t=0) {S:List Per} (hS:StepI (fun t=>(N t:Int)) 1099511627776 S) (hl:S.length<=524289):∃ P,xdS (S.map encP)=some (P.map encP)/\IsLevs N P:=by
 have ha:=xK5 h0 hS hl;have hA:=fun k=>Classical.choose_spec (ha k)
 obtain ⟨A,q⟩:∃ A:Nat->List Per,A=fun k=>Classical.choose (ha k):=⟨_,rfl⟩
 have hA:∀ k,xd5 (S.map encP) ((k+1:Nat):Int)=some ((A k).map encP)/\(IsSpan (A k)/\∀ t,inL (A k) t=decide (k<N t))/\(A k).length<=S.length:=fun k=>by rw [q];exact hA k
 have hE:A H=[]:=xu6 (hA H).2.1.1 fun t=>by rw [(hA H).2.1.2];have:=hN t;simp;omega
 obtain ⟨K,P,e,k1,k2,p1,s1⟩:=xFf A S.length hl (fun k=>⟨(hA k).1,(hA k).2.2⟩) H hH hE H 0 [] (by omega) List.Pairwise.nil (by simp)
 refine ⟨P,?_,s1,A,K,fun t=>?_,fun k=>(hA k).2.1,p1⟩
 . have e:Iter (xcu (S.map encP)) ([],(1:Int))=_:=e;unfold xdS xup;simp only [xnT,xnU,e,zk,zh,xab,sUF]
 . have:=(hA K).2.1.2 t;rw [k1,xeV] at this;have:=of_decide_eq_false this.symm;omega
theorem xH2 (l:List Per) (t:Int) (hl:l.length<=1048576):xfR (l.map encP) t=some (inL l t):=by
 have e:=xs9 (step:=xbd (l.map encP) t) l (fun k=>(k:Int)) (fun a=>br (hasP a t) (some (true,true,())) none) (false,false,()) (fun k h=>by
  have h1:(k:Int)<(l.length:Int):=by omega
  have gf:(l.map encP).getD k .top=encP l[k]:=xaa _ _ _ h;simp only [xbd,xjK,sBU,h,h1,gf,cP0,cP1,lP,sP,sP0,sP1,xyI,xAo,xtd,xtc,xLZ (n:=k) (by omega)]) (by
  simp only [xbd,xjK,za,zy,zm,xac,sUF]) l.length 0 (by simp)
 rw [zr,xyp] at e;have e:Iter (xbd (l.map encP) t) (0:Int)=_:=e;unfold xfR xsh;rw [e];show _=some (l.any (hasP · t));cases l.any (hasP · t)<;>rfl
def ptsP (l:List Per):List Int:=l.foldl (fun P p=>if pv p=true then insI (insI P p.1) p.2 else P) []
theorem xBn (l:List Per) (p:Per):ptsP (l++[p])=if pv p=true then insI (insI (ptsP l) p.1) p.2 else ptsP l:=by simp [ptsP]
theorem xBo:∀ l:List Per,Asc (ptsP l.reverse)/\∀ x,x∈ptsP l.reverse↔∃ p,p∈l/\pv p=true/\(x=p.1\/x=p.2)
 | []=>by simp [ptsP,Asc]
 | c::l=>by
  obtain ⟨h1,h2⟩:=xBo l;rw [List.reverse_cons,xBn];split
  . rename_i hv;refine ⟨xkw (xkw h1 _) _,fun x=>?_⟩
    rw [xiF,xiF,h2];constructor
    . rintro (h|h|⟨c',a,b,d⟩)
      . exact ⟨c,by simp,hv,.inr h⟩
      . exact ⟨c,by simp,hv,.inl h⟩
      . exact ⟨c',by simp [a],b,d⟩
    . rintro ⟨c',a,b,d⟩;rcases zC.1 a with rfl|a
      . rcases d with d|d
        . exact .inr (.inl d)
        . exact .inl d
      . exact .inr (.inr ⟨c',a,b,d⟩)
  . rename_i hv;refine ⟨h1,fun x=>?_⟩
    rw [h2];constructor
    . rintro ⟨c',a,b,d⟩;exact ⟨c',by simp [a],b,d⟩
    . rintro ⟨c',a,b,d⟩;rcases zC.1 a with rfl|a
      . exact absurd b hv
      . exact ⟨c',a,b,d⟩
theorem xJ7 (l:List Per):Asc (ptsP l)/\∀ x,x∈ptsP l↔∃ p,p∈l/\pv p=true/\(x=p.1\/x=p.2):=by
 have:=xBo l.reverse;simpa using this
theorem xI1 (l:List Per):(ptsP l).length<=2*l.length:=by
 have q:∀ l:List Per,(ptsP l.reverse).length<=2*l.length:=fun l=>by
  induction l with
  | nil=>simp [ptsP]
  | cons c l ih =>
   rw [List.reverse_cons,xBn];have a1:=xe8 (ptsP l.reverse) c.1;have a2:=xe8 (insI (ptsP l.reverse) c.1) c.2;split<;>simp<;>omega
 have:=q l.reverse;simpa using this
theorem xEl (l:List Per) (hl:l.length<=262144):xsj (l.map encP)=some ((ptsP l).map encN):=by
 have e:Iter (xdP (l.map encP)) ([],(0:Int))=some ((ptsP l).map encN):=by
  refine xm9 l (fun P p=>if pv p=true then insI (insI P p.1) p.2 else P) (fun n b=>(b.map encN,(n:Int))) (fun n b=>b.length<=2*n) (fun n h b hb=>?_) l.length 0 [] (by omega) (by simp) ?_
  . have h1:(n:Int)<(l.length:Int):=by omega
    have gf:(l.map encP).getD n .top=encP l[n]:=xaa _ _ _ h;have a1:=xe8 b l[n].1;have a2:=xe8 (insI b l[n].1) l[n].2;have i1:=xm8 b l[n].1 (by omega)
    have i2:=xm8 (insI b l[n].1) l[n].2 (by omega)
    refine ⟨?_,by split<;>omega⟩
    simp only [xdP,xls,xeI,sBU,h,h1,gf,cP0,cP1,lP,sP,sP0,sP1,xqy,i1,i2,xLZ (n:=n) (by omega)]
    cases pv l[n]<;>simp [xab,xac,sUF]
  . simp only [zr];simp only [xdP,xls,xeI,za,zy,zm,xac,sUF];rfl
 unfold xsj xuo;rw [e];rfl
theorem xBp {P:List Int} (hA:Asc P) {l:List Per} (hm:∀ p,p∈l->pv p=true->p.1∈P/\p.2∈P) {j:Nat} (hj:j+1<P.length) {t:Int} (h1:P[j]<=t) (h2:t<P[j+1]):inL l t=inL l P[j]:=by
 have key:∀ x,x∈P->(x<=t↔x<=P[j]):=fun x hx=>by
  obtain ⟨k,hk,rfl⟩:=List.getElem_of_mem hx;constructor
  . intro h;rcases zJ j k with q|q
    . rcases zJ (j+1) k with h3|h3
      . have:=zB.1 hA (j+1) k hj hk h3;omega
      . obtain rfl:k=j+1:=by omega
        omega
    . rcases zJ k j with h3|h3
      . have:=zB.1 hA k j hk (by omega) h3;omega
      . obtain rfl:k=j:=by omega
        omega
  . intro h;omega
 rw [Bool.eq_iff_iff,xef,xef];constructor
 . rintro ⟨p,a,b,c,d⟩;obtain ⟨m1,m2⟩:=hm p a b;have k1:=key _ m1;have k2:=key _ m2;exact ⟨p,a,b,by omega,by omega⟩
 . rintro ⟨p,a,b,c,d⟩;obtain ⟨m1,m2⟩:=hm p a b;have k1:=key _ m1;have k2:=key _ m2;exact ⟨p,a,b,by omega,by omega⟩
theorem xAd (J:Int) (a b:List Per) (ha:a.length<=65536) (hb:b.length<=65536) (P:List Int) (hA:Asc P) (hP:P.length<=1048576) (hR:∀ x,x∈P->0<=x/\x<=1099511627776)
  (ma:∀ p,p∈a->pv p=true->p.1∈P/\p.2∈P) (mb:∀ p,p∈b->pv p=true->p.1∈P/\p.2∈P):∀ (d j:Nat) (hj:j<P.length) (out:List Per),j+1+d=P.length->OutOk out P[j] (fun t=>xcf J (inL a t) (inL b t))->out.length<=j ->
  ∃ O:List Per,Iter (xbP J (a.map encP) (b.map encP) (P.map encN)) (out.length,((j+1:Nat):Int),out.map encP)=some (O.length,O.map encP)/\OutOk O (P[P.length - 1]'(by omega)) (fun t=>xcf J (inL a t) (inL b t))/\O.length<=P.length
 | 0,j,hj,out,h,ho,hn=>by
  have e:P.length=j+1:=by omega
  refine ⟨out,xad ?_,?_,by omega⟩
  . have i1:¬ ((j+1:Nat):Int)<(P.length:Int):=by omega
    simp only [xbP,xgk,za,i1,zm,xac,sUF]
  . have:P[P.length - 1]'(by omega)=P[j]:=by congr 1;omega
    rw [this];exact ho
 | d+1,j,hj,out,h,ho,hn=>by
  have Q:j+1<P.length:=by omega
  have i0:((j+1:Nat):Int)<(P.length:Int):=by omega
  have i1:(j:Int)<(P.length:Int):=by omega
  have i2:(0:Int)<=((j+1:Nat):Int):=by omega
  have w:IntKind.i64.wrap (((j+1:Nat):Int) - 1)=(j:Int):=xMy (by omega)
  have gf:(P.map encN).getD j .top=encN P[j]:=xaa _ _ _ hj;have gn:(P.map encN).getD (j+1) .top=encN P[j+1]:=xaa _ _ _ Q;have ca:=xH2 a P[j] (by omega)
  have cb:=xH2 b P[j] (by omega)
  have lt:P[j]<P[j+1]:=zB.1 hA j (j+1) hj Q (by omega)
  have r1:=hR _ (zo hj);have r2:=hR _ (zo Q);have hw:=xLZ (n:=j+1) (by omega)
  have hK:∀ t,P[j]<=t->t<P[j+1]->xcf J (inL a t) (inL b t)=xcf J (inL a P[j]) (inL b P[j]):=fun t t1 t2=>by
   rw [xBp hA ma Q t1 t2,xBp hA mb Q t1 t2]
  cases hc:xcf J (inL a P[j]) (inL b P[j]) with
  | true =>
   obtain ⟨j1,j2⟩:=xA3 ho r1.1 lt r2.2 (fun t t1 t2=>by rw [hK t t1 t2,hc])
   obtain ⟨q,q1,q2,q3⟩:=xEZ out P[j] P[j+1] lt ho.low (by omega)
   obtain ⟨O,e',x1,x2⟩:=xAd J a b ha hb P hA hP hR ma mb d (j+1) Q (xL9 out P[j] P[j+1]) (by omega) j1 (by omega)
   refine ⟨O,(xaj (s':=((xL9 out P[j] P[j+1]).length,((j+1+1:Nat):Int),(xL9 out P[j] P[j+1]).map encP)) ?_).trans e',x1,x2⟩;rw [<-q2,<-q3];simp only [xbP,xgk,xdQ,xfv,xfw,xdR,xfy,xfz,xfA,xa5,sBU,i0,i1,i2,w,hj,Q,gf,gn,cN,sN,ca,cb,hc,q1,hw]
  | false =>
   obtain ⟨O,e',x1,x2⟩:=xAd J a b ha hb P hA hP hR ma mb d (j+1) Q out (by omega) (ho.skip (by omega) (fun t t1 t2=>by rw [hK t t1 t2,hc])) (by omega)
   refine ⟨O,(xaj (s':=(out.length,((j+1+1:Nat):Int),out.map encP)) ?_).trans e',x1,x2⟩;simp only [xbP,xgk,xdQ,xfv,xfw,xdR,xfy,xfz,xfA,xa5,sBU,i0,i1,i2,w,hj,Q,gf,gn,cN,sN,ca,cb,hc,hw]
theorem xEN (q:Int) (a b:List Per) (ha:a.length<=65536) (hb:b.length<=65536):∃ A:List Per,xfS q (a.map encP) (b.map encP)=some (A.map encP)/\IsSpan A/\(∀ t,inL A t=(decide (0<=t)&&(decide (t<1099511627776)&&xcf q (inL a t) (inL b t))))/\A.length<=2*(1+a.length+b.length):=by
 have O:∀ x,x∈(((0,1099511627776):Per)::a++b)↔x=(0,1099511627776)\/x∈a\/x∈b:=fun x=>by simp
 have Q:(((0,1099511627776):Per)::a++b).length=1+a.length+b.length:=by simp;omega
 obtain ⟨pA,pm⟩:=xJ7 (((0,1099511627776):Per)::a++b);have pl:=xI1 (((0,1099511627776):Per)::a++b);have pe:=xEl (((0,1099511627776):Per)::a++b) (by rw [Q];omega)
 rw [Q] at pl;generalize W:ptsP (((0,1099511627776):Per)::a++b)=P at pA pm pl pe;have m0:(0:Int)∈P:=(pm 0).2 ⟨(0,1099511627776),by simp,by decide,.inl rfl⟩
 have mF:(1099511627776:Int)∈P:=(pm _).2 ⟨(0,1099511627776),by simp,by decide,.inr rfl⟩
 have hR:∀ x,x∈P->0<=x/\x<=1099511627776:=fun x hx=>by
  obtain ⟨p,_,hv,h⟩:=(pm x).1 hx;have:=xbi.1 hv;omega
 have U:0<P.length:=List.length_pos_of_mem m0;have e0:P[0]=0:=by
  obtain ⟨k,hk,he⟩:=List.getElem_of_mem m0;rcases Nat.eq_zero_or_pos k with rfl|h
  . exact he
  . have:=zB.1 pA 0 k U hk h;have:=hR _ (zo U);omega
 have eF:P[P.length - 1]'(by omega)=1099511627776:=by
  obtain ⟨k,hk,he⟩:=List.getElem_of_mem mF;rcases zJ k (P.length - 1) with h|h
  . have:=zB.1 pA k (P.length - 1) hk (by omega) h
    have:=hR _ (zo (l:=P) (n:=P.length - 1) (by omega))
    omega
  . have:P[P.length - 1]'(by omega)=P[k]:=by congr 1;omega
    rw [this];exact he
 have mm:∀ l:List Per,(∀ x,x∈l->x=(0,1099511627776)\/x∈a\/x∈b)->∀ p,p∈l->pv p=true->p.1∈P/\p.2∈P:=fun l hl p hp hv=>⟨(pm _).2 ⟨p,(O p).2 (hl p hp),hv,.inl rfl⟩,(pm _).2 ⟨p,(O p).2 (hl p hp),hv,.inr rfl⟩⟩
 obtain ⟨A,e,a1,a2⟩:=xAd q a b ha hb P pA (by omega) hR (mm a fun x hx=>.inr (.inl hx)) (mm b fun x hx=>.inr (.inr hx)) (P.length - 1) 0 U [] (by omega) (by rw [e0];exact xv3 _) (zd _)
 rw [eF] at a1;refine ⟨A,?_,a1.span,fun t=>a1.done t,by omega⟩
 have e:Iter (xbP q (a.map encP) (b.map encP) (P.map encN)) ((0:Nat),(1:Int),[])=_:=e;have tt:List.take A.length (A.map encP)=A.map encP:=zi (by simp)
 have la:([AV.agg [AV.int IntKind.i64 (0:Int),AV.int IntKind.i64 (1099511627776:Int)]]++a.map encP).length=1+a.length:=by simp;omega
 have J:([AV.agg [AV.int IntKind.i64 (0:Int),AV.int IntKind.i64 (1099511627776:Int)]]++a.map encP++b.map encP).length=1+a.length+b.length:=by simp;omega
 have V:List.take (1+a.length+b.length) ([AV.agg [AV.int IntKind.i64 (0:Int),AV.int IntKind.i64 (1099511627776:Int)]]++a.map encP++b.map encP)=(((0,1099511627776):Per)::a++b).map encP:=by
  rw [zi (by rw [J];exact zd _)]
  simp [encP]
 have b1:(1+a.length)*16<=140737488355328:=by omega
 have b2:1+a.length<=4611686018427387904:=by omega
 have b3:(1+a.length+b.length)*16<=140737488355328:=by omega
 have b4:1+a.length+b.length<=4611686018427387904:=by omega
 unfold xfS xsl;simp only [xlt,xlu,xlv,xlw,xly,xfg,xlz,za,la,J,V,zr,b1,b2,b3,b4,beq_self_eq_true,zn,zS,zH,zd,xab,pe,zk,zh,e,tt,sUF]
theorem xJa (a:List Per) (ha:a.length<=65536):∃ A:List Per,xuV (a.map encP)=some (A.map encP)/\IsSpan A/\(∀ t,inL A t=inL a t)/\A.length<=2*(1+a.length):=by
 obtain ⟨A,e,h1,h2,h3⟩:=xEN 2 a [] ha (by simp)
 refine ⟨A,?_,h1,fun t=>?_,h3⟩
 . unfold xuV xzF;rw [show ([]:List AV)=([]:List Per).map encP from rfl,e];rfl
 . rw [h2];cases hc:inL a t with
   | false=>simp [xeV,xcf,br,sUF]
   | true=>obtain ⟨x,y⟩:=xuk hc;simp [x,y,xcf,br,sUF]
theorem xyT (a b:List Per) (ha:a.length<=65536) (hb:b.length<=65536):∃ A:List Per,xhT (a.map encP) (b.map encP)=some (A.map encP)/\IsSpan A/\(∀ t,inL A t=(inL a t&&!inL b t))/\A.length<=2*(1+a.length+b.length):=by
 obtain ⟨A,e,h1,h2,h3⟩:=xEN 3 a b ha hb;refine ⟨A,?_,h1,fun t=>?_,h3⟩
 . unfold xhT xsk;rw [e];rfl
 . rw [h2];cases hc:inL a t with
   | false=>simp [xcf,br,sUF]
   | true=>obtain ⟨x,y⟩:=xuk hc;simp [x,y,xcf,br,sUF]
end Go.Sim.M
end
noncomputable section
set_option maxRecDepth 100000
namespace Go.Sim.M
open Go.RowKit
abbrev En:=List UInt8×List Per
def xL2 (e:En):AV:=.agg [.str e.1,.list 2 (e.2.map encP)]
def xMj (s:List UInt8) (n:Int):AV:=.agg [.str s,.int .i64 n]
def ixE:List En->List UInt8->Option Nat
 | [],_=>none
 | e::es,s=>match e.1==s with
  | true=>some 0
  | false=>(ixE es s).map (·+1)
theorem xqj (s:List UInt8):∀ es:List En,mapIx (es.map xL2) s=ixE es s
 | []=>rfl
 | e::es=>by
  rw [zV,mapIx,ixE,xqj s es];rfl
theorem xvT {s:List UInt8}:∀ {es:List En} {i:Nat},ixE es s=some i->i<es.length
 | [],i,h=>by simp [ixE] at h
 | e::es,i,h=>by
  rw [ixE] at h;split at h
  . cases h;simp
  . cases hm:ixE es s with
    | none=>rw [hm] at h;simp at h
    | some j =>
     rw [hm] at h;simp only [Option.map_some,z6] at h;have:=xvT hm;subst h;simp;omega
theorem xEY {s:List UInt8}:∀ {es:List En} {i:Nat},ixE es s=some i->(es.getD i default).1=s
 | [],i,h=>by simp [ixE] at h
 | e::es,i,h=>by
  rw [ixE] at h;split at h
  . rename_i he;cases h;simpa using he
  . cases hm:ixE es s with
    | none=>rw [hm] at h;simp at h
    | some j =>
     rw [hm] at h;simp only [Option.map_some,z6] at h;subst h;simpa using xEY hm
def addE:List En->List UInt8->Per->List En
 | [],s,p=>[(s,[p])]
 | e::es,s,p=>match e.1==s with
  | true=>(e.1,e.2++[p])::es
  | false=>e::addE es s p
theorem xAF {s:List UInt8} {p:Per}:∀ {es:List En},ixE es s=none->addE es s p=es++[(s,[p])]
 | [],_=>rfl
 | e::es,h=>by
  rw [ixE] at h;split at h
  . simp at h
  . rename_i he;cases hm:ixE es s with
    | some j=>rw [hm] at h;simp at h
    | none=>rw [addE,he,xAF hm];rfl
theorem xAG {s:List UInt8} {p:Per}:∀ {es:List En} {i:Nat},ixE es s=some i->addE es s p=es.set i (s,(es.getD i default).2++[p])
 | [],i,h=>by simp [ixE] at h
 | e::es,i,h=>by
  rw [ixE] at h;split at h
  . rename_i he;cases h;have e1:e.1=s:=by simpa using he
    rw [addE,he];simp [e1]
  . rename_i he;cases hm:ixE es s with
    | none=>rw [hm] at h;simp at h
    | some j =>
     rw [hm] at h;simp only [Option.map_some,z6] at h;subst h;rw [addE,he,xAG hm];simp
def xL8:List En->List UInt8->List Per
 | [],_=>[]
 | e::es,s=>match e.1==s with
  | true=>e.2
  | false=>xL8 es s
theorem xzp {s:List UInt8}:∀ {es:List En},ixE es s=none->xL8 es s=[]
 | [],_=>rfl
 | e::es,h=>by
  rw [ixE] at h;split at h
  . simp at h
  . rename_i he;cases hm:ixE es s with
    | some j=>rw [hm] at h;simp at h
    | none=>rw [xL8,he];exact xzp hm
theorem xzq {s:List UInt8}:∀ {es:List En} {i:Nat},ixE es s=some i->xL8 es s=(es.getD i default).2
 | [],i,h=>by simp [ixE] at h
 | e::es,i,h=>by
  rw [ixE] at h;split at h
  . rename_i he;cases h;rw [xL8,he];rfl
  . rename_i he;cases hm:ixE es s with
    | none=>rw [hm] at h;simp at h
    | some j =>
     rw [hm] at h;simp only [Option.map_some,z6] at h;subst h;rw [xL8,he];simpa using xzq hm
theorem xC2 (s s':List UInt8) (p:Per):∀ es:List En,xL8 (addE es s p) s'=xL8 es s'++if s==s' then [p] else []
 | []=>by simp only [addE,xL8];cases s==s'<;>simp
 | e::es=>by
  have ih:=xC2 s s' p es;rw [addE];cases he:e.1==s with
  | true =>
   have e1:e.1=s:=by simpa using he
   dsimp only;rw [xL8,xL8,e1];cases h:s==s' with
   | true=>simp
   | false=>simp
  | false =>
   dsimp only;rw [xL8,xL8,ih];cases h:e.1==s' with
   | false=>rfl
   | true =>
    have e1:e.1=s':=by simpa using h
    have:(s==s')=false:=by
     rw [<-e1,Bool.eq_false_iff];intro hh;rw [show s=e.1 by simpa using hh] at he
     simp at he
    simp [this]
theorem xCp (s:List UInt8) (p:Per):∀ es:List En,(addE es s p).length<=es.length+1
 | []=>by simp [addE]
 | e::es=>by
  have:=xCp s p es;rw [addE];cases e.1==s<;>simp<;>omega
theorem xA9 {α:Type} (k:α->List UInt8) (f:α->Per) (s:List UInt8):∀ (l:List α) (es:List En),xL8 (l.foldl (fun es x=>addE es (k x) (f x)) es) s=xL8 es s++(l.filter fun x=>k x==s).map f
 | [],es=>by simp
 | x::l,es=>by
  rw [List.foldl_cons,xA9 k f s l,xC2,List.filter_cons];cases k x==s<;>simp
theorem xrP (es:List En) (s:List UInt8):xNo (es.map xL2) s=(ixE es s).isSome:=by unfold xNo;rw [xqj]
theorem xzB {es:List En} {s:List UInt8} {i:Nat} (h:ixE es s=some i):putIx (es.map xL2) s=i:=by unfold putIx;rw [xqj,h]
theorem xvx {s:List UInt8} {n:Int}:∀ {es:List En} {i:Nat},ixE es s=some i->mapIx ((es.map xL2).set i (xMj s n)) s=some i
 | [],i,h=>by simp [ixE] at h
 | e::es,i,h=>by
  rw [ixE] at h;split at h
  . cases h;simp [mapIx,xMj,AV.cells,isKey]
  . rename_i he;cases hm:ixE es s with
    | none=>rw [hm] at h;simp at h
    | some j =>
     rw [hm] at h;simp only [Option.map_some,z6] at h;subst h;rw [zV,List.set_cons_succ,mapIx,xvx hm];have:isKey s ((xL2 e).cells.getD 0 .top)=false:=he;rw [this];rfl
theorem xEa {es:List En} {s:List UInt8} {i:Nat} (h:ixE es s=some i) (n:Int) (p:Per):xNa ((es.map xL2).set i (xMj s n)) s (.list 2 ((((es.getD i default).2)++[p]).map encP))=(addE es s p).map xL2:=by
 unfold xNa;rw [xvx h,xAG h];dsimp only;rw [List.set_set,List.map_set];rfl
theorem xFZ {es:List En} {s:List UInt8} (h:ixE es s=none) (p:Per):xNa (es.map xL2) s (.list 2 [encP p])=(addE es s p).map xL2:=by
 unfold xNa;rw [xqj,h,xAF h,zx];rfl
theorem xHh {es:List En} {s:List UInt8} {i:Nat} (h:ixE es s=some i) {n:Nat}:deadR ((es.map xL2).set i (xMj s (n:Int))) s (n+1)=true:=by
 have hi:i<((es.map xL2).set i (xMj s (n:Int))).length:=by rw [y5,za];exact xvT h
 unfold deadR;rw [xvx h];have:((es.map xL2).set i (xMj s (n:Int))).getD i .top=xMj s (n:Int):=by
  rw [z7,zL (by simpa using hi)];rfl
 dsimp only;rw [this];show (match deadLen (AV.int .i64 (n:Int)) with|some l0=>decide (l0<n+1)|none=>false)=true
 simp [deadLen]
theorem xHg {es:List En} {s:List UInt8} (h:ixE es s=none) (n:Nat):deadR (es.map xL2) s n=true:=by unfold deadR;rw [xqj,h]
end Go.Sim.M
end
noncomputable section
set_option maxRecDepth 100000
namespace Go.Sim.M
open Go.RowKit Go.Sim.Srt
def Tx (l:List Fc):Prop:=∀ f,f∈l->∀ v,v∈f.r->v.wf/\v.t.length<=1073741824
theorem xHB {r:Row} (h:∀ v,v∈r->v.wf/\v.t.length<=1073741824) (hl:r.length<=60):(keyOf r).length<=17592186044416:=by
 have:=xiD (g:=keyV) (c:=1073741890) r fun v hv=>by
  obtain ⟨h1,h2⟩:=h v hv;have:=xyw h1 (by omega);omega
 unfold keyOf;have h2:1073741890*r.length<=1073741890*60:=Nat.mul_le_mul_left _ hl;omega
theorem xLt {l:List Fc} (hl:l.length<=1024) (hr:∀ f,f∈l->f.r.length<=60) (ht:Tx l) (q:R20 l):Bld l :=
 ⟨⟨⟨by omega,fun f hf=>by have:=hr f hf;omega⟩,fun f hf=>⟨fun v hv=>⟨(ht f hf v hv).1,by have:=(ht f hf v hv).2;omega⟩,xHB (ht f hf) (hr f hf)⟩,q⟩,hl⟩
theorem xL6.all {l B:List Fc} (h:xL6 l B) {Q:Row->Prop} (hq:∀ f,f∈l->Q f.r):∀ f,f∈B->Q f.r:=fun f hf=>by
 obtain ⟨_,g,hg,e⟩:=h.valid hf;rw [<-e];exact hq g hg
theorem xMl.all {l B:List Fc} (h:xMl l B) {Q:Row->Prop} (hq:∀ f,f∈l->Q f.r):∀ f,f∈B->Q f.r:=fun f hf=>by
 obtain ⟨R,L,h1,h2,rfl⟩:=h;obtain ⟨a,b⟩:=xAT hf;obtain ⟨g,g1,g2,_⟩:=(h1.2 _).1 a;rw [<-g2];exact hq g g1
theorem xMl.len {l B:List Fc} (h:xMl l B):B.length<=l.length*l.length:=by
 obtain ⟨R,L,h1,h2,rfl⟩:=h;refine xvV (h1.1.nodup xqL) fun r hr=>?_
 obtain ⟨a,b⟩:=h2 r hr;have:=xE0 (ps:=psOf l r) (k:=0) a fun t=>by rw [b,xv5]
 exact Nat.le_trans this (Nat.le_mul_self _)
end Go.Sim.M
end
noncomputable section
set_option maxRecDepth 100000
namespace Go.Sim.M
open Go.RowKit
def life (key:List Int) (pl:List Fc) (K:Row):List Per:=(pl.filter fun y=>decide (pick y.r key=K)).map (·.p)
def xL1 (cols key:List Int) (pl:List Fc) (x:Fc) (t:Int):Bool:=!xL5 x.r cols&&(hasP x.p t&&!inL (life key pl (pick x.r cols)) t)
def missC (cols key:List Int) (l pl:List Fc) (r:Row) (t:Int):Nat:=l.countP fun x=>decide (x.r=r)&&xL1 cols key pl x t
theorem xuM (key:List Int) (pl:List Fc) (K:Row):(life key pl K).length<=pl.length:=by
 unfold life;rw [za];exact List.length_filter_le _ _
structure IsMiss (cols key:List Int) (l pl M:List Fc):Prop where
 cnt:∀ r t,cnt M r t=missC cols key l pl r t
 len:M.length<=2*(2+pl.length)*l.length
 row:∀ f,f∈M->∃ x,x∈l/\f.r=x.r
theorem xAO (L:Fc->List Per) (r:Row) (t:Int):∀ l:List Fc,(∀ x,x∈l->IsSpan (L x))->cnt (l.flatMap fun x=>mk x.r (L x)) r t=l.countP fun x=>decide (x.r=r)&&inL (L x) t
 | [],_=>rfl
 | x::l,h=>by
  rw [zR,xrK,xAO L r t l fun y hy=>h y (by simp [hy]),mk,xEM,xu5 (h x (by simp)),List.countP_cons]
  by_cases hr:x.r=r
  . simp only [hr,if_true,zn,Bool.true_and];omega
  . simp only [hr,if_false,zm,Bool.false_and];simp
theorem xA1 {cols key:List Int} {l pl:List Fc} {L:Fc->List Per} (h:∀ x,x∈l->IsSpan (L x)/\(∀ t,inL (L x) t=xL1 cols key pl x t)/\(L x).length<=2*(2+pl.length)):IsMiss cols key l pl (l.flatMap fun x=>mk x.r (L x)) where
 cnt r t:=by
  rw [xAO L r t l fun x hx=>(h x hx).1]
  exact List.countP_congr fun x hx=>by rw [(h x hx).2.1 t]
 len:=xiD l fun x hx=>by rw [mk,za];exact (h x hx).2.2
 row f hf:=by
  obtain ⟨x,hx,hf⟩:=y6.1 hf;obtain ⟨p,_,rfl⟩:=zK.1 hf;exact ⟨x,hx,rfl⟩
def xMg (key:List Int) (pl:List Fc):List En:=pl.foldl (fun es x=>addE es (keyOf (pick x.r key)) x.p) []
theorem xvZ (key:List Int) (pl:List Fc) (K:Row):xL8 (xMg key pl) (keyOf K)=life key pl K:=by
 unfold xMg life;rw [xA9 (fun x:Fc=>keyOf (pick x.r key)) (fun x=>x.p)]
 show []++_=_;rw [zU];congr 1;refine List.filter_congr fun x _=>?_
 rw [Bool.eq_iff_iff,beq_iff_eq,zl];exact ⟨fun h=>xAh h,fun h=>by rw [h]⟩
theorem xCq {n:Nat} {s:List UInt8} {p:Per}:∀ {es:List En},(∀ e,e∈es->e.2.length<=n)->∀ e,e∈addE es s p->e.2.length<=n+1
 | [],_,e,he=>by simp only [addE,zv] at he;subst he;simp
 | a::es,h,e,he=>by
  have ha:=h a (by simp)
  rw [addE] at he;cases hc:a.1==s with
  | true =>
   rw [hc] at he;rcases zC.1 he with rfl|he
   . simp;exact ha
   . have:=h e (by simp [he]);omega
  | false =>
   rw [hc] at he;rcases zC.1 he with rfl|he
   . omega
   . exact xCq (fun x hx=>h x (by simp [hx])) e he
theorem xMG {es:List En} {i:Nat} (h:i<es.length):(es.map xL2).getD i .top=xL2 (es.getD i default):=by
 rw [xaa _ _ _ h,z7,ze h];rfl
theorem xMO (e:En) (a:AV):AV.agg (List.take 1 (xL2 e).cells++[a]++List.drop 2 (xL2 e).cells)=AV.agg [.str e.1,a]:=rfl
theorem xMI (e:En):((xL2 e).cells.getD 1 .top).toList=e.2.map encP:=rfl
theorem xMH (e:En):xNA 2 ((xL2 e).cells.getD 1 .top)=true:=rfl
theorem xMQ (e:En):((xL2 e).cells.length==2)=true:=rfl
theorem xMS (ps:List Per) (f t:Int):ps.map encP++[AV.agg [.int .i64 f,.int .i64 t]]=(ps++[(f,t)]).map encP:=by rw [zx];rfl
theorem xIE (s:List UInt8) (n:Int):AV.agg [.str s,.int .i64 n]=xMj s n:=rfl
theorem xJV (x:Fc) (b:List Per) (hb:b.length<=65536):∃ S:List Per,xd8 ([x.p].map encP) (b.map encP)=some (S.map encP)/\IsSpan S/\(∀ t,inL S t=(hasP x.p t&&!inL b t))/\S.length<=2*(2+b.length):=by
 obtain ⟨S,e,h1,h2⟩:=xEt [x.p] b (by simp) (by omega)
 obtain ⟨S',e',J,O,q⟩:=xyT [x.p] b (by simp) hb
 obtain rfl:=xjy h1 J fun t=>by rw [h2,O]
 refine ⟨S,e,h1,fun t=>?_,by simp at q;omega⟩
 rw [h2,xiE,xeV,Bool.or_false]
theorem xIP (x:Fc) (cols:List Int) (ft:List UInt8) (es:List En) (hx:Txt x.r) (hk:cols.length<=1048576) (he:(xL8 es (keyOf (pick x.r cols))).length<=65536) :
  ∃ S:List Per,xft (x.r.map encV) x.p.1 x.p.2 (cols.map encN) ft (es.map xL2)=some (S.map encP,es.map xL2)/\IsSpan S/\(∀ t,inL S t=(!xL5 x.r cols&&(hasP x.p t&&!inL (xL8 es (keyOf (pick x.r cols))) t)))/\S.length<=2*(2+(xL8 es (keyOf (pick x.r cols))).length):=by
 have hr:=xHZ cols ft x.r hk;cases hn:xL5 x.r cols with
 | true =>
  refine ⟨[],?_,xk2,fun t=>by simp [xeV],by simp⟩
  unfold xft missing1 xnO;rw [hr,hn];rfl
 | false =>
  obtain ⟨S,e,h1,h2,h3⟩:=xJV x (xL8 es (keyOf (pick x.r cols))) he;refine ⟨S,?_,h1,fun t=>by rw [h2];rfl,h3⟩
  have hl:(keyOf (pick x.r cols)).length<=4611686018427387904:=by have:=hx.len hk;omega
  have hs:=xHn hx hk;unfold xft missing1 xnO xtE xju xtF xhk;cases hi:ixE es (keyOf (pick x.r cols)) with
  | none =>
   rw [xzp hi] at e;have e:xd8 [AV.agg [.int .i64 x.p.1,.int .i64 x.p.2]] []=_:=e;simp only [hr,hn,hs,hl,zk,zh,Bool.not_false,Bool.not_true,xab,xac,zn,xrP,hi,Option.isSome_none,e,Option.map_some,sUF]
  | some i =>
   rw [xzq hi] at e;have e:xd8 [AV.agg [.int .i64 x.p.1,.int .i64 x.p.2]] _=_:=e;have tl:((es.getD i default).2.map encP).take (es.getD i default).2.length=(es.getD i default).2.map encP:=zi (by simp)
   simp only [hr,hn,hs,hl,zk,zh,Bool.not_false,Bool.not_true,xab,xac,zn,xrP,hi,xzB hi,xMG (xvT hi),xvT hi,xMI,xMH,za,zr,zH,zd,beq_self_eq_true,zS,Bool.true_and,tl,e,Option.map_some,sUF]
theorem xJZ (l f0:List AV) (f1 p0:List UInt8) (p1:List AV) (key:List Int) (p3 p4:List AV) (hk:key.length<=1048576) (pl:List Fc) (U:pl.length<=1048576) (ht:∀ y,y∈pl->Txt y.r) :
  Iter (xa0 l f0 f1 p0 p1 (key.map encN) p3 p4 (pl.map encF) ((pl.length:Nat):Int)) ((0:Int),[])=some ((xMg key pl).map xL2):=by
 refine xm9 pl (fun es x=>addE es (keyOf (pick x.r key)) x.p) (fun n b=>((n:Int),b.map xL2)) (fun n b=>b.length<=n/\∀ e,e∈b->e.2.length<=n) (fun n h b hb=>?_) pl.length 0 [] (by omega) (by simp) ?_
 . have h1:(n:Int)<(pl.length:Int):=by omega
   have gf:(pl.map encF).getD n .top=encF pl[n]:=xaa _ _ _ h;have hx:=ht pl[n] (zo h);have O:=xJT p0 p1 p3 p4 key pl[n].r hk;have hs:=xHn hx hk;have hl:(keyOf (pick pl[n].r key)).length<=4611686018427387904:=by have:=hx.len hk;omega
   refine ⟨?_,?_,xCq hb.2⟩
   . generalize hK:keyOf (pick pl[n].r key)=K at *;cases hi:ixE b K with
     | none =>
      have m1:b.length<4611686018427387904:=by have:=hb.1;omega
      have d1:=xHg hi 1;have mp:=xFZ hi pl[n].p;have mp:xNa (b.map xL2) K (.list 2 [AV.agg [.int .i64 pl[n].p.1,.int .i64 pl[n].p.2]])=_:=mp;simp only [xa0,xdO,xb4,xb5,xat,xae,xdm,xbo,sBU,h,h1,gf,cF0,cF1,cF2,sF0,sF1,sF2,lF,sF12,sF02,O,hs,hl,xrP,hi,Option.isSome_none,m1,d1,mp,xLZ (n:=n) (by omega)]
     | some i =>
      have q:=xvT hi;have m1:b.length<4611686018427387904:=by have:=hb.1;omega
      have Q:(b.getD i default).2.length<=n:=hb.2 _ (by rw [z7,ze q];exact zo q)
      have r1:((b.getD i default).2.length+1)*16<=140737488355328:=by omega
      have r2:(b.getD i default).2.length+1<=4611686018427387904:=by omega
      have J:=xEY hi;have d1:=xHh hi (n:=(b.getD i default).2.length);have mp:=xEa hi (((b.getD i default).2.length:Nat):Int) pl[n].p;simp only [xa0,xdO,xb4,xb5,xat,xae,xdm,xbo,sBU,h,h1,gf,cF0,cF1,cF2,sF0,sF1,sF2,lF,sF12,sF02,O,hs,hl,xrP,hi,xzB hi,xMG q,q,xMI,xMH,xMQ,xMO,J,xIE,xMS,z8,zj,y5,r1,r2,m1,d1,xLZ (n:=n) (by omega)]
      rw [<-mp]
   . have:=xCp (keyOf (pick pl[n].r key)) pl[n].p b;omega
 . simp only [zr];simp only [xa0,xdO,xb4,xb5,xat,xae,xdm,xbo,za,zy,zm,xac,sUF];rfl
theorem xJx (m0:List AV) (m1:List UInt8) (J:List AV) (O q:Int) (row:Row) (x1 x2:Int) (S:List Per) (hS:S.length<=1048576) (es:List AV) (D:List Fc) (hD:D.length<=1048576) :
  Iter (xbE m0 m1 J O q (S.map encP) ((S.length:Nat):Int)) (D.length,(0:Int),es,D.map encF,row.map encV,x1,x2)=some ((D++mk row S).length,es,(D++mk row S).map encF):=by
 have:=xqi (step:=xbE m0 m1 J O q (S.map encP) ((S.length:Nat):Int)) S (fun p=>[(⟨row,p⟩:Fc)]) (fun n D=>(D.length,(n:Int),es,D.map encF,row.map encV,x1,x2)) (fun D=>(D.length,es,D.map encF)) D 1 (fun _ _=>by simp) (fun n h D' Q=>by
  have h1:(n:Int)<(S.length:Int):=by omega
  have m1:(D'.length+1)*40<=140737488355328:=by omega
  have m2:D'.length+1<=4611686018427387904:=by omega
  have gf:(S.map encP).getD n .top=encP S[n]:=xaa _ _ _ h;simp only [xbE,xfp,sBU,h,h1,gf,cP0,cP1,lP,sP,sP0,sP1,m1,m2,xLZ (n:=n) (by omega)]
  simp [encF]) (fun D'=>by
  simp only [xbE,xfp,zy,zm,xac,sUF])
 rw [xMm] at this;exact this
theorem xIW (cols key:List Int) (ft p0:List UInt8) (p1 p3 p4:List AV) (hc:cols.length<=1048576) (hk:key.length<=1048576) (l pl:List Fc) (hl:l.length<=14) (O:pl.length<=34) (hr:∀ f,f∈l->f.r.length<=60) (ht:∀ f,f∈l->Txt f.r) (Q:∀ f,f∈pl->Txt f.r) :
  ∃ B M:List Fc,xb1 (cols.map encN) ft (l.map encF) p0 p1 (key.map encN) p3 p4 (pl.map encF)=some (B.map encF)/\xL6 M B/\IsMiss cols key l pl M:=by
 have e0:=xJZ (l.map encF) (cols.map encN) ft p0 p1 key p3 p4 hk pl (by omega) Q
 have h1:∀ x,x∈l->∃ S:List Per,xft (x.r.map encV) x.p.1 x.p.2 (cols.map encN) ft ((xMg key pl).map xL2)=some (S.map encP,(xMg key pl).map xL2)/\IsSpan S/\(∀ t,inL S t=xL1 cols key pl x t)/\S.length<=2*(2+pl.length):=fun x hx=>by
  have ll:=xuM key pl (pick x.r cols);obtain ⟨S,s1,s2,s3,s4⟩:=xIP x cols ft (xMg key pl) (ht x hx) hc (by rw [xvZ];omega)
  rw [xvZ] at s4;exact ⟨S,s1,s2,fun t=>by rw [s3,xvZ];rfl,by omega⟩
 obtain ⟨L,hL⟩:=xwR h1;have hM:IsMiss cols key l pl (l.flatMap fun x=>mk x.r (L x)):=xA1 fun x hx=>(hL x hx).2
 have e1:=xqi (step:=xbD (cols.map encN) ft (l.map encF) ((l.length:Nat):Int)) l (fun x=>mk x.r (L x)) (fun n D=>(D.length,(n:Int),(xMg key pl).map xL2,D.map encF)) (fun D=>(D.length,D.map encF)) [] 72 (fun x hx=>by
  have:=(hL x hx).2.2.2;rw [mk,za];omega) (fun n h D hD=>by
  have h1:(n:Int)<(l.length:Int):=by omega
  have gf:(l.map encF).getD n .top=encF l[n]:=xaa _ _ _ h;obtain ⟨s1,s2,s3,s4⟩:=hL l[n] (zo h);rw [List.length_nil,zH] at hD;have e2:=xJx (cols.map encN) ft (l.map encF) ((l.length:Nat):Int) (n:Int) l[n].r l[n].p.1 l[n].p.2 (L l[n]) (by omega) ((xMg key pl).map xL2) D (by omega)
  simp only [xbD,xfo,xhL,xhM,xhN,xhO,xhP,xhQ,sBU,h,h1,gf,cF0,cF1,cF2,sF0,sF1,sF2,lF,sF12,sF02,s1,e2,xLZ (n:=n) (by omega)]) (fun D=>by
  simp only [xbD,xfo,zy,zm,xac,sUF])
 rw [zU] at e1;generalize l.flatMap (fun x=>mk x.r (L x))=M at e1 hM
 have J:=hM.len;have q:M.length<=1024:=Nat.le_trans J (Nat.le_trans (Nat.mul_le_mul (Nat.mul_le_mul_left 2 (Nat.add_le_add_left O 2)) hl) (by decide))
 have hB:Bld M:=xLt q (fun f hf=>by
  obtain ⟨x,hx,e⟩:=hM.row f hf;rw [e];exact hr x hx) (fun f hf v hv=>by
  obtain ⟨x,hx,e⟩:=hM.row f hf;rw [e] at hv;have:=ht x hx v hv;exact ⟨this.1,by omega⟩) ((R20.few (l:=l) (by omega)).of hM.row)
 obtain ⟨B,b1,b2⟩:=xK6 M hB;refine ⟨B,M,?_,b2,hM⟩;have e1:Iter (xbD (cols.map encN) ft (l.map encF) ((l.length:Nat):Int)) ((0:Nat),(0:Int),(xMg key pl).map xL2,[])=_:=e1;have tt:List.take M.length (M.map encF)=M.map encF:=zi (by simp)
 unfold xb1 xlr;simp only [xkq,xkr,xks,xkt,xku,za,e0,e1,b1,zk,zh,xab,zH,zd,zn,zS,zr,tt,sUF]
end Go.Sim.M
end
noncomputable section
set_option maxRecDepth 100000
namespace Go.Sim.M
open Go.RowKit Go.Sim.Srt
def dk (S:List Row):Nat->List Row
 | 0=>[]
 | k+1=>dk S k++(if k=0\/S[k - 1]?≠S[k]? then S[k]?.toList else [])
theorem xCE (S:List Row):∀ k,(dk S k).length<=k
 | 0=>zd _
 | k+1=>by
  have:=xCE S k;unfold dk;rw [z8];have:(if k=0\/S[k - 1]?≠S[k]? then S[k]?.toList else []).length<=1:=by
   split
   . cases S[k]?<;>simp
   . simp
  omega
theorem xJs (S:List Row) (hs:Sorted cmpR S):∀ k,k<=S.length->Strict cmpR (dk S k)/\∀ x,x∈dk S k↔x∈S.take k
 | 0,_=>⟨List.Pairwise.nil,fun x=>by simp [dk]⟩
 | k+1,hk=>by
  obtain ⟨h1,h2⟩:=xJs S hs k (by omega)
  have J:k<S.length:=by omega
  have tk:S.take (k+1)=S.take k++[S[k]]:=by rw [List.take_add_one,ze J];rfl
  unfold dk;rw [ze J,tk];by_cases hc:k=0\/S[k - 1]?≠some S[k]
  . rw [if_pos hc];refine ⟨List.pairwise_append.2 ⟨h1,List.pairwise_singleton _ _,fun x hx y hy=>?_⟩,fun x=>by rw [zG,zG,h2];rfl⟩
    simp at hy;subst hy;obtain ⟨i,hi,rfl⟩:=List.mem_take_iff_getElem.1 ((h2 x).1 hx);have O:k≠0:=by omega
    have q:k - 1<S.length:=by omega
    have hne:S[k - 1]≠S[k]:=fun e=>by
     rcases hc with hc|hc
     . exact O hc
     . exact hc (by rw [ze q,e])
    have c1:cmpR S[k - 1] S[k]<=0:=zB.1 hs _ _ q J (by omega)
    have c2:cmpR S[k - 1] S[k]<0:=by
     rcases Int.lt_or_eq_of_le c1 with c|c
     . exact c
     . exact absurd (xm5 c) hne
    rcases zJ i (k - 1) with Q|Q
    . have c3:cmpR S[i] S[k - 1]<=0:=zB.1 hs _ _ (by omega) q Q
      exact xqL.lt2 c3 c2
    . have:i=k - 1:=by omega
      subst this;exact c2
  . rw [if_neg hc,zD];refine ⟨h1,fun x=>?_⟩
    rw [h2,zG,zv];refine ⟨Or.inl,fun hh=>hh.elim id fun hx=>?_⟩
    have O:k≠0:=fun e=>hc (.inl e)
    have he:S[k - 1]?=some S[k]:=by
     by_cases e:S[k - 1]?=some S[k]
     . exact e
     . exact absurd (.inr e) hc
    have q:k - 1<S.length:=by omega
    rw [ze q,z6] at he;rw [hx,<-he];exact List.mem_take_iff_getElem.2 ⟨k - 1,by omega,rfl⟩
theorem xMM {n:Nat} (h:n<=1048576):(n+1)*24<=140737488355328/\n+1<=4611686018427387904:=by omega
theorem xDx (S:List Row) (hS:S.length<=1048576) (hr:∀ x,x∈S->x.length<=maxLen):Iter (xbQ (S.map encR)) ((0:Nat),(0:Int),[])=some ((dk S S.length).length,(dk S S.length).map encR):=by
 refine xkz (fun k=>(((dk S k).length,((k:Nat):Int),(dk S k).map encR):Nat×Int×List AV)) S.length _ (fun k hk=>?_) ?_ S.length 0 (by omega)
 . have i1:(k:Int)<(S.length:Int):=by omega
   have gf:(S.map encR).getD k .top=encR S[k]:=xaa _ _ _ hk;have dl:=xCE S k;obtain ⟨m1,m2⟩:=xMM (n:=(dk S k).length) (by omega)
   cases k with
   | zero =>
    have:dk S (0+1)=[S[0]]:=by simp [dk,ze hk]
    rw [this];have i0:(((0:Nat):Int)==0)=true:=rfl;simp only [xbQ,xgl,xdr,xfC,xfD,xfE,sBU,hk,i0,i1,gf,cR0,sR0,m1,m2,xLZ (n:=0) (by omega)]
    rfl
   | succ j =>
    have hj:j<S.length:=by omega
    have i0:(((j+1:Nat):Int)==0)=false:=by simp;omega
    have i2:(j:Int)<(S.length:Int):=by omega
    have gj:(S.map encR).getD j .top=encR S[j]:=xaa _ _ _ hj;have ee:=xLn S[j] S[j+1] (hr _ (zo hj));have wj:IntKind.i64.wrap (((j+1:Nat):Int) - 1)=(j:Int):=by rw [xbs (by omega) (by omega)];omega
    have sd:dk S (j+1+1)=dk S (j+1)++(if S[j]=S[j+1] then [] else [S[j+1]]):=by
     show dk S (j+1)++_=_;congr 1;rw [show j+1 - 1=j by omega,ze hj,ze hk]
     by_cases e:S[j]=S[j+1]
     . simp [e]
     . simp [e]
    rw [sd];simp only [xbQ,xgl,xdr,xfC,xfD,xfE,sBU,hk,hj,i0,i1,i2,gf,gj,cR0,sR0,ee,wj,cmp0,m1,m2,xLZ (n:=j+1) (by omega)]
    by_cases e:S[j]=S[j+1]
    . simp [e,xac,sUF]
    . simp [e,xab,encR,sUF]
 . simp only [xbQ,xgl,xdr,za,zy,zm,xac,sUF]
theorem xD0 (l:List Row) (h:xMf l):∃ D,xpi (l.map encR)=some (D.map encR)/\Strict cmpR D/\(∀ x,x∈D↔x∈l)/\D.length<=l.length:=by
 obtain ⟨S,e1,p1,s1⟩:=xDy l h;have hS:=h.perm p1;obtain ⟨a1,a2⟩:=xJs S s1 S.length (zd _);have e2:=xDx S hS.1 (fun x hx=>by have:=hS.2 x hx;unfold maxLen;omega)
 refine ⟨dk S S.length,?_,a1,fun x=>by rw [a2,y7,p1.mem_iff],by rw [<-p1.length_eq];exact xCE _ _⟩
 have tt:List.take (dk S S.length).length ((dk S S.length).map encR)=(dk S S.length).map encR:=zi (by simp)
 unfold xpi xsm;simp only [xlD,xlE,xlF,e1,e2,zk,zh,xab,zH,za,zd,zn,zS,zr,tt,sUF]
def cF (f g:Fc):Int:=cmpR f.r g.r
theorem xIs:Cm cF:=xqL.on (e:=fun f:Fc=>f.r)
theorem xFJ (a b:List Fc) (ha:a.length+b.length<=1048576) (Y:∀ x,x∈a->x.r.length<=1048576) (V:∀ x,x∈b->x.r.length<=1048576) (sa:Sorted cF a) (sb:Sorted cF b) :
  ∀ (n i k:Nat) (D:List Fc),(a.length - i)+(b.length - k)=n->i<=a.length->k<=b.length->D.length=i+k ->
   ∃ r,Iter (xa7 (List.map encF a) (List.map encF b)) (D.length,(i:Int),(k:Int),List.map encF D)=some (a.length+b.length,List.map encF (D++r))/\r.Perm (a.drop i++b.drop k)/\Sorted cF r:=by
 intro n;induction n with
 | zero =>
  intro i k D hn hi hk hD;have h1:¬ (i:Int)<(a.length:Int):=by omega
  have h2:¬ (k:Int)<(b.length:Int):=by omega
  refine ⟨[],xad ?_,?_,by simp [Sorted]⟩
  . simp only [xa7,xd1,xbZ,xbx,xb0,xdz,xdA,xdB,xco,xcp,  za,xaD,h1,h2,zm,zT,if_false,zD,sUF];rw [show D.length=a.length+b.length by omega]
  . rw [zq (by omega),zq (by omega)];exact List.Perm.refl _
 | succ n ih =>
  intro i k D hn hi hk hD;have W:(List.map encF D).length=D.length:=by simp
  have m1:(D.length+1)*40<=140737488355328:=by omega
  have m2:D.length+1<=4611686018427387904:=by omega
  have snoc:∀ x:Fc,List.map encF D++[AV.agg [AV.list 3 (x.r.map encV),AV.int .i64 x.p.1,AV.int .i64 x.p.2]]=List.map encF (D++[x]):=fun x=>by simp [encF]
  have wi:=xjd (n:=i) (show i+1<=maxLen by unfold maxLen;omega)
  have wk:=xjd (n:=k) (show k+1<=maxLen by unfold maxLen;omega)
  by_cases J:i<a.length
  . have i1:(i:Int)<(a.length:Int):=by omega
    have i2:((i:Int)==(a.length:Int))=false:=by simp;omega
    have hx:a[i]?=some a[i]:=by simp [J]
    by_cases q:k<b.length
    . have k1:(k:Int)<(b.length:Int):=by omega
      have hy:b[k]?=some b[k]:=by simp [q]
      have e:=xpZ b[k].r a[i].r (by have:=V b[k] (zo q);unfold maxLen;omega)
      by_cases hc:cmpR b[k].r a[i].r<0
      . obtain ⟨r,h1,h2,h3⟩:=ih i (k+1) (D++[b[k]]) (by omega) hi (by omega) (by simp;omega)
        refine ⟨b[k]::r,?_,?_,?_⟩
        . refine xc9 (s':=((D++[b[k]]).length,(i:Int),((k+1:Nat):Int),List.map encF (D++[b[k]]))) ?_ (by rw [h1];simp)
          simp only [xa7,xd1,xbZ,xbx,xb0,xdz,xdA,xdB,xco,xcp,  za,xaD,i1,i2,k1,J,q,zn,zT,if_false,if_true,zN,gR hx,gR hy,cF0,cF1,cF2,sF0,sF1,sF2,lF,sF12,sF02,e,zk,zh,hc,Int.natCast_nonneg,zS,beq_self_eq_true,m1,m2,snoc,wk,sUF];simp
        . rw [xaw q];exact (h2.cons _).trans List.perm_middle.symm
        . refine zM.2 ⟨fun z hz=>?_,h3⟩
          rcases zG.1 (h2.mem_iff.1 hz) with hz|hz
          . rw [xaw J] at hz;rcases zC.1 hz with rfl|hz
            . exact Int.le_of_lt hc
            . obtain ⟨j,hj,rfl⟩:=zp.1 hz;have Q:i+1+j<a.length:=by simp at hj;omega
              have:=xde sa (i:=i) (j:=i+1+j) (by omega) Q
              rw [List.getElem_drop];exact xIs.trans _ _ _ (Int.le_of_lt hc) this
          . obtain ⟨j,hj,rfl⟩:=zp.1 hz;have O:k+1+j<b.length:=by simp at hj;omega
            rw [List.getElem_drop];exact xde sb (i:=k) (j:=k+1+j) (by omega) O
      . obtain ⟨r,h1,h2,h3⟩:=ih (i+1) k (D++[a[i]]) (by omega) (by omega) hk (by simp;omega)
        refine ⟨a[i]::r,?_,?_,?_⟩
        . refine xc9 (s':=((D++[a[i]]).length,((i+1:Nat):Int),(k:Int),List.map encF (D++[a[i]]))) ?_ (by rw [h1];simp)
          simp only [xa7,xd1,xbZ,xbx,xb0,xdz,xdA,xdB,xco,xcp,  za,xaD,i1,i2,k1,J,q,zn,zT,if_false,if_true,zN,gR hx,gR hy,cF0,cF1,cF2,sF0,sF1,sF2,lF,sF12,sF02,e,zk,zh,hc,zm,Int.natCast_nonneg,zS,beq_self_eq_true,m1,m2,snoc,wi,sUF];simp
        . rw [xaw J];exact h2.cons _
        . refine zM.2 ⟨fun z hz=>?_,h3⟩
          have U:cF a[i] b[k]<=0:=xIs.ord.le_of_not hc;rcases zG.1 (h2.mem_iff.1 hz) with hz|hz
          . obtain ⟨j,hj,rfl⟩:=zp.1 hz;have Q:i+1+j<a.length:=by simp at hj;omega
            rw [List.getElem_drop];exact xde sa (i:=i) (j:=i+1+j) (by omega) Q
          . rw [xaw q] at hz;rcases zC.1 hz with rfl|hz
            . exact U
            . obtain ⟨j,hj,rfl⟩:=zp.1 hz;have O:k+1+j<b.length:=by simp at hj;omega
              rw [List.getElem_drop];exact xIs.trans _ _ _ U (xde sb (i:=k) (j:=k+1+j) (by omega) O)
    . have k1:¬ (k:Int)<(b.length:Int):=by omega
      obtain ⟨r,h1,h2,h3⟩:=ih (i+1) k (D++[a[i]]) (by omega) (by omega) hk (by simp;omega)
      refine ⟨a[i]::r,?_,?_,?_⟩
      . refine xc9 (s':=((D++[a[i]]).length,((i+1:Nat):Int),(k:Int),List.map encF (D++[a[i]]))) ?_ (by rw [h1];simp)
        simp only [xa7,xd1,xbZ,xbx,xb0,xdz,xdA,xdB,xco,xcp,  za,xaD,i1,i2,k1,J,zn,zm,zT,if_false,if_true,zN,gR hx,cF0,cF1,cF2,sF0,sF1,sF2,lF,sF12,sF02,Int.natCast_nonneg,zS,beq_self_eq_true,m1,m2,snoc,wi,sUF];simp
      . rw [xaw J];exact h2.cons _
      . refine zM.2 ⟨fun z hz=>?_,h3⟩
        rw [zq (show b.length<=k by omega),zD] at h2
        obtain ⟨j,hj,rfl⟩:=zp.1 (h2.mem_iff.1 hz);have Q:i+1+j<a.length:=by simp at hj;omega
        rw [List.getElem_drop];exact xde sa (i:=i) (j:=i+1+j) (by omega) Q
  . have i1:¬ (i:Int)<(a.length:Int):=by omega
    have q:k<b.length:=by omega
    have k1:(k:Int)<(b.length:Int):=by omega
    have i2:((i:Int)==(a.length:Int))=true:=by simp;omega
    have hy:b[k]?=some b[k]:=by simp [q]
    obtain ⟨r,h1,h2,h3⟩:=ih i (k+1) (D++[b[k]]) (by omega) hi (by omega) (by simp;omega)
    refine ⟨b[k]::r,?_,?_,?_⟩
    . refine xc9 (s':=((D++[b[k]]).length,(i:Int),((k+1:Nat):Int),List.map encF (D++[b[k]]))) ?_ (by rw [h1];simp)
      simp only [xa7,xd1,xbZ,xbx,xb0,xdz,xdA,xdB,xco,xcp,  za,xaD,i1,i2,k1,q,zn,zm,zT,if_false,if_true,zN,gR hy,cF0,cF1,cF2,sF0,sF1,sF2,lF,sF12,sF02,Int.natCast_nonneg,zS,beq_self_eq_true,m1,m2,snoc,wk,sUF];simp
    . rw [xaw q];exact (h2.cons _).trans List.perm_middle.symm
    . refine zM.2 ⟨fun z hz=>?_,h3⟩
      rw [zq (show a.length<=i by omega),zU] at h2
      obtain ⟨j,hj,rfl⟩:=zp.1 (h2.mem_iff.1 hz);have O:k+1+j<b.length:=by simp at hj;omega
      rw [List.getElem_drop];exact xde sb (i:=k) (j:=k+1+j) (by omega) O
theorem xFK (a b:List Fc) (ha:a.length+b.length<=1048576) (J:∀ x,x∈a->x.r.length<=1048576) (q:∀ x,x∈b->x.r.length<=1048576) (sa:Sorted cF a) (sb:Sorted cF b) :
  ∃ r,xsK (a.map encF) (b.map encF)=some (r.map encF)/\r.Perm (a++b)/\Sorted cF r:=by
 obtain ⟨r,h1,h2,h3⟩:=xFJ a b ha J q sa sb _ 0 0 [] rfl (zQ _) (zQ _) rfl;simp only [zr,zU] at h1 h2;have h1':Iter (xa7 (a.map encF) (b.map encF)) (0,(0:Int),(0:Int),[])=some (r.length,r.map encF):=by
  rw [h2.length_eq,z8];exact h1
 refine ⟨r,?_,h2,h3⟩;unfold xsK xuv;simp only [xoy,xoz,xoA,xoB,h1',sOO,sUF]
theorem xD2:∀ (f:Nat) (l:List Fc),l.length<=2 ^ f->Few l->∃ r,xcO (f+1) (List.map encF l)=some (List.map encF r)/\r.Perm l/\Sorted cF r:=by
 intro f;induction f with
 | zero =>
  intro l hl hs;have h1:(l.length:Int)<2:=by simp at hl;omega
  refine ⟨l,?_,List.Perm.refl _,?_⟩
  . show xfb (xcO 0) (List.map encF l)=_;simp only [xfb,xj5,za,h1,zn,xab,sUF]
  . match l,hl with
    | [],_=>exact List.Pairwise.nil
    | [x],_=>exact List.pairwise_singleton _ _
 | succ f ih =>
  intro l hl hs;by_cases h2:l.length<=1
  . have h1:(l.length:Int)<2:=by omega
    refine ⟨l,?_,List.Perm.refl _,?_⟩
    . show xfb (xcO (f+1)) (List.map encF l)=_;simp only [xfb,xj5,za,h1,zn,xab,sUF]
    . match l,h2 with
      | [],_=>exact List.Pairwise.nil
      | [x],_=>exact List.pairwise_singleton _ _
  . have hp:2 ^ (f+1)=2*2 ^ f:=by rw [Nat.pow_succ];omega
    have q:=hs.1;obtain ⟨m,hm⟩:∃ m,m=l.length / 2:=⟨_,rfl⟩;have st:Few (l.take m):=⟨by simp;omega,fun x hx=>hs.2 x (List.mem_of_mem_take hx)⟩
    have sd:Few (l.drop m):=⟨by simp;omega,fun x hx=>hs.2 x (List.mem_of_mem_drop hx)⟩
    obtain ⟨r1,e1,p1,s1⟩:=ih (l.take m) (by simp;omega) st
    obtain ⟨r2,e2,p2,s2⟩:=ih (l.drop m) (by simp;omega) sd
    have l1:=p1.length_eq;have l2:=p2.length_eq;simp only [zt,y4] at l1 l2;obtain ⟨r,a1,a3,a4⟩:=xFK r1 r2 (by omega) (fun x hx=>st.2 x (p1.mem_iff.1 hx)) (fun x hx=>sd.2 x (p2.mem_iff.1 hx)) s1 s2
    refine ⟨r,?_,a3.trans ((p1.append p2).trans (by rw [List.take_append_drop])),a4⟩
    have w:IntKind.i64.wrap ((l.length:Int).tdiv 2)=(m:Int):=by
     rw [Int.tdiv_eq_ediv_of_nonneg (by omega)]
     exact w64 (by omega) (by omega)
    have t1:List.take m (List.map encF l)=List.map encF (l.take m):=by simp
    have t2:List.take (l.length - m) (List.drop m (List.map encF l))=List.map encF (l.drop m):=by
     rw [zi (by simp)];simp
    have d0:¬ (l.length:Int)<2:=by omega
    have d2:(m:Int)<=(l.length:Int):=by omega
    show xfb (xcO (f+1)) (List.map encF l)=_;simp only [xfb,xj5,xmQ,xmR,xmS,  za,d0,xac,w,zN,Nat.sub_zero,zr,t1,t2,e1,e2,zk,zh,xab,d2,zn,zm,Int.natCast_nonneg,zS,a1,sUF]
theorem xI9 (l:List Fc) (h:Few l):∃ D,xrU (l.map encF)=some (D.map encR)/\xMc l D:=by
 have e0:=xwc l h.1;have hf:(l.flatMap fun f=>if pv f.p=true then [f.r] else []).length<=1*l.length:=xiD l fun f _=>by split<;>simp
 have hm:∀ x,x∈(l.flatMap fun f=>if pv f.p=true then [f.r] else [])↔∃ f,f∈l/\f.r=x/\pv f.p=true:=fun x=>by
  rw [y6];constructor
  . rintro ⟨f,hf,hx⟩;split at hx
    . simp at hx;exact ⟨f,hf,hx.symm,by assumption⟩
    . simp at hx
  . rintro ⟨f,hf,e,hv⟩;exact ⟨f,hf,by rw [if_pos hv];simp [e]⟩
 have q:xMf (l.flatMap fun f=>if pv f.p=true then [f.r] else []):=⟨by have:=h.1;omega,fun x hx=>by
  obtain ⟨f,hf,e,_⟩:=(hm x).1 hx;rw [<-e];exact h.2 f hf⟩
 obtain ⟨D,d1,d2,d3,d4⟩:=xD0 _ q;refine ⟨D,?_,d2,fun r=>by rw [d3,hm]⟩
 generalize (l.flatMap fun f=>if pv f.p=true then [f.r] else [])=w at e0 d1
 have tt:List.take w.length (w.map encR)=w.map encR:=zi (by simp)
 unfold xrU xwd;simp only [xq4,xq5,xq6,xq7,e0,zk,zh,xab,zH,za,zd,zn,zS,zr,tt,d1,sUF]
theorem xFi (S:List Fc) (hS:S.length<=1048576) (hr:∀ f,f∈S->f.r.length<=maxLen) (on i:Nat) (hi:i<S.length) (xs:List AV):∀ (d k:Nat),k+d=S.length->i<=k->∃ j:Nat,k<=j/\j<=S.length/\(∀ t (h:t<S.length),k<=t->t<j->S[t].r=S[i].r)/\(∀ h:j<S.length,S[j].r≠S[i].r) /\
  Iter (xbK (S.map encF) on (i:Int)) ((k:Int),xs)=some ((j:Int),xs)
 | 0,k,h,hik=>by
  obtain rfl:k=S.length:=by omega
  refine ⟨S.length,zd _,zd _,fun t h1 h2 h3=>by omega,fun h=>by omega,xad ?_⟩
  simp only [xbK,xhG,za,zy,zm,xac,sUF]
 | d+1,k,h,hik=>by
  have hk:k<S.length:=by omega
  have i1:(k:Int)<(S.length:Int):=by omega
  have i2:(i:Int)<(S.length:Int):=by omega
  have gk:(S.map encF).getD k .top=encF S[k]:=xaa _ _ _ hk;have gi:(S.map encF).getD i .top=encF S[i]:=xaa _ _ _ hi;have ec:=xpZ S[k].r S[i].r (hr _ (zo hk));by_cases he:S[k].r=S[i].r
  . obtain ⟨j,a1,a2,a3,a4,a5⟩:=xFi S hS hr on i hi xs d (k+1) (by omega) (by omega)
    refine ⟨j,by omega,a2,fun t h1 h2 h3=>?_,a4,(xaj (s':=(((k+1:Nat):Int),xs)) ?_).trans a5⟩
    . by_cases q:t=k
      . subst q;exact he
      . exact a3 t h1 (by omega) h3
    . have dd:decide (S[k].r=S[i].r)=true:=decide_eq_true he;simp only [xbK,xhG,sBU,i1,i2,hk,hi,gk,gi,cF0,cF1,cF2,sF0,sF1,sF2,lF,sF12,sF02,ec,cmp0,dd,xLZ (n:=k) (by omega)]
  . refine ⟨k,zd _,by omega,fun t h1 h2 h3=>by omega,fun _=>he,xad ?_⟩
    simp only [xbK,xhG,sBU,i1,i2,hk,hi,gk,gi,cF0,cF1,cF2,sF0,sF1,sF2,lF,sF12,sF02,ec,cmp0,he,zm]
structure RGI (S:List Fc) (i:Nat) (G:List Grp):Prop where
 st:Strict cmpR (G.map (·.1))
 mem:∀ r,r∈G.map (·.1)↔∃ f,f∈S.take i/\f.r=r/\pv f.p=true
 ps:∀ g,g∈G->StepI (fun t=>((cnt S g.1 t:Nat):Int)) 1099511627776 g.2/\g.2.length<=2*S.length+1
 len:G.length<=i
 bd:∀ a b (ha:a<S.length) (hb:b<S.length),a<i->i<=b->cmpR S[a].r S[b].r<0
theorem xMN {n:Nat} (h:n<=1048576):(n+1)*48<=140737488355328/\n+1<=4611686018427387904:=by omega
theorem xAZ (S:List Fc) (hS:S.length<=262144) (hr:∀ f,f∈S->f.r.length<=1048576) (hs:Sorted cF S):∀ (c i:Nat) (G:List Grp),S.length - i<=c->i<=S.length->RGI S i G ->
  ∃ G',Iter (xdV (S.map encF)) (G.length,(i:Int),G.map encG)=some (G'.length,G'.map encG)/\RGI S S.length G'
 | c,i,G,hc,hi,hG=>by
  by_cases aa:i=S.length
  . subst aa;refine ⟨G,xad ?_,hG⟩;simp only [xdV,xlS,za,zy,zm,xac,sUF]
  . have O:i<S.length:=by omega
    obtain ⟨j,a1,a2,a3,a4,a5⟩:=xFi S (by omega) (fun f hf=>by have:=hr f hf;unfold maxLen;omega) G.length i O (G.map encG) (S.length - i) i (by omega) (zd _)
    have ae:i<j:=by
     rcases zJ i j with h|h
     . exact h
     . obtain rfl:j=i:=by omega
       exact absurd rfl (a4 O)
    have run_mem:∀ f,f∈(S.drop i).take (j - i)↔∃ t,∃ h:t<S.length,i<=t/\t<j/\S[t]=f:=fun f=>by
     rw [List.mem_take_iff_getElem];constructor
     . rintro ⟨m,hm,rfl⟩;rw [y4] at hm;exact ⟨i+m,by omega,by omega,by omega,by rw [List.getElem_drop]⟩
     . rintro ⟨t,h,h1,h2,rfl⟩;refine ⟨t - i,by rw [y4];omega,?_⟩
       rw [List.getElem_drop];congr 1;omega
    have run_row:∀ f,f∈(S.drop i).take (j - i)->f.r=S[i].r:=fun f hf=>by
     obtain ⟨t,h,h1,h2,rfl⟩:=(run_mem f).1 hf;exact a3 t h h1 h2
    have W:S.take j=S.take i++(S.drop i).take (j - i):=by
     rw [show j=i+(j - i) by omega,List.take_add,Nat.add_sub_cancel_left]
    have Q:S=S.take i++((S.drop i).take (j - i)++S.drop j):=by
     rw [<-zw,<-W,List.take_append_drop]
    have rl:((S.drop i).take (j - i)).length=j - i:=by rw [zt,y4];omega
    have q:∀ f,f∈S.take i->cmpR f.r S[i].r<0:=fun f hf=>by
     obtain ⟨t,ht,rfl⟩:=List.mem_take_iff_getElem.1 hf;exact hG.bd t i (by omega) O (by omega) (zd _)
    have J:∀ t (h:t<S.length),j<=t->cmpR S[i].r S[t].r<0:=fun t h af=>by
     have hj:j<S.length:=by omega
     have c1:cmpR S[i].r S[j].r<=0:=zB.1 hs i j O hj ae;have c2:cmpR S[i].r S[j].r<0:=by
      rcases Int.lt_or_eq_of_le c1 with c|c
      . exact c
      . exact absurd (xm5 c).symm (a4 hj)
     rcases zJ j t with h1|h1
     . have c3:cmpR S[j].r S[t].r<=0:=zB.1 hs j t hj h h1;exact xqL.lt1 c2 c3
     . obtain rfl:t=j:=by omega
       exact c2
    have no_other:∀ (l:List Fc) (ρ:Row) (t:Int),(∀ f,f∈l->f.r≠ρ)->cnt l ρ t=0:=fun l ρ t h=>by
     unfold cnt;rw [List.countP_eq_zero];intro f hf hh;simp only [zf,zl] at hh;exact h f hf hh.1
    have ne_of:∀ x y:Row,cmpR x y<0->x≠y:=fun x y h e=>by subst e;rw [xvN] at h;omega
    have Y:∀ t,cnt ((S.drop i).take (j - i)) S[i].r t=cnt S S[i].r t:=fun t=>by
     have e:cnt S S[i].r t=cnt (S.take i++((S.drop i).take (j - i)++S.drop j)) S[i].r t:=by rw [<-Q]
     rw [e,xrK,xrK,no_other (S.take i) _ t (fun f hf=>ne_of _ _ (q f hf)),no_other (S.drop j) _ t (fun f hf=>by
      obtain ⟨m,hm,rfl⟩:=zp.1 hf;rw [y4] at hm;rw [List.getElem_drop];exact fun e=>ne_of _ _ (J (j+m) (by omega) (by omega)) e.symm)]
     omega
    have U:Few ((S.drop i).take (j - i)):=⟨by omega,fun f hf=>hr f (List.mem_of_mem_drop (List.mem_of_mem_take hf))⟩
    obtain ⟨D,d1,d2,d3⟩:=xI9 _ U;obtain ⟨St,s1,s2,s3⟩:=xF9 ((S.drop i).take (j - i)) S[i].r (fun f hf=>by have:=U.2 f hf;unfold maxLen;omega) (by omega)
    have s2:StepI (fun t=>((cnt S S[i].r t:Nat):Int)) 1099511627776 St:=by
     have e:(fun t=>((cnt ((S.drop i).take (j - i)) S[i].r t:Nat):Int))=fun t=>((cnt S S[i].r t:Nat):Int):=funext fun t=>by rw [Y]
     rwa [e] at s2
    have tS:List.take (j - i) (List.drop i (S.map encF))=((S.drop i).take (j - i)).map encF:=by rw [<-List.map_drop,<-List.map_take]
    have hD:D=[]\/D=[S[i].r]:=by
     match D,d2,d3 with
     | [],_,_=>exact .inl rfl
     | [x],_,h=>right;obtain ⟨f,hf,e,_⟩:=(h x).1 (by simp);rw [<-e,run_row f hf]
     | x::y::t,h1,h =>
      obtain ⟨f,hf,e,_⟩:=(h x).1 (by simp)
      obtain ⟨g,hg,e',_⟩:=(h y).1 (by simp)
      have:cmpR x y<0:=(zM.1 h1).1 y (by simp)
      rw [<-e,<-e',run_row f hf,run_row g hg,xvN] at this;omega
    have ag:=hG.len;obtain ⟨m1,m2⟩:=xMN (n:=G.length) (by omega)
    have nx:RGI S j (G++D.map fun ρ=>(ρ,St)):=by
     refine ⟨?_,fun r=>?_,fun g hg=>?_,?_,fun a b ha hb ab Z=>?_⟩
     . rw [zx];refine List.pairwise_append.2 ⟨hG.st,?_,fun x hx y hy=>?_⟩
       . rcases hD with rfl|rfl
         . exact List.Pairwise.nil
         . exact List.pairwise_singleton _ _
       . obtain ⟨f,hf,e,_⟩:=(hG.mem x).1 hx;rcases hD with rfl|rfl
         . simp at hy
         . simp at hy;subst hy;rw [<-e];exact q f hf
     . rw [zx,zG,hG.mem,W];have e:r∈(D.map fun ρ=>(ρ,St)).map (·.1)↔r∈D:=by simp
       rw [e,d3];constructor
       . rintro (⟨f,hf,h⟩|⟨f,hf,h⟩)
         . exact ⟨f,zG.2 (.inl hf),h⟩
         . exact ⟨f,zG.2 (.inr hf),h⟩
       . rintro ⟨f,hf,h⟩;rcases zG.1 hf with hf|hf
         . exact .inl ⟨f,hf,h⟩
         . exact .inr ⟨f,hf,h⟩
     . rcases zG.1 hg with hg|hg
       . exact hG.ps g hg
       . obtain ⟨ρ,hρ,rfl⟩:=zK.1 hg;rcases hD with rfl|rfl
         . simp at hρ
         . simp at hρ;subst hρ;exact ⟨s2,by rw [rl] at s3;dsimp only;omega⟩
     . rw [z8,za];rcases hD with rfl|rfl<;>simp<;>omega
     . rcases zJ a i with V|V
       . exact hG.bd a b ha hb V (by omega)
       . rw [a3 a ha V ab];exact J b hb Z
    obtain ⟨G',e',ad⟩:=xAZ S hS hr hs (c - 1) j _ (by omega) a2 nx
    refine ⟨G',(xaj ?_).trans e',ad⟩;have i1:(i:Int)<(S.length:Int):=by omega
    have i2:(j:Int)<=(S.length:Int):=by omega
    have i3:(i:Int)<=(j:Int):=by omega
    have ac:Iter (xdW (S.map encF) (i:Int) (j:Int) (D.map encR)) (G.length,(0:Int),G.map encG)=some ((G++D.map fun ρ=>(ρ,St)).length,(G++D.map fun ρ=>(ρ,St)).map encG):=by
     rcases hD with rfl|rfl
     . refine xad ?_;have z:¬ (0:Int)<(([]:List AV).length:Int):=by simp
       simp only [xdW,xhH,zW,z,zm,xac,zD,sUF]
     . have z0:(0:Int)<(1:Int):=by omega
       have g0:([S[i].r].map encR).getD 0 .top=encR S[i].r:=rfl;have w1:IntKind.i64.wrap ((0:Int)+1)=1:=rfl;refine (xaj (s':=((G++[(S[i].r,St)]).length,(1:Int),(G++[(S[i].r,St)]).map encG)) ?_).trans (xad ?_)
       . have l1:(([S[i].r]:List Row).length:Int)=1:=rfl;have z1:(0:Int)<=0:=by omega
         have z2:(0:Nat)<([S[i].r]:List Row).length:=by simp
         have z3:(0:Int).toNat=0:=rfl;simp only [xdW,xhH,sBU,l1,z0,z1,z2,z3,g0,cR0,sR0,i2,i3,tS,s1,m1,m2,w1];simp [encG]
       . have l1:¬ (1:Int)<(([encR S[i].r]:List AV).length:Int):=by simp
         simp only [xdW,xhH,zV,zW,l1,zm,xac,sUF]
    simp only [xdV,xlS,xkI,xkJ,xbB,sBU,i1,i2,i3,a5,tS,d1,ac]
theorem xGh (l:List Fc) (h:Few l) (hl:l.length<=262144):∃ G:List Grp,xkH (l.map encF)=some (G.map encG)/\xMc l (G.map (·.1))/\(∀ g,g∈G->StepI (fun t=>((cnt l g.1 t:Nat):Int)) 1099511627776 g.2/\g.2.length<=2*l.length+1)/\G.length<=l.length:=by
 obtain ⟨S,e1,p1,s1⟩:=xD2 99 l (Nat.le_trans h.1 (Nat.le_trans (show 1048576<=2 ^ 20 by omega) (Nat.pow_le_pow_right (by omega) (by omega)))) h
 have q:=p1.length_eq;obtain ⟨G,e2,hG⟩:=xAZ S (by omega) (fun f hf=>h.2 f (p1.mem_iff.1 hf)) s1 S.length 0 [] (by omega) (by omega) ⟨List.Pairwise.nil,fun r=>by simp,fun g hg=>by simp at hg,zd _,fun a b ha hb h1 h2=>by omega⟩
 refine ⟨G,?_,⟨hG.st,fun r=>?_⟩,fun g hg=>?_,by rw [<-q];exact hG.len⟩
 . have e1:xcO 100 (l.map encF)=some (S.map encF):=e1;have e2:Iter (xdV (S.map encF)) ((0:Nat),(0:Int),[])=_:=e2;have tt:List.take G.length (G.map encG)=G.map encG:=zi (by simp)
   unfold xkH xuu;simp only [xot,xou,xov,xow,e1,e2,zk,zh,xab,zH,za,zd,zn,zS,zr,tt,sUF]
 . rw [hG.mem,y7];constructor
   . rintro ⟨f,hf,e⟩;exact ⟨f,p1.mem_iff.1 hf,e⟩
   . rintro ⟨f,hf,e⟩;exact ⟨f,p1.mem_iff.2 hf,e⟩
 . obtain ⟨x1,x2⟩:=hG.ps g hg;have e:(fun t=>((cnt S g.1 t:Nat):Int))=fun t=>((cnt l g.1 t:Nat):Int):=funext fun t=>by rw [xIz p1]
   rw [e] at x1;exact ⟨x1,by omega⟩
theorem xzE (row:Row) (P:List Per) (hP:P.length<=1048576):xh8 (row.map encV) (P.map encP)=some ((mk row P).map encF):=by
 have e:=xu0 row P hP;rw [xMm (fun p:Per=>(⟨row,p⟩:Fc)) P] at e
 have e:Iter (xcy (row.map encV) (P.map encP)) ((0:Nat),(0:Int),[])=some ((mk row P).length,(mk row P).map encF):=e;generalize mk row P=D at e;have tt:List.take D.length (D.map encF)=D.map encF:=zi (by simp)
 unfold xh8 xut;simp only [xoi,xoj,xok,e,zk,zh,xab,zH,za,zd,zn,zS,zr,tt,sUF]
theorem sG0 (g:Grp):xMT (Sh.list 3) ((encG g).cells.getD 0 .top)=true:=rfl
theorem sG1 (g:Grp):xMT (Sh.list 2) ((encG g).cells.getD 1 .top)=true:=rfl
theorem xML {n m:Nat} (h:n<=1048576*1024) (hm:m<=1048576):(n+m)*40<=140737488355328/\n+m<=4611686018427387904:=by omega
theorem xI4 (G:List Grp) (hG:G.length<=1024) (L:Row->List Per) (hL:∀ g,g∈G->xdS (g.2.map encP)=some ((L g.1).map encP)/\(L g.1).length<=1048576) :
  Iter (xfh (G.map encG)) ((0:Nat),(0:Int),[])=some ((xL3 (G.map (·.1)) L).length,(xL3 (G.map (·.1)) L).map encF):=by
 rw [<-xyo];refine xhi G (fun g=>mk g.1 (L g.1)) encF 1048576 (fun g hg=>by unfold mk;rw [za];exact (hL g hg).2) (fun n h D hD=>?_) (fun D=>?_)
 . have i1:(n:Int)<(G.length:Int):=by omega
   have gf:(G.map encG).getD n .top=encG G[n]:=xaa _ _ _ h;obtain ⟨e1,e2⟩:=hL _ (zo h);have ed:=xzE G[n].1 (L G[n].1) e2;have ml:(mk G[n].1 (L G[n].1)).length<=1048576:=by unfold mk;rw [za];exact e2
   have q:D.length<=1048576*1024:=Nat.le_trans hD (Nat.mul_le_mul_left _ (by omega))
   obtain ⟨m1,m2⟩:=xML q ml;simp only [xfh,xpE,xj4,sBU,h,i1,gf,cG0,cGs,sG0,sG1,e1,ed,m1,m2,xLZ (n:=n) (by omega),z8,zx]
 . simp only [xfh,xpE,za,zy,zm,xac,sUF]
theorem xK9 (l:List Fc) (r:Row) (t:Int):cnt l r t<=l.length:=List.countP_le_length
theorem xJM (l:List Fc) (r:Row) (t:Int) (h:t<0\/1099511627776<=t):cnt l r t=0:=by rw [<-xv5];exact xCD _ t h
theorem xJ8 (l:List Fc) (h:Few l) (hl:l.length<=1024):∃ B,xwb (l.map encF)=some (B.map encF)/\xL6 l B:=by
 obtain ⟨G,e1,hR,hS,O⟩:=xGh l h (by omega)
 have lv:∀ g,g∈G->∃ P,xdS (g.2.map encP)=some (P.map encP)/\IsLevs (cnt l g.1) P:=fun g hg=>by
  obtain ⟨s1,s2⟩:=hS g hg;exact xGj (N:=cnt l g.1) (H:=l.length) (by omega) (xK9 l g.1) (xJM l g.1) s1 (by omega)
 obtain ⟨L,hL⟩:=xAM (R:=G.map (·.1)) (Q:=fun r P=>(∀ g,g∈G->g.1=r->xdS (g.2.map encP)=some (P.map encP))/\IsLevs (cnt l r) P) fun r hr=>by
  obtain ⟨g,hg,rfl⟩:=zK.1 hr;obtain ⟨P,p1,p2⟩:=lv g hg;refine ⟨P,fun g' J e=>?_,p2⟩
  obtain ⟨P',q1,q2⟩:=lv g' J;rw [e] at q2;rw [q1,q2.unique p2]
 have hk:∀ g,g∈G->g.1∈G.map (·.1):=fun g hg=>zK.2 ⟨g,hg,rfl⟩
 have q:∀ g,g∈G->(L g.1).length<=1048576:=fun g hg=>by
  have a:=(hL g.1 (hk g hg)).2;rw [<-xHT] at a;have b:=xDj l g.1;exact Nat.le_trans a.len (Nat.mul_le_mul (Nat.le_trans b hl) (Nat.le_trans b hl))
 have e2:=xI4 G (by omega) L fun g hg=>⟨(hL g.1 (hk g hg)).1 g hg rfl,q g hg⟩
 refine ⟨xL3 (G.map (·.1)) L,?_,G.map (·.1),L,hR,fun r hr=>(hL r hr).2,rfl⟩
 generalize xL3 (G.map (·.1)) L=F at e2;have tt:List.take F.length (F.map encF)=F.map encF:=zi (by simp)
 unfold xwb xw8;simp only [xsH,xsI,xsJ,e1,e2,zk,zh,xab,zH,za,zd,zn,zS,zr,tt,sUF]
end Go.Sim.M
end
noncomputable section
set_option maxRecDepth 100000
namespace Go.Sim.M
open Go.RowKit
theorem xEk (p0:List UInt8) (p1 p3 p4:List AV) (key:List Int) (hk:key.length<=1048576) (pl:List Fc) (O:pl.length<=1048576) (K:Row):xjm p0 p1 (key.map encN) p3 p4 (pl.map encF) (K.map encV)=some ((life key pl K).map encP):=by
 have e:=xqi (step:=xdC (pl.map encF) (K.map encV)) pl (fun y=>if decide (pick y.r key=K)=true then [y.p] else []) (fun n D=>(D.length,(n:Int),p0,p1,key.map encN,p3,p4,D.map encP)) (fun D=>(D.length,D.map encP)) [] 1 (fun y _=>by split<;>simp) (fun n h D hD=>by
  have h1:(n:Int)<(pl.length:Int):=by omega
  rw [List.length_nil] at hD;have m1:(D.length+1)*16<=140737488355328:=by omega
  have m2:D.length+1<=4611686018427387904:=by omega
  have gf:(pl.map encF).getD n .top=encF pl[n]:=xaa _ _ _ h;have J:=xDu p0 p1 p3 p4 key pl[n].r hk;have q:=xpZ (pick pl[n].r key) K (by rw [xuT];simp only [maxLen];omega)
  simp only [xdC,xkL,sBU,h,h1,gf,cF0,cF1,cF2,sF0,sF1,sF2,lF,sF12,sF02,J,q,cmp0,m1,m2,xLZ (n:=n) (by omega)]
  by_cases hc:pick pl[n].r key=K
  . simp [hc,xab,encP,sUF]
  . simp [hc,xac,sUF]) (fun D=>by
  simp only [xdC,xkL,za,zy,zm,xac,sUF])
 rw [zU,xCJ _ (fun y:Fc=>y.p) (fun y=>decide (pick y.r key=K)) (fun _=>rfl)] at e
 have e:Iter (xdC (pl.map encF) (K.map encV)) ((0:Nat),(0:Int),p0,p1,key.map encN,p3,p4,[])=some ((life key pl K).length,(life key pl K).map encP):=e;have tt:List.take (life key pl K).length ((life key pl K).map encP)=(life key pl K).map encP:=zi (by simp)
 unfold xjm xti;simp only [xmT,xmU,xmV,xmW,e,za,zk,zh,xab,zH,zd,zn,zS,zr,tt,sUF]
theorem xI6 (p0:List UInt8) (p1 p3 p4:List AV) (key:List Int) (hk:key.length<=1048576) (pl:List Fc) (q:pl.length<=65536) (K:Row):∃ A:List Per,xfX p0 p1 (key.map encN) p3 p4 (pl.map encF) (K.map encV)=some (A.map encP)/\IsSpan A/\(∀ t,inL A t=inL (life key pl K) t)/\A.length<=2*(1+pl.length):=by
 have hl:=xuM key pl K;obtain ⟨A,e,h1,h2,h3⟩:=xJa (life key pl K) (by omega)
 refine ⟨A,?_,h1,h2,by omega⟩
 unfold xfX xsL;rw [xEk p0 p1 p3 p4 key hk pl (by omega) K]
 simp only [zk,zh,xab,e,sUF]
theorem xJb (p0:List UInt8) (p1 p3 p4:List AV) (key:List Int) (hk:key.length<=1048576) (pl:List Fc) (Q:pl.length<=14) (p:Per) (K:Row):∃ A S:List Per,xfX p0 p1 (key.map encN) p3 p4 (pl.map encF) (K.map encV)=some (A.map encP)/\xhT [AV.agg [.int .i64 p.1,.int .i64 p.2]] (A.map encP)=some (S.map encP)/\IsSpan S/\(∀ t,inL S t=(hasP p t&&!inL (life key pl K) t))/\S.length<=2*(2+pl.length):=by
 obtain ⟨A,a1,a2,a3,a4⟩:=xI6 p0 p1 p3 p4 key hk pl (by omega) K
 obtain ⟨S,s1,s2,s3,s4⟩:=xyT [p] A (by simp) (by omega)
 obtain ⟨S',U,J,O,q⟩:=xyT [p] (life key pl K) (by simp) (by have:=xuM key pl K;omega)
 have he:S=S':=xjy s2 J fun t=>by rw [s3,O,a3]
 have hl:=xuM key pl K;refine ⟨A,S,a1,s1,s2,fun t=>?_,by rw [he];simp at q;omega⟩
 rw [s3,a3,xiE,xeV,Bool.or_false]
theorem xI7 (cols key:List Int) (ft p0:List UInt8) (p1 p3 p4:List AV) (hc:cols.length<=1048576) (hk:key.length<=1048576) (l pl:List Fc) (hl:l.length<=14) (O:pl.length<=14) (hr:∀ f,f∈l->f.r.length<=60) :
  ∃ B M:List Fc,xrj (cols.map encN) ft (l.map encF) p0 p1 (key.map encN) p3 p4 (pl.map encF)=some (B.map encF)/\xL6 M B/\IsMiss cols key l pl M:=by
 have h1:∀ x,x∈l->∃ S:List Per,(xL5 x.r cols=true->S=[])/\(xL5 x.r cols=false->∃ A:List Per,xfX p0 p1 (key.map encN) p3 p4 (pl.map encF) ((pick x.r cols).map encV)=some (A.map encP)/\xhT [AV.agg [.int .i64 x.p.1,.int .i64 x.p.2]] (A.map encP)=some (S.map encP))/\IsSpan S/\(∀ t,inL S t=xL1 cols key pl x t)/\S.length<=2*(2+pl.length):=fun x hx=>by
  cases hn:xL5 x.r cols with
  | true=>exact ⟨[],fun _=>rfl,(by simp),xk2,fun t=>by simp [xL1,hn,xeV],by simp⟩
  | false =>
   obtain ⟨A,S,a1,s1,s2,s3,s4⟩:=xJb p0 p1 p3 p4 key hk pl O x.p (pick x.r cols);exact ⟨S,(by simp),fun _=>⟨A,a1,s1⟩,s2,fun t=>by rw [s3];simp [xL1,hn],s4⟩
 obtain ⟨L,hL⟩:=xwR h1;have hM:IsMiss cols key l pl (l.flatMap fun x=>mk x.r (L x)):=xA1 fun x hx=>(hL x hx).2.2
 have e1:=xqi (step:=xb8 (l.map encF) (pl.map encF)) l (fun x=>mk x.r (L x)) (fun n D=>(D.length,(n:Int),cols.map encN,ft,p0,p1,key.map encN,p3,p4,D.map encF)) (fun D=>(D.length,D.map encF)) [] 32 (fun x hx=>by
  have:=(hL x hx).2.2.2.2;rw [mk,za];omega) (fun n h D hD=>by
  have h1:(n:Int)<(l.length:Int):=by omega
  have gf:(l.map encF).getD n .top=encF l[n]:=xaa _ _ _ h;obtain ⟨s1,s2,s3,s4,s5⟩:=hL l[n] (zo h);rw [List.length_nil,zH] at hD;have J:=xBr cols ft l[n].r hc;have U:=xwh l[n].r cols hc;cases hn:xL5 l[n].r cols with
  | true =>
   have hm:mk l[n].r (L l[n])=[]:=by rw [s1 hn];rfl
   rw [hm,zD];simp only [xb8,xgZ,xeb,xgn,xgo,xc5,xgp,xec,sBU,h,h1,gf,cF0,cF1,cF2,sF0,sF1,sF2,lF,sF12,sF02,J,hn,xLZ (n:=n) (by omega)]
  | false =>
   obtain ⟨A,a1,a2⟩:=s2 hn;have hd:=xzE l[n].r (L l[n]) (by omega)
   have ml:(mk l[n].r (L l[n])).length<=32:=by rw [mk,za];omega
   have m1:(D.length+(mk l[n].r (L l[n])).length)*40<=140737488355328:=by omega
   have m2:D.length+(mk l[n].r (L l[n])).length<=4611686018427387904:=by omega
   simp only [xb8,xgZ,xeb,xgn,xgo,xc5,xgp,xec,sBU,h,h1,gf,cF0,cF1,cF2,sF0,sF1,sF2,lF,sF12,sF02,J,hn,U,a1,a2,hd,m1,m2,xLZ (n:=n) (by omega),z8,zx]) (fun D=>by
  simp only [xb8,xgZ,za,zy,zm,xac,sUF])
 rw [zU] at e1;generalize l.flatMap (fun x=>mk x.r (L x))=M at e1 hM
 have Q:=hM.len;have q:M.length<=1024:=Nat.le_trans Q (Nat.le_trans (Nat.mul_le_mul (Nat.mul_le_mul_left 2 (Nat.add_le_add_left O 2)) hl) (by decide))
 obtain ⟨B,b1,b2⟩:=xJ8 M ⟨by omega,fun f hf=>by
  obtain ⟨x,hx,e⟩:=hM.row f hf;have:=hr x hx;rw [e];omega⟩ q
 refine ⟨B,M,?_,b2,hM⟩;have e1:Iter (xb8 (l.map encF) (pl.map encF)) ((0:Nat),(0:Int),cols.map encN,ft,p0,p1,key.map encN,p3,p4,[])=_:=e1;have tt:List.take M.length (M.map encF)=M.map encF:=zi (by simp)
 unfold xrj xtj;simp only [xmY,xmZ,xmx,xm0,xm1,za,e1,b1,zk,zh,xab,zH,zd,zn,zS,zr,tt,sUF]
end Go.Sim.M
end
noncomputable section
set_option maxRecDepth 100000
namespace Go.Sim.M
open Go.RowKit Go.Sim.Srt
theorem xA6:∀ (a b:List Int),(∀ t,a.count t<=b.count t)->a.length<=b.length
 | [],b,_=>by simp
 | x::a,b,h=>by
  have hx:x∈b:=List.count_pos_iff.1 (by have:=h x;rw [List.count_cons_self] at this;omega)
  have ih:=xA6 a (b.erase x) fun t=>by
   have:=h t;by_cases e:x=t
   . subst e;rw [List.count_cons_self] at this;rw [List.count_erase_self];omega
   . rw [List.count_cons_of_ne e] at this;rw [List.count_erase_of_ne (fun c=>e c.symm)];exact this
  rw [List.length_erase_of_mem hx] at ih;have:0<b.length:=List.length_pos_iff.2 fun c=>by rw [c] at hx;simp at hx
  rw [zF];omega
theorem xFG (ps:List Per) (t:Int):ps.countP (hasP · t)<=ps.countP (hasP · (t - 1))+(ps.map (·.1)).count t:=by
 induction ps with
 | nil=>simp
 | cons p ps ih =>
  rw [List.countP_cons,List.countP_cons,zV,List.count_cons];have:(if hasP p t=true then 1 else 0)<=(if hasP p (t - 1)=true then 1 else 0)+(if (p.1==t)=true then 1 else 0):=by
   by_cases h1:hasP p t=true
   . obtain ⟨hv,a,b⟩:=xbp.1 h1;by_cases h2:p.1=t
     . have e:(p.1==t)=true:=by simpa using h2
       rw [if_pos h1,if_pos e];omega
     . have:hasP p (t - 1)=true:=xbp.2 ⟨hv,by omega,by omega⟩
       rw [if_pos h1,if_pos this];omega
   . rw [if_neg h1];omega
  omega
theorem xFm (a b:Nat):∀ n:Nat,((List.range n).map fun k=>if a<=k/\k<b then 1 else 0).sum<=min n b - min n a
 | 0=>by simp
 | n+1=>by
  rw [List.range_succ,zx,List.sum_append];have:=xFm a b n;simp only [zV,zW,List.sum_cons,List.sum_nil];split<;>omega
theorem IsLevs.len1 {ps P:List Per} (h:IsLevs (fun t=>ps.countP (hasP · t)) P):P.length<=ps.length:=by
 have:(P.map (·.1)).length<=(ps.map (·.1)).length:=by
  refine xA6 _ _ fun t=>?_
  obtain ⟨A,H,h1,h2,h3⟩:=h.lev;have e1:(P.map (·.1)).count t=((List.range H).map fun k=>((A k).map (·.1)).count t).sum:=by
   rw [(h3.map (·.1)).count_eq,List.map_flatMap,List.count_flatMap];rfl
  have e2:∀ n,((List.range n).map fun k=>((A k).map (·.1)).count t).sum<=((List.range n).map fun k=>if ps.countP (hasP · (t - 1))<=k/\k<ps.countP (hasP · t) then 1 else 0).sum:=fun n=>by
   induction n with
   | zero=>simp
   | succ n ih =>
    rw [List.range_succ,zx,zx,List.sum_append,List.sum_append];simp only [zV,zW,List.sum_cons,List.sum_nil];have hn:((A n).map (·.1)).Nodup:=by
     unfold List.Nodup;rw [List.pairwise_map];refine List.Pairwise.imp_of_mem (fun {p q} hp hq h=>?_) (h2 n).1.2
     have:=xbi.1 ((h2 n).1.1 p hp);omega
    have J:((A n).map (·.1)).count t<=1:=List.nodup_iff_count.1 hn t;by_cases ht:t∈(A n).map (·.1)
    . obtain ⟨p,hp,rfl⟩:=zK.1 ht;obtain ⟨a,b,_⟩:=xE1 (N:=fun t=>ps.countP (hasP · t)) (h2 n).1 (h2 n).2 hp
      have hv:=xbi.1 ((h2 n).1.1 p hp);have:=a p.1 (Int.le_refl _) hv.2.1;rw [if_pos ⟨b,this⟩];omega
    . rw [List.count_eq_zero.2 ht];omega
  have e3:=e2 H;have e4:=xFm (ps.countP (hasP · (t - 1))) (ps.countP (hasP · t)) H;have e5:=xFG ps t;have e6:=h1 t;omega
 simpa using this
theorem xzn {L:Row->List Per}:∀ {R:List Row} {l:List Fc},R.Nodup->(∀ r,r∈R->(L r).length<=(psOf l r).length)->(xL3 R L).length<=l.length
 | [],l,_,_=>by simp [xL3]
 | r::R,l,hn,h=>by
  obtain ⟨n1,n2⟩:=List.nodup_cons.1 hn;have e:xL3 (r::R) L=((L r).map fun p=>(⟨r,p⟩:Fc))++xL3 R L:=by simp [xL3]
  let l2:=l.filter fun f=>!decide (f.r=r)
  have J:∀ r',r'∈R->psOf l2 r'=psOf l r':=fun r' q=>by
   have hne:r'≠r:=fun e=>n1 (e▸q)
   unfold psOf;simp only [l2,List.filter_filter];congr 1;refine List.filter_congr fun f _=>?_
   by_cases hf:f.r=r'
   . have:¬ f.r=r:=fun e=>hne (hf▸e)
     simp [hf,hne]
   . simp [hf]
  have ih:=xzn (L:=L) (l:=l2) n2 fun r' q=>by rw [J r' q];exact h r' (by simp [q])
  have h1:=h r (by simp)
  have hl:(psOf l r).length+l2.length<=l.length:=by
   unfold psOf;rw [za];have:=List.length_eq_countP_add_countP (fun f:Fc=>decide (f.r=r)) (l:=l)
   have a1:(l.filter fun f=>decide (f.r=r)&&pv f.p).length<=l.countP fun f=>decide (f.r=r):=by
    rw [<-List.countP_eq_length_filter];exact List.countP_mono_left fun f _ hf=>by simp only [zf] at hf;exact hf.1
   have a2:l2.length=l.countP fun f=>¬ decide (f.r=r)=true:=by
    rw [List.countP_eq_length_filter];simp [l2]
   omega
  rw [e,z8,za];omega
theorem xL6.len1 {l B:List Fc} (h:xL6 l B):B.length<=l.length:=by
 obtain ⟨R,L,h1,h2,rfl⟩:=h;refine xzn (h1.1.nodup xqL) fun r hr=>?_
 have:=h2 r hr;rw [show cnt l r=fun t=>(psOf l r).countP (hasP · t) from funext fun t=>(xv5 l r t).symm] at this
 exact this.len1
end Go.Sim.M
end
noncomputable section
set_option maxRecDepth 100000
namespace Go.Sim.M
open Go.RowKit
theorem xJG {cols key:List Int} {l pl M B:List Fc} (hl:l.length<=14) (q:pl.length<=14) (hM:IsMiss cols key l pl M) (hB:xL6 M B):B.length<=448:=by
 have h1:=hB.len1;have h2:M.length<=448:=Nat.le_trans hM.len (Nat.le_trans (Nat.mul_le_mul (Nat.mul_le_mul_left 2 (Nat.add_le_add_left q 2)) hl) (by decide))
 omega
theorem IsMiss.bagrow {cols key:List Int} {l pl M B:List Fc} (hM:IsMiss cols key l pl M) (hB:xL6 M B):∀ f,f∈B->∃ x,x∈l/\f.r=x.r:=fun f hf=>by
 obtain ⟨_,g,hg,e⟩:=hB.valid hf;obtain ⟨x,hx,e'⟩:=hM.row g hg;exact ⟨x,hx,by rw [<-e,e']⟩
end Go.Sim.M
end
noncomputable section
set_option maxRecDepth 100000
namespace Go.Sim.M
open Go.RowKit Go.Sim.Srt
def ptsF (l:List Fc):List Int:=l.foldl (fun P f=>if pv f.p=true then (if f.p.2<1099511627776 then insI (insI P f.p.1) f.p.2 else insI P f.p.1) else P) [0]
def bnd (f:Fc):List Int:=if pv f.p=true then (if f.p.2<1099511627776 then [f.p.1,f.p.2] else [f.p.1]) else []
theorem xv6 (l:List Fc) (f:Fc):ptsF (l++[f])=if pv f.p=true then (if f.p.2<1099511627776 then insI (insI (ptsF l) f.p.1) f.p.2 else insI (ptsF l) f.p.1) else ptsF l:=by simp [ptsF]
theorem xBm:∀ l:List Fc,Asc (ptsF l.reverse)/\∀ x,x∈ptsF l.reverse↔x=0\/x∈l.flatMap bnd
 | []=>⟨List.pairwise_singleton _ _,fun x=>by simp [ptsF]⟩
 | f::l=>by
  have ih:=xBm l;rw [List.reverse_cons,xv6];simp only [zR,zG,bnd];split
  . split
    . refine ⟨xkw (xkw ih.1 _) _,fun x=>?_⟩
      rw [xiF,xiF,ih.2,zC,zv];grind
    . refine ⟨xkw ih.1 _,fun x=>?_⟩
      rw [xiF,ih.2,zv];grind
  . exact ⟨ih.1,fun x=>by rw [ih.2];simp⟩
theorem xAr (l:List Fc):Asc (ptsF l)/\∀ x,x∈ptsF l↔x=0\/x∈l.flatMap bnd:=by
 have:=xBm l.reverse;rw [List.reverse_reverse] at this;refine ⟨this.1,fun x=>?_⟩
 rw [this.2];simp only [y6,List.mem_reverse]
theorem xDk:∀ l:List Fc,(ptsF l.reverse).length<=2*l.length+1
 | []=>by simp [ptsF]
 | f::l=>by
  have ih:=xDk l;have h1:=xe8 (ptsF l.reverse) f.p.1;have h2:=xe8 (insI (ptsF l.reverse) f.p.1) f.p.2;rw [List.reverse_cons,xv6,zF];split
  . split<;>omega
  . omega
theorem xAq (l:List Fc):(ptsF l).length<=2*l.length+1:=by
 have:=xDk l.reverse;rwa [List.reverse_reverse,List.length_reverse] at this
theorem xHq (l:List Fc) (n:Nat) (h:n<l.length):ptsF (l.take (n+1))=if pv l[n].p=true then (if l[n].p.2<1099511627776 then insI (insI (ptsF (l.take n)) l[n].p.1) l[n].p.2 else insI (ptsF (l.take n)) l[n].p.1) else ptsF (l.take n):=by
 rw [List.take_add_one,ze h];exact xv6 _ _
theorem xGm (l:List Fc) (hl:l.length<=262144):xor (l.map encF)=some ((ptsF l).map encN):=by
 have key:Iter (xcz (l.map encF)) ([AV.int IntKind.i64 (0:Int)],(0:Int))=some ((ptsF l).map encN):=by
  refine xkz (fun k=>((ptsF (l.take k)).map encN,((k:Nat):Int))) l.length _ (fun k hk=>?_) ?_ l.length 0 (by omega)
  . have i1:(k:Int)<(l.length:Int):=by omega
    have gf:(l.map encF).getD k .top=encF l[k]:=xaa _ _ _ hk;have hp:=xAq (l.take k);rw [zt] at hp;have e1:=xm8 (ptsF (l.take k)) l[k].p.1 (by omega)
    have h2:=xe8 (ptsF (l.take k)) l[k].p.1;have e2:=xm8 (insI (ptsF (l.take k)) l[k].p.1) l[k].p.2 (by omega)
    simp only [xcz,xhF,xdy,sBU,hk,i1,gf,cF0,cF1,cF2,sF0,sF1,sF2,lF,sF12,sF02,xqy,xLZ (n:=k) (by omega),e1,e2,xHq l k hk]
    cases hv:pv l[k].p with
    | false=>simp [xac,sUF]
    | true=>by_cases hf:l[k].p.2<1099511627776<;>simp [hf,xab,xac,sUF]
  . simp only [xcz,xhF,xdy,za,zy,zm,xac,y7,sUF]
 unfold xor xpG;simp only [key,zk,zh,xab,sUF]
theorem xvS (l:List Fc) {x t:Int} (hx:x<=t) (ht:t<1099511627776) (hn:∀ y,y∈ptsF l->¬ (x<y/\y<=t)) {f:Fc} (hf:f∈l):hasP f.p x=hasP f.p t:=by
 cases hv:pv f.p with
 | false=>simp [hasP,hv]
 | true =>
  have h1:=xbi.1 hv;have m1:f.p.1∈ptsF l:=((xAr l).2 _).2 (.inr (y6.2 ⟨f,hf,by unfold bnd;rw [if_pos hv];split<;>simp⟩))
  have n1:=hn _ m1;have n2:f.p.2<1099511627776->¬ (x<f.p.2/\f.p.2<=t):=fun h=>hn _ (((xAr l).2 _).2 (.inr (y6.2 ⟨f,hf,by unfold bnd;rw [if_pos hv,if_pos h];simp⟩)))
  unfold hasP;rw [hv];by_cases c:f.p.2<1099511627776
  . have n2:=n2 c;by_cases a1:f.p.1<=x<;>by_cases a2:x<f.p.2<;>by_cases a3:f.p.1<=t<;>by_cases a4:t<f.p.2<;>simp [a1,a2,a3,a4]<;>omega
  . by_cases a1:f.p.1<=x<;>by_cases a2:x<f.p.2<;>by_cases a3:f.p.1<=t<;>by_cases a4:t<f.p.2<;>simp [a1,a2,a3,a4]<;>omega
def nxt (P:List Int):Int:=P.headD 1099511627776
def pcL:List Int->List Per
 | []=>[]
 | a::P=>(a,nxt P)::pcL P
theorem xE9:∀ P:List Int,(pcL P).length=P.length
 | []=>rfl
 | a::P=>by show (pcL P).length+1=_;rw [xE9 P];rfl
theorem xBy (P:List Int) (hP:P.length<=1048576):∀ (d k:Nat) (O:List Per),k+d=P.length->O.length<=k->Iter (xbJ (P.map encN)) (O.length,(k:Int),O.map encP)=some ((O++pcL (P.drop k)).length,(O++pcL (P.drop k)).map encP)
 | 0,k,O,h,hO=>by
  have hk:k=P.length:=by omega
  subst hk;rw [zq (zd _)];refine xad ?_;simp only [xbJ,xfi,za,zy,zm,xac,pcL,zD,sUF]
 | d+1,k,O,h,hO=>by
  have hk:k<P.length:=by omega
  have h1:(k:Int)<(P.length:Int):=by omega
  have gf:(P.map encN).getD k .top=encN P[k]:=xaa _ _ _ hk;have m1:(O.length+1)*16<=140737488355328:=by omega
  have m2:O.length+1<=4611686018427387904:=by omega
  have hd:pcL (P.drop k)=[(P[k],nxt (P.drop (k+1)))]++pcL (P.drop (k+1)):=by rw [xaw hk];rfl
  rw [hd,<-zw,<-xBy P hP d (k+1) (O++[(P[k],nxt (P.drop (k+1)))]) (by omega) (by rw [z8,zj];omega)]
  refine xaj ?_;by_cases q:k+1<P.length
  . have h2:((k+1:Nat):Int)<(P.length:Int):=by omega
    have gn:(P.map encN).getD (k+1) .top=encN P[k+1]:=xaa _ _ _ q;have hn:nxt (P.drop (k+1))=P[k+1]:=by rw [xaw q];rfl
    rw [hn];simp only [xbJ,xfi,xgY,sBU,hk,h1,q,h2,gf,gn,cN,sN,m1,m2,xLZ (n:=k) (by omega),z8,zj,zx,zV,zW]
    simp [encP]
  . have h2:¬ ((k+1:Nat):Int)<(P.length:Int):=by omega
    have hn:nxt (P.drop (k+1))=1099511627776:=by rw [zq (by omega)];rfl
    rw [hn];simp only [xbJ,xfi,xgY,sBU,hk,h1,h2,gf,cN,sN,m1,m2,xLZ (n:=k) (by omega),z8,zj,zx,zV,zW]
    simp [encP]
theorem xGl (a b:List Fc) (ha:a.length<=65536) (hb:b.length<=65536):xol (a.map encF) (b.map encF)=some ((pcL (ptsF (a++b))).map encP):=by
 have hl:(a++b).length<=262144:=by rw [z8];omega
 have hp:=xAq (a++b);have e:=xBy (ptsF (a++b)) (by omega) (ptsF (a++b)).length 0 [] (by omega) (by simp)
 rw [zr,zU] at e;have e:Iter (xbJ ((ptsF (a++b)).map encN)) ((0:Nat),(0:Int),[])=_:=e;have m1:a.length*40<=140737488355328:=by omega
 have m2:a.length<=4611686018427387904:=by omega
 have m3:(a.length+b.length)*40<=140737488355328:=by omega
 have m4:a.length+b.length<=4611686018427387904:=by omega
 have t1:List.take (a.length+b.length) (a.map encF++b.map encF)=(a++b).map encF:=by
  rw [<-zx];exact zi (by simp)
 have ep:=xGm (a++b) hl;have t2:List.take (pcL (ptsF (a++b))).length ((pcL (ptsF (a++b))).map encP)=(pcL (ptsF (a++b))).map encP:=zi (by simp)
 unfold xol xpF;simp only [xom,xon,xoo,xoq,sBU,m1,m2,m3,m4,z8,zr,zd,t1,ep,e,t2]
theorem xDl:∀ {P:List Int} {t:Int},(∃ x,x∈P/\x<=t)->∃ x,x∈P/\x<=t/\∀ y,y∈P->¬ (x<y/\y<=t)
 | [],t,h=>by obtain ⟨x,hx,_⟩:=h;simp at hx
 | a::P,t,h=>by
  by_cases hP:∃ x,x∈P/\x<=t
  . obtain ⟨x,x1,x2,x3⟩:=xDl hP;by_cases ha:x<a/\a<=t
    . exact ⟨a,by simp,ha.2,fun y hy=>by
       rcases zC.1 hy with rfl|hy
       . omega
       . have:=x3 y hy;omega⟩
    . exact ⟨x,by simp [x1],x2,fun y hy=>by
       rcases zC.1 hy with rfl|hy
       . exact ha
       . exact x3 y hy⟩
  . obtain ⟨x,x1,x2⟩:=h;rcases zC.1 x1 with rfl|x1
    . exact ⟨x,by simp,x2,fun y hy=>by
       rcases zC.1 hy with rfl|hy
       . omega
       . exact fun hh=>hP ⟨y,hy,hh.2⟩⟩
    . exact absurd ⟨x,x1,x2⟩ hP
theorem xIU (P:List Int):∀ p,p∈pcL P->p.1∈P:=fun p hp=>by
 induction P with
 | nil=>simp [pcL] at hp
 | cons a P ih =>
  rcases zC.1 hp with rfl|hp
  . simp
  . exact List.mem_cons_of_mem _ (ih hp)
theorem xFa:∀ {P:List Int} {x:Int},x∈P->∃ p,p∈pcL P/\p.1=x
 | a::P,x,h=>by
  rcases zC.1 h with rfl|h
  . exact ⟨_,List.mem_cons_self ..,rfl⟩
  . obtain ⟨p,h1,h2⟩:=xFa h;exact ⟨p,List.mem_cons_of_mem _ h1,h2⟩
theorem xyR (t:Int) (l:List Fc) (hl:l.length<=1048576):Iter (xeu (l.map encF) t) ((0:Nat),(0:Int),[])=some ((l.flatMap (fun (f:Fc)=>if hasP f.p t=true then [f.r] else [])).length,(l.flatMap (fun (f:Fc)=>if hasP f.p t=true then [f.r] else [])).map encR):=by
 refine xhi l (fun (f:Fc)=>if hasP f.p t=true then [f.r] else []) encR 1 (fun f hf=>?_) (fun n h D hD=>?_) (fun D=>?_)
 . cases q:(hasP (f).p t)<;>simp [q]
 . have h1:(n:Int)<(l.length:Int):=by omega
   have m1:(D.length+1)*24<=140737488355328:=by omega
   have m2:D.length+1<=4611686018427387904:=by omega
   have gf:(l.map encF).getD n .top=encF l[n]:=xaa _ _ _ h;simp only [xeu,xmn,sBU,h,h1,gf,cF0,cF1,cF2,sF0,sF1,sF2,lF,sF12,sF02,xyI,m1,m2,xLZ (n:=n) (by omega)]
   cases q:(hasP (l[n]).p t)<;>simp [encR,xab,xac,encR,q,sUF]
 . simp only [xeu,xmn,za,zy,zm,xac,sUF]
theorem xv7 (l:List Fc) (t:Int) (h:Few l):∃ r,xfa (l.map encF) t=some (r.map encR)/\r.Perm (atL l t)/\Sorted cmpR r:=by
 obtain ⟨r,e,p,s⟩:=xDy (atL l t) (h.at t);refine ⟨r,?_,p,s⟩;have:=xyR t l h.1;unfold xfa xuZ;simp only [xtS,xtT,xtU,xtV,this,sOO,sUF];rw [show (l.flatMap fun f=>if hasP f.p t=true then [f.r] else [])=atL l t from rfl,e]
 simp only [sOO]
theorem xrR {cols key:List Int} {pl:List Fc} {x:Fc} {t:Int} (h:xL1 cols key pl x t=true):hasP x.p t=true:=by
 unfold xL1 at h;simp only [zf] at h;exact h.2.1
theorem xEE {t:Int}:∀ {l:List Fc},(∀ x,x∈l->hasP x.p t=true)->(atL l t).length=l.length
 | [],_=>rfl
 | x::l,h=>by
  have ih:=xEE (l:=l) fun y hy=>h y (by simp [hy])
  unfold atL at ih |-;rw [zR,z8,ih,if_pos (h x (by simp))]
  simp;omega
theorem xyB {cols key:List Int} {l pl M B:List Fc} (hM:IsMiss cols key l pl M) (hB:xL6 M B) (t:Int):(atL B t).length=l.countP fun x=>xL1 cols key pl x t:=by
 have h1:∀ r,cnt B r t=cnt (l.filter fun x=>xL1 cols key pl x t) r t:=fun r=>by
  rw [hB.cntB,hM.cnt,missC,cnt,List.countP_filter];refine List.countP_congr fun x _=>?_
  cases hm:xL1 cols key pl x t with
  | false=>simp
  | true=>simp [xrR hm]
 rw [(xIq h1).length_eq,xEE (fun x hx=>xrR (List.mem_filter.1 hx).2),List.countP_eq_length_filter]
theorem xIQ {cols key:List Int} {l pl M B:List Fc} (hM:IsMiss cols key l pl M) (hB:xL6 M B):B=[]↔∀ x,x∈l->∀ t,xL1 cols key pl x t=false:=by
 constructor
 . intro h x hx t;have hl:=xyB hM hB t;rw [h] at hl;have h0:l.countP (fun x=>xL1 cols key pl x t)=0:=hl.symm
   rw [List.countP_eq_zero] at h0;simpa using h0 x hx
 . intro h;match B,hB with
   | [],_=>rfl
   | f::B',hB =>
    have hv:=(hB.valid (List.mem_cons_self ..)).1;have hl:=xyB hM hB f.p.1;rw [(List.countP_eq_zero (p:=fun x=>xL1 cols key pl x f.p.1)).2 fun x hx=>by simp [h x hx]] at hl
    have:f.r∈atL (f::B') f.p.1:=by
     unfold atL;rw [zR,if_pos (xBD hv)];simp
    have:=List.length_pos_of_mem this;omega
def xMa (cols key:List Int) (q keys:List Row):Bool:=q.all fun r=>xL5 r cols || keys.any fun k=>decide (pick r cols=pick k key)
theorem xy8 {cols key:List Int} {O J keys q:List Row} (h1:O.Perm J) (h2:keys.Perm q):xMa cols key O keys=xMa cols key J q:=by
 unfold xMa;have e:∀ r,(keys.any fun k=>decide (pick r cols=pick k key))=q.any fun k=>decide (pick r cols=pick k key):=fun r=>by
  rw [Bool.eq_iff_iff,List.any_eq_true,List.any_eq_true];exact ⟨fun ⟨k,a,b⟩=>⟨k,h2.mem_iff.1 a,b⟩,fun ⟨k,a,b⟩=>⟨k,h2.mem_iff.2 a,b⟩⟩
 simp only [e];rw [Bool.eq_iff_iff,zI,zI];exact ⟨fun h r hr=>h r (h1.mem_iff.2 hr),fun h r hr=>h r (h1.mem_iff.1 hr)⟩
theorem xwA {l:List Fc} {t:Int} {r:Row}:r∈atL l t↔∃ f,f∈l/\f.r=r/\hasP f.p t=true:=by
 refine ⟨xEF,fun ⟨f,h1,h2,h3⟩=>?_⟩
 unfold atL;exact y6.2 ⟨f,h1,by rw [if_pos h3];simp [h2]⟩
theorem xwy {key:List Int} {pl:List Fc} {K:Row} {t:Int}:inL (life key pl K) t=true↔∃ y,y∈pl/\pick y.r key=K/\hasP y.p t=true:=by
 unfold inL life;rw [List.any_eq_true];constructor
 . rintro ⟨p,hp,h⟩;obtain ⟨y,hy,rfl⟩:=zK.1 hp;obtain ⟨h1,h2⟩:=List.mem_filter.1 hy;exact ⟨y,h1,by simpa using h2,h⟩
 . rintro ⟨y,h1,h2,h3⟩;exact ⟨y.p,zK.2 ⟨y,List.mem_filter.2 ⟨h1,by simpa using h2⟩,rfl⟩,h3⟩
theorem xuD (cols key:List Int) (l pl:List Fc) (t:Int):xMa cols key (atL l t) (atL pl t)=true↔∀ x,x∈l->xL1 cols key pl x t=false:=by
 unfold xMa;rw [zI];constructor
 . intro h x hx;cases hm:xL1 cols key pl x t with
   | false=>rfl
   | true =>
    have hp:=xrR hm;have:=h x.r (xwA.2 ⟨x,hx,rfl,hp⟩);unfold xL1 at hm;simp only [zf,Bool.not_eq_true'] at hm;obtain ⟨h1,_,h3⟩:=hm;rw [h1,Bool.false_or,List.any_eq_true] at this;obtain ⟨k,hk,he⟩:=this;obtain ⟨y,y1,y2,y3⟩:=xwA.1 hk;have hi:inL (life key pl (pick x.r cols)) t=true:=xwy.2 ⟨y,y1,by rw [y2];exact (of_decide_eq_true he).symm,y3⟩
    rw [hi] at h3;exact absurd h3 (by simp)
 . intro h r hr;obtain ⟨x,x1,rfl,x3⟩:=xwA.1 hr;have:=h x x1;unfold xL1 at this;rw [x3,Bool.true_and] at this;cases hn:xL5 x.r cols with
   | true=>rfl
   | false =>
    rw [hn] at this;simp only [Bool.not_false,Bool.true_and,Bool.not_eq_false'] at this;obtain ⟨y,y1,y2,y3⟩:=xwy.1 this;rw [Bool.false_or,List.any_eq_true];exact ⟨y.r,xwA.2 ⟨y,y1,rfl,y3⟩,decide_eq_true y2.symm⟩
theorem xC6 {cols key:List Int} {l pl:List Fc} {u t:Int} (hu:u<=t) (ht:t<1099511627776) (hn:∀ y,y∈ptsF (l++pl)->¬ (u<y/\y<=t)) {x:Fc} (hx:x∈l):xL1 cols key pl x u=xL1 cols key pl x t:=by
 have h1:=xvS (l++pl) hu ht hn (f:=x) (by simp [hx])
 have h2:inL (life key pl (pick x.r cols)) u=inL (life key pl (pick x.r cols)) t:=by
  rw [Bool.eq_iff_iff,xwy,xwy];constructor
  . rintro ⟨y,y1,y2,y3⟩;exact ⟨y,y1,y2,by rw [<-xvS (l++pl) hu ht hn (f:=y) (by simp [y1])];exact y3⟩
  . rintro ⟨y,y1,y2,y3⟩;exact ⟨y,y1,y2,by rw [xvS (l++pl) hu ht hn (f:=y) (by simp [y1])];exact y3⟩
 unfold xL1;rw [h1,h2]
theorem xEb {cols key:List Int} {l pl:List Fc}:(∀ u,u∈ptsF (l++pl)->∀ x,x∈l->xL1 cols key pl x u=false)↔∀ x,x∈l->∀ t,xL1 cols key pl x t=false:=by
 constructor
 . intro h x hx t;cases hm:xL1 cols key pl x t with
   | false=>rfl
   | true =>
    have hp:=xbp.1 (xrR hm);have hv:=xbi.1 hp.1;obtain ⟨u,u1,u2,u3⟩:=xDl (P:=ptsF (l++pl)) (t:=t) ⟨0,((xAr _).2 0).2 (.inl rfl),by omega⟩
    have:=xC6 (cols:=cols) (key:=key) u2 (by omega) u3 hx
    rw [h u u1 x hx,hm] at this;exact absurd this (by simp)
 . intro h u _ x hx;exact h x hx u
end Go.Sim.M
end
noncomputable section
set_option maxRecDepth 100000
namespace Go.Sim.M
open Go.RowKit
def Stp {σ ρ:Type} (I:σ->Prop) (Q:ρ->Prop) (X:Option (σ⊕ρ)):Prop:=(∃ s,X=some (.inl s)/\I s)\/∃ r,X=some (.inr r)/\Q r
theorem Stp.br {σ ρ:Type} {I:σ->Prop} {Q:ρ->Prop} {c:Bool} {a b:Option (σ⊕ρ)} (h1:c=true->Stp I Q a) (h2:c=false->Stp I Q b):Stp I Q (br c a b):=by
 cases c with
 | true=>exact h1 rfl
 | false=>exact h2 rfl
theorem Stp.inl {σ ρ:Type} {I:σ->Prop} {Q:ρ->Prop} {s:σ} (h:I s):Stp I Q (some (.inl s):Option (σ⊕ρ)):=Or.inl ⟨s,rfl,h⟩
theorem Stp.inr {σ ρ:Type} {I:σ->Prop} {Q:ρ->Prop} {r:ρ} (h:Q r):Stp I Q (some (.inr r):Option (σ⊕ρ)):=Or.inr ⟨r,rfl,h⟩
def Ans {α:Type} (Q:α->Prop) (X:Option α):Prop:=∃ r,X=some r/\Q r
theorem Ans.br {α:Type} {Q:α->Prop} {c:Bool} {a b:Option α} (h1:c=true->Ans Q a) (h2:c=false->Ans Q b):Ans Q (br c a b):=by
 cases c with
 | true=>exact h1 rfl
 | false=>exact h2 rfl
theorem Ans.some {α:Type} {Q:α->Prop} {r:α} (h:Q r):Ans Q (some r):=⟨r,rfl,h⟩
theorem Ans.mono {α:Type} {Q Q':α->Prop} {X:Option α} (h:Ans Q X) (hq:∀ r,Q r->Q' r):Ans Q' X:=⟨h.choose,h.choose_spec.1,hq _ h.choose_spec.2⟩
theorem xa1 {σ ρ:Type} {step:σ->Option (σ⊕ρ)} (I:Nat->σ->Prop) (N:Nat) (Q:ρ->Prop) (hs:∀ k s,k<N->I k s->Stp (I (k+1)) Q (step s))
  (he:∀ s,I N s->Stp (fun _=>False) Q (step s)):∀ (d k:Nat) (s:σ),k+d=N->I k s->Ans Q (Iter step s)
 | 0,k,s,h,hp=>by
  obtain rfl:k=N:=by omega
  rcases he s hp with ⟨_,_,h⟩|⟨r,e,hq⟩
  . exact absurd h id
  . exact ⟨r,xad e,hq⟩
 | d+1,k,s,h,hp=>by
  rcases hs k s (by omega) hp with ⟨s',e,q⟩|⟨r,e,hq⟩
  . obtain ⟨x,ex,hx⟩:=xa1 I N Q hs he d (k+1) s' (by omega) q
    exact ⟨x,(xaj e).trans ex,hx⟩
  . exact ⟨r,xad e,hq⟩
theorem xBP (s:List UInt8) (hs:s.length<=16777216):Ans (fun _=>True) (xjY s):=by
 obtain ⟨r,e,_⟩:=xa1 (step:=xa2 s) (fun k i=>i=(k:Int)) s.length (fun _=>True) (fun k i hk hi=>by
  subst hi;have h1:(k:Int)<(s.length:Int):=by omega
  simp only [xa2,xfB,sBU,h1,hk,xLZ (n:=k) (by omega)]
  repeat' (first|exact Stp.inl rfl|exact Stp.inr trivial|refine Stp.br (fun _=>?_) (fun _=>?_))) (fun i hi=>by
  subst hi;simp only [xa2,xfB,zy,zm,xac,sUF];exact Stp.inr trivial) s.length 0 (0:Int) (by omega) rfl
 unfold xjY xlC;simp only [e,zk,zh,xab,sUF];repeat' (first|exact Ans.some trivial|refine Ans.br (fun _=>?_) (fun _=>?_))
theorem xz1 (k i:Int) (s:List UInt8) (hs:s.length<=16777216):Ans (fun _=>True) (xl0 k i s):=by
 obtain ⟨r,e,_⟩:=xBP s hs;unfold xl0 xqR;simp only [e,zk,zh,xab,sUF];repeat' (first|exact Ans.some trivial|refine Ans.br (fun _=>?_) (fun _=>?_))
theorem xFQ (op i vk vi:Int) (vt nm:List UInt8) (args:List AV) (ht:vt.length<=16777216):Ans (fun b=>b=true->op=22->1<=args.length) (xn4 op i vk vi vt nm args):=by
 obtain ⟨r,e,_⟩:=xz1 vk vi vt ht;unfold xn4 xpl;simp only [e,zk,zh,xab,sUF];refine Ans.br (fun _=>Ans.some (by simp)) (fun _=>Ans.br (fun _=>Ans.some (by simp)) (fun h=>?_))
 have hh:op=22->1<=args.length:=fun ho=>by
  subst ho;have ha:(xjw 22).fst=3:=by rfl
  rw [ha] at h;simp only [decide_eq_false_iff_not] at h;omega
 repeat' (first|exact Ans.some (fun _=>hh)|refine Ans.br (fun _=>?_) (fun _=>?_))
theorem xwu (ks:List Int) (q:Int) (hk:ks.length<=16777216):Ans (fun _=>True) (xcN (ks.map encN) q):=by
 obtain ⟨r,e,_⟩:=xa1 (step:=xcJ (ks.map encN) q) (fun k i=>i=(k:Int)) ks.length (fun _=>True) (fun k i J hi=>by
  subst hi;have h1:(k:Int)<(ks.length:Int):=by omega
  have gf:(ks.map encN).getD k .top=encN ks[k]:=xaa _ _ _ J;simp only [xcJ,xlh,sBU,h1,J,gf,cN,sN,xLZ (n:=k) (by omega)]
  repeat' (first|exact Stp.inl rfl|exact Stp.inr trivial|refine Stp.br (fun _=>?_) (fun _=>?_))) (fun i hi=>by
  subst hi;simp only [xcJ,xlh,za,zy,zm,xac,sUF];exact Stp.inr trivial) ks.length 0 (0:Int) (by omega) rfl
 unfold xcN xtN;simp only [e,zk,zh,xab,sUF];repeat' (first|exact Ans.some trivial|refine Ans.br (fun _=>?_) (fun _=>?_))
theorem xCW (ks:List Int) (hk:ks.length<=16777216):Ans (fun _=>True) (xdT (ks.map encN)):=by
 obtain ⟨r,e,_⟩:=xa1 (step:=xdt (ks.map encN)) (fun k s=>s.2=(k:Int)) ks.length (fun _=>True) (fun k s q hi=>by
  obtain ⟨a,i⟩:=s;dsimp only at hi;subst hi;have h1:(k:Int)<(ks.length:Int):=by omega
  have gf:(ks.map encN).getD k .top=encN ks[k]:=xaa _ _ _ q;simp only [xdt,xj0,xhC,xiT,xiU,sBU,h1,q,gf,cN,sN,xLZ (n:=k) (by omega)]
  repeat' (first|exact Stp.inl rfl|exact Stp.inr trivial|refine Stp.br (fun _=>?_) (fun _=>?_))) (fun s hi=>by
  obtain ⟨a,i⟩:=s;dsimp only at hi;subst hi;simp only [xdt,xj0,xhC,za,zy,zm,xac,sUF];exact Stp.inr trivial) ks.length 0 ((0:Int),(0:Int)) (by omega) rfl
 unfold xdT xsv;simp only [xqW,xqX,xqY,e,zk,zh,xab,sUF];repeat' (first|exact Ans.some trivial|refine Ans.br (fun _=>?_) (fun _=>?_))
theorem xGg (op i vk vi:Int) (vt nm:List UInt8) (args:List AV) (ks kn:List Int) (hk:ks.length<=16777216) (h2:op=2->0<=i/\i<(kn.length:Int)) (q:op=22->1<=ks.length):Ans (fun _=>True) (xh7 op i vk vi vt nm args (ks.map encN) (kn.map encN)):=by
 obtain ⟨r1,e1,_⟩:=xwu ks 1 hk;obtain ⟨r2,e2,_⟩:=xwu ks 2 hk;obtain ⟨r3,e3,_⟩:=xwu ks 3 hk;obtain ⟨r4,e4,_⟩:=xCW ks hk;obtain ⟨r5,e5,_⟩:=xCW ((ks.drop 1).take (ks.length - 1)) (by rw [zt];omega)
 obtain ⟨r6,e6,_⟩:=xwu (ks.take 1) 3 (by rw [zt];omega)
 rw [List.map_take,List.map_drop] at e5;rw [List.map_take] at e6;unfold xh7 xpy xdg xdh xiV;simp only [za,e1,e2,e3,e4,e5,e6,zr,zk,zh,xab,sUF];refine Ans.br (fun _=>Ans.some trivial) (fun _=>Ans.br (fun h=>?_) (fun _=>?_))
 . obtain ⟨a,b⟩:=h2 (by simpa using h)
   have c:i.toNat<kn.length:=by omega
   have gf:(kn.map encN).getD i.toNat .top=encN kn[i.toNat]:=xaa _ _ _ c;simp only [a,b,c,gf,cN,sN,zn,zS,xab,sUF];exact Ans.some trivial
 . by_cases h:op=22
   . have:=q h;have c:(1:Int)<=(ks.length:Int):=by omega
     simp only [c,zn,zS,xab,sUF];repeat' (first|exact Ans.some trivial|refine Ans.br (fun _=>?_) (fun _=>?_))
   . have hb:(op==22)=false:=by simpa using h
     simp only [hb,xac,sUF];repeat' (first|exact Ans.some trivial|refine Ans.br (fun _=>?_) (fun _=>?_))
theorem xMt (xs:List AV):(AV.agg xs).cells=xs:=rfl
theorem shE (op i vk vi:Int) (vt nm:List UInt8) (args:List AV):xMx [Sh.int IntKind.i64,Sh.int IntKind.i64,Sh.int IntKind.i64,Sh.int IntKind.i64,Sh.str,Sh.str,Sh.list 7] [AV.int .i64 op,.int .i64 i,.int .i64 vk,.int .i64 vi,.str vt,.str nm,.list 7 args] 0=true:=rfl
theorem cE0 (a b c d e f g:AV):[a,b,c,d,e,f,g].getD 0 .top=a:=rfl
theorem cE1 (a b c d e f g:AV):[a,b,c,d,e,f,g].getD 1 .top=b:=rfl
theorem cE2 (a b c d e f g:AV):[a,b,c,d,e,f,g].getD 2 .top=c:=rfl
theorem cE3 (a b c d e f g:AV):[a,b,c,d,e,f,g].getD 3 .top=d:=rfl
theorem cE4 (a b c d e f g:AV):[a,b,c,d,e,f,g].getD 4 .top=e:=rfl
theorem cE5 (a b c d e f g:AV):[a,b,c,d,e,f,g].getD 5 .top=f:=rfl
theorem cE6 (a b c d e f g:AV):[a,b,c,d,e,f,g].getD 6 .top=g:=rfl
theorem lE (a b c d e f g:AV):([a,b,c,d,e,f,g].length==7)=true:=rfl
theorem toIE (n:Int):(AV.int .i64 n).toInt=n:=rfl
theorem toSE (n:List UInt8):(AV.str n).toStr=n:=rfl
theorem toLE (k:Nat) (n:List AV):(AV.list k n).toList=n:=rfl
theorem xAP:∀ (n:Nat) (op i vk vi:Int) (vt nm:List UInt8) (args:List AV),args.length<=16777216->(∀ x,x∈args->IsEx x)->AV.dps args<n->Ans (fun _=>True) (xdd n op i vk vi vt nm args)
 | 0,op,i,vk,vi,vt,nm,args,hl,h,hd=>absurd hd (Nat.not_lt_zero _)
 | n+1,op,i,vk,vi,vt,nm,args,hl,h,hd=>by
  obtain ⟨r,e,_⟩:=xa1 (step:=xbk (xdd n)) (fun k s=>∃ m:Int,s=(m,(k:Int),op,i,vk,vi,vt,nm,args)) args.length (fun _=>True) (fun k s hk hi=>by
   obtain ⟨m,rfl⟩:=hi;have h1:(k:Int)<(args.length:Int):=by omega
   have hx:=h args[k] (zo hk);have hp:=xAe (zo hk);have gf:args.getD k .top=args[k]:=by rw [z7,ze hk];rfl
   obtain ⟨O,i',Q,q,J,U,ar,ex,l',t',h'⟩:=hx.get;rw [ex] at gf hp;simp only [AV.dp,AV.dps] at hp;obtain ⟨r',e',_⟩:=xAP n O i' Q q J U ar l' h' (by omega)
   simp only [xbk,xgc,xlO,xlP,sBU,h1,hk,gf,xMt,shE,cE0,cE1,cE2,cE3,cE4,cE5,cE6,lE,toIE,toSE,toLE,e',xLZ (n:=k) (by omega)]
   exact Stp.inl ⟨_,rfl⟩) (fun s hi=>by
   obtain ⟨m,rfl⟩:=hi;simp only [xbk,xgc,zy,zm,xac,sUF];exact Stp.inr trivial) args.length 0 ((0:Int),(0:Int),op,i,vk,vi,vt,nm,args) (by omega) ⟨0,rfl⟩
  show Ans _ (xhl (xdd n) op i vk vi vt nm args);unfold xhl xml;simp only [xpw,e,zk,zh,xab,sUF];exact Ans.some trivial
theorem xAL (kn:List Int):∀ (n:Nat) (op i vk vi:Int) (vt nm:List UInt8) (args:List AV),args.length<=16777216->vt.length<=16777216->(∀ x,x∈args->IsEx x)->AV.dps args<n->Ans (fun _=>True) (xdc n op i vk vi vt nm args (kn.map encN))
 | 0,op,i,vk,vi,vt,nm,args,hl,ht,h,hd=>absurd hd (Nat.not_lt_zero _)
 | n+1,op,i,vk,vi,vt,nm,args,hl,ht,h,hd=>by
  obtain ⟨b,fe,fq⟩:=xFQ op i vk vi vt nm args ht;obtain ⟨r,e,hq⟩:=xa1 (step:=xbj (xdc n) (kn.map encN)) (fun k s=>∃ ks:List Int,ks.length=k/\s=(ks.length,(k:Int),op,i,vk,vi,vt,nm,args,ks.map encN)) args.length (fun r=>r.1=false->∃ ks:List Int,ks.length=args.length/\r.2.2=(ks.length,op,i,vk,vi,vt,nm,args,ks.map encN)) (fun k s hk hi=>by
   obtain ⟨ks,q,rfl⟩:=hi;have h1:(k:Int)<(args.length:Int):=by omega
   have hx:=h args[k] (zo hk);have hp:=xAe (zo hk);have gf:args.getD k .top=args[k]:=by rw [z7,ze hk];rfl
   obtain ⟨U,i',V,O,Q,W,ar,ex,l',t',h'⟩:=hx.get;rw [ex] at gf hp;simp only [AV.dp,AV.dps] at hp;have m1:(ks.length+1)*8<=140737488355328:=by omega
   have m2:ks.length+1<=4611686018427387904:=by omega
   obtain ⟨⟨r1,r2⟩,e',_⟩:=xAL kn n U i' V O Q W ar l' t' h' (by omega)
   simp only [xbj,xgb,xlJ,xlK,xlL,sBU,h1,hk,gf,xMt,shE,cE0,cE1,cE2,cE3,cE4,cE5,cE6,lE,toIE,toSE,toLE,e',m1,m2,xLZ (n:=k) (by omega)]
   refine Stp.br (fun _=>Stp.inr (by simp)) (fun _=>Stp.inl ⟨ks++[r1],by simp [q],?_⟩)
   simp [encN]) (fun s hi=>by
   obtain ⟨ks,q,rfl⟩:=hi;simp only [xbj,xgb,zy,zm,xac,sUF];exact Stp.inr fun _=>⟨ks,q,rfl⟩) args.length 0 ((0:Nat),(0:Int),op,i,vk,vi,vt,nm,args,[]) (by omega) ⟨[],rfl,rfl⟩
  obtain ⟨r1,r2,r3⟩:=r;show Ans _ (xfK (xdc n) op i vk vi vt nm args (kn.map encN));unfold xfK xmk xj1;simp only [xpm,xpn,xpo,xpp,xpq,xpr,xps,xpt,xpu,xpv,xn5,xn6,xn7,xn8,xn9,xoa,e,fe,za,zk,zh,xab,sUF];cases b with
  | false=>simp only [Bool.not_false,xab,sUF];repeat' (first|exact Ans.some trivial|refine Ans.br (fun _=>?_) (fun _=>?_))
  | true =>
   have J:∀ r1:Bool,(r1=false->∃ ks:List Int,ks.length=args.length/\r3=(ks.length,op,i,vk,vi,vt,nm,args,ks.map encN))->(op=2->0<=i/\i<(kn.length:Int))->∀ x:Int×Int,Ans (fun _=>True) (br r1 (some x) (br (decide (r3.1<=r3.2.2.2.2.2.2.2.2.length)&&true) (br ((xh7 r3.2.1 r3.2.2.1 r3.2.2.2.1 r3.2.2.2.2.1 r3.2.2.2.2.2.1 r3.2.2.2.2.2.2.1 r3.2.2.2.2.2.2.2.1 (List.take r3.1 (List.drop 0 r3.2.2.2.2.2.2.2.2)) (kn.map encN)).isSome) (br (!((xh7 r3.2.1 r3.2.2.1 r3.2.2.2.1 r3.2.2.2.2.1 r3.2.2.2.2.2.1 r3.2.2.2.2.2.2.1 r3.2.2.2.2.2.2.2.1 (List.take r3.1 (List.drop 0 r3.2.2.2.2.2.2.2.2)) (kn.map encN)).getD ((0:Int),false)).2) (some ((0:Int),(7:Int))) (some (((xh7 r3.2.1 r3.2.2.1 r3.2.2.2.1 r3.2.2.2.2.1 r3.2.2.2.2.2.1 r3.2.2.2.2.2.2.1 r3.2.2.2.2.2.2.2.1 (List.take r3.1 (List.drop 0 r3.2.2.2.2.2.2.2.2)) (kn.map encN)).getD ((0:Int),false)).1,(0:Int)))) none) none)):=fun r1 hr h2 x=>by
    cases r1 with
    | true=>exact Ans.some trivial
    | false =>
     obtain ⟨ks,q,rfl⟩:=hr rfl;obtain ⟨y,ye,_⟩:=xGg op i vk vi vt nm args ks kn (by omega) h2 (fun ho=>by rw [q];exact fq rfl ho)
     have tt:List.take ks.length (ks.map encN)=ks.map encN:=zi (by simp)
     simp only [xac,za,zd,zn,zS,xab,zr,tt,ye,zk,zh,sUF];repeat' (first|exact Ans.some trivial|refine Ans.br (fun _=>?_) (fun _=>?_))
   simp only [Bool.not_true,xac,zH,sUF];refine Ans.br (fun _=>Ans.some trivial) (fun _=>Ans.br (fun ho=>?_) (fun ho=>?_))
   . refine Ans.br (fun _=>Ans.some trivial) (fun a1=>Ans.br (fun _=>Ans.some trivial) (fun a2=>?_))
     simp only [decide_eq_false_iff_not] at a1 a2;exact J r1 hq (fun _=>⟨by omega,by omega⟩) _
   . exact J r1 hq (fun h=>by simp [h] at ho) _
theorem xFI (kn:List Int) (op i vk vi:Int) (vt nm:List UInt8) (args:List AV) (hl:args.length<=16777216) (ht:vt.length<=16777216) (h:∀ x,x∈args->IsEx x):Ans (fun _=>True) (xtM op i vk vi vt nm args (kn.map encN)):=by
 obtain ⟨d,de,_⟩:=xAP (AV.dps args+1) op i vk vi vt nm args hl h (Nat.lt_succ_self _);obtain ⟨c,ce,_⟩:=xAL kn (AV.dps args+1) op i vk vi vt nm args hl ht h (Nat.lt_succ_self _);have h1:(xjk op i vk vi vt nm args).isSome=true:=xwZ (R:=fun n=>xdd n op i vk vi vt nm args) (by rw [de];rfl)
 have h2:(xgB op i vk vi vt nm args (kn.map encN)).isSome=true:=xwZ (R:=fun n=>xdc n op i vk vi vt nm args (kn.map encN)) (by rw [ce];rfl)
 unfold xtM xqV;rw [h1,h2];simp only [xab,sUF];repeat' (first|exact Ans.some trivial|refine Ans.br (fun _=>?_) (fun _=>?_))
def xMu:AV->Bool
 | .str _=>true
 | _=>false
theorem xFS {x:AV} (h:xMu x=true):∃ s,x=.str s:=by
 cases x<;>first|exact ⟨_,rfl⟩|(simp [xMu] at h)
theorem xMR (s:List UInt8):xMT .str ((AV.str s).cells.getD 0 .top)=true:=rfl
theorem cStr (s:List UInt8):((AV.str s).cells.getD 0 .top).toStr=s:=rfl
theorem xLe (l:List AV) (s:List UInt8) (hl:l.length<=16777216) (h:l.all xMu=true):Ans (fun _=>True) (xyQ l s):=by
 obtain ⟨r,e,_⟩:=xa1 (step:=xdi l s) (fun k i=>i=(k:Int)) l.length (fun _=>True) (fun k i hk hi=>by
  subst hi;have h1:(k:Int)<(l.length:Int):=by omega
  obtain ⟨x,hx⟩:=xFS (zI.1 h l[k] (zo hk));have gf:l.getD k .top=.str x:=by rw [z7,ze hk,<-hx];rfl
  simp only [xdi,xmm,sBU,h1,hk,gf,xMR,cStr,xLZ (n:=k) (by omega)]
  repeat' (first|exact Stp.inl rfl|exact Stp.inr trivial|refine Stp.br (fun _=>?_) (fun _=>?_))) (fun i hi=>by
  subst hi;simp only [xdi,xmm,zy,zm,xac,sUF];exact Stp.inr trivial) l.length 0 (0:Int) (by omega) rfl
 unfold xyQ xuY;simp only [e,zk,zh,xab,sUF];repeat' (first|exact Ans.some trivial|refine Ans.br (fun _=>?_) (fun _=>?_))
theorem xyD (s:List UInt8) (hs:s.length<=16777216):Ans (fun _=>True) (xgV s):=by
 obtain ⟨r,e,_⟩:=xa1 (step:=xcn s) (fun k i=>i=(k:Int)) s.length (fun _=>True) (fun k i hk hi=>by
  subst hi;have h1:(k:Int)<(s.length:Int):=by omega
  simp only [xcn,xj3,xhD,xhE,sBU,h1,hk,xLZ (n:=k) (by omega)]
  repeat' (first|exact Stp.inl rfl|exact Stp.inr trivial|refine Stp.br (fun _=>?_) (fun _=>?_))) (fun i hi=>by
  subst hi;simp only [xcn,xj3,xhD,xhE,zy,zm,xac,sUF];exact Stp.inr trivial) s.length 0 (0:Int) (by omega) rfl
 obtain ⟨r2,e2,_⟩:Ans (fun _=>True) (xq2 s):=xLe _ s (by decide) (by rfl)
 unfold xgV xsE xpD;simp only [e,e2,zk,zh,xab,sUF];cases s with
 | nil=>exact Ans.some trivial
 | cons c t =>
  have h0:(0:Int)<(((c::t).length:Nat):Int):=by rw [zF];omega
  simp only [h0,zn,xab,sUF];repeat' (first|exact Ans.some trivial|refine Ans.br (fun _=>?_) (fun _=>?_))
theorem xuL (t:Tab) (hc:t.cols.length<=16777216):xeA t.n (t.cols.map xLW) (t.key.map encN) (t.fos.map xLX) t.chk=some ((t.cols.map (·.k)).map encN):=by
 have e:=xqi (step:=xc4) t.cols (fun c=>[c.k]) (fun n D=>(D.length,(n:Int),t.n,t.cols.map xLW,t.key.map encN,t.fos.map xLX,t.chk,D.map encN)) (fun D=>(D.length,D.map encN)) [] 1 (fun _ _=>by simp) (fun n h D hD=>by
  have h1:(n:Int)<(t.cols.length:Int):=by omega
  rw [List.length_nil] at hD;have m1:(D.length+1)*8<=140737488355328:=by omega
  have m2:D.length+1<=4611686018427387904:=by omega
  have gf:(t.cols.map xLW).getD n .top=xLW t.cols[n]:=xaa _ _ _ h;simp only [xc4,xiW,sBU,h,h1,gf,cK1,shI,AV.toInt,m1,m2,xLZ (n:=n) (by omega)]
  simp [encN]) (fun D=>by
  simp only [xc4,xiW,za,zy,zm,xac,sUF])
 rw [zU,xMm] at e;have e:Iter xc4 ((0:Nat),(0:Int),t.n,t.cols.map xLW,t.key.map encN,t.fos.map xLX,t.chk,[])=some ((t.cols.map (·.k)).length,(t.cols.map (·.k)).map encN):=e;have tt:List.take (t.cols.map (·.k)).length ((t.cols.map (·.k)).map encN)=(t.cols.map (·.k)).map encN:=zi (by simp)
 unfold xeA xq1;simp only [xpz,xpA,xpB,xpC,e,zk,zh,xab,zH,zr,sUF];rw [tt];simp [xab,sUF]
theorem xIH (t:Tab) (s:List UInt8) (hc:t.cols.length<=16777216):Ans (fun _=>True) (xrT t.n (t.cols.map xLW) (t.key.map encN) (t.fos.map xLX) t.chk s):=by
 obtain ⟨r,e,_⟩:=xa1 (step:=xdw s) (fun k x=>x=((k:Int),t.n,t.cols.map xLW,t.key.map encN,t.fos.map xLX,t.chk)) t.cols.length (fun _=>True) (fun k i hk hi=>by
  subst hi;have h1:(k:Int)<(t.cols.length:Int):=by omega
  have gf:(t.cols.map xLW).getD k .top=xLW t.cols[k]:=xaa _ _ _ hk;simp only [xdw,xj2,sBU,h1,hk,gf,cK0,shS,AV.toStr,xLZ (n:=k) (by omega)]
  repeat' (first|exact Stp.inl rfl|exact Stp.inr trivial|refine Stp.br (fun _=>?_) (fun _=>?_))) (fun i hi=>by
  subst hi;simp only [xdw,xj2,za,zy,zm,xac,sUF];exact Stp.inr trivial) t.cols.length 0 _ (by omega) rfl
 have e:Iter (xdw s) ((0:Int),t.n,t.cols.map xLW,t.key.map encN,t.fos.map xLX,t.chk)=some r:=e;unfold xrT xsC;simp only [xqx,xq0,e,zk,zh,xab,sUF];repeat' (first|exact Ans.some trivial|refine Ans.br (fun _=>?_) (fun _=>?_))
structure Tab.Ok (t:Tab):Prop where
 n:t.n.length<=16777216
 cols:t.cols.length<=16777216
 key:t.key.length<=1048576
 fos:t.fos.length<=16777216
 chk:t.chk.length<=16777216
 cn:∀ c,c∈t.cols->c.n.length<=16777216
 fc:∀ f,f∈t.fos->f.cols.length<=1048576/\f.t.length<=16777216
 ex:∀ x,x∈t.chk->IsEx x
theorem xDY (t:Tab) (h:t.Ok):Ans (fun _=>True) (xgC t.n (t.cols.map xLW) (t.key.map encN) (t.fos.map xLX) t.chk):=by
 have q:=h.cols;obtain ⟨r,e,_⟩:=xa1 (step:=xb6) (fun k x=>x=((k:Int),t.n,t.cols.map xLW,t.key.map encN,t.fos.map xLX,t.chk)) t.cols.length (fun _=>True) (fun k i hk hi=>by
  subst hi;have h1:(k:Int)<(t.cols.length:Int):=by omega
  have gf:(t.cols.map xLW).getD k .top=xLW t.cols[k]:=xaa _ _ _ hk;obtain ⟨a,ae,_⟩:=xyD t.cols[k].n (h.cn _ (zo hk));obtain ⟨b,be,_⟩:=xIH t t.cols[k].n h.cols;simp only [xb6,xgW,sBU,h1,hk,gf,cK0,cK1,lK,sK,AV.toStr,AV.toInt,ae,be,xLZ (n:=k) (by omega)]
  repeat' (first|exact Stp.inl rfl|exact Stp.inr trivial|refine Stp.br (fun _=>?_) (fun _=>?_))) (fun i hi=>by
  subst hi;simp only [xb6,xgW,za,zy,zm,xac,sUF];exact Stp.inr trivial) t.cols.length 0 _ (by omega) rfl
 have e:Iter xb6 ((0:Int),t.n,t.cols.map xLW,t.key.map encN,t.fos.map xLX,t.chk)=some r:=e;unfold xgC xob;simp only [xmM,xmN,e,zk,zh,xab,sUF];repeat' (first|exact Ans.some trivial|refine Ans.br (fun _=>?_) (fun _=>?_))
def InC (t:Tab) (x:Int):Prop:=0<=x/\x<(t.cols.length:Int)
theorem xqg (t:Tab) (x:Int):xkG t.n (t.cols.map xLW) (t.key.map encN) (t.fos.map xLX) t.chk x=(decide (0<=x)&&decide (x<(t.cols.length:Int))):=by
 unfold xkG;rw [za];by_cases h:0<=x
 . have:x>=0:=h;simp [br,h,this]
 . have:¬ x>=0:=h;simp [br,h,this]
theorem xAS {t:Tab} {x:Int} (h:(decide (0<=x)&&decide (x<(t.cols.length:Int)))=true):InC t x:=by
 simp only [zf,zl] at h;exact h
theorem xJR (t:Tab) (h:t.Ok):Ans (fun c=>c=0->∀ x,x∈t.key->InC t x) (xqt t.n (t.cols.map xLW) (t.key.map encN) (t.fos.map xLX) t.chk):=by
 have Q:=h.key;obtain ⟨r,e,hr⟩:=xa1 (step:=xbS) (fun k x=>x=((k:Int),t.n,t.cols.map xLW,t.key.map encN,t.fos.map xLX,t.chk)/\∀ j (hj:j<t.key.length),j<k->InC t t.key[j]) t.key.length (fun r=>(r.1=true->r.2.1≠0)/\(r.1=false->∀ x,x∈t.key->InC t x)) (fun k i hk hi=>by
  obtain ⟨rfl,hp⟩:=hi;have h1:(k:Int)<(t.key.length:Int):=by omega
  have gf:(t.key.map encN).getD k .top=encN t.key[k]:=xaa _ _ _ hk;cases hx:(decide (0<=t.key[k])&&decide (t.key[k]<(t.cols.length:Int))) with
  | false =>
   simp only [xbS,xfW,xet,xeX,xeY,xbu,sBU,h1,hk,gf,cN,sN,xqg,hx];exact Stp.inr ⟨fun _=>by simp,fun h=>by simp at h⟩
  | true =>
   have q:=xAS hx;have c:t.key[k].toNat<t.cols.length:=by have:=q.1;have:=q.2;omega
   have gc:(t.cols.map xLW).getD t.key[k].toNat .top=xLW t.cols[t.key[k].toNat]:=xaa _ _ _ c;have hp':∀ j (hj:j<t.key.length),j<k+1->InC t t.key[j]:=fun j hj O=>by
    rcases zJ j k with J|U
    . exact hp j hj J
    . obtain rfl:j=k:=by omega
      exact q
   cases k with
   | zero =>
    have i0:¬ ((0:Nat):Int)>0:=by omega
    simp only [xbS,xfW,xet,xeX,xeY,xbu,sBU,h1,hk,gf,cN,sN,xqg,hx,i0,q.1,q.2,c,gc,cK2,shB,AV.toBool,xLZ (n:=0) (by omega)]
    exact Stp.br (fun _=>Stp.inr ⟨fun _=>by simp,fun h=>by simp at h⟩) (fun _=>Stp.inl ⟨rfl,hp'⟩)
   | succ m =>
    have i0:((m+1:Nat):Int)>0:=by omega
    have w:IntKind.i64.wrap (((m+1:Nat):Int) - 1)=(m:Int):=by rw [xbs (by omega) (by omega)];omega
    have h3:(m:Int)<(t.key.length:Int):=by omega
    have h4:m<t.key.length:=by omega
    have gm:(t.key.map encN).getD m .top=encN t.key[m]:=xaa _ _ _ h4;simp only [xbS,xfW,xet,xeX,xeY,xbu,sBU,h1,hk,gf,cN,sN,xqg,hx,i0,w,h3,h4,gm,q.1,q.2,c,gc,cK2,shB,AV.toBool,xLZ (n:=m+1) (by omega)]
    exact Stp.br (fun _=>Stp.inr ⟨fun _=>by simp,fun h=>by simp at h⟩) (fun _=>Stp.br (fun _=>Stp.inr ⟨fun _=>by simp,fun h=>by simp at h⟩) (fun _=>Stp.inl ⟨rfl,hp'⟩))) (fun i hi=>by
  obtain ⟨rfl,hp⟩:=hi;simp only [xbS,xfW,xet,za,zy,zm,xac,sUF];refine Stp.inr ⟨fun h=>by simp at h,fun _ x hx=>?_⟩
  obtain ⟨j,hj,rfl⟩:=List.getElem_of_mem hx;exact hp j hj hj) t.key.length 0 _ (by omega) ⟨rfl,fun j _ h=>absurd h (Nat.not_lt_zero _)⟩
 have e:Iter xbS ((0:Int),t.n,t.cols.map xLW,t.key.map encN,t.fos.map xLX,t.chk)=some r:=e;unfold xqt xtQ;simp only [xsF,xsG,e,zk,zh,xab,sUF];exact Ans.br (fun _=>Ans.some fun h=>by simp at h) (fun _=>Ans.br (fun h1=>Ans.some fun h=>absurd h (hr.1 h1)) (fun h1=>Ans.some fun _=>hr.2 h1))
theorem xD3 (t:Tab) (h:t.Ok) (f:Fo) (hf:f.cols.length<=1048576/\f.t.length<=16777216):Ans (fun c=>c=0->∀ x,x∈f.cols->InC t x) (xjl t.n (t.cols.map xLW) (t.key.map encN) (t.fos.map xLX) t.chk (f.cols.map encN) f.t):=by
 have U:=hf.1;obtain ⟨a,ae,_⟩:=xyD f.t hf.2;obtain ⟨r,e,hr⟩:=xa1 (step:=xbq) (fun k x=>x=((k:Int),t.n,t.cols.map xLW,t.key.map encN,t.fos.map xLX,t.chk,f.cols.map encN,f.t)/\∀ j (hj:j<f.cols.length),j<k->InC t f.cols[j]) f.cols.length (fun r=>(r.1=true->r.2.1≠0)/\(r.1=false->∀ x,x∈f.cols->InC t x)) (fun k i hk hi=>by
  obtain ⟨rfl,hp⟩:=hi;have h1:(k:Int)<(f.cols.length:Int):=by omega
  have gf:(f.cols.map encN).getD k .top=encN f.cols[k]:=xaa _ _ _ hk;cases hx:(decide (0<=f.cols[k])&&decide (f.cols[k]<(t.cols.length:Int))) with
  | false =>
   simp only [xbq,xeJ,sBU,h1,hk,gf,cN,sN,xqg,hx];exact Stp.inr ⟨fun _=>by simp,fun h=>by simp at h⟩
  | true =>
   have O:=xAS hx;have hp':∀ j (hj:j<f.cols.length),j<k+1->InC t f.cols[j]:=fun j hj Q=>by
    rcases zJ j k with J|V
    . exact hp j hj J
    . obtain rfl:j=k:=by omega
      exact O
   obtain ⟨⟨b,q1,q2⟩,e1,q⟩:=xa1 (step:=xb7 (k:Int)) (fun m x=>x=((m:Int),t.n,t.cols.map xLW,t.key.map encN,t.fos.map xLX,t.chk,f.cols.map encN,f.t)) k (fun r=>(r.1=true->r.2.1.1≠0)/\(r.1=false->r.2.2=(t.n,t.cols.map xLW,t.key.map encN,t.fos.map xLX,t.chk,f.cols.map encN,f.t))) (fun m i hm hi=>by
    subst hi;have m1:(m:Int)<(k:Int):=by omega
    have m2:(m:Int)<(f.cols.length:Int):=by omega
    have m3:m<f.cols.length:=by omega
    have gm:(f.cols.map encN).getD m .top=encN f.cols[m]:=xaa _ _ _ m3;simp only [xb7,xgX,sBU,m1,m2,m3,h1,hk,gf,gm,cN,sN,xLZ (n:=m) (by omega)]
    exact Stp.br (fun _=>Stp.inr ⟨fun _=>by simp,fun h=>by simp at h⟩) (fun _=>Stp.inl rfl)) (fun i hi=>by
    subst hi;simp only [xb7,xgX,zy,zm,xac,sUF];exact Stp.inr ⟨fun h=>by simp at h,fun _=>rfl⟩) k 0 _ (by omega) rfl
   have e1:Iter (xb7 (k:Int)) ((0:Int),t.n,t.cols.map xLW,t.key.map encN,t.fos.map xLX,t.chk,f.cols.map encN,f.t)=_:=e1;simp only [xbq,xeJ,xjM,xjN,xjO,xjP,xjQ,xjR,xjS,xjT,xjU,sBU,h1,hk,gf,cN,sN,xqg,hx,e1,xLZ (n:=k) (by omega)]
   refine Stp.br (fun hb=>Stp.inr ⟨fun _=>q.1 hb,fun h=>by simp at h⟩) (fun hb=>?_)
   have:=q.2 hb;dsimp only at this;subst this;exact Stp.inl ⟨rfl,hp'⟩) (fun i hi=>by
  obtain ⟨rfl,hp⟩:=hi;simp only [xbq,xeJ,za,zy,zm,xac,sUF];refine Stp.inr ⟨fun h=>by simp at h,fun _ x hx=>?_⟩
  obtain ⟨j,hj,rfl⟩:=List.getElem_of_mem hx;exact hp j hj hj) f.cols.length 0 _ (by omega) ⟨rfl,fun j _ h=>absurd h (Nat.not_lt_zero _)⟩
 have e:Iter xbq ((0:Int),t.n,t.cols.map xLW,t.key.map encN,t.fos.map xLX,t.chk,f.cols.map encN,f.t)=some r:=e;unfold xjl xoc;simp only [xmO,xmP,ae,e,zk,zh,xab,sUF];exact Ans.br (fun _=>Ans.some fun h=>by simp at h) (fun _=>Ans.br (fun _=>Ans.some fun h=>by simp at h) (fun _=>Ans.br (fun h1=>Ans.some fun h=>absurd h (hr.1 h1)) (fun h1=>Ans.some fun _=>hr.2 h1)))
theorem xy9 (t:Tab) (h:t.Ok):Ans (fun c=>c=0->∀ f,f∈t.fos->∀ x,x∈f.cols->InC t x) (xd0 t.n (t.cols.map xLW) (t.key.map encN) (t.fos.map xLX) t.chk):=by
 have ab:=h.fos;have ad:=h.chk;obtain ⟨⟨b,q1,q2⟩,e,hr⟩:=xa1 (step:=xbe) (fun k x=>x=((k:Int),t.n,t.cols.map xLW,t.key.map encN,t.fos.map xLX,t.chk)/\∀ j (hj:j<t.fos.length),j<k->∀ x,x∈t.fos[j].cols->InC t x) t.fos.length (fun r=>(r.1=true->r.2.1.1≠0)/\(r.1=false->r.2.2=(t.n,t.cols.map xLW,t.key.map encN,t.fos.map xLX,t.chk)/\∀ f,f∈t.fos->∀ x,x∈f.cols->InC t x)) (fun k i hk hi=>by
  obtain ⟨rfl,hp⟩:=hi;have h1:(k:Int)<(t.fos.length:Int):=by omega
  have gf:(t.fos.map xLX).getD k .top=xLX t.fos[k]:=xaa _ _ _ hk;obtain ⟨c,ce,hc⟩:=xD3 t h t.fos[k] (h.fc _ (zo hk));simp only [xbe,xeB,sBU,h1,hk,gf,cFo0,cFo1,lFo,sFo,AV.toList,AV.toStr,ce,xLZ (n:=k) (by omega)]
  refine Stp.br (fun hb=>Stp.inr ⟨fun _=>by simpa using hb,fun h=>by simp at h⟩) (fun hb=>Stp.inl ⟨rfl,fun j hj aa=>?_⟩)
  rcases zJ j k with Q|ac
  . exact hp j hj Q
  . obtain rfl:j=k:=by omega
    exact hc (by simpa using hb)) (fun i hi=>by
  obtain ⟨rfl,hp⟩:=hi;simp only [xbe,xeB,za,zy,zm,xac,sUF];refine Stp.inr ⟨fun h=>by simp at h,fun _=>⟨rfl,fun f hf=>?_⟩⟩
  obtain ⟨j,hj,rfl⟩:=List.getElem_of_mem hf;exact hp j hj hj) t.fos.length 0 _ (by omega) ⟨rfl,fun j _ h=>absurd h (Nat.not_lt_zero _)⟩
 have e:Iter xbe ((0:Int),t.n,t.cols.map xLW,t.key.map encN,t.fos.map xLX,t.chk)=_:=e;have Z:=xuL t h.cols;obtain ⟨r1,e1,O⟩:=xa1 (step:=xbf) (fun k x=>x=((k:Int),t.n,t.cols.map xLW,t.key.map encN,t.fos.map xLX,t.chk)) t.chk.length (fun r=>r.1=true->r.2.1≠0) (fun k i hk hi=>by
  subst hi;have h1:(k:Int)<(t.chk.length:Int):=by omega
  have gf:t.chk.getD k .top=t.chk[k]:=by rw [z7,ze hk];rfl
  obtain ⟨V,i',W,J,U,Y,ar,ex,l',t',h'⟩:=(h.ex _ (zo hk)).get;rw [ex] at gf;obtain ⟨⟨c1,c2⟩,ce,_⟩:=xFI (t.cols.map (·.k)) V i' W J U Y ar l' t' h';simp only [xbf,xeC,xgt,xgu,xgv,xgw,sBU,h1,hk,gf,xMt,shE,cE0,cE1,cE2,cE3,cE4,cE5,cE6,lE,toIE,toSE,toLE,Z,ce,xLZ (n:=k) (by omega)]
  exact Stp.br (fun hb=>Stp.inr fun _=>by simpa using hb) (fun _=>Stp.br (fun _=>Stp.br (fun _=>Stp.inr fun _=>by simp) (fun _=>Stp.inl rfl)) (fun _=>Stp.inl rfl))) (fun i hi=>by
  subst hi;simp only [xbf,xeC,zy,zm,xac,sUF];exact Stp.inr fun h=>by simp at h) t.chk.length 0 _ (by omega) rfl
 have e1:Iter xbf ((0:Int),t.n,t.cols.map xLW,t.key.map encN,t.fos.map xLX,t.chk)=_:=e1;unfold xd0 xjL;simp only [xiX,xiY,xiZ,xix,xi0,xi1,xi2,xi3,xi4,xi5,e,zk,zh,xab,sUF];refine Ans.br (fun _=>Ans.some fun h=>by simp at h) (fun _=>Ans.br (fun h1=>Ans.some fun h=>absurd h (hr.1 h1)) (fun h1=>?_))
 obtain ⟨q,hq⟩:=hr.2 h1;dsimp only at q;subst q;simp only [e1,zk,zh,xab,sUF];exact Ans.br (fun _=>Ans.some fun h=>by simp at h) (fun _=>Ans.br (fun h1=>Ans.some fun h=>absurd h (O h1)) (fun _=>Ans.some fun _=>hq))
theorem xvc (t:Tab) (h:t.Ok):Ans (fun c=>c=0->(∀ x,x∈t.key->InC t x)/\∀ f,f∈t.fos->∀ x,x∈f.cols->InC t x) (xfL t.n (t.cols.map xLW) (t.key.map encN) (t.fos.map xLX) t.chk):=by
 obtain ⟨a,ae,_⟩:=xyD t.n h.n;obtain ⟨b,be,_⟩:=xDY t h;obtain ⟨c,ce,hc⟩:=xJR t h;obtain ⟨d,de,hd⟩:=xy9 t h;unfold xfL xqZ;simp only [ae,be,ce,de,zk,zh,xab,sUF];cases a with
 | false=>exact Ans.some fun h=>by simp at h
 | true =>
  simp only [Bool.not_true,xac,sUF];refine Ans.br (fun _=>Ans.br (fun h2=>Ans.some fun h=>⟨hc (by simpa using h2),hd h⟩) (fun h2=>Ans.some fun h=>by simp [h] at h2)) (fun h1=>?_)
  simp only [h1,xac,sUF];exact Ans.some fun h=>by simp [h] at h1
theorem xEj (row:Row) (kn:List Int) (hr:row.length<=1048576) (ht:Txt row):Ans (fun _=>True) (xrS (row.map encV) (kn.map encN)):=by
 unfold xrS xso;by_cases hl:row.length=kn.length
 . obtain ⟨r,e,_⟩:=xa1 (step:=xcg (row.map encV) (kn.map encN)) (fun k i=>i=(k:Int)) row.length (fun _=>True) (fun k i hk hi=>by
    subst hi;have h1:(k:Int)<(row.length:Int):=by omega
    have h2:(k:Int)<(kn.length:Int):=by omega
    have h3:k<kn.length:=by omega
    have gf:(row.map encV).getD k .top=encV row[k]:=xaa _ _ _ hk;have gn:(kn.map encN).getD k .top=encN kn[k]:=xaa _ _ _ h3;have hv:=(ht _ (zo hk)).2;obtain ⟨v,ve,_⟩:=xz1 row[k].k row[k].i row[k].t (by omega)
    have q:xMT (Sh.int .i64) ((encV row[k]).cells.getD 0 .top)=true:=rfl;simp only [xcg,xjZ,xiQ,xmK,sBU,h1,h2,h3,hk,gf,gn,cV0,cV1,cV2,lV,sV,q,cN,sN,ve,xLZ (n:=k) (by omega)]
    repeat' (first|exact Stp.inl rfl|exact Stp.inr trivial|refine Stp.br (fun _=>?_) (fun _=>?_))) (fun i hi=>by
    subst hi;simp only [xcg,xjZ,za,zy,zm,xac,sUF];exact Stp.inr trivial) row.length 0 (0:Int) (by omega) rfl
   simp only [e,zk,zh,xab,sUF];repeat' (first|exact Ans.some trivial|refine Ans.br (fun _=>?_) (fun _=>?_))
 . have hb:(((row.length:Nat):Int) != ((kn.length:Nat):Int))=true:=by
    rw [bne_iff_ne];omega
   simp only [za,hb,xab,sUF];exact Ans.some trivial
theorem xGi (kn:List Int) (hk:kn.length<=16777216):Ans (fun _=>True) (xtR (kn.map encN)):=by
 obtain ⟨r,e,_⟩:=xa1 (step:=xbX (kn.map encN)) (fun k i=>i=(k:Int)) kn.length (fun _=>True) (fun k i q hi=>by
  subst hi;have h1:(k:Int)<(kn.length:Int):=by omega
  have gf:(kn.map encN).getD k .top=encN kn[k]:=xaa _ _ _ q;simp only [xbX,xi6,sBU,h1,q,gf,cN,sN,xLZ (n:=k) (by omega)]
  repeat' (first|exact Stp.inl rfl|exact Stp.inr trivial|refine Stp.br (fun _=>?_) (fun _=>?_))) (fun i hi=>by
  subst hi;simp only [xbX,xi6,za,zy,zm,xac,sUF];exact Stp.inr trivial) kn.length 0 (0:Int) (by omega) rfl
 unfold xtR xq3;simp only [e,zk,zh,xab,sUF];repeat' (first|exact Ans.some trivial|refine Ans.br (fun _=>?_) (fun _=>?_))
structure FOk (l:List Fc):Prop where
 len:l.length<=1048576
 row:∀ f,f∈l->f.r.length<=1048576
 txt:∀ f,f∈l->Txt f.r
theorem xIb (kn:List Int) (hk:kn.length<=16777216) (l:List Fc) (h:FOk l):Ans (fun _=>True) (xqc (kn.map encN) (l.map encF)):=by
 have hl:=h.len;obtain ⟨⟨b,q1,q2⟩,e,hr⟩:=xa1 (step:=xbY) (fun k x=>x=((k:Int),kn.map encN,l.map encF)) l.length (fun r=>r.1=false->r.2.2=(kn.map encN,l.map encF)) (fun k i q hi=>by
  subst hi;have h1:(k:Int)<(l.length:Int):=by omega
  have gf:(l.map encF).getD k .top=encF l[k]:=xaa _ _ _ q;obtain ⟨v,ve,_⟩:=xEj l[k].r kn (h.row _ (zo q)) (h.txt _ (zo q));simp only [xbY,xi7,sBU,h1,q,gf,cF0,cF1,cF2,sF0,sF1,sF2,lF,sF12,sF02,ve,xLZ (n:=k) (by omega)]
  exact Stp.br (fun _=>Stp.inr (by simp)) (fun _=>Stp.br (fun _=>Stp.inr (by simp)) (fun _=>Stp.inl rfl))) (fun i hi=>by
  subst hi;simp only [xbY,xi7,za,zy,zm,xac,sUF];exact Stp.inr fun _=>rfl) l.length 0 _ (by omega) rfl
 have e:Iter xbY ((0:Int),kn.map encN,l.map encF)=_:=e;obtain ⟨c,ce,_⟩:=xGi kn hk;unfold xqc xq8;simp only [xpH,xpI,xpJ,xpK,xpL,e,zk,zh,xab,sUF];refine Ans.br (fun _=>Ans.some trivial) (fun hb=>?_)
 have:=hr hb;dsimp only at this;subst this;simp only [ce,zk,zh,xab,sUF];repeat' (first|exact Ans.some trivial|refine Ans.br (fun _=>?_) (fun _=>?_))
theorem xwQ (t:Tab) (ht:t.Ok) (l:List Fc) (h:FOk l):Ans (fun b=>b=true->(∀ x,x∈t.key->InC t x)/\∀ f,f∈t.fos->∀ x,x∈f.cols->InC t x) (xgD t.n (t.cols.map xLW) (t.key.map encN) (t.fos.map xLX) t.chk (l.map encF)):=by
 obtain ⟨a,ae,ha⟩:=xvc t ht;have hk:=xuL t ht.cols;obtain ⟨b,be,_⟩:=xIb (t.cols.map (·.k)) (by rw [za];exact ht.cols) l h
 unfold xgD xoC;simp only [ae,hk,be,zk,zh,xab,sUF];exact Ans.br (fun h=>Ans.some fun _=>ha (by simpa using h)) (fun _=>Ans.some fun h=>by simp at h)
theorem xJc (f g:Fo) (hf:f.cols.length<=1048576):Ans (fun _=>True) (xrW (f.cols.map encN) f.t (g.cols.map encN) g.t):=by
 unfold xrW xsP;by_cases hl:f.cols.length=g.cols.length
 . obtain ⟨r,e,_⟩:=xa1 (step:=xdF) (fun k x=>x=((k:Int),f.cols.map encN,f.t,g.cols.map encN,g.t)) f.cols.length (fun _=>True) (fun k i hk hi=>by
    subst hi;have h1:(k:Int)<(f.cols.length:Int):=by omega
    have h2:(k:Int)<(g.cols.length:Int):=by omega
    have h3:k<g.cols.length:=by omega
    have gf:(f.cols.map encN).getD k .top=encN f.cols[k]:=xaa _ _ _ hk;have gg:(g.cols.map encN).getD k .top=encN g.cols[k]:=xaa _ _ _ h3;simp only [xdF,xj8,sBU,h1,h2,h3,hk,gf,gg,cN,sN,xLZ (n:=k) (by omega)]
    repeat' (first|exact Stp.inl rfl|exact Stp.inr trivial|refine Stp.br (fun _=>?_) (fun _=>?_))) (fun i hi=>by
    subst hi;simp only [xdF,xj8,za,zy,zm,xac,sUF];exact Stp.inr trivial) f.cols.length 0 _ (by omega) rfl
   have e:Iter xdF ((0:Int),f.cols.map encN,f.t,g.cols.map encN,g.t)=_:=e;simp only [xrk,xrl,e,zk,zh,xab,sUF];repeat' (first|exact Ans.some trivial|refine Ans.br (fun _=>?_) (fun _=>?_))
 . have hb:(((f.cols.length:Nat):Int) != ((g.cols.length:Nat):Int))=true:=by
    rw [bne_iff_ne];omega
   simp only [za,hb,xab,sUF];repeat' (first|exact Ans.some trivial|refine Ans.br (fun _=>?_) (fun _=>?_))
theorem xH1 (t p:Tab) (ht:t.Ok) (hp:p.Ok) (f:Fo) (hf:f∈t.fos):Ans (fun _=>True) (xrV t.n (t.cols.map xLW) (t.key.map encN) (t.fos.map xLX) t.chk (f.cols.map encN) f.t p.n (p.cols.map xLW) (p.key.map encN) (p.fos.map xLX) p.chk):=by
 obtain ⟨a,ae,ha⟩:=xvc t ht;obtain ⟨b,be,hb⟩:=xvc p hp;have O:=ht.fos;have Q:=(ht.fc f hf).1;obtain ⟨r,e,hr⟩:=xa1 (step:=xdD) (fun k x=>∃ w:Bool,x=(w,(k:Int),t.n,t.cols.map xLW,t.key.map encN,t.fos.map xLX,t.chk,f.cols.map encN,f.t,p.n,p.cols.map xLW,p.key.map encN,p.fos.map xLX,p.chk)) t.fos.length (fun r=>r.2=(t.n,t.cols.map xLW,t.key.map encN,t.fos.map xLX,t.chk,f.cols.map encN,f.t,p.n,p.cols.map xLW,p.key.map encN,p.fos.map xLX,p.chk)) (fun k i hk hi=>by
  obtain ⟨w,rfl⟩:=hi;have h1:(k:Int)<(t.fos.length:Int):=by omega
  have gf:(t.fos.map xLX).getD k .top=xLX t.fos[k]:=xaa _ _ _ hk;obtain ⟨s,se,_⟩:=xJc t.fos[k] f (ht.fc _ (zo hk)).1;simp only [xdD,xj6,sBU,h1,hk,gf,cFo0,cFo1,lFo,sFo,AV.toList,AV.toStr,se,xLZ (n:=k) (by omega)]
  exact Stp.br (fun _=>Stp.inl ⟨_,rfl⟩) (fun _=>Stp.inl ⟨_,rfl⟩)) (fun i hi=>by
  obtain ⟨w,rfl⟩:=hi;simp only [xdD,xj6,za,zy,zm,xac,sUF];exact Stp.inr rfl) t.fos.length 0 (false,(0:Int),_) (by omega) ⟨false,rfl⟩
 obtain ⟨w,q⟩:=r;dsimp only at hr;subst hr;have kt:=xuL t ht.cols;have kp:=xuL p hp.cols;unfold xrV xsN;simp only [ae,be,zk,zh,xab,sUF];refine Ans.br (fun _=>Ans.some trivial) (fun h1=>Ans.br (fun _=>Ans.some trivial) (fun h2=>Ans.br (fun _=>Ans.some trivial) (fun h3=>?_)))
 have ha:=ha (by simpa using h1)
 have hb:=hb (by simpa using h2)
 have J:f.cols.length=p.key.length:=by
  simp only [za,bne_eq_false_iff_eq] at h3;omega
 obtain ⟨r1,e1,_⟩:=xa1 (step:=xdE ((t.cols.map (·.k)).map encN) ((p.cols.map (·.k)).map encN)) (fun k x=>x=((k:Int),f.cols.map encN,f.t,p.n,p.cols.map xLW,p.key.map encN,p.fos.map xLX,p.chk)) f.cols.length (fun _=>True) (fun k i hk hi=>by
  subst hi;have c1:(k:Int)<(f.cols.length:Int):=by omega
  have c2:(k:Int)<(p.key.length:Int):=by omega
  have c3:k<p.key.length:=by omega
  have gf:(f.cols.map encN).getD k .top=encN f.cols[k]:=xaa _ _ _ hk;have gk:(p.key.map encN).getD k .top=encN p.key[k]:=xaa _ _ _ c3;obtain ⟨a1,a2⟩:=ha.2 f hf f.cols[k] (zo hk);obtain ⟨b1,b2⟩:=hb.1 p.key[k] (zo c3);have a3:f.cols[k].toNat<t.cols.length:=by omega
  have b3:p.key[k].toNat<p.cols.length:=by omega
  have ga:((t.cols.map (·.k)).map encN).getD f.cols[k].toNat .top=encN ((t.cols.map (·.k))[f.cols[k].toNat]'(by rw [za];exact a3)):=xaa _ _ _ (by rw [za];exact a3)
  have gb:((p.cols.map (·.k)).map encN).getD p.key[k].toNat .top=encN ((p.cols.map (·.k))[p.key[k].toNat]'(by rw [za];exact b3)):=xaa _ _ _ (by rw [za];exact b3)
  simp only [xdE,xj7,sBU,c1,c2,c3,hk,gf,gk,cN,sN,a1,a2,a3,b1,b2,b3,ga,gb,xLZ (n:=k) (by omega)]
  repeat' (first|exact Stp.inl rfl|exact Stp.inr trivial|refine Stp.br (fun _=>?_) (fun _=>?_))) (fun i hi=>by
  subst hi;simp only [xdE,xj7,za,zy,zm,xac,sUF];exact Stp.inr trivial) f.cols.length 0 _ (by omega) rfl
 have e1:Iter (xdE ((t.cols.map (·.k)).map encN) ((p.cols.map (·.k)).map encN)) ((0:Int),f.cols.map encN,f.t,p.n,p.cols.map xLW,p.key.map encN,p.fos.map xLX,p.chk)=_:=e1;have e:Iter xdD (false,(0:Int),t.n,t.cols.map xLW,t.key.map encN,t.fos.map xLX,t.chk,f.cols.map encN,f.t,p.n,p.cols.map xLW,p.key.map encN,p.fos.map xLX,p.chk)=_:=e;simp only [xq9,xra,xrb,xrc,xrd,xre,xrf,xrg,xrh,xri,xpM,xpN,xpO,xpP,xpQ,xpR,xpS,xpT,xpU,xpV,xpW,xpX,e,kt,kp,e1,zk,zh,xab,sUF];repeat' (first|exact Ans.some trivial|refine Ans.br (fun _=>?_) (fun _=>?_))
end Go.Sim.M
end
noncomputable section
set_option maxRecDepth 100000
namespace Go.Sim.M
open Go.RowKit Go.Sim.Srt
theorem xDt (l:List Fc) (hl:l.length<=1048576):Ans (fun b=>b=true->l.length<=14/\∀ f,f∈l->f.r.length<=60) (xnd (l.map encF) 14):=by
 obtain ⟨r,e,hr⟩:=xa1 (step:=xcK (l.map encF)) (fun k i=>i=(k:Int)/\∀ j (hj:j<l.length),j<k->l[j].r.length<=60) l.length (fun r=>(r.1=true->r.2.1=false)/\(r.1=false->∀ f,f∈l->f.r.length<=60)) (fun k i hk hi=>by
  obtain ⟨rfl,hp⟩:=hi;have h1:(k:Int)<(l.length:Int):=by omega
  have gf:(l.map encF).getD k .top=encF l[k]:=xaa _ _ _ hk;simp only [xcK,xli,sBU,h1,hk,gf,cF0,cF1,cF2,sF0,sF1,sF2,lF,sF12,sF02,xLZ (n:=k) (by omega)]
  refine Stp.br (fun _=>Stp.inr ⟨fun _=>rfl,fun h=>by simp at h⟩) (fun hb=>Stp.inl ⟨rfl,fun j hj J=>?_⟩)
  rcases zJ j k with q|O
  . exact hp j hj q
  . obtain rfl:j=k:=by omega
    have hb:=of_decide_eq_false hb;omega) (fun i hi=>by
  obtain ⟨rfl,hp⟩:=hi;simp only [xcK,xli,za,zy,zm,xac,sUF];refine Stp.inr ⟨fun h=>by simp at h,fun _ f hf=>?_⟩
  obtain ⟨j,hj,rfl⟩:=List.getElem_of_mem hf;exact hp j hj hj) l.length 0 (0:Int) (by omega) ⟨rfl,fun j _ h=>absurd h (Nat.not_lt_zero _)⟩
 unfold xnd xtW;simp only [e,zk,zh,xab,za,sUF];refine Ans.br (fun _=>Ans.some fun h=>by simp at h) (fun h=>?_)
 have h:=of_decide_eq_false h;exact Ans.br (fun h1=>Ans.some fun h2=>by rw [hr.1 h1] at h2;simp at h2) (fun h1=>Ans.some fun _=>⟨by omega,hr.2 h1⟩)
structure FitC (t:Tab) (ix:Int) (fa ke:List Fc):Prop where
 lo:0<=ix
 hi:ix<(t.fos.length:Int)
 fl:fa.length<=14
 fr:∀ f,f∈fa->f.r.length<=60
 kl:ke.length<=14
 kr:∀ f,f∈ke->f.r.length<=60
theorem xHI (t p:Tab) (ht:t.Ok) (hp:p.Ok) (ix:Int) (fa ke:List Fc) (hf:FOk fa) (hk:FOk ke):Ans (fun b=>b=true->FitC t ix fa ke) (xrN t.n (t.cols.map xLW) (t.key.map encN) (t.fos.map xLX) t.chk p.n (p.cols.map xLW) (p.key.map encN) (p.fos.map xLX) p.chk ix (fa.map encF) (ke.map encF)):=by
 obtain ⟨a,ae,ha⟩:=xDt fa hf.len;obtain ⟨b,be,hb⟩:=xDt ke hk.len;obtain ⟨c,ce,_⟩:=xwQ t ht fa hf;obtain ⟨d,de,_⟩:=xwQ p hp ke hk;unfold xrN xsa;simp only [ae,be,ce,de,za,zk,zh,xab,sUF];refine Ans.br (fun _=>Ans.some fun h=>by simp at h) (fun _=>Ans.br (fun _=>Ans.some fun h=>by simp at h) (fun _=>Ans.br (fun _=>Ans.some fun h=>by simp at h) (fun h1=>Ans.br (fun _=>Ans.some fun h=>by simp at h) (fun h2=>?_))))
 have h1:=of_decide_eq_false h1;have h2:=of_decide_eq_false h2;refine Ans.br (fun _=>Ans.some fun h=>by simp at h) (fun h3=>Ans.br (fun _=>Ans.some fun h=>by simp at h) (fun h4=>Ans.br (fun _=>Ans.br (fun _=>?_) (fun _=>Ans.some fun h=>by simp at h)) (fun _=>Ans.some fun h=>by simp at h)))
 have h3:a=true:=by simpa using h3
 have h4:b=true:=by simpa using h4
 have i1:0<=ix:=by omega
 have i2:ix<(t.fos.length:Int):=by omega
 have i3:ix.toNat<t.fos.length:=by omega
 have gt:(t.fos.map xLX).getD ix.toNat .top=xLX t.fos[ix.toNat]:=xaa _ _ _ i3;obtain ⟨e,ee,_⟩:=xH1 t p ht hp t.fos[ix.toNat] (zo i3);simp only [i1,i2,i3,gt,cFo0,cFo1,lFo,sFo,AV.toList,AV.toStr,ee,zn,zS,zk,zh,xab,sUF];exact Ans.some fun _=>⟨i1,i2,(ha h3).1,(ha h3).2,(hb h4).1,(hb h4).2⟩
theorem xHF (q keys:List Row) (cols:List Int) (ft:List UInt8) (p:Tab) (hc:cols.length<=1048576) (hk:p.key.length<=1048576) (hl:keys.length<=1048576) (i:Nat) (hi:i<q.length) (b0:Bool) :
  Iter (xda (q.map encR) (keys.map encR) (cols.map encN) ft p.n (p.cols.map xLW) (p.key.map encN) (p.fos.map xLX) p.chk (i:Int)) (b0,(0:Int))=some (b0 || keys.any fun k=>decide (pick q[i] cols=pick k p.key)):=by
 have J:∀ (l:List Row) (b:Bool),l.foldl (fun b k=>b || decide (pick q[i] cols=pick k p.key)) b=(b || l.any fun k=>decide (pick q[i] cols=pick k p.key)):=fun l=>by
  induction l with
  | nil=>intro b;simp
  | cons a l ih=>intro b;rw [List.foldl_cons,ih,List.any_cons,Bool.or_assoc]
 refine xm9 keys (fun b k=>b || decide (pick q[i] cols=pick k p.key)) (fun n b=>(b,(n:Int))) (fun _ _=>True) (fun n h b _=>⟨?_,trivial⟩) keys.length 0 b0 (by omega) trivial ?_
 . have h1:(n:Int)<(keys.length:Int):=by omega
   have h2:(i:Int)<(q.length:Int):=by omega
   have gk:(keys.map encR).getD n .top=encR keys[n]:=xaa _ _ _ h;have gr:(q.map encR).getD i .top=encR q[i]:=xaa _ _ _ hi;have e1:=xwh q[i] cols hc;have e2:=xDu p.n (p.cols.map xLW) (p.fos.map xLX) p.chk p.key keys[n] hk;have e3:=xpZ (pick q[i] cols) (pick keys[n] p.key) (by rw [xuT];simp only [maxLen];omega)
   simp only [xda,xgj,xiI,sBU,h,h1,h2,hi,gk,gr,cR0,sR0,e1,e2,e3,cmp0,xLZ (n:=n) (by omega)]
   cases b<;>simp [xab,xac,sUF]
 . rw [zr,J];simp only [xda,xgj,za,zy,zm,xac,sUF]
theorem xA4 (q keys:List Row) (cols:List Int) (ft:List UInt8) (p:Tab) (hc:cols.length<=1048576) (hk:p.key.length<=1048576) (hl:keys.length<=1048576) (hr:q.length<=1048576) :
  xk4 (cols.map encN) ft (q.map encR) p.n (p.cols.map xLW) (p.key.map encN) (p.fos.map xLX) p.chk (keys.map encR)=some (xMa cols p.key q keys):=by
 have e:=xCU (step:=xaR (q.map encR) (keys.map encR) (cols.map encN) ft p.n (p.cols.map xLW) (p.key.map encN) (p.fos.map xLX) p.chk) q (fun r=>xL5 r cols || keys.any fun k=>decide (pick r cols=pick k p.key)) (fun k h=>by
  have h1:(k:Int)<(q.length:Int):=by omega
  have gr:(q.map encR).getD k .top=encR q[k]:=xaa _ _ _ h;have e1:=xBr cols ft q[k] hc;have e2:=xHF q keys cols ft p hc hk hl k h (xL5 q[k] cols);simp only [xaR,xgi,xiH,sBU,h,h1,gr,cR0,sR0,e1,Bool.not_not,e2,xLZ (n:=k) (by omega)]
  cases (xL5 q[k] cols || keys.any fun k'=>decide (pick q[k] cols=pick k' p.key))<;>simp [xab,xac,sUF]) (by
  simp only [xaR,xgi,za,zy,zm,xac,sUF]) q.length 0 (by simp)
 rw [zr] at e;have e:Iter (xaR (q.map encR) (keys.map encR) (cols.map encN) ft p.n (p.cols.map xLW) (p.key.map encN) (p.fos.map xLX) p.chk) (0:Int)=some (if xMa cols p.key q keys=true then (false,false,()) else (true,false,())):=e
 unfold xk4 xmD;rw [e];cases xMa cols p.key q keys<;>rfl
theorem xIL {a b c d e f g h i:_} {B:List Fc} (hB:xb1 a b c d e f g h i=some (B.map encF)):xl4 a b c d e f g h i=some (decide (B=[])):=by
 unfold xl4 xny;rw [hB];cases B with
 | nil=>rfl
 | cons x B =>
  have:¬ ((((x::B).map encF).length:Nat):Int)=0:=by simp;omega
  simp [xab,sUF];omega
theorem xK4 {cols key:List Int} {l pl M B:List Fc} (hr:∀ f,f∈l->f.r.length<=60) (hM:IsMiss cols key l pl M) (hB:xL6 M B) (hb:B.length<=1048576) (t:Int):∃ D:List Row,xfa (B.map encF) t=some (D.map encR)/\D.length=l.countP fun x=>xL1 cols key pl x t:=by
 obtain ⟨D,d1,d2,_⟩:=xv7 B t ⟨hb,fun f hf=>by
  obtain ⟨x,hx,e⟩:=hM.bagrow hB f hf;have:=hr x hx;rw [e];omega⟩
 exact ⟨D,d1,by rw [d2.length_eq,xyB hM hB]⟩
end Go.Sim.M
end
noncomputable section
set_option maxRecDepth 10000
namespace Go.Sim
open Go.RowKit Go.Proofs Go.ChangeShapes Go.WideShapes Go.ChangeAt Go.Proofs.YtnbckejindjgaaaGreatDoor
theorem xAE:∀ {xs:List AV} {x:AV},x∈xs->AV.wt x<=AV.wts xs
 | y::xs,x,h=>by
  simp only [AV.wts];rcases zC.1 h with rfl|h
  . omega
  . have:=xAE h;omega
theorem xAD:∀ {xs:List AV},(∀ x,x∈xs->1<=AV.wt x)->xs.length<=AV.wts xs
 | [],_=>zQ _
 | y::xs,h=>by
  have a:=h y (by simp)
  have b:=xAD (xs:=xs) fun x hx=>h x (by simp [hx])
  simp only [AV.wts,zF];omega
theorem xjz {α:Type} {e:α->AV} (h:∀ a,1<=AV.wt (e a)) (l:List α):l.length<=AV.wts (l.map e):=by
 have:=xAD (xs:=l.map e) fun x hx=>by
  obtain ⟨a,_,rfl⟩:=zK.1 hx;exact h a
 rwa [za] at this
theorem xjA {α:Type} {e:α->AV} {l:List α} {a:α} (h:a∈l):AV.wt (e a)<=AV.wts (l.map e):=xAE (zK.2 ⟨a,h,rfl⟩)
theorem xIm (v:M.Val):AV.wt (M.encV v)=1+(1+(v.t.length+1+0)):=rfl
theorem xDM (f:M.Fc):AV.wt (M.encF f)=AV.wts (f.r.map M.encV)+1+(1+(1+0)):=rfl
theorem xIk (c:M.Col):AV.wt (M.xLW c)=c.n.length+1+(1+(1+0)):=rfl
theorem xGv (f:M.Fo):AV.wt (M.xLX f)=AV.wts (f.cols.map M.encN)+1+(f.t.length+1+0):=rfl
theorem M.fok_wt {l:List M.Fc} (h:AV.wts (l.map M.encF)<=1048576) (hw:∀ y,y∈l->y.wf):M.FOk l:=by
 refine ⟨?_,fun f hf=>?_,fun f hf v hv=>⟨(hw f hf).1.2 v hv,?_⟩⟩
 . have:=xjz (e:=M.encF) (fun f=>by have:=xDM f;omega) l
   omega
 . have h1:=xjA (e:=M.encF) hf;have h2:=xDM f;have h3:=xjz (e:=M.encV) (fun f=>by have:=xIm f;omega) f.r
   omega
 . have h1:=xjA (e:=M.encF) hf;have h2:=xDM f;have h3:=xjA (e:=M.encV) hv;have h4:=xIm v;omega
def EX (xs:List AV):Prop:=∀ x,x∈xs->x.cells.length=7/\x=xNt x.cells/\∀ j,j<7->OfTy tyR (tyR.getD j .bool) (x.cells.getD j .top)
theorem xC7 {a:AV} (h:OfTy tyR .mu a):∃ xs,a=.list 7 xs/\EX xs:=by
 cases h with
 | mu xs h hl hx=>exact ⟨xs,rfl,fun x hm=>⟨(hl x hm).1,(hl x hm).2,fun j hj=>hx x j hm hj⟩⟩
theorem xJt:∀ (n:Nat) (xs:List AV),AV.wts xs<n->n<=16777216->EX xs->xs.length<=AV.wts xs/\∀ x,x∈xs->M.IsEx x
 | 0,xs,h,_,_=>absurd h (Nat.not_lt_zero _)
 | n+1,xs,h,hn,hE=>by
  have key:∀ x,x∈xs->1<=AV.wt x/\M.IsEx x:=fun x hx=>by
   obtain ⟨h1,h2,h3⟩:=hE x hx;have hw:=xAE hx;generalize x.cells=cs at *;match cs,h1 with
   | [c0,c1,c2,c3,c4,c5,c6],_ =>
    have h0:=h3 0 (by decide)
    have h1:=h3 1 (by decide)
    have h2':=h3 2 (by decide)
    have h3':=h3 3 (by decide)
    have h4:=h3 4 (by decide)
    have h5:=h3 5 (by decide)
    have h6:=h3 6 (by decide)
    change OfTy tyR (.int .i64) c0 at h0;change OfTy tyR (.int .i64) c1 at h1;change OfTy tyR (.int .i64) c2 at h2';change OfTy tyR (.int .i64) c3 at h3';change OfTy tyR .str c4 at h4;change OfTy tyR .str c5 at h5;change OfTy tyR .mu c6 at h6;obtain ⟨ys,rfl,hy⟩:=xC7 h6;cases h0 with
    | int _ n0 _=>cases h1 with
     | int _ n1 _=>cases h2' with
      | int _ n2 _=>cases h3' with
       | int _ n3 _=>cases h4 with
        | str s4 _=>cases h5 with
         | str s5 _ =>
          have hx:x=.agg [.int .i64 n0,.int .i64 n1,.int .i64 n2,.int .i64 n3,.str s4,.str s5,.list 7 ys]:=h2;have wx:AV.wt x=1+(1+(1+(1+(s4.length+1+(s5.length+1+(AV.wts ys+1+0)))))):=by rw [hx];rfl
          obtain ⟨i1,i2⟩:=xJt n ys (by omega) (by omega) hy
          exact ⟨by omega,hx▸M.IsEx.mk n0 n1 n2 n3 s4 s5 ys (by omega) (by omega) i2⟩
  exact ⟨xAD fun x hx=>(key x hx).1,fun x hx=>(key x hx).2⟩
def tyCo:List Ty:=[.str,.int .i64,.bool]
def tyFo:List Ty:=[.slice [.int .i64],.str]
theorem xyZ (x:AV) (hl:x.cells.length=[Ty.int .i64].length) (he:x=xNt x.cells) (hx:∀ j,j<[Ty.int .i64].length->OfTy tyR ([Ty.int .i64].getD j .bool) (x.cells.getD j .top)):∃ a,x=M.encN a/\I64 a:=by
 generalize x.cells=cs at *;match cs,hl with
 | [c0],_ =>
  have h0:=hx 0 (by decide)
  change OfTy tyR (.int .i64) c0 at h0;cases h0 with
  | int _ k hk=>exact ⟨k,he,hk⟩
theorem xDI (x:AV) (hl:x.cells.length=tyCo.length) (he:x=xNt x.cells) (hx:∀ j,j<tyCo.length->OfTy tyR (tyCo.getD j .bool) (x.cells.getD j .top)):∃ a,x=M.xLW a/\True:=by
 generalize x.cells=cs at *;match cs,hl with
 | [c0,c1,c2],_ =>
  have h0:=hx 0 (by decide)
  have h1:=hx 1 (by decide)
  have h2:=hx 2 (by decide)
  change OfTy tyR .str c0 at h0;change OfTy tyR (.int .i64) c1 at h1;change OfTy tyR .bool c2 at h2;cases h0 with
  | str s _=>cases h1 with
   | int _ k _=>cases h2 with
    | bool b=>exact ⟨⟨s,k,b⟩,he,trivial⟩
theorem xFo (x:AV) (hl:x.cells.length=tyFo.length) (he:x=xNt x.cells) (hx:∀ j,j<tyFo.length->OfTy tyR (tyFo.getD j .bool) (x.cells.getD j .top)):∃ a,x=M.xLX a/\True:=by
 generalize x.cells=cs at *;match cs,hl with
 | [c0,c1],_ =>
  have h0:=hx 0 (by decide)
  have h1:=hx 1 (by decide)
  change OfTy tyR (.slice [.int .i64]) c0 at h0;change OfTy tyR .str c1 at h1;obtain ⟨l,rfl,_,_⟩:=xfN (es:=[.int .i64]) xyZ h0;cases h1 with
  | str s _=>exact ⟨⟨l,s⟩,he,trivial⟩
theorem M.tab_ok (t:M.Tab) (hb:AV.wts [.str t.n,.list 3 (t.cols.map M.xLW),.list 1 (t.key.map M.encN),.list 2 (t.fos.map M.xLX),.list 7 t.chk]<=1048576) (hx:EX t.chk):t.Ok:=by
 have hw:AV.wts [.str t.n,.list 3 (t.cols.map M.xLW),.list 1 (t.key.map M.encN),.list 2 (t.fos.map M.xLX),.list 7 t.chk]=t.n.length+1+(AV.wts (t.cols.map M.xLW)+1+(AV.wts (t.key.map M.encN)+1+(AV.wts (t.fos.map M.xLX)+1+(AV.wts t.chk+1+0)))):=rfl;obtain ⟨e1,e2⟩:=xJt (AV.wts t.chk+1) t.chk (Nat.lt_succ_self _) (by omega) hx
 refine ⟨by omega,?_,?_,?_,by omega,fun c hc=>?_,fun f hf=>⟨?_,?_⟩,e2⟩
 . have:=xjz (e:=M.xLW) (fun f=>by have:=xIk f;omega) t.cols
   omega
 . have:=xjz (e:=M.encN) (fun f=>zd 1) t.key
   omega
 . have:=xjz (e:=M.xLX) (fun f=>by have:=xGv f;omega) t.fos
   omega
 . have h1:=xjA (e:=M.xLW) hc;have h2:=xIk c;omega
 . have h1:=xjA (e:=M.xLX) hf;have h2:=xGv f;have h3:=xjz (e:=M.encN) (fun f=>zd 1) f.cols
   omega
 . have h1:=xjA (e:=M.xLX) hf;have h2:=xGv f;omega
structure M.Cas where
 t:M.Tab
 p:M.Tab
 ix:Int
 fa:List M.Fc
 ke:List M.Fc
def M.Cas.wf (c:M.Cas):Prop:=EX c.t.chk/\EX c.p.chk/\(∀ y,y∈c.fa->y.wf)/\∀ y,y∈c.ke->y.wf
theorem xHp:flat Tryz.prog muT 9 30=some [.str,.slice tyCo,.slice [.int .i64],.slice tyFo,.mu,.str,.slice tyCo,.slice [.int .i64],.slice tyFo,.mu,.int .i64,.slice tyF,.slice tyF]:=by kernel_rfl
section
variable {H : Type} {enc : TypeId × Value -> H} {w : World} {base b : Nat} {sp : Nat -> Bool} {held : Bool} {v : Value} {d : DataW H} {ps : List MemPlace}
theorem xHP (O:Value.okWide Tryz.prog w .any base 30 v) (hd:DataW.Trod enc Tryz.prog w b sp held 30 v d ps):∃ x:M.Cas,Rel w (fun _=>False) xM7 v (.agg [.str x.t.n,.list 3 (x.t.cols.map M.xLW),.list 1 (x.t.key.map M.encN),.list 2 (x.t.fos.map M.xLX),.list 7 x.t.chk,.str x.p.n,.list 3 (x.p.cols.map M.xLW),.list 1 (x.p.key.map M.encN),.list 2 (x.p.fos.map M.xLX),.list 7 x.p.chk,.int .i64 x.ix,.list 3 (x.fa.map M.encF),.list 3 (x.ke.map M.encF)])/\(∀ μ:DataW H->Nat,Meas μ->(AV.agg [.str x.t.n,.list 3 (x.t.cols.map M.xLW),.list 1 (x.t.key.map M.encN),.list 2 (x.t.fos.map M.xLX),.list 7 x.t.chk,.str x.p.n,.list 3 (x.p.cols.map M.xLW),.list 1 (x.p.key.map M.encN),.list 2 (x.p.fos.map M.xLX),.list 7 x.p.chk,.int .i64 x.ix,.list 3 (x.fa.map M.encF),.list 3 (x.ke.map M.encF)]).wt<=μ d)/\M.Cas.wf x:=by
 obtain ⟨cs,h,hl,hx,hB⟩:=xHO recR Tryz.underlying30 xHp O hd;match cs,hl with
 | [k0,k1,k2,k3,k4,k5,k6,k7,k8,k9,k10,k11,k12],_ =>
  have h0:=hx 0 (by decide)
  have h1:=hx 1 (by decide)
  have h2:=hx 2 (by decide)
  have h3:=hx 3 (by decide)
  have h4:=hx 4 (by decide)
  have h5:=hx 5 (by decide)
  have h6:=hx 6 (by decide)
  have h7:=hx 7 (by decide)
  have h8:=hx 8 (by decide)
  have h9:=hx 9 (by decide)
  have q:=hx 10 (by decide)
  have J:=hx 11 (by decide)
  have Q:=hx 12 (by decide)
  change OfTy tyR .str k0 at h0;change OfTy tyR (.slice tyCo) k1 at h1;change OfTy tyR (.slice [.int .i64]) k2 at h2;change OfTy tyR (.slice tyFo) k3 at h3;change OfTy tyR .mu k4 at h4;change OfTy tyR .str k5 at h5;change OfTy tyR (.slice tyCo) k6 at h6;change OfTy tyR (.slice [.int .i64]) k7 at h7;change OfTy tyR (.slice tyFo) k8 at h8;change OfTy tyR .mu k9 at h9;change OfTy tyR (.int .i64) k10 at q;change OfTy tyR (.slice tyF) k11 at J;change OfTy tyR (.slice tyF) k12 at Q;obtain ⟨l1,rfl,_,_⟩:=xfN (es:=tyCo) xDI h1;obtain ⟨l2,rfl,_,_⟩:=xfN (es:=[.int .i64]) xyZ h2;obtain ⟨l3,rfl,_,_⟩:=xfN (es:=tyFo) xFo h3;obtain ⟨l4,rfl,x4⟩:=xC7 h4;obtain ⟨l6,rfl,_,_⟩:=xfN (es:=tyCo) xDI h6;obtain ⟨l7,rfl,_,_⟩:=xfN (es:=[.int .i64]) xyZ h7;obtain ⟨l8,rfl,_,_⟩:=xfN (es:=tyFo) xFo h8;obtain ⟨l9,rfl,x9⟩:=xC7 h9;obtain ⟨U,rfl,_,W⟩:=xfN (es:=tyF) xDJ J;obtain ⟨Y,rfl,_,V⟩:=xfN (es:=tyF) xDJ Q;cases h0 with
  | str s0 _=>cases h5 with
   | str s5 _=>cases q with
    | int _ n10 _=>exact ⟨⟨⟨s0,l1,l2,l3,l4⟩,⟨s5,l6,l7,l8,l9⟩,n10,U,Y⟩,h,fun μ hμ=>hB μ hμ,x4,x9,W,V⟩
end
theorem M.cas_wt (c:M.Cas) (hw:c.wf) {r:Nat} (hb:(AV.agg [.str c.t.n,.list 3 (c.t.cols.map M.xLW),.list 1 (c.t.key.map M.encN),.list 2 (c.t.fos.map M.xLX),.list 7 c.t.chk,.str c.p.n,.list 3 (c.p.cols.map M.xLW),.list 1 (c.p.key.map M.encN),.list 2 (c.p.fos.map M.xLX),.list 7 c.p.chk,.int .i64 c.ix,.list 3 (c.fa.map M.encF),.list 3 (c.ke.map M.encF)]).wt+r<=1048576):c.t.Ok/\c.p.Ok/\M.FOk c.fa/\M.FOk c.ke:=by
 have hs:(AV.agg [.str c.t.n,.list 3 (c.t.cols.map M.xLW),.list 1 (c.t.key.map M.encN),.list 2 (c.t.fos.map M.xLX),.list 7 c.t.chk,.str c.p.n,.list 3 (c.p.cols.map M.xLW),.list 1 (c.p.key.map M.encN),.list 2 (c.p.fos.map M.xLX),.list 7 c.p.chk,.int .i64 c.ix,.list 3 (c.fa.map M.encF),.list 3 (c.ke.map M.encF)]).wt=AV.wts [.str c.t.n,.list 3 (c.t.cols.map M.xLW),.list 1 (c.t.key.map M.encN),.list 2 (c.t.fos.map M.xLX),.list 7 c.t.chk]+(AV.wts [.str c.p.n,.list 3 (c.p.cols.map M.xLW),.list 1 (c.p.key.map M.encN),.list 2 (c.p.fos.map M.xLX),.list 7 c.p.chk]+(1+(AV.wts (c.fa.map M.encF)+1+(AV.wts (c.ke.map M.encF)+1+0)))):=by
  simp only [AV.wt,AV.wts];omega
 obtain ⟨h1,h2,h3,h4⟩:=hw;exact ⟨M.tab_ok c.t (by omega) h1,M.tab_ok c.p (by omega) h2,M.fok_wt (by omega) h3,M.fok_wt (by omega) h4⟩
end Go.Sim
end
noncomputable section
set_option maxRecDepth 100000
namespace Go.Sim.M
open Go.RowKit Go.Sim.Srt
theorem xG7 (p:Tab) (hp:p.Ok) (f:Fo) (hf:f.cols.length<=1048576) (fa ke:List Fc) (J:FOk fa) (q:FOk ke) (fl:fa.length<=14) (fr:∀ f,f∈fa->f.r.length<=60) (kl:ke.length<=14) :
  ∃ B M:List Fc,xb1 (f.cols.map encN) f.t (fa.map encF) p.n (p.cols.map xLW) (p.key.map encN) (p.fos.map xLX) p.chk (ke.map encF)=some (B.map encF)/\xrj (f.cols.map encN) f.t (fa.map encF) p.n (p.cols.map xLW) (p.key.map encN) (p.fos.map xLX) p.chk (ke.map encF)=some (B.map encF)/\xL6 M B/\IsMiss f.cols p.key fa ke M:=by
 obtain ⟨B,M,b1,b2,b3⟩:=xIW f.cols p.key f.t p.n (p.cols.map xLW) (p.fos.map xLX) p.chk hf hp.key fa ke fl (by omega) fr J.txt q.txt
 obtain ⟨B',M',c1,c2,c3⟩:=xI7 f.cols p.key f.t p.n (p.cols.map xLW) (p.fos.map xLX) p.chk hf hp.key fa ke fl kl fr;obtain rfl:B=B':=b2.unique c2 fun r t=>by rw [b3.cnt,c3.cnt]
 exact ⟨B,M,b1,c1,b2,b3⟩
theorem FOk.take {l:List Fc} (h:FOk l) (n:Nat):FOk (l.take n):=⟨by rw [zt];have:=h.len;omega,fun f hf=>h.row f (List.mem_of_mem_take hf),fun f hf=>h.txt f (List.mem_of_mem_take hf)⟩
end Go.Sim.M
end
