/- Part 16 of the proof of the law. -/
import Derived.Test.YtnbckejindjgaaaGreatDoorQG15
import Derived.Lib.ItoaLen
set_option linter.unusedVariables false
set_option linter.unusedSimpArgs false
set_option linter.unusedSectionVars false
noncomputable section
set_option maxRecDepth 100000
namespace Go.Sim.M
open Go.RowKit Go.Sim.Srt
def rdD (l:List UInt8):Nat:=l.foldl (fun a c=>a*10+(c.toNat - 48)) 0
theorem xDS (u:Nat):∀ c,c∈Lib.decDigits u->48<=c.toNat/\c.toNat<=57:=by
 induction u using Nat.strongRecOn with
 | _ u ih =>
  intro c hc;rw [Lib.decDigits] at hc;split at hc
  . rw [zv] at hc;subst hc;rw [UInt8.toNat_ofNat'];omega
  . rw [zG,zv] at hc;rcases hc with hc|rfl
    . exact ih (u / 10) (by omega) c hc
    . rw [UInt8.toNat_ofNat'];omega
theorem xGR (u:Nat):rdD (Lib.decDigits u)=u:=by
 induction u using Nat.strongRecOn with
 | _ u ih =>
  rw [Lib.decDigits];split
  . simp only [rdD,List.foldl_cons,List.foldl_nil,UInt8.toNat_ofNat'];omega
  . have:=ih (u / 10) (by omega)
    unfold rdD at this |-;rw [List.foldl_append,this];simp only [List.foldl_cons,List.foldl_nil,UInt8.toNat_ofNat'];omega
theorem xDT {u v:Nat} (h:Lib.decDigits u=Lib.decDigits v):u=v:=by rw [<-xGR u,h,xGR]
theorem xwN {a b:Int} (h:Lib.itoa a=Lib.itoa b):a=b:=by
 unfold Lib.itoa at h;have k:∀ u v:Nat,45::Lib.decDigits u≠Lib.decDigits v:=fun u v e=>by
  have:=xDS v 45 (by rw [<-e];simp)
  have t:(45:UInt8).toNat=45:=rfl;omega
 split at h<;>split at h
 . have:=xDT (List.cons.inj h).2;omega
 . exact absurd h (k _ _)
 . exact absurd h.symm (k _ _)
 . have:=xDT h;omega
theorem xrj (a:Int):(32:UInt8)∉Lib.itoa a:=by
 have k:∀ v:Nat,(32:UInt8)∉Lib.decDigits v:=fun v e=>by
  have:=xDS v 32 e;have t:(32:UInt8).toNat=32:=rfl;omega
 unfold Lib.itoa;split
 . rw [zC];rintro (h|h)
   . simp at h
   . exact k _ h
 . exact k _
theorem xyt:∀ {a b x y:List UInt8},(32:UInt8)∉a->(32:UInt8)∉b->a++32::x=b++32::y->a=b/\x=y
 | [],[],x,y,_,_,h=>⟨rfl,(List.cons.inj h).2⟩
 | [],c::b,x,y,_,hb,h=>absurd (List.cons.inj h).1 fun e=>hb (by rw [e];simp)
 | c::a,[],x,y,ha,_,h=>absurd (List.cons.inj h).1 fun e=>ha (by rw [<-e];simp)
 | c::a,d::b,x,y,ha,hb,h=>by
  obtain ⟨e1,h⟩:=List.cons.inj h;obtain ⟨e2,e3⟩:=xyt (a:=a) (b:=b) (fun e=>ha (by simp [e])) (fun e=>hb (by simp [e])) h
  exact ⟨by rw [e1,e2],e3⟩
def keyV (v:Val):List UInt8:=Lib.itoa v.k++32::(Lib.itoa v.i++32::(Lib.itoa (v.t.length:Int)++32::v.t))
def keyOf (r:Row):List UInt8:=r.flatMap keyV
theorem xwP (v:Val) (s:List UInt8):keyV v++s=Lib.itoa v.k++32::(Lib.itoa v.i++32::(Lib.itoa (v.t.length:Int)++32::(v.t++s))):=by simp [keyV]
theorem xkH (v:Val) (r:Row):keyOf (v::r)=keyV v++keyOf r:=by simp [keyOf]
theorem xzz (v:Val) (s:List UInt8):keyV v++s≠[]:=by rw [xwP];simp
theorem xzA:∀ {r r':Row},keyOf r=keyOf r'->r=r'
 | [],[],_=>rfl
 | [],v::r',h=>by rw [xkH] at h;exact absurd h.symm (xzz _ _)
 | v::r,[],h=>by rw [xkH] at h;exact absurd h (xzz _ _)
 | v::r,v'::r',h=>by
  rw [xkH,xkH,xwP,xwP] at h;obtain ⟨h1,h⟩:=xyt (xrj _) (xrj _) h;obtain ⟨h2,h⟩:=xyt (xrj _) (xrj _) h;obtain ⟨h3,h⟩:=xyt (xrj _) (xrj _) h;have h3:=xwN h3;obtain ⟨h4,h⟩:=List.append_inj h (by omega)
  obtain rfl:=xzA h;have:v=v':=by
   obtain ⟨k,i,t⟩:=v;obtain ⟨k',i',t'⟩:=v';obtain rfl:=xwN h1;obtain rfl:=xwN h2;subst h4;rfl
  rw [this]
theorem xLb {n:Int} (h:(Lit.int .i64 n).wf=true):-9223372036854775808<=n/\n<=9223372036854775807:=by
 have h:(decide ((IntKind.i64).min<=n)&&decide (n<=(IntKind.i64).max))=true:=h;rw [zf,zl,zl] at h;exact h
theorem xwQ {v:Val} (hw:v.wf) (ht:v.t.length<=1099511627776):(keyV v).length<=66+v.t.length:=by
 obtain ⟨w1,w2,_⟩:=hw;have a1:=Lib.itoa_length_le v.k (xLb w1).1 (xLb w1).2;have a2:=Lib.itoa_length_le v.i (xLb w2).1 (xLb w2).2;have a3:=Lib.itoa_length_le (v.t.length:Int) (by omega) (by omega)
 simp only [keyV,z8,zF];omega
theorem xzS (s B:List UInt8) (h:(B++s).length<=140737488355328):xaj s B.length (byteAVs B)=some ((s.length:Int),(B++s).length,byteAVs (B++s)):=by
 rw [z8] at h;have h2:B.length+s.length<=4611686018427387904:=by omega
 unfold xaj xde;simp only [xkF,beq_self_eq_true,Nat.mul_one,h,h2,zn,Bool.and_self,xab,xtz,z8,sUF]
theorem xCP (B:List UInt8) (h:(B++[32]).length<=140737488355328):xcz 32 B.length (byteAVs B)=some ((B++[32]).length,byteAVs (B++[32])):=by
 rw [z8,zj] at h;have h2:B.length+1<=4611686018427387904:=by omega
 unfold xcz xdO;simp only [xkF,beq_self_eq_true,Nat.mul_one,h,h2,zn,Bool.and_self,xab,xtz,z8,zj,sUF];rfl
def numI (n:Int):List UInt8:=Lib.itoa n++[32]
theorem xEY (t8:List AV) (t9 q:Int) (xs:List AV) (hx:xs.length=3) (j:Nat) (hj:j<3) (n:Int) (hn:xs.getD j .top=.int .i64 n) (h1:-9223372036854775808<=n) (h2:n<=9223372036854775807) (v0 v1:Int) (v2 B:List UInt8) (hB:B.length<=70368744177664) :
  xaM t8 t9 q 3 3 ((j:Int),B.length,v0,v1,v2,xs,byteAVs B)=some (.inl (((j+1:Nat):Int),(B++numI n).length,v0,v1,v2,xs,byteAVs (B++numI n))):=by
 have hl:=Lib.itoa_length_le n h1 h2;have i1:(j:Int)<3:=by omega
 have i2:(j:Int)<((3:Nat):Int):=by omega
 have i3:j<xs.length:=by omega
 have e1:=xzS (Lib.itoa n) B (by rw [z8];omega)
 have e2:=xCP (B++Lib.itoa n) (by rw [z8,z8,zj];omega)
 have hc:((AV.int IntKind.i64 n).cells.getD 0 .top).toInt=n:=rfl;have hs:xLN (Sh.int IntKind.i64) ((AV.int IntKind.i64 n).cells.getD 0 .top)=true:=rfl;simp only [xaM,xg6,xj1,xj2,xj3,xew,sBU,i1,i2,i3,hn,hc,hs,h1,h2,e1,e2,xKU (n:=j) (by omega),numI,zw]
theorem xIP (t8:List AV) (t9 q:Int) (xs:List AV) (v0 v1:Int) (v2 B:List UInt8):xaM t8 t9 q 3 3 (((3:Nat):Int),B.length,v0,v1,v2,xs,byteAVs B)=some (.inr (B.length,v0,v1,v2,byteAVs B)):=by
 have i1:¬ ((3:Nat):Int)<3:=by omega
 simp only [xaM,xg6,i1,zm,xac,sUF]
theorem xwR (v:Val):keyV v=numI v.k++(numI v.i++(numI (v.t.length:Int)++v.t)):=by simp [keyV,numI]
def KOk (v:Val):Prop:=v.wf/\v.t.length<=1099511627776
theorem KOk.len {v:Val} (h:KOk v):(keyV v).length<=1099511627842:=by have:=xwQ h.1 h.2;have:=h.2;omega
theorem xD3 (t8:List AV) (t9 q:Int) (v:Val) (h:KOk v) (B:List UInt8) (hB:B.length<=35184372088832) :
  Iter (xaM t8 t9 q 3 3) ((1:Int),(B++numI v.k).length,v.k,v.i,v.t,[AV.int .i64 v.k,AV.int .i64 v.i,AV.int .i64 (v.t.length:Int)],byteAVs (B++numI v.k))=some ((B++numI v.k++numI v.i++numI (v.t.length:Int)).length,v.k,v.i,v.t,byteAVs (B++numI v.k++numI v.i++numI (v.t.length:Int))):=by
 have hl:=h.len;have ht:=h.2;rw [xwR,z8,z8,z8] at hl;have e1:=xEY t8 t9 q [AV.int .i64 v.k,AV.int .i64 v.i,AV.int .i64 (v.t.length:Int)] rfl 1 (by omega) v.i rfl (xLb h.1.2.1).1 (xLb h.1.2.1).2 v.k v.i v.t (B++numI v.k) (by rw [z8];omega)
 have e2:=xEY t8 t9 q [AV.int .i64 v.k,AV.int .i64 v.i,AV.int .i64 (v.t.length:Int)] rfl 2 (by omega) (v.t.length:Int) rfl (by omega) (by omega) v.k v.i v.t (B++numI v.k++numI v.i) (by rw [z8,z8];omega)
 exact (xal e1).trans ((xal e2).trans (xad (xIP ..)))
theorem xKb (t8:List AV) (t9 q:Int) (v:Val) (h:KOk v) (B:List UInt8) (hB:B.length<=35184372088832) :
  Iter (xaM t8 t9 q 3 3) ((0:Int),B.length,v.k,v.i,v.t,[AV.int .i64 v.k,AV.int .i64 v.i,AV.int .i64 (v.t.length:Int)],byteAVs B)=some ((B++numI v.k++numI v.i++numI (v.t.length:Int)).length,v.k,v.i,v.t,byteAVs (B++numI v.k++numI v.i++numI (v.t.length:Int))):=by
 have e0:=xEY t8 t9 q [AV.int .i64 v.k,AV.int .i64 v.i,AV.int .i64 (v.t.length:Int)] rfl 0 (by omega) v.k rfl (xLb h.1.1).1 (xLb h.1.1).2 v.k v.i v.t B (by omega)
 exact (xal e0).trans (xD3 t8 t9 q v h B hB)
theorem xGw (r:Row) (hr:r.length<=1048576) (h:∀ v,v∈r->KOk v) (hk:(keyOf r).length<=17592186044416):∀ d k:Nat,k+d=r.length->Iter (xcj (r.map encV) ((r.length:Nat):Int)) ((k:Int),(keyOf (r.take k)).length,byteAVs (keyOf (r.take k)))=some ((keyOf r).length,byteAVs (keyOf r))
 | 0,k,hkk=>by
  obtain rfl:k=r.length:=by omega
  rw [y7];refine xad ?_;simp only [xcj,xg5,zy,zm,xac,sUF]
 | d+1,k,hkk=>by
  have q:k<r.length:=by omega
  have hv:=h r[k] (zo q);have i1:(k:Int)<(r.length:Int):=by omega
  have gf:(r.map encV).getD k .top=encV r[k]:=xaa _ _ _ q;have tk:keyOf (r.take (k+1))=keyOf (r.take k)++keyV r[k]:=by
   unfold keyOf;rw [List.take_add_one,ze q,List.flatMap_append];simp
  have le:(keyOf (r.take (k+1))).length<=(keyOf r).length:=by
   conv=>rhs;rw [<-List.take_append_drop (k+1) r]
   unfold keyOf;rw [List.flatMap_append,z8];omega
  have hl:=hv.len;rw [tk,z8] at le;have e1:=xKb (r.map encV) (r.length:Int) (k:Int) r[k] hv (keyOf (r.take k)) (by omega)
  have kn:keyOf (r.take k)++keyV r[k]=keyOf (r.take k)++numI r[k].k++numI r[k].i++numI (r[k].t.length:Int)++r[k].t:=by rw [xwR];simp only [zw]
  have e2:=xzS r[k].t (keyOf (r.take k)++numI r[k].k++numI r[k].i++numI (r[k].t.length:Int)) (by rw [<-kn,z8];omega)
  rw [xal (s':=(((k+1:Nat):Int),(keyOf (r.take (k+1))).length,byteAVs (keyOf (r.take (k+1))))) ?_]
  . exact xGw r hr h hk d (k+1) (by omega)
  . rw [tk,kn];simp only [xcj,xg5,xjX,xjY,xjZ,xjx,xj0,sBU,q,i1,gf,cV0,cV1,cV2,lV,sV,e1,e2,xKU (n:=k) (by omega)]
theorem xGy (r:Row) (hr:r.length<=1048576) (h:∀ v,v∈r->KOk v) (hk:(keyOf r).length<=17592186044416):xhm (r.map encV)=some (keyOf r):=by
 match r with
 | []=>rfl
 | v::t =>
  have hv:=h v (by simp)
  have hl:=hv.len;have i1:(0:Int)<((t.length+1:Nat):Int):=by omega
  have i2:0<t.length+1:=by omega
  obtain ⟨r1,r2⟩:=xLb hv.1.1;have q:=Lib.itoa_length_le v.k r1 r2;have gf:((v::t).map encV).getD 0 .top=encV v:=rfl;have e0:xaq (Lib.itoa v.k)=some (((Lib.itoa v.k).length:Int),(Lib.itoa v.k).length,byteAVs (Lib.itoa v.k)):=by
   have m1:(Lib.itoa v.k).length<=140737488355328:=by omega
   have m2:(Lib.itoa v.k).length<=4611686018427387904:=by omega
   unfold xaq xdB;simp only [xkF,Nat.mul_one,m1,m2,zn,Bool.and_self,xab,sUF]
  have e1:xeo 32 (Lib.itoa v.k).length (byteAVs (Lib.itoa v.k))=some (([]++numI v.k).length,byteAVs ([]++numI v.k)):=xCP (Lib.itoa v.k) (by rw [z8,zj];omega)
  have e2:=xD3 ((v::t).map encV) ((t.length+1:Nat):Int) 0 v hv [] (by simp)
  have kn:keyV v=[]++numI v.k++numI v.i++numI (v.t.length:Int)++v.t:=by rw [xwR];simp
  have e3:=xzS v.t ([]++numI v.k++numI v.i++numI (v.t.length:Int)) (by rw [<-kn];omega)
  rw [<-kn] at e3;have e4:=xGw (v::t) hr h hk t.length 1 (by rw [zF];omega)
  have tk:keyOf ((v::t).take 1)=keyV v:=by simp [keyOf]
  rw [tk,zF] at e4;have e4:Iter (xcj ((v::t).map encV) ((t.length+1:Nat):Int)) ((1:Int),(keyV v).length,byteAVs (keyV v))=_:=e4;have hne:(keyOf (v::t)).length≠0:=fun e=>xzz v (keyOf t) (by rw [<-xkH];exact List.length_eq_zero_iff.1 e)
  unfold xhm xoB xgm xmZ xmx xm0 xm1 xm2 xm3 xm4 xm5 xm6 xb3;simp only [za,zF,i1,i2,gf,cV0,cV1,cV2,lV,sV,r1,r2,e0,e1,e2,e3,e4,zn,xab,Bool.and_self,beq_self_eq_true,zk,zh,xkF,xyE,xBh,ne_eq,hne,not_false_eq_true,sUF]
end Go.Sim.M
end
noncomputable section
set_option maxRecDepth 100000
namespace Go.Sim.M
open Go.RowKit
theorem xpI {σ ρ α β:Type} {step:σ->Option (σ⊕ρ)} (l:List α) (g:α->List β) (st:Nat->List β->σ) (rr:List β->ρ) (D0:List β) (c:Nat) (hc:∀ a,a∈l->(g a).length<=c)
  (hs:∀ (n:Nat) (h:n<l.length) (D:List β),D.length<=D0.length+c*n->step (st n D)=some (.inl (st (n+1) (D++g l[n]))))
  (he:∀ D:List β,step (st l.length D)=some (.inr (rr D))):Iter step (st 0 D0)=some (rr (D0++l.flatMap g)):=by
 have key:∀ (d n:Nat) (D:List β),n+d=l.length->D.length<=D0.length+c*n->Iter step (st n D)=some (rr (D++(l.drop n).flatMap g)):=by
  intro d;induction d with
  | zero =>
   intro n D h hD;have:n=l.length:=by omega
   subst this;rw [zq (zd _),List.flatMap_nil,zD];exact xad (he D)
  | succ d ih =>
   intro n D h hD;have hn:n<l.length:=by omega
   have h2:(D++g l[n]).length<=D0.length+c*(n+1):=by
    rw [z8,Nat.mul_add,Nat.mul_one];have:=hc l[n] (zo hn);omega
   rw [xal (hs n hn D hD),ih (n+1) (D++g l[n]) (by omega) h2,xaE hn,zR,zw]
 have:=key l.length 0 D0 (by omega) (by simp)
 simpa using this
theorem xv8 {α β:Type} [Nonempty β] {l:List α} {Q:α->β->Prop} (h:∀ a,a∈l->∃ b,Q a b):∃ L:α->β,∀ a,a∈l->Q a (L a):=by
 classical
 refine ⟨fun a=>if ha:a∈l then (h a ha).choose else Classical.choice inferInstance,fun a ha=>?_⟩
 simp only [dif_pos ha];exact (h a ha).choose_spec
theorem xBT {α β:Type} (g:α->List β) (f:α->β) (p:α->Bool) (h:∀ a,g a=if p a=true then [f a] else []):∀ l:List α,l.flatMap g=(l.filter p).map f
 | []=>rfl
 | a::l=>by
  rw [zR,xBT g f p h l,h a,List.filter_cons];cases p a<;>simp
theorem xEf (row:Row) (i:Int):xit (row.map encV) i=some (trip (atV row i)):=xBC row i
theorem xvq (row:Row) (l:List Int) (hl:l.length<=1048576):Iter (xeB (row.map encV) (l.map encN)) ((0:Nat),(0:Int),[])=some ((l.flatMap (fun (f:Int)=>[atV row f])).length,(l.flatMap (fun (f:Int)=>[atV row f])).map encV):=by
 refine xgX l (fun (f:Int)=>[atV row f]) encV 1 (fun f hf=>?_) (fun n h D hD=>?_) (fun D=>?_)
 . simp
 . have h1:(n:Int)<(l.length:Int):=by omega
   have m1:(D.length+1)*32<=140737488355328:=by omega
   have m2:D.length+1<=4611686018427387904:=by omega
   have gf:(l.map encN).getD n .top=encN l[n]:=xaa _ _ _ h;simp only [xeB,xny,xiw,xiy,sBU,h,h1,gf,cN,sN,xEf,trip,m1,m2,xKU (n:=n) (by omega)]
   simp [encV]
 . simp only [xeB,xny,xiw,xiy,za,zy,zm,xac,sUF]
theorem xAK (row:Row) (ks:List Int) (hk:ks.length<=1048576):xiv (row.map encV) (ks.map encN)=some ((pick row ks).map encV):=by
 have e:=xvq row ks hk;rw [xLg] at e;change Iter _ _=some ((pick row ks).length,(pick row ks).map encV) at e;have tt:List.take (pick row ks).length ((pick row ks).map encV)=(pick row ks).map encV:=zi (by simp)
 unfold xiv xvr;simp only [xqd,xqe,xqf,za,e,zn,zS,xab,zk,zh,zH,zr,tt,zd,sUF]
theorem xH2 (row:Row) (ks:List Int) (hk:ks.length<=1048576):xlW (row.map encV) (ks.map encN)=some (xK3 row ks):=by
 have e:=xss (step:=xbk (row.map encV) (ks.map encN)) ks (fun k=>(k:Int)) (fun i=>br ((atV row i).k==0) (some (true,true,())) none) (false,false,()) (fun k h=>by
  have h1:(k:Int)<(ks.length:Int):=by omega
  have gf:(ks.map encN).getD k .top=encN ks[k]:=xaa _ _ _ h;simp only [xbk,xkh,sBU,h,h1,gf,cN,sN,xEf,trip,xzH,xsy,xsw,xKU (n:=k) (by omega)]) (by
  simp only [xbk,xkh,za,zy,zm,xac,sUF]) ks.length 0 (by simp)
 rw [zr,xwJ] at e;have e:Iter (xbk (row.map encV) (ks.map encN)) (0:Int)=_:=e;unfold xlW xsA;rw [e];show _=some (ks.any fun i=>(atV row i).k==0)
 cases ks.any fun i=>(atV row i).k==0<;>rfl
theorem xHx (n:List UInt8) (cs fs ck:List AV) (key:List Int) (row:Row) (hk:key.length<=1048576):xpT n cs (key.map encN) fs ck (row.map encV)=some ((pick row key).map encV):=by
 unfold xpT xwr;rw [xAK row key hk];rfl
theorem xGV (cols:List Int) (t:List UInt8) (row:Row) (hk:cols.length<=1048576):xn4 (cols.map encN) t (row.map encV)=some (!xK3 row cols):=by
 unfold xn4 xtR;rw [xH2 row cols hk];rfl
def Txt (r:Row):Prop:=∀ v,v∈r->v.wf/\v.t.length<=8388608
theorem Txt.at {r:Row} (h:Txt r) (i:Int):(atV r i).wf/\(atV r i).t.length<=8388608:=by
 unfold atV;split
 . exact ⟨⟨by decide,by decide,by simp [maxLen]⟩,by simp⟩
 . rw [z7];cases hg:r[i.toNat]? with
   | none=>exact ⟨⟨by decide,by decide,by simp [maxLen]⟩,by simp⟩
   | some v=>exact h v (List.mem_of_getElem? hg)
theorem xCm {r:Row} {ks:List Int} {v:Val} (h:v∈pick r ks):∃ i,i∈ks/\v=atV r i:=by
 obtain ⟨i,hi,e⟩:=zK.1 h;exact ⟨i,hi,e.symm⟩
theorem Txt.kok {r:Row} (h:Txt r) (ks:List Int):∀ v,v∈pick r ks->KOk v:=fun v hv=>by
 obtain ⟨i,_,rfl⟩:=xCm hv;have:=h.at i;exact ⟨this.1,by omega⟩
theorem xLu {c:Nat}:∀ {r:Row},(∀ v,v∈r->(keyV v).length<=c)->(keyOf r).length<=c*r.length
 | [],_=>by simp [keyOf]
 | v::r,h=>by
  have h1:=h v (by simp)
  have h2:=xLu (r:=r) fun x hx=>h x (by simp [hx])
  rw [xkH,z8,zF,Nat.mul_add,Nat.mul_one];omega
theorem Txt.len {r:Row} (h:Txt r) {ks:List Int} (hk:ks.length<=1048576):(keyOf (pick r ks)).length<=17592186044416:=by
 have h1:(keyOf (pick r ks)).length<=8388674*(pick r ks).length:=xLu fun v hv=>by
  obtain ⟨i,_,rfl⟩:=xCm hv;have:=h.at i;have:=xwQ this.1 (by omega)
  omega
 rw [xwY] at h1;omega
theorem xJ4 (l:List AV):xfC l=xhm l:=rfl
theorem xGk {r:Row} (h:Txt r) {ks:List Int} (hk:ks.length<=1048576):xfC ((pick r ks).map encV)=some (keyOf (pick r ks)):=by
 rw [xJ4];exact xGy _ (by rw [xwY];exact hk) (h.kok ks) (h.len hk)
end Go.Sim.M
end
noncomputable section
set_option maxRecDepth 100000
namespace Go.Sim.M
open Go.RowKit Go.Sim.Srt
abbrev Asc (l:List Int):Prop:=l.Pairwise fun x y=>x<y
def insI:List Int->Int->List Int
 | [],n=>[n]
 | x::l,n=>if x<n then x::insI l n else if n<x then n::x::l else x::l
theorem xoD:∀ (l:List Int) (n x:Int),x∈insI l n↔x=n\/x∈l
 | [],n,x=>by simp [insI]
 | y::l,n,x=>by
  unfold insI;split
  . rw [zC,xoD l n x,zC];constructor<;>rintro (h|h|h)<;>simp [h]
  . split
    . simp
    . have:y=n:=by omega
      subst this;simp
theorem xru:∀ {l:List Int},Asc l->∀ n,Asc (insI l n)
 | [],_,n=>by simp [insI,Asc]
 | y::l,h,n=>by
  obtain ⟨h1,h2⟩:=zM.1 h;unfold insI;split
  . refine zM.2 ⟨fun z hz=>?_,xru h2 n⟩
    rcases (xoD l n z).1 hz with rfl|hz
    . assumption
    . exact h1 z hz
  . split
    . rename_i hn;refine zM.2 ⟨fun z hz=>?_,h⟩
      rcases zC.1 hz with rfl|hz
      . exact hn
      . have:=h1 z hz;omega
    . exact h
theorem xik:∀ (l:List Int) (n:Int),(insI l n).length<=l.length+1
 | [],n=>by simp [insI]
 | y::l,n=>by
  unfold insI;have:=xik l n;repeat' split
  all_goals simp
  all_goals omega
theorem xwM (n:Int):∀ l:List Int,∃ m,m<=l.length/\(∀ k (h:k<m) (h2:k<l.length),l[k]<n)/\(∀ h:m<l.length,¬ l[m]<n)/\insI l n=l.take m++(if h:m<l.length then (if n<l[m] then n::l.drop m else l.drop m) else [n])
 | []=>⟨0,zd _,fun k h=>by omega,fun h=>by simp at h,by simp [insI]⟩
 | y::l=>by
  by_cases hy:y<n
  . obtain ⟨m,h1,h2,h3,h4⟩:=xwM n l;refine ⟨m+1,by simpa using h1,fun k h hk=>?_,fun h=>?_,?_⟩
    . cases k with
      | zero=>simpa using hy
      | succ k=>simpa using h2 k (by omega) (by simpa using hk)
    . simpa using h3 (by simpa using h)
    . unfold insI;rw [if_pos hy,h4];by_cases hm:m<l.length<;>simp [hm]
  . refine ⟨0,zQ _,fun k h=>by omega,fun _=>by simpa using hy,?_⟩
    unfold insI;rw [if_neg hy];by_cases h:n<y<;>simp [h]
structure StepI (N:Int->Int) (T:Int) (S:List Per):Prop where
 asc:S.Pairwise fun a b=>a.1<b.1
 mem:∀ s,s∈S↔0<=s.1/\s.1<T/\s.2=N s.1/\(s.1=0\/N (s.1 - 1)≠s.2)
 last:0<T->∃ S' f,S=S'++[(f,N (T - 1))]
theorem StepI.nil (N:Int->Int):StepI N 0 []:=⟨List.Pairwise.nil,fun s=>by simp;omega,fun h=>by omega⟩
def putS (S:List Per) (f n:Int):List Per:=match S.getLast? with
 | some s=>if s.2=n then S else S++[(f,n)]
 | none=>S++[(f,n)]
theorem StepI.unique {N:Int->Int} {T:Int} {S S':List Per} (h:StepI N T S) (h':StepI N T S'):S=S' :=
 xuO xHq xso (h.asc.imp fun {x y} q=>by
  have h1:cmpP x y<=0:=xtA.2 (.inl q);by_cases h0:cmpP x y=0
  . have:=xso x y h0;subst this;omega
  . omega) (h'.asc.imp fun {x y} q=>by
  have h1:cmpP x y<=0:=xtA.2 (.inl q);by_cases h0:cmpP x y=0
  . have:=xso x y h0;subst this;omega
  . omega) fun s=>by rw [h.mem,h'.mem]
theorem StepI.put {N:Int->Int} {T T':Int} {S:List Per} (h:StepI N T S) (h0:0<=T) (q:T<T') (hc:∀ t,T<=t->t<T'->N t=N T):StepI N T' (putS S T (N T)):=by
 rcases Int.lt_or_eq_of_le h0 with hp|hz
 . obtain ⟨S',f,rfl⟩:=h.last hp;unfold putS;rw [List.getLast?_append];simp only [List.getLast?_singleton,Option.some_or];by_cases he:N (T - 1)=N T
   . rw [if_pos he];refine ⟨h.asc,fun s=>?_,fun _=>⟨S',f,by rw [he,hc (T' - 1) (by omega) (by omega)]⟩⟩
     rw [h.mem];constructor
     . rintro ⟨a,b,c,d⟩;exact ⟨a,by omega,c,d⟩
     . rintro ⟨a,b,c,d⟩;refine ⟨a,?_,c,d⟩;rcases Int.lt_or_le s.1 T with hs|hs
       . exact hs
       . exfalso;have e1:=hc s.1 hs b;rcases d with d|d
         . omega
         . rcases Int.lt_or_eq_of_le hs with h2|h2
           . have e2:=hc (s.1 - 1) (by omega) (by omega)
             exact d (by rw [e2,c,e1])
           . rw [<-h2] at d c;exact d (by rw [he,c])
   . rw [if_neg he];refine ⟨?_,fun s=>?_,fun _=>⟨_,T,by rw [hc (T' - 1) (by omega) (by omega)]⟩⟩
     . rw [List.pairwise_append];refine ⟨h.asc,List.pairwise_singleton _ _,fun a ha b hb=>?_⟩
       simp only [zv] at hb;subst hb;exact ((h.mem a).1 ha).2.1
     . rw [zG,h.mem,zv];constructor
       . rintro (⟨a,b,c,d⟩|rfl)
         . exact ⟨a,by omega,c,d⟩
         . exact ⟨h0,q,rfl,.inr he⟩
       . rintro ⟨a,b,c,d⟩;rcases Int.lt_or_le s.1 T with hs|hs
         . exact .inl ⟨a,hs,c,d⟩
         . right;have e1:=hc s.1 hs b;rcases Int.lt_or_eq_of_le hs with h2|h2
           . exfalso;have e2:=hc (s.1 - 1) (by omega) (by omega)
             rcases d with d|d
             . omega
             . exact d (by rw [e2,c,e1])
           . exact Prod.ext h2.symm (by rw [c,e1])
 . subst hz;have hS:S=[]:=by
    rw [List.eq_nil_iff_forall_not_mem];intro s hs;have:=(h.mem s).1 hs;omega
   subst hS;refine ⟨by simp [putS],fun s=>?_,fun _=>⟨[],0,by simp [putS];exact (hc (T' - 1) (by omega) (by omega)).symm⟩⟩
   simp only [putS,List.getLast?_nil,zU,zv];constructor
   . rintro rfl;exact ⟨Int.le_refl _,q,rfl,.inl rfl⟩
   . rintro ⟨a,b,c,d⟩;have e1:=hc s.1 a b;rcases Int.lt_or_eq_of_le a with h2|h2
     . exfalso;have e2:=hc (s.1 - 1) (by omega) (by omega)
       rcases d with d|d
       . omega
       . exact d (by rw [e2,c,e1])
     . exact Prod.ext h2.symm (by rw [c,e1])
theorem xCu (S:List Per) (f n:Int):(putS S f n).length<=S.length+1:=by
 unfold putS;repeat' split
 all_goals simp
def sumC (l:List Cnt) (t:Int):Int:=(l.map fun c=>if hasP c.1 t=true then c.2 else 0).sum
theorem xmR (c:Cnt) (l:List Cnt) (t:Int):sumC (c::l) t=(if hasP c.1 t=true then c.2 else 0)+sumC l t:=by simp [sumC]
theorem xDA (a b:List Cnt) (t:Int):sumC (a++b) t=sumC a t+sumC b t:=by simp [sumC]
theorem xCI (t:Int):sumC [] t=0:=rfl
theorem xzc {T T':Int}:∀ {l:List Cnt},(∀ c,c∈l->pv c.1=true->¬ (T<c.1.1/\c.1.1<T')/\¬ (T<c.1.2/\c.1.2<T'))->∀ t,T<=t->t<T'->sumC l t=sumC l T
 | [],_,t,_,_=>rfl
 | c::l,h,t,h1,h2=>by
  rw [xmR,xmR,xzc (fun c hc=>h c (by simp [hc])) t h1 h2]
  congr 2;cases hv:pv c.1 with
  | false=>simp [hasP,hv]
  | true =>
   have:=h c (by simp) hv
   simp only [hasP,hv,Bool.true_and,zf,zl,eq_iff_iff];omega
theorem xCH (B:Int) (hB:0<=B) (t:Int):∀ l:List Cnt,(∀ c,c∈l->-B<=c.2/\c.2<=B)->-(B*l.length)<=sumC l t/\sumC l t<=B*l.length
 | [],_=>by simp [xCI]
 | c::l,h=>by
  have ih:=xCH B hB t l fun c hc=>h c (by simp [hc])
  have hc:=h c (by simp)
  rw [xmR,zF,show B*((l.length+1:Nat):Int)=B*(l.length:Int)+B by rw [Int.natCast_add,Int.mul_add];simp]
  split<;>omega
theorem xAO (ps:List Per) (t:Int):sumC (ps.map fun p=>(p,(1:Int))) t=(ps.countP (hasP · t):Nat):=by
 induction ps with
 | nil=>rfl
 | cons p ps ih =>
  rw [zV,xmR,ih,List.countP_cons];split<;>simp_all<;>omega
theorem xJ9 (l:List Int) (n:Int) (hl:l.length<=1048576) (m:Nat) (hm:m<=l.length) (h1:∀ k (h:k<m) (h2:k<l.length),l[k]<n) (h2:∀ h:m<l.length,¬ l[m]<n) :
  Iter (xck (l.map encN) n) ((0:Nat),(0:Int),[])=some (m,(m:Int),(l.take m).map encN):=by
 refine xme (fun k=>((k,(k:Int),(l.take k).map encN):Nat×Int×List AV)) m _ (fun k hk=>?_) ?_ m 0 (by omega)
 . have q:k<l.length:=by omega
   have i1:(k:Int)<(l.length:Int):=by omega
   have i2:=h1 k hk q;have m1:(k+1)*8<=140737488355328:=by omega
   have m2:k+1<=4611686018427387904:=by omega
   have tl:(l.take k).length=k:=by rw [zt];omega
   have gf:(l.map encN).getD k .top=encN l[k]:=xaa _ _ _ q;simp only [xck,xhc,sBU,q,i1,i2,gf,cN,sN,tl,m1,m2,xKU (n:=k) (by omega)]
   rw [List.take_add_one,ze q,zx];rfl
 . by_cases hml:m<l.length
   . have i1:(m:Int)<(l.length:Int):=by omega
     have i2:=h2 hml;have gf:(l.map encN).getD m .top=encN l[m]:=xaa _ _ _ hml;simp only [xck,xhc,sBU,hml,i1,i2,gf,cN,sN]
   . have i1:¬ (m:Int)<(l.length:Int):=by omega
     simp only [xck,xhc,sBU,i1]
theorem xB1 (l:List Int) (hl:l.length<=1048576):∀ (d i:Nat) (D:List Int),i+d=l.length->D.length<=1048576+i ->
  Iter (xcl (l.map encN)) (D.length,(i:Int),D.map encN)=some ((D++l.drop i).length,(D++l.drop i).map encN)
 | 0,i,D,h,hD=>by
  obtain rfl:i=l.length:=by omega
  rw [zq (zd _),zD];refine xad ?_;simp only [xcl,xk4,za,zy,zm,xac,sUF]
 | d+1,i,D,h,hD=>by
  have q:i<l.length:=by omega
  have i1:(i:Int)<(l.length:Int):=by omega
  have m1:(D.length+1)*8<=140737488355328:=by omega
  have m2:D.length+1<=4611686018427387904:=by omega
  have gf:(l.map encN).getD i .top=encN l[i]:=xaa _ _ _ q;rw [xal (s':=((D++[l[i]]).length,((i+1:Nat):Int),(D++[l[i]]).map encN)) ?_,xB1 l hl d (i+1) (D++[l[i]]) (by omega) (by rw [z8];simp;omega),xaE q,zw]
  . rfl
  . simp only [xcl,xk4,sBU,q,i1,gf,cN,sN,m1,m2,xKU (n:=i) (by omega)]
    simp [encN]
theorem xsr (l:List Int) (n:Int) (hl:l.length<=1048576):xbF (l.map encN) n=some ((insI l n).map encN):=by
 obtain ⟨m,hm,h1,h2,h3⟩:=xwM n l;have e0:=xJ9 l n hl m hm h1 h2;have tl:(l.take m).length=m:=by rw [zt];omega
 have e1:=xB1 l hl (l.length - m) m (l.take m++[n]) (by omega) (by rw [z8,tl];simp;omega)
 have e2:=xB1 l hl (l.length - m) m (l.take m) (by omega) (by omega)
 rw [z8,tl,zx] at e1;rw [tl] at e2;have e1:Iter (xcl (l.map encN)) (m+1,(m:Int),(l.take m).map encN++[AV.int .i64 n])=some ((l.take m++[n]++l.drop m).length,(l.take m++[n]++l.drop m).map encN):=e1;have m1:(m+1)*8<=140737488355328:=by omega
 have m2:m+1<=4611686018427387904:=by omega
 rw [h3];unfold xbF xtI xmh;by_cases hml:m<l.length
 . have i1:((m:Int)==(l.length:Int))=false:=by simp;omega
   have i2:(m:Int)<(l.length:Int):=by omega
   have gf:(l.map encN).getD m .top=encN l[m]:=xaa _ _ _ hml;rw [dif_pos hml];by_cases hn:n<l[m]
   . have i3:l[m]>n:=hn;simp only [xa0,xgp,xgq,xgr,xjD,xgs,xgt,xgu,xgv,xgw,xec,xir,xed,xee,xfQ,xfR,e0,zk,zh,za,i1,i2,hml,gf,cN,sN,i3,m1,m2,tl,e1,sBU,sOO,↓reduceIte,zw,List.singleton_append]
   . have i3:¬ l[m]>n:=hn;simp only [xa0,xgp,xgq,xgr,xjD,xgs,xgt,xgu,xgv,xgw,xec,xir,xed,xee,xfQ,xfR,e0,zk,zh,za,i1,i2,hml,gf,cN,sN,i3,e2,sBU,sOO,↓reduceIte]
 . have i1:((m:Int)==(l.length:Int))=true:=by simp;omega
   rw [dif_neg hml];have hd:l.drop m=[]:=zq (by omega)
   rw [hd,zD] at e1;simp only [xa0,xgp,xgq,xgr,xjD,xgs,xgt,xgu,xgv,xgw,xec,xir,xed,xee,xfQ,xfR,e0,zk,zh,za,i1,m1,m2,tl,e1,sBU,sOO]
theorem xrh {α:Type} (l:List α):l=[]\/∃ m a,l=m++[a]:=by
 rcases List.eq_nil_or_concat l with h|⟨m,a,h⟩
 . exact .inl h
 . exact .inr ⟨m,a,by rw [h,List.concat_eq_append]⟩
theorem xEe (S:List Per) (f n:Int) (hS:S.length<=16777216):∃ p,xpK S.length f n (S.map encP)=some p/\br p.1 p.2.1.1 p.2.2.1=(putS S f n).length/\br p.1 p.2.1.2 p.2.2.2=(putS S f n).map encP:=by
 have m1:(S.length+1)*16<=140737488355328:=by omega
 have m2:S.length+1<=4611686018427387904:=by omega
 rcases xrh S with rfl|⟨S',s,rfl⟩
 . refine ⟨(false,(0,[]),(1,[encP (f,n)])),?_,rfl,rfl⟩;unfold xpK xpB xix;simp [xaB,encP,sUF]
 . have hk:IntKind.i64.wrap (((S'++[s]).length:Int) - 1)=((S'.length:Nat):Int):=by
    rw [z8,xbn (by simp<;>omega) (by simp at hS |-<;>omega)];simp
   have g1:((S'++[s]).length:Int)>0:=by simp<;>omega
   have g2:(S'.length:Int)<((S'++[s]).length:Int):=by simp<;>omega
   have g3:S'.length<(S'++[s]).length:=by simp
   have gf:((S'++[s]).map encP).getD S'.length .top=encP s:=by
    rw [xaa _ _ _ (by simp)];simp
   have hl:(S'++[s]).getLast?=some s:=by simp
   by_cases he:s.2=n
   . refine ⟨(true,((S'++[s]).length,(S'++[s]).map encP),(0,[])),?_,?_,?_⟩
     . unfold xpK xpB xix;simp only [hk,g1,g2,g3,gf,sBU,cP0,cP1,lP,sP,sP0,sP1,he]
     . simp only [xab,putS,hl,if_pos he,sUF]
     . simp only [xab,putS,hl,if_pos he,sUF]
   . have he':(s.2==n)=false:=by simp [he]
     refine ⟨(false,(0,[]),((S'++[s]).length+1,(S'++[s]).map encP++[encP (f,n)])),?_,?_,?_⟩
     . unfold xpK xpB xix;simp only [hk,g1,g2,g3,gf,sBU,cP0,cP1,lP,sP,sP0,sP1,he',m1,m2];rfl
     . simp only [xac,putS,hl,if_neg he,sUF];simp
     . simp only [xac,putS,hl,if_neg he,sUF];simp
def ptsC (l:List Cnt):List Int:=l.foldl (fun P c=>if pv c.1=true then insI (insI P c.1.1) c.1.2 else P) [0]
theorem xCs (l:List Cnt) (c:Cnt):ptsC (l++[c])=if pv c.1=true then insI (insI (ptsC l) c.1.1) c.1.2 else ptsC l:=by simp [ptsC]
theorem xCt:∀ l:List Cnt,Asc (ptsC l.reverse)/\∀ x,x∈ptsC l.reverse↔x=0\/∃ c,c∈l/\pv c.1=true/\(x=c.1.1\/x=c.1.2)
 | []=>by simp [ptsC,Asc]
 | c::l=>by
  obtain ⟨h1,h2⟩:=xCt l;rw [List.reverse_cons,xCs];split
  . rename_i hv;refine ⟨xru (xru h1 _) _,fun x=>?_⟩
    rw [xoD,xoD,h2];constructor
    . rintro (h|h|h|⟨c',a,b,d⟩)
      . exact .inr ⟨c,by simp,hv,.inr h⟩
      . exact .inr ⟨c,by simp,hv,.inl h⟩
      . exact .inl h
      . exact .inr ⟨c',by simp [a],b,d⟩
    . rintro (h|⟨c',a,b,d⟩)
      . exact .inr (.inr (.inl h))
      . rcases zC.1 a with rfl|a
        . rcases d with d|d
          . exact .inr (.inl d)
          . exact .inl d
        . exact .inr (.inr (.inr ⟨c',a,b,d⟩))
  . rename_i hv;refine ⟨h1,fun x=>?_⟩
    rw [h2];constructor
    . rintro (h|⟨c',a,b,d⟩)
      . exact .inl h
      . exact .inr ⟨c',by simp [a],b,d⟩
    . rintro (h|⟨c',a,b,d⟩)
      . exact .inl h
      . rcases zC.1 a with rfl|a
        . exact absurd b hv
        . exact .inr ⟨c',a,b,d⟩
theorem xKf (l:List Cnt):Asc (ptsC l)/\∀ x,x∈ptsC l↔x=0\/∃ c,c∈l/\pv c.1=true/\(x=c.1.1\/x=c.1.2):=by
 have:=xCt l.reverse;simpa using this
theorem xKJ (l:List Cnt) (hl:l.length<=262144):Iter (xfS (l.map encC)) ([AV.int IntKind.i64 (0:Int)],(0:Int))=some ((ptsC l).map encN)/\(ptsC l).length<=2*l.length+1:=by
 have q:∀ l:List Cnt,(ptsC l.reverse).length<=2*l.length+1:=fun l=>by
  induction l with
  | nil=>simp [ptsC]
  | cons c l ih =>
   rw [List.reverse_cons,xCs];have a1:=xik (ptsC l.reverse) c.1.1;have a2:=xik (insI (ptsC l.reverse) c.1.1) c.1.2;split<;>simp<;>omega
 refine ⟨?_,by have:=q l.reverse;simpa using this⟩
 refine xst l (fun P c=>if pv c.1=true then insI (insI P c.1.1) c.1.2 else P) (fun n b=>(b.map encN,(n:Int))) (fun n b=>b.length<=2*n+1) (fun n h b hb=>?_) l.length 0 [0] (by omega) (by simp) ?_
 . have h1:(n:Int)<(l.length:Int):=by omega
   have gf:(l.map encC).getD n .top=encC l[n]:=xaa _ _ _ h;have a1:=xik b l[n].1.1;have a2:=xik (insI b l[n].1.1) l[n].1.2;have i1:=xsr b l[n].1.1 (by omega)
   have i2:=xsr (insI b l[n].1.1) l[n].1.2 (by omega)
   refine ⟨?_,by split<;>omega⟩
   simp only [xfS,xqa,xhC,sBU,h,h1,gf,cC0,cC1,cC2,lC,sC,sC3,sC2,xsH,i1,i2,xKU (n:=n) (by omega),sC0,sC1]
   cases pv l[n].1<;>simp [xab,xac,sUF]
 . simp only [zr];simp only [xfS,xqa,xhC,za,zy,zm,xac,sUF];rfl
def Tame (l:List Cnt):Prop:=l.length<=262144/\∀ c,c∈l->-1099511627776<=c.2/\c.2<=1099511627776
theorem xKK (l:List Cnt) (hl:Tame l) (P:List Int) (hP:P.length<=1048576) (on k:Nat) (hk:k<P.length) (ox:List AV):Iter (xfU (l.map encC) (P.map encN) on (k:Int)) ((0:Int),(0:Int),ox)=some (sumC l P[k],ox):=by
 have k1:(k:Int)<(P.length:Int):=by omega
 have gk:(P.map encN).getD k .top=encN P[k]:=xaa _ _ _ hk;have J:=hl.1;refine xme (fun i=>((sumC (l.take i) P[k],(i:Int),ox):Int×Int×List AV)) l.length _ (fun i hi=>?_) ?_ l.length 0 (by omega)
 . have h1:(i:Int)<(l.length:Int):=by omega
   have gf:(l.map encC).getD i .top=encC l[i]:=xaa _ _ _ hi;have hs:sumC (l.take (i+1)) P[k]=sumC (l.take i) P[k]+if hasP l[i].1 P[k]=true then l[i].2 else 0:=by
    rw [List.take_add_one,ze hi,xDA];show _+sumC [l[i]] P[k]=_;rw [xmR,xCI];omega
   have hb:=xCH 1099511627776 (by omega) P[k] (l.take i) fun c hc=>hl.2 c (List.mem_of_mem_take hc)
   have q:(l.take i).length=i:=by rw [zt];omega
   rw [q] at hb;have hc:=hl.2 l[i] (zo hi);have hw:hasP l[i].1 P[k]=true->IntKind.i64.wrap (sumC (l.take i) P[k]+l[i].2)=sumC (l.take i) P[k]+l[i].2:=fun _=>xbn (by omega) (by omega)
   simp only [xfU,xqb,sBU,hi,h1,hk,k1,gf,gk,cC0,cC1,cC2,lC,sC,sC3,sC2,cN,sN,xw0,xKU (n:=i) (by omega),hs]
   cases hc:hasP l[i].1 P[k] with
   | false=>simp [xac,sUF]
   | true=>rw [xab,hw hc];rfl
 . simp only [xfU,xqb,za,zy,zm,xac,y7,sUF]
theorem xKj (l:List Cnt) (hl:Tame l):∃ S,xw3 (l.map encC)=some (S.map encP)/\StepI (sumC l) 1099511627776 S/\S.length<=2*l.length+1:=by
 obtain ⟨e0,aj⟩:=xKJ l hl.1;obtain ⟨V,J⟩:=xKf l;generalize hP:ptsC l=P at *;have ak:=hl.1;have Q:∀ x,x∈P->0<=x/\x<=1099511627776:=fun x hx=>by
  rcases (J x).1 hx with rfl|⟨c,_,hv,h⟩
  . omega
  . have:=xbv.1 hv;rcases h with rfl|rfl<;>omega
 obtain ⟨m,hm,Z,U⟩:∃ m,m<=P.length/\(∀ k (h:k<P.length),k<m->P[k]<1099511627776)/\∀ h:m<P.length,¬ P[m]<1099511627776:=by
  obtain ⟨m,a,b,c,_⟩:=xwM 1099511627776 P;exact ⟨m,a,fun k h hk=>b k hk h,c⟩
 let G:Nat->List Per:=fun k=>(P.take k).foldl (fun S p=>putS S p (sumC l p)) []
 have hG:∀ k (h:k<P.length),G (k+1)=putS (G k) P[k] (sumC l P[k]):=fun k h=>by
  simp only [G];rw [List.take_add_one,ze h,List.foldl_append];rfl
 have ab:∀ k,k<=P.length->(G k).length<=k:=fun k=>by
  induction k with
  | zero=>intro _;simp [G]
  | succ k ih=>intro h;rw [hG k (by omega)];have:=xCu (G k) P[k] (sumC l P[k]);have:=ih (by omega);omega
 have Y:0<P.length:=List.length_pos_of_mem ((J 0).2 (.inl rfl));have q:P[0]=0:=by
  have h0:=(Q P[0] (zo Y)).1;obtain ⟨j,hj,af⟩:=zp.1 ((J 0).2 (.inl rfl));rcases Nat.eq_zero_or_pos j with rfl|ac
  . exact af
  . have:=zB.1 V 0 j Y hj ac;omega
 have al:0<m:=by
  rcases Nat.eq_zero_or_pos m with rfl|h
  . exact absurd (by rw [q];omega) (U Y)
  . exact h
 have nb:∀ k (h:k<P.length) T',(∀ h2:k+1<P.length,T'<=P[k+1])->T'<=1099511627776->∀ t,P[k]<=t->t<T'->sumC l t=sumC l P[k]:=fun k h T' hT hF t h1 h2=>by
  have no:∀ x,x∈P->¬ (P[k]<x/\x<T'):=fun x hx ⟨a,b⟩=>by
   obtain ⟨j,hj,rfl⟩:=zp.1 hx;rcases Nat.lt_trichotomy j k with aa|rfl|aa
   . have:=zB.1 V j k hj h aa;omega
   . omega
   . rcases Nat.lt_or_eq_of_le aa with h3|h3
     . have:=zB.1 V (k+1) j (by omega) hj h3
       have:=hT (by omega);omega
     . have h4:j=k+1:=h3.symm;subst h4;have:=hT hj;omega
  refine xzc (T:=P[k]) (T':=T') (fun c hc hv=>⟨no _ ((J _).2 (.inr ⟨c,hc,hv,.inl rfl⟩)),no _ ((J _).2 (.inr ⟨c,hc,hv,.inr rfl⟩))⟩) t h1 h2
 have inv:∀ k (h:k<P.length),k<m->StepI (sumC l) P[k] (G k):=fun k=>by
  induction k with
  | zero=>intro h _;rw [q];exact .nil _
  | succ k ih =>
   intro h ai;rw [hG k (by omega)]
   have h1:=zB.1 V k (k+1) (by omega) h (by omega)
   have h2:=Z (k+1) h ai;exact (ih (by omega) (by omega)).put (Q _ (zo (by omega))).1 h1 (nb k (by omega) P[k+1] (fun _=>Int.le_refl _) (by omega))
 have ag:StepI (sumC l) 1099511627776 (G m):=by
  obtain ⟨k,rfl⟩:∃ k,m=k+1:=⟨m - 1,by omega⟩
  rw [hG k (by omega)]
  exact (inv k (by omega) (by omega)).put (Q _ (zo (by omega))).1 (Z k (by omega) (by omega)) (nb k (by omega) _ (fun h2=>by have:=U h2;omega) (Int.le_refl _))
 refine ⟨G m,?_,ag,by have:=ab m hm;omega⟩
 have e1:Iter (xfT (l.map encC) (P.map encN)) ((0:Nat),(0:Int),[])=some ((G m).length,(G m).map encP):=by
  refine xme (fun k=>(((G k).length,(k:Int),(G k).map encP):Nat×Int×List AV)) m _ (fun k hk=>?_) ?_ m 0 (by omega)
  . have O:k<P.length:=by omega
    have k1:(k:Int)<(P.length:Int):=by omega
    have k2:=Z k O hk;have gk:(P.map encN).getD k .top=encN P[k]:=xaa _ _ _ O;have e2:=xKK l hl P (by omega) (G k).length k O ((G k).map encP)
    have am:=ab k (by omega)
    obtain ⟨p,ad,ae,ah⟩:=xEe (G k) P[k] (sumC l P[k]) (by omega)
    simp only [xfT,xlV,xhD,xhE,xhF,xhG,xhH,xhI,xhJ,sBU,O,k1,k2,gk,cN,sN,e2,ad,ae,ah,xKU (n:=k) (by omega),hG k O]
  . by_cases W:m<P.length
    . have k1:(m:Int)<(P.length:Int):=by omega
      have k2:=U W;have gk:(P.map encN).getD m .top=encN P[m]:=xaa _ _ _ W;simp only [xfT,xlV,xhD,xhE,xhF,xhG,xhH,xhI,xhJ,sBU,W,k1,k2,gk,cN,sN]
    . have k1:¬ (m:Int)<(P.length:Int):=by omega
      simp only [xfT,xlV,xhD,xhE,xhF,xhG,xhH,xhI,xhJ,sBU,k1]
 unfold xw3 xyY;simp only [xs2,xs3,xs4,xs5,e0,zh,zk,xab,e1,sOO,sUF]
end Go.Sim.M
end
noncomputable section
set_option maxRecDepth 100000
namespace Go.Sim.M
open Go.RowKit Go.Sim.Srt Go.Sort
def chg (c:Cnt):List Per:=if pv c.1=true then [(c.1.1,c.2),(c.1.2,-c.2)] else []
theorem xDN {l:List Cnt}:∀ s,s∈l.flatMap chg->0<=s.1/\s.1<=1099511627776:=fun s hs=>by
 obtain ⟨c,hc,h⟩:=y6.1 hs;unfold chg at h;split at h
 . rename_i hv;have:=xbv.1 hv;simp only [zC,List.not_mem_nil,or_false] at h;rcases h with rfl|rfl<;>dsimp only<;>omega
 . simp at h
theorem xIH (c:Cnt):(chg c).length<=2:=by unfold chg;split<;>simp
def sumS (S:List Per) (t:Int):Int:=(S.map fun s=>if s.1<=t then s.2 else 0).sum
theorem xwz (a b:List Per) (t:Int):sumS (a++b) t=sumS a t+sumS b t:=by simp [sumS]
theorem xId {a b:List Int} (h:a.Perm b):a.sum=b.sum:=by
 induction h with
 | nil=>rfl
 | cons x _ ih=>simp [ih]
 | swap x y l=>simp;omega
 | trans _ _ h1 h2=>rw [h1,h2]
theorem xHc {a b:List Per} (h:a.Perm b) (t:Int):sumS a t=sumS b t:=xId (h.map _)
theorem xCJ (t:Int):∀ l:List Cnt,sumS (l.flatMap chg) t=sumC l t
 | []=>rfl
 | c::l=>by
  rw [zR,xwz,xCJ t l,xmR];congr 1;unfold chg;cases hv:pv c.1 with
  | false=>simp [sumS,hasP,hv]
  | true =>
   have:=xbv.1 hv;simp only [if_true,sumS,zV,zW,List.sum_cons,List.sum_nil,hasP,hv,Bool.true_and,zf,zl];by_cases h1:c.1.1<=t<;>by_cases h2:c.1.2<=t
   . rw [if_pos h1,if_pos h2,if_neg (by omega)];omega
   . rw [if_pos h1,if_neg h2,if_pos (by omega)];omega
   . omega
   . rw [if_neg h1,if_neg h2,if_neg (by omega)];omega
theorem sum0:∀ L:List Per,(L.map fun _=>(0:Int)).sum=0
 | []=>rfl
 | _::L=>by rw [zV,List.sum_cons,sum0 L];rfl
def preS (S:List Per) (i:Nat):Int:=((S.take i).map (·.2)).sum
theorem xAz (S:List Per) (i:Nat) (h:i<S.length):preS S (i+1)=preS S i+S[i].2:=by
 unfold preS;rw [List.take_add_one,ze h,zx,List.sum_append];simp
theorem xHS (S:List Per) (i:Nat) (hi:i<=S.length) (t:Int) (h1:∀ k (h:k<S.length),k<i->S[k].1<=t) (h2:∀ k (h:k<S.length),i<=k->t<S[k].1):preS S i=sumS S t:=by
 have e:S=S.take i++S.drop i:=(List.take_append_drop i S).symm
 conv=>rhs;rw [e]
 rw [xwz];have a1:sumS (S.take i) t=preS S i:=by
  unfold sumS preS;congr 1;refine List.map_congr_left fun s hs=>?_
  obtain ⟨k,hk,rfl⟩:=zp.1 hs;rw [zt] at hk;rw [List.getElem_take,if_pos (h1 k (by omega) (by omega))]
 have a2:sumS (S.drop i) t=0:=by
  unfold sumS;have:(S.drop i).map (fun s=>if s.1<=t then s.2 else 0)=(S.drop i).map fun _=>(0:Int):=by
   refine List.map_congr_left fun s hs=>?_
   obtain ⟨k,hk,rfl⟩:=zp.1 hs;rw [y4] at hk;have:=h2 (i+k) (by omega) (by omega)
   rw [List.getElem_drop,if_neg (by omega)]
  rw [this];exact sum0 _
 omega
theorem xCq {B:Int} (hB:0<=B) (S:List Per) (h:∀ s,s∈S->-B<=s.2/\s.2<=B):∀ i,i<=S.length->-(B*i)<=preS S i/\preS S i<=B*i
 | 0,_=>by simp [preS]
 | i+1,hi=>by
  have ih:=xCq hB S h i (by omega)
  have hs:=h S[i] (zo (by omega))
  rw [xAz S i (by omega),show B*((i+1:Nat):Int)=B*(i:Int)+B by rw [Int.natCast_add,Int.mul_add];simp]
  omega
def toS (e:Per):TyS:=(Fin.ofNat 1099511627777 e.1.toNat,e.2)
def ofS (x:TyS):Per:=((x.1.val:Int),x.2)
theorem xIZ {e:Per} (h1:0<=e.1) (h2:e.1<=1099511627776):ofS (toS e)=e:=by
 have:e.1.toNat % 1099511627777=e.1.toNat:=Nat.mod_eq_of_lt (by omega)
 simp only [ofS,toS,Fin.ofNat,this,Int.toNat_of_nonneg h1]
theorem xJo (E:List Per) (h:∀ e,e∈E->0<=e.1/\e.1<=1099511627776):(E.map encP).all isS=true/\∃ S:List Per,srtS (E.map encP)=S.map encP/\S.Perm E/\S.Pairwise fun x y=>x.1<=y.1:=by
 refine ⟨?_,(pdqL cmpS (E.map toS)).map ofS,?_,?_,?_⟩
 . rw [zI];intro x hx;obtain ⟨e,he,rfl⟩:=zK.1 hx;have:=h e he;show (decide _&&decide _)=true;rw [decide_eq_true this.1,decide_eq_true this.2];rfl
 . unfold srtS;have e1:(E.map encP).map decS=E.map toS:=by rw [List.map_map];rfl
   rw [e1,List.map_map];rfl
 . have hp:=((xmM cmpS swoS (E.map toS)).1).map ofS;have e2:(E.map toS).map ofS=E:=by
    rw [List.map_map]
    conv=>rhs;rw [<-List.map_id E]
    refine List.map_congr_left fun e he=>?_
    exact xIZ (h e he).1 (h e he).2
   rwa [e2] at hp
 . rw [List.pairwise_map];refine (xs1 cmpS swoS (E.map toS)).imp fun {x y} q=>?_
   show ((x.1.val:Nat):Int)<=((y.1.val:Nat):Int);unfold cmpS at q;omega
theorem xIR (n o:Nat):xiR n o=xdd n o 0:=rfl
theorem xyf (l:List Cnt) (hl:l.length<=1048576) (ht:∀ c,c∈l->-1099511627776<=c.2/\c.2<=1099511627776):Iter (xem (l.map encC) ((l.length:Nat):Int)) ((0:Nat),(0:Int),[])=some ((l.flatMap (fun (f:Cnt)=>chg f)).length,(l.flatMap (fun (f:Cnt)=>chg f)).map encP):=by
 refine xgX l (fun (f:Cnt)=>chg f) encP 2 (fun f hf=>?_) (fun n h D hD=>?_) (fun D=>?_)
 . cases q:(pv (f).1)<;>simp [chg,q]
 . have h1:(n:Int)<(l.length:Int):=by omega
   have m1:(D.length+2)*16<=140737488355328:=by omega
   have m2:D.length+2<=4611686018427387904:=by omega
   have gf:(l.map encC).getD n .top=encC l[n]:=xaa _ _ _ h;have hm:=ht l[n] (zo h);have hw:IntKind.i64.wrap (0 - l[n].2)=-l[n].2:=by rw [xbn (by omega) (by omega)];omega
   simp only [xem,xl3,sBU,h,h1,gf,cC0,cC1,cC2,lC,sC,sC3,sC2,xmN,hw,m1,m2,xKU (n:=n) (by omega)]
   cases q:(pv (l[n]).1)<;>simp [encP,xab,xac,encR,chg,q,sUF]
 . simp only [xem,xl3,za,zy,zm,xac,sUF]
theorem xwL (S:List Per) (hS:S.length<=1048576) (hb:∀ s,s∈S->-1099511627776<=s.2/\s.2<=1099511627776) (on:Nat) (at':Int) (ox:List AV):∀ (d i:Nat),i+d=S.length->∃ j:Nat,i<=j/\j<=S.length/\(∀ k (h:k<S.length),i<=k->k<j->S[k].1=at')/\(∀ h:j<S.length,S[j].1≠at') /\
  Iter (xdd S.length on at') (preS S i,(i:Int),S.map encP,ox)=some (preS S j,(j:Int),S.map encP,ox)
 | 0,i,h=>by
  refine ⟨i,zd _,by omega,fun k _ h1 h2=>by omega,fun h=>by omega,xad ?_⟩
  have i1:¬ (i:Int)<(S.length:Int):=by omega
  simp only [xdd,xi5,xia,i1,zm,xac,sUF]
 | d+1,i,h=>by
  have hi:i<S.length:=by omega
  have i1:(i:Int)<(S.length:Int):=by omega
  have gf:(S.map encP).getD i .top=encP S[i]:=xaa _ _ _ hi;by_cases he:S[i].1=at'
  . obtain ⟨j,h1,h2,h3,h4,h5⟩:=xwL S hS hb on at' ox d (i+1) (by omega)
    refine ⟨j,by omega,h2,fun k hk a b=>?_,h4,?_⟩
    . rcases Nat.lt_or_eq_of_le a with a|a
      . exact h3 k hk a b
      . subst a;exact he
    . have hp:=xCq (B:=1099511627776) (by omega) S hb i (by omega)
      have hs:=hb S[i] (zo hi);rw [xal (s':=(preS S (i+1),((i+1:Nat):Int),S.map encP,ox)) ?_,h5];simp only [xdd,xi5,xia,sBU,hi,i1,gf,cP0,cP1,lP,sP,sP0,sP1,he,xKU (n:=i) (by omega),xAz S i hi]
      rw [xbn (by omega) (by omega)]
  . have he':(S[i].1==at')=false:=by simp [he]
    refine ⟨i,zd _,by omega,fun k _ h1 h2=>by omega,fun _=>he,xad ?_⟩
    simp only [xdd,xi5,xia,sBU,hi,i1,gf,cP0,cP1,lP,sP,sP0,sP1,he']
theorem xrB (l:List Cnt) (hl:Tame l):∃ S,xut (l.map encC)=some (S.map encP)/\StepI (sumC l) 1099511627776 S/\S.length<=2*l.length+1:=by
 have ar:=hl.1;have e0:=xyf l (by omega) hl.2
 have hE:=xii (g:=chg) (c:=2) l fun c _=>xIH c
 obtain ⟨af,S,hS,hp,ak⟩:=xJo (l.flatMap chg) xDN;have ag:S.length=(l.flatMap chg).length:=hp.length_eq;have U:∀ s,s∈S->0<=s.1/\s.1<=1099511627776:=fun s hs=>xDN s (hp.mem_iff.1 hs)
 have hb:∀ s,s∈S->-1099511627776<=s.2/\s.2<=1099511627776:=fun s hs=>by
  obtain ⟨c,hc,h⟩:=y6.1 (hp.mem_iff.1 hs);have:=hl.2 c hc;unfold chg at h;split at h
  . simp only [zC,List.not_mem_nil,or_false] at h;rcases h with rfl|rfl<;>dsimp only<;>omega
  . simp at h
 have hN:∀ t,sumS S t=sumC l t:=fun t=>by rw [xHc hp,xCJ]
 have O:∀ a b (ha:a<S.length) (hb:b<S.length),a<=b->S[a].1<=S[b].1:=fun a b ha hb am=>by
  rcases Nat.lt_or_eq_of_le am with h|h
  . exact zB.1 ak a b ha hb h
  . subst h;exact Int.le_refl _
 let T:Nat->Int:=fun i=>if h:i<S.length then S[i].1 else 1099511627776
 have step:∀ (out:List Per) (i j:Nat) (at':Int),0<=at'->i<=j->j<=S.length->StepI (sumC l) at' out->at'<1099511627776->(∀ k (h:k<S.length),k<i->S[k].1<=at')->(∀ k (h:k<S.length),i<=k->at'<=S[k].1)->(∀ k (h:k<S.length),i<=k->k<j->S[k].1=at')->(∀ h:j<S.length,S[j].1≠at') ->
   preS S j=sumC l at'/\StepI (sumC l) (T j) (putS out at' (preS S j))/\at'<T j/\∀ k (h:k<S.length),k<j->S[k].1<=at':=fun out i j at' h0 ai hj Q hF ab aj ao hne=>by
  have a1:∀ k (h:k<S.length),k<j->S[k].1<=at':=fun k h hk=>by
   rcases zJ k i with h1|h1
   . exact ab k h h1
   . rw [ao k h h1 hk];exact Int.le_refl _
  have a2:∀ k (h:k<S.length),j<=k->at'<S[k].1:=fun k h hk=>by
   have J:j<S.length:=by omega
   have b1:=aj j J ai;have b2:=hne J;have b3:=O j k J h hk;omega
  have hT:at'<T j:=by
   simp only [T];split
   . rename_i h;exact a2 j h (zd _)
   . exact hF
  have ac:∀ t,at'<=t->t<T j->preS S j=sumC l t:=fun t h1 h2=>by
   rw [<-hN];refine xHS S j hj t (fun k h hk=>by have:=a1 k h hk;omega) fun k h hk=>?_
   have J:j<S.length:=by omega
   have b3:=O j k J h hk;simp only [T,dif_pos J] at h2;omega
  have e:=ac at' (Int.le_refl _) hT;refine ⟨e,?_,hT,a1⟩;rw [e];exact Q.put h0 hT fun t h1 h2=>by rw [<-ac t h1 h2,e]
 have aa:∀ (out:List Per) (f n:Int),out.length<=2*l.length+1->∃ p,xcK out.length f n (out.map encP)=some p/\br p.1 p.2.1.1 p.2.2.1=(putS out f n).length/\br p.1 p.2.1.2 p.2.2.2=(putS out f n).map encP:=fun out f n h=>xEe out f n (by omega)
 obtain ⟨j0,_,ah,h3,h4,e1⟩:=xwL S (by omega) hb 0 0 ([]:List AV) S.length 0 (by omega)
 obtain ⟨_,al,_,ap⟩:=step [] 0 j0 0 (Int.le_refl _) (zQ _) ah (.nil _) (by omega) (fun k _ h=>by omega) (fun k h _=>(U _ (zo h)).1) h3 h4
 obtain ⟨p0,ad,V,Y⟩:=aa [] 0 (preS S j0) (by simp)
 have o0:putS [] 0 (preS S j0)=[(0,preS S j0)]:=rfl;obtain ⟨r,hr,out,rfl,Q,ae⟩:=xB3 (step:=xen S.length)
  (fun s=>∃ (out:List Per) (i:Nat),s=(out.length,preS S i,(i:Int),S.map encP,out.map encP)/\i<=S.length/\StepI (sumC l) (T i) out/\out.length<=i+1/\∀ k (h:k<S.length) (hi:i<S.length),k<i->S[k].1<=S[i].1) (fun s=>(S.length - s.2.2.1.toNat)) (fun r=>∃ out:List Per,r=(out.length,out.map encP)/\StepI (sumC l) 1099511627776 out/\out.length<=2*l.length+1)
  (by
   rintro _ ⟨out,i,rfl,hi,Z,aq,ab⟩;by_cases q:i<S.length
   . have i1:(i:Int)<(S.length:Int):=by omega
     have gf:(S.map encP).getD i .top=encP S[i]:=xaa _ _ _ q;have W:T i=S[i].1:=dif_pos q;by_cases hF:S[i].1<1099511627776
     . left;obtain ⟨j,a1,a2,a3,a4,a5⟩:=xwL S (by omega) hb out.length S[i].1 (out.map encP) (S.length - i) i (by omega)
       rw [W] at Z;obtain ⟨b1,b2,b3,b4⟩:=step out i j S[i].1 (U _ (zo q)).1 a1 a2 Z hF (fun k h hk=>O k i h q (by omega)) (fun k h hk=>O i k q h hk) a3 a4
       have ai:i<j:=by
        rcases Nat.lt_or_eq_of_le a1 with h|h
        . exact h
        . subst h;exact absurd rfl (a4 q)
       obtain ⟨p,ad,V,Y⟩:=aa out S[i].1 (preS S j) (by omega)
       have au:=xCu out S[i].1 (preS S j);refine ⟨((putS out S[i].1 (preS S j)).length,preS S j,(j:Int),S.map encP,(putS out S[i].1 (preS S j)).map encP),?_,⟨_,j,rfl,a2,b2,by omega,fun k h hj hk=>O k j h hj (by omega)⟩,by dsimp only;rw [zN,zN];omega⟩
       simp only [xen,xi4,xh0,xh1,xh2,xh3,xh4,xh5,xh6,xh7,xh8,xh9,xgO,xgP,xex,sBU,q,i1,gf,cP0,cP1,lP,sP,sP0,sP1,hF,a5,ad,V,Y]
     . right;have an:S[i].1=1099511627776:=by have:=(U _ (zo q)).2;omega
       refine ⟨(out.length,out.map encP),?_,out,rfl,by rw [<-an,<-W];exact Z,by omega⟩
       simp only [xen,xi4,xh0,xh1,xh2,xh3,xh4,xh5,xh6,xh7,xh8,xh9,xgO,xgP,xex,sBU,q,i1,gf,cP0,cP1,lP,sP,sP0,sP1,hF]
   . right;have i1:¬ (i:Int)<(S.length:Int):=by omega
     have W:T i=1099511627776:=dif_neg q;refine ⟨(out.length,out.map encP),?_,out,rfl,by rw [<-W];exact Z,by omega⟩
     simp only [xen,xi4,xh0,xh1,xh2,xh3,xh4,xh5,xh6,xh7,xh8,xh9,xgO,xgP,xex,sBU,i1])
  (([(0,preS S j0)]:List Per).length,preS S j0,(j0:Int),S.map encP,([(0,preS S j0)]:List Per).map encP) ⟨[(0,preS S j0)],j0,rfl,ah,al,by simp,fun k h hj hk=>O k j0 h hj (by omega)⟩
 refine ⟨out,?_,Q,ae⟩;have d1:(l.flatMap chg).length<4611686018427387904:=by omega
 have d2:((l.flatMap chg).length).beq (l.flatMap chg).length=true:=Nat.beq_refl _;have e1':Iter (xiR (l.flatMap chg).length 0) ((0:Int),(0:Int),S.map encP,[])=some (preS S j0,(j0:Int),S.map encP,[]):=by
  rw [xIR,<-ag];exact e1
 rw [ag] at hr;unfold xut xuu;have hp1':xcK 0 0 (preS S j0) []=some p0:=ad;rw [o0] at V Y;simp only [xtl,xtm,xtn,xto,xtp,xtq,xtr,xts,xtt,xtu,xse,xsf,xsg,xsh,xsi,xkD,xoi,xsj,za,e0,zh,zk,xab,af,hS,d1,d2,e1',hp1',V,Y,hr,zn,zS,sOO,sUF]
end Go.Sim.M
end
noncomputable section
set_option maxRecDepth 100000
namespace Go.Sim.M
open Go.RowKit Go.Sim.Srt
theorem xLr {n:Nat} (h:n+1<=4611686018427387904):IntKind.i64.wrap (((n+1:Nat):Int) - 1)=(n:Int):=by rw [xbn (by omega) (by omega)];omega
theorem tkP (p:Per):List.take 1 (encP p).cells=[.int .i64 p.1]:=rfl
theorem dpP (p:Per):List.drop 2 (encP p).cells=[]:=rfl
theorem aggP (a b:Int):AV.agg [.int .i64 a,.int .i64 b]=encP (a,b):=rfl
theorem xBW {α:Type} (l:List α) (x d:α):(l++[x]).getD l.length d=x:=by simp
theorem xJe {α:Type} (l:List α) (x y:α):(l++[x]).set l.length y=l++[y]:=by simp
def xKW (st:List Per):List Int:=st.flatMap fun s=>List.replicate s.2.toNat s.1
theorem xih (st:List Per) (f m:Int):xKW (st++[(f,m)])=xKW st++List.replicate m.toNat f:=by simp [xKW]
def StOk (st:List Per):Prop:=∀ s,s∈st->1<=s.2
theorem StOk.len {st:List Per} (h:StOk st):st.length<=(xKW st).length:=by
 unfold xKW;induction st with
 | nil=>simp
 | cons s st ih =>
  have h1:=h s (by simp)
  have:=ih fun s hs=>h s (by simp [hs])
  rw [zR,z8,zF,List.length_replicate];omega
theorem xzC (J n:Int) (v:Nat) (k t2 f:Int) (q:List Per) (ti:Nat) (O:ti<q.length) (hf:q[ti].1=f) (K:Nat) (hK:K<=1048576):∀ (d j:Nat) (ox:List Per) (vo:Nat),j+d=K->ox.length+d<=1099511627776 ->
  Iter (xb7 J n v ti k (K:Int)) ((j:Int),t2,q.length,v,ox.length,vo,v,q.map encP,vo,ox.map encP)=some (t2,v,q.length,vo+d,(ox++List.replicate d (f,J)).length,q.map encP,v,(ox++List.replicate d (f,J)).map encP,vo+d)
 | 0,j,ox,vo,h,hb=>by
  obtain rfl:j=K:=by omega
  refine xad ?_;simp only [xb7,xjC,zy,zm,xac,List.replicate_zero,zD,Nat.add_zero,sUF]
 | d+1,j,ox,vo,h,hb=>by
  have i1:(j:Int)<(K:Int):=by omega
  have gf:(q.map encP).getD ti .top=encP q[ti]:=xaa _ _ _ O;have m1:(ox.length+1)*16<=140737488355328:=by omega
  have m2:ox.length+1<=4611686018427387904:=by omega
  have tk:List.take q.length (q.map encP)=q.map encP:=zi (by simp)
  rw [xal (s':=(((j+1:Nat):Int),t2,q.length,v,(ox++[(f,J)]).length,vo+1,v,q.map encP,vo+1,(ox++[(f,J)]).map encP)) ?_,xzC J n v k t2 f q ti O hf K hK d (j+1) (ox++[(f,J)]) (vo+1) (by omega) (by rw [z8,zj];omega)]
  . rw [zw,show [(f,J)]++List.replicate d (f,J)=List.replicate (d+1) (f,J) from rfl,show vo+1+d=vo+(d+1) by omega]
  . simp only [xb7,xjC,sBU,i1,O,gf,cP0,cP1,lP,sP,sP0,sP1,hf,m1,m2,tk,xKU (n:=j) (by omega)]
    simp [encP]
theorem xEh {α:Type} (n:Nat) (a:α):(List.replicate n a).reverse=List.replicate n a:=List.reverse_replicate ..
theorem xzB (q:Int) (n:Nat):∀ (c:Nat) (J:List Per) (h:Nat) (ox:List Per) (v vo:Nat),J.length<=c->StOk J->(xKW J).length=h->n<=h->h<=1048576->ox.length+h<=1099511627776 ->
  ∃ (O Q:List Per) (U:Nat),Iter (xbu q (n:Int)) ((h:Int),J.length,v,ox.length,vo,v,J.map encP,vo,ox.map encP)=some ((n:Int),v,O.length,U,Q.length,O.map encP,v,Q.map encP,U) /\
   StOk O/\xKW O=(xKW J).take n/\Q=ox++(((xKW J).drop n).reverse.map fun f=>(f,q))
 | c,J,h,ox,v,vo,hc,hs,hh,hn,hb,ho=>by
  by_cases Z:n=h
  . subst Z;refine ⟨J,ox,vo,xad ?_,hs,?_,?_⟩
    . have i1:¬ ((n:Int)>(n:Int)):=by omega
      simp only [xbu,xeP,i1,zm,xac,sUF]
    . rw [zi (by omega)]
    . rw [zq (by omega)];simp
  . have ac:n<h:=by omega
    rcases xrh J with rfl|⟨st,⟨f,m⟩,rfl⟩
    . simp [xKW] at hh;omega
    . have hm:=hs (f,m) (by simp)
      dsimp only at hm;have Y:StOk st:=fun s h=>hs s (by simp [h])
      have aa:(xKW st).length+m.toNat=h:=by rw [<-hh,xih,z8,List.length_replicate]
      obtain ⟨M,rfl⟩:∃ M:Nat,m=(M:Int):=⟨m.toNat,by omega⟩
      rw [zN] at aa;have sl:=hs.len;rw [z8,zj] at hc sl;rw [hh] at sl;have L1:(st++[(f,(M:Int))]).length=st.length+1:=by simp
      have i1:(h:Int)>(n:Int):=by omega
      have w1:IntKind.i64.wrap (((st.length+1:Nat):Int) - 1)=(st.length:Int):=xLr (by omega)
      have w2:IntKind.i64.wrap ((h:Int) - (n:Int))=((h - n:Nat):Int):=by rw [xbn (by omega) (by omega)];omega
      have i2:(st.length:Int)<((st.length+1:Nat):Int):=by omega
      have i3:st.length<(st++[(f,(M:Int))]).length:=by omega
      have g0:(st++[(f,(M:Int))])[st.length]'i3=(f,(M:Int)):=by simp
      have gf:((st++[(f,(M:Int))]).map encP).getD st.length .top=encP (f,(M:Int)):=by rw [xaa _ _ _ i3,g0]
      have tk:List.take (st.length+1) ((st++[(f,(M:Int))]).map encP)=(st++[(f,(M:Int))]).map encP:=zi (by simp)
      have V:∀ x:AV,((st++[(f,(M:Int))]).map encP).set st.length x=st.map encP++[x]:=fun x=>by
       rw [zx];have:=xJe (st.map encP) (encP (f,(M:Int))) x;rwa [za] at this
      have gl:∀ x:AV,(st.map encP++[x]).getD st.length .top=x:=fun x=>by have:=xBW (st.map encP) x .top;rwa [za] at this
      have tl:∀ x:AV,List.take st.length (st.map encP++[x])=st.map encP:=fun x=>by
       have:=List.take_left' (l₁:=st.map encP) (l₂:=[x]) (i:=st.length) (by simp)
       exact this
      by_cases hk:M<=h - n
      ·
       have i4:¬ ((h - n:Nat):Int)<(M:Int):=by omega
       have e1:=xzC q (n:Int) v (M:Int) (h:Int) f (st++[(f,(M:Int))]) st.length i3 (by rw [g0]) M (by omega) M 0 ox vo (by omega) (by omega)
       rw [L1] at e1;obtain ⟨O,Q,U,e2,h1,h2,h3⟩:=xzB q n (c - 1) st (h - M) (ox++List.replicate M (f,q)) v (vo+M) (by omega) Y (by omega) (by omega) (by omega) (by rw [z8,List.length_replicate];omega)
       refine ⟨O,Q,U,(xal (s':=(((h - M:Nat):Int),st.length,v,(ox++List.replicate M (f,q)).length,vo+M,v,st.map encP,vo+M,(ox++List.replicate M (f,q)).map encP)) ?_).trans e2,h1,?_,?_⟩
       . have w3:IntKind.i64.wrap ((h:Int) - (M:Int))=((h - M:Nat):Int):=by rw [xbn (by omega) (by omega)];omega
         have w4:IntKind.i64.wrap ((M:Int) - (M:Int))=0:=by rw [Int.sub_self];rfl
         have i5:(st.length:Int)<=((st.length+1:Nat):Int):=by omega
         have e1:Iter (xb7 q (n:Int) v st.length (M:Int) (M:Int)) ((0:Int),(h:Int),st.length+1,v,ox.length,vo,v,(st++[(f,(M:Int))]).map encP,vo,ox.map encP)=_:=e1;simp only [xbu,xeP,xc9,xb6,xin,xd7,xfO,xd8,xd9,xea,xeb,xio,xg8,xe3,xe4,xg9,xha,xe5,xcB,xhb,xay,sBU,L1,i1,i2,w1,w2,w3,w4,i4,i5,gf,cP0,cP1,lP,sP,sP0,sP1,tk,e1,if_false,V,gl,tl,z8,zj,Nat.lt_succ_self,tkP,dpP,aggP,zD,List.singleton_append]
         try simp [xab,tl,gl,sUF]
       . rw [h2,xih,List.take_append_of_le_length (by omega)]
       . rw [h3,xih,zN,List.drop_append_of_le_length (by omega),List.reverse_append,xEh,zx,List.map_replicate,zw]
      ·
       have i4:((h - n:Nat):Int)<(M:Int):=by omega
       have e1:=xzC q (n:Int) v ((h - n:Nat):Int) (h:Int) f (st++[(f,(M:Int))]) st.length i3 (by rw [g0]) (h - n) (by omega) (h - n) 0 ox vo (by omega) (by omega)
       rw [L1] at e1;refine ⟨st++[(f,((M - (h - n):Nat):Int))],ox++List.replicate (h - n) (f,q),vo+(h - n),(xal (s':=((n:Int),st.length+1,v,(ox++List.replicate (h - n) (f,q)).length,vo+(h - n),v,(st++[(f,((M - (h - n):Nat):Int))]).map encP,vo+(h - n),(ox++List.replicate (h - n) (f,q)).map encP)) ?_).trans (xad ?_),?_,?_,?_⟩
       . have w3:IntKind.i64.wrap ((h:Int) - ((h - n:Nat):Int))=(n:Int):=by rw [xbn (by omega) (by omega)];omega
         have w4:IntKind.i64.wrap ((M:Int) - ((h - n:Nat):Int))=((M - (h - n):Nat):Int):=by rw [xbn (by omega) (by omega)];omega
         have i6:(((M - (h - n):Nat):Int)==0)=false:=by simp;omega
         have e1:Iter (xb7 q (n:Int) v st.length ((h - n:Nat):Int) ((h - n:Nat):Int)) ((0:Int),(h:Int),st.length+1,v,ox.length,vo,v,(st++[(f,(M:Int))]).map encP,vo,ox.map encP)=_:=e1;have W:∀ x:AV,List.take (st.length+1) (st.map encP++[x])=st.map encP++[x]:=fun x=>zi (by simp)
         simp only [xbu,xeP,xc9,xb6,xin,xd7,xfO,xd8,xd9,xea,xeb,xio,xg8,xe3,xe4,xg9,xha,xe5,xcB,xhb,xay,sBU,L1,i1,i2,w1,w2,w3,w4,i4,gf,cP0,cP1,lP,sP,sP0,sP1,tk,e1,if_true,V,gl,tl,W,z8,zj,Nat.lt_succ_self,tkP,dpP,aggP,zD,List.singleton_append]
         try simp [xab,xac,tl,W,gl,i6,sUF]
       . have i5:¬ ((n:Int)>(n:Int)):=by omega
         simp only [xbu,xeP,i5,zm,xac,z8,zj,sUF]
       . intro s ab;rcases zG.1 ab with h1|h1
         . exact Y s h1
         . rw [zv] at h1;subst h1;dsimp only;omega
       . rw [xih,xih,zN,zN,List.take_append];have:(xKW st).take n=xKW st:=zi (by omega)
         rw [this,List.take_replicate,show min (n - (xKW st).length) M=M - (h - n) by omega]
       . rw [xih,zN,List.drop_append,zq (show (xKW st).length<=n by omega),zU,List.drop_replicate,xEh,List.map_replicate,show M - (n - (xKW st).length)=h - n by omega]
theorem xEn (J:Int) (n h:Nat) (q ox:List Per) (hs:StOk q) (hh:(xKW q).length=h) (hn:n<=1048576) (hb:h<=1048576) (ho:ox.length+1048576<=1099511627776) :
  ∃ O:List Per,set2 J (n:Int) (h:Int) q.length ox.length (q.map encP) (ox.map encP)=some ((n:Int),O.length,(ox++(((xKW q).drop n).reverse.map fun f=>(f,J))).length,O.map encP,(ox++(((xKW q).drop n).reverse.map fun f=>(f,J))).map encP) /\
   StOk O/\xKW O=(xKW q).take n++List.replicate (n - h) J:=by
 have sl:=hs.len;rw [hh] at sl;have tk:List.take q.length (q.map encP)=q.map encP:=zi (by simp)
 by_cases Z:h<n
 . have i1:(n:Int)>(h:Int):=by omega
   have w1:IntKind.i64.wrap ((n:Int) - (h:Int))=((n - h:Nat):Int):=by rw [xbn (by omega) (by omega)];omega
   have W:StOk (q++[(J,((n - h:Nat):Int))]):=fun s h1=>by
    rcases zG.1 h1 with h1|h1
    . exact hs s h1
    . rw [zv] at h1;subst h1;dsimp only;omega
   have hf:xKW (q++[(J,((n - h:Nat):Int))])=xKW q++List.replicate (n - h) J:=by rw [xih,zN]
   have V:(xKW (q++[(J,((n - h:Nat):Int))])).length=n:=by rw [hf,z8,List.length_replicate];omega
   obtain ⟨O,U,Q,e,h1,h2,h3⟩:=xzB J n (q.length+1) (q++[(J,((n - h:Nat):Int))]) n ox 1 0 (by simp) W V (zd _) hn (by omega)
   refine ⟨O,?_,h1,?_⟩
   . have d1:(xKW q).drop n=[]:=zq (by omega)
     have d2:(xKW (q++[(J,((n - h:Nat):Int))])).drop n=[]:=zq (by omega)
     rw [d2] at h3;subst h3;rw [d1];have m1:(q.length+1)*16<=140737488355328:=by omega
     have m2:q.length+1<=4611686018427387904:=by omega
     have Y:List.take (q.length+1) (q.map encP++[AV.agg [.int .i64 J,.int .i64 ((n - h:Nat):Int)]])=(q++[(J,((n - h:Nat):Int))]).map encP:=by
      rw [zi (by simp),zx];rfl
     rw [z8,zj] at e;unfold set2 xkI xkd;simp only [xlI,xlJ,xlK,xlL,xlM,xlN,xlO,xlP,xlQ,xlR,xkJ,xkK,xkL,xkM,xkN,xkO,xkP,xkQ,i1,w1,zn,xab,za,beq_self_eq_true,m1,m2,Bool.and_self,Y,e,zk,zh,Option.bind_some,Nat.beq_refl,sUF]
   . rw [h2,hf,zi (by rw [<-hf];omega),zi (by omega)]
 . obtain ⟨O,U,Q,e,h1,h2,h3⟩:=xzB J n q.length q h ox 0 0 (zd _) hs hh (by omega) hb (by omega)
   refine ⟨O,?_,h1,by rw [h2,show n - h=0 by omega];simp⟩
   have i1:¬ (n:Int)>(h:Int):=by omega
   subst h3;unfold set2 xkI xkd;simp only [xlI,xlJ,xlK,xlL,xlM,xlN,xlO,xlP,xlQ,xlR,xkJ,xkK,xkL,xkM,xkN,xkO,xkP,xkQ,i1,zm,xac,tk,e,zk,zh,xab,Option.bind_some,Nat.beq_refl,Bool.and_self,sUF]
def setF (s:List Int×List Per) (q:Int×Nat):List Int×List Per:=(s.1.take q.2++List.replicate (q.2 - s.1.length) q.1,s.2++((s.1.drop q.2).reverse.map fun f=>(f,q.1)))
theorem xwd {α β:Type} (A B:α->List β):∀ l:List α,(l.flatMap fun k=>A k++B k).Perm (l.flatMap A++l.flatMap B)
 | []=>List.Perm.refl _
 | a::l=>by
  rw [zR,zR,zR];have ih:=xwd A B l;refine (ih.append_left (A a++B a)).trans ?_;rw [zw,zw];refine List.Perm.append_left _ ?_;rw [<-zw,<-zw];exact List.Perm.append_right _ List.perm_append_comm
theorem xyU {β:Type} (g:Int->β):∀ (F:List Int) (H n:Nat),F.length<=H->(List.range H).flatMap (fun k=>if n<=k then (F[k]?).toList.map g else [])=(F.drop n).map g
 | [],H,n,_=>by
  rw [List.drop_nil,zW,List.flatMap_eq_nil_iff];intro k _;split<;>simp
 | x::F,0,n,h=>by simp at h
 | x::F,H+1,n,h=>by
  rw [List.range_succ_eq_map,zR,List.flatMap_map];have ih:=xyU g F H (n - 1) (by simpa using h)
  have e:(List.range H).flatMap (fun a=>if n<=a.succ then (((x::F)[a.succ]?).toList).map g else [])=(F.drop (n - 1)).map g:=by
   rw [<-ih];congr 1;funext a;have:(n<=a.succ)=(n - 1<=a):=by rw [eq_iff_iff];omega
   simp only [this,zZ,Nat.succ_eq_add_one]
  rw [e];cases n with
  | zero=>simp
  | succ n=>simp
structure LvI (N:Int->Nat) (H:Nat) (at':Int) (F:List Int) (out:List Per) (A:Nat->List Per):Prop where
 perm:out.Perm ((List.range H).flatMap A)
 span:∀ k,IsSpan (A k)
 low:∀ k (h:k<F.length),F[k]<=at'/\0<=F[k]/\∀ p,p∈A k->p.2<F[k]
 high:∀ k,F.length<=k->∀ p,p∈A k->p.2<=at'
 cov:∀ k t,t<=at'->((inL (A k) t=true\/∃ h:k<F.length,F[k]<=t)↔k<N t)
 len:F.length=N at'
 top:F.length<=H
theorem LvI.start {N:Int->Nat} {H:Nat} (h0:∀ t,t<0->N t=0):LvI N H (-1) [] [] fun _=>[] where
 perm:=by
  have:(List.range H).flatMap (fun _=>([]:List Per))=[]:=by simp
  rw [this]
 span _:=xkG
 low k h:=by simp at h
 high k _ p hp:=by simp at hp
 cov k t ht:=by rw [h0 t (by omega),xeO];simp
 len:=by rw [h0 _ (by omega)];rfl
 top:=zQ _
theorem LvI.set {N:Int->Nat} {H:Nat} {a b:Int} {F:List Int} {out:List Per} {A:Nat->List Per} (h:LvI N H a F out A) (ac:a<b) (h0:0<=b) (hb:b<=1099511627776) (hc:∀ t,a<=t->t<b->N t=N a) (hH:N b<=H) :
  ∃ A',LvI N H b (setF (F,out) (b,N b)).1 (setF (F,out) (b,N b)).2 A':=by
 have hl:=h.len;refine ⟨fun k=>A k++(if N b<=k then (F[k]?).toList.map (fun f=>(f,b)) else []),?_,?_,?_,?_,?_,?_,?_⟩
 . refine (List.Perm.append h.perm ?_).trans (xwd A _ _).symm;rw [xyU (fun f=>(f,b)) F H (N b) h.top]
   exact (List.reverse_perm _).map _
 . intro k;by_cases hk:N b<=k
   . rw [if_pos hk];by_cases J:k<F.length
     . obtain ⟨l1,l2,l3⟩:=h.low k J;rw [ze J];refine ⟨fun p hp=>?_,List.pairwise_append.2 ⟨(h.span k).2,by simp,fun p hp q hq=>?_⟩⟩
       . rcases zG.1 hp with hp|hp
         . exact (h.span k).1 p hp
         . simp at hp;subst hp;exact xbv.2 ⟨l2,by dsimp only;omega,hb⟩
       . simp at hq;subst hq;exact l3 p hp
     . rw [zz (by omega)];simpa using h.span k
   . rw [if_neg hk,zD];exact h.span k
 . intro k hk;simp only [setF] at hk |-;rw [z8,zt,List.length_replicate] at hk;have O:¬ N b<=k:=by omega
   simp only [O,if_false,zD];by_cases J:k<F.length
   . rw [List.getElem_append_left (by rw [zt];omega),List.getElem_take]
     obtain ⟨l1,l2,l3⟩:=h.low k J;exact ⟨by omega,l2,l3⟩
   . rw [List.getElem_append_right (by rw [zt];omega),List.getElem_replicate]
     exact ⟨Int.le_refl _,h0,fun p hp=>by have:=h.high k (by omega) p hp;omega⟩
 . intro k hk p hp;simp only [setF] at hk;rw [z8,zt,List.length_replicate] at hk;have O:N b<=k:=by omega
   simp only [O,if_true] at hp;by_cases J:k<F.length
   . rw [ze J] at hp;rcases zG.1 hp with hp|hp
     . obtain ⟨l1,l2,l3⟩:=h.low k J;have:=l3 p hp;omega
     . simp at hp;subst hp;exact Int.le_refl _
   . rw [zz (by omega)] at hp
     simp at hp;have:=h.high k (by omega) p hp;omega
 . intro k t ht;have Q:(setF (F,out) (b,N b)).1=F.take (N b)++List.replicate (N b - F.length) b:=rfl;have key:(∃ hh:k<(setF (F,out) (b,N b)).1.length,(setF (F,out) (b,N b)).1[k]<=t)↔(k<N b/\((∃ hh:k<F.length,F[k]<=t)\/(F.length<=k/\b<=t))):=by
    constructor
    . rintro ⟨hh,U⟩;have hh':=hh;rw [Q,z8,zt,List.length_replicate] at hh';refine ⟨by omega,?_⟩
      by_cases J:k<F.length
      . refine .inl ⟨J,?_⟩;have e:(setF (F,out) (b,N b)).1[k]=F[k]:=by
         simp only [Q];rw [List.getElem_append_left (by rw [zt];omega),List.getElem_take]
        rw [<-e];exact U
      . refine .inr ⟨by omega,?_⟩
        have e:(setF (F,out) (b,N b)).1[k]=b:=by
         simp only [Q];rw [List.getElem_append_right (by rw [zt];omega),List.getElem_replicate]
        rw [<-e];exact U
    . rintro ⟨h1,h2⟩;have hh:k<(setF (F,out) (b,N b)).1.length:=by rw [Q,z8,zt,List.length_replicate];omega
      refine ⟨hh,?_⟩;rcases h2 with ⟨J,U⟩|⟨J,U⟩
      . have e:(setF (F,out) (b,N b)).1[k]=F[k]:=by
         simp only [Q];rw [List.getElem_append_left (by rw [zt];omega),List.getElem_take]
        rw [e];exact U
      . have e:(setF (F,out) (b,N b)).1[k]=b:=by
         simp only [Q];rw [List.getElem_append_right (by rw [zt];omega),List.getElem_replicate]
        rw [e];exact U
   rw [key];have Z:inL (A k++(if N b<=k then (F[k]?).toList.map (fun f=>(f,b)) else [])) t=true↔inL (A k) t=true\/(N b<=k/\(∃ hh:k<F.length,F[k]<=t)/\t<b):=by
    rw [xnk,Bool.or_eq_true];refine or_congr Iff.rfl ?_;by_cases O:N b<=k
    . rw [if_pos O];by_cases J:k<F.length
      . obtain ⟨l1,l2,l3⟩:=h.low k J;rw [ze J];have e:inL ((some F[k]).toList.map fun f=>(f,b)) t=hasP (F[k],b) t:=by simp [inL]
        rw [e,xbD,xbv];dsimp only;constructor
        . rintro ⟨_,h2,h3⟩;exact ⟨O,⟨J,h2⟩,h3⟩
        . rintro ⟨_,⟨_,h2⟩,h3⟩;exact ⟨⟨l2,by omega,hb⟩,h2,h3⟩
      . rw [zz (by omega)]
        simp only [Option.toList_none,zW,xeO,zT,false_iff];rintro ⟨_,⟨hh,_⟩,_⟩;omega
    . rw [if_neg O,xeO];simp only [zT,false_iff];rintro ⟨hh,_⟩;omega
   rw [Z];by_cases aa:t<=a
   . have V:=h.cov k t aa;rw [<-V];constructor
     . rintro ((h1|⟨_,h2,_⟩)|⟨_,h2|⟨_,h3⟩⟩)
       . exact .inl h1
       . exact .inr h2
       . exact .inr h2
       . omega
     . rintro (h1|h2)
       . exact .inl (.inl h1)
       . by_cases O:N b<=k
         . exact .inl (.inr ⟨O,h2,by omega⟩)
         . exact .inr ⟨by omega,.inl h2⟩
   . have Y:inL (A k) t=true->False:=fun hi=>by
      obtain ⟨p,hp,_,p1,p2⟩:=xd6.1 hi;by_cases J:k<F.length
      . obtain ⟨l1,l2,l3⟩:=h.low k J;have:=l3 p hp;omega
      . have:=h.high k (by omega) p hp;omega
     have ab:(∃ hh:k<F.length,F[k]<=t)↔k<F.length:=⟨fun ⟨hh,_⟩=>hh,fun hh=>⟨hh,by have:=(h.low k hh).1;omega⟩⟩
     rw [ab];by_cases W:t<b
     . rw [hc t (by omega) W,<-hl]
       constructor
       . rintro ((h1|⟨_,h2,_⟩)|⟨_,h2|⟨_,h3⟩⟩)
         . exact (Y h1).elim
         . exact h2
         . exact h2
         . omega
       . intro J;by_cases O:N b<=k
         . exact .inl (.inr ⟨O,J,W⟩)
         . exact .inr ⟨by omega,.inl J⟩
     . obtain rfl:t=b:=by omega
       constructor
       . rintro ((h1|⟨_,_,h2⟩)|⟨h1,_⟩)
         . exact (Y h1).elim
         . omega
         . exact h1
       . intro hk;refine .inr ⟨hk,?_⟩;by_cases J:k<F.length
         . exact .inl J
         . exact .inr ⟨by omega,Int.le_refl _⟩
 . show (F.take (N b)++List.replicate (N b - F.length) b).length=N b;rw [z8,zt,List.length_replicate];omega
 . show (F.take (N b)++List.replicate (N b - F.length) b).length<=H;rw [z8,zt,List.length_replicate];omega
theorem xsp {N:Int->Nat} {a b:Int} (h:∀ t,a<t->t<b->N (t - 1)=N t):∀ (d:Nat) (t:Int),t=a+d->t<b->N t=N a
 | 0,t,e,_=>by rw [e];simp
 | d+1,t,e,hb=>by
  rw [<-h t (by omega) hb]
  exact xsp h d (t - 1) (by omega) (by omega)
theorem xB8 {N:Int->Nat} {H:Nat} (hH:∀ t,N t<=H):∀ (R:List Per) (a:Int) (F:List Int) (out:List Per) (A:Nat->List Per),LvI N H a F out A->-1<=a->a<1099511627776->(∀ s,s∈R->a<s.1/\s.1<1099511627776/\s.2=(N s.1:Int))->R.Pairwise (fun x y=>x.1<y.1) ->
  (∀ t,a<t->t<1099511627776->N (t - 1)≠N t->∃ s,s∈R/\s.1=t)->∃ (a':Int) (A':Nat->List Per),LvI N H a' (R.foldl (fun x s=>setF x (s.1,s.2.toNat)) (F,out)).1 (R.foldl (fun x s=>setF x (s.1,s.2.toNat)) (F,out)).2 A'/\-1<=a'/\a'<1099511627776/\∀ t,a'<t->t<1099511627776->N (t - 1)=N t
 | [],a,F,out,A,h,h1,h2,_,_,hm=>⟨a,A,h,h1,h2,fun t t1 t2=>by
  by_cases e:N (t - 1)=N t
  . exact e
  . obtain ⟨s,hs,_⟩:=hm t t1 t2 e;simp at hs⟩
 | s::R,a,F,out,A,h,h1,h2,hr,hp,hm=>by
  obtain ⟨s1,s2,s3⟩:=hr s (by simp)
  obtain ⟨p1,p2⟩:=zM.1 hp;obtain ⟨A',h'⟩:=h.set (b:=s.1) s1 (by omega) (by omega) (fun t t1 t2=>xsp (a:=a) (b:=s.1) (fun u u1 u2=>by
   by_cases e:N (u - 1)=N u
   . exact e
   . obtain ⟨q,hq,J⟩:=hm u u1 (by omega) e
     rcases zC.1 hq with rfl|hq
     . omega
     . have:=p1 q hq;omega) (t - a).toNat t (by omega) t2) (hH _)
  rw [List.foldl_cons];have e:setF (F,out) (s.1,s.2.toNat)=setF (F,out) (s.1,N s.1):=by rw [s3,zN]
  rw [e];obtain ⟨a',A2,g1,g2,g3,g4⟩:=xB8 hH R s.1 _ _ A' h' (by omega) s2 (fun q hq=>⟨p1 q hq,(hr q (by simp [hq])).2⟩) p2 (fun t t1 t2 e=>by
   obtain ⟨q,hq,J⟩:=hm t (by omega) t2 e
   rcases zC.1 hq with rfl|hq
   . omega
   . exact ⟨q,hq,J⟩)
  exact ⟨a',A2,g1,g2,g3,g4⟩
theorem xHI {N:Int->Nat} {H:Nat} (hH:∀ t,N t<=H) (h0:∀ t,t<0\/1099511627776<=t->N t=0) {S:List Per} (hS:StepI (fun t=>(N t:Int)) 1099511627776 S) {P:List Per} (hP:P.Perm (setF (S.foldl (fun x s=>setF x (s.1,s.2.toNat)) ([],[])) (1099511627776,0)).2) (hs:Sorted cmpP P):IsLevs N P:=by
 obtain ⟨a,A,g1,g2,g3,g4⟩:=xB8 hH S (-1) [] [] _ (LvI.start fun t ht=>h0 t (.inl ht)) (by omega) (by omega) (fun s hs=>by
  obtain ⟨m1,m2,m3,_⟩:=(hS.mem s).1 hs;exact ⟨by omega,m2,m3⟩) hS.asc (fun t t1 t2 e=>by
  refine ⟨(t,(N t:Int)),(hS.mem _).2 ⟨by dsimp only;omega,t2,rfl,?_⟩,rfl⟩
  refine .inr ?_;dsimp only;omega)
 have hz:N 1099511627776=0:=h0 _ (.inr (Int.le_refl _));obtain ⟨A',h'⟩:=g1.set (b:=1099511627776) g3 (by omega) (by omega) (fun t t1 t2=>xsp (fun u u1 u2=>g4 u u1 u2) (t - a).toNat t (by omega) t2) (hH _)
 rw [hz] at h';have hF:=h'.len;rw [hz] at hF;refine ⟨hs,A',H,hH,fun k=>⟨h'.span k,fun t=>?_⟩,hP.trans h'.perm⟩
 rw [Bool.eq_iff_iff,zl];by_cases ht:t<=1099511627776
 . rw [<-h'.cov k t ht];refine ⟨Or.inl,fun hh=>hh.elim id fun ⟨hk,_⟩=>?_⟩
   rw [hF] at hk;omega
 . rw [h0 t (.inr (by omega))]
   refine ⟨fun hi=>?_,fun hh=>by omega⟩
   have:=(xtE hi).2;omega
abbrev Grp:=Row×List Per
def encG (g:Grp):AV:=.agg [.list 3 (g.1.map encV),.list 2 (g.2.map encP)]
def okEG (x:AV):Bool:=x.cells.length==(2:Nat)&&xLU [Sh.list (3:Nat),Sh.list (2:Nat)] x.cells (0:Nat)
def ldEG (x:AV):AV:=AV.agg [AV.list (3:Nat) (x.cells.getD (0:Nat) AV.top).toList,AV.list (2:Nat) (x.cells.getD (1:Nat) AV.top).toList]
def xLk (x y:AV):Bool:=(xfB (x.cells.getD 0 AV.top).toList (x.cells.getD 1 AV.top).toList (y.cells.getD 0 AV.top).toList (y.cells.getD 1 AV.top).toList).isSome
def xLl (x y:AV):Int:=(xfB (x.cells.getD 0 AV.top).toList (x.cells.getD 1 AV.top).toList (y.cells.getD 0 AV.top).toList (y.cells.getD 1 AV.top).toList).getD 0
theorem heG (a:Grp):okEG (encG a)=true:=rfl
theorem hdG (a:Grp):ldEG (encG a)=encG a:=rfl
section
variable {N : Nat} (hN : N <= 2 ^ 60) {ok : Grp -> Prop} {c : Grp -> Grp -> Int} (hc : ∀ x y, ok x -> ok y -> xLk (encG x) (encG y) = true /\ xLl (encG x) (encG y) = c x y)
include hN
include hc
theorem xKI (a b:Nat) (ha:a<=N) (hb:b<=N) {l r:List Grp} (hl:LOk N ok l) (hr:xLe c a b l=some r):xaK N a b (List.map encG l)=some (List.map encG r)/\LOk N ok r:=by
 obtain ⟨e1,e2⟩:=xIb (enc:=encG) hN (c:=c) (ok:=ok) a b hb (gi:=fun i=>xaW N a b i) (fun i l r hl hr=>xJf (okE:=okEG) (ldE:=ldEG) heG hdG hN (P:=xLk) (V:=xLl) hc a (fun j xs=>rfl) hl hr) (g:=xaV N a b) (fun i xs=>rfl) hl hr
 refine ⟨?_,e2⟩;unfold xaK xdA;rw [w64 (x:=(a:Int)+1) (n:=a+1) (by omega) (by omega),e1];rfl
theorem xIc (q:N<20) {l r:List Grp} (hl:LOk N ok l) (hr:xLe c 0 N l=some r):xev N N (List.map encG l)=some (List.map encG r)/\LOk N ok r:=by
 obtain ⟨e1,e2⟩:=xKI hN hc 0 N (by omega) (zd _) hl hr
 have e1:xaK N 0 N (List.map encG l)=_:=e1;have q0:Iter (xa4 N N 20) ((0:Int),(20:Int),List.map encG l)=some ((0:Int),List.map encG l):=by
  refine xad ?_;have h1:¬ (20:Int)<=(N:Int):=by omega
  simp only [xa4,xeE,h1,zm,xac,sUF]
 have q1:Iter (xbW N N) ((20:Int),List.map encG r)=some (List.map encG r):=by
  refine xad ?_;have h1:¬ (20:Int)<(N:Int):=by omega
  simp only [xbW,xeF,h1,zm,xac,sUF]
 refine ⟨?_,e2⟩;simp only [xev,xfX,xft,xfu,xfv,q0,e1,q1,zk,zh,xab,sUF]
end
theorem xKL {N:Nat} (hN:N*48<=140737488355328) {ok:Grp->Prop} {c:Grp->Grp->Int} (hc:∀ x y:Grp,ok x->ok y->xLk (encG x) (encG y)=true/\xLl (encG x) (encG y)=c x y) (q:N<20) (l r:List Grp) (hl:l.length=N) (ho:∀ x,x∈l->ok x) (hr:xLe c 0 N l=some r) :
  xgd N (List.map encG l)=some (List.map encG r):=by
 obtain ⟨e1,e2⟩:=xIc (N:=N) (by omega) (ok:=ok) hc q ⟨hl,ho⟩ hr
 simp only [xgd,xfs,e1,zk,zh,xab,sUF]
end Go.Sim.M
end
noncomputable section
set_option maxRecDepth 100000
namespace Go.Sim.M
open Go.RowKit Go.Sim.Srt
def ents:Nat->List Row->List AV
 | _,[]=>[]
 | k,r::R=>.agg [.str (keyOf r),.int .i64 (k:Int)]::ents (k+1) R
theorem xDX:∀ (R:List Row) (k:Nat) (r:Row),mapIx (ents k R) (keyOf r)=R.findIdx? fun x=>decide (x=r)
 | [],_,_=>rfl
 | x::R,k,r=>by
  have hk:isKey (keyOf r) (((AV.agg [.str (keyOf x),.int .i64 (k:Int)]).cells).getD 0 .top)=decide (x=r):=by
   show (keyOf x==keyOf r)=_;by_cases h:x=r
   . subst h;simp
   . have:¬ keyOf x=keyOf r:=fun e=>h (xzA e)
     simp [h,this]
  show (match isKey (keyOf r) (((AV.agg [.str (keyOf x),.int .i64 (k:Int)]).cells).getD 0 .top) with|true=>some 0|false=>(mapIx (ents (k+1) R) (keyOf r)).map (·+1))=_
  rw [hk,List.findIdx?_cons,xDX R (k+1) r];by_cases h:x=r<;>simp [h]
theorem xBQ:∀ (R:List Row) (k:Nat),(ents k R).length=R.length
 | [],_=>rfl
 | _::R,k=>by show (ents (k+1) R).length+1=_;rw [xBQ R];rfl
theorem xz6:∀ (R:List Row) (k:Nat) (r:Row),ents k (R++[r])=ents k R++[.agg [.str (keyOf r),.int .i64 ((k+R.length:Nat):Int)]]
 | [],_,_=>rfl
 | x::R,k,r=>by
  show _::ents (k+1) (R++[r])=_;rw [xz6 R (k+1) r,zF,show k+1+R.length=k+(R.length+1) by omega];rfl
theorem xBP:∀ (R:List Row) (k j:Nat) (h:j<R.length),(ents k R).getD j .top=.agg [.str (keyOf R[j]),.int .i64 ((k+j:Nat):Int)]
 | x::R,k,0,h=>rfl
 | x::R,k,j+1,h=>by
  show (ents (k+1) R).getD j .top=_;rw [xBP R (k+1) j (by simpa using h),show k+1+j=k+(j+1) by omega];rfl
def upd (G:List Grp) (f:Fc):List Grp:=match (G.map (·.1)).findIdx? fun x=>decide (x=f.r) with
 | some j=>G.set j (f.r,(G.getD j ([],[])).2++[f.p])
 | none=>G++[(f.r,[f.p])]
structure GI (l:List Fc) (G:List Grp):Prop where
 nd:(G.map (·.1)).Nodup
 mem:∀ r,r∈G.map (·.1)↔∃ f,f∈l/\f.r=r/\pv f.p=true
 ps:∀ g,g∈G->g.2=psOf l g.1
 len:G.length<=l.length
theorem GI.nil:GI [] []:=⟨List.nodup_nil,fun r=>by simp,fun g hg=>by simp at hg,zd _⟩
theorem xtH (l:List Fc) (f:Fc) (r:Row):psOf (l++[f]) r=psOf l r++(if f.r=r/\pv f.p=true then [f.p] else []):=by
 unfold psOf;rw [List.filter_append,zx];congr 1;by_cases h1:f.r=r<;>by_cases h2:pv f.p=true<;>simp [h1,h2]
theorem GI.skip {l:List Fc} {G:List Grp} (h:GI l G) {f:Fc} (hf:pv f.p=false):GI (l++[f]) G :=
 ⟨h.nd,fun r=>by
  rw [h.mem];refine ⟨fun ⟨g,hg,e⟩=>⟨g,by simp [hg],e⟩,fun ⟨g,hg,e1,e2⟩=>⟨g,?_,e1,e2⟩⟩
  rcases zG.1 hg with hg|hg
  . exact hg
  . rw [zv] at hg;subst hg;rw [hf] at e2;simp at e2,fun g hg=>by rw [xtH,if_neg (by rw [hf];simp),zD];exact h.ps g hg,by rw [z8];have:=h.len;omega⟩
theorem xu8 {R:List Row} {r:Row} {j:Nat} (h:R.findIdx? (fun x=>decide (x=r))=some j):∃ hj:j<R.length,R[j]=r:=by
 obtain ⟨hj,h1,_⟩:=List.findIdx?_eq_some_iff_getElem.1 h;exact ⟨hj,by simpa using h1⟩
theorem xBS {R:List Row} {r:Row} (h:R.findIdx? (fun x=>decide (x=r))=none):r∉R:=fun hr=>by
 have:=List.findIdx?_eq_none_iff.1 h r hr;simp at this
theorem xzL {G:List Grp} {j:Nat} (hj:j<G.length) {ps:List Per} {r:Row} (hr:G[j].1=r):(G.set j (r,ps)).map (·.1)=G.map (·.1):=by
 rw [List.map_set];show (G.map (·.1)).set j r=_;rw [<-hr];have:(G.map (·.1))[j]'(by simpa using hj)=G[j].1:=by simp
 rw [<-this];exact List.set_getElem_self _
theorem GI.upd {l:List Fc} {G:List Grp} (h:GI l G) {f:Fc} (hf:pv f.p=true):GI (l++[f]) (M.upd G f):=by
 unfold M.upd;cases hi:(G.map (·.1)).findIdx? fun x=>decide (x=f.r) with
 | some j =>
  obtain ⟨hj,hr⟩:=xu8 hi;rw [za] at hj;rw [List.getElem_map] at hr;dsimp only;have gd:G.getD j ([],[])=G[j]:=by rw [z7,ze hj];rfl
  rw [gd];refine ⟨by rw [xzL hj hr];exact h.nd,fun r=>?_,fun g hg=>?_,by rw [y5,z8];have:=h.len;omega⟩
  . rw [xzL hj hr,h.mem];refine ⟨fun ⟨g,hg,e⟩=>⟨g,by simp [hg],e⟩,fun ⟨g,hg,e1,e2⟩=>?_⟩
    rcases zG.1 hg with hg|hg
    . exact ⟨g,hg,e1,e2⟩
    . rw [zv] at hg;subst hg;refine (h.mem r).1 ?_;rw [<-e1,<-hr];exact zK.2 ⟨G[j],zo hj,rfl⟩
  . obtain ⟨i,q,rfl⟩:=zp.1 hg;rw [y5] at q;rw [List.getElem_set];by_cases O:j=i
    . subst O;rw [if_pos rfl,xtH,if_pos ⟨rfl,hf⟩,h.ps _ (zo hj),hr]
    . rw [if_neg O,xtH,if_neg ?_,zD]
      . exact h.ps _ (zo q)
      . rintro ⟨e,_⟩;have hn:=zB.1 h.nd;have ei:(G.map (·.1))[i]'(by simpa using q)=G[i].1:=by simp
        have ej:(G.map (·.1))[j]'(by simpa using hj)=G[j].1:=by simp
        rcases Nat.lt_or_gt_of_ne O with J|J
        . exact hn j i (by simpa using hj) (by simpa using q) J (by rw [ei,ej,hr,e])
        . exact hn i j (by simpa using q) (by simpa using hj) J (by rw [ei,ej,hr,e])
 | none =>
  have hr:=xBS hi;dsimp only;have hz:psOf l f.r=[]:=by
   unfold psOf;rw [List.map_eq_nil_iff,List.filter_eq_nil_iff];intro g hg he;simp only [zf,zl] at he;exact hr ((h.mem _).2 ⟨g,hg,he⟩)
  refine ⟨?_,fun r=>?_,fun g hg=>?_,by rw [z8,z8];have:=h.len;simp;omega⟩
  . rw [zx];refine List.nodup_append.2 ⟨h.nd,by simp,fun a ha b hb e=>?_⟩
    simp at hb;exact hr (by rw [<-hb,<-e];exact ha)
  . rw [zx,zG,h.mem];simp only [zV,zW,zv,zG];constructor
    . rintro (⟨g,hg,e⟩|rfl)
      . exact ⟨g,.inl hg,e⟩
      . exact ⟨f,.inr rfl,rfl,hf⟩
    . rintro ⟨g,hg|rfl,e⟩
      . exact .inl ⟨g,hg,e⟩
      . exact .inr e.1.symm
  . rcases zG.1 hg with hg|hg
    . rw [xtH,if_neg ?_,zD]
      . exact h.ps g hg
      . rintro ⟨e,_⟩;exact hr (by rw [e];exact zK.2 ⟨g,hg,rfl⟩)
    . rw [zv] at hg;subst hg;rw [xtH,if_pos ⟨rfl,hf⟩,hz];rfl
theorem cG0 (g:Grp):((encG g).cells.getD 0 .top).toList=g.1.map encV:=rfl
theorem xGp {α:Type} (l:List α) (x d:α):(l++[x]).getD l.length d=x:=by simp
theorem xIa {α:Type} (l:List α) (x y:α):(l++[x]).set l.length y=l++[y]:=by simp
theorem xLs (xs:List AV):(AV.agg xs).cells=xs:=rfl
theorem tolA (n:Nat) (xs:List AV):(AV.list n xs).toList=xs:=rfl
theorem xLv (k:IntKind) (n:Int):(AV.int k n).toInt=n:=rfl
theorem xLt (xs:List AV):xMt 2 (.list 2 xs)=true:=rfl
theorem xLz (n m:Nat):xMR (.int .i64 (n:Int)) m=decide (n<m):=rfl
theorem xLy:xMR (.int .i64 0) 1=true:=rfl
theorem g2a (a b:AV):[a,b].getD 0 .top=a:=rfl
theorem g2b (a b:AV):[a,b].getD 1 .top=b:=rfl
theorem lt2 (a b:AV):([a,b].length==2)=true:=rfl
theorem tk1 (a b:AV):List.take 1 [a,b]=[a]:=rfl
theorem dp2 (a b:AV):List.drop 2 [a,b]=[]:=rfl
theorem xDV (g:Grp):encG g=.agg [.list 3 (g.1.map encV),.list 2 (g.2.map encP)]:=rfl
theorem xDW (p:Per):encP p=.agg [.int .i64 p.1,.int .i64 p.2]:=rfl
def R20 (l:List Fc):Prop:=∃ R:List Row,R.length<20/\∀ f,f∈l->f.r∈R
theorem R20.few {l:List Fc} (h:l.length<20):R20 l:=⟨l.map (·.r),by rw [za];exact h,fun f hf=>zK.2 ⟨f,hf,rfl⟩⟩
theorem R20.of {l m:List Fc} (h:R20 l) (hm:∀ f,f∈m->∃ g,g∈l/\f.r=g.r):R20 m:=by
 obtain ⟨R,h1,h2⟩:=h;exact ⟨R,h1,fun f hf=>by obtain ⟨g,g1,g2⟩:=hm f hf;rw [g2];exact h2 g g1⟩
def Keyed (l:List Fc):Prop:=Few l/\(∀ f,f∈l->(∀ v,v∈f.r->KOk v)/\(keyOf f.r).length<=17592186044416)/\R20 l
theorem Keyed.key {l:List Fc} (h:Keyed l) {f:Fc} (hf:f∈l):xhm (f.r.map encV)=some (keyOf f.r):=xGy f.r (h.1.2 f hf) (h.2.1 f hf).1 (h.2.1 f hf).2
theorem xG2 (l:List Fc) (h:Keyed l) (k:Nat) (hk:k<l.length) (G:List Grp) (hG:GI (l.take k) G) :
  xaT (l.map encF) ((l.length:Nat):Int) (G.length,(k:Int),ents 0 (G.map (·.1)),G.map encG) =
   some (.inl ((if pv l[k].p=true then upd G l[k] else G).length,((k+1:Nat):Int),ents 0 ((if pv l[k].p=true then upd G l[k] else G).map (·.1)),(if pv l[k].p=true then upd G l[k] else G).map encG)):=by
 have hl:=h.1.1;have i1:(k:Int)<(l.length:Int):=by omega
 have gf:(l.map encF).getD k .top=encF l[k]:=xaa _ _ _ hk;have ek:=h.key (zo hk);have kl:=(h.2.1 _ (zo hk)).2;have O:=hG.len;rw [zt] at O;cases hv:pv l[k].p with
 | false =>
  simp only [xaT,xdf,sBU,i1,hk,gf,cF0,cF1,cF2,sF0,sF1,sF2,lF,sF12,sF02,xmN,hv,xKU (n:=k) (by omega)]
  rfl
 | true =>
  have k1:(keyOf l[k].r).length<=4611686018427387904:=by omega
  have hx:=xDX (G.map (·.1)) 0 l[k].r;have n1:(ents 0 (G.map (·.1))).length<4611686018427387904:=by rw [xBQ,za];omega
  have m1:(G.length+1)*48<=140737488355328:=by omega
  have m2:G.length+1<=4611686018427387904:=by omega
  simp only [if_true];cases hi:(G.map (·.1)).findIdx? fun x=>decide (x=l[k].r) with
  | none =>
   rw [hi] at hx;have hu:upd G l[k]=G++[(l[k].r,[l[k].p])]:=by unfold upd;rw [hi]
   have hh:xMi (ents 0 (G.map (·.1))) (keyOf l[k].r)=false:=by unfold xMi;rw [hx];rfl
   have hg:xL6 (AV.int .i64 0) (ents 0 (G.map (·.1))) (keyOf l[k].r)=AV.int .i64 0:=by unfold xL6;rw [hx]
   have hp:xL4 (ents 0 (G.map (·.1))) (keyOf l[k].r) (AV.int .i64 (G.length:Int))=ents 0 ((G++[(l[k].r,[l[k].p])]).map (·.1)):=by
    unfold xL4;rw [hx,zx];show _=ents 0 (G.map (·.1)++[l[k].r]);rw [xz6,za,zH]
   have i2:(G.length:Int)<((G.length+1:Nat):Int):=by omega
   have J:xLN (Sh.int .i64) (AV.int .i64 0)=true:=rfl;have gl:∀ x:AV,(G.map encG++[x]).getD G.length .top=x:=fun x=>by have:=xGp (G.map encG) x .top;rwa [za] at this
   have sl:∀ x y:AV,(G.map encG++[x]).set G.length y=G.map encG++[y]:=fun x y=>by have:=xIa (G.map encG) x y;rwa [za] at this
   rw [hu];simp only [xaT,xdf,xfY,xfZ,xcL,xcM,xd0,xfx,xd1,xao,xf0,xap,xaC,xak,xdD,xfa,xfb,xax,xfc,xdE,xbC,sBU,i1,hk,gf,cF0,cF1,cF2,sF0,sF1,sF2,lF,sF12,sF02,xmN,hv,xKU (n:=k) (by omega),ek,k1,hh,hg,hp,n1,m1,m2,i2,J,gl,sl,z8,zj,zx,zV,zW,xLs,tolA,xLv,xLt,xLz,g2a,g2b,lt2,tk1,dp2,y5,Nat.lt_succ_self,Bool.and_self,List.length_nil,zH,xDV,xDW,List.singleton_append,zU,zD,Int.natCast_zero]
   try simp [xab,xLy,sUF]
  | some j =>
   obtain ⟨hj,hr⟩:=xu8 hi;rw [hi] at hx;have q:j<G.length:=by simpa using hj
   rw [List.getElem_map] at hr;have gd:G.getD j ([],[])=G[j]:=by rw [z7,ze q];rfl
   have hu:upd G l[k]=G.set j (l[k].r,G[j].2++[l[k].p]):=by unfold upd;rw [hi];dsimp only;rw [gd]
   have hh:xMi (ents 0 (G.map (·.1))) (keyOf l[k].r)=true:=by unfold xMi;rw [hx];rfl
   have hg:xL6 (AV.int .i64 0) (ents 0 (G.map (·.1))) (keyOf l[k].r)=AV.int .i64 (j:Int):=by
    unfold xL6;rw [hx];dsimp only;rw [xBP _ _ _ hj,zH];rfl
   have gj:(G.map encG).getD j .top=encG G[j]:=xaa _ _ _ q;have i2:(j:Int)<(G.length:Int):=by omega
   have J:xLN (Sh.int .i64) (AV.int .i64 (j:Int))=true:=rfl;have pl:G[j].2.length<=k:=by
    rw [hG.ps _ (zo q)];have:=xCr (l.take k) G[j].1;rw [zt] at this;omega
   have m3:(G[j].2.length+1)*16<=140737488355328:=by omega
   have m4:G[j].2.length+1<=4611686018427387904:=by omega
   have gs:∀ x:AV,((G.map encG).set j x).getD j .top=x:=fun x=>by
    rw [z7,zL (by simpa using q)];rfl
   have ss:∀ x y:AV,((G.map encG).set j x).set j y=(G.map encG).set j y:=fun x y=>List.set_set ..
   have tj:(AV.int IntKind.i64 (j:Int)).toInt=(j:Int):=rfl;have cj:(encG G[j]).cells=[.list 3 (l[k].r.map encV),.list 2 (G[j].2.map encP)]:=by rw [<-hr];rfl
   rw [hu,xzL q hr,y5,List.map_set];simp only [xaT,xdf,xfY,xfZ,xcL,xcM,xd0,xfx,xd1,xao,xf0,xap,xaC,xak,xdD,xfa,xfb,xax,xfc,xdE,xbC,sBU,i1,hk,gf,cF0,cF1,cF2,sF0,sF1,sF2,lF,sF12,sF02,xmN,hv,xKU (n:=k) (by omega),ek,k1,hh,hg,i2,J,tj,gj,cj,q,y5,gs,ss,xLs,tolA,xLv,xLt,xLz,g2a,g2b,lt2,tk1,dp2,m3,m4,Bool.and_self,z8,zj,Nat.lt_succ_self,xDV,xDW,zx,zV,zW,List.singleton_append,zD]
   try simp [xab,xLy,hr,sUF]
def grp (l:List Fc):List Grp:=l.foldl (fun G f=>if pv f.p=true then upd G f else G) []
theorem xBZ (l:List Fc) (f:Fc):grp (l++[f])=if pv f.p=true then upd (grp l) f else grp l:=by simp [grp]
theorem xGq:∀ l:List Fc,GI l.reverse (grp l.reverse)
 | []=>GI.nil
 | f::l=>by
  rw [List.reverse_cons,xBZ];have ih:=xGq l;cases hv:pv f.p with
  | true=>rw [if_pos rfl];exact ih.upd hv
  | false=>rw [if_neg (by simp)];exact ih.skip hv
theorem xGr (l:List Fc):GI l (grp l):=by have:=xGq l.reverse;rwa [List.reverse_reverse] at this
theorem xG1 (l:List Fc) (h:Keyed l):Iter (xaT (l.map encF) ((l.length:Nat):Int)) ((0:Nat),(0:Int),[],[])=some ((grp l).length,(grp l).map encG):=by
 refine xme (fun k=>(((grp (l.take k)).length,((k:Nat):Int),ents 0 ((grp (l.take k)).map (·.1)),(grp (l.take k)).map encG):Nat×Int×List AV×List AV)) l.length _ (fun k hk=>?_) ?_ l.length 0 (by omega)
 . rw [xG2 l h k hk (grp (l.take k)) (xGr _)];have tk:l.take (k+1)=l.take k++[l[k]]:=by rw [List.take_add_one,ze hk];rfl
   rw [tk,xBZ]
 . simp only [xaT,xdf,za,zy,zm,xac,y7,sUF]
theorem xII (x y:Grp) (hx:x.1.length<=4398046511104):xLk (encG x) (encG y)=true/\xLl (encG x) (encG y)=cmpR x.1 y.1:=by
 have e:xfB (x.1.map encV) (x.2.map encP) (y.1.map encV) (y.2.map encP)=some (cmpR x.1 y.1):=by
  unfold xfB xl8;rw [xHe x.1 y.1 (by unfold maxLen;omega)];rfl
 have e2:xfB ((encG x).cells.getD 0 .top).toList ((encG x).cells.getD 1 .top).toList ((encG y).cells.getD 0 .top).toList ((encG y).cells.getD 1 .top).toList=some (cmpR x.1 y.1):=e;unfold xLk xLl;rw [e2];exact ⟨rfl,rfl⟩
theorem xJa (l:List Fc) (h:Keyed l):∃ S:List Grp,xiW (l.map encF)=some (S.map encG)/\xK6 l (S.map (·.1))/\(∀ g,g∈S->g.2=psOf l g.1)/\S.length<=l.length:=by
 have hg:=xGr l;have Q:=h.1.1;have O:=hg.len;have cG:Cm fun x y:Grp=>cmpR x.1 y.1:=xp6.on (e:=fun x:Grp=>x.1)
 obtain ⟨R,U,hR⟩:=h.2.2;have J:(grp l).length<20:=by
  have:=hg.nd.length_le_of_subset (l₂:=R) fun r hr=>by
   obtain ⟨f,hf,e,_⟩:=(hg.mem r).1 hr;rw [<-e];exact hR f hf
  rw [za] at this;omega
 obtain ⟨r,e,p,s⟩:=xB0 cG.ord [] (grp l) [];simp only [zU,zD,List.length_nil,zH] at e;have es:=xKL (N:=(grp l).length) (by omega) (ok:=fun g=>g.1.length<=1048576) (c:=fun x y:Grp=>cmpR x.1 y.1) (fun x y hx hy=>xII x y (by omega)) J (grp l) r rfl (fun g q=>by
  obtain ⟨f,hf,e,_⟩:=(hg.mem g.1).1 (zK.2 ⟨g,q,rfl⟩);rw [<-e];exact h.1.2 f hf) e
 have rl:=p.length_eq;refine ⟨r,?_,⟨?_,fun x=>?_⟩,fun g q=>hg.ps g (p.mem_iff.1 q),by rw [rl];exact O⟩
 . have el:=xG1 l h;have ra:xMj 2 1 ((grp l).map encG)=true:=by
    unfold xMj;rw [zI];intro x hx;obtain ⟨g,_,rfl⟩:=zK.1 hx;rfl
   have ll:(grp l).length<=r.length:=by omega
   have tt:List.take (grp l).length (r.map encG)=r.map encG:=zi (by rw [za];omega)
   unfold xiW xm7 xl9 xma xig xmb xmc xmd;simp only [za,el,zk,zh,xab,ra,es,zH,ll,zn,zS,zr,tt,sUF]
 . refine xHb (fun _ _=>xmJ) ?_ ?_
   . exact List.pairwise_map.2 s
   . exact ((p.map (·.1)).nodup_iff).2 hg.nd
 . rw [(p.map (·.1)).mem_iff];exact hg.mem x
end Go.Sim.M
end
noncomputable section
set_option maxRecDepth 100000
namespace Go.Sim.M
open Go.RowKit Go.Lib
def xp4 (l:List AV) (i:Int):Bool:=decide ((0:Int)<=i)&&decide (i<(↑l.length:Int))
def xuw {T:Type} (l:List AV) (out_n:Nat) (q:Int) (na:Int) (nb:Int) (i:Int) (out_xs:List AV) (δ:T) (κl:(Int×Int×Int×List AV)->T) (κr:(Int×Int×Int×List AV)->T):T:=br (decide (i<(↑l.length:Int))) (br (xp4 l i) (br (decide (i.toNat<l.length)&&xLN (Sh.int IntKind.i64) ((l.getD i.toNat AV.top).cells.getD (0:Nat) AV.top)) (br (((l.getD i.toNat AV.top).cells.getD (0:Nat) AV.top).toInt==q) (br (xp4 l i) (br (decide (i.toNat<l.length)&&xLN (Sh.int IntKind.i64) ((l.getD i.toNat AV.top).cells.getD (1:Nat) AV.top)) (br (xp4 l i) (br (decide (i.toNat<l.length)&&xLN (Sh.int IntKind.i64) ((l.getD i.toNat AV.top).cells.getD (2:Nat) AV.top)) (κl (IntKind.i64.wrap (na+((l.getD i.toNat AV.top).cells.getD (1:Nat) AV.top).toInt),IntKind.i64.wrap (nb+((l.getD i.toNat AV.top).cells.getD (2:Nat) AV.top).toInt),IntKind.i64.wrap (i+(1:Int)),out_xs)) (δ)) (δ)) (δ)) (δ)) (κr (na,nb,i,out_xs))) (δ)) (δ)) (κr (na,nb,i,out_xs))
def xg2 (l:List AV) (out_n:Nat) (q:Int):(Int×Int×Int×List AV)->Option ((Int×Int×Int×List AV)⊕(Int×Int×Int×List AV)):=fun (na,nb,i,out_xs)=>xuw l out_n q na nb i out_xs none (fun s=>some (.inl s)) (fun p=>some (.inr p))
def xmT (keep:Bool->Bool->Bool) (out_n:Nat):Bool:=decide ((0:Int)<=IntKind.i64.wrap ((↑out_n:Int) - (1:Int)))&&decide (IntKind.i64.wrap ((↑out_n:Int) - (1:Int))<(↑out_n:Int))
def xri (keep:Bool->Bool->Bool) (l:List AV) (out_n:Nat) (na:Int) (nb:Int) (i:Int) (q:Int) (out_xs:List AV):Int×Int×Int×List AV:=(Iter (xg2 l out_n q) (na,nb,i,out_xs)).getD ((0:Int),(0:Int),(0:Int),[])
def xbX (keep:Bool->Bool->Bool) (out_n:Nat):Nat:=(0:Nat)+(IntKind.i64.wrap ((↑out_n:Int) - (1:Int))).toNat
def xsU (keep:Bool->Bool->Bool) (l:List AV) (out_n:Nat) (na:Int) (nb:Int) (i:Int) (q:Int) (out_xs:List AV):Int×Int×List AV:=(xri keep l out_n na nb i q out_xs).snd
def xeI (keep:Bool->Bool->Bool) (l:List AV) (out_n:Nat) (na:Int) (nb:Int) (i:Int) (q:Int) (out_xs:List AV):Int:=(xri keep l out_n na nb i q out_xs).fst
def xsT (keep:Bool->Bool->Bool) (l:List AV) (out_n:Nat) (na:Int) (nb:Int) (i:Int) (q:Int) (out_xs:List AV):Int×List AV:=(xsU keep l out_n na nb i q out_xs).snd
def xeH (keep:Bool->Bool->Bool) (l:List AV) (out_n:Nat) (na:Int) (nb:Int) (i:Int) (q:Int) (out_xs:List AV):Int:=(xsU keep l out_n na nb i q out_xs).fst
def xaG (keep:Bool->Bool->Bool) (l:List AV) (out_n:Nat) (na:Int) (nb:Int) (i:Int) (q:Int) (out_xs:List AV):List AV:=(xsT keep l out_n na nb i q out_xs).snd
def xsR (keep:Bool->Bool->Bool) (l:List AV) (out_n:Nat) (na:Int) (nb:Int) (i:Int) (q:Int) (out_xs:List AV):Bool:=keep (decide (xeI keep l out_n na nb i q out_xs>(0:Int))) (decide (xeH keep l out_n na nb i q out_xs>(0:Int)))
def xaP (keep:Bool->Bool->Bool) (l:List AV) (out_n:Nat) (na:Int) (nb:Int) (i:Int) (q:Int) (out_xs:List AV):Int:=(xsT keep l out_n na nb i q out_xs).fst
def xmS (keep:Bool->Bool->Bool) (l:List AV) (out_n:Nat) (na:Int) (nb:Int) (i:Int) (q:Int) (out_xs:List AV):Bool:=decide (xbX keep out_n<(xaG keep l out_n na nb i q out_xs).length)
def xsS (keep:Bool->Bool->Bool) (l:List AV) (out_n:Nat) (na:Int) (nb:Int) (i:Int) (q:Int) (out_xs:List AV):Bool:=decide (xaP keep l out_n na nb i q out_xs<(↑l.length:Int))
def xpr {T:Type} (keep:Bool->Bool->Bool) (l:List AV) (out_n:Nat) (na:Int) (nb:Int) (i:Int) (q:Int) (out_xs:List AV) (δ:T) (κl:(Nat×Int×Int×Int×Int×List AV)->T) (κr:(Nat×List AV)->T):T:=br (decide (q<(1099511627776:Int))) (br ((Iter (xg2 l out_n q) (na,nb,i,out_xs)).isSome) (br (xsS keep l out_n na nb i q out_xs) (br (decide ((0:Int)<=xaP keep l out_n na nb i q out_xs)&&xsS keep l out_n na nb i q out_xs) (br (decide ((xaP keep l out_n na nb i q out_xs).toNat<l.length)&&xLN (Sh.int IntKind.i64) ((l.getD (xaP keep l out_n na nb i q out_xs).toNat AV.top).cells.getD (0:Nat) AV.top)) (br (xsR keep l out_n na nb i q out_xs) (br (decide ((↑out_n:Int)>(0:Int))) (br (xmT keep out_n) (br (xmS keep l out_n na nb i q out_xs&&xLN (Sh.int IntKind.i64) (((xaG keep l out_n na nb i q out_xs).getD (xbX keep out_n) AV.top).cells.getD (1:Nat) AV.top)) (br ((((xaG keep l out_n na nb i q out_xs).getD (xbX keep out_n) AV.top).cells.getD (1:Nat) AV.top).toInt==q) (br (xmT keep out_n) (br (xmS keep l out_n na nb i q out_xs) (κl (out_n,xeI keep l out_n na nb i q out_xs,xeH keep l out_n na nb i q out_xs,xaP keep l out_n na nb i q out_xs,((l.getD (xaP keep l out_n na nb i q out_xs).toNat AV.top).cells.getD (0:Nat) AV.top).toInt,(xaG keep l out_n na nb i q out_xs).set (xbX keep out_n) (AV.agg (List.take (1:Nat) ((xaG keep l out_n na nb i q out_xs).getD (xbX keep out_n) AV.top).cells++[AV.int IntKind.i64 ((l.getD (xaP keep l out_n na nb i q out_xs).toNat AV.top).cells.getD (0:Nat) AV.top).toInt]++List.drop (2:Nat) ((xaG keep l out_n na nb i q out_xs).getD (xbX keep out_n) AV.top).cells)))) (δ)) (δ)) (br (out_n==(xaG keep l out_n na nb i q out_xs).length&&(decide ((out_n+(1:Nat))*(16:Nat)<=(140737488355328:Nat))&&decide (out_n+(1:Nat)<=(4611686018427387904:Nat)))) (κl (out_n+(1:Nat),xeI keep l out_n na nb i q out_xs,xeH keep l out_n na nb i q out_xs,xaP keep l out_n na nb i q out_xs,((l.getD (xaP keep l out_n na nb i q out_xs).toNat AV.top).cells.getD (0:Nat) AV.top).toInt,xaG keep l out_n na nb i q out_xs++[AV.agg [AV.int IntKind.i64 q,AV.int IntKind.i64 ((l.getD (xaP keep l out_n na nb i q out_xs).toNat AV.top).cells.getD (0:Nat) AV.top).toInt]])) (δ))) (δ)) (δ)) (br (out_n==(xaG keep l out_n na nb i q out_xs).length&&(decide ((out_n+(1:Nat))*(16:Nat)<=(140737488355328:Nat))&&decide (out_n+(1:Nat)<=(4611686018427387904:Nat)))) (κl (out_n+(1:Nat),xeI keep l out_n na nb i q out_xs,xeH keep l out_n na nb i q out_xs,xaP keep l out_n na nb i q out_xs,((l.getD (xaP keep l out_n na nb i q out_xs).toNat AV.top).cells.getD (0:Nat) AV.top).toInt,xaG keep l out_n na nb i q out_xs++[AV.agg [AV.int IntKind.i64 q,AV.int IntKind.i64 ((l.getD (xaP keep l out_n na nb i q out_xs).toNat AV.top).cells.getD (0:Nat) AV.top).toInt]])) (δ))) (κl (out_n,xeI keep l out_n na nb i q out_xs,xeH keep l out_n na nb i q out_xs,xaP keep l out_n na nb i q out_xs,((l.getD (xaP keep l out_n na nb i q out_xs).toNat AV.top).cells.getD (0:Nat) AV.top).toInt,xaG keep l out_n na nb i q out_xs))) (δ)) (δ)) (br (xsR keep l out_n na nb i q out_xs) (br (decide ((↑out_n:Int)>(0:Int))) (br (xmT keep out_n) (br (xmS keep l out_n na nb i q out_xs&&xLN (Sh.int IntKind.i64) (((xaG keep l out_n na nb i q out_xs).getD (xbX keep out_n) AV.top).cells.getD (1:Nat) AV.top)) (br ((((xaG keep l out_n na nb i q out_xs).getD (xbX keep out_n) AV.top).cells.getD (1:Nat) AV.top).toInt==q) (br (xmT keep out_n) (br (xmS keep l out_n na nb i q out_xs) (κl (out_n,xeI keep l out_n na nb i q out_xs,xeH keep l out_n na nb i q out_xs,xaP keep l out_n na nb i q out_xs,(1099511627776:Int),(xaG keep l out_n na nb i q out_xs).set (xbX keep out_n) (AV.agg (List.take (1:Nat) ((xaG keep l out_n na nb i q out_xs).getD (xbX keep out_n) AV.top).cells++[AV.int IntKind.i64 (1099511627776:Int)]++List.drop (2:Nat) ((xaG keep l out_n na nb i q out_xs).getD (xbX keep out_n) AV.top).cells)))) (δ)) (δ)) (br (out_n==(xaG keep l out_n na nb i q out_xs).length&&(decide ((out_n+(1:Nat))*(16:Nat)<=(140737488355328:Nat))&&decide (out_n+(1:Nat)<=(4611686018427387904:Nat)))) (κl (out_n+(1:Nat),xeI keep l out_n na nb i q out_xs,xeH keep l out_n na nb i q out_xs,xaP keep l out_n na nb i q out_xs,(1099511627776:Int),xaG keep l out_n na nb i q out_xs++[AV.agg [AV.int IntKind.i64 q,AV.int IntKind.i64 (1099511627776:Int)]])) (δ))) (δ)) (δ)) (br (out_n==(xaG keep l out_n na nb i q out_xs).length&&(decide ((out_n+(1:Nat))*(16:Nat)<=(140737488355328:Nat))&&decide (out_n+(1:Nat)<=(4611686018427387904:Nat)))) (κl (out_n+(1:Nat),xeI keep l out_n na nb i q out_xs,xeH keep l out_n na nb i q out_xs,xaP keep l out_n na nb i q out_xs,(1099511627776:Int),xaG keep l out_n na nb i q out_xs++[AV.agg [AV.int IntKind.i64 q,AV.int IntKind.i64 (1099511627776:Int)]])) (δ))) (κl (out_n,xeI keep l out_n na nb i q out_xs,xeH keep l out_n na nb i q out_xs,xaP keep l out_n na nb i q out_xs,(1099511627776:Int),xaG keep l out_n na nb i q out_xs)))) (δ)) (κr (out_n,out_xs))
def xfz (keep:Bool->Bool->Bool) (l:List AV):(Nat×Int×Int×Int×Int×List AV)->Option ((Nat×Int×Int×Int×Int×List AV)⊕(Nat×List AV)):=fun (out_n,na,nb,i,q,out_xs)=>xpr keep l out_n na nb i q out_xs none (fun s=>some (.inl s)) (fun p=>some (.inr p))
def xzh (keep:Bool->Bool->Bool) (a:List AV) (b:List AV):Option (Nat×List AV):=Iter (xfz keep ((xgG a b).getD [])) ((0:Nat),(0:Int),(0:Int),(0:Int),(0:Int),[])
def xzg (keep:Bool->Bool->Bool) (a:List AV) (b:List AV):Nat×List AV:=(xzh keep a b).getD ((0:Nat),[])
def xze (keep:Bool->Bool->Bool) (a:List AV) (b:List AV):List AV:=(xzg keep a b).snd
def xzf (keep:Bool->Bool->Bool) (a:List AV) (b:List AV):Nat:=(xzg keep a b).fst
def xIq {T:Type} (keep:Bool->Bool->Bool) (a:List AV) (b:List AV) (δ:T) (κ:List AV->T):T:=br ((xgG a b).isSome) (br ((xzh keep a b).isSome) (br (decide ((0:Nat)+xzf keep a b<=(xze keep a b).length)&&true) (κ (List.take (xzf keep a b) (List.drop (0:Nat) (xze keep a b)))) (δ)) (δ)) (δ)
def swG (keep:Bool->Bool->Bool) (a:List AV) (b:List AV):Option (List AV):=xIq keep a b none some
end Go.Sim.M
end
noncomputable section
set_option maxRecDepth 100000
namespace Go.Sim.M
open Go.RowKit Go.Lib Go.Sort
def xKV (e:Edg):AV:=.agg [.int .i64 e.1,.int .i64 e.2.1,.int .i64 e.2.2]
theorem xwb (x y:Int):∀ a b,xKQ x y (a++b)=xKQ x y a++xKQ x y b
 | [],b=>rfl
 | p::a,b=>by
  simp only [List.cons_append,xKQ,xwb x y a b];split<;>rfl
theorem xyv (x y:Int) (l:List Per) (n:Nat) (h:n<l.length):xKQ x y (l.take (n+1))=xKQ x y (l.take n)++(if pv l[n]=true then [(l[n].1,x,y),(l[n].2,-x,-y)] else []):=by
 rw [List.take_add_one,ze h];show xKQ x y (l.take n++[l[n]])=_;rw [xwb];rfl
theorem xv9 (B:List AV) (l:List Per) (hl:l.length<=1073741824):∀ (k n:Nat),n+k=l.length ->
  Iter (xby B (l.map encP) ((l.length:Nat):Int)) ((xKQ 1 0 (l.take n)).length,((n:Nat):Int),(xKQ 1 0 (l.take n)).map xKV)=some ((xKQ 1 0 l).length,(xKQ 1 0 l).map xKV)
 | 0,n,hk=>by
  obtain rfl:n=l.length:=by omega
  rw [zi (zd _)];refine xad ?_;unfold xby;simp only;unfold xjP;rw [decide_eq_false (by omega:¬ ((l.length:Nat):Int)<((l.length:Nat):Int))]
  rfl
 | k+1,n,hk=>by
  have h1:n<l.length:=by omega
  have J:=xj4 1 0 (l.take n);have q:(l.take n).length<=n:=by rw [zt];omega
  have d1:((n:Nat):Int)<((l.length:Nat):Int):=by omega
  have d2:(0:Int)<=((n:Nat):Int):=by omega
  have d3:((xKQ 1 0 (l.take n)).length+2)*24<=140737488355328:=by omega
  have d4:(xKQ 1 0 (l.take n)).length+2<=4611686018427387904:=by omega
  have d5:((xKQ 1 0 (l.take n)).length==(xKQ 1 0 (l.take n)).length)=true:=by simp
  have gf:(l.map encP).getD n .top=encP l[n]:=xaa _ _ _ h1;have c0:((encP l[n]).cells.getD 0 .top).toInt=l[n].1:=rfl;have c1:((encP l[n]).cells.getD 1 .top).toInt=l[n].2:=rfl;have sh:((encP l[n]).cells.length==(2:Nat)&&xLU [Sh.int IntKind.i64,Sh.int IntKind.i64] (encP l[n]).cells (0:Nat))=true:=rfl;have st:xby B (l.map encP) ((l.length:Nat):Int) ((xKQ 1 0 (l.take n)).length,((n:Nat):Int),(xKQ 1 0 (l.take n)).map xKV) =
    some (.inl ((xKQ 1 0 (l.take (n+1))).length,((n+1:Nat):Int),(xKQ 1 0 (l.take (n+1))).map xKV)):=by
   rw [xyv 1 0 l n h1];unfold xby;simp only;unfold xjP;rw [zN,gf,sh,c0,c1,xmN,za,za,decide_eq_true d1,decide_eq_true d2,decide_eq_true h1,decide_eq_true d3,decide_eq_true d4,d5,xiU (show n+1<=maxLen by unfold maxLen;omega)]
   cases pv l[n] with
   | true=>simp only [if_true,z8,zx];rfl
   | false=>simp only [zT,if_false,zD];rfl
  rw [xal st];exact xv9 B l hl k (n+1) (by omega)
theorem xwa (E0:List Edg) (l:List Per) (hl:l.length<=1073741824) (hE:E0.length<=2147483648):∀ (k n:Nat),n+k=l.length ->
  Iter (xdy (l.map encP) ((l.length:Nat):Int)) ((E0++xKQ 0 1 (l.take n)).length,((n:Nat):Int),(E0++xKQ 0 1 (l.take n)).map xKV)=some ((E0++xKQ 0 1 l).length,(E0++xKQ 0 1 l).map xKV)
 | 0,n,hk=>by
  obtain rfl:n=l.length:=by omega
  rw [zi (zd _)];refine xad ?_;unfold xdy;simp only;unfold xjQ;rw [decide_eq_false (by omega:¬ ((l.length:Nat):Int)<((l.length:Nat):Int))]
  rfl
 | k+1,n,hk=>by
  have h1:n<l.length:=by omega
  have O:=xj4 0 1 (l.take n);have J:(l.take n).length<=n:=by rw [zt];omega
  have q:(E0++xKQ 0 1 (l.take n)).length=E0.length+(xKQ 0 1 (l.take n)).length:=z8;have d1:((n:Nat):Int)<((l.length:Nat):Int):=by omega
  have d2:(0:Int)<=((n:Nat):Int):=by omega
  have d3:((E0++xKQ 0 1 (l.take n)).length+2)*24<=140737488355328:=by omega
  have d4:(E0++xKQ 0 1 (l.take n)).length+2<=4611686018427387904:=by omega
  have d5:((E0++xKQ 0 1 (l.take n)).length==(E0++xKQ 0 1 (l.take n)).length)=true:=by simp
  have gf:(l.map encP).getD n .top=encP l[n]:=xaa _ _ _ h1;have c0:((encP l[n]).cells.getD 0 .top).toInt=l[n].1:=rfl;have c1:((encP l[n]).cells.getD 1 .top).toInt=l[n].2:=rfl;have sh:((encP l[n]).cells.length==(2:Nat)&&xLU [Sh.int IntKind.i64,Sh.int IntKind.i64] (encP l[n]).cells (0:Nat))=true:=rfl;have st:xdy (l.map encP) ((l.length:Nat):Int) ((E0++xKQ 0 1 (l.take n)).length,((n:Nat):Int),(E0++xKQ 0 1 (l.take n)).map xKV) =
    some (.inl ((E0++xKQ 0 1 (l.take (n+1))).length,((n+1:Nat):Int),(E0++xKQ 0 1 (l.take (n+1))).map xKV)):=by
   rw [xyv 0 1 l n h1,<-zw];unfold xdy;simp only;unfold xjQ;rw [zN,gf,sh,c0,c1,xmN,za,za,decide_eq_true d1,decide_eq_true d2,decide_eq_true h1,decide_eq_true d3,decide_eq_true d4,d5,xiU (show n+1<=maxLen by unfold maxLen;omega)]
   cases pv l[n] with
   | true=>rw [if_pos rfl,z8 (bs:=[(l[n].1,0,1),(l[n].2,-0,-1)]),zx (l₂:=[(l[n].1,0,1),(l[n].2,-0,-1)])];rfl
   | false=>rw [if_neg (by simp),zD];rfl
  rw [xal st];exact xwa E0 l hl hE k (n+1) (by omega)
def toE (e:Edg):TyE:=(Fin.ofNat 1099511627777 e.1.toNat,e.2.1,e.2.2)
def ofE (x:TyE):Edg:=((x.1.val:Int),x.2.1,x.2.2)
theorem xIY {e:Edg} (h1:0<=e.1) (h2:e.1<=1099511627776):ofE (toE e)=e:=by
 have:e.1.toNat % 1099511627777=e.1.toNat:=Nat.mod_eq_of_lt (by omega)
 simp only [ofE,toE,Fin.ofNat,this,Int.toNat_of_nonneg h1]
theorem xJm (E:List Edg) (h:∀ e,e∈E->0<=e.1/\e.1<=1099511627776):(E.map xKV).all isE=true/\∃ S:List Edg,srtE (E.map xKV)=S.map xKV/\S.Perm E/\S.Pairwise fun x y=>x.1<=y.1:=by
 refine ⟨?_,(pdqL cmpE (E.map toE)).map ofE,?_,?_,?_⟩
 . rw [zI];intro x hx;obtain ⟨e,he,rfl⟩:=zK.1 hx;have:=h e he;show (decide _&&decide _)=true;rw [decide_eq_true this.1,decide_eq_true this.2];rfl
 . unfold srtE;have e1:(E.map xKV).map decE=E.map toE:=by rw [List.map_map];rfl
   rw [e1,List.map_map];rfl
 . have hp:=((xmM cmpE swoE (E.map toE)).1).map ofE;have e2:(E.map toE).map ofE=E:=by
    rw [List.map_map]
    conv=>rhs;rw [<-List.map_id E]
    refine List.map_congr_left fun e he=>?_
    exact xIY (h e he).1 (h e he).2
   rwa [e2] at hp
 . rw [List.pairwise_map];refine (xs1 cmpE swoE (E.map toE)).imp fun {x y} q=>?_
   show ((x.1.val:Nat):Int)<=((y.1.val:Nat):Int);unfold cmpE at q;omega
theorem xHA (a b:List Per) (ha:a.length<=1073741824) (hb:b.length<=1073741824) :
  ∃ S:List Edg,xgG (a.map encP) (b.map encP)=some (S.map xKV)/\S.Perm (xKQ 1 0 a++xKQ 0 1 b)/\S.Pairwise fun x y=>x.1<=y.1:=by
 have l1:=xj4 1 0 a;have l2:=xj4 0 1 b;have O:(xKQ 1 0 a++xKQ 0 1 b).length=(xKQ 1 0 a).length+(xKQ 0 1 b).length:=z8;obtain ⟨J,S,hS,hp,hs⟩:=xJm (xKQ 1 0 a++xKQ 0 1 b) (fun e he=>by
  rcases zG.1 he with he|he
  . exact xmK 1 0 a e he
  . exact xmK 0 1 b e he)
 refine ⟨S,?_,hp,hs⟩;have h0:=xv9 (b.map encP) a ha a.length 0 (by omega)
 rw [List.take_zero] at h0;have h1:=xwa (xKQ 1 0 a) b hb (by omega) b.length 0 (by omega)
 rw [List.take_zero] at h1;have h0:Iter (xby (b.map encP) (a.map encP) (((a.map encP).length:Nat):Int)) (0,0,[])=some ((xKQ 1 0 a).length,(xKQ 1 0 a).map xKV):=by rw [za];exact h0
 have v4:xl2 (a.map encP) (b.map encP)=((xKQ 1 0 a).length,(xKQ 1 0 a).map xKV):=by unfold xl2;rw [h0];rfl
 have v3:xl1 (a.map encP) (b.map encP)=some ((xKQ 1 0 a++xKQ 0 1 b).length,(xKQ 1 0 a++xKQ 0 1 b).map xKV):=by
  unfold xl1;rw [v4,za];have e:xKQ 1 0 a++xKQ 0 1 []=xKQ 1 0 a:=zD _;rw [e] at h1;exact h1
 have v2:xl0 (a.map encP) (b.map encP)=((xKQ 1 0 a++xKQ 0 1 b).length,(xKQ 1 0 a++xKQ 0 1 b).map xKV):=by unfold xl0;rw [v3];rfl
 have v0:xgj (a.map encP) (b.map encP)=(xKQ 1 0 a++xKQ 0 1 b).length:=by unfold xgj;rw [v2]
 have v1:xgk (a.map encP) (b.map encP)=(xKQ 1 0 a++xKQ 0 1 b).map xKV:=by unfold xgk;rw [v2]
 have q:S.length=(xKQ 1 0 a++xKQ 0 1 b).length:=hp.length_eq;have d1:(xKQ 1 0 a++xKQ 0 1 b).length<4611686018427387904:=by omega
 have d2:0+(xKQ 1 0 a++xKQ 0 1 b).length<=(S.map xKV).length:=by rw [za,q];omega
 have d3:(xKQ 1 0 a++xKQ 0 1 b).length.beq (xKQ 1 0 a++xKQ 0 1 b).length=true:=Nat.beq_refl _;have tk:List.take (xKQ 1 0 a++xKQ 0 1 b).length (List.drop 0 (S.map xKV))=S.map xKV:=by rw [zr,zi (by rw [za,q];exact zd _)]
 unfold xgG xsc;rw [h0,v3,v0,v1,J,hS,tk,za,d3,decide_eq_true d1,decide_eq_true d2];rfl
theorem xGz (out:List Per) (h:out≠[]):out=out.dropLast++[out[out.length - 1]'(by have:=List.length_pos_iff.2 h;omega)]:=by
 have:=List.dropLast_concat_getLast h;rw [List.getLast_eq_getElem] at this;exact this.symm
section
variable (S : List Edg) (hS1 : ∀ e, e ∈ S -> 0 <= e.1 /\ e.1 <= 1099511627776) (hS2 : ∀ e, e ∈ S -> (-1 <= e.2.1 /\ e.2.1 <= 1) /\ (-1 <= e.2.2 /\ e.2.2 <= 1)) (hS3 : S.Pairwise fun x y => x.1 <= y.1) (hS4 : S.length <= 8589934592)
theorem xzR (g:Edg->Int):∀ l:List Edg,(∀ e,e∈l->-1<=g e/\g e<=1)->-(l.length:Int)<=xKT g l/\xKT g l<=l.length
 | [],_=>by simp [xKT]
 | e::l,h=>by
  have:=xzR g l fun x hx=>h x (List.mem_cons_of_mem _ hx)
  have:=h e (List.mem_cons_self ..);simp only [xKT,zF];omega
theorem xCK (g:Edg->Int) (n:Nat) (h:n<S.length):xKT g (S.take (n+1))=xKT g (S.take n)+g S[n]:=by
 rw [List.take_add_one,ze h];show xKT g (S.take n++[S[n]])=_;rw [xuQ];simp [xKT]
include hS1 hS2 hS3 hS4
theorem xyD (on:Nat) (at':Int) (ox:List AV):∀ (k i:Nat),i+k=S.length->∃ j:Nat,i<=j/\j<=S.length /\
  Iter (xg2 (S.map xKV) on at') (xKT (·.2.1) (S.take i),xKT (·.2.2) (S.take i),((i:Nat):Int),ox)=some (xKT (·.2.1) (S.take j),xKT (·.2.2) (S.take j),((j:Nat):Int),ox) /\
  (∀ (m:Nat) (h:m<S.length),i<=m->m<j->S[m].1=at')/\∀ (h:j<S.length),S[j].1≠at'
 | 0,i,hk=>by
  obtain rfl:i=S.length:=by omega
  refine ⟨S.length,zd _,zd _,xad ?_,fun m _ h1 h2=>by omega,fun h=>absurd h (Nat.lt_irrefl _)⟩
  unfold xg2;simp only;unfold xuw;rw [za,decide_eq_false (by omega:¬ ((S.length:Nat):Int)<((S.length:Nat):Int))]
  rfl
 | k+1,i,hk=>by
  have h1:i<S.length:=by omega
  have d1:((i:Nat):Int)<((S.length:Nat):Int):=by omega
  have d2:(0:Int)<=((i:Nat):Int):=by omega
  have gf:(S.map xKV).getD i .top=xKV S[i]:=xaa _ _ _ h1;have c0:((xKV S[i]).cells.getD 0 .top).toInt=S[i].1:=rfl;have c1:((xKV S[i]).cells.getD 1 .top).toInt=S[i].2.1:=rfl;have c2:((xKV S[i]).cells.getD 2 .top).toInt=S[i].2.2:=rfl;have s0:xLN (Sh.int IntKind.i64) ((xKV S[i]).cells.getD 0 .top)=true:=rfl;have s1:xLN (Sh.int IntKind.i64) ((xKV S[i]).cells.getD 1 .top)=true:=rfl;have s2:xLN (Sh.int IntKind.i64) ((xKV S[i]).cells.getD 2 .top)=true:=rfl;have v0:xp4 (S.map xKV) ((i:Nat):Int)=true:=by unfold xp4;rw [za,decide_eq_true d1,decide_eq_true d2];rfl
  by_cases he:S[i].1=at'
  . have hb:=hS2 S[i] (zo h1);have b1:=xzR (·.2.1) (S.take i) fun e he=>(hS2 e (List.mem_of_mem_take he)).1
    have b2:=xzR (·.2.2) (S.take i) fun e he=>(hS2 e (List.mem_of_mem_take he)).2
    have hl:(S.take i).length=i:=by rw [zt];omega
    rw [hl] at b1 b2;have b3:=xCK S (·.2.1) i h1;have b4:=xCK S (·.2.2) i h1;have w1:IntKind.i64.wrap (xKT (·.2.1) (S.take i)+S[i].2.1)=xKT (·.2.1) (S.take (i+1)):=by rw [b3];exact xbn (by omega) (by omega)
    have w2:IntKind.i64.wrap (xKT (·.2.2) (S.take i)+S[i].2.2)=xKT (·.2.2) (S.take (i+1)):=by rw [b4];exact xbn (by omega) (by omega)
    have st:xg2 (S.map xKV) on at' (xKT (·.2.1) (S.take i),xKT (·.2.2) (S.take i),((i:Nat):Int),ox)=some (.inl (xKT (·.2.1) (S.take (i+1)),xKT (·.2.2) (S.take (i+1)),((i+1:Nat):Int),ox)):=by
     unfold xg2;simp only;unfold xuw;have e1:(S[i].1==at')=true:=by simp [he]
     rw [v0,zN,gf,s0,s1,s2,c0,c1,c2,za,decide_eq_true d1,decide_eq_true h1,e1,w1,w2,xiU (show i+1<=maxLen by unfold maxLen;omega)]
     rfl
    obtain ⟨j,j1,j2,j3,j4,j5⟩:=xyD on at' ox k (i+1) (by omega)
    refine ⟨j,by omega,j2,by rw [xal st];exact j3,fun m hm h2 h3=>?_,j5⟩
    rcases Nat.eq_or_lt_of_le h2 with rfl|h2
    . exact he
    . exact j4 m hm h2 h3
  . refine ⟨i,zd _,by omega,xad ?_,fun m _ h2 h3=>by omega,fun _=>he⟩
    unfold xg2;simp only;unfold xuw;have e1:(S[i].1==at')=false:=by simp [he]
    rw [v0,zN,gf,s0,c0,za,decide_eq_true d1,decide_eq_true h1,e1];rfl
omit hS1 hS2 hS3 hS4
def SwI (K:Int->Bool) (s:Nat×Int×Int×Int×Int×List AV):Prop :=
 ∃ (out:List Per) (i:Nat) (at':Int),s=(out.length,xKT (·.2.1) (S.take i),xKT (·.2.2) (S.take i),((i:Nat):Int),at',out.map encP)/\0<=at'/\at'<=1099511627776/\i<=S.length /\
  (∀ (m:Nat) (h:m<S.length),m<i->S[m].1<at')/\(∀ (m:Nat) (h:m<S.length),i<=m->at'<=S[m].1)/\OutOk out at' K/\(out.length:Int)<=at'
include hS1 hS2 hS3 hS4
set_option maxHeartbeats 4000000 in
theorem xDB (keep:Bool->Bool->Bool) (a b:List Per) (hp:S.Perm (xKQ 1 0 a++xKQ 0 1 b)) (s:Nat×Int×Int×Int×Int×List AV) (hs:SwI S (fun t=>keep (inL a t) (inL b t)) s) :
  (∃ s',xfz keep (S.map xKV) s=some (.inl s')/\SwI S (fun t=>keep (inL a t) (inL b t)) s'/\(1099511627776 - s'.2.2.2.2.1).toNat<(1099511627776 - s.2.2.2.2.1).toNat) \/
  ∃ r,xfz keep (S.map xKV) s=some (.inr r)/\∃ out:List Per,r=(out.length,out.map encP)/\OutOk out 1099511627776 (fun t=>keep (inL a t) (inL b t)):=by
 obtain ⟨out,i,at',rfl,ah,az,hi,au,aw,O,a0⟩:=hs;by_cases hF:at'<1099511627776
 . left;obtain ⟨j,j1,j2,j3,j4,j5⟩:=xyD S hS1 hS2 hS3 hS4 out.length at' (out.map encP) (S.length - i) i (by omega)
   have ag:∀ (m:Nat) (h:m<S.length),m<j->S[m].1<=at':=fun m h hm=>by
    by_cases ax:m<i
    . have:=au m h ax;omega
    . have:=j4 m h (by omega) hm;omega
   have ao:∀ (m:Nat) (h:m<S.length),j<=m->at'<S[m].1:=fun m h hm=>by
    have hj:j<S.length:=by omega
    have h1:=aw j hj (by omega)
    have h2:=j5 hj;have h3:S[j].1<=S[m].1:=by
     rcases Nat.eq_or_lt_of_le hm with rfl|hm
     . exact Int.le_refl _
     . exact zB.1 hS3 j m hj h hm
    omega
   obtain ⟨nx,J⟩:∃ nx:Int,nx=if h:j<S.length then S[j].1 else 1099511627776:=⟨_,rfl⟩
   have aa:at'<nx:=by
    rw [J];split
    . rename_i h;exact ao j h (zd _)
    . exact hF
   have U:nx<=1099511627776:=by
    rw [J];split
    . rename_i h;exact (hS1 _ (zo h)).2
    . exact Int.le_refl _
   have al:∀ (m:Nat) (h:m<S.length),j<=m->nx<=S[m].1:=fun m h hm=>by
    have hj:j<S.length:=by omega
    rw [J,dif_pos hj];rcases Nat.eq_or_lt_of_le hm with rfl|hm
    . exact Int.le_refl _
    . exact zB.1 hS3 j m hj h hm
   have ak:∀ (g:Edg->Int) (t:Int),at'<=t->t<nx->xKT g (S.take j)=xK0 g t S:=fun g t Y W=>by
    conv=>rhs;rw [<-List.take_append_drop j S]
    rw [xoj,xAN,xza]
    . omega
    . intro e he;obtain ⟨m,hm,rfl⟩:=zp.1 he;rw [List.getElem_drop];have:=al (j+m) (by rw [y4] at hm;omega) (by omega)
      omega
    . intro e he;obtain ⟨m,hm,rfl⟩:=zp.1 he;rw [List.getElem_take];rw [zt] at hm;have:=ag m (by omega) (by omega)
      omega
   have af:∀ t,at'<=t->t<nx->decide (xKT (·.2.1) (S.take j)>0)=inL a t/\decide (xKT (·.2.2) (S.take j)>0)=inL b t:=fun t Y W=>by
    rw [ak _ t Y W,ak _ t Y W,xzb _ t hp,xzb _ t hp,xoj,xoj,xuv,xwA,xzd,xwB,Int.add_zero,Int.zero_add,xBM,xBM];exact ⟨rfl,rfl⟩
   obtain ⟨kv,aq⟩:∃ kv:Bool,kv=keep (decide (xKT (·.2.1) (S.take j)>0)) (decide (xKT (·.2.2) (S.take j)>0)):=⟨_,rfl⟩;have hK:∀ t,at'<=t->t<nx->keep (inL a t) (inL b t)=kv:=fun t Y W=>by
    rw [aq,(af t Y W).1,(af t Y W).2]
   have ar:xri keep (S.map xKV) out.length (xKT (·.2.1) (S.take i)) (xKT (·.2.2) (S.take i)) ((i:Nat):Int) at' (out.map encP)=(xKT (·.2.1) (S.take j),xKT (·.2.2) (S.take j),((j:Nat):Int),out.map encP):=by unfold xri;rw [j3];rfl
   have v8:xeI keep (S.map xKV) out.length (xKT (·.2.1) (S.take i)) (xKT (·.2.2) (S.take i)) ((i:Nat):Int) at' (out.map encP)=xKT (·.2.1) (S.take j):=by unfold xeI;rw [ar]
   have v9:xsU keep (S.map xKV) out.length (xKT (·.2.1) (S.take i)) (xKT (·.2.2) (S.take i)) ((i:Nat):Int) at' (out.map encP)=(xKT (·.2.2) (S.take j),((j:Nat):Int),out.map encP):=by unfold xsU;rw [ar]
   have v7:xeH keep (S.map xKV) out.length (xKT (·.2.1) (S.take i)) (xKT (·.2.2) (S.take i)) ((i:Nat):Int) at' (out.map encP)=xKT (·.2.2) (S.take j):=by unfold xeH;rw [v9]
   have v6:xsT keep (S.map xKV) out.length (xKT (·.2.1) (S.take i)) (xKT (·.2.2) (S.take i)) ((i:Nat):Int) at' (out.map encP)=(((j:Nat):Int),out.map encP):=by unfold xsT;rw [v9]
   have v1:xaG keep (S.map xKV) out.length (xKT (·.2.1) (S.take i)) (xKT (·.2.2) (S.take i)) ((i:Nat):Int) at' (out.map encP)=out.map encP:=by unfold xaG;rw [v6]
   have v3:xaP keep (S.map xKV) out.length (xKT (·.2.1) (S.take i)) (xKT (·.2.2) (S.take i)) ((i:Nat):Int) at' (out.map encP)=((j:Nat):Int):=by unfold xaP;rw [v6]
   have v2:xsR keep (S.map xKV) out.length (xKT (·.2.1) (S.take i)) (xKT (·.2.2) (S.take i)) ((i:Nat):Int) at' (out.map encP)=kv:=by unfold xsR;rw [v8,v7,<-aq]
   have v0:xmS keep (S.map xKV) out.length (xKT (·.2.1) (S.take i)) (xKT (·.2.2) (S.take i)) ((i:Nat):Int) at' (out.map encP)=decide (xbX keep out.length<out.length):=by unfold xmS;rw [v1,za]
   have v5:xsS keep (S.map xKV) out.length (xKT (·.2.1) (S.take i)) (xKT (·.2.2) (S.take i)) ((i:Nat):Int) at' (out.map encP)=decide (j<S.length):=by
    unfold xsS;rw [v3,za];by_cases h:j<S.length
    . rw [decide_eq_true h,decide_eq_true (by omega)]
    . rw [decide_eq_false h,decide_eq_false (by omega)]
   have aj:(out.length+1)*16<=140737488355328:=by omega
   have ai:out.length+1<=4611686018427387904:=by omega
   have e1:(out.length==out.length)=true:=by simp
   have dF:decide (at'<1099511627776)=true:=decide_eq_true hF;have dj:decide ((0:Int)<=((j:Nat):Int))=true:=decide_eq_true (by omega)
   have V:∀ h:j<S.length,(((S.map xKV).getD j .top).cells.getD 0 .top).toInt=nx:=fun h=>by
    rw [xaa _ _ _ h,J,dif_pos h];rfl
   have ac:∀ h:j<S.length,xLN (Sh.int IntKind.i64) (((S.map xKV).getD j .top).cells.getD 0 .top)=true:=fun h=>by
    rw [xaa _ _ _ h];rfl
   have ae:∀ q:List Per,OutOk q nx (fun t=>keep (inL a t) (inL b t))->(q.length:Int)<=nx->SwI S (fun t=>keep (inL a t) (inL b t)) (q.length,xKT (·.2.1) (S.take j),xKT (·.2.2) (S.take j),((j:Nat):Int),nx,q.map encP):=fun q ho hl =>
    ⟨q,j,nx,rfl,by omega,U,j2,fun m h hm=>by have:=ag m h hm;omega,fun m h hm=>al m h hm,ho,hl⟩
   have mu:(1099511627776 - nx).toNat<(1099511627776 - at').toNat:=by omega
   cases kv with
   | false =>
    refine ⟨(out.length,xKT (·.2.1) (S.take j),xKT (·.2.2) (S.take j),((j:Nat):Int),nx,out.map encP),?_,ae out (O.skip (by omega) hK) (by omega),mu⟩
    unfold xfz;simp only;unfold xpr;rw [v1,v2,v3,v5,v7,v8,j3,dF,dj,zN,za];by_cases hj:j<S.length
    . rw [decide_eq_true hj,ac hj,V hj];rfl
    . rw [decide_eq_false hj];have:nx=1099511627776:=by rw [J,dif_neg hj]
      rw [this];rfl
   | true =>
    by_cases hne:out=[]
    . have Z:=O.add ah aa U hK (fun p hp=>by rw [hne] at hp;cases hp)
      refine ⟨((out++[(at',nx)]).length,xKT (·.2.1) (S.take j),xKT (·.2.2) (S.take j),((j:Nat):Int),nx,(out++[(at',nx)]).map encP),?_,ae _ Z (by rw [z8,zj];omega),mu⟩
      have dl:decide (((out.length:Nat):Int)>0)=false:=by rw [hne];rfl
      unfold xfz;simp only;unfold xpr;rw [v1,v2,v3,v5,v7,v8,j3,dF,dj,zN,za,za,dl,e1,decide_eq_true aj,decide_eq_true ai];by_cases hj:j<S.length
      . rw [decide_eq_true hj,ac hj,V hj,zx,z8];rfl
      . rw [decide_eq_false hj];have:nx=1099511627776:=by rw [J,dif_neg hj]
        rw [this,zx,z8];rfl
    . have ay:=List.length_pos_iff.2 hne;have w1:IntKind.i64.wrap (((out.length:Nat):Int) - 1)=((out.length - 1:Nat):Int):=by rw [xbn (by omega) (by omega)];omega
      have ap:xbX keep out.length=out.length - 1:=by unfold xbX;rw [w1,zN];omega
      have v4:xmT keep out.length=true:=by
       unfold xmT;rw [w1,decide_eq_true (by omega),decide_eq_true (by omega)];rfl
      have dl:decide (((out.length:Nat):Int)>0)=true:=decide_eq_true (by omega)
      have dv:decide (out.length - 1<out.length)=true:=decide_eq_true (by omega)
      have am:out.length - 1<out.length:=by omega
      have gl:(out.map encP).getD (out.length - 1) .top=encP out[out.length - 1]:=xaa _ _ _ am;have cl:((encP out[out.length - 1]).cells.getD 1 .top).toInt=out[out.length - 1].2:=rfl;have sl:xLN (Sh.int IntKind.i64) ((encP out[out.length - 1]).cells.getD 1 .top)=true:=rfl;have ad:=xGz out hne;by_cases hl:out[out.length - 1].2=at'
      . have an:=OutOk.ext (o:=out.dropLast) (p:=out[out.length - 1]) (by rw [<-ad];exact O) hl aa U hK
        have Q:(out.dropLast++[(out[out.length - 1].1,nx)]).length=out.length:=by rw [z8,List.length_dropLast,zj];omega
        have ab:(out.map encP).set (out.length - 1) (AV.agg (List.take 1 (encP out[out.length - 1]).cells++[AV.int IntKind.i64 nx]++List.drop 2 (encP out[out.length - 1]).cells))=(out.dropLast++[(out[out.length - 1].1,nx)]).map encP:=by
         have e2:AV.agg (List.take 1 (encP out[out.length - 1]).cells++[AV.int IntKind.i64 nx]++List.drop 2 (encP out[out.length - 1]).cells)=encP (out[out.length - 1].1,nx):=rfl;rw [e2,<-List.map_set];congr 1;have e3:out.set (out.length - 1) (out[out.length - 1].1,nx)=(out.dropLast++[out[out.length - 1]]).set (out.length - 1) (out[out.length - 1].1,nx):=congrArg (fun l=>List.set l (out.length - 1) (out[out.length - 1].1,nx)) ad
         rw [e3,List.set_append_right _ _ (by rw [List.length_dropLast];exact zd _),List.length_dropLast,Nat.sub_self];rfl
        refine ⟨((out.dropLast++[(out[out.length - 1].1,nx)]).length,xKT (·.2.1) (S.take j),xKT (·.2.2) (S.take j),((j:Nat):Int),nx,(out.dropLast++[(out[out.length - 1].1,nx)]).map encP),?_,ae _ an (by rw [Q];omega),mu⟩
        have e4:(out[out.length - 1].2==at')=true:=by simp [hl]
        unfold xfz;simp only;unfold xpr;rw [v0,v1,v2,v3,v4,v5,v7,v8,ap,j3,dF,dj,zN,za,gl,cl,sl,dl,dv,e4];by_cases hj:j<S.length
        . rw [decide_eq_true hj,ac hj,V hj,ab,Q];rfl
        . rw [decide_eq_false hj];have:nx=1099511627776:=by rw [J,dif_neg hj]
          rw [this] at ab Q |-;rw [ab,Q];rfl
      . have Z:=O.add ah aa U hK (fun p hp=>by
         rw [ad] at hp;rcases zG.1 hp with hp|hp
         . have h1:=O.span.2;rw [ad] at h1;have:=(List.pairwise_append.1 h1).2.2 p hp _ (zv.2 rfl);have h2:=O.low _ (zo am);have h3:=xbv.1 (O.span.1 _ (zo am));omega
         . rw [zv.1 hp];exact hl)
        refine ⟨((out++[(at',nx)]).length,xKT (·.2.1) (S.take j),xKT (·.2.2) (S.take j),((j:Nat):Int),nx,(out++[(at',nx)]).map encP),?_,ae _ Z (by rw [z8,zj];omega),mu⟩
        have e4:(out[out.length - 1].2==at')=false:=by simp [hl]
        unfold xfz;simp only;unfold xpr;rw [v0,v1,v2,v3,v4,v5,v7,v8,ap,j3,dF,dj,zN,za,za,gl,cl,sl,dl,dv,e4,e1,decide_eq_true aj,decide_eq_true ai];by_cases hj:j<S.length
        . rw [decide_eq_true hj,ac hj,V hj,zx,z8];rfl
        . rw [decide_eq_false hj];have:nx=1099511627776:=by rw [J,dif_neg hj]
          rw [this,zx,z8];rfl
 . right;have:at'=1099511627776:=by omega
   subst this;refine ⟨(out.length,out.map encP),?_,out,rfl,O⟩;unfold xfz;simp only;unfold xpr;rw [decide_eq_false hF];rfl
end
theorem xtY:∀ (l:List Per) (e:Edg),e∈xKQ 1 0 l->(-1<=e.2.1/\e.2.1<=1)/\(-1<=e.2.2/\e.2.2<=1)
 | [],e,h=>by cases h
 | p::l,e,h=>by
  unfold xKQ at h;split at h
  . rcases zC.1 h with rfl|h
    . simp
    . rcases zC.1 h with rfl|h
      . simp
      . exact xtY l e h
  . exact xtY l e h
theorem xtZ:∀ (l:List Per) (e:Edg),e∈xKQ 0 1 l->(-1<=e.2.1/\e.2.1<=1)/\(-1<=e.2.2/\e.2.2<=1)
 | [],e,h=>by cases h
 | p::l,e,h=>by
  unfold xKQ at h;split at h
  . rcases zC.1 h with rfl|h
    . simp
    . rcases zC.1 h with rfl|h
      . simp
      . exact xtZ l e h
  . exact xtZ l e h
theorem xKn (keep:Bool->Bool->Bool) (a b:List Per) (ha:a.length<=1073741824) (hb:b.length<=1073741824) :
  ∃ r:List Per,swG keep (a.map encP) (b.map encP)=some (r.map encP)/\IsSpan r/\∀ t,inL r t=(decide (0<=t)&&(decide (t<1099511627776)&&keep (inL a t) (inL b t))):=by
 obtain ⟨S,hS,hp,V⟩:=xHA a b ha hb;have l1:=xj4 1 0 a;have l2:=xj4 0 1 b;have U:S.length=(xKQ 1 0 a++xKQ 0 1 b).length:=hp.length_eq;rw [z8] at U;have q:∀ e,e∈S->e∈xKQ 1 0 a\/e∈xKQ 0 1 b:=fun e he=>zG.1 (hp.mem_iff.1 he)
 have J:∀ e,e∈S->0<=e.1/\e.1<=1099511627776:=fun e he=>(q e he).elim (xmK 1 0 a e) (xmK 0 1 b e)
 have Q:∀ e,e∈S->(-1<=e.2.1/\e.2.1<=1)/\(-1<=e.2.2/\e.2.2<=1):=fun e he=>(q e he).elim (xtY a e) (xtZ b e)
 obtain ⟨r,hr,out,rfl,O⟩:=xB3 (SwI S (fun t=>keep (inL a t) (inL b t))) (fun s=>(1099511627776 - s.2.2.2.2.1).toNat) (fun r=>∃ out:List Per,r=(out.length,out.map encP)/\OutOk out 1099511627776 (fun t=>keep (inL a t) (inL b t)))
  (xDB S J Q V (by omega) keep a b hp) (0,0,0,0,0,[]) ⟨[],0,0,rfl,Int.le_refl _,by omega,zQ _,fun m _ h=>by omega,fun m h _=>(J _ (zo h)).1,xvn _,by simp⟩
 refine ⟨out,?_,O.span,O.done⟩;have v3:xzh keep (a.map encP) (b.map encP)=some (out.length,out.map encP):=by unfold xzh;rw [hS];exact hr
 have v2:xzg keep (a.map encP) (b.map encP)=(out.length,out.map encP):=by unfold xzg;rw [v3];rfl
 have v0:xzf keep (a.map encP) (b.map encP)=out.length:=by unfold xzf;rw [v2]
 have v1:xze keep (a.map encP) (b.map encP)=out.map encP:=by unfold xze;rw [v2]
 have d1:0+out.length<=out.length:=by omega
 unfold swG xIq;rw [hS,v3,v0,v1,za,decide_eq_true d1,zr,zi (by rw [za];exact zd _)]
 rfl
theorem xFt (a b:List AV):xsd a b=swG xeZ a b:=rfl
theorem xDz (a b:List Per) (ha:a.length<=1073741824) (hb:b.length<=1073741824) :
  ∃ r:List Per,xdx (a.map encP) (b.map encP)=some (r.map encP)/\IsSpan r/\∀ t,inL r t=(inL a t&&!inL b t):=by
 obtain ⟨r,h1,h2,h3⟩:=xKn xeZ a b ha hb;refine ⟨r,?_,h2,fun t=>?_⟩
 . unfold xdx xn7;rw [xFt,h1];rfl
 . rw [h3 t];cases hc:inL a t with
   | false=>simp [xeZ,xaB,sUF]
   | true=>have:=xtE hc;simp [xeZ,xaB,this,sUF]
end Go.Sim.M
end
noncomputable section
set_option maxRecDepth 100000
namespace Go.Sim.M
open Go.RowKit Go.Sim.Srt
theorem xAv {ps:List Per} (h:ps.length<=262144):Tame (ps.map fun p=>(p,(1:Int))):=⟨by simpa using h,fun c hc=>by
 obtain ⟨p,_,rfl⟩:=zK.1 hc;dsimp only;omega⟩
theorem xAV (ps:List Per) (h:ps.length<=262144):∃ S,xd4 (ps.map encP)=some (S.map encP)/\StepI (fun t=>((ps.countP (hasP · t):Nat):Int)) 1099511627776 S/\S.length<=2*ps.length+1:=by
 obtain ⟨S,h1,h2,h3⟩:=xrB _ (xAv h);refine ⟨S,by rw [xEM ps (by omega),h1],?_,by simpa using h3⟩
 rwa [show sumC (ps.map fun p=>(p,(1:Int)))=fun t=>((ps.countP (hasP · t):Nat):Int) from funext fun t=>xAO ps t] at h2
theorem xHu (l:List Fc) (row:Row) (t:Int) (g:Fc->List Per) (hg:∀ f,(g f).countP (hasP · t)=if f.r=row/\hasP f.p t=true then 1 else 0):(l.flatMap g).countP (hasP · t)=cnt l row t:=by
 induction l with
 | nil=>rfl
 | cons f l ih =>
  rw [zR,List.countP_append,ih,hg];have e2:cnt (f::l) row t=cnt l row t+if (decide (f.r=row)&&hasP f.p t)=true then 1 else 0:=List.countP_cons
  rw [e2];by_cases h:f.r=row/\hasP f.p t=true
  . rw [if_pos h,if_pos (by simp [h.1,h.2])];omega
  . rw [if_neg h,if_neg (by simpa using h)];omega
theorem xFe (l:List Fc) (row:Row) (hr:∀ f,f∈l->f.r.length<=maxLen) (hl:l.length<=262144):∃ S,xnN (l.map encF) (row.map encV)=some (S.map encP)/\StepI (fun t=>((cnt l row t:Nat):Int)) 1099511627776 S/\S.length<=2*l.length+1:=by
 have e:=xuk row l (by omega) hr
 have q:(l.flatMap fun f=>if cmpR f.r row==0 then [(f.p,(1:Int))] else [])=(l.flatMap fun f=>if cmpR f.r row==0 then [f.p] else []).map fun p=>(p,(1:Int)):=by
  rw [List.map_flatMap];congr 1;funext f;split<;>simp
 rw [q] at e;generalize hq:(l.flatMap fun f=>if cmpR f.r row==0 then [f.p] else [])=ps at e
 have J:ps.length<=l.length:=by
  rw [<-hq];have:=xii (c:=1) (g:=fun f:Fc=>if cmpR f.r row==0 then [f.p] else []) l fun f _=>by split<;>simp
  omega
 obtain ⟨S,h1,h2,h3⟩:=xKj _ (xAv (ps:=ps) (by omega))
 refine ⟨S,?_,?_,by rw [za] at h3;omega⟩
 . unfold xnN xtN;simp only [xnO,xnP,xnQ,xnR,e,sOO,sUF];simp only [h1,sOO]
 . rwa [show sumC (ps.map fun p=>(p,(1:Int)))=fun t=>((cnt l row t:Nat):Int) from funext fun t=>by
    rw [xAO,<-hq,xHu l row t _ fun f=>?_]
    rw [cmp0];by_cases hr:f.r=row<;>cases hh:hasP f.p t<;>simp [hr,hh]] at h2
end Go.Sim.M
end
noncomputable section
set_option maxRecDepth 100000
namespace Go.Sim.M
open Go.RowKit Go.Sim.Srt Go.Sort
theorem xJn (E:List Per):(E.map encP).all isP=true/\∃ P:List Per,srtP (E.map encP)=P.map encP/\P.Perm E/\Sorted cmpP P:=by
 have e1:(E.map encP).map decP=E:=by
  rw [List.map_map];conv=>rhs;rw [<-List.map_id E]
  rfl
 refine ⟨?_,pdqL cmpP E,?_,(xmM cmpP swoP E).1,(xs1 cmpP swoP E).imp fun {x y} h=>?_⟩
 . rw [zI];intro x hx;obtain ⟨e,he,rfl⟩:=zK.1 hx;rfl
 . unfold srtP;rw [e1];rfl
 . have:=xsn x y;omega
theorem xB6 (S:List Per) (hS:S.length<=524289) (hN:∀ s,s∈S->0<=s.2/\s.2<=1048576):∀ (d k:Nat) (J ox:List Per),k+d=S.length->StOk J->(xKW J).length<=1048576->ox.length<=k*1048576 ->
  ∃ q Q:List Per,Iter (xcy (S.map encP) ((S.length:Nat):Int)) ((k:Int),ox.length,J.length,((xKW J).length:Int),ox.map encP,J.map encP)=some (Q.length,((xKW q).length:Int),q.length,Q.map encP,q.map encP) /\
   StOk q/\(xKW q,Q)=(S.drop k).foldl (fun x s=>setF x (s.1,s.2.toNat)) (xKW J,ox)/\(xKW q).length<=1048576/\Q.length<=S.length*1048576
 | 0,k,J,ox,h,h1,h2,h3=>by
  obtain rfl:k=S.length:=by omega
  refine ⟨J,ox,xad ?_,h1,by rw [zq (zd _)];rfl,h2,h3⟩
  simp only [xcy,xhk,zy,zm,xac,sUF]
 | d+1,k,J,ox,h,h1,h2,h3=>by
  have hk:k<S.length:=by omega
  obtain ⟨n1,n2⟩:=hN _ (zo hk);obtain ⟨m,hm⟩:∃ m:Nat,S[k].2=(m:Int):=⟨S[k].2.toNat,by omega⟩
  obtain ⟨O,e,a1,a2⟩:=xEn S[k].1 m (xKW J).length J ox h1 rfl (by omega) h2 (by omega)
  have U:(xKW O).length=m:=by rw [a2,z8,zt,List.length_replicate];omega
  obtain ⟨q,Q,e',b1,b2,b3,b4⟩:=xB6 S hS hN d (k+1) O (ox++(((xKW J).drop m).reverse.map fun f=>(f,S[k].1))) (by omega) a1 (by omega) (by
   rw [z8,za,List.length_reverse,y4];omega)
  refine ⟨q,Q,(xal ?_).trans e',b1,?_,b3,b4⟩
  . have i1:(k:Int)<(S.length:Int):=by omega
    have gf:(S.map encP).getD k .top=encP S[k]:=xaa _ _ _ hk;have i2:¬ (0:Int)>(m:Int):=by omega
    have i3:¬ (1048576:Int)<(m:Int):=by omega
    have tk:List.take O.length (O.map encP)=O.map encP:=zi (by simp)
    rw [U];simp only [xcy,xhk,xkv,xkw,xky,xkz,xkA,xkB,xkC,sBU,hk,i1,gf,cP0,cP1,lP,sP,sP0,sP1,hm,i2,i3,if_false,e,tk,xKU (n:=k) (by omega)]
  . rw [b2,xaE hk,List.foldl_cons];congr 1;rw [hm,zN,a2];rfl
theorem xGC {N:Int->Nat} {H:Nat} (hb:H<=1048576) (hH:∀ t,N t<=H) (h0:∀ t,t<0\/1099511627776<=t->N t=0) {S:List Per} (hS:StepI (fun t=>(N t:Int)) 1099511627776 S) (hl:S.length<=524289):∃ P,xoa (S.map encP)=some (P.map encP)/\IsLevs N P:=by
 obtain ⟨q,ox,e,a1,a2,a3,a4⟩:=xB6 S hl (fun s hs=>by
  obtain ⟨_,_,m3,_⟩:=(hS.mem s).1 hs;have:=hH s.1;omega) S.length 0 [] [] (by omega) (fun s hs=>by simp at hs) (by simp [xKW]) (by simp)
 obtain ⟨J,e2,c1,c2⟩:=xEn 1099511627776 0 (xKW q).length q ox a1 rfl (by omega) a3 (by omega)
 obtain ⟨s1,P,s2,s3,s4⟩:=xJn (ox++(((xKW q).drop 0).reverse.map fun f=>(f,(1099511627776:Int))))
 have m1:(ox++(((xKW q).drop 0).reverse.map fun f=>(f,(1099511627776:Int)))).length<4611686018427387904:=by
  rw [z8,za,List.length_reverse,y4];omega
 refine ⟨P,?_,xHI hH h0 hS ?_ s4⟩
 . have pl:=s3.length_eq;have e:Iter (xcy (S.map encP) ((S.length:Nat):Int)) ((0:Int),(0:Nat),(0:Nat),(0:Int),[],[])=_:=e;have e2:set2 1099511627776 0 ((xKW q).length:Int) q.length ox.length (q.map encP) (ox.map encP)=_:=e2;generalize (ox++(((xKW q).drop 0).reverse.map fun f=>(f,(1099511627776:Int))))=O at s1 s2 e2 pl m1
   have bq:O.length.beq O.length=true:=by simp
   have m2:O.length<=P.length:=by omega
   have tt:List.take O.length (P.map encP)=P.map encP:=zi (by rw [za];omega)
   unfold xoa xpp;simp only [xgM,xgN,xob,xoc,xod,xoe,xof,xog,xoh,za,e,zk,zh,xab,e2,bq,m1,s1,s2,zn,zS,zH,m2,zr,tt,sUF]
 . have a2:(xKW q,ox)=S.foldl (fun x s=>setF x (s.1,s.2.toNat)) ([],[]):=a2
   rw [<-a2];exact s3
theorem xBN (ps:List Per) (t:Int) (ht:t<0\/1099511627776<=t):ps.countP (hasP · t)=0:=by
 rw [List.countP_eq_zero];intro p hp h;obtain ⟨h1,h2,h3⟩:=xbD.1 h;have:=xbv.1 h1;omega
theorem xIC (ps:List Per) (hv:∀ p,p∈ps->pv p=true) (hl:ps.length<=262144):∃ P,xe0 (ps.map encP)=some (P.map encP)/\IsLevs (fun t=>ps.countP (hasP · t)) P:=by
 unfold xe0 xmY;by_cases h1:ps.length=1
 . obtain ⟨p,rfl⟩:=List.length_eq_one_iff.1 h1;refine ⟨[p],rfl,List.pairwise_singleton _ _,fun k=>if k=0 then [p] else [],1,fun t=>?_,fun k=>?_,?_⟩
   . have:=List.countP_le_length (p:=(hasP · t)) (l:=[p]);simpa using this
   . by_cases hk:k=0
     . subst hk;refine ⟨⟨fun q hq=>by simp at hq;subst hq;exact hv _ (by simp),List.pairwise_singleton _ _⟩,fun t=>?_⟩
       simp [inL];cases hasP p t<;>simp
     . refine ⟨by simp [hk,xkG],fun t=>?_⟩
       simp only [hk,if_false,xeO];have:=List.countP_le_length (p:=(hasP · t)) (l:=[p]);simp at this |-;omega
   . simp
 . obtain ⟨S,e1,e2,e3⟩:=xAV ps hl;obtain ⟨P,e4,e5⟩:=xGC (N:=fun t=>ps.countP (hasP · t)) (H:=ps.length) (by omega) (fun t=>List.countP_le_length) (xBN ps) e2 (by omega)
   refine ⟨P,?_,e5⟩;have i1:((ps.length:Int)==1)=false:=by simp;omega
   simp only [za,i1,xac,e1,e4,zk,zh,xab,sUF]
def mk (r:Row) (P:List Per):List Fc:=P.map fun p=>⟨r,p⟩
theorem xwI (L:Row->List Per):∀ S:List Grp,(S.flatMap fun g=>mk g.1 (L g.1))=xKY (S.map (·.1)) L
 | []=>rfl
 | g::S=>by rw [zR,xwI L S];rfl
theorem xzx (O:List AV) (J q:Int) (row:Row) (hr:row.length<=1048576) (g1:List AV) (P:List Per) (D:List Fc) (hb:D.length+P.length<=2199023255552) (hP:P.length<=1099511627776) :
  Iter (xbh O J q (P.map encP) ((P.length:Nat):Int)) (D.length,(0:Int),D.map encF,row.map encV,g1)=some ((D++mk row P).length,(D++mk row P).map encF):=by
 have key:=xme (step:=xbh O J q (P.map encP) ((P.length:Nat):Int)) (fun k=>(((D++mk row (P.take k)).length,((k:Nat):Int),(D++mk row (P.take k)).map encF,row.map encV,g1):Nat×Int×List AV×List AV×List AV)) P.length
  ((D++mk row P).length,(D++mk row P).map encF) (fun k hk=>by
  have i1:(k:Int)<(P.length:Int):=by omega
  have gf:(P.map encP).getD k .top=encP P[k]:=xaa _ _ _ hk;have dl:(D++mk row (P.take k)).length=D.length+k:=by unfold mk;rw [z8,za,zt];omega
  have m1:(D.length+k+1)*40<=140737488355328:=by omega
  have m2:D.length+k+1<=4611686018427387904:=by omega
  have m3:row.length*32<=140737488355328:=by omega
  have m4:row.length<=4611686018427387904:=by omega
  have tk:List.take row.length (row.map encV)=row.map encV:=zi (by simp)
  have Q:mk row (P.take (k+1))=mk row (P.take k)++[⟨row,P[k]⟩]:=by unfold mk;rw [List.take_add_one,ze hk,zx];rfl
  rw [Q,<-zw];simp only [xbh,xeK,sBU,hk,i1,gf,cP0,cP1,lP,sP,sP0,sP1,dl,m1,m2,m3,m4,zd,tk,zr,xKU (n:=k) (by omega)]
  rw [z8,dl];simp [encF]) (by
  simp only [xbh,xeK,zy,zm,xac,y7,sUF]) P.length 0 (by omega)
 have e0:D++mk row (P.take 0)=D:=by simp [mk]
 rw [e0] at key;exact key
theorem xF6 (q:List AV) (O J:Int) (row:Row) (hr:row.length<=1048576) (g1:List AV) (P:List Per) (D:List Fc) (hb:D.length+P.length<=2199023255552) (hP:P.length<=1099511627776) :
  Iter (xjV q O J (P.map encP) ((P.length:Nat):Int)) (D.length,(0:Int),D.map encF,row.map encV,g1)=some ((D++mk row P).length,(D++mk row P).map encF) :=
 xzx q O J row hr g1 P D hb hP
def Bld (l:List Fc):Prop:=Keyed l/\l.length<=1024
theorem cGs (g:Grp):((encG g).cells.getD 1 .top).toList=g.2.map encP:=rfl
theorem lG (g:Grp):((encG g).cells.length==2)=true:=rfl
theorem sG (g:Grp):xLU [Sh.list 3,Sh.list 2] (encG g).cells 0=true:=rfl
theorem xF7 {f:List AV->Option (List AV)} {step:List AV->Int->Nat×Int×List AV->Option ((Nat×Int×List AV)⊕(Nat×List AV))} (J:step=xb2/\f=xe0\/step=xfM/\f=xvT) (S:List Grp) (hS:S.length<=1024) (hr:∀ g,g∈S->g.1.length<=1048576) (L:Row->List Per) (hL:∀ g,g∈S->f (g.2.map encP)=some ((L g.1).map encP)/\(L g.1).length<=1048576) :
  Iter (step (S.map encG) ((S.length:Nat):Int)) ((0:Nat),(0:Int),[])=some ((xKY (S.map (·.1)) L).length,(xKY (S.map (·.1)) L).map encF):=by
 rw [<-xwI];refine xgX S (fun g=>mk g.1 (L g.1)) encF 1048576 (fun g hg=>by unfold mk;rw [za];exact (hL g hg).2) (fun n h D hD=>?_) (fun D=>?_)
 . have i1:(n:Int)<(S.length:Int):=by omega
   have gf:(S.map encG).getD n .top=encG S[n]:=xaa _ _ _ h;obtain ⟨e1,e2⟩:=hL _ (zo h);have q:=hr _ (zo h);rcases J with ⟨rfl,rfl⟩|⟨rfl,rfl⟩
   . have el:=xzx (S.map encG) (S.length:Int) (n:Int) S[n].1 q (S[n].2.map encP) (L S[n].1) D (by omega) (by omega)
     simp only [xb2,xeJ,xgS,xgT,sBU,h,i1,gf,cG0,cGs,lG,sG,e1,el,xKU (n:=n) (by omega)]
   . have el:=xF6 (S.map encG) (S.length:Int) (n:Int) S[n].1 q (S[n].2.map encP) (L S[n].1) D (by omega) (by omega)
     simp only [xfM,xhl,xgU,xgV,sBU,h,i1,gf,cG0,cGs,lG,sG,e1,el,xKU (n:=n) (by omega)]
 . rcases J with ⟨rfl,rfl⟩|⟨rfl,rfl⟩
   . simp only [xb2,xeJ,zy,zm,xac,sUF]
   . simp only [xfM,xhl,zy,zm,xac,sUF]
theorem xz1 {R:List Row} {Q:Row->List Per->Prop} (h:∀ r,r∈R->∃ P,Q r P):∃ L:Row->List Per,∀ r,r∈R->Q r (L r):=by
 refine ⟨fun r=>if hr:r∈R then Classical.choose (h r hr) else [],fun r hr=>?_⟩
 show Q r (if hr:r∈R then Classical.choose (h r hr) else [])
 rw [dif_pos hr];exact Classical.choose_spec (h r hr)
theorem xGO (l:List Fc) (r:Row):(fun t=>(psOf l r).countP (hasP · t))=cnt l r:=funext fun t=>xvp l r t
theorem xJ0 (l:List Fc) (h:Bld l):∃ B,xrp (l.map encF)=some (B.map encF)/\xK1 l B:=by
 obtain ⟨S,e1,hR,J,O⟩:=xJa l h.1;have hl:=h.2;obtain ⟨L,hL⟩:=xz1 (R:=S.map (·.1)) (Q:=fun r P=>xe0 ((psOf l r).map encP)=some (P.map encP)/\IsLevs (cnt l r) P/\P.length<=1048576) fun r hr=>by
  have q:=xCr l r;obtain ⟨P,a1,a2⟩:=xIC (psOf l r) xHT (by omega)
  have a3:=a2.len;rw [xGO] at a2;refine ⟨P,a1,a2,Nat.le_trans a3 (Nat.mul_le_mul (Nat.le_trans q hl) (Nat.le_trans q hl))⟩
 have hk:∀ g,g∈S->g.1∈S.map (·.1):=fun g hg=>zK.2 ⟨g,hg,rfl⟩
 have eb:=xF7 (.inl ⟨rfl,rfl⟩) S (by omega) (fun g hg=>by
  obtain ⟨f,hf,e,_⟩:=(hR.2 g.1).1 (hk g hg);rw [<-e];exact h.1.1.2 f hf) L (fun g hg=>by
  rw [J g hg];exact ⟨(hL _ (hk g hg)).1,(hL _ (hk g hg)).2.2⟩)
 refine ⟨xKY (S.map (·.1)) L,?_,S.map (·.1),L,hR,fun r hr=>(hL r hr).2.1,rfl⟩
 have tt:∀ F:List Fc,List.take F.length (F.map encF)=F.map encF:=fun F=>zi (by simp)
 unfold xrp xoA xl7 xjU xjg xjh xji xjj;simp only [e1,zk,zh,xab,za,eb,zH,zd,zn,zS,zr,tt,sUF]
end Go.Sim.M
end
noncomputable section
set_option maxRecDepth 100000
namespace Go.Sim.M
open Go.RowKit Go.Sim.Srt
def pos (S:List Per) (i:Nat):Int:=match S[i]? with
 | some s=>s.1
 | none=>1099511627776
theorem xtG {S:List Per} {i:Nat} (h:i<S.length):pos S i=S[i].1:=by unfold pos;rw [ze h]
theorem xCp {S:List Per} {i:Nat} (h:S.length<=i):pos S i=1099511627776:=by unfold pos;rw [zz h]
theorem xHQ {N:Int->Nat} {S:List Per} (hS:StepI (fun t=>(N t:Int)) 1099511627776 S) {i:Nat} (hi:i<S.length):0<=pos S i/\pos S i<pos S (i+1)/\pos S (i+1)<=1099511627776/\S[i].2=(N S[i].1:Int)/\∀ t,pos S i<=t->t<pos S (i+1)->N t=N S[i].1:=by
 obtain ⟨m1,m2,m3,_⟩:=(hS.mem S[i]).1 (zo hi);rw [xtG hi];have hb:S[i].1<pos S (i+1)/\pos S (i+1)<=1099511627776:=by
  by_cases h:i+1<S.length
  . rw [xtG h];have:=zB.1 hS.asc i (i+1) hi h (by omega)
    have:=((hS.mem S[i+1]).1 (zo h)).2.1;omega
  . rw [xCp (by omega)];omega
 refine ⟨m1,hb.1,hb.2,m3,fun t h1 h2=>xsp (a:=S[i].1) (b:=pos S (i+1)) (fun u u1 u2=>?_) (t - S[i].1).toNat t (by omega) h2⟩
 by_cases e:N (u - 1)=N u
 . exact e
 . have hu:(u,(N u:Int))∈S:=(hS.mem _).2 ⟨by dsimp only;omega,by dsimp only;omega,rfl,.inr (by dsimp only;omega)⟩
   obtain ⟨k,hk,J⟩:=zp.1 hu;have O:S[k].1=u:=by rw [J]
   rcases zJ i k with q|q
   . have:i+1<S.length:=by omega
     rw [xtG this] at u2;rcases zJ (i+1) k with h3|h3
     . have:=zB.1 hS.asc (i+1) k this hk h3;omega
     . obtain rfl:k=i+1:=by omega
       omega
   . rcases zJ k i with h3|h3
     . have:=zB.1 hS.asc k i hk hi h3;omega
     . obtain rfl:k=i:=by omega
       omega
theorem xHR {N:Int->Nat} {S:List Per} (hS:StepI (fun t=>(N t:Int)) 1099511627776 S):pos S 0=0:=by
 have h0:((0:Int),(N 0:Int))∈S:=(hS.mem _).2 ⟨by simp,by simp,rfl,.inl rfl⟩
 obtain ⟨k,hk,J⟩:=zp.1 h0;have h:0<S.length:=by omega
 have p0:=((hS.mem S[0]).1 (zo h)).1;rw [xtG h];have q:S[k].1=0:=by rw [J]
 rcases zJ 0 k with h3|h3
 . have:=zB.1 hS.asc 0 k h hk h3;omega
 . obtain rfl:k=0:=by omega
   exact q
def xK4 (out:List Per) (f t:Int):List Per:=match out.getLast? with
 | some p=>if p.2=f then out.dropLast++[(p.1,t)] else out++[(f,t)]
 | none=>out++[(f,t)]
theorem xLm {n:Nat} (h:n<=1099511627776):(n+1)*16<=140737488355328/\n+1<=4611686018427387904/\n*16<=140737488355328/\n<=4611686018427387904:=by omega
theorem xD2 (out:List Per) (f t:Int) (O:f<t) (J:∀ p,p∈out->p.2<=f) (hl:out.length<=1048576):∃ q,xgy out.length f t (out.map encP)=some q/\br q.1 q.2.1.1 q.2.2.1=(xK4 out f t).length/\br q.1 q.2.1.2.2 q.2.2.2=(xK4 out f t).map encP:=by
 rcases xrh out with rfl|⟨o,p,rfl⟩
 . refine ⟨_,rfl,rfl,rfl⟩
 . have hp:=J p (by simp)
   have L:(o++[p]).length=o.length+1:=by simp
   rw [L] at hl;have w1:IntKind.i64.wrap (((o.length+1:Nat):Int) - 1)=(o.length:Int):=xLr (by omega)
   have i1:((o.length+1:Nat):Int)>0:=by omega
   have i2:(o.length:Int)<((o.length+1:Nat):Int):=by omega
   have i3:(o.length:Int)<=((o.length+1:Nat):Int):=by omega
   have i4:o.length<o.length+1:=by omega
   have i5:o.length<=o.length+1:=by omega
   have gl:((o++[p]).map encP).getD o.length .top=encP p:=by
    rw [zx];have:=xBW (o.map encP) (encP p) .top;rwa [za] at this
   have tl:List.take o.length ((o++[p]).map encP)=o.map encP:=by
    rw [zx];exact List.take_left' (by simp)
   obtain ⟨m1,m2,m3,m4⟩:=xLm (n:=o.length) (by omega)
   obtain ⟨m5,m6,_,_⟩:=xLm (n:=o.length+1) (by omega)
   have jn:xK4 (o++[p]) f t=if p.2=f then o++[(p.1,t)] else o++[p]++[(f,t)]:=by
    unfold xK4;simp
   by_cases he:p.2=f
   . have c1:p.2>=f:=by omega
     have c2:t>p.2:=by omega
     rw [jn,if_pos he,L];refine ⟨(true,(o.length+1,(o++[p]).map encP,o.map encP++[encP (p.1,t)]),(0,[])),?_,by simp [xab,sUF],by simp [xab,sUF]⟩
     unfold xgy xrF xkS xiY xc5 xlS xlT xiZ xlU;simp only [sBU,L,w1,i1,i2,i3,i4,i5,gl,cP0,cP1,lP,sP,sP0,sP1,c1,c2,tl,zr,m1,m2,m3,m4,if_true,aggP]
   . have c1:¬ p.2>=f:=by omega
     rw [jn,if_neg he,L];refine ⟨(false,(0,[],[]),(o.length+1+1,(o++[p]).map encP++[encP (f,t)])),?_,by simp [xac,sUF],by simp [xac,sUF]⟩
     unfold xgy xrF xkS xiY xc5 xlS xlT xiZ xlU;simp only [sBU,L,w1,i1,i2,i3,i4,gl,cP0,cP1,lP,sP,sP0,sP1,c1,m5,m6,aggP]
theorem xAj {out:List Per} {f t:Int} {K:Int->Bool} (h:OutOk out f K) (h0:0<=f) (J:f<t) (hF:t<=1099511627776) (hK:∀ u,f<=u->u<t->K u=true):OutOk (xK4 out f t) t K/\(xK4 out f t).length<=out.length+1:=by
 rcases xrh out with rfl|⟨o,p,rfl⟩
 . exact ⟨h.add h0 J hF hK (fun p hp=>by simp at hp),by simp [xK4]⟩
 . have jn:xK4 (o++[p]) f t=if p.2=f then o++[(p.1,t)] else o++[p]++[(f,t)]:=by unfold xK4;simp
   rw [jn];by_cases he:p.2=f
   . rw [if_pos he];exact ⟨h.ext he J hF hK,by simp⟩
   . rw [if_neg he];refine ⟨h.add h0 J hF hK (fun q hq e=>?_),by simp⟩
     rcases zG.1 hq with hq|hq
     . have:=(List.pairwise_append.1 h.span.2).2.2 q hq p (by simp)
       have hv:=xbv.1 (h.span.1 p (by simp))
       have:=h.low p (by simp)
       omega
     . rw [zv] at hq;subst hq;exact he e
theorem xBD {N:Int->Nat} {S:List Per} (hS:StepI (fun t=>(N t:Int)) 1099511627776 S) (hl:S.length<=524289) (n:Int):∀ (d i:Nat) (out:List Per),i+d=S.length->OutOk out (pos S i) (fun t=>decide (n<=(N t:Int)))->out.length<=i ->
  ∃ J:List Per,Iter (xaH (S.map encP) n) (out.length,(i:Int),out.map encP)=some (J.length,J.map encP)/\OutOk J 1099511627776 (fun t=>decide (n<=(N t:Int)))/\J.length<=S.length
 | 0,i,out,h,ho,hn=>by
  obtain rfl:i=S.length:=by omega
  rw [xCp (zd _)] at ho;refine ⟨out,xad ?_,ho,hn⟩;simp only [xaH,xdj,za,zy,zm,xac,sUF]
 | d+1,i,out,h,ho,hn=>by
  have hi:i<S.length:=by omega
  obtain ⟨p1,p2,p3,p4,p5⟩:=xHQ hS hi;have i1:(i:Int)<(S.length:Int):=by omega
  have gf:(S.map encP).getD i .top=encP S[i]:=xaa _ _ _ hi;have wi:=xKU (n:=i) (by omega)
  have pe:=xtG hi;by_cases Q:S[i].2>=n
  . have hK:∀ t,pos S i<=t->t<pos S (i+1)->(fun t=>decide (n<=(N t:Int))) t=true:=fun t t1 t2=>by
     dsimp only;rw [p5 t t1 t2,<-p4];exact decide_eq_true Q
    obtain ⟨j1,j2⟩:=xAj ho p1 p2 p3 hK;obtain ⟨q,q1,q2,q3⟩:=xD2 out (pos S i) (pos S (i+1)) p2 ho.low (by omega)
    obtain ⟨J,e',x1,x2⟩:=xBD hS hl n d (i+1) (xK4 out (pos S i) (pos S (i+1))) (by omega) j1 (by omega)
    refine ⟨J,(xal (s':=((xK4 out (pos S i) (pos S (i+1))).length,((i+1:Nat):Int),(xK4 out (pos S i) (pos S (i+1))).map encP)) ?_).trans e',x1,x2⟩;rw [<-q2,<-q3];by_cases O:i+1<S.length
    . have i2:((i+1:Nat):Int)<(S.length:Int):=by omega
      have gn:(S.map encP).getD (i+1) .top=encP S[i+1]:=xaa _ _ _ O;rw [xtG O,pe] at q1;simp only [xaH,xdj,xcO,xcP,xcQ,xcR,xcS,xcT,xcU,xcV,xcW,xcX,xa2,xcm,xcn,xco,sBU,i1,i2,hi,O,gf,gn,cP0,cP1,lP,sP,sP0,sP1,Q,wi,q1]
    . have i2:¬ ((i+1:Nat):Int)<(S.length:Int):=by omega
      rw [xCp (S:=S) (i:=i+1) (by omega),pe] at q1
      simp only [xaH,xdj,xcO,xcP,xcQ,xcR,xcS,xcT,xcU,xcV,xcW,xcX,xa2,xcm,xcn,xco,sBU,i1,i2,hi,gf,cP0,cP1,lP,sP,sP0,sP1,Q,wi,q1]
  . have hK:∀ t,pos S i<=t->t<pos S (i+1)->(fun t=>decide (n<=(N t:Int))) t=false:=fun t t1 t2=>by
     dsimp only;rw [p5 t t1 t2,<-p4];exact decide_eq_false (by omega)
    obtain ⟨J,e',x1,x2⟩:=xBD hS hl n d (i+1) out (by omega) (ho.skip (by omega) hK) (by omega)
    refine ⟨J,(xal (s':=(out.length,((i+1:Nat):Int),out.map encP)) ?_).trans e',x1,x2⟩;by_cases O:i+1<S.length
    . have i2:((i+1:Nat):Int)<(S.length:Int):=by omega
      have gn:(S.map encP).getD (i+1) .top=encP S[i+1]:=xaa _ _ _ O;simp only [xaH,xdj,xcO,xcP,xcQ,xcR,xcS,xcT,xcU,xcV,xcW,xcX,xa2,xcm,xcn,xco,sBU,i1,i2,hi,O,gf,gn,cP0,cP1,lP,sP,sP0,sP1,Q,wi]
    . have i2:¬ ((i+1:Nat):Int)<(S.length:Int):=by omega
      simp only [xaH,xdj,xcO,xcP,xcQ,xcR,xcS,xcT,xcU,xcV,xcW,xcX,xa2,xcm,xcn,xco,sBU,i1,i2,hi,gf,cP0,cP1,lP,sP,sP0,sP1,Q,wi]
theorem xJx {N:Int->Nat} (h0:∀ t,t<0\/1099511627776<=t->N t=0) {S:List Per} (hS:StepI (fun t=>(N t:Int)) 1099511627776 S) (hl:S.length<=524289) (k:Nat):∃ A:List Per,xdX (S.map encP) ((k+1:Nat):Int)=some (A.map encP)/\(IsSpan A/\∀ t,inL A t=decide (k<N t))/\A.length<=S.length:=by
 obtain ⟨A,e,a1,a2⟩:=xBD hS hl ((k+1:Nat):Int) S.length 0 [] (by omega) (by rw [xHR hS];exact xvn _) (zd _)
 refine ⟨A,?_,⟨a1.span,fun t=>?_⟩,a2⟩
 . have e:Iter (xaH (S.map encP) ((k+1:Nat):Int)) ((0:Nat),(0:Int),[])=_:=e;have tt:List.take A.length (A.map encP)=A.map encP:=zi (by simp)
   unfold xdX xsz;simp only [xmi,xmj,xmk,e,zk,zh,xab,zH,za,zd,zn,zS,zr,tt,sUF]
 . rw [a1.done];by_cases h1:0<=t
   . by_cases h2:t<1099511627776
     . simp only [h1,h2,zn,Bool.true_and];rw [Bool.eq_iff_iff,zl,zl];omega
     . have:=h0 t (.inr (by omega));simp [h2,this]
   . have:=h0 t (.inl (by omega));simp [h1,this]
theorem xGQ (p q:Per):decide (xp9 p.1 p.2 q.1 q.2<=0)=decide (cmpP p q<=0):=by
 rw [Bool.eq_iff_iff,zl,zl,xtA];unfold xp9;simp only [xaB,zS,sUF];by_cases h1:p.1=q.1
 . by_cases h2:p.2=q.2
   . simp [h1,h2]
   . by_cases h3:p.2<q.2
     . simp [h1,h2,h3];omega
     . simp [h1,h2,h3];omega
 . by_cases h3:p.1<q.1
   . simp [h1,h3]
   . simp [h1,h3]
theorem xCo (P:List Per) (hP:P.length<=1099511627775) (p:Per):∀ (d i:Nat),i+d=P.length->(∀ k (h:k<P.length),k<i->cmpP P[k] p<=0)->∃ m:Nat,m<=P.length/\(∀ k (h:k<P.length),k<m->cmpP P[k] p<=0)/\(∀ h:m<P.length,¬ cmpP P[m] p<=0) /\
  Iter (xcY (P.map encP)) (i,(i:Int),p.1,p.2,(P.take i).map encP)=some (m,(m:Int),p.1,p.2,(P.take m).map encP)
 | 0,i,h,hk=>by
  obtain rfl:i=P.length:=by omega
  refine ⟨P.length,zd _,hk,fun h=>by omega,xad ?_⟩
  simp only [xcY,xis,za,zy,zm,xac,sUF]
 | d+1,i,h,hk=>by
  have hi:i<P.length:=by omega
  have i1:(i:Int)<(P.length:Int):=by omega
  have gf:(P.map encP).getD i .top=encP P[i]:=xaa _ _ _ hi;have tl:(P.take i).length=i:=by rw [zt];omega
  obtain ⟨m1,m2,_,_⟩:=xLm (n:=i) (by omega)
  have rc:=xGQ P[i] p;by_cases hc:cmpP P[i] p<=0
  . rw [decide_eq_true hc] at rc;obtain ⟨m,a1,a2,a3,a4⟩:=xCo P hP p d (i+1) (by omega) (fun k h h1=>by
     by_cases e:k=i
     . subst e;exact hc
     . exact hk k h (by omega))
    refine ⟨m,a1,a2,a3,(xal ?_).trans a4⟩;simp only [xcY,xis,xhd,sBU,i1,hi,gf,cP0,cP1,lP,sP,sP0,sP1,rc,tl,m1,m2,xKU (n:=i) (by omega),aggP]
    rw [List.take_add_one,ze hi,zx];rfl
  . rw [decide_eq_false hc] at rc;refine ⟨i,by omega,hk,fun _=>hc,xad ?_⟩
    simp only [xcY,xis,xhd,sBU,i1,hi,gf,cP0,cP1,lP,sP,sP0,sP1,rc]
theorem xHO (P:List Per) (hP:P.length<=1099511627775) (p:Per) (hs:Sorted cmpP P):∃ P':List Per,xpA (P.map encP) p.1 p.2=some (P'.map encP)/\P'.Perm (p::P)/\Sorted cmpP P':=by
 obtain ⟨m,a1,a2,a3,a4⟩:=xCo P hP p P.length 0 (by omega) (fun k h h1=>by omega)
 refine ⟨P.take m++p::P.drop m,?_,?_,?_⟩
 . have a4:Iter (xcY (P.map encP)) ((0:Nat),(0:Int),p.1,p.2,[])=_:=a4;have tl:(P.take m).length=m:=by rw [zt];omega
   obtain ⟨m1,m2,_,_⟩:=xLm (n:=m) (by omega)
   have i1:(m:Int)<=(P.length:Int):=by omega
   have t1:List.take (P.length - m) (List.drop m (P.map encP))=(P.drop m).map encP:=by rw [zi (by simp),List.map_drop]
   have dl:(P.drop m).length=P.length - m:=y4;have m3:(m+1+(P.length - m))*16<=140737488355328:=by omega
   have m4:m+1+(P.length - m)<=4611686018427387904:=by omega
   have J:(P.take m).map encP++[encP p]++(P.drop m).map encP=(P.take m++p::P.drop m).map encP:=by simp
   have fl:((P.take m++p::P.drop m).map encP).length=m+1+(P.length - m):=by simp;omega
   have tt:List.take (m+1+(P.length - m)) ((P.take m++p::P.drop m).map encP)=(P.take m++p::P.drop m).map encP:=zi (by rw [fl];exact zd _)
   have ag:AV.agg [.int .i64 p.1,.int .i64 p.2]=encP p:=rfl;unfold xpA xuG;simp only [xhK,xoF,xoG,xhL,xoH,xhM,xoI,xoJ,xoK,xoL,xnt,xnu,xnv,a4,sBU,ag,tl,t1,dl,m1,m2,m3,m4,i1,z8,zj,J,zd,zr];have l9:m+(p::P.drop m).length=m+1+(P.length - m):=by rw [zF,dl];omega
   simp only [za,l9,zd,zn,xab,tt,sUF]
 . exact List.perm_middle.trans (by rw [List.take_append_drop])
 . refine List.pairwise_append.2 ⟨hs.sublist (List.take_sublist _ _),zM.2 ⟨fun q hq=>?_,hs.sublist (List.drop_sublist _ _)⟩,fun x hx y hy=>?_⟩
   . obtain ⟨j,hj,rfl⟩:=zp.1 hq;rw [y4] at hj;rw [List.getElem_drop];have h1:=a3 (by omega)
     have h2:cmpP p P[m]<=0:=by rw [xsn P[m] p];omega
     rcases Nat.eq_zero_or_pos j with rfl|O
     . exact h2
     . exact xHq.trans _ _ _ h2 (zB.1 hs m (m+j) (by omega) (by omega) (by omega))
   . obtain ⟨i,hi,rfl⟩:=List.mem_take_iff_getElem.1 hx;rcases zC.1 hy with rfl|hy
     . exact a2 i (by omega) (by omega)
     . obtain ⟨j,hj,rfl⟩:=zp.1 hy;rw [y4] at hj;rw [List.getElem_drop];exact zB.1 hs i (m+j) (by omega) (by omega) (by omega)
theorem xEj (l:List AV) (n:Int) (s:List Per) (hs:s.length<=1048576):∀ (d i:Nat) (out:List Per),i+d=s.length->Sorted cmpP out->out.length+d<=1099511627775->∃ q:List Per,Iter (xcq l n (s.map encP)) (out.map encP,(i:Int))=some (q.map encP)/\q.Perm (out++s.drop i)/\Sorted cmpP q
 | 0,i,out,h,ho,hl=>by
  obtain rfl:i=s.length:=by omega
  refine ⟨out,xad ?_,by rw [zq (zd _),zD],ho⟩
  simp only [xcq,xld,za,zy,zm,xac,sUF]
 | d+1,i,out,h,ho,hl=>by
  have hi:i<s.length:=by omega
  have i1:(i:Int)<(s.length:Int):=by omega
  have gf:(s.map encP).getD i .top=encP s[i]:=xaa _ _ _ hi;obtain ⟨P',e1,p1,s1⟩:=xHO out (by omega) s[i] ho
  have pl:=p1.length_eq;rw [zF] at pl;obtain ⟨q,e2,p2,s2⟩:=xEj l n s hs d (i+1) P' (by omega) s1 (by omega)
  refine ⟨q,(xal (s':=(P'.map encP,((i+1:Nat):Int))) ?_).trans e2,?_,s2⟩
  . simp only [xcq,xld,sBU,i1,hi,gf,cP0,cP1,lP,sP,sP0,sP1,e1,xKU (n:=i) (by omega)]
  . refine p2.trans ((p1.append_right _).trans ?_);rw [xaE hi];exact List.perm_middle.symm
theorem xEi {S:List Per} (A:Nat->List Per) (C:Nat) (hC:C<=524289) (hA:∀ k,xdX (S.map encP) ((k+1:Nat):Int)=some ((A k).map encP)/\(A k).length<=C) (H:Nat) (hH:H<=1048575) (hE:A H=[]):∀ (d k:Nat) (out:List Per),k+d=H->Sorted cmpP out->out.Perm ((List.range k).flatMap A) ->
  ∃ (K:Nat) (q:List Per),Iter (xcp (S.map encP)) (out.map encP,((k+1:Nat):Int))=some (true,(q.map encP,q.map encP),[])/\A K=[]/\K<=H/\q.Perm ((List.range K).flatMap A)/\Sorted cmpP q
 | d,k,out,h,ho,hp=>by
  obtain ⟨e1,l1⟩:=hA k;have n1:((k+1:Nat):Int)<=1048576:=by omega
  by_cases hk:A k=[]
  . refine ⟨k,out,xad ?_,hk,by omega,hp,ho⟩
    rw [hk] at e1;simp only [xcp,xlc,n1,e1,zn,xab,zk,zh,zW,sUF];rfl
  . match d,h with
    | 0,h =>
     obtain rfl:k=H:=by omega
     exact absurd hE hk
    | d+1,h =>
     have ol:out.length<=C*k:=by
      rw [hp.length_eq];have:=xii (g:=A) (List.range k) fun j _=>(hA j).2
      rwa [List.length_range] at this
     have J:C*k<=524289*1048575:=Nat.mul_le_mul hC (by omega)
     obtain ⟨q,e2,p2,s2⟩:=xEj (S.map encP) ((k+1:Nat):Int) (A k) (by omega) (A k).length 0 out (by omega) ho (by omega)
     obtain ⟨K,o2,e3,k1,k2,p3,s3⟩:=xEi A C hC hA H hH hE d (k+1) q (by omega) s2 (by
      rw [List.range_succ,List.flatMap_append];rw [zr] at p2;refine p2.trans ((hp.append_right _).trans ?_);simp)
     refine ⟨K,o2,(xal ?_).trans e3,k1,k2,p3,s3⟩;have ne:(((A k).length:Int)==0)=false:=by
      have:(A k).length≠0:=fun e=>hk (List.length_eq_zero_iff.1 e)
      simp;exact hk
     have e2:Iter (xcq (S.map encP) ((k+1:Nat):Int) ((A k).map encP)) (out.map encP,(0:Int))=_:=e2;simp only [xcp,xlc,n1,e1,zn,xab,xac,zk,zh,za,ne,e2,xKU (n:=k+1) (by omega),sUF]
theorem xFo {N:Int->Nat} {H:Nat} (hH:H<=1048575) (hN:∀ t,N t<=H) (h0:∀ t,t<0\/1099511627776<=t->N t=0) {S:List Per} (hS:StepI (fun t=>(N t:Int)) 1099511627776 S) (hl:S.length<=524289):∃ P,xdJ (S.map encP)=some (P.map encP)/\IsLevs N P:=by
 have ha:=xJx h0 hS hl;have hA:=fun k=>Classical.choose_spec (ha k)
 obtain ⟨A,q⟩:∃ A:Nat->List Per,A=fun k=>Classical.choose (ha k):=⟨_,rfl⟩
 have hA:∀ k,xdX (S.map encP) ((k+1:Nat):Int)=some ((A k).map encP)/\(IsSpan (A k)/\∀ t,inL (A k) t=decide (k<N t))/\(A k).length<=S.length:=fun k=>by rw [q];exact hA k
 have hE:A H=[]:=xur (hA H).2.1.1 fun t=>by rw [(hA H).2.1.2];have:=hN t;simp;omega
 obtain ⟨K,P,e,k1,k2,p1,s1⟩:=xEi A S.length hl (fun k=>⟨(hA k).1,(hA k).2.2⟩) H hH hE H 0 [] (by omega) List.Pairwise.nil (by simp)
 refine ⟨P,?_,s1,A,K,fun t=>?_,fun k=>(hA k).2.1,p1⟩
 . have e:Iter (xcp (S.map encP)) ([],(1:Int))=_:=e;unfold xdJ xtK;simp only [xnr,xns,e,zk,zh,xab,sUF]
 . have:=(hA K).2.1.2 t;rw [k1,xeO] at this;have:=of_decide_eq_false this.symm;omega
theorem xGZ (l:List Per) (t:Int) (hl:l.length<=1048576):xfE (l.map encP) t=some (inL l t):=by
 have e:=xss (step:=xa9 (l.map encP) t) l (fun k=>(k:Int)) (fun a=>br (hasP a t) (some (true,true,())) none) (false,false,()) (fun k h=>by
  have h1:(k:Int)<(l.length:Int):=by omega
  have gf:(l.map encP).getD k .top=encP l[k]:=xaa _ _ _ h;simp only [xa9,xjp,sBU,h,h1,gf,cP0,cP1,lP,sP,sP0,sP1,xw0,xzH,xsy,xsw,xKU (n:=k) (by omega)]) (by
  simp only [xa9,xjp,za,zy,zm,xac,sUF]) l.length 0 (by simp)
 rw [zr,xwJ] at e;have e:Iter (xa9 (l.map encP) t) (0:Int)=_:=e;unfold xfE xrE;rw [e];show _=some (l.any (hasP · t));cases l.any (hasP · t)<;>rfl
def ptsP (l:List Per):List Int:=l.foldl (fun P p=>if pv p=true then insI (insI P p.1) p.2 else P) []
theorem xAB (l:List Per) (p:Per):ptsP (l++[p])=if pv p=true then insI (insI (ptsP l) p.1) p.2 else ptsP l:=by simp [ptsP]
theorem xAC:∀ l:List Per,Asc (ptsP l.reverse)/\∀ x,x∈ptsP l.reverse↔∃ p,p∈l/\pv p=true/\(x=p.1\/x=p.2)
 | []=>by simp [ptsP,Asc]
 | c::l=>by
  obtain ⟨h1,h2⟩:=xAC l;rw [List.reverse_cons,xAB];split
  . rename_i hv;refine ⟨xru (xru h1 _) _,fun x=>?_⟩
    rw [xoD,xoD,h2];constructor
    . rintro (h|h|⟨c',a,b,d⟩)
      . exact ⟨c,by simp,hv,.inr h⟩
      . exact ⟨c,by simp,hv,.inl h⟩
      . exact ⟨c',by simp [a],b,d⟩
    . rintro ⟨c',a,b,d⟩;rcases zC.1 a with rfl|a
      . rcases d with d|d
        . exact .inr (.inl d)
        . exact .inl d
      . exact .inr (.inr ⟨c',a,b,d⟩)
  . rename_i hv;refine ⟨h1,fun x=>?_⟩
    rw [h2];constructor
    . rintro ⟨c',a,b,d⟩;exact ⟨c',by simp [a],b,d⟩
    . rintro ⟨c',a,b,d⟩;rcases zC.1 a with rfl|a
      . exact absurd b hv
      . exact ⟨c',a,b,d⟩
theorem xI4 (l:List Per):Asc (ptsP l)/\∀ x,x∈ptsP l↔∃ p,p∈l/\pv p=true/\(x=p.1\/x=p.2):=by
 have:=xAC l.reverse;simpa using this
theorem xHV (l:List Per):(ptsP l).length<=2*l.length:=by
 have q:∀ l:List Per,(ptsP l.reverse).length<=2*l.length:=fun l=>by
  induction l with
  | nil=>simp [ptsP]
  | cons c l ih =>
   rw [List.reverse_cons,xAB];have a1:=xik (ptsP l.reverse) c.1;have a2:=xik (insI (ptsP l.reverse) c.1) c.2;split<;>simp<;>omega
 have:=q l.reverse;simpa using this
theorem xDq (l:List Per) (hl:l.length<=262144):xrG (l.map encP)=some ((ptsP l).map encN):=by
 have e:Iter (xdG (l.map encP)) ([],(0:Int))=some ((ptsP l).map encN):=by
  refine xst l (fun P p=>if pv p=true then insI (insI P p.1) p.2 else P) (fun n b=>(b.map encN,(n:Int))) (fun n b=>b.length<=2*n) (fun n h b hb=>?_) l.length 0 [] (by omega) (by simp) ?_
  . have h1:(n:Int)<(l.length:Int):=by omega
    have gf:(l.map encP).getD n .top=encP l[n]:=xaa _ _ _ h;have a1:=xik b l[n].1;have a2:=xik (insI b l[n].1) l[n].2;have i1:=xsr b l[n].1 (by omega)
    have i2:=xsr (insI b l[n].1) l[n].2 (by omega)
    refine ⟨?_,by split<;>omega⟩
    simp only [xdG,xk5,xeA,sBU,h,h1,gf,cP0,cP1,lP,sP,sP0,sP1,xsH,i1,i2,xKU (n:=n) (by omega)]
    cases pv l[n]<;>simp [xab,xac,sUF]
  . simp only [zr];simp only [xdG,xk5,xeA,za,zy,zm,xac,sUF];rfl
 unfold xrG xtJ;rw [e];rfl
theorem xAD {P:List Int} (hA:Asc P) {l:List Per} (hm:∀ p,p∈l->pv p=true->p.1∈P/\p.2∈P) {j:Nat} (hj:j+1<P.length) {t:Int} (h1:P[j]<=t) (h2:t<P[j+1]):inL l t=inL l P[j]:=by
 have key:∀ x,x∈P->(x<=t↔x<=P[j]):=fun x hx=>by
  obtain ⟨k,hk,rfl⟩:=List.getElem_of_mem hx;constructor
  . intro h;rcases zJ j k with q|q
    . rcases zJ (j+1) k with h3|h3
      . have:=zB.1 hA (j+1) k hj hk h3;omega
      . obtain rfl:k=j+1:=by omega
        omega
    . rcases zJ k j with h3|h3
      . have:=zB.1 hA k j hk (by omega) h3;omega
      . obtain rfl:k=j:=by omega
        omega
  . intro h;omega
 rw [Bool.eq_iff_iff,xd6,xd6];constructor
 . rintro ⟨p,a,b,c,d⟩;obtain ⟨m1,m2⟩:=hm p a b;have k1:=key _ m1;have k2:=key _ m2;exact ⟨p,a,b,by omega,by omega⟩
 . rintro ⟨p,a,b,c,d⟩;obtain ⟨m1,m2⟩:=hm p a b;have k1:=key _ m1;have k2:=key _ m2;exact ⟨p,a,b,by omega,by omega⟩
theorem xzv (J:Int) (a b:List Per) (ha:a.length<=65536) (hb:b.length<=65536) (P:List Int) (hA:Asc P) (hP:P.length<=1048576) (hR:∀ x,x∈P->0<=x/\x<=1099511627776)
  (ma:∀ p,p∈a->pv p=true->p.1∈P/\p.2∈P) (mb:∀ p,p∈b->pv p=true->p.1∈P/\p.2∈P):∀ (d j:Nat) (hj:j<P.length) (out:List Per),j+1+d=P.length->OutOk out P[j] (fun t=>xb8 J (inL a t) (inL b t))->out.length<=j ->
  ∃ O:List Per,Iter (xbJ J (a.map encP) (b.map encP) (P.map encN)) (out.length,((j+1:Nat):Int),out.map encP)=some (O.length,O.map encP)/\OutOk O (P[P.length - 1]'(by omega)) (fun t=>xb8 J (inL a t) (inL b t))/\O.length<=P.length
 | 0,j,hj,out,h,ho,hn=>by
  have e:P.length=j+1:=by omega
  refine ⟨out,xad ?_,?_,by omega⟩
  . have i1:¬ ((j+1:Nat):Int)<(P.length:Int):=by omega
    simp only [xbJ,xf1,za,i1,zm,xac,sUF]
  . have:P[P.length - 1]'(by omega)=P[j]:=by congr 1;omega
    rw [this];exact ho
 | d+1,j,hj,out,h,ho,hn=>by
  have Q:j+1<P.length:=by omega
  have i0:((j+1:Nat):Int)<(P.length:Int):=by omega
  have i1:(j:Int)<(P.length:Int):=by omega
  have i2:(0:Int)<=((j+1:Nat):Int):=by omega
  have w:IntKind.i64.wrap (((j+1:Nat):Int) - 1)=(j:Int):=xLr (by omega)
  have gf:(P.map encN).getD j .top=encN P[j]:=xaa _ _ _ hj;have gn:(P.map encN).getD (j+1) .top=encN P[j+1]:=xaa _ _ _ Q;have ca:=xGZ a P[j] (by omega)
  have cb:=xGZ b P[j] (by omega)
  have lt:P[j]<P[j+1]:=zB.1 hA j (j+1) hj Q (by omega)
  have r1:=hR _ (zo hj);have r2:=hR _ (zo Q);have hw:=xKU (n:=j+1) (by omega)
  have hK:∀ t,P[j]<=t->t<P[j+1]->xb8 J (inL a t) (inL b t)=xb8 J (inL a P[j]) (inL b P[j]):=fun t t1 t2=>by
   rw [xAD hA ma Q t1 t2,xAD hA mb Q t1 t2]
  cases hc:xb8 J (inL a P[j]) (inL b P[j]) with
  | true =>
   obtain ⟨j1,j2⟩:=xAj ho r1.1 lt r2.2 (fun t t1 t2=>by rw [hK t t1 t2,hc])
   obtain ⟨q,q1,q2,q3⟩:=xD2 out P[j] P[j+1] lt ho.low (by omega)
   obtain ⟨O,e',x1,x2⟩:=xzv J a b ha hb P hA hP hR ma mb d (j+1) Q (xK4 out P[j] P[j+1]) (by omega) j1 (by omega)
   refine ⟨O,(xal (s':=((xK4 out P[j] P[j+1]).length,((j+1+1:Nat):Int),(xK4 out P[j] P[j+1]).map encP)) ?_).trans e',x1,x2⟩;rw [<-q2,<-q3];simp only [xbJ,xf1,xdH,xfj,xfk,xdI,xfl,xfm,xfn,xa1,sBU,i0,i1,i2,w,hj,Q,gf,gn,cN,sN,ca,cb,hc,q1,hw]
  | false =>
   obtain ⟨O,e',x1,x2⟩:=xzv J a b ha hb P hA hP hR ma mb d (j+1) Q out (by omega) (ho.skip (by omega) (fun t t1 t2=>by rw [hK t t1 t2,hc])) (by omega)
   refine ⟨O,(xal (s':=(out.length,((j+1+1:Nat):Int),out.map encP)) ?_).trans e',x1,x2⟩;simp only [xbJ,xf1,xdH,xfj,xfk,xdI,xfl,xfm,xfn,xa1,sBU,i0,i1,i2,w,hj,Q,gf,gn,cN,sN,ca,cb,hc,hw]
theorem xDR (q:Int) (a b:List Per) (ha:a.length<=65536) (hb:b.length<=65536):∃ A:List Per,xfF q (a.map encP) (b.map encP)=some (A.map encP)/\IsSpan A/\(∀ t,inL A t=(decide (0<=t)&&(decide (t<1099511627776)&&xb8 q (inL a t) (inL b t))))/\A.length<=2*(1+a.length+b.length):=by
 have Q:∀ x,x∈(((0,1099511627776):Per)::a++b)↔x=(0,1099511627776)\/x∈a\/x∈b:=fun x=>by simp
 have J:(((0,1099511627776):Per)::a++b).length=1+a.length+b.length:=by simp;omega
 obtain ⟨pA,pm⟩:=xI4 (((0,1099511627776):Per)::a++b);have pl:=xHV (((0,1099511627776):Per)::a++b);have pe:=xDq (((0,1099511627776):Per)::a++b) (by rw [J];omega)
 rw [J] at pl;generalize W:ptsP (((0,1099511627776):Per)::a++b)=P at pA pm pl pe;have m0:(0:Int)∈P:=(pm 0).2 ⟨(0,1099511627776),by simp,by decide,.inl rfl⟩
 have mF:(1099511627776:Int)∈P:=(pm _).2 ⟨(0,1099511627776),by simp,by decide,.inr rfl⟩
 have hR:∀ x,x∈P->0<=x/\x<=1099511627776:=fun x hx=>by
  obtain ⟨p,_,hv,h⟩:=(pm x).1 hx;have:=xbv.1 hv;omega
 have U:0<P.length:=List.length_pos_of_mem m0;have e0:P[0]=0:=by
  obtain ⟨k,hk,he⟩:=List.getElem_of_mem m0;rcases Nat.eq_zero_or_pos k with rfl|h
  . exact he
  . have:=zB.1 pA 0 k U hk h;have:=hR _ (zo U);omega
 have eF:P[P.length - 1]'(by omega)=1099511627776:=by
  obtain ⟨k,hk,he⟩:=List.getElem_of_mem mF;rcases zJ k (P.length - 1) with h|h
  . have:=zB.1 pA k (P.length - 1) hk (by omega) h
    have:=hR _ (zo (l:=P) (n:=P.length - 1) (by omega))
    omega
  . have:P[P.length - 1]'(by omega)=P[k]:=by congr 1;omega
    rw [this];exact he
 have mm:∀ l:List Per,(∀ x,x∈l->x=(0,1099511627776)\/x∈a\/x∈b)->∀ p,p∈l->pv p=true->p.1∈P/\p.2∈P:=fun l hl p hp hv=>⟨(pm _).2 ⟨p,(Q p).2 (hl p hp),hv,.inl rfl⟩,(pm _).2 ⟨p,(Q p).2 (hl p hp),hv,.inr rfl⟩⟩
 obtain ⟨A,e,a1,a2⟩:=xzv q a b ha hb P pA (by omega) hR (mm a fun x hx=>.inr (.inl hx)) (mm b fun x hx=>.inr (.inr hx)) (P.length - 1) 0 U [] (by omega) (by rw [e0];exact xvn _) (zd _)
 rw [eF] at a1;refine ⟨A,?_,a1.span,fun t=>a1.done t,by omega⟩
 have e:Iter (xbJ q (a.map encP) (b.map encP) (P.map encN)) ((0:Nat),(1:Int),[])=_:=e;have tt:List.take A.length (A.map encP)=A.map encP:=zi (by simp)
 have la:([AV.agg [AV.int IntKind.i64 (0:Int),AV.int IntKind.i64 (1099511627776:Int)]]++a.map encP).length=1+a.length:=by simp;omega
 have O:([AV.agg [AV.int IntKind.i64 (0:Int),AV.int IntKind.i64 (1099511627776:Int)]]++a.map encP++b.map encP).length=1+a.length+b.length:=by simp;omega
 have V:List.take (1+a.length+b.length) ([AV.agg [AV.int IntKind.i64 (0:Int),AV.int IntKind.i64 (1099511627776:Int)]]++a.map encP++b.map encP)=(((0,1099511627776):Per)::a++b).map encP:=by
  rw [zi (by rw [O];exact zd _)]
  simp [encP]
 have b1:(1+a.length)*16<=140737488355328:=by omega
 have b2:1+a.length<=4611686018427387904:=by omega
 have b3:(1+a.length+b.length)*16<=140737488355328:=by omega
 have b4:1+a.length+b.length<=4611686018427387904:=by omega
 unfold xfF xrI;simp only [xk6,xk7,xk8,xk9,xla,xe6,xlb,za,la,O,V,zr,b1,b2,b3,b4,beq_self_eq_true,zn,zS,zH,zd,xab,pe,zk,zh,e,tt,sUF]
theorem xH4 (a:List Per) (ha:a.length<=65536):∃ A:List Per,xuf (a.map encP)=some (A.map encP)/\IsSpan A/\(∀ t,inL A t=inL a t)/\A.length<=2*(1+a.length):=by
 obtain ⟨A,e,h1,h2,h3⟩:=xDR 2 a [] ha (by simp)
 refine ⟨A,?_,h1,fun t=>?_,h3⟩
 . unfold xuf xyX;rw [show ([]:List AV)=([]:List Per).map encP from rfl,e];rfl
 . rw [h2];cases hc:inL a t with
   | false=>simp [xeO,xb8,br,sUF]
   | true=>obtain ⟨x,y⟩:=xtE hc;simp [x,y,xb8,br,sUF]
theorem xyb (a b:List Per) (ha:a.length<=65536) (hb:b.length<=65536):∃ A:List Per,xhB (a.map encP) (b.map encP)=some (A.map encP)/\IsSpan A/\(∀ t,inL A t=(inL a t&&!inL b t))/\A.length<=2*(1+a.length+b.length):=by
 obtain ⟨A,e,h1,h2,h3⟩:=xDR 3 a b ha hb;refine ⟨A,?_,h1,fun t=>?_,h3⟩
 . unfold xhB xrH;rw [e];rfl
 . rw [h2];cases hc:inL a t with
   | false=>simp [xb8,br,sUF]
   | true=>obtain ⟨x,y⟩:=xtE hc;simp [x,y,xb8,br,sUF]
end Go.Sim.M
end
noncomputable section
set_option maxRecDepth 100000
namespace Go.Sim.M
open Go.RowKit
abbrev En:=List UInt8×List Per
def xKX (e:En):AV:=.agg [.str e.1,.list 2 (e.2.map encP)]
def xLd (s:List UInt8) (n:Int):AV:=.agg [.str s,.int .i64 n]
def ixE:List En->List UInt8->Option Nat
 | [],_=>none
 | e::es,s=>match e.1==s with
  | true=>some 0
  | false=>(ixE es s).map (·+1)
theorem xpJ (s:List UInt8):∀ es:List En,mapIx (es.map xKX) s=ixE es s
 | []=>rfl
 | e::es=>by
  rw [zV,mapIx,ixE,xpJ s es];rfl
theorem xvb {s:List UInt8}:∀ {es:List En} {i:Nat},ixE es s=some i->i<es.length
 | [],i,h=>by simp [ixE] at h
 | e::es,i,h=>by
  rw [ixE] at h;split at h
  . cases h;simp
  . cases hm:ixE es s with
    | none=>rw [hm] at h;simp at h
    | some j =>
     rw [hm] at h;simp only [Option.map_some,z6] at h;have:=xvb hm;subst h;simp;omega
theorem xD1 {s:List UInt8}:∀ {es:List En} {i:Nat},ixE es s=some i->(es.getD i default).1=s
 | [],i,h=>by simp [ixE] at h
 | e::es,i,h=>by
  rw [ixE] at h;split at h
  . rename_i he;cases h;simpa using he
  . cases hm:ixE es s with
    | none=>rw [hm] at h;simp at h
    | some j =>
     rw [hm] at h;simp only [Option.map_some,z6] at h;subst h;simpa using xD1 hm
def addE:List En->List UInt8->Per->List En
 | [],s,p=>[(s,[p])]
 | e::es,s,p=>match e.1==s with
  | true=>(e.1,e.2++[p])::es
  | false=>e::addE es s p
theorem xzV {s:List UInt8} {p:Per}:∀ {es:List En},ixE es s=none->addE es s p=es++[(s,[p])]
 | [],_=>rfl
 | e::es,h=>by
  rw [ixE] at h;split at h
  . simp at h
  . rename_i he;cases hm:ixE es s with
    | some j=>rw [hm] at h;simp at h
    | none=>rw [addE,he,xzV hm];rfl
theorem xzW {s:List UInt8} {p:Per}:∀ {es:List En} {i:Nat},ixE es s=some i->addE es s p=es.set i (s,(es.getD i default).2++[p])
 | [],i,h=>by simp [ixE] at h
 | e::es,i,h=>by
  rw [ixE] at h;split at h
  . rename_i he;cases h;have e1:e.1=s:=by simpa using he
    rw [addE,he];simp [e1]
  . rename_i he;cases hm:ixE es s with
    | none=>rw [hm] at h;simp at h
    | some j =>
     rw [hm] at h;simp only [Option.map_some,z6] at h;subst h;rw [addE,he,xzW hm];simp
def xK2:List En->List UInt8->List Per
 | [],_=>[]
 | e::es,s=>match e.1==s with
  | true=>e.2
  | false=>xK2 es s
theorem xyH {s:List UInt8}:∀ {es:List En},ixE es s=none->xK2 es s=[]
 | [],_=>rfl
 | e::es,h=>by
  rw [ixE] at h;split at h
  . simp at h
  . rename_i he;cases hm:ixE es s with
    | some j=>rw [hm] at h;simp at h
    | none=>rw [xK2,he];exact xyH hm
theorem xyI {s:List UInt8}:∀ {es:List En} {i:Nat},ixE es s=some i->xK2 es s=(es.getD i default).2
 | [],i,h=>by simp [ixE] at h
 | e::es,i,h=>by
  rw [ixE] at h;split at h
  . rename_i he;cases h;rw [xK2,he];rfl
  . rename_i he;cases hm:ixE es s with
    | none=>rw [hm] at h;simp at h
    | some j =>
     rw [hm] at h;simp only [Option.map_some,z6] at h;subst h;rw [xK2,he];simpa using xyI hm
theorem xCa (s s':List UInt8) (p:Per):∀ es:List En,xK2 (addE es s p) s'=xK2 es s'++if s==s' then [p] else []
 | []=>by simp only [addE,xK2];cases s==s'<;>simp
 | e::es=>by
  have ih:=xCa s s' p es;rw [addE];cases he:e.1==s with
  | true =>
   have e1:e.1=s:=by simpa using he
   dsimp only;rw [xK2,xK2,e1];cases h:s==s' with
   | true=>simp
   | false=>simp
  | false =>
   dsimp only;rw [xK2,xK2,ih];cases h:e.1==s' with
   | false=>rfl
   | true =>
    have e1:e.1=s':=by simpa using h
    have:(s==s')=false:=by
     rw [<-e1,Bool.eq_false_iff];intro hh;rw [show s=e.1 by simpa using hh] at he
     simp at he
    simp [this]
theorem xBA (s:List UInt8) (p:Per):∀ es:List En,(addE es s p).length<=es.length+1
 | []=>by simp [addE]
 | e::es=>by
  have:=xBA s p es;rw [addE];cases e.1==s<;>simp<;>omega
theorem xAo {α:Type} (k:α->List UInt8) (f:α->Per) (s:List UInt8):∀ (l:List α) (es:List En),xK2 (l.foldl (fun es x=>addE es (k x) (f x)) es) s=xK2 es s++(l.filter fun x=>k x==s).map f
 | [],es=>by simp
 | x::l,es=>by
  rw [List.foldl_cons,xAo k f s l,xCa,List.filter_cons];cases k x==s<;>simp
theorem xq9 (es:List En) (s:List UInt8):xMi (es.map xKX) s=(ixE es s).isSome:=by unfold xMi;rw [xpJ]
theorem xyT {es:List En} {s:List UInt8} {i:Nat} (h:ixE es s=some i):putIx (es.map xKX) s=i:=by unfold putIx;rw [xpJ,h]
theorem xvi {s:List UInt8} {n:Int}:∀ {es:List En} {i:Nat},ixE es s=some i->mapIx ((es.map xKX).set i (xLd s n)) s=some i
 | [],i,h=>by simp [ixE] at h
 | e::es,i,h=>by
  rw [ixE] at h;split at h
  . cases h;simp [mapIx,xLd,AV.cells,isKey]
  . rename_i he;cases hm:ixE es s with
    | none=>rw [hm] at h;simp at h
    | some j =>
     rw [hm] at h;simp only [Option.map_some,z6] at h;subst h;rw [zV,List.set_cons_succ,mapIx,xvi hm];have:isKey s ((xKX e).cells.getD 0 .top)=false:=he;rw [this];rfl
theorem xDf {es:List En} {s:List UInt8} {i:Nat} (h:ixE es s=some i) (n:Int) (p:Per):xL4 ((es.map xKX).set i (xLd s n)) s (.list 2 ((((es.getD i default).2)++[p]).map encP))=(addE es s p).map xKX:=by
 unfold xL4;rw [xvi h,xzW h];dsimp only;rw [List.set_set,List.map_set];rfl
theorem xE3 {es:List En} {s:List UInt8} (h:ixE es s=none) (p:Per):xL4 (es.map xKX) s (.list 2 [encP p])=(addE es s p).map xKX:=by
 unfold xL4;rw [xpJ,h,xzV h,zx];rfl
theorem xGe {es:List En} {s:List UInt8} {i:Nat} (h:ixE es s=some i) {n:Nat}:deadR ((es.map xKX).set i (xLd s (n:Int))) s (n+1)=true:=by
 have hi:i<((es.map xKX).set i (xLd s (n:Int))).length:=by rw [y5,za];exact xvb h
 unfold deadR;rw [xvi h];have:((es.map xKX).set i (xLd s (n:Int))).getD i .top=xLd s (n:Int):=by
  rw [z7,zL (by simpa using hi)];rfl
 dsimp only;rw [this];show (match deadLen (AV.int .i64 (n:Int)) with|some l0=>decide (l0<n+1)|none=>false)=true
 simp [deadLen]
theorem xGd {es:List En} {s:List UInt8} (h:ixE es s=none) (n:Nat):deadR (es.map xKX) s n=true:=by unfold deadR;rw [xpJ,h]
end Go.Sim.M
end
noncomputable section
set_option maxRecDepth 100000
namespace Go.Sim.M
open Go.RowKit Go.Sim.Srt
def Tx (l:List Fc):Prop:=∀ f,f∈l->∀ v,v∈f.r->v.wf/\v.t.length<=1073741824
theorem xGv {r:Row} (h:∀ v,v∈r->v.wf/\v.t.length<=1073741824) (hl:r.length<=60):(keyOf r).length<=17592186044416:=by
 have:=xii (g:=keyV) (c:=1073741890) r fun v hv=>by
  obtain ⟨h1,h2⟩:=h v hv;have:=xwQ h1 (by omega);omega
 unfold keyOf;have h2:1073741890*r.length<=1073741890*60:=Nat.mul_le_mul_left _ hl;omega
theorem xKo {l:List Fc} (hl:l.length<=1024) (hr:∀ f,f∈l->f.r.length<=60) (ht:Tx l) (q:R20 l):Bld l :=
 ⟨⟨⟨by omega,fun f hf=>by have:=hr f hf;omega⟩,fun f hf=>⟨fun v hv=>⟨(ht f hf v hv).1,by have:=(ht f hf v hv).2;omega⟩,xGv (ht f hf) (hr f hf)⟩,q⟩,hl⟩
theorem xK1.all {l B:List Fc} (h:xK1 l B) {Q:Row->Prop} (hq:∀ f,f∈l->Q f.r):∀ f,f∈B->Q f.r:=fun f hf=>by
 obtain ⟨_,g,hg,e⟩:=h.valid hf;rw [<-e];exact hq g hg
theorem xLf.all {l B:List Fc} (h:xLf l B) {Q:Row->Prop} (hq:∀ f,f∈l->Q f.r):∀ f,f∈B->Q f.r:=fun f hf=>by
 obtain ⟨R,L,h1,h2,rfl⟩:=h;obtain ⟨a,b⟩:=xz8 hf;obtain ⟨g,g1,g2,_⟩:=(h1.2 _).1 a;rw [<-g2];exact hq g g1
theorem xLf.len {l B:List Fc} (h:xLf l B):B.length<=l.length*l.length:=by
 obtain ⟨R,L,h1,h2,rfl⟩:=h;refine xvd (h1.1.nodup xp6) fun r hr=>?_
 obtain ⟨a,b⟩:=h2 r hr;have:=xD4 (ps:=psOf l r) (k:=0) a fun t=>by rw [b,xvp]
 exact Nat.le_trans this (Nat.le_mul_self _)
end Go.Sim.M
end
noncomputable section
set_option maxRecDepth 100000
namespace Go.Sim.M
open Go.RowKit
def life (key:List Int) (pl:List Fc) (K:Row):List Per:=(pl.filter fun y=>decide (pick y.r key=K)).map (·.p)
def xKx (cols key:List Int) (pl:List Fc) (x:Fc) (t:Int):Bool:=!xK3 x.r cols&&(hasP x.p t&&!inL (life key pl (pick x.r cols)) t)
def missC (cols key:List Int) (l pl:List Fc) (r:Row) (t:Int):Nat:=l.countP fun x=>decide (x.r=r)&&xKx cols key pl x t
theorem xt7 (key:List Int) (pl:List Fc) (K:Row):(life key pl K).length<=pl.length:=by
 unfold life;rw [za];exact List.length_filter_le _ _
structure IsMiss (cols key:List Int) (l pl M:List Fc):Prop where
 cnt:∀ r t,cnt M r t=missC cols key l pl r t
 len:M.length<=2*(2+pl.length)*l.length
 row:∀ f,f∈M->∃ x,x∈l/\f.r=x.r
theorem xz3 (L:Fc->List Per) (r:Row) (t:Int):∀ l:List Fc,(∀ x,x∈l->IsSpan (L x))->cnt (l.flatMap fun x=>mk x.r (L x)) r t=l.countP fun x=>decide (x.r=r)&&inL (L x) t
 | [],_=>rfl
 | x::l,h=>by
  rw [zR,xq4,xz3 L r t l fun y hy=>h y (by simp [hy]),mk,xDQ,xuq (h x (by simp)),List.countP_cons]
  by_cases hr:x.r=r
  . simp only [hr,if_true,zn,Bool.true_and];omega
  . simp only [hr,if_false,zm,Bool.false_and];simp
theorem xAh {cols key:List Int} {l pl:List Fc} {L:Fc->List Per} (h:∀ x,x∈l->IsSpan (L x)/\(∀ t,inL (L x) t=xKx cols key pl x t)/\(L x).length<=2*(2+pl.length)):IsMiss cols key l pl (l.flatMap fun x=>mk x.r (L x)) where
 cnt r t:=by
  rw [xz3 L r t l fun x hx=>(h x hx).1]
  exact List.countP_congr fun x hx=>by rw [(h x hx).2.1 t]
 len:=xii l fun x hx=>by rw [mk,za];exact (h x hx).2.2
 row f hf:=by
  obtain ⟨x,hx,hf⟩:=y6.1 hf;obtain ⟨p,_,rfl⟩:=zK.1 hf;exact ⟨x,hx,rfl⟩
def xLa (key:List Int) (pl:List Fc):List En:=pl.foldl (fun es x=>addE es (keyOf (pick x.r key)) x.p) []
theorem xvh (key:List Int) (pl:List Fc) (K:Row):xK2 (xLa key pl) (keyOf K)=life key pl K:=by
 unfold xLa life;rw [xAo (fun x:Fc=>keyOf (pick x.r key)) (fun x=>x.p)]
 show []++_=_;rw [zU];congr 1;refine List.filter_congr fun x _=>?_
 rw [Bool.eq_iff_iff,beq_iff_eq,zl];exact ⟨fun h=>xzA h,fun h=>by rw [h]⟩
theorem xBB {n:Nat} {s:List UInt8} {p:Per}:∀ {es:List En},(∀ e,e∈es->e.2.length<=n)->∀ e,e∈addE es s p->e.2.length<=n+1
 | [],_,e,he=>by simp only [addE,zv] at he;subst he;simp
 | a::es,h,e,he=>by
  have ha:=h a (by simp)
  rw [addE] at he;cases hc:a.1==s with
  | true =>
   rw [hc] at he;rcases zC.1 he with rfl|he
   . simp;exact ha
   . have:=h e (by simp [he]);omega
  | false =>
   rw [hc] at he;rcases zC.1 he with rfl|he
   . omega
   . exact xBB (fun x hx=>h x (by simp [hx])) e he
theorem xLA {es:List En} {i:Nat} (h:i<es.length):(es.map xKX).getD i .top=xKX (es.getD i default):=by
 rw [xaa _ _ _ h,z7,ze h];rfl
theorem xLI (e:En) (a:AV):AV.agg (List.take 1 (xKX e).cells++[a]++List.drop 2 (xKX e).cells)=AV.agg [.str e.1,a]:=rfl
theorem xLC (e:En):((xKX e).cells.getD 1 .top).toList=e.2.map encP:=rfl
theorem xLB (e:En):xMt 2 ((xKX e).cells.getD 1 .top)=true:=rfl
theorem xLK (e:En):((xKX e).cells.length==2)=true:=rfl
theorem xLM (ps:List Per) (f t:Int):ps.map encP++[AV.agg [.int .i64 f,.int .i64 t]]=(ps++[(f,t)]).map encP:=by rw [zx];rfl
theorem xHB (s:List UInt8) (n:Int):AV.agg [.str s,.int .i64 n]=xLd s n:=rfl
theorem xIS (x:Fc) (b:List Per) (hb:b.length<=65536):∃ S:List Per,xdx ([x.p].map encP) (b.map encP)=some (S.map encP)/\IsSpan S/\(∀ t,inL S t=(hasP x.p t&&!inL b t))/\S.length<=2*(2+b.length):=by
 obtain ⟨S,e,h1,h2⟩:=xDz [x.p] b (by simp) (by omega)
 obtain ⟨S',e',O,q,J⟩:=xyb [x.p] b (by simp) hb
 obtain rfl:=xjd h1 O fun t=>by rw [h2,q]
 refine ⟨S,e,h1,fun t=>?_,by simp at J;omega⟩
 rw [h2,xij,xeO,Bool.or_false]
theorem xHK (x:Fc) (cols:List Int) (ft:List UInt8) (es:List En) (hx:Txt x.r) (hk:cols.length<=1048576) (he:(xK2 es (keyOf (pick x.r cols))).length<=65536) :
  ∃ S:List Per,xfh (x.r.map encV) x.p.1 x.p.2 (cols.map encN) ft (es.map xKX)=some (S.map encP,es.map xKX)/\IsSpan S/\(∀ t,inL S t=(!xK3 x.r cols&&(hasP x.p t&&!inL (xK2 es (keyOf (pick x.r cols))) t)))/\S.length<=2*(2+(xK2 es (keyOf (pick x.r cols))).length):=by
 have hr:=xGU cols ft x.r hk;cases hn:xK3 x.r cols with
 | true =>
  refine ⟨[],?_,xkG,fun t=>by simp [xeO],by simp⟩
  unfold xfh missing1 xnm;rw [hr,hn];rfl
 | false =>
  obtain ⟨S,e,h1,h2,h3⟩:=xIS x (xK2 es (keyOf (pick x.r cols))) he;refine ⟨S,?_,h1,fun t=>by rw [h2];rfl,h3⟩
  have hl:(keyOf (pick x.r cols)).length<=4611686018427387904:=by have:=hx.len hk;omega
  have hs:=xGk hx hk;unfold xfh missing1 xnm xsx xja xs0 xgZ;cases hi:ixE es (keyOf (pick x.r cols)) with
  | none =>
   rw [xyH hi] at e;have e:xdx [AV.agg [.int .i64 x.p.1,.int .i64 x.p.2]] []=_:=e;simp only [hr,hn,hs,hl,zk,zh,Bool.not_false,Bool.not_true,xab,xac,zn,xq9,hi,Option.isSome_none,e,Option.map_some,sUF]
  | some i =>
   rw [xyI hi] at e;have e:xdx [AV.agg [.int .i64 x.p.1,.int .i64 x.p.2]] _=_:=e;have tl:((es.getD i default).2.map encP).take (es.getD i default).2.length=(es.getD i default).2.map encP:=zi (by simp)
   simp only [hr,hn,hs,hl,zk,zh,Bool.not_false,Bool.not_true,xab,xac,zn,xq9,hi,xyT hi,xLA (xvb hi),xvb hi,xLC,xLB,za,zr,zH,zd,beq_self_eq_true,zS,Bool.true_and,tl,e,Option.map_some,sUF]
theorem xIW (l f0:List AV) (f1 p0:List UInt8) (p1:List AV) (key:List Int) (p3 p4:List AV) (hk:key.length<=1048576) (pl:List Fc) (Q:pl.length<=1048576) (ht:∀ y,y∈pl->Txt y.r) :
  Iter (xaX l f0 f1 p0 p1 (key.map encN) p3 p4 (pl.map encF) ((pl.length:Nat):Int)) ((0:Int),[])=some ((xLa key pl).map xKX):=by
 refine xst pl (fun es x=>addE es (keyOf (pick x.r key)) x.p) (fun n b=>((n:Int),b.map xKX)) (fun n b=>b.length<=n/\∀ e,e∈b->e.2.length<=n) (fun n h b hb=>?_) pl.length 0 [] (by omega) (by simp) ?_
 . have h1:(n:Int)<(pl.length:Int):=by omega
   have gf:(pl.map encF).getD n .top=encF pl[n]:=xaa _ _ _ h;have hx:=ht pl[n] (zo h);have O:=xIQ p0 p1 p3 p4 key pl[n].r hk;have hs:=xGk hx hk;have hl:(keyOf (pick pl[n].r key)).length<=4611686018427387904:=by have:=hx.len hk;omega
   refine ⟨?_,?_,xBB hb.2⟩
   . generalize hK:keyOf (pick pl[n].r key)=K at *;cases hi:ixE b K with
     | none =>
      have m1:b.length<4611686018427387904:=by have:=hb.1;omega
      have d1:=xGd hi 1;have mp:=xE3 hi pl[n].p;have mp:xL4 (b.map xKX) K (.list 2 [AV.agg [.int .i64 pl[n].p.1,.int .i64 pl[n].p.2]])=_:=mp;simp only [xaX,xdF,xbY,xbZ,xat,xae,xdg,xbj,sBU,h,h1,gf,cF0,cF1,cF2,sF0,sF1,sF2,lF,sF12,sF02,O,hs,hl,xq9,hi,Option.isSome_none,m1,d1,mp,xKU (n:=n) (by omega)]
     | some i =>
      have q:=xvb hi;have m1:b.length<4611686018427387904:=by have:=hb.1;omega
      have U:(b.getD i default).2.length<=n:=hb.2 _ (by rw [z7,ze q];exact zo q)
      have r1:((b.getD i default).2.length+1)*16<=140737488355328:=by omega
      have r2:(b.getD i default).2.length+1<=4611686018427387904:=by omega
      have J:=xD1 hi;have d1:=xGe hi (n:=(b.getD i default).2.length);have mp:=xDf hi (((b.getD i default).2.length:Nat):Int) pl[n].p;simp only [xaX,xdF,xbY,xbZ,xat,xae,xdg,xbj,sBU,h,h1,gf,cF0,cF1,cF2,sF0,sF1,sF2,lF,sF12,sF02,O,hs,hl,xq9,hi,xyT hi,xLA q,q,xLC,xLB,xLK,xLI,J,xHB,xLM,z8,zj,y5,r1,r2,m1,d1,xKU (n:=n) (by omega)]
      rw [<-mp]
   . have:=xBA (keyOf (pick pl[n].r key)) pl[n].p b;omega
 . simp only [zr];simp only [xaX,xdF,xbY,xbZ,xat,xae,xdg,xbj,za,zy,zm,xac,sUF];rfl
theorem xIX (m0:List AV) (m1:List UInt8) (q:List AV) (J O:Int) (row:Row) (x1 x2:Int) (S:List Per) (hS:S.length<=1048576) (es:List AV) (D:List Fc) (hD:D.length<=1048576) :
  Iter (xbA m0 m1 q J O (S.map encP) ((S.length:Nat):Int)) (D.length,(0:Int),es,D.map encF,row.map encV,x1,x2)=some ((D++mk row S).length,es,(D++mk row S).map encF):=by
 have:=xpI (step:=xbA m0 m1 q J O (S.map encP) ((S.length:Nat):Int)) S (fun p=>[(⟨row,p⟩:Fc)]) (fun n D=>(D.length,(n:Int),es,D.map encF,row.map encV,x1,x2)) (fun D=>(D.length,es,D.map encF)) D 1 (fun _ _=>by simp) (fun n h D' Q=>by
  have h1:(n:Int)<(S.length:Int):=by omega
  have m1:(D'.length+1)*40<=140737488355328:=by omega
  have m2:D'.length+1<=4611686018427387904:=by omega
  have gf:(S.map encP).getD n .top=encP S[n]:=xaa _ _ _ h;simp only [xbA,xfe,sBU,h,h1,gf,cP0,cP1,lP,sP,sP0,sP1,m1,m2,xKU (n:=n) (by omega)]
  simp [encF]) (fun D'=>by
  simp only [xbA,xfe,zy,zm,xac,sUF])
 rw [xLg] at this;exact this
theorem xHP (cols key:List Int) (ft p0:List UInt8) (p1 p3 p4:List AV) (hc:cols.length<=1048576) (hk:key.length<=1048576) (l pl:List Fc) (hl:l.length<=14) (O:pl.length<=34) (hr:∀ f,f∈l->f.r.length<=60) (ht:∀ f,f∈l->Txt f.r) (Q:∀ f,f∈pl->Txt f.r) :
  ∃ B M:List Fc,xcH (cols.map encN) ft (l.map encF) p0 p1 (key.map encN) p3 p4 (pl.map encF)=some (B.map encF)/\xK1 M B/\IsMiss cols key l pl M:=by
 have e0:=xIW (l.map encF) (cols.map encN) ft p0 p1 key p3 p4 hk pl (by omega) Q
 have h1:∀ x,x∈l->∃ S:List Per,xfh (x.r.map encV) x.p.1 x.p.2 (cols.map encN) ft ((xLa key pl).map xKX)=some (S.map encP,(xLa key pl).map xKX)/\IsSpan S/\(∀ t,inL S t=xKx cols key pl x t)/\S.length<=2*(2+pl.length):=fun x hx=>by
  have ll:=xt7 key pl (pick x.r cols);obtain ⟨S,s1,s2,s3,s4⟩:=xHK x cols ft (xLa key pl) (ht x hx) hc (by rw [xvh];omega)
  rw [xvh] at s4;exact ⟨S,s1,s2,fun t=>by rw [s3,xvh];rfl,by omega⟩
 obtain ⟨L,hL⟩:=xv8 h1;have hM:IsMiss cols key l pl (l.flatMap fun x=>mk x.r (L x)):=xAh fun x hx=>(hL x hx).2
 have e1:=xpI (step:=xbz (cols.map encN) ft (l.map encF) ((l.length:Nat):Int)) l (fun x=>mk x.r (L x)) (fun n D=>(D.length,(n:Int),(xLa key pl).map xKX,D.map encF)) (fun D=>(D.length,D.map encF)) [] 72 (fun x hx=>by
  have:=(hL x hx).2.2.2;rw [mk,za];omega) (fun n h D hD=>by
  have h1:(n:Int)<(l.length:Int):=by omega
  have gf:(l.map encF).getD n .top=encF l[n]:=xaa _ _ _ h;obtain ⟨s1,s2,s3,s4⟩:=hL l[n] (zo h);rw [List.length_nil,zH] at hD;have e2:=xIX (cols.map encN) ft (l.map encF) ((l.length:Nat):Int) (n:Int) l[n].r l[n].p.1 l[n].p.2 (L l[n]) (by omega) ((xLa key pl).map xKX) D (by omega)
  simp only [xbz,xfd,xhn,xho,xhp,xhq,xhr,xhs,sBU,h,h1,gf,cF0,cF1,cF2,sF0,sF1,sF2,lF,sF12,sF02,s1,e2,xKU (n:=n) (by omega)]) (fun D=>by
  simp only [xbz,xfd,zy,zm,xac,sUF])
 rw [zU] at e1;generalize l.flatMap (fun x=>mk x.r (L x))=M at e1 hM
 have J:=hM.len;have q:M.length<=1024:=Nat.le_trans J (Nat.le_trans (Nat.mul_le_mul (Nat.mul_le_mul_left 2 (Nat.add_le_add_left O 2)) hl) (by decide))
 have hB:Bld M:=xKo q (fun f hf=>by
  obtain ⟨x,hx,e⟩:=hM.row f hf;rw [e];exact hr x hx) (fun f hf v hv=>by
  obtain ⟨x,hx,e⟩:=hM.row f hf;rw [e] at hv;have:=ht x hx v hv;exact ⟨this.1,by omega⟩) ((R20.few (l:=l) (by omega)).of hM.row)
 obtain ⟨B,b1,b2⟩:=xJ0 M hB;refine ⟨B,M,?_,b2,hM⟩;have e1:Iter (xbz (cols.map encN) ft (l.map encF) ((l.length:Nat):Int)) ((0:Nat),(0:Int),(xLa key pl).map xKX,[])=_:=e1;have tt:List.take M.length (M.map encF)=M.map encF:=zi (by simp)
 unfold xcH xk3;simp only [xj5,xj6,xj7,xj8,xj9,za,e0,e1,b1,zk,zh,xab,zH,zd,zn,zS,zr,tt,sUF]
end Go.Sim.M
end
noncomputable section
set_option maxRecDepth 100000
namespace Go.Sim.M
open Go.RowKit Go.Sim.Srt
def dk (S:List Row):Nat->List Row
 | 0=>[]
 | k+1=>dk S k++(if k=0\/S[k - 1]?≠S[k]? then S[k]?.toList else [])
theorem xBO (S:List Row):∀ k,(dk S k).length<=k
 | 0=>zd _
 | k+1=>by
  have:=xBO S k;unfold dk;rw [z8];have:(if k=0\/S[k - 1]?≠S[k]? then S[k]?.toList else []).length<=1:=by
   split
   . cases S[k]?<;>simp
   . simp
  omega
theorem xIn (S:List Row) (hs:Sorted cmpR S):∀ k,k<=S.length->Strict cmpR (dk S k)/\∀ x,x∈dk S k↔x∈S.take k
 | 0,_=>⟨List.Pairwise.nil,fun x=>by simp [dk]⟩
 | k+1,hk=>by
  obtain ⟨h1,h2⟩:=xIn S hs k (by omega)
  have J:k<S.length:=by omega
  have tk:S.take (k+1)=S.take k++[S[k]]:=by rw [List.take_add_one,ze J];rfl
  unfold dk;rw [ze J,tk];by_cases hc:k=0\/S[k - 1]?≠some S[k]
  . rw [if_pos hc];refine ⟨List.pairwise_append.2 ⟨h1,List.pairwise_singleton _ _,fun x hx y hy=>?_⟩,fun x=>by rw [zG,zG,h2];rfl⟩
    simp at hy;subst hy;obtain ⟨i,hi,rfl⟩:=List.mem_take_iff_getElem.1 ((h2 x).1 hx);have Q:k≠0:=by omega
    have q:k - 1<S.length:=by omega
    have hne:S[k - 1]≠S[k]:=fun e=>by
     rcases hc with hc|hc
     . exact Q hc
     . exact hc (by rw [ze q,e])
    have c1:cmpR S[k - 1] S[k]<=0:=zB.1 hs _ _ q J (by omega)
    have c2:cmpR S[k - 1] S[k]<0:=by
     rcases Int.lt_or_eq_of_le c1 with c|c
     . exact c
     . exact absurd (xmJ c) hne
    rcases zJ i (k - 1) with O|O
    . have c3:cmpR S[i] S[k - 1]<=0:=zB.1 hs _ _ (by omega) q O
      exact xp6.lt2 c3 c2
    . have:i=k - 1:=by omega
      subst this;exact c2
  . rw [if_neg hc,zD];refine ⟨h1,fun x=>?_⟩
    rw [h2,zG,zv];refine ⟨Or.inl,fun hh=>hh.elim id fun hx=>?_⟩
    have Q:k≠0:=fun e=>hc (.inl e)
    have he:S[k - 1]?=some S[k]:=by
     by_cases e:S[k - 1]?=some S[k]
     . exact e
     . exact absurd (.inr e) hc
    have q:k - 1<S.length:=by omega
    rw [ze q,z6] at he;rw [hx,<-he];exact List.mem_take_iff_getElem.2 ⟨k - 1,by omega,rfl⟩
theorem xLG {n:Nat} (h:n<=1048576):(n+1)*24<=140737488355328/\n+1<=4611686018427387904:=by omega
theorem xC4 (S:List Row) (hS:S.length<=1048576) (hr:∀ x,x∈S->x.length<=maxLen):Iter (xbK (S.map encR)) ((0:Nat),(0:Int),[])=some ((dk S S.length).length,(dk S S.length).map encR):=by
 refine xme (fun k=>(((dk S k).length,((k:Nat):Int),(dk S k).map encR):Nat×Int×List AV)) S.length _ (fun k hk=>?_) ?_ S.length 0 (by omega)
 . have i1:(k:Int)<(S.length:Int):=by omega
   have gf:(S.map encR).getD k .top=encR S[k]:=xaa _ _ _ hk;have dl:=xBO S k;obtain ⟨m1,m2⟩:=xLG (n:=(dk S k).length) (by omega)
   cases k with
   | zero =>
    have:dk S (0+1)=[S[0]]:=by simp [dk,ze hk]
    rw [this];have i0:(((0:Nat):Int)==0)=true:=rfl;simp only [xbK,xf2,xdl,xfp,xfq,xfr,sBU,hk,i0,i1,gf,cR0,sR0,m1,m2,xKU (n:=0) (by omega)]
    rfl
   | succ j =>
    have hj:j<S.length:=by omega
    have i0:(((j+1:Nat):Int)==0)=false:=by simp;omega
    have i2:(j:Int)<(S.length:Int):=by omega
    have gj:(S.map encR).getD j .top=encR S[j]:=xaa _ _ _ hj;have ee:=xKi S[j] S[j+1] (hr _ (zo hj));have wj:IntKind.i64.wrap (((j+1:Nat):Int) - 1)=(j:Int):=by rw [xbn (by omega) (by omega)];omega
    have sd:dk S (j+1+1)=dk S (j+1)++(if S[j]=S[j+1] then [] else [S[j+1]]):=by
     show dk S (j+1)++_=_;congr 1;rw [show j+1 - 1=j by omega,ze hj,ze hk]
     by_cases e:S[j]=S[j+1]
     . simp [e]
     . simp [e]
    rw [sd];simp only [xbK,xf2,xdl,xfp,xfq,xfr,sBU,hk,hj,i0,i1,i2,gf,gj,cR0,sR0,ee,wj,cmp0,m1,m2,xKU (n:=j+1) (by omega)]
    by_cases e:S[j]=S[j+1]
    . simp [e,xac,sUF]
    . simp [e,xab,encR,sUF]
 . simp only [xbK,xf2,xdl,za,zy,zm,xac,sUF]
theorem xC5 (l:List Row) (h:xK9 l):∃ D,xoM (l.map encR)=some (D.map encR)/\Strict cmpR D/\(∀ x,x∈D↔x∈l)/\D.length<=l.length:=by
 obtain ⟨S,e1,p1,s1⟩:=xCD l h;have hS:=h.perm p1;obtain ⟨a1,a2⟩:=xIn S s1 S.length (zd _);have e2:=xC4 S hS.1 (fun x hx=>by have:=hS.2 x hx;unfold maxLen;omega)
 refine ⟨dk S S.length,?_,a1,fun x=>by rw [a2,y7,p1.mem_iff],by rw [<-p1.length_eq];exact xBO _ _⟩
 have tt:List.take (dk S S.length).length ((dk S S.length).map encR)=(dk S S.length).map encR:=zi (by simp)
 unfold xoM xrJ;simp only [xlf,xlg,xlh,e1,e2,zk,zh,xab,zH,za,zd,zn,zS,zr,tt,sUF]
def cF (f g:Fc):Int:=cmpR f.r g.r
theorem xHp:Cm cF:=xp6.on (e:=fun f:Fc=>f.r)
theorem xEO (a b:List Fc) (ha:a.length+b.length<=1048576) (Y:∀ x,x∈a->x.r.length<=1048576) (V:∀ x,x∈b->x.r.length<=1048576) (sa:Sorted cF a) (sb:Sorted cF b) :
  ∀ (n i k:Nat) (D:List Fc),(a.length - i)+(b.length - k)=n->i<=a.length->k<=b.length->D.length=i+k ->
   ∃ r,Iter (xa3 (List.map encF a) (List.map encF b)) (D.length,(i:Int),(k:Int),List.map encF D)=some (a.length+b.length,List.map encF (D++r))/\r.Perm (a.drop i++b.drop k)/\Sorted cF r:=by
 intro n;induction n with
 | zero =>
  intro i k D hn hi hk hD;have h1:¬ (i:Int)<(a.length:Int):=by omega
  have h2:¬ (k:Int)<(b.length:Int):=by omega
  refine ⟨[],xad ?_,?_,by simp [Sorted]⟩
  . simp only [xa3,xdT,xbT,xbU,xbV,xdq,xdr,xds,xch,xci,  za,xaB,h1,h2,zm,zT,if_false,zD,sUF];rw [show D.length=a.length+b.length by omega]
  . rw [zq (by omega),zq (by omega)];exact List.Perm.refl _
 | succ n ih =>
  intro i k D hn hi hk hD;have W:(List.map encF D).length=D.length:=by simp
  have m1:(D.length+1)*40<=140737488355328:=by omega
  have m2:D.length+1<=4611686018427387904:=by omega
  have snoc:∀ x:Fc,List.map encF D++[AV.agg [AV.list 3 (x.r.map encV),AV.int .i64 x.p.1,AV.int .i64 x.p.2]]=List.map encF (D++[x]):=fun x=>by simp [encF]
  have wi:=xiU (n:=i) (show i+1<=maxLen by unfold maxLen;omega)
  have wk:=xiU (n:=k) (show k+1<=maxLen by unfold maxLen;omega)
  by_cases J:i<a.length
  . have i1:(i:Int)<(a.length:Int):=by omega
    have i2:((i:Int)==(a.length:Int))=false:=by simp;omega
    have hx:a[i]?=some a[i]:=by simp [J]
    by_cases q:k<b.length
    . have k1:(k:Int)<(b.length:Int):=by omega
      have hy:b[k]?=some b[k]:=by simp [q]
      have e:=xrk b[k].r a[i].r (by have:=V b[k] (zo q);unfold maxLen;omega)
      by_cases hc:cmpR b[k].r a[i].r<0
      . obtain ⟨r,h1,h2,h3⟩:=ih i (k+1) (D++[b[k]]) (by omega) hi (by omega) (by simp;omega)
        refine ⟨b[k]::r,?_,?_,?_⟩
        . refine xc4 (s':=((D++[b[k]]).length,(i:Int),((k+1:Nat):Int),List.map encF (D++[b[k]]))) ?_ (by rw [h1];simp)
          simp only [xa3,xdT,xbT,xbU,xbV,xdq,xdr,xds,xch,xci,  za,xaB,i1,i2,k1,J,q,zn,zT,if_false,if_true,zN,gR hx,gR hy,cF0,cF1,cF2,sF0,sF1,sF2,lF,sF12,sF02,e,zk,zh,hc,Int.natCast_nonneg,zS,beq_self_eq_true,m1,m2,snoc,wk,sUF];simp
        . rw [xaE q];exact (h2.cons _).trans List.perm_middle.symm
        . refine zM.2 ⟨fun z hz=>?_,h3⟩
          rcases zG.1 (h2.mem_iff.1 hz) with hz|hz
          . rw [xaE J] at hz;rcases zC.1 hz with rfl|hz
            . exact Int.le_of_lt hc
            . obtain ⟨j,hj,rfl⟩:=zp.1 hz;have Q:i+1+j<a.length:=by simp at hj;omega
              have:=xc8 sa (i:=i) (j:=i+1+j) (by omega) Q
              rw [List.getElem_drop];exact xHp.trans _ _ _ (Int.le_of_lt hc) this
          . obtain ⟨j,hj,rfl⟩:=zp.1 hz;have O:k+1+j<b.length:=by simp at hj;omega
            rw [List.getElem_drop];exact xc8 sb (i:=k) (j:=k+1+j) (by omega) O
      . obtain ⟨r,h1,h2,h3⟩:=ih (i+1) k (D++[a[i]]) (by omega) (by omega) hk (by simp;omega)
        refine ⟨a[i]::r,?_,?_,?_⟩
        . refine xc4 (s':=((D++[a[i]]).length,((i+1:Nat):Int),(k:Int),List.map encF (D++[a[i]]))) ?_ (by rw [h1];simp)
          simp only [xa3,xdT,xbT,xbU,xbV,xdq,xdr,xds,xch,xci,  za,xaB,i1,i2,k1,J,q,zn,zT,if_false,if_true,zN,gR hx,gR hy,cF0,cF1,cF2,sF0,sF1,sF2,lF,sF12,sF02,e,zk,zh,hc,zm,Int.natCast_nonneg,zS,beq_self_eq_true,m1,m2,snoc,wi,sUF];simp
        . rw [xaE J];exact h2.cons _
        . refine zM.2 ⟨fun z hz=>?_,h3⟩
          have U:cF a[i] b[k]<=0:=xHp.ord.le_of_not hc;rcases zG.1 (h2.mem_iff.1 hz) with hz|hz
          . obtain ⟨j,hj,rfl⟩:=zp.1 hz;have Q:i+1+j<a.length:=by simp at hj;omega
            rw [List.getElem_drop];exact xc8 sa (i:=i) (j:=i+1+j) (by omega) Q
          . rw [xaE q] at hz;rcases zC.1 hz with rfl|hz
            . exact U
            . obtain ⟨j,hj,rfl⟩:=zp.1 hz;have O:k+1+j<b.length:=by simp at hj;omega
              rw [List.getElem_drop];exact xHp.trans _ _ _ U (xc8 sb (i:=k) (j:=k+1+j) (by omega) O)
    . have k1:¬ (k:Int)<(b.length:Int):=by omega
      obtain ⟨r,h1,h2,h3⟩:=ih (i+1) k (D++[a[i]]) (by omega) (by omega) hk (by simp;omega)
      refine ⟨a[i]::r,?_,?_,?_⟩
      . refine xc4 (s':=((D++[a[i]]).length,((i+1:Nat):Int),(k:Int),List.map encF (D++[a[i]]))) ?_ (by rw [h1];simp)
        simp only [xa3,xdT,xbT,xbU,xbV,xdq,xdr,xds,xch,xci,  za,xaB,i1,i2,k1,J,zn,zm,zT,if_false,if_true,zN,gR hx,cF0,cF1,cF2,sF0,sF1,sF2,lF,sF12,sF02,Int.natCast_nonneg,zS,beq_self_eq_true,m1,m2,snoc,wi,sUF];simp
      . rw [xaE J];exact h2.cons _
      . refine zM.2 ⟨fun z hz=>?_,h3⟩
        rw [zq (show b.length<=k by omega),zD] at h2
        obtain ⟨j,hj,rfl⟩:=zp.1 (h2.mem_iff.1 hz);have Q:i+1+j<a.length:=by simp at hj;omega
        rw [List.getElem_drop];exact xc8 sa (i:=i) (j:=i+1+j) (by omega) Q
  . have i1:¬ (i:Int)<(a.length:Int):=by omega
    have q:k<b.length:=by omega
    have k1:(k:Int)<(b.length:Int):=by omega
    have i2:((i:Int)==(a.length:Int))=true:=by simp;omega
    have hy:b[k]?=some b[k]:=by simp [q]
    obtain ⟨r,h1,h2,h3⟩:=ih i (k+1) (D++[b[k]]) (by omega) hi (by omega) (by simp;omega)
    refine ⟨b[k]::r,?_,?_,?_⟩
    . refine xc4 (s':=((D++[b[k]]).length,(i:Int),((k+1:Nat):Int),List.map encF (D++[b[k]]))) ?_ (by rw [h1];simp)
      simp only [xa3,xdT,xbT,xbU,xbV,xdq,xdr,xds,xch,xci,  za,xaB,i1,i2,k1,q,zn,zm,zT,if_false,if_true,zN,gR hy,cF0,cF1,cF2,sF0,sF1,sF2,lF,sF12,sF02,Int.natCast_nonneg,zS,beq_self_eq_true,m1,m2,snoc,wk,sUF];simp
    . rw [xaE q];exact (h2.cons _).trans List.perm_middle.symm
    . refine zM.2 ⟨fun z hz=>?_,h3⟩
      rw [zq (show a.length<=i by omega),zU] at h2
      obtain ⟨j,hj,rfl⟩:=zp.1 (h2.mem_iff.1 hz);have O:k+1+j<b.length:=by simp at hj;omega
      rw [List.getElem_drop];exact xc8 sb (i:=k) (j:=k+1+j) (by omega) O
theorem xEP (a b:List Fc) (ha:a.length+b.length<=1048576) (J:∀ x,x∈a->x.r.length<=1048576) (q:∀ x,x∈b->x.r.length<=1048576) (sa:Sorted cF a) (sb:Sorted cF b) :
  ∃ r,xr3 (a.map encF) (b.map encF)=some (r.map encF)/\r.Perm (a++b)/\Sorted cF r:=by
 obtain ⟨r,h1,h2,h3⟩:=xEO a b ha J q sa sb _ 0 0 [] rfl (zQ _) (zQ _) rfl;simp only [zr,zU] at h1 h2;have h1':Iter (xa3 (a.map encF) (b.map encF)) (0,(0:Int),(0:Int),[])=some (r.length,r.map encF):=by
  rw [h2.length_eq,z8];exact h1
 refine ⟨r,?_,h2,h3⟩;unfold xr3 xtQ;simp only [xnx,xn0,xn1,xn2,h1',sOO,sUF]
theorem xC7:∀ (f:Nat) (l:List Fc),l.length<=2 ^ f->Few l->∃ r,xcJ (f+1) (List.map encF l)=some (List.map encF r)/\r.Perm l/\Sorted cF r:=by
 intro f;induction f with
 | zero =>
  intro l hl hs;have h1:(l.length:Int)<2:=by simp at hl;omega
  refine ⟨l,?_,List.Perm.refl _,?_⟩
  . show xe2 (xcJ 0) (List.map encF l)=_;simp only [xe2,xjL,za,h1,zn,xab,sUF]
  . match l,hl with
    | [],_=>exact List.Pairwise.nil
    | [x],_=>exact List.pairwise_singleton _ _
 | succ f ih =>
  intro l hl hs;by_cases h2:l.length<=1
  . have h1:(l.length:Int)<2:=by omega
    refine ⟨l,?_,List.Perm.refl _,?_⟩
    . show xe2 (xcJ (f+1)) (List.map encF l)=_;simp only [xe2,xjL,za,h1,zn,xab,sUF]
    . match l,h2 with
      | [],_=>exact List.Pairwise.nil
      | [x],_=>exact List.pairwise_singleton _ _
  . have hp:2 ^ (f+1)=2*2 ^ f:=by rw [Nat.pow_succ];omega
    have q:=hs.1;obtain ⟨m,hm⟩:∃ m,m=l.length / 2:=⟨_,rfl⟩;have st:Few (l.take m):=⟨by simp;omega,fun x hx=>hs.2 x (List.mem_of_mem_take hx)⟩
    have sd:Few (l.drop m):=⟨by simp;omega,fun x hx=>hs.2 x (List.mem_of_mem_drop hx)⟩
    obtain ⟨r1,e1,p1,s1⟩:=ih (l.take m) (by simp;omega) st
    obtain ⟨r2,e2,p2,s2⟩:=ih (l.drop m) (by simp;omega) sd
    have l1:=p1.length_eq;have l2:=p2.length_eq;simp only [zt,y4] at l1 l2;obtain ⟨r,a1,a3,a4⟩:=xEP r1 r2 (by omega) (fun x hx=>st.2 x (p1.mem_iff.1 hx)) (fun x hx=>sd.2 x (p2.mem_iff.1 hx)) s1 s2
    refine ⟨r,?_,a3.trans ((p1.append p2).trans (by rw [List.take_append_drop])),a4⟩
    have w:IntKind.i64.wrap ((l.length:Int).tdiv 2)=(m:Int):=by
     rw [Int.tdiv_eq_ediv_of_nonneg (by omega)]
     exact w64 (by omega) (by omega)
    have t1:List.take m (List.map encF l)=List.map encF (l.take m):=by simp
    have t2:List.take (l.length - m) (List.drop m (List.map encF l))=List.map encF (l.drop m):=by
     rw [zi (by simp)];simp
    have d0:¬ (l.length:Int)<2:=by omega
    have d2:(m:Int)<=(l.length:Int):=by omega
    show xe2 (xcJ (f+1)) (List.map encF l)=_;simp only [xe2,xjL,xms,xmt,xmu,  za,d0,xac,w,zN,Nat.sub_zero,zr,t1,t2,e1,e2,zk,zh,xab,d2,zn,zm,Int.natCast_nonneg,zS,a1,sUF]
theorem xH3 (l:List Fc) (h:Few l):∃ D,xrd (l.map encF)=some (D.map encR)/\xK6 l D:=by
 have e0:=xvv l h.1;have hf:(l.flatMap fun f=>if pv f.p=true then [f.r] else []).length<=1*l.length:=xii l fun f _=>by split<;>simp
 have hm:∀ x,x∈(l.flatMap fun f=>if pv f.p=true then [f.r] else [])↔∃ f,f∈l/\f.r=x/\pv f.p=true:=fun x=>by
  rw [y6];constructor
  . rintro ⟨f,hf,hx⟩;split at hx
    . simp at hx;exact ⟨f,hf,hx.symm,by assumption⟩
    . simp at hx
  . rintro ⟨f,hf,e,hv⟩;exact ⟨f,hf,by rw [if_pos hv];simp [e]⟩
 have q:xK9 (l.flatMap fun f=>if pv f.p=true then [f.r] else []):=⟨by have:=h.1;omega,fun x hx=>by
  obtain ⟨f,hf,e,_⟩:=(hm x).1 hx;rw [<-e];exact h.2 f hf⟩
 obtain ⟨D,d1,d2,d3,d4⟩:=xC5 _ q;refine ⟨D,?_,d2,fun r=>by rw [d3,hm]⟩
 generalize (l.flatMap fun f=>if pv f.p=true then [f.r] else [])=w at e0 d1
 have tt:List.take w.length (w.map encR)=w.map encR:=zi (by simp)
 unfold xrd xvw;simp only [xqq,xqr,xqs,xqt,e0,zk,zh,xab,zH,za,zd,zn,zS,zr,tt,d1,sUF]
theorem xEl (S:List Fc) (hS:S.length<=1048576) (hr:∀ f,f∈S->f.r.length<=maxLen) (on i:Nat) (hi:i<S.length) (xs:List AV):∀ (d k:Nat),k+d=S.length->i<=k->∃ j:Nat,k<=j/\j<=S.length/\(∀ t (h:t<S.length),k<=t->t<j->S[t].r=S[i].r)/\(∀ h:j<S.length,S[j].r≠S[i].r) /\
  Iter (xbE (S.map encF) on (i:Int)) ((k:Int),xs)=some ((j:Int),xs)
 | 0,k,h,hik=>by
  obtain rfl:k=S.length:=by omega
  refine ⟨S.length,zd _,zd _,fun t h1 h2 h3=>by omega,fun h=>by omega,xad ?_⟩
  simp only [xbE,xhi,za,zy,zm,xac,sUF]
 | d+1,k,h,hik=>by
  have hk:k<S.length:=by omega
  have i1:(k:Int)<(S.length:Int):=by omega
  have i2:(i:Int)<(S.length:Int):=by omega
  have gk:(S.map encF).getD k .top=encF S[k]:=xaa _ _ _ hk;have gi:(S.map encF).getD i .top=encF S[i]:=xaa _ _ _ hi;have ec:=xrk S[k].r S[i].r (hr _ (zo hk));by_cases he:S[k].r=S[i].r
  . obtain ⟨j,a1,a2,a3,a4,a5⟩:=xEl S hS hr on i hi xs d (k+1) (by omega) (by omega)
    refine ⟨j,by omega,a2,fun t h1 h2 h3=>?_,a4,(xal (s':=(((k+1:Nat):Int),xs)) ?_).trans a5⟩
    . by_cases q:t=k
      . subst q;exact he
      . exact a3 t h1 (by omega) h3
    . have dd:decide (S[k].r=S[i].r)=true:=decide_eq_true he;simp only [xbE,xhi,sBU,i1,i2,hk,hi,gk,gi,cF0,cF1,cF2,sF0,sF1,sF2,lF,sF12,sF02,ec,cmp0,dd,xKU (n:=k) (by omega)]
  . refine ⟨k,zd _,by omega,fun t h1 h2 h3=>by omega,fun _=>he,xad ?_⟩
    simp only [xbE,xhi,sBU,i1,i2,hk,hi,gk,gi,cF0,cF1,cF2,sF0,sF1,sF2,lF,sF12,sF02,ec,cmp0,he,zm]
structure RGI (S:List Fc) (i:Nat) (G:List Grp):Prop where
 st:Strict cmpR (G.map (·.1))
 mem:∀ r,r∈G.map (·.1)↔∃ f,f∈S.take i/\f.r=r/\pv f.p=true
 ps:∀ g,g∈G->StepI (fun t=>((cnt S g.1 t:Nat):Int)) 1099511627776 g.2/\g.2.length<=2*S.length+1
 len:G.length<=i
 bd:∀ a b (ha:a<S.length) (hb:b<S.length),a<i->i<=b->cmpR S[a].r S[b].r<0
theorem xLH {n:Nat} (h:n<=1048576):(n+1)*48<=140737488355328/\n+1<=4611686018427387904:=by omega
theorem xAe (S:List Fc) (hS:S.length<=262144) (hr:∀ f,f∈S->f.r.length<=1048576) (hs:Sorted cF S):∀ (c i:Nat) (G:List Grp),S.length - i<=c->i<=S.length->RGI S i G ->
  ∃ G',Iter (xdM (S.map encF)) (G.length,(i:Int),G.map encG)=some (G'.length,G'.map encG)/\RGI S S.length G'
 | c,i,G,hc,hi,hG=>by
  by_cases ac:i=S.length
  . subst ac;refine ⟨G,xad ?_,hG⟩;simp only [xdM,xlu,za,zy,zm,xac,sUF]
  . have O:i<S.length:=by omega
    obtain ⟨j,a1,a2,a3,a4,a5⟩:=xEl S (by omega) (fun f hf=>by have:=hr f hf;unfold maxLen;omega) G.length i O (G.map encG) (S.length - i) i (by omega) (zd _)
    have ae:i<j:=by
     rcases zJ i j with h|h
     . exact h
     . obtain rfl:j=i:=by omega
       exact absurd rfl (a4 O)
    have run_mem:∀ f,f∈(S.drop i).take (j - i)↔∃ t,∃ h:t<S.length,i<=t/\t<j/\S[t]=f:=fun f=>by
     rw [List.mem_take_iff_getElem];constructor
     . rintro ⟨m,hm,rfl⟩;rw [y4] at hm;exact ⟨i+m,by omega,by omega,by omega,by rw [List.getElem_drop]⟩
     . rintro ⟨t,h,h1,h2,rfl⟩;refine ⟨t - i,by rw [y4];omega,?_⟩
       rw [List.getElem_drop];congr 1;omega
    have run_row:∀ f,f∈(S.drop i).take (j - i)->f.r=S[i].r:=fun f hf=>by
     obtain ⟨t,h,h1,h2,rfl⟩:=(run_mem f).1 hf;exact a3 t h h1 h2
    have W:S.take j=S.take i++(S.drop i).take (j - i):=by
     rw [show j=i+(j - i) by omega,List.take_add,Nat.add_sub_cancel_left]
    have Q:S=S.take i++((S.drop i).take (j - i)++S.drop j):=by
     rw [<-zw,<-W,List.take_append_drop]
    have rl:((S.drop i).take (j - i)).length=j - i:=by rw [zt,y4];omega
    have J:∀ f,f∈S.take i->cmpR f.r S[i].r<0:=fun f hf=>by
     obtain ⟨t,ht,rfl⟩:=List.mem_take_iff_getElem.1 hf;exact hG.bd t i (by omega) O (by omega) (zd _)
    have q:∀ t (h:t<S.length),j<=t->cmpR S[i].r S[t].r<0:=fun t h ag=>by
     have hj:j<S.length:=by omega
     have c1:cmpR S[i].r S[j].r<=0:=zB.1 hs i j O hj ae;have c2:cmpR S[i].r S[j].r<0:=by
      rcases Int.lt_or_eq_of_le c1 with c|c
      . exact c
      . exact absurd (xmJ c).symm (a4 hj)
     rcases zJ j t with h1|h1
     . have c3:cmpR S[j].r S[t].r<=0:=zB.1 hs j t hj h h1;exact xp6.lt1 c2 c3
     . obtain rfl:t=j:=by omega
       exact c2
    have no_other:∀ (l:List Fc) (ρ:Row) (t:Int),(∀ f,f∈l->f.r≠ρ)->cnt l ρ t=0:=fun l ρ t h=>by
     unfold cnt;rw [List.countP_eq_zero];intro f hf hh;simp only [zf,zl] at hh;exact h f hf hh.1
    have ne_of:∀ x y:Row,cmpR x y<0->x≠y:=fun x y h e=>by subst e;rw [xu6] at h;omega
    have Y:∀ t,cnt ((S.drop i).take (j - i)) S[i].r t=cnt S S[i].r t:=fun t=>by
     have e:cnt S S[i].r t=cnt (S.take i++((S.drop i).take (j - i)++S.drop j)) S[i].r t:=by rw [<-Q]
     rw [e,xq4,xq4,no_other (S.take i) _ t (fun f hf=>ne_of _ _ (J f hf)),no_other (S.drop j) _ t (fun f hf=>by
      obtain ⟨m,hm,rfl⟩:=zp.1 hf;rw [y4] at hm;rw [List.getElem_drop];exact fun e=>ne_of _ _ (q (j+m) (by omega) (by omega)) e.symm)]
     omega
    have U:Few ((S.drop i).take (j - i)):=⟨by omega,fun f hf=>hr f (List.mem_of_mem_drop (List.mem_of_mem_take hf))⟩
    obtain ⟨D,d1,d2,d3⟩:=xH3 _ U;obtain ⟨St,s1,s2,s3⟩:=xFe ((S.drop i).take (j - i)) S[i].r (fun f hf=>by have:=U.2 f hf;unfold maxLen;omega) (by omega)
    have s2:StepI (fun t=>((cnt S S[i].r t:Nat):Int)) 1099511627776 St:=by
     have e:(fun t=>((cnt ((S.drop i).take (j - i)) S[i].r t:Nat):Int))=fun t=>((cnt S S[i].r t:Nat):Int):=funext fun t=>by rw [Y]
     rwa [e] at s2
    have tS:List.take (j - i) (List.drop i (S.map encF))=((S.drop i).take (j - i)).map encF:=by rw [<-List.map_drop,<-List.map_take]
    have hD:D=[]\/D=[S[i].r]:=by
     match D,d2,d3 with
     | [],_,_=>exact .inl rfl
     | [x],_,h=>right;obtain ⟨f,hf,e,_⟩:=(h x).1 (by simp);rw [<-e,run_row f hf]
     | x::y::t,h1,h =>
      obtain ⟨f,hf,e,_⟩:=(h x).1 (by simp)
      obtain ⟨g,hg,e',_⟩:=(h y).1 (by simp)
      have:cmpR x y<0:=(zM.1 h1).1 y (by simp)
      rw [<-e,<-e',run_row f hf,run_row g hg,xu6] at this;omega
    have af:=hG.len;obtain ⟨m1,m2⟩:=xLH (n:=G.length) (by omega)
    have nx:RGI S j (G++D.map fun ρ=>(ρ,St)):=by
     refine ⟨?_,fun r=>?_,fun g hg=>?_,?_,fun a b ha hb ad Z=>?_⟩
     . rw [zx];refine List.pairwise_append.2 ⟨hG.st,?_,fun x hx y hy=>?_⟩
       . rcases hD with rfl|rfl
         . exact List.Pairwise.nil
         . exact List.pairwise_singleton _ _
       . obtain ⟨f,hf,e,_⟩:=(hG.mem x).1 hx;rcases hD with rfl|rfl
         . simp at hy
         . simp at hy;subst hy;rw [<-e];exact J f hf
     . rw [zx,zG,hG.mem,W];have e:r∈(D.map fun ρ=>(ρ,St)).map (·.1)↔r∈D:=by simp
       rw [e,d3];constructor
       . rintro (⟨f,hf,h⟩|⟨f,hf,h⟩)
         . exact ⟨f,zG.2 (.inl hf),h⟩
         . exact ⟨f,zG.2 (.inr hf),h⟩
       . rintro ⟨f,hf,h⟩;rcases zG.1 hf with hf|hf
         . exact .inl ⟨f,hf,h⟩
         . exact .inr ⟨f,hf,h⟩
     . rcases zG.1 hg with hg|hg
       . exact hG.ps g hg
       . obtain ⟨ρ,hρ,rfl⟩:=zK.1 hg;rcases hD with rfl|rfl
         . simp at hρ
         . simp at hρ;subst hρ;exact ⟨s2,by rw [rl] at s3;dsimp only;omega⟩
     . rw [z8,za];rcases hD with rfl|rfl<;>simp<;>omega
     . rcases zJ a i with V|V
       . exact hG.bd a b ha hb V (by omega)
       . rw [a3 a ha V ad];exact q b hb Z
    obtain ⟨G',e',aa⟩:=xAe S hS hr hs (c - 1) j _ (by omega) a2 nx
    refine ⟨G',(xal ?_).trans e',aa⟩;have i1:(i:Int)<(S.length:Int):=by omega
    have i2:(j:Int)<=(S.length:Int):=by omega
    have i3:(i:Int)<=(j:Int):=by omega
    have ab:Iter (xdN (S.map encF) (i:Int) (j:Int) (D.map encR)) (G.length,(0:Int),G.map encG)=some ((G++D.map fun ρ=>(ρ,St)).length,(G++D.map fun ρ=>(ρ,St)).map encG):=by
     rcases hD with rfl|rfl
     . refine xad ?_;have z:¬ (0:Int)<(([]:List AV).length:Int):=by simp
       simp only [xdN,xhj,zW,z,zm,xac,zD,sUF]
     . have z0:(0:Int)<(1:Int):=by omega
       have g0:([S[i].r].map encR).getD 0 .top=encR S[i].r:=rfl;have w1:IntKind.i64.wrap ((0:Int)+1)=1:=rfl;refine (xal (s':=((G++[(S[i].r,St)]).length,(1:Int),(G++[(S[i].r,St)]).map encG)) ?_).trans (xad ?_)
       . have l1:(([S[i].r]:List Row).length:Int)=1:=rfl;have z1:(0:Int)<=0:=by omega
         have z2:(0:Nat)<([S[i].r]:List Row).length:=by simp
         have z3:(0:Int).toNat=0:=rfl;simp only [xdN,xhj,sBU,l1,z0,z1,z2,z3,g0,cR0,sR0,i2,i3,tS,s1,m1,m2,w1];simp [encG]
       . have l1:¬ (1:Int)<(([encR S[i].r]:List AV).length:Int):=by simp
         simp only [xdN,xhj,zV,zW,l1,zm,xac,sUF]
    simp only [xdM,xlu,xkl,xkm,xbw,sBU,i1,i2,i3,a5,tS,d1,ab]
theorem xFm (l:List Fc) (h:Few l) (hl:l.length<=262144):∃ G:List Grp,xkk (l.map encF)=some (G.map encG)/\xK6 l (G.map (·.1))/\(∀ g,g∈G->StepI (fun t=>((cnt l g.1 t:Nat):Int)) 1099511627776 g.2/\g.2.length<=2*l.length+1)/\G.length<=l.length:=by
 obtain ⟨S,e1,p1,s1⟩:=xC7 99 l (Nat.le_trans h.1 (Nat.le_trans (show 1048576<=2 ^ 20 by omega) (Nat.pow_le_pow_right (by omega) (by omega)))) h
 have q:=p1.length_eq;obtain ⟨G,e2,hG⟩:=xAe S (by omega) (fun f hf=>h.2 f (p1.mem_iff.1 hf)) s1 S.length 0 [] (by omega) (by omega) ⟨List.Pairwise.nil,fun r=>by simp,fun g hg=>by simp at hg,zd _,fun a b ha hb h1 h2=>by omega⟩
 refine ⟨G,?_,⟨hG.st,fun r=>?_⟩,fun g hg=>?_,by rw [<-q];exact hG.len⟩
 . have e1:xcJ 100 (l.map encF)=some (S.map encF):=e1;have e2:Iter (xdM (S.map encF)) ((0:Nat),(0:Int),[])=_:=e2;have tt:List.take G.length (G.map encG)=G.map encG:=zi (by simp)
   unfold xkk xtP;simp only [xnW,xnX,xnY,xnZ,e1,e2,zk,zh,xab,zH,za,zd,zn,zS,zr,tt,sUF]
 . rw [hG.mem,y7];constructor
   . rintro ⟨f,hf,e⟩;exact ⟨f,p1.mem_iff.1 hf,e⟩
   . rintro ⟨f,hf,e⟩;exact ⟨f,p1.mem_iff.2 hf,e⟩
 . obtain ⟨x1,x2⟩:=hG.ps g hg;have e:(fun t=>((cnt S g.1 t:Nat):Int))=fun t=>((cnt l g.1 t:Nat):Int):=funext fun t=>by rw [xHv p1]
   rw [e] at x1;exact ⟨x1,by omega⟩
theorem xyW (row:Row) (P:List Per) (hP:P.length<=1048576):xhR (row.map encV) (P.map encP)=some ((mk row P).map encF):=by
 have e:=xul row P hP;rw [xLg (fun p:Per=>(⟨row,p⟩:Fc)) P] at e
 have e:Iter (xcs (row.map encV) (P.map encP)) ((0:Nat),(0:Int),[])=some ((mk row P).length,(mk row P).map encF):=e;generalize mk row P=D at e;have tt:List.take D.length (D.map encF)=D.map encF:=zi (by simp)
 unfold xhR xtO;simp only [xnS,xnT,xnU,e,zk,zh,xab,zH,za,zd,zn,zS,zr,tt,sUF]
theorem sG0 (g:Grp):xLN (Sh.list 3) ((encG g).cells.getD 0 .top)=true:=rfl
theorem sG1 (g:Grp):xLN (Sh.list 2) ((encG g).cells.getD 1 .top)=true:=rfl
theorem xLF {n m:Nat} (h:n<=1048576*1024) (hm:m<=1048576):(n+m)*40<=140737488355328/\n+m<=4611686018427387904:=by omega
theorem xHY (G:List Grp) (hG:G.length<=1024) (L:Row->List Per) (hL:∀ g,g∈G->xdJ (g.2.map encP)=some ((L g.1).map encP)/\(L g.1).length<=1048576) :
  Iter (xe7 (G.map encG)) ((0:Nat),(0:Int),[])=some ((xKY (G.map (·.1)) L).length,(xKY (G.map (·.1)) L).map encF):=by
 rw [<-xwI];refine xgX G (fun g=>mk g.1 (L g.1)) encF 1048576 (fun g hg=>by unfold mk;rw [za];exact (hL g hg).2) (fun n h D hD=>?_) (fun D=>?_)
 . have i1:(n:Int)<(G.length:Int):=by omega
   have gf:(G.map encG).getD n .top=encG G[n]:=xaa _ _ _ h;obtain ⟨e1,e2⟩:=hL _ (zo h);have ed:=xyW G[n].1 (L G[n].1) e2;have ml:(mk G[n].1 (L G[n].1)).length<=1048576:=by unfold mk;rw [za];exact e2
   have q:D.length<=1048576*1024:=Nat.le_trans hD (Nat.mul_le_mul_left _ (by omega))
   obtain ⟨m1,m2⟩:=xLF q ml;simp only [xe7,xo6,xjK,sBU,h,i1,gf,cG0,cGs,sG0,sG1,e1,ed,m1,m2,xKU (n:=n) (by omega),z8,zx]
 . simp only [xe7,xo6,za,zy,zm,xac,sUF]
theorem xJ3 (l:List Fc) (r:Row) (t:Int):cnt l r t<=l.length:=List.countP_le_length
theorem xIJ (l:List Fc) (r:Row) (t:Int) (h:t<0\/1099511627776<=t):cnt l r t=0:=by rw [<-xvp];exact xBN _ t h
theorem xI5 (l:List Fc) (h:Few l) (hl:l.length<=1024):∃ B,xvu (l.map encF)=some (B.map encF)/\xK1 l B:=by
 obtain ⟨G,e1,hR,hS,O⟩:=xFm l h (by omega)
 have lv:∀ g,g∈G->∃ P,xdJ (g.2.map encP)=some (P.map encP)/\IsLevs (cnt l g.1) P:=fun g hg=>by
  obtain ⟨s1,s2⟩:=hS g hg;exact xFo (N:=cnt l g.1) (H:=l.length) (by omega) (xJ3 l g.1) (xIJ l g.1) s1 (by omega)
 obtain ⟨L,hL⟩:=xz1 (R:=G.map (·.1)) (Q:=fun r P=>(∀ g,g∈G->g.1=r->xdJ (g.2.map encP)=some (P.map encP))/\IsLevs (cnt l r) P) fun r hr=>by
  obtain ⟨g,hg,rfl⟩:=zK.1 hr;obtain ⟨P,p1,p2⟩:=lv g hg;refine ⟨P,fun g' J e=>?_,p2⟩
  obtain ⟨P',q1,q2⟩:=lv g' J;rw [e] at q2;rw [q1,q2.unique p2]
 have hk:∀ g,g∈G->g.1∈G.map (·.1):=fun g hg=>zK.2 ⟨g,hg,rfl⟩
 have q:∀ g,g∈G->(L g.1).length<=1048576:=fun g hg=>by
  have a:=(hL g.1 (hk g hg)).2;rw [<-xGO] at a;have b:=xCr l g.1;exact Nat.le_trans a.len (Nat.mul_le_mul (Nat.le_trans b hl) (Nat.le_trans b hl))
 have e2:=xHY G (by omega) L fun g hg=>⟨(hL g.1 (hk g hg)).1 g hg rfl,q g hg⟩
 refine ⟨xKY (G.map (·.1)) L,?_,G.map (·.1),L,hR,fun r hr=>(hL r hr).2,rfl⟩
 generalize xKY (G.map (·.1)) L=F at e2;have tt:List.take F.length (F.map encF)=F.map encF:=zi (by simp)
 unfold xvu xwq;simp only [xr0,xr1,xr2,e1,e2,zk,zh,xab,zH,za,zd,zn,zS,zr,tt,sUF]
end Go.Sim.M
end
noncomputable section
set_option maxRecDepth 100000
namespace Go.Sim.M
open Go.RowKit
theorem xDp (p0:List UInt8) (p1 p3 p4:List AV) (key:List Int) (hk:key.length<=1048576) (pl:List Fc) (O:pl.length<=1048576) (K:Row):xi2 p0 p1 (key.map encN) p3 p4 (pl.map encF) (K.map encV)=some ((life key pl K).map encP):=by
 have e:=xpI (step:=xdt (pl.map encF) (K.map encV)) pl (fun y=>if decide (pick y.r key=K)=true then [y.p] else []) (fun n D=>(D.length,(n:Int),p0,p1,key.map encN,p3,p4,D.map encP)) (fun D=>(D.length,D.map encP)) [] 1 (fun y _=>by split<;>simp) (fun n h D hD=>by
  have h1:(n:Int)<(pl.length:Int):=by omega
  rw [List.length_nil] at hD;have m1:(D.length+1)*16<=140737488355328:=by omega
  have m2:D.length+1<=4611686018427387904:=by omega
  have gf:(pl.map encF).getD n .top=encF pl[n]:=xaa _ _ _ h;have q:=xHx p0 p1 p3 p4 key pl[n].r hk;have J:=xrk (pick pl[n].r key) K (by rw [xwY];simp only [maxLen];omega)
  simp only [xdt,xkn,sBU,h,h1,gf,cF0,cF1,cF2,sF0,sF1,sF2,lF,sF12,sF02,q,J,cmp0,m1,m2,xKU (n:=n) (by omega)]
  by_cases hc:pick pl[n].r key=K
  . simp [hc,xab,encP,sUF]
  . simp [hc,xac,sUF]) (fun D=>by
  simp only [xdt,xkn,za,zy,zm,xac,sUF])
 rw [zU,xBT _ (fun y:Fc=>y.p) (fun y=>decide (pick y.r key=K)) (fun _=>rfl)] at e
 have e:Iter (xdt (pl.map encF) (K.map encV)) ((0:Nat),(0:Int),p0,p1,key.map encN,p3,p4,[])=some ((life key pl K).length,(life key pl K).map encP):=e;have tt:List.take (life key pl K).length ((life key pl K).map encP)=(life key pl K).map encP:=zi (by simp)
 unfold xi2 xsE;simp only [xmv,xmw,xmy,xmz,e,za,zk,zh,xab,zH,zd,zn,zS,zr,tt,sUF]
theorem xH0 (p0:List UInt8) (p1 p3 p4:List AV) (key:List Int) (hk:key.length<=1048576) (pl:List Fc) (q:pl.length<=65536) (K:Row):∃ A:List Per,xfK p0 p1 (key.map encN) p3 p4 (pl.map encF) (K.map encV)=some (A.map encP)/\IsSpan A/\(∀ t,inL A t=inL (life key pl K) t)/\A.length<=2*(1+pl.length):=by
 have hl:=xt7 key pl K;obtain ⟨A,e,h1,h2,h3⟩:=xH4 (life key pl K) (by omega)
 refine ⟨A,?_,h1,h2,by omega⟩
 unfold xfK xr4;rw [xDp p0 p1 p3 p4 key hk pl (by omega) K]
 simp only [zk,zh,xab,e,sUF]
theorem xH5 (p0:List UInt8) (p1 p3 p4:List AV) (key:List Int) (hk:key.length<=1048576) (pl:List Fc) (Q:pl.length<=14) (p:Per) (K:Row):∃ A S:List Per,xfK p0 p1 (key.map encN) p3 p4 (pl.map encF) (K.map encV)=some (A.map encP)/\xhB [AV.agg [.int .i64 p.1,.int .i64 p.2]] (A.map encP)=some (S.map encP)/\IsSpan S/\(∀ t,inL S t=(hasP p t&&!inL (life key pl K) t))/\S.length<=2*(2+pl.length):=by
 obtain ⟨A,a1,a2,a3,a4⟩:=xH0 p0 p1 p3 p4 key hk pl (by omega) K
 obtain ⟨S,s1,s2,s3,s4⟩:=xyb [p] A (by simp) (by omega)
 obtain ⟨S',U,O,q,J⟩:=xyb [p] (life key pl K) (by simp) (by have:=xt7 key pl K;omega)
 have he:S=S':=xjd s2 O fun t=>by rw [s3,q,a3]
 have hl:=xt7 key pl K;refine ⟨A,S,a1,s1,s2,fun t=>?_,by rw [he];simp at J;omega⟩
 rw [s3,a3,xij,xeO,Bool.or_false]
theorem xH1 (cols key:List Int) (ft p0:List UInt8) (p1 p3 p4:List AV) (hc:cols.length<=1048576) (hk:key.length<=1048576) (l pl:List Fc) (hl:l.length<=14) (J:pl.length<=14) (hr:∀ f,f∈l->f.r.length<=60) :
  ∃ B M:List Fc,xqG (cols.map encN) ft (l.map encF) p0 p1 (key.map encN) p3 p4 (pl.map encF)=some (B.map encF)/\xK1 M B/\IsMiss cols key l pl M:=by
 have h1:∀ x,x∈l->∃ S:List Per,(xK3 x.r cols=true->S=[])/\(xK3 x.r cols=false->∃ A:List Per,xfK p0 p1 (key.map encN) p3 p4 (pl.map encF) ((pick x.r cols).map encV)=some (A.map encP)/\xhB [AV.agg [.int .i64 x.p.1,.int .i64 x.p.2]] (A.map encP)=some (S.map encP))/\IsSpan S/\(∀ t,inL S t=xKx cols key pl x t)/\S.length<=2*(2+pl.length):=fun x hx=>by
  cases hn:xK3 x.r cols with
  | true=>exact ⟨[],fun _=>rfl,(by simp),xkG,fun t=>by simp [xKx,hn,xeO],by simp⟩
  | false =>
   obtain ⟨A,S,a1,s1,s2,s3,s4⟩:=xH5 p0 p1 p3 p4 key hk pl J x.p (pick x.r cols);exact ⟨S,(by simp),fun _=>⟨A,a1,s1⟩,s2,fun t=>by rw [s3];simp [xKx,hn],s4⟩
 obtain ⟨L,hL⟩:=xv8 h1;have hM:IsMiss cols key l pl (l.flatMap fun x=>mk x.r (L x)):=xAh fun x hx=>(hL x hx).2.2
 have e1:=xpI (step:=xb1 (l.map encF) (pl.map encF)) l (fun x=>mk x.r (L x)) (fun n D=>(D.length,(n:Int),cols.map encN,ft,p0,p1,key.map encN,p3,p4,D.map encF)) (fun D=>(D.length,D.map encF)) [] 32 (fun x hx=>by
  have:=(hL x hx).2.2.2.2;rw [mk,za];omega) (fun n h D hD=>by
  have h1:(n:Int)<(l.length:Int):=by omega
  have gf:(l.map encF).getD n .top=encF l[n]:=xaa _ _ _ h;obtain ⟨s1,s2,s3,s4,s5⟩:=hL l[n] (zo h);rw [List.length_nil,zH] at hD;have Q:=xGV cols ft l[n].r hc;have U:=xAK l[n].r cols hc;cases hn:xK3 l[n].r cols with
  | true =>
   have hm:mk l[n].r (L l[n])=[]:=by rw [s1 hn];rfl
   rw [hm,zD];simp only [xb1,xgD,xd2,xf4,xf5,xc0,xf6,xd3,sBU,h,h1,gf,cF0,cF1,cF2,sF0,sF1,sF2,lF,sF12,sF02,Q,hn,xKU (n:=n) (by omega)]
  | false =>
   obtain ⟨A,a1,a2⟩:=s2 hn;have hd:=xyW l[n].r (L l[n]) (by omega)
   have ml:(mk l[n].r (L l[n])).length<=32:=by rw [mk,za];omega
   have m1:(D.length+(mk l[n].r (L l[n])).length)*40<=140737488355328:=by omega
   have m2:D.length+(mk l[n].r (L l[n])).length<=4611686018427387904:=by omega
   simp only [xb1,xgD,xd2,xf4,xf5,xc0,xf6,xd3,sBU,h,h1,gf,cF0,cF1,cF2,sF0,sF1,sF2,lF,sF12,sF02,Q,hn,U,a1,a2,hd,m1,m2,xKU (n:=n) (by omega),z8,zx]) (fun D=>by
  simp only [xb1,xgD,za,zy,zm,xac,sUF])
 rw [zU] at e1;generalize l.flatMap (fun x=>mk x.r (L x))=M at e1 hM
 have O:=hM.len;have q:M.length<=1024:=Nat.le_trans O (Nat.le_trans (Nat.mul_le_mul (Nat.mul_le_mul_left 2 (Nat.add_le_add_left J 2)) hl) (by decide))
 obtain ⟨B,b1,b2⟩:=xI5 M ⟨by omega,fun f hf=>by
  obtain ⟨x,hx,e⟩:=hM.row f hf;have:=hr x hx;rw [e];omega⟩ q
 refine ⟨B,M,?_,b2,hM⟩;have e1:Iter (xb1 (l.map encF) (pl.map encF)) ((0:Nat),(0:Int),cols.map encN,ft,p0,p1,key.map encN,p3,p4,[])=_:=e1;have tt:List.take M.length (M.map encF)=M.map encF:=zi (by simp)
 unfold xqG xsF;simp only [xmB,xmC,xmD,xmE,xmF,za,e1,b1,zk,zh,xab,zH,zd,zn,zS,zr,tt,sUF]
end Go.Sim.M
end
noncomputable section
set_option maxRecDepth 100000
namespace Go.Sim.M
open Go.RowKit Go.Sim.Srt
theorem xAl:∀ (a b:List Int),(∀ t,a.count t<=b.count t)->a.length<=b.length
 | [],b,_=>by simp
 | x::a,b,h=>by
  have hx:x∈b:=List.count_pos_iff.1 (by have:=h x;rw [List.count_cons_self] at this;omega)
  have ih:=xAl a (b.erase x) fun t=>by
   have:=h t;by_cases e:x=t
   . subst e;rw [List.count_cons_self] at this;rw [List.count_erase_self];omega
   . rw [List.count_cons_of_ne e] at this;rw [List.count_erase_of_ne (fun c=>e c.symm)];exact this
  rw [List.length_erase_of_mem hx] at ih;have:0<b.length:=List.length_pos_iff.2 fun c=>by rw [c] at hx;simp at hx
  rw [zF];omega
theorem xEK (ps:List Per) (t:Int):ps.countP (hasP · t)<=ps.countP (hasP · (t - 1))+(ps.map (·.1)).count t:=by
 induction ps with
 | nil=>simp
 | cons p ps ih =>
  rw [List.countP_cons,List.countP_cons,zV,List.count_cons];have:(if hasP p t=true then 1 else 0)<=(if hasP p (t - 1)=true then 1 else 0)+(if (p.1==t)=true then 1 else 0):=by
   by_cases h1:hasP p t=true
   . obtain ⟨hv,a,b⟩:=xbD.1 h1;by_cases h2:p.1=t
     . have e:(p.1==t)=true:=by simpa using h2
       rw [if_pos h1,if_pos e];omega
     . have:hasP p (t - 1)=true:=xbD.2 ⟨hv,by omega,by omega⟩
       rw [if_pos h1,if_pos this];omega
   . rw [if_neg h1];omega
  omega
theorem xEp (a b:Nat):∀ n:Nat,((List.range n).map fun k=>if a<=k/\k<b then 1 else 0).sum<=min n b - min n a
 | 0=>by simp
 | n+1=>by
  rw [List.range_succ,zx,List.sum_append];have:=xEp a b n;simp only [zV,zW,List.sum_cons,List.sum_nil];split<;>omega
theorem IsLevs.len1 {ps P:List Per} (h:IsLevs (fun t=>ps.countP (hasP · t)) P):P.length<=ps.length:=by
 have:(P.map (·.1)).length<=(ps.map (·.1)).length:=by
  refine xAl _ _ fun t=>?_
  obtain ⟨A,H,h1,h2,h3⟩:=h.lev;have e1:(P.map (·.1)).count t=((List.range H).map fun k=>((A k).map (·.1)).count t).sum:=by
   rw [(h3.map (·.1)).count_eq,List.map_flatMap,List.count_flatMap];rfl
  have e2:∀ n,((List.range n).map fun k=>((A k).map (·.1)).count t).sum<=((List.range n).map fun k=>if ps.countP (hasP · (t - 1))<=k/\k<ps.countP (hasP · t) then 1 else 0).sum:=fun n=>by
   induction n with
   | zero=>simp
   | succ n ih =>
    rw [List.range_succ,zx,zx,List.sum_append,List.sum_append];simp only [zV,zW,List.sum_cons,List.sum_nil];have hn:((A n).map (·.1)).Nodup:=by
     unfold List.Nodup;rw [List.pairwise_map];refine List.Pairwise.imp_of_mem (fun {p q} hp hq h=>?_) (h2 n).1.2
     have:=xbv.1 ((h2 n).1.1 p hp);omega
    have J:((A n).map (·.1)).count t<=1:=List.nodup_iff_count.1 hn t;by_cases ht:t∈(A n).map (·.1)
    . obtain ⟨p,hp,rfl⟩:=zK.1 ht;obtain ⟨a,b,_⟩:=xD5 (N:=fun t=>ps.countP (hasP · t)) (h2 n).1 (h2 n).2 hp
      have hv:=xbv.1 ((h2 n).1.1 p hp);have:=a p.1 (Int.le_refl _) hv.2.1;rw [if_pos ⟨b,this⟩];omega
    . rw [List.count_eq_zero.2 ht];omega
  have e3:=e2 H;have e4:=xEp (ps.countP (hasP · (t - 1))) (ps.countP (hasP · t)) H;have e5:=xEK ps t;have e6:=h1 t;omega
 simpa using this
theorem xyF {L:Row->List Per}:∀ {R:List Row} {l:List Fc},R.Nodup->(∀ r,r∈R->(L r).length<=(psOf l r).length)->(xKY R L).length<=l.length
 | [],l,_,_=>by simp [xKY]
 | r::R,l,hn,h=>by
  obtain ⟨n1,n2⟩:=List.nodup_cons.1 hn;have e:xKY (r::R) L=((L r).map fun p=>(⟨r,p⟩:Fc))++xKY R L:=by simp [xKY]
  let l2:=l.filter fun f=>!decide (f.r=r)
  have J:∀ r',r'∈R->psOf l2 r'=psOf l r':=fun r' q=>by
   have hne:r'≠r:=fun e=>n1 (e▸q)
   unfold psOf;simp only [l2,List.filter_filter];congr 1;refine List.filter_congr fun f _=>?_
   by_cases hf:f.r=r'
   . have:¬ f.r=r:=fun e=>hne (hf▸e)
     simp [hf,hne]
   . simp [hf]
  have ih:=xyF (L:=L) (l:=l2) n2 fun r' q=>by rw [J r' q];exact h r' (by simp [q])
  have h1:=h r (by simp)
  have hl:(psOf l r).length+l2.length<=l.length:=by
   unfold psOf;rw [za];have:=List.length_eq_countP_add_countP (fun f:Fc=>decide (f.r=r)) (l:=l)
   have a1:(l.filter fun f=>decide (f.r=r)&&pv f.p).length<=l.countP fun f=>decide (f.r=r):=by
    rw [<-List.countP_eq_length_filter];exact List.countP_mono_left fun f _ hf=>by simp only [zf] at hf;exact hf.1
   have a2:l2.length=l.countP fun f=>¬ decide (f.r=r)=true:=by
    rw [List.countP_eq_length_filter];simp [l2]
   omega
  rw [e,z8,za];omega
theorem xK1.len1 {l B:List Fc} (h:xK1 l B):B.length<=l.length:=by
 obtain ⟨R,L,h1,h2,rfl⟩:=h;refine xyF (h1.1.nodup xp6) fun r hr=>?_
 have:=h2 r hr;rw [show cnt l r=fun t=>(psOf l r).countP (hasP · t) from funext fun t=>(xvp l r t).symm] at this
 exact this.len1
end Go.Sim.M
end
noncomputable section
set_option maxRecDepth 100000
namespace Go.Sim.M
open Go.RowKit
theorem xID {cols key:List Int} {l pl M B:List Fc} (hl:l.length<=14) (q:pl.length<=14) (hM:IsMiss cols key l pl M) (hB:xK1 M B):B.length<=448:=by
 have h1:=hB.len1;have h2:M.length<=448:=Nat.le_trans hM.len (Nat.le_trans (Nat.mul_le_mul (Nat.mul_le_mul_left 2 (Nat.add_le_add_left q 2)) hl) (by decide))
 omega
theorem IsMiss.bagrow {cols key:List Int} {l pl M B:List Fc} (hM:IsMiss cols key l pl M) (hB:xK1 M B):∀ f,f∈B->∃ x,x∈l/\f.r=x.r:=fun f hf=>by
 obtain ⟨_,g,hg,e⟩:=hB.valid hf;obtain ⟨x,hx,e'⟩:=hM.row g hg;exact ⟨x,hx,by rw [<-e,e']⟩
end Go.Sim.M
end
noncomputable section
set_option maxRecDepth 100000
namespace Go.Sim.M
open Go.RowKit Go.Sim.Srt
theorem xw9 (t:Int) (l:List Fc) (hl:l.length<=1048576):Iter (xel (l.map encF) t) ((0:Nat),(0:Int),[])=some ((l.flatMap (fun (f:Fc)=>if hasP f.p t=true then [f.r] else [])).length,(l.flatMap (fun (f:Fc)=>if hasP f.p t=true then [f.r] else [])).map encR):=by
 refine xgX l (fun (f:Fc)=>if hasP f.p t=true then [f.r] else []) encR 1 (fun f hf=>?_) (fun n h D hD=>?_) (fun D=>?_)
 . cases q:(hasP (f).p t)<;>simp [q]
 . have h1:(n:Int)<(l.length:Int):=by omega
   have m1:(D.length+1)*24<=140737488355328:=by omega
   have m2:D.length+1<=4611686018427387904:=by omega
   have gf:(l.map encF).getD n .top=encF l[n]:=xaa _ _ _ h;simp only [xel,xlx,sBU,h,h1,gf,cF0,cF1,cF2,sF0,sF1,sF2,lF,sF12,sF02,xw0,m1,m2,xKU (n:=n) (by omega)]
   cases q:(hasP (l[n]).p t)<;>simp [encR,xab,xac,encR,q,sUF]
 . simp only [xel,xlx,za,zy,zm,xac,sUF]
theorem xKg (l:List Fc) (t:Int) (h:Few l):∃ r,xmr (l.map encF) t=some (r.map encR)/\r.Perm (atL l t)/\Sorted cmpR r:=by
 obtain ⟨r,e,p,s⟩:=xCD (atL l t) (h.at t);refine ⟨r,?_,p,s⟩;have:=xw9 t l h.1;unfold xmr xuj;simp only [xtd,xte,xtf,xtg,this,sOO,sUF];rw [show (l.flatMap fun f=>if hasP f.p t=true then [f.r] else [])=atL l t from rfl,e]
 simp only [sOO]
theorem xyM {cols key:List Int} {pl:List Fc} {x:Fc} {t:Int} (h:xKx cols key pl x t=true):hasP x.p t=true:=by
 unfold xKx at h;simp only [zf] at h;exact h.2.1
theorem xDJ {t:Int}:∀ {l:List Fc},(∀ x,x∈l->hasP x.p t=true)->(atL l t).length=l.length
 | [],_=>rfl
 | x::l,h=>by
  have ih:=xDJ (l:=l) fun y hy=>h y (by simp [hy])
  unfold atL at ih |-;rw [zR,z8,ih,if_pos (h x (by simp))]
  simp;omega
theorem xHL {cols key:List Int} {l pl M B:List Fc} (hM:IsMiss cols key l pl M) (hB:xK1 M B) (t:Int):(atL B t).length=l.countP fun x=>xKx cols key pl x t:=by
 have h1:∀ r,cnt B r t=cnt (l.filter fun x=>xKx cols key pl x t) r t:=fun r=>by
  rw [hB.cntB,hM.cnt,missC,cnt,List.countP_filter];refine List.countP_congr fun x _=>?_
  cases hm:xKx cols key pl x t with
  | false=>simp
  | true=>simp [xyM hm]
 rw [(xHn h1).length_eq,xDJ (fun x hx=>xyM (List.mem_filter.1 hx).2),List.countP_eq_length_filter]
theorem xD6 {key:List Int} {pl:List Fc} {K:Row} {t:Int}:inL (life key pl K) t=true↔∃ y,y∈pl/\pick y.r key=K/\hasP y.p t=true:=by
 unfold inL life;rw [List.any_eq_true];constructor
 . rintro ⟨p,hp,h⟩;obtain ⟨y,hy,rfl⟩:=zK.1 hp;obtain ⟨h1,h2⟩:=List.mem_filter.1 hy;exact ⟨y,h1,by simpa using h2,h⟩
 . rintro ⟨y,h1,h2,h3⟩;exact ⟨y.p,zK.2 ⟨y,List.mem_filter.2 ⟨h1,by simpa using h2⟩,rfl⟩,h3⟩
theorem xDg {cols key:List Int} {pl q:List Fc} (h:∀ y,y∈pl->y∈q) {x:Fc} {t:Int} (hm:xKx cols key q x t=true):xKx cols key pl x t=true:=by
 unfold xKx at hm |-;simp only [zf,Bool.not_eq_true'] at hm |-;refine ⟨hm.1,hm.2.1,?_⟩;cases hi:inL (life key pl (pick x.r cols)) t with
 | false=>rfl
 | true =>
  obtain ⟨y,y1,y2,y3⟩:=xD6.1 hi;have:inL (life key q (pick x.r cols)) t=true:=xD6.2 ⟨y,h y y1,y2,y3⟩;rw [this] at hm;exact absurd hm.2.2 (by simp)
theorem xEL (cols key:List Int) (l pl:List Fc) (n:Nat) (t:Int):(l.take n).countP (fun x=>xKx cols key pl x t)<=l.countP fun x=>xKx cols key pl x t:=(List.take_sublist n l).countP_le
theorem xEI (cols key:List Int) (l pl:List Fc) (n:Nat) (t:Int):(l.countP fun x=>xKx cols key pl x t)<=l.countP fun x=>xKx cols key (pl.take n) x t:=List.countP_mono_left fun x _ hm=>xDg (fun y hy=>List.mem_of_mem_take hy) hm
end Go.Sim.M
end
noncomputable section
set_option maxRecDepth 100000
namespace Go.Sim.M
open Go.RowKit
def Stp {σ ρ:Type} (I:σ->Prop) (Q:ρ->Prop) (X:Option (σ⊕ρ)):Prop:=(∃ s,X=some (.inl s)/\I s)\/∃ r,X=some (.inr r)/\Q r
theorem Stp.br {σ ρ:Type} {I:σ->Prop} {Q:ρ->Prop} {c:Bool} {a b:Option (σ⊕ρ)} (h1:c=true->Stp I Q a) (h2:c=false->Stp I Q b):Stp I Q (br c a b):=by
 cases c with
 | true=>exact h1 rfl
 | false=>exact h2 rfl
theorem Stp.inl {σ ρ:Type} {I:σ->Prop} {Q:ρ->Prop} {s:σ} (h:I s):Stp I Q (some (.inl s):Option (σ⊕ρ)):=Or.inl ⟨s,rfl,h⟩
theorem Stp.inr {σ ρ:Type} {I:σ->Prop} {Q:ρ->Prop} {r:ρ} (h:Q r):Stp I Q (some (.inr r):Option (σ⊕ρ)):=Or.inr ⟨r,rfl,h⟩
def Ans {α:Type} (Q:α->Prop) (X:Option α):Prop:=∃ r,X=some r/\Q r
theorem Ans.br {α:Type} {Q:α->Prop} {c:Bool} {a b:Option α} (h1:c=true->Ans Q a) (h2:c=false->Ans Q b):Ans Q (br c a b):=by
 cases c with
 | true=>exact h1 rfl
 | false=>exact h2 rfl
theorem Ans.some {α:Type} {Q:α->Prop} {r:α} (h:Q r):Ans Q (some r):=⟨r,rfl,h⟩
theorem Ans.mono {α:Type} {Q Q':α->Prop} {X:Option α} (h:Ans Q X) (hq:∀ r,Q r->Q' r):Ans Q' X:=⟨h.choose,h.choose_spec.1,hq _ h.choose_spec.2⟩
theorem xaY {σ ρ:Type} {step:σ->Option (σ⊕ρ)} (I:Nat->σ->Prop) (N:Nat) (Q:ρ->Prop) (hs:∀ k s,k<N->I k s->Stp (I (k+1)) Q (step s))
  (he:∀ s,I N s->Stp (fun _=>False) Q (step s)):∀ (d k:Nat) (s:σ),k+d=N->I k s->Ans Q (Iter step s)
 | 0,k,s,h,hp=>by
  obtain rfl:k=N:=by omega
  rcases he s hp with ⟨_,_,h⟩|⟨r,e,hq⟩
  . exact absurd h id
  . exact ⟨r,xad e,hq⟩
 | d+1,k,s,h,hp=>by
  rcases hs k s (by omega) hp with ⟨s',e,q⟩|⟨r,e,hq⟩
  . obtain ⟨x,ex,hx⟩:=xaY I N Q hs he d (k+1) s' (by omega) q
    exact ⟨x,(xal e).trans ex,hx⟩
  . exact ⟨r,xad e,hq⟩
theorem xAx (s:List UInt8) (hs:s.length<=16777216):Ans (fun _=>True) (xjE s):=by
 obtain ⟨r,e,_⟩:=xaY (step:=xaZ s) (fun k i=>i=(k:Int)) s.length (fun _=>True) (fun k i hk hi=>by
  subst hi;have h1:(k:Int)<(s.length:Int):=by omega
  simp only [xaZ,xfo,sBU,h1,hk,xKU (n:=k) (by omega)]
  repeat' (first|exact Stp.inl rfl|exact Stp.inr trivial|refine Stp.br (fun _=>?_) (fun _=>?_))) (fun i hi=>by
  subst hi;simp only [xaZ,xfo,zy,zm,xac,sUF];exact Stp.inr trivial) s.length 0 (0:Int) (by omega) rfl
 unfold xjE xle;simp only [e,zk,zh,xab,sUF];repeat' (first|exact Ans.some trivial|refine Ans.br (fun _=>?_) (fun _=>?_))
theorem xzj (k i:Int) (s:List UInt8) (hs:s.length<=16777216):Ans (fun _=>True) (xlE k i s):=by
 obtain ⟨r,e,_⟩:=xAx s hs;unfold xlE xqc;simp only [e,zk,zh,xab,sUF];repeat' (first|exact Ans.some trivial|refine Ans.br (fun _=>?_) (fun _=>?_))
theorem xEV (op i vk vi:Int) (vt nm:List UInt8) (args:List AV) (ht:vt.length<=16777216):Ans (fun b=>b=true->op=22->1<=args.length) (xnE op i vk vi vt nm args):=by
 obtain ⟨r,e,_⟩:=xzj vk vi vt ht;unfold xnE xoP;simp only [e,zk,zh,xab,sUF];refine Ans.br (fun _=>Ans.some (by simp)) (fun _=>Ans.br (fun _=>Ans.some (by simp)) (fun h=>?_))
 have hh:op=22->1<=args.length:=fun ho=>by
  subst ho;have ha:(xjc 22).fst=3:=by rfl
  rw [ha] at h;simp only [decide_eq_false_iff_not] at h;omega
 repeat' (first|exact Ans.some (fun _=>hh)|refine Ans.br (fun _=>?_) (fun _=>?_))
theorem xvO (ks:List Int) (q:Int) (hk:ks.length<=16777216):Ans (fun _=>True) (xcI (ks.map encN) q):=by
 obtain ⟨r,e,_⟩:=xaY (step:=xcD (ks.map encN) q) (fun k i=>i=(k:Int)) ks.length (fun _=>True) (fun k i J hi=>by
  subst hi;have h1:(k:Int)<(ks.length:Int):=by omega
  have gf:(ks.map encN).getD k .top=encN ks[k]:=xaa _ _ _ J;simp only [xcD,xkU,sBU,h1,J,gf,cN,sN,xKU (n:=k) (by omega)]
  repeat' (first|exact Stp.inl rfl|exact Stp.inr trivial|refine Stp.br (fun _=>?_) (fun _=>?_))) (fun i hi=>by
  subst hi;simp only [xcD,xkU,za,zy,zm,xac,sUF];exact Stp.inr trivial) ks.length 0 (0:Int) (by omega) rfl
 unfold xcI xs8;simp only [e,zk,zh,xab,sUF];repeat' (first|exact Ans.some trivial|refine Ans.br (fun _=>?_) (fun _=>?_))
theorem xB4 (ks:List Int) (hk:ks.length<=16777216):Ans (fun _=>True) (xdK (ks.map encN)):=by
 obtain ⟨r,e,_⟩:=xaY (step:=xdm (ks.map encN)) (fun k s=>s.2=(k:Int)) ks.length (fun _=>True) (fun k s q hi=>by
  obtain ⟨a,i⟩:=s;dsimp only at hi;subst hi;have h1:(k:Int)<(ks.length:Int):=by omega
  have gf:(ks.map encN).getD k .top=encN ks[k]:=xaa _ _ _ q;simp only [xdm,xjG,xhf,xiz,xiA,sBU,h1,q,gf,cN,sN,xKU (n:=k) (by omega)]
  repeat' (first|exact Stp.inl rfl|exact Stp.inr trivial|refine Stp.br (fun _=>?_) (fun _=>?_))) (fun s hi=>by
  obtain ⟨a,i⟩:=s;dsimp only at hi;subst hi;simp only [xdm,xjG,xhf,za,zy,zm,xac,sUF];exact Stp.inr trivial) ks.length 0 ((0:Int),(0:Int)) (by omega) rfl
 unfold xdK xrQ;simp only [xqh,xqi,xqj,e,zk,zh,xab,sUF];repeat' (first|exact Ans.some trivial|refine Ans.br (fun _=>?_) (fun _=>?_))
theorem xFl (op i vk vi:Int) (vt nm:List UInt8) (args:List AV) (ks kn:List Int) (hk:ks.length<=16777216) (h2:op=2->0<=i/\i<(kn.length:Int)) (q:op=22->1<=ks.length):Ans (fun _=>True) (xhQ op i vk vi vt nm args (ks.map encN) (kn.map encN)):=by
 obtain ⟨r1,e1,_⟩:=xvO ks 1 hk;obtain ⟨r2,e2,_⟩:=xvO ks 2 hk;obtain ⟨r3,e3,_⟩:=xvO ks 3 hk;obtain ⟨r4,e4,_⟩:=xB4 ks hk;obtain ⟨r5,e5,_⟩:=xB4 ((ks.drop 1).take (ks.length - 1)) (by rw [zt];omega)
 obtain ⟨r6,e6,_⟩:=xvO (ks.take 1) 3 (by rw [zt];omega)
 rw [List.map_take,List.map_drop] at e5;rw [List.map_take] at e6;unfold xhQ xo0 xda xdb xiB;simp only [za,e1,e2,e3,e4,e5,e6,zr,zk,zh,xab,sUF];refine Ans.br (fun _=>Ans.some trivial) (fun _=>Ans.br (fun h=>?_) (fun _=>?_))
 . obtain ⟨a,b⟩:=h2 (by simpa using h)
   have c:i.toNat<kn.length:=by omega
   have gf:(kn.map encN).getD i.toNat .top=encN kn[i.toNat]:=xaa _ _ _ c;simp only [a,b,c,gf,cN,sN,zn,zS,xab,sUF];exact Ans.some trivial
 . by_cases h:op=22
   . have:=q h;have c:(1:Int)<=(ks.length:Int):=by omega
     simp only [c,zn,zS,xab,sUF];repeat' (first|exact Ans.some trivial|refine Ans.br (fun _=>?_) (fun _=>?_))
   . have hb:(op==22)=false:=by simpa using h
     simp only [hb,xac,sUF];repeat' (first|exact Ans.some trivial|refine Ans.br (fun _=>?_) (fun _=>?_))
theorem xLn (xs:List AV):(AV.agg xs).cells=xs:=rfl
theorem shE (op i vk vi:Int) (vt nm:List UInt8) (args:List AV):xLU [Sh.int IntKind.i64,Sh.int IntKind.i64,Sh.int IntKind.i64,Sh.int IntKind.i64,Sh.str,Sh.str,Sh.list 7] [AV.int .i64 op,.int .i64 i,.int .i64 vk,.int .i64 vi,.str vt,.str nm,.list 7 args] 0=true:=rfl
theorem cE0 (a b c d e f g:AV):[a,b,c,d,e,f,g].getD 0 .top=a:=rfl
theorem cE1 (a b c d e f g:AV):[a,b,c,d,e,f,g].getD 1 .top=b:=rfl
theorem cE2 (a b c d e f g:AV):[a,b,c,d,e,f,g].getD 2 .top=c:=rfl
theorem cE3 (a b c d e f g:AV):[a,b,c,d,e,f,g].getD 3 .top=d:=rfl
theorem cE4 (a b c d e f g:AV):[a,b,c,d,e,f,g].getD 4 .top=e:=rfl
theorem cE5 (a b c d e f g:AV):[a,b,c,d,e,f,g].getD 5 .top=f:=rfl
theorem cE6 (a b c d e f g:AV):[a,b,c,d,e,f,g].getD 6 .top=g:=rfl
theorem lE (a b c d e f g:AV):([a,b,c,d,e,f,g].length==7)=true:=rfl
theorem toIE (n:Int):(AV.int .i64 n).toInt=n:=rfl
theorem toSE (n:List UInt8):(AV.str n).toStr=n:=rfl
theorem toLE (k:Nat) (n:List AV):(AV.list k n).toList=n:=rfl
theorem xz4:∀ (n:Nat) (op i vk vi:Int) (vt nm:List UInt8) (args:List AV),args.length<=16777216->(∀ x,x∈args->IsEx x)->AV.dps args<n->Ans (fun _=>True) (xc7 n op i vk vi vt nm args)
 | 0,op,i,vk,vi,vt,nm,args,hl,h,hd=>absurd hd (Nat.not_lt_zero _)
 | n+1,op,i,vk,vi,vt,nm,args,hl,h,hd=>by
  obtain ⟨r,e,_⟩:=xaY (step:=xbf (xc7 n)) (fun k s=>∃ m:Int,s=(m,(k:Int),op,i,vk,vi,vt,nm,args)) args.length (fun _=>True) (fun k s hk hi=>by
   obtain ⟨m,rfl⟩:=hi;have h1:(k:Int)<(args.length:Int):=by omega
   have hx:=h args[k] (zo hk);have hp:=xzw (zo hk);have gf:args.getD k .top=args[k]:=by rw [z7,ze hk];rfl
   obtain ⟨O,i',U,Q,q,J,ar,ex,l',t',h'⟩:=hx.get;rw [ex] at gf hp;simp only [AV.dp,AV.dps] at hp;obtain ⟨r',e',_⟩:=xz4 n O i' U Q q J ar l' h' (by omega)
   simp only [xbf,xfW,xlq,xlr,sBU,h1,hk,gf,xLn,shE,cE0,cE1,cE2,cE3,cE4,cE5,cE6,lE,toIE,toSE,toLE,e',xKU (n:=k) (by omega)]
   exact Stp.inl ⟨_,rfl⟩) (fun s hi=>by
   obtain ⟨m,rfl⟩:=hi;simp only [xbf,xfW,zy,zm,xac,sUF];exact Stp.inr trivial) args.length 0 ((0:Int),(0:Int),op,i,vk,vi,vt,nm,args) (by omega) ⟨0,rfl⟩
  show Ans _ (xgx (xc7 n) op i vk vi vt nm args);unfold xgx xlY;simp only [xox,e,zk,zh,xab,sUF];exact Ans.some trivial
theorem xz0 (kn:List Int):∀ (n:Nat) (op i vk vi:Int) (vt nm:List UInt8) (args:List AV),args.length<=16777216->vt.length<=16777216->(∀ x,x∈args->IsEx x)->AV.dps args<n->Ans (fun _=>True) (xc6 n op i vk vi vt nm args (kn.map encN))
 | 0,op,i,vk,vi,vt,nm,args,hl,ht,h,hd=>absurd hd (Nat.not_lt_zero _)
 | n+1,op,i,vk,vi,vt,nm,args,hl,ht,h,hd=>by
  obtain ⟨b,fe,fq⟩:=xEV op i vk vi vt nm args ht;obtain ⟨r,e,hq⟩:=xaY (step:=xbe (xc6 n) (kn.map encN)) (fun k s=>∃ ks:List Int,ks.length=k/\s=(ks.length,(k:Int),op,i,vk,vi,vt,nm,args,ks.map encN)) args.length (fun r=>r.1=false->∃ ks:List Int,ks.length=args.length/\r.2.2=(ks.length,op,i,vk,vi,vt,nm,args,ks.map encN)) (fun k s hk hi=>by
   obtain ⟨ks,q,rfl⟩:=hi;have h1:(k:Int)<(args.length:Int):=by omega
   have hx:=h args[k] (zo hk);have hp:=xzw (zo hk);have gf:args.getD k .top=args[k]:=by rw [z7,ze hk];rfl
   obtain ⟨U,i',W,V,O,Q,ar,ex,l',t',h'⟩:=hx.get;rw [ex] at gf hp;simp only [AV.dp,AV.dps] at hp;have m1:(ks.length+1)*8<=140737488355328:=by omega
   have m2:ks.length+1<=4611686018427387904:=by omega
   obtain ⟨⟨r1,r2⟩,e',_⟩:=xz0 kn n U i' W V O Q ar l' t' h' (by omega)
   simp only [xbe,xfV,xll,xlm,xln,sBU,h1,hk,gf,xLn,shE,cE0,cE1,cE2,cE3,cE4,cE5,cE6,lE,toIE,toSE,toLE,e',m1,m2,xKU (n:=k) (by omega)]
   refine Stp.br (fun _=>Stp.inr (by simp)) (fun _=>Stp.inl ⟨ks++[r1],by simp [q],?_⟩)
   simp [encN]) (fun s hi=>by
   obtain ⟨ks,q,rfl⟩:=hi;simp only [xbe,xfV,zy,zm,xac,sUF];exact Stp.inr fun _=>⟨ks,q,rfl⟩) args.length 0 ((0:Nat),(0:Int),op,i,vk,vi,vt,nm,args,[]) (by omega) ⟨[],rfl,rfl⟩
  obtain ⟨r1,r2,r3⟩:=r;show Ans _ (xfw (xc6 n) op i vk vi vt nm args (kn.map encN));unfold xfw xlX xjH;simp only [xoQ,xoR,xoS,xoT,xoU,xoV,xoW,xoX,xoY,xoZ,xnF,xnG,xnH,xnI,xnJ,xnK,e,fe,za,zk,zh,xab,sUF];cases b with
  | false=>simp only [Bool.not_false,xab,sUF];repeat' (first|exact Ans.some trivial|refine Ans.br (fun _=>?_) (fun _=>?_))
  | true =>
   have J:∀ r1:Bool,(r1=false->∃ ks:List Int,ks.length=args.length/\r3=(ks.length,op,i,vk,vi,vt,nm,args,ks.map encN))->(op=2->0<=i/\i<(kn.length:Int))->∀ x:Int×Int,Ans (fun _=>True) (br r1 (some x) (br (decide (r3.1<=r3.2.2.2.2.2.2.2.2.length)&&true) (br ((xhQ r3.2.1 r3.2.2.1 r3.2.2.2.1 r3.2.2.2.2.1 r3.2.2.2.2.2.1 r3.2.2.2.2.2.2.1 r3.2.2.2.2.2.2.2.1 (List.take r3.1 (List.drop 0 r3.2.2.2.2.2.2.2.2)) (kn.map encN)).isSome) (br (!((xhQ r3.2.1 r3.2.2.1 r3.2.2.2.1 r3.2.2.2.2.1 r3.2.2.2.2.2.1 r3.2.2.2.2.2.2.1 r3.2.2.2.2.2.2.2.1 (List.take r3.1 (List.drop 0 r3.2.2.2.2.2.2.2.2)) (kn.map encN)).getD ((0:Int),false)).2) (some ((0:Int),(7:Int))) (some (((xhQ r3.2.1 r3.2.2.1 r3.2.2.2.1 r3.2.2.2.2.1 r3.2.2.2.2.2.1 r3.2.2.2.2.2.2.1 r3.2.2.2.2.2.2.2.1 (List.take r3.1 (List.drop 0 r3.2.2.2.2.2.2.2.2)) (kn.map encN)).getD ((0:Int),false)).1,(0:Int)))) none) none)):=fun r1 hr h2 x=>by
    cases r1 with
    | true=>exact Ans.some trivial
    | false =>
     obtain ⟨ks,q,rfl⟩:=hr rfl;obtain ⟨y,ye,_⟩:=xFl op i vk vi vt nm args ks kn (by omega) h2 (fun ho=>by rw [q];exact fq rfl ho)
     have tt:List.take ks.length (ks.map encN)=ks.map encN:=zi (by simp)
     simp only [xac,za,zd,zn,zS,xab,zr,tt,ye,zk,zh,sUF];repeat' (first|exact Ans.some trivial|refine Ans.br (fun _=>?_) (fun _=>?_))
   simp only [Bool.not_true,xac,zH,sUF];refine Ans.br (fun _=>Ans.some trivial) (fun _=>Ans.br (fun ho=>?_) (fun ho=>?_))
   . refine Ans.br (fun _=>Ans.some trivial) (fun a1=>Ans.br (fun _=>Ans.some trivial) (fun a2=>?_))
     simp only [decide_eq_false_iff_not] at a1 a2;exact J r1 hq (fun _=>⟨by omega,by omega⟩) _
   . exact J r1 hq (fun h=>by simp [h] at ho) _
theorem xEN (kn:List Int) (op i vk vi:Int) (vt nm:List UInt8) (args:List AV) (hl:args.length<=16777216) (ht:vt.length<=16777216) (h:∀ x,x∈args->IsEx x):Ans (fun _=>True) (xs7 op i vk vi vt nm args (kn.map encN)):=by
 obtain ⟨d,de,_⟩:=xz4 (AV.dps args+1) op i vk vi vt nm args hl h (Nat.lt_succ_self _);obtain ⟨c,ce,_⟩:=xz0 kn (AV.dps args+1) op i vk vi vt nm args hl ht h (Nat.lt_succ_self _);have h1:(xi0 op i vk vi vt nm args).isSome=true:=xwg (R:=fun n=>xc7 n op i vk vi vt nm args) (by rw [de];rfl)
 have h2:(xgg op i vk vi vt nm args (kn.map encN)).isSome=true:=xwg (R:=fun n=>xc6 n op i vk vi vt nm args (kn.map encN)) (by rw [ce];rfl)
 unfold xs7 xqg;rw [h1,h2];simp only [xab,sUF];repeat' (first|exact Ans.some trivial|refine Ans.br (fun _=>?_) (fun _=>?_))
def xLo:AV->Bool
 | .str _=>true
 | _=>false
theorem xEX {x:AV} (h:xLo x=true):∃ s,x=.str s:=by
 cases x<;>first|exact ⟨_,rfl⟩|(simp [xLo] at h)
theorem xLL (s:List UInt8):xLN .str ((AV.str s).cells.getD 0 .top)=true:=rfl
theorem cStr (s:List UInt8):((AV.str s).cells.getD 0 .top).toStr=s:=rfl
theorem xJ8 (l:List AV) (s:List UInt8) (hl:l.length<=16777216) (h:l.all xLo=true):Ans (fun _=>True) (xw8 l s):=by
 obtain ⟨r,e,_⟩:=xaY (step:=xdc l s) (fun k i=>i=(k:Int)) l.length (fun _=>True) (fun k i hk hi=>by
  subst hi;have h1:(k:Int)<(l.length:Int):=by omega
  obtain ⟨x,hx⟩:=xEX (zI.1 h l[k] (zo hk));have gf:l.getD k .top=.str x:=by rw [z7,ze hk,<-hx];rfl
  simp only [xdc,xlZ,sBU,h1,hk,gf,xLL,cStr,xKU (n:=k) (by omega)]
  repeat' (first|exact Stp.inl rfl|exact Stp.inr trivial|refine Stp.br (fun _=>?_) (fun _=>?_))) (fun i hi=>by
  subst hi;simp only [xdc,xlZ,zy,zm,xac,sUF];exact Stp.inr trivial) l.length 0 (0:Int) (by omega) rfl
 unfold xw8 xui;simp only [e,zk,zh,xab,sUF];repeat' (first|exact Ans.some trivial|refine Ans.br (fun _=>?_) (fun _=>?_))
theorem xwV (s:List UInt8) (hs:s.length<=16777216):Ans (fun _=>True) (xgA s):=by
 obtain ⟨r,e,_⟩:=xaY (step:=xcg s) (fun k i=>i=(k:Int)) s.length (fun _=>True) (fun k i hk hi=>by
  subst hi;have h1:(k:Int)<(s.length:Int):=by omega
  simp only [xcg,xjJ,xhg,xhh,sBU,h1,hk,xKU (n:=k) (by omega)]
  repeat' (first|exact Stp.inl rfl|exact Stp.inr trivial|refine Stp.br (fun _=>?_) (fun _=>?_))) (fun i hi=>by
  subst hi;simp only [xcg,xjJ,xhg,xhh,zy,zm,xac,sUF];exact Stp.inr trivial) s.length 0 (0:Int) (by omega) rfl
 obtain ⟨r2,e2,_⟩:Ans (fun _=>True) (xqo s):=xJ8 _ s (by decide) (by rfl)
 unfold xgA xrY xo5;simp only [e,e2,zk,zh,xab,sUF];cases s with
 | nil=>exact Ans.some trivial
 | cons c t =>
  have h0:(0:Int)<(((c::t).length:Nat):Int):=by rw [zF];omega
  simp only [h0,zn,xab,sUF];repeat' (first|exact Ans.some trivial|refine Ans.br (fun _=>?_) (fun _=>?_))
theorem xt4 (t:Tab) (hc:t.cols.length<=16777216):xes t.n (t.cols.map xKR) (t.key.map encN) (t.fos.map xKS) t.chk=some ((t.cols.map (·.k)).map encN):=by
 have e:=xpI (step:=xcx) t.cols (fun c=>[c.k]) (fun n D=>(D.length,(n:Int),t.n,t.cols.map xKR,t.key.map encN,t.fos.map xKS,t.chk,D.map encN)) (fun D=>(D.length,D.map encN)) [] 1 (fun _ _=>by simp) (fun n h D hD=>by
  have h1:(n:Int)<(t.cols.length:Int):=by omega
  rw [List.length_nil] at hD;have m1:(D.length+1)*8<=140737488355328:=by omega
  have m2:D.length+1<=4611686018427387904:=by omega
  have gf:(t.cols.map xKR).getD n .top=xKR t.cols[n]:=xaa _ _ _ h;simp only [xcx,xiC,sBU,h,h1,gf,cK1,shI,AV.toInt,m1,m2,xKU (n:=n) (by omega)]
  simp [encN]) (fun D=>by
  simp only [xcx,xiC,za,zy,zm,xac,sUF])
 rw [zU,xLg] at e;have e:Iter xcx ((0:Nat),(0:Int),t.n,t.cols.map xKR,t.key.map encN,t.fos.map xKS,t.chk,[])=some ((t.cols.map (·.k)).length,(t.cols.map (·.k)).map encN):=e;have tt:List.take (t.cols.map (·.k)).length ((t.cols.map (·.k)).map encN)=(t.cols.map (·.k)).map encN:=zi (by simp)
 unfold xes xqn;simp only [xo1,xo2,xo3,xo4,e,zk,zh,xab,zH,zr,sUF];rw [tt];simp [xab,sUF]
theorem xHE (t:Tab) (s:List UInt8) (hc:t.cols.length<=16777216):Ans (fun _=>True) (xrc t.n (t.cols.map xKR) (t.key.map encN) (t.fos.map xKS) t.chk s):=by
 obtain ⟨r,e,_⟩:=xaY (step:=xdp s) (fun k x=>x=((k:Int),t.n,t.cols.map xKR,t.key.map encN,t.fos.map xKS,t.chk)) t.cols.length (fun _=>True) (fun k i hk hi=>by
  subst hi;have h1:(k:Int)<(t.cols.length:Int):=by omega
  have gf:(t.cols.map xKR).getD k .top=xKR t.cols[k]:=xaa _ _ _ hk;simp only [xdp,xjI,sBU,h1,hk,gf,cK0,shS,AV.toStr,xKU (n:=k) (by omega)]
  repeat' (first|exact Stp.inl rfl|exact Stp.inr trivial|refine Stp.br (fun _=>?_) (fun _=>?_))) (fun i hi=>by
  subst hi;simp only [xdp,xjI,za,zy,zm,xac,sUF];exact Stp.inr trivial) t.cols.length 0 _ (by omega) rfl
 have e:Iter (xdp s) ((0:Int),t.n,t.cols.map xKR,t.key.map encN,t.fos.map xKS,t.chk)=some r:=e;unfold xrc xrW;simp only [xql,xqm,e,zk,zh,xab,sUF];repeat' (first|exact Ans.some trivial|refine Ans.br (fun _=>?_) (fun _=>?_))
structure Tab.Ok (t:Tab):Prop where
 n:t.n.length<=16777216
 cols:t.cols.length<=16777216
 key:t.key.length<=1048576
 fos:t.fos.length<=16777216
 chk:t.chk.length<=16777216
 cn:∀ c,c∈t.cols->c.n.length<=16777216
 fc:∀ f,f∈t.fos->f.cols.length<=1048576/\f.t.length<=16777216
 ex:∀ x,x∈t.chk->IsEx x
theorem xC2 (t:Tab) (h:t.Ok):Ans (fun _=>True) (xgh t.n (t.cols.map xKR) (t.key.map encN) (t.fos.map xKS) t.chk):=by
 have q:=h.cols;obtain ⟨r,e,_⟩:=xaY (step:=xbx) (fun k x=>x=((k:Int),t.n,t.cols.map xKR,t.key.map encN,t.fos.map xKS,t.chk)) t.cols.length (fun _=>True) (fun k i hk hi=>by
  subst hi;have h1:(k:Int)<(t.cols.length:Int):=by omega
  have gf:(t.cols.map xKR).getD k .top=xKR t.cols[k]:=xaa _ _ _ hk;obtain ⟨a,ae,_⟩:=xwV t.cols[k].n (h.cn _ (zo hk));obtain ⟨b,be,_⟩:=xHE t t.cols[k].n h.cols;simp only [xbx,xgB,sBU,h1,hk,gf,cK0,cK1,lK,sK,AV.toStr,AV.toInt,ae,be,xKU (n:=k) (by omega)]
  repeat' (first|exact Stp.inl rfl|exact Stp.inr trivial|refine Stp.br (fun _=>?_) (fun _=>?_))) (fun i hi=>by
  subst hi;simp only [xbx,xgB,za,zy,zm,xac,sUF];exact Stp.inr trivial) t.cols.length 0 _ (by omega) rfl
 have e:Iter xbx ((0:Int),t.n,t.cols.map xKR,t.key.map encN,t.fos.map xKS,t.chk)=some r:=e;unfold xgh xnL;simp only [xmn,xmo,e,zk,zh,xab,sUF];repeat' (first|exact Ans.some trivial|refine Ans.br (fun _=>?_) (fun _=>?_))
def InC (t:Tab) (x:Int):Prop:=0<=x/\x<(t.cols.length:Int)
theorem xpG (t:Tab) (x:Int):xkj t.n (t.cols.map xKR) (t.key.map encN) (t.fos.map xKS) t.chk x=(decide (0<=x)&&decide (x<(t.cols.length:Int))):=by
 unfold xkj;rw [za];by_cases h:0<=x
 . have:x>=0:=h;simp [br,h,this]
 . have:¬ x>=0:=h;simp [br,h,this]
theorem xz7 {t:Tab} {x:Int} (h:(decide (0<=x)&&decide (x<(t.cols.length:Int)))=true):InC t x:=by
 simp only [zf,zl] at h;exact h
theorem xIO (t:Tab) (h:t.Ok):Ans (fun c=>c=0->∀ x,x∈t.key->InC t x) (xpS t.n (t.cols.map xKR) (t.key.map encN) (t.fos.map xKS) t.chk):=by
 have Q:=h.key;obtain ⟨r,e,hr⟩:=xaY (step:=xbM) (fun k x=>x=((k:Int),t.n,t.cols.map xKR,t.key.map encN,t.fos.map xKS,t.chk)/\∀ j (hj:j<t.key.length),j<k->InC t t.key[j]) t.key.length (fun r=>(r.1=true->r.2.1≠0)/\(r.1=false->∀ x,x∈t.key->InC t x)) (fun k i hk hi=>by
  obtain ⟨rfl,hp⟩:=hi;have h1:(k:Int)<(t.key.length:Int):=by omega
  have gf:(t.key.map encN).getD k .top=encN t.key[k]:=xaa _ _ _ hk;cases hx:(decide (0<=t.key[k])&&decide (t.key[k]<(t.cols.length:Int))) with
  | false =>
   simp only [xbM,xfJ,xek,xeQ,xeR,xbp,sBU,h1,hk,gf,cN,sN,xpG,hx];exact Stp.inr ⟨fun _=>by simp,fun h=>by simp at h⟩
  | true =>
   have q:=xz7 hx;have c:t.key[k].toNat<t.cols.length:=by have:=q.1;have:=q.2;omega
   have gc:(t.cols.map xKR).getD t.key[k].toNat .top=xKR t.cols[t.key[k].toNat]:=xaa _ _ _ c;have hp':∀ j (hj:j<t.key.length),j<k+1->InC t t.key[j]:=fun j hj O=>by
    rcases zJ j k with J|U
    . exact hp j hj J
    . obtain rfl:j=k:=by omega
      exact q
   cases k with
   | zero =>
    have i0:¬ ((0:Nat):Int)>0:=by omega
    simp only [xbM,xfJ,xek,xeQ,xeR,xbp,sBU,h1,hk,gf,cN,sN,xpG,hx,i0,q.1,q.2,c,gc,cK2,shB,AV.toBool,xKU (n:=0) (by omega)]
    exact Stp.br (fun _=>Stp.inr ⟨fun _=>by simp,fun h=>by simp at h⟩) (fun _=>Stp.inl ⟨rfl,hp'⟩)
   | succ m =>
    have i0:((m+1:Nat):Int)>0:=by omega
    have w:IntKind.i64.wrap (((m+1:Nat):Int) - 1)=(m:Int):=by rw [xbn (by omega) (by omega)];omega
    have h3:(m:Int)<(t.key.length:Int):=by omega
    have h4:m<t.key.length:=by omega
    have gm:(t.key.map encN).getD m .top=encN t.key[m]:=xaa _ _ _ h4;simp only [xbM,xfJ,xek,xeQ,xeR,xbp,sBU,h1,hk,gf,cN,sN,xpG,hx,i0,w,h3,h4,gm,q.1,q.2,c,gc,cK2,shB,AV.toBool,xKU (n:=m+1) (by omega)]
    exact Stp.br (fun _=>Stp.inr ⟨fun _=>by simp,fun h=>by simp at h⟩) (fun _=>Stp.br (fun _=>Stp.inr ⟨fun _=>by simp,fun h=>by simp at h⟩) (fun _=>Stp.inl ⟨rfl,hp'⟩))) (fun i hi=>by
  obtain ⟨rfl,hp⟩:=hi;simp only [xbM,xfJ,xek,za,zy,zm,xac,sUF];refine Stp.inr ⟨fun h=>by simp at h,fun _ x hx=>?_⟩
  obtain ⟨j,hj,rfl⟩:=List.getElem_of_mem hx;exact hp j hj hj) t.key.length 0 _ (by omega) ⟨rfl,fun j _ h=>absurd h (Nat.not_lt_zero _)⟩
 have e:Iter xbM ((0:Int),t.n,t.cols.map xKR,t.key.map encN,t.fos.map xKS,t.chk)=some r:=e;unfold xpS xtb;simp only [xrZ,xrx,e,zk,zh,xab,sUF];exact Ans.br (fun _=>Ans.some fun h=>by simp at h) (fun _=>Ans.br (fun h1=>Ans.some fun h=>absurd h (hr.1 h1)) (fun h1=>Ans.some fun _=>hr.2 h1))
theorem xC8 (t:Tab) (h:t.Ok) (f:Fo) (hf:f.cols.length<=1048576/\f.t.length<=16777216):Ans (fun c=>c=0->∀ x,x∈f.cols->InC t x) (xi1 t.n (t.cols.map xKR) (t.key.map encN) (t.fos.map xKS) t.chk (f.cols.map encN) f.t):=by
 have U:=hf.1;obtain ⟨a,ae,_⟩:=xwV f.t hf.2;obtain ⟨r,e,hr⟩:=xaY (step:=xbl) (fun k x=>x=((k:Int),t.n,t.cols.map xKR,t.key.map encN,t.fos.map xKS,t.chk,f.cols.map encN,f.t)/\∀ j (hj:j<f.cols.length),j<k->InC t f.cols[j]) f.cols.length (fun r=>(r.1=true->r.2.1≠0)/\(r.1=false->∀ x,x∈f.cols->InC t x)) (fun k i hk hi=>by
  obtain ⟨rfl,hp⟩:=hi;have h1:(k:Int)<(f.cols.length:Int):=by omega
  have gf:(f.cols.map encN).getD k .top=encN f.cols[k]:=xaa _ _ _ hk;cases hx:(decide (0<=f.cols[k])&&decide (f.cols[k]<(t.cols.length:Int))) with
  | false =>
   simp only [xbl,xeC,sBU,h1,hk,gf,cN,sN,xpG,hx];exact Stp.inr ⟨fun _=>by simp,fun h=>by simp at h⟩
  | true =>
   have J:=xz7 hx;have hp':∀ j (hj:j<f.cols.length),j<k+1->InC t f.cols[j]:=fun j hj Q=>by
    rcases zJ j k with O|V
    . exact hp j hj O
    . obtain rfl:j=k:=by omega
      exact J
   obtain ⟨⟨b,q1,q2⟩,e1,q⟩:=xaY (step:=xb0 (k:Int)) (fun m x=>x=((m:Int),t.n,t.cols.map xKR,t.key.map encN,t.fos.map xKS,t.chk,f.cols.map encN,f.t)) k (fun r=>(r.1=true->r.2.1.1≠0)/\(r.1=false->r.2.2=(t.n,t.cols.map xKR,t.key.map encN,t.fos.map xKS,t.chk,f.cols.map encN,f.t))) (fun m i hm hi=>by
    subst hi;have m1:(m:Int)<(k:Int):=by omega
    have m2:(m:Int)<(f.cols.length:Int):=by omega
    have m3:m<f.cols.length:=by omega
    have gm:(f.cols.map encN).getD m .top=encN f.cols[m]:=xaa _ _ _ m3;simp only [xb0,xgC,sBU,m1,m2,m3,h1,hk,gf,gm,cN,sN,xKU (n:=m) (by omega)]
    exact Stp.br (fun _=>Stp.inr ⟨fun _=>by simp,fun h=>by simp at h⟩) (fun _=>Stp.inl rfl)) (fun i hi=>by
    subst hi;simp only [xb0,xgC,zy,zm,xac,sUF];exact Stp.inr ⟨fun h=>by simp at h,fun _=>rfl⟩) k 0 _ (by omega) rfl
   have e1:Iter (xb0 (k:Int)) ((0:Int),t.n,t.cols.map xKR,t.key.map encN,t.fos.map xKS,t.chk,f.cols.map encN,f.t)=_:=e1;simp only [xbl,xeC,xjr,xjs,xjt,xju,xjv,xjw,xjy,xjz,xjA,sBU,h1,hk,gf,cN,sN,xpG,hx,e1,xKU (n:=k) (by omega)]
   refine Stp.br (fun hb=>Stp.inr ⟨fun _=>q.1 hb,fun h=>by simp at h⟩) (fun hb=>?_)
   have:=q.2 hb;dsimp only at this;subst this;exact Stp.inl ⟨rfl,hp'⟩) (fun i hi=>by
  obtain ⟨rfl,hp⟩:=hi;simp only [xbl,xeC,za,zy,zm,xac,sUF];refine Stp.inr ⟨fun h=>by simp at h,fun _ x hx=>?_⟩
  obtain ⟨j,hj,rfl⟩:=List.getElem_of_mem hx;exact hp j hj hj) f.cols.length 0 _ (by omega) ⟨rfl,fun j _ h=>absurd h (Nat.not_lt_zero _)⟩
 have e:Iter xbl ((0:Int),t.n,t.cols.map xKR,t.key.map encN,t.fos.map xKS,t.chk,f.cols.map encN,f.t)=some r:=e;unfold xi1 xnM;simp only [xmp,xmq,ae,e,zk,zh,xab,sUF];exact Ans.br (fun _=>Ans.some fun h=>by simp at h) (fun _=>Ans.br (fun _=>Ans.some fun h=>by simp at h) (fun _=>Ans.br (fun h1=>Ans.some fun h=>absurd h (hr.1 h1)) (fun h1=>Ans.some fun _=>hr.2 h1)))
theorem xys (t:Tab) (h:t.Ok):Ans (fun c=>c=0->∀ f,f∈t.fos->∀ x,x∈f.cols->InC t x) (xdS t.n (t.cols.map xKR) (t.key.map encN) (t.fos.map xKS) t.chk):=by
 have ac:=h.fos;have ab:=h.chk;obtain ⟨⟨b,q1,q2⟩,e,hr⟩:=xaY (step:=xba) (fun k x=>x=((k:Int),t.n,t.cols.map xKR,t.key.map encN,t.fos.map xKS,t.chk)/\∀ j (hj:j<t.fos.length),j<k->∀ x,x∈t.fos[j].cols->InC t x) t.fos.length (fun r=>(r.1=true->r.2.1.1≠0)/\(r.1=false->r.2.2=(t.n,t.cols.map xKR,t.key.map encN,t.fos.map xKS,t.chk)/\∀ f,f∈t.fos->∀ x,x∈f.cols->InC t x)) (fun k i hk hi=>by
  obtain ⟨rfl,hp⟩:=hi;have h1:(k:Int)<(t.fos.length:Int):=by omega
  have gf:(t.fos.map xKS).getD k .top=xKS t.fos[k]:=xaa _ _ _ hk;obtain ⟨c,ce,hc⟩:=xC8 t h t.fos[k] (h.fc _ (zo hk));simp only [xba,xet,sBU,h1,hk,gf,cFo0,cFo1,lFo,sFo,AV.toList,AV.toStr,ce,xKU (n:=k) (by omega)]
  refine Stp.br (fun hb=>Stp.inr ⟨fun _=>by simpa using hb,fun h=>by simp at h⟩) (fun hb=>Stp.inl ⟨rfl,fun j hj aa=>?_⟩)
  rcases zJ j k with W|ad
  . exact hp j hj W
  . obtain rfl:j=k:=by omega
    exact hc (by simpa using hb)) (fun i hi=>by
  obtain ⟨rfl,hp⟩:=hi;simp only [xba,xet,za,zy,zm,xac,sUF];refine Stp.inr ⟨fun h=>by simp at h,fun _=>⟨rfl,fun f hf=>?_⟩⟩
  obtain ⟨j,hj,rfl⟩:=List.getElem_of_mem hf;exact hp j hj hj) t.fos.length 0 _ (by omega) ⟨rfl,fun j _ h=>absurd h (Nat.not_lt_zero _)⟩
 have e:Iter xba ((0:Int),t.n,t.cols.map xKR,t.key.map encN,t.fos.map xKS,t.chk)=_:=e;have O:=xt4 t h.cols;obtain ⟨r1,e1,V⟩:=xaY (step:=xbb) (fun k x=>x=((k:Int),t.n,t.cols.map xKR,t.key.map encN,t.fos.map xKS,t.chk)) t.chk.length (fun r=>r.1=true->r.2.1≠0) (fun k i hk hi=>by
  subst hi;have h1:(k:Int)<(t.chk.length:Int):=by omega
  have gf:t.chk.getD k .top=t.chk[k]:=by rw [z7,ze hk];rfl
  obtain ⟨U,i',Z,Y,J,Q,ar,ex,l',t',h'⟩:=(h.ex _ (zo hk)).get;rw [ex] at gf;obtain ⟨⟨c1,c2⟩,ce,_⟩:=xEN (t.cols.map (·.k)) U i' Z Y J Q ar l' t' h';simp only [xbb,xeu,xf9,xga,xgb,xgc,sBU,h1,hk,gf,xLn,shE,cE0,cE1,cE2,cE3,cE4,cE5,cE6,lE,toIE,toSE,toLE,O,ce,xKU (n:=k) (by omega)]
  exact Stp.br (fun hb=>Stp.inr fun _=>by simpa using hb) (fun _=>Stp.br (fun _=>Stp.br (fun _=>Stp.inr fun _=>by simp) (fun _=>Stp.inl rfl)) (fun _=>Stp.inl rfl))) (fun i hi=>by
  subst hi;simp only [xbb,xeu,zy,zm,xac,sUF];exact Stp.inr fun h=>by simp at h) t.chk.length 0 _ (by omega) rfl
 have e1:Iter xbb ((0:Int),t.n,t.cols.map xKR,t.key.map encN,t.fos.map xKS,t.chk)=_:=e1;unfold xdS xjq;simp only [xiD,xiE,xiF,xiG,xiH,xiI,xiJ,xiK,xiL,xiM,e,zk,zh,xab,sUF];refine Ans.br (fun _=>Ans.some fun h=>by simp at h) (fun _=>Ans.br (fun h1=>Ans.some fun h=>absurd h (hr.1 h1)) (fun h1=>?_))
 obtain ⟨q,hq⟩:=hr.2 h1;dsimp only at q;subst q;simp only [e1,zk,zh,xab,sUF];exact Ans.br (fun _=>Ans.some fun h=>by simp at h) (fun _=>Ans.br (fun h1=>Ans.some fun h=>absurd h (V h1)) (fun _=>Ans.some fun _=>hq))
theorem xuy (t:Tab) (h:t.Ok):Ans (fun c=>c=0->(∀ x,x∈t.key->InC t x)/\∀ f,f∈t.fos->∀ x,x∈f.cols->InC t x) (xfy t.n (t.cols.map xKR) (t.key.map encN) (t.fos.map xKS) t.chk):=by
 obtain ⟨a,ae,_⟩:=xwV t.n h.n;obtain ⟨b,be,_⟩:=xC2 t h;obtain ⟨c,ce,hc⟩:=xIO t h;obtain ⟨d,de,hd⟩:=xys t h;unfold xfy xqk;simp only [ae,be,ce,de,zk,zh,xab,sUF];cases a with
 | false=>exact Ans.some fun h=>by simp at h
 | true =>
  simp only [Bool.not_true,xac,sUF];refine Ans.br (fun _=>Ans.br (fun h2=>Ans.some fun h=>⟨hc (by simpa using h2),hd h⟩) (fun h2=>Ans.some fun h=>by simp [h] at h2)) (fun h1=>?_)
  simp only [h1,xac,sUF];exact Ans.some fun h=>by simp [h] at h1
theorem xDo (row:Row) (kn:List Int) (hr:row.length<=1048576) (ht:Txt row):Ans (fun _=>True) (xrb (row.map encV) (kn.map encN)):=by
 unfold xrb xrL;by_cases hl:row.length=kn.length
 . obtain ⟨r,e,_⟩:=xaY (step:=xb9 (row.map encV) (kn.map encN)) (fun k i=>i=(k:Int)) row.length (fun _=>True) (fun k i hk hi=>by
    subst hi;have h1:(k:Int)<(row.length:Int):=by omega
    have h2:(k:Int)<(kn.length:Int):=by omega
    have h3:k<kn.length:=by omega
    have gf:(row.map encV).getD k .top=encV row[k]:=xaa _ _ _ hk;have gn:(kn.map encN).getD k .top=encN kn[k]:=xaa _ _ _ h3;have hv:=(ht _ (zo hk)).2;obtain ⟨v,ve,_⟩:=xzj row[k].k row[k].i row[k].t (by omega)
    have q:xLN (Sh.int .i64) ((encV row[k]).cells.getD 0 .top)=true:=rfl;simp only [xb9,xjF,xiu,xml,sBU,h1,h2,h3,hk,gf,gn,cV0,cV1,cV2,lV,sV,q,cN,sN,ve,xKU (n:=k) (by omega)]
    repeat' (first|exact Stp.inl rfl|exact Stp.inr trivial|refine Stp.br (fun _=>?_) (fun _=>?_))) (fun i hi=>by
    subst hi;simp only [xb9,xjF,za,zy,zm,xac,sUF];exact Stp.inr trivial) row.length 0 (0:Int) (by omega) rfl
   simp only [e,zk,zh,xab,sUF];repeat' (first|exact Ans.some trivial|refine Ans.br (fun _=>?_) (fun _=>?_))
 . have hb:(((row.length:Nat):Int) != ((kn.length:Nat):Int))=true:=by
    rw [bne_iff_ne];omega
   simp only [za,hb,xab,sUF];exact Ans.some trivial
theorem xFn (kn:List Int) (hk:kn.length<=16777216):Ans (fun _=>True) (xtc (kn.map encN)):=by
 obtain ⟨r,e,_⟩:=xaY (step:=xbR (kn.map encN)) (fun k i=>i=(k:Int)) kn.length (fun _=>True) (fun k i q hi=>by
  subst hi;have h1:(k:Int)<(kn.length:Int):=by omega
  have gf:(kn.map encN).getD k .top=encN kn[k]:=xaa _ _ _ q;simp only [xbR,xiN,sBU,h1,q,gf,cN,sN,xKU (n:=k) (by omega)]
  repeat' (first|exact Stp.inl rfl|exact Stp.inr trivial|refine Stp.br (fun _=>?_) (fun _=>?_))) (fun i hi=>by
  subst hi;simp only [xbR,xiN,za,zy,zm,xac,sUF];exact Stp.inr trivial) kn.length 0 (0:Int) (by omega) rfl
 unfold xtc xqp;simp only [e,zk,zh,xab,sUF];repeat' (first|exact Ans.some trivial|refine Ans.br (fun _=>?_) (fun _=>?_))
structure FOk (l:List Fc):Prop where
 len:l.length<=1048576
 row:∀ f,f∈l->f.r.length<=1048576
 txt:∀ f,f∈l->Txt f.r
theorem xG7 (kn:List Int) (hk:kn.length<=16777216) (l:List Fc) (h:FOk l):Ans (fun _=>True) (xpC (kn.map encN) (l.map encF)):=by
 have hl:=h.len;obtain ⟨⟨b,q1,q2⟩,e,hr⟩:=xaY (step:=xbS) (fun k x=>x=((k:Int),kn.map encN,l.map encF)) l.length (fun r=>r.1=false->r.2.2=(kn.map encN,l.map encF)) (fun k i q hi=>by
  subst hi;have h1:(k:Int)<(l.length:Int):=by omega
  have gf:(l.map encF).getD k .top=encF l[k]:=xaa _ _ _ q;obtain ⟨v,ve,_⟩:=xDo l[k].r kn (h.row _ (zo q)) (h.txt _ (zo q));simp only [xbS,xiO,sBU,h1,q,gf,cF0,cF1,cF2,sF0,sF1,sF2,lF,sF12,sF02,ve,xKU (n:=k) (by omega)]
  exact Stp.br (fun _=>Stp.inr (by simp)) (fun _=>Stp.br (fun _=>Stp.inr (by simp)) (fun _=>Stp.inl rfl))) (fun i hi=>by
  subst hi;simp only [xbS,xiO,za,zy,zm,xac,sUF];exact Stp.inr fun _=>rfl) l.length 0 _ (by omega) rfl
 have e:Iter xbS ((0:Int),kn.map encN,l.map encF)=_:=e;obtain ⟨c,ce,_⟩:=xFn kn hk;unfold xpC xqu;simp only [xo7,xo8,xo9,xpa,xpb,e,zk,zh,xab,sUF];refine Ans.br (fun _=>Ans.some trivial) (fun hb=>?_)
 have:=hr hb;dsimp only at this;subst this;simp only [ce,zk,zh,xab,sUF];repeat' (first|exact Ans.some trivial|refine Ans.br (fun _=>?_) (fun _=>?_))
theorem xv7 (t:Tab) (ht:t.Ok) (l:List Fc) (h:FOk l):Ans (fun b=>b=true->(∀ x,x∈t.key->InC t x)/\∀ f,f∈t.fos->∀ x,x∈f.cols->InC t x) (xgi t.n (t.cols.map xKR) (t.key.map encN) (t.fos.map xKS) t.chk (l.map encF)):=by
 obtain ⟨a,ae,ha⟩:=xuy t ht;have hk:=xt4 t ht.cols;obtain ⟨b,be,_⟩:=xG7 (t.cols.map (·.k)) (by rw [za];exact ht.cols) l h
 unfold xgi xn3;simp only [ae,hk,be,zk,zh,xab,sUF];exact Ans.br (fun h=>Ans.some fun _=>ha (by simpa using h)) (fun _=>Ans.some fun h=>by simp at h)
theorem xH6 (f g:Fo) (hf:f.cols.length<=1048576):Ans (fun _=>True) (xrf (f.cols.map encN) f.t (g.cols.map encN) g.t):=by
 unfold xrf xr8;by_cases hl:f.cols.length=g.cols.length
 . obtain ⟨r,e,_⟩:=xaY (step:=xdw) (fun k x=>x=((k:Int),f.cols.map encN,f.t,g.cols.map encN,g.t)) f.cols.length (fun _=>True) (fun k i hk hi=>by
    subst hi;have h1:(k:Int)<(f.cols.length:Int):=by omega
    have h2:(k:Int)<(g.cols.length:Int):=by omega
    have h3:k<g.cols.length:=by omega
    have gf:(f.cols.map encN).getD k .top=encN f.cols[k]:=xaa _ _ _ hk;have gg:(g.cols.map encN).getD k .top=encN g.cols[k]:=xaa _ _ _ h3;simp only [xdw,xjO,sBU,h1,h2,h3,hk,gf,gg,cN,sN,xKU (n:=k) (by omega)]
    repeat' (first|exact Stp.inl rfl|exact Stp.inr trivial|refine Stp.br (fun _=>?_) (fun _=>?_))) (fun i hi=>by
    subst hi;simp only [xdw,xjO,za,zy,zm,xac,sUF];exact Stp.inr trivial) f.cols.length 0 _ (by omega) rfl
   have e:Iter xdw ((0:Int),f.cols.map encN,f.t,g.cols.map encN,g.t)=_:=e;simp only [xqH,xqI,e,zk,zh,xab,sUF];repeat' (first|exact Ans.some trivial|refine Ans.br (fun _=>?_) (fun _=>?_))
 . have hb:(((f.cols.length:Nat):Int) != ((g.cols.length:Nat):Int))=true:=by
    rw [bne_iff_ne];omega
   simp only [za,hb,xab,sUF];repeat' (first|exact Ans.some trivial|refine Ans.br (fun _=>?_) (fun _=>?_))
theorem xGY (t p:Tab) (ht:t.Ok) (hp:p.Ok) (f:Fo) (hf:f∈t.fos):Ans (fun _=>True) (xre t.n (t.cols.map xKR) (t.key.map encN) (t.fos.map xKS) t.chk (f.cols.map encN) f.t p.n (p.cols.map xKR) (p.key.map encN) (p.fos.map xKS) p.chk):=by
 obtain ⟨a,ae,ha⟩:=xuy t ht;obtain ⟨b,be,hb⟩:=xuy p hp;have O:=ht.fos;have Q:=(ht.fc f hf).1;obtain ⟨r,e,hr⟩:=xaY (step:=xdu) (fun k x=>∃ w:Bool,x=(w,(k:Int),t.n,t.cols.map xKR,t.key.map encN,t.fos.map xKS,t.chk,f.cols.map encN,f.t,p.n,p.cols.map xKR,p.key.map encN,p.fos.map xKS,p.chk)) t.fos.length (fun r=>r.2=(t.n,t.cols.map xKR,t.key.map encN,t.fos.map xKS,t.chk,f.cols.map encN,f.t,p.n,p.cols.map xKR,p.key.map encN,p.fos.map xKS,p.chk)) (fun k i hk hi=>by
  obtain ⟨w,rfl⟩:=hi;have h1:(k:Int)<(t.fos.length:Int):=by omega
  have gf:(t.fos.map xKS).getD k .top=xKS t.fos[k]:=xaa _ _ _ hk;obtain ⟨s,se,_⟩:=xH6 t.fos[k] f (ht.fc _ (zo hk)).1;simp only [xdu,xjM,sBU,h1,hk,gf,cFo0,cFo1,lFo,sFo,AV.toList,AV.toStr,se,xKU (n:=k) (by omega)]
  exact Stp.br (fun _=>Stp.inl ⟨_,rfl⟩) (fun _=>Stp.inl ⟨_,rfl⟩)) (fun i hi=>by
  obtain ⟨w,rfl⟩:=hi;simp only [xdu,xjM,za,zy,zm,xac,sUF];exact Stp.inr rfl) t.fos.length 0 (false,(0:Int),_) (by omega) ⟨false,rfl⟩
 obtain ⟨w,q⟩:=r;dsimp only at hr;subst hr;have kt:=xt4 t ht.cols;have kp:=xt4 p hp.cols;unfold xre xr6;simp only [ae,be,zk,zh,xab,sUF];refine Ans.br (fun _=>Ans.some trivial) (fun h1=>Ans.br (fun _=>Ans.some trivial) (fun h2=>Ans.br (fun _=>Ans.some trivial) (fun h3=>?_)))
 have ha:=ha (by simpa using h1)
 have hb:=hb (by simpa using h2)
 have J:f.cols.length=p.key.length:=by
  simp only [za,bne_eq_false_iff_eq] at h3;omega
 obtain ⟨r1,e1,_⟩:=xaY (step:=xdv ((t.cols.map (·.k)).map encN) ((p.cols.map (·.k)).map encN)) (fun k x=>x=((k:Int),f.cols.map encN,f.t,p.n,p.cols.map xKR,p.key.map encN,p.fos.map xKS,p.chk)) f.cols.length (fun _=>True) (fun k i hk hi=>by
  subst hi;have c1:(k:Int)<(f.cols.length:Int):=by omega
  have c2:(k:Int)<(p.key.length:Int):=by omega
  have c3:k<p.key.length:=by omega
  have gf:(f.cols.map encN).getD k .top=encN f.cols[k]:=xaa _ _ _ hk;have gk:(p.key.map encN).getD k .top=encN p.key[k]:=xaa _ _ _ c3;obtain ⟨a1,a2⟩:=ha.2 f hf f.cols[k] (zo hk);obtain ⟨b1,b2⟩:=hb.1 p.key[k] (zo c3);have a3:f.cols[k].toNat<t.cols.length:=by omega
  have b3:p.key[k].toNat<p.cols.length:=by omega
  have ga:((t.cols.map (·.k)).map encN).getD f.cols[k].toNat .top=encN ((t.cols.map (·.k))[f.cols[k].toNat]'(by rw [za];exact a3)):=xaa _ _ _ (by rw [za];exact a3)
  have gb:((p.cols.map (·.k)).map encN).getD p.key[k].toNat .top=encN ((p.cols.map (·.k))[p.key[k].toNat]'(by rw [za];exact b3)):=xaa _ _ _ (by rw [za];exact b3)
  simp only [xdv,xjN,sBU,c1,c2,c3,hk,gf,gk,cN,sN,a1,a2,a3,b1,b2,b3,ga,gb,xKU (n:=k) (by omega)]
  repeat' (first|exact Stp.inl rfl|exact Stp.inr trivial|refine Stp.br (fun _=>?_) (fun _=>?_))) (fun i hi=>by
  subst hi;simp only [xdv,xjN,za,zy,zm,xac,sUF];exact Stp.inr trivial) f.cols.length 0 _ (by omega) rfl
 have e1:Iter (xdv ((t.cols.map (·.k)).map encN) ((p.cols.map (·.k)).map encN)) ((0:Int),f.cols.map encN,f.t,p.n,p.cols.map xKR,p.key.map encN,p.fos.map xKS,p.chk)=_:=e1;have e:Iter xdu (false,(0:Int),t.n,t.cols.map xKR,t.key.map encN,t.fos.map xKS,t.chk,f.cols.map encN,f.t,p.n,p.cols.map xKR,p.key.map encN,p.fos.map xKS,p.chk)=_:=e;simp only [xqv,xqw,xqy,xqz,xqA,xqB,xqC,xqD,xqE,xqF,xpc,xpd,xpe,xpf,xpg,xph,xpi,xpj,xpk,xpl,xpm,xpn,e,kt,kp,e1,zk,zh,xab,sUF];repeat' (first|exact Ans.some trivial|refine Ans.br (fun _=>?_) (fun _=>?_))
end Go.Sim.M
end
noncomputable section
set_option maxRecDepth 100000
namespace Go.Sim.M
open Go.RowKit Go.Sim.Srt
theorem xCA (l:List Fc) (hl:l.length<=1048576):Ans (fun b=>b=true->l.length<=14/\∀ f,f∈l->f.r.length<=60) (xmP (l.map encF) 14):=by
 obtain ⟨r,e,hr⟩:=xaY (step:=xcE (l.map encF)) (fun k i=>i=(k:Int)/\∀ j (hj:j<l.length),j<k->l[j].r.length<=60) l.length (fun r=>(r.1=true->r.2.1=false)/\(r.1=false->∀ f,f∈l->f.r.length<=60)) (fun k i hk hi=>by
  obtain ⟨rfl,hp⟩:=hi;have h1:(k:Int)<(l.length:Int):=by omega
  have gf:(l.map encF).getD k .top=encF l[k]:=xaa _ _ _ hk;simp only [xcE,xkV,sBU,h1,hk,gf,cF0,cF1,cF2,sF0,sF1,sF2,lF,sF12,sF02,xKU (n:=k) (by omega)]
  refine Stp.br (fun _=>Stp.inr ⟨fun _=>rfl,fun h=>by simp at h⟩) (fun hb=>Stp.inl ⟨rfl,fun j hj J=>?_⟩)
  rcases zJ j k with q|O
  . exact hp j hj q
  . obtain rfl:j=k:=by omega
    have hb:=of_decide_eq_false hb;omega) (fun i hi=>by
  obtain ⟨rfl,hp⟩:=hi;simp only [xcE,xkV,za,zy,zm,xac,sUF];refine Stp.inr ⟨fun h=>by simp at h,fun _ f hf=>?_⟩
  obtain ⟨j,hj,rfl⟩:=List.getElem_of_mem hf;exact hp j hj hj) l.length 0 (0:Int) (by omega) ⟨rfl,fun j _ h=>absurd h (Nat.not_lt_zero _)⟩
 unfold xmP xth;simp only [e,zk,zh,xab,za,sUF];refine Ans.br (fun _=>Ans.some fun h=>by simp at h) (fun h=>?_)
 have h:=of_decide_eq_false h;exact Ans.br (fun h1=>Ans.some fun h2=>by rw [hr.1 h1] at h2;simp at h2) (fun h1=>Ans.some fun _=>⟨by omega,hr.2 h1⟩)
structure FitC (t:Tab) (ix:Int) (fa ke:List Fc):Prop where
 lo:0<=ix
 hi:ix<(t.fos.length:Int)
 fl:fa.length<=14
 fr:∀ f,f∈fa->f.r.length<=60
 kl:ke.length<=14
 kr:∀ f,f∈ke->f.r.length<=60
theorem xGD (t p:Tab) (ht:t.Ok) (hp:p.Ok) (ix:Int) (fa ke:List Fc) (hf:FOk fa) (hk:FOk ke):Ans (fun b=>b=true->FitC t ix fa ke) (xq7 t.n (t.cols.map xKR) (t.key.map encN) (t.fos.map xKS) t.chk p.n (p.cols.map xKR) (p.key.map encN) (p.fos.map xKS) p.chk ix (fa.map encF) (ke.map encF)):=by
 obtain ⟨a,ae,ha⟩:=xCA fa hf.len;obtain ⟨b,be,hb⟩:=xCA ke hk.len;obtain ⟨c,ce,_⟩:=xv7 t ht fa hf;obtain ⟨d,de,_⟩:=xv7 p hp ke hk;unfold xq7 xrw;simp only [ae,be,ce,de,za,zk,zh,xab,sUF];refine Ans.br (fun _=>Ans.some fun h=>by simp at h) (fun _=>Ans.br (fun _=>Ans.some fun h=>by simp at h) (fun _=>Ans.br (fun _=>Ans.some fun h=>by simp at h) (fun h1=>Ans.br (fun _=>Ans.some fun h=>by simp at h) (fun h2=>?_))))
 have h1:=of_decide_eq_false h1;have h2:=of_decide_eq_false h2;refine Ans.br (fun _=>Ans.some fun h=>by simp at h) (fun h3=>Ans.br (fun _=>Ans.some fun h=>by simp at h) (fun h4=>Ans.br (fun _=>Ans.br (fun _=>?_) (fun _=>Ans.some fun h=>by simp at h)) (fun _=>Ans.some fun h=>by simp at h)))
 have h3:a=true:=by simpa using h3
 have h4:b=true:=by simpa using h4
 have i1:0<=ix:=by omega
 have i2:ix<(t.fos.length:Int):=by omega
 have i3:ix.toNat<t.fos.length:=by omega
 have gt:(t.fos.map xKS).getD ix.toNat .top=xKS t.fos[ix.toNat]:=xaa _ _ _ i3;obtain ⟨e,ee,_⟩:=xGY t p ht hp t.fos[ix.toNat] (zo i3);simp only [i1,i2,i3,gt,cFo0,cFo1,lFo,sFo,AV.toList,AV.toStr,ee,zn,zS,zk,zh,xab,sUF];exact Ans.some fun _=>⟨i1,i2,(ha h3).1,(ha h3).2,(hb h4).1,(hb h4).2⟩
theorem xJZ {cols key:List Int} {l pl M B:List Fc} (hr:∀ f,f∈l->f.r.length<=60) (hM:IsMiss cols key l pl M) (hB:xK1 M B) (hb:B.length<=1048576) (t:Int):∃ D:List Row,xmr (B.map encF) t=some (D.map encR)/\D.length=l.countP fun x=>xKx cols key pl x t:=by
 obtain ⟨D,d1,d2,_⟩:=xKg B t ⟨hb,fun f hf=>by
  obtain ⟨x,hx,e⟩:=hM.bagrow hB f hf;have:=hr x hx;rw [e];omega⟩
 exact ⟨D,d1,by rw [d2.length_eq,xHL hM hB]⟩
end Go.Sim.M
end
noncomputable section
set_option maxRecDepth 10000
namespace Go.Sim
open Go.RowKit Go.Proofs Go.ChangeShapes Go.WideShapes Go.ChangeAt Go.Proofs.YtnbckejindjgaaaGreatDoor
theorem xzU:∀ {xs:List AV} {x:AV},x∈xs->AV.wt x<=AV.wts xs
 | y::xs,x,h=>by
  simp only [AV.wts];rcases zC.1 h with rfl|h
  . omega
  . have:=xzU h;omega
theorem xzT:∀ {xs:List AV},(∀ x,x∈xs->1<=AV.wt x)->xs.length<=AV.wts xs
 | [],_=>zQ _
 | y::xs,h=>by
  have a:=h y (by simp)
  have b:=xzT (xs:=xs) fun x hx=>h x (by simp [hx])
  simp only [AV.wts,zF];omega
theorem xje {α:Type} {e:α->AV} (h:∀ a,1<=AV.wt (e a)) (l:List α):l.length<=AV.wts (l.map e):=by
 have:=xzT (xs:=l.map e) fun x hx=>by
  obtain ⟨a,_,rfl⟩:=zK.1 hx;exact h a
 rwa [za] at this
theorem xjf {α:Type} {e:α->AV} {l:List α} {a:α} (h:a∈l):AV.wt (e a)<=AV.wts (l.map e):=xzU (zK.2 ⟨a,h,rfl⟩)
theorem xHj (v:M.Val):AV.wt (M.encV v)=1+(1+(v.t.length+1+0)):=rfl
theorem xCR (f:M.Fc):AV.wt (M.encF f)=AV.wts (f.r.map M.encV)+1+(1+(1+0)):=rfl
theorem xHh (c:M.Col):AV.wt (M.xKR c)=c.n.length+1+(1+(1+0)):=rfl
theorem xFz (f:M.Fo):AV.wt (M.xKS f)=AV.wts (f.cols.map M.encN)+1+(f.t.length+1+0):=rfl
theorem M.fok_wt {l:List M.Fc} (h:AV.wts (l.map M.encF)<=1048576) (hw:∀ y,y∈l->y.wf):M.FOk l:=by
 refine ⟨?_,fun f hf=>?_,fun f hf v hv=>⟨(hw f hf).1.2 v hv,?_⟩⟩
 . have:=xje (e:=M.encF) (fun f=>by have:=xCR f;omega) l
   omega
 . have h1:=xjf (e:=M.encF) hf;have h2:=xCR f;have h3:=xje (e:=M.encV) (fun f=>by have:=xHj f;omega) f.r
   omega
 . have h1:=xjf (e:=M.encF) hf;have h2:=xCR f;have h3:=xjf (e:=M.encV) hv;have h4:=xHj v;omega
def EX (xs:List AV):Prop:=∀ x,x∈xs->x.cells.length=7/\x=xMn x.cells/\∀ j,j<7->OfTy tyR (tyR.getD j .bool) (x.cells.getD j .top)
theorem xCe {a:AV} (h:OfTy tyR .mu a):∃ xs,a=.list 7 xs/\EX xs:=by
 cases h with
 | mu xs h hl hx=>exact ⟨xs,rfl,fun x hm=>⟨(hl x hm).1,(hl x hm).2,fun j hj=>hx x j hm hj⟩⟩
theorem xIo:∀ (n:Nat) (xs:List AV),AV.wts xs<n->n<=16777216->EX xs->xs.length<=AV.wts xs/\∀ x,x∈xs->M.IsEx x
 | 0,xs,h,_,_=>absurd h (Nat.not_lt_zero _)
 | n+1,xs,h,hn,hE=>by
  have key:∀ x,x∈xs->1<=AV.wt x/\M.IsEx x:=fun x hx=>by
   obtain ⟨h1,h2,h3⟩:=hE x hx;have hw:=xzU hx;generalize x.cells=cs at *;match cs,h1 with
   | [c0,c1,c2,c3,c4,c5,c6],_ =>
    have h0:=h3 0 (by decide)
    have h1:=h3 1 (by decide)
    have h2':=h3 2 (by decide)
    have h3':=h3 3 (by decide)
    have h4:=h3 4 (by decide)
    have h5:=h3 5 (by decide)
    have h6:=h3 6 (by decide)
    change OfTy tyR (.int .i64) c0 at h0;change OfTy tyR (.int .i64) c1 at h1;change OfTy tyR (.int .i64) c2 at h2';change OfTy tyR (.int .i64) c3 at h3';change OfTy tyR .str c4 at h4;change OfTy tyR .str c5 at h5;change OfTy tyR .mu c6 at h6;obtain ⟨ys,rfl,hy⟩:=xCe h6;cases h0 with
    | int _ n0 _=>cases h1 with
     | int _ n1 _=>cases h2' with
      | int _ n2 _=>cases h3' with
       | int _ n3 _=>cases h4 with
        | str s4 _=>cases h5 with
         | str s5 _ =>
          have hx:x=.agg [.int .i64 n0,.int .i64 n1,.int .i64 n2,.int .i64 n3,.str s4,.str s5,.list 7 ys]:=h2;have wx:AV.wt x=1+(1+(1+(1+(s4.length+1+(s5.length+1+(AV.wts ys+1+0)))))):=by rw [hx];rfl
          obtain ⟨i1,i2⟩:=xIo n ys (by omega) (by omega) hy
          exact ⟨by omega,hx▸M.IsEx.mk n0 n1 n2 n3 s4 s5 ys (by omega) (by omega) i2⟩
  exact ⟨xzT fun x hx=>(key x hx).1,fun x hx=>(key x hx).2⟩
def tyCo:List Ty:=[.str,.int .i64,.bool]
def tyFo:List Ty:=[.slice [.int .i64],.str]
theorem xyh (x:AV) (hl:x.cells.length=[Ty.int .i64].length) (he:x=xMn x.cells) (hx:∀ j,j<[Ty.int .i64].length->OfTy tyR ([Ty.int .i64].getD j .bool) (x.cells.getD j .top)):∃ a,x=M.encN a/\I64 a:=by
 generalize x.cells=cs at *;match cs,hl with
 | [c0],_ =>
  have h0:=hx 0 (by decide)
  change OfTy tyR (.int .i64) c0 at h0;cases h0 with
  | int _ k hk=>exact ⟨k,he,hk⟩
theorem xCN (x:AV) (hl:x.cells.length=tyCo.length) (he:x=xMn x.cells) (hx:∀ j,j<tyCo.length->OfTy tyR (tyCo.getD j .bool) (x.cells.getD j .top)):∃ a,x=M.xKR a/\True:=by
 generalize x.cells=cs at *;match cs,hl with
 | [c0,c1,c2],_ =>
  have h0:=hx 0 (by decide)
  have h1:=hx 1 (by decide)
  have h2:=hx 2 (by decide)
  change OfTy tyR .str c0 at h0;change OfTy tyR (.int .i64) c1 at h1;change OfTy tyR .bool c2 at h2;cases h0 with
  | str s _=>cases h1 with
   | int _ k _=>cases h2 with
    | bool b=>exact ⟨⟨s,k,b⟩,he,trivial⟩
theorem xEr (x:AV) (hl:x.cells.length=tyFo.length) (he:x=xMn x.cells) (hx:∀ j,j<tyFo.length->OfTy tyR (tyFo.getD j .bool) (x.cells.getD j .top)):∃ a,x=M.xKS a/\True:=by
 generalize x.cells=cs at *;match cs,hl with
 | [c0,c1],_ =>
  have h0:=hx 0 (by decide)
  have h1:=hx 1 (by decide)
  change OfTy tyR (.slice [.int .i64]) c0 at h0;change OfTy tyR .str c1 at h1;obtain ⟨l,rfl,_,_⟩:=xfA (es:=[.int .i64]) xyh h0;cases h1 with
  | str s _=>exact ⟨⟨l,s⟩,he,trivial⟩
theorem M.tab_ok (t:M.Tab) (hb:AV.wts [.str t.n,.list 3 (t.cols.map M.xKR),.list 1 (t.key.map M.encN),.list 2 (t.fos.map M.xKS),.list 7 t.chk]<=1048576) (hx:EX t.chk):t.Ok:=by
 have hw:AV.wts [.str t.n,.list 3 (t.cols.map M.xKR),.list 1 (t.key.map M.encN),.list 2 (t.fos.map M.xKS),.list 7 t.chk]=t.n.length+1+(AV.wts (t.cols.map M.xKR)+1+(AV.wts (t.key.map M.encN)+1+(AV.wts (t.fos.map M.xKS)+1+(AV.wts t.chk+1+0)))):=rfl;obtain ⟨e1,e2⟩:=xIo (AV.wts t.chk+1) t.chk (Nat.lt_succ_self _) (by omega) hx
 refine ⟨by omega,?_,?_,?_,by omega,fun c hc=>?_,fun f hf=>⟨?_,?_⟩,e2⟩
 . have:=xje (e:=M.xKR) (fun f=>by have:=xHh f;omega) t.cols
   omega
 . have:=xje (e:=M.encN) (fun f=>zd 1) t.key
   omega
 . have:=xje (e:=M.xKS) (fun f=>by have:=xFz f;omega) t.fos
   omega
 . have h1:=xjf (e:=M.xKR) hc;have h2:=xHh c;omega
 . have h1:=xjf (e:=M.xKS) hf;have h2:=xFz f;have h3:=xje (e:=M.encN) (fun f=>zd 1) f.cols
   omega
 . have h1:=xjf (e:=M.xKS) hf;have h2:=xFz f;omega
structure M.Cas where
 t:M.Tab
 p:M.Tab
 ix:Int
 fa:List M.Fc
 ke:List M.Fc
def M.Cas.wf (c:M.Cas):Prop:=EX c.t.chk/\EX c.p.chk/\(∀ y,y∈c.fa->y.wf)/\∀ y,y∈c.ke->y.wf
theorem xGm:flat Tryz.prog muT 9 30=some [.str,.slice tyCo,.slice [.int .i64],.slice tyFo,.mu,.str,.slice tyCo,.slice [.int .i64],.slice tyFo,.mu,.int .i64,.slice tyF,.slice tyF]:=by kernel_rfl
section
variable {H : Type} {enc : TypeId × Value -> H} {w : World} {base b : Nat} {sp : Nat -> Bool} {held : Bool} {v : Value} {d : DataW H} {ps : List MemPlace}
theorem xGK (Q:Value.okWide Tryz.prog w .any base 30 v) (hd:DataW.Trod enc Tryz.prog w b sp held 30 v d ps):∃ x:M.Cas,Rel w (fun _=>False) xL1 v (.agg [.str x.t.n,.list 3 (x.t.cols.map M.xKR),.list 1 (x.t.key.map M.encN),.list 2 (x.t.fos.map M.xKS),.list 7 x.t.chk,.str x.p.n,.list 3 (x.p.cols.map M.xKR),.list 1 (x.p.key.map M.encN),.list 2 (x.p.fos.map M.xKS),.list 7 x.p.chk,.int .i64 x.ix,.list 3 (x.fa.map M.encF),.list 3 (x.ke.map M.encF)])/\(∀ μ:DataW H->Nat,Meas μ->(AV.agg [.str x.t.n,.list 3 (x.t.cols.map M.xKR),.list 1 (x.t.key.map M.encN),.list 2 (x.t.fos.map M.xKS),.list 7 x.t.chk,.str x.p.n,.list 3 (x.p.cols.map M.xKR),.list 1 (x.p.key.map M.encN),.list 2 (x.p.fos.map M.xKS),.list 7 x.p.chk,.int .i64 x.ix,.list 3 (x.fa.map M.encF),.list 3 (x.ke.map M.encF)]).wt<=μ d)/\M.Cas.wf x:=by
 obtain ⟨cs,h,hl,hx,hB⟩:=xGJ recR Tryz.underlying30 xGm Q hd;match cs,hl with
 | [k0,k1,k2,k3,k4,k5,k6,k7,k8,k9,k10,k11,k12],_ =>
  have h0:=hx 0 (by decide)
  have h1:=hx 1 (by decide)
  have h2:=hx 2 (by decide)
  have h3:=hx 3 (by decide)
  have h4:=hx 4 (by decide)
  have h5:=hx 5 (by decide)
  have h6:=hx 6 (by decide)
  have h7:=hx 7 (by decide)
  have h8:=hx 8 (by decide)
  have h9:=hx 9 (by decide)
  have O:=hx 10 (by decide)
  have q:=hx 11 (by decide)
  have J:=hx 12 (by decide)
  change OfTy tyR .str k0 at h0;change OfTy tyR (.slice tyCo) k1 at h1;change OfTy tyR (.slice [.int .i64]) k2 at h2;change OfTy tyR (.slice tyFo) k3 at h3;change OfTy tyR .mu k4 at h4;change OfTy tyR .str k5 at h5;change OfTy tyR (.slice tyCo) k6 at h6;change OfTy tyR (.slice [.int .i64]) k7 at h7;change OfTy tyR (.slice tyFo) k8 at h8;change OfTy tyR .mu k9 at h9;change OfTy tyR (.int .i64) k10 at O;change OfTy tyR (.slice tyF) k11 at q;change OfTy tyR (.slice tyF) k12 at J;obtain ⟨l1,rfl,_,_⟩:=xfA (es:=tyCo) xCN h1;obtain ⟨l2,rfl,_,_⟩:=xfA (es:=[.int .i64]) xyh h2;obtain ⟨l3,rfl,_,_⟩:=xfA (es:=tyFo) xEr h3;obtain ⟨l4,rfl,x4⟩:=xCe h4;obtain ⟨l6,rfl,_,_⟩:=xfA (es:=tyCo) xCN h6;obtain ⟨l7,rfl,_,_⟩:=xfA (es:=[.int .i64]) xyh h7;obtain ⟨l8,rfl,_,_⟩:=xfA (es:=tyFo) xEr h8;obtain ⟨l9,rfl,x9⟩:=xCe h9;obtain ⟨V,rfl,_,W⟩:=xfA (es:=tyF) xCO q;obtain ⟨U,rfl,_,Y⟩:=xfA (es:=tyF) xCO J;cases h0 with
  | str s0 _=>cases h5 with
   | str s5 _=>cases O with
    | int _ n10 _=>exact ⟨⟨⟨s0,l1,l2,l3,l4⟩,⟨s5,l6,l7,l8,l9⟩,n10,V,U⟩,h,fun μ hμ=>hB μ hμ,x4,x9,W,Y⟩
end
theorem M.cas_wt (c:M.Cas) (hw:c.wf) {r:Nat} (hb:(AV.agg [.str c.t.n,.list 3 (c.t.cols.map M.xKR),.list 1 (c.t.key.map M.encN),.list 2 (c.t.fos.map M.xKS),.list 7 c.t.chk,.str c.p.n,.list 3 (c.p.cols.map M.xKR),.list 1 (c.p.key.map M.encN),.list 2 (c.p.fos.map M.xKS),.list 7 c.p.chk,.int .i64 c.ix,.list 3 (c.fa.map M.encF),.list 3 (c.ke.map M.encF)]).wt+r<=1048576):c.t.Ok/\c.p.Ok/\M.FOk c.fa/\M.FOk c.ke:=by
 have hs:(AV.agg [.str c.t.n,.list 3 (c.t.cols.map M.xKR),.list 1 (c.t.key.map M.encN),.list 2 (c.t.fos.map M.xKS),.list 7 c.t.chk,.str c.p.n,.list 3 (c.p.cols.map M.xKR),.list 1 (c.p.key.map M.encN),.list 2 (c.p.fos.map M.xKS),.list 7 c.p.chk,.int .i64 c.ix,.list 3 (c.fa.map M.encF),.list 3 (c.ke.map M.encF)]).wt=AV.wts [.str c.t.n,.list 3 (c.t.cols.map M.xKR),.list 1 (c.t.key.map M.encN),.list 2 (c.t.fos.map M.xKS),.list 7 c.t.chk]+(AV.wts [.str c.p.n,.list 3 (c.p.cols.map M.xKR),.list 1 (c.p.key.map M.encN),.list 2 (c.p.fos.map M.xKS),.list 7 c.p.chk]+(1+(AV.wts (c.fa.map M.encF)+1+(AV.wts (c.ke.map M.encF)+1+0)))):=by
  simp only [AV.wt,AV.wts];omega
 obtain ⟨h1,h2,h3,h4⟩:=hw;exact ⟨M.tab_ok c.t (by omega) h1,M.tab_ok c.p (by omega) h2,M.fok_wt (by omega) h3,M.fok_wt (by omega) h4⟩
end Go.Sim
end
noncomputable section
set_option maxRecDepth 100000
namespace Go.Sim.M
open Go.RowKit Go.Sim.Srt
theorem xF4 (p:Tab) (hp:p.Ok) (f:Fo) (hf:f.cols.length<=1048576) (fa ke:List Fc) (J:FOk fa) (q:FOk ke) (fl:fa.length<=14) (fr:∀ f,f∈fa->f.r.length<=60) (kl:ke.length<=14) :
  ∃ B M:List Fc,xcH (f.cols.map encN) f.t (fa.map encF) p.n (p.cols.map xKR) (p.key.map encN) (p.fos.map xKS) p.chk (ke.map encF)=some (B.map encF)/\xqG (f.cols.map encN) f.t (fa.map encF) p.n (p.cols.map xKR) (p.key.map encN) (p.fos.map xKS) p.chk (ke.map encF)=some (B.map encF)/\xK1 M B/\IsMiss f.cols p.key fa ke M:=by
 obtain ⟨B,M,b1,b2,b3⟩:=xHP f.cols p.key f.t p.n (p.cols.map xKR) (p.fos.map xKS) p.chk hf hp.key fa ke fl (by omega) fr J.txt q.txt
 obtain ⟨B',M',c1,c2,c3⟩:=xH1 f.cols p.key f.t p.n (p.cols.map xKR) (p.fos.map xKS) p.chk hf hp.key fa ke fl kl fr;obtain rfl:B=B':=b2.unique c2 fun r t=>by rw [b3.cnt,c3.cnt]
 exact ⟨B,M,b1,c1,b2,b3⟩
theorem xIe (l:List Fc) (n:Int):List.take (n.toNat - 0) (List.drop 0 (l.map encF))=(l.take n.toNat).map encF:=by simp [List.map_take]
theorem FOk.take {l:List Fc} (h:FOk l) (n:Nat):FOk (l.take n):=⟨by rw [zt];have:=h.len;omega,fun f hf=>h.row f (List.mem_of_mem_take hf),fun f hf=>h.txt f (List.mem_of_mem_take hf)⟩
theorem xGA (t p:Tab) (ht:t.Ok) (hp:p.Ok) (ix:Int) (fa ke:List Fc) (hf:FOk fa) (hk:FOk ke) (n u:Int):xkc t.n (t.cols.map xKR) (t.key.map encN) (t.fos.map xKS) t.chk p.n (p.cols.map xKR) (p.key.map encN) (p.fos.map xKS) p.chk ix (fa.map encF) (ke.map encF) n u=some true:=by
 obtain ⟨b,be,hb⟩:=xGD t p ht hp ix fa ke hf hk;unfold xkc xim xeq;simp only [be,zk,zh,xab,sUF];cases b with
 | false=>rfl
 | true =>
  obtain ⟨lo,hi,fl,fr,kl,kr⟩:=hb rfl;obtain ⟨i,rfl⟩:∃ i:Nat,ix=(i:Int):=⟨ix.toNat,by omega⟩
  have i3:i<t.fos.length:=by omega
  have gt:(t.fos.map xKS).getD i .top=xKS t.fos[i]:=xaa _ _ _ i3;have J:=(ht.fc _ (zo i3)).1;have one:∀ fa ke:List Fc,FOk fa->FOk ke->fa.length<=14->(∀ f,f∈fa->f.r.length<=60)->ke.length<=14->∃ (B:List Fc) (D:List Row),xcH (t.fos[i].cols.map encN) t.fos[i].t (fa.map encF) p.n (p.cols.map xKR) (p.key.map encN) (p.fos.map xKS) p.chk (ke.map encF)=some (B.map encF)/\xmr (B.map encF) u=some (D.map encR)/\D.length=fa.countP fun x=>xKx t.fos[i].cols p.key ke x u:=fun fa ke hf hk fl fr kl=>by
   obtain ⟨B,M,b1,b2,b3,b4⟩:=xF4 p hp t.fos[i] J fa ke hf hk fl fr kl;have O:=xID fl kl b4 b3;obtain ⟨D,d1,d2⟩:=xJZ fr b4 b3 (by omega) u
   exact ⟨B,D,b1,d1,d2⟩
  obtain ⟨B,D,b1,b2,b3⟩:=one fa ke hf hk fl fr kl;obtain ⟨B1,D1,c1,c2,c3⟩:=one (fa.take n.toNat) ke (hf.take _) hk (by rw [zt];omega) (fun f h=>fr f (List.mem_of_mem_take h)) kl
  obtain ⟨B2,D2,d1,d2,d3⟩:=one fa (ke.take n.toNat) hf (hk.take _) fl fr (by rw [zt];omega)
  have m1:=xEL t.fos[i].cols p.key fa ke n.toNat u;have m2:=xEI t.fos[i].cols p.key fa ke n.toNat u;rw [<-b3,<-c3] at m1;rw [<-b3,<-d3] at m2;have g1:¬ ((D1.length:Nat):Int)>(D.length:Int):=by omega
  have g2:((D2.length:Nat):Int)>=(D.length:Int):=by omega
  simp only [xhu,xhv,xhw,xhy,xhz,xhA,lo,hi,i3,gt,cFo0,cFo1,lFo,sFo,AV.toList,AV.toStr,xIe,b1,b2,c1,c2,d1,d2,za,g1,g2,zN,beq_self_eq_true,zn,zm,zS,Bool.not_true,zk,zh,xab,xac,sUF];have q:br (decide (n<0)) (some true) (br (decide (n>=(ke.length:Int))) (some true) (br (decide (0<=n)&&decide (n<=(ke.length:Int))) (some true) none))=some true:=by
   by_cases h1:n<0
   . simp [h1,xab,sUF]
   . by_cases h2:n>=(ke.length:Int)
     . simp [h1,h2,xab,xac,sUF]
     . have h3:0<=n:=by omega
       have h4:n<=(ke.length:Int):=by omega
       simp [h1,h2,h3,h4,xab,xac,sUF]
  rw [q];by_cases h1:n>=0
  . by_cases h2:n<(fa.length:Int)
    . have h3:0<=n:=h1;have h4:n<=(fa.length:Int):=by omega
      simp [h1,h2,h3,h4,xab,sUF]
    . simp only [h1,h2,zn,zm,xab,xac,sUF]
  . simp only [h1,zm,xac,sUF]
end Go.Sim.M
end
noncomputable section
set_option maxRecDepth 10000
namespace Go.Sim
open Go.RowKit
theorem M.card_grows (c:M.Cas) (a b:Int) (w0:c.wf) (_:I64 a) (_:I64 b) (hb:(AV.agg [.str c.t.n,.list 3 (c.t.cols.map M.xKR),.list 1 (c.t.key.map M.encN),.list 2 (c.t.fos.map M.xKS),.list 7 c.t.chk,.str c.p.n,.list 3 (c.p.cols.map M.xKR),.list 1 (c.p.key.map M.encN),.list 2 (c.p.fos.map M.xKS),.list 7 c.p.chk,.int .i64 c.ix,.list 3 (c.fa.map M.encF),.list 3 (c.ke.map M.encF)]).wt+(AV.int .i64 a).wt+(AV.int .i64 b).wt<=1048576):M.xkc c.t.n (c.t.cols.map M.xKR) (c.t.key.map M.encN) (c.t.fos.map M.xKS) c.t.chk c.p.n (c.p.cols.map M.xKR) (c.p.key.map M.encN) (c.p.fos.map M.xKS) c.p.chk c.ix (c.fa.map M.encF) (c.ke.map M.encF) a b=some true :=
 M.xGA c.t c.p (M.cas_wt c w0 (by rw [Nat.add_assoc] at hb;exact hb)).1 (M.cas_wt c w0 (by rw [Nat.add_assoc] at hb;exact hb)).2.1 c.ix c.fa c.ke (M.cas_wt c w0 (by rw [Nat.add_assoc] at hb;exact hb)).2.2.1 (M.cas_wt c w0 (by rw [Nat.add_assoc] at hb;exact hb)).2.2.2 a b
end Go.Sim
end
noncomputable section
set_option maxRecDepth 10000
namespace Go.Proofs.YtnbckejindjgaaaGreatDoor.foreignGrows
open Go.ChangeShapes Go.WideShapes Go.ChangeAt Go.RowKit Go.Sim
theorem contract (H:Type) (enc:TypeId×Value->H) (W:World) (base:Nat) (args:Array Value) (ds gs:List (DataW H)) (before:List MemPlace)
  (hval:∀ (j:Nat) t v,Tryz.f7.params[j]?=some t->args[j]?=some v->Value.okWide Tryz.prog W .any base t v)
  (hW:DataW.Whole enc Tryz.prog Tryz.f7.params.toList Rows.foreignGrowsSpec.vars false W args.toList ds gs before) (hL:laidMetH Tryz.prog Rows.foreignGrowsUptoRow.laid W) (hsh:W.ShapedOpen Tryz.prog) (hbulk:Rows.uptoBulkAll (ds++gs)<=1048576) :
  Calls Tryz.prog 7 args W fun e W'=>∃ v,e=.returned v/\Rows.foreignGrowsSpec.post enc Tryz.prog Tryz.f7 false true false false W args v W':=by
 have hW':=hW;obtain ⟨p,q,hA0,hV,rfl,hfz,hnd⟩:=hW;have hA:DataW.TrodAll enc Tryz.prog W 0 (fun _=>true) true Tryz.f7.params.toList args.toList ds p:=hA0
 have hAk:=hA;rw [Tryz.params7] at hA hval;obtain ⟨v0,vs0,d0,ds0,p0,q0,hargs,rfl,rfl,h0,r0⟩:=trodAll_cons hA;obtain ⟨v1,vs1,d1,ds1,p1,q1,rfl,rfl,rfl,h1,r1⟩:=trodAll_cons r0;obtain ⟨v2,vs2,d2,ds2,p2,q2,rfl,rfl,rfl,h2,r2⟩:=trodAll_cons r1;obtain ⟨rfl,rfl,rfl⟩:=trodAll_nil r2;obtain rfl:args=#[v0,v1,v2]:=by cases args;simp_all
 obtain ⟨rfl,rfl⟩:=trodVars_none hV;obtain ⟨a0,rr0,b0,w0⟩:=xGK (hval 0 30 v0 rfl rfl) h0;obtain ⟨a1,rr1,b1,w1⟩:=xCj (hval 1 3 v1 rfl rfl) h1;obtain ⟨a2,rr2,b2,w2⟩:=xCj (hval 2 3 v2 rfl rfl) h2;clear hA0;have hbulk:((.agg [.str a0.t.n,.list 3 (a0.t.cols.map M.xKR),.list 1 (a0.t.key.map M.encN),.list 2 (a0.t.fos.map M.xKS),.list 7 a0.t.chk,.str a0.p.n,.list 3 (a0.p.cols.map M.xKR),.list 1 (a0.p.key.map M.encN),.list 2 (a0.p.fos.map M.xKS),.list 7 a0.p.chk,.int .i64 a0.ix,.list 3 (a0.fa.map M.encF),.list 3 (a0.ke.map M.encF)]):AV).wt+(.int .i64 a1:AV).wt+(.int .i64 a2:AV).wt<=1048576:=by
  rw [List.append_nil,xpu] at hbulk;simp only [List.map_cons,List.map_nil,List.sum_cons,List.sum_nil] at hbulk;have:=b0 _ xvk;have:=b1 _ xvk;have:=b2 _ xvk;omega
 have hI:xMv W:=xKa rfl (by kernel_rfl) hL hsh
 have hpl:=M.card_grows a0 a1 a2 w0 w1 w2 hbulk;have hg:Sim.Good Tryz.prog xMv 7 [(.agg [.str a0.t.n,.list 3 (a0.t.cols.map M.xKR),.list 1 (a0.t.key.map M.encN),.list 2 (a0.t.fos.map M.xKS),.list 7 a0.t.chk,.str a0.p.n,.list 3 (a0.p.cols.map M.xKR),.list 1 (a0.p.key.map M.encN),.list 2 (a0.p.fos.map M.xKS),.list 7 a0.p.chk,.int .i64 a0.ix,.list 3 (a0.fa.map M.encF),.list 3 (a0.ke.map M.encF)]),.int .i64 a1,.int .i64 a2] (.bool true):=M.xt5 _ _ (congrArg (fun x:Option Bool=>some (x.isSome,AV.bool (x.getD false))) hpl)
 have hrc:RC W (fun _=>False) xL1 [v0,v1,v2] [(.agg [.str a0.t.n,.list 3 (a0.t.cols.map M.xKR),.list 1 (a0.t.key.map M.encN),.list 2 (a0.t.fos.map M.xKS),.list 7 a0.t.chk,.str a0.p.n,.list 3 (a0.p.cols.map M.xKR),.list 1 (a0.p.key.map M.encN),.list 2 (a0.p.fos.map M.xKS),.list 7 a0.p.chk,.int .i64 a0.ix,.list 3 (a0.fa.map M.encF),.list 3 (a0.ke.map M.encF)]),.int .i64 a1,.int .i64 a2]:=by
  refine ⟨rfl,fun i hi=>?_⟩
  match i,hi with
  | 0,_=>exact rr0
  | 1,_=>exact rr1
  | 2,_=>exact rr2
 refine (hg.2 W (fun _=>False) _ hI (fun _ h=>h.elim) hrc).mono fun e W' ⟨v,he,hb,hr⟩=>?_
 subst he;obtain rfl:=hr.bool_inv;exact ⟨_,rfl,xGM rfl hW' ⟨rfl,rfl,rfl⟩ rfl Tryz.underlying4 (by simpa using xuC xLw hb (by kernel_rfl) hAk) hb⟩
noncomputable def wit:Array Value:=#[.agg #[.string ⟨#[]⟩,.slice none 0 0,.slice none 0 0,.slice none 0 0,.slice none 0 0,.string ⟨#[]⟩,.slice none 0 0,.slice none 0 0,.slice none 0 0,.slice none 0 0,.int .i64 0,.slice none 0 0,.slice none 0 0],.int .i64 0,.int .i64 0]
theorem laid_met (os:Os):laidMet Tryz.prog Rows.foreignGrowsUptoRow.laid ((xLh Tryz.prog Rows.foreignGrowsUptoRow.laid os).forCall (fun _ _=>0) ⟨#[],wit,[]⟩).memory :=
 laidMet_of_run3 8 (by kernel_rfl) (by kernel_rfl) (by kernel_rfl)
theorem reads (os:Os) {H:Type} (enc:TypeId×Value->H):∃ places,DataW.whole enc Tryz.prog ((xLh Tryz.prog Rows.foreignGrowsUptoRow.laid os).forCall (fun _ _=>0) ⟨#[],wit,[]⟩).memory Tryz.f7.params.toList Rows.foreignGrowsSpec.vars false wit.toList 8=some ([.agg [.agg [.lit (.string []),.nil,.nil,.nil,.nil],.agg [.lit (.string []),.nil,.nil,.nil,.nil],.lit (.int .i64 0),.nil,.nil],.lit (.int .i64 0),.lit (.int .i64 0)],[],places) :=
 ⟨[],by kernel_rfl⟩
set_option maxRecDepth 100000 in
theorem lifted (os:Os) (started:os.Started) (H:Type) (enc:TypeId×Value->H) (F:Stop.Interp) :
  ReturnsInHanded {} Tryz.checked os 7 .any ((Rows.OpenSpec.upto Rows.foreignGrowsSpec).preRow enc Tryz.prog Tryz.f7 Rows.foreignGrowsUptoRow.domain false Rows.foreignGrowsUptoRow.laid) (((Rows.OpenSpec.upto Rows.foreignGrowsSpec).at F).post enc Tryz.prog Tryz.f7 false true false false):=by
 obtain ⟨places,hx⟩:=reads os enc;refine returnsInHanded_of_row (C:=Tryz.checked) (s:=Rows.OpenSpec.upto Rows.foreignGrowsSpec) xLE started (by kernel_rfl) Tryz.func7
  (witness_row_at (enc:=enc) (C:=Tryz.checked) false (xLh Tryz.prog Rows.foreignGrowsUptoRow.laid os) wit rfl (by kernel_rfl) (by kernel_rfl) (by kernel_rfl)
   (OpenSpec.preRow_of_cond 8 hx (by kernel_rfl) (fun k hk=>by cases hk;kernel_rfl) (by kernel_rfl) (laid_met os))) ?_
 intro W base args ds gs before hval hW _ hcond _ hL hsh _;exact contract H enc W base args ds gs before hval hW hL hsh (of_decide_eq_true (hcond _ rfl))
theorem said:Rows.ForeignGrowsUptoSaid :=
 OpenClaim.holds_of_cond 7 Tryz.f7 rfl rfl rfl rfl rfl rfl rfl ⟨rfl,rfl,rfl,rfl,rfl⟩ rfl rfl rfl rfl rfl (by kernel_rfl) Tryz.func7 (by kernel_rfl)
  (of_decide_eq_true (by kernel_rfl)) (by unfold Func.isWrapper;first|(rw [if_pos (by decide +kernel)];kernel_rfl)|(rw [if_neg (by decide +kernel)];exact ⟨rfl,rfl⟩))
  (fun os started H enc _ F=>by rw [OpenClaim.pre_eq_preRow];exact lifted os started H enc F)
theorem plain (f:FuncId) (fn:Func) (hf:Tryz.pinned.checked.prog.funcNamed "bitemporal/bitemporallaw44.ForeignGrows" = some f) (hfn:Tryz.pinned.checked.prog.funcs[f]?=some fn) :
  false=Tryz.pinned.checked.prog.looks []/\∀ (j:Nat) t,fn.params[j]?=some t->Tryz.pinned.checked.prog.wantsStandIn t=false:=by
 obtain rfl:f=7:=Option.some.inj ((show Tryz.prog.funcNamed "bitemporal/bitemporallaw44.ForeignGrows" = some 7 by kernel_rfl).symm.trans hf) |>.symm
 obtain rfl:fn=Tryz.f7:=(Option.some.inj (Tryz.func7.symm.trans hfn)).symm;refine ⟨by kernel_rfl,fun j t ht=>?_⟩
 rw [Tryz.params7] at ht;have hm:=Array.mem_of_getElem? ht;have:([30,3,3]:List Nat).all (fun t=>!(Tryz.prog.wantsStandIn t))=true:=by kernel_rfl
 have:=List.all_eq_true.1 this t (by simpa using hm)
 show Tryz.prog.wantsStandIn t=false;simpa using this
theorem card:Rows.ForeignGrowsUptoCardSaid :=
 Claim7.holds_tied_plain_at .later [] _ _ _ _ said (fun _ h=>by cases h) (by kernel_rfl) (fun _ h=>by cases h) foreignGrowsUpto_row_tie rfl ⟨rfl,rfl⟩ (by kernel_rfl) rfl plain (by kernel_rfl)
end Go.Proofs.YtnbckejindjgaaaGreatDoor.foreignGrows
end
