/- Part 16 of the proof of the law. -/
import Derived.Test.YtnbckejindjgaaaGreatDoorQD15
import Derived.Lib.ItoaLen
set_option linter.unusedVariables false
set_option linter.unusedSimpArgs false
set_option linter.unusedSectionVars false
noncomputable section
set_option maxRecDepth 100000
namespace Go.Sim.M
open Go.RowKit Go.Sim.Srt
def rdD (l:List UInt8):Nat:=l.foldl (fun a c=>a*10+(c.toNat - 48)) 0
theorem xEz (u:Nat):∀ c,c∈Lib.decDigits u->48<=c.toNat/\c.toNat<=57:=by
 induction u using Nat.strongRecOn with
 | _ u ih =>
  intro c hc;rw [Lib.decDigits] at hc;split at hc
  . rw [zv] at hc;subst hc;rw [UInt8.toNat_ofNat'];omega
  . rw [zG,zv] at hc;rcases hc with hc|rfl
    . exact ih (u / 10) (by omega) c hc
    . rw [UInt8.toNat_ofNat'];omega
theorem xHC (u:Nat):rdD (Lib.decDigits u)=u:=by
 induction u using Nat.strongRecOn with
 | _ u ih =>
  rw [Lib.decDigits];split
  . simp only [rdD,List.foldl_cons,List.foldl_nil,UInt8.toNat_ofNat'];omega
  . have:=ih (u / 10) (by omega)
    unfold rdD at this |-;rw [List.foldl_append,this];simp only [List.foldl_cons,List.foldl_nil,UInt8.toNat_ofNat'];omega
theorem xEA {u v:Nat} (h:Lib.decDigits u=Lib.decDigits v):u=v:=by rw [<-xHC u,h,xHC]
theorem xyq {a b:Int} (h:Lib.itoa a=Lib.itoa b):a=b:=by
 unfold Lib.itoa at h;have k:∀ u v:Nat,45::Lib.decDigits u≠Lib.decDigits v:=fun u v e=>by
  have:=xEz v 45 (by rw [<-e];simp)
  have t:(45:UInt8).toNat=45:=rfl;omega
 split at h<;>split at h
 . have:=xEA (List.cons.inj h).2;omega
 . exact absurd h (k _ _)
 . exact absurd h.symm (k _ _)
 . have:=xEA h;omega
theorem xr1 (a:Int):(32:UInt8)∉Lib.itoa a:=by
 have k:∀ v:Nat,(32:UInt8)∉Lib.decDigits v:=fun v e=>by
  have:=xEz v 32 e;have t:(32:UInt8).toNat=32:=rfl;omega
 unfold Lib.itoa;split
 . rw [zC];rintro (h|h)
   . simp at h
   . exact k _ h
 . exact k _
theorem xy4:∀ {a b x y:List UInt8},(32:UInt8)∉a->(32:UInt8)∉b->a++32::x=b++32::y->a=b/\x=y
 | [],[],x,y,_,_,h=>⟨rfl,(List.cons.inj h).2⟩
 | [],c::b,x,y,_,hb,h=>absurd (List.cons.inj h).1 fun e=>hb (by rw [e];simp)
 | c::a,[],x,y,ha,_,h=>absurd (List.cons.inj h).1 fun e=>ha (by rw [<-e];simp)
 | c::a,d::b,x,y,ha,hb,h=>by
  obtain ⟨e1,h⟩:=List.cons.inj h;obtain ⟨e2,e3⟩:=xy4 (a:=a) (b:=b) (fun e=>ha (by simp [e])) (fun e=>hb (by simp [e])) h
  exact ⟨by rw [e1,e2],e3⟩
def keyV (v:Val):List UInt8:=Lib.itoa v.k++32::(Lib.itoa v.i++32::(Lib.itoa (v.t.length:Int)++32::v.t))
def keyOf (r:Row):List UInt8:=r.flatMap keyV
theorem xys (v:Val) (s:List UInt8):keyV v++s=Lib.itoa v.k++32::(Lib.itoa v.i++32::(Lib.itoa (v.t.length:Int)++32::(v.t++s))):=by simp [keyV]
theorem xlm (v:Val) (r:Row):keyOf (v::r)=keyV v++keyOf r:=by simp [keyOf]
theorem xz8 (v:Val) (s:List UInt8):keyV v++s≠[]:=by rw [xys];simp
theorem xz9:∀ {r r':Row},keyOf r=keyOf r'->r=r'
 | [],[],_=>rfl
 | [],v::r',h=>by rw [xlm] at h;exact absurd h.symm (xz8 _ _)
 | v::r,[],h=>by rw [xlm] at h;exact absurd h (xz8 _ _)
 | v::r,v'::r',h=>by
  rw [xlm,xlm,xys,xys] at h;obtain ⟨h1,h⟩:=xy4 (xr1 _) (xr1 _) h;obtain ⟨h2,h⟩:=xy4 (xr1 _) (xr1 _) h;obtain ⟨h3,h⟩:=xy4 (xr1 _) (xr1 _) h;have h3:=xyq h3;obtain ⟨h4,h⟩:=List.append_inj h (by omega)
  obtain rfl:=xz9 h;have:v=v':=by
   obtain ⟨k,i,t⟩:=v;obtain ⟨k',i',t'⟩:=v';obtain rfl:=xyq h1;obtain rfl:=xyq h2;subst h4;rfl
  rw [this]
theorem xL7 {n:Int} (h:(Lit.int .i64 n).wf=true):-9223372036854775808<=n/\n<=9223372036854775807:=by
 have h:(decide ((IntKind.i64).min<=n)&&decide (n<=(IntKind.i64).max))=true:=h;rw [zf,zl,zl] at h;exact h
theorem xyt {v:Val} (hw:v.wf) (ht:v.t.length<=1099511627776):(keyV v).length<=66+v.t.length:=by
 obtain ⟨w1,w2,_⟩:=hw;have a1:=Lib.itoa_length_le v.k (xL7 w1).1 (xL7 w1).2;have a2:=Lib.itoa_length_le v.i (xL7 w2).1 (xL7 w2).2;have a3:=Lib.itoa_length_le (v.t.length:Int) (by omega) (by omega)
 simp only [keyV,z8,zF];omega
theorem xAt (s B:List UInt8) (h:(B++s).length<=140737488355328):xaj s B.length (byteAVs B)=some ((s.length:Int),(B++s).length,byteAVs (B++s)):=by
 rw [z8] at h;have h2:B.length+s.length<=4611686018427387904:=by omega
 unfold xaj xdr;simp only [xli,beq_self_eq_true,Nat.mul_one,h,h2,zn,Bool.and_self,xab,xue,z8,sUF]
theorem xDy (B:List UInt8) (h:(B++[32]).length<=140737488355328):xcJ 32 B.length (byteAVs B)=some ((B++[32]).length,byteAVs (B++[32])):=by
 rw [z8,zj] at h;have h2:B.length+1<=4611686018427387904:=by omega
 unfold xcJ xd2;simp only [xli,beq_self_eq_true,Nat.mul_one,h,h2,zn,Bool.and_self,xab,xue,z8,zj,sUF];rfl
def numI (n:Int):List UInt8:=Lib.itoa n++[32]
theorem xFw (t8:List AV) (t9 q:Int) (xs:List AV) (hx:xs.length=3) (j:Nat) (hj:j<3) (n:Int) (hn:xs.getD j .top=.int .i64 n) (h1:-9223372036854775808<=n) (h2:n<=9223372036854775807) (v0 v1:Int) (v2 B:List UInt8) (hB:B.length<=70368744177664) :
  xaO t8 t9 q 3 3 ((j:Int),B.length,v0,v1,v2,xs,byteAVs B)=some (.inl (((j+1:Nat):Int),(B++numI n).length,v0,v1,v2,xs,byteAVs (B++numI n))):=by
 have hl:=Lib.itoa_length_le n h1 h2;have i1:(j:Int)<3:=by omega
 have i2:(j:Int)<((3:Nat):Int):=by omega
 have i3:j<xs.length:=by omega
 have e1:=xAt (Lib.itoa n) B (by rw [z8];omega)
 have e2:=xDy (B++Lib.itoa n) (by rw [z8,z8,zj];omega)
 have hc:((AV.int IntKind.i64 n).cells.getD 0 .top).toInt=n:=rfl;have hs:xMK (Sh.int IntKind.i64) ((AV.int IntKind.i64 n).cells.getD 0 .top)=true:=rfl;simp only [xaO,xhy,xkC,xkD,xkE,xeN,sBU,i1,i2,i3,hn,hc,hs,h1,h2,e1,e2,xLP (n:=j) (by omega),numI,zw]
theorem xJC (t8:List AV) (t9 q:Int) (xs:List AV) (v0 v1:Int) (v2 B:List UInt8):xaO t8 t9 q 3 3 (((3:Nat):Int),B.length,v0,v1,v2,xs,byteAVs B)=some (.inr (B.length,v0,v1,v2,byteAVs B)):=by
 have i1:¬ ((3:Nat):Int)<3:=by omega
 simp only [xaO,xhy,i1,zm,xac,sUF]
theorem xyu (v:Val):keyV v=numI v.k++(numI v.i++(numI (v.t.length:Int)++v.t)):=by simp [keyV,numI]
def KOk (v:Val):Prop:=v.wf/\v.t.length<=1099511627776
theorem KOk.len {v:Val} (h:KOk v):(keyV v).length<=1099511627842:=by have:=xyt h.1 h.2;have:=h.2;omega
theorem xEL (t8:List AV) (t9 q:Int) (v:Val) (h:KOk v) (B:List UInt8) (hB:B.length<=35184372088832) :
  Iter (xaO t8 t9 q 3 3) ((1:Int),(B++numI v.k).length,v.k,v.i,v.t,[AV.int .i64 v.k,AV.int .i64 v.i,AV.int .i64 (v.t.length:Int)],byteAVs (B++numI v.k))=some ((B++numI v.k++numI v.i++numI (v.t.length:Int)).length,v.k,v.i,v.t,byteAVs (B++numI v.k++numI v.i++numI (v.t.length:Int))):=by
 have hl:=h.len;have ht:=h.2;rw [xyu,z8,z8,z8] at hl;have e1:=xFw t8 t9 q [AV.int .i64 v.k,AV.int .i64 v.i,AV.int .i64 (v.t.length:Int)] rfl 1 (by omega) v.i rfl (xL7 h.1.2.1).1 (xL7 h.1.2.1).2 v.k v.i v.t (B++numI v.k) (by rw [z8];omega)
 have e2:=xFw t8 t9 q [AV.int .i64 v.k,AV.int .i64 v.i,AV.int .i64 (v.t.length:Int)] rfl 2 (by omega) (v.t.length:Int) rfl (by omega) (by omega) v.k v.i v.t (B++numI v.k++numI v.i) (by rw [z8,z8];omega)
 exact (xam e1).trans ((xam e2).trans (xad (xJC ..)))
theorem xK8 (t8:List AV) (t9 q:Int) (v:Val) (h:KOk v) (B:List UInt8) (hB:B.length<=35184372088832) :
  Iter (xaO t8 t9 q 3 3) ((0:Int),B.length,v.k,v.i,v.t,[AV.int .i64 v.k,AV.int .i64 v.i,AV.int .i64 (v.t.length:Int)],byteAVs B)=some ((B++numI v.k++numI v.i++numI (v.t.length:Int)).length,v.k,v.i,v.t,byteAVs (B++numI v.k++numI v.i++numI (v.t.length:Int))):=by
 have e0:=xFw t8 t9 q [AV.int .i64 v.k,AV.int .i64 v.i,AV.int .i64 (v.t.length:Int)] rfl 0 (by omega) v.k rfl (xL7 h.1.1).1 (xL7 h.1.1).2 v.k v.i v.t B (by omega)
 exact (xam e0).trans (xEL t8 t9 q v h B hB)
theorem xHh (r:Row) (hr:r.length<=1048576) (h:∀ v,v∈r->KOk v) (hk:(keyOf r).length<=17592186044416):∀ d k:Nat,k+d=r.length->Iter (xcw (r.map encV) ((r.length:Nat):Int)) ((k:Int),(keyOf (r.take k)).length,byteAVs (keyOf (r.take k)))=some ((keyOf r).length,byteAVs (keyOf r))
 | 0,k,hkk=>by
  obtain rfl:k=r.length:=by omega
  rw [y7];refine xad ?_;simp only [xcw,xhw,zy,zm,xac,sUF]
 | d+1,k,hkk=>by
  have q:k<r.length:=by omega
  have hv:=h r[k] (zo q);have i1:(k:Int)<(r.length:Int):=by omega
  have gf:(r.map encV).getD k .top=encV r[k]:=xaa _ _ _ q;have tk:keyOf (r.take (k+1))=keyOf (r.take k)++keyV r[k]:=by
   unfold keyOf;rw [List.take_add_one,ze q,List.flatMap_append];simp
  have le:(keyOf (r.take (k+1))).length<=(keyOf r).length:=by
   conv=>rhs;rw [<-List.take_append_drop (k+1) r]
   unfold keyOf;rw [List.flatMap_append,z8];omega
  have hl:=hv.len;rw [tk,z8] at le;have e1:=xK8 (r.map encV) (r.length:Int) (k:Int) r[k] hv (keyOf (r.take k)) (by omega)
  have kn:keyOf (r.take k)++keyV r[k]=keyOf (r.take k)++numI r[k].k++numI r[k].i++numI (r[k].t.length:Int)++r[k].t:=by rw [xyu];simp only [zw]
  have e2:=xAt r[k].t (keyOf (r.take k)++numI r[k].k++numI r[k].i++numI (r[k].t.length:Int)) (by rw [<-kn,z8];omega)
  rw [xam (s':=(((k+1:Nat):Int),(keyOf (r.take (k+1))).length,byteAVs (keyOf (r.take (k+1))))) ?_]
  . exact xHh r hr h hk d (k+1) (by omega)
  . rw [tk,kn];simp only [xcw,xhw,xkw,xky,xkz,xkA,xkB,sBU,q,i1,gf,cV0,cV1,cV2,lV,sV,e1,e2,xLP (n:=k) (by omega)]
theorem xHi (r:Row) (hr:r.length<=1048576) (h:∀ v,v∈r->KOk v) (hk:(keyOf r).length<=17592186044416):xhP (r.map encV)=some (keyOf r):=by
 match r with
 | []=>rfl
 | v::t =>
  have hv:=h v (by simp)
  have hl:=hv.len;have i1:(0:Int)<((t.length+1:Nat):Int):=by omega
  have i2:0<t.length+1:=by omega
  obtain ⟨r1,r2⟩:=xL7 hv.1.1;have q:=Lib.itoa_length_le v.k r1 r2;have gf:((v::t).map encV).getD 0 .top=encV v:=rfl;have e0:xaq (Lib.itoa v.k)=some (((Lib.itoa v.k).length:Int),(Lib.itoa v.k).length,byteAVs (Lib.itoa v.k)):=by
   have m1:(Lib.itoa v.k).length<=140737488355328:=by omega
   have m2:(Lib.itoa v.k).length<=4611686018427387904:=by omega
   unfold xaq xdP;simp only [xli,Nat.mul_one,m1,m2,zn,Bool.and_self,xab,sUF]
  have e1:xeF 32 (Lib.itoa v.k).length (byteAVs (Lib.itoa v.k))=some (([]++numI v.k).length,byteAVs ([]++numI v.k)):=xDy (Lib.itoa v.k) (by rw [z8,zj];omega)
  have e2:=xEL ((v::t).map encV) ((t.length+1:Nat):Int) 0 v hv [] (by simp)
  have kn:keyV v=[]++numI v.k++numI v.i++numI (v.t.length:Int)++v.t:=by rw [xyu];simp
  have e3:=xAt v.t ([]++numI v.k++numI v.i++numI (v.t.length:Int)) (by rw [<-kn];omega)
  rw [<-kn] at e3;have e4:=xHh (v::t) hr h hk t.length 1 (by rw [zF];omega)
  have tk:keyOf ((v::t).take 1)=keyV v:=by simp [keyOf]
  rw [tk,zF] at e4;have e4:Iter (xcw ((v::t).map encV) ((t.length+1:Nat):Int)) ((1:Int),(keyV v).length,byteAVs (keyV v))=_:=e4;have hne:(keyOf (v::t)).length≠0:=fun e=>xz8 v (keyOf t) (by rw [<-xlm];exact List.length_eq_zero_iff.1 e)
  unfold xhP xpf xgM xnA xnB xnC xnD xnE xnF xnG xnH xnI xcf;simp only [za,zF,i1,i2,gf,cV0,cV1,cV2,lV,sV,r1,r2,e0,e1,e2,e3,e4,zn,xab,Bool.and_self,beq_self_eq_true,zk,zh,xli,xzf,xBU,ne_eq,hne,not_false_eq_true,sUF]
end Go.Sim.M
end
noncomputable section
set_option maxRecDepth 100000
namespace Go.Sim.M
open Go.RowKit
theorem xkP {σ ρ α β:Type} {step:σ->Option (σ⊕ρ)} (l:List α) (g:α->List β) (st:Nat->List β->σ) (rr:List β->ρ) (D0:List β) (c:Nat) (hc:∀ a,a∈l->(g a).length<=c)
  (hs:∀ (n:Nat) (h:n<l.length) (D:List β),D.length<=D0.length+c*n->step (st n D)=some (.inl (st (n+1) (D++g l[n]))))
  (he:∀ D:List β,step (st l.length D)=some (.inr (rr D))):Iter step (st 0 D0)=some (rr (D0++l.flatMap g)):=by
 have key:∀ (d n:Nat) (D:List β),n+d=l.length->D.length<=D0.length+c*n->Iter step (st n D)=some (rr (D++(l.drop n).flatMap g)):=by
  intro d;induction d with
  | zero =>
   intro n D h hD;have:n=l.length:=by omega
   subst this;rw [zq (zd _),List.flatMap_nil,zD];exact xad (he D)
  | succ d ih =>
   intro n D h hD;have hn:n<l.length:=by omega
   have h2:(D++g l[n]).length<=D0.length+c*(n+1):=by
    rw [z8,Nat.mul_add,Nat.mul_one];have:=hc l[n] (zo hn);omega
   rw [xam (hs n hn D hD),ih (n+1) (D++g l[n]) (by omega) h2,xaG hn,zR,zw]
 have:=key l.length 0 D0 (by omega) (by simp)
 simpa using this
theorem xtA {α β:Type} [Nonempty β] {l:List α} {Q:α->β->Prop} (h:∀ a,a∈l->∃ b,Q a b):∃ L:α->β,∀ a,a∈l->Q a (L a):=by
 classical
 refine ⟨fun a=>if ha:a∈l then (h a ha).choose else Classical.choice inferInstance,fun a ha=>?_⟩
 simp only [dif_pos ha];exact (h a ha).choose_spec
theorem xym {α β:Type} (g:α->List β) (f:α->β) (p:α->Bool) (h:∀ a,g a=if p a=true then [f a] else []):∀ l:List α,l.flatMap g=(l.filter p).map f
 | []=>rfl
 | a::l=>by
  rw [zR,xym g f p h l,h a,List.filter_cons];cases p a<;>simp
theorem xEU (row:Row) (i:Int):xi2 (row.map encV) i=some (trip (atV row i)):=xCd row i
theorem xv8 (row:Row) (l:List Int) (hl:l.length<=1048576):Iter (xdz (row.map encV) (l.map encN)) ((0:Nat),(0:Int),[])=some ((l.flatMap (fun (f:Int)=>[atV row f])).length,(l.flatMap (fun (f:Int)=>[atV row f])).map encV):=by
 refine xiV l (fun (f:Int)=>[atV row f]) encV 1 (fun f hf=>?_) (fun n h D hD=>?_) (fun D=>?_)
 . simp
 . have h1:(n:Int)<(l.length:Int):=by omega
   have m1:(D.length+1)*32<=140737488355328:=by omega
   have m2:D.length+1<=4611686018427387904:=by omega
   have gf:(l.map encN).getD n .top=encN l[n]:=xaa _ _ _ h;simp only [xdz,xke,xi5,xi6,sBU,h,h1,gf,cN,sN,xEU,trip,m1,m2,xLP (n:=n) (by omega)]
   simp [encV]
 . simp only [xdz,xke,xi5,xi6,za,zy,zm,xac,sUF]
theorem xBm (row:Row) (ks:List Int) (hk:ks.length<=1048576):xi4 (row.map encV) (ks.map encN)=some ((pick row ks).map encV):=by
 have e:=xv8 row ks hk;rw [xMc] at e;change Iter _ _=some ((pick row ks).length,(pick row ks).map encV) at e;have tt:List.take (pick row ks).length ((pick row ks).map encV)=(pick row ks).map encV:=zi (by simp)
 unfold xi4 xsq;simp only [xqU,xqV,xqW,za,e,zn,zS,xab,zk,zh,zH,zr,tt,zd,sUF]
theorem xIQ (row:Row) (ks:List Int) (hk:ks.length<=1048576):xmy (row.map encV) (ks.map encN)=some (xLU row ks):=by
 have e:=xs7 (step:=xbu (row.map encV) (ks.map encN)) ks (fun k=>(k:Int)) (fun i=>br ((atV row i).k==0) (some (true,true,())) none) (false,false,()) (fun k h=>by
  have h1:(k:Int)<(ks.length:Int):=by omega
  have gf:(ks.map encN).getD k .top=encN ks[k]:=xaa _ _ _ h;simp only [xbu,xkW,sBU,h,h1,gf,cN,sN,xEU,trip,xAh,xtc,xtb,xLP (n:=k) (by omega)]) (by
  simp only [xbu,xkW,za,zy,zm,xac,sUF]) ks.length 0 (by simp)
 rw [zr,xyl] at e;have e:Iter (xbu (row.map encV) (ks.map encN)) (0:Int)=_:=e;unfold xmy xte;rw [e];show _=some (ks.any fun i=>(atV row i).k==0)
 cases ks.any fun i=>(atV row i).k==0<;>rfl
theorem xyO (n:List UInt8) (cs fs ck:List AV) (key:List Int) (row:Row) (hk:key.length<=1048576):xeT n cs (key.map encN) fs ck (row.map encV)=some ((pick row key).map encV):=by
 unfold xeT xtX;rw [xBm row key hk];rfl
theorem xHF (cols:List Int) (t:List UInt8) (row:Row) (hk:cols.length<=1048576):xoL (cols.map encN) t (row.map encV)=some (!xLU row cols):=by
 unfold xoL xuu;rw [xIQ row cols hk];rfl
def Txt (r:Row):Prop:=∀ v,v∈r->v.wf/\v.t.length<=8388608
theorem Txt.at {r:Row} (h:Txt r) (i:Int):(atV r i).wf/\(atV r i).t.length<=8388608:=by
 unfold atV;split
 . exact ⟨⟨by decide,by decide,by simp [maxLen]⟩,by simp⟩
 . rw [z7];cases hg:r[i.toNat]? with
   | none=>exact ⟨⟨by decide,by decide,by simp [maxLen]⟩,by simp⟩
   | some v=>exact h v (List.mem_of_getElem? hg)
theorem xC1 {r:Row} {ks:List Int} {v:Val} (h:v∈pick r ks):∃ i,i∈ks/\v=atV r i:=by
 obtain ⟨i,hi,e⟩:=zK.1 h;exact ⟨i,hi,e.symm⟩
theorem Txt.kok {r:Row} (h:Txt r) (ks:List Int):∀ v,v∈pick r ks->KOk v:=fun v hv=>by
 obtain ⟨i,_,rfl⟩:=xC1 hv;have:=h.at i;exact ⟨this.1,by omega⟩
theorem xMq {c:Nat}:∀ {r:Row},(∀ v,v∈r->(keyV v).length<=c)->(keyOf r).length<=c*r.length
 | [],_=>by simp [keyOf]
 | v::r,h=>by
  have h1:=h v (by simp)
  have h2:=xMq (r:=r) fun x hx=>h x (by simp [hx])
  rw [xlm,z8,zF,Nat.mul_add,Nat.mul_one];omega
theorem Txt.len {r:Row} (h:Txt r) {ks:List Int} (hk:ks.length<=1048576):(keyOf (pick r ks)).length<=17592186044416:=by
 have h1:(keyOf (pick r ks)).length<=8388674*(pick r ks).length:=xMq fun v hv=>by
  obtain ⟨i,_,rfl⟩:=xC1 hv;have:=h.at i;have:=xyt this.1 (by omega)
  omega
 rw [xsi] at h1;omega
theorem xK0 (l:List AV):xfU l=xhP l:=rfl
theorem xG5 {r:Row} (h:Txt r) {ks:List Int} (hk:ks.length<=1048576):xfU ((pick r ks).map encV)=some (keyOf (pick r ks)):=by
 rw [xK0];exact xHi _ (by rw [xsi];exact hk) (h.kok ks) (h.len hk)
end Go.Sim.M
end
noncomputable section
set_option maxRecDepth 100000
namespace Go.Sim.M
open Go.RowKit Go.Sim.Srt
abbrev Asc (l:List Int):Prop:=l.Pairwise fun x y=>x<y
def insI:List Int->Int->List Int
 | [],n=>[n]
 | x::l,n=>if x<n then x::insI l n else if n<x then n::x::l else x::l
theorem xph:∀ (l:List Int) (n x:Int),x∈insI l n↔x=n\/x∈l
 | [],n,x=>by simp [insI]
 | y::l,n,x=>by
  unfold insI;split
  . rw [zC,xph l n x,zC];constructor<;>rintro (h|h|h)<;>simp [h]
  . split
    . simp
    . have:y=n:=by omega
      subst this;simp
theorem xsc:∀ {l:List Int},Asc l->∀ n,Asc (insI l n)
 | [],_,n=>by simp [insI,Asc]
 | y::l,h,n=>by
  obtain ⟨h1,h2⟩:=zM.1 h;unfold insI;split
  . refine zM.2 ⟨fun z hz=>?_,xsc h2 n⟩
    rcases (xph l n z).1 hz with rfl|hz
    . assumption
    . exact h1 z hz
  . split
    . rename_i hn;refine zM.2 ⟨fun z hz=>?_,h⟩
      rcases zC.1 hz with rfl|hz
      . exact hn
      . have:=h1 z hz;omega
    . exact h
theorem xiT:∀ (l:List Int) (n:Int),(insI l n).length<=l.length+1
 | [],n=>by simp [insI]
 | y::l,n=>by
  unfold insI;have:=xiT l n;repeat' split
  all_goals simp
  all_goals omega
theorem xyp (n:Int):∀ l:List Int,∃ m,m<=l.length/\(∀ k (h:k<m) (h2:k<l.length),l[k]<n)/\(∀ h:m<l.length,¬ l[m]<n)/\insI l n=l.take m++(if h:m<l.length then (if n<l[m] then n::l.drop m else l.drop m) else [n])
 | []=>⟨0,zd _,fun k h=>by omega,fun h=>by simp at h,by simp [insI]⟩
 | y::l=>by
  by_cases hy:y<n
  . obtain ⟨m,h1,h2,h3,h4⟩:=xyp n l;refine ⟨m+1,by simpa using h1,fun k h hk=>?_,fun h=>?_,?_⟩
    . cases k with
      | zero=>simpa using hy
      | succ k=>simpa using h2 k (by omega) (by simpa using hk)
    . simpa using h3 (by simpa using h)
    . unfold insI;rw [if_pos hy,h4];by_cases hm:m<l.length<;>simp [hm]
  . refine ⟨0,zQ _,fun k h=>by omega,fun _=>by simpa using hy,?_⟩
    unfold insI;rw [if_neg hy];by_cases h:n<y<;>simp [h]
structure StepI (N:Int->Int) (T:Int) (S:List Per):Prop where
 asc:S.Pairwise fun a b=>a.1<b.1
 mem:∀ s,s∈S↔0<=s.1/\s.1<T/\s.2=N s.1/\(s.1=0\/N (s.1 - 1)≠s.2)
 last:0<T->∃ S' f,S=S'++[(f,N (T - 1))]
theorem StepI.nil (N:Int->Int):StepI N 0 []:=⟨List.Pairwise.nil,fun s=>by simp;omega,fun h=>by omega⟩
def putS (S:List Per) (f n:Int):List Per:=match S.getLast? with
 | some s=>if s.2=n then S else S++[(f,n)]
 | none=>S++[(f,n)]
theorem StepI.unique {N:Int->Int} {T:Int} {S S':List Per} (h:StepI N T S) (h':StepI N T S'):S=S' :=
 xvu xH9 xs2 (h.asc.imp fun {x y} q=>by
  have h1:cmpP x y<=0:=xuf.2 (.inl q);by_cases h0:cmpP x y=0
  . have:=xs2 x y h0;subst this;omega
  . omega) (h'.asc.imp fun {x y} q=>by
  have h1:cmpP x y<=0:=xuf.2 (.inl q);by_cases h0:cmpP x y=0
  . have:=xs2 x y h0;subst this;omega
  . omega) fun s=>by rw [h.mem,h'.mem]
theorem StepI.put {N:Int->Int} {T T':Int} {S:List Per} (h:StepI N T S) (h0:0<=T) (q:T<T') (hc:∀ t,T<=t->t<T'->N t=N T):StepI N T' (putS S T (N T)):=by
 rcases Int.lt_or_eq_of_le h0 with hp|hz
 . obtain ⟨S',f,rfl⟩:=h.last hp;unfold putS;rw [List.getLast?_append];simp only [List.getLast?_singleton,Option.some_or];by_cases he:N (T - 1)=N T
   . rw [if_pos he];refine ⟨h.asc,fun s=>?_,fun _=>⟨S',f,by rw [he,hc (T' - 1) (by omega) (by omega)]⟩⟩
     rw [h.mem];constructor
     . rintro ⟨a,b,c,d⟩;exact ⟨a,by omega,c,d⟩
     . rintro ⟨a,b,c,d⟩;refine ⟨a,?_,c,d⟩;rcases Int.lt_or_le s.1 T with hs|hs
       . exact hs
       . exfalso;have e1:=hc s.1 hs b;rcases d with d|d
         . omega
         . rcases Int.lt_or_eq_of_le hs with h2|h2
           . have e2:=hc (s.1 - 1) (by omega) (by omega)
             exact d (by rw [e2,c,e1])
           . rw [<-h2] at d c;exact d (by rw [he,c])
   . rw [if_neg he];refine ⟨?_,fun s=>?_,fun _=>⟨_,T,by rw [hc (T' - 1) (by omega) (by omega)]⟩⟩
     . rw [List.pairwise_append];refine ⟨h.asc,List.pairwise_singleton _ _,fun a ha b hb=>?_⟩
       simp only [zv] at hb;subst hb;exact ((h.mem a).1 ha).2.1
     . rw [zG,h.mem,zv];constructor
       . rintro (⟨a,b,c,d⟩|rfl)
         . exact ⟨a,by omega,c,d⟩
         . exact ⟨h0,q,rfl,.inr he⟩
       . rintro ⟨a,b,c,d⟩;rcases Int.lt_or_le s.1 T with hs|hs
         . exact .inl ⟨a,hs,c,d⟩
         . right;have e1:=hc s.1 hs b;rcases Int.lt_or_eq_of_le hs with h2|h2
           . exfalso;have e2:=hc (s.1 - 1) (by omega) (by omega)
             rcases d with d|d
             . omega
             . exact d (by rw [e2,c,e1])
           . exact Prod.ext h2.symm (by rw [c,e1])
 . subst hz;have hS:S=[]:=by
    rw [List.eq_nil_iff_forall_not_mem];intro s hs;have:=(h.mem s).1 hs;omega
   subst hS;refine ⟨by simp [putS],fun s=>?_,fun _=>⟨[],0,by simp [putS];exact (hc (T' - 1) (by omega) (by omega)).symm⟩⟩
   simp only [putS,List.getLast?_nil,zU,zv];constructor
   . rintro rfl;exact ⟨Int.le_refl _,q,rfl,.inl rfl⟩
   . rintro ⟨a,b,c,d⟩;have e1:=hc s.1 a b;rcases Int.lt_or_eq_of_le a with h2|h2
     . exfalso;have e2:=hc (s.1 - 1) (by omega) (by omega)
       rcases d with d|d
       . omega
       . exact d (by rw [e2,c,e1])
     . exact Prod.ext h2.symm (by rw [c,e1])
theorem xDa (S:List Per) (f n:Int):(putS S f n).length<=S.length+1:=by
 unfold putS;repeat' split
 all_goals simp
def sumC (l:List Cnt) (t:Int):Int:=(l.map fun c=>if hasP c.1 t=true then c.2 else 0).sum
theorem xnq (c:Cnt) (l:List Cnt) (t:Int):sumC (c::l) t=(if hasP c.1 t=true then c.2 else 0)+sumC l t:=by simp [sumC]
theorem xEi (a b:List Cnt) (t:Int):sumC (a++b) t=sumC a t+sumC b t:=by simp [sumC]
theorem xDq (t:Int):sumC [] t=0:=rfl
theorem xzN {T T':Int}:∀ {l:List Cnt},(∀ c,c∈l->pv c.1=true->¬ (T<c.1.1/\c.1.1<T')/\¬ (T<c.1.2/\c.1.2<T'))->∀ t,T<=t->t<T'->sumC l t=sumC l T
 | [],_,t,_,_=>rfl
 | c::l,h,t,h1,h2=>by
  rw [xnq,xnq,xzN (fun c hc=>h c (by simp [hc])) t h1 h2]
  congr 2;cases hv:pv c.1 with
  | false=>simp [hasP,hv]
  | true =>
   have:=h c (by simp) hv
   simp only [hasP,hv,Bool.true_and,zf,zl,eq_iff_iff];omega
theorem xDp (B:Int) (hB:0<=B) (t:Int):∀ l:List Cnt,(∀ c,c∈l->-B<=c.2/\c.2<=B)->-(B*l.length)<=sumC l t/\sumC l t<=B*l.length
 | [],_=>by simp [xDq]
 | c::l,h=>by
  have ih:=xDp B hB t l fun c hc=>h c (by simp [hc])
  have hc:=h c (by simp)
  rw [xnq,zF,show B*((l.length+1:Nat):Int)=B*(l.length:Int)+B by rw [Int.natCast_add,Int.mul_add];simp]
  split<;>omega
theorem xBq (ps:List Per) (t:Int):sumC (ps.map fun p=>(p,(1:Int))) t=(ps.countP (hasP · t):Nat):=by
 induction ps with
 | nil=>rfl
 | cons p ps ih =>
  rw [zV,xnq,ih,List.countP_cons];split<;>simp_all<;>omega
theorem xK5 (l:List Int) (n:Int) (hl:l.length<=1048576) (m:Nat) (hm:m<=l.length) (h1:∀ k (h:k<m) (h2:k<l.length),l[k]<n) (h2:∀ h:m<l.length,¬ l[m]<n) :
  Iter (xbK (l.map encN) n) ((0:Nat),(0:Int),[])=some (m,(m:Int),(l.take m).map encN):=by
 refine xkO (fun k=>((k,(k:Int),(l.take k).map encN):Nat×Int×List AV)) m _ (fun k hk=>?_) ?_ m 0 (by omega)
 . have q:k<l.length:=by omega
   have i1:(k:Int)<(l.length:Int):=by omega
   have i2:=h1 k hk q;have m1:(k+1)*8<=140737488355328:=by omega
   have m2:k+1<=4611686018427387904:=by omega
   have tl:(l.take k).length=k:=by rw [zt];omega
   have gf:(l.map encN).getD k .top=encN l[k]:=xaa _ _ _ q;simp only [xbK,xfn,sBU,q,i1,i2,gf,cN,sN,tl,m1,m2,xLP (n:=k) (by omega)]
   rw [List.take_add_one,ze q,zx];rfl
 . by_cases hml:m<l.length
   . have i1:(m:Int)<(l.length:Int):=by omega
     have i2:=h2 hml;have gf:(l.map encN).getD m .top=encN l[m]:=xaa _ _ _ hml;simp only [xbK,xfn,sBU,hml,i1,i2,gf,cN,sN]
   . have i1:¬ (m:Int)<(l.length:Int):=by omega
     simp only [xbK,xfn,sBU,i1]
theorem xCG (l:List Int) (hl:l.length<=1048576):∀ (d i:Nat) (D:List Int),i+d=l.length->D.length<=1048576+i ->
  Iter (xbL (l.map encN)) (D.length,(i:Int),D.map encN)=some ((D++l.drop i).length,(D++l.drop i).map encN)
 | 0,i,D,h,hD=>by
  obtain rfl:i=l.length:=by omega
  rw [zq (zd _),zD];refine xad ?_;simp only [xbL,xhE,za,zy,zm,xac,sUF]
 | d+1,i,D,h,hD=>by
  have q:i<l.length:=by omega
  have i1:(i:Int)<(l.length:Int):=by omega
  have m1:(D.length+1)*8<=140737488355328:=by omega
  have m2:D.length+1<=4611686018427387904:=by omega
  have gf:(l.map encN).getD i .top=encN l[i]:=xaa _ _ _ q;rw [xam (s':=((D++[l[i]]).length,((i+1:Nat):Int),(D++[l[i]]).map encN)) ?_,xCG l hl d (i+1) (D++[l[i]]) (by omega) (by rw [z8];simp;omega),xaG q,zw]
  . rfl
  . simp only [xbL,xhE,sBU,q,i1,gf,cN,sN,m1,m2,xLP (n:=i) (by omega)]
    simp [encN]
theorem xs6 (l:List Int) (n:Int) (hl:l.length<=1048576):xbQ (l.map encN) n=some ((insI l n).map encN):=by
 obtain ⟨m,hm,h1,h2,h3⟩:=xyp n l;have e0:=xK5 l n hl m hm h1 h2;have tl:(l.take m).length=m:=by rw [zt];omega
 have e1:=xCG l hl (l.length - m) m (l.take m++[n]) (by omega) (by rw [z8,tl];simp;omega)
 have e2:=xCG l hl (l.length - m) m (l.take m) (by omega) (by omega)
 rw [z8,tl,zx] at e1;rw [tl] at e2;have e1:Iter (xbL (l.map encN)) (m+1,(m:Int),(l.take m).map encN++[AV.int .i64 n])=some ((l.take m++[n]++l.drop m).length,(l.take m++[n]++l.drop m).map encN):=e1;have m1:(m+1)*8<=140737488355328:=by omega
 have m2:m+1<=4611686018427387904:=by omega
 rw [h3];unfold xbQ xpk xmS;by_cases hml:m<l.length
 . have i1:((m:Int)==(l.length:Int))=false:=by simp;omega
   have i2:(m:Int)<(l.length:Int):=by omega
   have gf:(l.map encN).getD m .top=encN l[m]:=xaa _ _ _ hml;rw [dif_pos hml];by_cases hn:n<l[m]
   . have i3:l[m]>n:=hn;simp only [xa9,xgR,xgS,xgT,xkb,xgU,xgV,xgW,xgX,xgY,xet,xi0,xeu,xev,xf4,xf5,e0,zk,zh,za,i1,i2,hml,gf,cN,sN,i3,m1,m2,tl,e1,sBU,sOO,↓reduceIte,zw,List.singleton_append]
   . have i3:¬ l[m]>n:=hn;simp only [xa9,xgR,xgS,xgT,xkb,xgU,xgV,xgW,xgX,xgY,xet,xi0,xeu,xev,xf4,xf5,e0,zk,zh,za,i1,i2,hml,gf,cN,sN,i3,e2,sBU,sOO,↓reduceIte]
 . have i1:((m:Int)==(l.length:Int))=true:=by simp;omega
   rw [dif_neg hml];have hd:l.drop m=[]:=zq (by omega)
   rw [hd,zD] at e1;simp only [xa9,xgR,xgS,xgT,xkb,xgU,xgV,xgW,xgX,xgY,xet,xi0,xeu,xev,xf4,xf5,e0,zk,zh,za,i1,m1,m2,tl,e1,sBU,sOO]
theorem xrx {α:Type} (l:List α):l=[]\/∃ m a,l=m++[a]:=by
 rcases List.eq_nil_or_concat l with h|⟨m,a,h⟩
 . exact .inl h
 . exact .inr ⟨m,a,by rw [h,List.concat_eq_append]⟩
theorem xET (S:List Per) (f n:Int) (hS:S.length<=16777216):∃ p,xqs S.length f n (S.map encP)=some p/\br p.1 p.2.1.1 p.2.2.1=(putS S f n).length/\br p.1 p.2.1.2 p.2.2.2=(putS S f n).map encP:=by
 have m1:(S.length+1)*16<=140737488355328:=by omega
 have m2:S.length+1<=4611686018427387904:=by omega
 rcases xrx S with rfl|⟨S',s,rfl⟩
 . refine ⟨(false,(0,[]),(1,[encP (f,n)])),?_,rfl,rfl⟩;unfold xqs xqi xjB;simp [xaC,encP,sUF]
 . have hk:IntKind.i64.wrap (((S'++[s]).length:Int) - 1)=((S'.length:Nat):Int):=by
    rw [z8,xby (by simp<;>omega) (by simp at hS |-<;>omega)];simp
   have g1:((S'++[s]).length:Int)>0:=by simp<;>omega
   have g2:(S'.length:Int)<((S'++[s]).length:Int):=by simp<;>omega
   have g3:S'.length<(S'++[s]).length:=by simp
   have gf:((S'++[s]).map encP).getD S'.length .top=encP s:=by
    rw [xaa _ _ _ (by simp)];simp
   have hl:(S'++[s]).getLast?=some s:=by simp
   by_cases he:s.2=n
   . refine ⟨(true,((S'++[s]).length,(S'++[s]).map encP),(0,[])),?_,?_,?_⟩
     . unfold xqs xqi xjB;simp only [hk,g1,g2,g3,gf,sBU,cP0,cP1,lP,sP,sP0,sP1,he]
     . simp only [xab,putS,hl,if_pos he,sUF]
     . simp only [xab,putS,hl,if_pos he,sUF]
   . have he':(s.2==n)=false:=by simp [he]
     refine ⟨(false,(0,[]),((S'++[s]).length+1,(S'++[s]).map encP++[encP (f,n)])),?_,?_,?_⟩
     . unfold xqs xqi xjB;simp only [hk,g1,g2,g3,gf,sBU,cP0,cP1,lP,sP,sP0,sP1,he',m1,m2];rfl
     . simp only [xac,putS,hl,if_neg he,sUF];simp
     . simp only [xac,putS,hl,if_neg he,sUF];simp
def ptsC (l:List Cnt):List Int:=l.foldl (fun P c=>if pv c.1=true then insI (insI P c.1.1) c.1.2 else P) [0]
theorem xC8 (l:List Cnt) (c:Cnt):ptsC (l++[c])=if pv c.1=true then insI (insI (ptsC l) c.1.1) c.1.2 else ptsC l:=by simp [ptsC]
theorem xC9:∀ l:List Cnt,Asc (ptsC l.reverse)/\∀ x,x∈ptsC l.reverse↔x=0\/∃ c,c∈l/\pv c.1=true/\(x=c.1.1\/x=c.1.2)
 | []=>by simp [ptsC,Asc]
 | c::l=>by
  obtain ⟨h1,h2⟩:=xC9 l;rw [List.reverse_cons,xC8];split
  . rename_i hv;refine ⟨xsc (xsc h1 _) _,fun x=>?_⟩
    rw [xph,xph,h2];constructor
    . rintro (h|h|h|⟨c',a,b,d⟩)
      . exact .inr ⟨c,by simp,hv,.inr h⟩
      . exact .inr ⟨c,by simp,hv,.inl h⟩
      . exact .inl h
      . exact .inr ⟨c',by simp [a],b,d⟩
    . rintro (h|⟨c',a,b,d⟩)
      . exact .inr (.inr (.inl h))
      . rcases zC.1 a with rfl|a
        . rcases d with d|d
          . exact .inr (.inl d)
          . exact .inl d
        . exact .inr (.inr (.inr ⟨c',a,b,d⟩))
  . rename_i hv;refine ⟨h1,fun x=>?_⟩
    rw [h2];constructor
    . rintro (h|⟨c',a,b,d⟩)
      . exact .inl h
      . exact .inr ⟨c',by simp [a],b,d⟩
    . rintro (h|⟨c',a,b,d⟩)
      . exact .inl h
      . rcases zC.1 a with rfl|a
        . exact absurd b hv
        . exact .inr ⟨c',a,b,d⟩
theorem xLc (l:List Cnt):Asc (ptsC l)/\∀ x,x∈ptsC l↔x=0\/∃ c,c∈l/\pv c.1=true/\(x=c.1.1\/x=c.1.2):=by
 have:=xC9 l.reverse;simpa using this
theorem xLE (l:List Cnt) (hl:l.length<=262144):Iter (xf6 (l.map encC)) ([AV.int IntKind.i64 (0:Int)],(0:Int))=some ((ptsC l).map encN)/\(ptsC l).length<=2*l.length+1:=by
 have q:∀ l:List Cnt,(ptsC l.reverse).length<=2*l.length+1:=fun l=>by
  induction l with
  | nil=>simp [ptsC]
  | cons c l ih =>
   rw [List.reverse_cons,xC8];have a1:=xiT (ptsC l.reverse) c.1.1;have a2:=xiT (insI (ptsC l.reverse) c.1.1) c.1.2;split<;>simp<;>omega
 refine ⟨?_,by have:=q l.reverse;simpa using this⟩
 refine xs8 l (fun P c=>if pv c.1=true then insI (insI P c.1.1) c.1.2 else P) (fun n b=>(b.map encN,(n:Int))) (fun n b=>b.length<=2*n+1) (fun n h b hb=>?_) l.length 0 [0] (by omega) (by simp) ?_
 . have h1:(n:Int)<(l.length:Int):=by omega
   have gf:(l.map encC).getD n .top=encC l[n]:=xaa _ _ _ h;have a1:=xiT b l[n].1.1;have a2:=xiT (insI b l[n].1.1) l[n].1.2;have i1:=xs6 b l[n].1.1 (by omega)
   have i2:=xs6 (insI b l[n].1.1) l[n].1.2 (by omega)
   refine ⟨?_,by split<;>omega⟩
   simp only [xf6,xqR,xh5,sBU,h,h1,gf,cC0,cC1,cC2,lC,sC,sC3,sC2,xtl,i1,i2,xLP (n:=n) (by omega),sC0,sC1]
   cases pv l[n].1<;>simp [xab,xac,sUF]
 . simp only [zr];simp only [xf6,xqR,xh5,za,zy,zm,xac,sUF];rfl
def Tame (l:List Cnt):Prop:=l.length<=262144/\∀ c,c∈l->-1099511627776<=c.2/\c.2<=1099511627776
theorem xLF (l:List Cnt) (hl:Tame l) (P:List Int) (hP:P.length<=1048576) (on k:Nat) (hk:k<P.length) (ox:List AV):Iter (xf8 (l.map encC) (P.map encN) on (k:Int)) ((0:Int),(0:Int),ox)=some (sumC l P[k],ox):=by
 have k1:(k:Int)<(P.length:Int):=by omega
 have gk:(P.map encN).getD k .top=encN P[k]:=xaa _ _ _ hk;have J:=hl.1;refine xkO (fun i=>((sumC (l.take i) P[k],(i:Int),ox):Int×Int×List AV)) l.length _ (fun i hi=>?_) ?_ l.length 0 (by omega)
 . have h1:(i:Int)<(l.length:Int):=by omega
   have gf:(l.map encC).getD i .top=encC l[i]:=xaa _ _ _ hi;have hs:sumC (l.take (i+1)) P[k]=sumC (l.take i) P[k]+if hasP l[i].1 P[k]=true then l[i].2 else 0:=by
    rw [List.take_add_one,ze hi,xEi];show _+sumC [l[i]] P[k]=_;rw [xnq,xDq];omega
   have hb:=xDp 1099511627776 (by omega) P[k] (l.take i) fun c hc=>hl.2 c (List.mem_of_mem_take hc)
   have q:(l.take i).length=i:=by rw [zt];omega
   rw [q] at hb;have hc:=hl.2 l[i] (zo hi);have hw:hasP l[i].1 P[k]=true->IntKind.i64.wrap (sumC (l.take i) P[k]+l[i].2)=sumC (l.take i) P[k]+l[i].2:=fun _=>xby (by omega) (by omega)
   simp only [xf8,xqS,sBU,hi,h1,hk,k1,gf,gk,cC0,cC1,cC2,lC,sC,sC3,sC2,cN,sN,xDb,xLP (n:=i) (by omega),hs]
   cases hc:hasP l[i].1 P[k] with
   | false=>simp [xac,sUF]
   | true=>rw [xab,hw hc];rfl
 . simp only [xf8,xqS,za,zy,zm,xac,y7,sUF]
theorem xLf (l:List Cnt) (hl:Tame l):∃ S,xyH (l.map encC)=some (S.map encP)/\StepI (sumC l) 1099511627776 S/\S.length<=2*l.length+1:=by
 obtain ⟨e0,al⟩:=xLE l hl.1;obtain ⟨V,O⟩:=xLc l;generalize hP:ptsC l=P at *;have ak:=hl.1;have J:∀ x,x∈P->0<=x/\x<=1099511627776:=fun x hx=>by
  rcases (O x).1 hx with rfl|⟨c,_,hv,h⟩
  . omega
  . have:=xax.1 hv;rcases h with rfl|rfl<;>omega
 obtain ⟨m,hm,Y,Q⟩:∃ m,m<=P.length/\(∀ k (h:k<P.length),k<m->P[k]<1099511627776)/\∀ h:m<P.length,¬ P[m]<1099511627776:=by
  obtain ⟨m,a,b,c,_⟩:=xyp 1099511627776 P;exact ⟨m,a,fun k h hk=>b k hk h,c⟩
 let G:Nat->List Per:=fun k=>(P.take k).foldl (fun S p=>putS S p (sumC l p)) []
 have hG:∀ k (h:k<P.length),G (k+1)=putS (G k) P[k] (sumC l P[k]):=fun k h=>by
  simp only [G];rw [List.take_add_one,ze h,List.foldl_append];rfl
 have ac:∀ k,k<=P.length->(G k).length<=k:=fun k=>by
  induction k with
  | zero=>intro _;simp [G]
  | succ k ih=>intro h;rw [hG k (by omega)];have:=xDa (G k) P[k] (sumC l P[k]);have:=ih (by omega);omega
 have Z:0<P.length:=List.length_pos_of_mem ((O 0).2 (.inl rfl));have q:P[0]=0:=by
  have h0:=(J P[0] (zo Z)).1;obtain ⟨j,hj,ah⟩:=zp.1 ((O 0).2 (.inl rfl));rcases Nat.eq_zero_or_pos j with rfl|ab
  . exact ah
  . have:=zB.1 V 0 j Z hj ab;omega
 have am:0<m:=by
  rcases Nat.eq_zero_or_pos m with rfl|h
  . exact absurd (by rw [q];omega) (Q Z)
  . exact h
 have nb:∀ k (h:k<P.length) T',(∀ h2:k+1<P.length,T'<=P[k+1])->T'<=1099511627776->∀ t,P[k]<=t->t<T'->sumC l t=sumC l P[k]:=fun k h T' hT hF t h1 h2=>by
  have no:∀ x,x∈P->¬ (P[k]<x/\x<T'):=fun x hx ⟨a,b⟩=>by
   obtain ⟨j,hj,rfl⟩:=zp.1 hx;rcases Nat.lt_trichotomy j k with aa|rfl|aa
   . have:=zB.1 V j k hj h aa;omega
   . omega
   . rcases Nat.lt_or_eq_of_le aa with h3|h3
     . have:=zB.1 V (k+1) j (by omega) hj h3
       have:=hT (by omega);omega
     . have h4:j=k+1:=h3.symm;subst h4;have:=hT hj;omega
  refine xzN (T:=P[k]) (T':=T') (fun c hc hv=>⟨no _ ((O _).2 (.inr ⟨c,hc,hv,.inl rfl⟩)),no _ ((O _).2 (.inr ⟨c,hc,hv,.inr rfl⟩))⟩) t h1 h2
 have inv:∀ k (h:k<P.length),k<m->StepI (sumC l) P[k] (G k):=fun k=>by
  induction k with
  | zero=>intro h _;rw [q];exact .nil _
  | succ k ih =>
   intro h ag;rw [hG k (by omega)]
   have h1:=zB.1 V k (k+1) (by omega) h (by omega)
   have h2:=Y (k+1) h ag;exact (ih (by omega) (by omega)).put (J _ (zo (by omega))).1 h1 (nb k (by omega) P[k+1] (fun _=>Int.le_refl _) (by omega))
 have ae:StepI (sumC l) 1099511627776 (G m):=by
  obtain ⟨k,rfl⟩:∃ k,m=k+1:=⟨m - 1,by omega⟩
  rw [hG k (by omega)]
  exact (inv k (by omega) (by omega)).put (J _ (zo (by omega))).1 (Y k (by omega) (by omega)) (nb k (by omega) _ (fun h2=>by have:=Q h2;omega) (Int.le_refl _))
 refine ⟨G m,?_,ae,by have:=ac m hm;omega⟩
 have e1:Iter (xf7 (l.map encC) (P.map encN)) ((0:Nat),(0:Int),[])=some ((G m).length,(G m).map encP):=by
  refine xkO (fun k=>(((G k).length,(k:Int),(G k).map encP):Nat×Int×List AV)) m _ (fun k hk=>?_) ?_ m 0 (by omega)
  . have U:k<P.length:=by omega
    have k1:(k:Int)<(P.length:Int):=by omega
    have k2:=Y k U hk;have gk:(P.map encN).getD k .top=encN P[k]:=xaa _ _ _ U;have e2:=xLF l hl P (by omega) (G k).length k U ((G k).map encP)
    have aj:=ac k (by omega)
    obtain ⟨p,ad,ai,af⟩:=xET (G k) P[k] (sumC l P[k]) (by omega)
    simp only [xf7,xmw,xh6,xh7,xh8,xh9,xia,xib,xic,sBU,U,k1,k2,gk,cN,sN,e2,ad,ai,af,xLP (n:=k) (by omega),hG k U]
  . by_cases W:m<P.length
    . have k1:(m:Int)<(P.length:Int):=by omega
      have k2:=Q W;have gk:(P.map encN).getD m .top=encN P[m]:=xaa _ _ _ W;simp only [xf7,xmw,xh6,xh7,xh8,xh9,xia,xib,xic,sBU,W,k1,k2,gk,cN,sN]
    . have k1:¬ (m:Int)<(P.length:Int):=by omega
      simp only [xf7,xmw,xh6,xh7,xh8,xh9,xia,xib,xic,sBU,k1]
 unfold xyH xzy;simp only [xtL,xtM,xtN,xtO,e0,zh,zk,xab,e1,sOO,sUF]
end Go.Sim.M
end
noncomputable section
set_option maxRecDepth 100000
namespace Go.Sim.M
open Go.RowKit Go.Sim.Srt Go.Sort
def chg (c:Cnt):List Per:=if pv c.1=true then [(c.1.1,c.2),(c.1.2,-c.2)] else []
theorem xEs {l:List Cnt}:∀ s,s∈l.flatMap chg->0<=s.1/\s.1<=1099511627776:=fun s hs=>by
 obtain ⟨c,hc,h⟩:=y6.1 hs;unfold chg at h;split at h
 . rename_i hv;have:=xax.1 hv;simp only [zC,List.not_mem_nil,or_false] at h;rcases h with rfl|rfl<;>dsimp only<;>omega
 . simp at h
theorem xJs (c:Cnt):(chg c).length<=2:=by unfold chg;split<;>simp
def sumS (S:List Per) (t:Int):Int:=(S.map fun s=>if s.1<=t then s.2 else 0).sum
theorem xyb (a b:List Per) (t:Int):sumS (a++b) t=sumS a t+sumS b t:=by simp [sumS]
theorem xI1 {a b:List Int} (h:a.Perm b):a.sum=b.sum:=by
 induction h with
 | nil=>rfl
 | cons x _ ih=>simp [ih]
 | swap x y l=>simp;omega
 | trans _ _ h1 h2=>rw [h1,h2]
theorem xHX {a b:List Per} (h:a.Perm b) (t:Int):sumS a t=sumS b t:=xI1 (h.map _)
theorem xDr (t:Int):∀ l:List Cnt,sumS (l.flatMap chg) t=sumC l t
 | []=>rfl
 | c::l=>by
  rw [zR,xyb,xDr t l,xnq];congr 1;unfold chg;cases hv:pv c.1 with
  | false=>simp [sumS,hasP,hv]
  | true =>
   have:=xax.1 hv;simp only [if_true,sumS,zV,zW,List.sum_cons,List.sum_nil,hasP,hv,Bool.true_and,zf,zl];by_cases h1:c.1.1<=t<;>by_cases h2:c.1.2<=t
   . rw [if_pos h1,if_pos h2,if_neg (by omega)];omega
   . rw [if_pos h1,if_neg h2,if_pos (by omega)];omega
   . omega
   . rw [if_neg h1,if_neg h2,if_neg (by omega)];omega
theorem sum0:∀ L:List Per,(L.map fun _=>(0:Int)).sum=0
 | []=>rfl
 | _::L=>by rw [zV,List.sum_cons,sum0 L];rfl
def preS (S:List Per) (i:Nat):Int:=((S.take i).map (·.2)).sum
theorem xBa (S:List Per) (i:Nat) (h:i<S.length):preS S (i+1)=preS S i+S[i].2:=by
 unfold preS;rw [List.take_add_one,ze h,zx,List.sum_append];simp
theorem xIG (S:List Per) (i:Nat) (hi:i<=S.length) (t:Int) (h1:∀ k (h:k<S.length),k<i->S[k].1<=t) (h2:∀ k (h:k<S.length),i<=k->t<S[k].1):preS S i=sumS S t:=by
 have e:S=S.take i++S.drop i:=(List.take_append_drop i S).symm
 conv=>rhs;rw [e]
 rw [xyb];have a1:sumS (S.take i) t=preS S i:=by
  unfold sumS preS;congr 1;refine List.map_congr_left fun s hs=>?_
  obtain ⟨k,hk,rfl⟩:=zp.1 hs;rw [zt] at hk;rw [List.getElem_take,if_pos (h1 k (by omega) (by omega))]
 have a2:sumS (S.drop i) t=0:=by
  unfold sumS;have:(S.drop i).map (fun s=>if s.1<=t then s.2 else 0)=(S.drop i).map fun _=>(0:Int):=by
   refine List.map_congr_left fun s hs=>?_
   obtain ⟨k,hk,rfl⟩:=zp.1 hs;rw [y4] at hk;have:=h2 (i+k) (by omega) (by omega)
   rw [List.getElem_drop,if_neg (by omega)]
  rw [this];exact sum0 _
 omega
theorem xC6 {B:Int} (hB:0<=B) (S:List Per) (h:∀ s,s∈S->-B<=s.2/\s.2<=B):∀ i,i<=S.length->-(B*i)<=preS S i/\preS S i<=B*i
 | 0,_=>by simp [preS]
 | i+1,hi=>by
  have ih:=xC6 hB S h i (by omega)
  have hs:=h S[i] (zo (by omega))
  rw [xBa S i (by omega),show B*((i+1:Nat):Int)=B*(i:Int)+B by rw [Int.natCast_add,Int.mul_add];simp]
  omega
def toS (e:Per):TyS:=(Fin.ofNat 1099511627777 e.1.toNat,e.2)
def ofS (x:TyS):Per:=((x.1.val:Int),x.2)
theorem xJN {e:Per} (h1:0<=e.1) (h2:e.1<=1099511627776):ofS (toS e)=e:=by
 have:e.1.toNat % 1099511627777=e.1.toNat:=Nat.mod_eq_of_lt (by omega)
 simp only [ofS,toS,Fin.ofNat,this,Int.toNat_of_nonneg h1]
theorem xKf (E:List Per) (h:∀ e,e∈E->0<=e.1/\e.1<=1099511627776):(E.map encP).all isS=true/\∃ S:List Per,srtS (E.map encP)=S.map encP/\S.Perm E/\S.Pairwise fun x y=>x.1<=y.1:=by
 refine ⟨?_,(pdqL cmpS (E.map toS)).map ofS,?_,?_,?_⟩
 . rw [zI];intro x hx;obtain ⟨e,he,rfl⟩:=zK.1 hx;have:=h e he;show (decide _&&decide _)=true;rw [decide_eq_true this.1,decide_eq_true this.2];rfl
 . unfold srtS;have e1:(E.map encP).map decS=E.map toS:=by rw [List.map_map];rfl
   rw [e1,List.map_map];rfl
 . have hp:=((xnm cmpS swoS (E.map toS)).1).map ofS;have e2:(E.map toS).map ofS=E:=by
    rw [List.map_map]
    conv=>rhs;rw [<-List.map_id E]
    refine List.map_congr_left fun e he=>?_
    exact xJN (h e he).1 (h e he).2
   rwa [e2] at hp
 . rw [List.pairwise_map];refine (xtK cmpS swoS (E.map toS)).imp fun {x y} q=>?_
   show ((x.1.val:Nat):Int)<=((y.1.val:Nat):Int);unfold cmpS at q;omega
theorem xJE (n o:Nat):xjp n o=xdq n o 0:=rfl
theorem xyS (l:List Cnt) (hl:l.length<=1048576) (ht:∀ c,c∈l->-1099511627776<=c.2/\c.2<=1099511627776):Iter (xeD (l.map encC) ((l.length:Nat):Int)) ((0:Nat),(0:Int),[])=some ((l.flatMap (fun (f:Cnt)=>chg f)).length,(l.flatMap (fun (f:Cnt)=>chg f)).map encP):=by
 refine xiV l (fun (f:Cnt)=>chg f) encP 2 (fun f hf=>?_) (fun n h D hD=>?_) (fun D=>?_)
 . cases q:(pv (f).1)<;>simp [chg,q]
 . have h1:(n:Int)<(l.length:Int):=by omega
   have m1:(D.length+2)*16<=140737488355328:=by omega
   have m2:D.length+2<=4611686018427387904:=by omega
   have gf:(l.map encC).getD n .top=encC l[n]:=xaa _ _ _ h;have hm:=ht l[n] (zo h);have hw:IntKind.i64.wrap (0 - l[n].2)=-l[n].2:=by rw [xby (by omega) (by omega)];omega
   simp only [xeD,xmF,sBU,h,h1,gf,cC0,cC1,cC2,lC,sC,sC3,sC2,xiJ,hw,m1,m2,xLP (n:=n) (by omega)]
   cases q:(pv (l[n]).1)<;>simp [encP,xab,xac,encR,chg,q,sUF]
 . simp only [xeD,xmF,za,zy,zm,xac,sUF]
theorem xyo (S:List Per) (hS:S.length<=1048576) (hb:∀ s,s∈S->-1099511627776<=s.2/\s.2<=1099511627776) (on:Nat) (at':Int) (ox:List AV):∀ (d i:Nat),i+d=S.length->∃ j:Nat,i<=j/\j<=S.length/\(∀ k (h:k<S.length),i<=k->k<j->S[k].1=at')/\(∀ h:j<S.length,S[j].1≠at') /\
  Iter (xdq S.length on at') (preS S i,(i:Int),S.map encP,ox)=some (preS S j,(j:Int),S.map encP,ox)
 | 0,i,h=>by
  refine ⟨i,zd _,by omega,fun k _ h1 h2=>by omega,fun h=>by omega,xad ?_⟩
  have i1:¬ (i:Int)<(S.length:Int):=by omega
  simp only [xdq,xjH,xiE,i1,zm,xac,sUF]
 | d+1,i,h=>by
  have hi:i<S.length:=by omega
  have i1:(i:Int)<(S.length:Int):=by omega
  have gf:(S.map encP).getD i .top=encP S[i]:=xaa _ _ _ hi;by_cases he:S[i].1=at'
  . obtain ⟨j,h1,h2,h3,h4,h5⟩:=xyo S hS hb on at' ox d (i+1) (by omega)
    refine ⟨j,by omega,h2,fun k hk a b=>?_,h4,?_⟩
    . rcases Nat.lt_or_eq_of_le a with a|a
      . exact h3 k hk a b
      . subst a;exact he
    . have hp:=xC6 (B:=1099511627776) (by omega) S hb i (by omega)
      have hs:=hb S[i] (zo hi);rw [xam (s':=(preS S (i+1),((i+1:Nat):Int),S.map encP,ox)) ?_,h5];simp only [xdq,xjH,xiE,sBU,hi,i1,gf,cP0,cP1,lP,sP,sP0,sP1,he,xLP (n:=i) (by omega),xBa S i hi]
      rw [xby (by omega) (by omega)]
  . have he':(S[i].1==at')=false:=by simp [he]
    refine ⟨i,zd _,by omega,fun k _ h1 h2=>by omega,fun _=>he,xad ?_⟩
    simp only [xdq,xjH,xiE,sBU,hi,i1,gf,cP0,cP1,lP,sP,sP0,sP1,he']
theorem xsh (l:List Cnt) (hl:Tame l):∃ S,xva (l.map encC)=some (S.map encP)/\StepI (sumC l) 1099511627776 S/\S.length<=2*l.length+1:=by
 have au:=hl.1;have e0:=xyS l (by omega) hl.2
 have hE:=xfh (g:=chg) (c:=2) l fun c _=>xJs c
 obtain ⟨af,S,hS,hp,ao⟩:=xKf (l.flatMap chg) xEs;have ag:S.length=(l.flatMap chg).length:=hp.length_eq;have U:∀ s,s∈S->0<=s.1/\s.1<=1099511627776:=fun s hs=>xEs s (hp.mem_iff.1 hs)
 have hb:∀ s,s∈S->-1099511627776<=s.2/\s.2<=1099511627776:=fun s hs=>by
  obtain ⟨c,hc,h⟩:=y6.1 (hp.mem_iff.1 hs);have:=hl.2 c hc;unfold chg at h;split at h
  . simp only [zC,List.not_mem_nil,or_false] at h;rcases h with rfl|rfl<;>dsimp only<;>omega
  . simp at h
 have hN:∀ t,sumS S t=sumC l t:=fun t=>by rw [xHX hp,xDr]
 have J:∀ a b (ha:a<S.length) (hb:b<S.length),a<=b->S[a].1<=S[b].1:=fun a b ha hb ak=>by
  rcases Nat.lt_or_eq_of_le ak with h|h
  . exact zB.1 ao a b ha hb h
  . subst h;exact Int.le_refl _
 let T:Nat->Int:=fun i=>if h:i<S.length then S[i].1 else 1099511627776
 have step:∀ (out:List Per) (i j:Nat) (at':Int),0<=at'->i<=j->j<=S.length->StepI (sumC l) at' out->at'<1099511627776->(∀ k (h:k<S.length),k<i->S[k].1<=at')->(∀ k (h:k<S.length),i<=k->at'<=S[k].1)->(∀ k (h:k<S.length),i<=k->k<j->S[k].1=at')->(∀ h:j<S.length,S[j].1≠at') ->
   preS S j=sumC l at'/\StepI (sumC l) (T j) (putS out at' (preS S j))/\at'<T j/\∀ k (h:k<S.length),k<j->S[k].1<=at':=fun out i j at' h0 ae hj Q hF aa ai an hne=>by
  have a1:∀ k (h:k<S.length),k<j->S[k].1<=at':=fun k h hk=>by
   rcases zJ k i with h1|h1
   . exact aa k h h1
   . rw [an k h h1 hk];exact Int.le_refl _
  have a2:∀ k (h:k<S.length),j<=k->at'<S[k].1:=fun k h hk=>by
   have O:j<S.length:=by omega
   have b1:=ai j O ae;have b2:=hne O;have b3:=J j k O h hk;omega
  have hT:at'<T j:=by
   simp only [T];split
   . rename_i h;exact a2 j h (zd _)
   . exact hF
  have ac:∀ t,at'<=t->t<T j->preS S j=sumC l t:=fun t h1 h2=>by
   rw [<-hN];refine xIG S j hj t (fun k h hk=>by have:=a1 k h hk;omega) fun k h hk=>?_
   have O:j<S.length:=by omega
   have b3:=J j k O h hk;simp only [T,dif_pos O] at h2;omega
  have e:=ac at' (Int.le_refl _) hT;refine ⟨e,?_,hT,a1⟩;rw [e];exact Q.put h0 hT fun t h1 h2=>by rw [<-ac t h1 h2,e]
 have ab:∀ (out:List Per) (f n:Int),out.length<=2*l.length+1->∃ p,xcR out.length f n (out.map encP)=some p/\br p.1 p.2.1.1 p.2.2.1=(putS out f n).length/\br p.1 p.2.1.2 p.2.2.2=(putS out f n).map encP:=fun out f n h=>xET out f n (by omega)
 obtain ⟨j0,_,aj,h3,h4,e1⟩:=xyo S (by omega) hb 0 0 ([]:List AV) S.length 0 (by omega)
 obtain ⟨_,al,_,ap⟩:=step [] 0 j0 0 (Int.le_refl _) (zQ _) aj (.nil _) (by omega) (fun k _ h=>by omega) (fun k h _=>(U _ (zo h)).1) h3 h4
 obtain ⟨p0,ad,Y,W⟩:=ab [] 0 (preS S j0) (by simp)
 have o0:putS [] 0 (preS S j0)=[(0,preS S j0)]:=rfl;obtain ⟨r,hr,out,rfl,Q,ah⟩:=xCI (step:=xeE S.length)
  (fun s=>∃ (out:List Per) (i:Nat),s=(out.length,preS S i,(i:Int),S.map encP,out.map encP)/\i<=S.length/\StepI (sumC l) (T i) out/\out.length<=i+1/\∀ k (h:k<S.length) (hi:i<S.length),k<i->S[k].1<=S[i].1) (fun s=>(S.length - s.2.2.1.toNat)) (fun r=>∃ out:List Per,r=(out.length,out.map encP)/\StepI (sumC l) 1099511627776 out/\out.length<=2*l.length+1)
  (by
   rintro _ ⟨out,i,rfl,hi,V,aq,aa⟩;by_cases q:i<S.length
   . have i1:(i:Int)<(S.length:Int):=by omega
     have gf:(S.map encP).getD i .top=encP S[i]:=xaa _ _ _ q;have Z:T i=S[i].1:=dif_pos q;by_cases hF:S[i].1<1099511627776
     . left;obtain ⟨j,a1,a2,a3,a4,a5⟩:=xyo S (by omega) hb out.length S[i].1 (out.map encP) (S.length - i) i (by omega)
       rw [Z] at V;obtain ⟨b1,b2,b3,b4⟩:=step out i j S[i].1 (U _ (zo q)).1 a1 a2 V hF (fun k h hk=>J k i h q (by omega)) (fun k h hk=>J i k q h hk) a3 a4
       have ae:i<j:=by
        rcases Nat.lt_or_eq_of_le a1 with h|h
        . exact h
        . subst h;exact absurd rfl (a4 q)
       obtain ⟨p,ad,Y,W⟩:=ab out S[i].1 (preS S j) (by omega)
       have ar:=xDa out S[i].1 (preS S j);refine ⟨((putS out S[i].1 (preS S j)).length,preS S j,(j:Int),S.map encP,(putS out S[i].1 (preS S j)).map encP),?_,⟨_,j,rfl,a2,b2,by omega,fun k h hj hk=>J k j h hj (by omega)⟩,by dsimp only;rw [zN,zN];omega⟩
       simp only [xeE,xjG,xit,xiu,xiv,xiw,xiy,xiz,xiA,xiB,xiC,xiD,xhd,xhe,xff,sBU,q,i1,gf,cP0,cP1,lP,sP,sP0,sP1,hF,a5,ad,Y,W]
     . right;have am:S[i].1=1099511627776:=by have:=(U _ (zo q)).2;omega
       refine ⟨(out.length,out.map encP),?_,out,rfl,by rw [<-am,<-Z];exact V,by omega⟩
       simp only [xeE,xjG,xit,xiu,xiv,xiw,xiy,xiz,xiA,xiB,xiC,xiD,xhd,xhe,xff,sBU,q,i1,gf,cP0,cP1,lP,sP,sP0,sP1,hF]
   . right;have i1:¬ (i:Int)<(S.length:Int):=by omega
     have Z:T i=1099511627776:=dif_neg q;refine ⟨(out.length,out.map encP),?_,out,rfl,by rw [<-Z];exact V,by omega⟩
     simp only [xeE,xjG,xit,xiu,xiv,xiw,xiy,xiz,xiA,xiB,xiC,xiD,xhd,xhe,xff,sBU,i1])
  (([(0,preS S j0)]:List Per).length,preS S j0,(j0:Int),S.map encP,([(0,preS S j0)]:List Per).map encP) ⟨[(0,preS S j0)],j0,rfl,aj,al,by simp,fun k h hj hk=>J k j0 h hj (by omega)⟩
 refine ⟨out,?_,Q,ah⟩;have d1:(l.flatMap chg).length<4611686018427387904:=by omega
 have d2:((l.flatMap chg).length).beq (l.flatMap chg).length=true:=Nat.beq_refl _;have e1':Iter (xjp (l.flatMap chg).length 0) ((0:Int),(0:Int),S.map encP,[])=some (preS S j0,(j0:Int),S.map encP,[]):=by
  rw [xJE,<-ag];exact e1
 rw [ag] at hr;unfold xva xvb;have hp1':xcR 0 0 (preS S j0) []=some p0:=ad;rw [o0] at Y W;simp only [xt0,xt1,xt2,xt3,xt4,xt5,xt6,xt7,xt8,xt9,xsT,xsU,xsV,xsW,xsX,xlg,xoZ,xsY,za,e0,zh,zk,xab,af,hS,d1,d2,e1',hp1',Y,W,hr,zn,zS,sOO,sUF]
end Go.Sim.M
end
noncomputable section
set_option maxRecDepth 100000
namespace Go.Sim.M
open Go.RowKit Go.Sim.Srt
theorem xMn {n:Nat} (h:n+1<=4611686018427387904):IntKind.i64.wrap (((n+1:Nat):Int) - 1)=(n:Int):=by rw [xby (by omega) (by omega)];omega
theorem tkP (p:Per):List.take 1 (encP p).cells=[.int .i64 p.1]:=rfl
theorem dpP (p:Per):List.drop 2 (encP p).cells=[]:=rfl
theorem aggP (a b:Int):AV.agg [.int .i64 a,.int .i64 b]=encP (a,b):=rfl
theorem xCz {α:Type} (l:List α) (x d:α):(l++[x]).getD l.length d=x:=by simp
theorem xJ5 {α:Type} (l:List α) (x y:α):(l++[x]).set l.length y=l++[y]:=by simp
def xLR (st:List Per):List Int:=st.flatMap fun s=>List.replicate s.2.toNat s.1
theorem xiR (st:List Per) (f m:Int):xLR (st++[(f,m)])=xLR st++List.replicate m.toNat f:=by simp [xLR]
def StOk (st:List Per):Prop:=∀ s,s∈st->1<=s.2
theorem StOk.len {st:List Per} (h:StOk st):st.length<=(xLR st).length:=by
 unfold xLR;induction st with
 | nil=>simp
 | cons s st ih =>
  have h1:=h s (by simp)
  have:=ih fun s hs=>h s (by simp [hs])
  rw [zR,z8,zF,List.length_replicate];omega
theorem xAc (J n:Int) (v:Nat) (k t2 f:Int) (q:List Per) (ti:Nat) (O:ti<q.length) (hf:q[ti].1=f) (K:Nat) (hK:K<=1048576):∀ (d j:Nat) (ox:List Per) (vo:Nat),j+d=K->ox.length+d<=1099511627776 ->
  Iter (xck J n v ti k (K:Int)) ((j:Int),t2,q.length,v,ox.length,vo,v,q.map encP,vo,ox.map encP)=some (t2,v,q.length,vo+d,(ox++List.replicate d (f,J)).length,q.map encP,v,(ox++List.replicate d (f,J)).map encP,vo+d)
 | 0,j,ox,vo,h,hb=>by
  obtain rfl:j=K:=by omega
  refine xad ?_;simp only [xck,xka,zy,zm,xac,List.replicate_zero,zD,Nat.add_zero,sUF]
 | d+1,j,ox,vo,h,hb=>by
  have i1:(j:Int)<(K:Int):=by omega
  have gf:(q.map encP).getD ti .top=encP q[ti]:=xaa _ _ _ O;have m1:(ox.length+1)*16<=140737488355328:=by omega
  have m2:ox.length+1<=4611686018427387904:=by omega
  have tk:List.take q.length (q.map encP)=q.map encP:=zi (by simp)
  rw [xam (s':=(((j+1:Nat):Int),t2,q.length,v,(ox++[(f,J)]).length,vo+1,v,q.map encP,vo+1,(ox++[(f,J)]).map encP)) ?_,xAc J n v k t2 f q ti O hf K hK d (j+1) (ox++[(f,J)]) (vo+1) (by omega) (by rw [z8,zj];omega)]
  . rw [zw,show [(f,J)]++List.replicate d (f,J)=List.replicate (d+1) (f,J) from rfl,show vo+1+d=vo+(d+1) by omega]
  . simp only [xck,xka,sBU,i1,O,gf,cP0,cP1,lP,sP,sP0,sP1,hf,m1,m2,tk,xLP (n:=j) (by omega)]
    simp [encP]
theorem xEW {α:Type} (n:Nat) (a:α):(List.replicate n a).reverse=List.replicate n a:=List.reverse_replicate ..
theorem xAb (q:Int) (n:Nat):∀ (c:Nat) (J:List Per) (h:Nat) (ox:List Per) (v vo:Nat),J.length<=c->StOk J->(xLR J).length=h->n<=h->h<=1048576->ox.length+h<=1099511627776 ->
  ∃ (O Q:List Per) (U:Nat),Iter (xbD q (n:Int)) ((h:Int),J.length,v,ox.length,vo,v,J.map encP,vo,ox.map encP)=some ((n:Int),v,O.length,U,Q.length,O.map encP,v,Q.map encP,U) /\
   StOk O/\xLR O=(xLR J).take n/\Q=ox++(((xLR J).drop n).reverse.map fun f=>(f,q))
 | c,J,h,ox,v,vo,hc,hs,hh,hn,hb,ho=>by
  by_cases Z:n=h
  . subst Z;refine ⟨J,ox,vo,xad ?_,hs,?_,?_⟩
    . have i1:¬ ((n:Int)>(n:Int)):=by omega
      simp only [xbD,xe4,i1,zm,xac,sUF]
    . rw [zi (by omega)]
    . rw [zq (by omega)];simp
  . have ac:n<h:=by omega
    rcases xrx J with rfl|⟨st,⟨f,m⟩,rfl⟩
    . simp [xLR] at hh;omega
    . have hm:=hs (f,m) (by simp)
      dsimp only at hm;have V:StOk st:=fun s h=>hs s (by simp [h])
      have ab:(xLR st).length+m.toNat=h:=by rw [<-hh,xiR,z8,List.length_replicate]
      obtain ⟨M,rfl⟩:∃ M:Nat,m=(M:Int):=⟨m.toNat,by omega⟩
      rw [zN] at ab;have sl:=hs.len;rw [z8,zj] at hc sl;rw [hh] at sl;have L1:(st++[(f,(M:Int))]).length=st.length+1:=by simp
      have i1:(h:Int)>(n:Int):=by omega
      have w1:IntKind.i64.wrap (((st.length+1:Nat):Int) - 1)=(st.length:Int):=xMn (by omega)
      have w2:IntKind.i64.wrap ((h:Int) - (n:Int))=((h - n:Nat):Int):=by rw [xby (by omega) (by omega)];omega
      have i2:(st.length:Int)<((st.length+1:Nat):Int):=by omega
      have i3:st.length<(st++[(f,(M:Int))]).length:=by omega
      have g0:(st++[(f,(M:Int))])[st.length]'i3=(f,(M:Int)):=by simp
      have gf:((st++[(f,(M:Int))]).map encP).getD st.length .top=encP (f,(M:Int)):=by rw [xaa _ _ _ i3,g0]
      have tk:List.take (st.length+1) ((st++[(f,(M:Int))]).map encP)=(st++[(f,(M:Int))]).map encP:=zi (by simp)
      have W:∀ x:AV,((st++[(f,(M:Int))]).map encP).set st.length x=st.map encP++[x]:=fun x=>by
       rw [zx];have:=xJ5 (st.map encP) (encP (f,(M:Int))) x;rwa [za] at this
      have gl:∀ x:AV,(st.map encP++[x]).getD st.length .top=x:=fun x=>by have:=xCz (st.map encP) x .top;rwa [za] at this
      have tl:∀ x:AV,List.take st.length (st.map encP++[x])=st.map encP:=fun x=>by
       have:=List.take_left' (l₁:=st.map encP) (l₂:=[x]) (i:=st.length) (by simp)
       exact this
      by_cases hk:M<=h - n
      ·
       have i4:¬ ((h - n:Nat):Int)<(M:Int):=by omega
       have e1:=xAc q (n:Int) v (M:Int) (h:Int) f (st++[(f,(M:Int))]) st.length i3 (by rw [g0]) M (by omega) M 0 ox vo (by omega) (by omega)
       rw [L1] at e1;obtain ⟨O,Q,U,e2,h1,h2,h3⟩:=xAb q n (c - 1) st (h - M) (ox++List.replicate M (f,q)) v (vo+M) (by omega) V (by omega) (by omega) (by omega) (by rw [z8,List.length_replicate];omega)
       refine ⟨O,Q,U,(xam (s':=(((h - M:Nat):Int),st.length,v,(ox++List.replicate M (f,q)).length,vo+M,v,st.map encP,vo+M,(ox++List.replicate M (f,q)).map encP)) ?_).trans e2,h1,?_,?_⟩
       . have w3:IntKind.i64.wrap ((h:Int) - (M:Int))=((h - M:Nat):Int):=by rw [xby (by omega) (by omega)];omega
         have w4:IntKind.i64.wrap ((M:Int) - (M:Int))=0:=by rw [Int.sub_self];rfl
         have i5:(st.length:Int)<=((st.length+1:Nat):Int):=by omega
         have e1:Iter (xck q (n:Int) v st.length (M:Int) (M:Int)) ((0:Int),(h:Int),st.length+1,v,ox.length,vo,v,(st++[(f,(M:Int))]).map encP,vo,ox.map encP)=_:=e1;simp only [xbD,xe4,xdl,xcj,xiX,xeo,xf3,xep,xeq,xer,xes,xiY,xhA,xfk,xfl,xhB,xhC,xfm,xcK,xhD,xay,sBU,L1,i1,i2,w1,w2,w3,w4,i4,i5,gf,cP0,cP1,lP,sP,sP0,sP1,tk,e1,if_false,W,gl,tl,z8,zj,Nat.lt_succ_self,tkP,dpP,aggP,zD,List.singleton_append]
         try simp [xab,tl,gl,sUF]
       . rw [h2,xiR,List.take_append_of_le_length (by omega)]
       . rw [h3,xiR,zN,List.drop_append_of_le_length (by omega),List.reverse_append,xEW,zx,List.map_replicate,zw]
      ·
       have i4:((h - n:Nat):Int)<(M:Int):=by omega
       have e1:=xAc q (n:Int) v ((h - n:Nat):Int) (h:Int) f (st++[(f,(M:Int))]) st.length i3 (by rw [g0]) (h - n) (by omega) (h - n) 0 ox vo (by omega) (by omega)
       rw [L1] at e1;refine ⟨st++[(f,((M - (h - n):Nat):Int))],ox++List.replicate (h - n) (f,q),vo+(h - n),(xam (s':=((n:Int),st.length+1,v,(ox++List.replicate (h - n) (f,q)).length,vo+(h - n),v,(st++[(f,((M - (h - n):Nat):Int))]).map encP,vo+(h - n),(ox++List.replicate (h - n) (f,q)).map encP)) ?_).trans (xad ?_),?_,?_,?_⟩
       . have w3:IntKind.i64.wrap ((h:Int) - ((h - n:Nat):Int))=(n:Int):=by rw [xby (by omega) (by omega)];omega
         have w4:IntKind.i64.wrap ((M:Int) - ((h - n:Nat):Int))=((M - (h - n):Nat):Int):=by rw [xby (by omega) (by omega)];omega
         have i6:(((M - (h - n):Nat):Int)==0)=false:=by simp;omega
         have e1:Iter (xck q (n:Int) v st.length ((h - n:Nat):Int) ((h - n:Nat):Int)) ((0:Int),(h:Int),st.length+1,v,ox.length,vo,v,(st++[(f,(M:Int))]).map encP,vo,ox.map encP)=_:=e1;have Y:∀ x:AV,List.take (st.length+1) (st.map encP++[x])=st.map encP++[x]:=fun x=>zi (by simp)
         simp only [xbD,xe4,xdl,xcj,xiX,xeo,xf3,xep,xeq,xer,xes,xiY,xhA,xfk,xfl,xhB,xhC,xfm,xcK,xhD,xay,sBU,L1,i1,i2,w1,w2,w3,w4,i4,gf,cP0,cP1,lP,sP,sP0,sP1,tk,e1,if_true,W,gl,tl,Y,z8,zj,Nat.lt_succ_self,tkP,dpP,aggP,zD,List.singleton_append]
         try simp [xab,xac,tl,Y,gl,i6,sUF]
       . have i5:¬ ((n:Int)>(n:Int)):=by omega
         simp only [xbD,xe4,i5,zm,xac,z8,zj,sUF]
       . intro s aa;rcases zG.1 aa with h1|h1
         . exact V s h1
         . rw [zv] at h1;subst h1;dsimp only;omega
       . rw [xiR,xiR,zN,zN,List.take_append];have:(xLR st).take n=xLR st:=zi (by omega)
         rw [this,List.take_replicate,show min (n - (xLR st).length) M=M - (h - n) by omega]
       . rw [xiR,zN,List.drop_append,zq (show (xLR st).length<=n by omega),zU,List.drop_replicate,xEW,List.map_replicate,show M - (n - (xLR st).length)=h - n by omega]
theorem xE1 (J:Int) (n h:Nat) (q ox:List Per) (hs:StOk q) (hh:(xLR q).length=h) (hn:n<=1048576) (hb:h<=1048576) (ho:ox.length+1048576<=1099511627776) :
  ∃ O:List Per,set2 J (n:Int) (h:Int) q.length ox.length (q.map encP) (ox.map encP)=some ((n:Int),O.length,(ox++(((xLR q).drop n).reverse.map fun f=>(f,J))).length,O.map encP,(ox++(((xLR q).drop n).reverse.map fun f=>(f,J))).map encP) /\
   StOk O/\xLR O=(xLR q).take n++List.replicate (n - h) J:=by
 have sl:=hs.len;rw [hh] at sl;have tk:List.take q.length (q.map encP)=q.map encP:=zi (by simp)
 by_cases Z:h<n
 . have i1:(n:Int)>(h:Int):=by omega
   have w1:IntKind.i64.wrap ((n:Int) - (h:Int))=((n - h:Nat):Int):=by rw [xby (by omega) (by omega)];omega
   have U:StOk (q++[(J,((n - h:Nat):Int))]):=fun s h1=>by
    rcases zG.1 h1 with h1|h1
    . exact hs s h1
    . rw [zv] at h1;subst h1;dsimp only;omega
   have hf:xLR (q++[(J,((n - h:Nat):Int))])=xLR q++List.replicate (n - h) J:=by rw [xiR,zN]
   have Y:(xLR (q++[(J,((n - h:Nat):Int))])).length=n:=by rw [hf,z8,List.length_replicate];omega
   obtain ⟨O,V,Q,e,h1,h2,h3⟩:=xAb J n (q.length+1) (q++[(J,((n - h:Nat):Int))]) n ox 1 0 (by simp) U Y (zd _) hn (by omega)
   refine ⟨O,?_,h1,?_⟩
   . have d1:(xLR q).drop n=[]:=zq (by omega)
     have d2:(xLR (q++[(J,((n - h:Nat):Int))])).drop n=[]:=zq (by omega)
     rw [d2] at h3;subst h3;rw [d1];have m1:(q.length+1)*16<=140737488355328:=by omega
     have m2:q.length+1<=4611686018427387904:=by omega
     have W:List.take (q.length+1) (q.map encP++[AV.agg [.int .i64 J,.int .i64 ((n - h:Nat):Int)]])=(q++[(J,((n - h:Nat):Int))]).map encP:=by
      rw [zi (by simp),zx];rfl
     rw [z8,zj] at e;unfold set2 xln xkQ;simp only [xmj,xmk,xml,xmm,xmn,xmo,xmp,xmq,xmr,xms,xlo,xlp,xlq,xlr,xls,xlt,xlu,xlv,i1,w1,zn,xab,za,beq_self_eq_true,m1,m2,Bool.and_self,W,e,zk,zh,Option.bind_some,Nat.beq_refl,sUF]
   . rw [h2,hf,zi (by rw [<-hf];omega),zi (by omega)]
 . obtain ⟨O,V,Q,e,h1,h2,h3⟩:=xAb J n q.length q h ox 0 0 (zd _) hs hh (by omega) hb (by omega)
   refine ⟨O,?_,h1,by rw [h2,show n - h=0 by omega];simp⟩
   have i1:¬ (n:Int)>(h:Int):=by omega
   subst h3;unfold set2 xln xkQ;simp only [xmj,xmk,xml,xmm,xmn,xmo,xmp,xmq,xmr,xms,xlo,xlp,xlq,xlr,xls,xlt,xlu,xlv,i1,zm,xac,tk,e,zk,zh,xab,Option.bind_some,Nat.beq_refl,Bool.and_self,sUF]
def setF (s:List Int×List Per) (q:Int×Nat):List Int×List Per:=(s.1.take q.2++List.replicate (q.2 - s.1.length) q.1,s.2++((s.1.drop q.2).reverse.map fun f=>(f,q.1)))
theorem xwS {α β:Type} (A B:α->List β):∀ l:List α,(l.flatMap fun k=>A k++B k).Perm (l.flatMap A++l.flatMap B)
 | []=>List.Perm.refl _
 | a::l=>by
  rw [zR,zR,zR];have ih:=xwS A B l;refine (ih.append_left (A a++B a)).trans ?_;rw [zw,zw];refine List.Perm.append_left _ ?_;rw [<-zw,<-zw];exact List.Perm.append_right _ List.perm_append_comm
theorem xzu {β:Type} (g:Int->β):∀ (F:List Int) (H n:Nat),F.length<=H->(List.range H).flatMap (fun k=>if n<=k then (F[k]?).toList.map g else [])=(F.drop n).map g
 | [],H,n,_=>by
  rw [List.drop_nil,zW,List.flatMap_eq_nil_iff];intro k _;split<;>simp
 | x::F,0,n,h=>by simp at h
 | x::F,H+1,n,h=>by
  rw [List.range_succ_eq_map,zR,List.flatMap_map];have ih:=xzu g F H (n - 1) (by simpa using h)
  have e:(List.range H).flatMap (fun a=>if n<=a.succ then (((x::F)[a.succ]?).toList).map g else [])=(F.drop (n - 1)).map g:=by
   rw [<-ih];congr 1;funext a;have:(n<=a.succ)=(n - 1<=a):=by rw [eq_iff_iff];omega
   simp only [this,zZ,Nat.succ_eq_add_one]
  rw [e];cases n with
  | zero=>simp
  | succ n=>simp
structure LvI (N:Int->Nat) (H:Nat) (at':Int) (F:List Int) (out:List Per) (A:Nat->List Per):Prop where
 perm:out.Perm ((List.range H).flatMap A)
 span:∀ k,IsSpan (A k)
 low:∀ k (h:k<F.length),F[k]<=at'/\0<=F[k]/\∀ p,p∈A k->p.2<F[k]
 high:∀ k,F.length<=k->∀ p,p∈A k->p.2<=at'
 cov:∀ k t,t<=at'->((inL (A k) t=true\/∃ h:k<F.length,F[k]<=t)↔k<N t)
 len:F.length=N at'
 top:F.length<=H
theorem LvI.start {N:Int->Nat} {H:Nat} (h0:∀ t,t<0->N t=0):LvI N H (-1) [] [] fun _=>[] where
 perm:=by
  have:(List.range H).flatMap (fun _=>([]:List Per))=[]:=by simp
  rw [this]
 span _:=xll
 low k h:=by simp at h
 high k _ p hp:=by simp at hp
 cov k t ht:=by rw [h0 t (by omega),xd3];simp
 len:=by rw [h0 _ (by omega)];rfl
 top:=zQ _
theorem LvI.set {N:Int->Nat} {H:Nat} {a b:Int} {F:List Int} {out:List Per} {A:Nat->List Per} (h:LvI N H a F out A) (ac:a<b) (h0:0<=b) (hb:b<=1099511627776) (hc:∀ t,a<=t->t<b->N t=N a) (hH:N b<=H) :
  ∃ A',LvI N H b (setF (F,out) (b,N b)).1 (setF (F,out) (b,N b)).2 A':=by
 have hl:=h.len;refine ⟨fun k=>A k++(if N b<=k then (F[k]?).toList.map (fun f=>(f,b)) else []),?_,?_,?_,?_,?_,?_,?_⟩
 . refine (List.Perm.append h.perm ?_).trans (xwS A _ _).symm;rw [xzu (fun f=>(f,b)) F H (N b) h.top]
   exact (List.reverse_perm _).map _
 . intro k;by_cases hk:N b<=k
   . rw [if_pos hk];by_cases J:k<F.length
     . obtain ⟨l1,l2,l3⟩:=h.low k J;rw [ze J];refine ⟨fun p hp=>?_,List.pairwise_append.2 ⟨(h.span k).2,by simp,fun p hp q hq=>?_⟩⟩
       . rcases zG.1 hp with hp|hp
         . exact (h.span k).1 p hp
         . simp at hp;subst hp;exact xax.2 ⟨l2,by dsimp only;omega,hb⟩
       . simp at hq;subst hq;exact l3 p hp
     . rw [zz (by omega)];simpa using h.span k
   . rw [if_neg hk,zD];exact h.span k
 . intro k hk;simp only [setF] at hk |-;rw [z8,zt,List.length_replicate] at hk;have O:¬ N b<=k:=by omega
   simp only [O,if_false,zD];by_cases J:k<F.length
   . rw [List.getElem_append_left (by rw [zt];omega),List.getElem_take]
     obtain ⟨l1,l2,l3⟩:=h.low k J;exact ⟨by omega,l2,l3⟩
   . rw [List.getElem_append_right (by rw [zt];omega),List.getElem_replicate]
     exact ⟨Int.le_refl _,h0,fun p hp=>by have:=h.high k (by omega) p hp;omega⟩
 . intro k hk p hp;simp only [setF] at hk;rw [z8,zt,List.length_replicate] at hk;have O:N b<=k:=by omega
   simp only [O,if_true] at hp;by_cases J:k<F.length
   . rw [ze J] at hp;rcases zG.1 hp with hp|hp
     . obtain ⟨l1,l2,l3⟩:=h.low k J;have:=l3 p hp;omega
     . simp at hp;subst hp;exact Int.le_refl _
   . rw [zz (by omega)] at hp
     simp at hp;have:=h.high k (by omega) p hp;omega
 . intro k t ht;have Q:(setF (F,out) (b,N b)).1=F.take (N b)++List.replicate (N b - F.length) b:=rfl;have key:(∃ hh:k<(setF (F,out) (b,N b)).1.length,(setF (F,out) (b,N b)).1[k]<=t)↔(k<N b/\((∃ hh:k<F.length,F[k]<=t)\/(F.length<=k/\b<=t))):=by
    constructor
    . rintro ⟨hh,U⟩;have hh':=hh;rw [Q,z8,zt,List.length_replicate] at hh';refine ⟨by omega,?_⟩
      by_cases J:k<F.length
      . refine .inl ⟨J,?_⟩;have e:(setF (F,out) (b,N b)).1[k]=F[k]:=by
         simp only [Q];rw [List.getElem_append_left (by rw [zt];omega),List.getElem_take]
        rw [<-e];exact U
      . refine .inr ⟨by omega,?_⟩
        have e:(setF (F,out) (b,N b)).1[k]=b:=by
         simp only [Q];rw [List.getElem_append_right (by rw [zt];omega),List.getElem_replicate]
        rw [<-e];exact U
    . rintro ⟨h1,h2⟩;have hh:k<(setF (F,out) (b,N b)).1.length:=by rw [Q,z8,zt,List.length_replicate];omega
      refine ⟨hh,?_⟩;rcases h2 with ⟨J,U⟩|⟨J,U⟩
      . have e:(setF (F,out) (b,N b)).1[k]=F[k]:=by
         simp only [Q];rw [List.getElem_append_left (by rw [zt];omega),List.getElem_take]
        rw [e];exact U
      . have e:(setF (F,out) (b,N b)).1[k]=b:=by
         simp only [Q];rw [List.getElem_append_right (by rw [zt];omega),List.getElem_replicate]
        rw [e];exact U
   rw [key];have Y:inL (A k++(if N b<=k then (F[k]?).toList.map (fun f=>(f,b)) else [])) t=true↔inL (A k) t=true\/(N b<=k/\(∃ hh:k<F.length,F[k]<=t)/\t<b):=by
    rw [xnY,Bool.or_eq_true];refine or_congr Iff.rfl ?_;by_cases O:N b<=k
    . rw [if_pos O];by_cases J:k<F.length
      . obtain ⟨l1,l2,l3⟩:=h.low k J;rw [ze J];have e:inL ((some F[k]).toList.map fun f=>(f,b)) t=hasP (F[k],b) t:=by simp [inL]
        rw [e,xaU,xax];dsimp only;constructor
        . rintro ⟨_,h2,h3⟩;exact ⟨O,⟨J,h2⟩,h3⟩
        . rintro ⟨_,⟨_,h2⟩,h3⟩;exact ⟨⟨l2,by omega,hb⟩,h2,h3⟩
      . rw [zz (by omega)]
        simp only [Option.toList_none,zW,xd3,zT,false_iff];rintro ⟨_,⟨hh,_⟩,_⟩;omega
    . rw [if_neg O,xd3];simp only [zT,false_iff];rintro ⟨hh,_⟩;omega
   rw [Y];by_cases ab:t<=a
   . have W:=h.cov k t ab;rw [<-W];constructor
     . rintro ((h1|⟨_,h2,_⟩)|⟨_,h2|⟨_,h3⟩⟩)
       . exact .inl h1
       . exact .inr h2
       . exact .inr h2
       . omega
     . rintro (h1|h2)
       . exact .inl (.inl h1)
       . by_cases O:N b<=k
         . exact .inl (.inr ⟨O,h2,by omega⟩)
         . exact .inr ⟨by omega,.inl h2⟩
   . have Z:inL (A k) t=true->False:=fun hi=>by
      obtain ⟨p,hp,_,p1,p2⟩:=xen.1 hi;by_cases J:k<F.length
      . obtain ⟨l1,l2,l3⟩:=h.low k J;have:=l3 p hp;omega
      . have:=h.high k (by omega) p hp;omega
     have aa:(∃ hh:k<F.length,F[k]<=t)↔k<F.length:=⟨fun ⟨hh,_⟩=>hh,fun hh=>⟨hh,by have:=(h.low k hh).1;omega⟩⟩
     rw [aa];by_cases V:t<b
     . rw [hc t (by omega) V,<-hl]
       constructor
       . rintro ((h1|⟨_,h2,_⟩)|⟨_,h2|⟨_,h3⟩⟩)
         . exact (Z h1).elim
         . exact h2
         . exact h2
         . omega
       . intro J;by_cases O:N b<=k
         . exact .inl (.inr ⟨O,J,V⟩)
         . exact .inr ⟨by omega,.inl J⟩
     . obtain rfl:t=b:=by omega
       constructor
       . rintro ((h1|⟨_,_,h2⟩)|⟨h1,_⟩)
         . exact (Z h1).elim
         . omega
         . exact h1
       . intro hk;refine .inr ⟨hk,?_⟩;by_cases J:k<F.length
         . exact .inl J
         . exact .inr ⟨by omega,Int.le_refl _⟩
 . show (F.take (N b)++List.replicate (N b - F.length) b).length=N b;rw [z8,zt,List.length_replicate];omega
 . show (F.take (N b)++List.replicate (N b - F.length) b).length<=H;rw [z8,zt,List.length_replicate];omega
theorem xs3 {N:Int->Nat} {a b:Int} (h:∀ t,a<t->t<b->N (t - 1)=N t):∀ (d:Nat) (t:Int),t=a+d->t<b->N t=N a
 | 0,t,e,_=>by rw [e];simp
 | d+1,t,e,hb=>by
  rw [<-h t (by omega) hb]
  exact xs3 h d (t - 1) (by omega) (by omega)
theorem xCN {N:Int->Nat} {H:Nat} (hH:∀ t,N t<=H):∀ (R:List Per) (a:Int) (F:List Int) (out:List Per) (A:Nat->List Per),LvI N H a F out A->-1<=a->a<1099511627776->(∀ s,s∈R->a<s.1/\s.1<1099511627776/\s.2=(N s.1:Int))->R.Pairwise (fun x y=>x.1<y.1) ->
  (∀ t,a<t->t<1099511627776->N (t - 1)≠N t->∃ s,s∈R/\s.1=t)->∃ (a':Int) (A':Nat->List Per),LvI N H a' (R.foldl (fun x s=>setF x (s.1,s.2.toNat)) (F,out)).1 (R.foldl (fun x s=>setF x (s.1,s.2.toNat)) (F,out)).2 A'/\-1<=a'/\a'<1099511627776/\∀ t,a'<t->t<1099511627776->N (t - 1)=N t
 | [],a,F,out,A,h,h1,h2,_,_,hm=>⟨a,A,h,h1,h2,fun t t1 t2=>by
  by_cases e:N (t - 1)=N t
  . exact e
  . obtain ⟨s,hs,_⟩:=hm t t1 t2 e;simp at hs⟩
 | s::R,a,F,out,A,h,h1,h2,hr,hp,hm=>by
  obtain ⟨s1,s2,s3⟩:=hr s (by simp)
  obtain ⟨p1,p2⟩:=zM.1 hp;obtain ⟨A',h'⟩:=h.set (b:=s.1) s1 (by omega) (by omega) (fun t t1 t2=>xs3 (a:=a) (b:=s.1) (fun u u1 u2=>by
   by_cases e:N (u - 1)=N u
   . exact e
   . obtain ⟨q,hq,J⟩:=hm u u1 (by omega) e
     rcases zC.1 hq with rfl|hq
     . omega
     . have:=p1 q hq;omega) (t - a).toNat t (by omega) t2) (hH _)
  rw [List.foldl_cons];have e:setF (F,out) (s.1,s.2.toNat)=setF (F,out) (s.1,N s.1):=by rw [s3,zN]
  rw [e];obtain ⟨a',A2,g1,g2,g3,g4⟩:=xCN hH R s.1 _ _ A' h' (by omega) s2 (fun q hq=>⟨p1 q hq,(hr q (by simp [hq])).2⟩) p2 (fun t t1 t2 e=>by
   obtain ⟨q,hq,J⟩:=hm t (by omega) t2 e
   rcases zC.1 hq with rfl|hq
   . omega
   . exact ⟨q,hq,J⟩)
  exact ⟨a',A2,g1,g2,g3,g4⟩
theorem xIu {N:Int->Nat} {H:Nat} (hH:∀ t,N t<=H) (h0:∀ t,t<0\/1099511627776<=t->N t=0) {S:List Per} (hS:StepI (fun t=>(N t:Int)) 1099511627776 S) {P:List Per} (hP:P.Perm (setF (S.foldl (fun x s=>setF x (s.1,s.2.toNat)) ([],[])) (1099511627776,0)).2) (hs:Sorted cmpP P):IsLevs N P:=by
 obtain ⟨a,A,g1,g2,g3,g4⟩:=xCN hH S (-1) [] [] _ (LvI.start fun t ht=>h0 t (.inl ht)) (by omega) (by omega) (fun s hs=>by
  obtain ⟨m1,m2,m3,_⟩:=(hS.mem s).1 hs;exact ⟨by omega,m2,m3⟩) hS.asc (fun t t1 t2 e=>by
  refine ⟨(t,(N t:Int)),(hS.mem _).2 ⟨by dsimp only;omega,t2,rfl,?_⟩,rfl⟩
  refine .inr ?_;dsimp only;omega)
 have hz:N 1099511627776=0:=h0 _ (.inr (Int.le_refl _));obtain ⟨A',h'⟩:=g1.set (b:=1099511627776) g3 (by omega) (by omega) (fun t t1 t2=>xs3 (fun u u1 u2=>g4 u u1 u2) (t - a).toNat t (by omega) t2) (hH _)
 rw [hz] at h';have hF:=h'.len;rw [hz] at hF;refine ⟨hs,A',H,hH,fun k=>⟨h'.span k,fun t=>?_⟩,hP.trans h'.perm⟩
 rw [Bool.eq_iff_iff,zl];by_cases ht:t<=1099511627776
 . rw [<-h'.cov k t ht];refine ⟨Or.inl,fun hh=>hh.elim id fun ⟨hk,_⟩=>?_⟩
   rw [hF] at hk;omega
 . rw [h0 t (.inr (by omega))]
   refine ⟨fun hi=>?_,fun hh=>by omega⟩
   have:=(xuj hi).2;omega
abbrev Grp:=Row×List Per
def encG (g:Grp):AV:=.agg [.list 3 (g.1.map encV),.list 2 (g.2.map encP)]
def okEG (x:AV):Bool:=x.cells.length==(2:Nat)&&xMR [Sh.list (3:Nat),Sh.list (2:Nat)] x.cells (0:Nat)
def ldEG (x:AV):AV:=AV.agg [AV.list (3:Nat) (x.cells.getD (0:Nat) AV.top).toList,AV.list (2:Nat) (x.cells.getD (1:Nat) AV.top).toList]
def xMg (x y:AV):Bool:=(xfT (x.cells.getD 0 AV.top).toList (x.cells.getD 1 AV.top).toList (y.cells.getD 0 AV.top).toList (y.cells.getD 1 AV.top).toList).isSome
def xMh (x y:AV):Int:=(xfT (x.cells.getD 0 AV.top).toList (x.cells.getD 1 AV.top).toList (y.cells.getD 0 AV.top).toList (y.cells.getD 1 AV.top).toList).getD 0
theorem heG (a:Grp):okEG (encG a)=true:=rfl
theorem hdG (a:Grp):ldEG (encG a)=encG a:=rfl
section
variable {N : Nat} (hN : N <= 2 ^ 60) {ok : Grp -> Prop} {c : Grp -> Grp -> Int} (hc : ∀ x y, ok x -> ok y -> xMg (encG x) (encG y) = true /\ xMh (encG x) (encG y) = c x y)
include hN
include hc
theorem xLD (a b:Nat) (ha:a<=N) (hb:b<=N) {l r:List Grp} (hl:LOk N ok l) (hr:xMa c a b l=some r):xaN N a b (List.map encG l)=some (List.map encG r)/\LOk N ok r:=by
 obtain ⟨e1,e2⟩:=xIx (enc:=encG) hN (c:=c) (ok:=ok) a b hb (gi:=fun i=>xa1 N a b i) (fun i l r hl hr=>xJ6 (okE:=okEG) (ldE:=ldEG) heG hdG hN (P:=xMg) (V:=xMh) hc a (fun j xs=>rfl) hl hr) (g:=xa0 N a b) (fun i xs=>rfl) hl hr
 refine ⟨?_,e2⟩;unfold xaN xdO;rw [w64 (x:=(a:Int)+1) (n:=a+1) (by omega) (by omega),e1];rfl
theorem xI0 (q:N<20) {l r:List Grp} (hl:LOk N ok l) (hr:xMa c 0 N l=some r):xeM N N (List.map encG l)=some (List.map encG r)/\LOk N ok r:=by
 obtain ⟨e1,e2⟩:=xLD hN hc 0 N (by omega) (zd _) hl hr
 have e1:xaN N 0 N (List.map encG l)=_:=e1;have q0:Iter (xbe N N 20) ((0:Int),(20:Int),List.map encG l)=some ((0:Int),List.map encG l):=by
  refine xad ?_;have h1:¬ (20:Int)<=(N:Int):=by omega
  simp only [xbe,xeU,h1,zm,xac,sUF]
 have q1:Iter (xb7 N N) ((20:Int),List.map encG r)=some (List.map encG r):=by
  refine xad ?_;have h1:¬ (20:Int)<(N:Int):=by omega
  simp only [xb7,xeV,h1,zm,xac,sUF]
 refine ⟨?_,e2⟩;simp only [xeM,xgc,xfM,xfN,xfO,q0,e1,q1,zk,zh,xab,sUF]
end
theorem xLG {N:Nat} (hN:N*48<=140737488355328) {ok:Grp->Prop} {c:Grp->Grp->Int} (hc:∀ x y:Grp,ok x->ok y->xMg (encG x) (encG y)=true/\xMh (encG x) (encG y)=c x y) (q:N<20) (l r:List Grp) (hl:l.length=N) (ho:∀ x,x∈l->ok x) (hr:xMa c 0 N l=some r) :
  xgA N (List.map encG l)=some (List.map encG r):=by
 obtain ⟨e1,e2⟩:=xI0 (N:=N) (by omega) (ok:=ok) hc q ⟨hl,ho⟩ hr
 simp only [xgA,xfL,e1,zk,zh,xab,sUF]
end Go.Sim.M
end
noncomputable section
set_option maxRecDepth 100000
namespace Go.Sim.M
open Go.RowKit Go.Sim.Srt
def ents:Nat->List Row->List AV
 | _,[]=>[]
 | k,r::R=>.agg [.str (keyOf r),.int .i64 (k:Int)]::ents (k+1) R
theorem xEE:∀ (R:List Row) (k:Nat) (r:Row),mapIx (ents k R) (keyOf r)=R.findIdx? fun x=>decide (x=r)
 | [],_,_=>rfl
 | x::R,k,r=>by
  have hk:isKey (keyOf r) (((AV.agg [.str (keyOf x),.int .i64 (k:Int)]).cells).getD 0 .top)=decide (x=r):=by
   show (keyOf x==keyOf r)=_;by_cases h:x=r
   . subst h;simp
   . have:¬ keyOf x=keyOf r:=fun e=>h (xz9 e)
     simp [h,this]
  show (match isKey (keyOf r) (((AV.agg [.str (keyOf x),.int .i64 (k:Int)]).cells).getD 0 .top) with|true=>some 0|false=>(mapIx (ents (k+1) R) (keyOf r)).map (·+1))=_
  rw [hk,List.findIdx?_cons,xEE R (k+1) r];by_cases h:x=r<;>simp [h]
theorem xCt:∀ (R:List Row) (k:Nat),(ents k R).length=R.length
 | [],_=>rfl
 | _::R,k=>by show (ents (k+1) R).length+1=_;rw [xCt R];rfl
theorem xAJ:∀ (R:List Row) (k:Nat) (r:Row),ents k (R++[r])=ents k R++[.agg [.str (keyOf r),.int .i64 ((k+R.length:Nat):Int)]]
 | [],_,_=>rfl
 | x::R,k,r=>by
  show _::ents (k+1) (R++[r])=_;rw [xAJ R (k+1) r,zF,show k+1+R.length=k+(R.length+1) by omega];rfl
theorem xCs:∀ (R:List Row) (k j:Nat) (h:j<R.length),(ents k R).getD j .top=.agg [.str (keyOf R[j]),.int .i64 ((k+j:Nat):Int)]
 | x::R,k,0,h=>rfl
 | x::R,k,j+1,h=>by
  show (ents (k+1) R).getD j .top=_;rw [xCs R (k+1) j (by simpa using h),show k+1+j=k+(j+1) by omega];rfl
def upd (G:List Grp) (f:Fc):List Grp:=match (G.map (·.1)).findIdx? fun x=>decide (x=f.r) with
 | some j=>G.set j (f.r,(G.getD j ([],[])).2++[f.p])
 | none=>G++[(f.r,[f.p])]
structure GI (l:List Fc) (G:List Grp):Prop where
 nd:(G.map (·.1)).Nodup
 mem:∀ r,r∈G.map (·.1)↔∃ f,f∈l/\f.r=r/\pv f.p=true
 ps:∀ g,g∈G->g.2=psOf l g.1
 len:G.length<=l.length
theorem GI.nil:GI [] []:=⟨List.nodup_nil,fun r=>by simp,fun g hg=>by simp at hg,zd _⟩
theorem xum (l:List Fc) (f:Fc) (r:Row):psOf (l++[f]) r=psOf l r++(if f.r=r/\pv f.p=true then [f.p] else []):=by
 unfold psOf;rw [List.filter_append,zx];congr 1;by_cases h1:f.r=r<;>by_cases h2:pv f.p=true<;>simp [h1,h2]
theorem GI.skip {l:List Fc} {G:List Grp} (h:GI l G) {f:Fc} (hf:pv f.p=false):GI (l++[f]) G :=
 ⟨h.nd,fun r=>by
  rw [h.mem];refine ⟨fun ⟨g,hg,e⟩=>⟨g,by simp [hg],e⟩,fun ⟨g,hg,e1,e2⟩=>⟨g,?_,e1,e2⟩⟩
  rcases zG.1 hg with hg|hg
  . exact hg
  . rw [zv] at hg;subst hg;rw [hf] at e2;simp at e2,fun g hg=>by rw [xum,if_neg (by rw [hf];simp),zD];exact h.ps g hg,by rw [z8];have:=h.len;omega⟩
theorem xvQ {R:List Row} {r:Row} {j:Nat} (h:R.findIdx? (fun x=>decide (x=r))=some j):∃ hj:j<R.length,R[j]=r:=by
 obtain ⟨hj,h1,_⟩:=List.findIdx?_eq_some_iff_getElem.1 h;exact ⟨hj,by simpa using h1⟩
theorem xCv {R:List Row} {r:Row} (h:R.findIdx? (fun x=>decide (x=r))=none):r∉R:=fun hr=>by
 have:=List.findIdx?_eq_none_iff.1 h r hr;simp at this
theorem xAm {G:List Grp} {j:Nat} (hj:j<G.length) {ps:List Per} {r:Row} (hr:G[j].1=r):(G.set j (r,ps)).map (·.1)=G.map (·.1):=by
 rw [List.map_set];show (G.map (·.1)).set j r=_;rw [<-hr];have:(G.map (·.1))[j]'(by simpa using hj)=G[j].1:=by simp
 rw [<-this];exact List.set_getElem_self _
theorem GI.upd {l:List Fc} {G:List Grp} (h:GI l G) {f:Fc} (hf:pv f.p=true):GI (l++[f]) (M.upd G f):=by
 unfold M.upd;cases hi:(G.map (·.1)).findIdx? fun x=>decide (x=f.r) with
 | some j =>
  obtain ⟨hj,hr⟩:=xvQ hi;rw [za] at hj;rw [List.getElem_map] at hr;dsimp only;have gd:G.getD j ([],[])=G[j]:=by rw [z7,ze hj];rfl
  rw [gd];refine ⟨by rw [xAm hj hr];exact h.nd,fun r=>?_,fun g hg=>?_,by rw [y5,z8];have:=h.len;omega⟩
  . rw [xAm hj hr,h.mem];refine ⟨fun ⟨g,hg,e⟩=>⟨g,by simp [hg],e⟩,fun ⟨g,hg,e1,e2⟩=>?_⟩
    rcases zG.1 hg with hg|hg
    . exact ⟨g,hg,e1,e2⟩
    . rw [zv] at hg;subst hg;refine (h.mem r).1 ?_;rw [<-e1,<-hr];exact zK.2 ⟨G[j],zo hj,rfl⟩
  . obtain ⟨i,q,rfl⟩:=zp.1 hg;rw [y5] at q;rw [List.getElem_set];by_cases J:j=i
    . subst J;rw [if_pos rfl,xum,if_pos ⟨rfl,hf⟩,h.ps _ (zo hj),hr]
    . rw [if_neg J,xum,if_neg ?_,zD]
      . exact h.ps _ (zo q)
      . rintro ⟨e,_⟩;have hn:=zB.1 h.nd;have ei:(G.map (·.1))[i]'(by simpa using q)=G[i].1:=by simp
        have ej:(G.map (·.1))[j]'(by simpa using hj)=G[j].1:=by simp
        rcases Nat.lt_or_gt_of_ne J with O|O
        . exact hn j i (by simpa using hj) (by simpa using q) O (by rw [ei,ej,hr,e])
        . exact hn i j (by simpa using q) (by simpa using hj) O (by rw [ei,ej,hr,e])
 | none =>
  have hr:=xCv hi;dsimp only;have hz:psOf l f.r=[]:=by
   unfold psOf;rw [List.map_eq_nil_iff,List.filter_eq_nil_iff];intro g hg he;simp only [zf,zl] at he;exact hr ((h.mem _).2 ⟨g,hg,he⟩)
  refine ⟨?_,fun r=>?_,fun g hg=>?_,by rw [z8,z8];have:=h.len;simp;omega⟩
  . rw [zx];refine List.nodup_append.2 ⟨h.nd,by simp,fun a ha b hb e=>?_⟩
    simp at hb;exact hr (by rw [<-hb,<-e];exact ha)
  . rw [zx,zG,h.mem];simp only [zV,zW,zv,zG];constructor
    . rintro (⟨g,hg,e⟩|rfl)
      . exact ⟨g,.inl hg,e⟩
      . exact ⟨f,.inr rfl,rfl,hf⟩
    . rintro ⟨g,hg|rfl,e⟩
      . exact .inl ⟨g,hg,e⟩
      . exact .inr e.1.symm
  . rcases zG.1 hg with hg|hg
    . rw [xum,if_neg ?_,zD]
      . exact h.ps g hg
      . rintro ⟨e,_⟩;exact hr (by rw [e];exact zK.2 ⟨g,hg,rfl⟩)
    . rw [zv] at hg;subst hg;rw [xum,if_pos ⟨rfl,hf⟩,hz];rfl
theorem cG0 (g:Grp):((encG g).cells.getD 0 .top).toList=g.1.map encV:=rfl
theorem xHa {α:Type} (l:List α) (x d:α):(l++[x]).getD l.length d=x:=by simp
theorem xIZ {α:Type} (l:List α) (x y:α):(l++[x]).set l.length y=l++[y]:=by simp
theorem xMo (xs:List AV):(AV.agg xs).cells=xs:=rfl
theorem tolA (n:Nat) (xs:List AV):(AV.list n xs).toList=xs:=rfl
theorem xMr (k:IntKind) (n:Int):(AV.int k n).toInt=n:=rfl
theorem xMp (xs:List AV):xNq 2 (.list 2 xs)=true:=rfl
theorem xMu (n m:Nat):xNO (.int .i64 (n:Int)) m=decide (n<m):=rfl
theorem xMt:xNO (.int .i64 0) 1=true:=rfl
theorem g2a (a b:AV):[a,b].getD 0 .top=a:=rfl
theorem g2b (a b:AV):[a,b].getD 1 .top=b:=rfl
theorem lt2 (a b:AV):([a,b].length==2)=true:=rfl
theorem tk1 (a b:AV):List.take 1 [a,b]=[a]:=rfl
theorem dp2 (a b:AV):List.drop 2 [a,b]=[]:=rfl
theorem xEC (g:Grp):encG g=.agg [.list 3 (g.1.map encV),.list 2 (g.2.map encP)]:=rfl
theorem xED (p:Per):encP p=.agg [.int .i64 p.1,.int .i64 p.2]:=rfl
def R20 (l:List Fc):Prop:=∃ R:List Row,R.length<20/\∀ f,f∈l->f.r∈R
theorem R20.few {l:List Fc} (h:l.length<20):R20 l:=⟨l.map (·.r),by rw [za];exact h,fun f hf=>zK.2 ⟨f,hf,rfl⟩⟩
theorem R20.of {l m:List Fc} (h:R20 l) (hm:∀ f,f∈m->∃ g,g∈l/\f.r=g.r):R20 m:=by
 obtain ⟨R,h1,h2⟩:=h;exact ⟨R,h1,fun f hf=>by obtain ⟨g,g1,g2⟩:=hm f hf;rw [g2];exact h2 g g1⟩
def Keyed (l:List Fc):Prop:=Few l/\(∀ f,f∈l->(∀ v,v∈f.r->KOk v)/\(keyOf f.r).length<=17592186044416)/\R20 l
theorem Keyed.key {l:List Fc} (h:Keyed l) {f:Fc} (hf:f∈l):xhP (f.r.map encV)=some (keyOf f.r):=xHi f.r (h.1.2 f hf) (h.2.1 f hf).1 (h.2.1 f hf).2
theorem xHN (l:List Fc) (h:Keyed l) (k:Nat) (hk:k<l.length) (G:List Grp) (hG:GI (l.take k) G) :
  xaX (l.map encF) ((l.length:Nat):Int) (G.length,(k:Int),ents 0 (G.map (·.1)),G.map encG) =
   some (.inl ((if pv l[k].p=true then upd G l[k] else G).length,((k+1:Nat):Int),ents 0 ((if pv l[k].p=true then upd G l[k] else G).map (·.1)),(if pv l[k].p=true then upd G l[k] else G).map encG)):=by
 have hl:=h.1.1;have i1:(k:Int)<(l.length:Int):=by omega
 have gf:(l.map encF).getD k .top=encF l[k]:=xaa _ _ _ hk;have ek:=h.key (zo hk);have kl:=(h.2.1 _ (zo hk)).2;have O:=hG.len;rw [zt] at O;cases hv:pv l[k].p with
 | false =>
  simp only [xaX,xds,sBU,i1,hk,gf,cF0,cF1,cF2,sF0,sF1,sF2,lF,sF12,sF02,xiJ,hv,xLP (n:=k) (by omega)]
  rfl
 | true =>
  have k1:(keyOf l[k].r).length<=4611686018427387904:=by omega
  have hx:=xEE (G.map (·.1)) 0 l[k].r;have n1:(ents 0 (G.map (·.1))).length<4611686018427387904:=by rw [xCt,za];omega
  have m1:(G.length+1)*48<=140737488355328:=by omega
  have m2:G.length+1<=4611686018427387904:=by omega
  simp only [if_true];cases hi:(G.map (·.1)).findIdx? fun x=>decide (x=l[k].r) with
  | none =>
   rw [hi] at hx;have hu:upd G l[k]=G++[(l[k].r,[l[k].p])]:=by unfold upd;rw [hi]
   have hh:xNf (ents 0 (G.map (·.1))) (keyOf l[k].r)=false:=by unfold xNf;rw [hx];rfl
   have hg:xM3 (AV.int .i64 0) (ents 0 (G.map (·.1))) (keyOf l[k].r)=AV.int .i64 0:=by unfold xM3;rw [hx]
   have hp:xM1 (ents 0 (G.map (·.1))) (keyOf l[k].r) (AV.int .i64 (G.length:Int))=ents 0 ((G++[(l[k].r,[l[k].p])]).map (·.1)):=by
    unfold xM1;rw [hx,zx];show _=ents 0 (G.map (·.1)++[l[k].r]);rw [xAJ,za,zH]
   have i2:(G.length:Int)<((G.length+1:Nat):Int):=by omega
   have J:xMK (Sh.int .i64) (AV.int .i64 0)=true:=rfl;have gl:∀ x:AV,(G.map encG++[x]).getD G.length .top=x:=fun x=>by have:=xHa (G.map encG) x .top;rwa [za] at this
   have sl:∀ x y:AV,(G.map encG++[x]).set G.length y=G.map encG++[y]:=fun x y=>by have:=xIZ (G.map encG) x y;rwa [za] at this
   rw [hu];simp only [xaX,xds,xgd,xge,xcS,xcT,xeg,xgf,xeh,xao,xgg,xap,xaD,xak,xdS,xfs,xft,xa8,xfu,xdT,xbJ,sBU,i1,hk,gf,cF0,cF1,cF2,sF0,sF1,sF2,lF,sF12,sF02,xiJ,hv,xLP (n:=k) (by omega),ek,k1,hh,hg,hp,n1,m1,m2,i2,J,gl,sl,z8,zj,zx,zV,zW,xMo,tolA,xMr,xMp,xMu,g2a,g2b,lt2,tk1,dp2,y5,Nat.lt_succ_self,Bool.and_self,List.length_nil,zH,xEC,xED,List.singleton_append,zU,zD,Int.natCast_zero]
   try simp [xab,xMt,sUF]
  | some j =>
   obtain ⟨hj,hr⟩:=xvQ hi;rw [hi] at hx;have q:j<G.length:=by simpa using hj
   rw [List.getElem_map] at hr;have gd:G.getD j ([],[])=G[j]:=by rw [z7,ze q];rfl
   have hu:upd G l[k]=G.set j (l[k].r,G[j].2++[l[k].p]):=by unfold upd;rw [hi];dsimp only;rw [gd]
   have hh:xNf (ents 0 (G.map (·.1))) (keyOf l[k].r)=true:=by unfold xNf;rw [hx];rfl
   have hg:xM3 (AV.int .i64 0) (ents 0 (G.map (·.1))) (keyOf l[k].r)=AV.int .i64 (j:Int):=by
    unfold xM3;rw [hx];dsimp only;rw [xCs _ _ _ hj,zH];rfl
   have gj:(G.map encG).getD j .top=encG G[j]:=xaa _ _ _ q;have i2:(j:Int)<(G.length:Int):=by omega
   have J:xMK (Sh.int .i64) (AV.int .i64 (j:Int))=true:=rfl;have pl:G[j].2.length<=k:=by
    rw [hG.ps _ (zo q)];have:=xC7 (l.take k) G[j].1;rw [zt] at this;omega
   have m3:(G[j].2.length+1)*16<=140737488355328:=by omega
   have m4:G[j].2.length+1<=4611686018427387904:=by omega
   have gs:∀ x:AV,((G.map encG).set j x).getD j .top=x:=fun x=>by
    rw [z7,zL (by simpa using q)];rfl
   have ss:∀ x y:AV,((G.map encG).set j x).set j y=(G.map encG).set j y:=fun x y=>List.set_set ..
   have tj:(AV.int IntKind.i64 (j:Int)).toInt=(j:Int):=rfl;have cj:(encG G[j]).cells=[.list 3 (l[k].r.map encV),.list 2 (G[j].2.map encP)]:=by rw [<-hr];rfl
   rw [hu,xAm q hr,y5,List.map_set];simp only [xaX,xds,xgd,xge,xcS,xcT,xeg,xgf,xeh,xao,xgg,xap,xaD,xak,xdS,xfs,xft,xa8,xfu,xdT,xbJ,sBU,i1,hk,gf,cF0,cF1,cF2,sF0,sF1,sF2,lF,sF12,sF02,xiJ,hv,xLP (n:=k) (by omega),ek,k1,hh,hg,i2,J,tj,gj,cj,q,y5,gs,ss,xMo,tolA,xMr,xMp,xMu,g2a,g2b,lt2,tk1,dp2,m3,m4,Bool.and_self,z8,zj,Nat.lt_succ_self,xEC,xED,zx,zV,zW,List.singleton_append,zD]
   try simp [xab,xMt,hr,sUF]
def grp (l:List Fc):List Grp:=l.foldl (fun G f=>if pv f.p=true then upd G f else G) []
theorem xCC (l:List Fc) (f:Fc):grp (l++[f])=if pv f.p=true then upd (grp l) f else grp l:=by simp [grp]
theorem xHb:∀ l:List Fc,GI l.reverse (grp l.reverse)
 | []=>GI.nil
 | f::l=>by
  rw [List.reverse_cons,xCC];have ih:=xHb l;cases hv:pv f.p with
  | true=>rw [if_pos rfl];exact ih.upd hv
  | false=>rw [if_neg (by simp)];exact ih.skip hv
theorem xHc (l:List Fc):GI l (grp l):=by have:=xHb l.reverse;rwa [List.reverse_reverse] at this
theorem xHM (l:List Fc) (h:Keyed l):Iter (xaX (l.map encF) ((l.length:Nat):Int)) ((0:Nat),(0:Int),[],[])=some ((grp l).length,(grp l).map encG):=by
 refine xkO (fun k=>(((grp (l.take k)).length,((k:Nat):Int),ents 0 ((grp (l.take k)).map (·.1)),(grp (l.take k)).map encG):Nat×Int×List AV×List AV)) l.length _ (fun k hk=>?_) ?_ l.length 0 (by omega)
 . rw [xHN l h k hk (grp (l.take k)) (xHc _)];have tk:l.take (k+1)=l.take k++[l[k]]:=by rw [List.take_add_one,ze hk];rfl
   rw [tk,xCC]
 . simp only [xaX,xds,za,zy,zm,xac,y7,sUF]
theorem xJt (x y:Grp) (hx:x.1.length<=4398046511104):xMg (encG x) (encG y)=true/\xMh (encG x) (encG y)=cmpR x.1 y.1:=by
 have e:xfT (x.1.map encV) (x.2.map encP) (y.1.map encV) (y.2.map encP)=some (cmpR x.1 y.1):=by
  unfold xfT xmJ;rw [xBr x.1 y.1 (by unfold maxLen;omega)];rfl
 have e2:xfT ((encG x).cells.getD 0 .top).toList ((encG x).cells.getD 1 .top).toList ((encG y).cells.getD 0 .top).toList ((encG y).cells.getD 1 .top).toList=some (cmpR x.1 y.1):=e;unfold xMg xMh;rw [e2];exact ⟨rfl,rfl⟩
theorem xJ1 (l:List Fc) (h:Keyed l):∃ S:List Grp,xju (l.map encF)=some (S.map encG)/\xL1 l (S.map (·.1))/\(∀ g,g∈S->g.2=psOf l g.1)/\S.length<=l.length:=by
 have hg:=xHc l;have Q:=h.1.1;have O:=hg.len;have cG:Cm fun x y:Grp=>cmpR x.1 y.1:=xr6.on (e:=fun x:Grp=>x.1)
 obtain ⟨R,U,hR⟩:=h.2.2;have J:(grp l).length<20:=by
  have:=hg.nd.length_le_of_subset (l₂:=R) fun r hr=>by
   obtain ⟨f,hf,e,_⟩:=(hg.mem r).1 hr;rw [<-e];exact hR f hf
  rw [za] at this;omega
 obtain ⟨r,e,p,s⟩:=xCF cG.ord [] (grp l) [];simp only [zU,zD,List.length_nil,zH] at e;have es:=xLG (N:=(grp l).length) (by omega) (ok:=fun g=>g.1.length<=1048576) (c:=fun x y:Grp=>cmpR x.1 y.1) (fun x y hx hy=>xJt x y (by omega)) J (grp l) r rfl (fun g q=>by
  obtain ⟨f,hf,e,_⟩:=(hg.mem g.1).1 (zK.2 ⟨g,q,rfl⟩);rw [<-e];exact h.1.2 f hf) e
 have rl:=p.length_eq;refine ⟨r,?_,⟨?_,fun x=>?_⟩,fun g q=>hg.ps g (p.mem_iff.1 q),by rw [rl];exact O⟩
 . have el:=xHM l h;have ra:xNg 2 1 ((grp l).map encG)=true:=by
    unfold xNg;rw [zI];intro x hx;obtain ⟨g,_,rfl⟩:=zK.1 hx;rfl
   have ll:(grp l).length<=r.length:=by omega
   have tt:List.take (grp l).length (r.map encG)=r.map encG:=zi (by rw [za];omega)
   unfold xju xnJ xmK xmL xiQ xmM xmN xmO;simp only [za,el,zk,zh,xab,ra,es,zH,ll,zn,zS,zr,tt,sUF]
 . refine xHW (fun _ _=>xni) ?_ ?_
   . exact List.pairwise_map.2 s
   . exact ((p.map (·.1)).nodup_iff).2 hg.nd
 . rw [(p.map (·.1)).mem_iff];exact hg.mem x
end Go.Sim.M
end
noncomputable section
set_option maxRecDepth 100000
namespace Go.Sim.M
open Go.RowKit Go.Lib
def xqM (l:List AV) (i:Int):Bool:=decide ((0:Int)<=i)&&decide (i<(↑l.length:Int))
def xvd {T:Type} (l:List AV) (out_n:Nat) (q:Int) (na:Int) (nb:Int) (i:Int) (out_xs:List AV) (δ:T) (κl:(Int×Int×Int×List AV)->T) (κr:(Int×Int×Int×List AV)->T):T:=br (decide (i<(↑l.length:Int))) (br (xqM l i) (br (decide (i.toNat<l.length)&&xMK (Sh.int IntKind.i64) ((l.getD i.toNat AV.top).cells.getD (0:Nat) AV.top)) (br (((l.getD i.toNat AV.top).cells.getD (0:Nat) AV.top).toInt==q) (br (xqM l i) (br (decide (i.toNat<l.length)&&xMK (Sh.int IntKind.i64) ((l.getD i.toNat AV.top).cells.getD (1:Nat) AV.top)) (br (xqM l i) (br (decide (i.toNat<l.length)&&xMK (Sh.int IntKind.i64) ((l.getD i.toNat AV.top).cells.getD (2:Nat) AV.top)) (κl (IntKind.i64.wrap (na+((l.getD i.toNat AV.top).cells.getD (1:Nat) AV.top).toInt),IntKind.i64.wrap (nb+((l.getD i.toNat AV.top).cells.getD (2:Nat) AV.top).toInt),IntKind.i64.wrap (i+(1:Int)),out_xs)) (δ)) (δ)) (δ)) (δ)) (κr (na,nb,i,out_xs))) (δ)) (δ)) (κr (na,nb,i,out_xs))
def xht (l:List AV) (out_n:Nat) (q:Int):(Int×Int×Int×List AV)->Option ((Int×Int×Int×List AV)⊕(Int×Int×Int×List AV)):=fun (na,nb,i,out_xs)=>xvd l out_n q na nb i out_xs none (fun s=>some (.inl s)) (fun p=>some (.inr p))
def xns (keep:Bool->Bool->Bool) (out_n:Nat):Bool:=decide ((0:Int)<=IntKind.i64.wrap ((↑out_n:Int) - (1:Int)))&&decide (IntKind.i64.wrap ((↑out_n:Int) - (1:Int))<(↑out_n:Int))
def xr0 (keep:Bool->Bool->Bool) (l:List AV) (out_n:Nat) (na:Int) (nb:Int) (i:Int) (q:Int) (out_xs:List AV):Int×Int×Int×List AV:=(Iter (xht l out_n q) (na,nb,i,out_xs)).getD ((0:Int),(0:Int),(0:Int),[])
def xb8 (keep:Bool->Bool->Bool) (out_n:Nat):Nat:=(0:Nat)+(IntKind.i64.wrap ((↑out_n:Int) - (1:Int))).toNat
def xtz (keep:Bool->Bool->Bool) (l:List AV) (out_n:Nat) (na:Int) (nb:Int) (i:Int) (q:Int) (out_xs:List AV):Int×Int×List AV:=(xr0 keep l out_n na nb i q out_xs).snd
def xeY (keep:Bool->Bool->Bool) (l:List AV) (out_n:Nat) (na:Int) (nb:Int) (i:Int) (q:Int) (out_xs:List AV):Int:=(xr0 keep l out_n na nb i q out_xs).fst
def xty (keep:Bool->Bool->Bool) (l:List AV) (out_n:Nat) (na:Int) (nb:Int) (i:Int) (q:Int) (out_xs:List AV):Int×List AV:=(xtz keep l out_n na nb i q out_xs).snd
def xeX (keep:Bool->Bool->Bool) (l:List AV) (out_n:Nat) (na:Int) (nb:Int) (i:Int) (q:Int) (out_xs:List AV):Int:=(xtz keep l out_n na nb i q out_xs).fst
def xaJ (keep:Bool->Bool->Bool) (l:List AV) (out_n:Nat) (na:Int) (nb:Int) (i:Int) (q:Int) (out_xs:List AV):List AV:=(xty keep l out_n na nb i q out_xs).snd
def xtv (keep:Bool->Bool->Bool) (l:List AV) (out_n:Nat) (na:Int) (nb:Int) (i:Int) (q:Int) (out_xs:List AV):Bool:=keep (decide (xeY keep l out_n na nb i q out_xs>(0:Int))) (decide (xeX keep l out_n na nb i q out_xs>(0:Int)))
def xaQ (keep:Bool->Bool->Bool) (l:List AV) (out_n:Nat) (na:Int) (nb:Int) (i:Int) (q:Int) (out_xs:List AV):Int:=(xty keep l out_n na nb i q out_xs).fst
def xnr (keep:Bool->Bool->Bool) (l:List AV) (out_n:Nat) (na:Int) (nb:Int) (i:Int) (q:Int) (out_xs:List AV):Bool:=decide (xb8 keep out_n<(xaJ keep l out_n na nb i q out_xs).length)
def xtw (keep:Bool->Bool->Bool) (l:List AV) (out_n:Nat) (na:Int) (nb:Int) (i:Int) (q:Int) (out_xs:List AV):Bool:=decide (xaQ keep l out_n na nb i q out_xs<(↑l.length:Int))
def xp9 {T:Type} (keep:Bool->Bool->Bool) (l:List AV) (out_n:Nat) (na:Int) (nb:Int) (i:Int) (q:Int) (out_xs:List AV) (δ:T) (κl:(Nat×Int×Int×Int×Int×List AV)->T) (κr:(Nat×List AV)->T):T:=br (decide (q<(1099511627776:Int))) (br ((Iter (xht l out_n q) (na,nb,i,out_xs)).isSome) (br (xtw keep l out_n na nb i q out_xs) (br (decide ((0:Int)<=xaQ keep l out_n na nb i q out_xs)&&xtw keep l out_n na nb i q out_xs) (br (decide ((xaQ keep l out_n na nb i q out_xs).toNat<l.length)&&xMK (Sh.int IntKind.i64) ((l.getD (xaQ keep l out_n na nb i q out_xs).toNat AV.top).cells.getD (0:Nat) AV.top)) (br (xtv keep l out_n na nb i q out_xs) (br (decide ((↑out_n:Int)>(0:Int))) (br (xns keep out_n) (br (xnr keep l out_n na nb i q out_xs&&xMK (Sh.int IntKind.i64) (((xaJ keep l out_n na nb i q out_xs).getD (xb8 keep out_n) AV.top).cells.getD (1:Nat) AV.top)) (br ((((xaJ keep l out_n na nb i q out_xs).getD (xb8 keep out_n) AV.top).cells.getD (1:Nat) AV.top).toInt==q) (br (xns keep out_n) (br (xnr keep l out_n na nb i q out_xs) (κl (out_n,xeY keep l out_n na nb i q out_xs,xeX keep l out_n na nb i q out_xs,xaQ keep l out_n na nb i q out_xs,((l.getD (xaQ keep l out_n na nb i q out_xs).toNat AV.top).cells.getD (0:Nat) AV.top).toInt,(xaJ keep l out_n na nb i q out_xs).set (xb8 keep out_n) (AV.agg (List.take (1:Nat) ((xaJ keep l out_n na nb i q out_xs).getD (xb8 keep out_n) AV.top).cells++[AV.int IntKind.i64 ((l.getD (xaQ keep l out_n na nb i q out_xs).toNat AV.top).cells.getD (0:Nat) AV.top).toInt]++List.drop (2:Nat) ((xaJ keep l out_n na nb i q out_xs).getD (xb8 keep out_n) AV.top).cells)))) (δ)) (δ)) (br (out_n==(xaJ keep l out_n na nb i q out_xs).length&&(decide ((out_n+(1:Nat))*(16:Nat)<=(140737488355328:Nat))&&decide (out_n+(1:Nat)<=(4611686018427387904:Nat)))) (κl (out_n+(1:Nat),xeY keep l out_n na nb i q out_xs,xeX keep l out_n na nb i q out_xs,xaQ keep l out_n na nb i q out_xs,((l.getD (xaQ keep l out_n na nb i q out_xs).toNat AV.top).cells.getD (0:Nat) AV.top).toInt,xaJ keep l out_n na nb i q out_xs++[AV.agg [AV.int IntKind.i64 q,AV.int IntKind.i64 ((l.getD (xaQ keep l out_n na nb i q out_xs).toNat AV.top).cells.getD (0:Nat) AV.top).toInt]])) (δ))) (δ)) (δ)) (br (out_n==(xaJ keep l out_n na nb i q out_xs).length&&(decide ((out_n+(1:Nat))*(16:Nat)<=(140737488355328:Nat))&&decide (out_n+(1:Nat)<=(4611686018427387904:Nat)))) (κl (out_n+(1:Nat),xeY keep l out_n na nb i q out_xs,xeX keep l out_n na nb i q out_xs,xaQ keep l out_n na nb i q out_xs,((l.getD (xaQ keep l out_n na nb i q out_xs).toNat AV.top).cells.getD (0:Nat) AV.top).toInt,xaJ keep l out_n na nb i q out_xs++[AV.agg [AV.int IntKind.i64 q,AV.int IntKind.i64 ((l.getD (xaQ keep l out_n na nb i q out_xs).toNat AV.top).cells.getD (0:Nat) AV.top).toInt]])) (δ))) (κl (out_n,xeY keep l out_n na nb i q out_xs,xeX keep l out_n na nb i q out_xs,xaQ keep l out_n na nb i q out_xs,((l.getD (xaQ keep l out_n na nb i q out_xs).toNat AV.top).cells.getD (0:Nat) AV.top).toInt,xaJ keep l out_n na nb i q out_xs))) (δ)) (δ)) (br (xtv keep l out_n na nb i q out_xs) (br (decide ((↑out_n:Int)>(0:Int))) (br (xns keep out_n) (br (xnr keep l out_n na nb i q out_xs&&xMK (Sh.int IntKind.i64) (((xaJ keep l out_n na nb i q out_xs).getD (xb8 keep out_n) AV.top).cells.getD (1:Nat) AV.top)) (br ((((xaJ keep l out_n na nb i q out_xs).getD (xb8 keep out_n) AV.top).cells.getD (1:Nat) AV.top).toInt==q) (br (xns keep out_n) (br (xnr keep l out_n na nb i q out_xs) (κl (out_n,xeY keep l out_n na nb i q out_xs,xeX keep l out_n na nb i q out_xs,xaQ keep l out_n na nb i q out_xs,(1099511627776:Int),(xaJ keep l out_n na nb i q out_xs).set (xb8 keep out_n) (AV.agg (List.take (1:Nat) ((xaJ keep l out_n na nb i q out_xs).getD (xb8 keep out_n) AV.top).cells++[AV.int IntKind.i64 (1099511627776:Int)]++List.drop (2:Nat) ((xaJ keep l out_n na nb i q out_xs).getD (xb8 keep out_n) AV.top).cells)))) (δ)) (δ)) (br (out_n==(xaJ keep l out_n na nb i q out_xs).length&&(decide ((out_n+(1:Nat))*(16:Nat)<=(140737488355328:Nat))&&decide (out_n+(1:Nat)<=(4611686018427387904:Nat)))) (κl (out_n+(1:Nat),xeY keep l out_n na nb i q out_xs,xeX keep l out_n na nb i q out_xs,xaQ keep l out_n na nb i q out_xs,(1099511627776:Int),xaJ keep l out_n na nb i q out_xs++[AV.agg [AV.int IntKind.i64 q,AV.int IntKind.i64 (1099511627776:Int)]])) (δ))) (δ)) (δ)) (br (out_n==(xaJ keep l out_n na nb i q out_xs).length&&(decide ((out_n+(1:Nat))*(16:Nat)<=(140737488355328:Nat))&&decide (out_n+(1:Nat)<=(4611686018427387904:Nat)))) (κl (out_n+(1:Nat),xeY keep l out_n na nb i q out_xs,xeX keep l out_n na nb i q out_xs,xaQ keep l out_n na nb i q out_xs,(1099511627776:Int),xaJ keep l out_n na nb i q out_xs++[AV.agg [AV.int IntKind.i64 q,AV.int IntKind.i64 (1099511627776:Int)]])) (δ))) (κl (out_n,xeY keep l out_n na nb i q out_xs,xeX keep l out_n na nb i q out_xs,xaQ keep l out_n na nb i q out_xs,(1099511627776:Int),xaJ keep l out_n na nb i q out_xs)))) (δ)) (κr (out_n,out_xs))
def xfR (keep:Bool->Bool->Bool) (l:List AV):(Nat×Int×Int×Int×Int×List AV)->Option ((Nat×Int×Int×Int×Int×List AV)⊕(Nat×List AV)):=fun (out_n,na,nb,i,q,out_xs)=>xp9 keep l out_n na nb i q out_xs none (fun s=>some (.inl s)) (fun p=>some (.inr p))
def xzS (keep:Bool->Bool->Bool) (a:List AV) (b:List AV):Option (Nat×List AV):=Iter (xfR keep ((xg5 a b).getD [])) ((0:Nat),(0:Int),(0:Int),(0:Int),(0:Int),[])
def xzR (keep:Bool->Bool->Bool) (a:List AV) (b:List AV):Nat×List AV:=(xzS keep a b).getD ((0:Nat),[])
def xzP (keep:Bool->Bool->Bool) (a:List AV) (b:List AV):List AV:=(xzR keep a b).snd
def xzQ (keep:Bool->Bool->Bool) (a:List AV) (b:List AV):Nat:=(xzR keep a b).fst
def xJd {T:Type} (keep:Bool->Bool->Bool) (a:List AV) (b:List AV) (δ:T) (κ:List AV->T):T:=br ((xg5 a b).isSome) (br ((xzS keep a b).isSome) (br (decide ((0:Nat)+xzQ keep a b<=(xzP keep a b).length)&&true) (κ (List.take (xzQ keep a b) (List.drop (0:Nat) (xzP keep a b)))) (δ)) (δ)) (δ)
def swG (keep:Bool->Bool->Bool) (a:List AV) (b:List AV):Option (List AV):=xJd keep a b none some
end Go.Sim.M
end
noncomputable section
set_option maxRecDepth 100000
namespace Go.Sim.M
open Go.RowKit Go.Lib Go.Sort
def xLQ (e:Edg):AV:=.agg [.int .i64 e.1,.int .i64 e.2.1,.int .i64 e.2.2]
theorem xwQ (x y:Int):∀ a b,xLL x y (a++b)=xLL x y a++xLL x y b
 | [],b=>rfl
 | p::a,b=>by
  simp only [List.cons_append,xLL,xwQ x y a b];split<;>rfl
theorem xy6 (x y:Int) (l:List Per) (n:Nat) (h:n<l.length):xLL x y (l.take (n+1))=xLL x y (l.take n)++(if pv l[n]=true then [(l[n].1,x,y),(l[n].2,-x,-y)] else []):=by
 rw [List.take_add_one,ze h];show xLL x y (l.take n++[l[n]])=_;rw [xwQ];rfl
theorem xwO (B:List AV) (l:List Per) (hl:l.length<=1073741824):∀ (k n:Nat),n+k=l.length ->
  Iter (xbF B (l.map encP) ((l.length:Nat):Int)) ((xLL 1 0 (l.take n)).length,((n:Nat):Int),(xLL 1 0 (l.take n)).map xLQ)=some ((xLL 1 0 l).length,(xLL 1 0 l).map xLQ)
 | 0,n,hk=>by
  obtain rfl:n=l.length:=by omega
  rw [zi (zd _)];refine xad ?_;unfold xbF;simp only;unfold xko;rw [decide_eq_false (by omega:¬ ((l.length:Nat):Int)<((l.length:Nat):Int))]
  rfl
 | k+1,n,hk=>by
  have h1:n<l.length:=by omega
  have J:=xkF 1 0 (l.take n);have q:(l.take n).length<=n:=by rw [zt];omega
  have d1:((n:Nat):Int)<((l.length:Nat):Int):=by omega
  have d2:(0:Int)<=((n:Nat):Int):=by omega
  have d3:((xLL 1 0 (l.take n)).length+2)*24<=140737488355328:=by omega
  have d4:(xLL 1 0 (l.take n)).length+2<=4611686018427387904:=by omega
  have d5:((xLL 1 0 (l.take n)).length==(xLL 1 0 (l.take n)).length)=true:=by simp
  have gf:(l.map encP).getD n .top=encP l[n]:=xaa _ _ _ h1;have c0:((encP l[n]).cells.getD 0 .top).toInt=l[n].1:=rfl;have c1:((encP l[n]).cells.getD 1 .top).toInt=l[n].2:=rfl;have sh:((encP l[n]).cells.length==(2:Nat)&&xMR [Sh.int IntKind.i64,Sh.int IntKind.i64] (encP l[n]).cells (0:Nat))=true:=rfl;have st:xbF B (l.map encP) ((l.length:Nat):Int) ((xLL 1 0 (l.take n)).length,((n:Nat):Int),(xLL 1 0 (l.take n)).map xLQ) =
    some (.inl ((xLL 1 0 (l.take (n+1))).length,((n+1:Nat):Int),(xLL 1 0 (l.take (n+1))).map xLQ)):=by
   rw [xy6 1 0 l n h1];unfold xbF;simp only;unfold xko;rw [zN,gf,sh,c0,c1,xiJ,za,za,decide_eq_true d1,decide_eq_true d2,decide_eq_true h1,decide_eq_true d3,decide_eq_true d4,d5,xjs (show n+1<=maxLen by unfold maxLen;omega)]
   cases pv l[n] with
   | true=>simp only [if_true,z8,zx];rfl
   | false=>simp only [zT,if_false,zD];rfl
  rw [xam st];exact xwO B l hl k (n+1) (by omega)
theorem xwP (E0:List Edg) (l:List Per) (hl:l.length<=1073741824) (hE:E0.length<=2147483648):∀ (k n:Nat),n+k=l.length ->
  Iter (xdL (l.map encP) ((l.length:Nat):Int)) ((E0++xLL 0 1 (l.take n)).length,((n:Nat):Int),(E0++xLL 0 1 (l.take n)).map xLQ)=some ((E0++xLL 0 1 l).length,(E0++xLL 0 1 l).map xLQ)
 | 0,n,hk=>by
  obtain rfl:n=l.length:=by omega
  rw [zi (zd _)];refine xad ?_;unfold xdL;simp only;unfold xkp;rw [decide_eq_false (by omega:¬ ((l.length:Nat):Int)<((l.length:Nat):Int))]
  rfl
 | k+1,n,hk=>by
  have h1:n<l.length:=by omega
  have O:=xkF 0 1 (l.take n);have J:(l.take n).length<=n:=by rw [zt];omega
  have q:(E0++xLL 0 1 (l.take n)).length=E0.length+(xLL 0 1 (l.take n)).length:=z8;have d1:((n:Nat):Int)<((l.length:Nat):Int):=by omega
  have d2:(0:Int)<=((n:Nat):Int):=by omega
  have d3:((E0++xLL 0 1 (l.take n)).length+2)*24<=140737488355328:=by omega
  have d4:(E0++xLL 0 1 (l.take n)).length+2<=4611686018427387904:=by omega
  have d5:((E0++xLL 0 1 (l.take n)).length==(E0++xLL 0 1 (l.take n)).length)=true:=by simp
  have gf:(l.map encP).getD n .top=encP l[n]:=xaa _ _ _ h1;have c0:((encP l[n]).cells.getD 0 .top).toInt=l[n].1:=rfl;have c1:((encP l[n]).cells.getD 1 .top).toInt=l[n].2:=rfl;have sh:((encP l[n]).cells.length==(2:Nat)&&xMR [Sh.int IntKind.i64,Sh.int IntKind.i64] (encP l[n]).cells (0:Nat))=true:=rfl;have st:xdL (l.map encP) ((l.length:Nat):Int) ((E0++xLL 0 1 (l.take n)).length,((n:Nat):Int),(E0++xLL 0 1 (l.take n)).map xLQ) =
    some (.inl ((E0++xLL 0 1 (l.take (n+1))).length,((n+1:Nat):Int),(E0++xLL 0 1 (l.take (n+1))).map xLQ)):=by
   rw [xy6 0 1 l n h1,<-zw];unfold xdL;simp only;unfold xkp;rw [zN,gf,sh,c0,c1,xiJ,za,za,decide_eq_true d1,decide_eq_true d2,decide_eq_true h1,decide_eq_true d3,decide_eq_true d4,d5,xjs (show n+1<=maxLen by unfold maxLen;omega)]
   cases pv l[n] with
   | true=>rw [if_pos rfl,z8 (bs:=[(l[n].1,0,1),(l[n].2,-0,-1)]),zx (l₂:=[(l[n].1,0,1),(l[n].2,-0,-1)])];rfl
   | false=>rw [if_neg (by simp),zD];rfl
  rw [xam st];exact xwP E0 l hl hE k (n+1) (by omega)
def toE (e:Edg):TyE:=(Fin.ofNat 1099511627777 e.1.toNat,e.2.1,e.2.2)
def ofE (x:TyE):Edg:=((x.1.val:Int),x.2.1,x.2.2)
theorem xJM {e:Edg} (h1:0<=e.1) (h2:e.1<=1099511627776):ofE (toE e)=e:=by
 have:e.1.toNat % 1099511627777=e.1.toNat:=Nat.mod_eq_of_lt (by omega)
 simp only [ofE,toE,Fin.ofNat,this,Int.toNat_of_nonneg h1]
theorem xKd (E:List Edg) (h:∀ e,e∈E->0<=e.1/\e.1<=1099511627776):(E.map xLQ).all isE=true/\∃ S:List Edg,srtE (E.map xLQ)=S.map xLQ/\S.Perm E/\S.Pairwise fun x y=>x.1<=y.1:=by
 refine ⟨?_,(pdqL cmpE (E.map toE)).map ofE,?_,?_,?_⟩
 . rw [zI];intro x hx;obtain ⟨e,he,rfl⟩:=zK.1 hx;have:=h e he;show (decide _&&decide _)=true;rw [decide_eq_true this.1,decide_eq_true this.2];rfl
 . unfold srtE;have e1:(E.map xLQ).map decE=E.map toE:=by rw [List.map_map];rfl
   rw [e1,List.map_map];rfl
 . have hp:=((xnm cmpE swoE (E.map toE)).1).map ofE;have e2:(E.map toE).map ofE=E:=by
    rw [List.map_map]
    conv=>rhs;rw [<-List.map_id E]
    refine List.map_congr_left fun e he=>?_
    exact xJM (h e he).1 (h e he).2
   rwa [e2] at hp
 . rw [List.pairwise_map];refine (xtK cmpE swoE (E.map toE)).imp fun {x y} q=>?_
   show ((x.1.val:Nat):Int)<=((y.1.val:Nat):Int);unfold cmpE at q;omega
theorem xIk (a b:List Per) (ha:a.length<=1073741824) (hb:b.length<=1073741824) :
  ∃ S:List Edg,xg5 (a.map encP) (b.map encP)=some (S.map xLQ)/\S.Perm (xLL 1 0 a++xLL 0 1 b)/\S.Pairwise fun x y=>x.1<=y.1:=by
 have l1:=xkF 1 0 a;have l2:=xkF 0 1 b;have O:(xLL 1 0 a++xLL 0 1 b).length=(xLL 1 0 a).length+(xLL 0 1 b).length:=z8;obtain ⟨q,S,hS,hp,hs⟩:=xKd (xLL 1 0 a++xLL 0 1 b) (fun e he=>by
  rcases zG.1 he with he|he
  . exact xnj 1 0 a e he
  . exact xnj 0 1 b e he)
 refine ⟨S,?_,hp,hs⟩;have h0:=xwO (b.map encP) a ha a.length 0 (by omega)
 rw [List.take_zero] at h0;have h1:=xwP (xLL 1 0 a) b hb (by omega) b.length 0 (by omega)
 rw [List.take_zero] at h1;have h0:Iter (xbF (b.map encP) (a.map encP) (((a.map encP).length:Nat):Int)) (0,0,[])=some ((xLL 1 0 a).length,(xLL 1 0 a).map xLQ):=by rw [za];exact h0
 have v4:xmE (a.map encP) (b.map encP)=((xLL 1 0 a).length,(xLL 1 0 a).map xLQ):=by unfold xmE;rw [h0];rfl
 have v3:xmD (a.map encP) (b.map encP)=some ((xLL 1 0 a++xLL 0 1 b).length,(xLL 1 0 a++xLL 0 1 b).map xLQ):=by
  unfold xmD;rw [v4,za];have e:xLL 1 0 a++xLL 0 1 []=xLL 1 0 a:=zD _;rw [e] at h1;exact h1
 have v2:xmC (a.map encP) (b.map encP)=((xLL 1 0 a++xLL 0 1 b).length,(xLL 1 0 a++xLL 0 1 b).map xLQ):=by unfold xmC;rw [v3];rfl
 have v0:xgI (a.map encP) (b.map encP)=(xLL 1 0 a++xLL 0 1 b).length:=by unfold xgI;rw [v2]
 have v1:xgJ (a.map encP) (b.map encP)=(xLL 1 0 a++xLL 0 1 b).map xLQ:=by unfold xgJ;rw [v2]
 have J:S.length=(xLL 1 0 a++xLL 0 1 b).length:=hp.length_eq;have d1:(xLL 1 0 a++xLL 0 1 b).length<4611686018427387904:=by omega
 have d2:0+(xLL 1 0 a++xLL 0 1 b).length<=(S.map xLQ).length:=by rw [za,J];omega
 have d3:(xLL 1 0 a++xLL 0 1 b).length.beq (xLL 1 0 a++xLL 0 1 b).length=true:=Nat.beq_refl _;have tk:List.take (xLL 1 0 a++xLL 0 1 b).length (List.drop 0 (S.map xLQ))=S.map xLQ:=by rw [zr,zi (by rw [za,J];exact zd _)]
 unfold xg5 xsR;rw [h0,v3,v0,v1,q,hS,tk,za,d3,decide_eq_true d1,decide_eq_true d2];rfl
theorem xHj (out:List Per) (h:out≠[]):out=out.dropLast++[out[out.length - 1]'(by have:=List.length_pos_iff.2 h;omega)]:=by
 have:=List.dropLast_concat_getLast h;rw [List.getLast_eq_getElem] at this;exact this.symm
section
variable (S : List Edg) (hS1 : ∀ e, e ∈ S -> 0 <= e.1 /\ e.1 <= 1099511627776) (hS2 : ∀ e, e ∈ S -> (-1 <= e.2.1 /\ e.2.1 <= 1) /\ (-1 <= e.2.2 /\ e.2.2 <= 1)) (hS3 : S.Pairwise fun x y => x.1 <= y.1) (hS4 : S.length <= 8589934592)
theorem xAs (g:Edg->Int):∀ l:List Edg,(∀ e,e∈l->-1<=g e/\g e<=1)->-(l.length:Int)<=xLO g l/\xLO g l<=l.length
 | [],_=>by simp [xLO]
 | e::l,h=>by
  have:=xAs g l fun x hx=>h x (List.mem_cons_of_mem _ hx)
  have:=h e (List.mem_cons_self ..);simp only [xLO,zF];omega
theorem xDs (g:Edg->Int) (n:Nat) (h:n<S.length):xLO g (S.take (n+1))=xLO g (S.take n)+g S[n]:=by
 rw [List.take_add_one,ze h];show xLO g (S.take n++[S[n]])=_;rw [xvw];simp [xLO]
include hS1 hS2 hS3 hS4
theorem xze (on:Nat) (at':Int) (ox:List AV):∀ (k i:Nat),i+k=S.length->∃ j:Nat,i<=j/\j<=S.length /\
  Iter (xht (S.map xLQ) on at') (xLO (·.2.1) (S.take i),xLO (·.2.2) (S.take i),((i:Nat):Int),ox)=some (xLO (·.2.1) (S.take j),xLO (·.2.2) (S.take j),((j:Nat):Int),ox) /\
  (∀ (m:Nat) (h:m<S.length),i<=m->m<j->S[m].1=at')/\∀ (h:j<S.length),S[j].1≠at'
 | 0,i,hk=>by
  obtain rfl:i=S.length:=by omega
  refine ⟨S.length,zd _,zd _,xad ?_,fun m _ h1 h2=>by omega,fun h=>absurd h (Nat.lt_irrefl _)⟩
  unfold xht;simp only;unfold xvd;rw [za,decide_eq_false (by omega:¬ ((S.length:Nat):Int)<((S.length:Nat):Int))]
  rfl
 | k+1,i,hk=>by
  have h1:i<S.length:=by omega
  have d1:((i:Nat):Int)<((S.length:Nat):Int):=by omega
  have d2:(0:Int)<=((i:Nat):Int):=by omega
  have gf:(S.map xLQ).getD i .top=xLQ S[i]:=xaa _ _ _ h1;have c0:((xLQ S[i]).cells.getD 0 .top).toInt=S[i].1:=rfl;have c1:((xLQ S[i]).cells.getD 1 .top).toInt=S[i].2.1:=rfl;have c2:((xLQ S[i]).cells.getD 2 .top).toInt=S[i].2.2:=rfl;have s0:xMK (Sh.int IntKind.i64) ((xLQ S[i]).cells.getD 0 .top)=true:=rfl;have s1:xMK (Sh.int IntKind.i64) ((xLQ S[i]).cells.getD 1 .top)=true:=rfl;have s2:xMK (Sh.int IntKind.i64) ((xLQ S[i]).cells.getD 2 .top)=true:=rfl;have v0:xqM (S.map xLQ) ((i:Nat):Int)=true:=by unfold xqM;rw [za,decide_eq_true d1,decide_eq_true d2];rfl
  by_cases he:S[i].1=at'
  . have hb:=hS2 S[i] (zo h1);have b1:=xAs (·.2.1) (S.take i) fun e he=>(hS2 e (List.mem_of_mem_take he)).1
    have b2:=xAs (·.2.2) (S.take i) fun e he=>(hS2 e (List.mem_of_mem_take he)).2
    have hl:(S.take i).length=i:=by rw [zt];omega
    rw [hl] at b1 b2;have b3:=xDs S (·.2.1) i h1;have b4:=xDs S (·.2.2) i h1;have w1:IntKind.i64.wrap (xLO (·.2.1) (S.take i)+S[i].2.1)=xLO (·.2.1) (S.take (i+1)):=by rw [b3];exact xby (by omega) (by omega)
    have w2:IntKind.i64.wrap (xLO (·.2.2) (S.take i)+S[i].2.2)=xLO (·.2.2) (S.take (i+1)):=by rw [b4];exact xby (by omega) (by omega)
    have st:xht (S.map xLQ) on at' (xLO (·.2.1) (S.take i),xLO (·.2.2) (S.take i),((i:Nat):Int),ox)=some (.inl (xLO (·.2.1) (S.take (i+1)),xLO (·.2.2) (S.take (i+1)),((i+1:Nat):Int),ox)):=by
     unfold xht;simp only;unfold xvd;have e1:(S[i].1==at')=true:=by simp [he]
     rw [v0,zN,gf,s0,s1,s2,c0,c1,c2,za,decide_eq_true d1,decide_eq_true h1,e1,w1,w2,xjs (show i+1<=maxLen by unfold maxLen;omega)]
     rfl
    obtain ⟨j,j1,j2,j3,j4,j5⟩:=xze on at' ox k (i+1) (by omega)
    refine ⟨j,by omega,j2,by rw [xam st];exact j3,fun m hm h2 h3=>?_,j5⟩
    rcases Nat.eq_or_lt_of_le h2 with rfl|h2
    . exact he
    . exact j4 m hm h2 h3
  . refine ⟨i,zd _,by omega,xad ?_,fun m _ h2 h3=>by omega,fun _=>he⟩
    unfold xht;simp only;unfold xvd;have e1:(S[i].1==at')=false:=by simp [he]
    rw [v0,zN,gf,s0,c0,za,decide_eq_true d1,decide_eq_true h1,e1];rfl
omit hS1 hS2 hS3 hS4
def SwI (K:Int->Bool) (s:Nat×Int×Int×Int×Int×List AV):Prop :=
 ∃ (out:List Per) (i:Nat) (at':Int),s=(out.length,xLO (·.2.1) (S.take i),xLO (·.2.2) (S.take i),((i:Nat):Int),at',out.map encP)/\0<=at'/\at'<=1099511627776/\i<=S.length /\
  (∀ (m:Nat) (h:m<S.length),m<i->S[m].1<at')/\(∀ (m:Nat) (h:m<S.length),i<=m->at'<=S[m].1)/\OutOk out at' K/\(out.length:Int)<=at'
include hS1 hS2 hS3 hS4
set_option maxHeartbeats 4000000 in
theorem xEj (keep:Bool->Bool->Bool) (a b:List Per) (hp:S.Perm (xLL 1 0 a++xLL 0 1 b)) (s:Nat×Int×Int×Int×Int×List AV) (hs:SwI S (fun t=>keep (inL a t) (inL b t)) s) :
  (∃ s',xfR keep (S.map xLQ) s=some (.inl s')/\SwI S (fun t=>keep (inL a t) (inL b t)) s'/\(1099511627776 - s'.2.2.2.2.1).toNat<(1099511627776 - s.2.2.2.2.1).toNat) \/
  ∃ r,xfR keep (S.map xLQ) s=some (.inr r)/\∃ out:List Per,r=(out.length,out.map encP)/\OutOk out 1099511627776 (fun t=>keep (inL a t) (inL b t)):=by
 obtain ⟨out,i,at',rfl,ag,az,hi,aw,au,O,a0⟩:=hs;by_cases hF:at'<1099511627776
 . left;obtain ⟨j,j1,j2,j3,j4,j5⟩:=xze S hS1 hS2 hS3 hS4 out.length at' (out.map encP) (S.length - i) i (by omega)
   have ai:∀ (m:Nat) (h:m<S.length),m<j->S[m].1<=at':=fun m h hm=>by
    by_cases ax:m<i
    . have:=aw m h ax;omega
    . have:=j4 m h (by omega) hm;omega
   have an:∀ (m:Nat) (h:m<S.length),j<=m->at'<S[m].1:=fun m h hm=>by
    have hj:j<S.length:=by omega
    have h1:=au j hj (by omega)
    have h2:=j5 hj;have h3:S[j].1<=S[m].1:=by
     rcases Nat.eq_or_lt_of_le hm with rfl|hm
     . exact Int.le_refl _
     . exact zB.1 hS3 j m hj h hm
    omega
   obtain ⟨nx,J⟩:∃ nx:Int,nx=if h:j<S.length then S[j].1 else 1099511627776:=⟨_,rfl⟩
   have aa:at'<nx:=by
    rw [J];split
    . rename_i h;exact an j h (zd _)
    . exact hF
   have V:nx<=1099511627776:=by
    rw [J];split
    . rename_i h;exact (hS1 _ (zo h)).2
    . exact Int.le_refl _
   have ak:∀ (m:Nat) (h:m<S.length),j<=m->nx<=S[m].1:=fun m h hm=>by
    have hj:j<S.length:=by omega
    rw [J,dif_pos hj];rcases Nat.eq_or_lt_of_le hm with rfl|hm
    . exact Int.le_refl _
    . exact zB.1 hS3 j m hj h hm
   have ah:∀ (g:Edg->Int) (t:Int),at'<=t->t<nx->xLO g (S.take j)=xLW g t S:=fun g t Y W=>by
    conv=>rhs;rw [<-List.take_append_drop j S]
    rw [xox,xBp,xzL]
    . omega
    . intro e he;obtain ⟨m,hm,rfl⟩:=zp.1 he;rw [List.getElem_drop];have:=ak (j+m) (by rw [y4] at hm;omega) (by omega)
      omega
    . intro e he;obtain ⟨m,hm,rfl⟩:=zp.1 he;rw [List.getElem_take];rw [zt] at hm;have:=ai m (by omega) (by omega)
      omega
   have al:∀ t,at'<=t->t<nx->decide (xLO (·.2.1) (S.take j)>0)=inL a t/\decide (xLO (·.2.2) (S.take j)>0)=inL b t:=fun t Y W=>by
    rw [ah _ t Y W,ah _ t Y W,xzM _ t hp,xzM _ t hp,xox,xox,xvc,xyc,xzO,xyd,Int.add_zero,Int.zero_add,xCn,xCn];exact ⟨rfl,rfl⟩
   obtain ⟨kv,ap⟩:∃ kv:Bool,kv=keep (decide (xLO (·.2.1) (S.take j)>0)) (decide (xLO (·.2.2) (S.take j)>0)):=⟨_,rfl⟩;have hK:∀ t,at'<=t->t<nx->keep (inL a t) (inL b t)=kv:=fun t Y W=>by
    rw [ap,(al t Y W).1,(al t Y W).2]
   have ao:xr0 keep (S.map xLQ) out.length (xLO (·.2.1) (S.take i)) (xLO (·.2.2) (S.take i)) ((i:Nat):Int) at' (out.map encP)=(xLO (·.2.1) (S.take j),xLO (·.2.2) (S.take j),((j:Nat):Int),out.map encP):=by unfold xr0;rw [j3];rfl
   have v8:xeY keep (S.map xLQ) out.length (xLO (·.2.1) (S.take i)) (xLO (·.2.2) (S.take i)) ((i:Nat):Int) at' (out.map encP)=xLO (·.2.1) (S.take j):=by unfold xeY;rw [ao]
   have v9:xtz keep (S.map xLQ) out.length (xLO (·.2.1) (S.take i)) (xLO (·.2.2) (S.take i)) ((i:Nat):Int) at' (out.map encP)=(xLO (·.2.2) (S.take j),((j:Nat):Int),out.map encP):=by unfold xtz;rw [ao]
   have v7:xeX keep (S.map xLQ) out.length (xLO (·.2.1) (S.take i)) (xLO (·.2.2) (S.take i)) ((i:Nat):Int) at' (out.map encP)=xLO (·.2.2) (S.take j):=by unfold xeX;rw [v9]
   have v6:xty keep (S.map xLQ) out.length (xLO (·.2.1) (S.take i)) (xLO (·.2.2) (S.take i)) ((i:Nat):Int) at' (out.map encP)=(((j:Nat):Int),out.map encP):=by unfold xty;rw [v9]
   have v1:xaJ keep (S.map xLQ) out.length (xLO (·.2.1) (S.take i)) (xLO (·.2.2) (S.take i)) ((i:Nat):Int) at' (out.map encP)=out.map encP:=by unfold xaJ;rw [v6]
   have v3:xaQ keep (S.map xLQ) out.length (xLO (·.2.1) (S.take i)) (xLO (·.2.2) (S.take i)) ((i:Nat):Int) at' (out.map encP)=((j:Nat):Int):=by unfold xaQ;rw [v6]
   have v2:xtv keep (S.map xLQ) out.length (xLO (·.2.1) (S.take i)) (xLO (·.2.2) (S.take i)) ((i:Nat):Int) at' (out.map encP)=kv:=by unfold xtv;rw [v8,v7,<-ap]
   have v0:xnr keep (S.map xLQ) out.length (xLO (·.2.1) (S.take i)) (xLO (·.2.2) (S.take i)) ((i:Nat):Int) at' (out.map encP)=decide (xb8 keep out.length<out.length):=by unfold xnr;rw [v1,za]
   have v5:xtw keep (S.map xLQ) out.length (xLO (·.2.1) (S.take i)) (xLO (·.2.2) (S.take i)) ((i:Nat):Int) at' (out.map encP)=decide (j<S.length):=by
    unfold xtw;rw [v3,za];by_cases h:j<S.length
    . rw [decide_eq_true h,decide_eq_true (by omega)]
    . rw [decide_eq_false h,decide_eq_false (by omega)]
   have aj:(out.length+1)*16<=140737488355328:=by omega
   have af:out.length+1<=4611686018427387904:=by omega
   have e1:(out.length==out.length)=true:=by simp
   have dF:decide (at'<1099511627776)=true:=decide_eq_true hF;have dj:decide ((0:Int)<=((j:Nat):Int))=true:=decide_eq_true (by omega)
   have Q:∀ h:j<S.length,(((S.map xLQ).getD j .top).cells.getD 0 .top).toInt=nx:=fun h=>by
    rw [xaa _ _ _ h,J,dif_pos h];rfl
   have ac:∀ h:j<S.length,xMK (Sh.int IntKind.i64) (((S.map xLQ).getD j .top).cells.getD 0 .top)=true:=fun h=>by
    rw [xaa _ _ _ h];rfl
   have ae:∀ q:List Per,OutOk q nx (fun t=>keep (inL a t) (inL b t))->(q.length:Int)<=nx->SwI S (fun t=>keep (inL a t) (inL b t)) (q.length,xLO (·.2.1) (S.take j),xLO (·.2.2) (S.take j),((j:Nat):Int),nx,q.map encP):=fun q ho hl =>
    ⟨q,j,nx,rfl,by omega,V,j2,fun m h hm=>by have:=ai m h hm;omega,fun m h hm=>ak m h hm,ho,hl⟩
   have mu:(1099511627776 - nx).toNat<(1099511627776 - at').toNat:=by omega
   cases kv with
   | false =>
    refine ⟨(out.length,xLO (·.2.1) (S.take j),xLO (·.2.2) (S.take j),((j:Nat):Int),nx,out.map encP),?_,ae out (O.skip (by omega) hK) (by omega),mu⟩
    unfold xfR;simp only;unfold xp9;rw [v1,v2,v3,v5,v7,v8,j3,dF,dj,zN,za];by_cases hj:j<S.length
    . rw [decide_eq_true hj,ac hj,Q hj];rfl
    . rw [decide_eq_false hj];have:nx=1099511627776:=by rw [J,dif_neg hj]
      rw [this];rfl
   | true =>
    by_cases hne:out=[]
    . have ab:=O.add ag aa V hK (fun p hp=>by rw [hne] at hp;cases hp)
      refine ⟨((out++[(at',nx)]).length,xLO (·.2.1) (S.take j),xLO (·.2.2) (S.take j),((j:Nat):Int),nx,(out++[(at',nx)]).map encP),?_,ae _ ab (by rw [z8,zj];omega),mu⟩
      have dl:decide (((out.length:Nat):Int)>0)=false:=by rw [hne];rfl
      unfold xfR;simp only;unfold xp9;rw [v1,v2,v3,v5,v7,v8,j3,dF,dj,zN,za,za,dl,e1,decide_eq_true aj,decide_eq_true af];by_cases hj:j<S.length
      . rw [decide_eq_true hj,ac hj,Q hj,zx,z8];rfl
      . rw [decide_eq_false hj];have:nx=1099511627776:=by rw [J,dif_neg hj]
        rw [this,zx,z8];rfl
    . have ay:=List.length_pos_iff.2 hne;have w1:IntKind.i64.wrap (((out.length:Nat):Int) - 1)=((out.length - 1:Nat):Int):=by rw [xby (by omega) (by omega)];omega
      have aq:xb8 keep out.length=out.length - 1:=by unfold xb8;rw [w1,zN];omega
      have v4:xns keep out.length=true:=by
       unfold xns;rw [w1,decide_eq_true (by omega),decide_eq_true (by omega)];rfl
      have dl:decide (((out.length:Nat):Int)>0)=true:=decide_eq_true (by omega)
      have dv:decide (out.length - 1<out.length)=true:=decide_eq_true (by omega)
      have am:out.length - 1<out.length:=by omega
      have gl:(out.map encP).getD (out.length - 1) .top=encP out[out.length - 1]:=xaa _ _ _ am;have cl:((encP out[out.length - 1]).cells.getD 1 .top).toInt=out[out.length - 1].2:=rfl;have sl:xMK (Sh.int IntKind.i64) ((encP out[out.length - 1]).cells.getD 1 .top)=true:=rfl;have ad:=xHj out hne;by_cases hl:out[out.length - 1].2=at'
      . have ar:=OutOk.ext (o:=out.dropLast) (p:=out[out.length - 1]) (by rw [<-ad];exact O) hl aa V hK
        have U:(out.dropLast++[(out[out.length - 1].1,nx)]).length=out.length:=by rw [z8,List.length_dropLast,zj];omega
        have Z:(out.map encP).set (out.length - 1) (AV.agg (List.take 1 (encP out[out.length - 1]).cells++[AV.int IntKind.i64 nx]++List.drop 2 (encP out[out.length - 1]).cells))=(out.dropLast++[(out[out.length - 1].1,nx)]).map encP:=by
         have e2:AV.agg (List.take 1 (encP out[out.length - 1]).cells++[AV.int IntKind.i64 nx]++List.drop 2 (encP out[out.length - 1]).cells)=encP (out[out.length - 1].1,nx):=rfl;rw [e2,<-List.map_set];congr 1;have e3:out.set (out.length - 1) (out[out.length - 1].1,nx)=(out.dropLast++[out[out.length - 1]]).set (out.length - 1) (out[out.length - 1].1,nx):=congrArg (fun l=>List.set l (out.length - 1) (out[out.length - 1].1,nx)) ad
         rw [e3,List.set_append_right _ _ (by rw [List.length_dropLast];exact zd _),List.length_dropLast,Nat.sub_self];rfl
        refine ⟨((out.dropLast++[(out[out.length - 1].1,nx)]).length,xLO (·.2.1) (S.take j),xLO (·.2.2) (S.take j),((j:Nat):Int),nx,(out.dropLast++[(out[out.length - 1].1,nx)]).map encP),?_,ae _ ar (by rw [U];omega),mu⟩
        have e4:(out[out.length - 1].2==at')=true:=by simp [hl]
        unfold xfR;simp only;unfold xp9;rw [v0,v1,v2,v3,v4,v5,v7,v8,aq,j3,dF,dj,zN,za,gl,cl,sl,dl,dv,e4];by_cases hj:j<S.length
        . rw [decide_eq_true hj,ac hj,Q hj,Z,U];rfl
        . rw [decide_eq_false hj];have:nx=1099511627776:=by rw [J,dif_neg hj]
          rw [this] at Z U |-;rw [Z,U];rfl
      . have ab:=O.add ag aa V hK (fun p hp=>by
         rw [ad] at hp;rcases zG.1 hp with hp|hp
         . have h1:=O.span.2;rw [ad] at h1;have:=(List.pairwise_append.1 h1).2.2 p hp _ (zv.2 rfl);have h2:=O.low _ (zo am);have h3:=xax.1 (O.span.1 _ (zo am));omega
         . rw [zv.1 hp];exact hl)
        refine ⟨((out++[(at',nx)]).length,xLO (·.2.1) (S.take j),xLO (·.2.2) (S.take j),((j:Nat):Int),nx,(out++[(at',nx)]).map encP),?_,ae _ ab (by rw [z8,zj];omega),mu⟩
        have e4:(out[out.length - 1].2==at')=false:=by simp [hl]
        unfold xfR;simp only;unfold xp9;rw [v0,v1,v2,v3,v4,v5,v7,v8,aq,j3,dF,dj,zN,za,za,gl,cl,sl,dl,dv,e4,e1,decide_eq_true aj,decide_eq_true af];by_cases hj:j<S.length
        . rw [decide_eq_true hj,ac hj,Q hj,zx,z8];rfl
        . rw [decide_eq_false hj];have:nx=1099511627776:=by rw [J,dif_neg hj]
          rw [this,zx,z8];rfl
 . right;have:at'=1099511627776:=by omega
   subst this;refine ⟨(out.length,out.map encP),?_,out,rfl,O⟩;unfold xfR;simp only;unfold xp9;rw [decide_eq_false hF];rfl
end
theorem xuD:∀ (l:List Per) (e:Edg),e∈xLL 1 0 l->(-1<=e.2.1/\e.2.1<=1)/\(-1<=e.2.2/\e.2.2<=1)
 | [],e,h=>by cases h
 | p::l,e,h=>by
  unfold xLL at h;split at h
  . rcases zC.1 h with rfl|h
    . simp
    . rcases zC.1 h with rfl|h
      . simp
      . exact xuD l e h
  . exact xuD l e h
theorem xuE:∀ (l:List Per) (e:Edg),e∈xLL 0 1 l->(-1<=e.2.1/\e.2.1<=1)/\(-1<=e.2.2/\e.2.2<=1)
 | [],e,h=>by cases h
 | p::l,e,h=>by
  unfold xLL at h;split at h
  . rcases zC.1 h with rfl|h
    . simp
    . rcases zC.1 h with rfl|h
      . simp
      . exact xuE l e h
  . exact xuE l e h
theorem xLj (keep:Bool->Bool->Bool) (a b:List Per) (ha:a.length<=1073741824) (hb:b.length<=1073741824) :
  ∃ r:List Per,swG keep (a.map encP) (b.map encP)=some (r.map encP)/\IsSpan r/\∀ t,inL r t=(decide (0<=t)&&(decide (t<1099511627776)&&keep (inL a t) (inL b t))):=by
 obtain ⟨S,hS,hp,Q⟩:=xIk a b ha hb;have l1:=xkF 1 0 a;have l2:=xkF 0 1 b;have V:S.length=(xLL 1 0 a++xLL 0 1 b).length:=hp.length_eq;rw [z8] at V;have q:∀ e,e∈S->e∈xLL 1 0 a\/e∈xLL 0 1 b:=fun e he=>zG.1 (hp.mem_iff.1 he)
 have J:∀ e,e∈S->0<=e.1/\e.1<=1099511627776:=fun e he=>(q e he).elim (xnj 1 0 a e) (xnj 0 1 b e)
 have U:∀ e,e∈S->(-1<=e.2.1/\e.2.1<=1)/\(-1<=e.2.2/\e.2.2<=1):=fun e he=>(q e he).elim (xuD a e) (xuE b e)
 obtain ⟨r,hr,out,rfl,O⟩:=xCI (SwI S (fun t=>keep (inL a t) (inL b t))) (fun s=>(1099511627776 - s.2.2.2.2.1).toNat) (fun r=>∃ out:List Per,r=(out.length,out.map encP)/\OutOk out 1099511627776 (fun t=>keep (inL a t) (inL b t)))
  (xEj S J U Q (by omega) keep a b hp) (0,0,0,0,0,[]) ⟨[],0,0,rfl,Int.le_refl _,by omega,zQ _,fun m _ h=>by omega,fun m h _=>(J _ (zo h)).1,xv4 _,by simp⟩
 refine ⟨out,?_,O.span,O.done⟩;have v3:xzS keep (a.map encP) (b.map encP)=some (out.length,out.map encP):=by unfold xzS;rw [hS];exact hr
 have v2:xzR keep (a.map encP) (b.map encP)=(out.length,out.map encP):=by unfold xzR;rw [v3];rfl
 have v0:xzQ keep (a.map encP) (b.map encP)=out.length:=by unfold xzQ;rw [v2]
 have v1:xzP keep (a.map encP) (b.map encP)=out.map encP:=by unfold xzP;rw [v2]
 have d1:0+out.length<=out.length:=by omega
 unfold swG xJd;rw [hS,v3,v0,v1,za,decide_eq_true d1,zr,zi (by rw [za];exact zd _)]
 rfl
theorem xF2 (a b:List AV):xsS a b=swG xfe a b:=rfl
theorem xEh (a b:List Per) (ha:a.length<=1073741824) (hb:b.length<=1073741824) :
  ∃ r:List Per,xee (a.map encP) (b.map encP)=some (r.map encP)/\IsSpan r/\∀ t,inL r t=(inL a t&&!inL b t):=by
 obtain ⟨r,h1,h2,h3⟩:=xLj xfe a b ha hb;refine ⟨r,?_,h2,fun t=>?_⟩
 . unfold xee xoO;rw [xF2,h1];rfl
 . rw [h3 t];cases hc:inL a t with
   | false=>simp [xfe,xaC,sUF]
   | true=>have:=xuj hc;simp [xfe,xaC,this,sUF]
end Go.Sim.M
end
noncomputable section
set_option maxRecDepth 100000
namespace Go.Sim.M
open Go.RowKit Go.Sim.Srt
theorem xA6 {ps:List Per} (h:ps.length<=262144):Tame (ps.map fun p=>(p,(1:Int))):=⟨by simpa using h,fun c hc=>by
 obtain ⟨p,_,rfl⟩:=zK.1 hc;dsimp only;omega⟩
theorem xBA (ps:List Per) (h:ps.length<=262144):∃ S,xel (ps.map encP)=some (S.map encP)/\StepI (fun t=>((ps.countP (hasP · t):Nat):Int)) 1099511627776 S/\S.length<=2*ps.length+1:=by
 obtain ⟨S,h1,h2,h3⟩:=xsh _ (xA6 h);refine ⟨S,by rw [xFk ps (by omega),h1],?_,by simpa using h3⟩
 rwa [show sumC (ps.map fun p=>(p,(1:Int)))=fun t=>((ps.countP (hasP · t):Nat):Int) from funext fun t=>xBq ps t] at h2
theorem xId (l:List Fc) (row:Row) (t:Int) (g:Fc->List Per) (hg:∀ f,(g f).countP (hasP · t)=if f.r=row/\hasP f.p t=true then 1 else 0):(l.flatMap g).countP (hasP · t)=cnt l row t:=by
 induction l with
 | nil=>rfl
 | cons f l ih =>
  rw [zR,List.countP_append,ih,hg];have e2:cnt (f::l) row t=cnt l row t+if (decide (f.r=row)&&hasP f.p t)=true then 1 else 0:=List.countP_cons
  rw [e2];by_cases h:f.r=row/\hasP f.p t=true
  . rw [if_pos h,if_pos (by simp [h.1,h.2])];omega
  . rw [if_neg h,if_neg (by simpa using h)];omega
theorem xFO (l:List Fc) (row:Row) (hr:∀ f,f∈l->f.r.length<=maxLen) (hl:l.length<=262144):∃ S,xos (l.map encF) (row.map encV)=some (S.map encP)/\StepI (fun t=>((cnt l row t:Nat):Int)) 1099511627776 S/\S.length<=2*l.length+1:=by
 have e:=xu0 row l (by omega) hr
 have q:(l.flatMap fun f=>if cmpR f.r row==0 then [(f.p,(1:Int))] else [])=(l.flatMap fun f=>if cmpR f.r row==0 then [f.p] else []).map fun p=>(p,(1:Int)):=by
  rw [List.map_flatMap];congr 1;funext f;split<;>simp
 rw [q] at e;generalize hq:(l.flatMap fun f=>if cmpR f.r row==0 then [f.p] else [])=ps at e
 have J:ps.length<=l.length:=by
  rw [<-hq];have:=xfh (c:=1) (g:=fun f:Fc=>if cmpR f.r row==0 then [f.p] else []) l fun f _=>by split<;>simp
  omega
 obtain ⟨S,h1,h2,h3⟩:=xLf _ (xA6 (ps:=ps) (by omega))
 refine ⟨S,?_,?_,by rw [za] at h3;omega⟩
 . unfold xos xur;simp only [xot,xou,xov,xow,e,sOO,sUF];simp only [h1,sOO]
 . rwa [show sumC (ps.map fun p=>(p,(1:Int)))=fun t=>((cnt l row t:Nat):Int) from funext fun t=>by
    rw [xBq,<-hq,xId l row t _ fun f=>?_]
    rw [cmp0];by_cases hr:f.r=row<;>cases hh:hasP f.p t<;>simp [hr,hh]] at h2
end Go.Sim.M
end
noncomputable section
set_option maxRecDepth 100000
namespace Go.Sim.M
open Go.RowKit Go.Sim.Srt Go.Sort
theorem xKe (E:List Per):(E.map encP).all isP=true/\∃ P:List Per,srtP (E.map encP)=P.map encP/\P.Perm E/\Sorted cmpP P:=by
 have e1:(E.map encP).map decP=E:=by
  rw [List.map_map];conv=>rhs;rw [<-List.map_id E]
  rfl
 refine ⟨?_,pdqL cmpP E,?_,(xnm cmpP swoP E).1,(xtK cmpP swoP E).imp fun {x y} h=>?_⟩
 . rw [zI];intro x hx;obtain ⟨e,he,rfl⟩:=zK.1 hx;rfl
 . unfold srtP;rw [e1];rfl
 . have:=xs1 x y;omega
theorem xCL (S:List Per) (hS:S.length<=524289) (hN:∀ s,s∈S->0<=s.2/\s.2<=1048576):∀ (d k:Nat) (J ox:List Per),k+d=S.length->StOk J->(xLR J).length<=1048576->ox.length<=k*1048576 ->
  ∃ q Q:List Per,Iter (xcI (S.map encP) ((S.length:Nat):Int)) ((k:Int),ox.length,J.length,((xLR J).length:Int),ox.map encP,J.map encP)=some (Q.length,((xLR q).length:Int),q.length,Q.map encP,q.map encP) /\
   StOk q/\(xLR q,Q)=(S.drop k).foldl (fun x s=>setF x (s.1,s.2.toNat)) (xLR J,ox)/\(xLR q).length<=1048576/\Q.length<=S.length*1048576
 | 0,k,J,ox,h,h1,h2,h3=>by
  obtain rfl:k=S.length:=by omega
  refine ⟨J,ox,xad ?_,h1,by rw [zq (zd _)];rfl,h2,h3⟩
  simp only [xcI,xhN,zy,zm,xac,sUF]
 | d+1,k,J,ox,h,h1,h2,h3=>by
  have hk:k<S.length:=by omega
  obtain ⟨n1,n2⟩:=hN _ (zo hk);obtain ⟨m,hm⟩:∃ m:Nat,S[k].2=(m:Int):=⟨S[k].2.toNat,by omega⟩
  obtain ⟨O,e,a1,a2⟩:=xE1 S[k].1 m (xLR J).length J ox h1 rfl (by omega) h2 (by omega)
  have U:(xLR O).length=m:=by rw [a2,z8,zt,List.length_replicate];omega
  obtain ⟨q,Q,e',b1,b2,b3,b4⟩:=xCL S hS hN d (k+1) O (ox++(((xLR J).drop m).reverse.map fun f=>(f,S[k].1))) (by omega) a1 (by omega) (by
   rw [z8,za,List.length_reverse,y4];omega)
  refine ⟨q,Q,(xam ?_).trans e',b1,?_,b3,b4⟩
  . have i1:(k:Int)<(S.length:Int):=by omega
    have gf:(S.map encP).getD k .top=encP S[k]:=xaa _ _ _ hk;have i2:¬ (0:Int)>(m:Int):=by omega
    have i3:¬ (1048576:Int)<(m:Int):=by omega
    have tk:List.take O.length (O.map encP)=O.map encP:=zi (by simp)
    rw [U];simp only [xcI,xhN,xk9,xla,xlb,xlc,xld,xle,xlf,sBU,hk,i1,gf,cP0,cP1,lP,sP,sP0,sP1,hm,i2,i3,if_false,e,tk,xLP (n:=k) (by omega)]
  . rw [b2,xaG hk,List.foldl_cons];congr 1;rw [hm,zN,a2];rfl
theorem xHn {N:Int->Nat} {H:Nat} (hb:H<=1048576) (hH:∀ t,N t<=H) (h0:∀ t,t<0\/1099511627776<=t->N t=0) {S:List Per} (hS:StepI (fun t=>(N t:Int)) 1099511627776 S) (hl:S.length<=524289):∃ P,xoR (S.map encP)=some (P.map encP)/\IsLevs N P:=by
 obtain ⟨q,ox,e,a1,a2,a3,a4⟩:=xCL S hl (fun s hs=>by
  obtain ⟨_,_,m3,_⟩:=(hS.mem s).1 hs;have:=hH s.1;omega) S.length 0 [] [] (by omega) (fun s hs=>by simp at hs) (by simp [xLR]) (by simp)
 obtain ⟨J,e2,c1,c2⟩:=xE1 1099511627776 0 (xLR q).length q ox a1 rfl (by omega) a3 (by omega)
 obtain ⟨s1,P,s2,s3,s4⟩:=xKe (ox++(((xLR q).drop 0).reverse.map fun f=>(f,(1099511627776:Int))))
 have m1:(ox++(((xLR q).drop 0).reverse.map fun f=>(f,(1099511627776:Int)))).length<4611686018427387904:=by
  rw [z8,za,List.length_reverse,y4];omega
 refine ⟨P,?_,xIu hH h0 hS ?_ s4⟩
 . have pl:=s3.length_eq;have e:Iter (xcI (S.map encP) ((S.length:Nat):Int)) ((0:Int),(0:Nat),(0:Nat),(0:Int),[],[])=_:=e;have e2:set2 1099511627776 0 ((xLR q).length:Int) q.length ox.length (q.map encP) (ox.map encP)=_:=e2;generalize (ox++(((xLR q).drop 0).reverse.map fun f=>(f,(1099511627776:Int))))=O at s1 s2 e2 pl m1
   have bq:O.length.beq O.length=true:=by simp
   have m2:O.length<=P.length:=by omega
   have tt:List.take O.length (P.map encP)=P.map encP:=zi (by rw [za];omega)
   unfold xoR xp7;simp only [xhb,xhc,xoS,xoT,xoU,xoV,xoW,xoX,xoY,za,e,zk,zh,xab,e2,bq,m1,s1,s2,zn,zS,zH,m2,zr,tt,sUF]
 . have a2:(xLR q,ox)=S.foldl (fun x s=>setF x (s.1,s.2.toNat)) ([],[]):=a2
   rw [<-a2];exact s3
theorem xCo (ps:List Per) (t:Int) (ht:t<0\/1099511627776<=t):ps.countP (hasP · t)=0:=by
 rw [List.countP_eq_zero];intro p hp h;obtain ⟨h1,h2,h3⟩:=xaU.1 h;have:=xax.1 h1;omega
theorem xJo (ps:List Per) (hv:∀ p,p∈ps->pv p=true) (hl:ps.length<=262144):∃ P,xfg (ps.map encP)=some (P.map encP)/\IsLevs (fun t=>ps.countP (hasP · t)) P:=by
 unfold xfg xnz;by_cases h1:ps.length=1
 . obtain ⟨p,rfl⟩:=List.length_eq_one_iff.1 h1;refine ⟨[p],rfl,List.pairwise_singleton _ _,fun k=>if k=0 then [p] else [],1,fun t=>?_,fun k=>?_,?_⟩
   . have:=List.countP_le_length (p:=(hasP · t)) (l:=[p]);simpa using this
   . by_cases hk:k=0
     . subst hk;refine ⟨⟨fun q hq=>by simp at hq;subst hq;exact hv _ (by simp),List.pairwise_singleton _ _⟩,fun t=>?_⟩
       simp [inL];cases hasP p t<;>simp
     . refine ⟨by simp [hk,xll],fun t=>?_⟩
       simp only [hk,if_false,xd3];have:=List.countP_le_length (p:=(hasP · t)) (l:=[p]);simp at this |-;omega
   . simp
 . obtain ⟨S,e1,e2,e3⟩:=xBA ps hl;obtain ⟨P,e4,e5⟩:=xHn (N:=fun t=>ps.countP (hasP · t)) (H:=ps.length) (by omega) (fun t=>List.countP_le_length) (xCo ps) e2 (by omega)
   refine ⟨P,?_,e5⟩;have i1:((ps.length:Int)==1)=false:=by simp;omega
   simp only [za,i1,xac,e1,e4,zk,zh,xab,sUF]
def mk (r:Row) (P:List Per):List Fc:=P.map fun p=>⟨r,p⟩
theorem xyk (L:Row->List Per):∀ S:List Grp,(S.flatMap fun g=>mk g.1 (L g.1))=xLV (S.map (·.1)) L
 | []=>rfl
 | g::S=>by rw [zR,xyk L S];rfl
theorem xAC (J:List AV) (q O:Int) (row:Row) (hr:row.length<=1048576) (g1:List AV) (P:List Per) (D:List Fc) (hb:D.length+P.length<=2199023255552) (hP:P.length<=1099511627776) :
  Iter (xbr J q O (P.map encP) ((P.length:Nat):Int)) (D.length,(0:Int),D.map encF,row.map encV,g1)=some ((D++mk row P).length,(D++mk row P).map encF):=by
 have key:=xkO (step:=xbr J q O (P.map encP) ((P.length:Nat):Int)) (fun k=>(((D++mk row (P.take k)).length,((k:Nat):Int),(D++mk row (P.take k)).map encF,row.map encV,g1):Nat×Int×List AV×List AV×List AV)) P.length
  ((D++mk row P).length,(D++mk row P).map encF) (fun k hk=>by
  have i1:(k:Int)<(P.length:Int):=by omega
  have gf:(P.map encP).getD k .top=encP P[k]:=xaa _ _ _ hk;have dl:(D++mk row (P.take k)).length=D.length+k:=by unfold mk;rw [z8,za,zt];omega
  have m1:(D.length+k+1)*40<=140737488355328:=by omega
  have m2:D.length+k+1<=4611686018427387904:=by omega
  have m3:row.length*32<=140737488355328:=by omega
  have m4:row.length<=4611686018427387904:=by omega
  have tk:List.take row.length (row.map encV)=row.map encV:=zi (by simp)
  have Q:mk row (P.take (k+1))=mk row (P.take k)++[⟨row,P[k]⟩]:=by unfold mk;rw [List.take_add_one,ze hk,zx];rfl
  rw [Q,<-zw];simp only [xbr,xex,sBU,hk,i1,gf,cP0,cP1,lP,sP,sP0,sP1,dl,m1,m2,m3,m4,zd,tk,zr,xLP (n:=k) (by omega)]
  rw [z8,dl];simp [encF]) (by
  simp only [xbr,xex,zy,zm,xac,y7,sUF]) P.length 0 (by omega)
 have e0:D++mk row (P.take 0)=D:=by simp [mk]
 rw [e0] at key;exact key
theorem xGQ (q:List AV) (O J:Int) (row:Row) (hr:row.length<=1048576) (g1:List AV) (P:List Per) (D:List Fc) (hb:D.length+P.length<=2199023255552) (hP:P.length<=1099511627776) :
  Iter (xku q O J (P.map encP) ((P.length:Nat):Int)) (D.length,(0:Int),D.map encF,row.map encV,g1)=some ((D++mk row P).length,(D++mk row P).map encF) :=
 xAC q O J row hr g1 P D hb hP
def Bld (l:List Fc):Prop:=Keyed l/\l.length<=1024
theorem cGs (g:Grp):((encG g).cells.getD 1 .top).toList=g.2.map encP:=rfl
theorem lG (g:Grp):((encG g).cells.length==2)=true:=rfl
theorem sG (g:Grp):xMR [Sh.list 3,Sh.list 2] (encG g).cells 0=true:=rfl
theorem xGR {f:List AV->Option (List AV)} {step:List AV->Int->Nat×Int×List AV->Option ((Nat×Int×List AV)⊕(Nat×List AV))} (J:step=xce/\f=xfg\/step=xf1/\f=xwz) (S:List Grp) (hS:S.length<=1024) (hr:∀ g,g∈S->g.1.length<=1048576) (L:Row->List Per) (hL:∀ g,g∈S->f (g.2.map encP)=some ((L g.1).map encP)/\(L g.1).length<=1048576) :
  Iter (step (S.map encG) ((S.length:Nat):Int)) ((0:Nat),(0:Int),[])=some ((xLV (S.map (·.1)) L).length,(xLV (S.map (·.1)) L).map encF):=by
 rw [<-xyk];refine xiV S (fun g=>mk g.1 (L g.1)) encF 1048576 (fun g hg=>by unfold mk;rw [za];exact (hL g hg).2) (fun n h D hD=>?_) (fun D=>?_)
 . have i1:(n:Int)<(S.length:Int):=by omega
   have gf:(S.map encG).getD n .top=encG S[n]:=xaa _ _ _ h;obtain ⟨e1,e2⟩:=hL _ (zo h);have q:=hr _ (zo h);rcases J with ⟨rfl,rfl⟩|⟨rfl,rfl⟩
   . have el:=xAC (S.map encG) (S.length:Int) (n:Int) S[n].1 q (S[n].2.map encP) (L S[n].1) D (by omega) (by omega)
     simp only [xce,xeZ,xhh,xhi,sBU,h,i1,gf,cG0,cGs,lG,sG,e1,el,xLP (n:=n) (by omega)]
   . have el:=xGQ (S.map encG) (S.length:Int) (n:Int) S[n].1 q (S[n].2.map encP) (L S[n].1) D (by omega) (by omega)
     simp only [xf1,xhO,xhj,xhk,sBU,h,i1,gf,cG0,cGs,lG,sG,e1,el,xLP (n:=n) (by omega)]
 . rcases J with ⟨rfl,rfl⟩|⟨rfl,rfl⟩
   . simp only [xce,xeZ,zy,zm,xac,sUF]
   . simp only [xf1,xhO,zy,zm,xac,sUF]
theorem xAE {R:List Row} {Q:Row->List Per->Prop} (h:∀ r,r∈R->∃ P,Q r P):∃ L:Row->List Per,∀ r,r∈R->Q r (L r):=by
 refine ⟨fun r=>if hr:r∈R then Classical.choose (h r hr) else [],fun r hr=>?_⟩
 show Q r (if hr:r∈R then Classical.choose (h r hr) else [])
 rw [dif_pos hr];exact Classical.choose_spec (h r hr)
theorem xHz (l:List Fc) (r:Row):(fun t=>(psOf l r).countP (hasP · t))=cnt l r:=funext fun t=>xzs l r t
theorem xGL (l:List Fc) (h:Bld l):∃ B,xny (l.map encF)=some (B.map encF)/\xLY l B:=by
 obtain ⟨S,e1,hR,J,O⟩:=xJ1 l h.1;have hl:=h.2;obtain ⟨L,hL⟩:=xAE (R:=S.map (·.1)) (Q:=fun r P=>xfg ((psOf l r).map encP)=some (P.map encP)/\IsLevs (cnt l r) P/\P.length<=1048576) fun r hr=>by
  have q:=xC7 l r;obtain ⟨P,a1,a2⟩:=xJo (psOf l r) xIH (by omega)
  have a3:=a2.len;rw [xHz] at a2;refine ⟨P,a1,a2,Nat.le_trans a3 (Nat.mul_le_mul (Nat.le_trans q hl) (Nat.le_trans q hl))⟩
 have hk:∀ g,g∈S->g.1∈S.map (·.1):=fun g hg=>zK.2 ⟨g,hg,rfl⟩
 have eb:=xGR (.inl ⟨rfl,rfl⟩) S (by omega) (fun g hg=>by
  obtain ⟨f,hf,e,_⟩:=(hR.2 g.1).1 (hk g hg);rw [<-e];exact h.1.1.2 f hf) L (fun g hg=>by
  rw [J g hg];exact ⟨(hL _ (hk g hg)).1,(hL _ (hk g hg)).2.2⟩)
 refine ⟨xLV (S.map (·.1)) L,?_,S.map (·.1),L,hR,fun r hr=>(hL r hr).2.1,rfl⟩
 have tt:∀ F:List Fc,List.take F.length (F.map encF)=F.map encF:=fun F=>zi (by simp)
 unfold xny xpe xmI xkt xjR xjS xjT xjU;simp only [e1,zk,zh,xab,za,eb,zH,zd,zn,zS,zr,tt,sUF]
end Go.Sim.M
end
noncomputable section
set_option maxRecDepth 100000
namespace Go.Sim.M
open Go.RowKit Go.Sim.Srt
def pos (S:List Per) (i:Nat):Int:=match S[i]? with
 | some s=>s.1
 | none=>1099511627776
theorem xul {S:List Per} {i:Nat} (h:i<S.length):pos S i=S[i].1:=by unfold pos;rw [ze h]
theorem xC5 {S:List Per} {i:Nat} (h:S.length<=i):pos S i=1099511627776:=by unfold pos;rw [zz h]
theorem xID {N:Int->Nat} {S:List Per} (hS:StepI (fun t=>(N t:Int)) 1099511627776 S) {i:Nat} (hi:i<S.length):0<=pos S i/\pos S i<pos S (i+1)/\pos S (i+1)<=1099511627776/\S[i].2=(N S[i].1:Int)/\∀ t,pos S i<=t->t<pos S (i+1)->N t=N S[i].1:=by
 obtain ⟨m1,m2,m3,_⟩:=(hS.mem S[i]).1 (zo hi);rw [xul hi];have hb:S[i].1<pos S (i+1)/\pos S (i+1)<=1099511627776:=by
  by_cases h:i+1<S.length
  . rw [xul h];have:=zB.1 hS.asc i (i+1) hi h (by omega)
    have:=((hS.mem S[i+1]).1 (zo h)).2.1;omega
  . rw [xC5 (by omega)];omega
 refine ⟨m1,hb.1,hb.2,m3,fun t h1 h2=>xs3 (a:=S[i].1) (b:=pos S (i+1)) (fun u u1 u2=>?_) (t - S[i].1).toNat t (by omega) h2⟩
 by_cases e:N (u - 1)=N u
 . exact e
 . have hu:(u,(N u:Int))∈S:=(hS.mem _).2 ⟨by dsimp only;omega,by dsimp only;omega,rfl,.inr (by dsimp only;omega)⟩
   obtain ⟨k,hk,J⟩:=zp.1 hu;have O:S[k].1=u:=by rw [J]
   rcases zJ i k with q|q
   . have:i+1<S.length:=by omega
     rw [xul this] at u2;rcases zJ (i+1) k with h3|h3
     . have:=zB.1 hS.asc (i+1) k this hk h3;omega
     . obtain rfl:k=i+1:=by omega
       omega
   . rcases zJ k i with h3|h3
     . have:=zB.1 hS.asc k i hk hi h3;omega
     . obtain rfl:k=i:=by omega
       omega
theorem xIE {N:Int->Nat} {S:List Per} (hS:StepI (fun t=>(N t:Int)) 1099511627776 S):pos S 0=0:=by
 have h0:((0:Int),(N 0:Int))∈S:=(hS.mem _).2 ⟨by simp,by simp,rfl,.inl rfl⟩
 obtain ⟨k,hk,q⟩:=zp.1 h0;have h:0<S.length:=by omega
 have p0:=((hS.mem S[0]).1 (zo h)).1;rw [xul h];have J:S[k].1=0:=by rw [q]
 rcases zJ 0 k with h3|h3
 . have:=zB.1 hS.asc 0 k h hk h3;omega
 . obtain rfl:k=0:=by omega
   exact J
def xLx (out:List Per) (f t:Int):List Per:=match out.getLast? with
 | some p=>if p.2=f then out.dropLast++[(p.1,t)] else out++[(f,t)]
 | none=>out++[(f,t)]
theorem xMi {n:Nat} (h:n<=1099511627776):(n+1)*16<=140737488355328/\n+1<=4611686018427387904/\n*16<=140737488355328/\n<=4611686018427387904:=by omega
theorem xEK (out:List Per) (f t:Int) (O:f<t) (J:∀ p,p∈out->p.2<=f) (hl:out.length<=1048576):∃ q,xaV out.length f t (out.map encP)=some q/\br q.1 q.2.1.1 q.2.2.1=(xLx out f t).length/\br q.1 q.2.1.2.2 q.2.2.2=(xLx out f t).map encP:=by
 rcases xrx out with rfl|⟨o,p,rfl⟩
 . refine ⟨_,rfl,rfl,rfl⟩
 . have hp:=J p (by simp)
   have L:(o++[p]).length=o.length+1:=by simp
   rw [L] at hl;have w1:IntKind.i64.wrap (((o.length+1:Nat):Int) - 1)=(o.length:Int):=xMn (by omega)
   have i1:((o.length+1:Nat):Int)>0:=by omega
   have i2:(o.length:Int)<((o.length+1:Nat):Int):=by omega
   have i3:(o.length:Int)<=((o.length+1:Nat):Int):=by omega
   have i4:o.length<o.length+1:=by omega
   have i5:o.length<=o.length+1:=by omega
   have gl:((o++[p]).map encP).getD o.length .top=encP p:=by
    rw [zx];have:=xCz (o.map encP) (encP p) .top;rwa [za] at this
   have tl:List.take o.length ((o++[p]).map encP)=o.map encP:=by
    rw [zx];exact List.take_left' (by simp)
   obtain ⟨m1,m2,m3,m4⟩:=xMi (n:=o.length) (by omega)
   obtain ⟨m5,m6,_,_⟩:=xMi (n:=o.length+1) (by omega)
   have jn:xLx (o++[p]) f t=if p.2=f then o++[(p.1,t)] else o++[p]++[(f,t)]:=by
    unfold xLx;simp
   by_cases he:p.2=f
   . have c1:p.2>=f:=by omega
     have c2:t>p.2:=by omega
     rw [jn,if_pos he,L];refine ⟨(true,(o.length+1,(o++[p]).map encP,o.map encP++[encP (p.1,t)]),(0,[])),?_,by simp [xab,sUF],by simp [xab,sUF]⟩
     unfold xaV xkV xh4 xjz xdg xmt xmu xjA xmv;simp only [sBU,L,w1,i1,i2,i3,i4,i5,gl,cP0,cP1,lP,sP,sP0,sP1,c1,c2,tl,zr,m1,m2,m3,m4,if_true,aggP]
   . have c1:¬ p.2>=f:=by omega
     rw [jn,if_neg he,L];refine ⟨(false,(0,[],[]),(o.length+1+1,(o++[p]).map encP++[encP (f,t)])),?_,by simp [xac,sUF],by simp [xac,sUF]⟩
     unfold xaV xkV xh4 xjz xdg xmt xmu xjA xmv;simp only [sBU,L,w1,i1,i2,i3,i4,gl,cP0,cP1,lP,sP,sP0,sP1,c1,m5,m6,aggP]
theorem xAW {out:List Per} {f t:Int} {K:Int->Bool} (h:OutOk out f K) (h0:0<=f) (J:f<t) (hF:t<=1099511627776) (hK:∀ u,f<=u->u<t->K u=true):OutOk (xLx out f t) t K/\(xLx out f t).length<=out.length+1:=by
 rcases xrx out with rfl|⟨o,p,rfl⟩
 . exact ⟨h.add h0 J hF hK (fun p hp=>by simp at hp),by simp [xLx]⟩
 . have jn:xLx (o++[p]) f t=if p.2=f then o++[(p.1,t)] else o++[p]++[(f,t)]:=by unfold xLx;simp
   rw [jn];by_cases he:p.2=f
   . rw [if_pos he];exact ⟨h.ext he J hF hK,by simp⟩
   . rw [if_neg he];refine ⟨h.add h0 J hF hK (fun q hq e=>?_),by simp⟩
     rcases zG.1 hq with hq|hq
     . have:=(List.pairwise_append.1 h.span.2).2.2 q hq p (by simp)
       have hv:=xax.1 (h.span.1 p (by simp))
       have:=h.low p (by simp)
       omega
     . rw [zv] at hq;subst hq;exact he e
theorem xCe {N:Int->Nat} {S:List Per} (hS:StepI (fun t=>(N t:Int)) 1099511627776 S) (hl:S.length<=524289) (n:Int):∀ (d i:Nat) (out:List Per),i+d=S.length->OutOk out (pos S i) (fun t=>decide (n<=(N t:Int)))->out.length<=i ->
  ∃ J:List Per,Iter (xaK (S.map encP) n) (out.length,(i:Int),out.map encP)=some (J.length,J.map encP)/\OutOk J 1099511627776 (fun t=>decide (n<=(N t:Int)))/\J.length<=S.length
 | 0,i,out,h,ho,hn=>by
  obtain rfl:i=S.length:=by omega
  rw [xC5 (zd _)] at ho;refine ⟨out,xad ?_,ho,hn⟩;simp only [xaK,xdv,za,zy,zm,xac,sUF]
 | d+1,i,out,h,ho,hn=>by
  have hi:i<S.length:=by omega
  obtain ⟨p1,p2,p3,p4,p5⟩:=xID hS hi;have i1:(i:Int)<(S.length:Int):=by omega
  have gf:(S.map encP).getD i .top=encP S[i]:=xaa _ _ _ hi;have wi:=xLP (n:=i) (by omega)
  have pe:=xul hi;by_cases Q:S[i].2>=n
  . have hK:∀ t,pos S i<=t->t<pos S (i+1)->(fun t=>decide (n<=(N t:Int))) t=true:=fun t t1 t2=>by
     dsimp only;rw [p5 t t1 t2,<-p4];exact decide_eq_true Q
    obtain ⟨j1,j2⟩:=xAW ho p1 p2 p3 hK;obtain ⟨q,q1,q2,q3⟩:=xEK out (pos S i) (pos S (i+1)) p2 ho.low (by omega)
    obtain ⟨J,e',x1,x2⟩:=xCe hS hl n d (i+1) (xLx out (pos S i) (pos S (i+1))) (by omega) j1 (by omega)
    refine ⟨J,(xam (s':=((xLx out (pos S i) (pos S (i+1))).length,((i+1:Nat):Int),(xLx out (pos S i) (pos S (i+1))).map encP)) ?_).trans e',x1,x2⟩;rw [<-q2,<-q3];by_cases O:i+1<S.length
    . have i2:((i+1:Nat):Int)<(S.length:Int):=by omega
      have gn:(S.map encP).getD (i+1) .top=encP S[i+1]:=xaa _ _ _ O;rw [xul O,pe] at q1;simp only [xaK,xdv,xcV,xcW,xcX,xcY,xcZ,xcx,xc0,xc1,xc2,xc3,xbb,xcz,xcA,xcB,sBU,i1,i2,hi,O,gf,gn,cP0,cP1,lP,sP,sP0,sP1,Q,wi,q1]
    . have i2:¬ ((i+1:Nat):Int)<(S.length:Int):=by omega
      rw [xC5 (S:=S) (i:=i+1) (by omega),pe] at q1
      simp only [xaK,xdv,xcV,xcW,xcX,xcY,xcZ,xcx,xc0,xc1,xc2,xc3,xbb,xcz,xcA,xcB,sBU,i1,i2,hi,gf,cP0,cP1,lP,sP,sP0,sP1,Q,wi,q1]
  . have hK:∀ t,pos S i<=t->t<pos S (i+1)->(fun t=>decide (n<=(N t:Int))) t=false:=fun t t1 t2=>by
     dsimp only;rw [p5 t t1 t2,<-p4];exact decide_eq_false (by omega)
    obtain ⟨J,e',x1,x2⟩:=xCe hS hl n d (i+1) out (by omega) (ho.skip (by omega) hK) (by omega)
    refine ⟨J,(xam (s':=(out.length,((i+1:Nat):Int),out.map encP)) ?_).trans e',x1,x2⟩;by_cases O:i+1<S.length
    . have i2:((i+1:Nat):Int)<(S.length:Int):=by omega
      have gn:(S.map encP).getD (i+1) .top=encP S[i+1]:=xaa _ _ _ O;simp only [xaK,xdv,xcV,xcW,xcX,xcY,xcZ,xcx,xc0,xc1,xc2,xc3,xbb,xcz,xcA,xcB,sBU,i1,i2,hi,O,gf,gn,cP0,cP1,lP,sP,sP0,sP1,Q,wi]
    . have i2:¬ ((i+1:Nat):Int)<(S.length:Int):=by omega
      simp only [xaK,xdv,xcV,xcW,xcX,xcY,xcZ,xcx,xc0,xc1,xc2,xc3,xbb,xcz,xcA,xcB,sBU,i1,i2,hi,gf,cP0,cP1,lP,sP,sP0,sP1,Q,wi]
theorem xKX {N:Int->Nat} (h0:∀ t,t<0\/1099511627776<=t->N t=0) {S:List Per} (hS:StepI (fun t=>(N t:Int)) 1099511627776 S) (hl:S.length<=524289) (k:Nat):∃ A:List Per,xec (S.map encP) ((k+1:Nat):Int)=some (A.map encP)/\(IsSpan A/\∀ t,inL A t=decide (k<N t))/\A.length<=S.length:=by
 obtain ⟨A,e,a1,a2⟩:=xCe hS hl ((k+1:Nat):Int) S.length 0 [] (by omega) (by rw [xIE hS];exact xv4 _) (zd _)
 refine ⟨A,?_,⟨a1.span,fun t=>?_⟩,a2⟩
 . have e:Iter (xaK (S.map encP) ((k+1:Nat):Int)) ((0:Nat),(0:Int),[])=_:=e;have tt:List.take A.length (A.map encP)=A.map encP:=zi (by simp)
   unfold xec xtd;simp only [xmV,xmW,xmX,e,zk,zh,xab,zH,za,zd,zn,zS,zr,tt,sUF]
 . rw [a1.done];by_cases h1:0<=t
   . by_cases h2:t<1099511627776
     . simp only [h1,h2,zn,Bool.true_and];rw [Bool.eq_iff_iff,zl,zl];omega
     . have:=h0 t (.inr (by omega));simp [h2,this]
   . have:=h0 t (.inl (by omega));simp [h1,this]
theorem xHB (p q:Per):decide (xqQ p.1 p.2 q.1 q.2<=0)=decide (cmpP p q<=0):=by
 rw [Bool.eq_iff_iff,zl,zl,xuf];unfold xqQ;simp only [xaC,zS,sUF];by_cases h1:p.1=q.1
 . by_cases h2:p.2=q.2
   . simp [h1,h2]
   . by_cases h3:p.2<q.2
     . simp [h1,h2,h3];omega
     . simp [h1,h2,h3];omega
 . by_cases h3:p.1<q.1
   . simp [h1,h3]
   . simp [h1,h3]
theorem xC3 (P:List Per) (hP:P.length<=1099511627775) (p:Per):∀ (d i:Nat),i+d=P.length->(∀ k (h:k<P.length),k<i->cmpP P[k] p<=0)->∃ m:Nat,m<=P.length/\(∀ k (h:k<P.length),k<m->cmpP P[k] p<=0)/\(∀ h:m<P.length,¬ cmpP P[m] p<=0) /\
  Iter (xc4 (P.map encP)) (i,(i:Int),p.1,p.2,(P.take i).map encP)=some (m,(m:Int),p.1,p.2,(P.take m).map encP)
 | 0,i,h,hk=>by
  obtain rfl:i=P.length:=by omega
  refine ⟨P.length,zd _,hk,fun h=>by omega,xad ?_⟩
  simp only [xc4,xi1,za,zy,zm,xac,sUF]
 | d+1,i,h,hk=>by
  have hi:i<P.length:=by omega
  have i1:(i:Int)<(P.length:Int):=by omega
  have gf:(P.map encP).getD i .top=encP P[i]:=xaa _ _ _ hi;have tl:(P.take i).length=i:=by rw [zt];omega
  obtain ⟨m1,m2,_,_⟩:=xMi (n:=i) (by omega)
  have rc:=xHB P[i] p;by_cases hc:cmpP P[i] p<=0
  . rw [decide_eq_true hc] at rc;obtain ⟨m,a1,a2,a3,a4⟩:=xC3 P hP p d (i+1) (by omega) (fun k h h1=>by
     by_cases e:k=i
     . subst e;exact hc
     . exact hk k h (by omega))
    refine ⟨m,a1,a2,a3,(xam ?_).trans a4⟩;simp only [xc4,xi1,xhG,sBU,i1,hi,gf,cP0,cP1,lP,sP,sP0,sP1,rc,tl,m1,m2,xLP (n:=i) (by omega),aggP]
    rw [List.take_add_one,ze hi,zx];rfl
  . rw [decide_eq_false hc] at rc;refine ⟨i,by omega,hk,fun _=>hc,xad ?_⟩
    simp only [xc4,xi1,xhG,sBU,i1,hi,gf,cP0,cP1,lP,sP,sP0,sP1,rc]
theorem xIC (P:List Per) (hP:P.length<=1099511627775) (p:Per) (hs:Sorted cmpP P):∃ P':List Per,xqh (P.map encP) p.1 p.2=some (P'.map encP)/\P'.Perm (p::P)/\Sorted cmpP P':=by
 obtain ⟨m,a1,a2,a3,a4⟩:=xC3 P hP p P.length 0 (by omega) (fun k h h1=>by omega)
 refine ⟨P.take m++p::P.drop m,?_,?_,?_⟩
 . have a4:Iter (xc4 (P.map encP)) ((0:Nat),(0:Int),p.1,p.2,[])=_:=a4;have tl:(P.take m).length=m:=by rw [zt];omega
   obtain ⟨m1,m2,_,_⟩:=xMi (n:=m) (by omega)
   have i1:(m:Int)<=(P.length:Int):=by omega
   have t1:List.take (P.length - m) (List.drop m (P.map encP))=(P.drop m).map encP:=by rw [zi (by simp),List.map_drop]
   have dl:(P.drop m).length=P.length - m:=y4;have m3:(m+1+(P.length - m))*16<=140737488355328:=by omega
   have m4:m+1+(P.length - m)<=4611686018427387904:=by omega
   have J:(P.take m).map encP++[encP p]++(P.drop m).map encP=(P.take m++p::P.drop m).map encP:=by simp
   have fl:((P.take m++p::P.drop m).map encP).length=m+1+(P.length - m):=by simp;omega
   have tt:List.take (m+1+(P.length - m)) ((P.take m++p::P.drop m).map encP)=(P.take m++p::P.drop m).map encP:=zi (by rw [fl];exact zd _)
   have ag:AV.agg [.int .i64 p.1,.int .i64 p.2]=encP p:=rfl;unfold xqh xvm;simp only [xid,xpm,xpn,xie,xpo,xif,xpp,xpq,xpr,xps,xn8,xn9,xoa,a4,sBU,ag,tl,t1,dl,m1,m2,m3,m4,i1,z8,zj,J,zd,zr];have l9:m+(p::P.drop m).length=m+1+(P.length - m):=by rw [zF,dl];omega
   simp only [za,l9,zd,zn,xab,tt,sUF]
 . exact List.perm_middle.trans (by rw [List.take_append_drop])
 . refine List.pairwise_append.2 ⟨hs.sublist (List.take_sublist _ _),zM.2 ⟨fun q hq=>?_,hs.sublist (List.drop_sublist _ _)⟩,fun x hx y hy=>?_⟩
   . obtain ⟨j,hj,rfl⟩:=zp.1 hq;rw [y4] at hj;rw [List.getElem_drop];have h1:=a3 (by omega)
     have h2:cmpP p P[m]<=0:=by rw [xs1 P[m] p];omega
     rcases Nat.eq_zero_or_pos j with rfl|O
     . exact h2
     . exact xH9.trans _ _ _ h2 (zB.1 hs m (m+j) (by omega) (by omega) (by omega))
   . obtain ⟨i,hi,rfl⟩:=List.mem_take_iff_getElem.1 hx;rcases zC.1 hy with rfl|hy
     . exact a2 i (by omega) (by omega)
     . obtain ⟨j,hj,rfl⟩:=zp.1 hy;rw [y4] at hj;rw [List.getElem_drop];exact zB.1 hs i (m+j) (by omega) (by omega) (by omega)
theorem xEY (l:List AV) (n:Int) (s:List Per) (hs:s.length<=1048576):∀ (d i:Nat) (out:List Per),i+d=s.length->Sorted cmpP out->out.length+d<=1099511627775->∃ q:List Per,Iter (xcD l n (s.map encP)) (out.map encP,(i:Int))=some (q.map encP)/\q.Perm (out++s.drop i)/\Sorted cmpP q
 | 0,i,out,h,ho,hl=>by
  obtain rfl:i=s.length:=by omega
  refine ⟨out,xad ?_,by rw [zq (zd _),zD],ho⟩
  simp only [xcD,xlS,za,zy,zm,xac,sUF]
 | d+1,i,out,h,ho,hl=>by
  have hi:i<s.length:=by omega
  have i1:(i:Int)<(s.length:Int):=by omega
  have gf:(s.map encP).getD i .top=encP s[i]:=xaa _ _ _ hi;obtain ⟨P',e1,p1,s1⟩:=xIC out (by omega) s[i] ho
  have pl:=p1.length_eq;rw [zF] at pl;obtain ⟨q,e2,p2,s2⟩:=xEY l n s hs d (i+1) P' (by omega) s1 (by omega)
  refine ⟨q,(xam (s':=(P'.map encP,((i+1:Nat):Int))) ?_).trans e2,?_,s2⟩
  . simp only [xcD,xlS,sBU,i1,hi,gf,cP0,cP1,lP,sP,sP0,sP1,e1,xLP (n:=i) (by omega)]
  . refine p2.trans ((p1.append_right _).trans ?_);rw [xaG hi];exact List.perm_middle.symm
theorem xEX {S:List Per} (A:Nat->List Per) (C:Nat) (hC:C<=524289) (hA:∀ k,xec (S.map encP) ((k+1:Nat):Int)=some ((A k).map encP)/\(A k).length<=C) (H:Nat) (hH:H<=1048575) (hE:A H=[]):∀ (d k:Nat) (out:List Per),k+d=H->Sorted cmpP out->out.Perm ((List.range k).flatMap A) ->
  ∃ (K:Nat) (q:List Per),Iter (xcC (S.map encP)) (out.map encP,((k+1:Nat):Int))=some (true,(q.map encP,q.map encP),[])/\A K=[]/\K<=H/\q.Perm ((List.range K).flatMap A)/\Sorted cmpP q
 | d,k,out,h,ho,hp=>by
  obtain ⟨e1,l1⟩:=hA k;have n1:((k+1:Nat):Int)<=1048576:=by omega
  by_cases hk:A k=[]
  . refine ⟨k,out,xad ?_,hk,by omega,hp,ho⟩
    rw [hk] at e1;simp only [xcC,xlR,n1,e1,zn,xab,zk,zh,zW,sUF];rfl
  . match d,h with
    | 0,h =>
     obtain rfl:k=H:=by omega
     exact absurd hE hk
    | d+1,h =>
     have ol:out.length<=C*k:=by
      rw [hp.length_eq];have:=xfh (g:=A) (List.range k) fun j _=>(hA j).2
      rwa [List.length_range] at this
     have J:C*k<=524289*1048575:=Nat.mul_le_mul hC (by omega)
     obtain ⟨q,e2,p2,s2⟩:=xEY (S.map encP) ((k+1:Nat):Int) (A k) (by omega) (A k).length 0 out (by omega) ho (by omega)
     obtain ⟨K,o2,e3,k1,k2,p3,s3⟩:=xEX A C hC hA H hH hE d (k+1) q (by omega) s2 (by
      rw [List.range_succ,List.flatMap_append];rw [zr] at p2;refine p2.trans ((hp.append_right _).trans ?_);simp)
     refine ⟨K,o2,(xam ?_).trans e3,k1,k2,p3,s3⟩;have ne:(((A k).length:Int)==0)=false:=by
      have:(A k).length≠0:=fun e=>hk (List.length_eq_zero_iff.1 e)
      simp;exact hk
     have e2:Iter (xcD (S.map encP) ((k+1:Nat):Int) ((A k).map encP)) (out.map encP,(0:Int))=_:=e2;simp only [xcC,xlR,n1,e1,zn,xab,xac,zk,zh,za,ne,e2,xLP (n:=k+1) (by omega),sUF]
theorem xFY {N:Int->Nat} {H:Nat} (hH:H<=1048575) (hN:∀ t,N t<=H) (h0:∀ t,t<0\/1099511627776<=t->N t=0) {S:List Per} (hS:StepI (fun t=>(N t:Int)) 1099511627776 S) (hl:S.length<=524289):∃ P,xdX (S.map encP)=some (P.map encP)/\IsLevs N P:=by
 have ha:=xKX h0 hS hl;have hA:=fun k=>Classical.choose_spec (ha k)
 obtain ⟨A,q⟩:∃ A:Nat->List Per,A=fun k=>Classical.choose (ha k):=⟨_,rfl⟩
 have hA:∀ k,xec (S.map encP) ((k+1:Nat):Int)=some ((A k).map encP)/\(IsSpan (A k)/\∀ t,inL (A k) t=decide (k<N t))/\(A k).length<=S.length:=fun k=>by rw [q];exact hA k
 have hE:A H=[]:=xu8 (hA H).2.1.1 fun t=>by rw [(hA H).2.1.2];have:=hN t;simp;omega
 obtain ⟨K,P,e,k1,k2,p1,s1⟩:=xEX A S.length hl (fun k=>⟨(hA k).1,(hA k).2.2⟩) H hH hE H 0 [] (by omega) List.Pairwise.nil (by simp)
 refine ⟨P,?_,s1,A,K,fun t=>?_,fun k=>(hA k).2.1,p1⟩
 . have e:Iter (xcC (S.map encP)) ([],(1:Int))=_:=e;unfold xdX xun;simp only [xn6,xn7,e,zk,zh,xab,sUF]
 . have:=(hA K).2.1.2 t;rw [k1,xd3] at this;have:=of_decide_eq_false this.symm;omega
theorem xHJ (l:List Per) (t:Int) (hl:l.length<=1048576):xfV (l.map encP) t=some (inL l t):=by
 have e:=xs7 (step:=xaP (l.map encP) t) l (fun k=>(k:Int)) (fun a=>br (hasP a t) (some (true,true,())) none) (false,false,()) (fun k h=>by
  have h1:(k:Int)<(l.length:Int):=by omega
  have gf:(l.map encP).getD k .top=encP l[k]:=xaa _ _ _ h;simp only [xaP,xgh,sBU,h,h1,gf,cP0,cP1,lP,sP,sP0,sP1,xDb,xAh,xtc,xtb,xLP (n:=k) (by omega)]) (by
  simp only [xaP,xgh,za,zy,zm,xac,sUF]) l.length 0 (by simp)
 rw [zr,xyl] at e;have e:Iter (xaP (l.map encP) t) (0:Int)=_:=e;unfold xfV xmR;rw [e];show _=some (l.any (hasP · t));cases l.any (hasP · t)<;>rfl
def ptsP (l:List Per):List Int:=l.foldl (fun P p=>if pv p=true then insI (insI P p.1) p.2 else P) []
theorem xBc (l:List Per) (p:Per):ptsP (l++[p])=if pv p=true then insI (insI (ptsP l) p.1) p.2 else ptsP l:=by simp [ptsP]
theorem xBd:∀ l:List Per,Asc (ptsP l.reverse)/\∀ x,x∈ptsP l.reverse↔∃ p,p∈l/\pv p=true/\(x=p.1\/x=p.2)
 | []=>by simp [ptsP,Asc]
 | c::l=>by
  obtain ⟨h1,h2⟩:=xBd l;rw [List.reverse_cons,xBc];split
  . rename_i hv;refine ⟨xsc (xsc h1 _) _,fun x=>?_⟩
    rw [xph,xph,h2];constructor
    . rintro (h|h|⟨c',a,b,d⟩)
      . exact ⟨c,by simp,hv,.inr h⟩
      . exact ⟨c,by simp,hv,.inl h⟩
      . exact ⟨c',by simp [a],b,d⟩
    . rintro ⟨c',a,b,d⟩;rcases zC.1 a with rfl|a
      . rcases d with d|d
        . exact .inr (.inl d)
        . exact .inl d
      . exact .inr (.inr ⟨c',a,b,d⟩)
  . rename_i hv;refine ⟨h1,fun x=>?_⟩
    rw [h2];constructor
    . rintro ⟨c',a,b,d⟩;exact ⟨c',by simp [a],b,d⟩
    . rintro ⟨c',a,b,d⟩;rcases zC.1 a with rfl|a
      . exact absurd b hv
      . exact ⟨c',a,b,d⟩
theorem xJU (l:List Per):Asc (ptsP l)/\∀ x,x∈ptsP l↔∃ p,p∈l/\pv p=true/\(x=p.1\/x=p.2):=by
 have:=xBd l.reverse;simpa using this
theorem xIJ (l:List Per):(ptsP l).length<=2*l.length:=by
 have q:∀ l:List Per,(ptsP l.reverse).length<=2*l.length:=fun l=>by
  induction l with
  | nil=>simp [ptsP]
  | cons c l ih =>
   rw [List.reverse_cons,xBc];have a1:=xiT (ptsP l.reverse) c.1;have a2:=xiT (insI (ptsP l.reverse) c.1) c.2;split<;>simp<;>omega
 have:=q l.reverse;simpa using this
theorem xD9 (l:List Per) (hl:l.length<=262144):xsl (l.map encP)=some ((ptsP l).map encN):=by
 have e:Iter (xcy (l.map encP)) ([],(0:Int))=some ((ptsP l).map encN):=by
  refine xs8 l (fun P p=>if pv p=true then insI (insI P p.1) p.2 else P) (fun n b=>(b.map encN,(n:Int))) (fun n b=>b.length<=2*n) (fun n h b hb=>?_) l.length 0 [] (by omega) (by simp) ?_
  . have h1:(n:Int)<(l.length:Int):=by omega
    have gf:(l.map encP).getD n .top=encP l[n]:=xaa _ _ _ h;have a1:=xiT b l[n].1;have a2:=xiT (insI b l[n].1) l[n].2;have i1:=xs6 b l[n].1 (by omega)
    have i2:=xs6 (insI b l[n].1) l[n].2 (by omega)
    refine ⟨?_,by split<;>omega⟩
    simp only [xcy,xhF,xeQ,sBU,h,h1,gf,cP0,cP1,lP,sP,sP0,sP1,xtl,i1,i2,xLP (n:=n) (by omega)]
    cases pv l[n]<;>simp [xab,xac,sUF]
  . simp only [zr];simp only [xcy,xhF,xeQ,za,zy,zm,xac,sUF];rfl
 unfold xsl xpl;rw [e];rfl
theorem xBe {P:List Int} (hA:Asc P) {l:List Per} (hm:∀ p,p∈l->pv p=true->p.1∈P/\p.2∈P) {j:Nat} (hj:j+1<P.length) {t:Int} (h1:P[j]<=t) (h2:t<P[j+1]):inL l t=inL l P[j]:=by
 have key:∀ x,x∈P->(x<=t↔x<=P[j]):=fun x hx=>by
  obtain ⟨k,hk,rfl⟩:=List.getElem_of_mem hx;constructor
  . intro h;rcases zJ j k with q|q
    . rcases zJ (j+1) k with h3|h3
      . have:=zB.1 hA (j+1) k hj hk h3;omega
      . obtain rfl:k=j+1:=by omega
        omega
    . rcases zJ k j with h3|h3
      . have:=zB.1 hA k j hk (by omega) h3;omega
      . obtain rfl:k=j:=by omega
        omega
  . intro h;omega
 rw [Bool.eq_iff_iff,xen,xen];constructor
 . rintro ⟨p,a,b,c,d⟩;obtain ⟨m1,m2⟩:=hm p a b;have k1:=key _ m1;have k2:=key _ m2;exact ⟨p,a,b,by omega,by omega⟩
 . rintro ⟨p,a,b,c,d⟩;obtain ⟨m1,m2⟩:=hm p a b;have k1:=key _ m1;have k2:=key _ m2;exact ⟨p,a,b,by omega,by omega⟩
theorem xz5 (O:Int) (a b:List Per) (ha:a.length<=65536) (hb:b.length<=65536) (P:List Int) (hA:Asc P) (hP:P.length<=1048576) (hR:∀ x,x∈P->0<=x/\x<=1099511627776)
  (ma:∀ p,p∈a->pv p=true->p.1∈P/\p.2∈P) (mb:∀ p,p∈b->pv p=true->p.1∈P/\p.2∈P):∀ (d j:Nat) (hj:j<P.length) (out:List Per),j+1+d=P.length->OutOk out P[j] (fun t=>xbR O (inL a t) (inL b t))->out.length<=j ->
  ∃ J:List Per,Iter (xbj O (a.map encP) (b.map encP) (P.map encN)) (out.length,((j+1:Nat):Int),out.map encP)=some (J.length,J.map encP)/\OutOk J (P[P.length - 1]'(by omega)) (fun t=>xbR O (inL a t) (inL b t))/\J.length<=P.length
 | 0,j,hj,out,h,ho,hn=>by
  have e:P.length=j+1:=by omega
  refine ⟨out,xad ?_,?_,by omega⟩
  . have i1:¬ ((j+1:Nat):Int)<(P.length:Int):=by omega
    simp only [xbj,xei,za,i1,zm,xac,sUF]
  . have:P[P.length - 1]'(by omega)=P[j]:=by congr 1;omega
    rw [this];exact ho
 | d+1,j,hj,out,h,ho,hn=>by
  have Q:j+1<P.length:=by omega
  have i0:((j+1:Nat):Int)<(P.length:Int):=by omega
  have i1:(j:Int)<(P.length:Int):=by omega
  have i2:(0:Int)<=((j+1:Nat):Int):=by omega
  have w:IntKind.i64.wrap (((j+1:Nat):Int) - 1)=(j:Int):=xMn (by omega)
  have gf:(P.map encN).getD j .top=encN P[j]:=xaa _ _ _ hj;have gn:(P.map encN).getD (j+1) .top=encN P[j+1]:=xaa _ _ _ Q;have ca:=xHJ a P[j] (by omega)
  have cb:=xHJ b P[j] (by omega)
  have lt:P[j]<P[j+1]:=zB.1 hA j (j+1) hj Q (by omega)
  have r1:=hR _ (zo hj);have r2:=hR _ (zo Q);have hw:=xLP (n:=j+1) (by omega)
  have hK:∀ t,P[j]<=t->t<P[j+1]->xbR O (inL a t) (inL b t)=xbR O (inL a P[j]) (inL b P[j]):=fun t t1 t2=>by
   rw [xBe hA ma Q t1 t2,xBe hA mb Q t1 t2]
  cases hc:xbR O (inL a P[j]) (inL b P[j]) with
  | true =>
   obtain ⟨j1,j2⟩:=xAW ho r1.1 lt r2.2 (fun t t1 t2=>by rw [hK t t1 t2,hc])
   obtain ⟨q,q1,q2,q3⟩:=xEK out P[j] P[j+1] lt ho.low (by omega)
   obtain ⟨J,e',x1,x2⟩:=xz5 O a b ha hb P hA hP hR ma mb d (j+1) Q (xLx out P[j] P[j+1]) (by omega) j1 (by omega)
   refine ⟨J,(xam (s':=((xLx out P[j] P[j+1]).length,((j+1+1:Nat):Int),(xLx out P[j] P[j+1]).map encP)) ?_).trans e',x1,x2⟩;rw [<-q2,<-q3];simp only [xbj,xei,xdV,xfC,xfD,xdW,xfE,xfF,xfG,xba,sBU,i0,i1,i2,w,hj,Q,gf,gn,cN,sN,ca,cb,hc,q1,hw]
  | false =>
   obtain ⟨J,e',x1,x2⟩:=xz5 O a b ha hb P hA hP hR ma mb d (j+1) Q out (by omega) (ho.skip (by omega) (fun t t1 t2=>by rw [hK t t1 t2,hc])) (by omega)
   refine ⟨J,(xam (s':=(out.length,((j+1+1:Nat):Int),out.map encP)) ?_).trans e',x1,x2⟩;simp only [xbj,xei,xdV,xfC,xfD,xdW,xfE,xfF,xfG,xba,sBU,i0,i1,i2,w,hj,Q,gf,gn,cN,sN,ca,cb,hc,hw]
theorem xEw (q:Int) (a b:List Per) (ha:a.length<=65536) (hb:b.length<=65536):∃ A:List Per,xfW q (a.map encP) (b.map encP)=some (A.map encP)/\IsSpan A/\(∀ t,inL A t=(decide (0<=t)&&(decide (t<1099511627776)&&xbR q (inL a t) (inL b t))))/\A.length<=2*(1+a.length+b.length):=by
 have Q:∀ x,x∈(((0,1099511627776):Per)::a++b)↔x=(0,1099511627776)\/x∈a\/x∈b:=fun x=>by simp
 have J:(((0,1099511627776):Per)::a++b).length=1+a.length+b.length:=by simp;omega
 obtain ⟨pA,pm⟩:=xJU (((0,1099511627776):Per)::a++b);have pl:=xIJ (((0,1099511627776):Per)::a++b);have pe:=xD9 (((0,1099511627776):Per)::a++b) (by rw [J];omega)
 rw [J] at pl;generalize W:ptsP (((0,1099511627776):Per)::a++b)=P at pA pm pl pe;have m0:(0:Int)∈P:=(pm 0).2 ⟨(0,1099511627776),by simp,by decide,.inl rfl⟩
 have mF:(1099511627776:Int)∈P:=(pm _).2 ⟨(0,1099511627776),by simp,by decide,.inr rfl⟩
 have hR:∀ x,x∈P->0<=x/\x<=1099511627776:=fun x hx=>by
  obtain ⟨p,_,hv,h⟩:=(pm x).1 hx;have:=xax.1 hv;omega
 have U:0<P.length:=List.length_pos_of_mem m0;have e0:P[0]=0:=by
  obtain ⟨k,hk,he⟩:=List.getElem_of_mem m0;rcases Nat.eq_zero_or_pos k with rfl|h
  . exact he
  . have:=zB.1 pA 0 k U hk h;have:=hR _ (zo U);omega
 have eF:P[P.length - 1]'(by omega)=1099511627776:=by
  obtain ⟨k,hk,he⟩:=List.getElem_of_mem mF;rcases zJ k (P.length - 1) with h|h
  . have:=zB.1 pA k (P.length - 1) hk (by omega) h
    have:=hR _ (zo (l:=P) (n:=P.length - 1) (by omega))
    omega
  . have:P[P.length - 1]'(by omega)=P[k]:=by congr 1;omega
    rw [this];exact he
 have mm:∀ l:List Per,(∀ x,x∈l->x=(0,1099511627776)\/x∈a\/x∈b)->∀ p,p∈l->pv p=true->p.1∈P/\p.2∈P:=fun l hl p hp hv=>⟨(pm _).2 ⟨p,(Q p).2 (hl p hp),hv,.inl rfl⟩,(pm _).2 ⟨p,(Q p).2 (hl p hp),hv,.inr rfl⟩⟩
 obtain ⟨A,e,a1,a2⟩:=xz5 q a b ha hb P pA (by omega) hR (mm a fun x hx=>.inr (.inl hx)) (mm b fun x hx=>.inr (.inr hx)) (P.length - 1) 0 U [] (by omega) (by rw [e0];exact xv4 _) (zd _)
 rw [eF] at a1;refine ⟨A,?_,a1.span,fun t=>a1.done t,by omega⟩
 have e:Iter (xbj q (a.map encP) (b.map encP) (P.map encN)) ((0:Nat),(1:Int),[])=_:=e;have tt:List.take A.length (A.map encP)=A.map encP:=zi (by simp)
 have la:([AV.agg [AV.int IntKind.i64 (0:Int),AV.int IntKind.i64 (1099511627776:Int)]]++a.map encP).length=1+a.length:=by simp;omega
 have O:([AV.agg [AV.int IntKind.i64 (0:Int),AV.int IntKind.i64 (1099511627776:Int)]]++a.map encP++b.map encP).length=1+a.length+b.length:=by simp;omega
 have V:List.take (1+a.length+b.length) ([AV.agg [AV.int IntKind.i64 (0:Int),AV.int IntKind.i64 (1099511627776:Int)]]++a.map encP++b.map encP)=(((0,1099511627776):Per)::a++b).map encP:=by
  rw [zi (by rw [O];exact zd _)]
  simp [encP]
 have b1:(1+a.length)*16<=140737488355328:=by omega
 have b2:1+a.length<=4611686018427387904:=by omega
 have b3:(1+a.length+b.length)*16<=140737488355328:=by omega
 have b4:1+a.length+b.length<=4611686018427387904:=by omega
 unfold xfW xmU;simp only [xlL,xlM,xlN,xlO,xlP,xfo,xlQ,za,la,O,V,zr,b1,b2,b3,b4,beq_self_eq_true,zn,zS,zH,zd,xab,pe,zk,zh,e,tt,sUF]
theorem xIT (a:List Per) (ha:a.length<=65536):∃ A:List Per,xuX (a.map encP)=some (A.map encP)/\IsSpan A/\(∀ t,inL A t=inL a t)/\A.length<=2*(1+a.length):=by
 obtain ⟨A,e,h1,h2,h3⟩:=xEw 2 a [] ha (by simp)
 refine ⟨A,?_,h1,fun t=>?_,h3⟩
 . unfold xuX xzw;rw [show ([]:List AV)=([]:List Per).map encP from rfl,e];rfl
 . rw [h2];cases hc:inL a t with
   | false=>simp [xd3,xbR,br,sUF]
   | true=>obtain ⟨x,y⟩:=xuj hc;simp [x,y,xbR,br,sUF]
theorem xu3 (a b:List Per) (ha:a.length<=65536) (hb:b.length<=65536):∃ A:List Per,xdu (a.map encP) (b.map encP)=some (A.map encP)/\IsSpan A/\(∀ t,inL A t=(inL a t&&!inL b t))/\A.length<=2*(1+a.length+b.length):=by
 obtain ⟨A,e,h1,h2,h3⟩:=xEw 3 a b ha hb;refine ⟨A,?_,h1,fun t=>?_,h3⟩
 . unfold xdu xmT;rw [e];rfl
 . rw [h2];cases hc:inL a t with
   | false=>simp [xbR,br,sUF]
   | true=>obtain ⟨x,y⟩:=xuj hc;simp [x,y,xbR,br,sUF]
end Go.Sim.M
end
noncomputable section
set_option maxRecDepth 100000
namespace Go.Sim.M
open Go.RowKit
abbrev En:=List UInt8×List Per
def xLS (e:En):AV:=.agg [.str e.1,.list 2 (e.2.map encP)]
def xL9 (s:List UInt8) (n:Int):AV:=.agg [.str s,.int .i64 n]
def ixE:List En->List UInt8->Option Nat
 | [],_=>none
 | e::es,s=>match e.1==s with
  | true=>some 0
  | false=>(ixE es s).map (·+1)
theorem xqp (s:List UInt8):∀ es:List En,mapIx (es.map xLS) s=ixE es s
 | []=>rfl
 | e::es=>by
  rw [zV,mapIx,ixE,xqp s es];rfl
theorem xvT {s:List UInt8}:∀ {es:List En} {i:Nat},ixE es s=some i->i<es.length
 | [],i,h=>by simp [ixE] at h
 | e::es,i,h=>by
  rw [ixE] at h;split at h
  . cases h;simp
  . cases hm:ixE es s with
    | none=>rw [hm] at h;simp at h
    | some j =>
     rw [hm] at h;simp only [Option.map_some,z6] at h;have:=xvT hm;subst h;simp;omega
theorem xEJ {s:List UInt8}:∀ {es:List En} {i:Nat},ixE es s=some i->(es.getD i default).1=s
 | [],i,h=>by simp [ixE] at h
 | e::es,i,h=>by
  rw [ixE] at h;split at h
  . rename_i he;cases h;simpa using he
  . cases hm:ixE es s with
    | none=>rw [hm] at h;simp at h
    | some j =>
     rw [hm] at h;simp only [Option.map_some,z6] at h;subst h;simpa using xEJ hm
def addE:List En->List UInt8->Per->List En
 | [],s,p=>[(s,[p])]
 | e::es,s,p=>match e.1==s with
  | true=>(e.1,e.2++[p])::es
  | false=>e::addE es s p
theorem xAw {s:List UInt8} {p:Per}:∀ {es:List En},ixE es s=none->addE es s p=es++[(s,[p])]
 | [],_=>rfl
 | e::es,h=>by
  rw [ixE] at h;split at h
  . simp at h
  . rename_i he;cases hm:ixE es s with
    | some j=>rw [hm] at h;simp at h
    | none=>rw [addE,he,xAw hm];rfl
theorem xAy {s:List UInt8} {p:Per}:∀ {es:List En} {i:Nat},ixE es s=some i->addE es s p=es.set i (s,(es.getD i default).2++[p])
 | [],i,h=>by simp [ixE] at h
 | e::es,i,h=>by
  rw [ixE] at h;split at h
  . rename_i he;cases h;have e1:e.1=s:=by simpa using he
    rw [addE,he];simp [e1]
  . rename_i he;cases hm:ixE es s with
    | none=>rw [hm] at h;simp at h
    | some j =>
     rw [hm] at h;simp only [Option.map_some,z6] at h;subst h;rw [addE,he,xAy hm];simp
def xLZ:List En->List UInt8->List Per
 | [],_=>[]
 | e::es,s=>match e.1==s with
  | true=>e.2
  | false=>xLZ es s
theorem xzh {s:List UInt8}:∀ {es:List En},ixE es s=none->xLZ es s=[]
 | [],_=>rfl
 | e::es,h=>by
  rw [ixE] at h;split at h
  . simp at h
  . rename_i he;cases hm:ixE es s with
    | some j=>rw [hm] at h;simp at h
    | none=>rw [xLZ,he];exact xzh hm
theorem xzi {s:List UInt8}:∀ {es:List En} {i:Nat},ixE es s=some i->xLZ es s=(es.getD i default).2
 | [],i,h=>by simp [ixE] at h
 | e::es,i,h=>by
  rw [ixE] at h;split at h
  . rename_i he;cases h;rw [xLZ,he];rfl
  . rename_i he;cases hm:ixE es s with
    | none=>rw [hm] at h;simp at h
    | some j =>
     rw [hm] at h;simp only [Option.map_some,z6] at h;subst h;rw [xLZ,he];simpa using xzi hm
theorem xCP (s s':List UInt8) (p:Per):∀ es:List En,xLZ (addE es s p) s'=xLZ es s'++if s==s' then [p] else []
 | []=>by simp only [addE,xLZ];cases s==s'<;>simp
 | e::es=>by
  have ih:=xCP s s' p es;rw [addE];cases he:e.1==s with
  | true =>
   have e1:e.1=s:=by simpa using he
   dsimp only;rw [xLZ,xLZ,e1];cases h:s==s' with
   | true=>simp
   | false=>simp
  | false =>
   dsimp only;rw [xLZ,xLZ,ih];cases h:e.1==s' with
   | false=>rfl
   | true =>
    have e1:e.1=s':=by simpa using h
    have:(s==s')=false:=by
     rw [<-e1,Bool.eq_false_iff];intro hh;rw [show s=e.1 by simpa using hh] at he
     simp at he
    simp [this]
theorem xCb (s:List UInt8) (p:Per):∀ es:List En,(addE es s p).length<=es.length+1
 | []=>by simp [addE]
 | e::es=>by
  have:=xCb s p es;rw [addE];cases e.1==s<;>simp<;>omega
theorem xAx {α:Type} (k:α->List UInt8) (f:α->Per) (s:List UInt8):∀ (l:List α) (es:List En),xLZ (l.foldl (fun es x=>addE es (k x) (f x)) es) s=xLZ es s++(l.filter fun x=>k x==s).map f
 | [],es=>by simp
 | x::l,es=>by
  rw [List.foldl_cons,xAx k f s l,xCP,List.filter_cons];cases k x==s<;>simp
theorem xrS (es:List En) (s:List UInt8):xNf (es.map xLS) s=(ixE es s).isSome:=by unfold xNf;rw [xqp]
theorem xzt {es:List En} {s:List UInt8} {i:Nat} (h:ixE es s=some i):putIx (es.map xLS) s=i:=by unfold putIx;rw [xqp,h]
theorem xvx {s:List UInt8} {n:Int}:∀ {es:List En} {i:Nat},ixE es s=some i->mapIx ((es.map xLS).set i (xL9 s n)) s=some i
 | [],i,h=>by simp [ixE] at h
 | e::es,i,h=>by
  rw [ixE] at h;split at h
  . cases h;simp [mapIx,xL9,AV.cells,isKey]
  . rename_i he;cases hm:ixE es s with
    | none=>rw [hm] at h;simp at h
    | some j =>
     rw [hm] at h;simp only [Option.map_some,z6] at h;subst h;rw [zV,List.set_cons_succ,mapIx,xvx hm];have:isKey s ((xLS e).cells.getD 0 .top)=false:=he;rw [this];rfl
theorem xDx {es:List En} {s:List UInt8} {i:Nat} (h:ixE es s=some i) (n:Int) (p:Per):xM1 ((es.map xLS).set i (xL9 s n)) s (.list 2 ((((es.getD i default).2)++[p]).map encP))=(addE es s p).map xLS:=by
 unfold xM1;rw [xvx h,xAy h];dsimp only;rw [List.set_set,List.map_set];rfl
theorem xFD {es:List En} {s:List UInt8} (h:ixE es s=none) (p:Per):xM1 (es.map xLS) s (.list 2 [encP p])=(addE es s p).map xLS:=by
 unfold xM1;rw [xqp,h,xAw h,zx];rfl
theorem xGZ {es:List En} {s:List UInt8} {i:Nat} (h:ixE es s=some i) {n:Nat}:deadR ((es.map xLS).set i (xL9 s (n:Int))) s (n+1)=true:=by
 have hi:i<((es.map xLS).set i (xL9 s (n:Int))).length:=by rw [y5,za];exact xvT h
 unfold deadR;rw [xvx h];have:((es.map xLS).set i (xL9 s (n:Int))).getD i .top=xL9 s (n:Int):=by
  rw [z7,zL (by simpa using hi)];rfl
 dsimp only;rw [this];show (match deadLen (AV.int .i64 (n:Int)) with|some l0=>decide (l0<n+1)|none=>false)=true
 simp [deadLen]
theorem xGY {es:List En} {s:List UInt8} (h:ixE es s=none) (n:Nat):deadR (es.map xLS) s n=true:=by unfold deadR;rw [xqp,h]
end Go.Sim.M
end
noncomputable section
set_option maxRecDepth 100000
namespace Go.Sim.M
open Go.RowKit Go.Sim.Srt
def Tx (l:List Fc):Prop:=∀ f,f∈l->∀ v,v∈f.r->v.wf/\v.t.length<=1073741824
theorem xHg {r:Row} (h:∀ v,v∈r->v.wf/\v.t.length<=1073741824) (hl:r.length<=60):(keyOf r).length<=17592186044416:=by
 have:=xfh (g:=keyV) (c:=1073741890) r fun v hv=>by
  obtain ⟨h1,h2⟩:=h v hv;have:=xyt h1 (by omega);omega
 unfold keyOf;have h2:1073741890*r.length<=1073741890*60:=Nat.mul_le_mul_left _ hl;omega
theorem xHZ {l:List Fc} (hl:l.length<=1024) (hr:∀ f,f∈l->f.r.length<=60) (ht:Tx l) (q:R20 l):Bld l :=
 ⟨⟨⟨by omega,fun f hf=>by have:=hr f hf;omega⟩,fun f hf=>⟨fun v hv=>⟨(ht f hf v hv).1,by have:=(ht f hf v hv).2;omega⟩,xHg (ht f hf) (hr f hf)⟩,q⟩,hl⟩
theorem xLY.all {l B:List Fc} (h:xLY l B) {Q:Row->Prop} (hq:∀ f,f∈l->Q f.r):∀ f,f∈B->Q f.r:=fun f hf=>by
 obtain ⟨_,g,hg,e⟩:=h.valid hf;rw [<-e];exact hq g hg
theorem xMb.all {l B:List Fc} (h:xMb l B) {Q:Row->Prop} (hq:∀ f,f∈l->Q f.r):∀ f,f∈B->Q f.r:=fun f hf=>by
 obtain ⟨R,L,h1,h2,rfl⟩:=h;obtain ⟨a,b⟩:=xAL hf;obtain ⟨g,g1,g2,_⟩:=(h1.2 _).1 a;rw [<-g2];exact hq g g1
theorem xMb.len {l B:List Fc} (h:xMb l B):B.length<=l.length*l.length:=by
 obtain ⟨R,L,h1,h2,rfl⟩:=h;refine xvV (h1.1.nodup xr6) fun r hr=>?_
 obtain ⟨a,b⟩:=h2 r hr;have:=xuk (ps:=psOf l r) (k:=0) a fun t=>by rw [b,xzs]
 exact Nat.le_trans this (Nat.le_mul_self _)
end Go.Sim.M
end
noncomputable section
set_option maxRecDepth 100000
namespace Go.Sim.M
open Go.RowKit
def life (key:List Int) (pl:List Fc) (K:Row):List Per:=(pl.filter fun y=>decide (pick y.r key=K)).map (·.p)
def xLX (cols key:List Int) (pl:List Fc) (x:Fc) (t:Int):Bool:=!xLU x.r cols&&(hasP x.p t&&!inL (life key pl (pick x.r cols)) t)
def missC (cols key:List Int) (l pl:List Fc) (r:Row) (t:Int):Nat:=l.countP fun x=>decide (x.r=r)&&xLX cols key pl x t
theorem xuN (key:List Int) (pl:List Fc) (K:Row):(life key pl K).length<=pl.length:=by
 unfold life;rw [za];exact List.length_filter_le _ _
structure IsMiss (cols key:List Int) (l pl M:List Fc):Prop where
 cnt:∀ r t,cnt M r t=missC cols key l pl r t
 len:M.length<=2*(2+pl.length)*l.length
 row:∀ f,f∈M->∃ x,x∈l/\f.r=x.r
theorem xAG (L:Fc->List Per) (r:Row) (t:Int):∀ l:List Fc,(∀ x,x∈l->IsSpan (L x))->cnt (l.flatMap fun x=>mk x.r (L x)) r t=l.countP fun x=>decide (x.r=r)&&inL (L x) t
 | [],_=>rfl
 | x::l,h=>by
  rw [zR,xlj,xAG L r t l fun y hy=>h y (by simp [hy]),mk,xEv,xu7 (h x (by simp)),List.countP_cons]
  by_cases hr:x.r=r
  . simp only [hr,if_true,zn,Bool.true_and];omega
  . simp only [hr,if_false,zm,Bool.false_and];simp
theorem xAU {cols key:List Int} {l pl:List Fc} {L:Fc->List Per} (h:∀ x,x∈l->IsSpan (L x)/\(∀ t,inL (L x) t=xLX cols key pl x t)/\(L x).length<=2*(2+pl.length)):IsMiss cols key l pl (l.flatMap fun x=>mk x.r (L x)) where
 cnt r t:=by
  rw [xAG L r t l fun x hx=>(h x hx).1]
  exact List.countP_congr fun x hx=>by rw [(h x hx).2.1 t]
 len:=xfh l fun x hx=>by rw [mk,za];exact (h x hx).2.2
 row f hf:=by
  obtain ⟨x,hx,hf⟩:=y6.1 hf;obtain ⟨p,_,rfl⟩:=zK.1 hf;exact ⟨x,hx,rfl⟩
def xL6 (key:List Int) (pl:List Fc):List En:=pl.foldl (fun es x=>addE es (keyOf (pick x.r key)) x.p) []
theorem xvZ (key:List Int) (pl:List Fc) (K:Row):xLZ (xL6 key pl) (keyOf K)=life key pl K:=by
 unfold xL6 life;rw [xAx (fun x:Fc=>keyOf (pick x.r key)) (fun x=>x.p)]
 show []++_=_;rw [zU];congr 1;refine List.filter_congr fun x _=>?_
 rw [Bool.eq_iff_iff,beq_iff_eq,zl];exact ⟨fun h=>xz9 h,fun h=>by rw [h]⟩
theorem xCc {n:Nat} {s:List UInt8} {p:Per}:∀ {es:List En},(∀ e,e∈es->e.2.length<=n)->∀ e,e∈addE es s p->e.2.length<=n+1
 | [],_,e,he=>by simp only [addE,zv] at he;subst he;simp
 | a::es,h,e,he=>by
  have ha:=h a (by simp)
  rw [addE] at he;cases hc:a.1==s with
  | true =>
   rw [hc] at he;rcases zC.1 he with rfl|he
   . simp;exact ha
   . have:=h e (by simp [he]);omega
  | false =>
   rw [hc] at he;rcases zC.1 he with rfl|he
   . omega
   . exact xCc (fun x hx=>h x (by simp [hx])) e he
theorem xMv {es:List En} {i:Nat} (h:i<es.length):(es.map xLS).getD i .top=xLS (es.getD i default):=by
 rw [xaa _ _ _ h,z7,ze h];rfl
theorem xMF (e:En) (a:AV):AV.agg (List.take 1 (xLS e).cells++[a]++List.drop 2 (xLS e).cells)=AV.agg [.str e.1,a]:=rfl
theorem xMy (e:En):((xLS e).cells.getD 1 .top).toList=e.2.map encP:=rfl
theorem xMw (e:En):xNq 2 ((xLS e).cells.getD 1 .top)=true:=rfl
theorem xMH (e:En):((xLS e).cells.length==2)=true:=rfl
theorem xMJ (ps:List Per) (f t:Int):ps.map encP++[AV.agg [.int .i64 f,.int .i64 t]]=(ps++[(f,t)]).map encP:=by rw [zx];rfl
theorem xIl (s:List UInt8) (n:Int):AV.agg [.str s,.int .i64 n]=xL9 s n:=rfl
theorem xJF (x:Fc) (b:List Per) (hb:b.length<=65536):∃ S:List Per,xee ([x.p].map encP) (b.map encP)=some (S.map encP)/\IsSpan S/\(∀ t,inL S t=(hasP x.p t&&!inL b t))/\S.length<=2*(2+b.length):=by
 obtain ⟨S,e,h1,h2⟩:=xEh [x.p] b (by simp) (by omega)
 obtain ⟨S',e',O,q,J⟩:=xu3 [x.p] b (by simp) hb
 obtain rfl:=xjN h1 O fun t=>by rw [h2,q]
 refine ⟨S,e,h1,fun t=>?_,by simp at J;omega⟩
 rw [h2,xf2,xd3,Bool.or_false]
theorem xIw (x:Fc) (cols:List Int) (ft:List UInt8) (es:List En) (hx:Txt x.r) (hk:cols.length<=1048576) (he:(xLZ es (keyOf (pick x.r cols))).length<=65536) :
  ∃ S:List Per,xfA (x.r.map encV) x.p.1 x.p.2 (cols.map encN) ft (es.map xLS)=some (S.map encP,es.map xLS)/\IsSpan S/\(∀ t,inL S t=(!xLU x.r cols&&(hasP x.p t&&!inL (xLZ es (keyOf (pick x.r cols))) t)))/\S.length<=2*(2+(xLZ es (keyOf (pick x.r cols))).length):=by
 have hr:=xBg cols ft x.r hk;cases hn:xLU x.r cols with
 | true =>
  refine ⟨[],?_,xll,fun t=>by simp [xd3],by simp⟩
  unfold xfA missing1 xnx;rw [hr,hn];rfl
 | false =>
  obtain ⟨S,e,h1,h2,h3⟩:=xJF x (xLZ es (keyOf (pick x.r cols))) he;refine ⟨S,?_,h1,fun t=>by rw [h2];rfl,h3⟩
  have hl:(keyOf (pick x.r cols)).length<=4611686018427387904:=by have:=hx.len hk;omega
  have hs:=xG5 hx hk;unfold xfA missing1 xnx xtI xjL xtJ xhp;cases hi:ixE es (keyOf (pick x.r cols)) with
  | none =>
   rw [xzh hi] at e;have e:xee [AV.agg [.int .i64 x.p.1,.int .i64 x.p.2]] []=_:=e;simp only [hr,hn,hs,hl,zk,zh,Bool.not_false,Bool.not_true,xab,xac,zn,xrS,hi,Option.isSome_none,e,Option.map_some,sUF]
  | some i =>
   rw [xzi hi] at e;have e:xee [AV.agg [.int .i64 x.p.1,.int .i64 x.p.2]] _=_:=e;have tl:((es.getD i default).2.map encP).take (es.getD i default).2.length=(es.getD i default).2.map encP:=zi (by simp)
   simp only [hr,hn,hs,hl,zk,zh,Bool.not_false,Bool.not_true,xab,xac,zn,xrS,hi,xzt hi,xMv (xvT hi),xvT hi,xMy,xMw,za,zr,zH,zd,beq_self_eq_true,zS,Bool.true_and,tl,e,Option.map_some,sUF]
theorem xJK (l f0:List AV) (f1 p0:List UInt8) (p1:List AV) (key:List Int) (p3 p4:List AV) (hk:key.length<=1048576) (pl:List Fc) (U:pl.length<=1048576) (ht:∀ y,y∈pl->Txt y.r) :
  Iter (xa2 l f0 f1 p0 p1 (key.map encN) p3 p4 (pl.map encF) ((pl.length:Nat):Int)) ((0:Int),[])=some ((xL6 key pl).map xLS):=by
 refine xs8 pl (fun es x=>addE es (keyOf (pick x.r key)) x.p) (fun n b=>((n:Int),b.map xLS)) (fun n b=>b.length<=n/\∀ e,e∈b->e.2.length<=n) (fun n h b hb=>?_) pl.length 0 [] (by omega) (by simp) ?_
 . have h1:(n:Int)<(pl.length:Int):=by omega
   have gf:(pl.map encF).getD n .top=encF pl[n]:=xaa _ _ _ h;have hx:=ht pl[n] (zo h);have O:=xJD p0 p1 p3 p4 key pl[n].r hk;have hs:=xG5 hx hk;have hl:(keyOf (pick pl[n].r key)).length<=4611686018427387904:=by have:=hx.len hk;omega
   refine ⟨?_,?_,xCc hb.2⟩
   . generalize hK:keyOf (pick pl[n].r key)=K at *;cases hi:ixE b K with
     | none =>
      have m1:b.length<4611686018427387904:=by have:=hb.1;omega
      have d1:=xGY hi 1;have mp:=xFD hi pl[n].p;have mp:xM1 (b.map xLS) K (.list 2 [AV.agg [.int .i64 pl[n].p.1,.int .i64 pl[n].p.2]])=_:=mp;simp only [xa2,xdU,xb9,xca,xat,xae,xdt,xbt,sBU,h,h1,gf,cF0,cF1,cF2,sF0,sF1,sF2,lF,sF12,sF02,O,hs,hl,xrS,hi,Option.isSome_none,m1,d1,mp,xLP (n:=n) (by omega)]
     | some i =>
      have q:=xvT hi;have m1:b.length<4611686018427387904:=by have:=hb.1;omega
      have Q:(b.getD i default).2.length<=n:=hb.2 _ (by rw [z7,ze q];exact zo q)
      have r1:((b.getD i default).2.length+1)*16<=140737488355328:=by omega
      have r2:(b.getD i default).2.length+1<=4611686018427387904:=by omega
      have J:=xEJ hi;have d1:=xGZ hi (n:=(b.getD i default).2.length);have mp:=xDx hi (((b.getD i default).2.length:Nat):Int) pl[n].p;simp only [xa2,xdU,xb9,xca,xat,xae,xdt,xbt,sBU,h,h1,gf,cF0,cF1,cF2,sF0,sF1,sF2,lF,sF12,sF02,O,hs,hl,xrS,hi,xzt hi,xMv q,q,xMy,xMw,xMH,xMF,J,xIl,xMJ,z8,zj,y5,r1,r2,m1,d1,xLP (n:=n) (by omega)]
      rw [<-mp]
   . have:=xCb (keyOf (pick pl[n].r key)) pl[n].p b;omega
 . simp only [zr];simp only [xa2,xdU,xb9,xca,xat,xae,xdt,xbt,za,zy,zm,xac,sUF];rfl
theorem xJL (m0:List AV) (m1:List UInt8) (q:List AV) (O J:Int) (row:Row) (x1 x2:Int) (S:List Per) (hS:S.length<=1048576) (es:List AV) (D:List Fc) (hD:D.length<=1048576) :
  Iter (xbH m0 m1 q O J (S.map encP) ((S.length:Nat):Int)) (D.length,(0:Int),es,D.map encF,row.map encV,x1,x2)=some ((D++mk row S).length,es,(D++mk row S).map encF):=by
 have:=xkP (step:=xbH m0 m1 q O J (S.map encP) ((S.length:Nat):Int)) S (fun p=>[(⟨row,p⟩:Fc)]) (fun n D=>(D.length,(n:Int),es,D.map encF,row.map encV,x1,x2)) (fun D=>(D.length,es,D.map encF)) D 1 (fun _ _=>by simp) (fun n h D' Q=>by
  have h1:(n:Int)<(S.length:Int):=by omega
  have m1:(D'.length+1)*40<=140737488355328:=by omega
  have m2:D'.length+1<=4611686018427387904:=by omega
  have gf:(S.map encP).getD n .top=encP S[n]:=xaa _ _ _ h;simp only [xbH,xfw,sBU,h,h1,gf,cP0,cP1,lP,sP,sP0,sP1,m1,m2,xLP (n:=n) (by omega)]
  simp [encF]) (fun D'=>by
  simp only [xbH,xfw,zy,zm,xac,sUF])
 rw [xMc] at this;exact this
theorem xC4 (cols key:List Int) (ft p0:List UInt8) (p1 p3 p4:List AV) (hc:cols.length<=1048576) (hk:key.length<=1048576) (l pl:List Fc) (hl:l.length<=14) (Q:pl.length<=34) (hr:∀ f,f∈l->f.r.length<=60) (ht:∀ f,f∈l->Txt f.r) (O:∀ f,f∈pl->Txt f.r) :
  ∃ B M:List Fc,xe1 (cols.map encN) ft (l.map encF) p0 p1 (key.map encN) p3 p4 (pl.map encF)=some (B.map encF)/\xLY M B/\IsMiss cols key l pl M:=by
 have e0:=xJK (l.map encF) (cols.map encN) ft p0 p1 key p3 p4 hk pl (by omega) O
 have h1:∀ x,x∈l->∃ S:List Per,xfA (x.r.map encV) x.p.1 x.p.2 (cols.map encN) ft ((xL6 key pl).map xLS)=some (S.map encP,(xL6 key pl).map xLS)/\IsSpan S/\(∀ t,inL S t=xLX cols key pl x t)/\S.length<=2*(2+pl.length):=fun x hx=>by
  have ll:=xuN key pl (pick x.r cols);obtain ⟨S,s1,s2,s3,s4⟩:=xIw x cols ft (xL6 key pl) (ht x hx) hc (by rw [xvZ];omega)
  rw [xvZ] at s4;exact ⟨S,s1,s2,fun t=>by rw [s3,xvZ];rfl,by omega⟩
 obtain ⟨L,hL⟩:=xtA h1;have hM:IsMiss cols key l pl (l.flatMap fun x=>mk x.r (L x)):=xAU fun x hx=>(hL x hx).2
 have e1:=xkP (step:=xbG (cols.map encN) ft (l.map encF) ((l.length:Nat):Int)) l (fun x=>mk x.r (L x)) (fun n D=>(D.length,(n:Int),(xL6 key pl).map xLS,D.map encF)) (fun D=>(D.length,D.map encF)) [] 72 (fun x hx=>by
  have:=(hL x hx).2.2.2;rw [mk,za];omega) (fun n h D hD=>by
  have h1:(n:Int)<(l.length:Int):=by omega
  have gf:(l.map encF).getD n .top=encF l[n]:=xaa _ _ _ h;obtain ⟨s1,s2,s3,s4⟩:=hL l[n] (zo h);rw [List.length_nil,zH] at hD;have e2:=xJL (cols.map encN) ft (l.map encF) ((l.length:Nat):Int) (n:Int) l[n].r l[n].p.1 l[n].p.2 (L l[n]) (by omega) ((xL6 key pl).map xLS) D (by omega)
  simp only [xbG,xfv,xhX,xhY,xhZ,xhx,xh0,xh1,sBU,h,h1,gf,cF0,cF1,cF2,sF0,sF1,sF2,lF,sF12,sF02,s1,e2,xLP (n:=n) (by omega)]) (fun D=>by
  simp only [xbG,xfv,zy,zm,xac,sUF])
 rw [zU] at e1;generalize l.flatMap (fun x=>mk x.r (L x))=M at e1 hM
 have J:=hM.len;have q:M.length<=1024:=Nat.le_trans J (Nat.le_trans (Nat.mul_le_mul (Nat.mul_le_mul_left 2 (Nat.add_le_add_left Q 2)) hl) (by decide))
 have hB:Bld M:=xHZ q (fun f hf=>by
  obtain ⟨x,hx,e⟩:=hM.row f hf;rw [e];exact hr x hx) (fun f hf v hv=>by
  obtain ⟨x,hx,e⟩:=hM.row f hf;rw [e] at hv;have:=ht x hx v hv;exact ⟨this.1,by omega⟩) ((R20.few (l:=l) (by omega)).of hM.row)
 obtain ⟨B,b1,b2⟩:=xGL M hB;refine ⟨B,M,?_,b2,hM⟩;have e1:Iter (xbG (cols.map encN) ft (l.map encF) ((l.length:Nat):Int)) ((0:Nat),(0:Int),(xL6 key pl).map xLS,[])=_:=e1;have tt:List.take M.length (M.map encF)=M.map encF:=zi (by simp)
 unfold xe1 xlK;simp only [xkI,xkJ,xkK,xkL,xkM,za,e0,e1,b1,zk,zh,xab,zH,zd,zn,zS,zr,tt,sUF]
end Go.Sim.M
end
noncomputable section
set_option maxRecDepth 100000
namespace Go.Sim.M
open Go.RowKit Go.Sim.Srt
def dk (S:List Row):Nat->List Row
 | 0=>[]
 | k+1=>dk S k++(if k=0\/S[k - 1]?≠S[k]? then S[k]?.toList else [])
theorem xCr (S:List Row):∀ k,(dk S k).length<=k
 | 0=>zd _
 | k+1=>by
  have:=xCr S k;unfold dk;rw [z8];have:(if k=0\/S[k - 1]?≠S[k]? then S[k]?.toList else []).length<=1:=by
   split
   . cases S[k]?<;>simp
   . simp
  omega
theorem xJa (S:List Row) (hs:Sorted cmpR S):∀ k,k<=S.length->Strict cmpR (dk S k)/\∀ x,x∈dk S k↔x∈S.take k
 | 0,_=>⟨List.Pairwise.nil,fun x=>by simp [dk]⟩
 | k+1,hk=>by
  obtain ⟨h1,h2⟩:=xJa S hs k (by omega)
  have J:k<S.length:=by omega
  have tk:S.take (k+1)=S.take k++[S[k]]:=by rw [List.take_add_one,ze J];rfl
  unfold dk;rw [ze J,tk];by_cases hc:k=0\/S[k - 1]?≠some S[k]
  . rw [if_pos hc];refine ⟨List.pairwise_append.2 ⟨h1,List.pairwise_singleton _ _,fun x hx y hy=>?_⟩,fun x=>by rw [zG,zG,h2];rfl⟩
    simp at hy;subst hy;obtain ⟨i,hi,rfl⟩:=List.mem_take_iff_getElem.1 ((h2 x).1 hx);have Q:k≠0:=by omega
    have q:k - 1<S.length:=by omega
    have hne:S[k - 1]≠S[k]:=fun e=>by
     rcases hc with hc|hc
     . exact Q hc
     . exact hc (by rw [ze q,e])
    have c1:cmpR S[k - 1] S[k]<=0:=zB.1 hs _ _ q J (by omega)
    have c2:cmpR S[k - 1] S[k]<0:=by
     rcases Int.lt_or_eq_of_le c1 with c|c
     . exact c
     . exact absurd (xni c) hne
    rcases zJ i (k - 1) with O|O
    . have c3:cmpR S[i] S[k - 1]<=0:=zB.1 hs _ _ (by omega) q O
      exact xr6.lt2 c3 c2
    . have:i=k - 1:=by omega
      subst this;exact c2
  . rw [if_neg hc,zD];refine ⟨h1,fun x=>?_⟩
    rw [h2,zG,zv];refine ⟨Or.inl,fun hh=>hh.elim id fun hx=>?_⟩
    have Q:k≠0:=fun e=>hc (.inl e)
    have he:S[k - 1]?=some S[k]:=by
     by_cases e:S[k - 1]?=some S[k]
     . exact e
     . exact absurd (.inr e) hc
    have q:k - 1<S.length:=by omega
    rw [ze q,z6] at he;rw [hx,<-he];exact List.mem_take_iff_getElem.2 ⟨k - 1,by omega,rfl⟩
theorem xMC {n:Nat} (h:n<=1048576):(n+1)*24<=140737488355328/\n+1<=4611686018427387904:=by omega
theorem xDO (S:List Row) (hS:S.length<=1048576) (hr:∀ x,x∈S->x.length<=maxLen):Iter (xbW (S.map encR)) ((0:Nat),(0:Int),[])=some ((dk S S.length).length,(dk S S.length).map encR):=by
 refine xkO (fun k=>(((dk S k).length,((k:Nat):Int),(dk S k).map encR):Nat×Int×List AV)) S.length _ (fun k hk=>?_) ?_ S.length 0 (by omega)
 . have i1:(k:Int)<(S.length:Int):=by omega
   have gf:(S.map encR).getD k .top=encR S[k]:=xaa _ _ _ hk;have dl:=xCr S k;obtain ⟨m1,m2⟩:=xMC (n:=(dk S k).length) (by omega)
   cases k with
   | zero =>
    have:dk S (0+1)=[S[0]]:=by simp [dk,ze hk]
    rw [this];have i0:(((0:Nat):Int)==0)=true:=rfl;simp only [xbW,xgi,xdy,xfI,xfJ,xfK,sBU,hk,i0,i1,gf,cR0,sR0,m1,m2,xLP (n:=0) (by omega)]
    rfl
   | succ j =>
    have hj:j<S.length:=by omega
    have i0:(((j+1:Nat):Int)==0)=false:=by simp;omega
    have i2:(j:Int)<(S.length:Int):=by omega
    have gj:(S.map encR).getD j .top=encR S[j]:=xaa _ _ _ hj;have ee:=xLe S[j] S[j+1] (hr _ (zo hj));have wj:IntKind.i64.wrap (((j+1:Nat):Int) - 1)=(j:Int):=by rw [xby (by omega) (by omega)];omega
    have sd:dk S (j+1+1)=dk S (j+1)++(if S[j]=S[j+1] then [] else [S[j+1]]):=by
     show dk S (j+1)++_=_;congr 1;rw [show j+1 - 1=j by omega,ze hj,ze hk]
     by_cases e:S[j]=S[j+1]
     . simp [e]
     . simp [e]
    rw [sd];simp only [xbW,xgi,xdy,xfI,xfJ,xfK,sBU,hk,hj,i0,i1,i2,gf,gj,cR0,sR0,ee,wj,cmp0,m1,m2,xLP (n:=j+1) (by omega)]
    by_cases e:S[j]=S[j+1]
    . simp [e,xac,sUF]
    . simp [e,xab,encR,sUF]
 . simp only [xbW,xgi,xdy,za,zy,zm,xac,sUF]
theorem xDP (l:List Row) (h:xL4 l):∃ D,xpt (l.map encR)=some (D.map encR)/\Strict cmpR D/\(∀ x,x∈D↔x∈l)/\D.length<=l.length:=by
 obtain ⟨S,e1,p1,s1⟩:=xIS l h;have hS:=h.perm p1;obtain ⟨a1,a2⟩:=xJa S s1 S.length (zd _);have e2:=xDO S hS.1 (fun x hx=>by have:=hS.2 x hx;unfold maxLen;omega)
 refine ⟨dk S S.length,?_,a1,fun x=>by rw [a2,y7,p1.mem_iff],by rw [<-p1.length_eq];exact xCr _ _⟩
 have tt:List.take (dk S S.length).length ((dk S S.length).map encR)=(dk S S.length).map encR:=zi (by simp)
 unfold xpt xsm;simp only [xlU,xlV,xlW,e1,e2,zk,zh,xab,zH,za,zd,zn,zS,zr,tt,sUF]
def cF (f g:Fc):Int:=cmpR f.r g.r
theorem xH8:Cm cF:=xr6.on (e:=fun f:Fc=>f.r)
theorem xFm (a b:List Fc) (ha:a.length+b.length<=1048576) (Y:∀ x,x∈a->x.r.length<=1048576) (V:∀ x,x∈b->x.r.length<=1048576) (sa:Sorted cF a) (sb:Sorted cF b) :
  ∀ (n i k:Nat) (D:List Fc),(a.length - i)+(b.length - k)=n->i<=a.length->k<=b.length->D.length=i+k ->
   ∃ r,Iter (xbd (List.map encF a) (List.map encF b)) (D.length,(i:Int),(k:Int),List.map encF D)=some (a.length+b.length,List.map encF (D++r))/\r.Perm (a.drop i++b.drop k)/\Sorted cF r:=by
 intro n;induction n with
 | zero =>
  intro i k D hn hi hk hD;have h1:¬ (i:Int)<(a.length:Int):=by omega
  have h2:¬ (k:Int)<(b.length:Int):=by omega
  refine ⟨[],xad ?_,?_,by simp [Sorted]⟩
  . simp only [xbd,xd8,xb4,xb5,xb6,xdE,xdF,xdG,xcu,xcv,  za,xaC,h1,h2,zm,zT,if_false,zD,sUF];rw [show D.length=a.length+b.length by omega]
  . rw [zq (by omega),zq (by omega)];exact List.Perm.refl _
 | succ n ih =>
  intro i k D hn hi hk hD;have W:(List.map encF D).length=D.length:=by simp
  have m1:(D.length+1)*40<=140737488355328:=by omega
  have m2:D.length+1<=4611686018427387904:=by omega
  have snoc:∀ x:Fc,List.map encF D++[AV.agg [AV.list 3 (x.r.map encV),AV.int .i64 x.p.1,AV.int .i64 x.p.2]]=List.map encF (D++[x]):=fun x=>by simp [encF]
  have wi:=xjs (n:=i) (show i+1<=maxLen by unfold maxLen;omega)
  have wk:=xjs (n:=k) (show k+1<=maxLen by unfold maxLen;omega)
  by_cases J:i<a.length
  . have i1:(i:Int)<(a.length:Int):=by omega
    have i2:((i:Int)==(a.length:Int))=false:=by simp;omega
    have hx:a[i]?=some a[i]:=by simp [J]
    by_cases q:k<b.length
    . have k1:(k:Int)<(b.length:Int):=by omega
      have hy:b[k]?=some b[k]:=by simp [q]
      have e:=xp5 b[k].r a[i].r (by have:=V b[k] (zo q);unfold maxLen;omega)
      by_cases hc:cmpR b[k].r a[i].r<0
      . obtain ⟨r,h1,h2,h3⟩:=ih i (k+1) (D++[b[k]]) (by omega) hi (by omega) (by simp;omega)
        refine ⟨b[k]::r,?_,?_,?_⟩
        . refine xdb (s':=((D++[b[k]]).length,(i:Int),((k+1:Nat):Int),List.map encF (D++[b[k]]))) ?_ (by rw [h1];simp)
          simp only [xbd,xd8,xb4,xb5,xb6,xdE,xdF,xdG,xcu,xcv,  za,xaC,i1,i2,k1,J,q,zn,zT,if_false,if_true,zN,gR hx,gR hy,cF0,cF1,cF2,sF0,sF1,sF2,lF,sF12,sF02,e,zk,zh,hc,Int.natCast_nonneg,zS,beq_self_eq_true,m1,m2,snoc,wk,sUF];simp
        . rw [xaG q];exact (h2.cons _).trans List.perm_middle.symm
        . refine zM.2 ⟨fun z hz=>?_,h3⟩
          rcases zG.1 (h2.mem_iff.1 hz) with hz|hz
          . rw [xaG J] at hz;rcases zC.1 hz with rfl|hz
            . exact Int.le_of_lt hc
            . obtain ⟨j,hj,rfl⟩:=zp.1 hz;have Q:i+1+j<a.length:=by simp at hj;omega
              have:=xdk sa (i:=i) (j:=i+1+j) (by omega) Q
              rw [List.getElem_drop];exact xH8.trans _ _ _ (Int.le_of_lt hc) this
          . obtain ⟨j,hj,rfl⟩:=zp.1 hz;have O:k+1+j<b.length:=by simp at hj;omega
            rw [List.getElem_drop];exact xdk sb (i:=k) (j:=k+1+j) (by omega) O
      . obtain ⟨r,h1,h2,h3⟩:=ih (i+1) k (D++[a[i]]) (by omega) (by omega) hk (by simp;omega)
        refine ⟨a[i]::r,?_,?_,?_⟩
        . refine xdb (s':=((D++[a[i]]).length,((i+1:Nat):Int),(k:Int),List.map encF (D++[a[i]]))) ?_ (by rw [h1];simp)
          simp only [xbd,xd8,xb4,xb5,xb6,xdE,xdF,xdG,xcu,xcv,  za,xaC,i1,i2,k1,J,q,zn,zT,if_false,if_true,zN,gR hx,gR hy,cF0,cF1,cF2,sF0,sF1,sF2,lF,sF12,sF02,e,zk,zh,hc,zm,Int.natCast_nonneg,zS,beq_self_eq_true,m1,m2,snoc,wi,sUF];simp
        . rw [xaG J];exact h2.cons _
        . refine zM.2 ⟨fun z hz=>?_,h3⟩
          have U:cF a[i] b[k]<=0:=xH8.ord.le_of_not hc;rcases zG.1 (h2.mem_iff.1 hz) with hz|hz
          . obtain ⟨j,hj,rfl⟩:=zp.1 hz;have Q:i+1+j<a.length:=by simp at hj;omega
            rw [List.getElem_drop];exact xdk sa (i:=i) (j:=i+1+j) (by omega) Q
          . rw [xaG q] at hz;rcases zC.1 hz with rfl|hz
            . exact U
            . obtain ⟨j,hj,rfl⟩:=zp.1 hz;have O:k+1+j<b.length:=by simp at hj;omega
              rw [List.getElem_drop];exact xH8.trans _ _ _ U (xdk sb (i:=k) (j:=k+1+j) (by omega) O)
    . have k1:¬ (k:Int)<(b.length:Int):=by omega
      obtain ⟨r,h1,h2,h3⟩:=ih (i+1) k (D++[a[i]]) (by omega) (by omega) hk (by simp;omega)
      refine ⟨a[i]::r,?_,?_,?_⟩
      . refine xdb (s':=((D++[a[i]]).length,((i+1:Nat):Int),(k:Int),List.map encF (D++[a[i]]))) ?_ (by rw [h1];simp)
        simp only [xbd,xd8,xb4,xb5,xb6,xdE,xdF,xdG,xcu,xcv,  za,xaC,i1,i2,k1,J,zn,zm,zT,if_false,if_true,zN,gR hx,cF0,cF1,cF2,sF0,sF1,sF2,lF,sF12,sF02,Int.natCast_nonneg,zS,beq_self_eq_true,m1,m2,snoc,wi,sUF];simp
      . rw [xaG J];exact h2.cons _
      . refine zM.2 ⟨fun z hz=>?_,h3⟩
        rw [zq (show b.length<=k by omega),zD] at h2
        obtain ⟨j,hj,rfl⟩:=zp.1 (h2.mem_iff.1 hz);have Q:i+1+j<a.length:=by simp at hj;omega
        rw [List.getElem_drop];exact xdk sa (i:=i) (j:=i+1+j) (by omega) Q
  . have i1:¬ (i:Int)<(a.length:Int):=by omega
    have q:k<b.length:=by omega
    have k1:(k:Int)<(b.length:Int):=by omega
    have i2:((i:Int)==(a.length:Int))=true:=by simp;omega
    have hy:b[k]?=some b[k]:=by simp [q]
    obtain ⟨r,h1,h2,h3⟩:=ih i (k+1) (D++[b[k]]) (by omega) hi (by omega) (by simp;omega)
    refine ⟨b[k]::r,?_,?_,?_⟩
    . refine xdb (s':=((D++[b[k]]).length,(i:Int),((k+1:Nat):Int),List.map encF (D++[b[k]]))) ?_ (by rw [h1];simp)
      simp only [xbd,xd8,xb4,xb5,xb6,xdE,xdF,xdG,xcu,xcv,  za,xaC,i1,i2,k1,q,zn,zm,zT,if_false,if_true,zN,gR hy,cF0,cF1,cF2,sF0,sF1,sF2,lF,sF12,sF02,Int.natCast_nonneg,zS,beq_self_eq_true,m1,m2,snoc,wk,sUF];simp
    . rw [xaG q];exact (h2.cons _).trans List.perm_middle.symm
    . refine zM.2 ⟨fun z hz=>?_,h3⟩
      rw [zq (show a.length<=i by omega),zU] at h2
      obtain ⟨j,hj,rfl⟩:=zp.1 (h2.mem_iff.1 hz);have O:k+1+j<b.length:=by simp at hj;omega
      rw [List.getElem_drop];exact xdk sb (i:=k) (j:=k+1+j) (by omega) O
theorem xFn (a b:List Fc) (ha:a.length+b.length<=1048576) (J:∀ x,x∈a->x.r.length<=1048576) (q:∀ x,x∈b->x.r.length<=1048576) (sa:Sorted cF a) (sb:Sorted cF b) :
  ∃ r,xsI (a.map encF) (b.map encF)=some (r.map encF)/\r.Perm (a++b)/\Sorted cF r:=by
 obtain ⟨r,h1,h2,h3⟩:=xFm a b ha J q sa sb _ 0 0 [] rfl (zQ _) (zQ _) rfl;simp only [zr,zU] at h1 h2;have h1':Iter (xbd (a.map encF) (b.map encF)) (0,(0:Int),(0:Int),[])=some (r.length,r.map encF):=by
  rw [h2.length_eq,z8];exact h1
 refine ⟨r,?_,h2,h3⟩;unfold xsI xut;simp only [xoG,xoH,xoI,xoJ,h1',sOO,sUF]
theorem xDR:∀ (f:Nat) (l:List Fc),l.length<=2 ^ f->Few l->∃ r,xcQ (f+1) (List.map encF l)=some (List.map encF r)/\r.Perm l/\Sorted cF r:=by
 intro f;induction f with
 | zero =>
  intro l hl hs;have h1:(l.length:Int)<2:=by simp at hl;omega
  refine ⟨l,?_,List.Perm.refl _,?_⟩
  . show xfj (xcQ 0) (List.map encF l)=_;simp only [xfj,xkk,za,h1,zn,xab,sUF]
  . match l,hl with
    | [],_=>exact List.Pairwise.nil
    | [x],_=>exact List.pairwise_singleton _ _
 | succ f ih =>
  intro l hl hs;by_cases h2:l.length<=1
  . have h1:(l.length:Int)<2:=by omega
    refine ⟨l,?_,List.Perm.refl _,?_⟩
    . show xfj (xcQ (f+1)) (List.map encF l)=_;simp only [xfj,xkk,za,h1,zn,xab,sUF]
    . match l,h2 with
      | [],_=>exact List.Pairwise.nil
      | [x],_=>exact List.pairwise_singleton _ _
  . have hp:2 ^ (f+1)=2*2 ^ f:=by rw [Nat.pow_succ];omega
    have q:=hs.1;obtain ⟨m,hm⟩:∃ m,m=l.length / 2:=⟨_,rfl⟩;have st:Few (l.take m):=⟨by simp;omega,fun x hx=>hs.2 x (List.mem_of_mem_take hx)⟩
    have sd:Few (l.drop m):=⟨by simp;omega,fun x hx=>hs.2 x (List.mem_of_mem_drop hx)⟩
    obtain ⟨r1,e1,p1,s1⟩:=ih (l.take m) (by simp;omega) st
    obtain ⟨r2,e2,p2,s2⟩:=ih (l.drop m) (by simp;omega) sd
    have l1:=p1.length_eq;have l2:=p2.length_eq;simp only [zt,y4] at l1 l2;obtain ⟨r,a1,a3,a4⟩:=xFn r1 r2 (by omega) (fun x hx=>st.2 x (p1.mem_iff.1 hx)) (fun x hx=>sd.2 x (p2.mem_iff.1 hx)) s1 s2
    refine ⟨r,?_,a3.trans ((p1.append p2).trans (by rw [List.take_append_drop])),a4⟩
    have w:IntKind.i64.wrap ((l.length:Int).tdiv 2)=(m:Int):=by
     rw [Int.tdiv_eq_ediv_of_nonneg (by omega)]
     exact w64 (by omega) (by omega)
    have t1:List.take m (List.map encF l)=List.map encF (l.take m):=by simp
    have t2:List.take (l.length - m) (List.drop m (List.map encF l))=List.map encF (l.drop m):=by
     rw [zi (by simp)];simp
    have d0:¬ (l.length:Int)<2:=by omega
    have d2:(m:Int)<=(l.length:Int):=by omega
    show xfj (xcQ (f+1)) (List.map encF l)=_;simp only [xfj,xkk,xm2,xm3,xm4,  za,d0,xac,w,zN,Nat.sub_zero,zr,t1,t2,e1,e2,zk,zh,xab,d2,zn,zm,Int.natCast_nonneg,zS,a1,sUF]
theorem xIR (l:List Fc) (h:Few l):∃ D,xrW (l.map encF)=some (D.map encR)/\xL1 l D:=by
 have e0:=xwd l h.1;have hf:(l.flatMap fun f=>if pv f.p=true then [f.r] else []).length<=1*l.length:=xfh l fun f _=>by split<;>simp
 have hm:∀ x,x∈(l.flatMap fun f=>if pv f.p=true then [f.r] else [])↔∃ f,f∈l/\f.r=x/\pv f.p=true:=fun x=>by
  rw [y6];constructor
  . rintro ⟨f,hf,hx⟩;split at hx
    . simp at hx;exact ⟨f,hf,hx.symm,by assumption⟩
    . simp at hx
  . rintro ⟨f,hf,e,hv⟩;exact ⟨f,hf,by rw [if_pos hv];simp [e]⟩
 have q:xL4 (l.flatMap fun f=>if pv f.p=true then [f.r] else []):=⟨by have:=h.1;omega,fun x hx=>by
  obtain ⟨f,hf,e,_⟩:=(hm x).1 hx;rw [<-e];exact h.2 f hf⟩
 obtain ⟨D,d1,d2,d3,d4⟩:=xDP _ q;refine ⟨D,?_,d2,fun r=>by rw [d3,hm]⟩
 generalize (l.flatMap fun f=>if pv f.p=true then [f.r] else [])=w at e0 d1
 have tt:List.take w.length (w.map encR)=w.map encR:=zi (by simp)
 unfold xrW xwe;simp only [xq6,xq7,xq8,xq9,e0,zk,zh,xab,zH,za,zd,zn,zS,zr,tt,d1,sUF]
theorem xEx (S:List Fc) (hS:S.length<=1048576) (hr:∀ f,f∈S->f.r.length<=maxLen) (on i:Nat) (hi:i<S.length) (xs:List AV):∀ (d k:Nat),k+d=S.length->i<=k->∃ j:Nat,k<=j/\j<=S.length/\(∀ t (h:t<S.length),k<=t->t<j->S[t].r=S[i].r)/\(∀ h:j<S.length,S[j].r≠S[i].r) /\
  Iter (xbN (S.map encF) on (i:Int)) ((k:Int),xs)=some ((j:Int),xs)
 | 0,k,h,hik=>by
  obtain rfl:k=S.length:=by omega
  refine ⟨S.length,zd _,zd _,fun t h1 h2 h3=>by omega,fun h=>by omega,xad ?_⟩
  simp only [xbN,xhL,za,zy,zm,xac,sUF]
 | d+1,k,h,hik=>by
  have hk:k<S.length:=by omega
  have i1:(k:Int)<(S.length:Int):=by omega
  have i2:(i:Int)<(S.length:Int):=by omega
  have gk:(S.map encF).getD k .top=encF S[k]:=xaa _ _ _ hk;have gi:(S.map encF).getD i .top=encF S[i]:=xaa _ _ _ hi;have ec:=xp5 S[k].r S[i].r (hr _ (zo hk));by_cases he:S[k].r=S[i].r
  . obtain ⟨j,a1,a2,a3,a4,a5⟩:=xEx S hS hr on i hi xs d (k+1) (by omega) (by omega)
    refine ⟨j,by omega,a2,fun t h1 h2 h3=>?_,a4,(xam (s':=(((k+1:Nat):Int),xs)) ?_).trans a5⟩
    . by_cases q:t=k
      . subst q;exact he
      . exact a3 t h1 (by omega) h3
    . have dd:decide (S[k].r=S[i].r)=true:=decide_eq_true he;simp only [xbN,xhL,sBU,i1,i2,hk,hi,gk,gi,cF0,cF1,cF2,sF0,sF1,sF2,lF,sF12,sF02,ec,cmp0,dd,xLP (n:=k) (by omega)]
  . refine ⟨k,zd _,by omega,fun t h1 h2 h3=>by omega,fun _=>he,xad ?_⟩
    simp only [xbN,xhL,sBU,i1,i2,hk,hi,gk,gi,cF0,cF1,cF2,sF0,sF1,sF2,lF,sF12,sF02,ec,cmp0,he,zm]
structure RGI (S:List Fc) (i:Nat) (G:List Grp):Prop where
 st:Strict cmpR (G.map (·.1))
 mem:∀ r,r∈G.map (·.1)↔∃ f,f∈S.take i/\f.r=r/\pv f.p=true
 ps:∀ g,g∈G->StepI (fun t=>((cnt S g.1 t:Nat):Int)) 1099511627776 g.2/\g.2.length<=2*S.length+1
 len:G.length<=i
 bd:∀ a b (ha:a<S.length) (hb:b<S.length),a<i->i<=b->cmpR S[a].r S[b].r<0
theorem xME {n:Nat} (h:n<=1048576):(n+1)*48<=140737488355328/\n+1<=4611686018427387904:=by omega
theorem xAR (S:List Fc) (hS:S.length<=262144) (hr:∀ f,f∈S->f.r.length<=1048576) (hs:Sorted cF S):∀ (c i:Nat) (G:List Grp),S.length - i<=c->i<=S.length->RGI S i G ->
  ∃ G',Iter (xd0 (S.map encF)) (G.length,(i:Int),G.map encG)=some (G'.length,G'.map encG)/\RGI S S.length G'
 | c,i,G,hc,hi,hG=>by
  by_cases ae:i=S.length
  . subst ae;refine ⟨G,xad ?_,hG⟩;simp only [xd0,xl6,za,zy,zm,xac,sUF]
  . have O:i<S.length:=by omega
    obtain ⟨j,a1,a2,a3,a4,a5⟩:=xEx S (by omega) (fun f hf=>by have:=hr f hf;unfold maxLen;omega) G.length i O (G.map encG) (S.length - i) i (by omega) (zd _)
    have ab:i<j:=by
     rcases zJ i j with h|h
     . exact h
     . obtain rfl:j=i:=by omega
       exact absurd rfl (a4 O)
    have run_mem:∀ f,f∈(S.drop i).take (j - i)↔∃ t,∃ h:t<S.length,i<=t/\t<j/\S[t]=f:=fun f=>by
     rw [List.mem_take_iff_getElem];constructor
     . rintro ⟨m,hm,rfl⟩;rw [y4] at hm;exact ⟨i+m,by omega,by omega,by omega,by rw [List.getElem_drop]⟩
     . rintro ⟨t,h,h1,h2,rfl⟩;refine ⟨t - i,by rw [y4];omega,?_⟩
       rw [List.getElem_drop];congr 1;omega
    have run_row:∀ f,f∈(S.drop i).take (j - i)->f.r=S[i].r:=fun f hf=>by
     obtain ⟨t,h,h1,h2,rfl⟩:=(run_mem f).1 hf;exact a3 t h h1 h2
    have W:S.take j=S.take i++(S.drop i).take (j - i):=by
     rw [show j=i+(j - i) by omega,List.take_add,Nat.add_sub_cancel_left]
    have Q:S=S.take i++((S.drop i).take (j - i)++S.drop j):=by
     rw [<-zw,<-W,List.take_append_drop]
    have rl:((S.drop i).take (j - i)).length=j - i:=by rw [zt,y4];omega
    have J:∀ f,f∈S.take i->cmpR f.r S[i].r<0:=fun f hf=>by
     obtain ⟨t,ht,rfl⟩:=List.mem_take_iff_getElem.1 hf;exact hG.bd t i (by omega) O (by omega) (zd _)
    have q:∀ t (h:t<S.length),j<=t->cmpR S[i].r S[t].r<0:=fun t h ag=>by
     have hj:j<S.length:=by omega
     have c1:cmpR S[i].r S[j].r<=0:=zB.1 hs i j O hj ab;have c2:cmpR S[i].r S[j].r<0:=by
      rcases Int.lt_or_eq_of_le c1 with c|c
      . exact c
      . exact absurd (xni c).symm (a4 hj)
     rcases zJ j t with h1|h1
     . have c3:cmpR S[j].r S[t].r<=0:=zB.1 hs j t hj h h1;exact xr6.lt1 c2 c3
     . obtain rfl:t=j:=by omega
       exact c2
    have no_other:∀ (l:List Fc) (ρ:Row) (t:Int),(∀ f,f∈l->f.r≠ρ)->cnt l ρ t=0:=fun l ρ t h=>by
     unfold cnt;rw [List.countP_eq_zero];intro f hf hh;simp only [zf,zl] at hh;exact h f hf hh.1
    have ne_of:∀ x y:Row,cmpR x y<0->x≠y:=fun x y h e=>by subst e;rw [xvO] at h;omega
    have Y:∀ t,cnt ((S.drop i).take (j - i)) S[i].r t=cnt S S[i].r t:=fun t=>by
     have e:cnt S S[i].r t=cnt (S.take i++((S.drop i).take (j - i)++S.drop j)) S[i].r t:=by rw [<-Q]
     rw [e,xlj,xlj,no_other (S.take i) _ t (fun f hf=>ne_of _ _ (J f hf)),no_other (S.drop j) _ t (fun f hf=>by
      obtain ⟨m,hm,rfl⟩:=zp.1 hf;rw [y4] at hm;rw [List.getElem_drop];exact fun e=>ne_of _ _ (q (j+m) (by omega) (by omega)) e.symm)]
     omega
    have U:Few ((S.drop i).take (j - i)):=⟨by omega,fun f hf=>hr f (List.mem_of_mem_drop (List.mem_of_mem_take hf))⟩
    obtain ⟨D,d1,d2,d3⟩:=xIR _ U;obtain ⟨St,s1,s2,s3⟩:=xFO ((S.drop i).take (j - i)) S[i].r (fun f hf=>by have:=U.2 f hf;unfold maxLen;omega) (by omega)
    have s2:StepI (fun t=>((cnt S S[i].r t:Nat):Int)) 1099511627776 St:=by
     have e:(fun t=>((cnt ((S.drop i).take (j - i)) S[i].r t:Nat):Int))=fun t=>((cnt S S[i].r t:Nat):Int):=funext fun t=>by rw [Y]
     rwa [e] at s2
    have tS:List.take (j - i) (List.drop i (S.map encF))=((S.drop i).take (j - i)).map encF:=by rw [<-List.map_drop,<-List.map_take]
    have hD:D=[]\/D=[S[i].r]:=by
     match D,d2,d3 with
     | [],_,_=>exact .inl rfl
     | [x],_,h=>right;obtain ⟨f,hf,e,_⟩:=(h x).1 (by simp);rw [<-e,run_row f hf]
     | x::y::t,h1,h =>
      obtain ⟨f,hf,e,_⟩:=(h x).1 (by simp)
      obtain ⟨g,hg,e',_⟩:=(h y).1 (by simp)
      have:cmpR x y<0:=(zM.1 h1).1 y (by simp)
      rw [<-e,<-e',run_row f hf,run_row g hg,xvO] at this;omega
    have af:=hG.len;obtain ⟨m1,m2⟩:=xME (n:=G.length) (by omega)
    have nx:RGI S j (G++D.map fun ρ=>(ρ,St)):=by
     refine ⟨?_,fun r=>?_,fun g hg=>?_,?_,fun a b ha hb Z aa=>?_⟩
     . rw [zx];refine List.pairwise_append.2 ⟨hG.st,?_,fun x hx y hy=>?_⟩
       . rcases hD with rfl|rfl
         . exact List.Pairwise.nil
         . exact List.pairwise_singleton _ _
       . obtain ⟨f,hf,e,_⟩:=(hG.mem x).1 hx;rcases hD with rfl|rfl
         . simp at hy
         . simp at hy;subst hy;rw [<-e];exact J f hf
     . rw [zx,zG,hG.mem,W];have e:r∈(D.map fun ρ=>(ρ,St)).map (·.1)↔r∈D:=by simp
       rw [e,d3];constructor
       . rintro (⟨f,hf,h⟩|⟨f,hf,h⟩)
         . exact ⟨f,zG.2 (.inl hf),h⟩
         . exact ⟨f,zG.2 (.inr hf),h⟩
       . rintro ⟨f,hf,h⟩;rcases zG.1 hf with hf|hf
         . exact .inl ⟨f,hf,h⟩
         . exact .inr ⟨f,hf,h⟩
     . rcases zG.1 hg with hg|hg
       . exact hG.ps g hg
       . obtain ⟨ρ,hρ,rfl⟩:=zK.1 hg;rcases hD with rfl|rfl
         . simp at hρ
         . simp at hρ;subst hρ;exact ⟨s2,by rw [rl] at s3;dsimp only;omega⟩
     . rw [z8,za];rcases hD with rfl|rfl<;>simp<;>omega
     . rcases zJ a i with V|V
       . exact hG.bd a b ha hb V (by omega)
       . rw [a3 a ha V Z];exact q b hb aa
    obtain ⟨G',e',ad⟩:=xAR S hS hr hs (c - 1) j _ (by omega) a2 nx
    refine ⟨G',(xam ?_).trans e',ad⟩;have i1:(i:Int)<(S.length:Int):=by omega
    have i2:(j:Int)<=(S.length:Int):=by omega
    have i3:(i:Int)<=(j:Int):=by omega
    have ac:Iter (xd1 (S.map encF) (i:Int) (j:Int) (D.map encR)) (G.length,(0:Int),G.map encG)=some ((G++D.map fun ρ=>(ρ,St)).length,(G++D.map fun ρ=>(ρ,St)).map encG):=by
     rcases hD with rfl|rfl
     . refine xad ?_;have z:¬ (0:Int)<(([]:List AV).length:Int):=by simp
       simp only [xd1,xhM,zW,z,zm,xac,zD,sUF]
     . have z0:(0:Int)<(1:Int):=by omega
       have g0:([S[i].r].map encR).getD 0 .top=encR S[i].r:=rfl;have w1:IntKind.i64.wrap ((0:Int)+1)=1:=rfl;refine (xam (s':=((G++[(S[i].r,St)]).length,(1:Int),(G++[(S[i].r,St)]).map encG)) ?_).trans (xad ?_)
       . have l1:(([S[i].r]:List Row).length:Int)=1:=rfl;have z1:(0:Int)<=0:=by omega
         have z2:(0:Nat)<([S[i].r]:List Row).length:=by simp
         have z3:(0:Int).toNat=0:=rfl;simp only [xd1,xhM,sBU,l1,z0,z1,z2,z3,g0,cR0,sR0,i2,i3,tS,s1,m1,m2,w1];simp [encG]
       . have l1:¬ (1:Int)<(([encR S[i].r]:List AV).length:Int):=by simp
         simp only [xd1,xhM,zV,zW,l1,zm,xac,sUF]
    simp only [xd0,xl6,xkx,xk0,xbE,sBU,i1,i2,i3,a5,tS,d1,ac]
theorem xFW (l:List Fc) (h:Few l) (hl:l.length<=262144):∃ G:List Grp,xkZ (l.map encF)=some (G.map encG)/\xL1 l (G.map (·.1))/\(∀ g,g∈G->StepI (fun t=>((cnt l g.1 t:Nat):Int)) 1099511627776 g.2/\g.2.length<=2*l.length+1)/\G.length<=l.length:=by
 obtain ⟨S,e1,p1,s1⟩:=xDR 99 l (Nat.le_trans h.1 (Nat.le_trans (show 1048576<=2 ^ 20 by omega) (Nat.pow_le_pow_right (by omega) (by omega)))) h
 have q:=p1.length_eq;obtain ⟨G,e2,hG⟩:=xAR S (by omega) (fun f hf=>h.2 f (p1.mem_iff.1 hf)) s1 S.length 0 [] (by omega) (by omega) ⟨List.Pairwise.nil,fun r=>by simp,fun g hg=>by simp at hg,zd _,fun a b ha hb h1 h2=>by omega⟩
 refine ⟨G,?_,⟨hG.st,fun r=>?_⟩,fun g hg=>?_,by rw [<-q];exact hG.len⟩
 . have e1:xcQ 100 (l.map encF)=some (S.map encF):=e1;have e2:Iter (xd0 (S.map encF)) ((0:Nat),(0:Int),[])=_:=e2;have tt:List.take G.length (G.map encG)=G.map encG:=zi (by simp)
   unfold xkZ xus;simp only [xoC,xoD,xoE,xoF,e1,e2,zk,zh,xab,zH,za,zd,zn,zS,zr,tt,sUF]
 . rw [hG.mem,y7];constructor
   . rintro ⟨f,hf,e⟩;exact ⟨f,p1.mem_iff.1 hf,e⟩
   . rintro ⟨f,hf,e⟩;exact ⟨f,p1.mem_iff.2 hf,e⟩
 . obtain ⟨x1,x2⟩:=hG.ps g hg;have e:(fun t=>((cnt S g.1 t:Nat):Int))=fun t=>((cnt l g.1 t:Nat):Int):=funext fun t=>by rw [xIe p1]
   rw [e] at x1;exact ⟨x1,by omega⟩
theorem xuV (row:Row) (P:List Per) (hP:P.length<=1048576):xgb (row.map encV) (P.map encP)=some ((mk row P).map encF):=by
 have e:=xu1 row P hP;rw [xMc (fun p:Per=>(⟨row,p⟩:Fc)) P] at e
 have e:Iter (xbM (row.map encV) (P.map encP)) ((0:Nat),(0:Int),[])=some ((mk row P).length,(mk row P).map encF):=e;generalize mk row P=D at e;have tt:List.take D.length (D.map encF)=D.map encF:=zi (by simp)
 unfold xgb xpO;simp only [xoy,xoz,xoA,e,zk,zh,xab,zH,za,zd,zn,zS,zr,tt,sUF]
theorem sG0 (g:Grp):xMK (Sh.list 3) ((encG g).cells.getD 0 .top)=true:=rfl
theorem sG1 (g:Grp):xMK (Sh.list 2) ((encG g).cells.getD 1 .top)=true:=rfl
theorem xMB {n m:Nat} (h:n<=1048576*1024) (hm:m<=1048576):(n+m)*40<=140737488355328/\n+m<=4611686018427387904:=by omega
theorem xIM (G:List Grp) (hG:G.length<=1024) (L:Row->List Per) (hL:∀ g,g∈G->xdX (g.2.map encP)=some ((L g.1).map encP)/\(L g.1).length<=1048576) :
  Iter (xfp (G.map encG)) ((0:Nat),(0:Int),[])=some ((xLV (G.map (·.1)) L).length,(xLV (G.map (·.1)) L).map encF):=by
 rw [<-xyk];refine xiV G (fun g=>mk g.1 (L g.1)) encF 1048576 (fun g hg=>by unfold mk;rw [za];exact (hL g hg).2) (fun n h D hD=>?_) (fun D=>?_)
 . have i1:(n:Int)<(G.length:Int):=by omega
   have gf:(G.map encG).getD n .top=encG G[n]:=xaa _ _ _ h;obtain ⟨e1,e2⟩:=hL _ (zo h);have ed:=xuV G[n].1 (L G[n].1) e2;have ml:(mk G[n].1 (L G[n].1)).length<=1048576:=by unfold mk;rw [za];exact e2
   have q:D.length<=1048576*1024:=Nat.le_trans hD (Nat.mul_le_mul_left _ (by omega))
   obtain ⟨m1,m2⟩:=xMB q ml;simp only [xfp,xpN,xkj,sBU,h,i1,gf,cG0,cGs,sG0,sG1,e1,ed,m1,m2,xLP (n:=n) (by omega),z8,zx]
 . simp only [xfp,xpN,za,zy,zm,xac,sUF]
theorem xKx (l:List Fc) (r:Row) (t:Int):cnt l r t<=l.length:=List.countP_le_length
theorem xJu (l:List Fc) (r:Row) (t:Int) (h:t<0\/1099511627776<=t):cnt l r t=0:=by rw [<-xzs];exact xCo _ t h
theorem xJV (l:List Fc) (h:Few l) (hl:l.length<=1024):∃ B,xwc (l.map encF)=some (B.map encF)/\xLY l B:=by
 obtain ⟨G,e1,hR,hS,O⟩:=xFW l h (by omega)
 have lv:∀ g,g∈G->∃ P,xdX (g.2.map encP)=some (P.map encP)/\IsLevs (cnt l g.1) P:=fun g hg=>by
  obtain ⟨s1,s2⟩:=hS g hg;exact xFY (N:=cnt l g.1) (H:=l.length) (by omega) (xKx l g.1) (xJu l g.1) s1 (by omega)
 obtain ⟨L,hL⟩:=xAE (R:=G.map (·.1)) (Q:=fun r P=>(∀ g,g∈G->g.1=r->xdX (g.2.map encP)=some (P.map encP))/\IsLevs (cnt l r) P) fun r hr=>by
  obtain ⟨g,hg,rfl⟩:=zK.1 hr;obtain ⟨P,p1,p2⟩:=lv g hg;refine ⟨P,fun g' J e=>?_,p2⟩
  obtain ⟨P',q1,q2⟩:=lv g' J;rw [e] at q2;rw [q1,q2.unique p2]
 have hk:∀ g,g∈G->g.1∈G.map (·.1):=fun g hg=>zK.2 ⟨g,hg,rfl⟩
 have q:∀ g,g∈G->(L g.1).length<=1048576:=fun g hg=>by
  have a:=(hL g.1 (hk g hg)).2;rw [<-xHz] at a;have b:=xC7 l g.1;exact Nat.le_trans a.len (Nat.mul_le_mul (Nat.le_trans b hl) (Nat.le_trans b hl))
 have e2:=xIM G (by omega) L fun g hg=>⟨(hL g.1 (hk g hg)).1 g hg rfl,q g hg⟩
 refine ⟨xLV (G.map (·.1)) L,?_,G.map (·.1),L,hR,fun r hr=>(hL r hr).2,rfl⟩
 generalize xLV (G.map (·.1)) L=F at e2;have tt:List.take F.length (F.map encF)=F.map encF:=zi (by simp)
 unfold xwc xw4;simp only [xsF,xsG,xsH,e1,e2,zk,zh,xab,zH,za,zd,zn,zS,zr,tt,sUF]
end Go.Sim.M
end
noncomputable section
set_option maxRecDepth 100000
namespace Go.Sim.M
open Go.RowKit
theorem xD8 (p0:List UInt8) (p1 p3 p4:List AV) (key:List Int) (hk:key.length<=1048576) (pl:List Fc) (O:pl.length<=1048576) (K:Row):xjE p0 p1 (key.map encN) p3 p4 (pl.map encF) (K.map encV)=some ((life key pl K).map encP):=by
 have e:=xkP (step:=xdH (pl.map encF) (K.map encV)) pl (fun y=>if decide (pick y.r key=K)=true then [y.p] else []) (fun n D=>(D.length,(n:Int),p0,p1,key.map encN,p3,p4,D.map encP)) (fun D=>(D.length,D.map encP)) [] 1 (fun y _=>by split<;>simp) (fun n h D hD=>by
  have h1:(n:Int)<(pl.length:Int):=by omega
  rw [List.length_nil] at hD;have m1:(D.length+1)*16<=140737488355328:=by omega
  have m2:D.length+1<=4611686018427387904:=by omega
  have gf:(pl.map encF).getD n .top=encF pl[n]:=xaa _ _ _ h;have q:=xyO p0 p1 p3 p4 key pl[n].r hk;have J:=xp5 (pick pl[n].r key) K (by rw [xsi];simp only [maxLen];omega)
  simp only [xdH,xk1,sBU,h,h1,gf,cF0,cF1,cF2,sF0,sF1,sF2,lF,sF12,sF02,q,J,cmp0,m1,m2,xLP (n:=n) (by omega)]
  by_cases hc:pick pl[n].r key=K
  . simp [hc,xab,encP,sUF]
  . simp [hc,xac,sUF]) (fun D=>by
  simp only [xdH,xk1,za,zy,zm,xac,sUF])
 rw [zU,xym _ (fun y:Fc=>y.p) (fun y=>decide (pick y.r key=K)) (fun _=>rfl)] at e
 have e:Iter (xdH (pl.map encF) (K.map encV)) ((0:Nat),(0:Int),p0,p1,key.map encN,p3,p4,[])=some ((life key pl K).length,(life key pl K).map encP):=e;have tt:List.take (life key pl K).length ((life key pl K).map encP)=(life key pl K).map encP:=zi (by simp)
 unfold xjE xti;simp only [xm5,xm6,xm7,xm8,e,za,zk,zh,xab,zH,zd,zn,zS,zr,tt,sUF]
theorem xIO (p0:List UInt8) (p1 p3 p4:List AV) (key:List Int) (hk:key.length<=1048576) (pl:List Fc) (q:pl.length<=65536) (K:Row):∃ A:List Per,xfx p0 p1 (key.map encN) p3 p4 (pl.map encF) (K.map encV)=some (A.map encP)/\IsSpan A/\(∀ t,inL A t=inL (life key pl K) t)/\A.length<=2*(1+pl.length):=by
 have hl:=xuN key pl K;obtain ⟨A,e,h1,h2,h3⟩:=xIT (life key pl K) (by omega)
 refine ⟨A,?_,h1,h2,by omega⟩
 unfold xfx xsJ;rw [xD8 p0 p1 p3 p4 key hk pl (by omega) K]
 simp only [zk,zh,xab,e,sUF]
theorem xIU (p0:List UInt8) (p1 p3 p4:List AV) (key:List Int) (hk:key.length<=1048576) (pl:List Fc) (Q:pl.length<=14) (p:Per) (K:Row):∃ A S:List Per,xfx p0 p1 (key.map encN) p3 p4 (pl.map encF) (K.map encV)=some (A.map encP)/\xdu [AV.agg [.int .i64 p.1,.int .i64 p.2]] (A.map encP)=some (S.map encP)/\IsSpan S/\(∀ t,inL S t=(hasP p t&&!inL (life key pl K) t))/\S.length<=2*(2+pl.length):=by
 obtain ⟨A,a1,a2,a3,a4⟩:=xIO p0 p1 p3 p4 key hk pl (by omega) K
 obtain ⟨S,s1,s2,s3,s4⟩:=xu3 [p] A (by simp) (by omega)
 obtain ⟨S',U,J,O,q⟩:=xu3 [p] (life key pl K) (by simp) (by have:=xuN key pl K;omega)
 have he:S=S':=xjN s2 J fun t=>by rw [s3,O,a3]
 have hl:=xuN key pl K;refine ⟨A,S,a1,s1,s2,fun t=>?_,by rw [he];simp at q;omega⟩
 rw [s3,a3,xf2,xd3,Bool.or_false]
theorem xIP (cols key:List Int) (ft p0:List UInt8) (p1 p3 p4:List AV) (hc:cols.length<=1048576) (hk:key.length<=1048576) (l pl:List Fc) (hl:l.length<=14) (Q:pl.length<=14) (hr:∀ f,f∈l->f.r.length<=60) :
  ∃ B M:List Fc,xrl (cols.map encN) ft (l.map encF) p0 p1 (key.map encN) p3 p4 (pl.map encF)=some (B.map encF)/\xLY M B/\IsMiss cols key l pl M:=by
 have h1:∀ x,x∈l->∃ S:List Per,(xLU x.r cols=true->S=[])/\(xLU x.r cols=false->∃ A:List Per,xfx p0 p1 (key.map encN) p3 p4 (pl.map encF) ((pick x.r cols).map encV)=some (A.map encP)/\xdu [AV.agg [.int .i64 x.p.1,.int .i64 x.p.2]] (A.map encP)=some (S.map encP))/\IsSpan S/\(∀ t,inL S t=xLX cols key pl x t)/\S.length<=2*(2+pl.length):=fun x hx=>by
  cases hn:xLU x.r cols with
  | true=>exact ⟨[],fun _=>rfl,(by simp),xll,fun t=>by simp [xLX,hn,xd3],by simp⟩
  | false =>
   obtain ⟨A,S,a1,s1,s2,s3,s4⟩:=xIU p0 p1 p3 p4 key hk pl Q x.p (pick x.r cols);exact ⟨S,(by simp),fun _=>⟨A,a1,s1⟩,s2,fun t=>by rw [s3];simp [xLX,hn],s4⟩
 obtain ⟨L,hL⟩:=xtA h1;have hM:IsMiss cols key l pl (l.flatMap fun x=>mk x.r (L x)):=xAU fun x hx=>(hL x hx).2.2
 have e1:=xkP (step:=xcd (l.map encF) (pl.map encF)) l (fun x=>mk x.r (L x)) (fun n D=>(D.length,(n:Int),cols.map encN,ft,p0,p1,key.map encN,p3,p4,D.map encF)) (fun D=>(D.length,D.map encF)) [] 32 (fun x hx=>by
  have:=(hL x hx).2.2.2.2;rw [mk,za];omega) (fun n h D hD=>by
  have h1:(n:Int)<(l.length:Int):=by omega
  have gf:(l.map encF).getD n .top=encF l[n]:=xaa _ _ _ h;obtain ⟨s1,s2,s3,s4,s5⟩:=hL l[n] (zo h);rw [List.length_nil,zH] at hD;have O:=xHF cols ft l[n].r hc;have U:=xBm l[n].r cols hc;cases hn:xLU l[n].r cols with
  | true =>
   have hm:mk l[n].r (L l[n])=[]:=by rw [s1 hn];rfl
   rw [hm,zD];simp only [xcd,xg2,xej,xgk,xgl,xc7,xgm,xek,sBU,h,h1,gf,cF0,cF1,cF2,sF0,sF1,sF2,lF,sF12,sF02,O,hn,xLP (n:=n) (by omega)]
  | false =>
   obtain ⟨A,a1,a2⟩:=s2 hn;have hd:=xuV l[n].r (L l[n]) (by omega)
   have ml:(mk l[n].r (L l[n])).length<=32:=by rw [mk,za];omega
   have m1:(D.length+(mk l[n].r (L l[n])).length)*40<=140737488355328:=by omega
   have m2:D.length+(mk l[n].r (L l[n])).length<=4611686018427387904:=by omega
   simp only [xcd,xg2,xej,xgk,xgl,xc7,xgm,xek,sBU,h,h1,gf,cF0,cF1,cF2,sF0,sF1,sF2,lF,sF12,sF02,O,hn,U,a1,a2,hd,m1,m2,xLP (n:=n) (by omega),z8,zx]) (fun D=>by
  simp only [xcd,xg2,za,zy,zm,xac,sUF])
 rw [zU] at e1;generalize l.flatMap (fun x=>mk x.r (L x))=M at e1 hM
 have J:=hM.len;have q:M.length<=1024:=Nat.le_trans J (Nat.le_trans (Nat.mul_le_mul (Nat.mul_le_mul_left 2 (Nat.add_le_add_left Q 2)) hl) (by decide))
 obtain ⟨B,b1,b2⟩:=xJV M ⟨by omega,fun f hf=>by
  obtain ⟨x,hx,e⟩:=hM.row f hf;have:=hr x hx;rw [e];omega⟩ q
 refine ⟨B,M,?_,b2,hM⟩;have e1:Iter (xcd (l.map encF) (pl.map encF)) ((0:Nat),(0:Int),cols.map encN,ft,p0,p1,key.map encN,p3,p4,[])=_:=e1;have tt:List.take M.length (M.map encF)=M.map encF:=zi (by simp)
 unfold xrl xtj;simp only [xna,xnb,xnc,xnd,xne,za,e1,b1,zk,zh,xab,zH,zd,zn,zS,zr,tt,sUF]
end Go.Sim.M
end
noncomputable section
set_option maxRecDepth 100000
namespace Go.Sim.M
open Go.RowKit Go.Sim.Srt
theorem xMD {n:Nat} (h:n<=2097152):(n+1)*40<=140737488355328/\n+1<=4611686018427387904/\(n+1+1)*40<=140737488355328/\n+1+1<=4611686018427387904:=by omega
def isc (p q:Per):Int×Int×Bool:=xdm p.1 p.2 q.1 q.2
theorem xIF (p q:Per):xgP p.1 p.2 q.1 q.2=(pv p&&(pv q&&(decide (p.1<q.2)&&decide (q.1<p.2)))):=by
 unfold xgP;rw [xiJ,xiJ];cases pv p<;>cases pv q<;>by_cases h1:p.1<q.2<;>by_cases h2:q.1<p.2<;>simp [h1,h2,xab,xac,sUF]
theorem xK7 (p q:Per) (t:Int):((isc p q).2.2&&hasP ((isc p q).1,(isc p q).2.1) t)=(hasP p t&&hasP q t):=by
 unfold isc xdm;rw [xIF];cases h:pv p&&(pv q&&(decide (p.1<q.2)&&decide (q.1<p.2))) with
 | false =>
  simp only [Bool.not_false,xab,Bool.false_and,sUF];rw [eq_comm,Bool.and_eq_false_iff];by_cases hp:hasP p t=true
  . right;obtain ⟨a1,a2,a3⟩:=xaU.1 hp;by_cases hq:hasP q t=true
    . obtain ⟨b1,b2,b3⟩:=xaU.1 hq;have c1:p.1<q.2:=by omega
      have c2:q.1<p.2:=by omega
      simp [a1,b1,c1,c2] at h
    . simpa using hq
  . left;simpa using hp
 | true =>
  simp only [zf,zl] at h;obtain ⟨v1,v2,o1,o2⟩:=h;have a:=xax.1 v1;have b:=xax.1 v2;simp only [Bool.not_true,xac,Bool.true_and,sUF];rw [Bool.eq_iff_iff,zf,xaU,xaU,xaU,xax];simp only [v1,v2,true_and];by_cases c1:q.1>p.1<;>by_cases c2:q.2<p.2<;>simp only [c1,c2,if_true,if_false]<;>omega
def cutF (q:Per) (f:Fc):List Fc:=if (isc f.p q).2.2=true then [⟨f.r,((isc f.p q).1,(isc f.p q).2.1)⟩] else []
theorem xCp (q:Per) (f:Fc):(cutF q f).length<=1:=by unfold cutF;split<;>simp
theorem xCq (q:Per) (f:Fc):∀ g,g∈cutF q f->g.r=f.r:=fun g hg=>by
 unfold cutF at hg;split at hg
 . simp at hg;rw [hg]
 . simp at hg
theorem xuC (q:Per) (f:Fc) (r:Row) (t:Int):cnt (cutF q f) r t=if hasP q t=true then cnt [f] r t else 0:=by
 have h:=xK7 f.p q t;unfold cutF cnt;cases hi:(isc f.p q).2.2 with
 | false =>
  rw [hi,Bool.false_and,eq_comm,Bool.and_eq_false_iff] at h;rcases h with h|h
  . simp [h]
  . simp [h]
 | true =>
  rw [hi,Bool.true_and] at h;simp only [if_true,List.countP_cons,List.countP_nil,h];cases hasP q t<;>simp
theorem xEy (q:Per) (r:Row) (t:Int):∀ l:List Fc,cnt (l.flatMap (cutF q)) r t=if hasP q t=true then cnt l r t else 0
 | []=>by simp [cnt]
 | f::l=>by
  rw [zR,xlj,xuC,xEy q r t l];have e:cnt (f::l) r t=cnt [f] r t+cnt l r t:=xlj [f] l r t;rw [e];split<;>omega
theorem xJZ (l:List Fc) (q:Per) (hl:l.length<=1048576):Iter (xbk (l.map encF) ((l.length:Nat):Int)) ((0:Nat),(0:Int),q.1,q.2,[])=some ((l.flatMap (cutF q)).length,(l.flatMap (cutF q)).map encF):=by
 have bl:∀ k,((l.take k).flatMap (cutF q)).length<=1*(l.take k).length:=fun k=>xfh _ fun a _=>xCp q a
 have key:=xkO (step:=xbk (l.map encF) ((l.length:Nat):Int)) (fun k=>((((l.take k).flatMap (cutF q)).length,((k:Nat):Int),q.1,q.2,((l.take k).flatMap (cutF q)).map encF):Nat×Int×Int×Int×List AV)) l.length
  ((l.flatMap (cutF q)).length,(l.flatMap (cutF q)).map encF) (fun k hk=>by
  have i1:(k:Int)<(l.length:Int):=by omega
  have gf:(l.map encF).getD k .top=encF l[k]:=xaa _ _ _ hk;have b:=bl k;rw [zt] at b;obtain ⟨m1,m2,_,_⟩:=xMD (n:=((l.take k).flatMap (cutF q)).length) (by omega)
  have tk:(l.take (k+1)).flatMap (cutF q)=(l.take k).flatMap (cutF q)++cutF q l[k]:=by rw [List.take_add_one,ze hk,List.flatMap_append];simp
  rw [tk];have ei:xdm l[k].p.1 l[k].p.2 q.1 q.2=isc l[k].p q:=rfl;simp only [xbk,xeG,sBU,hk,i1,gf,cF0,cF1,cF2,sF0,sF1,sF2,lF,sF12,sF02,ei,m1,m2,xLP (n:=k) (by omega),cutF]
  cases hi:(isc l[k].p q).2.2 with
  | false=>simp [xac,sUF]
  | true=>simp [xab,encF,sUF]) (by
  simp only [xbk,xeG,zy,zm,xac,y7,sUF]) l.length 0 (by omega)
 exact key
theorem xJv {l:List Fc} (q:Per) (h1:l.length<20) (h2:∀ f,f∈l->f.r.length<=60) (ht:Tx l):Bld (l.flatMap (cutF q)):=by
 have bl:=xfh (g:=cutF q) l fun a _=>xCp q a
 refine xHZ (by omega) (fun f hf=>?_) (fun f hf=>?_) (R20.few (by omega))
 . obtain ⟨g,hg,h⟩:=y6.1 hf;rw [xCq q g f h];exact h2 g hg
 . obtain ⟨g,hg,h⟩:=y6.1 hf;rw [xCq q g f h];exact ht g hg
theorem xJx (l:List Fc) (q:Per) (h1:l.length<20) (h2:∀ f,f∈l->f.r.length<=60) (ht:Tx l):∃ B,xlJ (l.map encF) q.1 q.2=some (B.map encF)/\xLY (l.flatMap (cutF q)) B:=by
 obtain ⟨B,e,hB⟩:=xGL _ (xJv q h1 h2 ht);refine ⟨B,?_,hB⟩;have e0:=xJZ l q (by omega)
 have tt:List.take (l.flatMap (cutF q)).length ((l.flatMap (cutF q)).map encF)=(l.flatMap (cutF q)).map encF:=zi (by simp)
 generalize l.flatMap (cutF q)=d at e e0 tt;unfold xlJ xjQ;simp only [xiL,xiM,xiN,xiO,xiP,za,e0,zk,zh,xab,zH,zd,zn,zS,zr,tt,e,sUF]
end Go.Sim.M
end
noncomputable section
set_option maxRecDepth 100000
namespace Go.Sim.M
open Go.RowKit
theorem toSv (n:List UInt8):(AV.str n).toStr=n:=rfl
theorem toLv (k:Nat) (n:List AV):(AV.list k n).toList=n:=rfl
def deps (cols:List Int) (l:List Fc) (K:Row):List Fc:=l.filter fun x=>!xLU x.r cols&&decide (pick x.r cols=K)
theorem xJS (cols:List Int) (ft:List UInt8) (hc:cols.length<=1048576) (l:List Fc) (hl:l.length<=14) (hr:∀ f,f∈l->f.r.length<=60) (ht:∀ f,f∈l->Txt f.r) (K:Row) (q:Per) :
  ∃ B,xkG (cols.map encN) ft (l.map encF) (K.map encV) q.1 q.2=some (B.map encF)/\xLY ((deps cols l K).flatMap (cutF q)) B:=by
 have e:=xkP (step:=xa5 (K.map encV) (l.map encF) ((l.length:Nat):Int)) l (fun x=>if (!xLU x.r cols&&decide (pick x.r cols=K))=true then [x] else []) (fun n D=>(D.length,(n:Int),cols.map encN,ft,q.1,q.2,D.map encF)) (fun D=>(D.length,q.1,q.2,D.map encF)) [] 1 (fun x _=>by split<;>simp) (fun n h D hD=>by
  have h1:(n:Int)<(l.length:Int):=by omega
  rw [List.length_nil] at hD;have m1:(D.length+1)*40<=140737488355328:=by omega
  have m2:D.length+1<=4611686018427387904:=by omega
  have gf:(l.map encF).getD n .top=encF l[n]:=xaa _ _ _ h;have J:=xBg cols ft l[n].r hc;have Q:=xBr (pick l[n].r cols) K (by rw [xsi];simp only [maxLen];omega)
  have O:xqm ((pick l[n].r cols).map encV) (K.map encV)=some (decide (pick l[n].r cols=K)):=by
   unfold xqm xrs;rw [Q];simp only [zk,zh,xab,cmp0,sUF]
  simp only [xa5,xef,sBU,h,h1,gf,cF0,cF1,cF2,sF0,sF1,sF2,lF,sF12,sF02,J,O,m1,m2,xLP (n:=n) (by omega)]
  cases xLU l[n].r cols<;>by_cases hk:pick l[n].r cols=K<;>simp [hk,xab,xac,encF,sUF]) (fun D=>by
  simp only [xa5,xef,zy,zm,xac,sUF])
 rw [zU,xym _ (fun y:Fc=>y) (fun x=>!xLU x.r cols&&decide (pick x.r cols=K)) (fun _=>rfl),List.map_id'] at e
 have e:Iter (xa5 (K.map encV) (l.map encF) ((l.length:Nat):Int)) ((0:Nat),(0:Int),cols.map encN,ft,q.1,q.2,[])=some ((deps cols l K).length,q.1,q.2,(deps cols l K).map encF):=e;have hd:(deps cols l K).length<=14:=Nat.le_trans (List.length_filter_le _ _) hl;have hm:∀ f,f∈deps cols l K->f∈l:=fun f hf=>(List.mem_filter.1 hf).1
 obtain ⟨B,b1,b2⟩:=xJx (deps cols l K) q (by omega) (fun f hf=>hr f (hm f hf)) (fun f hf v hv=>by
  have:=ht f (hm f hf) v hv;exact ⟨this.1,by omega⟩)
 refine ⟨B,?_,b2⟩;have tt:List.take (deps cols l K).length ((deps cols l K).map encF)=(deps cols l K).map encF:=zi (by simp)
 unfold xkG xiS;simp only [xhQ,xhR,xhS,xhT,xhU,xhV,xhW,za,e,b1,zk,zh,xab,zH,zd,zn,zS,zr,tt,sUF]
end Go.Sim.M
end
noncomputable section
set_option maxRecDepth 100000
namespace Go.Sim.M
open Go.RowKit Go.Sim.Srt
theorem xuT {cols key:List Int} {pl:List Fc} {x:Fc} {t:Int} (h:xLX cols key pl x t=true):hasP x.p t=true:=by
 unfold xLX at h;simp only [zf] at h;exact h.2.1
theorem xEo {t:Int}:∀ {l:List Fc},(∀ x,x∈l->hasP x.p t=true)->(atL l t).length=l.length
 | [],_=>rfl
 | x::l,h=>by
  have ih:=xEo (l:=l) fun y hy=>h y (by simp [hy])
  unfold atL at ih |-;rw [zR,z8,ih,if_pos (h x (by simp))]
  simp;omega
theorem xCT {cols key:List Int} {l pl M B:List Fc} (hM:IsMiss cols key l pl M) (hB:xLY M B) (t:Int):(atL B t).length=l.countP fun x=>xLX cols key pl x t:=by
 have h1:∀ r,cnt B r t=cnt (l.filter fun x=>xLX cols key pl x t) r t:=fun r=>by
  rw [hB.cntB,hM.cnt,missC,cnt,List.countP_filter];refine List.countP_congr fun x _=>?_
  cases hm:xLX cols key pl x t with
  | false=>simp
  | true=>simp [xuT hm]
 rw [(xH6 h1).length_eq,xEo (fun x hx=>xuT (List.mem_filter.1 hx).2),List.countP_eq_length_filter]
theorem xCU {cols key:List Int} {l pl M B:List Fc} (hM:IsMiss cols key l pl M) (hB:xLY M B):B=[]↔∀ x,x∈l->∀ t,xLX cols key pl x t=false:=by
 constructor
 . intro h x hx t;have hl:=xCT hM hB t;rw [h] at hl;have h0:l.countP (fun x=>xLX cols key pl x t)=0:=hl.symm
   rw [List.countP_eq_zero] at h0;simpa using h0 x hx
 . intro h;match B,hB with
   | [],_=>rfl
   | f::B',hB =>
    have hv:=(hB.valid (List.mem_cons_self ..)).1;have hl:=xCT hM hB f.p.1;rw [(List.countP_eq_zero (p:=fun x=>xLX cols key pl x f.p.1)).2 fun x hx=>by simp [h x hx]] at hl
    have:f.r∈atL (f::B') f.p.1:=by
     unfold atL;rw [zR,if_pos (xBs hv)];simp
    have:=List.length_pos_of_mem this;omega
theorem xAa {key:List Int} {pl:List Fc} {K:Row} {t:Int}:inL (life key pl K) t=true↔∃ y,y∈pl/\pick y.r key=K/\hasP y.p t=true:=by
 unfold inL life;rw [List.any_eq_true];constructor
 . rintro ⟨p,hp,h⟩;obtain ⟨y,hy,rfl⟩:=zK.1 hp;obtain ⟨h1,h2⟩:=List.mem_filter.1 hy;exact ⟨y,h1,by simpa using h2,h⟩
 . rintro ⟨y,h1,h2,h3⟩;exact ⟨y.p,zK.2 ⟨y,List.mem_filter.2 ⟨h1,by simpa using h2⟩,rfl⟩,h3⟩
theorem xGX {q:Per} {x:Fc}:(∀ t,hasP x.p t=true->hasP q t=false)↔∀ r t,cnt (cutF q x) r t=0:=by
 constructor
 . intro h r t;rw [xuC];by_cases hq:hasP q t=true
   . rw [if_pos hq];unfold cnt;rw [List.countP_eq_zero];intro f hf;rw [zv] at hf;subst hf;cases hp:hasP f.p t with
     | false=>simp
     | true=>rw [h t hp] at hq;exact absurd hq (by simp)
   . rw [if_neg hq]
 . intro h t hp;have:=h x.r t;rw [xuC] at this;cases hq:hasP q t with
   | false=>rfl
   | true =>
    rw [hq,if_pos rfl] at this;unfold cnt at this;rw [List.countP_eq_zero] at this;exact absurd (by simp [hp]) (this x (by simp))
theorem xIj {cols:List Int} {l B:List Fc} {K:Row} {q:Per} (h:xLY ((deps cols l K).flatMap (cutF q)) B) (hB:B=[]):∀ x,x∈l->xLU x.r cols=false->pick x.r cols=K->∀ t,hasP x.p t=true->hasP q t=false:=fun x hx hn hk=>by
 have h0:∀ r t,cnt ((deps cols l K).flatMap (cutF q)) r t=0:=fun r t=>by rw [<-h.cntB,hB];rfl
 have hm:x∈deps cols l K:=List.mem_filter.2 ⟨hx,by simp [hn,hk]⟩
 refine xGX.2 fun r t=>?_
 have:=h0 r t;rw [xEy] at this;rw [xuC];by_cases hq:hasP q t=true
 . rw [if_pos hq] at this |-;unfold cnt at this |-;rw [List.countP_eq_zero] at this |-;intro f hf;rw [zv] at hf;subst hf;exact this f hm
 . rw [if_neg hq]
def xL5 (key:List Int) (K:Row) (S:Fc->List Per) (pl:List Fc):List Fc:=pl.flatMap fun y=>if decide (pick y.r key=K)=true then mk y.r (S y) else [y]
theorem xHl {cols key:List Int} {l pl:List Fc} {K:Row} {q:Per} {S:Fc->List Per} (hS:∀ y,y∈pl->IsSpan (S y)/\∀ t,inL (S y) t=(hasP y.p t&&!hasP q t))
  (h0:∀ x,x∈l->∀ t,xLX cols key pl x t=false) (hd:∀ x,x∈l->xLU x.r cols=false->pick x.r cols=K->∀ t,hasP x.p t=true->hasP q t=false) :
  ∀ x,x∈l->∀ t,xLX cols key (xL5 key K S pl) x t=false:=fun x hx t=>by
 cases hm:xLX cols key (xL5 key K S pl) x t with
 | false=>rfl
 | true =>
  have hp:=xuT hm;have h1:=h0 x hx t;unfold xLX at hm h1;simp only [zf,Bool.not_eq_true'] at hm;obtain ⟨hn,_,hi⟩:=hm;rw [hn,hp] at h1;simp only [Bool.not_false,Bool.true_and,Bool.not_eq_false'] at h1;obtain ⟨y,y1,y2,y3⟩:=xAa.1 h1;have:inL (life key (xL5 key K S pl) (pick x.r cols)) t=true:=by
   by_cases hk:pick y.r key=K
   . have hq:hasP q t=false:=hd x hx hn (by rw [<-y2,hk]) t hp
     have J:inL (S y) t=true:=by rw [(hS y y1).2,y3,hq];rfl
     obtain ⟨p,p1,p2⟩:=List.any_eq_true.1 J;exact xAa.2 ⟨⟨y.r,p⟩,y6.2 ⟨y,y1,by rw [if_pos (decide_eq_true hk)];exact zK.2 ⟨p,p1,rfl⟩⟩,y2,p2⟩
   . exact xAa.2 ⟨y,y6.2 ⟨y,y1,by rw [if_neg (by simpa using hk)];simp⟩,y2,y3⟩
  rw [this] at hi;exact absurd hi (by simp)
theorem xIt {A:List Per} {p q:Per} (hA:IsSpan A) (h:∀ t,inL A t=(hasP p t&&!hasP q t)):A.length<=2:=by
 cases hp:pv p with
 | false =>
  have:=xuk (ps:=[]) (k:=0) hA fun t=>by
   rw [h t];have:hasP p t=false:=by simp [hasP,hp]
   rw [this];rfl
  simp at this;simp [this]
 | true =>
  have vp:=xax.1 hp;cases hq:pv q with
  | false =>
   have:=xuk (ps:=[p]) (k:=0) hA fun t=>by
    rw [h t];have:hasP q t=false:=by simp [hasP,hq]
    rw [this,List.countP_cons,List.countP_nil];cases hasP p t<;>rfl
   simp at this;omega
  | true =>
   have vq:=xax.1 hq;refine xuk (ps:=[(p.1,if q.1<p.2 then q.1 else p.2),(if p.1<q.2 then q.2 else p.1,p.2)]) (k:=0) hA fun t=>?_
   rw [h t,Bool.eq_iff_iff,zl,List.countP_pos_iff];simp only [zf,Bool.not_eq_true',zC,List.not_mem_nil,or_false,exists_eq_or_imp,exists_eq_left,xaU,xax];have J:hasP q t=false↔¬ (q.1<=t/\t<q.2):=by
    unfold hasP;rw [hq];simp
   rw [J];constructor
   . rintro ⟨⟨⟨a1,a2,a3⟩,a4,a5⟩,a6⟩;by_cases hc:t<q.1
     . left;by_cases h1:q.1<p.2
       . rw [if_pos h1];omega
       . rw [if_neg h1];omega
     . right;by_cases h1:p.1<q.2
       . rw [if_pos h1];omega
       . rw [if_neg h1];omega
   . intro hh;rcases hh with ⟨⟨a1,a2,a3⟩,a4,a5⟩|⟨⟨a1,a2,a3⟩,a4,a5⟩
     . by_cases h1:q.1<p.2
       . rw [if_pos h1] at a2 a3 a5;omega
       . rw [if_neg h1] at a2 a3 a5;omega
     . by_cases h1:p.1<q.2
       . rw [if_pos h1] at a1 a2 a4;omega
       . rw [if_neg h1] at a1 a2 a4;omega
theorem xHk {key:List Int} {K:Row} {S:Fc->List Per} {pl:List Fc} (h:∀ y,y∈pl->(S y).length<=2):(xL5 key K S pl).length<=2*pl.length:=xfh pl fun y hy=>by
 split
 . rw [mk,za];exact h y hy
 . simp
end Go.Sim.M
end
noncomputable section
set_option maxRecDepth 100000
namespace Go.Sim.M
open Go.RowKit
def Stp {σ ρ:Type} (I:σ->Prop) (Q:ρ->Prop) (X:Option (σ⊕ρ)):Prop:=(∃ s,X=some (.inl s)/\I s)\/∃ r,X=some (.inr r)/\Q r
theorem Stp.br {σ ρ:Type} {I:σ->Prop} {Q:ρ->Prop} {c:Bool} {a b:Option (σ⊕ρ)} (h1:c=true->Stp I Q a) (h2:c=false->Stp I Q b):Stp I Q (br c a b):=by
 cases c with
 | true=>exact h1 rfl
 | false=>exact h2 rfl
theorem Stp.inl {σ ρ:Type} {I:σ->Prop} {Q:ρ->Prop} {s:σ} (h:I s):Stp I Q (some (.inl s):Option (σ⊕ρ)):=Or.inl ⟨s,rfl,h⟩
theorem Stp.inr {σ ρ:Type} {I:σ->Prop} {Q:ρ->Prop} {r:ρ} (h:Q r):Stp I Q (some (.inr r):Option (σ⊕ρ)):=Or.inr ⟨r,rfl,h⟩
def Ans {α:Type} (Q:α->Prop) (X:Option α):Prop:=∃ r,X=some r/\Q r
theorem Ans.br {α:Type} {Q:α->Prop} {c:Bool} {a b:Option α} (h1:c=true->Ans Q a) (h2:c=false->Ans Q b):Ans Q (br c a b):=by
 cases c with
 | true=>exact h1 rfl
 | false=>exact h2 rfl
theorem Ans.some {α:Type} {Q:α->Prop} {r:α} (h:Q r):Ans Q (some r):=⟨r,rfl,h⟩
theorem Ans.mono {α:Type} {Q Q':α->Prop} {X:Option α} (h:Ans Q X) (hq:∀ r,Q r->Q' r):Ans Q' X:=⟨h.choose,h.choose_spec.1,hq _ h.choose_spec.2⟩
theorem xa3 {σ ρ:Type} {step:σ->Option (σ⊕ρ)} (I:Nat->σ->Prop) (N:Nat) (Q:ρ->Prop) (hs:∀ k s,k<N->I k s->Stp (I (k+1)) Q (step s))
  (he:∀ s,I N s->Stp (fun _=>False) Q (step s)):∀ (d k:Nat) (s:σ),k+d=N->I k s->Ans Q (Iter step s)
 | 0,k,s,h,hp=>by
  obtain rfl:k=N:=by omega
  rcases he s hp with ⟨_,_,h⟩|⟨r,e,hq⟩
  . exact absurd h id
  . exact ⟨r,xad e,hq⟩
 | d+1,k,s,h,hp=>by
  rcases hs k s (by omega) hp with ⟨s',e,q⟩|⟨r,e,hq⟩
  . obtain ⟨x,ex,hx⟩:=xa3 I N Q hs he d (k+1) s' (by omega) q
    exact ⟨x,(xam e).trans ex,hx⟩
  . exact ⟨r,xad e,hq⟩
theorem xBF (s:List UInt8) (hs:s.length<=16777216):Ans (fun _=>True) (xkc s):=by
 obtain ⟨r,e,_⟩:=xa3 (step:=xa4 s) (fun k i=>i=(k:Int)) s.length (fun _=>True) (fun k i hk hi=>by
  subst hi;have h1:(k:Int)<(s.length:Int):=by omega
  simp only [xa4,xfH,sBU,h1,hk,xLP (n:=k) (by omega)]
  repeat' (first|exact Stp.inl rfl|exact Stp.inr trivial|refine Stp.br (fun _=>?_) (fun _=>?_))) (fun i hi=>by
  subst hi;simp only [xa4,xfH,zy,zm,xac,sUF];exact Stp.inr trivial) s.length 0 (0:Int) (by omega) rfl
 unfold xkc xlT;simp only [e,zk,zh,xab,sUF];repeat' (first|exact Ans.some trivial|refine Ans.br (fun _=>?_) (fun _=>?_))
theorem xzU (k i:Int) (s:List UInt8) (hs:s.length<=16777216):Ans (fun _=>True) (xmf k i s):=by
 obtain ⟨r,e,_⟩:=xBF s hs;unfold xmf xqT;simp only [e,zk,zh,xab,sUF];repeat' (first|exact Ans.some trivial|refine Ans.br (fun _=>?_) (fun _=>?_))
theorem xFt (op i vk vi:Int) (vt nm:List UInt8) (args:List AV) (ht:vt.length<=16777216):Ans (fun b=>b=true->op=22->1<=args.length) (xoi op i vk vi vt nm args):=by
 obtain ⟨r,e,_⟩:=xzU vk vi vt ht;unfold xoi xpu;simp only [e,zk,zh,xab,sUF];refine Ans.br (fun _=>Ans.some (by simp)) (fun _=>Ans.br (fun _=>Ans.some (by simp)) (fun h=>?_))
 have hh:op=22->1<=args.length:=fun ho=>by
  subst ho;have ha:(xjM 22).fst=3:=by rfl
  rw [ha] at h;simp only [decide_eq_false_iff_not] at h;omega
 repeat' (first|exact Ans.some (fun _=>hh)|refine Ans.br (fun _=>?_) (fun _=>?_))
theorem xwt (ks:List Int) (q:Int) (hk:ks.length<=16777216):Ans (fun _=>True) (xcP (ks.map encN) q):=by
 obtain ⟨r,e,_⟩:=xa3 (step:=xcL (ks.map encN) q) (fun k i=>i=(k:Int)) ks.length (fun _=>True) (fun k i J hi=>by
  subst hi;have h1:(k:Int)<(ks.length:Int):=by omega
  have gf:(ks.map encN).getD k .top=encN ks[k]:=xaa _ _ _ J;simp only [xcL,xly,sBU,h1,J,gf,cN,sN,xLP (n:=k) (by omega)]
  repeat' (first|exact Stp.inl rfl|exact Stp.inr trivial|refine Stp.br (fun _=>?_) (fun _=>?_))) (fun i hi=>by
  subst hi;simp only [xcL,xly,za,zy,zm,xac,sUF];exact Stp.inr trivial) ks.length 0 (0:Int) (by omega) rfl
 unfold xcP xtR;simp only [e,zk,zh,xab,sUF];repeat' (first|exact Ans.some trivial|refine Ans.br (fun _=>?_) (fun _=>?_))
theorem xCJ (ks:List Int) (hk:ks.length<=16777216):Ans (fun _=>True) (xdZ (ks.map encN)):=by
 obtain ⟨r,e,_⟩:=xa3 (step:=xdA (ks.map encN)) (fun k s=>s.2=(k:Int)) ks.length (fun _=>True) (fun k s q hi=>by
  obtain ⟨a,i⟩:=s;dsimp only at hi;subst hi;have h1:(k:Int)<(ks.length:Int):=by omega
  have gf:(ks.map encN).getD k .top=encN ks[k]:=xaa _ _ _ q;simp only [xdA,xkf,xhH,xi7,xi8,sBU,h1,q,gf,cN,sN,xLP (n:=k) (by omega)]
  repeat' (first|exact Stp.inl rfl|exact Stp.inr trivial|refine Stp.br (fun _=>?_) (fun _=>?_))) (fun s hi=>by
  obtain ⟨a,i⟩:=s;dsimp only at hi;subst hi;simp only [xdA,xkf,xhH,za,zy,zm,xac,sUF];exact Stp.inr trivial) ks.length 0 ((0:Int),(0:Int)) (by omega) rfl
 unfold xdZ xst;simp only [xqY,xqZ,xqx,e,zk,zh,xab,sUF];repeat' (first|exact Ans.some trivial|refine Ans.br (fun _=>?_) (fun _=>?_))
theorem xFV (op i vk vi:Int) (vt nm:List UInt8) (args:List AV) (ks kn:List Int) (hk:ks.length<=16777216) (h2:op=2->0<=i/\i<(kn.length:Int)) (q:op=22->1<=ks.length):Ans (fun _=>True) (xij op i vk vi vt nm args (ks.map encN) (kn.map encN)):=by
 obtain ⟨r1,e1,_⟩:=xwt ks 1 hk;obtain ⟨r2,e2,_⟩:=xwt ks 2 hk;obtain ⟨r3,e3,_⟩:=xwt ks 3 hk;obtain ⟨r4,e4,_⟩:=xCJ ks hk;obtain ⟨r5,e5,_⟩:=xCJ ((ks.drop 1).take (ks.length - 1)) (by rw [zt];omega)
 obtain ⟨r6,e6,_⟩:=xwt (ks.take 1) 3 (by rw [zt];omega)
 rw [List.map_take,List.map_drop] at e5;rw [List.map_take] at e6;unfold xij xpH xdn xdo xi9;simp only [za,e1,e2,e3,e4,e5,e6,zr,zk,zh,xab,sUF];refine Ans.br (fun _=>Ans.some trivial) (fun _=>Ans.br (fun h=>?_) (fun _=>?_))
 . obtain ⟨a,b⟩:=h2 (by simpa using h)
   have c:i.toNat<kn.length:=by omega
   have gf:(kn.map encN).getD i.toNat .top=encN kn[i.toNat]:=xaa _ _ _ c;simp only [a,b,c,gf,cN,sN,zn,zS,xab,sUF];exact Ans.some trivial
 . by_cases h:op=22
   . have:=q h;have c:(1:Int)<=(ks.length:Int):=by omega
     simp only [c,zn,zS,xab,sUF];repeat' (first|exact Ans.some trivial|refine Ans.br (fun _=>?_) (fun _=>?_))
   . have hb:(op==22)=false:=by simpa using h
     simp only [hb,xac,sUF];repeat' (first|exact Ans.some trivial|refine Ans.br (fun _=>?_) (fun _=>?_))
theorem xMj (xs:List AV):(AV.agg xs).cells=xs:=rfl
theorem shE (op i vk vi:Int) (vt nm:List UInt8) (args:List AV):xMR [Sh.int IntKind.i64,Sh.int IntKind.i64,Sh.int IntKind.i64,Sh.int IntKind.i64,Sh.str,Sh.str,Sh.list 7] [AV.int .i64 op,.int .i64 i,.int .i64 vk,.int .i64 vi,.str vt,.str nm,.list 7 args] 0=true:=rfl
theorem cE0 (a b c d e f g:AV):[a,b,c,d,e,f,g].getD 0 .top=a:=rfl
theorem cE1 (a b c d e f g:AV):[a,b,c,d,e,f,g].getD 1 .top=b:=rfl
theorem cE2 (a b c d e f g:AV):[a,b,c,d,e,f,g].getD 2 .top=c:=rfl
theorem cE3 (a b c d e f g:AV):[a,b,c,d,e,f,g].getD 3 .top=d:=rfl
theorem cE4 (a b c d e f g:AV):[a,b,c,d,e,f,g].getD 4 .top=e:=rfl
theorem cE5 (a b c d e f g:AV):[a,b,c,d,e,f,g].getD 5 .top=f:=rfl
theorem cE6 (a b c d e f g:AV):[a,b,c,d,e,f,g].getD 6 .top=g:=rfl
theorem lE (a b c d e f g:AV):([a,b,c,d,e,f,g].length==7)=true:=rfl
theorem toIE (n:Int):(AV.int .i64 n).toInt=n:=rfl
theorem toSE (n:List UInt8):(AV.str n).toStr=n:=rfl
theorem toLE (k:Nat) (n:List AV):(AV.list k n).toList=n:=rfl
theorem xAH:∀ (n:Nat) (op i vk vi:Int) (vt nm:List UInt8) (args:List AV),args.length<=16777216->(∀ x,x∈args->IsEx x)->AV.dps args<n->Ans (fun _=>True) (xdj n op i vk vi vt nm args)
 | 0,op,i,vk,vi,vt,nm,args,hl,h,hd=>absurd hd (Nat.not_lt_zero _)
 | n+1,op,i,vk,vi,vt,nm,args,hl,h,hd=>by
  obtain ⟨r,e,_⟩:=xa3 (step:=xbq (xdj n)) (fun k s=>∃ m:Int,s=(m,(k:Int),op,i,vk,vi,vt,nm,args)) args.length (fun _=>True) (fun k s hk hi=>by
   obtain ⟨m,rfl⟩:=hi;have h1:(k:Int)<(args.length:Int):=by omega
   have hx:=h args[k] (zo hk);have hp:=xz6 (zo hk);have gf:args.getD k .top=args[k]:=by rw [z7,ze hk];rfl
   obtain ⟨q,i',U,O,J,Q,ar,ex,l',t',h'⟩:=hx.get;rw [ex] at gf hp;simp only [AV.dp,AV.dps] at hp;obtain ⟨r',e',_⟩:=xAH n q i' U O J Q ar l' h' (by omega)
   simp only [xbq,xga,xl3,xl4,sBU,h1,hk,gf,xMj,shE,cE0,cE1,cE2,cE3,cE4,cE5,cE6,lE,toIE,toSE,toLE,e',xLP (n:=k) (by omega)]
   exact Stp.inl ⟨_,rfl⟩) (fun s hi=>by
   obtain ⟨m,rfl⟩:=hi;simp only [xbq,xga,zy,zm,xac,sUF];exact Stp.inr trivial) args.length 0 ((0:Int),(0:Int),op,i,vk,vi,vt,nm,args) (by omega) ⟨0,rfl⟩
  show Ans _ (xhq (xdj n) op i vk vi vt nm args);unfold xhq xmA;simp only [xpG,e,zk,zh,xab,sUF];exact Ans.some trivial
theorem xAD (kn:List Int):∀ (n:Nat) (op i vk vi:Int) (vt nm:List UInt8) (args:List AV),args.length<=16777216->vt.length<=16777216->(∀ x,x∈args->IsEx x)->AV.dps args<n->Ans (fun _=>True) (xdi n op i vk vi vt nm args (kn.map encN))
 | 0,op,i,vk,vi,vt,nm,args,hl,ht,h,hd=>absurd hd (Nat.not_lt_zero _)
 | n+1,op,i,vk,vi,vt,nm,args,hl,ht,h,hd=>by
  obtain ⟨b,fe,fq⟩:=xFt op i vk vi vt nm args ht;obtain ⟨r,e,hq⟩:=xa3 (step:=xbp (xdi n) (kn.map encN)) (fun k s=>∃ ks:List Int,ks.length=k/\s=(ks.length,(k:Int),op,i,vk,vi,vt,nm,args,ks.map encN)) args.length (fun r=>r.1=false->∃ ks:List Int,ks.length=args.length/\r.2.2=(ks.length,op,i,vk,vi,vt,nm,args,ks.map encN)) (fun k s hk hi=>by
   obtain ⟨ks,q,rfl⟩:=hi;have h1:(k:Int)<(args.length:Int):=by omega
   have hx:=h args[k] (zo hk);have hp:=xz6 (zo hk);have gf:args.getD k .top=args[k]:=by rw [z7,ze hk];rfl
   obtain ⟨O,i',W,U,Q,V,ar,ex,l',t',h'⟩:=hx.get;rw [ex] at gf hp;simp only [AV.dp,AV.dps] at hp;have m1:(ks.length+1)*8<=140737488355328:=by omega
   have m2:ks.length+1<=4611686018427387904:=by omega
   obtain ⟨⟨r1,r2⟩,e',_⟩:=xAD kn n O i' W U Q V ar l' t' h' (by omega)
   simp only [xbp,xf9,xlZ,xlx,xl0,sBU,h1,hk,gf,xMj,shE,cE0,cE1,cE2,cE3,cE4,cE5,cE6,lE,toIE,toSE,toLE,e',m1,m2,xLP (n:=k) (by omega)]
   refine Stp.br (fun _=>Stp.inr (by simp)) (fun _=>Stp.inl ⟨ks++[r1],by simp [q],?_⟩)
   simp [encN]) (fun s hi=>by
   obtain ⟨ks,q,rfl⟩:=hi;simp only [xbp,xf9,zy,zm,xac,sUF];exact Stp.inr fun _=>⟨ks,q,rfl⟩) args.length 0 ((0:Nat),(0:Int),op,i,vk,vi,vt,nm,args,[]) (by omega) ⟨[],rfl,rfl⟩
  obtain ⟨r1,r2,r3⟩:=r;show Ans _ (xfP (xdi n) op i vk vi vt nm args (kn.map encN));unfold xfP xmz xkg;simp only [xpv,xpw,xpy,xpz,xpA,xpB,xpC,xpD,xpE,xpF,xoj,xok,xol,xom,xon,xoo,e,fe,za,zk,zh,xab,sUF];cases b with
  | false=>simp only [Bool.not_false,xab,sUF];repeat' (first|exact Ans.some trivial|refine Ans.br (fun _=>?_) (fun _=>?_))
  | true =>
   have J:∀ r1:Bool,(r1=false->∃ ks:List Int,ks.length=args.length/\r3=(ks.length,op,i,vk,vi,vt,nm,args,ks.map encN))->(op=2->0<=i/\i<(kn.length:Int))->∀ x:Int×Int,Ans (fun _=>True) (br r1 (some x) (br (decide (r3.1<=r3.2.2.2.2.2.2.2.2.length)&&true) (br ((xij r3.2.1 r3.2.2.1 r3.2.2.2.1 r3.2.2.2.2.1 r3.2.2.2.2.2.1 r3.2.2.2.2.2.2.1 r3.2.2.2.2.2.2.2.1 (List.take r3.1 (List.drop 0 r3.2.2.2.2.2.2.2.2)) (kn.map encN)).isSome) (br (!((xij r3.2.1 r3.2.2.1 r3.2.2.2.1 r3.2.2.2.2.1 r3.2.2.2.2.2.1 r3.2.2.2.2.2.2.1 r3.2.2.2.2.2.2.2.1 (List.take r3.1 (List.drop 0 r3.2.2.2.2.2.2.2.2)) (kn.map encN)).getD ((0:Int),false)).2) (some ((0:Int),(7:Int))) (some (((xij r3.2.1 r3.2.2.1 r3.2.2.2.1 r3.2.2.2.2.1 r3.2.2.2.2.2.1 r3.2.2.2.2.2.2.1 r3.2.2.2.2.2.2.2.1 (List.take r3.1 (List.drop 0 r3.2.2.2.2.2.2.2.2)) (kn.map encN)).getD ((0:Int),false)).1,(0:Int)))) none) none)):=fun r1 hr h2 x=>by
    cases r1 with
    | true=>exact Ans.some trivial
    | false =>
     obtain ⟨ks,q,rfl⟩:=hr rfl;obtain ⟨y,ye,_⟩:=xFV op i vk vi vt nm args ks kn (by omega) h2 (fun ho=>by rw [q];exact fq rfl ho)
     have tt:List.take ks.length (ks.map encN)=ks.map encN:=zi (by simp)
     simp only [xac,za,zd,zn,zS,xab,zr,tt,ye,zk,zh,sUF];repeat' (first|exact Ans.some trivial|refine Ans.br (fun _=>?_) (fun _=>?_))
   simp only [Bool.not_true,xac,zH,sUF];refine Ans.br (fun _=>Ans.some trivial) (fun _=>Ans.br (fun ho=>?_) (fun ho=>?_))
   . refine Ans.br (fun _=>Ans.some trivial) (fun a1=>Ans.br (fun _=>Ans.some trivial) (fun a2=>?_))
     simp only [decide_eq_false_iff_not] at a1 a2;exact J r1 hq (fun _=>⟨by omega,by omega⟩) _
   . exact J r1 hq (fun h=>by simp [h] at ho) _
theorem xFl (kn:List Int) (op i vk vi:Int) (vt nm:List UInt8) (args:List AV) (hl:args.length<=16777216) (ht:vt.length<=16777216) (h:∀ x,x∈args->IsEx x):Ans (fun _=>True) (xtQ op i vk vi vt nm args (kn.map encN)):=by
 obtain ⟨d,de,_⟩:=xAH (AV.dps args+1) op i vk vi vt nm args hl h (Nat.lt_succ_self _);obtain ⟨c,ce,_⟩:=xAD kn (AV.dps args+1) op i vk vi vt nm args hl ht h (Nat.lt_succ_self _);have h1:(xjC op i vk vi vt nm args).isSome=true:=xwV (R:=fun n=>xdj n op i vk vi vt nm args) (by rw [de];rfl)
 have h2:(xgF op i vk vi vt nm args (kn.map encN)).isSome=true:=xwV (R:=fun n=>xdi n op i vk vi vt nm args (kn.map encN)) (by rw [ce];rfl)
 unfold xtQ xqX;rw [h1,h2];simp only [xab,sUF];repeat' (first|exact Ans.some trivial|refine Ans.br (fun _=>?_) (fun _=>?_))
def xMk:AV->Bool
 | .str _=>true
 | _=>false
theorem xFv {x:AV} (h:xMk x=true):∃ s,x=.str s:=by
 cases x<;>first|exact ⟨_,rfl⟩|(simp [xMk] at h)
theorem xMI (s:List UInt8):xMK .str ((AV.str s).cells.getD 0 .top)=true:=rfl
theorem cStr (s:List UInt8):((AV.str s).cells.getD 0 .top).toStr=s:=rfl
theorem xK4 (l:List AV) (s:List UInt8) (hl:l.length<=16777216) (h:l.all xMk=true):Ans (fun _=>True) (xyM l s):=by
 obtain ⟨r,e,_⟩:=xa3 (step:=xdp l s) (fun k i=>i=(k:Int)) l.length (fun _=>True) (fun k i hk hi=>by
  subst hi;have h1:(k:Int)<(l.length:Int):=by omega
  obtain ⟨x,hx⟩:=xFv (zI.1 h l[k] (zo hk));have gf:l.getD k .top=.str x:=by rw [z7,ze hk,<-hx];rfl
  simp only [xdp,xmB,sBU,h1,hk,gf,xMI,cStr,xLP (n:=k) (by omega)]
  repeat' (first|exact Stp.inl rfl|exact Stp.inr trivial|refine Stp.br (fun _=>?_) (fun _=>?_))) (fun i hi=>by
  subst hi;simp only [xdp,xmB,zy,zm,xac,sUF];exact Stp.inr trivial) l.length 0 (0:Int) (by omega) rfl
 unfold xyM xux;simp only [e,zk,zh,xab,sUF];repeat' (first|exact Ans.some trivial|refine Ans.br (fun _=>?_) (fun _=>?_))
theorem xyz (s:List UInt8) (hs:s.length<=16777216):Ans (fun _=>True) (xgx s):=by
 obtain ⟨r,e,_⟩:=xa3 (step:=xct s) (fun k i=>i=(k:Int)) s.length (fun _=>True) (fun k i hk hi=>by
  subst hi;have h1:(k:Int)<(s.length:Int):=by omega
  simp only [xct,xki,xhI,xhJ,sBU,h1,hk,xLP (n:=k) (by omega)]
  repeat' (first|exact Stp.inl rfl|exact Stp.inr trivial|refine Stp.br (fun _=>?_) (fun _=>?_))) (fun i hi=>by
  subst hi;simp only [xct,xki,xhI,xhJ,zy,zm,xac,sUF];exact Stp.inr trivial) s.length 0 (0:Int) (by omega) rfl
 obtain ⟨r2,e2,_⟩:Ans (fun _=>True) (xq4 s):=xK4 _ s (by decide) (by rfl)
 unfold xgx xsC xpM;simp only [e,e2,zk,zh,xab,sUF];cases s with
 | nil=>exact Ans.some trivial
 | cons c t =>
  have h0:(0:Int)<(((c::t).length:Nat):Int):=by rw [zF];omega
  simp only [h0,zn,xab,sUF];repeat' (first|exact Ans.some trivial|refine Ans.br (fun _=>?_) (fun _=>?_))
theorem xuM (t:Tab) (hc:t.cols.length<=16777216):xeJ t.n (t.cols.map xLM) (t.key.map encN) (t.fos.map xLN) t.chk=some ((t.cols.map (·.k)).map encN):=by
 have e:=xkP (step:=xc6) t.cols (fun c=>[c.k]) (fun n D=>(D.length,(n:Int),t.n,t.cols.map xLM,t.key.map encN,t.fos.map xLN,t.chk,D.map encN)) (fun D=>(D.length,D.map encN)) [] 1 (fun _ _=>by simp) (fun n h D hD=>by
  have h1:(n:Int)<(t.cols.length:Int):=by omega
  rw [List.length_nil] at hD;have m1:(D.length+1)*8<=140737488355328:=by omega
  have m2:D.length+1<=4611686018427387904:=by omega
  have gf:(t.cols.map xLM).getD n .top=xLM t.cols[n]:=xaa _ _ _ h;simp only [xc6,xja,sBU,h,h1,gf,cK1,shI,AV.toInt,m1,m2,xLP (n:=n) (by omega)]
  simp [encN]) (fun D=>by
  simp only [xc6,xja,za,zy,zm,xac,sUF])
 rw [zU,xMc] at e;have e:Iter xc6 ((0:Nat),(0:Int),t.n,t.cols.map xLM,t.key.map encN,t.fos.map xLN,t.chk,[])=some ((t.cols.map (·.k)).length,(t.cols.map (·.k)).map encN):=e;have tt:List.take (t.cols.map (·.k)).length ((t.cols.map (·.k)).map encN)=(t.cols.map (·.k)).map encN:=zi (by simp)
 unfold xeJ xq3;simp only [xpI,xpJ,xpK,xpL,e,zk,zh,xab,zH,zr,sUF];rw [tt];simp [xab,sUF]
theorem xIo (t:Tab) (s:List UInt8) (hc:t.cols.length<=16777216):Ans (fun _=>True) (xrV t.n (t.cols.map xLM) (t.key.map encN) (t.fos.map xLN) t.chk s):=by
 obtain ⟨r,e,_⟩:=xa3 (step:=xdD s) (fun k x=>x=((k:Int),t.n,t.cols.map xLM,t.key.map encN,t.fos.map xLN,t.chk)) t.cols.length (fun _=>True) (fun k i hk hi=>by
  subst hi;have h1:(k:Int)<(t.cols.length:Int):=by omega
  have gf:(t.cols.map xLM).getD k .top=xLM t.cols[k]:=xaa _ _ _ hk;simp only [xdD,xkh,sBU,h1,hk,gf,cK0,shS,AV.toStr,xLP (n:=k) (by omega)]
  repeat' (first|exact Stp.inl rfl|exact Stp.inr trivial|refine Stp.br (fun _=>?_) (fun _=>?_))) (fun i hi=>by
  subst hi;simp only [xdD,xkh,za,zy,zm,xac,sUF];exact Stp.inr trivial) t.cols.length 0 _ (by omega) rfl
 have e:Iter (xdD s) ((0:Int),t.n,t.cols.map xLM,t.key.map encN,t.fos.map xLN,t.chk)=some r:=e;unfold xrV xsA;simp only [xq1,xq2,e,zk,zh,xab,sUF];repeat' (first|exact Ans.some trivial|refine Ans.br (fun _=>?_) (fun _=>?_))
structure Tab.Ok (t:Tab):Prop where
 n:t.n.length<=16777216
 cols:t.cols.length<=16777216
 key:t.key.length<=1048576
 fos:t.fos.length<=16777216
 chk:t.chk.length<=16777216
 cn:∀ c,c∈t.cols->c.n.length<=16777216
 fc:∀ f,f∈t.fos->f.cols.length<=1048576/\f.t.length<=16777216
 ex:∀ x,x∈t.chk->IsEx x
theorem xDM (t:Tab) (h:t.Ok):Ans (fun _=>True) (xgG t.n (t.cols.map xLM) (t.key.map encN) (t.fos.map xLN) t.chk):=by
 have q:=h.cols;obtain ⟨r,e,_⟩:=xa3 (step:=xcb) (fun k x=>x=((k:Int),t.n,t.cols.map xLM,t.key.map encN,t.fos.map xLN,t.chk)) t.cols.length (fun _=>True) (fun k i hk hi=>by
  subst hi;have h1:(k:Int)<(t.cols.length:Int):=by omega
  have gf:(t.cols.map xLM).getD k .top=xLM t.cols[k]:=xaa _ _ _ hk;obtain ⟨a,ae,_⟩:=xyz t.cols[k].n (h.cn _ (zo hk));obtain ⟨b,be,_⟩:=xIo t t.cols[k].n h.cols;simp only [xcb,xg0,sBU,h1,hk,gf,cK0,cK1,lK,sK,AV.toStr,AV.toInt,ae,be,xLP (n:=k) (by omega)]
  repeat' (first|exact Stp.inl rfl|exact Stp.inr trivial|refine Stp.br (fun _=>?_) (fun _=>?_))) (fun i hi=>by
  subst hi;simp only [xcb,xg0,za,zy,zm,xac,sUF];exact Stp.inr trivial) t.cols.length 0 _ (by omega) rfl
 have e:Iter xcb ((0:Int),t.n,t.cols.map xLM,t.key.map encN,t.fos.map xLN,t.chk)=some r:=e;unfold xgG xoq;simp only [xmZ,xmx,e,zk,zh,xab,sUF];repeat' (first|exact Ans.some trivial|refine Ans.br (fun _=>?_) (fun _=>?_))
def InC (t:Tab) (x:Int):Prop:=0<=x/\x<(t.cols.length:Int)
theorem xqo (t:Tab) (x:Int):xkY t.n (t.cols.map xLM) (t.key.map encN) (t.fos.map xLN) t.chk x=(decide (0<=x)&&decide (x<(t.cols.length:Int))):=by
 unfold xkY;rw [za];by_cases h:0<=x
 . have:x>=0:=h;simp [br,h,this]
 . have:¬ x>=0:=h;simp [br,h,this]
theorem xAK {t:Tab} {x:Int} (h:(decide (0<=x)&&decide (x<(t.cols.length:Int)))=true):InC t x:=by
 simp only [zf,zl] at h;exact h
theorem xJB (t:Tab) (h:t.Ok):Ans (fun c=>c=0->∀ x,x∈t.key->InC t x) (xqz t.n (t.cols.map xLM) (t.key.map encN) (t.fos.map xLN) t.chk):=by
 have Q:=h.key;obtain ⟨r,e,hr⟩:=xa3 (step:=xbY) (fun k x=>x=((k:Int),t.n,t.cols.map xLM,t.key.map encN,t.fos.map xLN,t.chk)/\∀ j (hj:j<t.key.length),j<k->InC t t.key[j]) t.key.length (fun r=>(r.1=true->r.2.1≠0)/\(r.1=false->∀ x,x∈t.key->InC t x)) (fun k i hk hi=>by
  obtain ⟨rfl,hp⟩:=hi;have h1:(k:Int)<(t.key.length:Int):=by omega
  have gf:(t.key.map encN).getD k .top=encN t.key[k]:=xaa _ _ _ hk;cases hx:(decide (0<=t.key[k])&&decide (t.key[k]<(t.cols.length:Int))) with
  | false =>
   simp only [xbY,xfZ,xeC,xe5,xe6,xbz,sBU,h1,hk,gf,cN,sN,xqo,hx];exact Stp.inr ⟨fun _=>by simp,fun h=>by simp at h⟩
  | true =>
   have q:=xAK hx;have c:t.key[k].toNat<t.cols.length:=by have:=q.1;have:=q.2;omega
   have gc:(t.cols.map xLM).getD t.key[k].toNat .top=xLM t.cols[t.key[k].toNat]:=xaa _ _ _ c;have hp':∀ j (hj:j<t.key.length),j<k+1->InC t t.key[j]:=fun j hj U=>by
    rcases zJ j k with J|O
    . exact hp j hj J
    . obtain rfl:j=k:=by omega
      exact q
   cases k with
   | zero =>
    have i0:¬ ((0:Nat):Int)>0:=by omega
    simp only [xbY,xfZ,xeC,xe5,xe6,xbz,sBU,h1,hk,gf,cN,sN,xqo,hx,i0,q.1,q.2,c,gc,cK2,shB,AV.toBool,xLP (n:=0) (by omega)]
    exact Stp.br (fun _=>Stp.inr ⟨fun _=>by simp,fun h=>by simp at h⟩) (fun _=>Stp.inl ⟨rfl,hp'⟩)
   | succ m =>
    have i0:((m+1:Nat):Int)>0:=by omega
    have w:IntKind.i64.wrap (((m+1:Nat):Int) - 1)=(m:Int):=by rw [xby (by omega) (by omega)];omega
    have h3:(m:Int)<(t.key.length:Int):=by omega
    have h4:m<t.key.length:=by omega
    have gm:(t.key.map encN).getD m .top=encN t.key[m]:=xaa _ _ _ h4;simp only [xbY,xfZ,xeC,xe5,xe6,xbz,sBU,h1,hk,gf,cN,sN,xqo,hx,i0,w,h3,h4,gm,q.1,q.2,c,gc,cK2,shB,AV.toBool,xLP (n:=m+1) (by omega)]
    exact Stp.br (fun _=>Stp.inr ⟨fun _=>by simp,fun h=>by simp at h⟩) (fun _=>Stp.br (fun _=>Stp.inr ⟨fun _=>by simp,fun h=>by simp at h⟩) (fun _=>Stp.inl ⟨rfl,hp'⟩))) (fun i hi=>by
  obtain ⟨rfl,hp⟩:=hi;simp only [xbY,xfZ,xeC,za,zy,zm,xac,sUF];refine Stp.inr ⟨fun h=>by simp at h,fun _ x hx=>?_⟩
  obtain ⟨j,hj,rfl⟩:=List.getElem_of_mem hx;exact hp j hj hj) t.key.length 0 _ (by omega) ⟨rfl,fun j _ h=>absurd h (Nat.not_lt_zero _)⟩
 have e:Iter xbY ((0:Int),t.n,t.cols.map xLM,t.key.map encN,t.fos.map xLN,t.chk)=some r:=e;unfold xqz xtU;simp only [xsD,xsE,e,zk,zh,xab,sUF];exact Ans.br (fun _=>Ans.some fun h=>by simp at h) (fun _=>Ans.br (fun h1=>Ans.some fun h=>absurd h (hr.1 h1)) (fun h1=>Ans.some fun _=>hr.2 h1))
theorem xDS (t:Tab) (h:t.Ok) (f:Fo) (hf:f.cols.length<=1048576/\f.t.length<=16777216):Ans (fun c=>c=0->∀ x,x∈f.cols->InC t x) (xjD t.n (t.cols.map xLM) (t.key.map encN) (t.fos.map xLN) t.chk (f.cols.map encN) f.t):=by
 have V:=hf.1;obtain ⟨a,ae,_⟩:=xyz f.t hf.2;obtain ⟨r,e,hr⟩:=xa3 (step:=xbv) (fun k x=>x=((k:Int),t.n,t.cols.map xLM,t.key.map encN,t.fos.map xLN,t.chk,f.cols.map encN,f.t)/\∀ j (hj:j<f.cols.length),j<k->InC t f.cols[j]) f.cols.length (fun r=>(r.1=true->r.2.1≠0)/\(r.1=false->∀ x,x∈f.cols->InC t x)) (fun k i hk hi=>by
  obtain ⟨rfl,hp⟩:=hi;have h1:(k:Int)<(f.cols.length:Int):=by omega
  have gf:(f.cols.map encN).getD k .top=encN f.cols[k]:=xaa _ _ _ hk;cases hx:(decide (0<=f.cols[k])&&decide (f.cols[k]<(t.cols.length:Int))) with
  | false =>
   simp only [xbv,xeR,sBU,h1,hk,gf,cN,sN,xqo,hx];exact Stp.inr ⟨fun _=>by simp,fun h=>by simp at h⟩
  | true =>
   have O:=xAK hx;have hp':∀ j (hj:j<f.cols.length),j<k+1->InC t f.cols[j]:=fun j hj U=>by
    rcases zJ j k with J|Q
    . exact hp j hj J
    . obtain rfl:j=k:=by omega
      exact O
   obtain ⟨⟨b,q1,q2⟩,e1,q⟩:=xa3 (step:=xcc (k:Int)) (fun m x=>x=((m:Int),t.n,t.cols.map xLM,t.key.map encN,t.fos.map xLN,t.chk,f.cols.map encN,f.t)) k (fun r=>(r.1=true->r.2.1.1≠0)/\(r.1=false->r.2.2=(t.n,t.cols.map xLM,t.key.map encN,t.fos.map xLN,t.chk,f.cols.map encN,f.t))) (fun m i hm hi=>by
    subst hi;have m1:(m:Int)<(k:Int):=by omega
    have m2:(m:Int)<(f.cols.length:Int):=by omega
    have m3:m<f.cols.length:=by omega
    have gm:(f.cols.map encN).getD m .top=encN f.cols[m]:=xaa _ _ _ m3;simp only [xcc,xg1,sBU,m1,m2,m3,h1,hk,gf,gm,cN,sN,xLP (n:=m) (by omega)]
    exact Stp.br (fun _=>Stp.inr ⟨fun _=>by simp,fun h=>by simp at h⟩) (fun _=>Stp.inl rfl)) (fun i hi=>by
    subst hi;simp only [xcc,xg1,zy,zm,xac,sUF];exact Stp.inr ⟨fun h=>by simp at h,fun _=>rfl⟩) k 0 _ (by omega) rfl
   have e1:Iter (xcc (k:Int)) ((0:Int),t.n,t.cols.map xLM,t.key.map encN,t.fos.map xLN,t.chk,f.cols.map encN,f.t)=_:=e1;simp only [xbv,xeR,xj0,xj1,xj2,xj3,xj4,xj5,xj6,xj7,xj8,sBU,h1,hk,gf,cN,sN,xqo,hx,e1,xLP (n:=k) (by omega)]
   refine Stp.br (fun hb=>Stp.inr ⟨fun _=>q.1 hb,fun h=>by simp at h⟩) (fun hb=>?_)
   have:=q.2 hb;dsimp only at this;subst this;exact Stp.inl ⟨rfl,hp'⟩) (fun i hi=>by
  obtain ⟨rfl,hp⟩:=hi;simp only [xbv,xeR,za,zy,zm,xac,sUF];refine Stp.inr ⟨fun h=>by simp at h,fun _ x hx=>?_⟩
  obtain ⟨j,hj,rfl⟩:=List.getElem_of_mem hx;exact hp j hj hj) f.cols.length 0 _ (by omega) ⟨rfl,fun j _ h=>absurd h (Nat.not_lt_zero _)⟩
 have e:Iter xbv ((0:Int),t.n,t.cols.map xLM,t.key.map encN,t.fos.map xLN,t.chk,f.cols.map encN,f.t)=some r:=e;unfold xjD xor;simp only [xm0,xm1,ae,e,zk,zh,xab,sUF];exact Ans.br (fun _=>Ans.some fun h=>by simp at h) (fun _=>Ans.br (fun _=>Ans.some fun h=>by simp at h) (fun _=>Ans.br (fun h1=>Ans.some fun h=>absurd h (hr.1 h1)) (fun h1=>Ans.some fun _=>hr.2 h1)))
theorem xy3 (t:Tab) (h:t.Ok):Ans (fun c=>c=0->∀ f,f∈t.fos->∀ x,x∈f.cols->InC t x) (xd7 t.n (t.cols.map xLM) (t.key.map encN) (t.fos.map xLN) t.chk):=by
 have ad:=h.fos;have ab:=h.chk;obtain ⟨⟨b,q1,q2⟩,e,hr⟩:=xa3 (step:=xbl) (fun k x=>x=((k:Int),t.n,t.cols.map xLM,t.key.map encN,t.fos.map xLN,t.chk)/\∀ j (hj:j<t.fos.length),j<k->∀ x,x∈t.fos[j].cols->InC t x) t.fos.length (fun r=>(r.1=true->r.2.1.1≠0)/\(r.1=false->r.2.2=(t.n,t.cols.map xLM,t.key.map encN,t.fos.map xLN,t.chk)/\∀ f,f∈t.fos->∀ x,x∈f.cols->InC t x)) (fun k i hk hi=>by
  obtain ⟨rfl,hp⟩:=hi;have h1:(k:Int)<(t.fos.length:Int):=by omega
  have gf:(t.fos.map xLN).getD k .top=xLN t.fos[k]:=xaa _ _ _ hk;obtain ⟨c,ce,hc⟩:=xDS t h t.fos[k] (h.fc _ (zo hk));simp only [xbl,xeK,sBU,h1,hk,gf,cFo0,cFo1,lFo,sFo,AV.toList,AV.toStr,ce,xLP (n:=k) (by omega)]
  refine Stp.br (fun hb=>Stp.inr ⟨fun _=>by simpa using hb,fun h=>by simp at h⟩) (fun hb=>Stp.inl ⟨rfl,fun j hj ac=>?_⟩)
  rcases zJ j k with Y|aa
  . exact hp j hj Y
  . obtain rfl:j=k:=by omega
    exact hc (by simpa using hb)) (fun i hi=>by
  obtain ⟨rfl,hp⟩:=hi;simp only [xbl,xeK,za,zy,zm,xac,sUF];refine Stp.inr ⟨fun h=>by simp at h,fun _=>⟨rfl,fun f hf=>?_⟩⟩
  obtain ⟨j,hj,rfl⟩:=List.getElem_of_mem hf;exact hp j hj hj) t.fos.length 0 _ (by omega) ⟨rfl,fun j _ h=>absurd h (Nat.not_lt_zero _)⟩
 have e:Iter xbl ((0:Int),t.n,t.cols.map xLM,t.key.map encN,t.fos.map xLN,t.chk)=_:=e;have V:=xuM t h.cols;obtain ⟨r1,e1,U⟩:=xa3 (step:=xbm) (fun k x=>x=((k:Int),t.n,t.cols.map xLM,t.key.map encN,t.fos.map xLN,t.chk)) t.chk.length (fun r=>r.1=true->r.2.1≠0) (fun k i hk hi=>by
  subst hi;have h1:(k:Int)<(t.chk.length:Int):=by omega
  have gf:t.chk.getD k .top=t.chk[k]:=by rw [z7,ze hk];rfl
  obtain ⟨J,i',Z,Q,O,W,ar,ex,l',t',h'⟩:=(h.ex _ (zo hk)).get;rw [ex] at gf;obtain ⟨⟨c1,c2⟩,ce,_⟩:=xFl (t.cols.map (·.k)) J i' Z Q O W ar l' t' h';simp only [xbm,xeL,xgv,xgw,xgy,xgz,sBU,h1,hk,gf,xMj,shE,cE0,cE1,cE2,cE3,cE4,cE5,cE6,lE,toIE,toSE,toLE,V,ce,xLP (n:=k) (by omega)]
  exact Stp.br (fun hb=>Stp.inr fun _=>by simpa using hb) (fun _=>Stp.br (fun _=>Stp.br (fun _=>Stp.inr fun _=>by simp) (fun _=>Stp.inl rfl)) (fun _=>Stp.inl rfl))) (fun i hi=>by
  subst hi;simp only [xbm,xeL,zy,zm,xac,sUF];exact Stp.inr fun h=>by simp at h) t.chk.length 0 _ (by omega) rfl
 have e1:Iter xbm ((0:Int),t.n,t.cols.map xLM,t.key.map encN,t.fos.map xLN,t.chk)=_:=e1;unfold xd7 xjx;simp only [xjb,xjc,xjd,xje,xjf,xjg,xjh,xji,xjj,xjk,e,zk,zh,xab,sUF];refine Ans.br (fun _=>Ans.some fun h=>by simp at h) (fun _=>Ans.br (fun h1=>Ans.some fun h=>absurd h (hr.1 h1)) (fun h1=>?_))
 obtain ⟨q,hq⟩:=hr.2 h1;dsimp only at q;subst q;simp only [e1,zk,zh,xab,sUF];exact Ans.br (fun _=>Ans.some fun h=>by simp at h) (fun _=>Ans.br (fun h1=>Ans.some fun h=>absurd h (U h1)) (fun _=>Ans.some fun _=>hq))
theorem xve (t:Tab) (h:t.Ok):Ans (fun c=>c=0->(∀ x,x∈t.key->InC t x)/\∀ f,f∈t.fos->∀ x,x∈f.cols->InC t x) (xfQ t.n (t.cols.map xLM) (t.key.map encN) (t.fos.map xLN) t.chk):=by
 obtain ⟨a,ae,_⟩:=xyz t.n h.n;obtain ⟨b,be,_⟩:=xDM t h;obtain ⟨c,ce,hc⟩:=xJB t h;obtain ⟨d,de,hd⟩:=xy3 t h;unfold xfQ xq0;simp only [ae,be,ce,de,zk,zh,xab,sUF];cases a with
 | false=>exact Ans.some fun h=>by simp at h
 | true =>
  simp only [Bool.not_true,xac,sUF];refine Ans.br (fun _=>Ans.br (fun h2=>Ans.some fun h=>⟨hc (by simpa using h2),hd h⟩) (fun h2=>Ans.some fun h=>by simp [h] at h2)) (fun h1=>?_)
  simp only [h1,xac,sUF];exact Ans.some fun h=>by simp [h] at h1
theorem xD7 (row:Row) (kn:List Int) (hr:row.length<=1048576) (ht:Txt row):Ans (fun _=>True) (xrU (row.map encV) (kn.map encN)):=by
 unfold xrU xso;by_cases hl:row.length=kn.length
 . obtain ⟨r,e,_⟩:=xa3 (step:=xcm (row.map encV) (kn.map encN)) (fun k i=>i=(k:Int)) row.length (fun _=>True) (fun k i hk hi=>by
    subst hi;have h1:(k:Int)<(row.length:Int):=by omega
    have h2:(k:Int)<(kn.length:Int):=by omega
    have h3:k<kn.length:=by omega
    have gf:(row.map encV).getD k .top=encV row[k]:=xaa _ _ _ hk;have gn:(kn.map encN).getD k .top=encN kn[k]:=xaa _ _ _ h3;have hv:=(ht _ (zo hk)).2;obtain ⟨v,ve,_⟩:=xzU row[k].k row[k].i row[k].t (by omega)
    have q:xMK (Sh.int .i64) ((encV row[k]).cells.getD 0 .top)=true:=rfl;simp only [xcm,xkd,xi3,xmY,sBU,h1,h2,h3,hk,gf,gn,cV0,cV1,cV2,lV,sV,q,cN,sN,ve,xLP (n:=k) (by omega)]
    repeat' (first|exact Stp.inl rfl|exact Stp.inr trivial|refine Stp.br (fun _=>?_) (fun _=>?_))) (fun i hi=>by
    subst hi;simp only [xcm,xkd,za,zy,zm,xac,sUF];exact Stp.inr trivial) row.length 0 (0:Int) (by omega) rfl
   simp only [e,zk,zh,xab,sUF];repeat' (first|exact Ans.some trivial|refine Ans.br (fun _=>?_) (fun _=>?_))
 . have hb:(((row.length:Nat):Int) != ((kn.length:Nat):Int))=true:=by
    rw [bne_iff_ne];omega
   simp only [za,hb,xab,sUF];exact Ans.some trivial
theorem xFX (kn:List Int) (hk:kn.length<=16777216):Ans (fun _=>True) (xtV (kn.map encN)):=by
 obtain ⟨r,e,_⟩:=xa3 (step:=xb2 (kn.map encN)) (fun k i=>i=(k:Int)) kn.length (fun _=>True) (fun k i q hi=>by
  subst hi;have h1:(k:Int)<(kn.length:Int):=by omega
  have gf:(kn.map encN).getD k .top=encN kn[k]:=xaa _ _ _ q;simp only [xb2,xjl,sBU,h1,q,gf,cN,sN,xLP (n:=k) (by omega)]
  repeat' (first|exact Stp.inl rfl|exact Stp.inr trivial|refine Stp.br (fun _=>?_) (fun _=>?_))) (fun i hi=>by
  subst hi;simp only [xb2,xjl,za,zy,zm,xac,sUF];exact Stp.inr trivial) kn.length 0 (0:Int) (by omega) rfl
 unfold xtV xq5;simp only [e,zk,zh,xab,sUF];repeat' (first|exact Ans.some trivial|refine Ans.br (fun _=>?_) (fun _=>?_))
structure FOk (l:List Fc):Prop where
 len:l.length<=1048576
 row:∀ f,f∈l->f.r.length<=1048576
 txt:∀ f,f∈l->Txt f.r
theorem xHS (kn:List Int) (hk:kn.length<=16777216) (l:List Fc) (h:FOk l):Ans (fun _=>True) (xqj (kn.map encN) (l.map encF)):=by
 have hl:=h.len;obtain ⟨⟨b,q1,q2⟩,e,hr⟩:=xa3 (step:=xb3) (fun k x=>x=((k:Int),kn.map encN,l.map encF)) l.length (fun r=>r.1=false->r.2.2=(kn.map encN,l.map encF)) (fun k i q hi=>by
  subst hi;have h1:(k:Int)<(l.length:Int):=by omega
  have gf:(l.map encF).getD k .top=encF l[k]:=xaa _ _ _ q;obtain ⟨v,ve,_⟩:=xD7 l[k].r kn (h.row _ (zo q)) (h.txt _ (zo q));simp only [xb3,xjm,sBU,h1,q,gf,cF0,cF1,cF2,sF0,sF1,sF2,lF,sF12,sF02,ve,xLP (n:=k) (by omega)]
  exact Stp.br (fun _=>Stp.inr (by simp)) (fun _=>Stp.br (fun _=>Stp.inr (by simp)) (fun _=>Stp.inl rfl))) (fun i hi=>by
  subst hi;simp only [xb3,xjm,za,zy,zm,xac,sUF];exact Stp.inr fun _=>rfl) l.length 0 _ (by omega) rfl
 have e:Iter xb3 ((0:Int),kn.map encN,l.map encF)=_:=e;obtain ⟨c,ce,_⟩:=xFX kn hk;unfold xqj xra;simp only [xpP,xpQ,xpR,xpS,xpT,e,zk,zh,xab,sUF];refine Ans.br (fun _=>Ans.some trivial) (fun hb=>?_)
 have:=hr hb;dsimp only at this;subst this;simp only [ce,zk,zh,xab,sUF];repeat' (first|exact Ans.some trivial|refine Ans.br (fun _=>?_) (fun _=>?_))
theorem xwN (t:Tab) (ht:t.Ok) (l:List Fc) (h:FOk l):Ans (fun b=>b=true->(∀ x,x∈t.key->InC t x)/\∀ f,f∈t.fos->∀ x,x∈f.cols->InC t x) (xgH t.n (t.cols.map xLM) (t.key.map encN) (t.fos.map xLN) t.chk (l.map encF)):=by
 obtain ⟨a,ae,ha⟩:=xve t ht;have hk:=xuM t ht.cols;obtain ⟨b,be,_⟩:=xHS (t.cols.map (·.k)) (by rw [za];exact ht.cols) l h
 unfold xgH xoK;simp only [ae,hk,be,zk,zh,xab,sUF];exact Ans.br (fun h=>Ans.some fun _=>ha (by simpa using h)) (fun _=>Ans.some fun h=>by simp at h)
theorem xIV (f g:Fo) (hf:f.cols.length<=1048576):Ans (fun _=>True) (xrY (f.cols.map encN) f.t (g.cols.map encN) g.t):=by
 unfold xrY xsN;by_cases hl:f.cols.length=g.cols.length
 . obtain ⟨r,e,_⟩:=xa3 (step:=xdK) (fun k x=>x=((k:Int),f.cols.map encN,f.t,g.cols.map encN,g.t)) f.cols.length (fun _=>True) (fun k i hk hi=>by
    subst hi;have h1:(k:Int)<(f.cols.length:Int):=by omega
    have h2:(k:Int)<(g.cols.length:Int):=by omega
    have h3:k<g.cols.length:=by omega
    have gf:(f.cols.map encN).getD k .top=encN f.cols[k]:=xaa _ _ _ hk;have gg:(g.cols.map encN).getD k .top=encN g.cols[k]:=xaa _ _ _ h3;simp only [xdK,xkn,sBU,h1,h2,h3,hk,gf,gg,cN,sN,xLP (n:=k) (by omega)]
    repeat' (first|exact Stp.inl rfl|exact Stp.inr trivial|refine Stp.br (fun _=>?_) (fun _=>?_))) (fun i hi=>by
    subst hi;simp only [xdK,xkn,za,zy,zm,xac,sUF];exact Stp.inr trivial) f.cols.length 0 _ (by omega) rfl
   have e:Iter xdK ((0:Int),f.cols.map encN,f.t,g.cols.map encN,g.t)=_:=e;simp only [xrm,xrn,e,zk,zh,xab,sUF];repeat' (first|exact Ans.some trivial|refine Ans.br (fun _=>?_) (fun _=>?_))
 . have hb:(((f.cols.length:Nat):Int) != ((g.cols.length:Nat):Int))=true:=by
    rw [bne_iff_ne];omega
   simp only [za,hb,xab,sUF];repeat' (first|exact Ans.some trivial|refine Ans.br (fun _=>?_) (fun _=>?_))
theorem xHI (t p:Tab) (ht:t.Ok) (hp:p.Ok) (f:Fo) (hf:f∈t.fos):Ans (fun _=>True) (xrX t.n (t.cols.map xLM) (t.key.map encN) (t.fos.map xLN) t.chk (f.cols.map encN) f.t p.n (p.cols.map xLM) (p.key.map encN) (p.fos.map xLN) p.chk):=by
 obtain ⟨a,ae,ha⟩:=xve t ht;obtain ⟨b,be,hb⟩:=xve p hp;have Q:=ht.fos;have O:=(ht.fc f hf).1;obtain ⟨r,e,hr⟩:=xa3 (step:=xdI) (fun k x=>∃ w:Bool,x=(w,(k:Int),t.n,t.cols.map xLM,t.key.map encN,t.fos.map xLN,t.chk,f.cols.map encN,f.t,p.n,p.cols.map xLM,p.key.map encN,p.fos.map xLN,p.chk)) t.fos.length (fun r=>r.2=(t.n,t.cols.map xLM,t.key.map encN,t.fos.map xLN,t.chk,f.cols.map encN,f.t,p.n,p.cols.map xLM,p.key.map encN,p.fos.map xLN,p.chk)) (fun k i hk hi=>by
  obtain ⟨w,rfl⟩:=hi;have h1:(k:Int)<(t.fos.length:Int):=by omega
  have gf:(t.fos.map xLN).getD k .top=xLN t.fos[k]:=xaa _ _ _ hk;obtain ⟨s,se,_⟩:=xIV t.fos[k] f (ht.fc _ (zo hk)).1;simp only [xdI,xkl,sBU,h1,hk,gf,cFo0,cFo1,lFo,sFo,AV.toList,AV.toStr,se,xLP (n:=k) (by omega)]
  exact Stp.br (fun _=>Stp.inl ⟨_,rfl⟩) (fun _=>Stp.inl ⟨_,rfl⟩)) (fun i hi=>by
  obtain ⟨w,rfl⟩:=hi;simp only [xdI,xkl,za,zy,zm,xac,sUF];exact Stp.inr rfl) t.fos.length 0 (false,(0:Int),_) (by omega) ⟨false,rfl⟩
 obtain ⟨w,q⟩:=r;dsimp only at hr;subst hr;have kt:=xuM t ht.cols;have kp:=xuM p hp.cols;unfold xrX xsL;simp only [ae,be,zk,zh,xab,sUF];refine Ans.br (fun _=>Ans.some trivial) (fun h1=>Ans.br (fun _=>Ans.some trivial) (fun h2=>Ans.br (fun _=>Ans.some trivial) (fun h3=>?_)))
 have ha:=ha (by simpa using h1)
 have hb:=hb (by simpa using h2)
 have J:f.cols.length=p.key.length:=by
  simp only [za,bne_eq_false_iff_eq] at h3;omega
 obtain ⟨r1,e1,_⟩:=xa3 (step:=xdJ ((t.cols.map (·.k)).map encN) ((p.cols.map (·.k)).map encN)) (fun k x=>x=((k:Int),f.cols.map encN,f.t,p.n,p.cols.map xLM,p.key.map encN,p.fos.map xLN,p.chk)) f.cols.length (fun _=>True) (fun k i hk hi=>by
  subst hi;have c1:(k:Int)<(f.cols.length:Int):=by omega
  have c2:(k:Int)<(p.key.length:Int):=by omega
  have c3:k<p.key.length:=by omega
  have gf:(f.cols.map encN).getD k .top=encN f.cols[k]:=xaa _ _ _ hk;have gk:(p.key.map encN).getD k .top=encN p.key[k]:=xaa _ _ _ c3;obtain ⟨a1,a2⟩:=ha.2 f hf f.cols[k] (zo hk);obtain ⟨b1,b2⟩:=hb.1 p.key[k] (zo c3);have a3:f.cols[k].toNat<t.cols.length:=by omega
  have b3:p.key[k].toNat<p.cols.length:=by omega
  have ga:((t.cols.map (·.k)).map encN).getD f.cols[k].toNat .top=encN ((t.cols.map (·.k))[f.cols[k].toNat]'(by rw [za];exact a3)):=xaa _ _ _ (by rw [za];exact a3)
  have gb:((p.cols.map (·.k)).map encN).getD p.key[k].toNat .top=encN ((p.cols.map (·.k))[p.key[k].toNat]'(by rw [za];exact b3)):=xaa _ _ _ (by rw [za];exact b3)
  simp only [xdJ,xkm,sBU,c1,c2,c3,hk,gf,gk,cN,sN,a1,a2,a3,b1,b2,b3,ga,gb,xLP (n:=k) (by omega)]
  repeat' (first|exact Stp.inl rfl|exact Stp.inr trivial|refine Stp.br (fun _=>?_) (fun _=>?_))) (fun i hi=>by
  subst hi;simp only [xdJ,xkm,za,zy,zm,xac,sUF];exact Stp.inr trivial) f.cols.length 0 _ (by omega) rfl
 have e1:Iter (xdJ ((t.cols.map (·.k)).map encN) ((p.cols.map (·.k)).map encN)) ((0:Int),f.cols.map encN,f.t,p.n,p.cols.map xLM,p.key.map encN,p.fos.map xLN,p.chk)=_:=e1;have e:Iter xdI (false,(0:Int),t.n,t.cols.map xLM,t.key.map encN,t.fos.map xLN,t.chk,f.cols.map encN,f.t,p.n,p.cols.map xLM,p.key.map encN,p.fos.map xLN,p.chk)=_:=e;simp only [xrb,xrc,xrd,xre,xrf,xrg,xrh,xri,xrj,xrk,xpU,xpV,xpW,xpX,xpY,xpZ,xpx,xp0,xp1,xp2,xp3,xp4,e,kt,kp,e1,zk,zh,xab,sUF];repeat' (first|exact Ans.some trivial|refine Ans.br (fun _=>?_) (fun _=>?_))
end Go.Sim.M
end
noncomputable section
set_option maxRecDepth 100000
namespace Go.Sim.M
open Go.RowKit Go.Sim.Srt
theorem xDj (l:List Fc) (hl:l.length<=1048576):Ans (fun b=>b=true->l.length<=14/\∀ f,f∈l->f.r.length<=60) (xno (l.map encF) 14):=by
 obtain ⟨r,e,hr⟩:=xa3 (step:=xcM (l.map encF)) (fun k i=>i=(k:Int)/\∀ j (hj:j<l.length),j<k->l[j].r.length<=60) l.length (fun r=>(r.1=true->r.2.1=false)/\(r.1=false->∀ f,f∈l->f.r.length<=60)) (fun k i hk hi=>by
  obtain ⟨rfl,hp⟩:=hi;have h1:(k:Int)<(l.length:Int):=by omega
  have gf:(l.map encF).getD k .top=encF l[k]:=xaa _ _ _ hk;simp only [xcM,xlz,sBU,h1,hk,gf,cF0,cF1,cF2,sF0,sF1,sF2,lF,sF12,sF02,xLP (n:=k) (by omega)]
  refine Stp.br (fun _=>Stp.inr ⟨fun _=>rfl,fun h=>by simp at h⟩) (fun hb=>Stp.inl ⟨rfl,fun j hj O=>?_⟩)
  rcases zJ j k with q|J
  . exact hp j hj q
  . obtain rfl:j=k:=by omega
    have hb:=of_decide_eq_false hb;omega) (fun i hi=>by
  obtain ⟨rfl,hp⟩:=hi;simp only [xcM,xlz,za,zy,zm,xac,sUF];refine Stp.inr ⟨fun h=>by simp at h,fun _ f hf=>?_⟩
  obtain ⟨j,hj,rfl⟩:=List.getElem_of_mem hf;exact hp j hj hj) l.length 0 (0:Int) (by omega) ⟨rfl,fun j _ h=>absurd h (Nat.not_lt_zero _)⟩
 unfold xno xtW;simp only [e,zk,zh,xab,za,sUF];refine Ans.br (fun _=>Ans.some fun h=>by simp at h) (fun h=>?_)
 have h:=of_decide_eq_false h;exact Ans.br (fun h1=>Ans.some fun h2=>by rw [hr.1 h1] at h2;simp at h2) (fun h1=>Ans.some fun _=>⟨by omega,hr.2 h1⟩)
structure FitC (t:Tab) (ix:Int) (fa ke:List Fc):Prop where
 lo:0<=ix
 hi:ix<(t.fos.length:Int)
 fl:fa.length<=14
 fr:∀ f,f∈fa->f.r.length<=60
 kl:ke.length<=14
 kr:∀ f,f∈ke->f.r.length<=60
theorem xHo (t p:Tab) (ht:t.Ok) (hp:p.Ok) (ix:Int) (fa ke:List Fc) (hf:FOk fa) (hk:FOk ke):Ans (fun b=>b=true->FitC t ix fa ke) (xrQ t.n (t.cols.map xLM) (t.key.map encN) (t.fos.map xLN) t.chk p.n (p.cols.map xLM) (p.key.map encN) (p.fos.map xLN) p.chk ix (fa.map encF) (ke.map encF)):=by
 obtain ⟨a,ae,ha⟩:=xDj fa hf.len;obtain ⟨b,be,hb⟩:=xDj ke hk.len;obtain ⟨c,ce,_⟩:=xwN t ht fa hf;obtain ⟨d,de,_⟩:=xwN p hp ke hk;unfold xrQ xse;simp only [ae,be,ce,de,za,zk,zh,xab,sUF];refine Ans.br (fun _=>Ans.some fun h=>by simp at h) (fun _=>Ans.br (fun _=>Ans.some fun h=>by simp at h) (fun _=>Ans.br (fun _=>Ans.some fun h=>by simp at h) (fun h1=>Ans.br (fun _=>Ans.some fun h=>by simp at h) (fun h2=>?_))))
 have h1:=of_decide_eq_false h1;have h2:=of_decide_eq_false h2;refine Ans.br (fun _=>Ans.some fun h=>by simp at h) (fun h3=>Ans.br (fun _=>Ans.some fun h=>by simp at h) (fun h4=>Ans.br (fun _=>Ans.br (fun _=>?_) (fun _=>Ans.some fun h=>by simp at h)) (fun _=>Ans.some fun h=>by simp at h)))
 have h3:a=true:=by simpa using h3
 have h4:b=true:=by simpa using h4
 have i1:0<=ix:=by omega
 have i2:ix<(t.fos.length:Int):=by omega
 have i3:ix.toNat<t.fos.length:=by omega
 have gt:(t.fos.map xLN).getD ix.toNat .top=xLN t.fos[ix.toNat]:=xaa _ _ _ i3;obtain ⟨e,ee,_⟩:=xHI t p ht hp t.fos[ix.toNat] (zo i3);simp only [i1,i2,i3,gt,cFo0,cFo1,lFo,sFo,AV.toList,AV.toStr,ee,zn,zS,zk,zh,xab,sUF];exact Ans.some fun _=>⟨i1,i2,(ha h3).1,(ha h3).2,(hb h4).1,(hb h4).2⟩
theorem xCE {a b c d e f g h i:_} {B:List Fc} (hB:xe1 a b c d e f g h i=some (B.map encF)):xjv a b c d e f g h i=some (decide (B=[])):=by
 unfold xjv xnK;rw [hB];cases B with
 | nil=>rfl
 | cons x B =>
  have:¬ ((((x::B).map encF).length:Nat):Int)=0:=by simp;omega
  simp [xab,sUF];omega
end Go.Sim.M
end
noncomputable section
set_option maxRecDepth 10000
namespace Go.Sim
open Go.RowKit Go.Proofs Go.ChangeShapes Go.WideShapes Go.ChangeAt Go.Proofs.YtnbckejindjgaaaGreatDoor
theorem xAv:∀ {xs:List AV} {x:AV},x∈xs->AV.wt x<=AV.wts xs
 | y::xs,x,h=>by
  simp only [AV.wts];rcases zC.1 h with rfl|h
  . omega
  . have:=xAv h;omega
theorem xAu:∀ {xs:List AV},(∀ x,x∈xs->1<=AV.wt x)->xs.length<=AV.wts xs
 | [],_=>zQ _
 | y::xs,h=>by
  have a:=h y (by simp)
  have b:=xAu (xs:=xs) fun x hx=>h x (by simp [hx])
  simp only [AV.wts,zF];omega
theorem xjO {α:Type} {e:α->AV} (h:∀ a,1<=AV.wt (e a)) (l:List α):l.length<=AV.wts (l.map e):=by
 have:=xAu (xs:=l.map e) fun x hx=>by
  obtain ⟨a,_,rfl⟩:=zK.1 hx;exact h a
 rwa [za] at this
theorem xjP {α:Type} {e:α->AV} {l:List α} {a:α} (h:a∈l):AV.wt (e a)<=AV.wts (l.map e):=xAv (zK.2 ⟨a,h,rfl⟩)
theorem xH2 (v:M.Val):AV.wt (M.encV v)=1+(1+(v.t.length+1+0)):=rfl
theorem xDA (f:M.Fc):AV.wt (M.encF f)=AV.wts (f.r.map M.encV)+1+(1+(1+0)):=rfl
theorem xH0 (c:M.Col):AV.wt (M.xLM c)=c.n.length+1+(1+(1+0)):=rfl
theorem xF7 (f:M.Fo):AV.wt (M.xLN f)=AV.wts (f.cols.map M.encN)+1+(f.t.length+1+0):=rfl
theorem M.fok_wt {l:List M.Fc} (h:AV.wts (l.map M.encF)<=1048576) (hw:∀ y,y∈l->y.wf):M.FOk l:=by
 refine ⟨?_,fun f hf=>?_,fun f hf v hv=>⟨(hw f hf).1.2 v hv,?_⟩⟩
 . have:=xjO (e:=M.encF) (fun f=>by have:=xDA f;omega) l
   omega
 . have h1:=xjP (e:=M.encF) hf;have h2:=xDA f;have h3:=xjO (e:=M.encV) (fun f=>by have:=xH2 f;omega) f.r
   omega
 . have h1:=xjP (e:=M.encF) hf;have h2:=xDA f;have h3:=xjP (e:=M.encV) hv;have h4:=xH2 v;omega
def EX (xs:List AV):Prop:=∀ x,x∈xs->x.cells.length=7/\x=xNk x.cells/\∀ j,j<7->OfTy tyR (tyR.getD j .bool) (x.cells.getD j .top)
theorem xCV {a:AV} (h:OfTy tyR .mu a):∃ xs,a=.list 7 xs/\EX xs:=by
 cases h with
 | mu xs h hl hx=>exact ⟨xs,rfl,fun x hm=>⟨(hl x hm).1,(hl x hm).2,fun j hj=>hx x j hm hj⟩⟩
theorem xJb:∀ (n:Nat) (xs:List AV),AV.wts xs<n->n<=16777216->EX xs->xs.length<=AV.wts xs/\∀ x,x∈xs->M.IsEx x
 | 0,xs,h,_,_=>absurd h (Nat.not_lt_zero _)
 | n+1,xs,h,hn,hE=>by
  have key:∀ x,x∈xs->1<=AV.wt x/\M.IsEx x:=fun x hx=>by
   obtain ⟨h1,h2,h3⟩:=hE x hx;have hw:=xAv hx;generalize x.cells=cs at *;match cs,h1 with
   | [c0,c1,c2,c3,c4,c5,c6],_ =>
    have h0:=h3 0 (by decide)
    have h1:=h3 1 (by decide)
    have h2':=h3 2 (by decide)
    have h3':=h3 3 (by decide)
    have h4:=h3 4 (by decide)
    have h5:=h3 5 (by decide)
    have h6:=h3 6 (by decide)
    change OfTy tyR (.int .i64) c0 at h0;change OfTy tyR (.int .i64) c1 at h1;change OfTy tyR (.int .i64) c2 at h2';change OfTy tyR (.int .i64) c3 at h3';change OfTy tyR .str c4 at h4;change OfTy tyR .str c5 at h5;change OfTy tyR .mu c6 at h6;obtain ⟨ys,rfl,hy⟩:=xCV h6;cases h0 with
    | int _ n0 _=>cases h1 with
     | int _ n1 _=>cases h2' with
      | int _ n2 _=>cases h3' with
       | int _ n3 _=>cases h4 with
        | str s4 _=>cases h5 with
         | str s5 _ =>
          have hx:x=.agg [.int .i64 n0,.int .i64 n1,.int .i64 n2,.int .i64 n3,.str s4,.str s5,.list 7 ys]:=h2;have wx:AV.wt x=1+(1+(1+(1+(s4.length+1+(s5.length+1+(AV.wts ys+1+0)))))):=by rw [hx];rfl
          obtain ⟨i1,i2⟩:=xJb n ys (by omega) (by omega) hy
          exact ⟨by omega,hx▸M.IsEx.mk n0 n1 n2 n3 s4 s5 ys (by omega) (by omega) i2⟩
  exact ⟨xAu fun x hx=>(key x hx).1,fun x hx=>(key x hx).2⟩
def tyCo:List Ty:=[.str,.int .i64,.bool]
def tyFo:List Ty:=[.slice [.int .i64],.str]
theorem xyU (x:AV) (hl:x.cells.length=[Ty.int .i64].length) (he:x=xNk x.cells) (hx:∀ j,j<[Ty.int .i64].length->OfTy tyR ([Ty.int .i64].getD j .bool) (x.cells.getD j .top)):∃ a,x=M.encN a/\I64 a:=by
 generalize x.cells=cs at *;match cs,hl with
 | [c0],_ =>
  have h0:=hx 0 (by decide)
  change OfTy tyR (.int .i64) c0 at h0;cases h0 with
  | int _ k hk=>exact ⟨k,he,hk⟩
theorem xDv (x:AV) (hl:x.cells.length=tyCo.length) (he:x=xNk x.cells) (hx:∀ j,j<tyCo.length->OfTy tyR (tyCo.getD j .bool) (x.cells.getD j .top)):∃ a,x=M.xLM a/\True:=by
 generalize x.cells=cs at *;match cs,hl with
 | [c0,c1,c2],_ =>
  have h0:=hx 0 (by decide)
  have h1:=hx 1 (by decide)
  have h2:=hx 2 (by decide)
  change OfTy tyR .str c0 at h0;change OfTy tyR (.int .i64) c1 at h1;change OfTy tyR .bool c2 at h2;cases h0 with
  | str s _=>cases h1 with
   | int _ k _=>cases h2 with
    | bool b=>exact ⟨⟨s,k,b⟩,he,trivial⟩
theorem xE4 (x:AV) (hl:x.cells.length=tyFo.length) (he:x=xNk x.cells) (hx:∀ j,j<tyFo.length->OfTy tyR (tyFo.getD j .bool) (x.cells.getD j .top)):∃ a,x=M.xLN a/\True:=by
 generalize x.cells=cs at *;match cs,hl with
 | [c0,c1],_ =>
  have h0:=hx 0 (by decide)
  have h1:=hx 1 (by decide)
  change OfTy tyR (.slice [.int .i64]) c0 at h0;change OfTy tyR .str c1 at h1;obtain ⟨l,rfl,_,_⟩:=xfS (es:=[.int .i64]) xyU h0;cases h1 with
  | str s _=>exact ⟨⟨l,s⟩,he,trivial⟩
theorem M.tab_ok (t:M.Tab) (hb:AV.wts [.str t.n,.list 3 (t.cols.map M.xLM),.list 1 (t.key.map M.encN),.list 2 (t.fos.map M.xLN),.list 7 t.chk]<=1048576) (hx:EX t.chk):t.Ok:=by
 have hw:AV.wts [.str t.n,.list 3 (t.cols.map M.xLM),.list 1 (t.key.map M.encN),.list 2 (t.fos.map M.xLN),.list 7 t.chk]=t.n.length+1+(AV.wts (t.cols.map M.xLM)+1+(AV.wts (t.key.map M.encN)+1+(AV.wts (t.fos.map M.xLN)+1+(AV.wts t.chk+1+0)))):=rfl;obtain ⟨e1,e2⟩:=xJb (AV.wts t.chk+1) t.chk (Nat.lt_succ_self _) (by omega) hx
 refine ⟨by omega,?_,?_,?_,by omega,fun c hc=>?_,fun f hf=>⟨?_,?_⟩,e2⟩
 . have:=xjO (e:=M.xLM) (fun f=>by have:=xH0 f;omega) t.cols
   omega
 . have:=xjO (e:=M.encN) (fun f=>zd 1) t.key
   omega
 . have:=xjO (e:=M.xLN) (fun f=>by have:=xF7 f;omega) t.fos
   omega
 . have h1:=xjP (e:=M.xLM) hc;have h2:=xH0 c;omega
 . have h1:=xjP (e:=M.xLN) hf;have h2:=xF7 f;have h3:=xjO (e:=M.encN) (fun f=>zd 1) f.cols
   omega
 . have h1:=xjP (e:=M.xLN) hf;have h2:=xF7 f;omega
structure M.Cas where
 t:M.Tab
 p:M.Tab
 ix:Int
 fa:List M.Fc
 ke:List M.Fc
def M.Cas.wf (c:M.Cas):Prop:=EX c.t.chk/\EX c.p.chk/\(∀ y,y∈c.fa->y.wf)/\∀ y,y∈c.ke->y.wf
theorem xG7:flat Tryz.prog muT 9 30=some [.str,.slice tyCo,.slice [.int .i64],.slice tyFo,.mu,.str,.slice tyCo,.slice [.int .i64],.slice tyFo,.mu,.int .i64,.slice tyF,.slice tyF]:=by kernel_rfl
section
variable {H : Type} {enc : TypeId × Value -> H} {w : World} {base b : Nat} {sp : Nat -> Bool} {held : Bool} {v : Value} {d : DataW H} {ps : List MemPlace}
theorem xHu (O:Value.okWide Tryz.prog w .any base 30 v) (hd:DataW.Trod enc Tryz.prog w b sp held 30 v d ps):∃ x:M.Cas,Rel w (fun _=>False) xMZ v (.agg [.str x.t.n,.list 3 (x.t.cols.map M.xLM),.list 1 (x.t.key.map M.encN),.list 2 (x.t.fos.map M.xLN),.list 7 x.t.chk,.str x.p.n,.list 3 (x.p.cols.map M.xLM),.list 1 (x.p.key.map M.encN),.list 2 (x.p.fos.map M.xLN),.list 7 x.p.chk,.int .i64 x.ix,.list 3 (x.fa.map M.encF),.list 3 (x.ke.map M.encF)])/\(∀ μ:DataW H->Nat,Meas μ->(AV.agg [.str x.t.n,.list 3 (x.t.cols.map M.xLM),.list 1 (x.t.key.map M.encN),.list 2 (x.t.fos.map M.xLN),.list 7 x.t.chk,.str x.p.n,.list 3 (x.p.cols.map M.xLM),.list 1 (x.p.key.map M.encN),.list 2 (x.p.fos.map M.xLN),.list 7 x.p.chk,.int .i64 x.ix,.list 3 (x.fa.map M.encF),.list 3 (x.ke.map M.encF)]).wt<=μ d)/\M.Cas.wf x:=by
 obtain ⟨cs,h,hl,hx,hB⟩:=xA8 recR Tryz.underlying30 xG7 O hd;match cs,hl with
 | [k0,k1,k2,k3,k4,k5,k6,k7,k8,k9,k10,k11,k12],_ =>
  have h0:=hx 0 (by decide)
  have h1:=hx 1 (by decide)
  have h2:=hx 2 (by decide)
  have h3:=hx 3 (by decide)
  have h4:=hx 4 (by decide)
  have h5:=hx 5 (by decide)
  have h6:=hx 6 (by decide)
  have h7:=hx 7 (by decide)
  have h8:=hx 8 (by decide)
  have h9:=hx 9 (by decide)
  have Q:=hx 10 (by decide)
  have J:=hx 11 (by decide)
  have q:=hx 12 (by decide)
  change OfTy tyR .str k0 at h0;change OfTy tyR (.slice tyCo) k1 at h1;change OfTy tyR (.slice [.int .i64]) k2 at h2;change OfTy tyR (.slice tyFo) k3 at h3;change OfTy tyR .mu k4 at h4;change OfTy tyR .str k5 at h5;change OfTy tyR (.slice tyCo) k6 at h6;change OfTy tyR (.slice [.int .i64]) k7 at h7;change OfTy tyR (.slice tyFo) k8 at h8;change OfTy tyR .mu k9 at h9;change OfTy tyR (.int .i64) k10 at Q;change OfTy tyR (.slice tyF) k11 at J;change OfTy tyR (.slice tyF) k12 at q;obtain ⟨l1,rfl,_,_⟩:=xfS (es:=tyCo) xDv h1;obtain ⟨l2,rfl,_,_⟩:=xfS (es:=[.int .i64]) xyU h2;obtain ⟨l3,rfl,_,_⟩:=xfS (es:=tyFo) xE4 h3;obtain ⟨l4,rfl,x4⟩:=xCV h4;obtain ⟨l6,rfl,_,_⟩:=xfS (es:=tyCo) xDv h6;obtain ⟨l7,rfl,_,_⟩:=xfS (es:=[.int .i64]) xyU h7;obtain ⟨l8,rfl,_,_⟩:=xfS (es:=tyFo) xE4 h8;obtain ⟨l9,rfl,x9⟩:=xCV h9;obtain ⟨U,rfl,_,W⟩:=xfS (es:=tyF) xDw J;obtain ⟨Y,rfl,_,V⟩:=xfS (es:=tyF) xDw q;cases h0 with
  | str s0 _=>cases h5 with
   | str s5 _=>cases Q with
    | int _ n10 _=>exact ⟨⟨⟨s0,l1,l2,l3,l4⟩,⟨s5,l6,l7,l8,l9⟩,n10,U,Y⟩,h,fun μ hμ=>hB μ hμ,x4,x9,W,V⟩
end
theorem M.cas_wt (c:M.Cas) (hw:c.wf) {r:Nat} (hb:(AV.agg [.str c.t.n,.list 3 (c.t.cols.map M.xLM),.list 1 (c.t.key.map M.encN),.list 2 (c.t.fos.map M.xLN),.list 7 c.t.chk,.str c.p.n,.list 3 (c.p.cols.map M.xLM),.list 1 (c.p.key.map M.encN),.list 2 (c.p.fos.map M.xLN),.list 7 c.p.chk,.int .i64 c.ix,.list 3 (c.fa.map M.encF),.list 3 (c.ke.map M.encF)]).wt+r<=1048576):c.t.Ok/\c.p.Ok/\M.FOk c.fa/\M.FOk c.ke:=by
 have hs:(AV.agg [.str c.t.n,.list 3 (c.t.cols.map M.xLM),.list 1 (c.t.key.map M.encN),.list 2 (c.t.fos.map M.xLN),.list 7 c.t.chk,.str c.p.n,.list 3 (c.p.cols.map M.xLM),.list 1 (c.p.key.map M.encN),.list 2 (c.p.fos.map M.xLN),.list 7 c.p.chk,.int .i64 c.ix,.list 3 (c.fa.map M.encF),.list 3 (c.ke.map M.encF)]).wt=AV.wts [.str c.t.n,.list 3 (c.t.cols.map M.xLM),.list 1 (c.t.key.map M.encN),.list 2 (c.t.fos.map M.xLN),.list 7 c.t.chk]+(AV.wts [.str c.p.n,.list 3 (c.p.cols.map M.xLM),.list 1 (c.p.key.map M.encN),.list 2 (c.p.fos.map M.xLN),.list 7 c.p.chk]+(1+(AV.wts (c.fa.map M.encF)+1+(AV.wts (c.ke.map M.encF)+1+0)))):=by
  simp only [AV.wt,AV.wts];omega
 obtain ⟨h1,h2,h3,h4⟩:=hw;exact ⟨M.tab_ok c.t (by omega) h1,M.tab_ok c.p (by omega) h2,M.fok_wt (by omega) h3,M.fok_wt (by omega) h4⟩
end Go.Sim
end
noncomputable section
set_option maxRecDepth 100000
namespace Go.Sim.M
open Go.RowKit Go.Sim.Srt
theorem xGO (p:Tab) (hp:p.Ok) (f:Fo) (hf:f.cols.length<=1048576) (fa ke:List Fc) (q:FOk fa) (J:FOk ke) (fl:fa.length<=14) (fr:∀ f,f∈fa->f.r.length<=60) (kl:ke.length<=14) :
  ∃ B M:List Fc,xe1 (f.cols.map encN) f.t (fa.map encF) p.n (p.cols.map xLM) (p.key.map encN) (p.fos.map xLN) p.chk (ke.map encF)=some (B.map encF)/\xrl (f.cols.map encN) f.t (fa.map encF) p.n (p.cols.map xLM) (p.key.map encN) (p.fos.map xLN) p.chk (ke.map encF)=some (B.map encF)/\xLY M B/\IsMiss f.cols p.key fa ke M:=by
 obtain ⟨B,M,b1,b2,b3⟩:=xC4 f.cols p.key f.t p.n (p.cols.map xLM) (p.fos.map xLN) p.chk hf hp.key fa ke fl (by omega) fr q.txt J.txt
 obtain ⟨B',M',c1,c2,c3⟩:=xIP f.cols p.key f.t p.n (p.cols.map xLM) (p.fos.map xLN) p.chk hf hp.key fa ke fl kl fr;obtain rfl:B=B':=b2.unique c2 fun r t=>by rw [b3.cnt,c3.cnt]
 exact ⟨B,M,b1,c1,b2,b3⟩
theorem FOk.take {l:List Fc} (h:FOk l) (n:Nat):FOk (l.take n):=⟨by rw [zt];have:=h.len;omega,fun f hf=>h.row f (List.mem_of_mem_take hf),fun f hf=>h.txt f (List.mem_of_mem_take hf)⟩
theorem xIi (c_0:List UInt8) (c_1 c_2 c_3 c_4:List AV) (ix:Int) (f_0:List AV) (f_1:List UInt8) (p:Tab) (hk:p.key.length<=1048576) (fa:List AV) (ke:List Fc) (hl:ke.length<=14) (K:Row) (q:Per) (S:Fc->List Per)
  (hS:∀ y,y∈ke->xdu [AV.agg [.int .i64 y.p.1,.int .i64 y.p.2]] [AV.agg [.int .i64 q.1,.int .i64 q.2]]=some ((S y).map encP)/\(S y).length<=2) :
  Iter (xaR c_0 c_1 c_2 c_3 c_4 p.n (p.cols.map xLM) (p.key.map encN) (p.fos.map xLN) p.chk ix fa (ke.map encF) q.1 q.2 f_0 f_1 (K.map encV)) ((0:Nat),(0:Int),[])=some ((xL5 p.key K S ke).length,(xL5 p.key K S ke).map encF):=by
 refine xkP (step:=xaR c_0 c_1 c_2 c_3 c_4 p.n (p.cols.map xLM) (p.key.map encN) (p.fos.map xLN) p.chk ix fa (ke.map encF) q.1 q.2 f_0 f_1 (K.map encV)) ke (fun y=>if decide (pick y.r p.key=K)=true then mk y.r (S y) else [y]) (fun n D=>(D.length,(n:Int),D.map encF)) (fun D=>(D.length,D.map encF)) [] 2 (fun y hy=>?_) (fun n h D hD=>?_) (fun D=>?_)
 . split
   . rw [mk,za];exact (hS y hy).2
   . simp
 . have h1:(n:Int)<(ke.length:Int):=by omega
   rw [List.length_nil,zH] at hD;have gf:(ke.map encF).getD n .top=encF ke[n]:=xaa _ _ _ h;have e1:=xyO p.n (p.cols.map xLM) (p.fos.map xLN) p.chk p.key ke[n].r hk;have e2:=xp5 (pick ke[n].r p.key) K (by rw [xsi];simp only [maxLen];omega)
   obtain ⟨s1,s2⟩:=hS ke[n] (zo h);have hd:=xuV ke[n].r (S ke[n]) (by omega)
   have ml:(mk ke[n].r (S ke[n])).length<=2:=by rw [mk,za];exact s2
   have m1:(D.length+(mk ke[n].r (S ke[n])).length)*40<=140737488355328:=by omega
   have m2:D.length+(mk ke[n].r (S ke[n])).length<=4611686018427387904:=by omega
   have m3:(D.length+1)*40<=140737488355328:=by omega
   have m4:D.length+1<=4611686018427387904:=by omega
   simp only [xaR,xdN,xa6,xa7,xdc,xbP,xdd,xde,xdf,sBU,h,h1,gf,cF0,cF1,cF2,sF0,sF1,sF2,lF,sF12,sF02,e1,e2,cmp0,s1,hd,m1,m2,m3,m4,xLP (n:=n) (by omega)]
   by_cases hc:pick ke[n].r p.key=K
   . simp [hc,xab,sUF]
   . simp [hc,xac,encF,sUF]
 . simp only [xaR,xdN,xa6,xa7,xdc,xbP,xdd,xde,xdf,za,zy,zm,xac,sUF]
theorem xDX (t p:Tab) (ht:t.Ok) (hp:p.Ok) (ix:Int) (fa ke:List Fc) (hf:FOk fa) (hk:FOk ke) (n:Int) (q:Per):xiW t.n (t.cols.map xLM) (t.key.map encN) (t.fos.map xLN) t.chk p.n (p.cols.map xLM) (p.key.map encN) (p.fos.map xLN) p.chk ix (fa.map encF) (ke.map encF) n q.1 q.2=some true:=by
 obtain ⟨b,be,hb⟩:=xHo t p ht hp ix fa ke hf hk;unfold xiW xhn;simp only [be,zk,zh,xab,sUF];cases b with
 | false=>rfl
 | true =>
  obtain ⟨lo,hi,fl,fr,kl,kr⟩:=hb rfl;obtain ⟨i,rfl⟩:∃ i:Nat,ix=(i:Int):=⟨ix.toNat,by omega⟩
  have i3:i<t.fos.length:=by omega
  have gt:(t.fos.map xLN).getD i .top=xLN t.fos[i]:=xaa _ _ _ i3;have J:=(ht.fc _ (zo i3)).1;simp only [za,Bool.not_true,xac,sUF];by_cases n1:n<0
  . simp only [n1,zn,xab,sUF]
  by_cases n2:n>=(ke.length:Int)
  . simp only [n1,n2,zn,zm,xab,xac,sUF]
  obtain ⟨m,rfl⟩:∃ m:Nat,n=(m:Int):=⟨n.toNat,by omega⟩
  have m1:m<ke.length:=by omega
  have m2:(m:Int)<(ke.length:Int):=by omega
  have gk:(ke.map encF).getD m .top=encF ke[m]:=xaa _ _ _ m1;have U:=xyO p.n (p.cols.map xLM) (p.fos.map xLN) p.chk p.key ke[m].r hp.key;obtain ⟨B,M,b1,b2,b3,b4⟩:=xGO p hp t.fos[i] J fa ke hf hk fl fr kl;have hh:=xCE b1;have Q:∀ y,y∈ke->∃ A:List Per,(xdu [AV.agg [.int .i64 y.p.1,.int .i64 y.p.2]] [AV.agg [.int .i64 q.1,.int .i64 q.2]]=some (A.map encP)/\A.length<=2)/\IsSpan A/\∀ t,inL A t=(hasP y.p t&&!hasP q t):=fun y _=>by
   obtain ⟨A,a1,a2,a3,_⟩:=xu3 [y.p] [q] (by simp) (by simp)
   have a3:∀ t,inL A t=(hasP y.p t&&!hasP q t):=fun t=>by rw [a3,xf2,xd3,xf2,xd3,Bool.or_false,Bool.or_false]
   exact ⟨A,⟨a1,xIt a2 a3⟩,a2,a3⟩
  obtain ⟨S,hS⟩:=xtA Q;have lp:=xIi t.n (t.cols.map xLM) (t.key.map encN) (t.fos.map xLN) t.chk (i:Int) (t.fos[i].cols.map encN) t.fos[i].t p hp.key (fa.map encF) ke kl (pick ke[m].r p.key) q S (fun y hy=>(hS y hy).1)
  obtain ⟨C,c1,c2⟩:=xJS t.fos[i].cols t.fos[i].t J fa fl fr hf.txt (pick ke[m].r p.key) q;have ll:=xHk (key:=p.key) (K:=pick ke[m].r p.key) (S:=S) (pl:=ke) fun y hy=>(hS y hy).1.2
  obtain ⟨B',M',d1,d2,d3⟩:=xC4 t.fos[i].cols p.key t.fos[i].t p.n (p.cols.map xLM) (p.fos.map xLN) p.chk J hp.key fa (xL5 p.key (pick ke[m].r p.key) S ke) fl (by omega) fr hf.txt (fun f hf=>by
   obtain ⟨y,y1,y2⟩:=y6.1 hf;have e:f.r=y.r:=by
    split at y2
    . obtain ⟨_,_,rfl⟩:=zK.1 y2;rfl
    . rw [zv] at y2;rw [y2]
   rw [e];exact hk.txt y y1)
  have dh:=xCE d1;have tt:List.take (xL5 p.key (pick ke[m].r p.key) S ke).length ((xL5 p.key (pick ke[m].r p.key) S ke).map encF)=(xL5 p.key (pick ke[m].r p.key) S ke).map encF:=zi (by simp)
  have O:B=[]->C=[]->B'=[]:=fun h1 h2=>(xCU d3 d2).2 (xHl (fun y hy=>(hS y hy).2) ((xCU b4 b3).1 h1) (xIj c2 h2))
  simp only [xgo,xgp,xgq,xgr,xgs,xgt,sBU,n1,n2,m1,m2,lo,hi,i3,gt,gk,cF0,cF1,cF2,sF0,sF1,sF2,lF,sF12,sF02,cFo0,cFo1,lFo,sFo,toLv,toSv,U,lp,hh,c1,zd,zr,tt,dh];by_cases h1:B=[]
  . by_cases h2:C=[]
    . have h3:=O h1 h2;have c0:¬ ((C.length:Nat):Int)>0:=by simp [h2]
      simp only [h1,h3,c0,zn,zm,Bool.not_true,xab,xac,sUF]
    . have:((C.length:Nat):Int)>0:=by have:=List.length_pos_iff.2 h2;omega
      simp only [h1,this,zn,Bool.not_true,xab,xac,sUF]
  . simp only [h1,zm,Bool.not_false,xab,sUF]
end Go.Sim.M
end
noncomputable section
set_option maxRecDepth 10000
namespace Go.Sim
open Go.RowKit
theorem M.card_deletes (c:M.Cas) (a:Int) (q:M.Per) (w0:c.wf) (_:I64 a) (_:M.PerWf q) (hb:(AV.agg [.str c.t.n,.list 3 (c.t.cols.map M.xLM),.list 1 (c.t.key.map M.encN),.list 2 (c.t.fos.map M.xLN),.list 7 c.t.chk,.str c.p.n,.list 3 (c.p.cols.map M.xLM),.list 1 (c.p.key.map M.encN),.list 2 (c.p.fos.map M.xLN),.list 7 c.p.chk,.int .i64 c.ix,.list 3 (c.fa.map M.encF),.list 3 (c.ke.map M.encF)]).wt+(AV.int .i64 a).wt+(AV.agg [.int .i64 q.1,.int .i64 q.2]).wt<=1048576):M.xiW c.t.n (c.t.cols.map M.xLM) (c.t.key.map M.encN) (c.t.fos.map M.xLN) c.t.chk c.p.n (c.p.cols.map M.xLM) (c.p.key.map M.encN) (c.p.fos.map M.xLN) c.p.chk c.ix (c.fa.map M.encF) (c.ke.map M.encF) a q.1 q.2=some true :=
 M.xDX c.t c.p (M.cas_wt c w0 (by rw [Nat.add_assoc] at hb;exact hb)).1 (M.cas_wt c w0 (by rw [Nat.add_assoc] at hb;exact hb)).2.1 c.ix c.fa c.ke (M.cas_wt c w0 (by rw [Nat.add_assoc] at hb;exact hb)).2.2.1 (M.cas_wt c w0 (by rw [Nat.add_assoc] at hb;exact hb)).2.2.2 a q
end Go.Sim
end
