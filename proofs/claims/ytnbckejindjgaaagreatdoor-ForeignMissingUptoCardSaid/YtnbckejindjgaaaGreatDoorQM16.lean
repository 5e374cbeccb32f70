/- Part 16 of the proof of the law. -/
import Derived.Test.YtnbckejindjgaaaGreatDoorQM15
import Derived.Lib.ItoaLen
set_option linter.unusedVariables false
set_option linter.unusedSimpArgs false
set_option linter.unusedSectionVars false
noncomputable section
set_option maxRecDepth 100000
namespace Go.Sim.M
open Go.RowKit Go.Sim.Srt
def rdD (l:List UInt8):Nat:=l.foldl (fun a c=>a*10+(c.toNat - 48)) 0
theorem xFT (u:Nat):∀ c,c∈Lib.decDigits u->48<=c.toNat/\c.toNat<=57:=by
 induction u using Nat.strongRecOn with
 | _ u ih =>
  intro c hc;rw [Lib.decDigits] at hc;split at hc
  . rw [zv] at hc;subst hc;rw [UInt8.toNat_ofNat'];omega
  . rw [zG,zv] at hc;rcases hc with hc|rfl
    . exact ih (u / 10) (by omega) c hc
    . rw [UInt8.toNat_ofNat'];omega
theorem xJa (u:Nat):rdD (Lib.decDigits u)=u:=by
 induction u using Nat.strongRecOn with
 | _ u ih =>
  rw [Lib.decDigits];split
  . simp only [rdD,List.foldl_cons,List.foldl_nil,UInt8.toNat_ofNat'];omega
  . have:=ih (u / 10) (by omega)
    unfold rdD at this |-;rw [List.foldl_append,this];simp only [List.foldl_cons,List.foldl_nil,UInt8.toNat_ofNat'];omega
theorem xFU {u v:Nat} (h:Lib.decDigits u=Lib.decDigits v):u=v:=by rw [<-xJa u,h,xJa]
theorem xzv {a b:Int} (h:Lib.itoa a=Lib.itoa b):a=b:=by
 unfold Lib.itoa at h;have k:∀ u v:Nat,45::Lib.decDigits u≠Lib.decDigits v:=fun u v e=>by
  have:=xFT v 45 (by rw [<-e];simp)
  have t:(45:UInt8).toNat=45:=rfl;omega
 split at h<;>split at h
 . have:=xFU (List.cons.inj h).2;omega
 . exact absurd h (k _ _)
 . exact absurd h.symm (k _ _)
 . have:=xFU h;omega
theorem xs4 (a:Int):(32:UInt8)∉Lib.itoa a:=by
 have k:∀ v:Nat,(32:UInt8)∉Lib.decDigits v:=fun v e=>by
  have:=xFT v 32 e;have t:(32:UInt8).toNat=32:=rfl;omega
 unfold Lib.itoa;split
 . rw [zC];rintro (h|h)
   . simp at h
   . exact k _ h
 . exact k _
theorem xAc:∀ {a b x y:List UInt8},(32:UInt8)∉a->(32:UInt8)∉b->a++32::x=b++32::y->a=b/\x=y
 | [],[],x,y,_,_,h=>⟨rfl,(List.cons.inj h).2⟩
 | [],c::b,x,y,_,hb,h=>absurd (List.cons.inj h).1 fun e=>hb (by rw [e];simp)
 | c::a,[],x,y,ha,_,h=>absurd (List.cons.inj h).1 fun e=>ha (by rw [<-e];simp)
 | c::a,d::b,x,y,ha,hb,h=>by
  obtain ⟨e1,h⟩:=List.cons.inj h;obtain ⟨e2,e3⟩:=xAc (a:=a) (b:=b) (fun e=>ha (by simp [e])) (fun e=>hb (by simp [e])) h
  exact ⟨by rw [e1,e2],e3⟩
def keyV (v:Val):List UInt8:=Lib.itoa v.k++32::(Lib.itoa v.i++32::(Lib.itoa (v.t.length:Int)++32::v.t))
def keyOf (r:Row):List UInt8:=r.flatMap keyV
theorem xzy (v:Val) (s:List UInt8):keyV v++s=Lib.itoa v.k++32::(Lib.itoa v.i++32::(Lib.itoa (v.t.length:Int)++32::(v.t++s))):=by simp [keyV]
theorem xlM (v:Val) (r:Row):keyOf (v::r)=keyV v++keyOf r:=by simp [keyOf]
theorem xBl (v:Val) (s:List UInt8):keyV v++s≠[]:=by rw [xzy];simp
theorem xBm:∀ {r r':Row},keyOf r=keyOf r'->r=r'
 | [],[],_=>rfl
 | [],v::r',h=>by rw [xlM] at h;exact absurd h.symm (xBl _ _)
 | v::r,[],h=>by rw [xlM] at h;exact absurd h (xBl _ _)
 | v::r,v'::r',h=>by
  rw [xlM,xlM,xzy,xzy] at h;obtain ⟨h1,h⟩:=xAc (xs4 _) (xs4 _) h;obtain ⟨h2,h⟩:=xAc (xs4 _) (xs4 _) h;obtain ⟨h3,h⟩:=xAc (xs4 _) (xs4 _) h;have h3:=xzv h3;obtain ⟨h4,h⟩:=List.append_inj h (by omega)
  obtain rfl:=xBm h;have:v=v':=by
   obtain ⟨k,i,t⟩:=v;obtain ⟨k',i',t'⟩:=v';obtain rfl:=xzv h1;obtain rfl:=xzv h2;subst h4;rfl
  rw [this]
theorem xNR {n:Int} (h:(Lit.int .i64 n).wf=true):-9223372036854775808<=n/\n<=9223372036854775807:=by
 have h:(decide ((IntKind.i64).min<=n)&&decide (n<=(IntKind.i64).max))=true:=h;rw [zf,zl,zl] at h;exact h
theorem xzz {v:Val} (hw:v.wf) (ht:v.t.length<=1099511627776):(keyV v).length<=66+v.t.length:=by
 obtain ⟨w1,w2,_⟩:=hw;have a1:=Lib.itoa_length_le v.k (xNR w1).1 (xNR w1).2;have a2:=Lib.itoa_length_le v.i (xNR w2).1 (xNR w2).2;have a3:=Lib.itoa_length_le (v.t.length:Int) (by omega) (by omega)
 simp only [keyV,z8,zF];omega
theorem xBG (s B:List UInt8) (h:(B++s).length<=140737488355328):xaj s B.length (byteAVs B)=some ((s.length:Int),(B++s).length,byteAVs (B++s)):=by
 rw [z8] at h;have h2:B.length+s.length<=4611686018427387904:=by omega
 unfold xaj xdF;simp only [xlK,beq_self_eq_true,Nat.mul_one,h,h2,zn,Bool.and_self,xab,xvs,z8,sUF]
theorem xEL (B:List UInt8) (h:(B++[32]).length<=140737488355328):xc0 32 B.length (byteAVs B)=some ((B++[32]).length,byteAVs (B++[32])):=by
 rw [z8,zj] at h;have h2:B.length+1<=4611686018427387904:=by omega
 unfold xc0 xea;simp only [xlK,beq_self_eq_true,Nat.mul_one,h,h2,zn,Bool.and_self,xab,xvs,z8,zj,sUF];rfl
def numI (n:Int):List UInt8:=Lib.itoa n++[32]
theorem xGY (t8:List AV) (t9 q:Int) (xs:List AV) (hx:xs.length=3) (j:Nat) (hj:j<3) (n:Int) (hn:xs.getD j .top=.int .i64 n) (h1:-9223372036854775808<=n) (h2:n<=9223372036854775807) (v0 v1:Int) (v2 B:List UInt8) (hB:B.length<=70368744177664) :
  xaS t8 t9 q 3 3 ((j:Int),B.length,v0,v1,v2,xs,byteAVs B)=some (.inl (((j+1:Nat):Int),(B++numI n).length,v0,v1,v2,xs,byteAVs (B++numI n))):=by
 have hl:=Lib.itoa_length_le n h1 h2;have i1:(j:Int)<3:=by omega
 have i2:(j:Int)<((3:Nat):Int):=by omega
 have i3:j<xs.length:=by omega
 have e1:=xBG (Lib.itoa n) B (by rw [z8];omega)
 have e2:=xEL (B++Lib.itoa n) (by rw [z8,z8,zj];omega)
 have hc:((AV.int IntKind.i64 n).cells.getD 0 .top).toInt=n:=rfl;have hs:xOq (Sh.int IntKind.i64) ((AV.int IntKind.i64 n).cells.getD 0 .top)=true:=rfl;simp only [xaS,xhX,xk5,xk6,xk7,xe0,sBU,i1,i2,i3,hn,hc,hs,h1,h2,e1,e2,xNw (n:=j) (by omega),numI,zw]
theorem xLh (t8:List AV) (t9 q:Int) (xs:List AV) (v0 v1:Int) (v2 B:List UInt8):xaS t8 t9 q 3 3 (((3:Nat):Int),B.length,v0,v1,v2,xs,byteAVs B)=some (.inr (B.length,v0,v1,v2,byteAVs B)):=by
 have i1:¬ ((3:Nat):Int)<3:=by omega
 simp only [xaS,xhX,i1,zm,xac,sUF]
theorem xzA (v:Val):keyV v=numI v.k++(numI v.i++(numI (v.t.length:Int)++v.t)):=by simp [keyV,numI]
def KOk (v:Val):Prop:=v.wf/\v.t.length<=1099511627776
theorem KOk.len {v:Val} (h:KOk v):(keyV v).length<=1099511627842:=by have:=xzz h.1 h.2;have:=h.2;omega
theorem xF5 (t8:List AV) (t9 q:Int) (v:Val) (h:KOk v) (B:List UInt8) (hB:B.length<=35184372088832) :
  Iter (xaS t8 t9 q 3 3) ((1:Int),(B++numI v.k).length,v.k,v.i,v.t,[AV.int .i64 v.k,AV.int .i64 v.i,AV.int .i64 (v.t.length:Int)],byteAVs (B++numI v.k))=some ((B++numI v.k++numI v.i++numI (v.t.length:Int)).length,v.k,v.i,v.t,byteAVs (B++numI v.k++numI v.i++numI (v.t.length:Int))):=by
 have hl:=h.len;have ht:=h.2;rw [xzA,z8,z8,z8] at hl;have e1:=xGY t8 t9 q [AV.int .i64 v.k,AV.int .i64 v.i,AV.int .i64 (v.t.length:Int)] rfl 1 (by omega) v.i rfl (xNR h.1.2.1).1 (xNR h.1.2.1).2 v.k v.i v.t (B++numI v.k) (by rw [z8];omega)
 have e2:=xGY t8 t9 q [AV.int .i64 v.k,AV.int .i64 v.i,AV.int .i64 (v.t.length:Int)] rfl 2 (by omega) (v.t.length:Int) rfl (by omega) (by omega) v.k v.i v.t (B++numI v.k++numI v.i) (by rw [z8,z8];omega)
 exact (xak e1).trans ((xak e2).trans (xad (xLh ..)))
theorem xMQ (t8:List AV) (t9 q:Int) (v:Val) (h:KOk v) (B:List UInt8) (hB:B.length<=35184372088832) :
  Iter (xaS t8 t9 q 3 3) ((0:Int),B.length,v.k,v.i,v.t,[AV.int .i64 v.k,AV.int .i64 v.i,AV.int .i64 (v.t.length:Int)],byteAVs B)=some ((B++numI v.k++numI v.i++numI (v.t.length:Int)).length,v.k,v.i,v.t,byteAVs (B++numI v.k++numI v.i++numI (v.t.length:Int))):=by
 have e0:=xGY t8 t9 q [AV.int .i64 v.k,AV.int .i64 v.i,AV.int .i64 (v.t.length:Int)] rfl 0 (by omega) v.k rfl (xNR h.1.1).1 (xNR h.1.1).2 v.k v.i v.t B (by omega)
 exact (xak e0).trans (xF5 t8 t9 q v h B hB)
theorem xIS (r:Row) (hr:r.length<=1048576) (h:∀ v,v∈r->KOk v) (hk:(keyOf r).length<=17592186044416):∀ d k:Nat,k+d=r.length->Iter (xcN (r.map encV) ((r.length:Nat):Int)) ((k:Int),(keyOf (r.take k)).length,byteAVs (keyOf (r.take k)))=some ((keyOf r).length,byteAVs (keyOf r))
 | 0,k,hkk=>by
  obtain rfl:k=r.length:=by omega
  rw [y4];refine xad ?_;simp only [xcN,xhW,zy,zm,xac,sUF]
 | d+1,k,hkk=>by
  have q:k<r.length:=by omega
  have hv:=h r[k] (zo q);have i1:(k:Int)<(r.length:Int):=by omega
  have gf:(r.map encV).getD k .top=encV r[k]:=xaa _ _ _ q;have tk:keyOf (r.take (k+1))=keyOf (r.take k)++keyV r[k]:=by
   unfold keyOf;rw [List.take_add_one,ze q,List.flatMap_append];simp
  have le:(keyOf (r.take (k+1))).length<=(keyOf r).length:=by
   conv=>rhs;rw [<-List.take_append_drop (k+1) r]
   unfold keyOf;rw [List.flatMap_append,z8];omega
  have hl:=hv.len;rw [tk,z8] at le;have e1:=xMQ (r.map encV) (r.length:Int) (k:Int) r[k] hv (keyOf (r.take k)) (by omega)
  have kn:keyOf (r.take k)++keyV r[k]=keyOf (r.take k)++numI r[k].k++numI r[k].i++numI (r[k].t.length:Int)++r[k].t:=by rw [xzA];simp only [zw]
  have e2:=xBG r[k].t (keyOf (r.take k)++numI r[k].k++numI r[k].i++numI (r[k].t.length:Int)) (by rw [<-kn,z8];omega)
  rw [xak (s':=(((k+1:Nat):Int),(keyOf (r.take (k+1))).length,byteAVs (keyOf (r.take (k+1))))) ?_]
  . exact xIS r hr h hk d (k+1) (by omega)
  . rw [tk,kn];simp only [xcN,xhW,xk0,xk1,xk2,xk3,xk4,sBU,q,i1,gf,cV0,cV1,cV2,lV,sV,e1,e2,xNw (n:=k) (by omega)]
theorem xIT (r:Row) (hr:r.length<=1048576) (h:∀ v,v∈r->KOk v) (hk:(keyOf r).length<=17592186044416):xif (r.map encV)=some (keyOf r):=by
 match r with
 | []=>rfl
 | v::t =>
  have hv:=h v (by simp)
  have hl:=hv.len;have i1:(0:Int)<((t.length+1:Nat):Int):=by omega
  have i2:0<t.length+1:=by omega
  obtain ⟨r1,r2⟩:=xNR hv.1.1;have q:=Lib.itoa_length_le v.k r1 r2;have gf:((v::t).map encV).getD 0 .top=encV v:=rfl;have e0:xar (Lib.itoa v.k)=some (((Lib.itoa v.k).length:Int),(Lib.itoa v.k).length,byteAVs (Lib.itoa v.k)):=by
   have m1:(Lib.itoa v.k).length<=140737488355328:=by omega
   have m2:(Lib.itoa v.k).length<=4611686018427387904:=by omega
   unfold xar xdx;simp only [xlK,Nat.mul_one,m1,m2,zn,Bool.and_self,xab,sUF]
  have e1:xeT 32 (Lib.itoa v.k).length (byteAVs (Lib.itoa v.k))=some (([]++numI v.k).length,byteAVs ([]++numI v.k)):=xEL (Lib.itoa v.k) (by rw [z8,zj];omega)
  have e2:=xF5 ((v::t).map encV) ((t.length+1:Nat):Int) 0 v hv [] (by simp)
  have kn:keyV v=[]++numI v.k++numI v.i++numI (v.t.length:Int)++v.t:=by rw [xzA];simp
  have e3:=xBG v.t ([]++numI v.k++numI v.i++numI (v.t.length:Int)) (by rw [<-kn];omega)
  rw [<-kn] at e3;have e4:=xIS (v::t) hr h hk t.length 1 (by rw [zF];omega)
  have tk:keyOf ((v::t).take 1)=keyV v:=by simp [keyOf]
  rw [tk,zF] at e4;have e4:Iter (xcN ((v::t).map encV) ((t.length+1:Nat):Int)) ((1:Int),(keyV v).length,byteAVs (keyV v))=_:=e4;have hne:(keyOf (v::t)).length≠0:=fun e=>xBl v (keyOf t) (by rw [<-xlM];exact List.length_eq_zero_iff.1 e)
  unfold xif xp1 xg5 xoa xob xoc xod xoe xof xog xoh xoi xcu;simp only [za,zF,i1,i2,gf,cV0,cV1,cV2,lV,sV,r1,r2,e0,e1,e2,e3,e4,zn,xab,Bool.and_self,beq_self_eq_true,zk,zh,xlK,xAn,xC4,ne_eq,hne,not_false_eq_true,sUF]
end Go.Sim.M
end
noncomputable section
set_option maxRecDepth 100000
namespace Go.Sim.M
open Go.RowKit
theorem xlh {σ ρ α β:Type} {step:σ->Option (σ⊕ρ)} (l:List α) (g:α->List β) (st:Nat->List β->σ) (rr:List β->ρ) (D0:List β) (c:Nat) (hc:∀ a,a∈l->(g a).length<=c)
  (hs:∀ (n:Nat) (h:n<l.length) (D:List β),D.length<=D0.length+c*n->step (st n D)=some (.inl (st (n+1) (D++g l[n]))))
  (he:∀ D:List β,step (st l.length D)=some (.inr (rr D))):Iter step (st 0 D0)=some (rr (D0++l.flatMap g)):=by
 have key:∀ (d n:Nat) (D:List β),n+d=l.length->D.length<=D0.length+c*n->Iter step (st n D)=some (rr (D++(l.drop n).flatMap g)):=by
  intro d;induction d with
  | zero =>
   intro n D h hD;have:n=l.length:=by omega
   subst this;rw [zq (zd _),List.flatMap_nil,zD];exact xad (he D)
  | succ d ih =>
   intro n D h hD;have hn:n<l.length:=by omega
   have h2:(D++g l[n]).length<=D0.length+c*(n+1):=by
    rw [z8,Nat.mul_add,Nat.mul_one];have:=hc l[n] (zo hn);omega
   rw [xak (hs n hn D hD),ih (n+1) (D++g l[n]) (by omega) h2,xaC hn,zR,zw]
 have:=key l.length 0 D0 (by omega) (by simp)
 simpa using this
theorem xyV {α β:Type} [Nonempty β] {l:List α} {Q:α->β->Prop} (h:∀ a,a∈l->∃ b,Q a b):∃ L:α->β,∀ a,a∈l->Q a (L a):=by
 classical
 refine ⟨fun a=>if ha:a∈l then (h a ha).choose else Classical.choice inferInstance,fun a ha=>?_⟩
 simp only [dif_pos ha];exact (h a ha).choose_spec
theorem xDM {α β:Type} (g:α->List β) (f:α->β) (p:α->Bool) (h:∀ a,g a=if p a=true then [f a] else []):∀ l:List α,l.flatMap g=(l.filter p).map f
 | []=>rfl
 | a::l=>by
  rw [zR,xDM g f p h l,h a,List.filter_cons];cases p a<;>simp
theorem xGf (row:Row) (i:Int):xjm (row.map encV) i=some (trip (atV row i)):=xDt row i
theorem xyf (row:Row) (l:List Int) (hl:l.length<=1048576):Iter (xdK (row.map encV) (l.map encN)) ((0:Nat),(0:Int),[])=some ((l.flatMap (fun (f:Int)=>[atV row f])).length,(l.flatMap (fun (f:Int)=>[atV row f])).map encV):=by
 refine xhK l (fun (f:Int)=>[atV row f]) encV 1 (fun f hf=>?_) (fun n h D hD=>?_) (fun D=>?_)
 . simp
 . have h1:(n:Int)<(l.length:Int):=by omega
   have m1:(D.length+1)*32<=140737488355328:=by omega
   have m2:D.length+1<=4611686018427387904:=by omega
   have gf:(l.map encN).getD n .top=encN l[n]:=xaa _ _ _ h;simp only [xdK,xkH,xjp,xjq,sBU,h,h1,gf,cN,sN,xGf,trip,m1,m2,xNw (n:=n) (by omega)]
   simp [encV]
 . simp only [xdK,xkH,xjp,xjq,za,zy,zm,xac,sUF]
theorem xCw (row:Row) (ks:List Int) (hk:ks.length<=1048576):xjo (row.map encV) (ks.map encN)=some ((pick row ks).map encV):=by
 have e:=xyf row ks hk;rw [xNP] at e;change Iter _ _=some ((pick row ks).length,(pick row ks).map encV) at e;have tt:List.take (pick row ks).length ((pick row ks).map encV)=(pick row ks).map encV:=zi (by simp)
 unfold xjo xtt;simp only [xrV,xrW,xrX,za,e,zn,zS,xab,zk,zh,zH,zr,tt,zd,sUF]
theorem xKq (row:Row) (ks:List Int) (hk:ks.length<=1048576):xm1 (row.map encV) (ks.map encN)=some (xNG row ks):=by
 have e:=xuk (step:=xa4 (row.map encV) (ks.map encN)) ks (fun k=>(k:Int)) (fun i=>br ((atV row i).k==0) (some (true,true,())) none) (false,false,()) (fun k h=>by
  have h1:(k:Int)<(ks.length:Int):=by omega
  have gf:(ks.map encN).getD k .top=encN ks[k]:=xaa _ _ _ h;simp only [xa4,xhj,sBU,h,h1,gf,cN,sN,xGf,trip,xBu,xup,xuo,xNw (n:=k) (by omega)]) (by
  simp only [xa4,xhj,za,zy,zm,xac,sUF]) ks.length 0 (by simp)
 rw [zr,xzr] at e;have e:Iter (xa4 (row.map encV) (ks.map encN)) (0:Int)=_:=e;unfold xm1 xoR;rw [e];show _=some (ks.any fun i=>(atV row i).k==0)
 cases ks.any fun i=>(atV row i).k==0<;>rfl
theorem xKn (n:List UInt8) (cs fs ck:List AV) (key:List Int) (row:Row) (hk:key.length<=1048576):xrA n cs (key.map encN) fs ck (row.map encV)=some ((pick row key).map encV):=by
 unfold xrA xu9;rw [xCw row key hk];rfl
theorem xJe (cols:List Int) (t:List UInt8) (row:Row) (hk:cols.length<=1048576):xpr (cols.map encN) t (row.map encV)=some (!xNG row cols):=by
 unfold xpr xqY;rw [xKq row cols hk];rfl
def Txt (r:Row):Prop:=∀ v,v∈r->v.wf/\v.t.length<=8388608
theorem Txt.at {r:Row} (h:Txt r) (i:Int):(atV r i).wf/\(atV r i).t.length<=8388608:=by
 unfold atV;split
 . exact ⟨⟨by decide,by decide,by simp [maxLen]⟩,by simp⟩
 . rw [z7];cases hg:r[i.toNat]? with
   | none=>exact ⟨⟨by decide,by decide,by simp [maxLen]⟩,by simp⟩
   | some v=>exact h v (List.mem_of_getElem? hg)
theorem xEe {r:Row} {ks:List Int} {v:Val} (h:v∈pick r ks):∃ i,i∈ks/\v=atV r i:=by
 obtain ⟨i,hi,e⟩:=zK.1 h;exact ⟨i,hi,e.symm⟩
theorem Txt.kok {r:Row} (h:Txt r) (ks:List Int):∀ v,v∈pick r ks->KOk v:=fun v hv=>by
 obtain ⟨i,_,rfl⟩:=xEe hv;have:=h.at i;exact ⟨this.1,by omega⟩
theorem xN9 {c:Nat}:∀ {r:Row},(∀ v,v∈r->(keyV v).length<=c)->(keyOf r).length<=c*r.length
 | [],_=>by simp [keyOf]
 | v::r,h=>by
  have h1:=h v (by simp)
  have h2:=xN9 (r:=r) fun x hx=>h x (by simp [hx])
  rw [xlM,z8,zF,Nat.mul_add,Nat.mul_one];omega
theorem Txt.len {r:Row} (h:Txt r) {ks:List Int} (hk:ks.length<=1048576):(keyOf (pick r ks)).length<=17592186044416:=by
 have h1:(keyOf (pick r ks)).length<=8388674*(pick r ks).length:=xN9 fun v hv=>by
  obtain ⟨i,_,rfl⟩:=xEe hv;have:=h.at i;have:=xzz this.1 (by omega)
  omega
 rw [xzH] at h1;omega
theorem xMH (l:List AV):xgg l=xif l:=rfl
theorem xIG {r:Row} (h:Txt r) {ks:List Int} (hk:ks.length<=1048576):xgg ((pick r ks).map encV)=some (keyOf (pick r ks)):=by
 rw [xMH];exact xIT _ (by rw [xzH];exact hk) (h.kok ks) (h.len hk)
end Go.Sim.M
end
noncomputable section
set_option maxRecDepth 100000
namespace Go.Sim.M
open Go.RowKit Go.Sim.Srt
abbrev Asc (l:List Int):Prop:=l.Pairwise fun x y=>x<y
def insI:List Int->Int->List Int
 | [],n=>[n]
 | x::l,n=>if x<n then x::insI l n else if n<x then n::x::l else x::l
theorem xp3:∀ (l:List Int) (n x:Int),x∈insI l n↔x=n\/x∈l
 | [],n,x=>by simp [insI]
 | y::l,n,x=>by
  unfold insI;split
  . rw [zC,xp3 l n x,zC];constructor<;>rintro (h|h|h)<;>simp [h]
  . split
    . simp
    . have:y=n:=by omega
      subst this;simp
theorem xtg:∀ {l:List Int},Asc l->∀ n,Asc (insI l n)
 | [],_,n=>by simp [insI,Asc]
 | y::l,h,n=>by
  obtain ⟨h1,h2⟩:=zM.1 h;unfold insI;split
  . refine zM.2 ⟨fun z hz=>?_,xtg h2 n⟩
    rcases (xp3 l n z).1 hz with rfl|hz
    . assumption
    . exact h1 z hz
  . split
    . rename_i hn;refine zM.2 ⟨fun z hz=>?_,h⟩
      rcases zC.1 hz with rfl|hz
      . exact hn
      . have:=h1 z hz;omega
    . exact h
theorem xje:∀ (l:List Int) (n:Int),(insI l n).length<=l.length+1
 | [],n=>by simp [insI]
 | y::l,n=>by
  unfold insI;have:=xje l n;repeat' split
  all_goals simp
  all_goals omega
theorem xzu (n:Int):∀ l:List Int,∃ m,m<=l.length/\(∀ k (h:k<m) (h2:k<l.length),l[k]<n)/\(∀ h:m<l.length,¬ l[m]<n)/\insI l n=l.take m++(if h:m<l.length then (if n<l[m] then n::l.drop m else l.drop m) else [n])
 | []=>⟨0,zd _,fun k h=>by omega,fun h=>by simp at h,by simp [insI]⟩
 | y::l=>by
  by_cases hy:y<n
  . obtain ⟨m,h1,h2,h3,h4⟩:=xzu n l;refine ⟨m+1,by simpa using h1,fun k h hk=>?_,fun h=>?_,?_⟩
    . cases k with
      | zero=>simpa using hy
      | succ k=>simpa using h2 k (by omega) (by simpa using hk)
    . simpa using h3 (by simpa using h)
    . unfold insI;rw [if_pos hy,h4];by_cases hm:m<l.length<;>simp [hm]
  . refine ⟨0,zQ _,fun k h=>by omega,fun _=>by simpa using hy,?_⟩
    unfold insI;rw [if_neg hy];by_cases h:n<y<;>simp [h]
structure StepI (N:Int->Int) (T:Int) (S:List Per):Prop where
 asc:S.Pairwise fun a b=>a.1<b.1
 mem:∀ s,s∈S↔0<=s.1/\s.1<T/\s.2=N s.1/\(s.1=0\/N (s.1 - 1)≠s.2)
 last:0<T->∃ S' f,S=S'++[(f,N (T - 1))]
theorem StepI.nil (N:Int->Int):StepI N 0 []:=⟨List.Pairwise.nil,fun s=>by simp;omega,fun h=>by omega⟩
def putS (S:List Per) (f n:Int):List Per:=match S.getLast? with
 | some s=>if s.2=n then S else S++[(f,n)]
 | none=>S++[(f,n)]
theorem StepI.unique {N:Int->Int} {T:Int} {S S':List Per} (h:StepI N T S) (h':StepI N T S'):S=S' :=
 xwB xJM xue (h.asc.imp fun {x y} q=>by
  have h1:cmpP x y<=0:=xvt.2 (.inl q);by_cases h0:cmpP x y=0
  . have:=xue x y h0;subst this;omega
  . omega) (h'.asc.imp fun {x y} q=>by
  have h1:cmpP x y<=0:=xvt.2 (.inl q);by_cases h0:cmpP x y=0
  . have:=xue x y h0;subst this;omega
  . omega) fun s=>by rw [h.mem,h'.mem]
theorem StepI.put {N:Int->Int} {T T':Int} {S:List Per} (h:StepI N T S) (h0:0<=T) (q:T<T') (hc:∀ t,T<=t->t<T'->N t=N T):StepI N T' (putS S T (N T)):=by
 rcases Int.lt_or_eq_of_le h0 with hp|hz
 . obtain ⟨S',f,rfl⟩:=h.last hp;unfold putS;rw [List.getLast?_append];simp only [List.getLast?_singleton,Option.some_or];by_cases he:N (T - 1)=N T
   . rw [if_pos he];refine ⟨h.asc,fun s=>?_,fun _=>⟨S',f,by rw [he,hc (T' - 1) (by omega) (by omega)]⟩⟩
     rw [h.mem];constructor
     . rintro ⟨a,b,c,d⟩;exact ⟨a,by omega,c,d⟩
     . rintro ⟨a,b,c,d⟩;refine ⟨a,?_,c,d⟩;rcases Int.lt_or_le s.1 T with hs|hs
       . exact hs
       . exfalso;have e1:=hc s.1 hs b;rcases d with d|d
         . omega
         . rcases Int.lt_or_eq_of_le hs with h2|h2
           . have e2:=hc (s.1 - 1) (by omega) (by omega)
             exact d (by rw [e2,c,e1])
           . rw [<-h2] at d c;exact d (by rw [he,c])
   . rw [if_neg he];refine ⟨?_,fun s=>?_,fun _=>⟨_,T,by rw [hc (T' - 1) (by omega) (by omega)]⟩⟩
     . rw [List.pairwise_append];refine ⟨h.asc,List.pairwise_singleton _ _,fun a ha b hb=>?_⟩
       simp only [zv] at hb;subst hb;exact ((h.mem a).1 ha).2.1
     . rw [zG,h.mem,zv];constructor
       . rintro (⟨a,b,c,d⟩|rfl)
         . exact ⟨a,by omega,c,d⟩
         . exact ⟨h0,q,rfl,.inr he⟩
       . rintro ⟨a,b,c,d⟩;rcases Int.lt_or_le s.1 T with hs|hs
         . exact .inl ⟨a,hs,c,d⟩
         . right;have e1:=hc s.1 hs b;rcases Int.lt_or_eq_of_le hs with h2|h2
           . exfalso;have e2:=hc (s.1 - 1) (by omega) (by omega)
             rcases d with d|d
             . omega
             . exact d (by rw [e2,c,e1])
           . exact Prod.ext h2.symm (by rw [c,e1])
 . subst hz;have hS:S=[]:=by
    rw [List.eq_nil_iff_forall_not_mem];intro s hs;have:=(h.mem s).1 hs;omega
   subst hS;refine ⟨by simp [putS],fun s=>?_,fun _=>⟨[],0,by simp [putS];exact (hc (T' - 1) (by omega) (by omega)).symm⟩⟩
   simp only [putS,List.getLast?_nil,zU,zv];constructor
   . rintro rfl;exact ⟨Int.le_refl _,q,rfl,.inl rfl⟩
   . rintro ⟨a,b,c,d⟩;have e1:=hc s.1 a b;rcases Int.lt_or_eq_of_le a with h2|h2
     . exfalso;have e2:=hc (s.1 - 1) (by omega) (by omega)
       rcases d with d|d
       . omega
       . exact d (by rw [e2,c,e1])
     . exact Prod.ext h2.symm (by rw [c,e1])
theorem xEl (S:List Per) (f n:Int):(putS S f n).length<=S.length+1:=by
 unfold putS;repeat' split
 all_goals simp
def sumC (l:List Cnt) (t:Int):Int:=(l.map fun c=>if hasP c.1 t=true then c.2 else 0).sum
theorem xn2 (c:Cnt) (l:List Cnt) (t:Int):sumC (c::l) t=(if hasP c.1 t=true then c.2 else 0)+sumC l t:=by simp [sumC]
theorem xFA (a b:List Cnt) (t:Int):sumC (a++b) t=sumC a t+sumC b t:=by simp [sumC]
theorem xEC (t:Int):sumC [] t=0:=rfl
theorem xAx {T T':Int}:∀ {l:List Cnt},(∀ c,c∈l->pv c.1=true->¬ (T<c.1.1/\c.1.1<T')/\¬ (T<c.1.2/\c.1.2<T'))->∀ t,T<=t->t<T'->sumC l t=sumC l T
 | [],_,t,_,_=>rfl
 | c::l,h,t,h1,h2=>by
  rw [xn2,xn2,xAx (fun c hc=>h c (by simp [hc])) t h1 h2]
  congr 2;cases hv:pv c.1 with
  | false=>simp [hasP,hv]
  | true =>
   have:=h c (by simp) hv
   simp only [hasP,hv,Bool.true_and,zf,zl,eq_iff_iff];omega
theorem xEB (B:Int) (hB:0<=B) (t:Int):∀ l:List Cnt,(∀ c,c∈l->-B<=c.2/\c.2<=B)->-(B*l.length)<=sumC l t/\sumC l t<=B*l.length
 | [],_=>by simp [xEC]
 | c::l,h=>by
  have ih:=xEB B hB t l fun c hc=>h c (by simp [hc])
  have hc:=h c (by simp)
  rw [xn2,zF,show B*((l.length+1:Nat):Int)=B*(l.length:Int)+B by rw [Int.natCast_add,Int.mul_add];simp]
  split<;>omega
theorem xCB (ps:List Per) (t:Int):sumC (ps.map fun p=>(p,(1:Int))) t=(ps.countP (hasP · t):Nat):=by
 induction ps with
 | nil=>rfl
 | cons p ps ih =>
  rw [zV,xn2,ih,List.countP_cons];split<;>simp_all<;>omega
theorem xMO (l:List Int) (n:Int) (hl:l.length<=1048576) (m:Nat) (hm:m<=l.length) (h1:∀ k (h:k<m) (h2:k<l.length),l[k]<n) (h2:∀ h:m<l.length,¬ l[m]<n) :
  Iter (xbW (l.map encN) n) ((0:Nat),(0:Int),[])=some (m,(m:Int),(l.take m).map encN):=by
 refine xlg (fun k=>((k,(k:Int),(l.take k).map encN):Nat×Int×List AV)) m _ (fun k hk=>?_) ?_ m 0 (by omega)
 . have q:k<l.length:=by omega
   have i1:(k:Int)<(l.length:Int):=by omega
   have i2:=h1 k hk q;have m1:(k+1)*8<=140737488355328:=by omega
   have m2:k+1<=4611686018427387904:=by omega
   have tl:(l.take k).length=k:=by rw [zt];omega
   have gf:(l.map encN).getD k .top=encN l[k]:=xaa _ _ _ q;simp only [xbW,xfI,sBU,q,i1,i2,gf,cN,sN,tl,m1,m2,xNw (n:=k) (by omega)]
   rw [List.take_add_one,ze q,zx];rfl
 . by_cases hml:m<l.length
   . have i1:(m:Int)<(l.length:Int):=by omega
     have i2:=h2 hml;have gf:(l.map encN).getD m .top=encN l[m]:=xaa _ _ _ hml;simp only [xbW,xfI,sBU,hml,i1,i2,gf,cN,sN]
   . have i1:¬ (m:Int)<(l.length:Int):=by omega
     simp only [xbW,xfI,sBU,i1]
theorem xDV (l:List Int) (hl:l.length<=1048576):∀ (d i:Nat) (D:List Int),i+d=l.length->D.length<=1048576+i ->
  Iter (xbX (l.map encN)) (D.length,(i:Int),D.map encN)=some ((D++l.drop i).length,(D++l.drop i).map encN)
 | 0,i,D,h,hD=>by
  obtain rfl:i=l.length:=by omega
  rw [zq (zd _),zD];refine xad ?_;simp only [xbX,xh2,za,zy,zm,xac,sUF]
 | d+1,i,D,h,hD=>by
  have q:i<l.length:=by omega
  have i1:(i:Int)<(l.length:Int):=by omega
  have m1:(D.length+1)*8<=140737488355328:=by omega
  have m2:D.length+1<=4611686018427387904:=by omega
  have gf:(l.map encN).getD i .top=encN l[i]:=xaa _ _ _ q;rw [xak (s':=((D++[l[i]]).length,((i+1:Nat):Int),(D++[l[i]]).map encN)) ?_,xDV l hl d (i+1) (D++[l[i]]) (by omega) (by rw [z8];simp;omega),xaC q,zw]
  . rfl
  . simp only [xbX,xh2,sBU,q,i1,gf,cN,sN,m1,m2,xNw (n:=i) (by omega)]
    simp [encN]
theorem xuj (l:List Int) (n:Int) (hl:l.length<=1048576):xb2 (l.map encN) n=some ((insI l n).map encN):=by
 obtain ⟨m,hm,h1,h2,h3⟩:=xzu n l;have e0:=xMO l n hl m hm h1 h2;have tl:(l.take m).length=m:=by rw [zt];omega
 have e1:=xDV l hl (l.length - m) m (l.take m++[n]) (by omega) (by rw [z8,tl];simp;omega)
 have e2:=xDV l hl (l.length - m) m (l.take m) (by omega) (by omega)
 rw [z8,tl,zx] at e1;rw [tl] at e2;have e1:Iter (xbX (l.map encN)) (m+1,(m:Int),(l.take m).map encN++[AV.int .i64 n])=some ((l.take m++[n]++l.drop m).length,(l.take m++[n]++l.drop m).map encN):=e1;have m1:(m+1)*8<=140737488355328:=by omega
 have m2:m+1<=4611686018427387904:=by omega
 rw [h3];unfold xb2 xp7 xnm;by_cases hml:m<l.length
 . have i1:((m:Int)==(l.length:Int))=false:=by simp;omega
   have i2:(m:Int)<(l.length:Int):=by omega
   have gf:(l.map encN).getD m .top=encN l[m]:=xaa _ _ _ hml;rw [dif_pos hml];by_cases hn:n<l[m]
   . have i3:l[m]>n:=hn;simp only [xbf,xg9,xha,xhb,xkE,xhc,xhd,xhe,xhf,xhg,xeE,xjl,xeF,xeG,xgu,xgv,e0,zk,zh,za,i1,i2,hml,gf,cN,sN,i3,m1,m2,tl,e1,sBU,sOO,↓reduceIte,zw,List.singleton_append]
   . have i3:¬ l[m]>n:=hn;simp only [xbf,xg9,xha,xhb,xkE,xhc,xhd,xhe,xhf,xhg,xeE,xjl,xeF,xeG,xgu,xgv,e0,zk,zh,za,i1,i2,hml,gf,cN,sN,i3,e2,sBU,sOO,↓reduceIte]
 . have i1:((m:Int)==(l.length:Int))=true:=by simp;omega
   rw [dif_neg hml];have hd:l.drop m=[]:=zq (by omega)
   rw [hd,zD] at e1;simp only [xbf,xg9,xha,xhb,xkE,xhc,xhd,xhe,xhf,xhg,xeE,xjl,xeF,xeG,xgu,xgv,e0,zk,zh,za,i1,m1,m2,tl,e1,sBU,sOO]
theorem xs1 {α:Type} (l:List α):l=[]\/∃ m a,l=m++[a]:=by
 rcases List.eq_nil_or_concat l with h|⟨m,a,h⟩
 . exact .inl h
 . exact .inr ⟨m,a,by rw [h,List.concat_eq_append]⟩
theorem xGe (S:List Per) (f n:Int) (hS:S.length<=16777216):∃ p,xcC S.length f n (S.map encP)=some p/\br p.1 p.2.1.1 p.2.2.1=(putS S f n).length/\br p.1 p.2.1.2 p.2.2.2=(putS S f n).map encP:=by
 have m1:(S.length+1)*16<=140737488355328:=by omega
 have m2:S.length+1<=4611686018427387904:=by omega
 rcases xs1 S with rfl|⟨S',s,rfl⟩
 . refine ⟨(false,(0,[]),(1,[encP (f,n)])),?_,rfl,rfl⟩;unfold xcC xj5 xgY;simp [xaE,encP,sUF]
 . have hk:IntKind.i64.wrap (((S'++[s]).length:Int) - 1)=((S'.length:Nat):Int):=by
    rw [z8,xbH (by simp<;>omega) (by simp at hS |-<;>omega)];simp
   have g1:((S'++[s]).length:Int)>0:=by simp<;>omega
   have g2:(S'.length:Int)<((S'++[s]).length:Int):=by simp<;>omega
   have g3:S'.length<(S'++[s]).length:=by simp
   have gf:((S'++[s]).map encP).getD S'.length .top=encP s:=by
    rw [xaa _ _ _ (by simp)];simp
   have hl:(S'++[s]).getLast?=some s:=by simp
   by_cases he:s.2=n
   . refine ⟨(true,((S'++[s]).length,(S'++[s]).map encP),(0,[])),?_,?_,?_⟩
     . unfold xcC xj5 xgY;simp only [hk,g1,g2,g3,gf,sBU,cP0,cP1,lP,sP,sP0,sP1,he]
     . simp only [xab,putS,hl,if_pos he,sUF]
     . simp only [xab,putS,hl,if_pos he,sUF]
   . have he':(s.2==n)=false:=by simp [he]
     refine ⟨(false,(0,[]),((S'++[s]).length+1,(S'++[s]).map encP++[encP (f,n)])),?_,?_,?_⟩
     . unfold xcC xj5 xgY;simp only [hk,g1,g2,g3,gf,sBU,cP0,cP1,lP,sP,sP0,sP1,he',m1,m2];rfl
     . simp only [xac,putS,hl,if_neg he,sUF];simp
     . simp only [xac,putS,hl,if_neg he,sUF];simp
def ptsC (l:List Cnt):List Int:=l.foldl (fun P c=>if pv c.1=true then insI (insI P c.1.1) c.1.2 else P) [0]
theorem xEj (l:List Cnt) (c:Cnt):ptsC (l++[c])=if pv c.1=true then insI (insI (ptsC l) c.1.1) c.1.2 else ptsC l:=by simp [ptsC]
theorem xEk:∀ l:List Cnt,Asc (ptsC l.reverse)/\∀ x,x∈ptsC l.reverse↔x=0\/∃ c,c∈l/\pv c.1=true/\(x=c.1.1\/x=c.1.2)
 | []=>by simp [ptsC,Asc]
 | c::l=>by
  obtain ⟨h1,h2⟩:=xEk l;rw [List.reverse_cons,xEj];split
  . rename_i hv;refine ⟨xtg (xtg h1 _) _,fun x=>?_⟩
    rw [xp3,xp3,h2];constructor
    . rintro (h|h|h|⟨c',a,b,d⟩)
      . exact .inr ⟨c,by simp,hv,.inr h⟩
      . exact .inr ⟨c,by simp,hv,.inl h⟩
      . exact .inl h
      . exact .inr ⟨c',by simp [a],b,d⟩
    . rintro (h|⟨c',a,b,d⟩)
      . exact .inr (.inr (.inl h))
      . rcases zC.1 a with rfl|a
        . rcases d with d|d
          . exact .inr (.inl d)
          . exact .inl d
        . exact .inr (.inr (.inr ⟨c',a,b,d⟩))
  . rename_i hv;refine ⟨h1,fun x=>?_⟩
    rw [h2];constructor
    . rintro (h|⟨c',a,b,d⟩)
      . exact .inl h
      . exact .inr ⟨c',by simp [a],b,d⟩
    . rintro (h|⟨c',a,b,d⟩)
      . exact .inl h
      . rcases zC.1 a with rfl|a
        . exact absurd b hv
        . exact .inr ⟨c',a,b,d⟩
theorem xMU (l:List Cnt):Asc (ptsC l)/\∀ x,x∈ptsC l↔x=0\/∃ c,c∈l/\pv c.1=true/\(x=c.1.1\/x=c.1.2):=by
 have:=xEk l.reverse;simpa using this
theorem xNk (l:List Cnt) (hl:l.length<=262144):Iter (xeH (l.map encC)) ([AV.int IntKind.i64 (0:Int)],(0:Int))=some ((ptsC l).map encN)/\(ptsC l).length<=2*l.length+1:=by
 have q:∀ l:List Cnt,(ptsC l.reverse).length<=2*l.length+1:=fun l=>by
  induction l with
  | nil=>simp [ptsC]
  | cons c l ih =>
   rw [List.reverse_cons,xEj];have a1:=xje (ptsC l.reverse) c.1.1;have a2:=xje (insI (ptsC l.reverse) c.1.1) c.1.2;split<;>simp<;>omega
 refine ⟨?_,by have:=q l.reverse;simpa using this⟩
 refine xul l (fun P c=>if pv c.1=true then insI (insI P c.1.1) c.1.2 else P) (fun n b=>(b.map encN,(n:Int))) (fun n b=>b.length<=2*n+1) (fun n h b hb=>?_) l.length 0 [0] (by omega) (by simp) ?_
 . have h1:(n:Int)<(l.length:Int):=by omega
   have gf:(l.map encC).getD n .top=encC l[n]:=xaa _ _ _ h;have a1:=xje b l[n].1.1;have a2:=xje (insI b l[n].1.1) l[n].1.2;have i1:=xuj b l[n].1.1 (by omega)
   have i2:=xuj (insI b l[n].1.1) l[n].1.2 (by omega)
   refine ⟨?_,by split<;>omega⟩
   simp only [xeH,xmx,xiw,sBU,h,h1,gf,cC0,cC1,cC2,lC,sC,sC3,sC2,xuw,i1,i2,xNw (n:=n) (by omega),sC0,sC1]
   cases pv l[n].1<;>simp [xab,xac,sUF]
 . simp only [zr];simp only [xeH,xmx,xiw,za,zy,zm,xac,sUF];rfl
def Tame (l:List Cnt):Prop:=l.length<=262144/\∀ c,c∈l->-1099511627776<=c.2/\c.2<=1099511627776
theorem xNl (l:List Cnt) (hl:Tame l) (P:List Int) (hP:P.length<=1048576) (on k:Nat) (hk:k<P.length) (ox:List AV):Iter (xeJ (l.map encC) (P.map encN) on (k:Int)) ((0:Int),(0:Int),ox)=some (sumC l P[k],ox):=by
 have k1:(k:Int)<(P.length:Int):=by omega
 have gk:(P.map encN).getD k .top=encN P[k]:=xaa _ _ _ hk;have J:=hl.1;refine xlg (fun i=>((sumC (l.take i) P[k],(i:Int),ox):Int×Int×List AV)) l.length _ (fun i hi=>?_) ?_ l.length 0 (by omega)
 . have h1:(i:Int)<(l.length:Int):=by omega
   have gf:(l.map encC).getD i .top=encC l[i]:=xaa _ _ _ hi;have hs:sumC (l.take (i+1)) P[k]=sumC (l.take i) P[k]+if hasP l[i].1 P[k]=true then l[i].2 else 0:=by
    rw [List.take_add_one,ze hi,xFA];show _+sumC [l[i]] P[k]=_;rw [xn2,xEC];omega
   have hb:=xEB 1099511627776 (by omega) P[k] (l.take i) fun c hc=>hl.2 c (List.mem_of_mem_take hc)
   have q:(l.take i).length=i:=by rw [zt];omega
   rw [q] at hb;have hc:=hl.2 l[i] (zo hi);have hw:hasP l[i].1 P[k]=true->IntKind.i64.wrap (sumC (l.take i) P[k]+l[i].2)=sumC (l.take i) P[k]+l[i].2:=fun _=>xbH (by omega) (by omega)
   simp only [xeJ,xm0,sBU,hi,h1,hk,k1,gf,gk,cC0,cC1,cC2,lC,sC,sC3,sC2,cN,sN,xEm,xNw (n:=i) (by omega),hs]
   cases hc:hasP l[i].1 P[k] with
   | false=>simp [xac,sUF]
   | true=>rw [xab,hw hc];rfl
 . simp only [xeJ,xm0,za,zy,zm,xac,y4,sUF]
theorem xMX (l:List Cnt) (hl:Tame l):∃ S,xzN (l.map encC)=some (S.map encP)/\StepI (sumC l) 1099511627776 S/\S.length<=2*l.length+1:=by
 obtain ⟨e0,al⟩:=xNk l hl.1;obtain ⟨V,Q⟩:=xMU l;generalize hP:ptsC l=P at *;have aj:=hl.1;have J:∀ x,x∈P->0<=x/\x<=1099511627776:=fun x hx=>by
  rcases (Q x).1 hx with rfl|⟨c,_,hv,h⟩
  . omega
  . have:=xbO.1 hv;rcases h with rfl|rfl<;>omega
 obtain ⟨m,hm,W,U⟩:∃ m,m<=P.length/\(∀ k (h:k<P.length),k<m->P[k]<1099511627776)/\∀ h:m<P.length,¬ P[m]<1099511627776:=by
  obtain ⟨m,a,b,c,_⟩:=xzu 1099511627776 P;exact ⟨m,a,fun k h hk=>b k hk h,c⟩
 let G:Nat->List Per:=fun k=>(P.take k).foldl (fun S p=>putS S p (sumC l p)) []
 have hG:∀ k (h:k<P.length),G (k+1)=putS (G k) P[k] (sumC l P[k]):=fun k h=>by
  simp only [G];rw [List.take_add_one,ze h,List.foldl_append];rfl
 have ab:∀ k,k<=P.length->(G k).length<=k:=fun k=>by
  induction k with
  | zero=>intro _;simp [G]
  | succ k ih=>intro h;rw [hG k (by omega)];have:=xEl (G k) P[k] (sumC l P[k]);have:=ih (by omega);omega
 have aa:0<P.length:=List.length_pos_of_mem ((Q 0).2 (.inl rfl));have q:P[0]=0:=by
  have h0:=(J P[0] (zo aa)).1;obtain ⟨j,hj,ae⟩:=zp.1 ((Q 0).2 (.inl rfl));rcases Nat.eq_zero_or_pos j with rfl|ac
  . exact ae
  . have:=zB.1 V 0 j aa hj ac;omega
 have ak:0<m:=by
  rcases Nat.eq_zero_or_pos m with rfl|h
  . exact absurd (by rw [q];omega) (U aa)
  . exact h
 have nb:∀ k (h:k<P.length) T',(∀ h2:k+1<P.length,T'<=P[k+1])->T'<=1099511627776->∀ t,P[k]<=t->t<T'->sumC l t=sumC l P[k]:=fun k h T' hT hF t h1 h2=>by
  have no:∀ x,x∈P->¬ (P[k]<x/\x<T'):=fun x hx ⟨a,b⟩=>by
   obtain ⟨j,hj,rfl⟩:=zp.1 hx;rcases Nat.lt_trichotomy j k with Z|rfl|Z
   . have:=zB.1 V j k hj h Z;omega
   . omega
   . rcases Nat.lt_or_eq_of_le Z with h3|h3
     . have:=zB.1 V (k+1) j (by omega) hj h3
       have:=hT (by omega);omega
     . have h4:j=k+1:=h3.symm;subst h4;have:=hT hj;omega
  refine xAx (T:=P[k]) (T':=T') (fun c hc hv=>⟨no _ ((Q _).2 (.inr ⟨c,hc,hv,.inl rfl⟩)),no _ ((Q _).2 (.inr ⟨c,hc,hv,.inr rfl⟩))⟩) t h1 h2
 have inv:∀ k (h:k<P.length),k<m->StepI (sumC l) P[k] (G k):=fun k=>by
  induction k with
  | zero=>intro h _;rw [q];exact .nil _
  | succ k ih =>
   intro h ag;rw [hG k (by omega)]
   have h1:=zB.1 V k (k+1) (by omega) h (by omega)
   have h2:=W (k+1) h ag;exact (ih (by omega) (by omega)).put (J _ (zo (by omega))).1 h1 (nb k (by omega) P[k+1] (fun _=>Int.le_refl _) (by omega))
 have af:StepI (sumC l) 1099511627776 (G m):=by
  obtain ⟨k,rfl⟩:∃ k,m=k+1:=⟨m - 1,by omega⟩
  rw [hG k (by omega)]
  exact (inv k (by omega) (by omega)).put (J _ (zo (by omega))).1 (W k (by omega) (by omega)) (nb k (by omega) _ (fun h2=>by have:=U h2;omega) (Int.le_refl _))
 refine ⟨G m,?_,af,by have:=ab m hm;omega⟩
 have e1:Iter (xeI (l.map encC) (P.map encN)) ((0:Nat),(0:Int),[])=some ((G m).length,(G m).map encP):=by
  refine xlg (fun k=>(((G k).length,(k:Int),(G k).map encP):Nat×Int×List AV)) m _ (fun k hk=>?_) ?_ m 0 (by omega)
  . have O:k<P.length:=by omega
    have k1:(k:Int)<(P.length:Int):=by omega
    have k2:=W k O hk;have gk:(P.map encN).getD k .top=encN P[k]:=xaa _ _ _ O;have e2:=xNl l hl P (by omega) (G k).length k O ((G k).map encP)
    have am:=ab k (by omega)
    obtain ⟨p,ai,ah,ad⟩:=xGe (G k) P[k] (sumC l P[k]) (by omega)
    simp only [xeI,xjU,xiy,xiz,xiA,xiB,xiC,xiD,xiE,sBU,O,k1,k2,gk,cN,sN,e2,ai,ah,ad,xNw (n:=k) (by omega),hG k O]
  . by_cases Y:m<P.length
    . have k1:(m:Int)<(P.length:Int):=by omega
      have k2:=U Y;have gk:(P.map encN).getD m .top=encN P[m]:=xaa _ _ _ Y;simp only [xeI,xjU,xiy,xiz,xiA,xiB,xiC,xiD,xiE,sBU,Y,k1,k2,gk,cN,sN]
    . have k1:¬ (m:Int)<(P.length:Int):=by omega
      simp only [xeI,xjU,xiy,xiz,xiA,xiB,xiC,xiD,xiE,sBU,k1]
 unfold xzN xv6;simp only [xuV,xuW,xuX,xuY,e0,zh,zk,xab,e1,sOO,sUF]
end Go.Sim.M
end
noncomputable section
set_option maxRecDepth 100000
namespace Go.Sim.M
open Go.RowKit Go.Sim.Srt Go.Sort
def chg (c:Cnt):List Per:=if pv c.1=true then [(c.1.1,c.2),(c.1.2,-c.2)] else []
theorem xFO {l:List Cnt}:∀ s,s∈l.flatMap chg->0<=s.1/\s.1<=1099511627776:=fun s hs=>by
 obtain ⟨c,hc,h⟩:=y3.1 hs;unfold chg at h;split at h
 . rename_i hv;have:=xbO.1 hv;simp only [zC,List.not_mem_nil,or_false] at h;rcases h with rfl|rfl<;>dsimp only<;>omega
 . simp at h
theorem xK8 (c:Cnt):(chg c).length<=2:=by unfold chg;split<;>simp
def sumS (S:List Per) (t:Int):Int:=(S.map fun s=>if s.1<=t then s.2 else 0).sum
theorem xzi (a b:List Per) (t:Int):sumS (a++b) t=sumS a t+sumS b t:=by simp [sumS]
theorem xKE {a b:List Int} (h:a.Perm b):a.sum=b.sum:=by
 induction h with
 | nil=>rfl
 | cons x _ ih=>simp [ih]
 | swap x y l=>simp;omega
 | trans _ _ h1 h2=>rw [h1,h2]
theorem xJw {a b:List Per} (h:a.Perm b) (t:Int):sumS a t=sumS b t:=xKE (h.map _)
theorem xED (t:Int):∀ l:List Cnt,sumS (l.flatMap chg) t=sumC l t
 | []=>rfl
 | c::l=>by
  rw [zR,xzi,xED t l,xn2];congr 1;unfold chg;cases hv:pv c.1 with
  | false=>simp [sumS,hasP,hv]
  | true =>
   have:=xbO.1 hv;simp only [if_true,sumS,zV,zW,List.sum_cons,List.sum_nil,hasP,hv,Bool.true_and,zf,zl];by_cases h1:c.1.1<=t<;>by_cases h2:c.1.2<=t
   . rw [if_pos h1,if_pos h2,if_neg (by omega)];omega
   . rw [if_pos h1,if_neg h2,if_pos (by omega)];omega
   . omega
   . rw [if_neg h1,if_neg h2,if_neg (by omega)];omega
theorem sum0:∀ L:List Per,(L.map fun _=>(0:Int)).sum=0
 | []=>rfl
 | _::L=>by rw [zV,List.sum_cons,sum0 L];rfl
def preS (S:List Per) (i:Nat):Int:=((S.take i).map (·.2)).sum
theorem xCl (S:List Per) (i:Nat) (h:i<S.length):preS S (i+1)=preS S i+S[i].2:=by
 unfold preS;rw [List.take_add_one,ze h,zx,List.sum_append];simp
theorem xKd (S:List Per) (i:Nat) (hi:i<=S.length) (t:Int) (h1:∀ k (h:k<S.length),k<i->S[k].1<=t) (h2:∀ k (h:k<S.length),i<=k->t<S[k].1):preS S i=sumS S t:=by
 have e:S=S.take i++S.drop i:=(List.take_append_drop i S).symm
 conv=>rhs;rw [e]
 rw [xzi];have a1:sumS (S.take i) t=preS S i:=by
  unfold sumS preS;congr 1;refine List.map_congr_left fun s hs=>?_
  obtain ⟨k,hk,rfl⟩:=zp.1 hs;rw [zt] at hk;rw [List.getElem_take,if_pos (h1 k (by omega) (by omega))]
 have a2:sumS (S.drop i) t=0:=by
  unfold sumS;have:(S.drop i).map (fun s=>if s.1<=t then s.2 else 0)=(S.drop i).map fun _=>(0:Int):=by
   refine List.map_congr_left fun s hs=>?_
   obtain ⟨k,hk,rfl⟩:=zp.1 hs;rw [y1] at hk;have:=h2 (i+k) (by omega) (by omega)
   rw [List.getElem_drop,if_neg (by omega)]
  rw [this];exact sum0 _
 omega
theorem xEi {B:Int} (hB:0<=B) (S:List Per) (h:∀ s,s∈S->-B<=s.2/\s.2<=B):∀ i,i<=S.length->-(B*i)<=preS S i/\preS S i<=B*i
 | 0,_=>by simp [preS]
 | i+1,hi=>by
  have ih:=xEi hB S h i (by omega)
  have hs:=h S[i] (zo (by omega))
  rw [xCl S i (by omega),show B*((i+1:Nat):Int)=B*(i:Int)+B by rw [Int.natCast_add,Int.mul_add];simp]
  omega
def toS (e:Per):TyS:=(Fin.ofNat 1099511627777 e.1.toNat,e.2)
def ofS (x:TyS):Per:=((x.1.val:Int),x.2)
theorem xLr {e:Per} (h1:0<=e.1) (h2:e.1<=1099511627776):ofS (toS e)=e:=by
 have:e.1.toNat % 1099511627777=e.1.toNat:=Nat.mod_eq_of_lt (by omega)
 simp only [ofS,toS,Fin.ofNat,this,Int.toNat_of_nonneg h1]
theorem xLT (E:List Per) (h:∀ e,e∈E->0<=e.1/\e.1<=1099511627776):(E.map encP).all isS=true/\∃ S:List Per,srtS (E.map encP)=S.map encP/\S.Perm E/\S.Pairwise fun x y=>x.1<=y.1:=by
 refine ⟨?_,(pdqL cmpS (E.map toS)).map ofS,?_,?_,?_⟩
 . rw [zI];intro x hx;obtain ⟨e,he,rfl⟩:=zK.1 hx;have:=h e he;show (decide _&&decide _)=true;rw [decide_eq_true this.1,decide_eq_true this.2];rfl
 . unfold srtS;have e1:(E.map encP).map decS=E.map toS:=by rw [List.map_map];rfl
   rw [e1,List.map_map];rfl
 . have hp:=((xnV cmpS swoS (E.map toS)).1).map ofS;have e2:(E.map toS).map ofS=E:=by
    rw [List.map_map]
    conv=>rhs;rw [<-List.map_id E]
    refine List.map_congr_left fun e he=>?_
    exact xLr (h e he).1 (h e he).2
   rwa [e2] at hp
 . rw [List.pairwise_map];refine (xuU cmpS swoS (E.map toS)).imp fun {x y} q=>?_
   show ((x.1.val:Nat):Int)<=((y.1.val:Nat):Int);unfold cmpS at q;omega
theorem xLj (n o:Nat):xjL n o=xdE n o 0:=rfl
theorem xzY (l:List Cnt) (hl:l.length<=1048576) (ht:∀ c,c∈l->-1099511627776<=c.2/\c.2<=1099511627776):Iter (xeR (l.map encC) ((l.length:Nat):Int)) ((0:Nat),(0:Int),[])=some ((l.flatMap (fun (f:Cnt)=>chg f)).length,(l.flatMap (fun (f:Cnt)=>chg f)).map encP):=by
 refine xhK l (fun (f:Cnt)=>chg f) encP 2 (fun f hf=>?_) (fun n h D hD=>?_) (fun D=>?_)
 . cases q:(pv (f).1)<;>simp [chg,q]
 . have h1:(n:Int)<(l.length:Int):=by omega
   have m1:(D.length+2)*16<=140737488355328:=by omega
   have m2:D.length+2<=4611686018427387904:=by omega
   have gf:(l.map encC).getD n .top=encC l[n]:=xaa _ _ _ h;have hm:=ht l[n] (zo h);have hw:IntKind.i64.wrap (0 - l[n].2)=-l[n].2:=by rw [xbH (by omega) (by omega)];omega
   simp only [xeR,xm8,sBU,h,h1,gf,cC0,cC1,cC2,lC,sC,sC3,sC2,xnW,hw,m1,m2,xNw (n:=n) (by omega)]
   cases q:(pv (l[n]).1)<;>simp [encP,xab,xac,encR,chg,q,sUF]
 . simp only [xeR,xm8,za,zy,zm,xac,sUF]
theorem xzt (S:List Per) (hS:S.length<=1048576) (hb:∀ s,s∈S->-1099511627776<=s.2/\s.2<=1099511627776) (on:Nat) (at':Int) (ox:List AV):∀ (d i:Nat),i+d=S.length->∃ j:Nat,i<=j/\j<=S.length/\(∀ k (h:k<S.length),i<=k->k<j->S[k].1=at')/\(∀ h:j<S.length,S[j].1≠at') /\
  Iter (xdE S.length on at') (preS S i,(i:Int),S.map encP,ox)=some (preS S j,(j:Int),S.map encP,ox)
 | 0,i,h=>by
  refine ⟨i,zd _,by omega,fun k _ h1 h2=>by omega,fun h=>by omega,xad ?_⟩
  have i1:¬ (i:Int)<(S.length:Int):=by omega
  simp only [xdE,xj0,xi5,i1,zm,xac,sUF]
 | d+1,i,h=>by
  have hi:i<S.length:=by omega
  have i1:(i:Int)<(S.length:Int):=by omega
  have gf:(S.map encP).getD i .top=encP S[i]:=xaa _ _ _ hi;by_cases he:S[i].1=at'
  . obtain ⟨j,h1,h2,h3,h4,h5⟩:=xzt S hS hb on at' ox d (i+1) (by omega)
    refine ⟨j,by omega,h2,fun k hk a b=>?_,h4,?_⟩
    . rcases Nat.lt_or_eq_of_le a with a|a
      . exact h3 k hk a b
      . subst a;exact he
    . have hp:=xEi (B:=1099511627776) (by omega) S hb i (by omega)
      have hs:=hb S[i] (zo hi);rw [xak (s':=(preS S (i+1),((i+1:Nat):Int),S.map encP,ox)) ?_,h5];simp only [xdE,xj0,xi5,sBU,hi,i1,gf,cP0,cP1,lP,sP,sP0,sP1,he,xNw (n:=i) (by omega),xCl S i hi]
      rw [xbH (by omega) (by omega)]
  . have he':(S[i].1==at')=false:=by simp [he]
    refine ⟨i,zd _,by omega,fun k _ h1 h2=>by omega,fun _=>he,xad ?_⟩
    simp only [xdE,xj0,xi5,sBU,hi,i1,gf,cP0,cP1,lP,sP,sP0,sP1,he']
theorem xtl (l:List Cnt) (hl:Tame l):∃ S,xwi (l.map encC)=some (S.map encP)/\StepI (sumC l) 1099511627776 S/\S.length<=2*l.length+1:=by
 have aq:=hl.1;have e0:=xzY l (by omega) hl.2
 have hE:=xjc (g:=chg) (c:=2) l fun c _=>xK8 c
 obtain ⟨af,S,hS,hp,al⟩:=xLT (l.flatMap chg) xFO;have ai:S.length=(l.flatMap chg).length:=hp.length_eq;have U:∀ s,s∈S->0<=s.1/\s.1<=1099511627776:=fun s hs=>xFO s (hp.mem_iff.1 hs)
 have hb:∀ s,s∈S->-1099511627776<=s.2/\s.2<=1099511627776:=fun s hs=>by
  obtain ⟨c,hc,h⟩:=y3.1 (hp.mem_iff.1 hs);have:=hl.2 c hc;unfold chg at h;split at h
  . simp only [zC,List.not_mem_nil,or_false] at h;rcases h with rfl|rfl<;>dsimp only<;>omega
  . simp at h
 have hN:∀ t,sumS S t=sumC l t:=fun t=>by rw [xJw hp,xED]
 have J:∀ a b (ha:a<S.length) (hb:b<S.length),a<=b->S[a].1<=S[b].1:=fun a b ha hb am=>by
  rcases Nat.lt_or_eq_of_le am with h|h
  . exact zB.1 al a b ha hb h
  . subst h;exact Int.le_refl _
 let T:Nat->Int:=fun i=>if h:i<S.length then S[i].1 else 1099511627776
 have step:∀ (out:List Per) (i j:Nat) (at':Int),0<=at'->i<=j->j<=S.length->StepI (sumC l) at' out->at'<1099511627776->(∀ k (h:k<S.length),k<i->S[k].1<=at')->(∀ k (h:k<S.length),i<=k->at'<=S[k].1)->(∀ k (h:k<S.length),i<=k->k<j->S[k].1=at')->(∀ h:j<S.length,S[j].1≠at') ->
   preS S j=sumC l at'/\StepI (sumC l) (T j) (putS out at' (preS S j))/\at'<T j/\∀ k (h:k<S.length),k<j->S[k].1<=at':=fun out i j at' h0 ah hj Q hF ac ag an hne=>by
  have a1:∀ k (h:k<S.length),k<j->S[k].1<=at':=fun k h hk=>by
   rcases zJ k i with h1|h1
   . exact ac k h h1
   . rw [an k h h1 hk];exact Int.le_refl _
  have a2:∀ k (h:k<S.length),j<=k->at'<S[k].1:=fun k h hk=>by
   have O:j<S.length:=by omega
   have b1:=ag j O ah;have b2:=hne O;have b3:=J j k O h hk;omega
  have hT:at'<T j:=by
   simp only [T];split
   . rename_i h;exact a2 j h (zd _)
   . exact hF
  have aa:∀ t,at'<=t->t<T j->preS S j=sumC l t:=fun t h1 h2=>by
   rw [<-hN];refine xKd S j hj t (fun k h hk=>by have:=a1 k h hk;omega) fun k h hk=>?_
   have O:j<S.length:=by omega
   have b3:=J j k O h hk;simp only [T,dif_pos O] at h2;omega
  have e:=aa at' (Int.le_refl _) hT;refine ⟨e,?_,hT,a1⟩;rw [e];exact Q.put h0 hT fun t h1 h2=>by rw [<-aa t h1 h2,e]
 have ab:∀ (out:List Per) (f n:Int),out.length<=2*l.length+1->∃ p,xc9 out.length f n (out.map encP)=some p/\br p.1 p.2.1.1 p.2.2.1=(putS out f n).length/\br p.1 p.2.1.2 p.2.2.2=(putS out f n).map encP:=fun out f n h=>xGe out f n (by omega)
 obtain ⟨j0,_,aj,h3,h4,e1⟩:=xzt S (by omega) hb 0 0 ([]:List AV) S.length 0 (by omega)
 obtain ⟨_,ao,_,ap⟩:=step [] 0 j0 0 (Int.le_refl _) (zQ _) aj (.nil _) (by omega) (fun k _ h=>by omega) (fun k h _=>(U _ (zo h)).1) h3 h4
 obtain ⟨p0,ad,Z,V⟩:=ab [] 0 (preS S j0) (by simp)
 have o0:putS [] 0 (preS S j0)=[(0,preS S j0)]:=rfl;obtain ⟨r,hr,out,rfl,Q,ae⟩:=xDX (step:=xeS S.length)
  (fun s=>∃ (out:List Per) (i:Nat),s=(out.length,preS S i,(i:Int),S.map encP,out.map encP)/\i<=S.length/\StepI (sumC l) (T i) out/\out.length<=i+1/\∀ k (h:k<S.length) (hi:i<S.length),k<i->S[k].1<=S[i].1) (fun s=>(S.length - s.2.2.1.toNat)) (fun r=>∃ out:List Per,r=(out.length,out.map encP)/\StepI (sumC l) 1099511627776 out/\out.length<=2*l.length+1)
  (by
   rintro _ ⟨out,i,rfl,hi,Y,au,ac⟩;by_cases q:i<S.length
   . have i1:(i:Int)<(S.length:Int):=by omega
     have gf:(S.map encP).getD i .top=encP S[i]:=xaa _ _ _ q;have W:T i=S[i].1:=dif_pos q;by_cases hF:S[i].1<1099511627776
     . left;obtain ⟨j,a1,a2,a3,a4,a5⟩:=xzt S (by omega) hb out.length S[i].1 (out.map encP) (S.length - i) i (by omega)
       rw [W] at Y;obtain ⟨b1,b2,b3,b4⟩:=step out i j S[i].1 (U _ (zo q)).1 a1 a2 Y hF (fun k h hk=>J k i h q (by omega)) (fun k h hk=>J i k q h hk) a3 a4
       have ah:i<j:=by
        rcases Nat.lt_or_eq_of_le a1 with h|h
        . exact h
        . subst h;exact absurd rfl (a4 q)
       obtain ⟨p,ad,Z,V⟩:=ab out S[i].1 (preS S j) (by omega)
       have ar:=xEl out S[i].1 (preS S j);refine ⟨((putS out S[i].1 (preS S j)).length,preS S j,(j:Int),S.map encP,(putS out S[i].1 (preS S j)).map encP),?_,⟨_,j,rfl,a2,b2,by omega,fun k h hj hk=>J k j h hj (by omega)⟩,by dsimp only;rw [zN,zN];omega⟩
       simp only [xeS,xjx,xiW,xiX,xiY,xiZ,xix,xi0,xi1,xi2,xi3,xi4,xhB,xhC,xfB,sBU,q,i1,gf,cP0,cP1,lP,sP,sP0,sP1,hF,a5,ad,Z,V]
     . right;have ak:S[i].1=1099511627776:=by have:=(U _ (zo q)).2;omega
       refine ⟨(out.length,out.map encP),?_,out,rfl,by rw [<-ak,<-W];exact Y,by omega⟩
       simp only [xeS,xjx,xiW,xiX,xiY,xiZ,xix,xi0,xi1,xi2,xi3,xi4,xhB,xhC,xfB,sBU,q,i1,gf,cP0,cP1,lP,sP,sP0,sP1,hF]
   . right;have i1:¬ (i:Int)<(S.length:Int):=by omega
     have W:T i=1099511627776:=dif_neg q;refine ⟨(out.length,out.map encP),?_,out,rfl,by rw [<-W];exact Y,by omega⟩
     simp only [xeS,xjx,xiW,xiX,xiY,xiZ,xix,xi0,xi1,xi2,xi3,xi4,xhB,xhC,xfB,sBU,i1])
  (([(0,preS S j0)]:List Per).length,preS S j0,(j0:Int),S.map encP,([(0,preS S j0)]:List Per).map encP) ⟨[(0,preS S j0)],j0,rfl,aj,ao,by simp,fun k h hj hk=>J k j0 h hj (by omega)⟩
 refine ⟨out,?_,Q,ae⟩;have d1:(l.flatMap chg).length<4611686018427387904:=by omega
 have d2:((l.flatMap chg).length).beq (l.flatMap chg).length=true:=Nat.beq_refl _;have e1':Iter (xjL (l.flatMap chg).length 0) ((0:Int),(0:Int),S.map encP,[])=some (preS S j0,(j0:Int),S.map encP,[]):=by
  rw [xLj,<-ai];exact e1
 rw [ai] at hr;unfold xwi xwj;have hp1':xc9 0 0 (preS S j0) []=some p0:=ad;rw [o0] at Z V;simp only [xve,xvf,xvg,xvh,xvi,xvj,xvk,xvl,xvm,xvn,xt2,xt3,xt4,xt5,xt6,xlI,xpG,xt7,za,e0,zh,zk,xab,af,hS,d1,d2,e1',hp1',Z,V,hr,zn,zS,sOO,sUF]
end Go.Sim.M
end
noncomputable section
set_option maxRecDepth 100000
namespace Go.Sim.M
open Go.RowKit Go.Sim.Srt
theorem xN6 {n:Nat} (h:n+1<=4611686018427387904):IntKind.i64.wrap (((n+1:Nat):Int) - 1)=(n:Int):=by rw [xbH (by omega) (by omega)];omega
theorem tkP (p:Per):List.take 1 (encP p).cells=[.int .i64 p.1]:=rfl
theorem dpP (p:Per):List.drop 2 (encP p).cells=[]:=rfl
theorem aggP (a b:Int):AV.agg [.int .i64 a,.int .i64 b]=encP (a,b):=rfl
theorem xDP {α:Type} (l:List α) (x d:α):(l++[x]).getD l.length d=x:=by simp
theorem xLJ {α:Type} (l:List α) (x y:α):(l++[x]).set l.length y=l++[y]:=by simp
def xNz (st:List Per):List Int:=st.flatMap fun s=>List.replicate s.2.toNat s.1
theorem xjb (st:List Per) (f m:Int):xNz (st++[(f,m)])=xNz st++List.replicate m.toNat f:=by simp [xNz]
def StOk (st:List Per):Prop:=∀ s,s∈st->1<=s.2
theorem StOk.len {st:List Per} (h:StOk st):st.length<=(xNz st).length:=by
 unfold xNz;induction st with
 | nil=>simp
 | cons s st ih =>
  have h1:=h s (by simp)
  have:=ih fun s hs=>h s (by simp [hs])
  rw [zR,z8,zF,List.length_replicate];omega
theorem xBp (J n:Int) (v:Nat) (k t2 f:Int) (q:List Per) (ti:Nat) (O:ti<q.length) (hf:q[ti].1=f) (K:Nat) (hK:K<=1048576):∀ (d j:Nat) (ox:List Per) (vo:Nat),j+d=K->ox.length+d<=1099511627776 ->
  Iter (xcA J n v ti k (K:Int)) ((j:Int),t2,q.length,v,ox.length,vo,v,q.map encP,vo,ox.map encP)=some (t2,v,q.length,vo+d,(ox++List.replicate d (f,J)).length,q.map encP,v,(ox++List.replicate d (f,J)).map encP,vo+d)
 | 0,j,ox,vo,h,hb=>by
  obtain rfl:j=K:=by omega
  refine xad ?_;simp only [xcA,xkD,zy,zm,xac,List.replicate_zero,zD,Nat.add_zero,sUF]
 | d+1,j,ox,vo,h,hb=>by
  have i1:(j:Int)<(K:Int):=by omega
  have gf:(q.map encP).getD ti .top=encP q[ti]:=xaa _ _ _ O;have m1:(ox.length+1)*16<=140737488355328:=by omega
  have m2:ox.length+1<=4611686018427387904:=by omega
  have tk:List.take q.length (q.map encP)=q.map encP:=zi (by simp)
  rw [xak (s':=(((j+1:Nat):Int),t2,q.length,v,(ox++[(f,J)]).length,vo+1,v,q.map encP,vo+1,(ox++[(f,J)]).map encP)) ?_,xBp J n v k t2 f q ti O hf K hK d (j+1) (ox++[(f,J)]) (vo+1) (by omega) (by rw [z8,zj];omega)]
  . rw [zw,show [(f,J)]++List.replicate d (f,J)=List.replicate (d+1) (f,J) from rfl,show vo+1+d=vo+(d+1) by omega]
  . simp only [xcA,xkD,sBU,i1,O,gf,cP0,cP1,lP,sP,sP0,sP1,hf,m1,m2,tk,xNw (n:=j) (by omega)]
    simp [encP]
theorem xGh {α:Type} (n:Nat) (a:α):(List.replicate n a).reverse=List.replicate n a:=List.reverse_replicate ..
theorem xBo (q:Int) (n:Nat):∀ (c:Nat) (J:List Per) (h:Nat) (ox:List Per) (v vo:Nat),J.length<=c->StOk J->(xNz J).length=h->n<=h->h<=1048576->ox.length+h<=1099511627776 ->
  ∃ (O Q:List Per) (U:Nat),Iter (xbN q (n:Int)) ((h:Int),J.length,v,ox.length,vo,v,J.map encP,vo,ox.map encP)=some ((n:Int),v,O.length,U,Q.length,O.map encP,v,Q.map encP,U) /\
   StOk O/\xNz O=(xNz J).take n/\Q=ox++(((xNz J).drop n).reverse.map fun f=>(f,q))
 | c,J,h,ox,v,vo,hc,hs,hh,hn,hb,ho=>by
  by_cases aa:n=h
  . subst aa;refine ⟨J,ox,vo,xad ?_,hs,?_,?_⟩
    . have i1:¬ ((n:Int)>(n:Int)):=by omega
      simp only [xbN,xfm,i1,zm,xac,sUF]
    . rw [zi (by omega)]
    . rw [zq (by omega)];simp
  . have ac:n<h:=by omega
    rcases xs1 J with rfl|⟨st,⟨f,m⟩,rfl⟩
    . simp [xNz] at hh;omega
    . have hm:=hs (f,m) (by simp)
      dsimp only at hm;have V:StOk st:=fun s h=>hs s (by simp [h])
      have Z:(xNz st).length+m.toNat=h:=by rw [<-hh,xjb,z8,List.length_replicate]
      obtain ⟨M,rfl⟩:∃ M:Nat,m=(M:Int):=⟨m.toNat,by omega⟩
      rw [zN] at Z;have sl:=hs.len;rw [z8,zj] at hc sl;rw [hh] at sl;have L1:(st++[(f,(M:Int))]).length=st.length+1:=by simp
      have i1:(h:Int)>(n:Int):=by omega
      have w1:IntKind.i64.wrap (((st.length+1:Nat):Int) - 1)=(st.length:Int):=xN6 (by omega)
      have w2:IntKind.i64.wrap ((h:Int) - (n:Int))=((h - n:Nat):Int):=by rw [xbH (by omega) (by omega)];omega
      have i2:(st.length:Int)<((st.length+1:Nat):Int):=by omega
      have i3:st.length<(st++[(f,(M:Int))]).length:=by omega
      have g0:(st++[(f,(M:Int))])[st.length]'i3=(f,(M:Int)):=by simp
      have gf:((st++[(f,(M:Int))]).map encP).getD st.length .top=encP (f,(M:Int)):=by rw [xaa _ _ _ i3,g0]
      have tk:List.take (st.length+1) ((st++[(f,(M:Int))]).map encP)=(st++[(f,(M:Int))]).map encP:=zi (by simp)
      have W:∀ x:AV,((st++[(f,(M:Int))]).map encP).set st.length x=st.map encP++[x]:=fun x=>by
       rw [zx];have:=xLJ (st.map encP) (encP (f,(M:Int))) x;rwa [za] at this
      have gl:∀ x:AV,(st.map encP++[x]).getD st.length .top=x:=fun x=>by have:=xDP (st.map encP) x .top;rwa [za] at this
      have tl:∀ x:AV,List.take st.length (st.map encP++[x])=st.map encP:=fun x=>by
       have:=List.take_left' (l₁:=st.map encP) (l₂:=[x]) (i:=st.length) (by simp)
       exact this
      by_cases hk:M<=h - n
      ·
       have i4:¬ ((h - n:Nat):Int)<(M:Int):=by omega
       have e1:=xBp q (n:Int) v (M:Int) (h:Int) f (st++[(f,(M:Int))]) st.length i3 (by rw [g0]) M (by omega) M 0 ox vo (by omega) (by omega)
       rw [L1] at e1;obtain ⟨O,Q,U,e2,h1,h2,h3⟩:=xBo q n (c - 1) st (h - M) (ox++List.replicate M (f,q)) v (vo+M) (by omega) V (by omega) (by omega) (by omega) (by rw [z8,List.length_replicate];omega)
       refine ⟨O,Q,U,(xak (s':=(((h - M:Nat):Int),st.length,v,(ox++List.replicate M (f,q)).length,vo+M,v,st.map encP,vo+M,(ox++List.replicate M (f,q)).map encP)) ?_).trans e2,h1,?_,?_⟩
       . have w3:IntKind.i64.wrap ((h:Int) - (M:Int))=((h - M:Nat):Int):=by rw [xbH (by omega) (by omega)];omega
         have w4:IntKind.i64.wrap ((M:Int) - (M:Int))=0:=by rw [Int.sub_self];rfl
         have i5:(st.length:Int)<=((st.length+1:Nat):Int):=by omega
         have e1:Iter (xcA q (n:Int) v st.length (M:Int) (M:Int)) ((0:Int),(h:Int),st.length+1,v,ox.length,vo,v,(st++[(f,(M:Int))]).map encP,vo,ox.map encP)=_:=e1;simp only [xbN,xfm,xdA,xcz,xjh,xez,xgs,xeA,xeB,xeC,xeD,xji,xhZ,xfF,xfG,xhx,xh0,xfH,xc1,xh1,xaB,sBU,L1,i1,i2,w1,w2,w3,w4,i4,i5,gf,cP0,cP1,lP,sP,sP0,sP1,tk,e1,if_false,W,gl,tl,z8,zj,Nat.lt_succ_self,tkP,dpP,aggP,zD,List.singleton_append]
         try simp [xab,tl,gl,sUF]
       . rw [h2,xjb,List.take_append_of_le_length (by omega)]
       . rw [h3,xjb,zN,List.drop_append_of_le_length (by omega),List.reverse_append,xGh,zx,List.map_replicate,zw]
      ·
       have i4:((h - n:Nat):Int)<(M:Int):=by omega
       have e1:=xBp q (n:Int) v ((h - n:Nat):Int) (h:Int) f (st++[(f,(M:Int))]) st.length i3 (by rw [g0]) (h - n) (by omega) (h - n) 0 ox vo (by omega) (by omega)
       rw [L1] at e1;refine ⟨st++[(f,((M - (h - n):Nat):Int))],ox++List.replicate (h - n) (f,q),vo+(h - n),(xak (s':=((n:Int),st.length+1,v,(ox++List.replicate (h - n) (f,q)).length,vo+(h - n),v,(st++[(f,((M - (h - n):Nat):Int))]).map encP,vo+(h - n),(ox++List.replicate (h - n) (f,q)).map encP)) ?_).trans (xad ?_),?_,?_,?_⟩
       . have w3:IntKind.i64.wrap ((h:Int) - ((h - n:Nat):Int))=(n:Int):=by rw [xbH (by omega) (by omega)];omega
         have w4:IntKind.i64.wrap ((M:Int) - ((h - n:Nat):Int))=((M - (h - n):Nat):Int):=by rw [xbH (by omega) (by omega)];omega
         have i6:(((M - (h - n):Nat):Int)==0)=false:=by simp;omega
         have e1:Iter (xcA q (n:Int) v st.length ((h - n:Nat):Int) ((h - n:Nat):Int)) ((0:Int),(h:Int),st.length+1,v,ox.length,vo,v,(st++[(f,(M:Int))]).map encP,vo,ox.map encP)=_:=e1;have Y:∀ x:AV,List.take (st.length+1) (st.map encP++[x])=st.map encP++[x]:=fun x=>zi (by simp)
         simp only [xbN,xfm,xdA,xcz,xjh,xez,xgs,xeA,xeB,xeC,xeD,xji,xhZ,xfF,xfG,xhx,xh0,xfH,xc1,xh1,xaB,sBU,L1,i1,i2,w1,w2,w3,w4,i4,gf,cP0,cP1,lP,sP,sP0,sP1,tk,e1,if_true,W,gl,tl,Y,z8,zj,Nat.lt_succ_self,tkP,dpP,aggP,zD,List.singleton_append]
         try simp [xab,xac,tl,Y,gl,i6,sUF]
       . have i5:¬ ((n:Int)>(n:Int)):=by omega
         simp only [xbN,xfm,i5,zm,xac,z8,zj,sUF]
       . intro s ab;rcases zG.1 ab with h1|h1
         . exact V s h1
         . rw [zv] at h1;subst h1;dsimp only;omega
       . rw [xjb,xjb,zN,zN,List.take_append];have:(xNz st).take n=xNz st:=zi (by omega)
         rw [this,List.take_replicate,show min (n - (xNz st).length) M=M - (h - n) by omega]
       . rw [xjb,zN,List.drop_append,zq (show (xNz st).length<=n by omega),zU,List.drop_replicate,xGh,List.map_replicate,show M - (n - (xNz st).length)=h - n by omega]
theorem xGo (J:Int) (n h:Nat) (q ox:List Per) (hs:StOk q) (hh:(xNz q).length=h) (hn:n<=1048576) (hb:h<=1048576) (ho:ox.length+1048576<=1099511627776) :
  ∃ O:List Per,set2 J (n:Int) (h:Int) q.length ox.length (q.map encP) (ox.map encP)=some ((n:Int),O.length,(ox++(((xNz q).drop n).reverse.map fun f=>(f,J))).length,O.map encP,(ox++(((xNz q).drop n).reverse.map fun f=>(f,J))).map encP) /\
   StOk O/\xNz O=(xNz q).take n++List.replicate (n - h) J:=by
 have sl:=hs.len;rw [hh] at sl;have tk:List.take q.length (q.map encP)=q.map encP:=zi (by simp)
 by_cases Z:h<n
 . have i1:(n:Int)>(h:Int):=by omega
   have w1:IntKind.i64.wrap ((n:Int) - (h:Int))=((n - h:Nat):Int):=by rw [xbH (by omega) (by omega)];omega
   have V:StOk (q++[(J,((n - h:Nat):Int))]):=fun s h1=>by
    rcases zG.1 h1 with h1|h1
    . exact hs s h1
    . rw [zv] at h1;subst h1;dsimp only;omega
   have hf:xNz (q++[(J,((n - h:Nat):Int))])=xNz q++List.replicate (n - h) J:=by rw [xjb,zN]
   have Q:(xNz (q++[(J,((n - h:Nat):Int))])).length=n:=by rw [hf,z8,List.length_replicate];omega
   obtain ⟨O,U,Y,e,h1,h2,h3⟩:=xBo J n (q.length+1) (q++[(J,((n - h:Nat):Int))]) n ox 1 0 (by simp) V Q (zd _) hn (by omega)
   refine ⟨O,?_,h1,?_⟩
   . have d1:(xNz q).drop n=[]:=zq (by omega)
     have d2:(xNz (q++[(J,((n - h:Nat):Int))])).drop n=[]:=zq (by omega)
     rw [d2] at h3;subst h3;rw [d1];have m1:(q.length+1)*16<=140737488355328:=by omega
     have m2:q.length+1<=4611686018427387904:=by omega
     have W:List.take (q.length+1) (q.map encP++[AV.agg [.int .i64 J,.int .i64 ((n - h:Nat):Int)]])=(q++[(J,((n - h:Nat):Int))]).map encP:=by
      rw [zi (by simp),zx];rfl
     rw [z8,zj] at e;unfold set2 xlN xli;simp only [xmM,xmN,xmO,xmP,xmQ,xmR,xmS,xmT,xmU,xmV,xlO,xlP,xlQ,xlR,xlS,xlT,xlU,xlV,i1,w1,zn,xab,za,beq_self_eq_true,m1,m2,Bool.and_self,W,e,zk,zh,Option.bind_some,Nat.beq_refl,sUF]
   . rw [h2,hf,zi (by rw [<-hf];omega),zi (by omega)]
 . obtain ⟨O,U,Y,e,h1,h2,h3⟩:=xBo J n q.length q h ox 0 0 (zd _) hs hh (by omega) hb (by omega)
   refine ⟨O,?_,h1,by rw [h2,show n - h=0 by omega];simp⟩
   have i1:¬ (n:Int)>(h:Int):=by omega
   subst h3;unfold set2 xlN xli;simp only [xmM,xmN,xmO,xmP,xmQ,xmR,xmS,xmT,xmU,xmV,xlO,xlP,xlQ,xlR,xlS,xlT,xlU,xlV,i1,zm,xac,tk,e,zk,zh,xab,Option.bind_some,Nat.beq_refl,Bool.and_self,sUF]
def setF (s:List Int×List Per) (q:Int×Nat):List Int×List Per:=(s.1.take q.2++List.replicate (q.2 - s.1.length) q.1,s.2++((s.1.drop q.2).reverse.map fun f=>(f,q.1)))
theorem xyx {α β:Type} (A B:α->List β):∀ l:List α,(l.flatMap fun k=>A k++B k).Perm (l.flatMap A++l.flatMap B)
 | []=>List.Perm.refl _
 | a::l=>by
  rw [zR,zR,zR];have ih:=xyx A B l;refine (ih.append_left (A a++B a)).trans ?_;rw [zw,zw];refine List.Perm.append_left _ ?_;rw [<-zw,<-zw];exact List.Perm.append_right _ List.perm_append_comm
theorem xAE {β:Type} (g:Int->β):∀ (F:List Int) (H n:Nat),F.length<=H->(List.range H).flatMap (fun k=>if n<=k then (F[k]?).toList.map g else [])=(F.drop n).map g
 | [],H,n,_=>by
  rw [List.drop_nil,zW,List.flatMap_eq_nil_iff];intro k _;split<;>simp
 | x::F,0,n,h=>by simp at h
 | x::F,H+1,n,h=>by
  rw [List.range_succ_eq_map,zR,List.flatMap_map];have ih:=xAE g F H (n - 1) (by simpa using h)
  have e:(List.range H).flatMap (fun a=>if n<=a.succ then (((x::F)[a.succ]?).toList).map g else [])=(F.drop (n - 1)).map g:=by
   rw [<-ih];congr 1;funext a;have:(n<=a.succ)=(n - 1<=a):=by rw [eq_iff_iff];omega
   simp only [this,zZ,Nat.succ_eq_add_one]
  rw [e];cases n with
  | zero=>simp
  | succ n=>simp
structure LvI (N:Int->Nat) (H:Nat) (at':Int) (F:List Int) (out:List Per) (A:Nat->List Per):Prop where
 perm:out.Perm ((List.range H).flatMap A)
 span:∀ k,IsSpan (A k)
 low:∀ k (h:k<F.length),F[k]<=at'/\0<=F[k]/\∀ p,p∈A k->p.2<F[k]
 high:∀ k,F.length<=k->∀ p,p∈A k->p.2<=at'
 cov:∀ k t,t<=at'->((inL (A k) t=true\/∃ h:k<F.length,F[k]<=t)↔k<N t)
 len:F.length=N at'
 top:F.length<=H
theorem LvI.start {N:Int->Nat} {H:Nat} (h0:∀ t,t<0->N t=0):LvI N H (-1) [] [] fun _=>[] where
 perm:=by
  have:(List.range H).flatMap (fun _=>([]:List Per))=[]:=by simp
  rw [this]
 span _:=xlL
 low k h:=by simp at h
 high k _ p hp:=by simp at hp
 cov k t ht:=by rw [h0 t (by omega),xfl];simp
 len:=by rw [h0 _ (by omega)];rfl
 top:=zQ _
theorem LvI.set {N:Int->Nat} {H:Nat} {a b:Int} {F:List Int} {out:List Per} {A:Nat->List Per} (h:LvI N H a F out A) (ac:a<b) (h0:0<=b) (hb:b<=1099511627776) (hc:∀ t,a<=t->t<b->N t=N a) (hH:N b<=H) :
  ∃ A',LvI N H b (setF (F,out) (b,N b)).1 (setF (F,out) (b,N b)).2 A':=by
 have hl:=h.len;refine ⟨fun k=>A k++(if N b<=k then (F[k]?).toList.map (fun f=>(f,b)) else []),?_,?_,?_,?_,?_,?_,?_⟩
 . refine (List.Perm.append h.perm ?_).trans (xyx A _ _).symm;rw [xAE (fun f=>(f,b)) F H (N b) h.top]
   exact (List.reverse_perm _).map _
 . intro k;by_cases hk:N b<=k
   . rw [if_pos hk];by_cases J:k<F.length
     . obtain ⟨l1,l2,l3⟩:=h.low k J;rw [ze J];refine ⟨fun p hp=>?_,List.pairwise_append.2 ⟨(h.span k).2,by simp,fun p hp q hq=>?_⟩⟩
       . rcases zG.1 hp with hp|hp
         . exact (h.span k).1 p hp
         . simp at hp;subst hp;exact xbO.2 ⟨l2,by dsimp only;omega,hb⟩
       . simp at hq;subst hq;exact l3 p hp
     . rw [zz (by omega)];simpa using h.span k
   . rw [if_neg hk,zD];exact h.span k
 . intro k hk;simp only [setF] at hk |-;rw [z8,zt,List.length_replicate] at hk;have O:¬ N b<=k:=by omega
   simp only [O,if_false,zD];by_cases J:k<F.length
   . rw [List.getElem_append_left (by rw [zt];omega),List.getElem_take]
     obtain ⟨l1,l2,l3⟩:=h.low k J;exact ⟨by omega,l2,l3⟩
   . rw [List.getElem_append_right (by rw [zt];omega),List.getElem_replicate]
     exact ⟨Int.le_refl _,h0,fun p hp=>by have:=h.high k (by omega) p hp;omega⟩
 . intro k hk p hp;simp only [setF] at hk;rw [z8,zt,List.length_replicate] at hk;have O:N b<=k:=by omega
   simp only [O,if_true] at hp;by_cases J:k<F.length
   . rw [ze J] at hp;rcases zG.1 hp with hp|hp
     . obtain ⟨l1,l2,l3⟩:=h.low k J;have:=l3 p hp;omega
     . simp at hp;subst hp;exact Int.le_refl _
   . rw [zz (by omega)] at hp
     simp at hp;have:=h.high k (by omega) p hp;omega
 . intro k t ht;have Q:(setF (F,out) (b,N b)).1=F.take (N b)++List.replicate (N b - F.length) b:=rfl;have key:(∃ hh:k<(setF (F,out) (b,N b)).1.length,(setF (F,out) (b,N b)).1[k]<=t)↔(k<N b/\((∃ hh:k<F.length,F[k]<=t)\/(F.length<=k/\b<=t))):=by
    constructor
    . rintro ⟨hh,U⟩;have hh':=hh;rw [Q,z8,zt,List.length_replicate] at hh';refine ⟨by omega,?_⟩
      by_cases J:k<F.length
      . refine .inl ⟨J,?_⟩;have e:(setF (F,out) (b,N b)).1[k]=F[k]:=by
         simp only [Q];rw [List.getElem_append_left (by rw [zt];omega),List.getElem_take]
        rw [<-e];exact U
      . refine .inr ⟨by omega,?_⟩
        have e:(setF (F,out) (b,N b)).1[k]=b:=by
         simp only [Q];rw [List.getElem_append_right (by rw [zt];omega),List.getElem_replicate]
        rw [<-e];exact U
    . rintro ⟨h1,h2⟩;have hh:k<(setF (F,out) (b,N b)).1.length:=by rw [Q,z8,zt,List.length_replicate];omega
      refine ⟨hh,?_⟩;rcases h2 with ⟨J,U⟩|⟨J,U⟩
      . have e:(setF (F,out) (b,N b)).1[k]=F[k]:=by
         simp only [Q];rw [List.getElem_append_left (by rw [zt];omega),List.getElem_take]
        rw [e];exact U
      . have e:(setF (F,out) (b,N b)).1[k]=b:=by
         simp only [Q];rw [List.getElem_append_right (by rw [zt];omega),List.getElem_replicate]
        rw [e];exact U
   rw [key];have W:inL (A k++(if N b<=k then (F[k]?).toList.map (fun f=>(f,b)) else [])) t=true↔inL (A k) t=true\/(N b<=k/\(∃ hh:k<F.length,F[k]<=t)/\t<b):=by
    rw [xoA,Bool.or_eq_true];refine or_congr Iff.rfl ?_;by_cases O:N b<=k
    . rw [if_pos O];by_cases J:k<F.length
      . obtain ⟨l1,l2,l3⟩:=h.low k J;rw [ze J];have e:inL ((some F[k]).toList.map fun f=>(f,b)) t=hasP (F[k],b) t:=by simp [inL]
        rw [e,xbV,xbO];dsimp only;constructor
        . rintro ⟨_,h2,h3⟩;exact ⟨O,⟨J,h2⟩,h3⟩
        . rintro ⟨_,⟨_,h2⟩,h3⟩;exact ⟨⟨l2,by omega,hb⟩,h2,h3⟩
      . rw [zz (by omega)]
        simp only [Option.toList_none,zW,xfl,zT,false_iff];rintro ⟨_,⟨hh,_⟩,_⟩;omega
    . rw [if_neg O,xfl];simp only [zT,false_iff];rintro ⟨hh,_⟩;omega
   rw [W];by_cases ab:t<=a
   . have Z:=h.cov k t ab;rw [<-Z];constructor
     . rintro ((h1|⟨_,h2,_⟩)|⟨_,h2|⟨_,h3⟩⟩)
       . exact .inl h1
       . exact .inr h2
       . exact .inr h2
       . omega
     . rintro (h1|h2)
       . exact .inl (.inl h1)
       . by_cases O:N b<=k
         . exact .inl (.inr ⟨O,h2,by omega⟩)
         . exact .inr ⟨by omega,.inl h2⟩
   . have V:inL (A k) t=true->False:=fun hi=>by
      obtain ⟨p,hp,_,p1,p2⟩:=xey.1 hi;by_cases J:k<F.length
      . obtain ⟨l1,l2,l3⟩:=h.low k J;have:=l3 p hp;omega
      . have:=h.high k (by omega) p hp;omega
     have aa:(∃ hh:k<F.length,F[k]<=t)↔k<F.length:=⟨fun ⟨hh,_⟩=>hh,fun hh=>⟨hh,by have:=(h.low k hh).1;omega⟩⟩
     rw [aa];by_cases Y:t<b
     . rw [hc t (by omega) Y,<-hl]
       constructor
       . rintro ((h1|⟨_,h2,_⟩)|⟨_,h2|⟨_,h3⟩⟩)
         . exact (V h1).elim
         . exact h2
         . exact h2
         . omega
       . intro J;by_cases O:N b<=k
         . exact .inl (.inr ⟨O,J,Y⟩)
         . exact .inr ⟨by omega,.inl J⟩
     . obtain rfl:t=b:=by omega
       constructor
       . rintro ((h1|⟨_,_,h2⟩)|⟨h1,_⟩)
         . exact (V h1).elim
         . omega
         . exact h1
       . intro hk;refine .inr ⟨hk,?_⟩;by_cases J:k<F.length
         . exact .inl J
         . exact .inr ⟨by omega,Int.le_refl _⟩
 . show (F.take (N b)++List.replicate (N b - F.length) b).length=N b;rw [z8,zt,List.length_replicate];omega
 . show (F.take (N b)++List.replicate (N b - F.length) b).length<=H;rw [z8,zt,List.length_replicate];omega
theorem xug {N:Int->Nat} {a b:Int} (h:∀ t,a<t->t<b->N (t - 1)=N t):∀ (d:Nat) (t:Int),t=a+d->t<b->N t=N a
 | 0,t,e,_=>by rw [e];simp
 | d+1,t,e,hb=>by
  rw [<-h t (by omega) hb]
  exact xug h d (t - 1) (by omega) (by omega)
theorem xD1 {N:Int->Nat} {H:Nat} (hH:∀ t,N t<=H):∀ (R:List Per) (a:Int) (F:List Int) (out:List Per) (A:Nat->List Per),LvI N H a F out A->-1<=a->a<1099511627776->(∀ s,s∈R->a<s.1/\s.1<1099511627776/\s.2=(N s.1:Int))->R.Pairwise (fun x y=>x.1<y.1) ->
  (∀ t,a<t->t<1099511627776->N (t - 1)≠N t->∃ s,s∈R/\s.1=t)->∃ (a':Int) (A':Nat->List Per),LvI N H a' (R.foldl (fun x s=>setF x (s.1,s.2.toNat)) (F,out)).1 (R.foldl (fun x s=>setF x (s.1,s.2.toNat)) (F,out)).2 A'/\-1<=a'/\a'<1099511627776/\∀ t,a'<t->t<1099511627776->N (t - 1)=N t
 | [],a,F,out,A,h,h1,h2,_,_,hm=>⟨a,A,h,h1,h2,fun t t1 t2=>by
  by_cases e:N (t - 1)=N t
  . exact e
  . obtain ⟨s,hs,_⟩:=hm t t1 t2 e;simp at hs⟩
 | s::R,a,F,out,A,h,h1,h2,hr,hp,hm=>by
  obtain ⟨s1,s2,s3⟩:=hr s (by simp)
  obtain ⟨p1,p2⟩:=zM.1 hp;obtain ⟨A',h'⟩:=h.set (b:=s.1) s1 (by omega) (by omega) (fun t t1 t2=>xug (a:=a) (b:=s.1) (fun u u1 u2=>by
   by_cases e:N (u - 1)=N u
   . exact e
   . obtain ⟨q,hq,J⟩:=hm u u1 (by omega) e
     rcases zC.1 hq with rfl|hq
     . omega
     . have:=p1 q hq;omega) (t - a).toNat t (by omega) t2) (hH _)
  rw [List.foldl_cons];have e:setF (F,out) (s.1,s.2.toNat)=setF (F,out) (s.1,N s.1):=by rw [s3,zN]
  rw [e];obtain ⟨a',A2,g1,g2,g3,g4⟩:=xD1 hH R s.1 _ _ A' h' (by omega) s2 (fun q hq=>⟨p1 q hq,(hr q (by simp [hq])).2⟩) p2 (fun t t1 t2 e=>by
   obtain ⟨q,hq,J⟩:=hm t (by omega) t2 e
   rcases zC.1 hq with rfl|hq
   . omega
   . exact ⟨q,hq,J⟩)
  exact ⟨a',A2,g1,g2,g3,g4⟩
theorem xJ3 {N:Int->Nat} {H:Nat} (hH:∀ t,N t<=H) (h0:∀ t,t<0\/1099511627776<=t->N t=0) {S:List Per} (hS:StepI (fun t=>(N t:Int)) 1099511627776 S) {P:List Per} (hP:P.Perm (setF (S.foldl (fun x s=>setF x (s.1,s.2.toNat)) ([],[])) (1099511627776,0)).2) (hs:Sorted cmpP P):IsLevs N P:=by
 obtain ⟨a,A,g1,g2,g3,g4⟩:=xD1 hH S (-1) [] [] _ (LvI.start fun t ht=>h0 t (.inl ht)) (by omega) (by omega) (fun s hs=>by
  obtain ⟨m1,m2,m3,_⟩:=(hS.mem s).1 hs;exact ⟨by omega,m2,m3⟩) hS.asc (fun t t1 t2 e=>by
  refine ⟨(t,(N t:Int)),(hS.mem _).2 ⟨by dsimp only;omega,t2,rfl,?_⟩,rfl⟩
  refine .inr ?_;dsimp only;omega)
 have hz:N 1099511627776=0:=h0 _ (.inr (Int.le_refl _));obtain ⟨A',h'⟩:=g1.set (b:=1099511627776) g3 (by omega) (by omega) (fun t t1 t2=>xug (fun u u1 u2=>g4 u u1 u2) (t - a).toNat t (by omega) t2) (hH _)
 rw [hz] at h';have hF:=h'.len;rw [hz] at hF;refine ⟨hs,A',H,hH,fun k=>⟨h'.span k,fun t=>?_⟩,hP.trans h'.perm⟩
 rw [Bool.eq_iff_iff,zl];by_cases ht:t<=1099511627776
 . rw [<-h'.cov k t ht];refine ⟨Or.inl,fun hh=>hh.elim id fun ⟨hk,_⟩=>?_⟩
   rw [hF] at hk;omega
 . rw [h0 t (.inr (by omega))]
   refine ⟨fun hi=>?_,fun hh=>by omega⟩
   have:=(xs3 hi).2;omega
abbrev Grp:=Row×List Per
def encG (g:Grp):AV:=.agg [.list 3 (g.1.map encV),.list 2 (g.2.map encP)]
def okEG (x:AV):Bool:=x.cells.length==(2:Nat)&&xOy [Sh.list (3:Nat),Sh.list (2:Nat)] x.cells (0:Nat)
def ldEG (x:AV):AV:=AV.agg [AV.list (3:Nat) (x.cells.getD (0:Nat) AV.top).toList,AV.list (2:Nat) (x.cells.getD (1:Nat) AV.top).toList]
def xNZ (x y:AV):Bool:=(xgf (x.cells.getD 0 AV.top).toList (x.cells.getD 1 AV.top).toList (y.cells.getD 0 AV.top).toList (y.cells.getD 1 AV.top).toList).isSome
def xNx (x y:AV):Int:=(xgf (x.cells.getD 0 AV.top).toList (x.cells.getD 1 AV.top).toList (y.cells.getD 0 AV.top).toList (y.cells.getD 1 AV.top).toList).getD 0
theorem heG (a:Grp):okEG (encG a)=true:=rfl
theorem hdG (a:Grp):ldEG (encG a)=encG a:=rfl
section
variable {N : Nat} (hN : N <= 2 ^ 60) {ok : Grp -> Prop} {c : Grp -> Grp -> Int} (hc : ∀ x y, ok x -> ok y -> xNZ (encG x) (encG y) = true /\ xNx (encG x) (encG y) = c x y)
include hN
include hc
theorem xNj (a b:Nat) (ha:a<=N) (hb:b<=N) {l r:List Grp} (hl:LOk N ok l) (hr:xNU c a b l=some r):xaR N a b (List.map encG l)=some (List.map encG r)/\LOk N ok r:=by
 obtain ⟨e1,e2⟩:=xKC (enc:=encG) hN (c:=c) (ok:=ok) a b hb (gi:=fun i=>xa6 N a b i) (fun i l r hl hr=>xLK (okE:=okEG) (ldE:=ldEG) heG hdG hN (P:=xNZ) (V:=xNx) hc a (fun j xs=>rfl) hl hr) (g:=xa5 N a b) (fun i xs=>rfl) hl hr
 refine ⟨?_,e2⟩;unfold xaR xdZ;rw [w64 (x:=(a:Int)+1) (n:=a+1) (by omega) (by omega),e1];rfl
theorem xKD (q:N<20) {l r:List Grp} (hl:LOk N ok l) (hr:xNU c 0 N l=some r):xex N N (List.map encG l)=some (List.map encG r)/\LOk N ok r:=by
 obtain ⟨e1,e2⟩:=xNj hN hc 0 N (by omega) (zd _) hl hr
 have e1:xaR N 0 N (List.map encG l)=_:=e1;have q0:Iter (xbk N N 20) ((0:Int),(20:Int),List.map encG l)=some ((0:Int),List.map encG l):=by
  refine xad ?_;have h1:¬ (20:Int)<=(N:Int):=by omega
  simp only [xbk,xfa,h1,zm,xac,sUF]
 have q1:Iter (xck N N) ((20:Int),List.map encG r)=some (List.map encG r):=by
  refine xad ?_;have h1:¬ (20:Int)<(N:Int):=by omega
  simp only [xck,xfb,h1,zm,xac,sUF]
 refine ⟨?_,e2⟩;simp only [xex,xgA,xf7,xf8,xf9,q0,e1,q1,zk,zh,xab,sUF]
end
theorem xNn {N:Nat} (hN:N*48<=140737488355328) {ok:Grp->Prop} {c:Grp->Grp->Int} (hc:∀ x y:Grp,ok x->ok y->xNZ (encG x) (encG y)=true/\xNx (encG x) (encG y)=c x y) (q:N<20) (l r:List Grp) (hl:l.length=N) (ho:∀ x,x∈l->ok x) (hr:xNU c 0 N l=some r) :
  xgV N (List.map encG l)=some (List.map encG r):=by
 obtain ⟨e1,e2⟩:=xKD (N:=N) (by omega) (ok:=ok) hc q ⟨hl,ho⟩ hr
 simp only [xgV,xf6,e1,zk,zh,xab,sUF]
end Go.Sim.M
end
noncomputable section
set_option maxRecDepth 100000
namespace Go.Sim.M
open Go.RowKit Go.Sim.Srt
def ents:Nat->List Row->List AV
 | _,[]=>[]
 | k,r::R=>.agg [.str (keyOf r),.int .i64 (k:Int)]::ents (k+1) R
theorem xFY:∀ (R:List Row) (k:Nat) (r:Row),mapIx (ents k R) (keyOf r)=R.findIdx? fun x=>decide (x=r)
 | [],_,_=>rfl
 | x::R,k,r=>by
  have hk:isKey (keyOf r) (((AV.agg [.str (keyOf x),.int .i64 (k:Int)]).cells).getD 0 .top)=decide (x=r):=by
   show (keyOf x==keyOf r)=_;by_cases h:x=r
   . subst h;simp
   . have:¬ keyOf x=keyOf r:=fun e=>h (xBm e)
     simp [h,this]
  show (match isKey (keyOf r) (((AV.agg [.str (keyOf x),.int .i64 (k:Int)]).cells).getD 0 .top) with|true=>some 0|false=>(mapIx (ents (k+1) R) (keyOf r)).map (·+1))=_
  rw [hk,List.findIdx?_cons,xFY R (k+1) r];by_cases h:x=r<;>simp [h]
theorem xDJ:∀ (R:List Row) (k:Nat),(ents k R).length=R.length
 | [],_=>rfl
 | _::R,k=>by show (ents (k+1) R).length+1=_;rw [xDJ R];rfl
theorem xBT:∀ (R:List Row) (k:Nat) (r:Row),ents k (R++[r])=ents k R++[.agg [.str (keyOf r),.int .i64 ((k+R.length:Nat):Int)]]
 | [],_,_=>rfl
 | x::R,k,r=>by
  show _::ents (k+1) (R++[r])=_;rw [xBT R (k+1) r,zF,show k+1+R.length=k+(R.length+1) by omega];rfl
theorem xDI:∀ (R:List Row) (k j:Nat) (h:j<R.length),(ents k R).getD j .top=.agg [.str (keyOf R[j]),.int .i64 ((k+j:Nat):Int)]
 | x::R,k,0,h=>rfl
 | x::R,k,j+1,h=>by
  show (ents (k+1) R).getD j .top=_;rw [xDI R (k+1) j (by simpa using h),show k+1+j=k+(j+1) by omega];rfl
def upd (G:List Grp) (f:Fc):List Grp:=match (G.map (·.1)).findIdx? fun x=>decide (x=f.r) with
 | some j=>G.set j (f.r,(G.getD j ([],[])).2++[f.p])
 | none=>G++[(f.r,[f.p])]
structure GI (l:List Fc) (G:List Grp):Prop where
 nd:(G.map (·.1)).Nodup
 mem:∀ r,r∈G.map (·.1)↔∃ f,f∈l/\f.r=r/\pv f.p=true
 ps:∀ g,g∈G->g.2=psOf l g.1
 len:G.length<=l.length
theorem GI.nil:GI [] []:=⟨List.nodup_nil,fun r=>by simp,fun g hg=>by simp at hg,zd _⟩
theorem xvz (l:List Fc) (f:Fc) (r:Row):psOf (l++[f]) r=psOf l r++(if f.r=r/\pv f.p=true then [f.p] else []):=by
 unfold psOf;rw [List.filter_append,zx];congr 1;by_cases h1:f.r=r<;>by_cases h2:pv f.p=true<;>simp [h1,h2]
theorem GI.skip {l:List Fc} {G:List Grp} (h:GI l G) {f:Fc} (hf:pv f.p=false):GI (l++[f]) G :=
 ⟨h.nd,fun r=>by
  rw [h.mem];refine ⟨fun ⟨g,hg,e⟩=>⟨g,by simp [hg],e⟩,fun ⟨g,hg,e1,e2⟩=>⟨g,?_,e1,e2⟩⟩
  rcases zG.1 hg with hg|hg
  . exact hg
  . rw [zv] at hg;subst hg;rw [hf] at e2;simp at e2,fun g hg=>by rw [xvz,if_neg (by rw [hf];simp),zD];exact h.ps g hg,by rw [z8];have:=h.len;omega⟩
theorem xwY {R:List Row} {r:Row} {j:Nat} (h:R.findIdx? (fun x=>decide (x=r))=some j):∃ hj:j<R.length,R[j]=r:=by
 obtain ⟨hj,h1,_⟩:=List.findIdx?_eq_some_iff_getElem.1 h;exact ⟨hj,by simpa using h1⟩
theorem xDL {R:List Row} {r:Row} (h:R.findIdx? (fun x=>decide (x=r))=none):r∉R:=fun hr=>by
 have:=List.findIdx?_eq_none_iff.1 h r hr;simp at this
theorem xBA {G:List Grp} {j:Nat} (hj:j<G.length) {ps:List Per} {r:Row} (hr:G[j].1=r):(G.set j (r,ps)).map (·.1)=G.map (·.1):=by
 rw [List.map_set];show (G.map (·.1)).set j r=_;rw [<-hr];have:(G.map (·.1))[j]'(by simpa using hj)=G[j].1:=by simp
 rw [<-this];exact List.set_getElem_self _
theorem GI.upd {l:List Fc} {G:List Grp} (h:GI l G) {f:Fc} (hf:pv f.p=true):GI (l++[f]) (M.upd G f):=by
 unfold M.upd;cases hi:(G.map (·.1)).findIdx? fun x=>decide (x=f.r) with
 | some j =>
  obtain ⟨hj,hr⟩:=xwY hi;rw [za] at hj;rw [List.getElem_map] at hr;dsimp only;have gd:G.getD j ([],[])=G[j]:=by rw [z7,ze hj];rfl
  rw [gd];refine ⟨by rw [xBA hj hr];exact h.nd,fun r=>?_,fun g hg=>?_,by rw [y2,z8];have:=h.len;omega⟩
  . rw [xBA hj hr,h.mem];refine ⟨fun ⟨g,hg,e⟩=>⟨g,by simp [hg],e⟩,fun ⟨g,hg,e1,e2⟩=>?_⟩
    rcases zG.1 hg with hg|hg
    . exact ⟨g,hg,e1,e2⟩
    . rw [zv] at hg;subst hg;refine (h.mem r).1 ?_;rw [<-e1,<-hr];exact zK.2 ⟨G[j],zo hj,rfl⟩
  . obtain ⟨i,q,rfl⟩:=zp.1 hg;rw [y2] at q;rw [List.getElem_set];by_cases J:j=i
    . subst J;rw [if_pos rfl,xvz,if_pos ⟨rfl,hf⟩,h.ps _ (zo hj),hr]
    . rw [if_neg J,xvz,if_neg ?_,zD]
      . exact h.ps _ (zo q)
      . rintro ⟨e,_⟩;have hn:=zB.1 h.nd;have ei:(G.map (·.1))[i]'(by simpa using q)=G[i].1:=by simp
        have ej:(G.map (·.1))[j]'(by simpa using hj)=G[j].1:=by simp
        rcases Nat.lt_or_gt_of_ne J with O|O
        . exact hn j i (by simpa using hj) (by simpa using q) O (by rw [ei,ej,hr,e])
        . exact hn i j (by simpa using q) (by simpa using hj) O (by rw [ei,ej,hr,e])
 | none =>
  have hr:=xDL hi;dsimp only;have hz:psOf l f.r=[]:=by
   unfold psOf;rw [List.map_eq_nil_iff,List.filter_eq_nil_iff];intro g hg he;simp only [zf,zl] at he;exact hr ((h.mem _).2 ⟨g,hg,he⟩)
  refine ⟨?_,fun r=>?_,fun g hg=>?_,by rw [z8,z8];have:=h.len;simp;omega⟩
  . rw [zx];refine List.nodup_append.2 ⟨h.nd,by simp,fun a ha b hb e=>?_⟩
    simp at hb;exact hr (by rw [<-hb,<-e];exact ha)
  . rw [zx,zG,h.mem];simp only [zV,zW,zv,zG];constructor
    . rintro (⟨g,hg,e⟩|rfl)
      . exact ⟨g,.inl hg,e⟩
      . exact ⟨f,.inr rfl,rfl,hf⟩
    . rintro ⟨g,hg|rfl,e⟩
      . exact .inl ⟨g,hg,e⟩
      . exact .inr e.1.symm
  . rcases zG.1 hg with hg|hg
    . rw [xvz,if_neg ?_,zD]
      . exact h.ps g hg
      . rintro ⟨e,_⟩;exact hr (by rw [e];exact zK.2 ⟨g,hg,rfl⟩)
    . rw [zv] at hg;subst hg;rw [xvz,if_pos ⟨rfl,hf⟩,hz];rfl
theorem cG0 (g:Grp):((encG g).cells.getD 0 .top).toList=g.1.map encV:=rfl
theorem xIL {α:Type} (l:List α) (x d:α):(l++[x]).getD l.length d=x:=by simp
theorem xKB {α:Type} (l:List α) (x y:α):(l++[x]).set l.length y=l++[y]:=by simp
theorem xN7 (xs:List AV):(AV.agg xs).cells=xs:=rfl
theorem tolA (n:Nat) (xs:List AV):(AV.list n xs).toList=xs:=rfl
theorem xOa (k:IntKind) (n:Int):(AV.int k n).toInt=n:=rfl
theorem xN8 (xs:List AV):xO7 2 (.list 2 xs)=true:=rfl
theorem xOd (n m:Nat):xPu (.int .i64 (n:Int)) m=decide (n<m):=rfl
theorem xOc:xPu (.int .i64 0) 1=true:=rfl
theorem g2a (a b:AV):[a,b].getD 0 .top=a:=rfl
theorem g2b (a b:AV):[a,b].getD 1 .top=b:=rfl
theorem lt2 (a b:AV):([a,b].length==2)=true:=rfl
theorem tk1 (a b:AV):List.take 1 [a,b]=[a]:=rfl
theorem dp2 (a b:AV):List.drop 2 [a,b]=[]:=rfl
theorem xFW (g:Grp):encG g=.agg [.list 3 (g.1.map encV),.list 2 (g.2.map encP)]:=rfl
theorem xFX (p:Per):encP p=.agg [.int .i64 p.1,.int .i64 p.2]:=rfl
def R20 (l:List Fc):Prop:=∃ R:List Row,R.length<20/\∀ f,f∈l->f.r∈R
theorem R20.few {l:List Fc} (h:l.length<20):R20 l:=⟨l.map (·.r),by rw [za];exact h,fun f hf=>zK.2 ⟨f,hf,rfl⟩⟩
theorem R20.of {l m:List Fc} (h:R20 l) (hm:∀ f,f∈m->∃ g,g∈l/\f.r=g.r):R20 m:=by
 obtain ⟨R,h1,h2⟩:=h;exact ⟨R,h1,fun f hf=>by obtain ⟨g,g1,g2⟩:=hm f hf;rw [g2];exact h2 g g1⟩
def Keyed (l:List Fc):Prop:=Few l/\(∀ f,f∈l->(∀ v,v∈f.r->KOk v)/\(keyOf f.r).length<=17592186044416)/\R20 l
theorem Keyed.key {l:List Fc} (h:Keyed l) {f:Fc} (hf:f∈l):xif (f.r.map encV)=some (keyOf f.r):=xIT f.r (h.1.2 f hf) (h.2.1 f hf).1 (h.2.1 f hf).2
theorem xJo (l:List Fc) (h:Keyed l) (k:Nat) (hk:k<l.length) (G:List Grp) (hG:GI (l.take k) G) :
  xa2 (l.map encF) ((l.length:Nat):Int) (G.length,(k:Int),ents 0 (G.map (·.1)),G.map encG) =
   some (.inl ((if pv l[k].p=true then upd G l[k] else G).length,((k+1:Nat):Int),ents 0 ((if pv l[k].p=true then upd G l[k] else G).map (·.1)),(if pv l[k].p=true then upd G l[k] else G).map encG)):=by
 have hl:=h.1.1;have i1:(k:Int)<(l.length:Int):=by omega
 have gf:(l.map encF).getD k .top=encF l[k]:=xaa _ _ _ hk;have ek:=h.key (zo hk);have kl:=(h.2.1 _ (zo hk)).2;have O:=hG.len;rw [zt] at O;cases hv:pv l[k].p with
 | false =>
  simp only [xa2,xdG,sBU,i1,hk,gf,cF0,cF1,cF2,sF0,sF1,sF2,lF,sF12,sF02,xnW,hv,xNw (n:=k) (by omega)]
  rfl
 | true =>
  have k1:(keyOf l[k].r).length<=4611686018427387904:=by omega
  have hx:=xFY (G.map (·.1)) 0 l[k].r;have n1:(ents 0 (G.map (·.1))).length<4611686018427387904:=by rw [xDJ,za];omega
  have m1:(G.length+1)*48<=140737488355328:=by omega
  have m2:G.length+1<=4611686018427387904:=by omega
  simp only [if_true];cases hi:(G.map (·.1)).findIdx? fun x=>decide (x=l[k].r) with
  | none =>
   rw [hi] at hx;have hu:upd G l[k]=G++[(l[k].r,[l[k].p])]:=by unfold upd;rw [hi]
   have hh:xOX (ents 0 (G.map (·.1))) (keyOf l[k].r)=false:=by unfold xOX;rw [hx];rfl
   have hg:xOL (AV.int .i64 0) (ents 0 (G.map (·.1))) (keyOf l[k].r)=AV.int .i64 0:=by unfold xOL;rw [hx]
   have hp:xOJ (ents 0 (G.map (·.1))) (keyOf l[k].r) (AV.int .i64 (G.length:Int))=ents 0 ((G++[(l[k].r,[l[k].p])]).map (·.1)):=by
    unfold xOJ;rw [hx,zx];show _=ents 0 (G.map (·.1)++[l[k].r]);rw [xBT,za,zH]
   have i2:(G.length:Int)<((G.length+1:Nat):Int):=by omega
   have J:xOq (Sh.int .i64) (AV.int .i64 0)=true:=rfl;have gl:∀ x:AV,(G.map encG++[x]).getD G.length .top=x:=fun x=>by have:=xIL (G.map encG) x .top;rwa [za] at this
   have sl:∀ x y:AV,(G.map encG++[x]).set G.length y=G.map encG++[y]:=fun x y=>by have:=xKB (G.map encG) x y;rwa [za] at this
   rw [hu];simp only [xa2,xdG,xgB,xgC,xda,xdb,xep,xgD,xeq,xap,xgE,xaq,xaJ,xal,xd1,xfO,xfP,xbe,xfQ,xd2,xbU,sBU,i1,hk,gf,cF0,cF1,cF2,sF0,sF1,sF2,lF,sF12,sF02,xnW,hv,xNw (n:=k) (by omega),ek,k1,hh,hg,hp,n1,m1,m2,i2,J,gl,sl,z8,zj,zx,zV,zW,xN7,tolA,xOa,xN8,xOd,g2a,g2b,lt2,tk1,dp2,y2,Nat.lt_succ_self,Bool.and_self,List.length_nil,zH,xFW,xFX,List.singleton_append,zU,zD,Int.natCast_zero]
   try simp [xab,xOc,sUF]
  | some j =>
   obtain ⟨hj,hr⟩:=xwY hi;rw [hi] at hx;have q:j<G.length:=by simpa using hj
   rw [List.getElem_map] at hr;have gd:G.getD j ([],[])=G[j]:=by rw [z7,ze q];rfl
   have hu:upd G l[k]=G.set j (l[k].r,G[j].2++[l[k].p]):=by unfold upd;rw [hi];dsimp only;rw [gd]
   have hh:xOX (ents 0 (G.map (·.1))) (keyOf l[k].r)=true:=by unfold xOX;rw [hx];rfl
   have hg:xOL (AV.int .i64 0) (ents 0 (G.map (·.1))) (keyOf l[k].r)=AV.int .i64 (j:Int):=by
    unfold xOL;rw [hx];dsimp only;rw [xDI _ _ _ hj,zH];rfl
   have gj:(G.map encG).getD j .top=encG G[j]:=xaa _ _ _ q;have i2:(j:Int)<(G.length:Int):=by omega
   have J:xOq (Sh.int .i64) (AV.int .i64 (j:Int))=true:=rfl;have pl:G[j].2.length<=k:=by
    rw [hG.ps _ (zo q)];have:=xAC (l.take k) G[j].1;rw [zt] at this;omega
   have m3:(G[j].2.length+1)*16<=140737488355328:=by omega
   have m4:G[j].2.length+1<=4611686018427387904:=by omega
   have gs:∀ x:AV,((G.map encG).set j x).getD j .top=x:=fun x=>by
    rw [z7,zL (by simpa using q)];rfl
   have ss:∀ x y:AV,((G.map encG).set j x).set j y=(G.map encG).set j y:=fun x y=>List.set_set ..
   have tj:(AV.int IntKind.i64 (j:Int)).toInt=(j:Int):=rfl;have cj:(encG G[j]).cells=[.list 3 (l[k].r.map encV),.list 2 (G[j].2.map encP)]:=by rw [<-hr];rfl
   rw [hu,xBA q hr,y2,List.map_set];simp only [xa2,xdG,xgB,xgC,xda,xdb,xep,xgD,xeq,xap,xgE,xaq,xaJ,xal,xd1,xfO,xfP,xbe,xfQ,xd2,xbU,sBU,i1,hk,gf,cF0,cF1,cF2,sF0,sF1,sF2,lF,sF12,sF02,xnW,hv,xNw (n:=k) (by omega),ek,k1,hh,hg,i2,J,tj,gj,cj,q,y2,gs,ss,xN7,tolA,xOa,xN8,xOd,g2a,g2b,lt2,tk1,dp2,m3,m4,Bool.and_self,z8,zj,Nat.lt_succ_self,xFW,xFX,zx,zV,zW,List.singleton_append,zD]
   try simp [xab,xOc,hr,sUF]
def grp (l:List Fc):List Grp:=l.foldl (fun G f=>if pv f.p=true then upd G f else G) []
theorem xDS (l:List Fc) (f:Fc):grp (l++[f])=if pv f.p=true then upd (grp l) f else grp l:=by simp [grp]
theorem xIM:∀ l:List Fc,GI l.reverse (grp l.reverse)
 | []=>GI.nil
 | f::l=>by
  rw [List.reverse_cons,xDS];have ih:=xIM l;cases hv:pv f.p with
  | true=>rw [if_pos rfl];exact ih.upd hv
  | false=>rw [if_neg (by simp)];exact ih.skip hv
theorem xIN (l:List Fc):GI l (grp l):=by have:=xIM l.reverse;rwa [List.reverse_reverse] at this
theorem xJn (l:List Fc) (h:Keyed l):Iter (xa2 (l.map encF) ((l.length:Nat):Int)) ((0:Nat),(0:Int),[],[])=some ((grp l).length,(grp l).map encG):=by
 refine xlg (fun k=>(((grp (l.take k)).length,((k:Nat):Int),ents 0 ((grp (l.take k)).map (·.1)),(grp (l.take k)).map encG):Nat×Int×List AV×List AV)) l.length _ (fun k hk=>?_) ?_ l.length 0 (by omega)
 . rw [xJo l h k hk (grp (l.take k)) (xIN _)];have tk:l.take (k+1)=l.take k++[l[k]]:=by rw [List.take_add_one,ze hk];rfl
   rw [tk,xDS]
 . simp only [xa2,xdG,za,zy,zm,xac,y4,sUF]
theorem xK9 (x y:Grp) (hx:x.1.length<=4398046511104):xNZ (encG x) (encG y)=true/\xNx (encG x) (encG y)=cmpR x.1 y.1:=by
 have e:xgf (x.1.map encV) (x.2.map encP) (y.1.map encV) (y.2.map encP)=some (cmpR x.1 y.1):=by
  unfold xgf xne;rw [xJA x.1 y.1 (by unfold maxLen;omega)];rfl
 have e2:xgf ((encG x).cells.getD 0 .top).toList ((encG x).cells.getD 1 .top).toList ((encG y).cells.getD 0 .top).toList ((encG y).cells.getD 1 .top).toList=some (cmpR x.1 y.1):=e;unfold xNZ xNx;rw [e2];exact ⟨rfl,rfl⟩
theorem xGl (l:List Fc) (h:Keyed l):∃ S:List Grp,xeh (l.map encF)=some (S.map encG)/\xNK l (S.map (·.1))/\(∀ g,g∈S->g.2=psOf l g.1)/\S.length<=l.length:=by
 have hg:=xIN l;have U:=h.1.1;have J:=hg.len;have cG:Cm fun x y:Grp=>cmpR x.1 y.1:=xs8.on (e:=fun x:Grp=>x.1)
 obtain ⟨R,Q,hR⟩:=h.2.2;have O:(grp l).length<20:=by
  have:=hg.nd.length_le_of_subset (l₂:=R) fun r hr=>by
   obtain ⟨f,hf,e,_⟩:=(hg.mem r).1 hr;rw [<-e];exact hR f hf
  rw [za] at this;omega
 obtain ⟨r,e,p,s⟩:=xDU cG.ord [] (grp l) [];simp only [zU,zD,List.length_nil,zH] at e;have es:=xNn (N:=(grp l).length) (by omega) (ok:=fun g=>g.1.length<=1048576) (c:=fun x y:Grp=>cmpR x.1 y.1) (fun x y hx hy=>xK9 x y (by omega)) O (grp l) r rfl (fun g q=>by
  obtain ⟨f,hf,e,_⟩:=(hg.mem g.1).1 (zK.2 ⟨g,q,rfl⟩);rw [<-e];exact h.1.2 f hf) e
 have rl:=p.length_eq;refine ⟨r,?_,⟨?_,fun x=>?_⟩,fun g q=>hg.ps g (p.mem_iff.1 q),by rw [rl];exact J⟩
 . have el:=xJn l h;have ra:xOY 2 1 ((grp l).map encG)=true:=by
    unfold xOY;rw [zI];intro x hx;obtain ⟨g,_,rfl⟩:=zK.1 hx;rfl
   have ll:(grp l).length<=r.length:=by omega
   have tt:List.take (grp l).length (r.map encG)=r.map encG:=zi (by rw [za];omega)
   unfold xeh xoj xnf xng xja xnh xni xnj;simp only [za,el,zk,zh,xab,ra,es,zH,ll,zn,zS,zr,tt,sUF]
 . refine xJv (fun _ _=>xnR) ?_ ?_
   . exact List.pairwise_map.2 s
   . exact ((p.map (·.1)).nodup_iff).2 hg.nd
 . rw [(p.map (·.1)).mem_iff];exact hg.mem x
end Go.Sim.M
end
noncomputable section
set_option maxRecDepth 100000
namespace Go.Sim.M
open Go.RowKit Go.Lib
def xrN (l:List AV) (i:Int):Bool:=decide ((0:Int)<=i)&&decide (i<(↑l.length:Int))
def xwl {T:Type} (l:List AV) (out_n:Nat) (q:Int) (na:Int) (nb:Int) (i:Int) (out_xs:List AV) (δ:T) (κl:(Int×Int×Int×List AV)->T) (κr:(Int×Int×Int×List AV)->T):T:=br (decide (i<(↑l.length:Int))) (br (xrN l i) (br (decide (i.toNat<l.length)&&xOq (Sh.int IntKind.i64) ((l.getD i.toNat AV.top).cells.getD (0:Nat) AV.top)) (br (((l.getD i.toNat AV.top).cells.getD (0:Nat) AV.top).toInt==q) (br (xrN l i) (br (decide (i.toNat<l.length)&&xOq (Sh.int IntKind.i64) ((l.getD i.toNat AV.top).cells.getD (1:Nat) AV.top)) (br (xrN l i) (br (decide (i.toNat<l.length)&&xOq (Sh.int IntKind.i64) ((l.getD i.toNat AV.top).cells.getD (2:Nat) AV.top)) (κl (IntKind.i64.wrap (na+((l.getD i.toNat AV.top).cells.getD (1:Nat) AV.top).toInt),IntKind.i64.wrap (nb+((l.getD i.toNat AV.top).cells.getD (2:Nat) AV.top).toInt),IntKind.i64.wrap (i+(1:Int)),out_xs)) (δ)) (δ)) (δ)) (δ)) (κr (na,nb,i,out_xs))) (δ)) (δ)) (κr (na,nb,i,out_xs))
def xhT (l:List AV) (out_n:Nat) (q:Int):(Int×Int×Int×List AV)->Option ((Int×Int×Int×List AV)⊕(Int×Int×Int×List AV)):=fun (na,nb,i,out_xs)=>xwl l out_n q na nb i out_xs none (fun s=>some (.inl s)) (fun p=>some (.inr p))
def xn4 (keep:Bool->Bool->Bool) (out_n:Nat):Bool:=decide ((0:Int)<=IntKind.i64.wrap ((↑out_n:Int) - (1:Int)))&&decide (IntKind.i64.wrap ((↑out_n:Int) - (1:Int))<(↑out_n:Int))
def xs2 (keep:Bool->Bool->Bool) (l:List AV) (out_n:Nat) (na:Int) (nb:Int) (i:Int) (q:Int) (out_xs:List AV):Int×Int×Int×List AV:=(Iter (xhT l out_n q) (na,nb,i,out_xs)).getD ((0:Int),(0:Int),(0:Int),[])
def xcl (keep:Bool->Bool->Bool) (out_n:Nat):Nat:=(0:Nat)+(IntKind.i64.wrap ((↑out_n:Int) - (1:Int))).toNat
def xuK (keep:Bool->Bool->Bool) (l:List AV) (out_n:Nat) (na:Int) (nb:Int) (i:Int) (q:Int) (out_xs:List AV):Int×Int×List AV:=(xs2 keep l out_n na nb i q out_xs).snd
def xfe (keep:Bool->Bool->Bool) (l:List AV) (out_n:Nat) (na:Int) (nb:Int) (i:Int) (q:Int) (out_xs:List AV):Int:=(xs2 keep l out_n na nb i q out_xs).fst
def xuJ (keep:Bool->Bool->Bool) (l:List AV) (out_n:Nat) (na:Int) (nb:Int) (i:Int) (q:Int) (out_xs:List AV):Int×List AV:=(xuK keep l out_n na nb i q out_xs).snd
def xfd (keep:Bool->Bool->Bool) (l:List AV) (out_n:Nat) (na:Int) (nb:Int) (i:Int) (q:Int) (out_xs:List AV):Int:=(xuK keep l out_n na nb i q out_xs).fst
def xaO (keep:Bool->Bool->Bool) (l:List AV) (out_n:Nat) (na:Int) (nb:Int) (i:Int) (q:Int) (out_xs:List AV):List AV:=(xuJ keep l out_n na nb i q out_xs).snd
def xuH (keep:Bool->Bool->Bool) (l:List AV) (out_n:Nat) (na:Int) (nb:Int) (i:Int) (q:Int) (out_xs:List AV):Bool:=keep (decide (xfe keep l out_n na nb i q out_xs>(0:Int))) (decide (xfd keep l out_n na nb i q out_xs>(0:Int)))
def xaW (keep:Bool->Bool->Bool) (l:List AV) (out_n:Nat) (na:Int) (nb:Int) (i:Int) (q:Int) (out_xs:List AV):Int:=(xuJ keep l out_n na nb i q out_xs).fst
def xn3 (keep:Bool->Bool->Bool) (l:List AV) (out_n:Nat) (na:Int) (nb:Int) (i:Int) (q:Int) (out_xs:List AV):Bool:=decide (xcl keep out_n<(xaO keep l out_n na nb i q out_xs).length)
def xuI (keep:Bool->Bool->Bool) (l:List AV) (out_n:Nat) (na:Int) (nb:Int) (i:Int) (q:Int) (out_xs:List AV):Bool:=decide (xaW keep l out_n na nb i q out_xs<(↑l.length:Int))
def xq3 {T:Type} (keep:Bool->Bool->Bool) (l:List AV) (out_n:Nat) (na:Int) (nb:Int) (i:Int) (q:Int) (out_xs:List AV) (δ:T) (κl:(Nat×Int×Int×Int×Int×List AV)->T) (κr:(Nat×List AV)->T):T:=br (decide (q<(1099511627776:Int))) (br ((Iter (xhT l out_n q) (na,nb,i,out_xs)).isSome) (br (xuI keep l out_n na nb i q out_xs) (br (decide ((0:Int)<=xaW keep l out_n na nb i q out_xs)&&xuI keep l out_n na nb i q out_xs) (br (decide ((xaW keep l out_n na nb i q out_xs).toNat<l.length)&&xOq (Sh.int IntKind.i64) ((l.getD (xaW keep l out_n na nb i q out_xs).toNat AV.top).cells.getD (0:Nat) AV.top)) (br (xuH keep l out_n na nb i q out_xs) (br (decide ((↑out_n:Int)>(0:Int))) (br (xn4 keep out_n) (br (xn3 keep l out_n na nb i q out_xs&&xOq (Sh.int IntKind.i64) (((xaO keep l out_n na nb i q out_xs).getD (xcl keep out_n) AV.top).cells.getD (1:Nat) AV.top)) (br ((((xaO keep l out_n na nb i q out_xs).getD (xcl keep out_n) AV.top).cells.getD (1:Nat) AV.top).toInt==q) (br (xn4 keep out_n) (br (xn3 keep l out_n na nb i q out_xs) (κl (out_n,xfe keep l out_n na nb i q out_xs,xfd keep l out_n na nb i q out_xs,xaW keep l out_n na nb i q out_xs,((l.getD (xaW keep l out_n na nb i q out_xs).toNat AV.top).cells.getD (0:Nat) AV.top).toInt,(xaO keep l out_n na nb i q out_xs).set (xcl keep out_n) (AV.agg (List.take (1:Nat) ((xaO keep l out_n na nb i q out_xs).getD (xcl keep out_n) AV.top).cells++[AV.int IntKind.i64 ((l.getD (xaW keep l out_n na nb i q out_xs).toNat AV.top).cells.getD (0:Nat) AV.top).toInt]++List.drop (2:Nat) ((xaO keep l out_n na nb i q out_xs).getD (xcl keep out_n) AV.top).cells)))) (δ)) (δ)) (br (out_n==(xaO keep l out_n na nb i q out_xs).length&&(decide ((out_n+(1:Nat))*(16:Nat)<=(140737488355328:Nat))&&decide (out_n+(1:Nat)<=(4611686018427387904:Nat)))) (κl (out_n+(1:Nat),xfe keep l out_n na nb i q out_xs,xfd keep l out_n na nb i q out_xs,xaW keep l out_n na nb i q out_xs,((l.getD (xaW keep l out_n na nb i q out_xs).toNat AV.top).cells.getD (0:Nat) AV.top).toInt,xaO keep l out_n na nb i q out_xs++[AV.agg [AV.int IntKind.i64 q,AV.int IntKind.i64 ((l.getD (xaW keep l out_n na nb i q out_xs).toNat AV.top).cells.getD (0:Nat) AV.top).toInt]])) (δ))) (δ)) (δ)) (br (out_n==(xaO keep l out_n na nb i q out_xs).length&&(decide ((out_n+(1:Nat))*(16:Nat)<=(140737488355328:Nat))&&decide (out_n+(1:Nat)<=(4611686018427387904:Nat)))) (κl (out_n+(1:Nat),xfe keep l out_n na nb i q out_xs,xfd keep l out_n na nb i q out_xs,xaW keep l out_n na nb i q out_xs,((l.getD (xaW keep l out_n na nb i q out_xs).toNat AV.top).cells.getD (0:Nat) AV.top).toInt,xaO keep l out_n na nb i q out_xs++[AV.agg [AV.int IntKind.i64 q,AV.int IntKind.i64 ((l.getD (xaW keep l out_n na nb i q out_xs).toNat AV.top).cells.getD (0:Nat) AV.top).toInt]])) (δ))) (κl (out_n,xfe keep l out_n na nb i q out_xs,xfd keep l out_n na nb i q out_xs,xaW keep l out_n na nb i q out_xs,((l.getD (xaW keep l out_n na nb i q out_xs).toNat AV.top).cells.getD (0:Nat) AV.top).toInt,xaO keep l out_n na nb i q out_xs))) (δ)) (δ)) (br (xuH keep l out_n na nb i q out_xs) (br (decide ((↑out_n:Int)>(0:Int))) (br (xn4 keep out_n) (br (xn3 keep l out_n na nb i q out_xs&&xOq (Sh.int IntKind.i64) (((xaO keep l out_n na nb i q out_xs).getD (xcl keep out_n) AV.top).cells.getD (1:Nat) AV.top)) (br ((((xaO keep l out_n na nb i q out_xs).getD (xcl keep out_n) AV.top).cells.getD (1:Nat) AV.top).toInt==q) (br (xn4 keep out_n) (br (xn3 keep l out_n na nb i q out_xs) (κl (out_n,xfe keep l out_n na nb i q out_xs,xfd keep l out_n na nb i q out_xs,xaW keep l out_n na nb i q out_xs,(1099511627776:Int),(xaO keep l out_n na nb i q out_xs).set (xcl keep out_n) (AV.agg (List.take (1:Nat) ((xaO keep l out_n na nb i q out_xs).getD (xcl keep out_n) AV.top).cells++[AV.int IntKind.i64 (1099511627776:Int)]++List.drop (2:Nat) ((xaO keep l out_n na nb i q out_xs).getD (xcl keep out_n) AV.top).cells)))) (δ)) (δ)) (br (out_n==(xaO keep l out_n na nb i q out_xs).length&&(decide ((out_n+(1:Nat))*(16:Nat)<=(140737488355328:Nat))&&decide (out_n+(1:Nat)<=(4611686018427387904:Nat)))) (κl (out_n+(1:Nat),xfe keep l out_n na nb i q out_xs,xfd keep l out_n na nb i q out_xs,xaW keep l out_n na nb i q out_xs,(1099511627776:Int),xaO keep l out_n na nb i q out_xs++[AV.agg [AV.int IntKind.i64 q,AV.int IntKind.i64 (1099511627776:Int)]])) (δ))) (δ)) (δ)) (br (out_n==(xaO keep l out_n na nb i q out_xs).length&&(decide ((out_n+(1:Nat))*(16:Nat)<=(140737488355328:Nat))&&decide (out_n+(1:Nat)<=(4611686018427387904:Nat)))) (κl (out_n+(1:Nat),xfe keep l out_n na nb i q out_xs,xfd keep l out_n na nb i q out_xs,xaW keep l out_n na nb i q out_xs,(1099511627776:Int),xaO keep l out_n na nb i q out_xs++[AV.agg [AV.int IntKind.i64 q,AV.int IntKind.i64 (1099511627776:Int)]])) (δ))) (κl (out_n,xfe keep l out_n na nb i q out_xs,xfd keep l out_n na nb i q out_xs,xaW keep l out_n na nb i q out_xs,(1099511627776:Int),xaO keep l out_n na nb i q out_xs)))) (δ)) (κr (out_n,out_xs))
def xgd (keep:Bool->Bool->Bool) (l:List AV):(Nat×Int×Int×Int×Int×List AV)->Option ((Nat×Int×Int×Int×Int×List AV)⊕(Nat×List AV)):=fun (out_n,na,nb,i,q,out_xs)=>xq3 keep l out_n na nb i q out_xs none (fun s=>some (.inl s)) (fun p=>some (.inr p))
def xA4 (keep:Bool->Bool->Bool) (a:List AV) (b:List AV):Option (Nat×List AV):=Iter (xgd keep ((xhr a b).getD [])) ((0:Nat),(0:Int),(0:Int),(0:Int),(0:Int),[])
def xA3 (keep:Bool->Bool->Bool) (a:List AV) (b:List AV):Nat×List AV:=(xA4 keep a b).getD ((0:Nat),[])
def xA1 (keep:Bool->Bool->Bool) (a:List AV) (b:List AV):List AV:=(xA3 keep a b).snd
def xA2 (keep:Bool->Bool->Bool) (a:List AV) (b:List AV):Nat:=(xA3 keep a b).fst
def xKQ {T:Type} (keep:Bool->Bool->Bool) (a:List AV) (b:List AV) (δ:T) (κ:List AV->T):T:=br ((xhr a b).isSome) (br ((xA4 keep a b).isSome) (br (decide ((0:Nat)+xA2 keep a b<=(xA1 keep a b).length)&&true) (κ (List.take (xA2 keep a b) (List.drop (0:Nat) (xA1 keep a b)))) (δ)) (δ)) (δ)
def swG (keep:Bool->Bool->Bool) (a:List AV) (b:List AV):Option (List AV):=xKQ keep a b none some
end Go.Sim.M
end
noncomputable section
set_option maxRecDepth 100000
namespace Go.Sim.M
open Go.RowKit Go.Lib Go.Sort
def xNy (e:Edg):AV:=.agg [.int .i64 e.1,.int .i64 e.2.1,.int .i64 e.2.2]
theorem xyY (x y:Int):∀ a b,xNs x y (a++b)=xNs x y a++xNs x y b
 | [],b=>rfl
 | p::a,b=>by
  simp only [List.cons_append,xNs,xyY x y a b];split<;>rfl
theorem xAe (x y:Int) (l:List Per) (n:Nat) (h:n<l.length):xNs x y (l.take (n+1))=xNs x y (l.take n)++(if pv l[n]=true then [(l[n].1,x,y),(l[n].2,-x,-y)] else []):=by
 rw [List.take_add_one,ze h];show xNs x y (l.take n++[l[n]])=_;rw [xyY];rfl
theorem xyW (B:List AV) (l:List Per) (hl:l.length<=1073741824):∀ (k n:Nat),n+k=l.length ->
  Iter (xbQ B (l.map encP) ((l.length:Nat):Int)) ((xNs 1 0 (l.take n)).length,((n:Nat):Int),(xNs 1 0 (l.take n)).map xNy)=some ((xNs 1 0 l).length,(xNs 1 0 l).map xNy)
 | 0,n,hk=>by
  obtain rfl:n=l.length:=by omega
  rw [zi (zd _)];refine xad ?_;unfold xbQ;simp only;unfold xkS;rw [decide_eq_false (by omega:¬ ((l.length:Nat):Int)<((l.length:Nat):Int))]
  rfl
 | k+1,n,hk=>by
  have h1:n<l.length:=by omega
  have J:=xk8 1 0 (l.take n);have q:(l.take n).length<=n:=by rw [zt];omega
  have d1:((n:Nat):Int)<((l.length:Nat):Int):=by omega
  have d2:(0:Int)<=((n:Nat):Int):=by omega
  have d3:((xNs 1 0 (l.take n)).length+2)*24<=140737488355328:=by omega
  have d4:(xNs 1 0 (l.take n)).length+2<=4611686018427387904:=by omega
  have d5:((xNs 1 0 (l.take n)).length==(xNs 1 0 (l.take n)).length)=true:=by simp
  have gf:(l.map encP).getD n .top=encP l[n]:=xaa _ _ _ h1;have c0:((encP l[n]).cells.getD 0 .top).toInt=l[n].1:=rfl;have c1:((encP l[n]).cells.getD 1 .top).toInt=l[n].2:=rfl;have sh:((encP l[n]).cells.length==(2:Nat)&&xOy [Sh.int IntKind.i64,Sh.int IntKind.i64] (encP l[n]).cells (0:Nat))=true:=rfl;have st:xbQ B (l.map encP) ((l.length:Nat):Int) ((xNs 1 0 (l.take n)).length,((n:Nat):Int),(xNs 1 0 (l.take n)).map xNy) =
    some (.inl ((xNs 1 0 (l.take (n+1))).length,((n+1:Nat):Int),(xNs 1 0 (l.take (n+1))).map xNy)):=by
   rw [xAe 1 0 l n h1];unfold xbQ;simp only;unfold xkS;rw [zN,gf,sh,c0,c1,xnW,za,za,decide_eq_true d1,decide_eq_true d2,decide_eq_true h1,decide_eq_true d3,decide_eq_true d4,d5,xjO (show n+1<=maxLen by unfold maxLen;omega)]
   cases pv l[n] with
   | true=>simp only [if_true,z8,zx];rfl
   | false=>simp only [zT,if_false,zD];rfl
  rw [xak st];exact xyW B l hl k (n+1) (by omega)
theorem xyX (E0:List Edg) (l:List Per) (hl:l.length<=1073741824) (hE:E0.length<=2147483648):∀ (k n:Nat),n+k=l.length ->
  Iter (xdW (l.map encP) ((l.length:Nat):Int)) ((E0++xNs 0 1 (l.take n)).length,((n:Nat):Int),(E0++xNs 0 1 (l.take n)).map xNy)=some ((E0++xNs 0 1 l).length,(E0++xNs 0 1 l).map xNy)
 | 0,n,hk=>by
  obtain rfl:n=l.length:=by omega
  rw [zi (zd _)];refine xad ?_;unfold xdW;simp only;unfold xkT;rw [decide_eq_false (by omega:¬ ((l.length:Nat):Int)<((l.length:Nat):Int))]
  rfl
 | k+1,n,hk=>by
  have h1:n<l.length:=by omega
  have O:=xk8 0 1 (l.take n);have J:(l.take n).length<=n:=by rw [zt];omega
  have q:(E0++xNs 0 1 (l.take n)).length=E0.length+(xNs 0 1 (l.take n)).length:=z8;have d1:((n:Nat):Int)<((l.length:Nat):Int):=by omega
  have d2:(0:Int)<=((n:Nat):Int):=by omega
  have d3:((E0++xNs 0 1 (l.take n)).length+2)*24<=140737488355328:=by omega
  have d4:(E0++xNs 0 1 (l.take n)).length+2<=4611686018427387904:=by omega
  have d5:((E0++xNs 0 1 (l.take n)).length==(E0++xNs 0 1 (l.take n)).length)=true:=by simp
  have gf:(l.map encP).getD n .top=encP l[n]:=xaa _ _ _ h1;have c0:((encP l[n]).cells.getD 0 .top).toInt=l[n].1:=rfl;have c1:((encP l[n]).cells.getD 1 .top).toInt=l[n].2:=rfl;have sh:((encP l[n]).cells.length==(2:Nat)&&xOy [Sh.int IntKind.i64,Sh.int IntKind.i64] (encP l[n]).cells (0:Nat))=true:=rfl;have st:xdW (l.map encP) ((l.length:Nat):Int) ((E0++xNs 0 1 (l.take n)).length,((n:Nat):Int),(E0++xNs 0 1 (l.take n)).map xNy) =
    some (.inl ((E0++xNs 0 1 (l.take (n+1))).length,((n+1:Nat):Int),(E0++xNs 0 1 (l.take (n+1))).map xNy)):=by
   rw [xAe 0 1 l n h1,<-zw];unfold xdW;simp only;unfold xkT;rw [zN,gf,sh,c0,c1,xnW,za,za,decide_eq_true d1,decide_eq_true d2,decide_eq_true h1,decide_eq_true d3,decide_eq_true d4,d5,xjO (show n+1<=maxLen by unfold maxLen;omega)]
   cases pv l[n] with
   | true=>rw [if_pos rfl,z8 (bs:=[(l[n].1,0,1),(l[n].2,-0,-1)]),zx (l₂:=[(l[n].1,0,1),(l[n].2,-0,-1)])];rfl
   | false=>rw [if_neg (by simp),zD];rfl
  rw [xak st];exact xyX E0 l hl hE k (n+1) (by omega)
def toE (e:Edg):TyE:=(Fin.ofNat 1099511627777 e.1.toNat,e.2.1,e.2.2)
def ofE (x:TyE):Edg:=((x.1.val:Int),x.2.1,x.2.2)
theorem xLq {e:Edg} (h1:0<=e.1) (h2:e.1<=1099511627776):ofE (toE e)=e:=by
 have:e.1.toNat % 1099511627777=e.1.toNat:=Nat.mod_eq_of_lt (by omega)
 simp only [ofE,toE,Fin.ofNat,this,Int.toNat_of_nonneg h1]
theorem xLR (E:List Edg) (h:∀ e,e∈E->0<=e.1/\e.1<=1099511627776):(E.map xNy).all isE=true/\∃ S:List Edg,srtE (E.map xNy)=S.map xNy/\S.Perm E/\S.Pairwise fun x y=>x.1<=y.1:=by
 refine ⟨?_,(pdqL cmpE (E.map toE)).map ofE,?_,?_,?_⟩
 . rw [zI];intro x hx;obtain ⟨e,he,rfl⟩:=zK.1 hx;have:=h e he;show (decide _&&decide _)=true;rw [decide_eq_true this.1,decide_eq_true this.2];rfl
 . unfold srtE;have e1:(E.map xNy).map decE=E.map toE:=by rw [List.map_map];rfl
   rw [e1,List.map_map];rfl
 . have hp:=((xnV cmpE swoE (E.map toE)).1).map ofE;have e2:(E.map toE).map ofE=E:=by
    rw [List.map_map]
    conv=>rhs;rw [<-List.map_id E]
    refine List.map_congr_left fun e he=>?_
    exact xLq (h e he).1 (h e he).2
   rwa [e2] at hp
 . rw [List.pairwise_map];refine (xuU cmpE swoE (E.map toE)).imp fun {x y} q=>?_
   show ((x.1.val:Nat):Int)<=((y.1.val:Nat):Int);unfold cmpE at q;omega
theorem xJV (a b:List Per) (ha:a.length<=1073741824) (hb:b.length<=1073741824) :
  ∃ S:List Edg,xhr (a.map encP) (b.map encP)=some (S.map xNy)/\S.Perm (xNs 1 0 a++xNs 0 1 b)/\S.Pairwise fun x y=>x.1<=y.1:=by
 have l1:=xk8 1 0 a;have l2:=xk8 0 1 b;have O:(xNs 1 0 a++xNs 0 1 b).length=(xNs 1 0 a).length+(xNs 0 1 b).length:=z8;obtain ⟨q,S,hS,hp,hs⟩:=xLR (xNs 1 0 a++xNs 0 1 b) (fun e he=>by
  rcases zG.1 he with he|he
  . exact xnT 1 0 a e he
  . exact xnT 0 1 b e he)
 refine ⟨S,?_,hp,hs⟩;have h0:=xyW (b.map encP) a ha a.length 0 (by omega)
 rw [List.take_zero] at h0;have h1:=xyX (xNs 1 0 a) b hb (by omega) b.length 0 (by omega)
 rw [List.take_zero] at h1;have h0:Iter (xbQ (b.map encP) (a.map encP) (((a.map encP).length:Nat):Int)) (0,0,[])=some ((xNs 1 0 a).length,(xNs 1 0 a).map xNy):=by rw [za];exact h0
 have v4:xm7 (a.map encP) (b.map encP)=((xNs 1 0 a).length,(xNs 1 0 a).map xNy):=by unfold xm7;rw [h0];rfl
 have v3:xm6 (a.map encP) (b.map encP)=some ((xNs 1 0 a++xNs 0 1 b).length,(xNs 1 0 a++xNs 0 1 b).map xNy):=by
  unfold xm6;rw [v4,za];have e:xNs 1 0 a++xNs 0 1 []=xNs 1 0 a:=zD _;rw [e] at h1;exact h1
 have v2:xm5 (a.map encP) (b.map encP)=((xNs 1 0 a++xNs 0 1 b).length,(xNs 1 0 a++xNs 0 1 b).map xNy):=by unfold xm5;rw [v3];rfl
 have v0:xg2 (a.map encP) (b.map encP)=(xNs 1 0 a++xNs 0 1 b).length:=by unfold xg2;rw [v2]
 have v1:xg3 (a.map encP) (b.map encP)=(xNs 1 0 a++xNs 0 1 b).map xNy:=by unfold xg3;rw [v2]
 have J:S.length=(xNs 1 0 a++xNs 0 1 b).length:=hp.length_eq;have d1:(xNs 1 0 a++xNs 0 1 b).length<4611686018427387904:=by omega
 have d2:0+(xNs 1 0 a++xNs 0 1 b).length<=(S.map xNy).length:=by rw [za,J];omega
 have d3:(xNs 1 0 a++xNs 0 1 b).length.beq (xNs 1 0 a++xNs 0 1 b).length=true:=Nat.beq_refl _;have tk:List.take (xNs 1 0 a++xNs 0 1 b).length (List.drop 0 (S.map xNy))=S.map xNy:=by rw [zr,zi (by rw [za,J];exact zd _)]
 unfold xhr xtx;rw [h0,v3,v0,v1,q,hS,tk,za,d3,decide_eq_true d1,decide_eq_true d2];rfl
theorem xIU (out:List Per) (h:out≠[]):out=out.dropLast++[out[out.length - 1]'(by have:=List.length_pos_iff.2 h;omega)]:=by
 have:=List.dropLast_concat_getLast h;rw [List.getLast_eq_getElem] at this;exact this.symm
section
variable (S : List Edg) (hS1 : ∀ e, e ∈ S -> 0 <= e.1 /\ e.1 <= 1099511627776) (hS2 : ∀ e, e ∈ S -> (-1 <= e.2.1 /\ e.2.1 <= 1) /\ (-1 <= e.2.2 /\ e.2.2 <= 1)) (hS3 : S.Pairwise fun x y => x.1 <= y.1) (hS4 : S.length <= 8589934592)
theorem xBF (g:Edg->Int):∀ l:List Edg,(∀ e,e∈l->-1<=g e/\g e<=1)->-(l.length:Int)<=xNv g l/\xNv g l<=l.length
 | [],_=>by simp [xNv]
 | e::l,h=>by
  have:=xBF g l fun x hx=>h x (List.mem_cons_of_mem _ hx)
  have:=h e (List.mem_cons_self ..);simp only [xNv,zF];omega
theorem xEE (g:Edg->Int) (n:Nat) (h:n<S.length):xNv g (S.take (n+1))=xNv g (S.take n)+g S[n]:=by
 rw [List.take_add_one,ze h];show xNv g (S.take n++[S[n]])=_;rw [xwE];simp [xNv]
include hS1 hS2 hS3 hS4
theorem xAm (on:Nat) (at':Int) (ox:List AV):∀ (k i:Nat),i+k=S.length->∃ j:Nat,i<=j/\j<=S.length /\
  Iter (xhT (S.map xNy) on at') (xNv (·.2.1) (S.take i),xNv (·.2.2) (S.take i),((i:Nat):Int),ox)=some (xNv (·.2.1) (S.take j),xNv (·.2.2) (S.take j),((j:Nat):Int),ox) /\
  (∀ (m:Nat) (h:m<S.length),i<=m->m<j->S[m].1=at')/\∀ (h:j<S.length),S[j].1≠at'
 | 0,i,hk=>by
  obtain rfl:i=S.length:=by omega
  refine ⟨S.length,zd _,zd _,xad ?_,fun m _ h1 h2=>by omega,fun h=>absurd h (Nat.lt_irrefl _)⟩
  unfold xhT;simp only;unfold xwl;rw [za,decide_eq_false (by omega:¬ ((S.length:Nat):Int)<((S.length:Nat):Int))]
  rfl
 | k+1,i,hk=>by
  have h1:i<S.length:=by omega
  have d1:((i:Nat):Int)<((S.length:Nat):Int):=by omega
  have d2:(0:Int)<=((i:Nat):Int):=by omega
  have gf:(S.map xNy).getD i .top=xNy S[i]:=xaa _ _ _ h1;have c0:((xNy S[i]).cells.getD 0 .top).toInt=S[i].1:=rfl;have c1:((xNy S[i]).cells.getD 1 .top).toInt=S[i].2.1:=rfl;have c2:((xNy S[i]).cells.getD 2 .top).toInt=S[i].2.2:=rfl;have s0:xOq (Sh.int IntKind.i64) ((xNy S[i]).cells.getD 0 .top)=true:=rfl;have s1:xOq (Sh.int IntKind.i64) ((xNy S[i]).cells.getD 1 .top)=true:=rfl;have s2:xOq (Sh.int IntKind.i64) ((xNy S[i]).cells.getD 2 .top)=true:=rfl;have v0:xrN (S.map xNy) ((i:Nat):Int)=true:=by unfold xrN;rw [za,decide_eq_true d1,decide_eq_true d2];rfl
  by_cases he:S[i].1=at'
  . have hb:=hS2 S[i] (zo h1);have b1:=xBF (·.2.1) (S.take i) fun e he=>(hS2 e (List.mem_of_mem_take he)).1
    have b2:=xBF (·.2.2) (S.take i) fun e he=>(hS2 e (List.mem_of_mem_take he)).2
    have hl:(S.take i).length=i:=by rw [zt];omega
    rw [hl] at b1 b2;have b3:=xEE S (·.2.1) i h1;have b4:=xEE S (·.2.2) i h1;have w1:IntKind.i64.wrap (xNv (·.2.1) (S.take i)+S[i].2.1)=xNv (·.2.1) (S.take (i+1)):=by rw [b3];exact xbH (by omega) (by omega)
    have w2:IntKind.i64.wrap (xNv (·.2.2) (S.take i)+S[i].2.2)=xNv (·.2.2) (S.take (i+1)):=by rw [b4];exact xbH (by omega) (by omega)
    have st:xhT (S.map xNy) on at' (xNv (·.2.1) (S.take i),xNv (·.2.2) (S.take i),((i:Nat):Int),ox)=some (.inl (xNv (·.2.1) (S.take (i+1)),xNv (·.2.2) (S.take (i+1)),((i+1:Nat):Int),ox)):=by
     unfold xhT;simp only;unfold xwl;have e1:(S[i].1==at')=true:=by simp [he]
     rw [v0,zN,gf,s0,s1,s2,c0,c1,c2,za,decide_eq_true d1,decide_eq_true h1,e1,w1,w2,xjO (show i+1<=maxLen by unfold maxLen;omega)]
     rfl
    obtain ⟨j,j1,j2,j3,j4,j5⟩:=xAm on at' ox k (i+1) (by omega)
    refine ⟨j,by omega,j2,by rw [xak st];exact j3,fun m hm h2 h3=>?_,j5⟩
    rcases Nat.eq_or_lt_of_le h2 with rfl|h2
    . exact he
    . exact j4 m hm h2 h3
  . refine ⟨i,zd _,by omega,xad ?_,fun m _ h2 h3=>by omega,fun _=>he⟩
    unfold xhT;simp only;unfold xwl;have e1:(S[i].1==at')=false:=by simp [he]
    rw [v0,zN,gf,s0,c0,za,decide_eq_true d1,decide_eq_true h1,e1];rfl
omit hS1 hS2 hS3 hS4
def SwI (K:Int->Bool) (s:Nat×Int×Int×Int×Int×List AV):Prop :=
 ∃ (out:List Per) (i:Nat) (at':Int),s=(out.length,xNv (·.2.1) (S.take i),xNv (·.2.2) (S.take i),((i:Nat):Int),at',out.map encP)/\0<=at'/\at'<=1099511627776/\i<=S.length /\
  (∀ (m:Nat) (h:m<S.length),m<i->S[m].1<at')/\(∀ (m:Nat) (h:m<S.length),i<=m->at'<=S[m].1)/\OutOk out at' K/\(out.length:Int)<=at'
include hS1 hS2 hS3 hS4
set_option maxHeartbeats 4000000 in
theorem xFB (keep:Bool->Bool->Bool) (a b:List Per) (hp:S.Perm (xNs 1 0 a++xNs 0 1 b)) (s:Nat×Int×Int×Int×Int×List AV) (hs:SwI S (fun t=>keep (inL a t) (inL b t)) s) :
  (∃ s',xgd keep (S.map xNy) s=some (.inl s')/\SwI S (fun t=>keep (inL a t) (inL b t)) s'/\(1099511627776 - s'.2.2.2.2.1).toNat<(1099511627776 - s.2.2.2.2.1).toNat) \/
  ∃ r,xgd keep (S.map xNy) s=some (.inr r)/\∃ out:List Per,r=(out.length,out.map encP)/\OutOk out 1099511627776 (fun t=>keep (inL a t) (inL b t)):=by
 obtain ⟨out,i,at',rfl,ag,ay,hi,ax,aw,O,a0⟩:=hs;by_cases hF:at'<1099511627776
 . left;obtain ⟨j,j1,j2,j3,j4,j5⟩:=xAm S hS1 hS2 hS3 hS4 out.length at' (out.map encP) (S.length - i) i (by omega)
   have ai:∀ (m:Nat) (h:m<S.length),m<j->S[m].1<=at':=fun m h hm=>by
    by_cases au:m<i
    . have:=ax m h au;omega
    . have:=j4 m h (by omega) hm;omega
   have ap:∀ (m:Nat) (h:m<S.length),j<=m->at'<S[m].1:=fun m h hm=>by
    have hj:j<S.length:=by omega
    have h1:=aw j hj (by omega)
    have h2:=j5 hj;have h3:S[j].1<=S[m].1:=by
     rcases Nat.eq_or_lt_of_le hm with rfl|hm
     . exact Int.le_refl _
     . exact zB.1 hS3 j m hj h hm
    omega
   obtain ⟨nx,J⟩:∃ nx:Int,nx=if h:j<S.length then S[j].1 else 1099511627776:=⟨_,rfl⟩
   have ab:at'<nx:=by
    rw [J];split
    . rename_i h;exact ap j h (zd _)
    . exact hF
   have U:nx<=1099511627776:=by
    rw [J];split
    . rename_i h;exact (hS1 _ (zo h)).2
    . exact Int.le_refl _
   have af:∀ (m:Nat) (h:m<S.length),j<=m->nx<=S[m].1:=fun m h hm=>by
    have hj:j<S.length:=by omega
    rw [J,dif_pos hj];rcases Nat.eq_or_lt_of_le hm with rfl|hm
    . exact Int.le_refl _
    . exact zB.1 hS3 j m hj h hm
   have aj:∀ (g:Edg->Int) (t:Int),at'<=t->t<nx->xNv g (S.take j)=xNE g t S:=fun g t Y W=>by
    conv=>rhs;rw [<-List.take_append_drop j S]
    rw [xpH,xCA,xAY]
    . omega
    . intro e he;obtain ⟨m,hm,rfl⟩:=zp.1 he;rw [List.getElem_drop];have:=af (j+m) (by rw [y1] at hm;omega) (by omega)
      omega
    . intro e he;obtain ⟨m,hm,rfl⟩:=zp.1 he;rw [List.getElem_take];rw [zt] at hm;have:=ai m (by omega) (by omega)
      omega
   have ak:∀ t,at'<=t->t<nx->decide (xNv (·.2.1) (S.take j)>0)=inL a t/\decide (xNv (·.2.2) (S.take j)>0)=inL b t:=fun t Y W=>by
    rw [aj _ t Y W,aj _ t Y W,xAZ _ t hp,xAZ _ t hp,xpH,xpH,xwk,xzj,xA0,xzk,Int.add_zero,Int.zero_add,xDE,xDE];exact ⟨rfl,rfl⟩
   obtain ⟨kv,an⟩:∃ kv:Bool,kv=keep (decide (xNv (·.2.1) (S.take j)>0)) (decide (xNv (·.2.2) (S.take j)>0)):=⟨_,rfl⟩;have hK:∀ t,at'<=t->t<nx->keep (inL a t) (inL b t)=kv:=fun t Y W=>by
    rw [an,(ak t Y W).1,(ak t Y W).2]
   have ao:xs2 keep (S.map xNy) out.length (xNv (·.2.1) (S.take i)) (xNv (·.2.2) (S.take i)) ((i:Nat):Int) at' (out.map encP)=(xNv (·.2.1) (S.take j),xNv (·.2.2) (S.take j),((j:Nat):Int),out.map encP):=by unfold xs2;rw [j3];rfl
   have v8:xfe keep (S.map xNy) out.length (xNv (·.2.1) (S.take i)) (xNv (·.2.2) (S.take i)) ((i:Nat):Int) at' (out.map encP)=xNv (·.2.1) (S.take j):=by unfold xfe;rw [ao]
   have v9:xuK keep (S.map xNy) out.length (xNv (·.2.1) (S.take i)) (xNv (·.2.2) (S.take i)) ((i:Nat):Int) at' (out.map encP)=(xNv (·.2.2) (S.take j),((j:Nat):Int),out.map encP):=by unfold xuK;rw [ao]
   have v7:xfd keep (S.map xNy) out.length (xNv (·.2.1) (S.take i)) (xNv (·.2.2) (S.take i)) ((i:Nat):Int) at' (out.map encP)=xNv (·.2.2) (S.take j):=by unfold xfd;rw [v9]
   have v6:xuJ keep (S.map xNy) out.length (xNv (·.2.1) (S.take i)) (xNv (·.2.2) (S.take i)) ((i:Nat):Int) at' (out.map encP)=(((j:Nat):Int),out.map encP):=by unfold xuJ;rw [v9]
   have v1:xaO keep (S.map xNy) out.length (xNv (·.2.1) (S.take i)) (xNv (·.2.2) (S.take i)) ((i:Nat):Int) at' (out.map encP)=out.map encP:=by unfold xaO;rw [v6]
   have v3:xaW keep (S.map xNy) out.length (xNv (·.2.1) (S.take i)) (xNv (·.2.2) (S.take i)) ((i:Nat):Int) at' (out.map encP)=((j:Nat):Int):=by unfold xaW;rw [v6]
   have v2:xuH keep (S.map xNy) out.length (xNv (·.2.1) (S.take i)) (xNv (·.2.2) (S.take i)) ((i:Nat):Int) at' (out.map encP)=kv:=by unfold xuH;rw [v8,v7,<-an]
   have v0:xn3 keep (S.map xNy) out.length (xNv (·.2.1) (S.take i)) (xNv (·.2.2) (S.take i)) ((i:Nat):Int) at' (out.map encP)=decide (xcl keep out.length<out.length):=by unfold xn3;rw [v1,za]
   have v5:xuI keep (S.map xNy) out.length (xNv (·.2.1) (S.take i)) (xNv (·.2.2) (S.take i)) ((i:Nat):Int) at' (out.map encP)=decide (j<S.length):=by
    unfold xuI;rw [v3,za];by_cases h:j<S.length
    . rw [decide_eq_true h,decide_eq_true (by omega)]
    . rw [decide_eq_false h,decide_eq_false (by omega)]
   have ah:(out.length+1)*16<=140737488355328:=by omega
   have al:out.length+1<=4611686018427387904:=by omega
   have e1:(out.length==out.length)=true:=by simp
   have dF:decide (at'<1099511627776)=true:=decide_eq_true hF;have dj:decide ((0:Int)<=((j:Nat):Int))=true:=decide_eq_true (by omega)
   have V:∀ h:j<S.length,(((S.map xNy).getD j .top).cells.getD 0 .top).toInt=nx:=fun h=>by
    rw [xaa _ _ _ h,J,dif_pos h];rfl
   have ae:∀ h:j<S.length,xOq (Sh.int IntKind.i64) (((S.map xNy).getD j .top).cells.getD 0 .top)=true:=fun h=>by
    rw [xaa _ _ _ h];rfl
   have ad:∀ q:List Per,OutOk q nx (fun t=>keep (inL a t) (inL b t))->(q.length:Int)<=nx->SwI S (fun t=>keep (inL a t) (inL b t)) (q.length,xNv (·.2.1) (S.take j),xNv (·.2.2) (S.take j),((j:Nat):Int),nx,q.map encP):=fun q ho hl =>
    ⟨q,j,nx,rfl,by omega,U,j2,fun m h hm=>by have:=ai m h hm;omega,fun m h hm=>af m h hm,ho,hl⟩
   have mu:(1099511627776 - nx).toNat<(1099511627776 - at').toNat:=by omega
   cases kv with
   | false =>
    refine ⟨(out.length,xNv (·.2.1) (S.take j),xNv (·.2.2) (S.take j),((j:Nat):Int),nx,out.map encP),?_,ad out (O.skip (by omega) hK) (by omega),mu⟩
    unfold xgd;simp only;unfold xq3;rw [v1,v2,v3,v5,v7,v8,j3,dF,dj,zN,za];by_cases hj:j<S.length
    . rw [decide_eq_true hj,ae hj,V hj];rfl
    . rw [decide_eq_false hj];have:nx=1099511627776:=by rw [J,dif_neg hj]
      rw [this];rfl
   | true =>
    by_cases hne:out=[]
    . have Z:=O.add ag ab U hK (fun p hp=>by rw [hne] at hp;cases hp)
      refine ⟨((out++[(at',nx)]).length,xNv (·.2.1) (S.take j),xNv (·.2.2) (S.take j),((j:Nat):Int),nx,(out++[(at',nx)]).map encP),?_,ad _ Z (by rw [z8,zj];omega),mu⟩
      have dl:decide (((out.length:Nat):Int)>0)=false:=by rw [hne];rfl
      unfold xgd;simp only;unfold xq3;rw [v1,v2,v3,v5,v7,v8,j3,dF,dj,zN,za,za,dl,e1,decide_eq_true ah,decide_eq_true al];by_cases hj:j<S.length
      . rw [decide_eq_true hj,ae hj,V hj,zx,z8];rfl
      . rw [decide_eq_false hj];have:nx=1099511627776:=by rw [J,dif_neg hj]
        rw [this,zx,z8];rfl
    . have az:=List.length_pos_iff.2 hne;have w1:IntKind.i64.wrap (((out.length:Nat):Int) - 1)=((out.length - 1:Nat):Int):=by rw [xbH (by omega) (by omega)];omega
      have aq:xcl keep out.length=out.length - 1:=by unfold xcl;rw [w1,zN];omega
      have v4:xn4 keep out.length=true:=by
       unfold xn4;rw [w1,decide_eq_true (by omega),decide_eq_true (by omega)];rfl
      have dl:decide (((out.length:Nat):Int)>0)=true:=decide_eq_true (by omega)
      have dv:decide (out.length - 1<out.length)=true:=decide_eq_true (by omega)
      have am:out.length - 1<out.length:=by omega
      have gl:(out.map encP).getD (out.length - 1) .top=encP out[out.length - 1]:=xaa _ _ _ am;have cl:((encP out[out.length - 1]).cells.getD 1 .top).toInt=out[out.length - 1].2:=rfl;have sl:xOq (Sh.int IntKind.i64) ((encP out[out.length - 1]).cells.getD 1 .top)=true:=rfl;have ac:=xIU out hne;by_cases hl:out[out.length - 1].2=at'
      . have ar:=OutOk.ext (o:=out.dropLast) (p:=out[out.length - 1]) (by rw [<-ac];exact O) hl ab U hK
        have Q:(out.dropLast++[(out[out.length - 1].1,nx)]).length=out.length:=by rw [z8,List.length_dropLast,zj];omega
        have aa:(out.map encP).set (out.length - 1) (AV.agg (List.take 1 (encP out[out.length - 1]).cells++[AV.int IntKind.i64 nx]++List.drop 2 (encP out[out.length - 1]).cells))=(out.dropLast++[(out[out.length - 1].1,nx)]).map encP:=by
         have e2:AV.agg (List.take 1 (encP out[out.length - 1]).cells++[AV.int IntKind.i64 nx]++List.drop 2 (encP out[out.length - 1]).cells)=encP (out[out.length - 1].1,nx):=rfl;rw [e2,<-List.map_set];congr 1;have e3:out.set (out.length - 1) (out[out.length - 1].1,nx)=(out.dropLast++[out[out.length - 1]]).set (out.length - 1) (out[out.length - 1].1,nx):=congrArg (fun l=>List.set l (out.length - 1) (out[out.length - 1].1,nx)) ac
         rw [e3,List.set_append_right _ _ (by rw [List.length_dropLast];exact zd _),List.length_dropLast,Nat.sub_self];rfl
        refine ⟨((out.dropLast++[(out[out.length - 1].1,nx)]).length,xNv (·.2.1) (S.take j),xNv (·.2.2) (S.take j),((j:Nat):Int),nx,(out.dropLast++[(out[out.length - 1].1,nx)]).map encP),?_,ad _ ar (by rw [Q];omega),mu⟩
        have e4:(out[out.length - 1].2==at')=true:=by simp [hl]
        unfold xgd;simp only;unfold xq3;rw [v0,v1,v2,v3,v4,v5,v7,v8,aq,j3,dF,dj,zN,za,gl,cl,sl,dl,dv,e4];by_cases hj:j<S.length
        . rw [decide_eq_true hj,ae hj,V hj,aa,Q];rfl
        . rw [decide_eq_false hj];have:nx=1099511627776:=by rw [J,dif_neg hj]
          rw [this] at aa Q |-;rw [aa,Q];rfl
      . have Z:=O.add ag ab U hK (fun p hp=>by
         rw [ac] at hp;rcases zG.1 hp with hp|hp
         . have h1:=O.span.2;rw [ac] at h1;have:=(List.pairwise_append.1 h1).2.2 p hp _ (zv.2 rfl);have h2:=O.low _ (zo am);have h3:=xbO.1 (O.span.1 _ (zo am));omega
         . rw [zv.1 hp];exact hl)
        refine ⟨((out++[(at',nx)]).length,xNv (·.2.1) (S.take j),xNv (·.2.2) (S.take j),((j:Nat):Int),nx,(out++[(at',nx)]).map encP),?_,ad _ Z (by rw [z8,zj];omega),mu⟩
        have e4:(out[out.length - 1].2==at')=false:=by simp [hl]
        unfold xgd;simp only;unfold xq3;rw [v0,v1,v2,v3,v4,v5,v7,v8,aq,j3,dF,dj,zN,za,za,gl,cl,sl,dl,dv,e4,e1,decide_eq_true ah,decide_eq_true al];by_cases hj:j<S.length
        . rw [decide_eq_true hj,ae hj,V hj,zx,z8];rfl
        . rw [decide_eq_false hj];have:nx=1099511627776:=by rw [J,dif_neg hj]
          rw [this,zx,z8];rfl
 . right;have:at'=1099511627776:=by omega
   subst this;refine ⟨(out.length,out.map encP),?_,out,rfl,O⟩;unfold xgd;simp only;unfold xq3;rw [decide_eq_false hF];rfl
end
theorem xvK:∀ (l:List Per) (e:Edg),e∈xNs 1 0 l->(-1<=e.2.1/\e.2.1<=1)/\(-1<=e.2.2/\e.2.2<=1)
 | [],e,h=>by cases h
 | p::l,e,h=>by
  unfold xNs at h;split at h
  . rcases zC.1 h with rfl|h
    . simp
    . rcases zC.1 h with rfl|h
      . simp
      . exact xvK l e h
  . exact xvK l e h
theorem xvL:∀ (l:List Per) (e:Edg),e∈xNs 0 1 l->(-1<=e.2.1/\e.2.1<=1)/\(-1<=e.2.2/\e.2.2<=1)
 | [],e,h=>by cases h
 | p::l,e,h=>by
  unfold xNs at h;split at h
  . rcases zC.1 h with rfl|h
    . simp
    . rcases zC.1 h with rfl|h
      . simp
      . exact xvL l e h
  . exact xvL l e h
theorem xJz (keep:Bool->Bool->Bool) (a b:List Per) (ha:a.length<=1073741824) (hb:b.length<=1073741824) :
  ∃ r:List Per,swG keep (a.map encP) (b.map encP)=some (r.map encP)/\IsSpan r/\∀ t,inL r t=(decide (0<=t)&&(decide (t<1099511627776)&&keep (inL a t) (inL b t))):=by
 obtain ⟨S,hS,hp,Q⟩:=xJV a b ha hb;have l1:=xk8 1 0 a;have l2:=xk8 0 1 b;have U:S.length=(xNs 1 0 a++xNs 0 1 b).length:=hp.length_eq;rw [z8] at U;have q:∀ e,e∈S->e∈xNs 1 0 a\/e∈xNs 0 1 b:=fun e he=>zG.1 (hp.mem_iff.1 he)
 have O:∀ e,e∈S->0<=e.1/\e.1<=1099511627776:=fun e he=>(q e he).elim (xnT 1 0 a e) (xnT 0 1 b e)
 have V:∀ e,e∈S->(-1<=e.2.1/\e.2.1<=1)/\(-1<=e.2.2/\e.2.2<=1):=fun e he=>(q e he).elim (xvK a e) (xvL b e)
 obtain ⟨r,hr,out,rfl,J⟩:=xDX (SwI S (fun t=>keep (inL a t) (inL b t))) (fun s=>(1099511627776 - s.2.2.2.2.1).toNat) (fun r=>∃ out:List Per,r=(out.length,out.map encP)/\OutOk out 1099511627776 (fun t=>keep (inL a t) (inL b t)))
  (xFB S O V Q (by omega) keep a b hp) (0,0,0,0,0,[]) ⟨[],0,0,rfl,Int.le_refl _,by omega,zQ _,fun m _ h=>by omega,fun m h _=>(O _ (zo h)).1,xyb _,by simp⟩
 refine ⟨out,?_,J.span,J.done⟩;have v3:xA4 keep (a.map encP) (b.map encP)=some (out.length,out.map encP):=by unfold xA4;rw [hS];exact hr
 have v2:xA3 keep (a.map encP) (b.map encP)=(out.length,out.map encP):=by unfold xA3;rw [v3];rfl
 have v0:xA2 keep (a.map encP) (b.map encP)=out.length:=by unfold xA2;rw [v2]
 have v1:xA1 keep (a.map encP) (b.map encP)=out.map encP:=by unfold xA1;rw [v2]
 have d1:0+out.length<=out.length:=by omega
 unfold swG xKQ;rw [hS,v3,v0,v1,za,decide_eq_true d1,zr,zi (by rw [za];exact zd _)]
 rfl
theorem xHs (a b:List AV):xt0 a b=swG xn1 a b:=rfl
theorem xNm (a:List Per) (ha:a.length<=1073741824):∃ r:List Per,xqx (a.map encP)=some (r.map encP)/\IsSpan r/\∀ t,inL r t=inL a t:=by
 obtain ⟨r,h1,h2,h3⟩:=xJz xn1 a [] ha (by simp)
 refine ⟨r,?_,h2,fun t=>?_⟩
 . unfold xqx xys;rw [xHs,show ([]:List AV)=([]:List Per).map encP from rfl,h1];rfl
 . rw [h3 t];cases hc:inL a t with
   | false=>simp [xn1,xaE,sUF]
   | true=>have:=xs3 hc;simp [xn1,xaE,this,sUF]
theorem xHt (a b:List AV):xt1 a b=swG xfA a b:=rfl
theorem xFz (a b:List Per) (ha:a.length<=1073741824) (hb:b.length<=1073741824) :
  ∃ r:List Per,xen (a.map encP) (b.map encP)=some (r.map encP)/\IsSpan r/\∀ t,inL r t=(inL a t&&!inL b t):=by
 obtain ⟨r,h1,h2,h3⟩:=xJz xfA a b ha hb;refine ⟨r,?_,h2,fun t=>?_⟩
 . unfold xen xpu;rw [xHt,h1];rfl
 . rw [h3 t];cases hc:inL a t with
   | false=>simp [xfA,xaE,sUF]
   | true=>have:=xs3 hc;simp [xfA,xaE,this,sUF]
end Go.Sim.M
end
noncomputable section
set_option maxRecDepth 100000
namespace Go.Sim.M
open Go.RowKit Go.Sim.Srt
theorem xCi {ps:List Per} (h:ps.length<=262144):Tame (ps.map fun p=>(p,(1:Int))):=⟨by simpa using h,fun c hc=>by
 obtain ⟨p,_,rfl⟩:=zK.1 hc;dsimp only;omega⟩
theorem xCI (ps:List Per) (h:ps.length<=262144):∃ S,xev (ps.map encP)=some (S.map encP)/\StepI (fun t=>((ps.countP (hasP · t):Nat):Int)) 1099511627776 S/\S.length<=2*ps.length+1:=by
 obtain ⟨S,h1,h2,h3⟩:=xtl _ (xCi h);refine ⟨S,by rw [xGM ps (by omega),h1],?_,by simpa using h3⟩
 rwa [show sumC (ps.map fun p=>(p,(1:Int)))=fun t=>((ps.countP (hasP · t):Nat):Int) from funext fun t=>xCB ps t] at h2
theorem xJQ (l:List Fc) (row:Row) (t:Int) (g:Fc->List Per) (hg:∀ f,(g f).countP (hasP · t)=if f.r=row/\hasP f.p t=true then 1 else 0):(l.flatMap g).countP (hasP · t)=cnt l row t:=by
 induction l with
 | nil=>rfl
 | cons f l ih =>
  rw [zR,List.countP_append,ih,hg];have e2:cnt (f::l) row t=cnt l row t+if (decide (f.r=row)&&hasP f.p t)=true then 1 else 0:=List.countP_cons
  rw [e2];by_cases h:f.r=row/\hasP f.p t=true
  . rw [if_pos h,if_pos (by simp [h.1,h.2])];omega
  . rw [if_neg h,if_neg (by simpa using h)];omega
theorem xHe (l:List Fc) (row:Row) (hr:∀ f,f∈l->f.r.length<=maxLen) (hl:l.length<=262144):∃ S,xo6 (l.map encF) (row.map encV)=some (S.map encP)/\StepI (fun t=>((cnt l row t:Nat):Int)) 1099511627776 S/\S.length<=2*l.length+1:=by
 have e:=xwa row l (by omega) hr
 have q:(l.flatMap fun f=>if cmpR f.r row==0 then [(f.p,(1:Int))] else [])=(l.flatMap fun f=>if cmpR f.r row==0 then [f.p] else []).map fun p=>(p,(1:Int)):=by
  rw [List.map_flatMap];congr 1;funext f;split<;>simp
 rw [q] at e;generalize hq:(l.flatMap fun f=>if cmpR f.r row==0 then [f.p] else [])=ps at e
 have J:ps.length<=l.length:=by
  rw [<-hq];have:=xjc (c:=1) (g:=fun f:Fc=>if cmpR f.r row==0 then [f.p] else []) l fun f _=>by split<;>simp
  omega
 obtain ⟨S,h1,h2,h3⟩:=xMX _ (xCi (ps:=ps) (by omega))
 refine ⟨S,?_,?_,by rw [za] at h3;omega⟩
 . unfold xo6 xqD;simp only [xo7,xo8,xo9,xpa,e,sOO,sUF];simp only [h1,sOO]
 . rwa [show sumC (ps.map fun p=>(p,(1:Int)))=fun t=>((cnt l row t:Nat):Int) from funext fun t=>by
    rw [xCB,<-hq,xJQ l row t _ fun f=>?_]
    rw [cmp0];by_cases hr:f.r=row<;>cases hh:hasP f.p t<;>simp [hr,hh]] at h2
end Go.Sim.M
end
noncomputable section
set_option maxRecDepth 100000
namespace Go.Sim.M
open Go.RowKit Go.Sim.Srt Go.Sort
theorem xLS (E:List Per):(E.map encP).all isP=true/\∃ P:List Per,srtP (E.map encP)=P.map encP/\P.Perm E/\Sorted cmpP P:=by
 have e1:(E.map encP).map decP=E:=by
  rw [List.map_map];conv=>rhs;rw [<-List.map_id E]
  rfl
 refine ⟨?_,pdqL cmpP E,?_,(xnV cmpP swoP E).1,(xuU cmpP swoP E).imp fun {x y} h=>?_⟩
 . rw [zI];intro x hx;obtain ⟨e,he,rfl⟩:=zK.1 hx;rfl
 . unfold srtP;rw [e1];rfl
 . have:=xud x y;omega
theorem xDx (S:List Per) (hS:S.length<=524289) (hN:∀ s,s∈S->0<=s.2/\s.2<=1048576):∀ (d k:Nat) (J ox:List Per),k+d=S.length->StOk J->(xNz J).length<=1048576->ox.length<=k*1048576 ->
  ∃ q Q:List Per,Iter (xcx (S.map encP) ((S.length:Nat):Int)) ((k:Int),ox.length,J.length,((xNz J).length:Int),ox.map encP,J.map encP)=some (Q.length,((xNz q).length:Int),q.length,Q.map encP,q.map encP) /\
   StOk q/\(xNz q,Q)=(S.drop k).foldl (fun x s=>setF x (s.1,s.2.toNat)) (xNz J,ox)/\(xNz q).length<=1048576/\Q.length<=S.length*1048576
 | 0,k,J,ox,h,h1,h2,h3=>by
  obtain rfl:k=S.length:=by omega
  refine ⟨J,ox,xad ?_,h1,by rw [zq (zd _)];rfl,h2,h3⟩
  simp only [xcx,xie,zy,zm,xac,sUF]
 | d+1,k,J,ox,h,h1,h2,h3=>by
  have hk:k<S.length:=by omega
  obtain ⟨n1,n2⟩:=hN _ (zo hk);obtain ⟨m,hm⟩:∃ m:Nat,S[k].2=(m:Int):=⟨S[k].2.toNat,by omega⟩
  obtain ⟨O,e,a1,a2⟩:=xGo S[k].1 m (xNz J).length J ox h1 rfl (by omega) h2 (by omega)
  have U:(xNz O).length=m:=by rw [a2,z8,zt,List.length_replicate];omega
  obtain ⟨q,Q,e',b1,b2,b3,b4⟩:=xDx S hS hN d (k+1) O (ox++(((xNz J).drop m).reverse.map fun f=>(f,S[k].1))) (by omega) a1 (by omega) (by
   rw [z8,za,List.length_reverse,y1];omega)
  refine ⟨q,Q,(xak ?_).trans e',b1,?_,b3,b4⟩
  . have i1:(k:Int)<(S.length:Int):=by omega
    have gf:(S.map encP).getD k .top=encP S[k]:=xaa _ _ _ hk;have i2:¬ (0:Int)>(m:Int):=by omega
    have i3:¬ (1048576:Int)<(m:Int):=by omega
    have tk:List.take O.length (O.map encP)=O.map encP:=zi (by simp)
    rw [U];simp only [xcx,xie,xlB,xlC,xlD,xlE,xlF,xlG,xlH,sBU,hk,i1,gf,cP0,cP1,lP,sP,sP0,sP1,hm,i2,i3,if_false,e,tk,xNw (n:=k) (by omega)]
  . rw [b2,xaC hk,List.foldl_cons];congr 1;rw [hm,zN,a2];rfl
theorem xIW {N:Int->Nat} {H:Nat} (hb:H<=1048576) (hH:∀ t,N t<=H) (h0:∀ t,t<0\/1099511627776<=t->N t=0) {S:List Per} (hS:StepI (fun t=>(N t:Int)) 1099511627776 S) (hl:S.length<=524289):∃ P,xpy (S.map encP)=some (P.map encP)/\IsLevs N P:=by
 obtain ⟨q,ox,e,a1,a2,a3,a4⟩:=xDx S hl (fun s hs=>by
  obtain ⟨_,_,m3,_⟩:=(hS.mem s).1 hs;have:=hH s.1;omega) S.length 0 [] [] (by omega) (fun s hs=>by simp at hs) (by simp [xNz]) (by simp)
 obtain ⟨J,e2,c1,c2⟩:=xGo 1099511627776 0 (xNz q).length q ox a1 rfl (by omega) a3 (by omega)
 obtain ⟨s1,P,s2,s3,s4⟩:=xLS (ox++(((xNz q).drop 0).reverse.map fun f=>(f,(1099511627776:Int))))
 have m1:(ox++(((xNz q).drop 0).reverse.map fun f=>(f,(1099511627776:Int)))).length<4611686018427387904:=by
  rw [z8,za,List.length_reverse,y1];omega
 refine ⟨P,?_,xJ3 hH h0 hS ?_ s4⟩
 . have pl:=s3.length_eq;have e:Iter (xcx (S.map encP) ((S.length:Nat):Int)) ((0:Int),(0:Nat),(0:Nat),(0:Int),[],[])=_:=e;have e2:set2 1099511627776 0 ((xNz q).length:Int) q.length ox.length (q.map encP) (ox.map encP)=_:=e2;generalize (ox++(((xNz q).drop 0).reverse.map fun f=>(f,(1099511627776:Int))))=O at s1 s2 e2 pl m1
   have bq:O.length.beq O.length=true:=by simp
   have m2:O.length<=P.length:=by omega
   have tt:List.take O.length (P.map encP)=P.map encP:=zi (by rw [za];omega)
   unfold xpy xq0;simp only [xhz,xhA,xpz,xpA,xpB,xpC,xpD,xpE,xpF,za,e,zk,zh,xab,e2,bq,m1,s1,s2,zn,zS,zH,m2,zr,tt,sUF]
 . have a2:(xNz q,ox)=S.foldl (fun x s=>setF x (s.1,s.2.toNat)) ([],[]):=a2
   rw [<-a2];exact s3
theorem xDF (ps:List Per) (t:Int) (ht:t<0\/1099511627776<=t):ps.countP (hasP · t)=0:=by
 rw [List.countP_eq_zero];intro p hp h;obtain ⟨h1,h2,h3⟩:=xbV.1 h;have:=xbO.1 h1;omega
theorem xK3 (ps:List Per) (hv:∀ p,p∈ps->pv p=true) (hl:ps.length<=262144):∃ P,xfC (ps.map encP)=some (P.map encP)/\IsLevs (fun t=>ps.countP (hasP · t)) P:=by
 unfold xfC xn9;by_cases h1:ps.length=1
 . obtain ⟨p,rfl⟩:=List.length_eq_one_iff.1 h1;refine ⟨[p],rfl,List.pairwise_singleton _ _,fun k=>if k=0 then [p] else [],1,fun t=>?_,fun k=>?_,?_⟩
   . have:=List.countP_le_length (p:=(hasP · t)) (l:=[p]);simpa using this
   . by_cases hk:k=0
     . subst hk;refine ⟨⟨fun q hq=>by simp at hq;subst hq;exact hv _ (by simp),List.pairwise_singleton _ _⟩,fun t=>?_⟩
       simp [inL];cases hasP p t<;>simp
     . refine ⟨by simp [hk,xlL],fun t=>?_⟩
       simp only [hk,if_false,xfl];have:=List.countP_le_length (p:=(hasP · t)) (l:=[p]);simp at this |-;omega
   . simp
 . obtain ⟨S,e1,e2,e3⟩:=xCI ps hl;obtain ⟨P,e4,e5⟩:=xIW (N:=fun t=>ps.countP (hasP · t)) (H:=ps.length) (by omega) (fun t=>List.countP_le_length) (xDF ps) e2 (by omega)
   refine ⟨P,?_,e5⟩;have i1:((ps.length:Int)==1)=false:=by simp;omega
   simp only [za,i1,xac,e1,e4,zk,zh,xab,sUF]
def mk (r:Row) (P:List Per):List Fc:=P.map fun p=>⟨r,p⟩
theorem xvM (L:Row->List Per):∀ S:List Grp,(S.flatMap fun g=>mk g.1 (L g.1))=xNB (S.map (·.1)) L
 | []=>rfl
 | g::S=>by rw [zR,xvM L S];rfl
theorem xBN (J:List AV) (O q:Int) (row:Row) (hr:row.length<=1048576) (g1:List AV) (P:List Per) (D:List Fc) (hb:D.length+P.length<=2199023255552) (hP:P.length<=1099511627776) :
  Iter (xbA J O q (P.map encP) ((P.length:Nat):Int)) (D.length,(0:Int),D.map encF,row.map encV,g1)=some ((D++mk row P).length,(D++mk row P).map encF):=by
 have key:=xlg (step:=xbA J O q (P.map encP) ((P.length:Nat):Int)) (fun k=>(((D++mk row (P.take k)).length,((k:Nat):Int),(D++mk row (P.take k)).map encF,row.map encV,g1):Nat×Int×List AV×List AV×List AV)) P.length
  ((D++mk row P).length,(D++mk row P).map encF) (fun k hk=>by
  have i1:(k:Int)<(P.length:Int):=by omega
  have gf:(P.map encP).getD k .top=encP P[k]:=xaa _ _ _ hk;have dl:(D++mk row (P.take k)).length=D.length+k:=by unfold mk;rw [z8,za,zt];omega
  have m1:(D.length+k+1)*40<=140737488355328:=by omega
  have m2:D.length+k+1<=4611686018427387904:=by omega
  have m3:row.length*32<=140737488355328:=by omega
  have m4:row.length<=4611686018427387904:=by omega
  have tk:List.take row.length (row.map encV)=row.map encV:=zi (by simp)
  have Q:mk row (P.take (k+1))=mk row (P.take k)++[⟨row,P[k]⟩]:=by unfold mk;rw [List.take_add_one,ze hk,zx];rfl
  rw [Q,<-zw];simp only [xbA,xfg,sBU,hk,i1,gf,cP0,cP1,lP,sP,sP0,sP1,dl,m1,m2,m3,m4,zd,tk,zr,xNw (n:=k) (by omega)]
  rw [z8,dl];simp [encF]) (by
  simp only [xbA,xfg,zy,zm,xac,y4,sUF]) P.length 0 (by omega)
 have e0:D++mk row (P.take 0)=D:=by simp [mk]
 rw [e0] at key;exact key
theorem xIr (q:List AV) (O J:Int) (row:Row) (hr:row.length<=1048576) (g1:List AV) (P:List Per) (D:List Fc) (hb:D.length+P.length<=2199023255552) (hP:P.length<=1099511627776) :
  Iter (xgq q O J (P.map encP) ((P.length:Nat):Int)) (D.length,(0:Int),D.map encF,row.map encV,g1)=some ((D++mk row P).length,(D++mk row P).map encF) :=
 xBN q O J row hr g1 P D hb hP
def Bld (l:List Fc):Prop:=Keyed l/\l.length<=1024
theorem cGs (g:Grp):((encG g).cells.getD 1 .top).toList=g.2.map encP:=rfl
theorem lG (g:Grp):((encG g).cells.length==2)=true:=rfl
theorem sG (g:Grp):xOy [Sh.list 3,Sh.list 2] (encG g).cells 0=true:=rfl
theorem xBO {f:List AV->Option (List AV)} {step:List AV->Int->Nat×Int×List AV->Option ((Nat×Int×List AV)⊕(Nat×List AV))} (J:step=xcs/\f=xfC\/step=xct/\f=xqx) (S:List Grp) (hS:S.length<=1024) (hr:∀ g,g∈S->g.1.length<=1048576) (L:Row->List Per) (hL:∀ g,g∈S->f (g.2.map encP)=some ((L g.1).map encP)/\(L g.1).length<=1048576) :
  Iter (step (S.map encG) ((S.length:Nat):Int)) ((0:Nat),(0:Int),[])=some ((xNB (S.map (·.1)) L).length,(xNB (S.map (·.1)) L).map encF):=by
 rw [<-xvM];refine xhK S (fun g=>mk g.1 (L g.1)) encF 1048576 (fun g hg=>by unfold mk;rw [za];exact (hL g hg).2) (fun n h D hD=>?_) (fun D=>?_)
 . have i1:(n:Int)<(S.length:Int):=by omega
   have gf:(S.map encG).getD n .top=encG S[n]:=xaa _ _ _ h;obtain ⟨e1,e2⟩:=hL _ (zo h);have q:=hr _ (zo h);rcases J with ⟨rfl,rfl⟩|⟨rfl,rfl⟩
   . have el:=xBN (S.map encG) (S.length:Int) (n:Int) S[n].1 q (S[n].2.map encP) (L S[n].1) D (by omega) (by omega)
     simp only [xcs,xff,xhF,xhG,sBU,h,i1,gf,cG0,cGs,lG,sG,e1,el,xNw (n:=n) (by omega)]
   . have el:=xIr (S.map encG) (S.length:Int) (n:Int) S[n].1 q (S[n].2.map encP) (L S[n].1) D (by omega) (by omega)
     simp only [xct,xfh,xhH,xhI,sBU,h,i1,gf,cG0,cGs,lG,sG,e1,el,xNw (n:=n) (by omega)]
 . rcases J with ⟨rfl,rfl⟩|⟨rfl,rfl⟩
   . simp only [xcs,xff,zy,zm,xac,sUF]
   . simp only [xct,xfh,zy,zm,xac,sUF]
theorem xuc {R:List Row} {Q:Row->List Per->Prop} (h:∀ r,r∈R->∃ P,Q r P):∃ L:Row->List Per,∀ r,r∈R->Q r (L r):=by
 refine ⟨fun r=>if hr:r∈R then Classical.choose (h r hr) else [],fun r hr=>?_⟩
 show Q r (if hr:r∈R then Classical.choose (h r hr) else [])
 rw [dif_pos hr];exact Classical.choose_spec (h r hr)
theorem xI7 (l:List Fc) (r:Row):(fun t=>(psOf l r).countP (hasP · t))=cnt l r:=funext fun t=>xvy l r t
theorem xMD (l:List Fc) (h:Bld l):∃ B,xta (l.map encF)=some (B.map encF)/\xNI l B:=by
 obtain ⟨S,e1,hR,J,O⟩:=xGl l h.1;have hl:=h.2;obtain ⟨L,hL⟩:=xuc (R:=S.map (·.1)) (Q:=fun r P=>xfC ((psOf l r).map encP)=some (P.map encP)/\IsLevs (cnt l r) P/\P.length<=1048576) fun r hr=>by
  have q:=xAC l r;obtain ⟨P,a1,a2⟩:=xK3 (psOf l r) xKe (by omega)
  have a3:=a2.len;rw [xI7] at a2;refine ⟨P,a1,a2,Nat.le_trans a3 (Nat.mul_le_mul (Nat.le_trans q hl) (Nat.le_trans q hl))⟩
 have hk:∀ g,g∈S->g.1∈S.map (·.1):=fun g hg=>zK.2 ⟨g,hg,rfl⟩
 have eb:=xBO (.inl ⟨rfl,rfl⟩) S (by omega) (fun g hg=>by
  obtain ⟨f,hf,e,_⟩:=(hR.2 g.1).1 (hk g hg);rw [<-e];exact h.1.1.2 f hf) L (fun g hg=>by
  rw [J g hg];exact ⟨(hL _ (hk g hg)).1,(hL _ (hk g hg)).2.2⟩)
 refine ⟨xNB (S.map (·.1)) L,?_,S.map (·.1),L,hR,fun r hr=>(hL r hr).2.1,rfl⟩
 have tt:∀ F:List Fc,List.take F.length (F.map encF)=F.map encF:=fun F=>zi (by simp)
 unfold xta xpx xnc xkY xj9 xka xkb xkc;simp only [e1,zk,zh,xab,za,eb,zH,zd,zn,zS,zr,tt,sUF]
theorem xM0 (l:List Fc) (h:Bld l):∃ B,xkX (l.map encF)=some (B.map encF)/\xNN l B:=by
 obtain ⟨S,e1,hR,q,O⟩:=xGl l h.1;have hl:=h.2;obtain ⟨L,hL⟩:=xuc (R:=S.map (·.1)) (Q:=fun r P=>xqx ((psOf l r).map encP)=some (P.map encP)/\(IsSpan P/\∀ t,inL P t=decide (0<cnt l r t))/\P.length<=1048576) fun r hr=>by
  have J:=xAC l r;obtain ⟨P,a1,a2,a3⟩:=xNm (psOf l r) (by omega)
  have a4:∀ t,inL P t=decide (0<(psOf l r).countP (hasP · t)):=fun t=>by
   rw [a3,Bool.eq_iff_iff,zl,List.countP_pos_iff];unfold inL;rw [List.any_eq_true]
  refine ⟨P,a1,⟨a2,fun t=>by rw [a4,xvy]⟩,?_⟩
  have:=xBn (k:=0) a2 a4;omega
 have hk:∀ g,g∈S->g.1∈S.map (·.1):=fun g hg=>zK.2 ⟨g,hg,rfl⟩
 have eb:=xBO (.inr ⟨rfl,rfl⟩) S (by omega) (fun g hg=>by
  obtain ⟨f,hf,e,_⟩:=(hR.2 g.1).1 (hk g hg);rw [<-e];exact h.1.1.2 f hf) L (fun g hg=>by
  rw [q g hg];exact ⟨(hL _ (hk g hg)).1,(hL _ (hk g hg)).2.2⟩)
 refine ⟨xNB (S.map (·.1)) L,?_,S.map (·.1),L,hR,fun r hr=>(hL r hr).2.1,rfl⟩
 have tt:∀ F:List Fc,List.take F.length (F.map encF)=F.map encF:=fun F=>zi (by simp)
 unfold xkX xp0 xnd xkZ xkd xke xkf xkg;simp only [e1,zk,zh,xab,za,eb,zH,zd,zn,zS,zr,tt,sUF]
end Go.Sim.M
end
noncomputable section
set_option maxRecDepth 100000
namespace Go.Sim.M
open Go.RowKit Go.Sim.Srt
def pos (S:List Per) (i:Nat):Int:=match S[i]? with
 | some s=>s.1
 | none=>1099511627776
theorem xvw {S:List Per} {i:Nat} (h:i<S.length):pos S i=S[i].1:=by unfold pos;rw [ze h]
theorem xEh {S:List Per} {i:Nat} (h:S.length<=i):pos S i=1099511627776:=by unfold pos;rw [zz h]
theorem xKb {N:Int->Nat} {S:List Per} (hS:StepI (fun t=>(N t:Int)) 1099511627776 S) {i:Nat} (hi:i<S.length):0<=pos S i/\pos S i<pos S (i+1)/\pos S (i+1)<=1099511627776/\S[i].2=(N S[i].1:Int)/\∀ t,pos S i<=t->t<pos S (i+1)->N t=N S[i].1:=by
 obtain ⟨m1,m2,m3,_⟩:=(hS.mem S[i]).1 (zo hi);rw [xvw hi];have hb:S[i].1<pos S (i+1)/\pos S (i+1)<=1099511627776:=by
  by_cases h:i+1<S.length
  . rw [xvw h];have:=zB.1 hS.asc i (i+1) hi h (by omega)
    have:=((hS.mem S[i+1]).1 (zo h)).2.1;omega
  . rw [xEh (by omega)];omega
 refine ⟨m1,hb.1,hb.2,m3,fun t h1 h2=>xug (a:=S[i].1) (b:=pos S (i+1)) (fun u u1 u2=>?_) (t - S[i].1).toNat t (by omega) h2⟩
 by_cases e:N (u - 1)=N u
 . exact e
 . have hu:(u,(N u:Int))∈S:=(hS.mem _).2 ⟨by dsimp only;omega,by dsimp only;omega,rfl,.inr (by dsimp only;omega)⟩
   obtain ⟨k,hk,q⟩:=zp.1 hu;have O:S[k].1=u:=by rw [q]
   rcases zJ i k with J|J
   . have:i+1<S.length:=by omega
     rw [xvw this] at u2;rcases zJ (i+1) k with h3|h3
     . have:=zB.1 hS.asc (i+1) k this hk h3;omega
     . obtain rfl:k=i+1:=by omega
       omega
   . rcases zJ k i with h3|h3
     . have:=zB.1 hS.asc k i hk hi h3;omega
     . obtain rfl:k=i:=by omega
       omega
theorem xKc {N:Int->Nat} {S:List Per} (hS:StepI (fun t=>(N t:Int)) 1099511627776 S):pos S 0=0:=by
 have h0:((0:Int),(N 0:Int))∈S:=(hS.mem _).2 ⟨by simp,by simp,rfl,.inl rfl⟩
 obtain ⟨k,hk,J⟩:=zp.1 h0;have h:0<S.length:=by omega
 have p0:=((hS.mem S[0]).1 (zo h)).1;rw [xvw h];have q:S[k].1=0:=by rw [J]
 rcases zJ 0 k with h3|h3
 . have:=zB.1 hS.asc 0 k h hk h3;omega
 . obtain rfl:k=0:=by omega
   exact q
def xNH (out:List Per) (f t:Int):List Per:=match out.getLast? with
 | some p=>if p.2=f then out.dropLast++[(p.1,t)] else out++[(f,t)]
 | none=>out++[(f,t)]
theorem xN0 {n:Nat} (h:n<=1099511627776):(n+1)*16<=140737488355328/\n+1<=4611686018427387904/\n*16<=140737488355328/\n<=4611686018427387904:=by omega
theorem xF4 (out:List Per) (f t:Int) (O:f<t) (J:∀ p,p∈out->p.2<=f) (hl:out.length<=1048576):∃ q,xa0 out.length f t (out.map encP)=some q/\br q.1 q.2.1.1 q.2.2.1=(xNH out f t).length/\br q.1 q.2.1.2.2 q.2.2.2=(xNH out f t).map encP:=by
 rcases xs1 out with rfl|⟨o,p,rfl⟩
 . refine ⟨_,rfl,rfl,rfl⟩
 . have hp:=J p (by simp)
   have L:(o++[p]).length=o.length+1:=by simp
   rw [L] at hl;have w1:IntKind.i64.wrap (((o.length+1:Nat):Int) - 1)=(o.length:Int):=xN6 (by omega)
   have i1:((o.length+1:Nat):Int)>0:=by omega
   have i2:(o.length:Int)<((o.length+1:Nat):Int):=by omega
   have i3:(o.length:Int)<=((o.length+1:Nat):Int):=by omega
   have i4:o.length<o.length+1:=by omega
   have i5:o.length<=o.length+1:=by omega
   have gl:((o++[p]).map encP).getD o.length .top=encP p:=by
    rw [zx];have:=xDP (o.map encP) (encP p) .top;rwa [za] at this
   have tl:List.take o.length ((o++[p]).map encP)=o.map encP:=by
    rw [zx];exact List.take_left' (by simp)
   obtain ⟨m1,m2,m3,m4⟩:=xN0 (n:=o.length) (by omega)
   obtain ⟨m5,m6,_,_⟩:=xN0 (n:=o.length+1) (by omega)
   have jn:xNH (o++[p]) f t=if p.2=f then o++[(p.1,t)] else o++[p]++[(f,t)]:=by
    unfold xNH;simp
   by_cases he:p.2=f
   . have c1:p.2>=f:=by omega
     have c2:t>p.2:=by omega
     rw [jn,if_pos he,L];refine ⟨(true,(o.length+1,(o++[p]).map encP,o.map encP++[encP (p.1,t)]),(0,[])),?_,by simp [xab,sUF],by simp [xab,sUF]⟩
     unfold xa0 xln xiu xjS xdv xmX xmY xjT xmZ;simp only [sBU,L,w1,i1,i2,i3,i4,i5,gl,cP0,cP1,lP,sP,sP0,sP1,c1,c2,tl,zr,m1,m2,m3,m4,if_true,aggP]
   . have c1:¬ p.2>=f:=by omega
     rw [jn,if_neg he,L];refine ⟨(false,(0,[],[]),(o.length+1+1,(o++[p]).map encP++[encP (f,t)])),?_,by simp [xac,sUF],by simp [xac,sUF]⟩
     unfold xa0 xln xiu xjS xdv xmX xmY xjT xmZ;simp only [sBU,L,w1,i1,i2,i3,i4,gl,cP0,cP1,lP,sP,sP0,sP1,c1,m5,m6,aggP]
theorem xB5 {out:List Per} {f t:Int} {K:Int->Bool} (h:OutOk out f K) (h0:0<=f) (J:f<t) (hF:t<=1099511627776) (hK:∀ u,f<=u->u<t->K u=true):OutOk (xNH out f t) t K/\(xNH out f t).length<=out.length+1:=by
 rcases xs1 out with rfl|⟨o,p,rfl⟩
 . exact ⟨h.add h0 J hF hK (fun p hp=>by simp at hp),by simp [xNH]⟩
 . have jn:xNH (o++[p]) f t=if p.2=f then o++[(p.1,t)] else o++[p]++[(f,t)]:=by unfold xNH;simp
   rw [jn];by_cases he:p.2=f
   . rw [if_pos he];exact ⟨h.ext he J hF hK,by simp⟩
   . rw [if_neg he];refine ⟨h.add h0 J hF hK (fun q hq e=>?_),by simp⟩
     rcases zG.1 hq with hq|hq
     . have:=(List.pairwise_append.1 h.span.2).2.2 q hq p (by simp)
       have hv:=xbO.1 (h.span.1 p (by simp))
       have:=h.low p (by simp)
       omega
     . rw [zv] at hq;subst hq;exact he e
theorem xDu {N:Int->Nat} {S:List Per} (hS:StepI (fun t=>(N t:Int)) 1099511627776 S) (hl:S.length<=524289) (n:Int):∀ (d i:Nat) (out:List Per),i+d=S.length->OutOk out (pos S i) (fun t=>decide (n<=(N t:Int)))->out.length<=i ->
  ∃ J:List Per,Iter (xaD (S.map encP) n) (out.length,(i:Int),out.map encP)=some (J.length,J.map encP)/\OutOk J 1099511627776 (fun t=>decide (n<=(N t:Int)))/\J.length<=S.length
 | 0,i,out,h,ho,hn=>by
  obtain rfl:i=S.length:=by omega
  rw [xEh (zd _)] at ho;refine ⟨out,xad ?_,ho,hn⟩;simp only [xaD,xcB,za,zy,zm,xac,sUF]
 | d+1,i,out,h,ho,hn=>by
  have hi:i<S.length:=by omega
  obtain ⟨p1,p2,p3,p4,p5⟩:=xKb hS hi;have i1:(i:Int)<(S.length:Int):=by omega
  have gf:(S.map encP).getD i .top=encP S[i]:=xaa _ _ _ hi;have wi:=xNw (n:=i) (by omega)
  have pe:=xvw hi;by_cases Q:S[i].2>=n
  . have hK:∀ t,pos S i<=t->t<pos S (i+1)->(fun t=>decide (n<=(N t:Int))) t=true:=fun t t1 t2=>by
     dsimp only;rw [p5 t t1 t2,<-p4];exact decide_eq_true Q
    obtain ⟨j1,j2⟩:=xB5 ho p1 p2 p3 hK;obtain ⟨q,q1,q2,q3⟩:=xF4 out (pos S i) (pos S (i+1)) p2 ho.low (by omega)
    obtain ⟨J,e',x1,x2⟩:=xDu hS hl n d (i+1) (xNH out (pos S i) (pos S (i+1))) (by omega) j1 (by omega)
    refine ⟨J,(xak (s':=((xNH out (pos S i) (pos S (i+1))).length,((i+1:Nat):Int),(xNH out (pos S i) (pos S (i+1))).map encP)) ?_).trans e',x1,x2⟩;rw [<-q2,<-q3];by_cases O:i+1<S.length
    . have i2:((i+1:Nat):Int)<(S.length:Int):=by omega
      have gn:(S.map encP).getD (i+1) .top=encP S[i+1]:=xaa _ _ _ O;rw [xvw O,pe] at q1;simp only [xaD,xcB,xdd,xde,xdf,xdg,xdh,xdi,xdj,xdk,xdl,xdm,xbh,xcP,xcQ,xcR,sBU,i1,i2,hi,O,gf,gn,cP0,cP1,lP,sP,sP0,sP1,Q,wi,q1]
    . have i2:¬ ((i+1:Nat):Int)<(S.length:Int):=by omega
      rw [xEh (S:=S) (i:=i+1) (by omega),pe] at q1
      simp only [xaD,xcB,xdd,xde,xdf,xdg,xdh,xdi,xdj,xdk,xdl,xdm,xbh,xcP,xcQ,xcR,sBU,i1,i2,hi,gf,cP0,cP1,lP,sP,sP0,sP1,Q,wi,q1]
  . have hK:∀ t,pos S i<=t->t<pos S (i+1)->(fun t=>decide (n<=(N t:Int))) t=false:=fun t t1 t2=>by
     dsimp only;rw [p5 t t1 t2,<-p4];exact decide_eq_false (by omega)
    obtain ⟨J,e',x1,x2⟩:=xDu hS hl n d (i+1) out (by omega) (ho.skip (by omega) hK) (by omega)
    refine ⟨J,(xak (s':=(out.length,((i+1:Nat):Int),out.map encP)) ?_).trans e',x1,x2⟩;by_cases O:i+1<S.length
    . have i2:((i+1:Nat):Int)<(S.length:Int):=by omega
      have gn:(S.map encP).getD (i+1) .top=encP S[i+1]:=xaa _ _ _ O;simp only [xaD,xcB,xdd,xde,xdf,xdg,xdh,xdi,xdj,xdk,xdl,xdm,xbh,xcP,xcQ,xcR,sBU,i1,i2,hi,O,gf,gn,cP0,cP1,lP,sP,sP0,sP1,Q,wi]
    . have i2:¬ ((i+1:Nat):Int)<(S.length:Int):=by omega
      simp only [xaD,xcB,xdd,xde,xdf,xdg,xdh,xdi,xdj,xdk,xdl,xdm,xbh,xcP,xcQ,xcR,sBU,i1,i2,hi,gf,cP0,cP1,lP,sP,sP0,sP1,Q,wi]
theorem xIm {N:Int->Nat} (h0:∀ t,t<0\/1099511627776<=t->N t=0) {S:List Per} (hS:StepI (fun t=>(N t:Int)) 1099511627776 S) (hl:S.length<=524289) (k:Nat):∃ A:List Per,xaY (S.map encP) ((k+1:Nat):Int)=some (A.map encP)/\(IsSpan A/\∀ t,inL A t=decide (k<N t))/\A.length<=S.length:=by
 obtain ⟨A,e,a1,a2⟩:=xDu hS hl ((k+1:Nat):Int) S.length 0 [] (by omega) (by rw [xKc hS];exact xyb _) (zd _)
 refine ⟨A,?_,⟨a1.span,fun t=>?_⟩,a2⟩
 . have e:Iter (xaD (S.map encP) ((k+1:Nat):Int)) ((0:Nat),(0:Int),[])=_:=e;have tt:List.take A.length (A.map encP)=A.map encP:=zi (by simp)
   unfold xaY xoJ;simp only [xnp,xnq,xnr,e,zk,zh,xab,zH,za,zd,zn,zS,zr,tt,sUF]
 . rw [a1.done];by_cases h1:0<=t
   . by_cases h2:t<1099511627776
     . simp only [h1,h2,zn,Bool.true_and];rw [Bool.eq_iff_iff,zl,zl];omega
     . have:=h0 t (.inr (by omega));simp [h2,this]
   . have:=h0 t (.inl (by omega));simp [h1,this]
theorem xI9 (p q:Per):decide (xmW p.1 p.2 q.1 q.2<=0)=decide (cmpP p q<=0):=by
 rw [Bool.eq_iff_iff,zl,zl,xvt];unfold xmW;simp only [xaE,zS,sUF];by_cases h1:p.1=q.1
 . by_cases h2:p.2=q.2
   . simp [h1,h2]
   . by_cases h3:p.2<q.2
     . simp [h1,h2,h3];omega
     . simp [h1,h2,h3];omega
 . by_cases h3:p.1<q.1
   . simp [h1,h3]
   . simp [h1,h3]
theorem xEg (P:List Per) (hP:P.length<=1099511627775) (p:Per):∀ (d i:Nat),i+d=P.length->(∀ k (h:k<P.length),k<i->cmpP P[k] p<=0)->∃ m:Nat,m<=P.length/\(∀ k (h:k<P.length),k<m->cmpP P[k] p<=0)/\(∀ h:m<P.length,¬ cmpP P[m] p<=0) /\
  Iter (xcb (P.map encP)) (i,(i:Int),p.1,p.2,(P.take i).map encP)=some (m,(m:Int),p.1,p.2,(P.take m).map encP)
 | 0,i,h,hk=>by
  obtain rfl:i=P.length:=by omega
  refine ⟨P.length,zd _,hk,fun h=>by omega,xad ?_⟩
  simp only [xcb,xgw,za,zy,zm,xac,sUF]
 | d+1,i,h,hk=>by
  have hi:i<P.length:=by omega
  have i1:(i:Int)<(P.length:Int):=by omega
  have gf:(P.map encP).getD i .top=encP P[i]:=xaa _ _ _ hi;have tl:(P.take i).length=i:=by rw [zt];omega
  obtain ⟨m1,m2,_,_⟩:=xN0 (n:=i) (by omega)
  have rc:=xI9 P[i] p;by_cases hc:cmpP P[i] p<=0
  . rw [decide_eq_true hc] at rc;obtain ⟨m,a1,a2,a3,a4⟩:=xEg P hP p d (i+1) (by omega) (fun k h h1=>by
     by_cases e:k=i
     . subst e;exact hc
     . exact hk k h (by omega))
    refine ⟨m,a1,a2,a3,(xak ?_).trans a4⟩;simp only [xcb,xgw,xh6,sBU,i1,hi,gf,cP0,cP1,lP,sP,sP0,sP1,rc,tl,m1,m2,xNw (n:=i) (by omega),aggP]
    rw [List.take_add_one,ze hi,zx];rfl
  . rw [decide_eq_false hc] at rc;refine ⟨i,by omega,hk,fun _=>hc,xad ?_⟩
    simp only [xcb,xgw,xh6,sBU,i1,hi,gf,cP0,cP1,lP,sP,sP0,sP1,rc]
theorem xJ9 (P:List Per) (hP:P.length<=1099511627775) (p:Per) (hs:Sorted cmpP P):∃ P':List Per,xrb (P.map encP) p.1 p.2=some (P'.map encP)/\P'.Perm (p::P)/\Sorted cmpP P':=by
 obtain ⟨m,a1,a2,a3,a4⟩:=xEg P hP p P.length 0 (by omega) (fun k h h1=>by omega)
 refine ⟨P.take m++p::P.drop m,?_,?_,?_⟩
 . have a4:Iter (xcb (P.map encP)) ((0:Nat),(0:Int),p.1,p.2,[])=_:=a4;have tl:(P.take m).length=m:=by rw [zt];omega
   obtain ⟨m1,m2,_,_⟩:=xN0 (n:=m) (by omega)
   have i1:(m:Int)<=(P.length:Int):=by omega
   have t1:List.take (P.length - m) (List.drop m (P.map encP))=(P.drop m).map encP:=by rw [zi (by simp),List.map_drop]
   have dl:(P.drop m).length=P.length - m:=y1;have m3:(m+1+(P.length - m))*16<=140737488355328:=by omega
   have m4:m+1+(P.length - m)<=4611686018427387904:=by omega
   have J:(P.take m).map encP++[encP p]++(P.drop m).map encP=(P.take m++p::P.drop m).map encP:=by simp
   have fl:((P.take m++p::P.drop m).map encP).length=m+1+(P.length - m):=by simp;omega
   have tt:List.take (m+1+(P.length - m)) ((P.take m++p::P.drop m).map encP)=(P.take m++p::P.drop m).map encP:=zi (by rw [fl];exact zd _)
   have ag:AV.agg [.int .i64 p.1,.int .i64 p.2]=encP p:=rfl;unfold xrb xrS;simp only [xiF,xqa,xqb,xiG,xqc,xiH,xqd,xqe,xqf,xqg,xoM,xoN,xoO,a4,sBU,ag,tl,t1,dl,m1,m2,m3,m4,i1,z8,zj,J,zd,zr];have l9:m+(p::P.drop m).length=m+1+(P.length - m):=by rw [zF,dl];omega
   simp only [za,l9,zd,zn,xab,tt,sUF]
 . exact List.perm_middle.trans (by rw [List.take_append_drop])
 . refine List.pairwise_append.2 ⟨hs.sublist (List.take_sublist _ _),zM.2 ⟨fun q hq=>?_,hs.sublist (List.drop_sublist _ _)⟩,fun x hx y hy=>?_⟩
   . obtain ⟨j,hj,rfl⟩:=zp.1 hq;rw [y1] at hj;rw [List.getElem_drop];have h1:=a3 (by omega)
     have h2:cmpP p P[m]<=0:=by rw [xud P[m] p];omega
     rcases Nat.eq_zero_or_pos j with rfl|O
     . exact h2
     . exact xJM.trans _ _ _ h2 (zB.1 hs m (m+j) (by omega) (by omega) (by omega))
   . obtain ⟨i,hi,rfl⟩:=List.mem_take_iff_getElem.1 hx;rcases zC.1 hy with rfl|hy
     . exact a2 i (by omega) (by omega)
     . obtain ⟨j,hj,rfl⟩:=zp.1 hy;rw [y1] at hj;rw [List.getElem_drop];exact zB.1 hs i (m+j) (by omega) (by omega) (by omega)
theorem xGj (l:List AV) (n:Int) (s:List Per) (hs:s.length<=1048576):∀ (d i:Nat) (out:List Per),i+d=s.length->Sorted cmpP out->out.length+d<=1099511627775->∃ q:List Per,Iter (xbZ l n (s.map encP)) (out.map encP,(i:Int))=some (q.map encP)/\q.Perm (out++s.drop i)/\Sorted cmpP q
 | 0,i,out,h,ho,hl=>by
  obtain rfl:i=s.length:=by omega
  refine ⟨out,xad ?_,by rw [zq (zd _),zD],ho⟩
  simp only [xbZ,xh5,za,zy,zm,xac,sUF]
 | d+1,i,out,h,ho,hl=>by
  have hi:i<s.length:=by omega
  have i1:(i:Int)<(s.length:Int):=by omega
  have gf:(s.map encP).getD i .top=encP s[i]:=xaa _ _ _ hi;obtain ⟨P',e1,p1,s1⟩:=xJ9 out (by omega) s[i] ho
  have pl:=p1.length_eq;rw [zF] at pl;obtain ⟨q,e2,p2,s2⟩:=xGj l n s hs d (i+1) P' (by omega) s1 (by omega)
  refine ⟨q,(xak (s':=(P'.map encP,((i+1:Nat):Int))) ?_).trans e2,?_,s2⟩
  . simp only [xbZ,xh5,sBU,i1,hi,gf,cP0,cP1,lP,sP,sP0,sP1,e1,xNw (n:=i) (by omega)]
  . refine p2.trans ((p1.append_right _).trans ?_);rw [xaC hi];exact List.perm_middle.symm
theorem xGi {S:List Per} (A:Nat->List Per) (C:Nat) (hC:C<=524289) (hA:∀ k,xaY (S.map encP) ((k+1:Nat):Int)=some ((A k).map encP)/\(A k).length<=C) (H:Nat) (hH:H<=1048575) (hE:A H=[]):∀ (d k:Nat) (out:List Per),k+d=H->Sorted cmpP out->out.Perm ((List.range k).flatMap A) ->
  ∃ (K:Nat) (q:List Per),Iter (xbY (S.map encP)) (out.map encP,((k+1:Nat):Int))=some (true,(q.map encP,q.map encP),[])/\A K=[]/\K<=H/\q.Perm ((List.range K).flatMap A)/\Sorted cmpP q
 | d,k,out,h,ho,hp=>by
  obtain ⟨e1,l1⟩:=hA k;have n1:((k+1:Nat):Int)<=1048576:=by omega
  by_cases hk:A k=[]
  . refine ⟨k,out,xad ?_,hk,by omega,hp,ho⟩
    rw [hk] at e1;simp only [xbY,xh4,n1,e1,zn,xab,zk,zh,zW,sUF];rfl
  . match d,h with
    | 0,h =>
     obtain rfl:k=H:=by omega
     exact absurd hE hk
    | d+1,h =>
     have ol:out.length<=C*k:=by
      rw [hp.length_eq];have:=xjc (g:=A) (List.range k) fun j _=>(hA j).2
      rwa [List.length_range] at this
     have J:C*k<=524289*1048575:=Nat.mul_le_mul hC (by omega)
     obtain ⟨q,e2,p2,s2⟩:=xGj (S.map encP) ((k+1:Nat):Int) (A k) (by omega) (A k).length 0 out (by omega) ho (by omega)
     obtain ⟨K,o2,e3,k1,k2,p3,s3⟩:=xGi A C hC hA H hH hE d (k+1) q (by omega) s2 (by
      rw [List.range_succ,List.flatMap_append];rw [zr] at p2;refine p2.trans ((hp.append_right _).trans ?_);simp)
     refine ⟨K,o2,(xak ?_).trans e3,k1,k2,p3,s3⟩;have ne:(((A k).length:Int)==0)=false:=by
      have:(A k).length≠0:=fun e=>hk (List.length_eq_zero_iff.1 e)
      simp;exact hk
     have e2:Iter (xbZ (S.map encP) ((k+1:Nat):Int) ((A k).map encP)) (out.map encP,(0:Int))=_:=e2;simp only [xbY,xh4,n1,e1,zn,xab,xac,zk,zh,za,ne,e2,xNw (n:=k+1) (by omega),sUF]
theorem xHn {N:Int->Nat} {H:Nat} (hH:H<=1048575) (hN:∀ t,N t<=H) (h0:∀ t,t<0\/1099511627776<=t->N t=0) {S:List Per} (hS:StepI (fun t=>(N t:Int)) 1099511627776 S) (hl:S.length<=524289):∃ P,xd8 (S.map encP)=some (P.map encP)/\IsLevs N P:=by
 have ha:=xIm h0 hS hl;have hA:=fun k=>Classical.choose_spec (ha k)
 obtain ⟨A,q⟩:∃ A:Nat->List Per,A=fun k=>Classical.choose (ha k):=⟨_,rfl⟩
 have hA:∀ k,xaY (S.map encP) ((k+1:Nat):Int)=some ((A k).map encP)/\(IsSpan (A k)/\∀ t,inL (A k) t=decide (k<N t))/\(A k).length<=S.length:=fun k=>by rw [q];exact hA k
 have hE:A H=[]:=xwh (hA H).2.1.1 fun t=>by rw [(hA H).2.1.2];have:=hN t;simp;omega
 obtain ⟨K,P,e,k1,k2,p1,s1⟩:=xGi A S.length hl (fun k=>⟨(hA k).1,(hA k).2.2⟩) H hH hE H 0 [] (by omega) List.Pairwise.nil (by simp)
 refine ⟨P,?_,s1,A,K,fun t=>?_,fun k=>(hA k).2.1,p1⟩
 . have e:Iter (xbY (S.map encP)) ([],(1:Int))=_:=e;unfold xd8 xp9;simp only [xoK,xoL,e,zk,zh,xab,sUF]
 . have:=(hA K).2.1.2 t;rw [k1,xfl] at this;have:=of_decide_eq_false this.symm;omega
theorem xJk (l:List Per) (t:Int) (hl:l.length<=1048576):xgi (l.map encP) t=some (inL l t):=by
 have e:=xuk (step:=xaV (l.map encP) t) l (fun k=>(k:Int)) (fun a=>br (hasP a t) (some (true,true,())) none) (false,false,()) (fun k h=>by
  have h1:(k:Int)<(l.length:Int):=by omega
  have gf:(l.map encP).getD k .top=encP l[k]:=xaa _ _ _ h;simp only [xaV,xgF,sBU,h,h1,gf,cP0,cP1,lP,sP,sP0,sP1,xEm,xBu,xup,xuo,xNw (n:=k) (by omega)]) (by
  simp only [xaV,xgF,za,zy,zm,xac,sUF]) l.length 0 (by simp)
 rw [zr,xzr] at e;have e:Iter (xaV (l.map encP) t) (0:Int)=_:=e;unfold xgi xnl;rw [e];show _=some (l.any (hasP · t));cases l.any (hasP · t)<;>rfl
def ptsP (l:List Per):List Int:=l.foldl (fun P p=>if pv p=true then insI (insI P p.1) p.2 else P) []
theorem xCn (l:List Per) (p:Per):ptsP (l++[p])=if pv p=true then insI (insI (ptsP l) p.1) p.2 else ptsP l:=by simp [ptsP]
theorem xCo:∀ l:List Per,Asc (ptsP l.reverse)/\∀ x,x∈ptsP l.reverse↔∃ p,p∈l/\pv p=true/\(x=p.1\/x=p.2)
 | []=>by simp [ptsP,Asc]
 | c::l=>by
  obtain ⟨h1,h2⟩:=xCo l;rw [List.reverse_cons,xCn];split
  . rename_i hv;refine ⟨xtg (xtg h1 _) _,fun x=>?_⟩
    rw [xp3,xp3,h2];constructor
    . rintro (h|h|⟨c',a,b,d⟩)
      . exact ⟨c,by simp,hv,.inr h⟩
      . exact ⟨c,by simp,hv,.inl h⟩
      . exact ⟨c',by simp [a],b,d⟩
    . rintro ⟨c',a,b,d⟩;rcases zC.1 a with rfl|a
      . rcases d with d|d
        . exact .inr (.inl d)
        . exact .inl d
      . exact .inr (.inr ⟨c',a,b,d⟩)
  . rename_i hv;refine ⟨h1,fun x=>?_⟩
    rw [h2];constructor
    . rintro ⟨c',a,b,d⟩;exact ⟨c',by simp [a],b,d⟩
    . rintro ⟨c',a,b,d⟩;rcases zC.1 a with rfl|a
      . exact absurd b hv
      . exact ⟨c',a,b,d⟩
theorem xLy (l:List Per):Asc (ptsP l)/\∀ x,x∈ptsP l↔∃ p,p∈l/\pv p=true/\(x=p.1\/x=p.2):=by
 have:=xCo l.reverse;simpa using this
theorem xKg (l:List Per):(ptsP l).length<=2*l.length:=by
 have q:∀ l:List Per,(ptsP l.reverse).length<=2*l.length:=fun l=>by
  induction l with
  | nil=>simp [ptsP]
  | cons c l ih =>
   rw [List.reverse_cons,xCn];have a1:=xje (ptsP l.reverse) c.1;have a2:=xje (insI (ptsP l.reverse) c.1) c.2;split<;>simp<;>omega
 have:=q l.reverse;simpa using this
theorem xFp (l:List Per) (hl:l.length<=262144):xto (l.map encP)=some ((ptsP l).map encN):=by
 have e:Iter (xcO (l.map encP)) ([],(0:Int))=some ((ptsP l).map encN):=by
  refine xul l (fun P p=>if pv p=true then insI (insI P p.1) p.2 else P) (fun n b=>(b.map encN,(n:Int))) (fun n b=>b.length<=2*n) (fun n h b hb=>?_) l.length 0 [] (by omega) (by simp) ?_
  . have h1:(n:Int)<(l.length:Int):=by omega
    have gf:(l.map encP).getD n .top=encP l[n]:=xaa _ _ _ h;have a1:=xje b l[n].1;have a2:=xje (insI b l[n].1) l[n].2;have i1:=xuj b l[n].1 (by omega)
    have i2:=xuj (insI b l[n].1) l[n].2 (by omega)
    refine ⟨?_,by split<;>omega⟩
    simp only [xcO,xh3,xe3,sBU,h,h1,gf,cP0,cP1,lP,sP,sP0,sP1,xuw,i1,i2,xNw (n:=n) (by omega)]
    cases pv l[n]<;>simp [xab,xac,sUF]
  . simp only [zr];simp only [xcO,xh3,xe3,za,zy,zm,xac,sUF];rfl
 unfold xto xp8;rw [e];rfl
theorem xCp {P:List Int} (hA:Asc P) {l:List Per} (hm:∀ p,p∈l->pv p=true->p.1∈P/\p.2∈P) {j:Nat} (hj:j+1<P.length) {t:Int} (h1:P[j]<=t) (h2:t<P[j+1]):inL l t=inL l P[j]:=by
 have key:∀ x,x∈P->(x<=t↔x<=P[j]):=fun x hx=>by
  obtain ⟨k,hk,rfl⟩:=List.getElem_of_mem hx;constructor
  . intro h;rcases zJ j k with q|q
    . rcases zJ (j+1) k with h3|h3
      . have:=zB.1 hA (j+1) k hj hk h3;omega
      . obtain rfl:k=j+1:=by omega
        omega
    . rcases zJ k j with h3|h3
      . have:=zB.1 hA k j hk (by omega) h3;omega
      . obtain rfl:k=j:=by omega
        omega
  . intro h;omega
 rw [Bool.eq_iff_iff,xey,xey];constructor
 . rintro ⟨p,a,b,c,d⟩;obtain ⟨m1,m2⟩:=hm p a b;have k1:=key _ m1;have k2:=key _ m2;exact ⟨p,a,b,by omega,by omega⟩
 . rintro ⟨p,a,b,c,d⟩;obtain ⟨m1,m2⟩:=hm p a b;have k1:=key _ m1;have k2:=key _ m2;exact ⟨p,a,b,by omega,by omega⟩
theorem xBi (O:Int) (a b:List Per) (ha:a.length<=65536) (hb:b.length<=65536) (P:List Int) (hA:Asc P) (hP:P.length<=1048576) (hR:∀ x,x∈P->0<=x/\x<=1099511627776)
  (ma:∀ p,p∈a->pv p=true->p.1∈P/\p.2∈P) (mb:∀ p,p∈b->pv p=true->p.1∈P/\p.2∈P):∀ (d j:Nat) (hj:j<P.length) (out:List Per),j+1+d=P.length->OutOk out P[j] (fun t=>xb3 O (inL a t) (inL b t))->out.length<=j ->
  ∃ J:List Per,Iter (xbp O (a.map encP) (b.map encP) (P.map encN)) (out.length,((j+1:Nat):Int),out.map encP)=some (J.length,J.map encP)/\OutOk J (P[P.length - 1]'(by omega)) (fun t=>xb3 O (inL a t) (inL b t))/\J.length<=P.length
 | 0,j,hj,out,h,ho,hn=>by
  have e:P.length=j+1:=by omega
  refine ⟨out,xad ?_,?_,by omega⟩
  . have i1:¬ ((j+1:Nat):Int)<(P.length:Int):=by omega
    simp only [xbp,xer,za,i1,zm,xac,sUF]
  . have:P[P.length - 1]'(by omega)=P[j]:=by congr 1;omega
    rw [this];exact ho
 | d+1,j,hj,out,h,ho,hn=>by
  have Q:j+1<P.length:=by omega
  have i0:((j+1:Nat):Int)<(P.length:Int):=by omega
  have i1:(j:Int)<(P.length:Int):=by omega
  have i2:(0:Int)<=((j+1:Nat):Int):=by omega
  have w:IntKind.i64.wrap (((j+1:Nat):Int) - 1)=(j:Int):=xN6 (by omega)
  have gf:(P.map encN).getD j .top=encN P[j]:=xaa _ _ _ hj;have gn:(P.map encN).getD (j+1) .top=encN P[j+1]:=xaa _ _ _ Q;have ca:=xJk a P[j] (by omega)
  have cb:=xJk b P[j] (by omega)
  have lt:P[j]<P[j+1]:=zB.1 hA j (j+1) hj Q (by omega)
  have r1:=hR _ (zo hj);have r2:=hR _ (zo Q);have hw:=xNw (n:=j+1) (by omega)
  have hK:∀ t,P[j]<=t->t<P[j+1]->xb3 O (inL a t) (inL b t)=xb3 O (inL a P[j]) (inL b P[j]):=fun t t1 t2=>by
   rw [xCp hA ma Q t1 t2,xCp hA mb Q t1 t2]
  cases hc:xb3 O (inL a P[j]) (inL b P[j]) with
  | true =>
   obtain ⟨j1,j2⟩:=xB5 ho r1.1 lt r2.2 (fun t t1 t2=>by rw [hK t t1 t2,hc])
   obtain ⟨q,q1,q2,q3⟩:=xF4 out P[j] P[j+1] lt ho.low (by omega)
   obtain ⟨J,e',x1,x2⟩:=xBi O a b ha hb P hA hP hR ma mb d (j+1) Q (xNH out P[j] P[j+1]) (by omega) j1 (by omega)
   refine ⟨J,(xak (s':=((xNH out P[j] P[j+1]).length,((j+1+1:Nat):Int),(xNH out P[j] P[j+1]).map encP)) ?_).trans e',x1,x2⟩;rw [<-q2,<-q3];simp only [xbp,xer,xd6,xfX,xfY,xd7,xfZ,xfx,xf0,xbg,sBU,i0,i1,i2,w,hj,Q,gf,gn,cN,sN,ca,cb,hc,q1,hw]
  | false =>
   obtain ⟨J,e',x1,x2⟩:=xBi O a b ha hb P hA hP hR ma mb d (j+1) Q out (by omega) (ho.skip (by omega) (fun t t1 t2=>by rw [hK t t1 t2,hc])) (by omega)
   refine ⟨J,(xak (s':=(out.length,((j+1+1:Nat):Int),out.map encP)) ?_).trans e',x1,x2⟩;simp only [xbp,xer,xd6,xfX,xfY,xd7,xfZ,xfx,xf0,xbg,sBU,i0,i1,i2,w,hj,Q,gf,gn,cN,sN,ca,cb,hc,hw]
theorem xFS (q:Int) (a b:List Per) (ha:a.length<=65536) (hb:b.length<=65536):∃ A:List Per,xgj q (a.map encP) (b.map encP)=some (A.map encP)/\IsSpan A/\(∀ t,inL A t=(decide (0<=t)&&(decide (t<1099511627776)&&xb3 q (inL a t) (inL b t))))/\A.length<=2*(1+a.length+b.length):=by
 have O:∀ x,x∈(((0,1099511627776):Per)::a++b)↔x=(0,1099511627776)\/x∈a\/x∈b:=fun x=>by simp
 have J:(((0,1099511627776):Per)::a++b).length=1+a.length+b.length:=by simp;omega
 obtain ⟨pA,pm⟩:=xLy (((0,1099511627776):Per)::a++b);have pl:=xKg (((0,1099511627776):Per)::a++b);have pe:=xFp (((0,1099511627776):Per)::a++b) (by rw [J];omega)
 rw [J] at pl;generalize W:ptsP (((0,1099511627776):Per)::a++b)=P at pA pm pl pe;have m0:(0:Int)∈P:=(pm 0).2 ⟨(0,1099511627776),by simp,by decide,.inl rfl⟩
 have mF:(1099511627776:Int)∈P:=(pm _).2 ⟨(0,1099511627776),by simp,by decide,.inr rfl⟩
 have hR:∀ x,x∈P->0<=x/\x<=1099511627776:=fun x hx=>by
  obtain ⟨p,_,hv,h⟩:=(pm x).1 hx;have:=xbO.1 hv;omega
 have U:0<P.length:=List.length_pos_of_mem m0;have e0:P[0]=0:=by
  obtain ⟨k,hk,he⟩:=List.getElem_of_mem m0;rcases Nat.eq_zero_or_pos k with rfl|h
  . exact he
  . have:=zB.1 pA 0 k U hk h;have:=hR _ (zo U);omega
 have eF:P[P.length - 1]'(by omega)=1099511627776:=by
  obtain ⟨k,hk,he⟩:=List.getElem_of_mem mF;rcases zJ k (P.length - 1) with h|h
  . have:=zB.1 pA k (P.length - 1) hk (by omega) h
    have:=hR _ (zo (l:=P) (n:=P.length - 1) (by omega))
    omega
  . have:P[P.length - 1]'(by omega)=P[k]:=by congr 1;omega
    rw [this];exact he
 have mm:∀ l:List Per,(∀ x,x∈l->x=(0,1099511627776)\/x∈a\/x∈b)->∀ p,p∈l->pv p=true->p.1∈P/\p.2∈P:=fun l hl p hp hv=>⟨(pm _).2 ⟨p,(O p).2 (hl p hp),hv,.inl rfl⟩,(pm _).2 ⟨p,(O p).2 (hl p hp),hv,.inr rfl⟩⟩
 obtain ⟨A,e,a1,a2⟩:=xBi q a b ha hb P pA (by omega) hR (mm a fun x hx=>.inr (.inl hx)) (mm b fun x hx=>.inr (.inr hx)) (P.length - 1) 0 U [] (by omega) (by rw [e0];exact xyb _) (zd _)
 rw [eF] at a1;refine ⟨A,?_,a1.span,fun t=>a1.done t,by omega⟩
 have e:Iter (xbp q (a.map encP) (b.map encP) (P.map encN)) ((0:Nat),(1:Int),[])=_:=e;have tt:List.take A.length (A.map encP)=A.map encP:=zi (by simp)
 have la:([AV.agg [AV.int IntKind.i64 (0:Int),AV.int IntKind.i64 (1099511627776:Int)]]++a.map encP).length=1+a.length:=by simp;omega
 have Q:([AV.agg [AV.int IntKind.i64 (0:Int),AV.int IntKind.i64 (1099511627776:Int)]]++a.map encP++b.map encP).length=1+a.length+b.length:=by simp;omega
 have V:List.take (1+a.length+b.length) ([AV.agg [AV.int IntKind.i64 (0:Int),AV.int IntKind.i64 (1099511627776:Int)]]++a.map encP++b.map encP)=(((0,1099511627776):Per)::a++b).map encP:=by
  rw [zi (by rw [Q];exact zd _)]
  simp [encP]
 have b1:(1+a.length)*16<=140737488355328:=by omega
 have b2:1+a.length<=4611686018427387904:=by omega
 have b3:(1+a.length+b.length)*16<=140737488355328:=by omega
 have b4:1+a.length+b.length<=4611686018427387904:=by omega
 unfold xgj xno;simp only [xmb,xmc,xmd,xme,xmf,xfJ,xmg,za,la,Q,V,zr,b1,b2,b3,b4,beq_self_eq_true,zn,zS,zH,zd,xab,pe,zk,zh,e,tt,sUF]
theorem xKt (a:List Per) (ha:a.length<=65536):∃ A:List Per,xv4 (a.map encP)=some (A.map encP)/\IsSpan A/\(∀ t,inL A t=inL a t)/\A.length<=2*(1+a.length):=by
 obtain ⟨A,e,h1,h2,h3⟩:=xFS 2 a [] ha (by simp)
 refine ⟨A,?_,h1,fun t=>?_,h3⟩
 . unfold xv4 xv5;rw [show ([]:List AV)=([]:List Per).map encP from rfl,e];rfl
 . rw [h2];cases hc:inL a t with
   | false=>simp [xfl,xb3,br,sUF]
   | true=>obtain ⟨x,y⟩:=xs3 hc;simp [x,y,xb3,br,sUF]
theorem xzU (a b:List Per) (ha:a.length<=65536) (hb:b.length<=65536):∃ A:List Per,xiv (a.map encP) (b.map encP)=some (A.map encP)/\IsSpan A/\(∀ t,inL A t=(inL a t&&!inL b t))/\A.length<=2*(1+a.length+b.length):=by
 obtain ⟨A,e,h1,h2,h3⟩:=xFS 3 a b ha hb;refine ⟨A,?_,h1,fun t=>?_,h3⟩
 . unfold xiv xnn;rw [e];rfl
 . rw [h2];cases hc:inL a t with
   | false=>simp [xb3,br,sUF]
   | true=>obtain ⟨x,y⟩:=xs3 hc;simp [x,y,xb3,br,sUF]
end Go.Sim.M
end
noncomputable section
set_option maxRecDepth 100000
namespace Go.Sim.M
open Go.RowKit
abbrev En:=List UInt8×List Per
def xNA (e:En):AV:=.agg [.str e.1,.list 2 (e.2.map encP)]
def xNT (s:List UInt8) (n:Int):AV:=.agg [.str s,.int .i64 n]
def ixE:List En->List UInt8->Option Nat
 | [],_=>none
 | e::es,s=>match e.1==s with
  | true=>some 0
  | false=>(ixE es s).map (·+1)
theorem xrh (s:List UInt8):∀ es:List En,mapIx (es.map xNA) s=ixE es s
 | []=>rfl
 | e::es=>by
  rw [zV,mapIx,ixE,xrh s es];rfl
theorem xw0 {s:List UInt8}:∀ {es:List En} {i:Nat},ixE es s=some i->i<es.length
 | [],i,h=>by simp [ixE] at h
 | e::es,i,h=>by
  rw [ixE] at h;split at h
  . cases h;simp
  . cases hm:ixE es s with
    | none=>rw [hm] at h;simp at h
    | some j =>
     rw [hm] at h;simp only [Option.map_some,z6] at h;have:=xw0 hm;subst h;simp;omega
theorem xF3 {s:List UInt8}:∀ {es:List En} {i:Nat},ixE es s=some i->(es.getD i default).1=s
 | [],i,h=>by simp [ixE] at h
 | e::es,i,h=>by
  rw [ixE] at h;split at h
  . rename_i he;cases h;simpa using he
  . cases hm:ixE es s with
    | none=>rw [hm] at h;simp at h
    | some j =>
     rw [hm] at h;simp only [Option.map_some,z6] at h;subst h;simpa using xF3 hm
def addE:List En->List UInt8->Per->List En
 | [],s,p=>[(s,[p])]
 | e::es,s,p=>match e.1==s with
  | true=>(e.1,e.2++[p])::es
  | false=>e::addE es s p
theorem xBJ {s:List UInt8} {p:Per}:∀ {es:List En},ixE es s=none->addE es s p=es++[(s,[p])]
 | [],_=>rfl
 | e::es,h=>by
  rw [ixE] at h;split at h
  . simp at h
  . rename_i he;cases hm:ixE es s with
    | some j=>rw [hm] at h;simp at h
    | none=>rw [addE,he,xBJ hm];rfl
theorem xBK {s:List UInt8} {p:Per}:∀ {es:List En} {i:Nat},ixE es s=some i->addE es s p=es.set i (s,(es.getD i default).2++[p])
 | [],i,h=>by simp [ixE] at h
 | e::es,i,h=>by
  rw [ixE] at h;split at h
  . rename_i he;cases h;have e1:e.1=s:=by simpa using he
    rw [addE,he];simp [e1]
  . rename_i he;cases hm:ixE es s with
    | none=>rw [hm] at h;simp at h
    | some j =>
     rw [hm] at h;simp only [Option.map_some,z6] at h;subst h;rw [addE,he,xBK hm];simp
def xNF:List En->List UInt8->List Per
 | [],_=>[]
 | e::es,s=>match e.1==s with
  | true=>e.2
  | false=>xNF es s
theorem xAq {s:List UInt8}:∀ {es:List En},ixE es s=none->xNF es s=[]
 | [],_=>rfl
 | e::es,h=>by
  rw [ixE] at h;split at h
  . simp at h
  . rename_i he;cases hm:ixE es s with
    | some j=>rw [hm] at h;simp at h
    | none=>rw [xNF,he];exact xAq hm
theorem xAr {s:List UInt8}:∀ {es:List En} {i:Nat},ixE es s=some i->xNF es s=(es.getD i default).2
 | [],i,h=>by simp [ixE] at h
 | e::es,i,h=>by
  rw [ixE] at h;split at h
  . rename_i he;cases h;rw [xNF,he];rfl
  . rename_i he;cases hm:ixE es s with
    | none=>rw [hm] at h;simp at h
    | some j =>
     rw [hm] at h;simp only [Option.map_some,z6] at h;subst h;rw [xNF,he];simpa using xAr hm
theorem xD3 (s s':List UInt8) (p:Per):∀ es:List En,xNF (addE es s p) s'=xNF es s'++if s==s' then [p] else []
 | []=>by simp only [addE,xNF];cases s==s'<;>simp
 | e::es=>by
  have ih:=xD3 s s' p es;rw [addE];cases he:e.1==s with
  | true =>
   have e1:e.1=s:=by simpa using he
   dsimp only;rw [xNF,xNF,e1];cases h:s==s' with
   | true=>simp
   | false=>simp
  | false =>
   dsimp only;rw [xNF,xNF,ih];cases h:e.1==s' with
   | false=>rfl
   | true =>
    have e1:e.1=s':=by simpa using h
    have:(s==s')=false:=by
     rw [<-e1,Bool.eq_false_iff];intro hh;rw [show s=e.1 by simpa using hh] at he
     simp at he
    simp [this]
theorem xDr (s:List UInt8) (p:Per):∀ es:List En,(addE es s p).length<=es.length+1
 | []=>by simp [addE]
 | e::es=>by
  have:=xDr s p es;rw [addE];cases e.1==s<;>simp<;>omega
theorem xCa {α:Type} (k:α->List UInt8) (f:α->Per) (s:List UInt8):∀ (l:List α) (es:List En),xNF (l.foldl (fun es x=>addE es (k x) (f x)) es) s=xNF es s++(l.filter fun x=>k x==s).map f
 | [],es=>by simp
 | x::l,es=>by
  rw [List.foldl_cons,xCa k f s l,xD3,List.filter_cons];cases k x==s<;>simp
theorem xsU (es:List En) (s:List UInt8):xOX (es.map xNA) s=(ixE es s).isSome:=by unfold xOX;rw [xrh]
theorem xAD {es:List En} {s:List UInt8} {i:Nat} (h:ixE es s=some i):putIx (es.map xNA) s=i:=by unfold putIx;rw [xrh,h]
theorem xw7 {s:List UInt8} {n:Int}:∀ {es:List En} {i:Nat},ixE es s=some i->mapIx ((es.map xNA).set i (xNT s n)) s=some i
 | [],i,h=>by simp [ixE] at h
 | e::es,i,h=>by
  rw [ixE] at h;split at h
  . cases h;simp [mapIx,xNT,AV.cells,isKey]
  . rename_i he;cases hm:ixE es s with
    | none=>rw [hm] at h;simp at h
    | some j =>
     rw [hm] at h;simp only [Option.map_some,z6] at h;subst h;rw [zV,List.set_cons_succ,mapIx,xw7 hm];have:isKey s ((xNA e).cells.getD 0 .top)=false:=he;rw [this];rfl
theorem xFc {es:List En} {s:List UInt8} {i:Nat} (h:ixE es s=some i) (n:Int) (p:Per):xOJ ((es.map xNA).set i (xNT s n)) s (.list 2 ((((es.getD i default).2)++[p]).map encP))=(addE es s p).map xNA:=by
 unfold xOJ;rw [xw7 h,xBK h];dsimp only;rw [List.set_set,List.map_set];rfl
theorem xG3 {es:List En} {s:List UInt8} (h:ixE es s=none) (p:Per):xOJ (es.map xNA) s (.list 2 [encP p])=(addE es s p).map xNA:=by
 unfold xOJ;rw [xrh,h,xBJ h,zx];rfl
theorem xIz {es:List En} {s:List UInt8} {i:Nat} (h:ixE es s=some i) {n:Nat}:deadR ((es.map xNA).set i (xNT s (n:Int))) s (n+1)=true:=by
 have hi:i<((es.map xNA).set i (xNT s (n:Int))).length:=by rw [y2,za];exact xw0 h
 unfold deadR;rw [xw7 h];have:((es.map xNA).set i (xNT s (n:Int))).getD i .top=xNT s (n:Int):=by
  rw [z7,zL (by simpa using hi)];rfl
 dsimp only;rw [this];show (match deadLen (AV.int .i64 (n:Int)) with|some l0=>decide (l0<n+1)|none=>false)=true
 simp [deadLen]
theorem xIy {es:List En} {s:List UInt8} (h:ixE es s=none) (n:Nat):deadR (es.map xNA) s n=true:=by unfold deadR;rw [xrh,h]
end Go.Sim.M
end
noncomputable section
set_option maxRecDepth 100000
namespace Go.Sim.M
open Go.RowKit Go.Sim.Srt
def Tx (l:List Fc):Prop:=∀ f,f∈l->∀ v,v∈f.r->v.wf/\v.t.length<=1073741824
theorem xIR {r:Row} (h:∀ v,v∈r->v.wf/\v.t.length<=1073741824) (hl:r.length<=60):(keyOf r).length<=17592186044416:=by
 have:=xjc (g:=keyV) (c:=1073741890) r fun v hv=>by
  obtain ⟨h1,h2⟩:=h v hv;have:=xzz h1 (by omega);omega
 unfold keyOf;have h2:1073741890*r.length<=1073741890*60:=Nat.mul_le_mul_left _ hl;omega
theorem xJB {l:List Fc} (hl:l.length<=1024) (hr:∀ f,f∈l->f.r.length<=60) (ht:Tx l) (q:R20 l):Bld l :=
 ⟨⟨⟨by omega,fun f hf=>by have:=hr f hf;omega⟩,fun f hf=>⟨fun v hv=>⟨(ht f hf v hv).1,by have:=(ht f hf v hv).2;omega⟩,xIR (ht f hf) (hr f hf)⟩,q⟩,hl⟩
theorem xNI.all {l B:List Fc} (h:xNI l B) {Q:Row->Prop} (hq:∀ f,f∈l->Q f.r):∀ f,f∈B->Q f.r:=fun f hf=>by
 obtain ⟨_,g,hg,e⟩:=h.valid hf;rw [<-e];exact hq g hg
theorem xNN.all {l B:List Fc} (h:xNN l B) {Q:Row->Prop} (hq:∀ f,f∈l->Q f.r):∀ f,f∈B->Q f.r:=fun f hf=>by
 obtain ⟨R,L,h1,h2,rfl⟩:=h;obtain ⟨a,b⟩:=xBV hf;obtain ⟨g,g1,g2,_⟩:=(h1.2 _).1 a;rw [<-g2];exact hq g g1
theorem xNN.len {l B:List Fc} (h:xNN l B):B.length<=l.length*l.length:=by
 obtain ⟨R,L,h1,h2,rfl⟩:=h;refine xw2 (h1.1.nodup xs8) fun r hr=>?_
 obtain ⟨a,b⟩:=h2 r hr;have:=xBn (ps:=psOf l r) (k:=0) a fun t=>by rw [b,xvy]
 exact Nat.le_trans this (Nat.le_mul_self _)
end Go.Sim.M
end
noncomputable section
set_option maxRecDepth 100000
namespace Go.Sim.M
open Go.RowKit
def life (key:List Int) (pl:List Fc) (K:Row):List Per:=(pl.filter fun y=>decide (pick y.r key=K)).map (·.p)
def xNV (cols key:List Int) (pl:List Fc) (x:Fc) (t:Int):Bool:=!xNG x.r cols&&(hasP x.p t&&!inL (life key pl (pick x.r cols)) t)
def missC (cols key:List Int) (l pl:List Fc) (r:Row) (t:Int):Nat:=l.countP fun x=>decide (x.r=r)&&xNV cols key pl x t
theorem xvW (key:List Int) (pl:List Fc) (K:Row):(life key pl K).length<=pl.length:=by
 unfold life;rw [za];exact List.length_filter_le _ _
structure IsMiss (cols key:List Int) (l pl M:List Fc):Prop where
 cnt:∀ r t,cnt M r t=missC cols key l pl r t
 len:M.length<=2*(2+pl.length)*l.length
 row:∀ f,f∈M->∃ x,x∈l/\f.r=x.r
theorem xBQ (L:Fc->List Per) (r:Row) (t:Int):∀ l:List Fc,(∀ x,x∈l->IsSpan (L x))->cnt (l.flatMap fun x=>mk x.r (L x)) r t=l.countP fun x=>decide (x.r=r)&&inL (L x) t
 | [],_=>rfl
 | x::l,h=>by
  rw [zR,xvJ,xBQ L r t l fun y hy=>h y (by simp [hy]),mk,xLa,xwg (h x (by simp)),List.countP_cons]
  by_cases hr:x.r=r
  . simp only [hr,if_true,zn,Bool.true_and];omega
  . simp only [hr,if_false,zm,Bool.false_and];simp
theorem xB3 {cols key:List Int} {l pl:List Fc} {L:Fc->List Per} (h:∀ x,x∈l->IsSpan (L x)/\(∀ t,inL (L x) t=xNV cols key pl x t)/\(L x).length<=2*(2+pl.length)):IsMiss cols key l pl (l.flatMap fun x=>mk x.r (L x)) where
 cnt r t:=by
  rw [xBQ L r t l fun x hx=>(h x hx).1]
  exact List.countP_congr fun x hx=>by rw [(h x hx).2.1 t]
 len:=xjc l fun x hx=>by rw [mk,za];exact (h x hx).2.2
 row f hf:=by
  obtain ⟨x,hx,hf⟩:=y3.1 hf;obtain ⟨p,_,rfl⟩:=zK.1 hf;exact ⟨x,hx,rfl⟩
def xNQ (key:List Int) (pl:List Fc):List En:=pl.foldl (fun es x=>addE es (keyOf (pick x.r key)) x.p) []
theorem xw6 (key:List Int) (pl:List Fc) (K:Row):xNF (xNQ key pl) (keyOf K)=life key pl K:=by
 unfold xNQ life;rw [xCa (fun x:Fc=>keyOf (pick x.r key)) (fun x=>x.p)]
 show []++_=_;rw [zU];congr 1;refine List.filter_congr fun x _=>?_
 rw [Bool.eq_iff_iff,beq_iff_eq,zl];exact ⟨fun h=>xBm h,fun h=>by rw [h]⟩
theorem xDs {n:Nat} {s:List UInt8} {p:Per}:∀ {es:List En},(∀ e,e∈es->e.2.length<=n)->∀ e,e∈addE es s p->e.2.length<=n+1
 | [],_,e,he=>by simp only [addE,zv] at he;subst he;simp
 | a::es,h,e,he=>by
  have ha:=h a (by simp)
  rw [addE] at he;cases hc:a.1==s with
  | true =>
   rw [hc] at he;rcases zC.1 he with rfl|he
   . simp;exact ha
   . have:=h e (by simp [he]);omega
  | false =>
   rw [hc] at he;rcases zC.1 he with rfl|he
   . omega
   . exact xDs (fun x hx=>h x (by simp [hx])) e he
theorem xOe {es:List En} {i:Nat} (h:i<es.length):(es.map xNA).getD i .top=xNA (es.getD i default):=by
 rw [xaa _ _ _ h,z7,ze h];rfl
theorem xOl (e:En) (a:AV):AV.agg (List.take 1 (xNA e).cells++[a]++List.drop 2 (xNA e).cells)=AV.agg [.str e.1,a]:=rfl
theorem xOg (e:En):((xNA e).cells.getD 1 .top).toList=e.2.map encP:=rfl
theorem xOf (e:En):xO7 2 ((xNA e).cells.getD 1 .top)=true:=rfl
theorem xOn (e:En):((xNA e).cells.length==2)=true:=rfl
theorem xOp (ps:List Per) (f t:Int):ps.map encP++[AV.agg [.int .i64 f,.int .i64 t]]=(ps++[(f,t)]).map encP:=by rw [zx];rfl
theorem xJW (s:List UInt8) (n:Int):AV.agg [.str s,.int .i64 n]=xNT s n:=rfl
theorem xLk (x:Fc) (b:List Per) (hb:b.length<=65536):∃ S:List Per,xen ([x.p].map encP) (b.map encP)=some (S.map encP)/\IsSpan S/\(∀ t,inL S t=(hasP x.p t&&!inL b t))/\S.length<=2*(2+b.length):=by
 obtain ⟨S,e,h1,h2⟩:=xFz [x.p] b (by simp) (by omega)
 obtain ⟨S',e',O,J,q⟩:=xzU [x.p] b (by simp) hb
 obtain rfl:=xhR h1 O fun t=>by rw [h2,J]
 refine ⟨S,e,h1,fun t=>?_,by simp at q;omega⟩
 rw [h2,xjd,xfl,Bool.or_false]
theorem xJ5 (x:Fc) (cols:List Int) (ft:List UInt8) (es:List En) (hx:Txt x.r) (hk:cols.length<=1048576) (he:(xNF es (keyOf (pick x.r cols))).length<=65536) :
  ∃ S:List Per,xfV (x.r.map encV) x.p.1 x.p.2 (cols.map encN) ft (es.map xNA)=some (S.map encP,es.map xNA)/\IsSpan S/\(∀ t,inL S t=(!xNG x.r cols&&(hasP x.p t&&!inL (xNF es (keyOf (pick x.r cols))) t)))/\S.length<=2*(2+(xNF es (keyOf (pick x.r cols))).length):=by
 have hr:=xJd cols ft x.r hk;cases hn:xNG x.r cols with
 | true =>
  refine ⟨[],?_,xlL,fun t=>by simp [xfl],by simp⟩
  unfold xfV missing1 xoC;rw [hr,hn];rfl
 | false =>
  obtain ⟨S,e,h1,h2,h3⟩:=xLk x (xNF es (keyOf (pick x.r cols))) he;refine ⟨S,?_,h1,fun t=>by rw [h2];rfl,h3⟩
  have hl:(keyOf (pick x.r cols)).length<=4611686018427387904:=by have:=hx.len hk;omega
  have hs:=xIG hx hk;unfold xfV missing1 xoC xuS xj4 xuT xhN;cases hi:ixE es (keyOf (pick x.r cols)) with
  | none =>
   rw [xAq hi] at e;have e:xen [AV.agg [.int .i64 x.p.1,.int .i64 x.p.2]] []=_:=e;simp only [hr,hn,hs,hl,zk,zh,Bool.not_false,Bool.not_true,xab,xac,zn,xsU,hi,Option.isSome_none,e,Option.map_some,sUF]
  | some i =>
   rw [xAr hi] at e;have e:xen [AV.agg [.int .i64 x.p.1,.int .i64 x.p.2]] _=_:=e;have tl:((es.getD i default).2.map encP).take (es.getD i default).2.length=(es.getD i default).2.map encP:=zi (by simp)
   simp only [hr,hn,hs,hl,zk,zh,Bool.not_false,Bool.not_true,xab,xac,zn,xsU,hi,xAD hi,xOe (xw0 hi),xw0 hi,xOg,xOf,za,zr,zH,zd,beq_self_eq_true,zS,Bool.true_and,tl,e,Option.map_some,sUF]
theorem xLo (l f0:List AV) (f1 p0:List UInt8) (p1:List AV) (key:List Int) (p3 p4:List AV) (hk:key.length<=1048576) (pl:List Fc) (Q:pl.length<=1048576) (ht:∀ y,y∈pl->Txt y.r) :
  Iter (xa7 l f0 f1 p0 p1 (key.map encN) p3 p4 (pl.map encF) ((pl.length:Nat):Int)) ((0:Int),[])=some ((xNQ key pl).map xNA):=by
 refine xul pl (fun es x=>addE es (keyOf (pick x.r key)) x.p) (fun n b=>((n:Int),b.map xNA)) (fun n b=>b.length<=n/\∀ e,e∈b->e.2.length<=n) (fun n h b hb=>?_) pl.length 0 [] (by omega) (by simp) ?_
 . have h1:(n:Int)<(pl.length:Int):=by omega
   have gf:(pl.map encF).getD n .top=encF pl[n]:=xaa _ _ _ h;have hx:=ht pl[n] (zo h);have O:=xLi p0 p1 p3 p4 key pl[n].r hk;have hs:=xIG hx hk;have hl:(keyOf (pick pl[n].r key)).length<=4611686018427387904:=by have:=hx.len hk;omega
   refine ⟨?_,?_,xDs hb.2⟩
   . generalize hK:keyOf (pick pl[n].r key)=K at *;cases hi:ixE b K with
     | none =>
      have m1:b.length<4611686018427387904:=by have:=hb.1;omega
      have d1:=xIy hi 1;have mp:=xG3 hi pl[n].p;have mp:xOJ (b.map xNA) K (.list 2 [AV.agg [.int .i64 pl[n].p.1,.int .i64 pl[n].p.2]])=_:=mp;simp only [xa7,xd3,xcm,xcn,xau,xae,xdH,xbC,sBU,h,h1,gf,cF0,cF1,cF2,sF0,sF1,sF2,lF,sF12,sF02,O,hs,hl,xsU,hi,Option.isSome_none,m1,d1,mp,xNw (n:=n) (by omega)]
     | some i =>
      have q:=xw0 hi;have m1:b.length<4611686018427387904:=by have:=hb.1;omega
      have U:(b.getD i default).2.length<=n:=hb.2 _ (by rw [z7,ze q];exact zo q)
      have r1:((b.getD i default).2.length+1)*16<=140737488355328:=by omega
      have r2:(b.getD i default).2.length+1<=4611686018427387904:=by omega
      have J:=xF3 hi;have d1:=xIz hi (n:=(b.getD i default).2.length);have mp:=xFc hi (((b.getD i default).2.length:Nat):Int) pl[n].p;simp only [xa7,xd3,xcm,xcn,xau,xae,xdH,xbC,sBU,h,h1,gf,cF0,cF1,cF2,sF0,sF1,sF2,lF,sF12,sF02,O,hs,hl,xsU,hi,xAD hi,xOe q,q,xOg,xOf,xOn,xOl,J,xJW,xOp,z8,zj,y2,r1,r2,m1,d1,xNw (n:=n) (by omega)]
      rw [<-mp]
   . have:=xDr (keyOf (pick pl[n].r key)) pl[n].p b;omega
 . simp only [zr];simp only [xa7,xd3,xcm,xcn,xau,xae,xdH,xbC,za,zy,zm,xac,sUF];rfl
theorem xLp (m0:List AV) (m1:List UInt8) (J:List AV) (q O:Int) (row:Row) (x1 x2:Int) (S:List Per) (hS:S.length<=1048576) (es:List AV) (D:List Fc) (hD:D.length<=1048576) :
  Iter (xbS m0 m1 J q O (S.map encP) ((S.length:Nat):Int)) (D.length,(0:Int),es,D.map encF,row.map encV,x1,x2)=some ((D++mk row S).length,es,(D++mk row S).map encF):=by
 have:=xlh (step:=xbS m0 m1 J q O (S.map encP) ((S.length:Nat):Int)) S (fun p=>[(⟨row,p⟩:Fc)]) (fun n D=>(D.length,(n:Int),es,D.map encF,row.map encV,x1,x2)) (fun D=>(D.length,es,D.map encF)) D 1 (fun _ _=>by simp) (fun n h D' Q=>by
  have h1:(n:Int)<(S.length:Int):=by omega
  have m1:(D'.length+1)*40<=140737488355328:=by omega
  have m2:D'.length+1<=4611686018427387904:=by omega
  have gf:(S.map encP).getD n .top=encP S[n]:=xaa _ _ _ h;simp only [xbS,xfS,sBU,h,h1,gf,cP0,cP1,lP,sP,sP0,sP1,m1,m2,xNw (n:=n) (by omega)]
  simp [encF]) (fun D'=>by
  simp only [xbS,xfS,zy,zm,xac,sUF])
 rw [xNP] at this;exact this
theorem xKa (cols key:List Int) (ft p0:List UInt8) (p1 p3 p4:List AV) (hc:cols.length<=1048576) (hk:key.length<=1048576) (l pl:List Fc) (hl:l.length<=14) (Q:pl.length<=34) (hr:∀ f,f∈l->f.r.length<=60) (ht:∀ f,f∈l->Txt f.r) (O:∀ f,f∈pl->Txt f.r) :
  ∃ B M:List Fc,xaX (cols.map encN) ft (l.map encF) p0 p1 (key.map encN) p3 p4 (pl.map encF)=some (B.map encF)/\xNI M B/\IsMiss cols key l pl M:=by
 have e0:=xLo (l.map encF) (cols.map encN) ft p0 p1 key p3 p4 hk pl (by omega) O
 have h1:∀ x,x∈l->∃ S:List Per,xfV (x.r.map encV) x.p.1 x.p.2 (cols.map encN) ft ((xNQ key pl).map xNA)=some (S.map encP,(xNQ key pl).map xNA)/\IsSpan S/\(∀ t,inL S t=xNV cols key pl x t)/\S.length<=2*(2+pl.length):=fun x hx=>by
  have ll:=xvW key pl (pick x.r cols);obtain ⟨S,s1,s2,s3,s4⟩:=xJ5 x cols ft (xNQ key pl) (ht x hx) hc (by rw [xw6];omega)
  rw [xw6] at s4;exact ⟨S,s1,s2,fun t=>by rw [s3,xw6];rfl,by omega⟩
 obtain ⟨L,hL⟩:=xyV h1;have hM:IsMiss cols key l pl (l.flatMap fun x=>mk x.r (L x)):=xB3 fun x hx=>(hL x hx).2
 have e1:=xlh (step:=xbR (cols.map encN) ft (l.map encF) ((l.length:Nat):Int)) l (fun x=>mk x.r (L x)) (fun n D=>(D.length,(n:Int),(xNQ key pl).map xNA,D.map encF)) (fun D=>(D.length,D.map encF)) [] 72 (fun x hx=>by
  have:=(hL x hx).2.2.2;rw [mk,za];omega) (fun n h D hD=>by
  have h1:(n:Int)<(l.length:Int):=by omega
  have gf:(l.map encF).getD n .top=encF l[n]:=xaa _ _ _ h;obtain ⟨s1,s2,s3,s4⟩:=hL l[n] (zo h);rw [List.length_nil,zH] at hD;have e2:=xLp (cols.map encN) ft (l.map encF) ((l.length:Nat):Int) (n:Int) l[n].r l[n].p.1 l[n].p.2 (L l[n]) (by omega) ((xNQ key pl).map xNA) D (by omega)
  simp only [xbR,xfR,xig,xih,xii,xij,xik,xil,sBU,h,h1,gf,cF0,cF1,cF2,sF0,sF1,sF2,lF,sF12,sF02,s1,e2,xNw (n:=n) (by omega)]) (fun D=>by
  simp only [xbR,xfR,zy,zm,xac,sUF])
 rw [zU] at e1;generalize l.flatMap (fun x=>mk x.r (L x))=M at e1 hM
 have J:=hM.len;have q:M.length<=1024:=Nat.le_trans J (Nat.le_trans (Nat.mul_le_mul (Nat.mul_le_mul_left 2 (Nat.add_le_add_left Q 2)) hl) (by decide))
 have hB:Bld M:=xJB q (fun f hf=>by
  obtain ⟨x,hx,e⟩:=hM.row f hf;rw [e];exact hr x hx) (fun f hf v hv=>by
  obtain ⟨x,hx,e⟩:=hM.row f hf;rw [e] at hv;have:=ht x hx v hv;exact ⟨this.1,by omega⟩) ((R20.few (l:=l) (by omega)).of hM.row)
 obtain ⟨B,b1,b2⟩:=xMD M hB;refine ⟨B,M,?_,b2,hM⟩;have e1:Iter (xbR (cols.map encN) ft (l.map encF) ((l.length:Nat):Int)) ((0:Nat),(0:Int),(xNQ key pl).map xNA,[])=_:=e1;have tt:List.take M.length (M.map encF)=M.map encF:=zi (by simp)
 unfold xaX xma;simp only [xk9,xla,xlb,xlc,xld,za,e0,e1,b1,zk,zh,xab,zH,zd,zn,zS,zr,tt,sUF]
end Go.Sim.M
end
noncomputable section
set_option maxRecDepth 100000
namespace Go.Sim.M
open Go.RowKit Go.Sim.Srt
def dk (S:List Row):Nat->List Row
 | 0=>[]
 | k+1=>dk S k++(if k=0\/S[k - 1]?≠S[k]? then S[k]?.toList else [])
theorem xDG (S:List Row):∀ k,(dk S k).length<=k
 | 0=>zd _
 | k+1=>by
  have:=xDG S k;unfold dk;rw [z8];have:(if k=0\/S[k - 1]?≠S[k]? then S[k]?.toList else []).length<=1:=by
   split
   . cases S[k]?<;>simp
   . simp
  omega
theorem xKN (S:List Row) (hs:Sorted cmpR S):∀ k,k<=S.length->Strict cmpR (dk S k)/\∀ x,x∈dk S k↔x∈S.take k
 | 0,_=>⟨List.Pairwise.nil,fun x=>by simp [dk]⟩
 | k+1,hk=>by
  obtain ⟨h1,h2⟩:=xKN S hs k (by omega)
  have J:k<S.length:=by omega
  have tk:S.take (k+1)=S.take k++[S[k]]:=by rw [List.take_add_one,ze J];rfl
  unfold dk;rw [ze J,tk];by_cases hc:k=0\/S[k - 1]?≠some S[k]
  . rw [if_pos hc];refine ⟨List.pairwise_append.2 ⟨h1,List.pairwise_singleton _ _,fun x hx y hy=>?_⟩,fun x=>by rw [zG,zG,h2];rfl⟩
    simp at hy;subst hy;obtain ⟨i,hi,rfl⟩:=List.mem_take_iff_getElem.1 ((h2 x).1 hx);have Q:k≠0:=by omega
    have q:k - 1<S.length:=by omega
    have hne:S[k - 1]≠S[k]:=fun e=>by
     rcases hc with hc|hc
     . exact Q hc
     . exact hc (by rw [ze q,e])
    have c1:cmpR S[k - 1] S[k]<=0:=zB.1 hs _ _ q J (by omega)
    have c2:cmpR S[k - 1] S[k]<0:=by
     rcases Int.lt_or_eq_of_le c1 with c|c
     . exact c
     . exact absurd (xnR c) hne
    rcases zJ i (k - 1) with O|O
    . have c3:cmpR S[i] S[k - 1]<=0:=zB.1 hs _ _ (by omega) q O
      exact xs8.lt2 c3 c2
    . have:i=k - 1:=by omega
      subst this;exact c2
  . rw [if_neg hc,zD];refine ⟨h1,fun x=>?_⟩
    rw [h2,zG,zv];refine ⟨Or.inl,fun hh=>hh.elim id fun hx=>?_⟩
    have Q:k≠0:=fun e=>hc (.inl e)
    have he:S[k - 1]?=some S[k]:=by
     by_cases e:S[k - 1]?=some S[k]
     . exact e
     . exact absurd (.inr e) hc
    have q:k - 1<S.length:=by omega
    rw [ze q,z6] at he;rw [hx,<-he];exact List.mem_take_iff_getElem.2 ⟨k - 1,by omega,rfl⟩
theorem xOj {n:Nat} (h:n<=1048576):(n+1)*24<=140737488355328/\n+1<=4611686018427387904:=by omega
theorem xE0 (S:List Row) (hS:S.length<=1048576) (hr:∀ x,x∈S->x.length<=maxLen):Iter (xbq (S.map encR)) ((0:Nat),(0:Int),[])=some ((dk S S.length).length,(dk S S.length).map encR):=by
 refine xlg (fun k=>(((dk S k).length,((k:Nat):Int),(dk S k).map encR):Nat×Int×List AV)) S.length _ (fun k hk=>?_) ?_ S.length 0 (by omega)
 . have i1:(k:Int)<(S.length:Int):=by omega
   have gf:(S.map encR).getD k .top=encR S[k]:=xaa _ _ _ hk;have dl:=xDG S k;obtain ⟨m1,m2⟩:=xOj (n:=(dk S k).length) (by omega)
   cases k with
   | zero =>
    have:dk S (0+1)=[S[0]]:=by simp [dk,ze hk]
    rw [this];have i0:(((0:Nat):Int)==0)=true:=rfl;simp only [xbq,xes,xdJ,xf2,xf3,xf4,sBU,hk,i0,i1,gf,cR0,sR0,m1,m2,xNw (n:=0) (by omega)]
    rfl
   | succ j =>
    have hj:j<S.length:=by omega
    have i0:(((j+1:Nat):Int)==0)=false:=by simp;omega
    have i2:(j:Int)<(S.length:Int):=by omega
    have gj:(S.map encR).getD j .top=encR S[j]:=xaa _ _ _ hj;have ee:=xMW S[j] S[j+1] (hr _ (zo hj));have wj:IntKind.i64.wrap (((j+1:Nat):Int) - 1)=(j:Int):=by rw [xbH (by omega) (by omega)];omega
    have sd:dk S (j+1+1)=dk S (j+1)++(if S[j]=S[j+1] then [] else [S[j+1]]):=by
     show dk S (j+1)++_=_;congr 1;rw [show j+1 - 1=j by omega,ze hj,ze hk]
     by_cases e:S[j]=S[j+1]
     . simp [e]
     . simp [e]
    rw [sd];simp only [xbq,xes,xdJ,xf2,xf3,xf4,sBU,hk,hj,i0,i1,i2,gf,gj,cR0,sR0,ee,wj,cmp0,m1,m2,xNw (n:=j+1) (by omega)]
    by_cases e:S[j]=S[j+1]
    . simp [e,xac,sUF]
    . simp [e,xab,encR,sUF]
 . simp only [xbq,xes,xdJ,za,zy,zm,xac,sUF]
theorem xE1 (l:List Row) (h:xNO l):∃ D,xqh (l.map encR)=some (D.map encR)/\Strict cmpR D/\(∀ x,x∈D↔x∈l)/\D.length<=l.length:=by
 obtain ⟨S,e1,p1,s1⟩:=xKs l h;have hS:=h.perm p1;obtain ⟨a1,a2⟩:=xKN S s1 S.length (zd _);have e2:=xE0 S hS.1 (fun x hx=>by have:=hS.2 x hx;unfold maxLen;omega)
 refine ⟨dk S S.length,?_,a1,fun x=>by rw [a2,y4,p1.mem_iff],by rw [<-p1.length_eq];exact xDG _ _⟩
 have tt:List.take (dk S S.length).length ((dk S S.length).map encR)=(dk S S.length).map encR:=zi (by simp)
 unfold xqh xns;simp only [xmi,xmj,xmk,e1,e2,zk,zh,xab,zH,za,zd,zn,zS,zr,tt,sUF]
def cF (f g:Fc):Int:=cmpR f.r g.r
theorem xJL:Cm cF:=xs8.on (e:=fun f:Fc=>f.r)
theorem xGO (a b:List Fc) (ha:a.length+b.length<=1048576) (Y:∀ x,x∈a->x.r.length<=1048576) (V:∀ x,x∈b->x.r.length<=1048576) (sa:Sorted cF a) (sb:Sorted cF b) :
  ∀ (n i k:Nat) (D:List Fc),(a.length - i)+(b.length - k)=n->i<=a.length->k<=b.length->D.length=i+k ->
   ∃ r,Iter (xaU (List.map encF a) (List.map encF b)) (D.length,(i:Int),(k:Int),List.map encF D)=some (a.length+b.length,List.map encF (D++r))/\r.Perm (a.drop i++b.drop k)/\Sorted cF r:=by
 intro n;induction n with
 | zero =>
  intro i k D hn hi hk hD;have h1:¬ (i:Int)<(a.length:Int):=by omega
  have h2:¬ (k:Int)<(b.length:Int):=by omega
  refine ⟨[],xad ?_,?_,by simp [Sorted]⟩
  . simp only [xaU,xc5,xch,xci,xcj,xdQ,xdR,xdS,xcL,xcM,  za,xaE,h1,h2,zm,zT,if_false,zD,sUF];rw [show D.length=a.length+b.length by omega]
  . rw [zq (by omega),zq (by omega)];exact List.Perm.refl _
 | succ n ih =>
  intro i k D hn hi hk hD;have W:(List.map encF D).length=D.length:=by simp
  have m1:(D.length+1)*40<=140737488355328:=by omega
  have m2:D.length+1<=4611686018427387904:=by omega
  have snoc:∀ x:Fc,List.map encF D++[AV.agg [AV.list 3 (x.r.map encV),AV.int .i64 x.p.1,AV.int .i64 x.p.2]]=List.map encF (D++[x]):=fun x=>by simp [encF]
  have wi:=xjO (n:=i) (show i+1<=maxLen by unfold maxLen;omega)
  have wk:=xjO (n:=k) (show k+1<=maxLen by unfold maxLen;omega)
  by_cases J:i<a.length
  . have i1:(i:Int)<(a.length:Int):=by omega
    have i2:((i:Int)==(a.length:Int))=false:=by simp;omega
    have hx:a[i]?=some a[i]:=by simp [J]
    by_cases q:k<b.length
    . have k1:(k:Int)<(b.length:Int):=by omega
      have hy:b[k]?=some b[k]:=by simp [q]
      have e:=xnx b[k].r a[i].r (by have:=V b[k] (zo q);unfold maxLen;omega)
      by_cases hc:cmpR b[k].r a[i].r<0
      . obtain ⟨r,h1,h2,h3⟩:=ih i (k+1) (D++[b[k]]) (by omega) hi (by omega) (by simp;omega)
        refine ⟨b[k]::r,?_,?_,?_⟩
        . refine xdu (s':=((D++[b[k]]).length,(i:Int),((k+1:Nat):Int),List.map encF (D++[b[k]]))) ?_ (by rw [h1];simp)
          simp only [xaU,xc5,xch,xci,xcj,xdQ,xdR,xdS,xcL,xcM,  za,xaE,i1,i2,k1,J,q,zn,zT,if_false,if_true,zN,gR hx,gR hy,cF0,cF1,cF2,sF0,sF1,sF2,lF,sF12,sF02,e,zk,zh,hc,Int.natCast_nonneg,zS,beq_self_eq_true,m1,m2,snoc,wk,sUF];simp
        . rw [xaC q];exact (h2.cons _).trans List.perm_middle.symm
        . refine zM.2 ⟨fun z hz=>?_,h3⟩
          rcases zG.1 (h2.mem_iff.1 hz) with hz|hz
          . rw [xaC J] at hz;rcases zC.1 hz with rfl|hz
            . exact Int.le_of_lt hc
            . obtain ⟨j,hj,rfl⟩:=zp.1 hz;have O:i+1+j<a.length:=by simp at hj;omega
              have:=xdz sa (i:=i) (j:=i+1+j) (by omega) O
              rw [List.getElem_drop];exact xJL.trans _ _ _ (Int.le_of_lt hc) this
          . obtain ⟨j,hj,rfl⟩:=zp.1 hz;have Q:k+1+j<b.length:=by simp at hj;omega
            rw [List.getElem_drop];exact xdz sb (i:=k) (j:=k+1+j) (by omega) Q
      . obtain ⟨r,h1,h2,h3⟩:=ih (i+1) k (D++[a[i]]) (by omega) (by omega) hk (by simp;omega)
        refine ⟨a[i]::r,?_,?_,?_⟩
        . refine xdu (s':=((D++[a[i]]).length,((i+1:Nat):Int),(k:Int),List.map encF (D++[a[i]]))) ?_ (by rw [h1];simp)
          simp only [xaU,xc5,xch,xci,xcj,xdQ,xdR,xdS,xcL,xcM,  za,xaE,i1,i2,k1,J,q,zn,zT,if_false,if_true,zN,gR hx,gR hy,cF0,cF1,cF2,sF0,sF1,sF2,lF,sF12,sF02,e,zk,zh,hc,zm,Int.natCast_nonneg,zS,beq_self_eq_true,m1,m2,snoc,wi,sUF];simp
        . rw [xaC J];exact h2.cons _
        . refine zM.2 ⟨fun z hz=>?_,h3⟩
          have U:cF a[i] b[k]<=0:=xJL.ord.le_of_not hc;rcases zG.1 (h2.mem_iff.1 hz) with hz|hz
          . obtain ⟨j,hj,rfl⟩:=zp.1 hz;have O:i+1+j<a.length:=by simp at hj;omega
            rw [List.getElem_drop];exact xdz sa (i:=i) (j:=i+1+j) (by omega) O
          . rw [xaC q] at hz;rcases zC.1 hz with rfl|hz
            . exact U
            . obtain ⟨j,hj,rfl⟩:=zp.1 hz;have Q:k+1+j<b.length:=by simp at hj;omega
              rw [List.getElem_drop];exact xJL.trans _ _ _ U (xdz sb (i:=k) (j:=k+1+j) (by omega) Q)
    . have k1:¬ (k:Int)<(b.length:Int):=by omega
      obtain ⟨r,h1,h2,h3⟩:=ih (i+1) k (D++[a[i]]) (by omega) (by omega) hk (by simp;omega)
      refine ⟨a[i]::r,?_,?_,?_⟩
      . refine xdu (s':=((D++[a[i]]).length,((i+1:Nat):Int),(k:Int),List.map encF (D++[a[i]]))) ?_ (by rw [h1];simp)
        simp only [xaU,xc5,xch,xci,xcj,xdQ,xdR,xdS,xcL,xcM,  za,xaE,i1,i2,k1,J,zn,zm,zT,if_false,if_true,zN,gR hx,cF0,cF1,cF2,sF0,sF1,sF2,lF,sF12,sF02,Int.natCast_nonneg,zS,beq_self_eq_true,m1,m2,snoc,wi,sUF];simp
      . rw [xaC J];exact h2.cons _
      . refine zM.2 ⟨fun z hz=>?_,h3⟩
        rw [zq (show b.length<=k by omega),zD] at h2
        obtain ⟨j,hj,rfl⟩:=zp.1 (h2.mem_iff.1 hz);have O:i+1+j<a.length:=by simp at hj;omega
        rw [List.getElem_drop];exact xdz sa (i:=i) (j:=i+1+j) (by omega) O
  . have i1:¬ (i:Int)<(a.length:Int):=by omega
    have q:k<b.length:=by omega
    have k1:(k:Int)<(b.length:Int):=by omega
    have i2:((i:Int)==(a.length:Int))=true:=by simp;omega
    have hy:b[k]?=some b[k]:=by simp [q]
    obtain ⟨r,h1,h2,h3⟩:=ih i (k+1) (D++[b[k]]) (by omega) hi (by omega) (by simp;omega)
    refine ⟨b[k]::r,?_,?_,?_⟩
    . refine xdu (s':=((D++[b[k]]).length,(i:Int),((k+1:Nat):Int),List.map encF (D++[b[k]]))) ?_ (by rw [h1];simp)
      simp only [xaU,xc5,xch,xci,xcj,xdQ,xdR,xdS,xcL,xcM,  za,xaE,i1,i2,k1,q,zn,zm,zT,if_false,if_true,zN,gR hy,cF0,cF1,cF2,sF0,sF1,sF2,lF,sF12,sF02,Int.natCast_nonneg,zS,beq_self_eq_true,m1,m2,snoc,wk,sUF];simp
    . rw [xaC q];exact (h2.cons _).trans List.perm_middle.symm
    . refine zM.2 ⟨fun z hz=>?_,h3⟩
      rw [zq (show a.length<=i by omega),zU] at h2
      obtain ⟨j,hj,rfl⟩:=zp.1 (h2.mem_iff.1 hz);have Q:k+1+j<b.length:=by simp at hj;omega
      rw [List.getElem_drop];exact xdz sb (i:=k) (j:=k+1+j) (by omega) Q
theorem xGP (a b:List Fc) (ha:a.length+b.length<=1048576) (J:∀ x,x∈a->x.r.length<=1048576) (q:∀ x,x∈b->x.r.length<=1048576) (sa:Sorted cF a) (sb:Sorted cF b) :
  ∃ r,xtR (a.map encF) (b.map encF)=some (r.map encF)/\r.Perm (a++b)/\Sorted cF r:=by
 obtain ⟨r,h1,h2,h3⟩:=xGO a b ha J q sa sb _ 0 0 [] rfl (zQ _) (zQ _) rfl;simp only [zr,zU] at h1 h2;have h1':Iter (xaU (a.map encF) (b.map encF)) (0,(0:Int),(0:Int),[])=some (r.length,r.map encF):=by
  rw [h2.length_eq,z8];exact h1
 refine ⟨r,?_,h2,h3⟩;unfold xtR xqL;simp only [xpk,xpl,xpm,xpn,h1',sOO,sUF]
theorem xE3:∀ (f:Nat) (l:List Fc),l.length<=2 ^ f->Few l->∃ r,xbj (f+1) (List.map encF l)=some (List.map encF r)/\r.Perm l/\Sorted cF r:=by
 intro f;induction f with
 | zero =>
  intro l hl hs;have h1:(l.length:Int)<2:=by simp at hl;omega
  refine ⟨l,?_,List.Perm.refl _,?_⟩
  . show xb4 (xbj 0) (List.map encF l)=_;simp only [xb4,xfq,za,h1,zn,xab,sUF]
  . match l,hl with
    | [],_=>exact List.Pairwise.nil
    | [x],_=>exact List.pairwise_singleton _ _
 | succ f ih =>
  intro l hl hs;by_cases h2:l.length<=1
  . have h1:(l.length:Int)<2:=by omega
    refine ⟨l,?_,List.Perm.refl _,?_⟩
    . show xb4 (xbj (f+1)) (List.map encF l)=_;simp only [xb4,xfq,za,h1,zn,xab,sUF]
    . match l,h2 with
      | [],_=>exact List.Pairwise.nil
      | [x],_=>exact List.pairwise_singleton _ _
  . have hp:2 ^ (f+1)=2*2 ^ f:=by rw [Nat.pow_succ];omega
    have q:=hs.1;obtain ⟨m,hm⟩:∃ m,m=l.length / 2:=⟨_,rfl⟩;have st:Few (l.take m):=⟨by simp;omega,fun x hx=>hs.2 x (List.mem_of_mem_take hx)⟩
    have sd:Few (l.drop m):=⟨by simp;omega,fun x hx=>hs.2 x (List.mem_of_mem_drop hx)⟩
    obtain ⟨r1,e1,p1,s1⟩:=ih (l.take m) (by simp;omega) st
    obtain ⟨r2,e2,p2,s2⟩:=ih (l.drop m) (by simp;omega) sd
    have l1:=p1.length_eq;have l2:=p2.length_eq;simp only [zt,y1] at l1 l2;obtain ⟨r,a1,a3,a4⟩:=xGP r1 r2 (by omega) (fun x hx=>st.2 x (p1.mem_iff.1 hx)) (fun x hx=>sd.2 x (p2.mem_iff.1 hx)) s1 s2
    refine ⟨r,?_,a3.trans ((p1.append p2).trans (by rw [List.take_append_drop])),a4⟩
    have w:IntKind.i64.wrap ((l.length:Int).tdiv 2)=(m:Int):=by
     rw [Int.tdiv_eq_ediv_of_nonneg (by omega)]
     exact w64 (by omega) (by omega)
    have t1:List.take m (List.map encF l)=List.map encF (l.take m):=by simp
    have t2:List.take (l.length - m) (List.drop m (List.map encF l))=List.map encF (l.drop m):=by
     rw [zi (by simp)];simp
    have d0:¬ (l.length:Int)<2:=by omega
    have d2:(m:Int)<=(l.length:Int):=by omega
    show xb4 (xbj (f+1)) (List.map encF l)=_;simp only [xb4,xfq,xnA,xnB,xnC,  za,d0,xac,w,zN,Nat.sub_zero,zr,t1,t2,e1,e2,zk,zh,xab,d2,zn,zm,Int.natCast_nonneg,zS,a1,sUF]
theorem xKr (l:List Fc) (h:Few l):∃ D,xsY (l.map encF)=some (D.map encR)/\xNK l D:=by
 have e0:=xyj l h.1;have hf:(l.flatMap fun f=>if pv f.p=true then [f.r] else []).length<=1*l.length:=xjc l fun f _=>by split<;>simp
 have hm:∀ x,x∈(l.flatMap fun f=>if pv f.p=true then [f.r] else [])↔∃ f,f∈l/\f.r=x/\pv f.p=true:=fun x=>by
  rw [y3];constructor
  . rintro ⟨f,hf,hx⟩;split at hx
    . simp at hx;exact ⟨f,hf,hx.symm,by assumption⟩
    . simp at hx
  . rintro ⟨f,hf,e,hv⟩;exact ⟨f,hf,by rw [if_pos hv];simp [e]⟩
 have q:xNO (l.flatMap fun f=>if pv f.p=true then [f.r] else []):=⟨by have:=h.1;omega,fun x hx=>by
  obtain ⟨f,hf,e,_⟩:=(hm x).1 hx;rw [<-e];exact h.2 f hf⟩
 obtain ⟨D,d1,d2,d3,d4⟩:=xE1 _ q;refine ⟨D,?_,d2,fun r=>by rw [d3,hm]⟩
 generalize (l.flatMap fun f=>if pv f.p=true then [f.r] else [])=w at e0 d1
 have tt:List.take w.length (w.map encR)=w.map encR:=zi (by simp)
 unfold xsY xtN;simp only [xr7,xr8,xr9,xsa,e0,zk,zh,xab,zH,za,zd,zn,zS,zr,tt,d1,sUF]
theorem xGm (S:List Fc) (hS:S.length<=1048576) (hr:∀ f,f∈S->f.r.length<=maxLen) (on i:Nat) (hi:i<S.length) (xs:List AV):∀ (d k:Nat),k+d=S.length->i<=k->∃ j:Nat,k<=j/\j<=S.length/\(∀ t (h:t<S.length),k<=t->t<j->S[t].r=S[i].r)/\(∀ h:j<S.length,S[j].r≠S[i].r) /\
  Iter (xbi (S.map encF) on (i:Int)) ((k:Int),xs)=some ((j:Int),xs)
 | 0,k,h,hik=>by
  obtain rfl:k=S.length:=by omega
  refine ⟨S.length,zd _,zd _,fun t h1 h2 h3=>by omega,fun h=>by omega,xad ?_⟩
  simp only [xbi,xfK,za,zy,zm,xac,sUF]
 | d+1,k,h,hik=>by
  have hk:k<S.length:=by omega
  have i1:(k:Int)<(S.length:Int):=by omega
  have i2:(i:Int)<(S.length:Int):=by omega
  have gk:(S.map encF).getD k .top=encF S[k]:=xaa _ _ _ hk;have gi:(S.map encF).getD i .top=encF S[i]:=xaa _ _ _ hi;have ec:=xnx S[k].r S[i].r (hr _ (zo hk));by_cases he:S[k].r=S[i].r
  . obtain ⟨j,a1,a2,a3,a4,a5⟩:=xGm S hS hr on i hi xs d (k+1) (by omega) (by omega)
    refine ⟨j,by omega,a2,fun t h1 h2 h3=>?_,a4,(xak (s':=(((k+1:Nat):Int),xs)) ?_).trans a5⟩
    . by_cases q:t=k
      . subst q;exact he
      . exact a3 t h1 (by omega) h3
    . have dd:decide (S[k].r=S[i].r)=true:=decide_eq_true he;simp only [xbi,xfK,sBU,i1,i2,hk,hi,gk,gi,cF0,cF1,cF2,sF0,sF1,sF2,lF,sF12,sF02,ec,cmp0,dd,xNw (n:=k) (by omega)]
  . refine ⟨k,zd _,by omega,fun t h1 h2 h3=>by omega,fun _=>he,xad ?_⟩
    simp only [xbi,xfK,sBU,i1,i2,hk,hi,gk,gi,cF0,cF1,cF2,sF0,sF1,sF2,lF,sF12,sF02,ec,cmp0,he,zm]
structure RGI (S:List Fc) (i:Nat) (G:List Grp):Prop where
 st:Strict cmpR (G.map (·.1))
 mem:∀ r,r∈G.map (·.1)↔∃ f,f∈S.take i/\f.r=r/\pv f.p=true
 ps:∀ g,g∈G->StepI (fun t=>((cnt S g.1 t:Nat):Int)) 1099511627776 g.2/\g.2.length<=2*S.length+1
 len:G.length<=i
 bd:∀ a b (ha:a<S.length) (hb:b<S.length),a<i->i<=b->cmpR S[a].r S[b].r<0
theorem xOk {n:Nat} (h:n<=1048576):(n+1)*48<=140737488355328/\n+1<=4611686018427387904:=by omega
theorem xB0 (S:List Fc) (hS:S.length<=262144) (hr:∀ f,f∈S->f.r.length<=1048576) (hs:Sorted cF S):∀ (c i:Nat) (G:List Grp),S.length - i<=c->i<=S.length->RGI S i G ->
  ∃ G',Iter (xcU (S.map encF)) (G.length,(i:Int),G.map encG)=some (G'.length,G'.map encG)/\RGI S S.length G'
 | c,i,G,hc,hi,hG=>by
  by_cases ab:i=S.length
  . subst ab;refine ⟨G,xad ?_,hG⟩;simp only [xcU,xid,za,zy,zm,xac,sUF]
  . have O:i<S.length:=by omega
    obtain ⟨j,a1,a2,a3,a4,a5⟩:=xGm S (by omega) (fun f hf=>by have:=hr f hf;unfold maxLen;omega) G.length i O (G.map encG) (S.length - i) i (by omega) (zd _)
    have ac:i<j:=by
     rcases zJ i j with h|h
     . exact h
     . obtain rfl:j=i:=by omega
       exact absurd rfl (a4 O)
    have run_mem:∀ f,f∈(S.drop i).take (j - i)↔∃ t,∃ h:t<S.length,i<=t/\t<j/\S[t]=f:=fun f=>by
     rw [List.mem_take_iff_getElem];constructor
     . rintro ⟨m,hm,rfl⟩;rw [y1] at hm;exact ⟨i+m,by omega,by omega,by omega,by rw [List.getElem_drop]⟩
     . rintro ⟨t,h,h1,h2,rfl⟩;refine ⟨t - i,by rw [y1];omega,?_⟩
       rw [List.getElem_drop];congr 1;omega
    have run_row:∀ f,f∈(S.drop i).take (j - i)->f.r=S[i].r:=fun f hf=>by
     obtain ⟨t,h,h1,h2,rfl⟩:=(run_mem f).1 hf;exact a3 t h h1 h2
    have W:S.take j=S.take i++(S.drop i).take (j - i):=by
     rw [show j=i+(j - i) by omega,List.take_add,Nat.add_sub_cancel_left]
    have Q:S=S.take i++((S.drop i).take (j - i)++S.drop j):=by
     rw [<-zw,<-W,List.take_append_drop]
    have rl:((S.drop i).take (j - i)).length=j - i:=by rw [zt,y1];omega
    have J:∀ f,f∈S.take i->cmpR f.r S[i].r<0:=fun f hf=>by
     obtain ⟨t,ht,rfl⟩:=List.mem_take_iff_getElem.1 hf;exact hG.bd t i (by omega) O (by omega) (zd _)
    have q:∀ t (h:t<S.length),j<=t->cmpR S[i].r S[t].r<0:=fun t h af=>by
     have hj:j<S.length:=by omega
     have c1:cmpR S[i].r S[j].r<=0:=zB.1 hs i j O hj ac;have c2:cmpR S[i].r S[j].r<0:=by
      rcases Int.lt_or_eq_of_le c1 with c|c
      . exact c
      . exact absurd (xnR c).symm (a4 hj)
     rcases zJ j t with h1|h1
     . have c3:cmpR S[j].r S[t].r<=0:=zB.1 hs j t hj h h1;exact xs8.lt1 c2 c3
     . obtain rfl:t=j:=by omega
       exact c2
    have no_other:∀ (l:List Fc) (ρ:Row) (t:Int),(∀ f,f∈l->f.r≠ρ)->cnt l ρ t=0:=fun l ρ t h=>by
     unfold cnt;rw [List.countP_eq_zero];intro f hf hh;simp only [zf,zl] at hh;exact h f hf hh.1
    have ne_of:∀ x y:Row,cmpR x y<0->x≠y:=fun x y h e=>by subst e;rw [xuf] at h;omega
    have Y:∀ t,cnt ((S.drop i).take (j - i)) S[i].r t=cnt S S[i].r t:=fun t=>by
     have e:cnt S S[i].r t=cnt (S.take i++((S.drop i).take (j - i)++S.drop j)) S[i].r t:=by rw [<-Q]
     rw [e,xvJ,xvJ,no_other (S.take i) _ t (fun f hf=>ne_of _ _ (J f hf)),no_other (S.drop j) _ t (fun f hf=>by
      obtain ⟨m,hm,rfl⟩:=zp.1 hf;rw [y1] at hm;rw [List.getElem_drop];exact fun e=>ne_of _ _ (q (j+m) (by omega) (by omega)) e.symm)]
     omega
    have U:Few ((S.drop i).take (j - i)):=⟨by omega,fun f hf=>hr f (List.mem_of_mem_drop (List.mem_of_mem_take hf))⟩
    obtain ⟨D,d1,d2,d3⟩:=xKr _ U;obtain ⟨St,s1,s2,s3⟩:=xHe ((S.drop i).take (j - i)) S[i].r (fun f hf=>by have:=U.2 f hf;unfold maxLen;omega) (by omega)
    have s2:StepI (fun t=>((cnt S S[i].r t:Nat):Int)) 1099511627776 St:=by
     have e:(fun t=>((cnt ((S.drop i).take (j - i)) S[i].r t:Nat):Int))=fun t=>((cnt S S[i].r t:Nat):Int):=funext fun t=>by rw [Y]
     rwa [e] at s2
    have tS:List.take (j - i) (List.drop i (S.map encF))=((S.drop i).take (j - i)).map encF:=by rw [<-List.map_drop,<-List.map_take]
    have hD:D=[]\/D=[S[i].r]:=by
     match D,d2,d3 with
     | [],_,_=>exact .inl rfl
     | [x],_,h=>right;obtain ⟨f,hf,e,_⟩:=(h x).1 (by simp);rw [<-e,run_row f hf]
     | x::y::t,h1,h =>
      obtain ⟨f,hf,e,_⟩:=(h x).1 (by simp)
      obtain ⟨g,hg,e',_⟩:=(h y).1 (by simp)
      have:cmpR x y<0:=(zM.1 h1).1 y (by simp)
      rw [<-e,<-e',run_row f hf,run_row g hg,xuf] at this;omega
    have ag:=hG.len;obtain ⟨m1,m2⟩:=xOk (n:=G.length) (by omega)
    have nx:RGI S j (G++D.map fun ρ=>(ρ,St)):=by
     refine ⟨?_,fun r=>?_,fun g hg=>?_,?_,fun a b ha hb ad Z=>?_⟩
     . rw [zx];refine List.pairwise_append.2 ⟨hG.st,?_,fun x hx y hy=>?_⟩
       . rcases hD with rfl|rfl
         . exact List.Pairwise.nil
         . exact List.pairwise_singleton _ _
       . obtain ⟨f,hf,e,_⟩:=(hG.mem x).1 hx;rcases hD with rfl|rfl
         . simp at hy
         . simp at hy;subst hy;rw [<-e];exact J f hf
     . rw [zx,zG,hG.mem,W];have e:r∈(D.map fun ρ=>(ρ,St)).map (·.1)↔r∈D:=by simp
       rw [e,d3];constructor
       . rintro (⟨f,hf,h⟩|⟨f,hf,h⟩)
         . exact ⟨f,zG.2 (.inl hf),h⟩
         . exact ⟨f,zG.2 (.inr hf),h⟩
       . rintro ⟨f,hf,h⟩;rcases zG.1 hf with hf|hf
         . exact .inl ⟨f,hf,h⟩
         . exact .inr ⟨f,hf,h⟩
     . rcases zG.1 hg with hg|hg
       . exact hG.ps g hg
       . obtain ⟨ρ,hρ,rfl⟩:=zK.1 hg;rcases hD with rfl|rfl
         . simp at hρ
         . simp at hρ;subst hρ;exact ⟨s2,by rw [rl] at s3;dsimp only;omega⟩
     . rw [z8,za];rcases hD with rfl|rfl<;>simp<;>omega
     . rcases zJ a i with V|V
       . exact hG.bd a b ha hb V (by omega)
       . rw [a3 a ha V ad];exact q b hb Z
    obtain ⟨G',e',ae⟩:=xB0 S hS hr hs (c - 1) j _ (by omega) a2 nx
    refine ⟨G',(xak ?_).trans e',ae⟩;have i1:(i:Int)<(S.length:Int):=by omega
    have i2:(j:Int)<=(S.length:Int):=by omega
    have i3:(i:Int)<=(j:Int):=by omega
    have aa:Iter (xcV (S.map encF) (i:Int) (j:Int) (D.map encR)) (G.length,(0:Int),G.map encG)=some ((G++D.map fun ρ=>(ρ,St)).length,(G++D.map fun ρ=>(ρ,St)).map encG):=by
     rcases hD with rfl|rfl
     . refine xad ?_;have z:¬ (0:Int)<(([]:List AV).length:Int):=by simp
       simp only [xcV,xfL,zW,z,zm,xac,zD,sUF]
     . have z0:(0:Int)<(1:Int):=by omega
       have g0:([S[i].r].map encR).getD 0 .top=encR S[i].r:=rfl;have w1:IntKind.i64.wrap ((0:Int)+1)=1:=rfl;refine (xak (s':=((G++[(S[i].r,St)]).length,(1:Int),(G++[(S[i].r,St)]).map encG)) ?_).trans (xad ?_)
       . have l1:(([S[i].r]:List Row).length:Int)=1:=rfl;have z1:(0:Int)<=0:=by omega
         have z2:(0:Nat)<([S[i].r]:List Row).length:=by simp
         have z3:(0:Int).toNat=0:=rfl;simp only [xcV,xfL,sBU,l1,z0,z1,z2,z3,g0,cR0,sR0,i2,i3,tS,s1,m1,m2,w1];simp [encG]
       . have l1:¬ (1:Int)<(([encR S[i].r]:List AV).length:Int):=by simp
         simp only [xcV,xfL,zV,zW,l1,zm,xac,sUF]
    simp only [xcU,xid,xlq,xlr,xbP,sBU,i1,i2,i3,a5,tS,d1,aa]
theorem xAU (l:List Fc) (h:Few l) (hl:l.length<=262144):∃ G:List Grp,xe6 (l.map encF)=some (G.map encG)/\xNK l (G.map (·.1))/\(∀ g,g∈G->StepI (fun t=>((cnt l g.1 t:Nat):Int)) 1099511627776 g.2/\g.2.length<=2*l.length+1)/\G.length<=l.length:=by
 obtain ⟨S,e1,p1,s1⟩:=xE3 99 l (Nat.le_trans h.1 (Nat.le_trans (show 1048576<=2 ^ 20 by omega) (Nat.pow_le_pow_right (by omega) (by omega)))) h
 have q:=p1.length_eq;obtain ⟨G,e2,hG⟩:=xB0 S (by omega) (fun f hf=>h.2 f (p1.mem_iff.1 hf)) s1 S.length 0 [] (by omega) (by omega) ⟨List.Pairwise.nil,fun r=>by simp,fun g hg=>by simp at hg,zd _,fun a b ha hb h1 h2=>by omega⟩
 refine ⟨G,?_,⟨hG.st,fun r=>?_⟩,fun g hg=>?_,by rw [<-q];exact hG.len⟩
 . have e1:xbj 100 (l.map encF)=some (S.map encF):=e1;have e2:Iter (xcU (S.map encF)) ((0:Nat),(0:Int),[])=_:=e2;have tt:List.take G.length (G.map encG)=G.map encG:=zi (by simp)
   unfold xe6 xqK;simp only [xpg,xph,xpi,xpj,e1,e2,zk,zh,xab,zH,za,zd,zn,zS,zr,tt,sUF]
 . rw [hG.mem,y4];constructor
   . rintro ⟨f,hf,e⟩;exact ⟨f,p1.mem_iff.1 hf,e⟩
   . rintro ⟨f,hf,e⟩;exact ⟨f,p1.mem_iff.2 hf,e⟩
 . obtain ⟨x1,x2⟩:=hG.ps g hg;have e:(fun t=>((cnt S g.1 t:Nat):Int))=fun t=>((cnt l g.1 t:Nat):Int):=funext fun t=>by rw [xJR p1]
   rw [e] at x1;exact ⟨x1,by omega⟩
theorem xv2 (row:Row) (P:List Per) (hP:P.length<=1048576):xe5 (row.map encV) (P.map encP)=some ((mk row P).map encF):=by
 have e:=xwb row P hP;rw [xNP (fun p:Per=>(⟨row,p⟩:Fc)) P] at e
 have e:Iter (xbx (row.map encV) (P.map encP)) ((0:Nat),(0:Int),[])=some ((mk row P).length,(mk row P).map encF):=e;generalize mk row P=D at e;have tt:List.take D.length (D.map encF)=D.map encF:=zi (by simp)
 unfold xe5 xqE;simp only [xpb,xpc,xpd,e,zk,zh,xab,zH,za,zd,zn,zS,zr,tt,sUF]
theorem sG0 (g:Grp):xOq (Sh.list 3) ((encG g).cells.getD 0 .top)=true:=rfl
theorem sG1 (g:Grp):xOq (Sh.list 2) ((encG g).cells.getD 1 .top)=true:=rfl
theorem xN5 {n m:Nat} (h:n<=1048576*1024) (hm:m<=1048576):(n+m)*40<=140737488355328/\n+m<=4611686018427387904:=by omega
theorem xKk (G:List Grp) (hG:G.length<=1024) (L:Row->List Per) (hL:∀ g,g∈G->xd8 (g.2.map encP)=some ((L g.1).map encP)/\(L g.1).length<=1048576) :
  Iter (xef (G.map encG)) ((0:Nat),(0:Int),[])=some ((xNB (G.map (·.1)) L).length,(xNB (G.map (·.1)) L).map encF):=by
 rw [<-xvM];refine xhK G (fun g=>mk g.1 (L g.1)) encF 1048576 (fun g hg=>by unfold mk;rw [za];exact (hL g hg).2) (fun n h D hD=>?_) (fun D=>?_)
 . have i1:(n:Int)<(G.length:Int):=by omega
   have gf:(G.map encG).getD n .top=encG G[n]:=xaa _ _ _ h;obtain ⟨e1,e2⟩:=hL _ (zo h);have ed:=xv2 G[n].1 (L G[n].1) e2;have ml:(mk G[n].1 (L G[n].1)).length<=1048576:=by unfold mk;rw [za];exact e2
   have q:D.length<=1048576*1024:=Nat.le_trans hD (Nat.mul_le_mul_left _ (by omega))
   obtain ⟨m1,m2⟩:=xN5 q ml;simp only [xef,xlx,xkM,sBU,h,i1,gf,cG0,cGs,sG0,sG1,e1,ed,m1,m2,xNw (n:=n) (by omega),z8,zx]
 . simp only [xef,xlx,za,zy,zm,xac,sUF]
theorem xKl (G:List Grp) (hG:G.length<=1024) (L:Row->List Per) (hL:∀ g,g∈G->xaY (g.2.map encP) 1=some ((L g.1).map encP)/\(L g.1).length<=1048576) :
  Iter (xeg (G.map encG)) ((0:Nat),(0:Int),[])=some ((xNB (G.map (·.1)) L).length,(xNB (G.map (·.1)) L).map encF):=by
 rw [<-xvM];refine xhK G (fun g=>mk g.1 (L g.1)) encF 1048576 (fun g hg=>by unfold mk;rw [za];exact (hL g hg).2) (fun n h D hD=>?_) (fun D=>?_)
 . have i1:(n:Int)<(G.length:Int):=by omega
   have gf:(G.map encG).getD n .top=encG G[n]:=xaa _ _ _ h;obtain ⟨e1,e2⟩:=hL _ (zo h);have ed:=xv2 G[n].1 (L G[n].1) e2;have ml:(mk G[n].1 (L G[n].1)).length<=1048576:=by unfold mk;rw [za];exact e2
   have q:D.length<=1048576*1024:=Nat.le_trans hD (Nat.mul_le_mul_left _ (by omega))
   obtain ⟨m1,m2⟩:=xN5 q ml;simp only [xeg,xl1,xkO,xpf,sBU,h,i1,gf,cG0,cGs,sG0,sG1,e1,ed,m1,m2,xNw (n:=n) (by omega),z8,zx]
 . simp only [xeg,xl1,za,zy,zm,xac,sUF]
theorem xMG (l:List Fc) (r:Row) (t:Int):cnt l r t<=l.length:=List.countP_le_length
theorem xFQ (l:List Fc) (r:Row) (t:Int) (h:t<0\/1099511627776<=t):cnt l r t=0:=by rw [<-xvy];exact xDF _ t h
theorem xLz (l:List Fc) (h:Few l) (hl:l.length<=1024):∃ B,xyi (l.map encF)=some (B.map encF)/\xNI l B:=by
 obtain ⟨G,e1,hR,hS,O⟩:=xAU l h (by omega)
 have lv:∀ g,g∈G->∃ P,xd8 (g.2.map encP)=some (P.map encP)/\IsLevs (cnt l g.1) P:=fun g hg=>by
  obtain ⟨s1,s2⟩:=hS g hg;exact xHn (N:=cnt l g.1) (H:=l.length) (by omega) (xMG l g.1) (xFQ l g.1) s1 (by omega)
 obtain ⟨L,hL⟩:=xuc (R:=G.map (·.1)) (Q:=fun r P=>(∀ g,g∈G->g.1=r->xd8 (g.2.map encP)=some (P.map encP))/\IsLevs (cnt l r) P) fun r hr=>by
  obtain ⟨g,hg,rfl⟩:=zK.1 hr;obtain ⟨P,p1,p2⟩:=lv g hg;refine ⟨P,fun g' J e=>?_,p2⟩
  obtain ⟨P',q1,q2⟩:=lv g' J;rw [e] at q2;rw [q1,q2.unique p2]
 have hk:∀ g,g∈G->g.1∈G.map (·.1):=fun g hg=>zK.2 ⟨g,hg,rfl⟩
 have q:∀ g,g∈G->(L g.1).length<=1048576:=fun g hg=>by
  have a:=(hL g.1 (hk g hg)).2;rw [<-xI7] at a;have b:=xAC l g.1;exact Nat.le_trans a.len (Nat.mul_le_mul (Nat.le_trans b hl) (Nat.le_trans b hl))
 have e2:=xKk G (by omega) L fun g hg=>⟨(hL g.1 (hk g hg)).1 g hg rfl,q g hg⟩
 refine ⟨xNB (G.map (·.1)) L,?_,G.map (·.1),L,hR,fun r hr=>(hL r hr).2,rfl⟩
 generalize xNB (G.map (·.1)) L=F at e2;have tt:List.take F.length (F.map encF)=F.map encF:=zi (by simp)
 unfold xyi xu5;simp only [xtJ,xtK,xtL,e1,e2,zk,zh,xab,zH,za,zd,zn,zS,zr,tt,sUF]
theorem xLE (l:List Fc) (h:Few l) (hl:l.length<=1024):∃ B,xrv (l.map encF)=some (B.map encF)/\xNN l B:=by
 obtain ⟨G,e1,hR,hS,J⟩:=xAU l h (by omega)
 have lv:∀ g,g∈G->∃ P,xaY (g.2.map encP) 1=some (P.map encP)/\(IsSpan P/\∀ t,inL P t=decide (0<cnt l g.1 t))/\P.length<=1048576:=fun g hg=>by
  obtain ⟨s1,s2⟩:=hS g hg;obtain ⟨P,p1,p2,p3⟩:=xIm (N:=cnt l g.1) (xFQ l g.1) s1 (by omega) 0
  exact ⟨P,p1,p2,by omega⟩
 obtain ⟨L,hL⟩:=xuc (R:=G.map (·.1)) (Q:=fun r P=>(∀ g,g∈G->g.1=r->xaY (g.2.map encP) 1=some (P.map encP))/\(IsSpan P/\∀ t,inL P t=decide (0<cnt l r t))/\P.length<=1048576) fun r hr=>by
  obtain ⟨g,hg,rfl⟩:=zK.1 hr;obtain ⟨P,p1,p2,p3⟩:=lv g hg;refine ⟨P,fun g' q e=>?_,p2,p3⟩
  obtain ⟨P',q1,q2,_⟩:=lv g' q;rw [e] at q2;rw [q1,xhR q2.1 p2.1 fun t=>by rw [q2.2,p2.2]]
 have hk:∀ g,g∈G->g.1∈G.map (·.1):=fun g hg=>zK.2 ⟨g,hg,rfl⟩
 have e2:=xKl G (by omega) L fun g hg=>⟨(hL g.1 (hk g hg)).1 g hg rfl,(hL g.1 (hk g hg)).2.2⟩
 refine ⟨xNB (G.map (·.1)) L,?_,G.map (·.1),L,hR,fun r hr=>(hL r hr).2.1,rfl⟩
 generalize xNB (G.map (·.1)) L=F at e2;have tt:List.take F.length (F.map encF)=F.map encF:=zi (by simp)
 unfold xrv xu7;simp only [xtO,xtP,xtQ,e1,e2,zk,zh,xab,zH,za,zd,zn,zS,zr,tt,sUF]
end Go.Sim.M
end
noncomputable section
set_option maxRecDepth 100000
namespace Go.Sim.M
open Go.RowKit
theorem xFo (p0:List UInt8) (p1 p3 p4:List AV) (key:List Int) (hk:key.length<=1048576) (pl:List Fc) (O:pl.length<=1048576) (K:Row):xjY p0 p1 (key.map encN) p3 p4 (pl.map encF) (K.map encV)=some ((life key pl K).map encP):=by
 have e:=xlh (step:=xcr (pl.map encF) (K.map encV)) pl (fun y=>if decide (pick y.r key=K)=true then [y.p] else []) (fun n D=>(D.length,(n:Int),p0,p1,key.map encN,p3,p4,D.map encP)) (fun D=>(D.length,D.map encP)) [] 1 (fun y _=>by split<;>simp) (fun n h D hD=>by
  have h1:(n:Int)<(pl.length:Int):=by omega
  rw [List.length_nil] at hD;have m1:(D.length+1)*16<=140737488355328:=by omega
  have m2:D.length+1<=4611686018427387904:=by omega
  have gf:(pl.map encF).getD n .top=encF pl[n]:=xaa _ _ _ h;have q:=xKn p0 p1 p3 p4 key pl[n].r hk;have J:=xnx (pick pl[n].r key) K (by rw [xzH];simp only [maxLen];omega)
  simp only [xcr,xho,sBU,h,h1,gf,cF0,cF1,cF2,sF0,sF1,sF2,lF,sF12,sF02,q,J,cmp0,m1,m2,xNw (n:=n) (by omega)]
  by_cases hc:pick pl[n].r key=K
  . simp [hc,xab,encP,sUF]
  . simp [hc,xac,sUF]) (fun D=>by
  simp only [xcr,xho,za,zy,zm,xac,sUF])
 rw [zU,xDM _ (fun y:Fc=>y.p) (fun y=>decide (pick y.r key=K)) (fun _=>rfl)] at e
 have e:Iter (xcr (pl.map encF) (K.map encV)) ((0:Nat),(0:Int),p0,p1,key.map encN,p3,p4,[])=some ((life key pl K).length,(life key pl K).map encP):=e;have tt:List.take (life key pl K).length ((life key pl K).map encP)=(life key pl K).map encP:=zi (by simp)
 unfold xjY xpp;simp only [xnE,xnF,xnG,xnH,e,za,zk,zh,xab,zH,zd,zn,zS,zr,tt,sUF]
theorem xKo (p0:List UInt8) (p1 p3 p4:List AV) (key:List Int) (hk:key.length<=1048576) (pl:List Fc) (q:pl.length<=65536) (K:Row):∃ A:List Per,xgo p0 p1 (key.map encN) p3 p4 (pl.map encF) (K.map encV)=some (A.map encP)/\IsSpan A/\(∀ t,inL A t=inL (life key pl K) t)/\A.length<=2*(1+pl.length):=by
 have hl:=xvW key pl K;obtain ⟨A,e,h1,h2,h3⟩:=xKt (life key pl K) (by omega)
 refine ⟨A,?_,h1,h2,by omega⟩
 unfold xgo xnD;rw [xFo p0 p1 p3 p4 key hk pl (by omega) K]
 simp only [zk,zh,xab,e,sUF]
theorem xKu (p0:List UInt8) (p1 p3 p4:List AV) (key:List Int) (hk:key.length<=1048576) (pl:List Fc) (U:pl.length<=14) (p:Per) (K:Row):∃ A S:List Per,xgo p0 p1 (key.map encN) p3 p4 (pl.map encF) (K.map encV)=some (A.map encP)/\xiv [AV.agg [.int .i64 p.1,.int .i64 p.2]] (A.map encP)=some (S.map encP)/\IsSpan S/\(∀ t,inL S t=(hasP p t&&!inL (life key pl K) t))/\S.length<=2*(2+pl.length):=by
 obtain ⟨A,a1,a2,a3,a4⟩:=xKo p0 p1 p3 p4 key hk pl (by omega) K
 obtain ⟨S,s1,s2,s3,s4⟩:=xzU [p] A (by simp) (by omega)
 obtain ⟨S',Q,J,q,O⟩:=xzU [p] (life key pl K) (by simp) (by have:=xvW key pl K;omega)
 have he:S=S':=xhR s2 J fun t=>by rw [s3,q,a3]
 have hl:=xvW key pl K;refine ⟨A,S,a1,s1,s2,fun t=>?_,by rw [he];simp at O;omega⟩
 rw [s3,a3,xjd,xfl,Bool.or_false]
theorem xKp (cols key:List Int) (ft p0:List UInt8) (p1 p3 p4:List AV) (hc:cols.length<=1048576) (hk:key.length<=1048576) (l pl:List Fc) (hl:l.length<=14) (Q:pl.length<=14) (hr:∀ f,f∈l->f.r.length<=60) :
  ∃ B M:List Fc,xbz (cols.map encN) ft (l.map encF) p0 p1 (key.map encN) p3 p4 (pl.map encF)=some (B.map encF)/\xNI M B/\IsMiss cols key l pl M:=by
 have h1:∀ x,x∈l->∃ S:List Per,(xNG x.r cols=true->S=[])/\(xNG x.r cols=false->∃ A:List Per,xgo p0 p1 (key.map encN) p3 p4 (pl.map encF) ((pick x.r cols).map encV)=some (A.map encP)/\xiv [AV.agg [.int .i64 x.p.1,.int .i64 x.p.2]] (A.map encP)=some (S.map encP))/\IsSpan S/\(∀ t,inL S t=xNV cols key pl x t)/\S.length<=2*(2+pl.length):=fun x hx=>by
  cases hn:xNG x.r cols with
  | true=>exact ⟨[],fun _=>rfl,(by simp),xlL,fun t=>by simp [xNV,hn,xfl],by simp⟩
  | false =>
   obtain ⟨A,S,a1,s1,s2,s3,s4⟩:=xKu p0 p1 p3 p4 key hk pl Q x.p (pick x.r cols);exact ⟨S,(by simp),fun _=>⟨A,a1,s1⟩,s2,fun t=>by rw [s3];simp [xNV,hn],s4⟩
 obtain ⟨L,hL⟩:=xyV h1;have hM:IsMiss cols key l pl (l.flatMap fun x=>mk x.r (L x)):=xB3 fun x hx=>(hL x hx).2.2
 have e1:=xlh (step:=xbE (l.map encF) (pl.map encF)) l (fun x=>mk x.r (L x)) (fun n D=>(D.length,(n:Int),cols.map encN,ft,p0,p1,key.map encN,p3,p4,D.map encF)) (fun D=>(D.length,D.map encF)) [] 32 (fun x hx=>by
  have:=(hL x hx).2.2.2.2;rw [mk,za];omega) (fun n h D hD=>by
  have h1:(n:Int)<(l.length:Int):=by omega
  have gf:(l.map encF).getD n .top=encF l[n]:=xaa _ _ _ h;obtain ⟨s1,s2,s3,s4,s5⟩:=hL l[n] (zo h);rw [List.length_nil,zH] at hD;have O:=xJe cols ft l[n].r hc;have U:=xCw l[n].r cols hc;cases hn:xNG l[n].r cols with
  | true =>
   have hm:mk l[n].r (L l[n])=[]:=by rw [s1 hn];rfl
   rw [hm,zD];simp only [xbE,xe8,xet,xgI,xgJ,xdp,xgK,xeu,sBU,h,h1,gf,cF0,cF1,cF2,sF0,sF1,sF2,lF,sF12,sF02,O,hn,xNw (n:=n) (by omega)]
  | false =>
   obtain ⟨A,a1,a2⟩:=s2 hn;have hd:=xv2 l[n].r (L l[n]) (by omega)
   have ml:(mk l[n].r (L l[n])).length<=32:=by rw [mk,za];omega
   have m1:(D.length+(mk l[n].r (L l[n])).length)*40<=140737488355328:=by omega
   have m2:D.length+(mk l[n].r (L l[n])).length<=4611686018427387904:=by omega
   simp only [xbE,xe8,xet,xgI,xgJ,xdp,xgK,xeu,sBU,h,h1,gf,cF0,cF1,cF2,sF0,sF1,sF2,lF,sF12,sF02,O,hn,U,a1,a2,hd,m1,m2,xNw (n:=n) (by omega),z8,zx]) (fun D=>by
  simp only [xbE,xe8,za,zy,zm,xac,sUF])
 rw [zU] at e1;generalize l.flatMap (fun x=>mk x.r (L x))=M at e1 hM
 have J:=hM.len;have q:M.length<=1024:=Nat.le_trans J (Nat.le_trans (Nat.mul_le_mul (Nat.mul_le_mul_left 2 (Nat.add_le_add_left Q 2)) hl) (by decide))
 obtain ⟨B,b1,b2⟩:=xLz M ⟨by omega,fun f hf=>by
  obtain ⟨x,hx,e⟩:=hM.row f hf;have:=hr x hx;rw [e];omega⟩ q
 refine ⟨B,M,?_,b2,hM⟩;have e1:Iter (xbE (l.map encF) (pl.map encF)) ((0:Nat),(0:Int),cols.map encN,ft,p0,p1,key.map encN,p3,p4,[])=_:=e1;have tt:List.take M.length (M.map encF)=M.map encF:=zi (by simp)
 unfold xbz xpq;simp only [xnJ,xnK,xnL,xnM,xnN,za,e1,b1,zk,zh,xab,zH,zd,zn,zS,zr,tt,sUF]
end Go.Sim.M
end
noncomputable section
set_option maxRecDepth 100000
namespace Go.Sim.M
open Go.RowKit Go.Sim.Srt
theorem xB7:∀ (a b:List Int),(∀ t,a.count t<=b.count t)->a.length<=b.length
 | [],b,_=>by simp
 | x::a,b,h=>by
  have hx:x∈b:=List.count_pos_iff.1 (by have:=h x;rw [List.count_cons_self] at this;omega)
  have ih:=xB7 a (b.erase x) fun t=>by
   have:=h t;by_cases e:x=t
   . subst e;rw [List.count_cons_self] at this;rw [List.count_erase_self];omega
   . rw [List.count_cons_of_ne e] at this;rw [List.count_erase_of_ne (fun c=>e c.symm)];exact this
  rw [List.length_erase_of_mem hx] at ih;have:0<b.length:=List.length_pos_iff.2 fun c=>by rw [c] at hx;simp at hx
  rw [zF];omega
theorem xGL (ps:List Per) (t:Int):ps.countP (hasP · t)<=ps.countP (hasP · (t - 1))+(ps.map (·.1)).count t:=by
 induction ps with
 | nil=>simp
 | cons p ps ih =>
  rw [List.countP_cons,List.countP_cons,zV,List.count_cons];have:(if hasP p t=true then 1 else 0)<=(if hasP p (t - 1)=true then 1 else 0)+(if (p.1==t)=true then 1 else 0):=by
   by_cases h1:hasP p t=true
   . obtain ⟨hv,a,b⟩:=xbV.1 h1;by_cases h2:p.1=t
     . have e:(p.1==t)=true:=by simpa using h2
       rw [if_pos h1,if_pos e];omega
     . have:hasP p (t - 1)=true:=xbV.2 ⟨hv,by omega,by omega⟩
       rw [if_pos h1,if_pos this];omega
   . rw [if_neg h1];omega
  omega
theorem xGq (a b:Nat):∀ n:Nat,((List.range n).map fun k=>if a<=k/\k<b then 1 else 0).sum<=min n b - min n a
 | 0=>by simp
 | n+1=>by
  rw [List.range_succ,zx,List.sum_append];have:=xGq a b n;simp only [zV,zW,List.sum_cons,List.sum_nil];split<;>omega
theorem IsLevs.len1 {ps P:List Per} (h:IsLevs (fun t=>ps.countP (hasP · t)) P):P.length<=ps.length:=by
 have:(P.map (·.1)).length<=(ps.map (·.1)).length:=by
  refine xB7 _ _ fun t=>?_
  obtain ⟨A,H,h1,h2,h3⟩:=h.lev;have e1:(P.map (·.1)).count t=((List.range H).map fun k=>((A k).map (·.1)).count t).sum:=by
   rw [(h3.map (·.1)).count_eq,List.map_flatMap,List.count_flatMap];rfl
  have e2:∀ n,((List.range n).map fun k=>((A k).map (·.1)).count t).sum<=((List.range n).map fun k=>if ps.countP (hasP · (t - 1))<=k/\k<ps.countP (hasP · t) then 1 else 0).sum:=fun n=>by
   induction n with
   | zero=>simp
   | succ n ih =>
    rw [List.range_succ,zx,zx,List.sum_append,List.sum_append];simp only [zV,zW,List.sum_cons,List.sum_nil];have hn:((A n).map (·.1)).Nodup:=by
     unfold List.Nodup;rw [List.pairwise_map];refine List.Pairwise.imp_of_mem (fun {p q} hp hq h=>?_) (h2 n).1.2
     have:=xbO.1 ((h2 n).1.1 p hp);omega
    have J:((A n).map (·.1)).count t<=1:=List.nodup_iff_count.1 hn t;by_cases ht:t∈(A n).map (·.1)
    . obtain ⟨p,hp,rfl⟩:=zK.1 ht;obtain ⟨a,b,_⟩:=xF6 (N:=fun t=>ps.countP (hasP · t)) (h2 n).1 (h2 n).2 hp
      have hv:=xbO.1 ((h2 n).1.1 p hp);have:=a p.1 (Int.le_refl _) hv.2.1;rw [if_pos ⟨b,this⟩];omega
    . rw [List.count_eq_zero.2 ht];omega
  have e3:=e2 H;have e4:=xGq (ps.countP (hasP · (t - 1))) (ps.countP (hasP · t)) H;have e5:=xGL ps t;have e6:=h1 t;omega
 simpa using this
theorem xAo {L:Row->List Per}:∀ {R:List Row} {l:List Fc},R.Nodup->(∀ r,r∈R->(L r).length<=(psOf l r).length)->(xNB R L).length<=l.length
 | [],l,_,_=>by simp [xNB]
 | r::R,l,hn,h=>by
  obtain ⟨n1,n2⟩:=List.nodup_cons.1 hn;have e:xNB (r::R) L=((L r).map fun p=>(⟨r,p⟩:Fc))++xNB R L:=by simp [xNB]
  let l2:=l.filter fun f=>!decide (f.r=r)
  have J:∀ r',r'∈R->psOf l2 r'=psOf l r':=fun r' q=>by
   have hne:r'≠r:=fun e=>n1 (e▸q)
   unfold psOf;simp only [l2,List.filter_filter];congr 1;refine List.filter_congr fun f _=>?_
   by_cases hf:f.r=r'
   . have:¬ f.r=r:=fun e=>hne (hf▸e)
     simp [hf,hne]
   . simp [hf]
  have ih:=xAo (L:=L) (l:=l2) n2 fun r' q=>by rw [J r' q];exact h r' (by simp [q])
  have h1:=h r (by simp)
  have hl:(psOf l r).length+l2.length<=l.length:=by
   unfold psOf;rw [za];have:=List.length_eq_countP_add_countP (fun f:Fc=>decide (f.r=r)) (l:=l)
   have a1:(l.filter fun f=>decide (f.r=r)&&pv f.p).length<=l.countP fun f=>decide (f.r=r):=by
    rw [<-List.countP_eq_length_filter];exact List.countP_mono_left fun f _ hf=>by simp only [zf] at hf;exact hf.1
   have a2:l2.length=l.countP fun f=>¬ decide (f.r=r)=true:=by
    rw [List.countP_eq_length_filter];simp [l2]
   omega
  rw [e,z8,za];omega
theorem xNI.len1 {l B:List Fc} (h:xNI l B):B.length<=l.length:=by
 obtain ⟨R,L,h1,h2,rfl⟩:=h;refine xAo (h1.1.nodup xs8) fun r hr=>?_
 have:=h2 r hr;rw [show cnt l r=fun t=>(psOf l r).countP (hasP · t) from funext fun t=>(xvy l r t).symm] at this
 exact this.len1
end Go.Sim.M
end
noncomputable section
set_option maxRecDepth 100000
namespace Go.Sim.M
open Go.RowKit
def xND (n:List UInt8) (ix:Int) (f:Fc):AV:=.agg [.int .i64 3,.str n,.int .i64 ix,.list 3 (f.r.map encV),.int .i64 f.p.1,.int .i64 f.p.2]
theorem xK4 {cols key:List Int} {l pl M B:List Fc} (hl:l.length<=14) (q:pl.length<=14) (hM:IsMiss cols key l pl M) (hB:xNI M B):B.length<=448:=by
 have h1:=hB.len1;have h2:M.length<=448:=Nat.le_trans hM.len (Nat.le_trans (Nat.mul_le_mul (Nat.mul_le_mul_left 2 (Nat.add_le_add_left q 2)) hl) (by decide))
 omega
theorem IsMiss.bagrow {cols key:List Int} {l pl M B:List Fc} (hM:IsMiss cols key l pl M) (hB:xNI M B):∀ f,f∈B->∃ x,x∈l/\f.r=x.r:=fun f hf=>by
 obtain ⟨_,g,hg,e⟩:=hB.valid hf;obtain ⟨x,hx,e'⟩:=hM.row g hg;exact ⟨x,hx,by rw [<-e,e']⟩
theorem xDH (n:List UInt8) (ix:Int) (f:Fc):AV.agg [.int .i64 3,.str n,.int .i64 ix,.list 3 (f.r.map encV),.int .i64 f.p.1,.int .i64 f.p.2]=xND n ix f:=rfl
theorem xLI {l B:List Fc} (hl:l.length<=14) (hr:∀ f,f∈l->f.r.length<=60) (ht:∀ f,f∈l->Txt f.r) (hb:B.length<=448) (q:∀ f,f∈B->∃ x,x∈l/\f.r=x.r):∃ S,xkX (B.map encF)=some (S.map encF)/\xrv (B.map encF)=some (S.map encF)/\xNN B S:=by
 have hB:Bld B:=xJB (by omega) (fun f hf=>by
  obtain ⟨x,hx,e⟩:=q f hf;rw [e];exact hr x hx) (fun f hf v hv=>by
  obtain ⟨x,hx,e⟩:=q f hf;rw [e] at hv;have:=ht x hx v hv;exact ⟨this.1,by omega⟩) ((R20.few (l:=l) (by omega)).of q)
 obtain ⟨S,s1,s2⟩:=xM0 B hB;obtain ⟨S',t1,t2⟩:=xLE B hB.1.1 hB.2;obtain rfl:S=S':=s2.unique t2 fun _ _=>rfl
 exact ⟨S,s1,t1,s2⟩
theorem xKj (t:Tab) (i:Nat) (hi:i<t.fos.length) (l pl:List AV) (p0:List UInt8) (p1 p2 p3 p4:List AV) (B S:List Fc) (hB:xaX (t.fos[i].cols.map encN) t.fos[i].t l p0 p1 p2 p3 p4 pl=some (B.map encF)) (hS:xkX (B.map encF)=some (S.map encF)) (hl:S.length<=1048576) :
  xan t.n (t.cols.map xNu) (t.key.map encN) (t.fos.map xNt) t.chk (i:Int) l p0 p1 p2 p3 p4 pl=some (S.map (xND t.n i)):=by
 have e:=xlh (step:=xbb (i:Int) (S.map encF) ((S.length:Nat):Int)) S (fun f=>[f]) (fun n D=>(D.length,(n:Int),t.n,t.cols.map xNu,t.key.map encN,t.fos.map xNt,t.chk,D.map (xND t.n i))) (fun D=>(D.length,D.map (xND t.n i))) [] 1 (fun _ _=>by simp) (fun n h D hD=>by
  have h1:(n:Int)<(S.length:Int):=by omega
  rw [List.length_nil] at hD;have m1:(D.length+1)*72<=140737488355328:=by omega
  have m2:D.length+1<=4611686018427387904:=by omega
  have gf:(S.map encF).getD n .top=encF S[n]:=xaa _ _ _ h;simp only [xbb,xeo,sBU,h,h1,gf,cF0,cF1,cF2,sF0,sF1,sF2,lF,sF12,sF02,m1,m2,xDH,xNw (n:=n) (by omega),z8,zj,zx,zV,zW]) (fun D=>by
  simp only [xbb,xeo,zy,zm,xac,sUF])
 rw [zU,xNP,List.map_id'] at e;have e:Iter (xbb (i:Int) (S.map encF) ((S.length:Nat):Int)) ((0:Nat),(0:Int),t.n,t.cols.map xNu,t.key.map encN,t.fos.map xNt,t.chk,[])=some (S.length,S.map (xND t.n i)):=e;have c1:¬ (i:Int)<0:=by omega
 have c2:¬ (i:Int)>=(t.fos.length:Int):=by omega
 have c3:(i:Int)<(t.fos.length:Int):=by omega
 have gt:(t.fos.map xNt).getD i .top=xNt t.fos[i]:=xaa _ _ _ hi;have tt:List.take S.length (S.map (xND t.n i))=S.map (xND t.n i):=zi (by simp)
 unfold xan xd4;simp only [xim,xin,xio,xip,xiq,xir,sBU,c1,c2,c3,hi,gt,cFo0,cFo1,lFo,sFo,AV.toList,AV.toStr,hB,hS,e,zr,zd,tt]
theorem xKv (t:Tab) (i:Nat) (hi:i<t.fos.length) (l pl:List AV) (p0:List UInt8) (p1 p2 p3 p4:List AV) (B S:List Fc) (hB:xbz (t.fos[i].cols.map encN) t.fos[i].t l p0 p1 p2 p3 p4 pl=some (B.map encF)) (hS:xrv (B.map encF)=some (S.map encF)) (hl:S.length<=1048576) :
  xaA t.n (t.cols.map xNu) (t.key.map encN) (t.fos.map xNt) t.chk (i:Int) l p0 p1 p2 p3 p4 pl=some (S.map (xND t.n i)):=by
 have e:=xlh (step:=xbF (i:Int) (S.map encF)) S (fun f=>[f]) (fun n D=>(D.length,(n:Int),t.n,t.cols.map xNu,t.key.map encN,t.fos.map xNt,t.chk,D.map (xND t.n i))) (fun D=>(D.length,D.map (xND t.n i))) [] 1 (fun _ _=>by simp) (fun n h D hD=>by
  have h1:(n:Int)<(S.length:Int):=by omega
  rw [List.length_nil] at hD;have m1:(D.length+1)*72<=140737488355328:=by omega
  have m2:D.length+1<=4611686018427387904:=by omega
  have gf:(S.map encF).getD n .top=encF S[n]:=xaa _ _ _ h;simp only [xbF,xfr,sBU,h,h1,gf,cF0,cF1,cF2,sF0,sF1,sF2,lF,sF12,sF02,m1,m2,xDH,xNw (n:=n) (by omega),z8,zj,zx,zV,zW]) (fun D=>by
  simp only [xbF,xfr,za,zy,zm,xac,sUF])
 rw [zU,xNP,List.map_id'] at e;have e:Iter (xbF (i:Int) (S.map encF)) ((0:Nat),(0:Int),t.n,t.cols.map xNu,t.key.map encN,t.fos.map xNt,t.chk,[])=some (S.length,S.map (xND t.n i)):=e;have c1:¬ (i:Int)<0:=by omega
 have c2:¬ (i:Int)>=(t.fos.length:Int):=by omega
 have c3:(i:Int)<(t.fos.length:Int):=by omega
 have gt:(t.fos.map xNt).getD i .top=xNt t.fos[i]:=xaa _ _ _ hi;have tt:List.take S.length (S.map (xND t.n i))=S.map (xND t.n i):=zi (by simp)
 unfold xaA xe9;simp only [xkw,xky,xkz,xkA,xkB,sBU,c1,c2,c3,hi,gt,cFo0,cFo1,lFo,sFo,AV.toList,AV.toStr,hB,hS,e,zr,zd,tt]
theorem xEK (t:Tab) (ix:Int) (h:ix<0\/(t.fos.length:Int)<=ix) (l pl:List AV) (p0:List UInt8) (p1 p2 p3 p4:List AV):xan t.n (t.cols.map xNu) (t.key.map encN) (t.fos.map xNt) t.chk ix l p0 p1 p2 p3 p4 pl=some []/\xaA t.n (t.cols.map xNu) (t.key.map encN) (t.fos.map xNt) t.chk ix l p0 p1 p2 p3 p4 pl=some []:=by
 unfold xan xd4 xaA xe9;by_cases h1:ix<0
 . simp only [h1,zn,xab,and_self,sUF]
 . have h2:ix>=(t.fos.length:Int):=by rcases h with h|h<;>omega
   simp only [za,h1,h2,zn,zm,xab,xac,and_self,sUF]
theorem cVi0 (n:List UInt8) (ix:Int) (f:Fc):(xND n ix f).cells.getD 0 .top=.int .i64 3:=rfl
theorem cVi1 (n:List UInt8) (ix:Int) (f:Fc):(xND n ix f).cells.getD 1 .top=.str n:=rfl
theorem cVi2 (n:List UInt8) (ix:Int) (f:Fc):(xND n ix f).cells.getD 2 .top=.int .i64 ix:=rfl
theorem cVi3 (n:List UInt8) (ix:Int) (f:Fc):(xND n ix f).cells.getD 3 .top=.list 3 (f.r.map encV):=rfl
theorem cVi4 (n:List UInt8) (ix:Int) (f:Fc):(xND n ix f).cells.getD 4 .top=.int .i64 f.p.1:=rfl
theorem cVi5 (n:List UInt8) (ix:Int) (f:Fc):(xND n ix f).cells.getD 5 .top=.int .i64 f.p.2:=rfl
theorem lVi (n:List UInt8) (ix:Int) (f:Fc):((xND n ix f).cells.length==6)=true:=rfl
theorem sVi4 (n:List UInt8) (ix:Int) (f:Fc):xOy [Sh.int .i64,Sh.int .i64] (xND n ix f).cells 4=true:=rfl
theorem toIv (n:Int):(AV.int .i64 n).toInt=n:=rfl
theorem toSv (n:List UInt8):(AV.str n).toStr=n:=rfl
theorem toLv (k:Nat) (n:List AV):(AV.list k n).toList=n:=rfl
theorem bneI (n:Int):(n != n)=false:=by simp
theorem xEF (n:List UInt8) (ix:Int) (S:List Fc) (hl:S.length<=1048576) (hr:∀ f,f∈S->f.r.length<=maxLen):xb0 (S.map (xND n ix)) (S.map (xND n ix))=some true:=by
 have e:Iter (xaI (S.map (xND n ix)) (S.map (xND n ix))) (0:Int)=some (false,false,()):=by
  refine xlg (fun k=>(k:Int)) S.length _ (fun k hk=>?_) ?_ S.length 0 (by omega)
  . have h1:(k:Int)<(S.length:Int):=by omega
    have gf:(S.map (xND n ix)).getD k .top=xND n ix S[k]:=xaa _ _ _ hk;have hc:=xnx S[k].r S[k].r (hr _ (zo hk));rw [xuf] at hc;simp only [xaI,xdY,xbc,xbd,sBU,hk,h1,gf,cVi0,cVi1,cVi2,cVi3,cVi4,cVi5,lVi,sVi4,shI,shS,shL,toIv,toSv,toLv,bneI,hc,xNw (n:=k) (by omega)]
  . simp only [xaI,xdY,za,zy,zm,xac,sUF]
 unfold xb0 xhP;simp only [e,bneI,zk,zh,xab,xac,sUF]
def Stp {σ ρ:Type} (I:σ->Prop) (Q:ρ->Prop) (X:Option (σ⊕ρ)):Prop:=(∃ s,X=some (.inl s)/\I s)\/∃ r,X=some (.inr r)/\Q r
theorem Stp.br {σ ρ:Type} {I:σ->Prop} {Q:ρ->Prop} {c:Bool} {a b:Option (σ⊕ρ)} (h1:c=true->Stp I Q a) (h2:c=false->Stp I Q b):Stp I Q (br c a b):=by
 cases c with
 | true=>exact h1 rfl
 | false=>exact h2 rfl
theorem Stp.inl {σ ρ:Type} {I:σ->Prop} {Q:ρ->Prop} {s:σ} (h:I s):Stp I Q (some (.inl s):Option (σ⊕ρ)):=Or.inl ⟨s,rfl,h⟩
theorem Stp.inr {σ ρ:Type} {I:σ->Prop} {Q:ρ->Prop} {r:ρ} (h:Q r):Stp I Q (some (.inr r):Option (σ⊕ρ)):=Or.inr ⟨r,rfl,h⟩
def Ans {α:Type} (Q:α->Prop) (X:Option α):Prop:=∃ r,X=some r/\Q r
theorem Ans.br {α:Type} {Q:α->Prop} {c:Bool} {a b:Option α} (h1:c=true->Ans Q a) (h2:c=false->Ans Q b):Ans Q (br c a b):=by
 cases c with
 | true=>exact h1 rfl
 | false=>exact h2 rfl
theorem Ans.some {α:Type} {Q:α->Prop} {r:α} (h:Q r):Ans Q (some r):=⟨r,rfl,h⟩
theorem Ans.mono {α:Type} {Q Q':α->Prop} {X:Option α} (h:Ans Q X) (hq:∀ r,Q r->Q' r):Ans Q' X:=⟨h.choose,h.choose_spec.1,hq _ h.choose_spec.2⟩
theorem xa8 {σ ρ:Type} {step:σ->Option (σ⊕ρ)} (I:Nat->σ->Prop) (N:Nat) (Q:ρ->Prop) (hs:∀ k s,k<N->I k s->Stp (I (k+1)) Q (step s))
  (he:∀ s,I N s->Stp (fun _=>False) Q (step s)):∀ (d k:Nat) (s:σ),k+d=N->I k s->Ans Q (Iter step s)
 | 0,k,s,h,hp=>by
  obtain rfl:k=N:=by omega
  rcases he s hp with ⟨_,_,h⟩|⟨r,e,hq⟩
  . exact absurd h id
  . exact ⟨r,xad e,hq⟩
 | d+1,k,s,h,hp=>by
  rcases hs k s (by omega) hp with ⟨s',e,q⟩|⟨r,e,hq⟩
  . obtain ⟨x,ex,hx⟩:=xa8 I N Q hs he d (k+1) s' (by omega) q
    exact ⟨x,(xak e).trans ex,hx⟩
  . exact ⟨r,xad e,hq⟩
theorem xCN (s:List UInt8) (hs:s.length<=16777216):Ans (fun _=>True) (xkF s):=by
 obtain ⟨r,e,_⟩:=xa8 (step:=xa9 s) (fun k i=>i=(k:Int)) s.length (fun _=>True) (fun k i hk hi=>by
  subst hi;have h1:(k:Int)<(s.length:Int):=by omega
  simp only [xa9,xf1,sBU,h1,hk,xNw (n:=k) (by omega)]
  repeat' (first|exact Stp.inl rfl|exact Stp.inr trivial|refine Stp.br (fun _=>?_) (fun _=>?_))) (fun i hi=>by
  subst hi;simp only [xa9,xf1,zy,zm,xac,sUF];exact Stp.inr trivial) s.length 0 (0:Int) (by omega) rfl
 unfold xkF xmh;simp only [e,zk,zh,xab,sUF];repeat' (first|exact Ans.some trivial|refine Ans.br (fun _=>?_) (fun _=>?_))
theorem xA6 (k i:Int) (s:List UInt8) (hs:s.length<=16777216):Ans (fun _=>True) (xmG k i s):=by
 obtain ⟨r,e,_⟩:=xCN s hs;unfold xmG xrT;simp only [e,zk,zh,xab,sUF];repeat' (first|exact Ans.some trivial|refine Ans.br (fun _=>?_) (fun _=>?_))
theorem xGV (op i vk vi:Int) (vt nm:List UInt8) (args:List AV) (ht:vt.length<=16777216):Ans (fun b=>b=true->op=22->1<=args.length) (xoY op i vk vi vt nm args):=by
 obtain ⟨r,e,_⟩:=xA6 vk vi vt ht;unfold xoY xqk;simp only [e,zk,zh,xab,sUF];refine Ans.br (fun _=>Ans.some (by simp)) (fun _=>Ans.br (fun _=>Ans.some (by simp)) (fun h=>?_))
 have hh:op=22->1<=args.length:=fun ho=>by
  subst ho;have ha:(xj6 22).fst=3:=by rfl
  rw [ha] at h;simp only [decide_eq_false_iff_not] at h;omega
 repeat' (first|exact Ans.some (fun _=>hh)|refine Ans.br (fun _=>?_) (fun _=>?_))
theorem xyE (ks:List Int) (q:Int) (hk:ks.length<=16777216):Ans (fun _=>True) (xc8 (ks.map encN) q):=by
 obtain ⟨r,e,_⟩:=xa8 (step:=xc3 (ks.map encN) q) (fun k i=>i=(k:Int)) ks.length (fun _=>True) (fun k i J hi=>by
  subst hi;have h1:(k:Int)<(ks.length:Int):=by omega
  have gf:(ks.map encN).getD k .top=encN ks[k]:=xaa _ _ _ J;simp only [xc3,xlZ,sBU,h1,J,gf,cN,sN,xNw (n:=k) (by omega)]
  repeat' (first|exact Stp.inl rfl|exact Stp.inr trivial|refine Stp.br (fun _=>?_) (fun _=>?_))) (fun i hi=>by
  subst hi;simp only [xc3,xlZ,za,zy,zm,xac,sUF];exact Stp.inr trivial) ks.length 0 (0:Int) (by omega) rfl
 unfold xc8 xu0;simp only [e,zk,zh,xab,sUF];repeat' (first|exact Ans.some trivial|refine Ans.br (fun _=>?_) (fun _=>?_))
theorem xDY (ks:List Int) (hk:ks.length<=16777216):Ans (fun _=>True) (xd9 (ks.map encN)):=by
 obtain ⟨r,e,_⟩:=xa8 (step:=xdL (ks.map encN)) (fun k s=>s.2=(k:Int)) ks.length (fun _=>True) (fun k s q hi=>by
  obtain ⟨a,i⟩:=s;dsimp only at hi;subst hi;have h1:(k:Int)<(ks.length:Int):=by omega
  have gf:(ks.map encN).getD k .top=encN ks[k]:=xaa _ _ _ q;simp only [xdL,xkI,xh8,xjr,xjs,sBU,h1,q,gf,cN,sN,xNw (n:=k) (by omega)]
  repeat' (first|exact Stp.inl rfl|exact Stp.inr trivial|refine Stp.br (fun _=>?_) (fun _=>?_))) (fun s hi=>by
  obtain ⟨a,i⟩:=s;dsimp only at hi;subst hi;simp only [xdL,xkI,xh8,za,zy,zm,xac,sUF];exact Stp.inr trivial) ks.length 0 ((0:Int),(0:Int)) (by omega) rfl
 unfold xd9 xty;simp only [xrZ,xrx,xr0,e,zk,zh,xab,sUF];repeat' (first|exact Ans.some trivial|refine Ans.br (fun _=>?_) (fun _=>?_))
theorem xHl (op i vk vi:Int) (vt nm:List UInt8) (args:List AV) (ks kn:List Int) (hk:ks.length<=16777216) (h2:op=2->0<=i/\i<(kn.length:Int)) (q:op=22->1<=ks.length):Ans (fun _=>True) (xiM op i vk vi vt nm args (ks.map encN) (kn.map encN)):=by
 obtain ⟨r1,e1,_⟩:=xyE ks 1 hk;obtain ⟨r2,e2,_⟩:=xyE ks 2 hk;obtain ⟨r3,e3,_⟩:=xyE ks 3 hk;obtain ⟨r4,e4,_⟩:=xDY ks hk;obtain ⟨r5,e5,_⟩:=xDY ((ks.drop 1).take (ks.length - 1)) (by rw [zt];omega)
 obtain ⟨r6,e6,_⟩:=xyE (ks.take 1) 3 (by rw [zt];omega)
 rw [List.map_take,List.map_drop] at e5;rw [List.map_take] at e6;unfold xiM xqw xdB xdC xjt;simp only [za,e1,e2,e3,e4,e5,e6,zr,zk,zh,xab,sUF];refine Ans.br (fun _=>Ans.some trivial) (fun _=>Ans.br (fun h=>?_) (fun _=>?_))
 . obtain ⟨a,b⟩:=h2 (by simpa using h)
   have c:i.toNat<kn.length:=by omega
   have gf:(kn.map encN).getD i.toNat .top=encN kn[i.toNat]:=xaa _ _ _ c;simp only [a,b,c,gf,cN,sN,zn,zS,xab,sUF];exact Ans.some trivial
 . by_cases h:op=22
   . have:=q h;have c:(1:Int)<=(ks.length:Int):=by omega
     simp only [c,zn,zS,xab,sUF];repeat' (first|exact Ans.some trivial|refine Ans.br (fun _=>?_) (fun _=>?_))
   . have hb:(op==22)=false:=by simpa using h
     simp only [hb,xac,sUF];repeat' (first|exact Ans.some trivial|refine Ans.br (fun _=>?_) (fun _=>?_))
theorem xN1 (xs:List AV):(AV.agg xs).cells=xs:=rfl
theorem shE (op i vk vi:Int) (vt nm:List UInt8) (args:List AV):xOy [Sh.int IntKind.i64,Sh.int IntKind.i64,Sh.int IntKind.i64,Sh.int IntKind.i64,Sh.str,Sh.str,Sh.list 7] [AV.int .i64 op,.int .i64 i,.int .i64 vk,.int .i64 vi,.str vt,.str nm,.list 7 args] 0=true:=rfl
theorem cE0 (a b c d e f g:AV):[a,b,c,d,e,f,g].getD 0 .top=a:=rfl
theorem cE1 (a b c d e f g:AV):[a,b,c,d,e,f,g].getD 1 .top=b:=rfl
theorem cE2 (a b c d e f g:AV):[a,b,c,d,e,f,g].getD 2 .top=c:=rfl
theorem cE3 (a b c d e f g:AV):[a,b,c,d,e,f,g].getD 3 .top=d:=rfl
theorem cE4 (a b c d e f g:AV):[a,b,c,d,e,f,g].getD 4 .top=e:=rfl
theorem cE5 (a b c d e f g:AV):[a,b,c,d,e,f,g].getD 5 .top=f:=rfl
theorem cE6 (a b c d e f g:AV):[a,b,c,d,e,f,g].getD 6 .top=g:=rfl
theorem lE (a b c d e f g:AV):([a,b,c,d,e,f,g].length==7)=true:=rfl
theorem toIE (n:Int):(AV.int .i64 n).toInt=n:=rfl
theorem toSE (n:List UInt8):(AV.str n).toStr=n:=rfl
theorem toLE (k:Nat) (n:List AV):(AV.list k n).toList=n:=rfl
theorem xBR:∀ (n:Nat) (op i vk vi:Int) (vt nm:List UInt8) (args:List AV),args.length<=16777216->(∀ x,x∈args->IsEx x)->AV.dps args<n->Ans (fun _=>True) (xdy n op i vk vi vt nm args)
 | 0,op,i,vk,vi,vt,nm,args,hl,h,hd=>absurd hd (Nat.not_lt_zero _)
 | n+1,op,i,vk,vi,vt,nm,args,hl,h,hd=>by
  obtain ⟨r,e,_⟩:=xa8 (step:=xbw (xdy n)) (fun k s=>∃ m:Int,s=(m,(k:Int),op,i,vk,vi,vt,nm,args)) args.length (fun _=>True) (fun k s hk hi=>by
   obtain ⟨m,rfl⟩:=hi;have h1:(k:Int)<(args.length:Int):=by omega
   have hx:=h args[k] (zo hk);have hp:=xBj (zo hk);have gf:args.getD k .top=args[k]:=by rw [z7,ze hk];rfl
   obtain ⟨J,i',U,O,Q,q,ar,ex,l',t',h'⟩:=hx.get;rw [ex] at gf hp;simp only [AV.dp,AV.dps] at hp;obtain ⟨r',e',_⟩:=xBR n J i' U O Q q ar l' h' (by omega)
   simp only [xbw,xgz,xmt,xmu,sBU,h1,hk,gf,xN1,shE,cE0,cE1,cE2,cE3,cE4,cE5,cE6,lE,toIE,toSE,toLE,e',xNw (n:=k) (by omega)]
   exact Stp.inl ⟨_,rfl⟩) (fun s hi=>by
   obtain ⟨m,rfl⟩:=hi;simp only [xbw,xgz,zy,zm,xac,sUF];exact Stp.inr trivial) args.length 0 ((0:Int),(0:Int),op,i,vk,vi,vt,nm,args) (by omega) ⟨0,rfl⟩
  show Ans _ (xhO (xdy n) op i vk vi vt nm args);unfold xhO xm3;simp only [xqv,e,zk,zh,xab,sUF];exact Ans.some trivial
theorem xBP (kn:List Int):∀ (n:Nat) (op i vk vi:Int) (vt nm:List UInt8) (args:List AV),args.length<=16777216->vt.length<=16777216->(∀ x,x∈args->IsEx x)->AV.dps args<n->Ans (fun _=>True) (xdw n op i vk vi vt nm args (kn.map encN))
 | 0,op,i,vk,vi,vt,nm,args,hl,ht,h,hd=>absurd hd (Nat.not_lt_zero _)
 | n+1,op,i,vk,vi,vt,nm,args,hl,ht,h,hd=>by
  obtain ⟨b,fe,fq⟩:=xGV op i vk vi vt nm args ht;obtain ⟨r,e,hq⟩:=xa8 (step:=xbv (xdw n) (kn.map encN)) (fun k s=>∃ ks:List Int,ks.length=k/\s=(ks.length,(k:Int),op,i,vk,vi,vt,nm,args,ks.map encN)) args.length (fun r=>r.1=false->∃ ks:List Int,ks.length=args.length/\r.2.2=(ks.length,op,i,vk,vi,vt,nm,args,ks.map encN)) (fun k s hk hi=>by
   obtain ⟨ks,q,rfl⟩:=hi;have h1:(k:Int)<(args.length:Int):=by omega
   have hx:=h args[k] (zo hk);have hp:=xBj (zo hk);have gf:args.getD k .top=args[k]:=by rw [z7,ze hk];rfl
   obtain ⟨Q,i',W,U,V,O,ar,ex,l',t',h'⟩:=hx.get;rw [ex] at gf hp;simp only [AV.dp,AV.dps] at hp;have m1:(ks.length+1)*8<=140737488355328:=by omega
   have m2:ks.length+1<=4611686018427387904:=by omega
   obtain ⟨⟨r1,r2⟩,e',_⟩:=xBP kn n Q i' W U V O ar l' t' h' (by omega)
   simp only [xbv,xgy,xmo,xmp,xmq,sBU,h1,hk,gf,xN1,shE,cE0,cE1,cE2,cE3,cE4,cE5,cE6,lE,toIE,toSE,toLE,e',m1,m2,xNw (n:=k) (by omega)]
   refine Stp.br (fun _=>Stp.inr (by simp)) (fun _=>Stp.inl ⟨ks++[r1],by simp [q],?_⟩)
   simp [encN]) (fun s hi=>by
   obtain ⟨ks,q,rfl⟩:=hi;simp only [xbv,xgy,zy,zm,xac,sUF];exact Stp.inr fun _=>⟨ks,q,rfl⟩) args.length 0 ((0:Nat),(0:Int),op,i,vk,vi,vt,nm,args,[]) (by omega) ⟨[],rfl,rfl⟩
  obtain ⟨r1,r2,r3⟩:=r;show Ans _ (xgb (xdw n) op i vk vi vt nm args (kn.map encN));unfold xgb xm2 xkJ;simp only [xql,xqm,xqn,xqo,xqp,xqq,xqr,xqs,xqt,xqu,xoZ,xox,xo0,xo1,xo2,xo3,e,fe,za,zk,zh,xab,sUF];cases b with
  | false=>simp only [Bool.not_false,xab,sUF];repeat' (first|exact Ans.some trivial|refine Ans.br (fun _=>?_) (fun _=>?_))
  | true =>
   have J:∀ r1:Bool,(r1=false->∃ ks:List Int,ks.length=args.length/\r3=(ks.length,op,i,vk,vi,vt,nm,args,ks.map encN))->(op=2->0<=i/\i<(kn.length:Int))->∀ x:Int×Int,Ans (fun _=>True) (br r1 (some x) (br (decide (r3.1<=r3.2.2.2.2.2.2.2.2.length)&&true) (br ((xiM r3.2.1 r3.2.2.1 r3.2.2.2.1 r3.2.2.2.2.1 r3.2.2.2.2.2.1 r3.2.2.2.2.2.2.1 r3.2.2.2.2.2.2.2.1 (List.take r3.1 (List.drop 0 r3.2.2.2.2.2.2.2.2)) (kn.map encN)).isSome) (br (!((xiM r3.2.1 r3.2.2.1 r3.2.2.2.1 r3.2.2.2.2.1 r3.2.2.2.2.2.1 r3.2.2.2.2.2.2.1 r3.2.2.2.2.2.2.2.1 (List.take r3.1 (List.drop 0 r3.2.2.2.2.2.2.2.2)) (kn.map encN)).getD ((0:Int),false)).2) (some ((0:Int),(7:Int))) (some (((xiM r3.2.1 r3.2.2.1 r3.2.2.2.1 r3.2.2.2.2.1 r3.2.2.2.2.2.1 r3.2.2.2.2.2.2.1 r3.2.2.2.2.2.2.2.1 (List.take r3.1 (List.drop 0 r3.2.2.2.2.2.2.2.2)) (kn.map encN)).getD ((0:Int),false)).1,(0:Int)))) none) none)):=fun r1 hr h2 x=>by
    cases r1 with
    | true=>exact Ans.some trivial
    | false =>
     obtain ⟨ks,q,rfl⟩:=hr rfl;obtain ⟨y,ye,_⟩:=xHl op i vk vi vt nm args ks kn (by omega) h2 (fun ho=>by rw [q];exact fq rfl ho)
     have tt:List.take ks.length (ks.map encN)=ks.map encN:=zi (by simp)
     simp only [xac,za,zd,zn,zS,xab,zr,tt,ye,zk,zh,sUF];repeat' (first|exact Ans.some trivial|refine Ans.br (fun _=>?_) (fun _=>?_))
   simp only [Bool.not_true,xac,zH,sUF];refine Ans.br (fun _=>Ans.some trivial) (fun _=>Ans.br (fun ho=>?_) (fun ho=>?_))
   . refine Ans.br (fun _=>Ans.some trivial) (fun a1=>Ans.br (fun _=>Ans.some trivial) (fun a2=>?_))
     simp only [decide_eq_false_iff_not] at a1 a2;exact J r1 hq (fun _=>⟨by omega,by omega⟩) _
   . exact J r1 hq (fun h=>by simp [h] at ho) _
theorem xGN (kn:List Int) (op i vk vi:Int) (vt nm:List UInt8) (args:List AV) (hl:args.length<=16777216) (ht:vt.length<=16777216) (h:∀ x,x∈args->IsEx x):Ans (fun _=>True) (xux op i vk vi vt nm args (kn.map encN)):=by
 obtain ⟨d,de,_⟩:=xBR (AV.dps args+1) op i vk vi vt nm args hl h (Nat.lt_succ_self _);obtain ⟨c,ce,_⟩:=xBP kn (AV.dps args+1) op i vk vi vt nm args hl ht h (Nat.lt_succ_self _);have h1:(xjV op i vk vi vt nm args).isSome=true:=xy2 (R:=fun n=>xdy n op i vk vi vt nm args) (by rw [de];rfl)
 have h2:(xgx op i vk vi vt nm args (kn.map encN)).isSome=true:=xy2 (R:=fun n=>xdw n op i vk vi vt nm args (kn.map encN)) (by rw [ce];rfl)
 unfold xux xrY;rw [h1,h2];simp only [xab,sUF];repeat' (first|exact Ans.some trivial|refine Ans.br (fun _=>?_) (fun _=>?_))
def xN2:AV->Bool
 | .str _=>true
 | _=>false
theorem xGX {x:AV} (h:xN2 x=true):∃ s,x=.str s:=by
 cases x<;>first|exact ⟨_,rfl⟩|(simp [xN2] at h)
theorem xOo (s:List UInt8):xOq .str ((AV.str s).cells.getD 0 .top)=true:=rfl
theorem cStr (s:List UInt8):((AV.str s).cells.getD 0 .top).toStr=s:=rfl
theorem xMN (l:List AV) (s:List UInt8) (hl:l.length<=16777216) (h:l.all xN2=true):Ans (fun _=>True) (xzS l s):=by
 obtain ⟨r,e,_⟩:=xa8 (step:=xdD l s) (fun k i=>i=(k:Int)) l.length (fun _=>True) (fun k i hk hi=>by
  subst hi;have h1:(k:Int)<(l.length:Int):=by omega
  obtain ⟨x,hx⟩:=xGX (zI.1 h l[k] (zo hk));have gf:l.getD k .top=.str x:=by rw [z7,ze hk,<-hx];rfl
  simp only [xdD,xm4,sBU,h1,hk,gf,xOo,cStr,xNw (n:=k) (by omega)]
  repeat' (first|exact Stp.inl rfl|exact Stp.inr trivial|refine Stp.br (fun _=>?_) (fun _=>?_))) (fun i hi=>by
  subst hi;simp only [xdD,xm4,zy,zm,xac,sUF];exact Stp.inr trivial) l.length 0 (0:Int) (by omega) rfl
 unfold xzS xv9;simp only [e,zk,zh,xab,sUF];repeat' (first|exact Ans.some trivial|refine Ans.br (fun _=>?_) (fun _=>?_))
theorem xzE (s:List UInt8) (hs:s.length<=16777216):Ans (fun _=>True) (xhk s):=by
 obtain ⟨r,e,_⟩:=xa8 (step:=xcK s) (fun k i=>i=(k:Int)) s.length (fun _=>True) (fun k i hk hi=>by
  subst hi;have h1:(k:Int)<(s.length:Int):=by omega
  simp only [xcK,xkL,xh9,xia,sBU,h1,hk,xNw (n:=k) (by omega)]
  repeat' (first|exact Stp.inl rfl|exact Stp.inr trivial|refine Stp.br (fun _=>?_) (fun _=>?_))) (fun i hi=>by
  subst hi;simp only [xcK,xkL,xh9,xia,zy,zm,xac,sUF];exact Stp.inr trivial) s.length 0 (0:Int) (by omega) rfl
 obtain ⟨r2,e2,_⟩:Ans (fun _=>True) (xr5 s):=xMN _ s (by decide) (by rfl)
 unfold xhk xtG xqC;simp only [e,e2,zk,zh,xab,sUF];cases s with
 | nil=>exact Ans.some trivial
 | cons c t =>
  have h0:(0:Int)<(((c::t).length:Nat):Int):=by rw [zF];omega
  simp only [h0,zn,xab,sUF];repeat' (first|exact Ans.some trivial|refine Ans.br (fun _=>?_) (fun _=>?_))
theorem xvV (t:Tab) (hc:t.cols.length<=16777216):xeX t.n (t.cols.map xNu) (t.key.map encN) (t.fos.map xNt) t.chk=some ((t.cols.map (·.k)).map encN):=by
 have e:=xlh (step:=xdo) t.cols (fun c=>[c.k]) (fun n D=>(D.length,(n:Int),t.n,t.cols.map xNu,t.key.map encN,t.fos.map xNt,t.chk,D.map encN)) (fun D=>(D.length,D.map encN)) [] 1 (fun _ _=>by simp) (fun n h D hD=>by
  have h1:(n:Int)<(t.cols.length:Int):=by omega
  rw [List.length_nil] at hD;have m1:(D.length+1)*8<=140737488355328:=by omega
  have m2:D.length+1<=4611686018427387904:=by omega
  have gf:(t.cols.map xNu).getD n .top=xNu t.cols[n]:=xaa _ _ _ h;simp only [xdo,xju,sBU,h,h1,gf,cK1,shI,AV.toInt,m1,m2,xNw (n:=n) (by omega)]
  simp [encN]) (fun D=>by
  simp only [xdo,xju,za,zy,zm,xac,sUF])
 rw [zU,xNP] at e;have e:Iter xdo ((0:Nat),(0:Int),t.n,t.cols.map xNu,t.key.map encN,t.fos.map xNt,t.chk,[])=some ((t.cols.map (·.k)).length,(t.cols.map (·.k)).map encN):=e;have tt:List.take (t.cols.map (·.k)).length ((t.cols.map (·.k)).map encN)=(t.cols.map (·.k)).map encN:=zi (by simp)
 unfold xeX xr4;simp only [xqy,xqz,xqA,xqB,e,zk,zh,xab,zH,zr,sUF];rw [tt];simp [xab,sUF]
theorem xJZ (t:Tab) (s:List UInt8) (hc:t.cols.length<=16777216):Ans (fun _=>True) (xsX t.n (t.cols.map xNu) (t.key.map encN) (t.fos.map xNt) t.chk s):=by
 obtain ⟨r,e,_⟩:=xa8 (step:=xdO s) (fun k x=>x=((k:Int),t.n,t.cols.map xNu,t.key.map encN,t.fos.map xNt,t.chk)) t.cols.length (fun _=>True) (fun k i hk hi=>by
  subst hi;have h1:(k:Int)<(t.cols.length:Int):=by omega
  have gf:(t.cols.map xNu).getD k .top=xNu t.cols[k]:=xaa _ _ _ hk;simp only [xdO,xkK,sBU,h1,hk,gf,cK0,shS,AV.toStr,xNw (n:=k) (by omega)]
  repeat' (first|exact Stp.inl rfl|exact Stp.inr trivial|refine Stp.br (fun _=>?_) (fun _=>?_))) (fun i hi=>by
  subst hi;simp only [xdO,xkK,za,zy,zm,xac,sUF];exact Stp.inr trivial) t.cols.length 0 _ (by omega) rfl
 have e:Iter (xdO s) ((0:Int),t.n,t.cols.map xNu,t.key.map encN,t.fos.map xNt,t.chk)=some r:=e;unfold xsX xtE;simp only [xr2,xr3,e,zk,zh,xab,sUF];repeat' (first|exact Ans.some trivial|refine Ans.br (fun _=>?_) (fun _=>?_))
structure Tab.Ok (t:Tab):Prop where
 n:t.n.length<=16777216
 cols:t.cols.length<=16777216
 key:t.key.length<=1048576
 fos:t.fos.length<=16777216
 chk:t.chk.length<=16777216
 cn:∀ c,c∈t.cols->c.n.length<=16777216
 fc:∀ f,f∈t.fos->f.cols.length<=1048576/\f.t.length<=16777216
 ex:∀ x,x∈t.chk->IsEx x
theorem xEZ (t:Tab) (h:t.Ok):Ans (fun _=>True) (xg0 t.n (t.cols.map xNu) (t.key.map encN) (t.fos.map xNt) t.chk):=by
 have q:=h.cols;obtain ⟨r,e,_⟩:=xa8 (step:=xcp) (fun k x=>x=((k:Int),t.n,t.cols.map xNu,t.key.map encN,t.fos.map xNt,t.chk)) t.cols.length (fun _=>True) (fun k i hk hi=>by
  subst hi;have h1:(k:Int)<(t.cols.length:Int):=by omega
  have gf:(t.cols.map xNu).getD k .top=xNu t.cols[k]:=xaa _ _ _ hk;obtain ⟨a,ae,_⟩:=xzE t.cols[k].n (h.cn _ (zo hk));obtain ⟨b,be,_⟩:=xJZ t t.cols[k].n h.cols;simp only [xcp,xhl,sBU,h1,hk,gf,cK0,cK1,lK,sK,AV.toStr,AV.toInt,ae,be,xNw (n:=k) (by omega)]
  repeat' (first|exact Stp.inl rfl|exact Stp.inr trivial|refine Stp.br (fun _=>?_) (fun _=>?_))) (fun i hi=>by
  subst hi;simp only [xcp,xhl,za,zy,zm,xac,sUF];exact Stp.inr trivial) t.cols.length 0 _ (by omega) rfl
 have e:Iter xcp ((0:Int),t.n,t.cols.map xNu,t.key.map encN,t.fos.map xNt,t.chk)=some r:=e;unfold xg0 xo4;simp only [xnv,xnw,e,zk,zh,xab,sUF];repeat' (first|exact Ans.some trivial|refine Ans.br (fun _=>?_) (fun _=>?_))
def InC (t:Tab) (x:Int):Prop:=0<=x/\x<(t.cols.length:Int)
theorem xrg (t:Tab) (x:Int):xlp t.n (t.cols.map xNu) (t.key.map encN) (t.fos.map xNt) t.chk x=(decide (0<=x)&&decide (x<(t.cols.length:Int))):=by
 unfold xlp;rw [za];by_cases h:0<=x
 . have:x>=0:=h;simp [br,h,this]
 . have:¬ x>=0:=h;simp [br,h,this]
theorem xBU {t:Tab} {x:Int} (h:(decide (0<=x)&&decide (x<(t.cols.length:Int)))=true):InC t x:=by
 simp only [zf,zl] at h;exact h
theorem xLg (t:Tab) (h:t.Ok):Ans (fun c=>c=0->∀ x,x∈t.key->InC t x) (xrs t.n (t.cols.map xNu) (t.key.map encN) (t.fos.map xNt) t.chk):=by
 have O:=h.key;obtain ⟨r,e,hr⟩:=xa8 (step:=xb9) (fun k x=>x=((k:Int),t.n,t.cols.map xNu,t.key.map encN,t.fos.map xNt,t.chk)/\∀ j (hj:j<t.key.length),j<k->InC t t.key[j]) t.key.length (fun r=>(r.1=true->r.2.1≠0)/\(r.1=false->∀ x,x∈t.key->InC t x)) (fun k i hk hi=>by
  obtain ⟨rfl,hp⟩:=hi;have h1:(k:Int)<(t.key.length:Int):=by omega
  have gf:(t.key.map encN).getD k .top=encN t.key[k]:=xaa _ _ _ hk;cases hx:(decide (0<=t.key[k])&&decide (t.key[k]<(t.cols.length:Int))) with
  | false =>
   simp only [xb9,xgn,xeP,xfo,xfp,xbJ,sBU,h1,hk,gf,cN,sN,xrg,hx];exact Stp.inr ⟨fun _=>by simp,fun h=>by simp at h⟩
  | true =>
   have q:=xBU hx;have c:t.key[k].toNat<t.cols.length:=by have:=q.1;have:=q.2;omega
   have gc:(t.cols.map xNu).getD t.key[k].toNat .top=xNu t.cols[t.key[k].toNat]:=xaa _ _ _ c;have hp':∀ j (hj:j<t.key.length),j<k+1->InC t t.key[j]:=fun j hj U=>by
    rcases zJ j k with J|Q
    . exact hp j hj J
    . obtain rfl:j=k:=by omega
      exact q
   cases k with
   | zero =>
    have i0:¬ ((0:Nat):Int)>0:=by omega
    simp only [xb9,xgn,xeP,xfo,xfp,xbJ,sBU,h1,hk,gf,cN,sN,xrg,hx,i0,q.1,q.2,c,gc,cK2,shB,AV.toBool,xNw (n:=0) (by omega)]
    exact Stp.br (fun _=>Stp.inr ⟨fun _=>by simp,fun h=>by simp at h⟩) (fun _=>Stp.inl ⟨rfl,hp'⟩)
   | succ m =>
    have i0:((m+1:Nat):Int)>0:=by omega
    have w:IntKind.i64.wrap (((m+1:Nat):Int) - 1)=(m:Int):=by rw [xbH (by omega) (by omega)];omega
    have h3:(m:Int)<(t.key.length:Int):=by omega
    have h4:m<t.key.length:=by omega
    have gm:(t.key.map encN).getD m .top=encN t.key[m]:=xaa _ _ _ h4;simp only [xb9,xgn,xeP,xfo,xfp,xbJ,sBU,h1,hk,gf,cN,sN,xrg,hx,i0,w,h3,h4,gm,q.1,q.2,c,gc,cK2,shB,AV.toBool,xNw (n:=m+1) (by omega)]
    exact Stp.br (fun _=>Stp.inr ⟨fun _=>by simp,fun h=>by simp at h⟩) (fun _=>Stp.br (fun _=>Stp.inr ⟨fun _=>by simp,fun h=>by simp at h⟩) (fun _=>Stp.inl ⟨rfl,hp'⟩))) (fun i hi=>by
  obtain ⟨rfl,hp⟩:=hi;simp only [xb9,xgn,xeP,za,zy,zm,xac,sUF];refine Stp.inr ⟨fun h=>by simp at h,fun _ x hx=>?_⟩
  obtain ⟨j,hj,rfl⟩:=List.getElem_of_mem hx;exact hp j hj hj) t.key.length 0 _ (by omega) ⟨rfl,fun j _ h=>absurd h (Nat.not_lt_zero _)⟩
 have e:Iter xb9 ((0:Int),t.n,t.cols.map xNu,t.key.map encN,t.fos.map xNt,t.chk)=some r:=e;unfold xrs xu3;simp only [xtH,xtI,e,zk,zh,xab,sUF];exact Ans.br (fun _=>Ans.some fun h=>by simp at h) (fun _=>Ans.br (fun h1=>Ans.some fun h=>absurd h (hr.1 h1)) (fun h1=>Ans.some fun _=>hr.2 h1))
theorem xE4 (t:Tab) (h:t.Ok) (f:Fo) (hf:f.cols.length<=1048576/\f.t.length<=16777216):Ans (fun c=>c=0->∀ x,x∈f.cols->InC t x) (xjW t.n (t.cols.map xNu) (t.key.map encN) (t.fos.map xNt) t.chk (f.cols.map encN) f.t):=by
 have V:=hf.1;obtain ⟨a,ae,_⟩:=xzE f.t hf.2;obtain ⟨r,e,hr⟩:=xa8 (step:=xbD) (fun k x=>x=((k:Int),t.n,t.cols.map xNu,t.key.map encN,t.fos.map xNt,t.chk,f.cols.map encN,f.t)/\∀ j (hj:j<f.cols.length),j<k->InC t f.cols[j]) f.cols.length (fun r=>(r.1=true->r.2.1≠0)/\(r.1=false->∀ x,x∈f.cols->InC t x)) (fun k i hk hi=>by
  obtain ⟨rfl,hp⟩:=hi;have h1:(k:Int)<(f.cols.length:Int):=by omega
  have gf:(f.cols.map encN).getD k .top=encN f.cols[k]:=xaa _ _ _ hk;cases hx:(decide (0<=f.cols[k])&&decide (f.cols[k]<(t.cols.length:Int))) with
  | false =>
   simp only [xbD,xe4,sBU,h1,hk,gf,cN,sN,xrg,hx];exact Stp.inr ⟨fun _=>by simp,fun h=>by simp at h⟩
  | true =>
   have J:=xBU hx;have hp':∀ j (hj:j<f.cols.length),j<k+1->InC t f.cols[j]:=fun j hj U=>by
    rcases zJ j k with O|Q
    . exact hp j hj O
    . obtain rfl:j=k:=by omega
      exact J
   obtain ⟨⟨b,q1,q2⟩,e1,q⟩:=xa8 (step:=xcq (k:Int)) (fun m x=>x=((m:Int),t.n,t.cols.map xNu,t.key.map encN,t.fos.map xNt,t.chk,f.cols.map encN,f.t)) k (fun r=>(r.1=true->r.2.1.1≠0)/\(r.1=false->r.2.2=(t.n,t.cols.map xNu,t.key.map encN,t.fos.map xNt,t.chk,f.cols.map encN,f.t))) (fun m i hm hi=>by
    subst hi;have m1:(m:Int)<(k:Int):=by omega
    have m2:(m:Int)<(f.cols.length:Int):=by omega
    have m3:m<f.cols.length:=by omega
    have gm:(f.cols.map encN).getD m .top=encN f.cols[m]:=xaa _ _ _ m3;simp only [xcq,xhm,sBU,m1,m2,m3,h1,hk,gf,gm,cN,sN,xNw (n:=m) (by omega)]
    exact Stp.br (fun _=>Stp.inr ⟨fun _=>by simp,fun h=>by simp at h⟩) (fun _=>Stp.inl rfl)) (fun i hi=>by
    subst hi;simp only [xcq,xhm,zy,zm,xac,sUF];exact Stp.inr ⟨fun h=>by simp at h,fun _=>rfl⟩) k 0 _ (by omega) rfl
   have e1:Iter (xcq (k:Int)) ((0:Int),t.n,t.cols.map xNu,t.key.map encN,t.fos.map xNt,t.chk,f.cols.map encN,f.t)=_:=e1;simp only [xbD,xe4,xkn,xko,xkp,xkq,xkr,xks,xkt,xku,xkv,sBU,h1,hk,gf,cN,sN,xrg,hx,e1,xNw (n:=k) (by omega)]
   refine Stp.br (fun hb=>Stp.inr ⟨fun _=>q.1 hb,fun h=>by simp at h⟩) (fun hb=>?_)
   have:=q.2 hb;dsimp only at this;subst this;exact Stp.inl ⟨rfl,hp'⟩) (fun i hi=>by
  obtain ⟨rfl,hp⟩:=hi;simp only [xbD,xe4,za,zy,zm,xac,sUF];refine Stp.inr ⟨fun h=>by simp at h,fun _ x hx=>?_⟩
  obtain ⟨j,hj,rfl⟩:=List.getElem_of_mem hx;exact hp j hj hj) f.cols.length 0 _ (by omega) ⟨rfl,fun j _ h=>absurd h (Nat.not_lt_zero _)⟩
 have e:Iter xbD ((0:Int),t.n,t.cols.map xNu,t.key.map encN,t.fos.map xNt,t.chk,f.cols.map encN,f.t)=some r:=e;unfold xjW xo5;simp only [xny,xnz,ae,e,zk,zh,xab,sUF];exact Ans.br (fun _=>Ans.some fun h=>by simp at h) (fun _=>Ans.br (fun _=>Ans.some fun h=>by simp at h) (fun _=>Ans.br (fun h1=>Ans.some fun h=>absurd h (hr.1 h1)) (fun h1=>Ans.some fun _=>hr.2 h1)))
theorem xAb (t:Tab) (h:t.Ok):Ans (fun c=>c=0->∀ f,f∈t.fos->∀ x,x∈f.cols->InC t x) (xee t.n (t.cols.map xNu) (t.key.map encN) (t.fos.map xNt) t.chk):=by
 have ad:=h.fos;have ac:=h.chk;obtain ⟨⟨b,q1,q2⟩,e,hr⟩:=xa8 (step:=xbr) (fun k x=>x=((k:Int),t.n,t.cols.map xNu,t.key.map encN,t.fos.map xNt,t.chk)/\∀ j (hj:j<t.fos.length),j<k->∀ x,x∈t.fos[j].cols->InC t x) t.fos.length (fun r=>(r.1=true->r.2.1.1≠0)/\(r.1=false->r.2.2=(t.n,t.cols.map xNu,t.key.map encN,t.fos.map xNt,t.chk)/\∀ f,f∈t.fos->∀ x,x∈f.cols->InC t x)) (fun k i hk hi=>by
  obtain ⟨rfl,hp⟩:=hi;have h1:(k:Int)<(t.fos.length:Int):=by omega
  have gf:(t.fos.map xNt).getD k .top=xNt t.fos[k]:=xaa _ _ _ hk;obtain ⟨c,ce,hc⟩:=xE4 t h t.fos[k] (h.fc _ (zo hk));simp only [xbr,xeY,sBU,h1,hk,gf,cFo0,cFo1,lFo,sFo,AV.toList,AV.toStr,ce,xNw (n:=k) (by omega)]
  refine Stp.br (fun hb=>Stp.inr ⟨fun _=>by simpa using hb,fun h=>by simp at h⟩) (fun hb=>Stp.inl ⟨rfl,fun j hj ab=>?_⟩)
  rcases zJ j k with V|aa
  . exact hp j hj V
  . obtain rfl:j=k:=by omega
    exact hc (by simpa using hb)) (fun i hi=>by
  obtain ⟨rfl,hp⟩:=hi;simp only [xbr,xeY,za,zy,zm,xac,sUF];refine Stp.inr ⟨fun h=>by simp at h,fun _=>⟨rfl,fun f hf=>?_⟩⟩
  obtain ⟨j,hj,rfl⟩:=List.getElem_of_mem hf;exact hp j hj hj) t.fos.length 0 _ (by omega) ⟨rfl,fun j _ h=>absurd h (Nat.not_lt_zero _)⟩
 have e:Iter xbr ((0:Int),t.n,t.cols.map xNu,t.key.map encN,t.fos.map xNt,t.chk)=_:=e;have O:=xvV t h.cols;obtain ⟨r1,e1,W⟩:=xa8 (step:=xbs) (fun k x=>x=((k:Int),t.n,t.cols.map xNu,t.key.map encN,t.fos.map xNt,t.chk)) t.chk.length (fun r=>r.1=true->r.2.1≠0) (fun k i hk hi=>by
  subst hi;have h1:(k:Int)<(t.chk.length:Int):=by omega
  have gf:t.chk.getD k .top=t.chk[k]:=by rw [z7,ze hk];rfl
  obtain ⟨Q,i',Z,U,Y,J,ar,ex,l',t',h'⟩:=(h.ex _ (zo hk)).get;rw [ex] at gf;obtain ⟨⟨c1,c2⟩,ce,_⟩:=xGN (t.cols.map (·.k)) Q i' Z U Y J ar l' t' h';simp only [xbs,xeZ,xgR,xgS,xgT,xgU,sBU,h1,hk,gf,xN1,shE,cE0,cE1,cE2,cE3,cE4,cE5,cE6,lE,toIE,toSE,toLE,O,ce,xNw (n:=k) (by omega)]
  exact Stp.br (fun hb=>Stp.inr fun _=>by simpa using hb) (fun _=>Stp.br (fun _=>Stp.br (fun _=>Stp.inr fun _=>by simp) (fun _=>Stp.inl rfl)) (fun _=>Stp.inl rfl))) (fun i hi=>by
  subst hi;simp only [xbs,xeZ,zy,zm,xac,sUF];exact Stp.inr fun h=>by simp at h) t.chk.length 0 _ (by omega) rfl
 have e1:Iter xbs ((0:Int),t.n,t.cols.map xNu,t.key.map encN,t.fos.map xNt,t.chk)=_:=e1;unfold xee xkm;simp only [xjv,xjw,xjy,xjz,xjA,xjB,xjC,xjD,xjE,xjF,e,zk,zh,xab,sUF];refine Ans.br (fun _=>Ans.some fun h=>by simp at h) (fun _=>Ans.br (fun h1=>Ans.some fun h=>absurd h (hr.1 h1)) (fun h1=>?_))
 obtain ⟨q,hq⟩:=hr.2 h1;dsimp only at q;subst q;simp only [e1,zk,zh,xab,sUF];exact Ans.br (fun _=>Ans.some fun h=>by simp at h) (fun _=>Ans.br (fun h1=>Ans.some fun h=>absurd h (W h1)) (fun _=>Ans.some fun _=>hq))
theorem xwm (t:Tab) (h:t.Ok):Ans (fun c=>c=0->(∀ x,x∈t.key->InC t x)/\∀ f,f∈t.fos->∀ x,x∈f.cols->InC t x) (xgc t.n (t.cols.map xNu) (t.key.map encN) (t.fos.map xNt) t.chk):=by
 obtain ⟨a,ae,_⟩:=xzE t.n h.n;obtain ⟨b,be,_⟩:=xEZ t h;obtain ⟨c,ce,hc⟩:=xLg t h;obtain ⟨d,de,hd⟩:=xAb t h;unfold xgc xr1;simp only [ae,be,ce,de,zk,zh,xab,sUF];cases a with
 | false=>exact Ans.some fun h=>by simp at h
 | true =>
  simp only [Bool.not_true,xac,sUF];refine Ans.br (fun _=>Ans.br (fun h2=>Ans.some fun h=>⟨hc (by simpa using h2),hd h⟩) (fun h2=>Ans.some fun h=>by simp [h] at h2)) (fun h1=>?_)
  simp only [h1,xac,sUF];exact Ans.some fun h=>by simp [h] at h1
theorem xFn (row:Row) (kn:List Int) (hr:row.length<=1048576) (ht:Txt row):Ans (fun _=>True) (xsW (row.map encV) (kn.map encN)):=by
 unfold xsW xtq;by_cases hl:row.length=kn.length
 . obtain ⟨r,e,_⟩:=xa8 (step:=xcD (row.map encV) (kn.map encN)) (fun k i=>i=(k:Int)) row.length (fun _=>True) (fun k i hk hi=>by
    subst hi;have h1:(k:Int)<(row.length:Int):=by omega
    have h2:(k:Int)<(kn.length:Int):=by omega
    have h3:k<kn.length:=by omega
    have gf:(row.map encV).getD k .top=encV row[k]:=xaa _ _ _ hk;have gn:(kn.map encN).getD k .top=encN kn[k]:=xaa _ _ _ h3;have hv:=(ht _ (zo hk)).2;obtain ⟨v,ve,_⟩:=xA6 row[k].k row[k].i row[k].t (by omega)
    have q:xOq (Sh.int .i64) ((encV row[k]).cells.getD 0 .top)=true:=rfl;simp only [xcD,xkG,xjn,xnt,sBU,h1,h2,h3,hk,gf,gn,cV0,cV1,cV2,lV,sV,q,cN,sN,ve,xNw (n:=k) (by omega)]
    repeat' (first|exact Stp.inl rfl|exact Stp.inr trivial|refine Stp.br (fun _=>?_) (fun _=>?_))) (fun i hi=>by
    subst hi;simp only [xcD,xkG,za,zy,zm,xac,sUF];exact Stp.inr trivial) row.length 0 (0:Int) (by omega) rfl
   simp only [e,zk,zh,xab,sUF];repeat' (first|exact Ans.some trivial|refine Ans.br (fun _=>?_) (fun _=>?_))
 . have hb:(((row.length:Nat):Int) != ((kn.length:Nat):Int))=true:=by
    rw [bne_iff_ne];omega
   simp only [za,hb,xab,sUF];exact Ans.some trivial
theorem xHm (kn:List Int) (hk:kn.length<=16777216):Ans (fun _=>True) (xu4 (kn.map encN)):=by
 obtain ⟨r,e,_⟩:=xa8 (step:=xcf (kn.map encN)) (fun k i=>i=(k:Int)) kn.length (fun _=>True) (fun k i q hi=>by
  subst hi;have h1:(k:Int)<(kn.length:Int):=by omega
  have gf:(kn.map encN).getD k .top=encN kn[k]:=xaa _ _ _ q;simp only [xcf,xjG,sBU,h1,q,gf,cN,sN,xNw (n:=k) (by omega)]
  repeat' (first|exact Stp.inl rfl|exact Stp.inr trivial|refine Stp.br (fun _=>?_) (fun _=>?_))) (fun i hi=>by
  subst hi;simp only [xcf,xjG,za,zy,zm,xac,sUF];exact Stp.inr trivial) kn.length 0 (0:Int) (by omega) rfl
 unfold xu4 xr6;simp only [e,zk,zh,xab,sUF];repeat' (first|exact Ans.some trivial|refine Ans.br (fun _=>?_) (fun _=>?_))
structure FOk (l:List Fc):Prop where
 len:l.length<=1048576
 row:∀ f,f∈l->f.r.length<=1048576
 txt:∀ f,f∈l->Txt f.r
theorem xJt (kn:List Int) (hk:kn.length<=16777216) (l:List Fc) (h:FOk l):Ans (fun _=>True) (xrc (kn.map encN) (l.map encF)):=by
 have hl:=h.len;obtain ⟨⟨b,q1,q2⟩,e,hr⟩:=xa8 (step:=xcg) (fun k x=>x=((k:Int),kn.map encN,l.map encF)) l.length (fun r=>r.1=false->r.2.2=(kn.map encN,l.map encF)) (fun k i q hi=>by
  subst hi;have h1:(k:Int)<(l.length:Int):=by omega
  have gf:(l.map encF).getD k .top=encF l[k]:=xaa _ _ _ q;obtain ⟨v,ve,_⟩:=xFn l[k].r kn (h.row _ (zo q)) (h.txt _ (zo q));simp only [xcg,xjH,sBU,h1,q,gf,cF0,cF1,cF2,sF0,sF1,sF2,lF,sF12,sF02,ve,xNw (n:=k) (by omega)]
  exact Stp.br (fun _=>Stp.inr (by simp)) (fun _=>Stp.br (fun _=>Stp.inr (by simp)) (fun _=>Stp.inl rfl))) (fun i hi=>by
  subst hi;simp only [xcg,xjH,za,zy,zm,xac,sUF];exact Stp.inr fun _=>rfl) l.length 0 _ (by omega) rfl
 have e:Iter xcg ((0:Int),kn.map encN,l.map encF)=_:=e;obtain ⟨c,ce,_⟩:=xHm kn hk;unfold xrc xsb;simp only [xqF,xqG,xqH,xqI,xqJ,e,zk,zh,xab,sUF];refine Ans.br (fun _=>Ans.some trivial) (fun hb=>?_)
 have:=hr hb;dsimp only at this;subst this;simp only [ce,zk,zh,xab,sUF];repeat' (first|exact Ans.some trivial|refine Ans.br (fun _=>?_) (fun _=>?_))
theorem xyU (t:Tab) (ht:t.Ok) (l:List Fc) (h:FOk l):Ans (fun b=>b=true->(∀ x,x∈t.key->InC t x)/\∀ f,f∈t.fos->∀ x,x∈f.cols->InC t x) (xg1 t.n (t.cols.map xNu) (t.key.map encN) (t.fos.map xNt) t.chk (l.map encF)):=by
 obtain ⟨a,ae,ha⟩:=xwm t ht;have hk:=xvV t ht.cols;obtain ⟨b,be,_⟩:=xJt (t.cols.map (·.k)) (by rw [za];exact ht.cols) l h
 unfold xg1 xpo;simp only [ae,hk,be,zk,zh,xab,sUF];exact Ans.br (fun h=>Ans.some fun _=>ha (by simpa using h)) (fun _=>Ans.some fun h=>by simp at h)
theorem xKw (f g:Fo) (hf:f.cols.length<=1048576):Ans (fun _=>True) (xsx (f.cols.map encN) f.t (g.cols.map encN) g.t):=by
 unfold xsx xtV;by_cases hl:f.cols.length=g.cols.length
 . obtain ⟨r,e,_⟩:=xa8 (step:=xdV) (fun k x=>x=((k:Int),f.cols.map encN,f.t,g.cols.map encN,g.t)) f.cols.length (fun _=>True) (fun k i hk hi=>by
    subst hi;have h1:(k:Int)<(f.cols.length:Int):=by omega
    have h2:(k:Int)<(g.cols.length:Int):=by omega
    have h3:k<g.cols.length:=by omega
    have gf:(f.cols.map encN).getD k .top=encN f.cols[k]:=xaa _ _ _ hk;have gg:(g.cols.map encN).getD k .top=encN g.cols[k]:=xaa _ _ _ h3;simp only [xdV,xkR,sBU,h1,h2,h3,hk,gf,gg,cN,sN,xNw (n:=k) (by omega)]
    repeat' (first|exact Stp.inl rfl|exact Stp.inr trivial|refine Stp.br (fun _=>?_) (fun _=>?_))) (fun i hi=>by
    subst hi;simp only [xdV,xkR,za,zy,zm,xac,sUF];exact Stp.inr trivial) f.cols.length 0 _ (by omega) rfl
   have e:Iter xdV ((0:Int),f.cols.map encN,f.t,g.cols.map encN,g.t)=_:=e;simp only [xsn,xso,e,zk,zh,xab,sUF];repeat' (first|exact Ans.some trivial|refine Ans.br (fun _=>?_) (fun _=>?_))
 . have hb:(((f.cols.length:Nat):Int) != ((g.cols.length:Nat):Int))=true:=by
    rw [bne_iff_ne];omega
   simp only [za,hb,xab,sUF];repeat' (first|exact Ans.some trivial|refine Ans.br (fun _=>?_) (fun _=>?_))
theorem xJh (t p:Tab) (ht:t.Ok) (hp:p.Ok) (f:Fo) (hf:f∈t.fos):Ans (fun _=>True) (xsZ t.n (t.cols.map xNu) (t.key.map encN) (t.fos.map xNt) t.chk (f.cols.map encN) f.t p.n (p.cols.map xNu) (p.key.map encN) (p.fos.map xNt) p.chk):=by
 obtain ⟨a,ae,ha⟩:=xwm t ht;obtain ⟨b,be,hb⟩:=xwm p hp;have Q:=ht.fos;have O:=(ht.fc f hf).1;obtain ⟨r,e,hr⟩:=xa8 (step:=xdT) (fun k x=>∃ w:Bool,x=(w,(k:Int),t.n,t.cols.map xNu,t.key.map encN,t.fos.map xNt,t.chk,f.cols.map encN,f.t,p.n,p.cols.map xNu,p.key.map encN,p.fos.map xNt,p.chk)) t.fos.length (fun r=>r.2=(t.n,t.cols.map xNu,t.key.map encN,t.fos.map xNt,t.chk,f.cols.map encN,f.t,p.n,p.cols.map xNu,p.key.map encN,p.fos.map xNt,p.chk)) (fun k i hk hi=>by
  obtain ⟨w,rfl⟩:=hi;have h1:(k:Int)<(t.fos.length:Int):=by omega
  have gf:(t.fos.map xNt).getD k .top=xNt t.fos[k]:=xaa _ _ _ hk;obtain ⟨s,se,_⟩:=xKw t.fos[k] f (ht.fc _ (zo hk)).1;simp only [xdT,xkP,sBU,h1,hk,gf,cFo0,cFo1,lFo,sFo,AV.toList,AV.toStr,se,xNw (n:=k) (by omega)]
  exact Stp.br (fun _=>Stp.inl ⟨_,rfl⟩) (fun _=>Stp.inl ⟨_,rfl⟩)) (fun i hi=>by
  obtain ⟨w,rfl⟩:=hi;simp only [xdT,xkP,za,zy,zm,xac,sUF];exact Stp.inr rfl) t.fos.length 0 (false,(0:Int),_) (by omega) ⟨false,rfl⟩
 obtain ⟨w,q⟩:=r;dsimp only at hr;subst hr;have kt:=xvV t ht.cols;have kp:=xvV p hp.cols;unfold xsZ xtT;simp only [ae,be,zk,zh,xab,sUF];refine Ans.br (fun _=>Ans.some trivial) (fun h1=>Ans.br (fun _=>Ans.some trivial) (fun h2=>Ans.br (fun _=>Ans.some trivial) (fun h3=>?_)))
 have ha:=ha (by simpa using h1)
 have hb:=hb (by simpa using h2)
 have J:f.cols.length=p.key.length:=by
  simp only [za,bne_eq_false_iff_eq] at h3;omega
 obtain ⟨r1,e1,_⟩:=xa8 (step:=xdU ((t.cols.map (·.k)).map encN) ((p.cols.map (·.k)).map encN)) (fun k x=>x=((k:Int),f.cols.map encN,f.t,p.n,p.cols.map xNu,p.key.map encN,p.fos.map xNt,p.chk)) f.cols.length (fun _=>True) (fun k i hk hi=>by
  subst hi;have c1:(k:Int)<(f.cols.length:Int):=by omega
  have c2:(k:Int)<(p.key.length:Int):=by omega
  have c3:k<p.key.length:=by omega
  have gf:(f.cols.map encN).getD k .top=encN f.cols[k]:=xaa _ _ _ hk;have gk:(p.key.map encN).getD k .top=encN p.key[k]:=xaa _ _ _ c3;obtain ⟨a1,a2⟩:=ha.2 f hf f.cols[k] (zo hk);obtain ⟨b1,b2⟩:=hb.1 p.key[k] (zo c3);have a3:f.cols[k].toNat<t.cols.length:=by omega
  have b3:p.key[k].toNat<p.cols.length:=by omega
  have ga:((t.cols.map (·.k)).map encN).getD f.cols[k].toNat .top=encN ((t.cols.map (·.k))[f.cols[k].toNat]'(by rw [za];exact a3)):=xaa _ _ _ (by rw [za];exact a3)
  have gb:((p.cols.map (·.k)).map encN).getD p.key[k].toNat .top=encN ((p.cols.map (·.k))[p.key[k].toNat]'(by rw [za];exact b3)):=xaa _ _ _ (by rw [za];exact b3)
  simp only [xdU,xkQ,sBU,c1,c2,c3,hk,gf,gk,cN,sN,a1,a2,a3,b1,b2,b3,ga,gb,xNw (n:=k) (by omega)]
  repeat' (first|exact Stp.inl rfl|exact Stp.inr trivial|refine Stp.br (fun _=>?_) (fun _=>?_))) (fun i hi=>by
  subst hi;simp only [xdU,xkQ,za,zy,zm,xac,sUF];exact Stp.inr trivial) f.cols.length 0 _ (by omega) rfl
 have e1:Iter (xdU ((t.cols.map (·.k)).map encN) ((p.cols.map (·.k)).map encN)) ((0:Int),f.cols.map encN,f.t,p.n,p.cols.map xNu,p.key.map encN,p.fos.map xNt,p.chk)=_:=e1;have e:Iter xdT (false,(0:Int),t.n,t.cols.map xNu,t.key.map encN,t.fos.map xNt,t.chk,f.cols.map encN,f.t,p.n,p.cols.map xNu,p.key.map encN,p.fos.map xNt,p.chk)=_:=e;simp only [xsc,xsd,xse,xsf,xsg,xsh,xsi,xsj,xsk,xsl,xqM,xqN,xqO,xqP,xqQ,xqR,xqS,xqT,xqU,xqV,xqW,xqX,e,kt,kp,e1,zk,zh,xab,sUF];repeat' (first|exact Ans.some trivial|refine Ans.br (fun _=>?_) (fun _=>?_))
end Go.Sim.M
end
noncomputable section
set_option maxRecDepth 100000
namespace Go.Sim.M
open Go.RowKit Go.Sim.Srt
theorem xEu (l:List Fc) (hl:l.length<=1048576):Ans (fun b=>b=true->l.length<=14/\∀ f,f∈l->f.r.length<=60) (xnY (l.map encF) 14):=by
 obtain ⟨r,e,hr⟩:=xa8 (step:=xc4 (l.map encF)) (fun k i=>i=(k:Int)/\∀ j (hj:j<l.length),j<k->l[j].r.length<=60) l.length (fun r=>(r.1=true->r.2.1=false)/\(r.1=false->∀ f,f∈l->f.r.length<=60)) (fun k i hk hi=>by
  obtain ⟨rfl,hp⟩:=hi;have h1:(k:Int)<(l.length:Int):=by omega
  have gf:(l.map encF).getD k .top=encF l[k]:=xaa _ _ _ hk;simp only [xc4,xl0,sBU,h1,hk,gf,cF0,cF1,cF2,sF0,sF1,sF2,lF,sF12,sF02,xNw (n:=k) (by omega)]
  refine Stp.br (fun _=>Stp.inr ⟨fun _=>rfl,fun h=>by simp at h⟩) (fun hb=>Stp.inl ⟨rfl,fun j hj O=>?_⟩)
  rcases zJ j k with q|J
  . exact hp j hj q
  . obtain rfl:j=k:=by omega
    have hb:=of_decide_eq_false hb;omega) (fun i hi=>by
  obtain ⟨rfl,hp⟩:=hi;simp only [xc4,xl0,za,zy,zm,xac,sUF];refine Stp.inr ⟨fun h=>by simp at h,fun _ f hf=>?_⟩
  obtain ⟨j,hj,rfl⟩:=List.getElem_of_mem hf;exact hp j hj hj) l.length 0 (0:Int) (by omega) ⟨rfl,fun j _ h=>absurd h (Nat.not_lt_zero _)⟩
 unfold xnY xu6;simp only [e,zk,zh,xab,za,sUF];refine Ans.br (fun _=>Ans.some fun h=>by simp at h) (fun h=>?_)
 have h:=of_decide_eq_false h;exact Ans.br (fun h1=>Ans.some fun h2=>by rw [hr.1 h1] at h2;simp at h2) (fun h1=>Ans.some fun _=>⟨by omega,hr.2 h1⟩)
structure FitC (t:Tab) (ix:Int) (fa ke:List Fc):Prop where
 lo:0<=ix
 hi:ix<(t.fos.length:Int)
 fl:fa.length<=14
 fr:∀ f,f∈fa->f.r.length<=60
 kl:ke.length<=14
 kr:∀ f,f∈ke->f.r.length<=60
theorem xIX (t p:Tab) (ht:t.Ok) (hp:p.Ok) (ix:Int) (fa ke:List Fc) (hf:FOk fa) (hk:FOk ke):Ans (fun b=>b=true->FitC t ix fa ke) (xsS t.n (t.cols.map xNu) (t.key.map encN) (t.fos.map xNt) t.chk p.n (p.cols.map xNu) (p.key.map encN) (p.fos.map xNt) p.chk ix (fa.map encF) (ke.map encF)):=by
 obtain ⟨a,ae,ha⟩:=xEu fa hf.len;obtain ⟨b,be,hb⟩:=xEu ke hk.len;obtain ⟨c,ce,_⟩:=xyU t ht fa hf;obtain ⟨d,de,_⟩:=xyU p hp ke hk;unfold xsS xti;simp only [ae,be,ce,de,za,zk,zh,xab,sUF];refine Ans.br (fun _=>Ans.some fun h=>by simp at h) (fun _=>Ans.br (fun _=>Ans.some fun h=>by simp at h) (fun _=>Ans.br (fun _=>Ans.some fun h=>by simp at h) (fun h1=>Ans.br (fun _=>Ans.some fun h=>by simp at h) (fun h2=>?_))))
 have h1:=of_decide_eq_false h1;have h2:=of_decide_eq_false h2;refine Ans.br (fun _=>Ans.some fun h=>by simp at h) (fun h3=>Ans.br (fun _=>Ans.some fun h=>by simp at h) (fun h4=>Ans.br (fun _=>Ans.br (fun _=>?_) (fun _=>Ans.some fun h=>by simp at h)) (fun _=>Ans.some fun h=>by simp at h)))
 have h3:a=true:=by simpa using h3
 have h4:b=true:=by simpa using h4
 have i1:0<=ix:=by omega
 have i2:ix<(t.fos.length:Int):=by omega
 have i3:ix.toNat<t.fos.length:=by omega
 have gt:(t.fos.map xNt).getD ix.toNat .top=xNt t.fos[ix.toNat]:=xaa _ _ _ i3;obtain ⟨e,ee,_⟩:=xJh t p ht hp t.fos[ix.toNat] (zo i3);simp only [i1,i2,i3,gt,cFo0,cFo1,lFo,sFo,AV.toList,AV.toStr,ee,zn,zS,zk,zh,xab,sUF];exact Ans.some fun _=>⟨i1,i2,(ha h3).1,(ha h3).2,(hb h4).1,(hb h4).2⟩
theorem xF0 {l:List Fc} (h:∀ f,f∈l->f.r.length<=60):∀ f,f∈l->f.r.length<=maxLen:=fun f hf=>by have:=h f hf;simp only [maxLen];omega
theorem xJ2 {a b c d e f g h i:_} {B:List Fc} (hB:xaX a b c d e f g h i=some (B.map encF)):xjQ a b c d e f g h i=some (decide (B=[])):=by
 unfold xjQ xok;rw [hB];cases B with
 | nil=>rfl
 | cons x B =>
  have:¬ ((((x::B).map encF).length:Nat):Int)=0:=by simp;omega
  simp [xab,sUF];omega
theorem xJi {a b c d e f g h i:_} {B:List Fc} (hB:xbz a b c d e f g h i=some (B.map encF)):xmH a b c d e f g h i=some (decide (B=[])):=by
 unfold xmH xsm;rw [hB];cases B with
 | nil=>rfl
 | cons x B =>
  simp [xab,sUF];omega
end Go.Sim.M
end
noncomputable section
set_option maxRecDepth 10000
namespace Go.Sim
open Go.RowKit Go.Proofs Go.ChangeShapes Go.WideShapes Go.ChangeAt Go.Proofs.YtnbckejindjgaaaGreatDoor
theorem xBI:∀ {xs:List AV} {x:AV},x∈xs->AV.wt x<=AV.wts xs
 | y::xs,x,h=>by
  simp only [AV.wts];rcases zC.1 h with rfl|h
  . omega
  . have:=xBI h;omega
theorem xBH:∀ {xs:List AV},(∀ x,x∈xs->1<=AV.wt x)->xs.length<=AV.wts xs
 | [],_=>zQ _
 | y::xs,h=>by
  have a:=h y (by simp)
  have b:=xBH (xs:=xs) fun x hx=>h x (by simp [hx])
  simp only [AV.wts,zF];omega
theorem xj7 {α:Type} {e:α->AV} (h:∀ a,1<=AV.wt (e a)) (l:List α):l.length<=AV.wts (l.map e):=by
 have:=xBH (xs:=l.map e) fun x hx=>by
  obtain ⟨a,_,rfl⟩:=zK.1 hx;exact h a
 rwa [za] at this
theorem xj8 {α:Type} {e:α->AV} {l:List α} {a:α} (h:a∈l):AV.wt (e a)<=AV.wts (l.map e):=xBI (zK.2 ⟨a,h,rfl⟩)
theorem xJG (v:M.Val):AV.wt (M.encV v)=1+(1+(v.t.length+1+0)):=rfl
theorem xEN (f:M.Fc):AV.wt (M.encF f)=AV.wts (f.r.map M.encV)+1+(1+(1+0)):=rfl
theorem xJE (c:M.Col):AV.wt (M.xNu c)=c.n.length+1+(1+(1+0)):=rfl
theorem xHz (f:M.Fo):AV.wt (M.xNt f)=AV.wts (f.cols.map M.encN)+1+(f.t.length+1+0):=rfl
theorem M.fok_wt {l:List M.Fc} (h:AV.wts (l.map M.encF)<=1048576) (hw:∀ y,y∈l->y.wf):M.FOk l:=by
 refine ⟨?_,fun f hf=>?_,fun f hf v hv=>⟨(hw f hf).1.2 v hv,?_⟩⟩
 . have:=xj7 (e:=M.encF) (fun f=>by have:=xEN f;omega) l
   omega
 . have h1:=xj8 (e:=M.encF) hf;have h2:=xEN f;have h3:=xj7 (e:=M.encV) (fun f=>by have:=xJG f;omega) f.r
   omega
 . have h1:=xj8 (e:=M.encF) hf;have h2:=xEN f;have h3:=xj8 (e:=M.encV) hv;have h4:=xJG v;omega
def EX (xs:List AV):Prop:=∀ x,x∈xs->x.cells.length=7/\x=xO1 x.cells/\∀ j,j<7->OfTy tyR (tyR.getD j .bool) (x.cells.getD j .top)
theorem xD7 {a:AV} (h:OfTy tyR .mu a):∃ xs,a=.list 7 xs/\EX xs:=by
 cases h with
 | mu xs h hl hx=>exact ⟨xs,rfl,fun x hm=>⟨(hl x hm).1,(hl x hm).2,fun j hj=>hx x j hm hj⟩⟩
theorem xKO:∀ (n:Nat) (xs:List AV),AV.wts xs<n->n<=16777216->EX xs->xs.length<=AV.wts xs/\∀ x,x∈xs->M.IsEx x
 | 0,xs,h,_,_=>absurd h (Nat.not_lt_zero _)
 | n+1,xs,h,hn,hE=>by
  have key:∀ x,x∈xs->1<=AV.wt x/\M.IsEx x:=fun x hx=>by
   obtain ⟨h1,h2,h3⟩:=hE x hx;have hw:=xBI hx;generalize x.cells=cs at *;match cs,h1 with
   | [c0,c1,c2,c3,c4,c5,c6],_ =>
    have h0:=h3 0 (by decide)
    have h1:=h3 1 (by decide)
    have h2':=h3 2 (by decide)
    have h3':=h3 3 (by decide)
    have h4:=h3 4 (by decide)
    have h5:=h3 5 (by decide)
    have h6:=h3 6 (by decide)
    change OfTy tyR (.int .i64) c0 at h0;change OfTy tyR (.int .i64) c1 at h1;change OfTy tyR (.int .i64) c2 at h2';change OfTy tyR (.int .i64) c3 at h3';change OfTy tyR .str c4 at h4;change OfTy tyR .str c5 at h5;change OfTy tyR .mu c6 at h6;obtain ⟨ys,rfl,hy⟩:=xD7 h6;cases h0 with
    | int _ n0 _=>cases h1 with
     | int _ n1 _=>cases h2' with
      | int _ n2 _=>cases h3' with
       | int _ n3 _=>cases h4 with
        | str s4 _=>cases h5 with
         | str s5 _ =>
          have hx:x=.agg [.int .i64 n0,.int .i64 n1,.int .i64 n2,.int .i64 n3,.str s4,.str s5,.list 7 ys]:=h2;have wx:AV.wt x=1+(1+(1+(1+(s4.length+1+(s5.length+1+(AV.wts ys+1+0)))))):=by rw [hx];rfl
          obtain ⟨i1,i2⟩:=xKO n ys (by omega) (by omega) hy
          exact ⟨by omega,hx▸M.IsEx.mk n0 n1 n2 n3 s4 s5 ys (by omega) (by omega) i2⟩
  exact ⟨xBH fun x hx=>(key x hx).1,fun x hx=>(key x hx).2⟩
def tyCo:List Ty:=[.str,.int .i64,.bool]
def tyFo:List Ty:=[.slice [.int .i64],.str]
theorem xzZ (x:AV) (hl:x.cells.length=[Ty.int .i64].length) (he:x=xO1 x.cells) (hx:∀ j,j<[Ty.int .i64].length->OfTy tyR ([Ty.int .i64].getD j .bool) (x.cells.getD j .top)):∃ a,x=M.encN a/\I64 a:=by
 generalize x.cells=cs at *;match cs,hl with
 | [c0],_ =>
  have h0:=hx 0 (by decide)
  change OfTy tyR (.int .i64) c0 at h0;cases h0 with
  | int _ k hk=>exact ⟨k,he,hk⟩
theorem xEI (x:AV) (hl:x.cells.length=tyCo.length) (he:x=xO1 x.cells) (hx:∀ j,j<tyCo.length->OfTy tyR (tyCo.getD j .bool) (x.cells.getD j .top)):∃ a,x=M.xNu a/\True:=by
 generalize x.cells=cs at *;match cs,hl with
 | [c0,c1,c2],_ =>
  have h0:=hx 0 (by decide)
  have h1:=hx 1 (by decide)
  have h2:=hx 2 (by decide)
  change OfTy tyR .str c0 at h0;change OfTy tyR (.int .i64) c1 at h1;change OfTy tyR .bool c2 at h2;cases h0 with
  | str s _=>cases h1 with
   | int _ k _=>cases h2 with
    | bool b=>exact ⟨⟨s,k,b⟩,he,trivial⟩
theorem xGs (x:AV) (hl:x.cells.length=tyFo.length) (he:x=xO1 x.cells) (hx:∀ j,j<tyFo.length->OfTy tyR (tyFo.getD j .bool) (x.cells.getD j .top)):∃ a,x=M.xNt a/\True:=by
 generalize x.cells=cs at *;match cs,hl with
 | [c0,c1],_ =>
  have h0:=hx 0 (by decide)
  have h1:=hx 1 (by decide)
  change OfTy tyR (.slice [.int .i64]) c0 at h0;change OfTy tyR .str c1 at h1;obtain ⟨l,rfl,_,_⟩:=xge (es:=[.int .i64]) xzZ h0;cases h1 with
  | str s _=>exact ⟨⟨l,s⟩,he,trivial⟩
theorem M.tab_ok (t:M.Tab) (hb:AV.wts [.str t.n,.list 3 (t.cols.map M.xNu),.list 1 (t.key.map M.encN),.list 2 (t.fos.map M.xNt),.list 7 t.chk]<=1048576) (hx:EX t.chk):t.Ok:=by
 have hw:AV.wts [.str t.n,.list 3 (t.cols.map M.xNu),.list 1 (t.key.map M.encN),.list 2 (t.fos.map M.xNt),.list 7 t.chk]=t.n.length+1+(AV.wts (t.cols.map M.xNu)+1+(AV.wts (t.key.map M.encN)+1+(AV.wts (t.fos.map M.xNt)+1+(AV.wts t.chk+1+0)))):=rfl;obtain ⟨e1,e2⟩:=xKO (AV.wts t.chk+1) t.chk (Nat.lt_succ_self _) (by omega) hx
 refine ⟨by omega,?_,?_,?_,by omega,fun c hc=>?_,fun f hf=>⟨?_,?_⟩,e2⟩
 . have:=xj7 (e:=M.xNu) (fun f=>by have:=xJE f;omega) t.cols
   omega
 . have:=xj7 (e:=M.encN) (fun f=>zd 1) t.key
   omega
 . have:=xj7 (e:=M.xNt) (fun f=>by have:=xHz f;omega) t.fos
   omega
 . have h1:=xj8 (e:=M.xNu) hc;have h2:=xJE c;omega
 . have h1:=xj8 (e:=M.xNt) hf;have h2:=xHz f;have h3:=xj7 (e:=M.encN) (fun f=>zd 1) f.cols
   omega
 . have h1:=xj8 (e:=M.xNt) hf;have h2:=xHz f;omega
structure M.Cas where
 t:M.Tab
 p:M.Tab
 ix:Int
 fa:List M.Fc
 ke:List M.Fc
def M.Cas.wf (c:M.Cas):Prop:=EX c.t.chk/\EX c.p.chk/\(∀ y,y∈c.fa->y.wf)/\∀ y,y∈c.ke->y.wf
theorem xII:flat Tryz.prog muT 9 30=some [.str,.slice tyCo,.slice [.int .i64],.slice tyFo,.mu,.str,.slice tyCo,.slice [.int .i64],.slice tyFo,.mu,.int .i64,.slice tyF,.slice tyF]:=by kernel_rfl
section
variable {H : Type} {enc : TypeId × Value -> H} {w : World} {base b : Nat} {sp : Nat -> Bool} {held : Bool} {v : Value} {d : DataW H} {ps : List MemPlace}
theorem xI3 (J:Value.okWide Tryz.prog w .any base 30 v) (hd:DataW.Trod enc Tryz.prog w b sp held 30 v d ps):∃ x:M.Cas,Rel w (fun _=>False) xOG v (.agg [.str x.t.n,.list 3 (x.t.cols.map M.xNu),.list 1 (x.t.key.map M.encN),.list 2 (x.t.fos.map M.xNt),.list 7 x.t.chk,.str x.p.n,.list 3 (x.p.cols.map M.xNu),.list 1 (x.p.key.map M.encN),.list 2 (x.p.fos.map M.xNt),.list 7 x.p.chk,.int .i64 x.ix,.list 3 (x.fa.map M.encF),.list 3 (x.ke.map M.encF)])/\(∀ μ:DataW H->Nat,Meas μ->(AV.agg [.str x.t.n,.list 3 (x.t.cols.map M.xNu),.list 1 (x.t.key.map M.encN),.list 2 (x.t.fos.map M.xNt),.list 7 x.t.chk,.str x.p.n,.list 3 (x.p.cols.map M.xNu),.list 1 (x.p.key.map M.encN),.list 2 (x.p.fos.map M.xNt),.list 7 x.p.chk,.int .i64 x.ix,.list 3 (x.fa.map M.encF),.list 3 (x.ke.map M.encF)]).wt<=μ d)/\M.Cas.wf x:=by
 obtain ⟨cs,h,hl,hx,hB⟩:=xI2 recR Tryz.underlying30 xII J hd;match cs,hl with
 | [k0,k1,k2,k3,k4,k5,k6,k7,k8,k9,k10,k11,k12],_ =>
  have h0:=hx 0 (by decide)
  have h1:=hx 1 (by decide)
  have h2:=hx 2 (by decide)
  have h3:=hx 3 (by decide)
  have h4:=hx 4 (by decide)
  have h5:=hx 5 (by decide)
  have h6:=hx 6 (by decide)
  have h7:=hx 7 (by decide)
  have h8:=hx 8 (by decide)
  have h9:=hx 9 (by decide)
  have O:=hx 10 (by decide)
  have Q:=hx 11 (by decide)
  have q:=hx 12 (by decide)
  change OfTy tyR .str k0 at h0;change OfTy tyR (.slice tyCo) k1 at h1;change OfTy tyR (.slice [.int .i64]) k2 at h2;change OfTy tyR (.slice tyFo) k3 at h3;change OfTy tyR .mu k4 at h4;change OfTy tyR .str k5 at h5;change OfTy tyR (.slice tyCo) k6 at h6;change OfTy tyR (.slice [.int .i64]) k7 at h7;change OfTy tyR (.slice tyFo) k8 at h8;change OfTy tyR .mu k9 at h9;change OfTy tyR (.int .i64) k10 at O;change OfTy tyR (.slice tyF) k11 at Q;change OfTy tyR (.slice tyF) k12 at q;obtain ⟨l1,rfl,_,_⟩:=xge (es:=tyCo) xEI h1;obtain ⟨l2,rfl,_,_⟩:=xge (es:=[.int .i64]) xzZ h2;obtain ⟨l3,rfl,_,_⟩:=xge (es:=tyFo) xGs h3;obtain ⟨l4,rfl,x4⟩:=xD7 h4;obtain ⟨l6,rfl,_,_⟩:=xge (es:=tyCo) xEI h6;obtain ⟨l7,rfl,_,_⟩:=xge (es:=[.int .i64]) xzZ h7;obtain ⟨l8,rfl,_,_⟩:=xge (es:=tyFo) xGs h8;obtain ⟨l9,rfl,x9⟩:=xD7 h9;obtain ⟨Y,rfl,_,V⟩:=xge (es:=tyF) xEJ Q;obtain ⟨W,rfl,_,U⟩:=xge (es:=tyF) xEJ q;cases h0 with
  | str s0 _=>cases h5 with
   | str s5 _=>cases O with
    | int _ n10 _=>exact ⟨⟨⟨s0,l1,l2,l3,l4⟩,⟨s5,l6,l7,l8,l9⟩,n10,Y,W⟩,h,fun μ hμ=>hB μ hμ,x4,x9,V,U⟩
end
theorem M.cas_wt (c:M.Cas) (hw:c.wf) {r:Nat} (hb:(AV.agg [.str c.t.n,.list 3 (c.t.cols.map M.xNu),.list 1 (c.t.key.map M.encN),.list 2 (c.t.fos.map M.xNt),.list 7 c.t.chk,.str c.p.n,.list 3 (c.p.cols.map M.xNu),.list 1 (c.p.key.map M.encN),.list 2 (c.p.fos.map M.xNt),.list 7 c.p.chk,.int .i64 c.ix,.list 3 (c.fa.map M.encF),.list 3 (c.ke.map M.encF)]).wt+r<=1048576):c.t.Ok/\c.p.Ok/\M.FOk c.fa/\M.FOk c.ke:=by
 have hs:(AV.agg [.str c.t.n,.list 3 (c.t.cols.map M.xNu),.list 1 (c.t.key.map M.encN),.list 2 (c.t.fos.map M.xNt),.list 7 c.t.chk,.str c.p.n,.list 3 (c.p.cols.map M.xNu),.list 1 (c.p.key.map M.encN),.list 2 (c.p.fos.map M.xNt),.list 7 c.p.chk,.int .i64 c.ix,.list 3 (c.fa.map M.encF),.list 3 (c.ke.map M.encF)]).wt=AV.wts [.str c.t.n,.list 3 (c.t.cols.map M.xNu),.list 1 (c.t.key.map M.encN),.list 2 (c.t.fos.map M.xNt),.list 7 c.t.chk]+(AV.wts [.str c.p.n,.list 3 (c.p.cols.map M.xNu),.list 1 (c.p.key.map M.encN),.list 2 (c.p.fos.map M.xNt),.list 7 c.p.chk]+(1+(AV.wts (c.fa.map M.encF)+1+(AV.wts (c.ke.map M.encF)+1+0)))):=by
  simp only [AV.wt,AV.wts];omega
 obtain ⟨h1,h2,h3,h4⟩:=hw;exact ⟨M.tab_ok c.t (by omega) h1,M.tab_ok c.p (by omega) h2,M.fok_wt (by omega) h3,M.fok_wt (by omega) h4⟩
end Go.Sim
end
noncomputable section
set_option maxRecDepth 100000
namespace Go.Sim.M
open Go.RowKit Go.Sim.Srt
theorem xIp (p:Tab) (hp:p.Ok) (f:Fo) (hf:f.cols.length<=1048576) (fa ke:List Fc) (q:FOk fa) (J:FOk ke) (fl:fa.length<=14) (fr:∀ f,f∈fa->f.r.length<=60) (kl:ke.length<=14) :
  ∃ B M:List Fc,xaX (f.cols.map encN) f.t (fa.map encF) p.n (p.cols.map xNu) (p.key.map encN) (p.fos.map xNt) p.chk (ke.map encF)=some (B.map encF)/\xbz (f.cols.map encN) f.t (fa.map encF) p.n (p.cols.map xNu) (p.key.map encN) (p.fos.map xNt) p.chk (ke.map encF)=some (B.map encF)/\xNI M B/\IsMiss f.cols p.key fa ke M:=by
 obtain ⟨B,M,b1,b2,b3⟩:=xKa f.cols p.key f.t p.n (p.cols.map xNu) (p.fos.map xNt) p.chk hf hp.key fa ke fl (by omega) fr q.txt J.txt
 obtain ⟨B',M',c1,c2,c3⟩:=xKp f.cols p.key f.t p.n (p.cols.map xNu) (p.fos.map xNt) p.chk hf hp.key fa ke fl kl fr;obtain rfl:B=B':=b2.unique c2 fun r t=>by rw [b3.cnt,c3.cnt]
 exact ⟨B,M,b1,c1,b2,b3⟩
theorem xE9 (t p:Tab) (ht:t.Ok) (hp:p.Ok) (ix:Int) (fa ke:List Fc) (hf:FOk fa) (hk:FOk ke) (q:Int):xjg t.n (t.cols.map xNu) (t.key.map encN) (t.fos.map xNt) t.chk p.n (p.cols.map xNu) (p.key.map encN) (p.fos.map xNt) p.chk ix (fa.map encF) (ke.map encF) q=some true:=by
 obtain ⟨b,be,hb⟩:=xIX t p ht hp ix fa ke hf hk;unfold xjg xhL xgr;simp only [be,zk,zh,xab,sUF];cases b with
 | false=>rfl
 | true =>
  obtain ⟨lo,hi,fl,fr,kl,kr⟩:=hb rfl;obtain ⟨i,rfl⟩:∃ i:Nat,ix=(i:Int):=⟨ix.toNat,by omega⟩
  have i3:i<t.fos.length:=by omega
  have gt:(t.fos.map xNt).getD i .top=xNt t.fos[i]:=xaa _ _ _ i3;obtain ⟨B,M,b1,b2,b3,b4⟩:=xIp p hp t.fos[i] (ht.fc _ (zo i3)).1 fa ke hf hk fl fr kl;have O:=xK4 fl kl b4 b3;have J:=b4.bagrow b3;have id:=xJj B B (by omega) (fun f hf=>by
   obtain ⟨x,hx,e⟩:=J f hf;rw [e];exact xF0 fr x hx)
  rw [decide_eq_true rfl] at id;have h1:=xJ2 b1;have h2:=xJi b2;obtain ⟨S,s1,s2,s3⟩:=xLI fl fr hf.txt O J;have sl:S.length<=1048576:=Nat.le_trans s3.len (Nat.le_trans (Nat.mul_le_mul O O) (by decide))
  have v1:=xKj t i i3 (fa.map encF) (ke.map encF) p.n (p.cols.map xNu) (p.key.map encN) (p.fos.map xNt) p.chk B S b1 s1 sl;have v2:=xKv t i i3 (fa.map encF) (ke.map encF) p.n (p.cols.map xNu) (p.key.map encN) (p.fos.map xNt) p.chk B S b2 s2 sl;have v3:=xEF t.n (i:Int) S sl (s3.all (Q:=fun r=>r.length<=maxLen) fun f hf=>by
   obtain ⟨x,hx,e⟩:=J f hf;rw [e];exact xF0 fr x hx)
  have v4:xb0 [] []=some true:=xEF [] 0 [] (by simp) (by simp)
  simp only [xgM,xgN,xgO,xgP,sBU,lo,hi,i3,gt,cFo0,cFo1,lFo,sFo,AV.toList,AV.toStr,b1,b2,id,h1,h2,v1,v2,v3,xac];by_cases c1:q>=0
  . by_cases c2:q<(t.fos.length:Int)
    . simp only [c1,c2,zn,xab,sUF]
    . obtain ⟨o1,o2⟩:=xEK t q (.inr (by omega)) (fa.map encF) (ke.map encF) p.n (p.cols.map xNu) (p.key.map encN) (p.fos.map xNt) p.chk
      simp only [c1,c2,zn,zm,xab,xac,o1,o2,v4,zk,zh,sUF]
  . obtain ⟨o1,o2⟩:=xEK t q (.inl (by omega)) (fa.map encF) (ke.map encF) p.n (p.cols.map xNu) (p.key.map encN) (p.fos.map xNt) p.chk
    simp only [c1,zm,xab,xac,o1,o2,v4,zk,zh,sUF]
theorem FOk.take {l:List Fc} (h:FOk l) (n:Nat):FOk (l.take n):=⟨by rw [zt];have:=h.len;omega,fun f hf=>h.row f (List.mem_of_mem_take hf),fun f hf=>h.txt f (List.mem_of_mem_take hf)⟩
end Go.Sim.M
end
noncomputable section
set_option maxRecDepth 10000
namespace Go.Sim
open Go.RowKit
theorem M.card_missing (c:M.Cas) (a:Int) (w0:c.wf) (_:I64 a) (hb:(AV.agg [.str c.t.n,.list 3 (c.t.cols.map M.xNu),.list 1 (c.t.key.map M.encN),.list 2 (c.t.fos.map M.xNt),.list 7 c.t.chk,.str c.p.n,.list 3 (c.p.cols.map M.xNu),.list 1 (c.p.key.map M.encN),.list 2 (c.p.fos.map M.xNt),.list 7 c.p.chk,.int .i64 c.ix,.list 3 (c.fa.map M.encF),.list 3 (c.ke.map M.encF)]).wt+(AV.int .i64 a).wt<=1048576):M.xjg c.t.n (c.t.cols.map M.xNu) (c.t.key.map M.encN) (c.t.fos.map M.xNt) c.t.chk c.p.n (c.p.cols.map M.xNu) (c.p.key.map M.encN) (c.p.fos.map M.xNt) c.p.chk c.ix (c.fa.map M.encF) (c.ke.map M.encF) a=some true :=
 M.xE9 c.t c.p (M.cas_wt c w0 hb).1 (M.cas_wt c w0 hb).2.1 c.ix c.fa c.ke (M.cas_wt c w0 hb).2.2.1 (M.cas_wt c w0 hb).2.2.2 a
end Go.Sim
end
