/- Part 18 of the proof of the law. -/
import Derived.Test.YtcekkkdjdfiipaaGreatDoorUV17
import Derived.Lib.ItoaLen
set_option linter.unusedVariables false
set_option linter.unusedSimpArgs false
set_option linter.unusedSectionVars false
noncomputable section
set_option maxRecDepth 100000
namespace Go.Sim.M
open Go.RowKit Go.Sim.Srt
def rdD (l:List UInt8):Nat:=l.foldl (fun a c=>a*10+(c.toNat - 48)) 0
theorem xEZ (u:Nat):∀ c,c∈Lib.decDigits u->48<=c.toNat/\c.toNat<=57:=by
 induction u using Nat.strongRecOn with
 | _ u ih =>
  intro c hc;rw [Lib.decDigits] at hc;split at hc
  . rw [zv] at hc;subst hc;rw [UInt8.toNat_ofNat'];omega
  . rw [zG,zv] at hc;rcases hc with hc|rfl
    . exact ih (u / 10) (by omega) c hc
    . rw [UInt8.toNat_ofNat'];omega
theorem xIe (u:Nat):rdD (Lib.decDigits u)=u:=by
 induction u using Nat.strongRecOn with
 | _ u ih =>
  rw [Lib.decDigits];split
  . simp only [rdD,List.foldl_cons,List.foldl_nil,UInt8.toNat_ofNat'];omega
  . have:=ih (u / 10) (by omega)
    unfold rdD at this |-;rw [List.foldl_append,this];simp only [List.foldl_cons,List.foldl_nil,UInt8.toNat_ofNat'];omega
theorem xEx {u v:Nat} (h:Lib.decDigits u=Lib.decDigits v):u=v:=by rw [<-xIe u,h,xIe]
theorem xyp {a b:Int} (h:Lib.itoa a=Lib.itoa b):a=b:=by
 unfold Lib.itoa at h;have k:∀ u v:Nat,45::Lib.decDigits u≠Lib.decDigits v:=fun u v e=>by
  have:=xEZ v 45 (by rw [<-e];simp)
  have t:(45:UInt8).toNat=45:=rfl;omega
 split at h<;>split at h
 . have:=xEx (List.cons.inj h).2;omega
 . exact absurd h (k _ _)
 . exact absurd h.symm (k _ _)
 . have:=xEx h;omega
theorem xrV (a:Int):(32:UInt8)∉Lib.itoa a:=by
 have k:∀ v:Nat,(32:UInt8)∉Lib.decDigits v:=fun v e=>by
  have:=xEZ v 32 e;have t:(32:UInt8).toNat=32:=rfl;omega
 unfold Lib.itoa;split
 . rw [zC];rintro (h|h)
   . simp at h
   . exact k _ h
 . exact k _
theorem xy3:∀ {a b x y:List UInt8},(32:UInt8)∉a->(32:UInt8)∉b->a++32::x=b++32::y->a=b/\x=y
 | [],[],x,y,_,_,h=>⟨rfl,(List.cons.inj h).2⟩
 | [],c::b,x,y,_,hb,h=>absurd (List.cons.inj h).1 fun e=>hb (by rw [e];simp)
 | c::a,[],x,y,ha,_,h=>absurd (List.cons.inj h).1 fun e=>ha (by rw [<-e];simp)
 | c::a,d::b,x,y,ha,hb,h=>by
  obtain ⟨e1,h⟩:=List.cons.inj h;obtain ⟨e2,e3⟩:=xy3 (a:=a) (b:=b) (fun e=>ha (by simp [e])) (fun e=>hb (by simp [e])) h
  exact ⟨by rw [e1,e2],e3⟩
def keyV (v:Val):List UInt8:=Lib.itoa v.k++32::(Lib.itoa v.i++32::(Lib.itoa (v.t.length:Int)++32::v.t))
def keyOf (r:Row):List UInt8:=r.flatMap keyV
theorem xyr (v:Val) (s:List UInt8):keyV v++s=Lib.itoa v.k++32::(Lib.itoa v.i++32::(Lib.itoa (v.t.length:Int)++32::(v.t++s))):=by simp [keyV]
theorem xlg (v:Val) (r:Row):keyOf (v::r)=keyV v++keyOf r:=by simp [keyOf]
theorem xAc (v:Val) (s:List UInt8):keyV v++s≠[]:=by rw [xyr];simp
theorem xAd:∀ {r r':Row},keyOf r=keyOf r'->r=r'
 | [],[],_=>rfl
 | [],v::r',h=>by rw [xlg] at h;exact absurd h.symm (xAc _ _)
 | v::r,[],h=>by rw [xlg] at h;exact absurd h (xAc _ _)
 | v::r,v'::r',h=>by
  rw [xlg,xlg,xyr,xyr] at h;obtain ⟨h1,h⟩:=xy3 (xrV _) (xrV _) h;obtain ⟨h2,h⟩:=xy3 (xrV _) (xrV _) h;obtain ⟨h3,h⟩:=xy3 (xrV _) (xrV _) h;have h3:=xyp h3;obtain ⟨h4,h⟩:=List.append_inj h (by omega)
  obtain rfl:=xAd h;have:v=v':=by
   obtain ⟨k,i,t⟩:=v;obtain ⟨k',i',t'⟩:=v';obtain rfl:=xyp h1;obtain rfl:=xyp h2;subst h4;rfl
  rw [this]
theorem xN4 {n:Int} (h:(Lit.int .i64 n).wf=true):-9223372036854775808<=n/\n<=9223372036854775807:=by
 have h:(decide ((IntKind.i64).min<=n)&&decide (n<=(IntKind.i64).max))=true:=h;rw [zf,zl,zl] at h;exact h
theorem xys {v:Val} (hw:v.wf) (ht:v.t.length<=1099511627776):(keyV v).length<=66+v.t.length:=by
 obtain ⟨w1,w2,_⟩:=hw;have a1:=Lib.itoa_length_le v.k (xN4 w1).1 (xN4 w1).2;have a2:=Lib.itoa_length_le v.i (xN4 w2).1 (xN4 w2).2;have a3:=Lib.itoa_length_le (v.t.length:Int) (by omega) (by omega)
 simp only [keyV,z8,zF];omega
theorem xAA (s B:List UInt8) (h:(B++s).length<=140737488355328):xaj s B.length (byteAVs B)=some ((s.length:Int),(B++s).length,byteAVs (B++s)):=by
 rw [z8] at h;have h2:B.length+s.length<=4611686018427387904:=by omega
 unfold xaj xdO;simp only [xld,beq_self_eq_true,Nat.mul_one,h,h2,zn,Bool.and_self,xab,xue,z8,sUF]
theorem xDQ (B:List UInt8) (h:(B++[32]).length<=140737488355328):xc2 32 B.length (byteAVs B)=some ((B++[32]).length,byteAVs (B++[32])):=by
 rw [z8,zj] at h;have h2:B.length+1<=4611686018427387904:=by omega
 unfold xc2 xeh;simp only [xld,beq_self_eq_true,Nat.mul_one,h,h2,zn,Bool.and_self,xab,xue,z8,zj,sUF];rfl
def numI (n:Int):List UInt8:=Lib.itoa n++[32]
theorem xF2 (t8:List AV) (t9 q:Int) (xs:List AV) (hx:xs.length=3) (j:Nat) (hj:j<3) (n:Int) (hn:xs.getD j .top=.int .i64 n) (h1:-9223372036854775808<=n) (h2:n<=9223372036854775807) (v0 v1:Int) (v2 B:List UInt8) (hB:B.length<=70368744177664) :
  xaX t8 t9 q 3 3 ((j:Int),B.length,v0,v1,v2,xs,byteAVs B)=some (.inl (((j+1:Nat):Int),(B++numI n).length,v0,v1,v2,xs,byteAVs (B++numI n))):=by
 have hl:=Lib.itoa_length_le n h1 h2;have i1:(j:Int)<3:=by omega
 have i2:(j:Int)<((3:Nat):Int):=by omega
 have i3:j<xs.length:=by omega
 have e1:=xAA (Lib.itoa n) B (by rw [z8];omega)
 have e2:=xDQ (B++Lib.itoa n) (by rw [z8,z8,zj];omega)
 have hc:((AV.int IntKind.i64 n).cells.getD 0 .top).toInt=n:=rfl;have hs:xOI (Sh.int IntKind.i64) ((AV.int IntKind.i64 n).cells.getD 0 .top)=true:=rfl;simp only [xaX,xh1,xkH,xkI,xkJ,xfp,sBU,i1,i2,i3,hn,hc,hs,h1,h2,e1,e2,xNG (n:=j) (by omega),numI,zw]
theorem xKH (t8:List AV) (t9 q:Int) (xs:List AV) (v0 v1:Int) (v2 B:List UInt8):xaX t8 t9 q 3 3 (((3:Nat):Int),B.length,v0,v1,v2,xs,byteAVs B)=some (.inr (B.length,v0,v1,v2,byteAVs B)):=by
 have i1:¬ ((3:Nat):Int)<3:=by omega
 simp only [xaX,xh1,i1,zm,xac,sUF]
theorem xyt (v:Val):keyV v=numI v.k++(numI v.i++(numI (v.t.length:Int)++v.t)):=by simp [keyV,numI]
def KOk (v:Val):Prop:=v.wf/\v.t.length<=1099511627776
theorem KOk.len {v:Val} (h:KOk v):(keyV v).length<=1099511627842:=by have:=xys h.1 h.2;have:=h.2;omega
theorem xE7 (t8:List AV) (t9 q:Int) (v:Val) (h:KOk v) (B:List UInt8) (hB:B.length<=35184372088832) :
  Iter (xaX t8 t9 q 3 3) ((1:Int),(B++numI v.k).length,v.k,v.i,v.t,[AV.int .i64 v.k,AV.int .i64 v.i,AV.int .i64 (v.t.length:Int)],byteAVs (B++numI v.k))=some ((B++numI v.k++numI v.i++numI (v.t.length:Int)).length,v.k,v.i,v.t,byteAVs (B++numI v.k++numI v.i++numI (v.t.length:Int))):=by
 have hl:=h.len;have ht:=h.2;rw [xyt,z8,z8,z8] at hl;have e1:=xF2 t8 t9 q [AV.int .i64 v.k,AV.int .i64 v.i,AV.int .i64 (v.t.length:Int)] rfl 1 (by omega) v.i rfl (xN4 h.1.2.1).1 (xN4 h.1.2.1).2 v.k v.i v.t (B++numI v.k) (by rw [z8];omega)
 have e2:=xF2 t8 t9 q [AV.int .i64 v.k,AV.int .i64 v.i,AV.int .i64 (v.t.length:Int)] rfl 2 (by omega) (v.t.length:Int) rfl (by omega) (by omega) v.k v.i v.t (B++numI v.k++numI v.i) (by rw [z8,z8];omega)
 exact (xap e1).trans ((xap e2).trans (xag (xKH ..)))
theorem xMs (t8:List AV) (t9 q:Int) (v:Val) (h:KOk v) (B:List UInt8) (hB:B.length<=35184372088832) :
  Iter (xaX t8 t9 q 3 3) ((0:Int),B.length,v.k,v.i,v.t,[AV.int .i64 v.k,AV.int .i64 v.i,AV.int .i64 (v.t.length:Int)],byteAVs B)=some ((B++numI v.k++numI v.i++numI (v.t.length:Int)).length,v.k,v.i,v.t,byteAVs (B++numI v.k++numI v.i++numI (v.t.length:Int))):=by
 have e0:=xF2 t8 t9 q [AV.int .i64 v.k,AV.int .i64 v.i,AV.int .i64 (v.t.length:Int)] rfl 0 (by omega) v.k rfl (xN4 h.1.1).1 (xN4 h.1.1).2 v.k v.i v.t B (by omega)
 exact (xap e0).trans (xE7 t8 t9 q v h B hB)
theorem xHR (r:Row) (hr:r.length<=1048576) (h:∀ v,v∈r->KOk v) (hk:(keyOf r).length<=17592186044416):∀ d k:Nat,k+d=r.length->Iter (xcL (r.map encV) ((r.length:Nat):Int)) ((k:Int),(keyOf (r.take k)).length,byteAVs (keyOf (r.take k)))=some ((keyOf r).length,byteAVs (keyOf r))
 | 0,k,hkk=>by
  obtain rfl:k=r.length:=by omega
  rw [y4];refine xag ?_;simp only [xcL,xh0,zy,zm,xac,sUF]
 | d+1,k,hkk=>by
  have q:k<r.length:=by omega
  have hv:=h r[k] (zo q);have i1:(k:Int)<(r.length:Int):=by omega
  have gf:(r.map encV).getD k .top=encV r[k]:=xaa _ _ _ q;have tk:keyOf (r.take (k+1))=keyOf (r.take k)++keyV r[k]:=by
   unfold keyOf;rw [List.take_add_one,ze q,List.flatMap_append];simp
  have le:(keyOf (r.take (k+1))).length<=(keyOf r).length:=by
   conv=>rhs;rw [<-List.take_append_drop (k+1) r]
   unfold keyOf;rw [List.flatMap_append,z8];omega
  have hl:=hv.len;rw [tk,z8] at le;have e1:=xMs (r.map encV) (r.length:Int) (k:Int) r[k] hv (keyOf (r.take k)) (by omega)
  have kn:keyOf (r.take k)++keyV r[k]=keyOf (r.take k)++numI r[k].k++numI r[k].i++numI (r[k].t.length:Int)++r[k].t:=by rw [xyt];simp only [zw]
  have e2:=xAA r[k].t (keyOf (r.take k)++numI r[k].k++numI r[k].i++numI (r[k].t.length:Int)) (by rw [<-kn,z8];omega)
  rw [xap (s':=(((k+1:Nat):Int),(keyOf (r.take (k+1))).length,byteAVs (keyOf (r.take (k+1))))) ?_]
  . exact xHR r hr h hk d (k+1) (by omega)
  . rw [tk,kn];simp only [xcL,xh0,xkC,xkD,xkE,xkF,xkG,sBU,q,i1,gf,cV0,cV1,cV2,lV,sV,e1,e2,xNG (n:=k) (by omega)]
theorem xHS (r:Row) (hr:r.length<=1048576) (h:∀ v,v∈r->KOk v) (hk:(keyOf r).length<=17592186044416):xid (r.map encV)=some (keyOf r):=by
 match r with
 | []=>rfl
 | v::t =>
  have hv:=h v (by simp)
  have hl:=hv.len;have i1:(0:Int)<((t.length+1:Nat):Int):=by omega
  have i2:0<t.length+1:=by omega
  obtain ⟨r1,r2⟩:=xN4 hv.1.1;have q:=Lib.itoa_length_le v.k r1 r2;have gf:((v::t).map encV).getD 0 .top=encV v:=rfl;have e0:xas (Lib.itoa v.k)=some (((Lib.itoa v.k).length:Int),(Lib.itoa v.k).length,byteAVs (Lib.itoa v.k)):=by
   have m1:(Lib.itoa v.k).length<=140737488355328:=by omega
   have m2:(Lib.itoa v.k).length<=4611686018427387904:=by omega
   unfold xas xd7;simp only [xld,Nat.mul_one,m1,m2,zn,Bool.and_self,xab,sUF]
  have e1:xe2 32 (Lib.itoa v.k).length (byteAVs (Lib.itoa v.k))=some (([]++numI v.k).length,byteAVs ([]++numI v.k)):=xDQ (Lib.itoa v.k) (by rw [z8,zj];omega)
  have e2:=xE7 ((v::t).map encV) ((t.length+1:Nat):Int) 0 v hv [] (by simp)
  have kn:keyV v=[]++numI v.k++numI v.i++numI (v.t.length:Int)++v.t:=by rw [xyt];simp
  have e3:=xAA v.t ([]++numI v.k++numI v.i++numI (v.t.length:Int)) (by rw [<-kn];omega)
  rw [<-kn] at e3;have e4:=xHR (v::t) hr h hk t.length 1 (by rw [zF];omega)
  have tk:keyOf ((v::t).take 1)=keyV v:=by simp [keyOf]
  rw [tk,zF] at e4;have e4:Iter (xcL ((v::t).map encV) ((t.length+1:Nat):Int)) ((1:Int),(keyV v).length,byteAVs (keyV v))=_:=e4;have hne:(keyOf (v::t)).length≠0:=fun e=>xAc v (keyOf t) (by rw [<-xlg];exact List.length_eq_zero_iff.1 e)
  unfold xid xph xhk xnw xny xnz xnA xnB xnC xnD xnE xnF xcp;simp only [za,zF,i1,i2,gf,cV0,cV1,cV2,lV,sV,r1,r2,e0,e1,e2,e3,e4,zn,xab,Bool.and_self,beq_self_eq_true,zk,zh,xld,xzd,xB9,ne_eq,hne,not_false_eq_true,sUF]
end Go.Sim.M
end
noncomputable section
set_option maxRecDepth 100000
namespace Go.Sim.M
open Go.RowKit
theorem xiW {σ ρ α β:Type} {step:σ->Option (σ⊕ρ)} (l:List α) (g:α->List β) (st:Nat->List β->σ) (rr:List β->ρ) (D0:List β) (c:Nat) (hc:∀ a,a∈l->(g a).length<=c)
  (hs:∀ (n:Nat) (h:n<l.length) (D:List β),D.length<=D0.length+c*n->step (st n D)=some (.inl (st (n+1) (D++g l[n]))))
  (he:∀ D:List β,step (st l.length D)=some (.inr (rr D))):Iter step (st 0 D0)=some (rr (D0++l.flatMap g)):=by
 have key:∀ (d n:Nat) (D:List β),n+d=l.length->D.length<=D0.length+c*n->Iter step (st n D)=some (rr (D++(l.drop n).flatMap g)):=by
  intro d;induction d with
  | zero =>
   intro n D h hD;have:n=l.length:=by omega
   subst this;rw [zq (zd _),List.flatMap_nil,zD];exact xag (he D)
  | succ d ih =>
   intro n D h hD;have hn:n<l.length:=by omega
   have h2:(D++g l[n]).length<=D0.length+c*(n+1):=by
    rw [z8,Nat.mul_add,Nat.mul_one];have:=hc l[n] (zo hn);omega
   rw [xap (hs n hn D hD),ih (n+1) (D++g l[n]) (by omega) h2,xa0 hn,zR,zw]
 have:=key l.length 0 D0 (by omega) (by simp)
 simpa using this
theorem xD2 {α β:Type} [Nonempty β] {l:List α} {Q:α->β->Prop} (h:∀ a,a∈l->∃ b,Q a b):∃ L:α->β,∀ a,a∈l->Q a (L a):=by
 classical
 refine ⟨fun a=>if ha:a∈l then (h a ha).choose else Classical.choice inferInstance,fun a ha=>?_⟩
 simp only [dif_pos ha];exact (h a ha).choose_spec
theorem xuB {α β:Type} (g:α->List β) (f:α->β) (p:α->Bool) (h:∀ a,g a=if p a=true then [f a] else []):∀ l:List α,l.flatMap g=(l.filter p).map f
 | []=>rfl
 | a::l=>by
  rw [zR,xuB g f p h l,h a,List.filter_cons];cases p a<;>simp
theorem xKT (row:Row) (i:Int):xmQ (row.map encV) i=some (trip (atV row i)):=xHn row i
theorem xv3 (row:Row) (l:List Int) (hl:l.length<=1048576):Iter (xdU (row.map encV) (l.map encN)) ((0:Nat),(0:Int),[])=some ((l.flatMap (fun (f:Int)=>[atV row f])).length,(l.flatMap (fun (f:Int)=>[atV row f])).map encV):=by
 refine xgL l (fun (f:Int)=>[atV row f]) encV 1 (fun f hf=>?_) (fun n h D hD=>?_) (fun D=>?_)
 . simp
 . have h1:(n:Int)<(l.length:Int):=by omega
   have m1:(D.length+1)*32<=140737488355328:=by omega
   have m2:D.length+1<=4611686018427387904:=by omega
   have gf:(l.map encN).getD n .top=encN l[n]:=xaa _ _ _ h;simp only [xdU,xkk,xi9,xja,sBU,h,h1,gf,cN,sN,xKT,trip,m1,m2,xNG (n:=n) (by omega)]
   simp [encV]
 . simp only [xdU,xkk,xi9,xja,za,zy,zm,xac,sUF]
theorem xIs (row:Row) (ks:List Int) (hk:ks.length<=1048576):xrO (row.map encV) (ks.map encN)=some ((pick row ks).map encV):=by
 have e:=xv3 row ks hk;rw [xN3] at e;change Iter _ _=some ((pick row ks).length,(pick row ks).map encV) at e;have tt:List.take (pick row ks).length ((pick row ks).map encV)=(pick row ks).map encV:=zi (by simp)
 unfold xrO xsn;simp only [xq1,xq2,xq3,za,e,zn,zS,xab,zk,zh,zH,zr,tt,zd,sUF]
theorem xDy (n:List UInt8) (cs fs ck:List AV) (key:List Int) (row:Row) (hk:key.length<=1048576):xni n cs (key.map encN) fs ck (row.map encV)=some ((pick row key).map encV):=by
 unfold xni xtX;rw [xIs row key hk];rfl
def Txt (r:Row):Prop:=∀ v,v∈r->v.wf/\v.t.length<=8388608
theorem Txt.at {r:Row} (h:Txt r) (i:Int):(atV r i).wf/\(atV r i).t.length<=8388608:=by
 unfold atV;split
 . exact ⟨⟨by decide,by decide,by simp [maxLen]⟩,by simp⟩
 . rw [z7];cases hg:r[i.toNat]? with
   | none=>exact ⟨⟨by decide,by decide,by simp [maxLen]⟩,by simp⟩
   | some v=>exact h v (List.mem_of_getElem? hg)
theorem xDh {r:Row} {ks:List Int} {v:Val} (h:v∈pick r ks):∃ i,i∈ks/\v=atV r i:=by
 obtain ⟨i,hi,e⟩:=zK.1 h;exact ⟨i,hi,e.symm⟩
theorem Txt.kok {r:Row} (h:Txt r) (ks:List Int):∀ v,v∈pick r ks->KOk v:=fun v hv=>by
 obtain ⟨i,_,rfl⟩:=xDh hv;have:=h.at i;exact ⟨this.1,by omega⟩
theorem xOp {c:Nat}:∀ {r:Row},(∀ v,v∈r->(keyV v).length<=c)->(keyOf r).length<=c*r.length
 | [],_=>by simp [keyOf]
 | v::r,h=>by
  have h1:=h v (by simp)
  have h2:=xOp (r:=r) fun x hx=>h x (by simp [hx])
  rw [xlg,z8,zF,Nat.mul_add,Nat.mul_one];omega
theorem Txt.len {r:Row} (h:Txt r) {ks:List Int} (hk:ks.length<=1048576):(keyOf (pick r ks)).length<=17592186044416:=by
 have h1:(keyOf (pick r ks)).length<=8388674*(pick r ks).length:=xOp fun v hv=>by
  obtain ⟨i,_,rfl⟩:=xDh hv;have:=h.at i;have:=xys this.1 (by omega)
  omega
 rw [xuQ] at h1;omega
theorem xMn (l:List AV):xhi l=xid l:=rfl
theorem xHF {r:Row} (h:Txt r) {ks:List Int} (hk:ks.length<=1048576):xhi ((pick r ks).map encV)=some (keyOf (pick r ks)):=by
 rw [xMn];exact xHS _ (by rw [xuQ];exact hk) (h.kok ks) (h.len hk)
abbrev En:=List UInt8×List Per
def xNQ (e:En):AV:=.agg [.str e.1,.list 2 (e.2.map encP)]
def xN7 (s:List UInt8) (n:Int):AV:=.agg [.str s,.int .i64 n]
def ixE:List En->List UInt8->Option Nat
 | [],_=>none
 | e::es,s=>match e.1==s with
  | true=>some 0
  | false=>(ixE es s).map (·+1)
theorem xvX (s:List UInt8):∀ es:List En,mapIx (es.map xNQ) s=ixE es s
 | []=>rfl
 | e::es=>by
  rw [zV,mapIx,ixE,xvX s es];rfl
theorem xvO {s:List UInt8}:∀ {es:List En} {i:Nat},ixE es s=some i->i<es.length
 | [],i,h=>by simp [ixE] at h
 | e::es,i,h=>by
  rw [ixE] at h;split at h
  . cases h;simp
  . cases hm:ixE es s with
    | none=>rw [hm] at h;simp at h
    | some j =>
     rw [hm] at h;simp only [Option.map_some,z6] at h;have:=xvO hm;subst h;simp;omega
theorem xE5 {s:List UInt8}:∀ {es:List En} {i:Nat},ixE es s=some i->(es.getD i default).1=s
 | [],i,h=>by simp [ixE] at h
 | e::es,i,h=>by
  rw [ixE] at h;split at h
  . rename_i he;cases h;simpa using he
  . cases hm:ixE es s with
    | none=>rw [hm] at h;simp at h
    | some j =>
     rw [hm] at h;simp only [Option.map_some,z6] at h;subst h;simpa using xE5 hm
def addE:List En->List UInt8->Per->List En
 | [],s,p=>[(s,[p])]
 | e::es,s,p=>match e.1==s with
  | true=>(e.1,e.2++[p])::es
  | false=>e::addE es s p
theorem xAD {s:List UInt8} {p:Per}:∀ {es:List En},ixE es s=none->addE es s p=es++[(s,[p])]
 | [],_=>rfl
 | e::es,h=>by
  rw [ixE] at h;split at h
  . simp at h
  . rename_i he;cases hm:ixE es s with
    | some j=>rw [hm] at h;simp at h
    | none=>rw [addE,he,xAD hm];rfl
theorem xAE {s:List UInt8} {p:Per}:∀ {es:List En} {i:Nat},ixE es s=some i->addE es s p=es.set i (s,(es.getD i default).2++[p])
 | [],i,h=>by simp [ixE] at h
 | e::es,i,h=>by
  rw [ixE] at h;split at h
  . rename_i he;cases h;have e1:e.1=s:=by simpa using he
    rw [addE,he];simp [e1]
  . rename_i he;cases hm:ixE es s with
    | none=>rw [hm] at h;simp at h
    | some j =>
     rw [hm] at h;simp only [Option.map_some,z6] at h;subst h;rw [addE,he,xAE hm];simp
def xNN:List En->List UInt8->List Per
 | [],_=>[]
 | e::es,s=>match e.1==s with
  | true=>e.2
  | false=>xNN es s
theorem xzi {s:List UInt8}:∀ {es:List En},ixE es s=none->xNN es s=[]
 | [],_=>rfl
 | e::es,h=>by
  rw [ixE] at h;split at h
  . simp at h
  . rename_i he;cases hm:ixE es s with
    | some j=>rw [hm] at h;simp at h
    | none=>rw [xNN,he];exact xzi hm
theorem xzj {s:List UInt8}:∀ {es:List En} {i:Nat},ixE es s=some i->xNN es s=(es.getD i default).2
 | [],i,h=>by simp [ixE] at h
 | e::es,i,h=>by
  rw [ixE] at h;split at h
  . rename_i he;cases h;rw [xNN,he];rfl
  . rename_i he;cases hm:ixE es s with
    | none=>rw [hm] at h;simp at h
    | some j =>
     rw [hm] at h;simp only [Option.map_some,z6] at h;subst h;rw [xNN,he];simpa using xzj hm
theorem xC4 (s s':List UInt8) (p:Per):∀ es:List En,xNN (addE es s p) s'=xNN es s'++if s==s' then [p] else []
 | []=>by simp only [addE,xNN];cases s==s'<;>simp
 | e::es=>by
  have ih:=xC4 s s' p es;rw [addE];cases he:e.1==s with
  | true =>
   have e1:e.1=s:=by simpa using he
   dsimp only;rw [xNN,xNN,e1];cases h:s==s' with
   | true=>simp
   | false=>simp
  | false =>
   dsimp only;rw [xNN,xNN,ih];cases h:e.1==s' with
   | false=>rfl
   | true =>
    have e1:e.1=s':=by simpa using h
    have:(s==s')=false:=by
     rw [<-e1,Bool.eq_false_iff];intro hh;rw [show s=e.1 by simpa using hh] at he
     simp at he
    simp [this]
theorem xyh (s:List UInt8) (p:Per):∀ es:List En,(addE es s p).length<=es.length+1
 | []=>by simp [addE]
 | e::es=>by
  have:=xyh s p es;rw [addE];cases e.1==s<;>simp<;>omega
theorem xA6 {α:Type} (k:α->List UInt8) (f:α->Per) (s:List UInt8):∀ (l:List α) (es:List En),xNN (l.foldl (fun es x=>addE es (k x) (f x)) es) s=xNN es s++(l.filter fun x=>k x==s).map f
 | [],es=>by simp
 | x::l,es=>by
  rw [List.foldl_cons,xA6 k f s l,xC4,List.filter_cons];cases k x==s<;>simp
end Go.Sim.M
end
noncomputable section
set_option maxRecDepth 100000
namespace Go.Sim.M
open Go.RowKit Go.Sim.Srt
abbrev Grp:=Row×List Per
def encG (g:Grp):AV:=.agg [.list 3 (g.1.map encV),.list 2 (g.2.map encP)]
def okEG (x:AV):Bool:=x.cells.length==(2:Nat)&&xOP [Sh.list (3:Nat),Sh.list (2:Nat)] x.cells (0:Nat)
def ldEG (x:AV):AV:=AV.agg [AV.list (3:Nat) (x.cells.getD (0:Nat) AV.top).toList,AV.list (2:Nat) (x.cells.getD (1:Nat) AV.top).toList]
def xOd (x y:AV):Bool:=(xgD (x.cells.getD 0 AV.top).toList (x.cells.getD 1 AV.top).toList (y.cells.getD 0 AV.top).toList (y.cells.getD 1 AV.top).toList).isSome
def xOf (x y:AV):Int:=(xgD (x.cells.getD 0 AV.top).toList (x.cells.getD 1 AV.top).toList (y.cells.getD 0 AV.top).toList (y.cells.getD 1 AV.top).toList).getD 0
theorem heG (a:Grp):okEG (encG a)=true:=rfl
theorem hdG (a:Grp):ldEG (encG a)=encG a:=rfl
section
variable {N : Nat} (hN : N <= 2 ^ 60) {ok : Grp -> Prop} {c : Grp -> Grp -> Int} (hc : ∀ x y, ok x -> ok y -> xOd (encG x) (encG y) = true /\ xOf (encG x) (encG y) = c x y)
include hN
include hc
theorem xNh (a b:Nat) (ha:a<=N) (hb:b<=N) {l r:List Grp} (hl:LOk N ok l) (hr:xNZ c a b l=some r):xaV N a b (List.map encG l)=some (List.map encG r)/\LOk N ok r:=by
 obtain ⟨e1,e2⟩:=xDG (enc:=encG) hN (c:=c) (ok:=ok) a b hb (gi:=fun i=>xba N a b i) (fun i l r hl hr=>xFl (okE:=okEG) (ldE:=ldEG) heG hdG hN (P:=xOd) (V:=xOf) hc a (fun j xs=>rfl) hl hr) (g:=xa9 N a b) (fun i xs=>rfl) hl hr
 refine ⟨?_,e2⟩;unfold xaV xd6;rw [w64 (x:=(a:Int)+1) (n:=a+1) (by omega) (by omega),e1];rfl
theorem xJQ (q:N<20) {l r:List Grp} (hl:LOk N ok l) (hr:xNZ c 0 N l=some r):xfl N N (List.map encG l)=some (List.map encG r)/\LOk N ok r:=by
 obtain ⟨e1,e2⟩:=xNh hN hc 0 N (by omega) (zd _) hl hr
 have e1:xaV N 0 N (List.map encG l)=_:=e1;have q0:Iter (xbn N N 20) ((0:Int),(20:Int),List.map encG l)=some ((0:Int),List.map encG l):=by
  refine xag ?_;have h1:¬ (20:Int)<=(N:Int):=by omega
  simp only [xbn,xfy,h1,zm,xac,sUF]
 have q1:Iter (xcj N N) ((20:Int),List.map encG r)=some (List.map encG r):=by
  refine xag ?_;have h1:¬ (20:Int)<(N:Int):=by omega
  simp only [xcj,xfz,h1,zm,xac,sUF]
 refine ⟨?_,e2⟩;simp only [xfl,xgS,xgt,xgu,xgv,q0,e1,q1,zk,zh,xab,sUF]
end
theorem xNk {N:Nat} (hN:N*48<=140737488355328) {ok:Grp->Prop} {c:Grp->Grp->Int} (hc:∀ x y:Grp,ok x->ok y->xOd (encG x) (encG y)=true/\xOf (encG x) (encG y)=c x y) (q:N<20) (l r:List Grp) (hl:l.length=N) (ho:∀ x,x∈l->ok x) (hr:xNZ c 0 N l=some r) :
  xg9 N (List.map encG l)=some (List.map encG r):=by
 obtain ⟨e1,e2⟩:=xJQ (N:=N) (by omega) (ok:=ok) hc q ⟨hl,ho⟩ hr
 simp only [xg9,xgp,e1,zk,zh,xab,sUF]
end Go.Sim.M
end
noncomputable section
set_option maxRecDepth 100000
namespace Go.Sim.M
open Go.RowKit Go.Sim.Srt
def ents:Nat->List Row->List AV
 | _,[]=>[]
 | k,r::R=>.agg [.str (keyOf r),.int .i64 (k:Int)]::ents (k+1) R
theorem xE2:∀ (R:List Row) (k:Nat) (r:Row),mapIx (ents k R) (keyOf r)=R.findIdx? fun x=>decide (x=r)
 | [],_,_=>rfl
 | x::R,k,r=>by
  have hk:isKey (keyOf r) (((AV.agg [.str (keyOf x),.int .i64 (k:Int)]).cells).getD 0 .top)=decide (x=r):=by
   show (keyOf x==keyOf r)=_;by_cases h:x=r
   . subst h;simp
   . have:¬ keyOf x=keyOf r:=fun e=>h (xAd e)
     simp [h,this]
  show (match isKey (keyOf r) (((AV.agg [.str (keyOf x),.int .i64 (k:Int)]).cells).getD 0 .top) with|true=>some 0|false=>(mapIx (ents (k+1) R) (keyOf r)).map (·+1))=_
  rw [hk,List.findIdx?_cons,xE2 R (k+1) r];by_cases h:x=r<;>simp [h]
theorem xCL:∀ (R:List Row) (k:Nat),(ents k R).length=R.length
 | [],_=>rfl
 | _::R,k=>by show (ents (k+1) R).length+1=_;rw [xCL R];rfl
theorem xAR:∀ (R:List Row) (k:Nat) (r:Row),ents k (R++[r])=ents k R++[.agg [.str (keyOf r),.int .i64 ((k+R.length:Nat):Int)]]
 | [],_,_=>rfl
 | x::R,k,r=>by
  show _::ents (k+1) (R++[r])=_;rw [xAR R (k+1) r,zF,show k+1+R.length=k+(R.length+1) by omega];rfl
theorem xCK:∀ (R:List Row) (k j:Nat) (h:j<R.length),(ents k R).getD j .top=.agg [.str (keyOf R[j]),.int .i64 ((k+j:Nat):Int)]
 | x::R,k,0,h=>rfl
 | x::R,k,j+1,h=>by
  show (ents (k+1) R).getD j .top=_;rw [xCK R (k+1) j (by simpa using h),show k+1+j=k+(j+1) by omega];rfl
def upd (G:List Grp) (f:Fc):List Grp:=match (G.map (·.1)).findIdx? fun x=>decide (x=f.r) with
 | some j=>G.set j (f.r,(G.getD j ([],[])).2++[f.p])
 | none=>G++[(f.r,[f.p])]
structure GI (l:List Fc) (G:List Grp):Prop where
 nd:(G.map (·.1)).Nodup
 mem:∀ r,r∈G.map (·.1)↔∃ f,f∈l/\f.r=r/\pv f.p=true
 ps:∀ g,g∈G->g.2=psOf l g.1
 len:G.length<=l.length
theorem GI.nil:GI [] []:=⟨List.nodup_nil,fun r=>by simp,fun g hg=>by simp at hg,zd _⟩
theorem xuj (l:List Fc) (f:Fc) (r:Row):psOf (l++[f]) r=psOf l r++(if f.r=r/\pv f.p=true then [f.p] else []):=by
 unfold psOf;rw [List.filter_append,zx];congr 1;by_cases h1:f.r=r<;>by_cases h2:pv f.p=true<;>simp [h1,h2]
theorem GI.skip {l:List Fc} {G:List Grp} (h:GI l G) {f:Fc} (hf:pv f.p=false):GI (l++[f]) G :=
 ⟨h.nd,fun r=>by
  rw [h.mem];refine ⟨fun ⟨g,hg,e⟩=>⟨g,by simp [hg],e⟩,fun ⟨g,hg,e1,e2⟩=>⟨g,?_,e1,e2⟩⟩
  rcases zG.1 hg with hg|hg
  . exact hg
  . rw [zv] at hg;subst hg;rw [hf] at e2;simp at e2,fun g hg=>by rw [xuj,if_neg (by rw [hf];simp),zD];exact h.ps g hg,by rw [z8];have:=h.len;omega⟩
theorem xvK {R:List Row} {r:Row} {j:Nat} (h:R.findIdx? (fun x=>decide (x=r))=some j):∃ hj:j<R.length,R[j]=r:=by
 obtain ⟨hj,h1,_⟩:=List.findIdx?_eq_some_iff_getElem.1 h;exact ⟨hj,by simpa using h1⟩
theorem xCN {R:List Row} {r:Row} (h:R.findIdx? (fun x=>decide (x=r))=none):r∉R:=fun hr=>by
 have:=List.findIdx?_eq_none_iff.1 h r hr;simp at this
theorem xAr {G:List Grp} {j:Nat} (hj:j<G.length) {ps:List Per} {r:Row} (hr:G[j].1=r):(G.set j (r,ps)).map (·.1)=G.map (·.1):=by
 rw [List.map_set];show (G.map (·.1)).set j r=_;rw [<-hr];have:(G.map (·.1))[j]'(by simpa using hj)=G[j].1:=by simp
 rw [<-this];exact List.set_getElem_self _
theorem GI.upd {l:List Fc} {G:List Grp} (h:GI l G) {f:Fc} (hf:pv f.p=true):GI (l++[f]) (M.upd G f):=by
 unfold M.upd;cases hi:(G.map (·.1)).findIdx? fun x=>decide (x=f.r) with
 | some j =>
  obtain ⟨hj,hr⟩:=xvK hi;rw [za] at hj;rw [List.getElem_map] at hr;dsimp only;have gd:G.getD j ([],[])=G[j]:=by rw [z7,ze hj];rfl
  rw [gd];refine ⟨by rw [xAr hj hr];exact h.nd,fun r=>?_,fun g hg=>?_,by rw [y2,z8];have:=h.len;omega⟩
  . rw [xAr hj hr,h.mem];refine ⟨fun ⟨g,hg,e⟩=>⟨g,by simp [hg],e⟩,fun ⟨g,hg,e1,e2⟩=>?_⟩
    rcases zG.1 hg with hg|hg
    . exact ⟨g,hg,e1,e2⟩
    . rw [zv] at hg;subst hg;refine (h.mem r).1 ?_;rw [<-e1,<-hr];exact zK.2 ⟨G[j],zo hj,rfl⟩
  . obtain ⟨i,q,rfl⟩:=zp.1 hg;rw [y2] at q;rw [List.getElem_set];by_cases J:j=i
    . subst J;rw [if_pos rfl,xuj,if_pos ⟨rfl,hf⟩,h.ps _ (zo hj),hr]
    . rw [if_neg J,xuj,if_neg ?_,zD]
      . exact h.ps _ (zo q)
      . rintro ⟨e,_⟩;have hn:=zB.1 h.nd;have ei:(G.map (·.1))[i]'(by simpa using q)=G[i].1:=by simp
        have ej:(G.map (·.1))[j]'(by simpa using hj)=G[j].1:=by simp
        rcases Nat.lt_or_gt_of_ne J with O|O
        . exact hn j i (by simpa using hj) (by simpa using q) O (by rw [ei,ej,hr,e])
        . exact hn i j (by simpa using q) (by simpa using hj) O (by rw [ei,ej,hr,e])
 | none =>
  have hr:=xCN hi;dsimp only;have hz:psOf l f.r=[]:=by
   unfold psOf;rw [List.map_eq_nil_iff,List.filter_eq_nil_iff];intro g hg he;simp only [zf,zl] at he;exact hr ((h.mem _).2 ⟨g,hg,he⟩)
  refine ⟨?_,fun r=>?_,fun g hg=>?_,by rw [z8,z8];have:=h.len;simp;omega⟩
  . rw [zx];refine List.nodup_append.2 ⟨h.nd,by simp,fun a ha b hb e=>?_⟩
    simp at hb;exact hr (by rw [<-hb,<-e];exact ha)
  . rw [zx,zG,h.mem];simp only [zV,zW,zv,zG];constructor
    . rintro (⟨g,hg,e⟩|rfl)
      . exact ⟨g,.inl hg,e⟩
      . exact ⟨f,.inr rfl,rfl,hf⟩
    . rintro ⟨g,hg|rfl,e⟩
      . exact .inl ⟨g,hg,e⟩
      . exact .inr e.1.symm
  . rcases zG.1 hg with hg|hg
    . rw [xuj,if_neg ?_,zD]
      . exact h.ps g hg
      . rintro ⟨e,_⟩;exact hr (by rw [e];exact zK.2 ⟨g,hg,rfl⟩)
    . rw [zv] at hg;subst hg;rw [xuj,if_pos ⟨rfl,hf⟩,hz];rfl
theorem cG0 (g:Grp):((encG g).cells.getD 0 .top).toList=g.1.map encV:=rfl
theorem xHL {α:Type} (l:List α) (x d:α):(l++[x]).getD l.length d=x:=by simp
theorem xJN {α:Type} (l:List α) (x y:α):(l++[x]).set l.length y=l++[y]:=by simp
theorem xOn (xs:List AV):(AV.agg xs).cells=xs:=rfl
theorem tolA (n:Nat) (xs:List AV):(AV.list n xs).toList=xs:=rfl
theorem xOq (k:IntKind) (n:Int):(AV.int k n).toInt=n:=rfl
theorem xOo (xs:List AV):xPo 2 (.list 2 xs)=true:=rfl
theorem xOt (n m:Nat):xPM (.int .i64 (n:Int)) m=decide (n<m):=rfl
theorem xOs:xPM (.int .i64 0) 1=true:=rfl
theorem g2a (a b:AV):[a,b].getD 0 .top=a:=rfl
theorem g2b (a b:AV):[a,b].getD 1 .top=b:=rfl
theorem lt2 (a b:AV):([a,b].length==2)=true:=rfl
theorem tk1 (a b:AV):List.take 1 [a,b]=[a]:=rfl
theorem dp2 (a b:AV):List.drop 2 [a,b]=[]:=rfl
theorem xE0 (g:Grp):encG g=.agg [.list 3 (g.1.map encV),.list 2 (g.2.map encP)]:=rfl
theorem xE1 (p:Per):encP p=.agg [.int .i64 p.1,.int .i64 p.2]:=rfl
def R20 (l:List Fc):Prop:=∃ R:List Row,R.length<20/\∀ f,f∈l->f.r∈R
theorem R20.few {l:List Fc} (h:l.length<20):R20 l:=⟨l.map (·.r),by rw [za];exact h,fun f hf=>zK.2 ⟨f,hf,rfl⟩⟩
theorem R20.of {l m:List Fc} (h:R20 l) (hm:∀ f,f∈m->∃ g,g∈l/\f.r=g.r):R20 m:=by
 obtain ⟨R,h1,h2⟩:=h;exact ⟨R,h1,fun f hf=>by obtain ⟨g,g1,g2⟩:=hm f hf;rw [g2];exact h2 g g1⟩
def Keyed (l:List Fc):Prop:=Few l/\(∀ f,f∈l->(∀ v,v∈f.r->KOk v)/\(keyOf f.r).length<=17592186044416)/\R20 l
theorem Keyed.key {l:List Fc} (h:Keyed l) {f:Fc} (hf:f∈l):xid (f.r.map encV)=some (keyOf f.r):=xHS f.r (h.1.2 f hf) (h.2.1 f hf).1 (h.2.1 f hf).2
theorem xIr (l:List Fc) (h:Keyed l) (k:Nat) (hk:k<l.length) (G:List Grp) (hG:GI (l.take k) G) :
  xa5 (l.map encF) ((l.length:Nat):Int) (G.length,(k:Int),ents 0 (G.map (·.1)),G.map encG) =
   some (.inl ((if pv l[k].p=true then upd G l[k] else G).length,((k+1:Nat):Int),ents 0 ((if pv l[k].p=true then upd G l[k] else G).map (·.1)),(if pv l[k].p=true then upd G l[k] else G).map encG)):=by
 have hl:=h.1.1;have i1:(k:Int)<(l.length:Int):=by omega
 have gf:(l.map encF).getD k .top=encF l[k]:=xaa _ _ _ hk;have ek:=h.key (zo hk);have kl:=(h.2.1 _ (zo hk)).2;have O:=hG.len;rw [zt] at O;cases hv:pv l[k].p with
 | false =>
  simp only [xa5,xdQ,sBU,i1,hk,gf,cF0,cF1,cF2,sF0,sF1,sF2,lF,sF12,sF02,xng,hv,xNG (n:=k) (by omega)]
  rfl
 | true =>
  have k1:(keyOf l[k].r).length<=4611686018427387904:=by omega
  have hx:=xE2 (G.map (·.1)) 0 l[k].r;have n1:(ents 0 (G.map (·.1))).length<4611686018427387904:=by rw [xCL,za];omega
  have m1:(G.length+1)*48<=140737488355328:=by omega
  have m2:G.length+1<=4611686018427387904:=by omega
  simp only [if_true];cases hi:(G.map (·.1)).findIdx? fun x=>decide (x=l[k].r) with
  | none =>
   rw [hi] at hx;have hu:upd G l[k]=G++[(l[k].r,[l[k].p])]:=by unfold upd;rw [hi]
   have hh:xPd (ents 0 (G.map (·.1))) (keyOf l[k].r)=false:=by unfold xPd;rw [hx];rfl
   have hg:xO1 (AV.int .i64 0) (ents 0 (G.map (·.1))) (keyOf l[k].r)=AV.int .i64 0:=by unfold xO1;rw [hx]
   have hp:xOx (ents 0 (G.map (·.1))) (keyOf l[k].r) (AV.int .i64 (G.length:Int))=ents 0 ((G++[(l[k].r,[l[k].p])]).map (·.1)):=by
    unfold xOx;rw [hx,zx];show _=ents 0 (G.map (·.1)++[l[k].r]);rw [xAR,za,zH]
   have i2:(G.length:Int)<((G.length+1:Nat):Int):=by omega
   have J:xOI (Sh.int .i64) (AV.int .i64 0)=true:=rfl;have gl:∀ x:AV,(G.map encG++[x]).getD G.length .top=x:=fun x=>by have:=xHL (G.map encG) x .top;rwa [za] at this
   have sl:∀ x y:AV,(G.map encG++[x]).set G.length y=G.map encG++[y]:=fun x y=>by have:=xJN (G.map encG) x y;rwa [za] at this
   rw [hu];simp only [xa5,xdQ,xgU,xgV,xdk,xdl,xeH,xgW,xeI,xaq,xgX,xar,xaL,xak,xd9,xf9,xga,xbe,xgb,xea,xbY,sBU,i1,hk,gf,cF0,cF1,cF2,sF0,sF1,sF2,lF,sF12,sF02,xng,hv,xNG (n:=k) (by omega),ek,k1,hh,hg,hp,n1,m1,m2,i2,J,gl,sl,z8,zj,zx,zV,zW,xOn,tolA,xOq,xOo,xOt,g2a,g2b,lt2,tk1,dp2,y2,Nat.lt_succ_self,Bool.and_self,List.length_nil,zH,xE0,xE1,List.singleton_append,zU,zD,Int.natCast_zero]
   try simp [xab,xOs,sUF]
  | some j =>
   obtain ⟨hj,hr⟩:=xvK hi;rw [hi] at hx;have q:j<G.length:=by simpa using hj
   rw [List.getElem_map] at hr;have gd:G.getD j ([],[])=G[j]:=by rw [z7,ze q];rfl
   have hu:upd G l[k]=G.set j (l[k].r,G[j].2++[l[k].p]):=by unfold upd;rw [hi];dsimp only;rw [gd]
   have hh:xPd (ents 0 (G.map (·.1))) (keyOf l[k].r)=true:=by unfold xPd;rw [hx];rfl
   have hg:xO1 (AV.int .i64 0) (ents 0 (G.map (·.1))) (keyOf l[k].r)=AV.int .i64 (j:Int):=by
    unfold xO1;rw [hx];dsimp only;rw [xCK _ _ _ hj,zH];rfl
   have gj:(G.map encG).getD j .top=encG G[j]:=xaa _ _ _ q;have i2:(j:Int)<(G.length:Int):=by omega
   have J:xOI (Sh.int .i64) (AV.int .i64 (j:Int))=true:=rfl;have pl:G[j].2.length<=k:=by
    rw [hG.ps _ (zo q)];have:=xIb (l.take k) G[j].1;rw [zt] at this;omega
   have m3:(G[j].2.length+1)*16<=140737488355328:=by omega
   have m4:G[j].2.length+1<=4611686018427387904:=by omega
   have gs:∀ x:AV,((G.map encG).set j x).getD j .top=x:=fun x=>by
    rw [z7,zL (by simpa using q)];rfl
   have ss:∀ x y:AV,((G.map encG).set j x).set j y=(G.map encG).set j y:=fun x y=>List.set_set ..
   have tj:(AV.int IntKind.i64 (j:Int)).toInt=(j:Int):=rfl;have cj:(encG G[j]).cells=[.list 3 (l[k].r.map encV),.list 2 (G[j].2.map encP)]:=by rw [<-hr];rfl
   rw [hu,xAr q hr,y2,List.map_set];simp only [xa5,xdQ,xgU,xgV,xdk,xdl,xeH,xgW,xeI,xaq,xgX,xar,xaL,xak,xd9,xf9,xga,xbe,xgb,xea,xbY,sBU,i1,hk,gf,cF0,cF1,cF2,sF0,sF1,sF2,lF,sF12,sF02,xng,hv,xNG (n:=k) (by omega),ek,k1,hh,hg,i2,J,tj,gj,cj,q,y2,gs,ss,xOn,tolA,xOq,xOo,xOt,g2a,g2b,lt2,tk1,dp2,m3,m4,Bool.and_self,z8,zj,Nat.lt_succ_self,xE0,xE1,zx,zV,zW,List.singleton_append,zD]
   try simp [xab,xOs,hr,sUF]
def grp (l:List Fc):List Grp:=l.foldl (fun G f=>if pv f.p=true then upd G f else G) []
theorem xCW (l:List Fc) (f:Fc):grp (l++[f])=if pv f.p=true then upd (grp l) f else grp l:=by simp [grp]
theorem xHM:∀ l:List Fc,GI l.reverse (grp l.reverse)
 | []=>GI.nil
 | f::l=>by
  rw [List.reverse_cons,xCW];have ih:=xHM l;cases hv:pv f.p with
  | true=>rw [if_pos rfl];exact ih.upd hv
  | false=>rw [if_neg (by simp)];exact ih.skip hv
theorem xHN (l:List Fc):GI l (grp l):=by have:=xHM l.reverse;rwa [List.reverse_reverse] at this
theorem xIq (l:List Fc) (h:Keyed l):Iter (xa5 (l.map encF) ((l.length:Nat):Int)) ((0:Nat),(0:Int),[],[])=some ((grp l).length,(grp l).map encG):=by
 refine xi6 (fun k=>(((grp (l.take k)).length,((k:Nat):Int),ents 0 ((grp (l.take k)).map (·.1)),(grp (l.take k)).map encG):Nat×Int×List AV×List AV)) l.length _ (fun k hk=>?_) ?_ l.length 0 (by omega)
 . rw [xIr l h k hk (grp (l.take k)) (xHN _)];have tk:l.take (k+1)=l.take k++[l[k]]:=by rw [List.take_add_one,ze hk];rfl
   rw [tk,xCW]
 . simp only [xa5,xdQ,za,zy,zm,xac,y4,sUF]
theorem xKy (x y:Grp) (hx:x.1.length<=4398046511104):xOd (encG x) (encG y)=true/\xOf (encG x) (encG y)=cmpR x.1 y.1:=by
 have e:xgD (x.1.map encV) (x.2.map encP) (y.1.map encV) (y.2.map encP)=some (cmpR x.1 y.1):=by
  unfold xgD xmC;rw [xwg x.1 y.1 (by unfold maxLen;omega)];rfl
 have e2:xgD ((encG x).cells.getD 0 .top).toList ((encG x).cells.getD 1 .top).toList ((encG y).cells.getD 0 .top).toList ((encG y).cells.getD 1 .top).toList=some (cmpR x.1 y.1):=e;unfold xOd xOf;rw [e2];exact ⟨rfl,rfl⟩
theorem xKV (l:List Fc) (h:Keyed l):∃ S:List Grp,xjH (l.map encF)=some (S.map encG)/\IsRows l (S.map (·.1))/\(∀ g,g∈S->g.2=psOf l g.1)/\S.length<=l.length:=by
 have hg:=xHN l;have U:=h.1.1;have O:=hg.len;have cG:Cm fun x y:Grp=>cmpR x.1 y.1:=xpb.on (e:=fun x:Grp=>x.1)
 obtain ⟨R,Q,hR⟩:=h.2.2;have J:(grp l).length<20:=by
  have:=hg.nd.length_le_of_subset (l₂:=R) fun r hr=>by
   obtain ⟨f,hf,e,_⟩:=(hg.mem r).1 hr;rw [<-e];exact hR f hf
  rw [za] at this;omega
 obtain ⟨r,e,p,s⟩:=xvN cG.ord [] (grp l) [];simp only [zU,zD,List.length_nil,zH] at e;have es:=xNk (N:=(grp l).length) (by omega) (ok:=fun g=>g.1.length<=1048576) (c:=fun x y:Grp=>cmpR x.1 y.1) (fun x y hx hy=>xKy x y (by omega)) J (grp l) r rfl (fun g q=>by
  obtain ⟨f,hf,e,_⟩:=(hg.mem g.1).1 (zK.2 ⟨g,q,rfl⟩);rw [<-e];exact h.1.2 f hf) e
 have rl:=p.length_eq;refine ⟨r,?_,⟨?_,fun x=>?_⟩,fun g q=>hg.ps g (p.mem_iff.1 q),by rw [rl];exact O⟩
 . have el:=xIq l h;have ra:xPe 2 1 ((grp l).map encG)=true:=by
    unfold xPe;rw [zI];intro x hx;obtain ⟨g,_,rfl⟩:=zK.1 hx;rfl
   have ll:(grp l).length<=r.length:=by omega
   have tt:List.take (grp l).length (r.map encG)=r.map encG:=zi (by rw [za];omega)
   unfold xjH xnG xmD xmE xi1 xmF xmG xmH;simp only [za,el,zk,zh,xab,ra,es,zH,ll,zn,zS,zr,tt,sUF]
 . refine xIz (fun _ _=>xky) ?_ ?_
   . exact List.pairwise_map.2 s
   . exact ((p.map (·.1)).nodup_iff).2 hg.nd
 . rw [(p.map (·.1)).mem_iff];exact hg.mem x
end Go.Sim.M
end
noncomputable section
set_option maxRecDepth 100000
namespace Go.Sim.M
open Go.RowKit Go.Lib
def xqS (l:List AV) (i:Int):Bool:=decide ((0:Int)<=i)&&decide (i<(↑l.length:Int))
def xu6 {T:Type} (l:List AV) (out_n:Nat) (q:Int) (na:Int) (nb:Int) (i:Int) (out_xs:List AV) (δ:T) (κl:(Int×Int×Int×List AV)->T) (κr:(Int×Int×Int×List AV)->T):T:=br (decide (i<(↑l.length:Int))) (br (xqS l i) (br (decide (i.toNat<l.length)&&xOI (Sh.int IntKind.i64) ((l.getD i.toNat AV.top).cells.getD (0:Nat) AV.top)) (br (((l.getD i.toNat AV.top).cells.getD (0:Nat) AV.top).toInt==q) (br (xqS l i) (br (decide (i.toNat<l.length)&&xOI (Sh.int IntKind.i64) ((l.getD i.toNat AV.top).cells.getD (1:Nat) AV.top)) (br (xqS l i) (br (decide (i.toNat<l.length)&&xOI (Sh.int IntKind.i64) ((l.getD i.toNat AV.top).cells.getD (2:Nat) AV.top)) (κl (IntKind.i64.wrap (na+((l.getD i.toNat AV.top).cells.getD (1:Nat) AV.top).toInt),IntKind.i64.wrap (nb+((l.getD i.toNat AV.top).cells.getD (2:Nat) AV.top).toInt),IntKind.i64.wrap (i+(1:Int)),out_xs)) (δ)) (δ)) (δ)) (δ)) (κr (na,nb,i,out_xs))) (δ)) (δ)) (κr (na,nb,i,out_xs))
def xhY (l:List AV) (out_n:Nat) (q:Int):(Int×Int×Int×List AV)->Option ((Int×Int×Int×List AV)⊕(Int×Int×Int×List AV)):=fun (na,nb,i,out_xs)=>xu6 l out_n q na nb i out_xs none (fun s=>some (.inl s)) (fun p=>some (.inr p))
def xnp (keep:Bool->Bool->Bool) (out_n:Nat):Bool:=decide ((0:Int)<=IntKind.i64.wrap ((↑out_n:Int) - (1:Int)))&&decide (IntKind.i64.wrap ((↑out_n:Int) - (1:Int))<(↑out_n:Int))
def xrS (keep:Bool->Bool->Bool) (l:List AV) (out_n:Nat) (na:Int) (nb:Int) (i:Int) (q:Int) (out_xs:List AV):Int×Int×Int×List AV:=(Iter (xhY l out_n q) (na,nb,i,out_xs)).getD ((0:Int),(0:Int),(0:Int),[])
def xck (keep:Bool->Bool->Bool) (out_n:Nat):Nat:=(0:Nat)+(IntKind.i64.wrap ((↑out_n:Int) - (1:Int))).toNat
def xtB (keep:Bool->Bool->Bool) (l:List AV) (out_n:Nat) (na:Int) (nb:Int) (i:Int) (q:Int) (out_xs:List AV):Int×Int×List AV:=(xrS keep l out_n na nb i q out_xs).snd
def xfC (keep:Bool->Bool->Bool) (l:List AV) (out_n:Nat) (na:Int) (nb:Int) (i:Int) (q:Int) (out_xs:List AV):Int:=(xrS keep l out_n na nb i q out_xs).fst
def xtA (keep:Bool->Bool->Bool) (l:List AV) (out_n:Nat) (na:Int) (nb:Int) (i:Int) (q:Int) (out_xs:List AV):Int×List AV:=(xtB keep l out_n na nb i q out_xs).snd
def xfB (keep:Bool->Bool->Bool) (l:List AV) (out_n:Nat) (na:Int) (nb:Int) (i:Int) (q:Int) (out_xs:List AV):Int:=(xtB keep l out_n na nb i q out_xs).fst
def xaO (keep:Bool->Bool->Bool) (l:List AV) (out_n:Nat) (na:Int) (nb:Int) (i:Int) (q:Int) (out_xs:List AV):List AV:=(xtA keep l out_n na nb i q out_xs).snd
def xty (keep:Bool->Bool->Bool) (l:List AV) (out_n:Nat) (na:Int) (nb:Int) (i:Int) (q:Int) (out_xs:List AV):Bool:=keep (decide (xfC keep l out_n na nb i q out_xs>(0:Int))) (decide (xfB keep l out_n na nb i q out_xs>(0:Int)))
def xa2 (keep:Bool->Bool->Bool) (l:List AV) (out_n:Nat) (na:Int) (nb:Int) (i:Int) (q:Int) (out_xs:List AV):Int:=(xtA keep l out_n na nb i q out_xs).fst
def xno (keep:Bool->Bool->Bool) (l:List AV) (out_n:Nat) (na:Int) (nb:Int) (i:Int) (q:Int) (out_xs:List AV):Bool:=decide (xck keep out_n<(xaO keep l out_n na nb i q out_xs).length)
def xtz (keep:Bool->Bool->Bool) (l:List AV) (out_n:Nat) (na:Int) (nb:Int) (i:Int) (q:Int) (out_xs:List AV):Bool:=decide (xa2 keep l out_n na nb i q out_xs<(↑l.length:Int))
def xp0 {T:Type} (keep:Bool->Bool->Bool) (l:List AV) (out_n:Nat) (na:Int) (nb:Int) (i:Int) (q:Int) (out_xs:List AV) (δ:T) (κl:(Nat×Int×Int×Int×Int×List AV)->T) (κr:(Nat×List AV)->T):T:=br (decide (q<(1099511627776:Int))) (br ((Iter (xhY l out_n q) (na,nb,i,out_xs)).isSome) (br (xtz keep l out_n na nb i q out_xs) (br (decide ((0:Int)<=xa2 keep l out_n na nb i q out_xs)&&xtz keep l out_n na nb i q out_xs) (br (decide ((xa2 keep l out_n na nb i q out_xs).toNat<l.length)&&xOI (Sh.int IntKind.i64) ((l.getD (xa2 keep l out_n na nb i q out_xs).toNat AV.top).cells.getD (0:Nat) AV.top)) (br (xty keep l out_n na nb i q out_xs) (br (decide ((↑out_n:Int)>(0:Int))) (br (xnp keep out_n) (br (xno keep l out_n na nb i q out_xs&&xOI (Sh.int IntKind.i64) (((xaO keep l out_n na nb i q out_xs).getD (xck keep out_n) AV.top).cells.getD (1:Nat) AV.top)) (br ((((xaO keep l out_n na nb i q out_xs).getD (xck keep out_n) AV.top).cells.getD (1:Nat) AV.top).toInt==q) (br (xnp keep out_n) (br (xno keep l out_n na nb i q out_xs) (κl (out_n,xfC keep l out_n na nb i q out_xs,xfB keep l out_n na nb i q out_xs,xa2 keep l out_n na nb i q out_xs,((l.getD (xa2 keep l out_n na nb i q out_xs).toNat AV.top).cells.getD (0:Nat) AV.top).toInt,(xaO keep l out_n na nb i q out_xs).set (xck keep out_n) (AV.agg (List.take (1:Nat) ((xaO keep l out_n na nb i q out_xs).getD (xck keep out_n) AV.top).cells++[AV.int IntKind.i64 ((l.getD (xa2 keep l out_n na nb i q out_xs).toNat AV.top).cells.getD (0:Nat) AV.top).toInt]++List.drop (2:Nat) ((xaO keep l out_n na nb i q out_xs).getD (xck keep out_n) AV.top).cells)))) (δ)) (δ)) (br (out_n==(xaO keep l out_n na nb i q out_xs).length&&(decide ((out_n+(1:Nat))*(16:Nat)<=(140737488355328:Nat))&&decide (out_n+(1:Nat)<=(4611686018427387904:Nat)))) (κl (out_n+(1:Nat),xfC keep l out_n na nb i q out_xs,xfB keep l out_n na nb i q out_xs,xa2 keep l out_n na nb i q out_xs,((l.getD (xa2 keep l out_n na nb i q out_xs).toNat AV.top).cells.getD (0:Nat) AV.top).toInt,xaO keep l out_n na nb i q out_xs++[AV.agg [AV.int IntKind.i64 q,AV.int IntKind.i64 ((l.getD (xa2 keep l out_n na nb i q out_xs).toNat AV.top).cells.getD (0:Nat) AV.top).toInt]])) (δ))) (δ)) (δ)) (br (out_n==(xaO keep l out_n na nb i q out_xs).length&&(decide ((out_n+(1:Nat))*(16:Nat)<=(140737488355328:Nat))&&decide (out_n+(1:Nat)<=(4611686018427387904:Nat)))) (κl (out_n+(1:Nat),xfC keep l out_n na nb i q out_xs,xfB keep l out_n na nb i q out_xs,xa2 keep l out_n na nb i q out_xs,((l.getD (xa2 keep l out_n na nb i q out_xs).toNat AV.top).cells.getD (0:Nat) AV.top).toInt,xaO keep l out_n na nb i q out_xs++[AV.agg [AV.int IntKind.i64 q,AV.int IntKind.i64 ((l.getD (xa2 keep l out_n na nb i q out_xs).toNat AV.top).cells.getD (0:Nat) AV.top).toInt]])) (δ))) (κl (out_n,xfC keep l out_n na nb i q out_xs,xfB keep l out_n na nb i q out_xs,xa2 keep l out_n na nb i q out_xs,((l.getD (xa2 keep l out_n na nb i q out_xs).toNat AV.top).cells.getD (0:Nat) AV.top).toInt,xaO keep l out_n na nb i q out_xs))) (δ)) (δ)) (br (xty keep l out_n na nb i q out_xs) (br (decide ((↑out_n:Int)>(0:Int))) (br (xnp keep out_n) (br (xno keep l out_n na nb i q out_xs&&xOI (Sh.int IntKind.i64) (((xaO keep l out_n na nb i q out_xs).getD (xck keep out_n) AV.top).cells.getD (1:Nat) AV.top)) (br ((((xaO keep l out_n na nb i q out_xs).getD (xck keep out_n) AV.top).cells.getD (1:Nat) AV.top).toInt==q) (br (xnp keep out_n) (br (xno keep l out_n na nb i q out_xs) (κl (out_n,xfC keep l out_n na nb i q out_xs,xfB keep l out_n na nb i q out_xs,xa2 keep l out_n na nb i q out_xs,(1099511627776:Int),(xaO keep l out_n na nb i q out_xs).set (xck keep out_n) (AV.agg (List.take (1:Nat) ((xaO keep l out_n na nb i q out_xs).getD (xck keep out_n) AV.top).cells++[AV.int IntKind.i64 (1099511627776:Int)]++List.drop (2:Nat) ((xaO keep l out_n na nb i q out_xs).getD (xck keep out_n) AV.top).cells)))) (δ)) (δ)) (br (out_n==(xaO keep l out_n na nb i q out_xs).length&&(decide ((out_n+(1:Nat))*(16:Nat)<=(140737488355328:Nat))&&decide (out_n+(1:Nat)<=(4611686018427387904:Nat)))) (κl (out_n+(1:Nat),xfC keep l out_n na nb i q out_xs,xfB keep l out_n na nb i q out_xs,xa2 keep l out_n na nb i q out_xs,(1099511627776:Int),xaO keep l out_n na nb i q out_xs++[AV.agg [AV.int IntKind.i64 q,AV.int IntKind.i64 (1099511627776:Int)]])) (δ))) (δ)) (δ)) (br (out_n==(xaO keep l out_n na nb i q out_xs).length&&(decide ((out_n+(1:Nat))*(16:Nat)<=(140737488355328:Nat))&&decide (out_n+(1:Nat)<=(4611686018427387904:Nat)))) (κl (out_n+(1:Nat),xfC keep l out_n na nb i q out_xs,xfB keep l out_n na nb i q out_xs,xa2 keep l out_n na nb i q out_xs,(1099511627776:Int),xaO keep l out_n na nb i q out_xs++[AV.agg [AV.int IntKind.i64 q,AV.int IntKind.i64 (1099511627776:Int)]])) (δ))) (κl (out_n,xfC keep l out_n na nb i q out_xs,xfB keep l out_n na nb i q out_xs,xa2 keep l out_n na nb i q out_xs,(1099511627776:Int),xaO keep l out_n na nb i q out_xs)))) (δ)) (κr (out_n,out_xs))
def xgB (keep:Bool->Bool->Bool) (l:List AV):(Nat×Int×Int×Int×Int×List AV)->Option ((Nat×Int×Int×Int×Int×List AV)⊕(Nat×List AV)):=fun (out_n,na,nb,i,q,out_xs)=>xp0 keep l out_n na nb i q out_xs none (fun s=>some (.inl s)) (fun p=>some (.inr p))
def xzU (keep:Bool->Bool->Bool) (a:List AV) (b:List AV):Option (Nat×List AV):=Iter (xgB keep ((xhF a b).getD [])) ((0:Nat),(0:Int),(0:Int),(0:Int),(0:Int),[])
def xzT (keep:Bool->Bool->Bool) (a:List AV) (b:List AV):Nat×List AV:=(xzU keep a b).getD ((0:Nat),[])
def xzR (keep:Bool->Bool->Bool) (a:List AV) (b:List AV):List AV:=(xzT keep a b).snd
def xzS (keep:Bool->Bool->Bool) (a:List AV) (b:List AV):Nat:=(xzT keep a b).fst
def xKc {T:Type} (keep:Bool->Bool->Bool) (a:List AV) (b:List AV) (δ:T) (κ:List AV->T):T:=br ((xhF a b).isSome) (br ((xzU keep a b).isSome) (br (decide ((0:Nat)+xzS keep a b<=(xzR keep a b).length)&&true) (κ (List.take (xzS keep a b) (List.drop (0:Nat) (xzR keep a b)))) (δ)) (δ)) (δ)
def swG (keep:Bool->Bool->Bool) (a:List AV) (b:List AV):Option (List AV):=xKc keep a b none some
end Go.Sim.M
end
noncomputable section
set_option maxRecDepth 100000
namespace Go.Sim.M
open Go.RowKit Go.Lib Go.Sort
def xNI (e:Edg):AV:=.agg [.int .i64 e.1,.int .i64 e.2.1,.int .i64 e.2.2]
theorem xwM (x y:Int):∀ a b,xND x y (a++b)=xND x y a++xND x y b
 | [],b=>rfl
 | p::a,b=>by
  simp only [List.cons_append,xND,xwM x y a b];split<;>rfl
theorem xy5 (x y:Int) (l:List Per) (n:Nat) (h:n<l.length):xND x y (l.take (n+1))=xND x y (l.take n)++(if pv l[n]=true then [(l[n].1,x,y),(l[n].2,-x,-y)] else []):=by
 rw [List.take_add_one,ze h];show xND x y (l.take n++[l[n]])=_;rw [xwM];rfl
theorem xwK (B:List AV) (l:List Per) (hl:l.length<=1073741824):∀ (k n:Nat),n+k=l.length ->
  Iter (xbU B (l.map encP) ((l.length:Nat):Int)) ((xND 1 0 (l.take n)).length,((n:Nat):Int),(xND 1 0 (l.take n)).map xNI)=some ((xND 1 0 l).length,(xND 1 0 l).map xNI)
 | 0,n,hk=>by
  obtain rfl:n=l.length:=by omega
  rw [zi (zd _)];refine xag ?_;unfold xbU;simp only;unfold xkr;rw [decide_eq_false (by omega:¬ ((l.length:Nat):Int)<((l.length:Nat):Int))]
  rfl
 | k+1,n,hk=>by
  have h1:n<l.length:=by omega
  have J:=xkM 1 0 (l.take n);have q:(l.take n).length<=n:=by rw [zt];omega
  have d1:((n:Nat):Int)<((l.length:Nat):Int):=by omega
  have d2:(0:Int)<=((n:Nat):Int):=by omega
  have d3:((xND 1 0 (l.take n)).length+2)*24<=140737488355328:=by omega
  have d4:(xND 1 0 (l.take n)).length+2<=4611686018427387904:=by omega
  have d5:((xND 1 0 (l.take n)).length==(xND 1 0 (l.take n)).length)=true:=by simp
  have gf:(l.map encP).getD n .top=encP l[n]:=xaa _ _ _ h1;have c0:((encP l[n]).cells.getD 0 .top).toInt=l[n].1:=rfl;have c1:((encP l[n]).cells.getD 1 .top).toInt=l[n].2:=rfl;have sh:((encP l[n]).cells.length==(2:Nat)&&xOP [Sh.int IntKind.i64,Sh.int IntKind.i64] (encP l[n]).cells (0:Nat))=true:=rfl;have st:xbU B (l.map encP) ((l.length:Nat):Int) ((xND 1 0 (l.take n)).length,((n:Nat):Int),(xND 1 0 (l.take n)).map xNI) =
    some (.inl ((xND 1 0 (l.take (n+1))).length,((n+1:Nat):Int),(xND 1 0 (l.take (n+1))).map xNI)):=by
   rw [xy5 1 0 l n h1];unfold xbU;simp only;unfold xkr;rw [zN,gf,sh,c0,c1,xng,za,za,decide_eq_true d1,decide_eq_true d2,decide_eq_true h1,decide_eq_true d3,decide_eq_true d4,d5,xjG (show n+1<=maxLen by unfold maxLen;omega)]
   cases pv l[n] with
   | true=>simp only [if_true,z8,zx];rfl
   | false=>simp only [zT,if_false,zD];rfl
  rw [xap st];exact xwK B l hl k (n+1) (by omega)
theorem xwL (E0:List Edg) (l:List Per) (hl:l.length<=1073741824) (hE:E0.length<=2147483648):∀ (k n:Nat),n+k=l.length ->
  Iter (xd2 (l.map encP) ((l.length:Nat):Int)) ((E0++xND 0 1 (l.take n)).length,((n:Nat):Int),(E0++xND 0 1 (l.take n)).map xNI)=some ((E0++xND 0 1 l).length,(E0++xND 0 1 l).map xNI)
 | 0,n,hk=>by
  obtain rfl:n=l.length:=by omega
  rw [zi (zd _)];refine xag ?_;unfold xd2;simp only;unfold xks;rw [decide_eq_false (by omega:¬ ((l.length:Nat):Int)<((l.length:Nat):Int))]
  rfl
 | k+1,n,hk=>by
  have h1:n<l.length:=by omega
  have J:=xkM 0 1 (l.take n);have q:(l.take n).length<=n:=by rw [zt];omega
  have O:(E0++xND 0 1 (l.take n)).length=E0.length+(xND 0 1 (l.take n)).length:=z8;have d1:((n:Nat):Int)<((l.length:Nat):Int):=by omega
  have d2:(0:Int)<=((n:Nat):Int):=by omega
  have d3:((E0++xND 0 1 (l.take n)).length+2)*24<=140737488355328:=by omega
  have d4:(E0++xND 0 1 (l.take n)).length+2<=4611686018427387904:=by omega
  have d5:((E0++xND 0 1 (l.take n)).length==(E0++xND 0 1 (l.take n)).length)=true:=by simp
  have gf:(l.map encP).getD n .top=encP l[n]:=xaa _ _ _ h1;have c0:((encP l[n]).cells.getD 0 .top).toInt=l[n].1:=rfl;have c1:((encP l[n]).cells.getD 1 .top).toInt=l[n].2:=rfl;have sh:((encP l[n]).cells.length==(2:Nat)&&xOP [Sh.int IntKind.i64,Sh.int IntKind.i64] (encP l[n]).cells (0:Nat))=true:=rfl;have st:xd2 (l.map encP) ((l.length:Nat):Int) ((E0++xND 0 1 (l.take n)).length,((n:Nat):Int),(E0++xND 0 1 (l.take n)).map xNI) =
    some (.inl ((E0++xND 0 1 (l.take (n+1))).length,((n+1:Nat):Int),(E0++xND 0 1 (l.take (n+1))).map xNI)):=by
   rw [xy5 0 1 l n h1,<-zw];unfold xd2;simp only;unfold xks;rw [zN,gf,sh,c0,c1,xng,za,za,decide_eq_true d1,decide_eq_true d2,decide_eq_true h1,decide_eq_true d3,decide_eq_true d4,d5,xjG (show n+1<=maxLen by unfold maxLen;omega)]
   cases pv l[n] with
   | true=>rw [if_pos rfl,z8 (bs:=[(l[n].1,0,1),(l[n].2,-0,-1)]),zx (l₂:=[(l[n].1,0,1),(l[n].2,-0,-1)])];rfl
   | false=>rw [if_neg (by simp),zD];rfl
  rw [xap st];exact xwL E0 l hl hE k (n+1) (by omega)
def toE (e:Edg):TyE:=(Fin.ofNat 1099511627777 e.1.toNat,e.2.1,e.2.2)
def ofE (x:TyE):Edg:=((x.1.val:Int),x.2.1,x.2.2)
theorem xKK {e:Edg} (h1:0<=e.1) (h2:e.1<=1099511627776):ofE (toE e)=e:=by
 have:e.1.toNat % 1099511627777=e.1.toNat:=Nat.mod_eq_of_lt (by omega)
 simp only [ofE,toE,Fin.ofNat,this,Int.toNat_of_nonneg h1]
theorem xK4 (E:List Edg) (h:∀ e,e∈E->0<=e.1/\e.1<=1099511627776):(E.map xNI).all isE=true/\∃ S:List Edg,srtE (E.map xNI)=S.map xNI/\S.Perm E/\S.Pairwise fun x y=>x.1<=y.1:=by
 refine ⟨?_,(pdqL cmpE (E.map toE)).map ofE,?_,?_,?_⟩
 . rw [zI];intro x hx;obtain ⟨e,he,rfl⟩:=zK.1 hx;have:=h e he;show (decide _&&decide _)=true;rw [decide_eq_true this.1,decide_eq_true this.2];rfl
 . unfold srtE;have e1:(E.map xNI).map decE=E.map toE:=by rw [List.map_map];rfl
   rw [e1,List.map_map];rfl
 . have hp:=((xqp cmpE swoE (E.map toE)).1).map ofE;have e2:(E.map toE).map ofE=E:=by
    rw [List.map_map]
    conv=>rhs;rw [<-List.map_id E]
    refine List.map_congr_left fun e he=>?_
    exact xKK (h e he).1 (h e he).2
   rwa [e2] at hp
 . rw [List.pairwise_map];refine (xwX cmpE swoE (E.map toE)).imp fun {x y} q=>?_
   show ((x.1.val:Nat):Int)<=((y.1.val:Nat):Int);unfold cmpE at q;omega
theorem xI7 (a b:List Per) (ha:a.length<=1073741824) (hb:b.length<=1073741824) :
  ∃ S:List Edg,xhF (a.map encP) (b.map encP)=some (S.map xNI)/\S.Perm (xND 1 0 a++xND 0 1 b)/\S.Pairwise fun x y=>x.1<=y.1:=by
 have l1:=xkM 1 0 a;have l2:=xkM 0 1 b;have O:(xND 1 0 a++xND 0 1 b).length=(xND 1 0 a).length+(xND 0 1 b).length:=z8;obtain ⟨q,S,hS,hp,hs⟩:=xK4 (xND 1 0 a++xND 0 1 b) (fun e he=>by
  rcases zG.1 he with he|he
  . exact xnb 1 0 a e he
  . exact xnb 0 1 b e he)
 refine ⟨S,?_,hp,hs⟩;have h0:=xwK (b.map encP) a ha a.length 0 (by omega)
 rw [List.take_zero] at h0;have h1:=xwL (xND 1 0 a) b hb (by omega) b.length 0 (by omega)
 rw [List.take_zero] at h1;have h0:Iter (xbU (b.map encP) (a.map encP) (((a.map encP).length:Nat):Int)) (0,0,[])=some ((xND 1 0 a).length,(xND 1 0 a).map xNI):=by rw [za];exact h0
 have v4:xmv (a.map encP) (b.map encP)=((xND 1 0 a).length,(xND 1 0 a).map xNI):=by unfold xmv;rw [h0];rfl
 have v3:xmu (a.map encP) (b.map encP)=some ((xND 1 0 a++xND 0 1 b).length,(xND 1 0 a++xND 0 1 b).map xNI):=by
  unfold xmu;rw [v4,za];have e:xND 1 0 a++xND 0 1 []=xND 1 0 a:=zD _;rw [e] at h1;exact h1
 have v2:xmt (a.map encP) (b.map encP)=((xND 1 0 a++xND 0 1 b).length,(xND 1 0 a++xND 0 1 b).map xNI):=by unfold xmt;rw [v3];rfl
 have v0:xhg (a.map encP) (b.map encP)=(xND 1 0 a++xND 0 1 b).length:=by unfold xhg;rw [v2]
 have v1:xhh (a.map encP) (b.map encP)=(xND 1 0 a++xND 0 1 b).map xNI:=by unfold xhh;rw [v2]
 have J:S.length=(xND 1 0 a++xND 0 1 b).length:=hp.length_eq;have d1:(xND 1 0 a++xND 0 1 b).length<4611686018427387904:=by omega
 have d2:0+(xND 1 0 a++xND 0 1 b).length<=(S.map xNI).length:=by rw [za,J];omega
 have d3:(xND 1 0 a++xND 0 1 b).length.beq (xND 1 0 a++xND 0 1 b).length=true:=Nat.beq_refl _;have tk:List.take (xND 1 0 a++xND 0 1 b).length (List.drop 0 (S.map xNI))=S.map xNI:=by rw [zr,zi (by rw [za,J];exact zd _)]
 unfold xhF xsM;rw [h0,v3,v0,v1,q,hS,tk,za,d3,decide_eq_true d1,decide_eq_true d2];rfl
theorem xHU (out:List Per) (h:out≠[]):out=out.dropLast++[out[out.length - 1]'(by have:=List.length_pos_iff.2 h;omega)]:=by
 have:=List.dropLast_concat_getLast h;rw [List.getLast_eq_getElem] at this;exact this.symm
section
variable (S : List Edg) (hS1 : ∀ e, e ∈ S -> 0 <= e.1 /\ e.1 <= 1099511627776) (hS2 : ∀ e, e ∈ S -> (-1 <= e.2.1 /\ e.2.1 <= 1) /\ (-1 <= e.2.2 /\ e.2.2 <= 1)) (hS3 : S.Pairwise fun x y => x.1 <= y.1) (hS4 : S.length <= 8589934592)
theorem xAw (g:Edg->Int):∀ l:List Edg,(∀ e,e∈l->-1<=g e/\g e<=1)->-(l.length:Int)<=xNE g l/\xNE g l<=l.length
 | [],_=>by simp [xNE]
 | e::l,h=>by
  have:=xAw g l fun x hx=>h x (List.mem_cons_of_mem _ hx)
  have:=h e (List.mem_cons_self ..);simp only [xNE,zF];omega
theorem xDM (g:Edg->Int) (n:Nat) (h:n<S.length):xNE g (S.take (n+1))=xNE g (S.take n)+g S[n]:=by
 rw [List.take_add_one,ze h];show xNE g (S.take n++[S[n]])=_;rw [xvr];simp [xNE]
include hS1 hS2 hS3 hS4
theorem xzc (on:Nat) (at':Int) (ox:List AV):∀ (k i:Nat),i+k=S.length->∃ j:Nat,i<=j/\j<=S.length /\
  Iter (xhY (S.map xNI) on at') (xNE (·.2.1) (S.take i),xNE (·.2.2) (S.take i),((i:Nat):Int),ox)=some (xNE (·.2.1) (S.take j),xNE (·.2.2) (S.take j),((j:Nat):Int),ox) /\
  (∀ (m:Nat) (h:m<S.length),i<=m->m<j->S[m].1=at')/\∀ (h:j<S.length),S[j].1≠at'
 | 0,i,hk=>by
  obtain rfl:i=S.length:=by omega
  refine ⟨S.length,zd _,zd _,xag ?_,fun m _ h1 h2=>by omega,fun h=>absurd h (Nat.lt_irrefl _)⟩
  unfold xhY;simp only;unfold xu6;rw [za,decide_eq_false (by omega:¬ ((S.length:Nat):Int)<((S.length:Nat):Int))]
  rfl
 | k+1,i,hk=>by
  have h1:i<S.length:=by omega
  have d1:((i:Nat):Int)<((S.length:Nat):Int):=by omega
  have d2:(0:Int)<=((i:Nat):Int):=by omega
  have gf:(S.map xNI).getD i .top=xNI S[i]:=xaa _ _ _ h1;have c0:((xNI S[i]).cells.getD 0 .top).toInt=S[i].1:=rfl;have c1:((xNI S[i]).cells.getD 1 .top).toInt=S[i].2.1:=rfl;have c2:((xNI S[i]).cells.getD 2 .top).toInt=S[i].2.2:=rfl;have s0:xOI (Sh.int IntKind.i64) ((xNI S[i]).cells.getD 0 .top)=true:=rfl;have s1:xOI (Sh.int IntKind.i64) ((xNI S[i]).cells.getD 1 .top)=true:=rfl;have s2:xOI (Sh.int IntKind.i64) ((xNI S[i]).cells.getD 2 .top)=true:=rfl;have v0:xqS (S.map xNI) ((i:Nat):Int)=true:=by unfold xqS;rw [za,decide_eq_true d1,decide_eq_true d2];rfl
  by_cases he:S[i].1=at'
  . have hb:=hS2 S[i] (zo h1);have b1:=xAw (·.2.1) (S.take i) fun e he=>(hS2 e (List.mem_of_mem_take he)).1
    have b2:=xAw (·.2.2) (S.take i) fun e he=>(hS2 e (List.mem_of_mem_take he)).2
    have hl:(S.take i).length=i:=by rw [zt];omega
    rw [hl] at b1 b2;have b3:=xDM S (·.2.1) i h1;have b4:=xDM S (·.2.2) i h1;have w1:IntKind.i64.wrap (xNE (·.2.1) (S.take i)+S[i].2.1)=xNE (·.2.1) (S.take (i+1)):=by rw [b3];exact xdP (by omega) (by omega)
    have w2:IntKind.i64.wrap (xNE (·.2.2) (S.take i)+S[i].2.2)=xNE (·.2.2) (S.take (i+1)):=by rw [b4];exact xdP (by omega) (by omega)
    have st:xhY (S.map xNI) on at' (xNE (·.2.1) (S.take i),xNE (·.2.2) (S.take i),((i:Nat):Int),ox)=some (.inl (xNE (·.2.1) (S.take (i+1)),xNE (·.2.2) (S.take (i+1)),((i+1:Nat):Int),ox)):=by
     unfold xhY;simp only;unfold xu6;have e1:(S[i].1==at')=true:=by simp [he]
     rw [v0,zN,gf,s0,s1,s2,c0,c1,c2,za,decide_eq_true d1,decide_eq_true h1,e1,w1,w2,xjG (show i+1<=maxLen by unfold maxLen;omega)]
     rfl
    obtain ⟨j,j1,j2,j3,j4,j5⟩:=xzc on at' ox k (i+1) (by omega)
    refine ⟨j,by omega,j2,by rw [xap st];exact j3,fun m hm h2 h3=>?_,j5⟩
    rcases Nat.eq_or_lt_of_le h2 with rfl|h2
    . exact he
    . exact j4 m hm h2 h3
  . refine ⟨i,zd _,by omega,xag ?_,fun m _ h2 h3=>by omega,fun _=>he⟩
    unfold xhY;simp only;unfold xu6;have e1:(S[i].1==at')=false:=by simp [he]
    rw [v0,zN,gf,s0,c0,za,decide_eq_true d1,decide_eq_true h1,e1];rfl
omit hS1 hS2 hS3 hS4
def SwI (K:Int->Bool) (s:Nat×Int×Int×Int×Int×List AV):Prop :=
 ∃ (out:List Per) (i:Nat) (at':Int),s=(out.length,xNE (·.2.1) (S.take i),xNE (·.2.2) (S.take i),((i:Nat):Int),at',out.map encP)/\0<=at'/\at'<=1099511627776/\i<=S.length /\
  (∀ (m:Nat) (h:m<S.length),m<i->S[m].1<at')/\(∀ (m:Nat) (h:m<S.length),i<=m->at'<=S[m].1)/\OutOk out at' K/\(out.length:Int)<=at'
include hS1 hS2 hS3 hS4
set_option maxHeartbeats 4000000 in
theorem xEK (keep:Bool->Bool->Bool) (a b:List Per) (hp:S.Perm (xND 1 0 a++xND 0 1 b)) (s:Nat×Int×Int×Int×Int×List AV) (hs:SwI S (fun t=>keep (inL a t) (inL b t)) s) :
  (∃ s',xgB keep (S.map xNI) s=some (.inl s')/\SwI S (fun t=>keep (inL a t) (inL b t)) s'/\(1099511627776 - s'.2.2.2.2.1).toNat<(1099511627776 - s.2.2.2.2.1).toNat) \/
  ∃ r,xgB keep (S.map xNI) s=some (.inr r)/\∃ out:List Per,r=(out.length,out.map encP)/\OutOk out 1099511627776 (fun t=>keep (inL a t) (inL b t)):=by
 obtain ⟨out,i,at',rfl,al,az,hi,ax,ay,J,a1⟩:=hs;by_cases hF:at'<1099511627776
 . left;obtain ⟨j,j1,j2,j3,j4,j5⟩:=xzc S hS1 hS2 hS3 hS4 out.length at' (out.map encP) (S.length - i) i (by omega)
   have aj:∀ (m:Nat) (h:m<S.length),m<j->S[m].1<=at':=fun m h hm=>by
    by_cases aw:m<i
    . have:=ax m h aw;omega
    . have:=j4 m h (by omega) hm;omega
   have ao:∀ (m:Nat) (h:m<S.length),j<=m->at'<S[m].1:=fun m h hm=>by
    have hj:j<S.length:=by omega
    have h1:=ay j hj (by omega)
    have h2:=j5 hj;have h3:S[j].1<=S[m].1:=by
     rcases Nat.eq_or_lt_of_le hm with rfl|hm
     . exact Int.le_refl _
     . exact zB.1 hS3 j m hj h hm
    omega
   obtain ⟨nx,O⟩:∃ nx:Int,nx=if h:j<S.length then S[j].1 else 1099511627776:=⟨_,rfl⟩
   have ab:at'<nx:=by
    rw [O];split
    . rename_i h;exact ao j h (zd _)
    . exact hF
   have Q:nx<=1099511627776:=by
    rw [O];split
    . rename_i h;exact (hS1 _ (zo h)).2
    . exact Int.le_refl _
   have am:∀ (m:Nat) (h:m<S.length),j<=m->nx<=S[m].1:=fun m h hm=>by
    have hj:j<S.length:=by omega
    rw [O,dif_pos hj];rcases Nat.eq_or_lt_of_le hm with rfl|hm
    . exact Int.le_refl _
    . exact zB.1 hS3 j m hj h hm
   have ag:∀ (g:Edg->Int) (t:Int),at'<=t->t<nx->xNE g (S.take j)=xNO g t S:=fun g t Z Y=>by
    conv=>rhs;rw [<-List.take_append_drop j S]
    rw [xoM,xBD,xzN]
    . omega
    . intro e he;obtain ⟨m,hm,rfl⟩:=zp.1 he;rw [List.getElem_drop];have:=am (j+m) (by rw [y1] at hm;omega) (by omega)
      omega
    . intro e he;obtain ⟨m,hm,rfl⟩:=zp.1 he;rw [List.getElem_take];rw [zt] at hm;have:=aj m (by omega) (by omega)
      omega
   have ak:∀ t,at'<=t->t<nx->decide (xNE (·.2.1) (S.take j)>0)=inL a t/\decide (xNE (·.2.2) (S.take j)>0)=inL b t:=fun t Z Y=>by
    rw [ag _ t Z Y,ag _ t Z Y,xzO _ t hp,xzO _ t hp,xoM,xoM,xu5,xw7,xzQ,xw8,Int.add_zero,Int.zero_add,xCG,xCG];exact ⟨rfl,rfl⟩
   obtain ⟨kv,aq⟩:∃ kv:Bool,kv=keep (decide (xNE (·.2.1) (S.take j)>0)) (decide (xNE (·.2.2) (S.take j)>0)):=⟨_,rfl⟩;have hK:∀ t,at'<=t->t<nx->keep (inL a t) (inL b t)=kv:=fun t Z Y=>by
    rw [aq,(ak t Z Y).1,(ak t Z Y).2]
   have ap:xrS keep (S.map xNI) out.length (xNE (·.2.1) (S.take i)) (xNE (·.2.2) (S.take i)) ((i:Nat):Int) at' (out.map encP)=(xNE (·.2.1) (S.take j),xNE (·.2.2) (S.take j),((j:Nat):Int),out.map encP):=by unfold xrS;rw [j3];rfl
   have v8:xfC keep (S.map xNI) out.length (xNE (·.2.1) (S.take i)) (xNE (·.2.2) (S.take i)) ((i:Nat):Int) at' (out.map encP)=xNE (·.2.1) (S.take j):=by unfold xfC;rw [ap]
   have v9:xtB keep (S.map xNI) out.length (xNE (·.2.1) (S.take i)) (xNE (·.2.2) (S.take i)) ((i:Nat):Int) at' (out.map encP)=(xNE (·.2.2) (S.take j),((j:Nat):Int),out.map encP):=by unfold xtB;rw [ap]
   have v7:xfB keep (S.map xNI) out.length (xNE (·.2.1) (S.take i)) (xNE (·.2.2) (S.take i)) ((i:Nat):Int) at' (out.map encP)=xNE (·.2.2) (S.take j):=by unfold xfB;rw [v9]
   have v6:xtA keep (S.map xNI) out.length (xNE (·.2.1) (S.take i)) (xNE (·.2.2) (S.take i)) ((i:Nat):Int) at' (out.map encP)=(((j:Nat):Int),out.map encP):=by unfold xtA;rw [v9]
   have v1:xaO keep (S.map xNI) out.length (xNE (·.2.1) (S.take i)) (xNE (·.2.2) (S.take i)) ((i:Nat):Int) at' (out.map encP)=out.map encP:=by unfold xaO;rw [v6]
   have v3:xa2 keep (S.map xNI) out.length (xNE (·.2.1) (S.take i)) (xNE (·.2.2) (S.take i)) ((i:Nat):Int) at' (out.map encP)=((j:Nat):Int):=by unfold xa2;rw [v6]
   have v2:xty keep (S.map xNI) out.length (xNE (·.2.1) (S.take i)) (xNE (·.2.2) (S.take i)) ((i:Nat):Int) at' (out.map encP)=kv:=by unfold xty;rw [v8,v7,<-aq]
   have v0:xno keep (S.map xNI) out.length (xNE (·.2.1) (S.take i)) (xNE (·.2.2) (S.take i)) ((i:Nat):Int) at' (out.map encP)=decide (xck keep out.length<out.length):=by unfold xno;rw [v1,za]
   have v5:xtz keep (S.map xNI) out.length (xNE (·.2.1) (S.take i)) (xNE (·.2.2) (S.take i)) ((i:Nat):Int) at' (out.map encP)=decide (j<S.length):=by
    unfold xtz;rw [v3,za];by_cases h:j<S.length
    . rw [decide_eq_true h,decide_eq_true (by omega)]
    . rw [decide_eq_false h,decide_eq_false (by omega)]
   have ah:(out.length+1)*16<=140737488355328:=by omega
   have ai:out.length+1<=4611686018427387904:=by omega
   have e1:(out.length==out.length)=true:=by simp
   have dF:decide (at'<1099511627776)=true:=decide_eq_true hF;have dj:decide ((0:Int)<=((j:Nat):Int))=true:=decide_eq_true (by omega)
   have U:∀ h:j<S.length,(((S.map xNI).getD j .top).cells.getD 0 .top).toInt=nx:=fun h=>by
    rw [xaa _ _ _ h,O,dif_pos h];rfl
   have ae:∀ h:j<S.length,xOI (Sh.int IntKind.i64) (((S.map xNI).getD j .top).cells.getD 0 .top)=true:=fun h=>by
    rw [xaa _ _ _ h];rfl
   have af:∀ q:List Per,OutOk q nx (fun t=>keep (inL a t) (inL b t))->(q.length:Int)<=nx->SwI S (fun t=>keep (inL a t) (inL b t)) (q.length,xNE (·.2.1) (S.take j),xNE (·.2.2) (S.take j),((j:Nat):Int),nx,q.map encP):=fun q ho hl =>
    ⟨q,j,nx,rfl,by omega,Q,j2,fun m h hm=>by have:=aj m h hm;omega,fun m h hm=>am m h hm,ho,hl⟩
   have mu:(1099511627776 - nx).toNat<(1099511627776 - at').toNat:=by omega
   cases kv with
   | false =>
    refine ⟨(out.length,xNE (·.2.1) (S.take j),xNE (·.2.2) (S.take j),((j:Nat):Int),nx,out.map encP),?_,af out (J.skip (by omega) hK) (by omega),mu⟩
    unfold xgB;simp only;unfold xp0;rw [v1,v2,v3,v5,v7,v8,j3,dF,dj,zN,za];by_cases hj:j<S.length
    . rw [decide_eq_true hj,ae hj,U hj];rfl
    . rw [decide_eq_false hj];have:nx=1099511627776:=by rw [O,dif_neg hj]
      rw [this];rfl
   | true =>
    by_cases hne:out=[]
    . have aa:=J.add al ab Q hK (fun p hp=>by rw [hne] at hp;cases hp)
      refine ⟨((out++[(at',nx)]).length,xNE (·.2.1) (S.take j),xNE (·.2.2) (S.take j),((j:Nat):Int),nx,(out++[(at',nx)]).map encP),?_,af _ aa (by rw [z8,zj];omega),mu⟩
      have dl:decide (((out.length:Nat):Int)>0)=false:=by rw [hne];rfl
      unfold xgB;simp only;unfold xp0;rw [v1,v2,v3,v5,v7,v8,j3,dF,dj,zN,za,za,dl,e1,decide_eq_true ah,decide_eq_true ai];by_cases hj:j<S.length
      . rw [decide_eq_true hj,ae hj,U hj,zx,z8];rfl
      . rw [decide_eq_false hj];have:nx=1099511627776:=by rw [O,dif_neg hj]
        rw [this,zx,z8];rfl
    . have a0:=List.length_pos_iff.2 hne;have w1:IntKind.i64.wrap (((out.length:Nat):Int) - 1)=((out.length - 1:Nat):Int):=by rw [xdP (by omega) (by omega)];omega
      have au:xck keep out.length=out.length - 1:=by unfold xck;rw [w1,zN];omega
      have v4:xnp keep out.length=true:=by
       unfold xnp;rw [w1,decide_eq_true (by omega),decide_eq_true (by omega)];rfl
      have dl:decide (((out.length:Nat):Int)>0)=true:=decide_eq_true (by omega)
      have dv:decide (out.length - 1<out.length)=true:=decide_eq_true (by omega)
      have an:out.length - 1<out.length:=by omega
      have gl:(out.map encP).getD (out.length - 1) .top=encP out[out.length - 1]:=xaa _ _ _ an;have cl:((encP out[out.length - 1]).cells.getD 1 .top).toInt=out[out.length - 1].2:=rfl;have sl:xOI (Sh.int IntKind.i64) ((encP out[out.length - 1]).cells.getD 1 .top)=true:=rfl;have ad:=xHU out hne;by_cases hl:out[out.length - 1].2=at'
      . have ar:=OutOk.ext (o:=out.dropLast) (p:=out[out.length - 1]) (by rw [<-ad];exact J) hl ab Q hK
        have W:(out.dropLast++[(out[out.length - 1].1,nx)]).length=out.length:=by rw [z8,List.length_dropLast,zj];omega
        have ac:(out.map encP).set (out.length - 1) (AV.agg (List.take 1 (encP out[out.length - 1]).cells++[AV.int IntKind.i64 nx]++List.drop 2 (encP out[out.length - 1]).cells))=(out.dropLast++[(out[out.length - 1].1,nx)]).map encP:=by
         have e2:AV.agg (List.take 1 (encP out[out.length - 1]).cells++[AV.int IntKind.i64 nx]++List.drop 2 (encP out[out.length - 1]).cells)=encP (out[out.length - 1].1,nx):=rfl;rw [e2,<-List.map_set];congr 1;have e3:out.set (out.length - 1) (out[out.length - 1].1,nx)=(out.dropLast++[out[out.length - 1]]).set (out.length - 1) (out[out.length - 1].1,nx):=congrArg (fun l=>List.set l (out.length - 1) (out[out.length - 1].1,nx)) ad
         rw [e3,List.set_append_right _ _ (by rw [List.length_dropLast];exact zd _),List.length_dropLast,Nat.sub_self];rfl
        refine ⟨((out.dropLast++[(out[out.length - 1].1,nx)]).length,xNE (·.2.1) (S.take j),xNE (·.2.2) (S.take j),((j:Nat):Int),nx,(out.dropLast++[(out[out.length - 1].1,nx)]).map encP),?_,af _ ar (by rw [W];omega),mu⟩
        have e4:(out[out.length - 1].2==at')=true:=by simp [hl]
        unfold xgB;simp only;unfold xp0;rw [v0,v1,v2,v3,v4,v5,v7,v8,au,j3,dF,dj,zN,za,gl,cl,sl,dl,dv,e4];by_cases hj:j<S.length
        . rw [decide_eq_true hj,ae hj,U hj,ac,W];rfl
        . rw [decide_eq_false hj];have:nx=1099511627776:=by rw [O,dif_neg hj]
          rw [this] at ac W |-;rw [ac,W];rfl
      . have aa:=J.add al ab Q hK (fun p hp=>by
         rw [ad] at hp;rcases zG.1 hp with hp|hp
         . have h1:=J.span.2;rw [ad] at h1;have:=(List.pairwise_append.1 h1).2.2 p hp _ (zv.2 rfl);have h2:=J.low _ (zo an);have h3:=xcs.1 (J.span.1 _ (zo an));omega
         . rw [zv.1 hp];exact hl)
        refine ⟨((out++[(at',nx)]).length,xNE (·.2.1) (S.take j),xNE (·.2.2) (S.take j),((j:Nat):Int),nx,(out++[(at',nx)]).map encP),?_,af _ aa (by rw [z8,zj];omega),mu⟩
        have e4:(out[out.length - 1].2==at')=false:=by simp [hl]
        unfold xgB;simp only;unfold xp0;rw [v0,v1,v2,v3,v4,v5,v7,v8,au,j3,dF,dj,zN,za,za,gl,cl,sl,dl,dv,e4,e1,decide_eq_true ah,decide_eq_true ai];by_cases hj:j<S.length
        . rw [decide_eq_true hj,ae hj,U hj,zx,z8];rfl
        . rw [decide_eq_false hj];have:nx=1099511627776:=by rw [O,dif_neg hj]
          rw [this,zx,z8];rfl
 . right;have:at'=1099511627776:=by omega
   subst this;refine ⟨(out.length,out.map encP),?_,out,rfl,J⟩;unfold xgB;simp only;unfold xp0;rw [decide_eq_false hF];rfl
end
theorem xuz:∀ (l:List Per) (e:Edg),e∈xND 1 0 l->(-1<=e.2.1/\e.2.1<=1)/\(-1<=e.2.2/\e.2.2<=1)
 | [],e,h=>by cases h
 | p::l,e,h=>by
  unfold xND at h;split at h
  . rcases zC.1 h with rfl|h
    . simp
    . rcases zC.1 h with rfl|h
      . simp
      . exact xuz l e h
  . exact xuz l e h
theorem xuA:∀ (l:List Per) (e:Edg),e∈xND 0 1 l->(-1<=e.2.1/\e.2.1<=1)/\(-1<=e.2.2/\e.2.2<=1)
 | [],e,h=>by cases h
 | p::l,e,h=>by
  unfold xND at h;split at h
  . rcases zC.1 h with rfl|h
    . simp
    . rcases zC.1 h with rfl|h
      . simp
      . exact xuA l e h
  . exact xuA l e h
theorem xIB (keep:Bool->Bool->Bool) (a b:List Per) (ha:a.length<=1073741824) (hb:b.length<=1073741824) :
  ∃ r:List Per,swG keep (a.map encP) (b.map encP)=some (r.map encP)/\IsSpan r/\∀ t,inL r t=(decide (0<=t)&&(decide (t<1099511627776)&&keep (inL a t) (inL b t))):=by
 obtain ⟨S,hS,hp,Q⟩:=xI7 a b ha hb;have l1:=xkM 1 0 a;have l2:=xkM 0 1 b;have W:S.length=(xND 1 0 a++xND 0 1 b).length:=hp.length_eq;rw [z8] at W;have q:∀ e,e∈S->e∈xND 1 0 a\/e∈xND 0 1 b:=fun e he=>zG.1 (hp.mem_iff.1 he)
 have J:∀ e,e∈S->0<=e.1/\e.1<=1099511627776:=fun e he=>(q e he).elim (xnb 1 0 a e) (xnb 0 1 b e)
 have U:∀ e,e∈S->(-1<=e.2.1/\e.2.1<=1)/\(-1<=e.2.2/\e.2.2<=1):=fun e he=>(q e he).elim (xuz a e) (xuA b e)
 obtain ⟨r,hr,out,rfl,O⟩:=xCx (SwI S (fun t=>keep (inL a t) (inL b t))) (fun s=>(1099511627776 - s.2.2.2.2.1).toNat) (fun r=>∃ out:List Per,r=(out.length,out.map encP)/\OutOk out 1099511627776 (fun t=>keep (inL a t) (inL b t)))
  (xEK S J U Q (by omega) keep a b hp) (0,0,0,0,0,[]) ⟨[],0,0,rfl,Int.le_refl _,by omega,zQ _,fun m _ h=>by omega,fun m h _=>(J _ (zo h)).1,xtg _,by simp⟩
 refine ⟨out,?_,O.span,O.done⟩;have v3:xzU keep (a.map encP) (b.map encP)=some (out.length,out.map encP):=by unfold xzU;rw [hS];exact hr
 have v2:xzT keep (a.map encP) (b.map encP)=(out.length,out.map encP):=by unfold xzT;rw [v3];rfl
 have v0:xzS keep (a.map encP) (b.map encP)=out.length:=by unfold xzS;rw [v2]
 have v1:xzR keep (a.map encP) (b.map encP)=out.map encP:=by unfold xzR;rw [v2]
 have d1:0+out.length<=out.length:=by omega
 unfold swG xKc;rw [hS,v3,v0,v1,za,decide_eq_true d1,zr,zi (by rw [za];exact zd _)]
 rfl
theorem xGz (a b:List AV):xsO a b=swG xnm a b:=rfl
theorem xKa (a:List Per) (ha:a.length<=1073741824):∃ r:List Per,xnl (a.map encP)=some (r.map encP)/\IsSpan r/\∀ t,inL r t=inL a t:=by
 obtain ⟨r,h1,h2,h3⟩:=xIB xnm a [] ha (by simp)
 refine ⟨r,?_,h2,fun t=>?_⟩
 . unfold xnl xwc;rw [xGz,show ([]:List AV)=([]:List Per).map encP from rfl,h1];rfl
 . rw [h3 t];cases hc:inL a t with
   | false=>simp [xnm,xaI,sUF]
   | true=>have:=xwr hc;simp [xnm,xaI,this,sUF]
theorem xGy (a b:List AV):xsN a b=swG xex a b:=rfl
theorem xCZ (a b:List Per) (ha:a.length<=1073741824) (hb:b.length<=1073741824) :
  ∃ r:List Per,xiF (a.map encP) (b.map encP)=some (r.map encP)/\IsSpan r/\∀ t,inL r t=(inL a t&&inL b t):=by
 obtain ⟨r,h1,h2,h3⟩:=xIB xex a b ha hb;refine ⟨r,?_,h2,fun t=>?_⟩
 . unfold xiF xm4;rw [xGy,h1];rfl
 . rw [h3 t];cases hc:inL a t with
   | false=>simp [xex,xaI,sUF]
   | true=>have:=xwr hc;simp [xex,xaI,this,sUF]
end Go.Sim.M
end
noncomputable section
set_option maxRecDepth 100000
namespace Go.Sim.M
open Go.RowKit Go.Sim.Srt
abbrev Asc (l:List Int):Prop:=l.Pairwise fun x y=>x<y
def insI:List Int->Int->List Int
 | [],n=>[n]
 | x::l,n=>if x<n then x::insI l n else if n<x then n::x::l else x::l
theorem xpj:∀ (l:List Int) (n x:Int),x∈insI l n↔x=n\/x∈l
 | [],n,x=>by simp [insI]
 | y::l,n,x=>by
  unfold insI;split
  . rw [zC,xpj l n x,zC];constructor<;>rintro (h|h|h)<;>simp [h]
  . split
    . simp
    . have:y=n:=by omega
      subst this;simp
theorem xr5:∀ {l:List Int},Asc l->∀ n,Asc (insI l n)
 | [],_,n=>by simp [insI,Asc]
 | y::l,h,n=>by
  obtain ⟨h1,h2⟩:=zM.1 h;unfold insI;split
  . refine zM.2 ⟨fun z hz=>?_,xr5 h2 n⟩
    rcases (xpj l n z).1 hz with rfl|hz
    . assumption
    . exact h1 z hz
  . split
    . rename_i hn;refine zM.2 ⟨fun z hz=>?_,h⟩
      rcases zC.1 hz with rfl|hz
      . exact hn
      . have:=h1 z hz;omega
    . exact h
theorem xi5:∀ (l:List Int) (n:Int),(insI l n).length<=l.length+1
 | [],n=>by simp [insI]
 | y::l,n=>by
  unfold insI;have:=xi5 l n;repeat' split
  all_goals simp
  all_goals omega
theorem xyo (n:Int):∀ l:List Int,∃ m,m<=l.length/\(∀ k (h:k<m) (h2:k<l.length),l[k]<n)/\(∀ h:m<l.length,¬ l[m]<n)/\insI l n=l.take m++(if h:m<l.length then (if n<l[m] then n::l.drop m else l.drop m) else [n])
 | []=>⟨0,zd _,fun k h=>by omega,fun h=>by simp at h,by simp [insI]⟩
 | y::l=>by
  by_cases hy:y<n
  . obtain ⟨m,h1,h2,h3,h4⟩:=xyo n l;refine ⟨m+1,by simpa using h1,fun k h hk=>?_,fun h=>?_,?_⟩
    . cases k with
      | zero=>simpa using hy
      | succ k=>simpa using h2 k (by omega) (by simpa using hk)
    . simpa using h3 (by simpa using h)
    . unfold insI;rw [if_pos hy,h4];by_cases hm:m<l.length<;>simp [hm]
  . refine ⟨0,zQ _,fun k h=>by omega,fun _=>by simpa using hy,?_⟩
    unfold insI;rw [if_neg hy];by_cases h:n<y<;>simp [h]
structure StepI (N:Int->Int) (T:Int) (S:List Per):Prop where
 asc:S.Pairwise fun a b=>a.1<b.1
 mem:∀ s,s∈S↔0<=s.1/\s.1<T/\s.2=N s.1/\(s.1=0\/N (s.1 - 1)≠s.2)
 last:0<T->∃ S' f,S=S'++[(f,N (T - 1))]
theorem StepI.nil (N:Int->Int):StepI N 0 []:=⟨List.Pairwise.nil,fun s=>by simp;omega,fun h=>by omega⟩
def putS (S:List Per) (f n:Int):List Per:=match S.getLast? with
 | some s=>if s.2=n then S else S++[(f,n)]
 | none=>S++[(f,n)]
theorem StepI.unique {N:Int->Int} {T:Int} {S S':List Per} (h:StepI N T S) (h':StepI N T S'):S=S' :=
 xvp xMi xs8 (h.asc.imp fun {x y} q=>by
  have h1:cmpP x y<=0:=xwo.2 (.inl q);by_cases h0:cmpP x y=0
  . have:=xs8 x y h0;subst this;omega
  . omega) (h'.asc.imp fun {x y} q=>by
  have h1:cmpP x y<=0:=xwo.2 (.inl q);by_cases h0:cmpP x y=0
  . have:=xs8 x y h0;subst this;omega
  . omega) fun s=>by rw [h.mem,h'.mem]
theorem StepI.put {N:Int->Int} {T T':Int} {S:List Per} (h:StepI N T S) (h0:0<=T) (q:T<T') (hc:∀ t,T<=t->t<T'->N t=N T):StepI N T' (putS S T (N T)):=by
 rcases Int.lt_or_eq_of_le h0 with hp|hz
 . obtain ⟨S',f,rfl⟩:=h.last hp;unfold putS;rw [List.getLast?_append];simp only [List.getLast?_singleton,Option.some_or];by_cases he:N (T - 1)=N T
   . rw [if_pos he];refine ⟨h.asc,fun s=>?_,fun _=>⟨S',f,by rw [he,hc (T' - 1) (by omega) (by omega)]⟩⟩
     rw [h.mem];constructor
     . rintro ⟨a,b,c,d⟩;exact ⟨a,by omega,c,d⟩
     . rintro ⟨a,b,c,d⟩;refine ⟨a,?_,c,d⟩;rcases Int.lt_or_le s.1 T with hs|hs
       . exact hs
       . exfalso;have e1:=hc s.1 hs b;rcases d with d|d
         . omega
         . rcases Int.lt_or_eq_of_le hs with h2|h2
           . have e2:=hc (s.1 - 1) (by omega) (by omega)
             exact d (by rw [e2,c,e1])
           . rw [<-h2] at d c;exact d (by rw [he,c])
   . rw [if_neg he];refine ⟨?_,fun s=>?_,fun _=>⟨_,T,by rw [hc (T' - 1) (by omega) (by omega)]⟩⟩
     . rw [List.pairwise_append];refine ⟨h.asc,List.pairwise_singleton _ _,fun a ha b hb=>?_⟩
       simp only [zv] at hb;subst hb;exact ((h.mem a).1 ha).2.1
     . rw [zG,h.mem,zv];constructor
       . rintro (⟨a,b,c,d⟩|rfl)
         . exact ⟨a,by omega,c,d⟩
         . exact ⟨h0,q,rfl,.inr he⟩
       . rintro ⟨a,b,c,d⟩;rcases Int.lt_or_le s.1 T with hs|hs
         . exact .inl ⟨a,hs,c,d⟩
         . right;have e1:=hc s.1 hs b;rcases Int.lt_or_eq_of_le hs with h2|h2
           . exfalso;have e2:=hc (s.1 - 1) (by omega) (by omega)
             rcases d with d|d
             . omega
             . exact d (by rw [e2,c,e1])
           . exact Prod.ext h2.symm (by rw [c,e1])
 . subst hz;have hS:S=[]:=by
    rw [List.eq_nil_iff_forall_not_mem];intro s hs;have:=(h.mem s).1 hs;omega
   subst hS;refine ⟨by simp [putS],fun s=>?_,fun _=>⟨[],0,by simp [putS];exact (hc (T' - 1) (by omega) (by omega)).symm⟩⟩
   simp only [putS,List.getLast?_nil,zU,zv];constructor
   . rintro rfl;exact ⟨Int.le_refl _,q,rfl,.inl rfl⟩
   . rintro ⟨a,b,c,d⟩;have e1:=hc s.1 a b;rcases Int.lt_or_eq_of_le a with h2|h2
     . exfalso;have e2:=hc (s.1 - 1) (by omega) (by omega)
       rcases d with d|d
       . omega
       . exact d (by rw [e2,c,e1])
     . exact Prod.ext h2.symm (by rw [c,e1])
theorem xDn (S:List Per) (f n:Int):(putS S f n).length<=S.length+1:=by
 unfold putS;repeat' split
 all_goals simp
def sumC (l:List Cnt) (t:Int):Int:=(l.map fun c=>if hasP c.1 t=true then c.2 else 0).sum
theorem xnn (c:Cnt) (l:List Cnt) (t:Int):sumC (c::l) t=(if hasP c.1 t=true then c.2 else 0)+sumC l t:=by simp [sumC]
theorem xEJ (a b:List Cnt) (t:Int):sumC (a++b) t=sumC a t+sumC b t:=by simp [sumC]
theorem xDK (t:Int):sumC [] t=0:=rfl
theorem xzP {T T':Int}:∀ {l:List Cnt},(∀ c,c∈l->pv c.1=true->¬ (T<c.1.1/\c.1.1<T')/\¬ (T<c.1.2/\c.1.2<T'))->∀ t,T<=t->t<T'->sumC l t=sumC l T
 | [],_,t,_,_=>rfl
 | c::l,h,t,h1,h2=>by
  rw [xnn,xnn,xzP (fun c hc=>h c (by simp [hc])) t h1 h2]
  congr 2;cases hv:pv c.1 with
  | false=>simp [hasP,hv]
  | true =>
   have:=h c (by simp) hv
   simp only [hasP,hv,Bool.true_and,zf,zl,eq_iff_iff];omega
theorem xDJ (B:Int) (hB:0<=B) (t:Int):∀ l:List Cnt,(∀ c,c∈l->-B<=c.2/\c.2<=B)->-(B*l.length)<=sumC l t/\sumC l t<=B*l.length
 | [],_=>by simp [xDK]
 | c::l,h=>by
  have ih:=xDJ B hB t l fun c hc=>h c (by simp [hc])
  have hc:=h c (by simp)
  rw [xnn,zF,show B*((l.length+1:Nat):Int)=B*(l.length:Int)+B by rw [Int.natCast_add,Int.mul_add];simp]
  split<;>omega
theorem xBE (ps:List Per) (t:Int):sumC (ps.map fun p=>(p,(1:Int))) t=(ps.countP (hasP · t):Nat):=by
 induction ps with
 | nil=>rfl
 | cons p ps ih =>
  rw [zV,xnn,ih,List.countP_cons];split<;>simp_all<;>omega
theorem xMq (l:List Int) (n:Int) (hl:l.length<=1048576) (m:Nat) (hm:m<=l.length) (h1:∀ k (h:k<m) (h2:k<l.length),l[k]<n) (h2:∀ h:m<l.length,¬ l[m]<n) :
  Iter (xbx (l.map encN) n) ((0:Nat),(0:Int),[])=some (m,(m:Int),(l.take m).map encN):=by
 refine xi6 (fun k=>((k,(k:Int),(l.take k).map encN):Nat×Int×List AV)) m _ (fun k hk=>?_) ?_ m 0 (by omega)
 . have q:k<l.length:=by omega
   have i1:(k:Int)<(l.length:Int):=by omega
   have i2:=h1 k hk q;have m1:(k+1)*8<=140737488355328:=by omega
   have m2:k+1<=4611686018427387904:=by omega
   have tl:(l.take k).length=k:=by rw [zt];omega
   have gf:(l.map encN).getD k .top=encN l[k]:=xaa _ _ _ q;simp only [xbx,xf1,sBU,q,i1,i2,gf,cN,sN,tl,m1,m2,xNG (n:=k) (by omega)]
   rw [List.take_add_one,ze q,zx];rfl
 . by_cases hml:m<l.length
   . have i1:(m:Int)<(l.length:Int):=by omega
     have i2:=h2 hml;have gf:(l.map encN).getD m .top=encN l[m]:=xaa _ _ _ hml;simp only [xbx,xf1,sBU,hml,i1,i2,gf,cN,sN]
   . have i1:¬ (m:Int)<(l.length:Int):=by omega
     simp only [xbx,xf1,sBU,i1]
theorem xCY (l:List Int) (hl:l.length<=1048576):∀ (d i:Nat) (D:List Int),i+d=l.length->D.length<=1048576+i ->
  Iter (xb0 (l.map encN)) (D.length,(i:Int),D.map encN)=some ((D++l.drop i).length,(D++l.drop i).map encN)
 | 0,i,D,h,hD=>by
  obtain rfl:i=l.length:=by omega
  rw [zq (zd _),zD];refine xag ?_;simp only [xb0,xh2,za,zy,zm,xac,sUF]
 | d+1,i,D,h,hD=>by
  have q:i<l.length:=by omega
  have i1:(i:Int)<(l.length:Int):=by omega
  have m1:(D.length+1)*8<=140737488355328:=by omega
  have m2:D.length+1<=4611686018427387904:=by omega
  have gf:(l.map encN).getD i .top=encN l[i]:=xaa _ _ _ q;rw [xap (s':=((D++[l[i]]).length,((i+1:Nat):Int),(D++[l[i]]).map encN)) ?_,xCY l hl d (i+1) (D++[l[i]]) (by omega) (by rw [z8];simp;omega),xa0 q,zw]
  . rfl
  . simp only [xb0,xh2,sBU,q,i1,gf,cN,sN,m1,m2,xNG (n:=i) (by omega)]
    simp [encN]
theorem xtc (l:List Int) (n:Int) (hl:l.length<=1048576):xb3 (l.map encN) n=some ((insI l n).map encN):=by
 obtain ⟨m,hm,h1,h2,h3⟩:=xyo n l;have e0:=xMq l n hl m hm h1 h2;have tl:(l.take m).length=m:=by rw [zt];omega
 have e1:=xCY l hl (l.length - m) m (l.take m++[n]) (by omega) (by rw [z8,tl];simp;omega)
 have e2:=xCY l hl (l.length - m) m (l.take m) (by omega) (by omega)
 rw [z8,tl,zx] at e1;rw [tl] at e2;have e1:Iter (xb0 (l.map encN)) (m+1,(m:Int),(l.take m).map encN++[AV.int .i64 n])=some ((l.take m++[n]++l.drop m).length,(l.take m++[n]++l.drop m).map encN):=e1;have m1:(m+1)*8<=140737488355328:=by omega
 have m2:m+1<=4611686018427387904:=by omega
 rw [h3];unfold xb3 xpm xmL;by_cases hml:m<l.length
 . have i1:((m:Int)==(l.length:Int))=false:=by simp;omega
   have i2:(m:Int)<(l.length:Int):=by omega
   have gf:(l.map encN).getD m .top=encN l[m]:=xaa _ _ _ hml;rw [dif_pos hml];by_cases hn:n<l[m]
   . have i3:l[m]>n:=hn;simp only [xbh,xhn,xho,xhp,xkg,xhq,xhr,xhs,xht,xhu,xeN,xi7,xeO,xeP,xgN,xgO,e0,zk,zh,za,i1,i2,hml,gf,cN,sN,i3,m1,m2,tl,e1,sBU,sOO,↓reduceIte,zw,List.singleton_append]
   . have i3:¬ l[m]>n:=hn;simp only [xbh,xhn,xho,xhp,xkg,xhq,xhr,xhs,xht,xhu,xeN,xi7,xeO,xeP,xgN,xgO,e0,zk,zh,za,i1,i2,hml,gf,cN,sN,i3,e2,sBU,sOO,↓reduceIte]
 . have i1:((m:Int)==(l.length:Int))=true:=by simp;omega
   rw [dif_neg hml];have hd:l.drop m=[]:=zq (by omega)
   rw [hd,zD] at e1;simp only [xbh,xhn,xho,xhp,xkg,xhq,xhr,xhs,xht,xhu,xeN,xi7,xeO,xeP,xgN,xgO,e0,zk,zh,za,i1,m1,m2,tl,e1,sBU,sOO]
theorem xrR {α:Type} (l:List α):l=[]\/∃ m a,l=m++[a]:=by
 rcases List.eq_nil_or_concat l with h|⟨m,a,h⟩
 . exact .inl h
 . exact .inr ⟨m,a,by rw [h,List.concat_eq_append]⟩
theorem xFf (S:List Per) (f n:Int) (hS:S.length<=16777216):∃ p,xcu S.length f n (S.map encP)=some p/\br p.1 p.2.1.1 p.2.2.1=(putS S f n).length/\br p.1 p.2.1.2 p.2.2.2=(putS S f n).map encP:=by
 have m1:(S.length+1)*16<=140737488355328:=by omega
 have m2:S.length+1<=4611686018427387904:=by omega
 rcases xrR S with rfl|⟨S',s,rfl⟩
 . refine ⟨(false,(0,[]),(1,[encP (f,n)])),?_,rfl,rfl⟩;unfold xcu xjT xhc;simp [xaI,encP,sUF]
 . have hk:IntKind.i64.wrap (((S'++[s]).length:Int) - 1)=((S'.length:Nat):Int):=by
    rw [z8,xdP (by simp<;>omega) (by simp at hS |-<;>omega)];simp
   have g1:((S'++[s]).length:Int)>0:=by simp<;>omega
   have g2:(S'.length:Int)<((S'++[s]).length:Int):=by simp<;>omega
   have g3:S'.length<(S'++[s]).length:=by simp
   have gf:((S'++[s]).map encP).getD S'.length .top=encP s:=by
    rw [xaa _ _ _ (by simp)];simp
   have hl:(S'++[s]).getLast?=some s:=by simp
   by_cases he:s.2=n
   . refine ⟨(true,((S'++[s]).length,(S'++[s]).map encP),(0,[])),?_,?_,?_⟩
     . unfold xcu xjT xhc;simp only [hk,g1,g2,g3,gf,sBU,cP0,cP1,lP,sP,sP0,sP1,he]
     . simp only [xab,putS,hl,if_pos he,sUF]
     . simp only [xab,putS,hl,if_pos he,sUF]
   . have he':(s.2==n)=false:=by simp [he]
     refine ⟨(false,(0,[]),((S'++[s]).length+1,(S'++[s]).map encP++[encP (f,n)])),?_,?_,?_⟩
     . unfold xcu xjT xhc;simp only [hk,g1,g2,g3,gf,sBU,cP0,cP1,lP,sP,sP0,sP1,he',m1,m2];rfl
     . simp only [xac,putS,hl,if_neg he,sUF];simp
     . simp only [xac,putS,hl,if_neg he,sUF];simp
def ptsC (l:List Cnt):List Int:=l.foldl (fun P c=>if pv c.1=true then insI (insI P c.1.1) c.1.2 else P) [0]
theorem xDl (l:List Cnt) (c:Cnt):ptsC (l++[c])=if pv c.1=true then insI (insI (ptsC l) c.1.1) c.1.2 else ptsC l:=by simp [ptsC]
theorem xDm:∀ l:List Cnt,Asc (ptsC l.reverse)/\∀ x,x∈ptsC l.reverse↔x=0\/∃ c,c∈l/\pv c.1=true/\(x=c.1.1\/x=c.1.2)
 | []=>by simp [ptsC,Asc]
 | c::l=>by
  obtain ⟨h1,h2⟩:=xDm l;rw [List.reverse_cons,xDl];split
  . rename_i hv;refine ⟨xr5 (xr5 h1 _) _,fun x=>?_⟩
    rw [xpj,xpj,h2];constructor
    . rintro (h|h|h|⟨c',a,b,d⟩)
      . exact .inr ⟨c,by simp,hv,.inr h⟩
      . exact .inr ⟨c,by simp,hv,.inl h⟩
      . exact .inl h
      . exact .inr ⟨c',by simp [a],b,d⟩
    . rintro (h|⟨c',a,b,d⟩)
      . exact .inr (.inr (.inl h))
      . rcases zC.1 a with rfl|a
        . rcases d with d|d
          . exact .inr (.inl d)
          . exact .inl d
        . exact .inr (.inr (.inr ⟨c',a,b,d⟩))
  . rename_i hv;refine ⟨h1,fun x=>?_⟩
    rw [h2];constructor
    . rintro (h|⟨c',a,b,d⟩)
      . exact .inl h
      . exact .inr ⟨c',by simp [a],b,d⟩
    . rintro (h|⟨c',a,b,d⟩)
      . exact .inl h
      . rcases zC.1 a with rfl|a
        . exact absurd b hv
        . exact .inr ⟨c',a,b,d⟩
theorem xMu (l:List Cnt):Asc (ptsC l)/\∀ x,x∈ptsC l↔x=0\/∃ c,c∈l/\pv c.1=true/\(x=c.1.1\/x=c.1.2):=by
 have:=xDm l.reverse;simpa using this
theorem xNi (l:List Cnt) (hl:l.length<=262144):Iter (xeQ (l.map encC)) ([AV.int IntKind.i64 (0:Int)],(0:Int))=some ((ptsC l).map encN)/\(ptsC l).length<=2*l.length+1:=by
 have q:∀ l:List Cnt,(ptsC l.reverse).length<=2*l.length+1:=fun l=>by
  induction l with
  | nil=>simp [ptsC]
  | cons c l ih =>
   rw [List.reverse_cons,xDl];have a1:=xi5 (ptsC l.reverse) c.1.1;have a2:=xi5 (insI (ptsC l.reverse) c.1.1) c.1.2;split<;>simp<;>omega
 refine ⟨?_,by have:=q l.reverse;simpa using this⟩
 refine xtd l (fun P c=>if pv c.1=true then insI (insI P c.1.1) c.1.2 else P) (fun n b=>(b.map encN,(n:Int))) (fun n b=>b.length<=2*n+1) (fun n h b hb=>?_) l.length 0 [0] (by omega) (by simp) ?_
 . have h1:(n:Int)<(l.length:Int):=by omega
   have gf:(l.map encC).getD n .top=encC l[n]:=xaa _ _ _ h;have a1:=xi5 b l[n].1.1;have a2:=xi5 (insI b l[n].1.1) l[n].1.2;have i1:=xtc b l[n].1.1 (by omega)
   have i2:=xtc (insI b l[n].1.1) l[n].1.2 (by omega)
   refine ⟨?_,by split<;>omega⟩
   simp only [xeQ,xmm,xih,sBU,h,h1,gf,cC0,cC1,cC2,lC,sC,sC3,sC2,xqH,i1,i2,xNG (n:=n) (by omega),sC0,sC1]
   cases pv l[n].1<;>simp [xab,xac,sUF]
 . simp only [zr];simp only [xeQ,xmm,xih,za,zy,zm,xac,sUF];rfl
def Tame (l:List Cnt):Prop:=l.length<=262144/\∀ c,c∈l->-1099511627776<=c.2/\c.2<=1099511627776
theorem xNj (l:List Cnt) (hl:Tame l) (P:List Int) (hP:P.length<=1048576) (on k:Nat) (hk:k<P.length) (ox:List AV):Iter (xeS (l.map encC) (P.map encN) on (k:Int)) ((0:Int),(0:Int),ox)=some (sumC l P[k],ox):=by
 have k1:(k:Int)<(P.length:Int):=by omega
 have gk:(P.map encN).getD k .top=encN P[k]:=xaa _ _ _ hk;have J:=hl.1;refine xi6 (fun i=>((sumC (l.take i) P[k],(i:Int),ox):Int×Int×List AV)) l.length _ (fun i hi=>?_) ?_ l.length 0 (by omega)
 . have h1:(i:Int)<(l.length:Int):=by omega
   have gf:(l.map encC).getD i .top=encC l[i]:=xaa _ _ _ hi;have hs:sumC (l.take (i+1)) P[k]=sumC (l.take i) P[k]+if hasP l[i].1 P[k]=true then l[i].2 else 0:=by
    rw [List.take_add_one,ze hi,xEJ];show _+sumC [l[i]] P[k]=_;rw [xnn,xDK];omega
   have hb:=xDJ 1099511627776 (by omega) P[k] (l.take i) fun c hc=>hl.2 c (List.mem_of_mem_take hc)
   have q:(l.take i).length=i:=by rw [zt];omega
   rw [q] at hb;have hc:=hl.2 l[i] (zo hi);have hw:hasP l[i].1 P[k]=true->IntKind.i64.wrap (sumC (l.take i) P[k]+l[i].2)=sumC (l.take i) P[k]+l[i].2:=fun _=>xdP (by omega) (by omega)
   simp only [xeS,xmn,sBU,hi,h1,hk,k1,gf,gk,cC0,cC1,cC2,lC,sC,sC3,sC2,cN,sN,xyB,xNG (n:=i) (by omega),hs]
   cases hc:hasP l[i].1 P[k] with
   | false=>simp [xac,sUF]
   | true=>rw [xab,hw hc];rfl
 . simp only [xeS,xmn,za,zy,zm,xac,y4,sUF]
theorem xIl (l:List Cnt) (hl:Tame l):∃ S,xsi (l.map encC)=some (S.map encP)/\StepI (sumC l) 1099511627776 S/\S.length<=2*l.length+1:=by
 obtain ⟨e0,al⟩:=xNi l hl.1;obtain ⟨W,J⟩:=xMu l;generalize hP:ptsC l=P at *;have an:=hl.1;have Q:∀ x,x∈P->0<=x/\x<=1099511627776:=fun x hx=>by
  rcases (J x).1 hx with rfl|⟨c,_,hv,h⟩
  . omega
  . have:=xcs.1 hv;rcases h with rfl|rfl<;>omega
 obtain ⟨m,hm,aa,U⟩:∃ m,m<=P.length/\(∀ k (h:k<P.length),k<m->P[k]<1099511627776)/\∀ h:m<P.length,¬ P[m]<1099511627776:=by
  obtain ⟨m,a,b,c,_⟩:=xyo 1099511627776 P;exact ⟨m,a,fun k h hk=>b k hk h,c⟩
 let G:Nat->List Per:=fun k=>(P.take k).foldl (fun S p=>putS S p (sumC l p)) []
 have hG:∀ k (h:k<P.length),G (k+1)=putS (G k) P[k] (sumC l P[k]):=fun k h=>by
  simp only [G];rw [List.take_add_one,ze h,List.foldl_append];rfl
 have ac:∀ k,k<=P.length->(G k).length<=k:=fun k=>by
  induction k with
  | zero=>intro _;simp [G]
  | succ k ih=>intro h;rw [hG k (by omega)];have:=xDn (G k) P[k] (sumC l P[k]);have:=ih (by omega);omega
 have Y:0<P.length:=List.length_pos_of_mem ((J 0).2 (.inl rfl));have q:P[0]=0:=by
  have h0:=(Q P[0] (zo Y)).1;obtain ⟨j,hj,ah⟩:=zp.1 ((J 0).2 (.inl rfl));rcases Nat.eq_zero_or_pos j with rfl|ad
  . exact ah
  . have:=zB.1 W 0 j Y hj ad;omega
 have am:0<m:=by
  rcases Nat.eq_zero_or_pos m with rfl|h
  . exact absurd (by rw [q];omega) (U Y)
  . exact h
 have nb:∀ k (h:k<P.length) T',(∀ h2:k+1<P.length,T'<=P[k+1])->T'<=1099511627776->∀ t,P[k]<=t->t<T'->sumC l t=sumC l P[k]:=fun k h T' hT hF t h1 h2=>by
  have no:∀ x,x∈P->¬ (P[k]<x/\x<T'):=fun x hx ⟨a,b⟩=>by
   obtain ⟨j,hj,rfl⟩:=zp.1 hx;rcases Nat.lt_trichotomy j k with ab|rfl|ab
   . have:=zB.1 W j k hj h ab;omega
   . omega
   . rcases Nat.lt_or_eq_of_le ab with h3|h3
     . have:=zB.1 W (k+1) j (by omega) hj h3
       have:=hT (by omega);omega
     . have h4:j=k+1:=h3.symm;subst h4;have:=hT hj;omega
  refine xzP (T:=P[k]) (T':=T') (fun c hc hv=>⟨no _ ((J _).2 (.inr ⟨c,hc,hv,.inl rfl⟩)),no _ ((J _).2 (.inr ⟨c,hc,hv,.inr rfl⟩))⟩) t h1 h2
 have inv:∀ k (h:k<P.length),k<m->StepI (sumC l) P[k] (G k):=fun k=>by
  induction k with
  | zero=>intro h _;rw [q];exact .nil _
  | succ k ih =>
   intro h af;rw [hG k (by omega)]
   have h1:=zB.1 W k (k+1) (by omega) h (by omega)
   have h2:=aa (k+1) h af;exact (ih (by omega) (by omega)).put (Q _ (zo (by omega))).1 h1 (nb k (by omega) P[k+1] (fun _=>Int.le_refl _) (by omega))
 have ag:StepI (sumC l) 1099511627776 (G m):=by
  obtain ⟨k,rfl⟩:∃ k,m=k+1:=⟨m - 1,by omega⟩
  rw [hG k (by omega)]
  exact (inv k (by omega) (by omega)).put (Q _ (zo (by omega))).1 (aa k (by omega) (by omega)) (nb k (by omega) _ (fun h2=>by have:=U h2;omega) (Int.le_refl _))
 refine ⟨G m,?_,ag,by have:=ac m hm;omega⟩
 have e1:Iter (xeR (l.map encC) (P.map encN)) ((0:Nat),(0:Int),[])=some ((G m).length,(G m).map encP):=by
  refine xi6 (fun k=>(((G k).length,(k:Int),(G k).map encP):Nat×Int×List AV)) m _ (fun k hk=>?_) ?_ m 0 (by omega)
  . have O:k<P.length:=by omega
    have k1:(k:Int)<(P.length:Int):=by omega
    have k2:=aa k O hk;have gk:(P.map encN).getD k .top=encN P[k]:=xaa _ _ _ O;have e2:=xNj l hl P (by omega) (G k).length k O ((G k).map encP)
    have ak:=ac k (by omega)
    obtain ⟨p,ai,aj,ae⟩:=xFf (G k) P[k] (sumC l P[k]) (by omega)
    simp only [xeR,xjL,xii,xij,xik,xil,xim,xin,xio,sBU,O,k1,k2,gk,cN,sN,e2,ai,aj,ae,xNG (n:=k) (by omega),hG k O]
  . by_cases Z:m<P.length
    . have k1:(m:Int)<(P.length:Int):=by omega
      have k2:=U Z;have gk:(P.map encN).getD m .top=encN P[m]:=xaa _ _ _ Z;simp only [xeR,xjL,xii,xij,xik,xil,xim,xin,xio,sBU,Z,k1,k2,gk,cN,sN]
    . have k1:¬ (m:Int)<(P.length:Int):=by omega
      simp only [xeR,xjL,xii,xij,xik,xil,xim,xin,xio,sBU,k1]
 unfold xsi xuT;simp only [xtK,xtL,xtM,xtN,e0,zh,zk,xab,e1,sOO,sUF]
end Go.Sim.M
end
noncomputable section
set_option maxRecDepth 100000
namespace Go.Sim.M
open Go.RowKit Go.Sim.Srt Go.Sort
def chg (c:Cnt):List Per:=if pv c.1=true then [(c.1.1,c.2),(c.1.2,-c.2)] else []
theorem xEX {l:List Cnt}:∀ s,s∈l.flatMap chg->0<=s.1/\s.1<=1099511627776:=fun s hs=>by
 obtain ⟨c,hc,h⟩:=y3.1 hs;unfold chg at h;split at h
 . rename_i hv;have:=xcs.1 hv;simp only [zC,List.not_mem_nil,or_false] at h;rcases h with rfl|rfl<;>dsimp only<;>omega
 . simp at h
theorem xKv (c:Cnt):(chg c).length<=2:=by unfold chg;split<;>simp
def sumS (S:List Per) (t:Int):Int:=(S.map fun s=>if s.1<=t then s.2 else 0).sum
theorem xw6 (a b:List Per) (t:Int):sumS (a++b) t=sumS a t+sumS b t:=by simp [sumS]
theorem xJR {a b:List Int} (h:a.Perm b):a.sum=b.sum:=by
 induction h with
 | nil=>rfl
 | cons x _ ih=>simp [ih]
 | swap x y l=>simp;omega
 | trans _ _ h1 h2=>rw [h1,h2]
theorem xIA {a b:List Per} (h:a.Perm b) (t:Int):sumS a t=sumS b t:=xJR (h.map _)
theorem xDL (t:Int):∀ l:List Cnt,sumS (l.flatMap chg) t=sumC l t
 | []=>rfl
 | c::l=>by
  rw [zR,xw6,xDL t l,xnn];congr 1;unfold chg;cases hv:pv c.1 with
  | false=>simp [sumS,hasP,hv]
  | true =>
   have:=xcs.1 hv;simp only [if_true,sumS,zV,zW,List.sum_cons,List.sum_nil,hasP,hv,Bool.true_and,zf,zl];by_cases h1:c.1.1<=t<;>by_cases h2:c.1.2<=t
   . rw [if_pos h1,if_pos h2,if_neg (by omega)];omega
   . rw [if_pos h1,if_neg h2,if_pos (by omega)];omega
   . omega
   . rw [if_neg h1,if_neg h2,if_neg (by omega)];omega
theorem sum0:∀ L:List Per,(L.map fun _=>(0:Int)).sum=0
 | []=>rfl
 | _::L=>by rw [zV,List.sum_cons,sum0 L];rfl
def preS (S:List Per) (i:Nat):Int:=((S.take i).map (·.2)).sum
theorem xBm (S:List Per) (i:Nat) (h:i<S.length):preS S (i+1)=preS S i+S[i].2:=by
 unfold preS;rw [List.take_add_one,ze h,zx,List.sum_append];simp
theorem xJw (S:List Per) (i:Nat) (hi:i<=S.length) (t:Int) (h1:∀ k (h:k<S.length),k<i->S[k].1<=t) (h2:∀ k (h:k<S.length),i<=k->t<S[k].1):preS S i=sumS S t:=by
 have e:S=S.take i++S.drop i:=(List.take_append_drop i S).symm
 conv=>rhs;rw [e]
 rw [xw6];have a1:sumS (S.take i) t=preS S i:=by
  unfold sumS preS;congr 1;refine List.map_congr_left fun s hs=>?_
  obtain ⟨k,hk,rfl⟩:=zp.1 hs;rw [zt] at hk;rw [List.getElem_take,if_pos (h1 k (by omega) (by omega))]
 have a2:sumS (S.drop i) t=0:=by
  unfold sumS;have:(S.drop i).map (fun s=>if s.1<=t then s.2 else 0)=(S.drop i).map fun _=>(0:Int):=by
   refine List.map_congr_left fun s hs=>?_
   obtain ⟨k,hk,rfl⟩:=zp.1 hs;rw [y1] at hk;have:=h2 (i+k) (by omega) (by omega)
   rw [List.getElem_drop,if_neg (by omega)]
  rw [this];exact sum0 _
 omega
theorem xDk {B:Int} (hB:0<=B) (S:List Per) (h:∀ s,s∈S->-B<=s.2/\s.2<=B):∀ i,i<=S.length->-(B*i)<=preS S i/\preS S i<=B*i
 | 0,_=>by simp [preS]
 | i+1,hi=>by
  have ih:=xDk hB S h i (by omega)
  have hs:=h S[i] (zo (by omega))
  rw [xBm S i (by omega),show B*((i+1:Nat):Int)=B*(i:Int)+B by rw [Int.natCast_add,Int.mul_add];simp]
  omega
def toS (e:Per):TyS:=(Fin.ofNat 1099511627777 e.1.toNat,e.2)
def ofS (x:TyS):Per:=((x.1.val:Int),x.2)
theorem xKL {e:Per} (h1:0<=e.1) (h2:e.1<=1099511627776):ofS (toS e)=e:=by
 have:e.1.toNat % 1099511627777=e.1.toNat:=Nat.mod_eq_of_lt (by omega)
 simp only [ofS,toS,Fin.ofNat,this,Int.toNat_of_nonneg h1]
theorem xK5 (E:List Per) (h:∀ e,e∈E->0<=e.1/\e.1<=1099511627776):(E.map encP).all isS=true/\∃ S:List Per,srtS (E.map encP)=S.map encP/\S.Perm E/\S.Pairwise fun x y=>x.1<=y.1:=by
 refine ⟨?_,(pdqL cmpS (E.map toS)).map ofS,?_,?_,?_⟩
 . rw [zI];intro x hx;obtain ⟨e,he,rfl⟩:=zK.1 hx;have:=h e he;show (decide _&&decide _)=true;rw [decide_eq_true this.1,decide_eq_true this.2];rfl
 . unfold srtS;have e1:(E.map encP).map decS=E.map toS:=by rw [List.map_map];rfl
   rw [e1,List.map_map];rfl
 . have hp:=((xqp cmpS swoS (E.map toS)).1).map ofS;have e2:(E.map toS).map ofS=E:=by
    rw [List.map_map]
    conv=>rhs;rw [<-List.map_id E]
    refine List.map_congr_left fun e he=>?_
    exact xKL (h e he).1 (h e he).2
   rwa [e2] at hp
 . rw [List.pairwise_map];refine (xwX cmpS swoS (E.map toS)).imp fun {x y} q=>?_
   show ((x.1.val:Nat):Int)<=((y.1.val:Nat):Int);unfold cmpS at q;omega
theorem xKI (n o:Nat):xjw n o=xdN n o 0:=rfl
theorem xyN (l:List Cnt) (hl:l.length<=1048576) (ht:∀ c,c∈l->-1099511627776<=c.2/\c.2<=1099511627776):Iter (xe0 (l.map encC) ((l.length:Nat):Int)) ((0:Nat),(0:Int),[])=some ((l.flatMap (fun (f:Cnt)=>chg f)).length,(l.flatMap (fun (f:Cnt)=>chg f)).map encP):=by
 refine xgL l (fun (f:Cnt)=>chg f) encP 2 (fun f hf=>?_) (fun n h D hD=>?_) (fun D=>?_)
 . cases q:(pv (f).1)<;>simp [chg,q]
 . have h1:(n:Int)<(l.length:Int):=by omega
   have m1:(D.length+2)*16<=140737488355328:=by omega
   have m2:D.length+2<=4611686018427387904:=by omega
   have gf:(l.map encC).getD n .top=encC l[n]:=xaa _ _ _ h;have hm:=ht l[n] (zo h);have hw:IntKind.i64.wrap (0 - l[n].2)=-l[n].2:=by rw [xdP (by omega) (by omega)];omega
   simp only [xe0,xmw,sBU,h,h1,gf,cC0,cC1,cC2,lC,sC,sC3,sC2,xng,hw,m1,m2,xNG (n:=n) (by omega)]
   cases q:(pv (l[n]).1)<;>simp [encP,xab,xac,encR,chg,q,sUF]
 . simp only [xe0,xmw,za,zy,zm,xac,sUF]
theorem xyn (S:List Per) (hS:S.length<=1048576) (hb:∀ s,s∈S->-1099511627776<=s.2/\s.2<=1099511627776) (on:Nat) (at':Int) (ox:List AV):∀ (d i:Nat),i+d=S.length->∃ j:Nat,i<=j/\j<=S.length/\(∀ k (h:k<S.length),i<=k->k<j->S[k].1=at')/\(∀ h:j<S.length,S[j].1≠at') /\
  Iter (xdN S.length on at') (preS S i,(i:Int),S.map encP,ox)=some (preS S j,(j:Int),S.map encP,ox)
 | 0,i,h=>by
  refine ⟨i,zd _,by omega,fun k _ h1 h2=>by omega,fun h=>by omega,xag ?_⟩
  have i1:¬ (i:Int)<(S.length:Int):=by omega
  simp only [xdN,xjR,xiR,i1,zm,xac,sUF]
 | d+1,i,h=>by
  have hi:i<S.length:=by omega
  have i1:(i:Int)<(S.length:Int):=by omega
  have gf:(S.map encP).getD i .top=encP S[i]:=xaa _ _ _ hi;by_cases he:S[i].1=at'
  . obtain ⟨j,h1,h2,h3,h4,h5⟩:=xyn S hS hb on at' ox d (i+1) (by omega)
    refine ⟨j,by omega,h2,fun k hk a b=>?_,h4,?_⟩
    . rcases Nat.lt_or_eq_of_le a with a|a
      . exact h3 k hk a b
      . subst a;exact he
    . have hp:=xDk (B:=1099511627776) (by omega) S hb i (by omega)
      have hs:=hb S[i] (zo hi);rw [xap (s':=(preS S (i+1),((i+1:Nat):Int),S.map encP,ox)) ?_,h5];simp only [xdN,xjR,xiR,sBU,hi,i1,gf,cP0,cP1,lP,sP,sP0,sP1,he,xNG (n:=i) (by omega),xBm S i hi]
      rw [xdP (by omega) (by omega)]
  . have he':(S[i].1==at')=false:=by simp [he]
    refine ⟨i,zd _,by omega,fun k _ h1 h2=>by omega,fun _=>he,xag ?_⟩
    simp only [xdN,xjR,xiR,sBU,hi,i1,gf,cP0,cP1,lP,sP,sP0,sP1,he']
theorem xmJ (l:List Cnt) (hl:Tame l):∃ S,xjv (l.map encC)=some (S.map encP)/\StepI (sumC l) 1099511627776 S/\S.length<=2*l.length+1:=by
 have ar:=hl.1;have e0:=xyN l (by omega) hl.2
 have hE:=xi2 (g:=chg) (c:=2) l fun c _=>xKv c
 obtain ⟨ag,S,hS,hp,al⟩:=xK5 (l.flatMap chg) xEX;have aj:S.length=(l.flatMap chg).length:=hp.length_eq;have U:∀ s,s∈S->0<=s.1/\s.1<=1099511627776:=fun s hs=>xEX s (hp.mem_iff.1 hs)
 have hb:∀ s,s∈S->-1099511627776<=s.2/\s.2<=1099511627776:=fun s hs=>by
  obtain ⟨c,hc,h⟩:=y3.1 (hp.mem_iff.1 hs);have:=hl.2 c hc;unfold chg at h;split at h
  . simp only [zC,List.not_mem_nil,or_false] at h;rcases h with rfl|rfl<;>dsimp only<;>omega
  . simp at h
 have hN:∀ t,sumS S t=sumC l t:=fun t=>by rw [xIA hp,xDL]
 have O:∀ a b (ha:a<S.length) (hb:b<S.length),a<=b->S[a].1<=S[b].1:=fun a b ha hb an=>by
  rcases Nat.lt_or_eq_of_le an with h|h
  . exact zB.1 al a b ha hb h
  . subst h;exact Int.le_refl _
 let T:Nat->Int:=fun i=>if h:i<S.length then S[i].1 else 1099511627776
 have step:∀ (out:List Per) (i j:Nat) (at':Int),0<=at'->i<=j->j<=S.length->StepI (sumC l) at' out->at'<1099511627776->(∀ k (h:k<S.length),k<i->S[k].1<=at')->(∀ k (h:k<S.length),i<=k->at'<=S[k].1)->(∀ k (h:k<S.length),i<=k->k<j->S[k].1=at')->(∀ h:j<S.length,S[j].1≠at') ->
   preS S j=sumC l at'/\StepI (sumC l) (T j) (putS out at' (preS S j))/\at'<T j/\∀ k (h:k<S.length),k<j->S[k].1<=at':=fun out i j at' h0 ai hj Q hF ad ak am hne=>by
  have a1:∀ k (h:k<S.length),k<j->S[k].1<=at':=fun k h hk=>by
   rcases zJ k i with h1|h1
   . exact ad k h h1
   . rw [am k h h1 hk];exact Int.le_refl _
  have a2:∀ k (h:k<S.length),j<=k->at'<S[k].1:=fun k h hk=>by
   have J:j<S.length:=by omega
   have b1:=ak j J ai;have b2:=hne J;have b3:=O j k J h hk;omega
  have hT:at'<T j:=by
   simp only [T];split
   . rename_i h;exact a2 j h (zd _)
   . exact hF
  have ab:∀ t,at'<=t->t<T j->preS S j=sumC l t:=fun t h1 h2=>by
   rw [<-hN];refine xJw S j hj t (fun k h hk=>by have:=a1 k h hk;omega) fun k h hk=>?_
   have J:j<S.length:=by omega
   have b3:=O j k J h hk;simp only [T,dif_pos J] at h2;omega
  have e:=ab at' (Int.le_refl _) hT;refine ⟨e,?_,hT,a1⟩;rw [e];exact Q.put h0 hT fun t h1 h2=>by rw [<-ab t h1 h2,e]
 have ac:∀ (out:List Per) (f n:Int),out.length<=2*l.length+1->∃ p,xdi out.length f n (out.map encP)=some p/\br p.1 p.2.1.1 p.2.2.1=(putS out f n).length/\br p.1 p.2.1.2 p.2.2.2=(putS out f n).map encP:=fun out f n h=>xFf out f n (by omega)
 obtain ⟨j0,_,af,h3,h4,e1⟩:=xyn S (by omega) hb 0 0 ([]:List AV) S.length 0 (by omega)
 obtain ⟨_,ap,_,aq⟩:=step [] 0 j0 0 (Int.le_refl _) (zQ _) af (.nil _) (by omega) (fun k _ h=>by omega) (fun k h _=>(U _ (zo h)).1) h3 h4
 obtain ⟨p0,ae,Z,W⟩:=ac [] 0 (preS S j0) (by simp)
 have o0:putS [] 0 (preS S j0)=[(0,preS S j0)]:=rfl;obtain ⟨r,hr,out,rfl,Q,ah⟩:=xCx (step:=xe1 S.length)
  (fun s=>∃ (out:List Per) (i:Nat),s=(out.length,preS S i,(i:Int),S.map encP,out.map encP)/\i<=S.length/\StepI (sumC l) (T i) out/\out.length<=i+1/\∀ k (h:k<S.length) (hi:i<S.length),k<i->S[k].1<=S[i].1) (fun s=>(S.length - s.2.2.1.toNat)) (fun r=>∃ out:List Per,r=(out.length,out.map encP)/\StepI (sumC l) 1099511627776 out/\out.length<=2*l.length+1)
  (by
   rintro _ ⟨out,i,rfl,hi,Y,au,ad⟩;by_cases q:i<S.length
   . have i1:(i:Int)<(S.length:Int):=by omega
     have gf:(S.map encP).getD i .top=encP S[i]:=xaa _ _ _ q;have aa:T i=S[i].1:=dif_pos q;by_cases hF:S[i].1<1099511627776
     . left;obtain ⟨j,a1,a2,a3,a4,a5⟩:=xyn S (by omega) hb out.length S[i].1 (out.map encP) (S.length - i) i (by omega)
       rw [aa] at Y;obtain ⟨b1,b2,b3,b4⟩:=step out i j S[i].1 (U _ (zo q)).1 a1 a2 Y hF (fun k h hk=>O k i h q (by omega)) (fun k h hk=>O i k q h hk) a3 a4
       have ai:i<j:=by
        rcases Nat.lt_or_eq_of_le a1 with h|h
        . exact h
        . subst h;exact absurd rfl (a4 q)
       obtain ⟨p,ae,Z,W⟩:=ac out S[i].1 (preS S j) (by omega)
       have aw:=xDn out S[i].1 (preS S j);refine ⟨((putS out S[i].1 (preS S j)).length,preS S j,(j:Int),S.map encP,(putS out S[i].1 (preS S j)).map encP),?_,⟨_,j,rfl,a2,b2,by omega,fun k h hj hk=>O k j h hj (by omega)⟩,by dsimp only;rw [zN,zN];omega⟩
       simp only [xe1,xjQ,xiH,xiI,xiJ,xiK,xiL,xiM,xiN,xiO,xiP,xiQ,xhM,xhN,xfW,sBU,q,i1,gf,cP0,cP1,lP,sP,sP0,sP1,hF,a5,ae,Z,W]
     . right;have ao:S[i].1=1099511627776:=by have:=(U _ (zo q)).2;omega
       refine ⟨(out.length,out.map encP),?_,out,rfl,by rw [<-ao,<-aa];exact Y,by omega⟩
       simp only [xe1,xjQ,xiH,xiI,xiJ,xiK,xiL,xiM,xiN,xiO,xiP,xiQ,xhM,xhN,xfW,sBU,q,i1,gf,cP0,cP1,lP,sP,sP0,sP1,hF]
   . right;have i1:¬ (i:Int)<(S.length:Int):=by omega
     have aa:T i=1099511627776:=dif_neg q;refine ⟨(out.length,out.map encP),?_,out,rfl,by rw [<-aa];exact Y,by omega⟩
     simp only [xe1,xjQ,xiH,xiI,xiJ,xiK,xiL,xiM,xiN,xiO,xiP,xiQ,xhM,xhN,xfW,sBU,i1])
  (([(0,preS S j0)]:List Per).length,preS S j0,(j0:Int),S.map encP,([(0,preS S j0)]:List Per).map encP) ⟨[(0,preS S j0)],j0,rfl,af,ap,by simp,fun k h hj hk=>O k j0 h hj (by omega)⟩
 refine ⟨out,?_,Q,ah⟩;have d1:(l.flatMap chg).length<4611686018427387904:=by omega
 have d2:((l.flatMap chg).length).beq (l.flatMap chg).length=true:=Nat.beq_refl _;have e1':Iter (xjw (l.flatMap chg).length 0) ((0:Int),(0:Int),S.map encP,[])=some (preS S j0,(j0:Int),S.map encP,[]):=by
  rw [xKI,<-aj];exact e1
 rw [aj] at hr;unfold xjv xu4;have hp1':xdi 0 0 (preS S j0) []=some p0:=ae;rw [o0] at Z W;simp only [xt1,xt2,xt3,xt4,xt5,xt6,xt7,xt8,xt9,xua,xsP,xsQ,xsR,xsS,xsT,xk6,xoL,xsU,za,e0,zh,zk,xab,ag,hS,d1,d2,e1',hp1',Z,W,hr,zn,zS,sOO,sUF]
end Go.Sim.M
end
noncomputable section
set_option maxRecDepth 100000
namespace Go.Sim.M
open Go.RowKit Go.Sim.Srt
theorem xvZ {ps:List Per} (h:ps.length<=262144):Tame (ps.map fun p=>(p,(1:Int))):=⟨by simpa using h,fun c hc=>by
 obtain ⟨p,_,rfl⟩:=zK.1 hc;dsimp only;omega⟩
theorem xI0 (l:List Fc) (row:Row) (t:Int) (g:Fc->List Per) (hg:∀ f,(g f).countP (hasP · t)=if f.r=row/\hasP f.p t=true then 1 else 0):(l.flatMap g).countP (hasP · t)=cnt l row t:=by
 induction l with
 | nil=>rfl
 | cons f l ih =>
  rw [zR,List.countP_append,ih,hg];have e2:cnt (f::l) row t=cnt l row t+if (decide (f.r=row)&&hasP f.p t)=true then 1 else 0:=List.countP_cons
  rw [e2];by_cases h:f.r=row/\hasP f.p t=true
  . rw [if_pos h,if_pos (by simp [h.1,h.2])];omega
  . rw [if_neg h,if_neg (by simpa using h)];omega
theorem xGh (l:List Fc) (row:Row) (hr:∀ f,f∈l->f.r.length<=maxLen) (hl:l.length<=262144):∃ S,xol (l.map encF) (row.map encV)=some (S.map encP)/\StepI (fun t=>((cnt l row t:Nat):Int)) 1099511627776 S/\S.length<=2*l.length+1:=by
 have e:=xuX row l (by omega) hr
 have q:(l.flatMap fun f=>if cmpR f.r row==0 then [(f.p,(1:Int))] else [])=(l.flatMap fun f=>if cmpR f.r row==0 then [f.p] else []).map fun p=>(p,(1:Int)):=by
  rw [List.map_flatMap];congr 1;funext f;split<;>simp
 rw [q] at e;generalize hq:(l.flatMap fun f=>if cmpR f.r row==0 then [f.p] else [])=ps at e
 have J:ps.length<=l.length:=by
  rw [<-hq];have:=xi2 (c:=1) (g:=fun f:Fc=>if cmpR f.r row==0 then [f.p] else []) l fun f _=>by split<;>simp
  omega
 obtain ⟨S,h1,h2,h3⟩:=xIl _ (xvZ (ps:=ps) (by omega))
 refine ⟨S,?_,?_,by rw [za] at h3;omega⟩
 . unfold xol xpK;simp only [xom,xon,xoo,xoq,e,sOO,sUF];simp only [h1,sOO]
 . rwa [show sumC (ps.map fun p=>(p,(1:Int)))=fun t=>((cnt l row t:Nat):Int) from funext fun t=>by
    rw [xBE,<-hq,xI0 l row t _ fun f=>?_]
    rw [cmp0];by_cases hr:f.r=row<;>cases hh:hasP f.p t<;>simp [hr,hh]] at h2
end Go.Sim.M
end
noncomputable section
set_option maxRecDepth 100000
namespace Go.Sim.M
open Go.RowKit Go.Sim.Srt Go.Sort
theorem xyj (ps:List Per) (t:Int) (ht:t<0\/1099511627776<=t):ps.countP (hasP · t)=0:=by
 rw [List.countP_eq_zero];intro p hp h;obtain ⟨h1,h2,h3⟩:=xbs.1 h;have:=xcs.1 h1;omega
def mk (r:Row) (P:List Per):List Fc:=P.map fun p=>⟨r,p⟩
theorem xyl (L:Row->List Per):∀ S:List Grp,(S.flatMap fun g=>mk g.1 (L g.1))=facts (S.map (·.1)) L
 | []=>rfl
 | g::S=>by rw [zR,xyl L S];rfl
theorem xHr (O:List AV) (J q:Int) (row:Row) (hr:row.length<=1048576) (g1:List AV) (P:List Per) (D:List Fc) (hb:D.length+P.length<=2199023255552) (hP:P.length<=1099511627776) :
  Iter (xbI O J q (P.map encP) ((P.length:Nat):Int)) (D.length,(0:Int),D.map encF,row.map encV,g1)=some ((D++mk row P).length,(D++mk row P).map encF):=by
 have key:=xi6 (step:=xbI O J q (P.map encP) ((P.length:Nat):Int)) (fun k=>(((D++mk row (P.take k)).length,((k:Nat):Int),(D++mk row (P.take k)).map encF,row.map encV,g1):Nat×Int×List AV×List AV×List AV)) P.length
  ((D++mk row P).length,(D++mk row P).map encF) (fun k hk=>by
  have i1:(k:Int)<(P.length:Int):=by omega
  have gf:(P.map encP).getD k .top=encP P[k]:=xaa _ _ _ hk;have dl:(D++mk row (P.take k)).length=D.length+k:=by unfold mk;rw [z8,za,zt];omega
  have m1:(D.length+k+1)*40<=140737488355328:=by omega
  have m2:D.length+k+1<=4611686018427387904:=by omega
  have m3:row.length*32<=140737488355328:=by omega
  have m4:row.length<=4611686018427387904:=by omega
  have tk:List.take row.length (row.map encV)=row.map encV:=zi (by simp)
  have Q:mk row (P.take (k+1))=mk row (P.take k)++[⟨row,P[k]⟩]:=by unfold mk;rw [List.take_add_one,ze hk,zx];rfl
  rw [Q,<-zw];simp only [xbI,xfE,sBU,hk,i1,gf,cP0,cP1,lP,sP,sP0,sP1,dl,m1,m2,m3,m4,zd,tk,zr,xNG (n:=k) (by omega)]
  rw [z8,dl];simp [encF]) (by
  simp only [xbI,xfE,zy,zm,xac,y4,sUF]) P.length 0 (by omega)
 have e0:D++mk row (P.take 0)=D:=by simp [mk]
 rw [e0] at key;exact key
def Bld (l:List Fc):Prop:=Keyed l/\l.length<=1024
theorem cGs (g:Grp):((encG g).cells.getD 1 .top).toList=g.2.map encP:=rfl
theorem lG (g:Grp):((encG g).cells.length==2)=true:=rfl
theorem sG (g:Grp):xOP [Sh.list 3,Sh.list 2] (encG g).cells 0=true:=rfl
theorem xHs (S:List Grp) (hS:S.length<=1024) (hr:∀ g,g∈S->g.1.length<=1048576) (L:Row->List Per) (hL:∀ g,g∈S->xnl (g.2.map encP)=some ((L g.1).map encP)/\(L g.1).length<=1048576) :
  Iter (xco (S.map encG) ((S.length:Nat):Int)) ((0:Nat),(0:Int),[])=some ((facts (S.map (·.1)) L).length,(facts (S.map (·.1)) L).map encF):=by
 rw [<-xyl];refine xgL S (fun g=>mk g.1 (L g.1)) encF 1048576 (fun g hg=>by unfold mk;rw [za];exact (hL g hg).2) (fun n h D hD=>?_) (fun D=>?_)
 . have i1:(n:Int)<(S.length:Int):=by omega
   have gf:(S.map encG).getD n .top=encG S[n]:=xaa _ _ _ h;obtain ⟨e1,e2⟩:=hL _ (zo h);have q:=hr _ (zo h);have el:=xHr (S.map encG) (S.length:Int) (n:Int) S[n].1 q (S[n].2.map encP) (L S[n].1) D (by omega) (by omega)
   simp only [xco,xfD,xhR,xhS,sBU,h,i1,gf,cG0,cGs,lG,sG,e1,el,xNG (n:=n) (by omega)]
 . simp only [xco,xfD,zy,zm,xac,sUF]
theorem xvJ {R:List Row} {Q:Row->List Per->Prop} (h:∀ r,r∈R->∃ P,Q r P):∃ L:Row->List Per,∀ r,r∈R->Q r (L r):=by
 refine ⟨fun r=>if hr:r∈R then Classical.choose (h r hr) else [],fun r hr=>?_⟩
 show Q r (if hr:r∈R then Classical.choose (h r hr) else [])
 rw [dif_pos hr];exact Classical.choose_spec (h r hr)
theorem xMy (l:List Fc) (h:Bld l):∃ B,xkA (l.map encF)=some (B.map encF)/\xNV l B:=by
 obtain ⟨S,e1,hR,q,O⟩:=xKV l h.1;have hl:=h.2;obtain ⟨L,hL⟩:=xvJ (R:=S.map (·.1)) (Q:=fun r P=>xnl ((psOf l r).map encP)=some (P.map encP)/\(IsSpan P/\∀ t,inL P t=decide (0<cnt l r t))/\P.length<=1048576) fun r hr=>by
  have J:=xIb l r;obtain ⟨P,a1,a2,a3⟩:=xKa (psOf l r) (by omega)
  have a4:∀ t,inL P t=decide (0<(psOf l r).countP (hasP · t)):=fun t=>by
   rw [a3,Bool.eq_iff_iff,zl,List.countP_pos_iff];unfold inL;rw [List.any_eq_true]
  refine ⟨P,a1,⟨a2,fun t=>by rw [a4,xzt]⟩,?_⟩
  have:=xAg (k:=0) a2 a4;omega
 have hk:∀ g,g∈S->g.1∈S.map (·.1):=fun g hg=>zK.2 ⟨g,hg,rfl⟩
 have eb:=xHs S (by omega) (fun g hg=>by
  obtain ⟨f,hf,e,_⟩:=(hR.2 g.1).1 (hk g hg);rw [<-e];exact h.1.1.2 f hf) L (fun g hg=>by
  rw [q g hg];exact ⟨(hL _ (hk g hg)).1,(hL _ (hk g hg)).2.2⟩)
 refine ⟨facts (S.map (·.1)) L,?_,S.map (·.1),L,hR,fun r hr=>(hL r hr).2.1,rfl⟩
 have tt:∀ F:List Fc,List.take F.length (F.map encF)=F.map encF:=fun F=>zi (by simp)
 unfold xkA xpg xmB xkB;simp only [xjX,xjY,xjZ,xjx,e1,zk,zh,xab,za,eb,zH,zd,zn,zS,zr,tt,sUF]
end Go.Sim.M
end
noncomputable section
set_option maxRecDepth 100000
namespace Go.Sim.M
open Go.RowKit Go.Sim.Srt
theorem xOm {n:Nat} (h:n+1<=4611686018427387904):IntKind.i64.wrap (((n+1:Nat):Int) - 1)=(n:Int):=by rw [xdP (by omega) (by omega)];omega
theorem tkP (p:Per):List.take 1 (encP p).cells=[.int .i64 p.1]:=rfl
theorem dpP (p:Per):List.drop 2 (encP p).cells=[]:=rfl
theorem aggP (a b:Int):AV.agg [.int .i64 a,.int .i64 b]=encP (a,b):=rfl
theorem xCS {α:Type} (l:List α) (x d:α):(l++[x]).getD l.length d=x:=by simp
theorem xKx {α:Type} (l:List α) (x y:α):(l++[x]).set l.length y=l++[y]:=by simp
theorem xAK {N:Int->Nat} {a b:Int} (h:∀ t,a<t->t<b->N (t - 1)=N t):∀ (d:Nat) (t:Int),t=a+d->t<b->N t=N a
 | 0,t,e,_=>by rw [e];simp
 | d+1,t,e,hb=>by
  rw [<-h t (by omega) hb]
  exact xAK h d (t - 1) (by omega) (by omega)
def pos (S:List Per) (i:Nat):Int:=match S[i]? with
 | some s=>s.1
 | none=>1099511627776
theorem xnY {S:List Per} {i:Nat} (h:i<S.length):pos S i=S[i].1:=by unfold pos;rw [ze h]
theorem xui {S:List Per} {i:Nat} (h:S.length<=i):pos S i=1099511627776:=by unfold pos;rw [zz h]
theorem xDi {N:Int->Nat} {S:List Per} (hS:StepI (fun t=>(N t:Int)) 1099511627776 S) {i:Nat} (hi:i<S.length):0<=pos S i/\pos S i<pos S (i+1)/\pos S (i+1)<=1099511627776/\S[i].2=(N S[i].1:Int)/\∀ t,pos S i<=t->t<pos S (i+1)->N t=N S[i].1:=by
 obtain ⟨m1,m2,m3,_⟩:=(hS.mem S[i]).1 (zo hi);rw [xnY hi];have hb:S[i].1<pos S (i+1)/\pos S (i+1)<=1099511627776:=by
  by_cases h:i+1<S.length
  . rw [xnY h];have:=zB.1 hS.asc i (i+1) hi h (by omega)
    have:=((hS.mem S[i+1]).1 (zo h)).2.1;omega
  . rw [xui (by omega)];omega
 refine ⟨m1,hb.1,hb.2,m3,fun t h1 h2=>xAK (a:=S[i].1) (b:=pos S (i+1)) (fun u u1 u2=>?_) (t - S[i].1).toNat t (by omega) h2⟩
 by_cases e:N (u - 1)=N u
 . exact e
 . have hu:(u,(N u:Int))∈S:=(hS.mem _).2 ⟨by dsimp only;omega,by dsimp only;omega,rfl,.inr (by dsimp only;omega)⟩
   obtain ⟨k,hk,J⟩:=zp.1 hu;have O:S[k].1=u:=by rw [J]
   rcases zJ i k with q|q
   . have:i+1<S.length:=by omega
     rw [xnY this] at u2;rcases zJ (i+1) k with h3|h3
     . have:=zB.1 hS.asc (i+1) k this hk h3;omega
     . obtain rfl:k=i+1:=by omega
       omega
   . rcases zJ k i with h3|h3
     . have:=zB.1 hS.asc k i hk hi h3;omega
     . obtain rfl:k=i:=by omega
       omega
theorem xDj {N:Int->Nat} {S:List Per} (hS:StepI (fun t=>(N t:Int)) 1099511627776 S):pos S 0=0:=by
 have h0:((0:Int),(N 0:Int))∈S:=(hS.mem _).2 ⟨by simp,by simp,rfl,.inl rfl⟩
 obtain ⟨k,hk,J⟩:=zp.1 h0;have h:0<S.length:=by omega
 have p0:=((hS.mem S[0]).1 (zo h)).1;rw [xnY h];have q:S[k].1=0:=by rw [J]
 rcases zJ 0 k with h3|h3
 . have:=zB.1 hS.asc 0 k h hk h3;omega
 . obtain rfl:k=0:=by omega
   exact q
def xNM (out:List Per) (f t:Int):List Per:=match out.getLast? with
 | some p=>if p.2=f then out.dropLast++[(p.1,t)] else out++[(f,t)]
 | none=>out++[(f,t)]
theorem xOj {n:Nat} (h:n<=1099511627776):(n+1)*16<=140737488355328/\n+1<=4611686018427387904/\n*16<=140737488355328/\n<=4611686018427387904:=by omega
theorem xE6 (out:List Per) (f t:Int) (O:f<t) (J:∀ p,p∈out->p.2<=f) (hl:out.length<=1048576):∃ q,xa4 out.length f t (out.map encP)=some q/\br q.1 q.2.1.1 q.2.2.1=(xNM out f t).length/\br q.1 q.2.1.2.2 q.2.2.2=(xNM out f t).map encP:=by
 rcases xrR out with rfl|⟨o,p,rfl⟩
 . refine ⟨_,rfl,rfl,rfl⟩
 . have hp:=J p (by simp)
   have L:(o++[p]).length=o.length+1:=by simp
   rw [L] at hl;have w1:IntKind.i64.wrap (((o.length+1:Nat):Int) - 1)=(o.length:Int):=xOm (by omega)
   have i1:((o.length+1:Nat):Int)>0:=by omega
   have i2:(o.length:Int)<((o.length+1:Nat):Int):=by omega
   have i3:(o.length:Int)<=((o.length+1:Nat):Int):=by omega
   have i4:o.length<o.length+1:=by omega
   have i5:o.length<=o.length+1:=by omega
   have gl:((o++[p]).map encP).getD o.length .top=encP p:=by
    rw [zx];have:=xCS (o.map encP) (encP p) .top;rwa [za] at this
   have tl:List.take o.length ((o++[p]).map encP)=o.map encP:=by
    rw [zx];exact List.take_left' (by simp)
   obtain ⟨m1,m2,m3,m4⟩:=xOj (n:=o.length) (by omega)
   obtain ⟨m5,m6,_,_⟩:=xOj (n:=o.length+1) (by omega)
   have jn:xNM (o++[p]) f t=if p.2=f then o++[(p.1,t)] else o++[p]++[(f,t)]:=by
    unfold xNM;simp
   by_cases he:p.2=f
   . have c1:p.2>=f:=by omega
     have c2:t>p.2:=by omega
     rw [jn,if_pos he,L];refine ⟨(true,(o.length+1,(o++[p]).map encP,o.map encP++[encP (p.1,t)]),(0,[])),?_,by simp [xab,sUF],by simp [xab,sUF]⟩
     unfold xa4 xkT xig xjJ xdF xmj xmk xjK xml;simp only [sBU,L,w1,i1,i2,i3,i4,i5,gl,cP0,cP1,lP,sP,sP0,sP1,c1,c2,tl,zr,m1,m2,m3,m4,if_true,aggP]
   . have c1:¬ p.2>=f:=by omega
     rw [jn,if_neg he,L];refine ⟨(false,(0,[],[]),(o.length+1+1,(o++[p]).map encP++[encP (f,t)])),?_,by simp [xac,sUF],by simp [xac,sUF]⟩
     unfold xa4 xkT xig xjJ xdF xmj xmk xjK xml;simp only [sBU,L,w1,i1,i2,i3,i4,gl,cP0,cP1,lP,sP,sP0,sP1,c1,m5,m6,aggP]
theorem xvP {out:List Per} {f t:Int} {K:Int->Bool} (h:OutOk out f K) (h0:0<=f) (J:f<t) (hF:t<=1099511627776) (hK:∀ u,f<=u->u<t->K u=true):OutOk (xNM out f t) t K/\(xNM out f t).length<=out.length+1:=by
 rcases xrR out with rfl|⟨o,p,rfl⟩
 . exact ⟨h.add h0 J hF hK (fun p hp=>by simp at hp),by simp [xNM]⟩
 . have jn:xNM (o++[p]) f t=if p.2=f then o++[(p.1,t)] else o++[p]++[(f,t)]:=by unfold xNM;simp
   rw [jn];by_cases he:p.2=f
   . rw [if_pos he];exact ⟨h.ext he J hF hK,by simp⟩
   . rw [if_neg he];refine ⟨h.add h0 J hF hK (fun q hq e=>?_),by simp⟩
     rcases zG.1 hq with hq|hq
     . have:=(List.pairwise_append.1 h.span.2).2.2 q hq p (by simp)
       have hv:=xcs.1 (h.span.1 p (by simp))
       have:=h.low p (by simp)
       omega
     . rw [zv] at hq;subst hq;exact he e
theorem xCt {N:Int->Nat} {S:List Per} (hS:StepI (fun t=>(N t:Int)) 1099511627776 S) (hl:S.length<=524289) (n:Int):∀ (d i:Nat) (out:List Per),i+d=S.length->OutOk out (pos S i) (fun t=>decide (n<=(N t:Int)))->out.length<=i ->
  ∃ J:List Per,Iter (xaE (S.map encP) n) (out.length,(i:Int),out.map encP)=some (J.length,J.map encP)/\OutOk J 1099511627776 (fun t=>decide (n<=(N t:Int)))/\J.length<=S.length
 | 0,i,out,h,ho,hn=>by
  obtain rfl:i=S.length:=by omega
  rw [xui (zd _)] at ho;refine ⟨out,xag ?_,ho,hn⟩;simp only [xaE,xct,za,zy,zm,xac,sUF]
 | d+1,i,out,h,ho,hn=>by
  have hi:i<S.length:=by omega
  obtain ⟨p1,p2,p3,p4,p5⟩:=xDi hS hi;have i1:(i:Int)<(S.length:Int):=by omega
  have gf:(S.map encP).getD i .top=encP S[i]:=xaa _ _ _ hi;have wi:=xNG (n:=i) (by omega)
  have pe:=xnY hi;by_cases Q:S[i].2>=n
  . have hK:∀ t,pos S i<=t->t<pos S (i+1)->(fun t=>decide (n<=(N t:Int))) t=true:=fun t t1 t2=>by
     dsimp only;rw [p5 t t1 t2,<-p4];exact decide_eq_true Q
    obtain ⟨j1,j2⟩:=xvP ho p1 p2 p3 hK;obtain ⟨q,q1,q2,q3⟩:=xE6 out (pos S i) (pos S (i+1)) p2 ho.low (by omega)
    obtain ⟨J,e',x1,x2⟩:=xCt hS hl n d (i+1) (xNM out (pos S i) (pos S (i+1))) (by omega) j1 (by omega)
    refine ⟨J,(xap (s':=((xNM out (pos S i) (pos S (i+1))).length,((i+1:Nat):Int),(xNM out (pos S i) (pos S (i+1))).map encP)) ?_).trans e',x1,x2⟩;rw [<-q2,<-q3];by_cases O:i+1<S.length
    . have i2:((i+1:Nat):Int)<(S.length:Int):=by omega
      have gn:(S.map encP).getD (i+1) .top=encP S[i+1]:=xaa _ _ _ O;rw [xnY O,pe] at q1;simp only [xaE,xct,xdn,xdo,xdp,xdq,xdr,xds,xdt,xdu,xdv,xdw,xbj,xcO,xcP,xcQ,sBU,i1,i2,hi,O,gf,gn,cP0,cP1,lP,sP,sP0,sP1,Q,wi,q1]
    . have i2:¬ ((i+1:Nat):Int)<(S.length:Int):=by omega
      rw [xui (S:=S) (i:=i+1) (by omega),pe] at q1
      simp only [xaE,xct,xdn,xdo,xdp,xdq,xdr,xds,xdt,xdu,xdv,xdw,xbj,xcO,xcP,xcQ,sBU,i1,i2,hi,gf,cP0,cP1,lP,sP,sP0,sP1,Q,wi,q1]
  . have hK:∀ t,pos S i<=t->t<pos S (i+1)->(fun t=>decide (n<=(N t:Int))) t=false:=fun t t1 t2=>by
     dsimp only;rw [p5 t t1 t2,<-p4];exact decide_eq_false (by omega)
    obtain ⟨J,e',x1,x2⟩:=xCt hS hl n d (i+1) out (by omega) (ho.skip (by omega) hK) (by omega)
    refine ⟨J,(xap (s':=(out.length,((i+1:Nat):Int),out.map encP)) ?_).trans e',x1,x2⟩;by_cases O:i+1<S.length
    . have i2:((i+1:Nat):Int)<(S.length:Int):=by omega
      have gn:(S.map encP).getD (i+1) .top=encP S[i+1]:=xaa _ _ _ O;simp only [xaE,xct,xdn,xdo,xdp,xdq,xdr,xds,xdt,xdu,xdv,xdw,xbj,xcO,xcP,xcQ,sBU,i1,i2,hi,O,gf,gn,cP0,cP1,lP,sP,sP0,sP1,Q,wi]
    . have i2:¬ ((i+1:Nat):Int)<(S.length:Int):=by omega
      simp only [xaE,xct,xdn,xdo,xdp,xdq,xdr,xds,xdt,xdu,xdv,xdw,xbj,xcO,xcP,xcQ,sBU,i1,i2,hi,gf,cP0,cP1,lP,sP,sP0,sP1,Q,wi]
theorem xHo {N:Int->Nat} (h0:∀ t,t<0\/1099511627776<=t->N t=0) {S:List Per} (hS:StepI (fun t=>(N t:Int)) 1099511627776 S) (hl:S.length<=524289) (k:Nat):∃ A:List Per,xcI (S.map encP) ((k+1:Nat):Int)=some (A.map encP)/\(IsSpan A/\∀ t,inL A t=decide (k<N t))/\A.length<=S.length:=by
 obtain ⟨A,e,a1,a2⟩:=xCt hS hl ((k+1:Nat):Int) S.length 0 [] (by omega) (by rw [xDj hS];exact xtg _) (zd _)
 refine ⟨A,?_,⟨a1.span,fun t=>?_⟩,a2⟩
 . have e:Iter (xaE (S.map encP) ((k+1:Nat):Int)) ((0:Nat),(0:Int),[])=_:=e;have tt:List.take A.length (A.map encP)=A.map encP:=zi (by simp)
   unfold xcI xn3;simp only [xmN,xmO,xmP,e,zk,zh,xab,zH,za,zd,zn,zS,zr,tt,sUF]
 . rw [a1.done];by_cases h1:0<=t
   . by_cases h2:t<1099511627776
     . simp only [h1,h2,zn,Bool.true_and];rw [Bool.eq_iff_iff,zl,zl];omega
     . have:=h0 t (.inr (by omega));simp [h2,this]
   . have:=h0 t (.inl (by omega));simp [h1,this]
theorem xAl {N:Int->Nat} {S:List Per} (hS:StepI (fun t=>(N t:Int)) 1099511627776 S) (hl:S.length<=524289) (n:Int):∀ (d i:Nat) (out:List Per),i+d=S.length->OutOk out (pos S i) (fun t=>decide (n<=(N t:Int)))->out.length<=i ->
  ∃ q:List Per,Iter (xam (S.map encP) n (S.map encP) ((S.length:Nat):Int)) (out.length,(i:Int),out.map encP)=some (q.length,q.map encP)/\OutOk q 1099511627776 (fun t=>decide (n<=(N t:Int)))/\q.length<=S.length
 | 0,i,out,h,ho,hn=>by
  obtain rfl:i=S.length:=by omega
  rw [xui (zd _)] at ho;refine ⟨out,xag ?_,ho,hn⟩;simp only [xam,xaN,xaC,xaD,za,zy,zm,xac,sUF]
 | d+1,i,out,h,ho,hn=>by
  have hi:i<S.length:=by omega
  obtain ⟨p1,p2,p3,p4,p5⟩:=xDi hS hi;have pe:=xnY hi;have i1:(i:Int)<(S.length:Int):=by omega
  have gf:(S.map encP).getD i .top=encP S[i]:=xaa _ _ _ hi;have wi:IntKind.i64.wrap ((i:Int)+1)=((i+1:Nat):Int):=xNG (by omega)
  obtain ⟨m1,m2,m3,m4⟩:=xOj (n:=out.length) (by omega)
  by_cases Q:n<=S[i].2
  . have hK:∀ t,pos S i<=t->t<pos S (i+1)->(fun t=>decide (n<=(N t:Int))) t=true:=fun t t1 t2=>by
     dsimp only;rw [p5 t t1 t2,<-p4];exact decide_eq_true Q
    obtain ⟨j1,j2⟩:=xvP ho p1 p2 p3 hK;obtain ⟨q,e',x1,x2⟩:=xAl hS hl n d (i+1) (xNM out (pos S i) (pos S (i+1))) (by omega) j1 (by omega)
    refine ⟨q,(xap (s':=((xNM out (pos S i) (pos S (i+1))).length,((i+1:Nat):Int),(xNM out (pos S i) (pos S (i+1))).map encP)) ?_).trans e',x1,x2⟩;have O:¬ S[i].2<n:=by omega
    rcases xrR out with rfl|⟨o,p,rfl⟩
    . have i0:¬ ((0:Int)>0):=by omega
      by_cases J:i+1<S.length
      . have i2:((i+1:Nat):Int)<(S.length:Int):=by omega
        have gn:(S.map encP).getD (i+1) .top=encP S[i+1]:=xaa _ _ _ J;rw [xnY J,pe];simp only [xam,xaN,xaC,xaD,xaS,xay,xaz,xaf,xaT,sBU,i1,i2,hi,J,gf,gn,cP0,cP1,lP,sP,sP0,sP1,O,wi,zW,List.length_nil,Int.natCast_zero,Int.ofNat_zero,i0,xNM,List.getLast?_nil,zU];rfl
      . have i2:¬ ((i+1:Nat):Int)<(S.length:Int):=by omega
        rw [xui (S:=S) (i:=i+1) (by omega),pe]
        simp only [xam,xaN,xaC,xaD,xaS,xay,xaz,xaf,xaT,sBU,i1,i2,hi,gf,cP0,cP1,lP,sP,sP0,sP1,O,wi,zW,List.length_nil,Int.natCast_zero,Int.ofNat_zero,i0,xNM,List.getLast?_nil,zU];rfl
    . have L:(o++[p]).length=o.length+1:=by simp
      rw [L] at m1 m2;have w1:IntKind.i64.wrap (((o.length+1:Nat):Int) - 1)=(o.length:Int):=xOm (by omega)
      have k1:((o.length+1:Nat):Int)>0:=by omega
      have k2:(o.length:Int)<((o.length+1:Nat):Int):=by omega
      have k4:o.length<o.length+1:=by omega
      have gl:((o++[p]).map encP).getD o.length .top=encP p:=by
       rw [zx];have:=xCS (o.map encP) (encP p) .top;rwa [za] at this
      have sl:∀ y:AV,((o++[p]).map encP).set o.length y=o.map encP++[y]:=fun y=>by
       rw [zx];have:=xKx (o.map encP) (encP p) y;rwa [za] at this
      have jn:∀ f t:Int,xNM (o++[p]) f t=if p.2=f then o++[(p.1,t)] else o++[p]++[(f,t)]:=fun f t=>by unfold xNM;simp
      by_cases J:i+1<S.length
      . have i2:((i+1:Nat):Int)<(S.length:Int):=by omega
        have gn:(S.map encP).getD (i+1) .top=encP S[i+1]:=xaa _ _ _ J;rw [xnY J,pe,jn];by_cases he:p.2=S[i].1
        . have be:(p.2==S[i].1)=true:=by simpa using he
          rw [if_pos he];simp only [xam,xaN,xaC,xaD,xaS,xay,xaz,xaf,xaT,sBU,L,i1,i2,hi,J,gf,gn,cP0,cP1,lP,sP,sP0,sP1,O,wi,w1,k1,k2,k4,gl,be,sl,tkP,dpP];simp [encP]
        . have be:(p.2==S[i].1)=false:=by simpa using he
          rw [if_neg he];simp only [xam,xaN,xaC,xaD,xaS,xay,xaz,xaf,xaT,sBU,L,i1,i2,hi,J,gf,gn,cP0,cP1,lP,sP,sP0,sP1,O,wi,w1,k1,k2,k4,gl,be,m1,m2];simp [encP]
      . have i2:¬ ((i+1:Nat):Int)<(S.length:Int):=by omega
        rw [xui (S:=S) (i:=i+1) (by omega),pe,jn]
        by_cases he:p.2=S[i].1
        . have be:(p.2==S[i].1)=true:=by simpa using he
          rw [if_pos he];simp only [xam,xaN,xaC,xaD,xaS,xay,xaz,xaf,xaT,sBU,L,i1,i2,hi,gf,cP0,cP1,lP,sP,sP0,sP1,O,wi,w1,k1,k2,k4,gl,be,sl,tkP,dpP];simp [encP]
        . have be:(p.2==S[i].1)=false:=by simpa using he
          rw [if_neg he];simp only [xam,xaN,xaC,xaD,xaS,xay,xaz,xaf,xaT,sBU,L,i1,i2,hi,gf,cP0,cP1,lP,sP,sP0,sP1,O,wi,w1,k1,k2,k4,gl,be,m1,m2];simp [encP]
  . have hK:∀ t,pos S i<=t->t<pos S (i+1)->(fun t=>decide (n<=(N t:Int))) t=false:=fun t t1 t2=>by
     dsimp only;rw [p5 t t1 t2,<-p4];exact decide_eq_false (by omega)
    obtain ⟨q,e',x1,x2⟩:=xAl hS hl n d (i+1) out (by omega) (ho.skip (by omega) hK) (by omega)
    refine ⟨q,(xap (s':=(out.length,((i+1:Nat):Int),out.map encP)) ?_).trans e',x1,x2⟩;have O:S[i].2<n:=by omega
    by_cases J:i+1<S.length
    . have i2:((i+1:Nat):Int)<(S.length:Int):=by omega
      have gn:(S.map encP).getD (i+1) .top=encP S[i+1]:=xaa _ _ _ J;simp only [xam,xaN,xaC,xaD,xaS,xay,xaz,xaf,xaT,sBU,i1,i2,hi,J,gf,gn,cP0,cP1,lP,sP,sP0,sP1,O,wi]
    . have i2:¬ ((i+1:Nat):Int)<(S.length:Int):=by omega
      simp only [xam,xaN,xaC,xaD,xaS,xay,xaz,xaf,xaT,sBU,i1,i2,hi,gf,cP0,cP1,lP,sP,sP0,sP1,O,wi]
theorem xKQ {N:Int->Nat} (h0:∀ t,t<0\/1099511627776<=t->N t=0) {S:List Per} (hS:StepI (fun t=>(N t:Int)) 1099511627776 S) (hl:S.length<=524289) (k:Nat):∃ A:List Per,xf0 (S.map encP) ((k+1:Nat):Int)=some (A.map encP)/\(IsSpan A/\∀ t,inL A t=decide (k<N t))/\A.length<=S.length:=by
 obtain ⟨A,e,a1,a2⟩:=xAl hS hl ((k+1:Nat):Int) S.length 0 [] (by omega) (by rw [xDj hS];exact xtg _) (zd _)
 refine ⟨A,?_,⟨a1.span,fun t=>?_⟩,a2⟩
 . have e:Iter (xam (S.map encP) ((k+1:Nat):Int) (S.map encP) ((S.length:Nat):Int)) ((0:Nat),(0:Int),[])=_:=e;have tt:List.take A.length (A.map encP)=A.map encP:=zi (by simp)
   unfold xf0 xoK;simp only [xm6,xm7,xm8,za,e,zk,zh,xab,zH,zd,zn,zS,zr,tt,sUF]
 . rw [a1.done];by_cases h1:0<=t
   . by_cases h2:t<1099511627776
     . simp only [h1,h2,zn,Bool.true_and];rw [Bool.eq_iff_iff,zl,zl];omega
     . have:=h0 t (.inr (by omega));simp [h2,this]
   . have:=h0 t (.inl (by omega));simp [h1,this]
theorem xzo {ps:List Per}:(fun t=>sumC (ps.map fun p=>(p,(1:Int))) t)=fun t=>((ps.countP (hasP · t):Nat):Int):=funext fun t=>xBE ps t
def xNT (ps A:List Per):Prop:=(IsSpan A/\∀ t,inL A t=decide (1<ps.countP (hasP · t)))/\A.length<=2*ps.length+1
theorem xNT.unique {ps A B:List Per} (h:xNT ps A) (g:xNT ps B):A=B:=xfm h.1.1 g.1.1 fun t=>by rw [h.1.2,g.1.2]
theorem xBi (ps:List Per) (h:ps.length<=65536):∃ S A:List Per,xjv ((ps.map fun p=>(p,(1:Int))).map encC)=some (S.map encP)/\xf0 (S.map encP) 2=some (A.map encP)/\xNT ps A:=by
 obtain ⟨S,h1,h2,h3⟩:=xmJ _ (xvZ (ps:=ps) (by omega))
 have h2:StepI (fun t=>((ps.countP (hasP · t):Nat):Int)) 1099511627776 S:=by
  have:=xzo (ps:=ps);rw [<-this];exact h2
 rw [za] at h3;obtain ⟨A,a1,a2,a3⟩:=xKQ (N:=fun t=>ps.countP (hasP · t)) (xyj ps) h2 (by omega) 1
 exact ⟨S,A,h1,a1,a2,by omega⟩
theorem xId (ps:List Per) (h:ps.length<=65536):∃ S A:List Per,xsi ((ps.map fun p=>(p,(1:Int))).map encC)=some (S.map encP)/\xcI (S.map encP) 2=some (A.map encP)/\xNT ps A:=by
 obtain ⟨S,h1,h2,h3⟩:=xIl _ (xvZ (ps:=ps) (by omega))
 have h2:StepI (fun t=>((ps.countP (hasP · t):Nat):Int)) 1099511627776 S:=by
  have:=xzo (ps:=ps);rw [<-this];exact h2
 rw [za] at h3;obtain ⟨A,a1,a2,a3⟩:=xHo (N:=fun t=>ps.countP (hasP · t)) (xyj ps) h2 (by omega) 1
 exact ⟨S,A,h1,a1,a2,by omega⟩
def life (key:List Int) (pl:List Fc) (K:Row):List Per:=(pl.filter fun y=>decide (pick y.r key=K)).map (·.p)
theorem xpk (key:List Int) (pl:List Fc) (K:Row):(life key pl K).length<=pl.length:=by
 unfold life;rw [za];exact List.length_filter_le _ _
def xN0 (key:List Int) (pl:List Fc):List En:=pl.foldl (fun es x=>addE es (keyOf (pick x.r key)) x.p) []
theorem xvW (key:List Int) (pl:List Fc) (K:Row):xNN (xN0 key pl) (keyOf K)=life key pl K:=by
 unfold xN0 life;rw [xA6 (fun x:Fc=>keyOf (pick x.r key)) (fun x=>x.p)]
 show []++_=_;rw [zU];congr 1;refine List.filter_congr fun x _=>?_
 rw [Bool.eq_iff_iff,beq_iff_eq,zl];exact ⟨fun h=>xAd h,fun h=>by rw [h]⟩
theorem xCs {n:Nat} {s:List UInt8} {p:Per}:∀ {es:List En},(∀ e,e∈es->e.2.length<=n)->∀ e,e∈addE es s p->e.2.length<=n+1
 | [],_,e,he=>by simp only [addE,zv] at he;subst he;simp
 | a::es,h,e,he=>by
  have ha:=h a (by simp)
  rw [addE] at he;cases hc:a.1==s with
  | true =>
   rw [hc] at he;rcases zC.1 he with rfl|he
   . simp;exact ha
   . have:=h e (by simp [he]);omega
  | false =>
   rw [hc] at he;rcases zC.1 he with rfl|he
   . omega
   . exact xCs (fun x hx=>h x (by simp [hx])) e he
theorem xyg (s:List UInt8) (p:Per):∀ (es:List En) (x:List UInt8),x∈(addE es s p).map (·.1)↔x=s\/x∈es.map (·.1)
 | [],x=>by simp [addE]
 | e::es,x=>by
  have ih:=xyg s p es x;rw [addE];cases he:e.1==s with
  | true =>
   have e1:e.1=s:=by simpa using he
   simp only [zV,zC,e1];constructor
   . rintro (h|h)
     . exact .inl h
     . exact .inr (.inr h)
   . rintro (h|h|h)
     . exact .inl h
     . exact .inl h
     . exact .inr h
  | false =>
   simp only [zV,zC,ih];constructor
   . rintro (h|h|h)
     . exact .inr (.inl h)
     . exact .inl h
     . exact .inr (.inr h)
   . rintro (h|h|h)
     . exact .inr (.inl h)
     . exact .inl h
     . exact .inr (.inr h)
theorem xyX (s:List UInt8) (p:Per):∀ {es:List En},(es.map (·.1)).Nodup->((addE es s p).map (·.1)).Nodup
 | [],_=>by simp [addE]
 | e::es,h=>by
  rw [zV,List.nodup_cons] at h;rw [addE];cases he:e.1==s with
  | true=>simp only [zV,List.nodup_cons];exact h
  | false =>
   simp only [zV,List.nodup_cons];refine ⟨fun hm=>?_,xyX s p h.2⟩
   rcases (xyg s p es e.1).1 hm with h1|h1
   . rw [h1] at he;simp at he
   . exact h.1 h1
theorem xAT {α:Type} (k:α->List UInt8) (f:α->Per):∀ (l:List α) (es:List En),(es.map (·.1)).Nodup->((l.foldl (fun es x=>addE es (k x) (f x)) es).map (·.1)).Nodup/\∀ x,x∈(l.foldl (fun es x=>addE es (k x) (f x)) es).map (·.1)↔x∈es.map (·.1)\/∃ a,a∈l/\x=k a
 | [],es,h=>⟨h,fun x=>by simp⟩
 | a::l,es,h=>by
  obtain ⟨h1,h2⟩:=xAT k f l (addE es (k a) (f a)) (xyX _ _ h);rw [List.foldl_cons];refine ⟨h1,fun x=>?_⟩
  rw [h2,xyg];constructor
  . rintro ((h|h)|⟨b,hb,h⟩)
    . exact .inr ⟨a,by simp,h⟩
    . exact .inl h
    . exact .inr ⟨b,by simp [hb],h⟩
  . rintro (h|⟨b,hb,h⟩)
    . exact .inl (.inr h)
    . rcases zC.1 hb with rfl|hb
      . exact .inl (.inl h)
      . exact .inr ⟨b,hb,h⟩
theorem xAh:∀ {es:List En},(es.map (·.1)).Nodup->∀ {e:En},e∈es->xNN es e.1=e.2
 | a::es,h,e,he=>by
  rw [zV,List.nodup_cons] at h;rw [xNN];rcases zC.1 he with rfl|he
  . simp
  . have:(a.1==e.1)=false:=by
     rw [Bool.eq_false_iff];intro hh;exact h.1 (zK.2 ⟨e,he,(by simpa using hh:a.1=e.1).symm⟩)
    rw [this];exact xAh h.2 he
theorem xze (key:List Int) (l:List Fc):((xN0 key l).map (·.1)).Nodup/\∀ x,x∈(xN0 key l).map (·.1)↔∃ f,f∈l/\x=keyOf (pick f.r key):=by
 obtain ⟨h1,h2⟩:=xAT (fun x:Fc=>keyOf (pick x.r key)) (fun x=>x.p) l [] List.nodup_nil
 exact ⟨h1,fun x=>by rw [xN0,h2];simp⟩
theorem xvS (key:List Int) (l:List Fc) (e:En):e∈xN0 key l↔∃ f,f∈l/\e=(keyOf (pick f.r key),life key l (pick f.r key)):=by
 obtain ⟨h1,h2⟩:=xze key l;constructor
 . intro he;obtain ⟨f,hf,h⟩:=(h2 e.1).1 (zK.2 ⟨e,he,rfl⟩);refine ⟨f,hf,?_⟩;have h3:=xAh h1 he;rw [h,xvW] at h3;exact Prod.ext h h3.symm
 . rintro ⟨f,hf,rfl⟩;obtain ⟨e,he,h⟩:=zK.1 ((h2 _).2 ⟨f,hf,rfl⟩);have h3:=xAh h1 he;rw [h,xvW] at h3;have:e=(keyOf (pick f.r key),life key l (pick f.r key)):=Prod.ext h h3.symm;rw [<-this];exact he
def encO (p:Per):AV:=encC (p,1)
theorem xJn (ps:List Per):ps.map encO=(ps.map fun p=>(p,(1:Int))).map encC:=by rw [List.map_map];rfl
def xNK (e:En):AV:=.agg [.str e.1,.list 3 (e.2.map encO)]
theorem xnU (s:List UInt8):∀ es:List En,mapIx (es.map xNK) s=ixE es s
 | []=>rfl
 | e::es=>by
  rw [zV,mapIx,ixE,xnU s es];rfl
theorem xwU (es:List En) (s:List UInt8):xPd (es.map xNK) s=(ixE es s).isSome:=by unfold xPd;rw [xnU]
theorem xEo {es:List En} {s:List UInt8} {i:Nat} (h:ixE es s=some i):putIx (es.map xNK) s=i:=by unfold putIx;rw [xnU,h]
theorem xuL {s:List UInt8} {n:Int}:∀ {es:List En} {i:Nat},ixE es s=some i->mapIx ((es.map xNK).set i (xN7 s n)) s=some i
 | [],i,h=>by simp [ixE] at h
 | e::es,i,h=>by
  rw [ixE] at h;split at h
  . cases h;simp [mapIx,xN7,AV.cells,isKey]
  . rename_i he;cases hm:ixE es s with
    | none=>rw [hm] at h;simp at h
    | some j =>
     rw [hm] at h;simp only [Option.map_some,z6] at h;subst h;rw [zV,List.set_cons_succ,mapIx,xuL hm];have:isKey s ((xNK e).cells.getD 0 .top)=false:=he;rw [this];rfl
theorem xC7 {es:List En} {s:List UInt8} {i:Nat} (h:ixE es s=some i) (n:Int) (p:Per):xOx ((es.map xNK).set i (xN7 s n)) s (.list 3 ((((es.getD i default).2)++[p]).map encO))=(addE es s p).map xNK:=by
 unfold xOx;rw [xuL h,xAE h];dsimp only;rw [List.set_set,List.map_set];rfl
theorem xEl {es:List En} {s:List UInt8} (h:ixE es s=none) (p:Per):xOx (es.map xNK) s (.list 3 [encO p])=(addE es s p).map xNK:=by
 unfold xOx;rw [xnU,h,xAD h,zx];rfl
theorem xFM {es:List En} {s:List UInt8} {i:Nat} (h:ixE es s=some i) {n:Nat}:deadR ((es.map xNK).set i (xN7 s (n:Int))) s (n+1)=true:=by
 have hi:i<((es.map xNK).set i (xN7 s (n:Int))).length:=by rw [y2,za];exact xvO h
 unfold deadR;rw [xuL h];have:((es.map xNK).set i (xN7 s (n:Int))).getD i .top=xN7 s (n:Int):=by
  rw [z7,zL (by simpa using hi)];rfl
 dsimp only;rw [this];show (match deadLen (AV.int .i64 (n:Int)) with|some l0=>decide (l0<n+1)|none=>false)=true
 simp [deadLen]
theorem xFL {es:List En} {s:List UInt8} (h:ixE es s=none) (n:Nat):deadR (es.map xNK) s n=true:=by unfold deadR;rw [xnU,h]
theorem xOC {es:List En} {i:Nat} (h:i<es.length):(es.map xNK).getD i .top=xNK (es.getD i default):=by
 rw [xaa _ _ _ h,z7,ze h];rfl
theorem xOA (e:En) (a:AV):AV.agg (List.take 1 (xNK e).cells++[a]++List.drop 2 (xNK e).cells)=AV.agg [.str e.1,a]:=rfl
theorem xOH (e:En):((xNK e).cells.getD 1 .top).toList=e.2.map encO:=rfl
theorem xOE (e:En):xPo 3 ((xNK e).cells.getD 1 .top)=true:=rfl
theorem xOD (e:En):((xNK e).cells.length==2)=true:=rfl
theorem xOG (ps:List Per) (f t:Int):ps.map encO++[AV.agg [.int .i64 f,.int .i64 t,.int .i64 1]]=(ps++[(f,t)]).map encO:=by rw [zx];rfl
theorem xI8 (s:List UInt8) (n:Int):AV.agg [.str s,.int .i64 n]=xN7 s n:=rfl
theorem xFK (p0:List UInt8) (p1 p3 p4:List AV) (key:List Int) (hk:key.length<=1048576) (x:Fc) (ht:Txt x.r) (es:List En) {n:Nat} (hn:n<=1048576) (hb:es.length<=n/\∀ e,e∈es->e.2.length<=n) :
  crowds1 (x.r.map encV) x.p.1 x.p.2 p0 p1 (key.map encN) p3 p4 (es.map xNK)=some ((addE es (keyOf (pick x.r key)) x.p).map xNK):=by
 have O:=xAe p0 p1 p3 p4 key x.r hk;have hs:=xHF ht hk;have hl:(keyOf (pick x.r key)).length<=4611686018427387904:=by have:=ht.len hk;omega
 generalize hK:keyOf (pick x.r key)=K at *;cases hi:ixE es K with
 | none =>
  have m1:es.length<4611686018427387904:=by have:=hb.1;omega
  have d1:=xFL hi 1;have mp:=xEl hi x.p;have mp:xOx (es.map xNK) K (.list 3 [AV.agg [.int .i64 x.p.1,.int .i64 x.p.2,.int .i64 1]])=_:=mp;simp only [crowds1,xta,xnH,xnI,xle,xe4,xbf,xrG,sBU,O,hs,hl,xwU,hi,Option.isSome_none,m1,d1,mp]
 | some i =>
  have q:=xvO hi;have m1:es.length<4611686018427387904:=by have:=hb.1;omega
  have Q:(es.getD i default).2.length<=n:=hb.2 _ (by rw [z7,ze q];exact zo q)
  have r1:((es.getD i default).2.length+1)*24<=140737488355328:=by omega
  have r2:(es.getD i default).2.length+1<=4611686018427387904:=by omega
  have J:=xE5 hi;have d1:=xFM hi (n:=(es.getD i default).2.length);have mp:=xC7 hi (((es.getD i default).2.length:Nat):Int) x.p;simp only [crowds1,xta,xnH,xnI,xle,xe4,xbf,xrG,sBU,O,hs,hl,xwU,hi,xEo hi,xOC q,q,xOH,xOE,xOD,xOA,J,xI8,xOG,z8,zj,y2,r1,r2,m1,d1];rw [<-mp]
theorem xHz (p0:List UInt8) (p1 p3 p4:List AV) (key:List Int) (hk:key.length<=1048576) (l:List Fc) (hl:l.length<=1048576) (ht:∀ y,y∈l->Txt y.r) :
  Iter (xeM p0 p1 (key.map encN) p3 p4 (l.map encF) ((l.length:Nat):Int)) ((0:Int),[])=some ((xN0 key l).map xNK):=by
 refine xtd l (fun es x=>addE es (keyOf (pick x.r key)) x.p) (fun n b=>((n:Int),b.map xNK)) (fun n b=>b.length<=n/\∀ e,e∈b->e.2.length<=n) (fun n h b hb=>?_) l.length 0 [] (by omega) (by simp) ?_
 . have h1:(n:Int)<(l.length:Int):=by omega
   have gf:(l.map encF).getD n .top=encF l[n]:=xaa _ _ _ h;have hx:=xFK p0 p1 p3 p4 key hk l[n] (ht l[n] (zo h)) b (n:=n) (by omega) hb
   refine ⟨?_,?_,xCs hb.2⟩
   . simp only [xeM,xp9,xnJ,sBU,h,h1,gf,cF0,cF1,cF2,sF0,sF1,sF2,lF,sF12,sF02,hx,xNG (n:=n) (by omega)]
   . have:=xyh (keyOf (pick l[n].r key)) l[n].p b;omega
 . simp only [zr];simp only [xeM,xp9,xnJ,za,zy,zm,xac,sUF];rfl
def xNP (ps:List Per):List Per:=by
 classical
 exact if h:∃ A,xNT ps A then Classical.choose h else []
theorem xkK {ps:List Per} (h:ps.length<=65536):xNT ps (xNP ps):=by
 obtain ⟨S,A,_,_,h3⟩:=xBi ps h;have hx:∃ A,xNT ps A:=⟨A,h3⟩;unfold xNP;rw [dif_pos hx];exact Classical.choose_spec hx
theorem xFJ:xNP []=[]:=(xkK (ps:=[]) (by simp)).unique ⟨⟨xrK,fun t=>by simp [xpi]⟩,by simp⟩
theorem xAL {ps:List Per} (h:ps.length<=65536):crowdV (ps.map encO)=(xNP ps).map encP/\crowdOk (ps.map encO)=true:=by
 obtain ⟨S,A,h1,h2,h3⟩:=xBi ps h;rw [xJn];unfold crowdV crowdOk;simp only [h1,h2,zh,zk,Bool.and_self,and_true];rw [h3.unique (xkK h)]
theorem xAM {ps A:List Per} (h:xNT ps A):A=[]↔∀ t,ps.countP (hasP · t)<=1:=by
 constructor
 . rintro rfl t;have:=h.1.2 t;rw [xpi] at this;have:=of_decide_eq_false this.symm;omega
 . intro h1;exact xu2 h.1.1 fun t=>by rw [h.1.2];exact decide_eq_false (by have:=h1 t;omega)
theorem xuG {es:List En} {k:Nat} (h:k<es.length):keyK (es.map xNK) k=es[k].1:=by unfold keyK;rw [xaa _ _ _ h];rfl
theorem xDz {es:List En} {k:Nat} (h:k<es.length):rowK (es.map xNK) k=es[k].2.map encO:=by unfold rowK;rw [xaa _ _ _ h];rfl
theorem xFh {es:List En} {k:Nat} (h:k<es.length):rowK (es.map xNQ) k=es[k].2.map encP:=by unfold rowK;rw [xaa _ _ _ h];rfl
theorem xHT {es:List En} (h:(es.map (·.1)).Nodup):keysD (es.map xNK)=true:=by
 unfold keysD;rw [zI];intro i hi;rw [zI];intro j hj;rw [List.mem_range,za] at hi hj;rw [xuG hi,xuG hj];by_cases e:i=j
 . subst e;simp
 . have hne:¬ es[i].1=es[j].1:=fun hh=>by
    rcases Nat.lt_or_gt_of_ne e with q|q
    . exact zB.1 h i j (by simpa using hi) (by simpa using hj) q (by rw [List.getElem_map,List.getElem_map];exact hh)
    . exact zB.1 h j i (by simpa using hj) (by simpa using hi) q (by rw [List.getElem_map,List.getElem_map];exact hh.symm)
   simp [hne]
def PcOk (es:List En):Prop:=∀ e,e∈es->e.1.length<=4611686018427387904/\e.2.length<=65536
theorem xGb {es:List En} (h:(es.map (·.1)).Nodup) (hl:es.length<=65536) (h1:PcOk es):piecesOk (es.map xNK)=true:=by
 unfold piecesOk;have h2:decide (es.length<4611686018427387904)=true:=decide_eq_true (by omega)
 rw [xHT h,Bool.true_and,za,h2,Bool.true_and,zI];intro k hk;rw [List.mem_range] at hk;have hm:=h1 _ (zo hk);have h3:xPo 3 (((es.map xNK).getD k .top).cells.getD 1 .top)=true:=by rw [xaa _ _ _ hk];rfl
 rw [xuG hk,xDz hk,(xAL hm.2).2,h3,Bool.true_and,Bool.true_and];exact decide_eq_true hm.1
theorem xJr {es:List En} (h1:PcOk es):outC (es.map xNK)=(es.map fun e=>((e.1,xNP e.2):En)).map xNQ:=by
 unfold outC;refine List.ext_getElem (by simp) fun k h2 h3=>?_
 have hk:k<es.length:=by simpa using h2
 rw [List.getElem_map,List.getElem_range,List.getElem_map,List.getElem_map];unfold entC;rw [xuG hk,xDz hk,(xAL (h1 _ (zo hk)).2).1];rfl
def xNR (key:List Int) (l:List Fc):List En:=(xN0 key l).map fun e=>(e.1,xNP e.2)
theorem xC5 {g:List Per->List Per} (h0:g []=[]) (s:List UInt8):∀ es:List En,xNN (es.map fun e=>((e.1,g e.2):En)) s=g (xNN es s)
 | []=>h0.symm
 | e::es=>by
  rw [zV,xNN,xNN,xC5 h0 s es];cases e.1==s<;>rfl
theorem xF6 (key:List Int) (l:List Fc) (K:Row):xNN (xNR key l) (keyOf K)=xNP (life key l K):=by
 unfold xNR;rw [xC5 xFJ,xvW]
structure TOk (key:List Int) (l:List Fc):Prop where
 key:key.length<=1048576
 len:l.length<=65536
 txt:∀ y,y∈l->Txt y.r
theorem TOk.pc {key:List Int} {l:List Fc} (h:TOk key l):PcOk (xN0 key l):=fun e he=>by
 obtain ⟨f,hf,rfl⟩:=(xvS key l e).1 he;have h1:=(h.txt f hf).len h.key;have h2:=xpk key l (pick f.r key);have:=h.len;dsimp only;omega
theorem xHW (key:List Int) (l:List Fc):(xN0 key l).length<=l.length:=by
 have:∀ (l:List Fc) (es:List En),(l.foldl (fun es x=>addE es (keyOf (pick x.r key)) x.p) es).length<=es.length+l.length:=by
  intro l;induction l with
  | nil=>intro es;simp
  | cons x l ih =>
   intro es;have h1:=ih (addE es (keyOf (pick x.r key)) x.p);have h2:=xyh (keyOf (pick x.r key)) x.p es;rw [List.foldl_cons,zF];omega
 have:=this l [];simpa [xN0] using this
theorem xAN {key:List Int} {l:List Fc} (h:TOk key l) (p0:List UInt8) (p1 p3 p4:List AV) :
  crowds p0 p1 (key.map encN) p3 p4 (l.map encF)=some ((xNR key l).map xNQ):=by
 have e:=xHz p0 p1 p3 p4 key h.key l (by have:=h.len;omega) h.txt
 have h1:=xGb (xze key l).1 (by have:=xHW key l;have:=h.len;omega) h.pc
 unfold crowds xuy;simp only [za,e,zk,zh,xab,h1,zS,xJr h.pc,sUF];rfl
theorem xIp (es:List En):rowsC (es.map xNQ)=true:=by
 unfold rowsC;rw [zI];intro k hk;rw [List.mem_range,za] at hk;rw [xaa _ _ _ hk];rfl
theorem xIS (es:List En):anyC (es.map xNQ)=true↔∃ e,e∈es/\e.2≠[]:=by
 unfold anyC;rw [List.any_eq_true];constructor
 . rintro ⟨k,hk,h⟩;rw [List.mem_range,za] at hk;rw [xFh hk,za] at h;refine ⟨es[k],zo hk,fun h0=>?_⟩
   rw [h0] at h;simp at h
 . rintro ⟨e,he,h⟩;obtain ⟨k,hk,rfl⟩:=zp.1 he;refine ⟨k,by simpa using hk,?_⟩
   rw [xFh hk,za];have:=List.length_pos_iff.2 h;exact decide_eq_true (by omega)
def Once (key:List Int) (l:List Fc):Prop:=∀ f,f∈l->∀ t,(life key l (pick f.r key)).countP (hasP · t)<=1
theorem xv0 {key:List Int} {l:List Fc} (h:TOk key l) (p0:List UInt8) (p1 p3 p4:List AV) :
  ∃ b,xb5 p0 p1 (key.map encN) p3 p4 (l.map encF)=some b/\(b=true↔Once key l):=by
 have e:=xAN h p0 p1 p3 p4;have hN:anyC ((xNR key l).map xNQ)=true↔¬ Once key l:=by
  rw [xIS];constructor
  . rintro ⟨x,hx,hne⟩ ho;obtain ⟨y,hy,rfl⟩:=zK.1 hx;obtain ⟨f,hf,rfl⟩:=(xvS key l y).1 hy;exact hne ((xAM (xkK (Nat.le_trans (xpk key l (pick f.r key)) h.len))).2 (ho f hf))
  . intro ho;obtain ⟨f,hf,hn⟩:∃ f,f∈l/\¬ ∀ t,(life key l (pick f.r key)).countP (hasP · t)<=1:=by
     refine Classical.byContradiction fun hc=>ho fun f hf=>Classical.byContradiction fun hd=>hc ⟨f,hf,hd⟩
    refine ⟨(keyOf (pick f.r key),xNP (life key l (pick f.r key))),zK.2 ⟨_,(xvS key l _).2 ⟨f,hf,rfl⟩,rfl⟩,fun h0=>hn ?_⟩
    exact (xAM (xkK (Nat.le_trans (xpk key l (pick f.r key)) h.len))).1 h0
 refine ⟨!anyC ((xNR key l).map xNQ),?_,?_⟩
 . unfold xb5 xlE;simp only [e,zk,zh,xIp,zS,xab,sUF];cases anyC ((xNR key l).map xNQ)<;>rfl
 . constructor
   . intro hb;refine Classical.byContradiction fun hc=>?_
     rw [hN.2 hc] at hb;simp at hb
   . intro ho;cases ha:anyC ((xNR key l).map xNQ) with
     | false=>rfl
     | true=>exact absurd ho (hN.1 ha)
def Tx (l:List Fc):Prop:=∀ f,f∈l->∀ v,v∈f.r->v.wf/\v.t.length<=1073741824
theorem xHQ {r:Row} (h:∀ v,v∈r->v.wf/\v.t.length<=1073741824) (hl:r.length<=60):(keyOf r).length<=17592186044416:=by
 have:=xi2 (g:=keyV) (c:=1073741890) r fun v hv=>by
  obtain ⟨h1,h2⟩:=h v hv;have:=xys h1 (by omega);omega
 unfold keyOf;have h2:1073741890*r.length<=1073741890*60:=Nat.mul_le_mul_left _ hl;omega
theorem xIC {l:List Fc} (hl:l.length<=1024) (hr:∀ f,f∈l->f.r.length<=60) (ht:Tx l) (q:R20 l):Bld l :=
 ⟨⟨⟨by omega,fun f hf=>by have:=hr f hf;omega⟩,fun f hf=>⟨fun v hv=>⟨(ht f hf v hv).1,by have:=(ht f hf v hv).2;omega⟩,xHQ (ht f hf) (hr f hf)⟩,q⟩,hl⟩
theorem xN2.all {l B:List Fc} (h:xN2 l B) {Q:Row->Prop} (hq:∀ f,f∈l->Q f.r):∀ f,f∈B->Q f.r:=fun f hf=>by
 obtain ⟨_,g,hg,e⟩:=h.valid hf;rw [<-e];exact hq g hg
theorem xNV.all {l B:List Fc} (h:xNV l B) {Q:Row->Prop} (hq:∀ f,f∈l->Q f.r):∀ f,f∈B->Q f.r:=fun f hf=>by
 obtain ⟨R,L,h1,h2,rfl⟩:=h;obtain ⟨a,b⟩:=xqn hf;obtain ⟨g,g1,g2,_⟩:=(h1.2 _).1 a;rw [<-g2];exact hq g g1
theorem xNV.len {l B:List Fc} (h:xNV l B):B.length<=l.length*l.length:=by
 obtain ⟨R,L,h1,h2,rfl⟩:=h;refine xvR (h1.1.nodup xpb) fun r hr=>?_
 obtain ⟨a,b⟩:=h2 r hr;have:=xAg (ps:=psOf l r) (k:=0) a fun t=>by rw [b,xzt]
 exact Nat.le_trans this (Nat.le_mul_self _)
theorem xKF (A B:List Per) (t:Int):inL (A++B) t=(inL A t || inL B t):=by unfold inL;rw [List.any_append]
theorem xwq (p:Per) (t:Int):inL [p] t=hasP p t:=by unfold inL;simp
theorem xFm {A:List Per} (hA:IsSpan A) {p q:Per} (hq:q∈A) (h:∀ t,inL A t=true->hasP p t=true):p.1<=q.1/\q.2<=p.2:=by
 have hv:=xcs.1 (hA.1 q hq);have h1:=h q.1 (List.any_eq_true.2 ⟨q,hq,xbs.2 ⟨hA.1 q hq,by omega,by omega⟩⟩)
 have h2:=h (q.2 - 1) (List.any_eq_true.2 ⟨q,hq,xbs.2 ⟨hA.1 q hq,by omega,by omega⟩⟩)
 have:=(xbs.1 h1).2;have:=(xbs.1 h2).2;omega
theorem xBC {c:Int->Bool} {Q:Per->List Per}:∀ {A:List Per},IsSpan A->(∀ p,p∈A->IsSpan (Q p)/\∀ t,inL (Q p) t=(hasP p t&&c t))->IsSpan (A.flatMap Q)/\∀ t,inL (A.flatMap Q) t=(inL A t&&c t)
 | [],_,_=>⟨xrK,fun t=>by simp [xpi]⟩
 | p::A,hA,hQ=>by
  obtain ⟨h1,h2⟩:=xBC (xBB hA) fun q hq=>hQ q (by simp [hq])
  obtain ⟨h3,h4⟩:=hQ p (by simp)
  have O:=(zM.1 hA.2).1;rw [zR];refine ⟨⟨fun q hq=>?_,List.pairwise_append.2 ⟨h3.2,h1.2,fun q hq q' J=>?_⟩⟩,fun t=>?_⟩
  . rcases zG.1 hq with hq|hq
    . exact h3.1 q hq
    . exact h1.1 q hq
  . obtain ⟨p',U,J⟩:=y3.1 J;obtain ⟨h5,h6⟩:=hQ p' (by simp [U])
    have a1:=(xFm h3 hq (p:=p) fun t ht=>by rw [h4] at ht;exact (Bool.and_eq_true_iff.1 ht).1).2
    have a2:=(xFm h5 J (p:=p') fun t ht=>by rw [h6] at ht;exact (Bool.and_eq_true_iff.1 ht).1).1
    have a3:=O p' U;omega
  . rw [xKF,h2,h4,xi4];cases hasP p t<;>cases inL A t<;>cases c t<;>rfl
def cntK (key:List Int) (l:List Fc) (K:Row) (t:Int):Nat:=(life key l K).countP (hasP · t)
structure IsViol (key:List Int) (l V:List Fc):Prop where
 ex:∃ R L,IsRows l R/\(∀ r,r∈R->IsSpan (L r)/\∀ t,inL (L r) t=(decide (0<cnt l r t)&&decide (1<cntK key l (pick r key) t)))/\V=facts R L
theorem IsViol.unique {key:List Int} {l V W:List Fc} (h:IsViol key l V) (g:IsViol key l W):V=W:=by
 obtain ⟨R,L,h1,h2,rfl⟩:=h;obtain ⟨R',L',g1,g2,rfl⟩:=g;obtain rfl:=h1.unique g1 fun _ _=>rfl
 exact xtE fun r hr=>xfm (h2 r hr).1 (g2 r hr).1 fun t=>by rw [(h2 r hr).2,(g2 r hr).2]
theorem IsViol.row {key:List Int} {l V:List Fc} (h:IsViol key l V):∀ f,f∈V->∃ g,g∈l/\g.r=f.r:=fun f hf=>by
 obtain ⟨R,L,h1,h2,rfl⟩:=h;obtain ⟨g,g1,g2,_⟩:=(h1.2 _).1 (xqn hf).1;exact ⟨g,g1,g2⟩
theorem IsViol.has {key:List Int} {l V:List Fc} (h:IsViol key l V) (t:Int):(∃ f,f∈V/\hasP f.p t=true)↔∃ f,f∈l/\hasP f.p t=true/\1<cntK key l (pick f.r key) t:=by
 obtain ⟨R,L,h1,h2,rfl⟩:=h;constructor
 . rintro ⟨f,hf,ht⟩;obtain ⟨a,b⟩:=xqn hf;have h3:=(h2 _ a).2 t;rw [show inL (L f.r) t=true from List.any_eq_true.2 ⟨_,b,ht⟩] at h3
   obtain ⟨c1,c2⟩:=Bool.and_eq_true_iff.1 h3.symm;obtain ⟨g,g1,g2,g3⟩:=xuf.1 (of_decide_eq_true c1);exact ⟨g,g1,g3,by rw [g2];exact of_decide_eq_true c2⟩
 . rintro ⟨f,hf,ht,hc⟩;have hr:f.r∈R:=(h1.2 _).2 ⟨f,hf,rfl,xvM ht⟩;have h3:=(h2 _ hr).2 t;rw [decide_eq_true (xuf.2 ⟨f,hf,rfl,ht⟩),decide_eq_true hc] at h3;obtain ⟨p,hp,q⟩:=List.any_eq_true.1 h3;exact ⟨⟨f.r,p⟩,y3.2 ⟨f.r,hr,zK.2 ⟨p,hp,rfl⟩⟩,q⟩
theorem xCF {key:List Int} {l:List Fc} {K:Row} {t:Int}:0<cntK key l K t↔∃ f,f∈l/\pick f.r key=K/\hasP f.p t=true:=by
 unfold cntK life;rw [List.countP_pos_iff];constructor
 . rintro ⟨p,hp,h⟩;obtain ⟨f,hf,rfl⟩:=zK.1 hp;obtain ⟨h1,h2⟩:=List.mem_filter.1 hf;exact ⟨f,h1,of_decide_eq_true h2,h⟩
 . rintro ⟨f,hf,h1,h2⟩;exact ⟨f.p,zK.2 ⟨f,List.mem_filter.2 ⟨hf,decide_eq_true h1⟩,rfl⟩,h2⟩
theorem IsViol.valid {key:List Int} {l V:List Fc} (h:IsViol key l V):∀ f,f∈V->pv f.p=true:=fun f hf=>by
 obtain ⟨R,L,h1,h2,rfl⟩:=h;obtain ⟨a,b⟩:=xqn hf;exact (h2 _ a).1.1 _ b
theorem xDc {key:List Int} {l:List Fc}:Once key l↔∀ K t,cntK key l K t<=1:=by
 constructor
 . intro h K t;rcases Nat.eq_zero_or_pos (cntK key l K t) with h0|h0
   . omega
   . obtain ⟨f,hf,rfl,_⟩:=xCF.1 h0;exact h f hf t
 . intro h f hf t;exact h _ t
theorem IsViol.nil {key:List Int} {l V:List Fc} (h:IsViol key l V):V=[]↔Once key l:=by
 rw [xDc];constructor
 . rintro rfl K t;refine Classical.byContradiction fun hc=>?_
   obtain ⟨f,hf,rfl,ht⟩:=xCF.1 (show 0<cntK key l K t by omega)
   obtain ⟨g,hg,_⟩:=(h.has t).2 ⟨f,hf,ht,by omega⟩
   simp at hg
 . intro ho;rcases V with _|⟨v,V⟩
   . rfl
   . obtain ⟨f,hf,ht,hc⟩:=(h.has v.p.1).1 ⟨v,by simp,xBF (h.valid v (by simp))⟩
     have:=ho (pick f.r key) v.p.1;omega
theorem xF1 {key:List Int} {l S:List Fc} (h:xNV l S) {Q:Fc->List Per} (hQ:∀ f,f∈S->IsSpan (Q f)/\∀ t,inL (Q f) t=(hasP f.p t&&decide (1<cntK key l (pick f.r key) t))):IsViol key l (S.flatMap fun f=>mk f.r (Q f)):=by
 obtain ⟨R,L,h1,h2,rfl⟩:=h;have hm:∀ r,r∈R->∀ p,p∈L r->(⟨r,p⟩:Fc)∈facts R L:=fun r hr p hp=>y3.2 ⟨r,hr,zK.2 ⟨p,hp,rfl⟩⟩
 refine ⟨R,fun r=>(L r).flatMap fun p=>Q ⟨r,p⟩,h1,fun r hr=>?_,?_⟩
 . obtain ⟨a,b⟩:=xBC (c:=fun t=>decide (1<cntK key l (pick r key) t)) (h2 r hr).1 (Q:=fun p=>Q ⟨r,p⟩) fun p hp=>hQ ⟨r,p⟩ (hm r hr p hp)
   exact ⟨a,fun t=>by rw [b,(h2 r hr).2]⟩
 . unfold facts;rw [List.flatMap_assoc];congr 1;funext r;rw [List.flatMap_map,List.map_flatMap];rfl
theorem xHH {R:List Row} {L:Row->List Per} {c:Nat} (h:∀ r,r∈R->(L r).length<=c):(facts R L).length<=c*R.length:=xi2 R fun r hr=>by rw [za];exact h r hr
theorem xIk (l:List Per) (t:Int) (hl:l.length<=1048576):xgF (l.map encP) t=some (inL l t):=by
 have e:=xAx (step:=xa1 (l.map encP) t) l (fun k=>(k:Int)) (fun a=>br (hasP a t) (some (true,true,())) none) (false,false,()) (fun k h=>by
  have h1:(k:Int)<(l.length:Int):=by omega
  have gf:(l.map encP).getD k .top=encP l[k]:=xaa _ _ _ h;simp only [xa1,xgY,sBU,h,h1,gf,cP0,cP1,lP,sP,sP0,sP1,xyB,xKP,xBh,xBg,xNG (n:=k) (by omega)]) (by
  simp only [xa1,xgY,za,zy,zm,xac,sUF]) l.length 0 (by simp)
 rw [zr,xCO] at e;have e:Iter (xa1 (l.map encP) t) (0:Int)=_:=e;unfold xgF xmK;rw [e];show _=some (l.any (hasP · t));cases l.any (hasP · t)<;>rfl
def ptsP (l:List Per):List Int:=l.foldl (fun P p=>if pv p=true then insI (insI P p.1) p.2 else P) []
theorem xBo (l:List Per) (p:Per):ptsP (l++[p])=if pv p=true then insI (insI (ptsP l) p.1) p.2 else ptsP l:=by simp [ptsP]
theorem xBp:∀ l:List Per,Asc (ptsP l.reverse)/\∀ x,x∈ptsP l.reverse↔∃ p,p∈l/\pv p=true/\(x=p.1\/x=p.2)
 | []=>by simp [ptsP,Asc]
 | c::l=>by
  obtain ⟨h1,h2⟩:=xBp l;rw [List.reverse_cons,xBo];split
  . rename_i hv;refine ⟨xr5 (xr5 h1 _) _,fun x=>?_⟩
    rw [xpj,xpj,h2];constructor
    . rintro (h|h|⟨c',a,b,d⟩)
      . exact ⟨c,by simp,hv,.inr h⟩
      . exact ⟨c,by simp,hv,.inl h⟩
      . exact ⟨c',by simp [a],b,d⟩
    . rintro ⟨c',a,b,d⟩;rcases zC.1 a with rfl|a
      . rcases d with d|d
        . exact .inr (.inl d)
        . exact .inl d
      . exact .inr (.inr ⟨c',a,b,d⟩)
  . rename_i hv;refine ⟨h1,fun x=>?_⟩
    rw [h2];constructor
    . rintro ⟨c',a,b,d⟩;exact ⟨c',by simp [a],b,d⟩
    . rintro ⟨c',a,b,d⟩;rcases zC.1 a with rfl|a
      . exact absurd b hv
      . exact ⟨c',a,b,d⟩
theorem xKS (l:List Per):Asc (ptsP l)/\∀ x,x∈ptsP l↔∃ p,p∈l/\pv p=true/\(x=p.1\/x=p.2):=by
 have:=xBp l.reverse;simpa using this
theorem xJz (l:List Per):(ptsP l).length<=2*l.length:=by
 have q:∀ l:List Per,(ptsP l.reverse).length<=2*l.length:=fun l=>by
  induction l with
  | nil=>simp [ptsP]
  | cons c l ih =>
   rw [List.reverse_cons,xBo];have a1:=xi5 (ptsP l.reverse) c.1;have a2:=xi5 (insI (ptsP l.reverse) c.1) c.2;split<;>simp<;>omega
 have:=q l.reverse;simpa using this
theorem xEA (l:List Per) (hl:l.length<=262144):xsh (l.map encP)=some ((ptsP l).map encN):=by
 have e:Iter (xcN (l.map encP)) ([],(0:Int))=some ((ptsP l).map encN):=by
  refine xtd l (fun P p=>if pv p=true then insI (insI P p.1) p.2 else P) (fun n b=>(b.map encN,(n:Int))) (fun n b=>b.length<=2*n) (fun n h b hb=>?_) l.length 0 [] (by omega) (by simp) ?_
  . have h1:(n:Int)<(l.length:Int):=by omega
    have gf:(l.map encP).getD n .top=encP l[n]:=xaa _ _ _ h;have a1:=xi5 b l[n].1;have a2:=xi5 (insI b l[n].1) l[n].2;have i1:=xtc b l[n].1 (by omega)
    have i2:=xtc (insI b l[n].1) l[n].2 (by omega)
    refine ⟨?_,by split<;>omega⟩
    simp only [xcN,xh3,xfs,sBU,h,h1,gf,cP0,cP1,lP,sP,sP0,sP1,xqH,i1,i2,xNG (n:=n) (by omega)]
    cases pv l[n]<;>simp [xab,xac,sUF]
  . simp only [zr];simp only [xcN,xh3,xfs,za,zy,zm,xac,sUF];rfl
 unfold xsh xpn;rw [e];rfl
theorem xBq {P:List Int} (hA:Asc P) {l:List Per} (hm:∀ p,p∈l->pv p=true->p.1∈P/\p.2∈P) {j:Nat} (hj:j+1<P.length) {t:Int} (h1:P[j]<=t) (h2:t<P[j+1]):inL l t=inL l P[j]:=by
 have key:∀ x,x∈P->(x<=t↔x<=P[j]):=fun x hx=>by
  obtain ⟨k,hk,rfl⟩:=List.getElem_of_mem hx;constructor
  . intro h;rcases zJ j k with q|q
    . rcases zJ (j+1) k with h3|h3
      . have:=zB.1 hA (j+1) k hj hk h3;omega
      . obtain rfl:k=j+1:=by omega
        omega
    . rcases zJ k j with h3|h3
      . have:=zB.1 hA k j hk (by omega) h3;omega
      . obtain rfl:k=j:=by omega
        omega
  . intro h;omega
 rw [Bool.eq_iff_iff,xfF,xfF];constructor
 . rintro ⟨p,a,b,c,d⟩;obtain ⟨m1,m2⟩:=hm p a b;have k1:=key _ m1;have k2:=key _ m2;exact ⟨p,a,b,by omega,by omega⟩
 . rintro ⟨p,a,b,c,d⟩;obtain ⟨m1,m2⟩:=hm p a b;have k1:=key _ m1;have k2:=key _ m2;exact ⟨p,a,b,by omega,by omega⟩
theorem xz7 (J:Int) (a b:List Per) (ha:a.length<=65536) (hb:b.length<=65536) (P:List Int) (hA:Asc P) (hP:P.length<=1048576) (hR:∀ x,x∈P->0<=x/\x<=1099511627776)
  (ma:∀ p,p∈a->pv p=true->p.1∈P/\p.2∈P) (mb:∀ p,p∈b->pv p=true->p.1∈P/\p.2∈P):∀ (d j:Nat) (hj:j<P.length) (out:List Per),j+1+d=P.length->OutOk out P[j] (fun t=>xdD J (inL a t) (inL b t))->out.length<=j ->
  ∃ O:List Per,Iter (xbt J (a.map encP) (b.map encP) (P.map encN)) (out.length,((j+1:Nat):Int),out.map encP)=some (O.length,O.map encP)/\OutOk O (P[P.length - 1]'(by omega)) (fun t=>xdD J (inL a t) (inL b t))/\O.length<=P.length
 | 0,j,hj,out,h,ho,hn=>by
  have e:P.length=j+1:=by omega
  refine ⟨out,xag ?_,?_,by omega⟩
  . have i1:¬ ((j+1:Nat):Int)<(P.length:Int):=by omega
    simp only [xbt,xeJ,za,i1,zm,xac,sUF]
  . have:P[P.length - 1]'(by omega)=P[j]:=by congr 1;omega
    rw [this];exact ho
 | d+1,j,hj,out,h,ho,hn=>by
  have Q:j+1<P.length:=by omega
  have i0:((j+1:Nat):Int)<(P.length:Int):=by omega
  have i1:(j:Int)<(P.length:Int):=by omega
  have i2:(0:Int)<=((j+1:Nat):Int):=by omega
  have w:IntKind.i64.wrap (((j+1:Nat):Int) - 1)=(j:Int):=xOm (by omega)
  have gf:(P.map encN).getD j .top=encN P[j]:=xaa _ _ _ hj;have gn:(P.map encN).getD (j+1) .top=encN P[j+1]:=xaa _ _ _ Q;have ca:=xIk a P[j] (by omega)
  have cb:=xIk b P[j] (by omega)
  have lt:P[j]<P[j+1]:=zB.1 hA j (j+1) hj Q (by omega)
  have r1:=hR _ (zo hj);have r2:=hR _ (zo Q);have hw:=xNG (n:=j+1) (by omega)
  have hK:∀ t,P[j]<=t->t<P[j+1]->xdD J (inL a t) (inL b t)=xdD J (inL a P[j]) (inL b P[j]):=fun t t1 t2=>by
   rw [xBq hA ma Q t1 t2,xBq hA mb Q t1 t2]
  cases hc:xdD J (inL a P[j]) (inL b P[j]) with
  | true =>
   obtain ⟨j1,j2⟩:=xvP ho r1.1 lt r2.2 (fun t t1 t2=>by rw [hK t t1 t2,hc])
   obtain ⟨q,q1,q2,q3⟩:=xE6 out P[j] P[j+1] lt ho.low (by omega)
   obtain ⟨O,e',x1,x2⟩:=xz7 J a b ha hb P hA hP hR ma mb d (j+1) Q (xNM out P[j] P[j+1]) (by omega) j1 (by omega)
   refine ⟨O,(xap (s':=((xNM out P[j] P[j+1]).length,((j+1+1:Nat):Int),(xNM out P[j] P[j+1]).map encP)) ?_).trans e',x1,x2⟩;rw [<-q2,<-q3];simp only [xbt,xeJ,xed,xge,xgf,xee,xgg,xgh,xgi,xbi,sBU,i0,i1,i2,w,hj,Q,gf,gn,cN,sN,ca,cb,hc,q1,hw]
  | false =>
   obtain ⟨O,e',x1,x2⟩:=xz7 J a b ha hb P hA hP hR ma mb d (j+1) Q out (by omega) (ho.skip (by omega) (fun t t1 t2=>by rw [hK t t1 t2,hc])) (by omega)
   refine ⟨O,(xap (s':=(out.length,((j+1+1:Nat):Int),out.map encP)) ?_).trans e',x1,x2⟩;simp only [xbt,xeJ,xed,xge,xgf,xee,xgg,xgh,xgi,xbi,sBU,i0,i1,i2,w,hj,Q,gf,gn,cN,sN,ca,cb,hc,hw]
theorem xKB (q:Int) (a b:List Per) (ha:a.length<=65536) (hb:b.length<=65536):∃ A:List Per,xlq q (a.map encP) (b.map encP)=some (A.map encP)/\IsSpan A/\(∀ t,inL A t=(decide (0<=t)&&(decide (t<1099511627776)&&xdD q (inL a t) (inL b t))))/\A.length<=2*(1+a.length+b.length):=by
 have J:∀ x,x∈(((0,1099511627776):Per)::a++b)↔x=(0,1099511627776)\/x∈a\/x∈b:=fun x=>by simp
 have O:(((0,1099511627776):Per)::a++b).length=1+a.length+b.length:=by simp;omega
 obtain ⟨pA,pm⟩:=xKS (((0,1099511627776):Per)::a++b);have pl:=xJz (((0,1099511627776):Per)::a++b);have pe:=xEA (((0,1099511627776):Per)::a++b) (by rw [O];omega)
 rw [O] at pl;generalize Y:ptsP (((0,1099511627776):Per)::a++b)=P at pA pm pl pe;have m0:(0:Int)∈P:=(pm 0).2 ⟨(0,1099511627776),by simp,by decide,.inl rfl⟩
 have mF:(1099511627776:Int)∈P:=(pm _).2 ⟨(0,1099511627776),by simp,by decide,.inr rfl⟩
 have hR:∀ x,x∈P->0<=x/\x<=1099511627776:=fun x hx=>by
  obtain ⟨p,_,hv,h⟩:=(pm x).1 hx;have:=xcs.1 hv;omega
 have U:0<P.length:=List.length_pos_of_mem m0;have e0:P[0]=0:=by
  obtain ⟨k,hk,he⟩:=List.getElem_of_mem m0;rcases Nat.eq_zero_or_pos k with rfl|h
  . exact he
  . have:=zB.1 pA 0 k U hk h;have:=hR _ (zo U);omega
 have eF:P[P.length - 1]'(by omega)=1099511627776:=by
  obtain ⟨k,hk,he⟩:=List.getElem_of_mem mF;rcases zJ k (P.length - 1) with h|h
  . have:=zB.1 pA k (P.length - 1) hk (by omega) h
    have:=hR _ (zo (l:=P) (n:=P.length - 1) (by omega))
    omega
  . have:P[P.length - 1]'(by omega)=P[k]:=by congr 1;omega
    rw [this];exact he
 have mm:∀ l:List Per,(∀ x,x∈l->x=(0,1099511627776)\/x∈a\/x∈b)->∀ p,p∈l->pv p=true->p.1∈P/\p.2∈P:=fun l hl p hp hv=>⟨(pm _).2 ⟨p,(J p).2 (hl p hp),hv,.inl rfl⟩,(pm _).2 ⟨p,(J p).2 (hl p hp),hv,.inr rfl⟩⟩
 obtain ⟨A,e,a1,a2⟩:=xz7 q a b ha hb P pA (by omega) hR (mm a fun x hx=>.inr (.inl hx)) (mm b fun x hx=>.inr (.inr hx)) (P.length - 1) 0 U [] (by omega) (by rw [e0];exact xtg _) (zd _)
 rw [eF] at a1;refine ⟨A,?_,a1.span,fun t=>a1.done t,by omega⟩
 have e:Iter (xbt q (a.map encP) (b.map encP) (P.map encN)) ((0:Nat),(1:Int),[])=_:=e;have tt:List.take A.length (A.map encP)=A.map encP:=zi (by simp)
 have la:([AV.agg [AV.int IntKind.i64 (0:Int),AV.int IntKind.i64 (1099511627776:Int)]]++a.map encP).length=1+a.length:=by simp;omega
 have Q:([AV.agg [AV.int IntKind.i64 (0:Int),AV.int IntKind.i64 (1099511627776:Int)]]++a.map encP++b.map encP).length=1+a.length+b.length:=by simp;omega
 have W:List.take (1+a.length+b.length) ([AV.agg [AV.int IntKind.i64 (0:Int),AV.int IntKind.i64 (1099511627776:Int)]]++a.map encP++b.map encP)=(((0,1099511627776):Per)::a++b).map encP:=by
  rw [zi (by rw [Q];exact zd _)]
  simp [encP]
 have b1:(1+a.length)*16<=140737488355328:=by omega
 have b2:1+a.length<=4611686018427387904:=by omega
 have b3:(1+a.length+b.length)*16<=140737488355328:=by omega
 have b4:1+a.length+b.length<=4611686018427387904:=by omega
 unfold xlq xmM;simp only [xlJ,xlK,xlL,xlM,xlN,xf2,xlO,za,la,Q,W,zr,b1,b2,b3,b4,beq_self_eq_true,zn,zS,zH,zd,xab,pe,zk,zh,e,tt,sUF]
theorem xBv (a b:List Per) (ha:a.length<=65536) (hb:b.length<=65536):∃ A:List Per,xkh (a.map encP) (b.map encP)=some (A.map encP)/\IsSpan A/\(∀ t,inL A t=(inL a t&&inL b t))/\A.length<=2*(1+a.length+b.length):=by
 obtain ⟨A,e,h1,h2,h3⟩:=xKB 1 a b ha hb;refine ⟨A,?_,h1,fun t=>?_,h3⟩
 . unfold xkh xlI;rw [e];rfl
 . rw [h2];cases hc:inL a t with
   | false=>simp [xdD,br,sUF]
   | true=>obtain ⟨x,y⟩:=xwr hc;simp [x,y,xdD,br,sUF]
def dk (S:List Row):Nat->List Row
 | 0=>[]
 | k+1=>dk S k++(if k=0\/S[k - 1]?≠S[k]? then S[k]?.toList else [])
theorem xCI (S:List Row):∀ k,(dk S k).length<=k
 | 0=>zd _
 | k+1=>by
  have:=xCI S k;unfold dk;rw [z8];have:(if k=0\/S[k - 1]?≠S[k]? then S[k]?.toList else []).length<=1:=by
   split
   . cases S[k]?<;>simp
   . simp
  omega
theorem xJ7 (S:List Row) (hs:Sorted cmpR S):∀ k,k<=S.length->Strict cmpR (dk S k)/\∀ x,x∈dk S k↔x∈S.take k
 | 0,_=>⟨List.Pairwise.nil,fun x=>by simp [dk]⟩
 | k+1,hk=>by
  obtain ⟨h1,h2⟩:=xJ7 S hs k (by omega)
  have J:k<S.length:=by omega
  have tk:S.take (k+1)=S.take k++[S[k]]:=by rw [List.take_add_one,ze J];rfl
  unfold dk;rw [ze J,tk];by_cases hc:k=0\/S[k - 1]?≠some S[k]
  . rw [if_pos hc];refine ⟨List.pairwise_append.2 ⟨h1,List.pairwise_singleton _ _,fun x hx y hy=>?_⟩,fun x=>by rw [zG,zG,h2];rfl⟩
    simp at hy;subst hy;obtain ⟨i,hi,rfl⟩:=List.mem_take_iff_getElem.1 ((h2 x).1 hx);have Q:k≠0:=by omega
    have q:k - 1<S.length:=by omega
    have hne:S[k - 1]≠S[k]:=fun e=>by
     rcases hc with hc|hc
     . exact Q hc
     . exact hc (by rw [ze q,e])
    have c1:cmpR S[k - 1] S[k]<=0:=zB.1 hs _ _ q J (by omega)
    have c2:cmpR S[k - 1] S[k]<0:=by
     rcases Int.lt_or_eq_of_le c1 with c|c
     . exact c
     . exact absurd (xky c) hne
    rcases zJ i (k - 1) with O|O
    . have c3:cmpR S[i] S[k - 1]<=0:=zB.1 hs _ _ (by omega) q O
      exact xpb.lt2 c3 c2
    . have:i=k - 1:=by omega
      subst this;exact c2
  . rw [if_neg hc,zD];refine ⟨h1,fun x=>?_⟩
    rw [h2,zG,zv];refine ⟨Or.inl,fun hh=>hh.elim id fun hx=>?_⟩
    have Q:k≠0:=fun e=>hc (.inl e)
    have he:S[k - 1]?=some S[k]:=by
     by_cases e:S[k - 1]?=some S[k]
     . exact e
     . exact absurd (.inr e) hc
    have q:k - 1<S.length:=by omega
    rw [ze q,z6] at he;rw [hx,<-he];exact List.mem_take_iff_getElem.2 ⟨k - 1,by omega,rfl⟩
theorem xOy {n:Nat} (h:n<=1048576):(n+1)*24<=140737488355328/\n+1<=4611686018427387904:=by omega
theorem xD8 (S:List Row) (hS:S.length<=1048576) (hr:∀ x,x∈S->x.length<=maxLen):Iter (xbu (S.map encR)) ((0:Nat),(0:Int),[])=some ((dk S S.length).length,(dk S S.length).map encR):=by
 refine xi6 (fun k=>(((dk S k).length,((k:Nat):Int),(dk S k).map encR):Nat×Int×List AV)) S.length _ (fun k hk=>?_) ?_ S.length 0 (by omega)
 . have i1:(k:Int)<(S.length:Int):=by omega
   have gf:(S.map encR).getD k .top=encR S[k]:=xaa _ _ _ hk;have dl:=xCI S k;obtain ⟨m1,m2⟩:=xOy (n:=(dk S k).length) (by omega)
   cases k with
   | zero =>
    have:dk S (0+1)=[S[0]]:=by simp [dk,ze hk]
    rw [this];have i0:(((0:Nat):Int)==0)=true:=rfl;simp only [xbu,xeK,xdT,xgk,xgl,xgm,sBU,hk,i0,i1,gf,cR0,sR0,m1,m2,xNG (n:=0) (by omega)]
    rfl
   | succ j =>
    have hj:j<S.length:=by omega
    have i0:(((j+1:Nat):Int)==0)=false:=by simp;omega
    have i2:(j:Int)<(S.length:Int):=by omega
    have gj:(S.map encR).getD j .top=encR S[j]:=xaa _ _ _ hj;have ee:=xMw S[j] S[j+1] (hr _ (zo hj));have wj:IntKind.i64.wrap (((j+1:Nat):Int) - 1)=(j:Int):=by rw [xdP (by omega) (by omega)];omega
    have sd:dk S (j+1+1)=dk S (j+1)++(if S[j]=S[j+1] then [] else [S[j+1]]):=by
     show dk S (j+1)++_=_;congr 1;rw [show j+1 - 1=j by omega,ze hj,ze hk]
     by_cases e:S[j]=S[j+1]
     . simp [e]
     . simp [e]
    rw [sd];simp only [xbu,xeK,xdT,xgk,xgl,xgm,sBU,hk,hj,i0,i1,i2,gf,gj,cR0,sR0,ee,wj,cmp0,m1,m2,xNG (n:=j+1) (by omega)]
    by_cases e:S[j]=S[j+1]
    . simp [e,xac,sUF]
    . simp [e,xab,encR,sUF]
 . simp only [xbu,xeK,xdT,za,zy,zm,xac,sUF]
theorem xD9 (l:List Row) (h:xNx l):∃ D,xpo (l.map encR)=some (D.map encR)/\Strict cmpR D/\(∀ x,x∈D↔x∈l)/\D.length<=l.length:=by
 obtain ⟨S,e1,p1,s1⟩:=xJG l h;have hS:=h.perm p1;obtain ⟨a1,a2⟩:=xJ7 S s1 S.length (zd _);have e2:=xD8 S hS.1 (fun x hx=>by have:=hS.2 x hx;unfold maxLen;omega)
 refine ⟨dk S S.length,?_,a1,fun x=>by rw [a2,y4,p1.mem_iff],by rw [<-p1.length_eq];exact xCI _ _⟩
 have tt:List.take (dk S S.length).length ((dk S S.length).map encR)=(dk S S.length).map encR:=zi (by simp)
 unfold xpo xmR;simp only [xlQ,xlR,xlS,e1,e2,zk,zh,xab,zH,za,zd,zn,zS,zr,tt,sUF]
def cF (f g:Fc):Int:=cmpR f.r g.r
theorem xIW:Cm cF:=xpb.on (e:=fun f:Fc=>f.r)
theorem xFP (a b:List Fc) (ha:a.length+b.length<=1048576) (Z:∀ x,x∈a->x.r.length<=1048576) (W:∀ x,x∈b->x.r.length<=1048576) (sa:Sorted cF a) (sb:Sorted cF b) :
  ∀ (n i k:Nat) (D:List Fc),(a.length - i)+(b.length - k)=n->i<=a.length->k<=b.length->D.length=i+k ->
   ∃ r,Iter (xaZ (List.map encF a) (List.map encF b)) (D.length,(i:Int),(k:Int),List.map encF D)=some (a.length+b.length,List.map encF (D++r))/\r.Perm (a.drop i++b.drop k)/\Sorted cF r:=by
 intro n;induction n with
 | zero =>
  intro i k D hn hi hk hD;have h1:¬ (i:Int)<(a.length:Int):=by omega
  have h2:¬ (k:Int)<(b.length:Int):=by omega
  refine ⟨[],xag ?_,?_,by simp [Sorted]⟩
  . simp only [xaZ,xdd,xcf,xcg,xch,xdx,xd0,xd1,xcE,xcF,  za,xaI,h1,h2,zm,zT,if_false,zD,sUF];rw [show D.length=a.length+b.length by omega]
  . rw [zq (by omega),zq (by omega)];exact List.Perm.refl _
 | succ n ih =>
  intro i k D hn hi hk hD;have Y:(List.map encF D).length=D.length:=by simp
  have m1:(D.length+1)*40<=140737488355328:=by omega
  have m2:D.length+1<=4611686018427387904:=by omega
  have snoc:∀ x:Fc,List.map encF D++[AV.agg [AV.list 3 (x.r.map encV),AV.int .i64 x.p.1,AV.int .i64 x.p.2]]=List.map encF (D++[x]):=fun x=>by simp [encF]
  have wi:=xjG (n:=i) (show i+1<=maxLen by unfold maxLen;omega)
  have wk:=xjG (n:=k) (show k+1<=maxLen by unfold maxLen;omega)
  by_cases J:i<a.length
  . have i1:(i:Int)<(a.length:Int):=by omega
    have i2:((i:Int)==(a.length:Int))=false:=by simp;omega
    have hx:a[i]?=some a[i]:=by simp [J]
    by_cases q:k<b.length
    . have k1:(k:Int)<(b.length:Int):=by omega
      have hy:b[k]?=some b[k]:=by simp [q]
      have e:=xly b[k].r a[i].r (by have:=W b[k] (zo q);unfold maxLen;omega)
      by_cases hc:cmpR b[k].r a[i].r<0
      . obtain ⟨r,h1,h2,h3⟩:=ih i (k+1) (D++[b[k]]) (by omega) hi (by omega) (by simp;omega)
        refine ⟨b[k]::r,?_,?_,?_⟩
        . refine xcr (s':=((D++[b[k]]).length,(i:Int),((k+1:Nat):Int),List.map encF (D++[b[k]]))) ?_ (by rw [h1];simp)
          simp only [xaZ,xdd,xcf,xcg,xch,xdx,xd0,xd1,xcE,xcF,  za,xaI,i1,i2,k1,J,q,zn,zT,if_false,if_true,zN,gR hx,gR hy,cF0,cF1,cF2,sF0,sF1,sF2,lF,sF12,sF02,e,zk,zh,hc,Int.natCast_nonneg,zS,beq_self_eq_true,m1,m2,snoc,wk,sUF];simp
        . rw [xa0 q];exact (h2.cons _).trans List.perm_middle.symm
        . refine zM.2 ⟨fun z hz=>?_,h3⟩
          rcases zG.1 (h2.mem_iff.1 hz) with hz|hz
          . rw [xa0 J] at hz;rcases zC.1 hz with rfl|hz
            . exact Int.le_of_lt hc
            . obtain ⟨j,hj,rfl⟩:=zp.1 hz;have Q:i+1+j<a.length:=by simp at hj;omega
              have:=xdI sa (i:=i) (j:=i+1+j) (by omega) Q
              rw [List.getElem_drop];exact xIW.trans _ _ _ (Int.le_of_lt hc) this
          . obtain ⟨j,hj,rfl⟩:=zp.1 hz;have O:k+1+j<b.length:=by simp at hj;omega
            rw [List.getElem_drop];exact xdI sb (i:=k) (j:=k+1+j) (by omega) O
      . obtain ⟨r,h1,h2,h3⟩:=ih (i+1) k (D++[a[i]]) (by omega) (by omega) hk (by simp;omega)
        refine ⟨a[i]::r,?_,?_,?_⟩
        . refine xcr (s':=((D++[a[i]]).length,((i+1:Nat):Int),(k:Int),List.map encF (D++[a[i]]))) ?_ (by rw [h1];simp)
          simp only [xaZ,xdd,xcf,xcg,xch,xdx,xd0,xd1,xcE,xcF,  za,xaI,i1,i2,k1,J,q,zn,zT,if_false,if_true,zN,gR hx,gR hy,cF0,cF1,cF2,sF0,sF1,sF2,lF,sF12,sF02,e,zk,zh,hc,zm,Int.natCast_nonneg,zS,beq_self_eq_true,m1,m2,snoc,wi,sUF];simp
        . rw [xa0 J];exact h2.cons _
        . refine zM.2 ⟨fun z hz=>?_,h3⟩
          have U:cF a[i] b[k]<=0:=xIW.ord.le_of_not hc;rcases zG.1 (h2.mem_iff.1 hz) with hz|hz
          . obtain ⟨j,hj,rfl⟩:=zp.1 hz;have Q:i+1+j<a.length:=by simp at hj;omega
            rw [List.getElem_drop];exact xdI sa (i:=i) (j:=i+1+j) (by omega) Q
          . rw [xa0 q] at hz;rcases zC.1 hz with rfl|hz
            . exact U
            . obtain ⟨j,hj,rfl⟩:=zp.1 hz;have O:k+1+j<b.length:=by simp at hj;omega
              rw [List.getElem_drop];exact xIW.trans _ _ _ U (xdI sb (i:=k) (j:=k+1+j) (by omega) O)
    . have k1:¬ (k:Int)<(b.length:Int):=by omega
      obtain ⟨r,h1,h2,h3⟩:=ih (i+1) k (D++[a[i]]) (by omega) (by omega) hk (by simp;omega)
      refine ⟨a[i]::r,?_,?_,?_⟩
      . refine xcr (s':=((D++[a[i]]).length,((i+1:Nat):Int),(k:Int),List.map encF (D++[a[i]]))) ?_ (by rw [h1];simp)
        simp only [xaZ,xdd,xcf,xcg,xch,xdx,xd0,xd1,xcE,xcF,  za,xaI,i1,i2,k1,J,zn,zm,zT,if_false,if_true,zN,gR hx,cF0,cF1,cF2,sF0,sF1,sF2,lF,sF12,sF02,Int.natCast_nonneg,zS,beq_self_eq_true,m1,m2,snoc,wi,sUF];simp
      . rw [xa0 J];exact h2.cons _
      . refine zM.2 ⟨fun z hz=>?_,h3⟩
        rw [zq (show b.length<=k by omega),zD] at h2
        obtain ⟨j,hj,rfl⟩:=zp.1 (h2.mem_iff.1 hz);have Q:i+1+j<a.length:=by simp at hj;omega
        rw [List.getElem_drop];exact xdI sa (i:=i) (j:=i+1+j) (by omega) Q
  . have i1:¬ (i:Int)<(a.length:Int):=by omega
    have q:k<b.length:=by omega
    have k1:(k:Int)<(b.length:Int):=by omega
    have i2:((i:Int)==(a.length:Int))=true:=by simp;omega
    have hy:b[k]?=some b[k]:=by simp [q]
    obtain ⟨r,h1,h2,h3⟩:=ih i (k+1) (D++[b[k]]) (by omega) hi (by omega) (by simp;omega)
    refine ⟨b[k]::r,?_,?_,?_⟩
    . refine xcr (s':=((D++[b[k]]).length,(i:Int),((k+1:Nat):Int),List.map encF (D++[b[k]]))) ?_ (by rw [h1];simp)
      simp only [xaZ,xdd,xcf,xcg,xch,xdx,xd0,xd1,xcE,xcF,  za,xaI,i1,i2,k1,q,zn,zm,zT,if_false,if_true,zN,gR hy,cF0,cF1,cF2,sF0,sF1,sF2,lF,sF12,sF02,Int.natCast_nonneg,zS,beq_self_eq_true,m1,m2,snoc,wk,sUF];simp
    . rw [xa0 q];exact (h2.cons _).trans List.perm_middle.symm
    . refine zM.2 ⟨fun z hz=>?_,h3⟩
      rw [zq (show a.length<=i by omega),zU] at h2
      obtain ⟨j,hj,rfl⟩:=zp.1 (h2.mem_iff.1 hz);have O:k+1+j<b.length:=by simp at hj;omega
      rw [List.getElem_drop];exact xdI sb (i:=k) (j:=k+1+j) (by omega) O
theorem xFQ (a b:List Fc) (ha:a.length+b.length<=1048576) (J:∀ x,x∈a->x.r.length<=1048576) (q:∀ x,x∈b->x.r.length<=1048576) (sa:Sorted cF a) (sb:Sorted cF b) :
  ∃ r,xsI (a.map encF) (b.map encF)=some (r.map encF)/\r.Perm (a++b)/\Sorted cF r:=by
 obtain ⟨r,h1,h2,h3⟩:=xFP a b ha J q sa sb _ 0 0 [] rfl (zQ _) (zQ _) rfl;simp only [zr,zU] at h1 h2;have h1':Iter (xaZ (a.map encF) (b.map encF)) (0,(0:Int),(0:Int),[])=some (r.length,r.map encF):=by
  rw [h2.length_eq,z8];exact h1
 refine ⟨r,?_,h2,h3⟩;unfold xsI xpS;simp only [xoB,xoC,xoD,xoE,h1',sOO,sUF]
theorem xEb:∀ (f:Nat) (l:List Fc),l.length<=2 ^ f->Few l->∃ r,xbl (f+1) (List.map encF l)=some (List.map encF r)/\r.Perm l/\Sorted cF r:=by
 intro f;induction f with
 | zero =>
  intro l hl hs;have h1:(l.length:Int)<2:=by simp at hl;omega
  refine ⟨l,?_,List.Perm.refl _,?_⟩
  . show xb4 (xbl 0) (List.map encF l)=_;simp only [xb4,xfI,za,h1,zn,xab,sUF]
  . match l,hl with
    | [],_=>exact List.Pairwise.nil
    | [x],_=>exact List.pairwise_singleton _ _
 | succ f ih =>
  intro l hl hs;by_cases h2:l.length<=1
  . have h1:(l.length:Int)<2:=by omega
    refine ⟨l,?_,List.Perm.refl _,?_⟩
    . show xb4 (xbl (f+1)) (List.map encF l)=_;simp only [xb4,xfI,za,h1,zn,xab,sUF]
    . match l,h2 with
      | [],_=>exact List.Pairwise.nil
      | [x],_=>exact List.pairwise_singleton _ _
  . have hp:2 ^ (f+1)=2*2 ^ f:=by rw [Nat.pow_succ];omega
    have q:=hs.1;obtain ⟨m,hm⟩:∃ m,m=l.length / 2:=⟨_,rfl⟩;have st:Few (l.take m):=⟨by simp;omega,fun x hx=>hs.2 x (List.mem_of_mem_take hx)⟩
    have sd:Few (l.drop m):=⟨by simp;omega,fun x hx=>hs.2 x (List.mem_of_mem_drop hx)⟩
    obtain ⟨r1,e1,p1,s1⟩:=ih (l.take m) (by simp;omega) st
    obtain ⟨r2,e2,p2,s2⟩:=ih (l.drop m) (by simp;omega) sd
    have l1:=p1.length_eq;have l2:=p2.length_eq;simp only [zt,y1] at l1 l2;obtain ⟨r,a1,a3,a4⟩:=xFQ r1 r2 (by omega) (fun x hx=>st.2 x (p1.mem_iff.1 hx)) (fun x hx=>sd.2 x (p2.mem_iff.1 hx)) s1 s2
    refine ⟨r,?_,a3.trans ((p1.append p2).trans (by rw [List.take_append_drop])),a4⟩
    have w:IntKind.i64.wrap ((l.length:Int).tdiv 2)=(m:Int):=by
     rw [Int.tdiv_eq_ediv_of_nonneg (by omega)]
     exact w64 (by omega) (by omega)
    have t1:List.take m (List.map encF l)=List.map encF (l.take m):=by simp
    have t2:List.take (l.length - m) (List.drop m (List.map encF l))=List.map encF (l.drop m):=by
     rw [zi (by simp)];simp
    have d0:¬ (l.length:Int)<2:=by omega
    have d2:(m:Int)<=(l.length:Int):=by omega
    show xb4 (xbl (f+1)) (List.map encF l)=_;simp only [xb4,xfI,xmY,xmZ,xmx,  za,d0,xac,w,zN,Nat.sub_zero,zr,t1,t2,e1,e2,zk,zh,xab,d2,zn,zm,Int.natCast_nonneg,zS,a1,sUF]
theorem xDC (l:List Fc) (h:Few l):∃ D,xlv (l.map encF)=some (D.map encR)/\IsRows l D:=by
 have e0:=xv6 l h.1;have hf:(l.flatMap fun f=>if pv f.p=true then [f.r] else []).length<=1*l.length:=xi2 l fun f _=>by split<;>simp
 have hm:∀ x,x∈(l.flatMap fun f=>if pv f.p=true then [f.r] else [])↔∃ f,f∈l/\f.r=x/\pv f.p=true:=fun x=>by
  rw [y3];constructor
  . rintro ⟨f,hf,hx⟩;split at hx
    . simp at hx;exact ⟨f,hf,hx.symm,by assumption⟩
    . simp at hx
  . rintro ⟨f,hf,e,hv⟩;exact ⟨f,hf,by rw [if_pos hv];simp [e]⟩
 have q:xNx (l.flatMap fun f=>if pv f.p=true then [f.r] else []):=⟨by have:=h.1;omega,fun x hx=>by
  obtain ⟨f,hf,e,_⟩:=(hm x).1 hx;rw [<-e];exact h.2 f hf⟩
 obtain ⟨D,d1,d2,d3,d4⟩:=xD9 _ q;refine ⟨D,?_,d2,fun r=>by rw [d3,hm]⟩
 generalize (l.flatMap fun f=>if pv f.p=true then [f.r] else [])=w at e0 d1
 have tt:List.take w.length (w.map encR)=w.map encR:=zi (by simp)
 unfold xlv xsE;simp only [xre,xrf,xrg,xrh,e0,zk,zh,xab,zH,za,zd,zn,zS,zr,tt,d1,sUF]
theorem xFi (S:List Fc) (hS:S.length<=1048576) (hr:∀ f,f∈S->f.r.length<=maxLen) (on i:Nat) (hi:i<S.length) (xs:List AV):∀ (d k:Nat),k+d=S.length->i<=k->∃ j:Nat,k<=j/\j<=S.length/\(∀ t (h:t<S.length),k<=t->t<j->S[t].r=S[i].r)/\(∀ h:j<S.length,S[j].r≠S[i].r) /\
  Iter (xbk (S.map encF) on (i:Int)) ((k:Int),xs)=some ((j:Int),xs)
 | 0,k,h,hik=>by
  obtain rfl:k=S.length:=by omega
  refine ⟨S.length,zd _,zd _,fun t h1 h2 h3=>by omega,fun h=>by omega,xag ?_⟩
  simp only [xbk,xf3,za,zy,zm,xac,sUF]
 | d+1,k,h,hik=>by
  have hk:k<S.length:=by omega
  have i1:(k:Int)<(S.length:Int):=by omega
  have i2:(i:Int)<(S.length:Int):=by omega
  have gk:(S.map encF).getD k .top=encF S[k]:=xaa _ _ _ hk;have gi:(S.map encF).getD i .top=encF S[i]:=xaa _ _ _ hi;have ec:=xly S[k].r S[i].r (hr _ (zo hk));by_cases he:S[k].r=S[i].r
  . obtain ⟨j,a1,a2,a3,a4,a5⟩:=xFi S hS hr on i hi xs d (k+1) (by omega) (by omega)
    refine ⟨j,by omega,a2,fun t h1 h2 h3=>?_,a4,(xap (s':=(((k+1:Nat):Int),xs)) ?_).trans a5⟩
    . by_cases q:t=k
      . subst q;exact he
      . exact a3 t h1 (by omega) h3
    . have dd:decide (S[k].r=S[i].r)=true:=decide_eq_true he;simp only [xbk,xf3,sBU,i1,i2,hk,hi,gk,gi,cF0,cF1,cF2,sF0,sF1,sF2,lF,sF12,sF02,ec,cmp0,dd,xNG (n:=k) (by omega)]
  . refine ⟨k,zd _,by omega,fun t h1 h2 h3=>by omega,fun _=>he,xag ?_⟩
    simp only [xbk,xf3,sBU,i1,i2,hk,hi,gk,gi,cF0,cF1,cF2,sF0,sF1,sF2,lF,sF12,sF02,ec,cmp0,he,zm]
structure RGI (S:List Fc) (i:Nat) (G:List Grp):Prop where
 st:Strict cmpR (G.map (·.1))
 mem:∀ r,r∈G.map (·.1)↔∃ f,f∈S.take i/\f.r=r/\pv f.p=true
 ps:∀ g,g∈G->StepI (fun t=>((cnt S g.1 t:Nat):Int)) 1099511627776 g.2/\g.2.length<=2*S.length+1
 len:G.length<=i
 bd:∀ a b (ha:a<S.length) (hb:b<S.length),a<i->i<=b->cmpR S[a].r S[b].r<0
theorem xOz {n:Nat} (h:n<=1048576):(n+1)*48<=140737488355328/\n+1<=4611686018427387904:=by omega
theorem xAY (S:List Fc) (hS:S.length<=262144) (hr:∀ f,f∈S->f.r.length<=1048576) (hs:Sorted cF S):∀ (c i:Nat) (G:List Grp),S.length - i<=c->i<=S.length->RGI S i G ->
  ∃ G',Iter (xcT (S.map encF)) (G.length,(i:Int),G.map encG)=some (G'.length,G'.map encG)/\RGI S S.length G'
 | c,i,G,hc,hi,hG=>by
  by_cases aa:i=S.length
  . subst aa;refine ⟨G,xag ?_,hG⟩;simp only [xcT,xia,za,zy,zm,xac,sUF]
  . have Q:i<S.length:=by omega
    obtain ⟨j,a1,a2,a3,a4,a5⟩:=xFi S (by omega) (fun f hf=>by have:=hr f hf;unfold maxLen;omega) G.length i Q (G.map encG) (S.length - i) i (by omega) (zd _)
    have ae:i<j:=by
     rcases zJ i j with h|h
     . exact h
     . obtain rfl:j=i:=by omega
       exact absurd rfl (a4 Q)
    have run_mem:∀ f,f∈(S.drop i).take (j - i)↔∃ t,∃ h:t<S.length,i<=t/\t<j/\S[t]=f:=fun f=>by
     rw [List.mem_take_iff_getElem];constructor
     . rintro ⟨m,hm,rfl⟩;rw [y1] at hm;exact ⟨i+m,by omega,by omega,by omega,by rw [List.getElem_drop]⟩
     . rintro ⟨t,h,h1,h2,rfl⟩;refine ⟨t - i,by rw [y1];omega,?_⟩
       rw [List.getElem_drop];congr 1;omega
    have run_row:∀ f,f∈(S.drop i).take (j - i)->f.r=S[i].r:=fun f hf=>by
     obtain ⟨t,h,h1,h2,rfl⟩:=(run_mem f).1 hf;exact a3 t h h1 h2
    have Z:S.take j=S.take i++(S.drop i).take (j - i):=by
     rw [show j=i+(j - i) by omega,List.take_add,Nat.add_sub_cancel_left]
    have O:S=S.take i++((S.drop i).take (j - i)++S.drop j):=by
     rw [<-zw,<-Z,List.take_append_drop]
    have rl:((S.drop i).take (j - i)).length=j - i:=by rw [zt,y1];omega
    have q:∀ f,f∈S.take i->cmpR f.r S[i].r<0:=fun f hf=>by
     obtain ⟨t,ht,rfl⟩:=List.mem_take_iff_getElem.1 hf;exact hG.bd t i (by omega) Q (by omega) (zd _)
    have J:∀ t (h:t<S.length),j<=t->cmpR S[i].r S[t].r<0:=fun t h ah=>by
     have hj:j<S.length:=by omega
     have c1:cmpR S[i].r S[j].r<=0:=zB.1 hs i j Q hj ae;have c2:cmpR S[i].r S[j].r<0:=by
      rcases Int.lt_or_eq_of_le c1 with c|c
      . exact c
      . exact absurd (xky c).symm (a4 hj)
     rcases zJ j t with h1|h1
     . have c3:cmpR S[j].r S[t].r<=0:=zB.1 hs j t hj h h1;exact xpb.lt1 c2 c3
     . obtain rfl:t=j:=by omega
       exact c2
    have no_other:∀ (l:List Fc) (ρ:Row) (t:Int),(∀ f,f∈l->f.r≠ρ)->cnt l ρ t=0:=fun l ρ t h=>by
     unfold cnt;rw [List.countP_eq_zero];intro f hf hh;simp only [zf,zl] at hh;exact h f hf hh.1
    have ne_of:∀ x y:Row,cmpR x y<0->x≠y:=fun x y h e=>by subst e;rw [xkw] at h;omega
    have Y:∀ t,cnt ((S.drop i).take (j - i)) S[i].r t=cnt S S[i].r t:=fun t=>by
     have e:cnt S S[i].r t=cnt (S.take i++((S.drop i).take (j - i)++S.drop j)) S[i].r t:=by rw [<-O]
     rw [e,xuw,xuw,no_other (S.take i) _ t (fun f hf=>ne_of _ _ (q f hf)),no_other (S.drop j) _ t (fun f hf=>by
      obtain ⟨m,hm,rfl⟩:=zp.1 hf;rw [y1] at hm;rw [List.getElem_drop];exact fun e=>ne_of _ _ (J (j+m) (by omega) (by omega)) e.symm)]
     omega
    have U:Few ((S.drop i).take (j - i)):=⟨by omega,fun f hf=>hr f (List.mem_of_mem_drop (List.mem_of_mem_take hf))⟩
    obtain ⟨D,d1,d2,d3⟩:=xDC _ U;obtain ⟨St,s1,s2,s3⟩:=xGh ((S.drop i).take (j - i)) S[i].r (fun f hf=>by have:=U.2 f hf;unfold maxLen;omega) (by omega)
    have s2:StepI (fun t=>((cnt S S[i].r t:Nat):Int)) 1099511627776 St:=by
     have e:(fun t=>((cnt ((S.drop i).take (j - i)) S[i].r t:Nat):Int))=fun t=>((cnt S S[i].r t:Nat):Int):=funext fun t=>by rw [Y]
     rwa [e] at s2
    have tS:List.take (j - i) (List.drop i (S.map encF))=((S.drop i).take (j - i)).map encF:=by rw [<-List.map_drop,<-List.map_take]
    have hD:D=[]\/D=[S[i].r]:=by
     match D,d2,d3 with
     | [],_,_=>exact .inl rfl
     | [x],_,h=>right;obtain ⟨f,hf,e,_⟩:=(h x).1 (by simp);rw [<-e,run_row f hf]
     | x::y::t,h1,h =>
      obtain ⟨f,hf,e,_⟩:=(h x).1 (by simp)
      obtain ⟨g,hg,e',_⟩:=(h y).1 (by simp)
      have:cmpR x y<0:=(zM.1 h1).1 y (by simp)
      rw [<-e,<-e',run_row f hf,run_row g hg,xkw] at this;omega
    have ag:=hG.len;obtain ⟨m1,m2⟩:=xOz (n:=G.length) (by omega)
    have nx:RGI S j (G++D.map fun ρ=>(ρ,St)):=by
     refine ⟨?_,fun r=>?_,fun g hg=>?_,?_,fun a b ha hb ab ad=>?_⟩
     . rw [zx];refine List.pairwise_append.2 ⟨hG.st,?_,fun x hx y hy=>?_⟩
       . rcases hD with rfl|rfl
         . exact List.Pairwise.nil
         . exact List.pairwise_singleton _ _
       . obtain ⟨f,hf,e,_⟩:=(hG.mem x).1 hx;rcases hD with rfl|rfl
         . simp at hy
         . simp at hy;subst hy;rw [<-e];exact q f hf
     . rw [zx,zG,hG.mem,Z];have e:r∈(D.map fun ρ=>(ρ,St)).map (·.1)↔r∈D:=by simp
       rw [e,d3];constructor
       . rintro (⟨f,hf,h⟩|⟨f,hf,h⟩)
         . exact ⟨f,zG.2 (.inl hf),h⟩
         . exact ⟨f,zG.2 (.inr hf),h⟩
       . rintro ⟨f,hf,h⟩;rcases zG.1 hf with hf|hf
         . exact .inl ⟨f,hf,h⟩
         . exact .inr ⟨f,hf,h⟩
     . rcases zG.1 hg with hg|hg
       . exact hG.ps g hg
       . obtain ⟨ρ,hρ,rfl⟩:=zK.1 hg;rcases hD with rfl|rfl
         . simp at hρ
         . simp at hρ;subst hρ;exact ⟨s2,by rw [rl] at s3;dsimp only;omega⟩
     . rw [z8,za];rcases hD with rfl|rfl<;>simp<;>omega
     . rcases zJ a i with W|W
       . exact hG.bd a b ha hb W (by omega)
       . rw [a3 a ha W ab];exact J b hb ad
    obtain ⟨G',e',ac⟩:=xAY S hS hr hs (c - 1) j _ (by omega) a2 nx
    refine ⟨G',(xap ?_).trans e',ac⟩;have i1:(i:Int)<(S.length:Int):=by omega
    have i2:(j:Int)<=(S.length:Int):=by omega
    have i3:(i:Int)<=(j:Int):=by omega
    have af:Iter (xcU (S.map encF) (i:Int) (j:Int) (D.map encR)) (G.length,(0:Int),G.map encG)=some ((G++D.map fun ρ=>(ρ,St)).length,(G++D.map fun ρ=>(ρ,St)).map encG):=by
     rcases hD with rfl|rfl
     . refine xag ?_;have z:¬ (0:Int)<(([]:List AV).length:Int):=by simp
       simp only [xcU,xf4,zW,z,zm,xac,zD,sUF]
     . have z0:(0:Int)<(1:Int):=by omega
       have g0:([S[i].r].map encR).getD 0 .top=encR S[i].r:=rfl;have w1:IntKind.i64.wrap ((0:Int)+1)=1:=rfl;refine (xap (s':=((G++[(S[i].r,St)]).length,(1:Int),(G++[(S[i].r,St)]).map encG)) ?_).trans (xag ?_)
       . have l1:(([S[i].r]:List Row).length:Int)=1:=rfl;have z1:(0:Int)<=0:=by omega
         have z2:(0:Nat)<([S[i].r]:List Row).length:=by simp
         have z3:(0:Int).toNat=0:=rfl;simp only [xcU,xf4,sBU,l1,z0,z1,z2,z3,g0,cR0,sR0,i2,i3,tS,s1,m1,m2,w1];simp [encG]
       . have l1:¬ (1:Int)<(([encR S[i].r]:List AV).length:Int):=by simp
         simp only [xcU,xf4,zV,zW,l1,zm,xac,sUF]
    simp only [xcT,xia,xkX,xkY,xbT,sBU,i1,i2,i3,a5,tS,d1,af]
theorem xGr (l:List Fc) (h:Few l) (hl:l.length<=262144):∃ G:List Grp,xkW (l.map encF)=some (G.map encG)/\IsRows l (G.map (·.1))/\(∀ g,g∈G->StepI (fun t=>((cnt l g.1 t:Nat):Int)) 1099511627776 g.2/\g.2.length<=2*l.length+1)/\G.length<=l.length:=by
 obtain ⟨S,e1,p1,s1⟩:=xEb 99 l (Nat.le_trans h.1 (Nat.le_trans (show 1048576<=2 ^ 20 by omega) (Nat.pow_le_pow_right (by omega) (by omega)))) h
 have q:=p1.length_eq;obtain ⟨G,e2,hG⟩:=xAY S (by omega) (fun f hf=>h.2 f (p1.mem_iff.1 hf)) s1 S.length 0 [] (by omega) (by omega) ⟨List.Pairwise.nil,fun r=>by simp,fun g hg=>by simp at hg,zd _,fun a b ha hb h1 h2=>by omega⟩
 refine ⟨G,?_,⟨hG.st,fun r=>?_⟩,fun g hg=>?_,by rw [<-q];exact hG.len⟩
 . have e1:xbl 100 (l.map encF)=some (S.map encF):=e1;have e2:Iter (xcT (S.map encF)) ((0:Nat),(0:Int),[])=_:=e2;have tt:List.take G.length (G.map encG)=G.map encG:=zi (by simp)
   unfold xkW xpR;simp only [xow,xoy,xoz,xoA,e1,e2,zk,zh,xab,zH,za,zd,zn,zS,zr,tt,sUF]
 . rw [hG.mem,y4];constructor
   . rintro ⟨f,hf,e⟩;exact ⟨f,p1.mem_iff.1 hf,e⟩
   . rintro ⟨f,hf,e⟩;exact ⟨f,p1.mem_iff.2 hf,e⟩
 . obtain ⟨x1,x2⟩:=hG.ps g hg;have e:(fun t=>((cnt S g.1 t:Nat):Int))=fun t=>((cnt l g.1 t:Nat):Int):=funext fun t=>by rw [xI1 p1]
   rw [e] at x1;exact ⟨x1,by omega⟩
theorem xGj (row:Row) (P:List Per) (hP:P.length<=1048576):xor (row.map encV) (P.map encP)=some ((mk row P).map encF):=by
 have e:=xuY row P hP;rw [xN3 (fun p:Per=>(⟨row,p⟩:Fc)) P] at e
 have e:Iter (xb1 (row.map encV) (P.map encP)) ((0:Nat),(0:Int),[])=some ((mk row P).length,(mk row P).map encF):=e;generalize mk row P=D at e;have tt:List.take D.length (D.map encF)=D.map encF:=zi (by simp)
 unfold xor xpL;simp only [xos,xot,xou,e,zk,zh,xab,zH,za,zd,zn,zS,zr,tt,sUF]
theorem sG0 (g:Grp):xOI (Sh.list 3) ((encG g).cells.getD 0 .top)=true:=rfl
theorem sG1 (g:Grp):xOI (Sh.list 2) ((encG g).cells.getD 1 .top)=true:=rfl
theorem xOw {n m:Nat} (h:n<=1048576*1024) (hm:m<=1048576):(n+m)*40<=140737488355328/\n+m<=4611686018427387904:=by omega
theorem xJD (G:List Grp) (hG:G.length<=1024) (L:Row->List Per) (hL:∀ g,g∈G->xcI (g.2.map encP) 1=some ((L g.1).map encP)/\(L g.1).length<=1048576) :
  Iter (xel (G.map encG)) ((0:Nat),(0:Int),[])=some ((facts (G.map (·.1)) L).length,(facts (G.map (·.1)) L).map encF):=by
 rw [<-xyl];refine xgL G (fun g=>mk g.1 (L g.1)) encF 1048576 (fun g hg=>by unfold mk;rw [za];exact (hL g hg).2) (fun n h D hD=>?_) (fun D=>?_)
 . have i1:(n:Int)<(G.length:Int):=by omega
   have gf:(G.map encG).getD n .top=encG G[n]:=xaa _ _ _ h;obtain ⟨e1,e2⟩:=hL _ (zo h);have ed:=xGj G[n].1 (L G[n].1) e2;have ml:(mk G[n].1 (L G[n].1)).length<=1048576:=by unfold mk;rw [za];exact e2
   have q:D.length<=1048576*1024:=Nat.le_trans hD (Nat.mul_le_mul_left _ (by omega))
   obtain ⟨m1,m2⟩:=xOw q ml;simp only [xel,xlw,xkq,xov,sBU,h,i1,gf,cG0,cGs,sG0,sG1,e1,ed,m1,m2,xNG (n:=n) (by omega),z8,zx]
 . simp only [xel,xlw,za,zy,zm,xac,sUF]
theorem xKz (l:List Fc) (r:Row) (t:Int) (h:t<0\/1099511627776<=t):cnt l r t=0:=by rw [<-xzt];exact xyj _ t h
theorem xKW (l:List Fc) (h:Few l) (hl:l.length<=1024):∃ B,xtl (l.map encF)=some (B.map encF)/\xNV l B:=by
 obtain ⟨G,e1,hR,hS,J⟩:=xGr l h (by omega)
 have lv:∀ g,g∈G->∃ P,xcI (g.2.map encP) 1=some (P.map encP)/\(IsSpan P/\∀ t,inL P t=decide (0<cnt l g.1 t))/\P.length<=1048576:=fun g hg=>by
  obtain ⟨s1,s2⟩:=hS g hg;obtain ⟨P,p1,p2,p3⟩:=xHo (N:=cnt l g.1) (xKz l g.1) s1 (by omega) 0
  exact ⟨P,p1,p2,by omega⟩
 obtain ⟨L,hL⟩:=xvJ (R:=G.map (·.1)) (Q:=fun r P=>(∀ g,g∈G->g.1=r->xcI (g.2.map encP) 1=some (P.map encP))/\(IsSpan P/\∀ t,inL P t=decide (0<cnt l r t))/\P.length<=1048576) fun r hr=>by
  obtain ⟨g,hg,rfl⟩:=zK.1 hr;obtain ⟨P,p1,p2,p3⟩:=lv g hg;refine ⟨P,fun g' q e=>?_,p2,p3⟩
  obtain ⟨P',q1,q2,_⟩:=lv g' q;rw [e] at q2;rw [q1,xfm q2.1 p2.1 fun t=>by rw [q2.2,p2.2]]
 have hk:∀ g,g∈G->g.1∈G.map (·.1):=fun g hg=>zK.2 ⟨g,hg,rfl⟩
 have e2:=xJD G (by omega) L fun g hg=>⟨(hL g.1 (hk g hg)).1 g hg rfl,(hL g.1 (hk g hg)).2.2⟩
 refine ⟨facts (G.map (·.1)) L,?_,G.map (·.1),L,hR,fun r hr=>(hL r hr).2.1,rfl⟩
 generalize facts (G.map (·.1)) L=F at e2;have tt:List.take F.length (F.map encF)=F.map encF:=zi (by simp)
 unfold xtl xtW;simp only [xsF,xsG,xsH,e1,e2,zk,zh,xab,zH,za,zd,zn,zS,zr,tt,sUF]
theorem xEz (p0:List UInt8) (p1 p3 p4:List AV) (key:List Int) (hk:key.length<=1048576) (pl:List Fc) (O:pl.length<=1048576) (K:Row):xms p0 p1 (key.map encN) p3 p4 (pl.map encF) (K.map encV)=some ((life key pl K).map encP):=by
 have e:=xiW (step:=xcn (pl.map encF) (K.map encV)) pl (fun y=>if decide (pick y.r key=K)=true then [y.p] else []) (fun n D=>(D.length,(n:Int),p0,p1,key.map encN,p3,p4,D.map encP)) (fun D=>(D.length,D.map encP)) [] 1 (fun y _=>by split<;>simp) (fun n h D hD=>by
  have h1:(n:Int)<(pl.length:Int):=by omega
  rw [List.length_nil] at hD;have m1:(D.length+1)*16<=140737488355328:=by omega
  have m2:D.length+1<=4611686018427387904:=by omega
  have gf:(pl.map encF).getD n .top=encF pl[n]:=xaa _ _ _ h;have J:=xDy p0 p1 p3 p4 key pl[n].r hk;have q:=xly (pick pl[n].r key) K (by rw [xuQ];simp only [maxLen];omega)
  simp only [xcn,xhB,sBU,h,h1,gf,cF0,cF1,cF2,sF0,sF1,sF2,lF,sF12,sF02,J,q,cmp0,m1,m2,xNG (n:=n) (by omega)]
  by_cases hc:pick pl[n].r key=K
  . simp [hc,xab,encP,sUF]
  . simp [hc,xac,sUF]) (fun D=>by
  simp only [xcn,xhB,za,zy,zm,xac,sUF])
 rw [zU,xuB _ (fun y:Fc=>y.p) (fun y=>decide (pick y.r key=K)) (fun _=>rfl)] at e
 have e:Iter (xcn (pl.map encF) (K.map encV)) ((0:Nat),(0:Int),p0,p1,key.map encN,p3,p4,[])=some ((life key pl K).length,(life key pl K).map encP):=e;have tt:List.take (life key pl K).length ((life key pl K).map encP)=(life key pl K).map encP:=zi (by simp)
 unfold xms xoG;simp only [xm0,xm1,xm2,xm3,e,za,zk,zh,xab,zH,zd,zn,zS,zr,tt,sUF]
theorem xGi (p0:List UInt8) (p1 p3 p4:List AV) (key:List Int) (hk:key.length<=1048576) (l:List Fc) (hl:l.length<=65536) (K:Row):xtY p0 p1 (key.map encN) p3 p4 (l.map encF) (K.map encV)=some ((xNP (life key l K)).map encP):=by
 have q:(life key l K).length<=65536:=Nat.le_trans (xpk key l K) hl;obtain ⟨S,A,h1,h2,h3⟩:=xId (life key l K) q;obtain rfl:=h3.unique (xkK q);have e:=xEz p0 p1 p3 p4 key hk l (by omega) K
 generalize life key l K=P at *;have ec:=xgL (step:=xeL (P.map encP)) P (fun p=>[(p,(1:Int))]) encC 1 (fun _ _=>by simp) (fun n h D hD=>by
  have i1:(n:Int)<(P.length:Int):=by omega
  have m1:(D.length+1)*24<=140737488355328:=by omega
  have m2:D.length+1<=4611686018427387904:=by omega
  have gf:(P.map encP).getD n .top=encP P[n]:=xaa _ _ _ h;simp only [xeL,xjr,sBU,h,i1,gf,cP0,cP1,lP,sP,sP0,sP1,m1,m2,xNG (n:=n) (by omega)]
  simp [encC]) (fun D=>by
  simp only [xeL,xjr,za,zy,zm,xac,sUF])
 rw [xN3 (fun p:Per=>(p,(1:Int)))] at ec
 generalize (P.map fun p=>(p,(1:Int)))=C at ec h1
 have tt:List.take C.length (C.map encC)=C.map encC:=zi (by simp)
 unfold xtY xrk;simp only [xpT,xpU,xpV,xpW,xpX,xpY,e,ec,zk,zh,xab,zH,za,zd,zn,zS,zr,tt,h1,h2,sUF]
def xNJ (n:List UInt8) (f:Fc):AV:=.agg [.int .i64 2,.str n,.int .i64 0,.list 3 (f.r.map encV),.int .i64 f.p.1,.int .i64 f.p.2]
theorem xCJ (n:List UInt8) (r:Row) (p:Per):AV.agg [.int .i64 2,.str n,.int .i64 0,.list 3 (r.map encV),.int .i64 p.1,.int .i64 p.2]=xNJ n ⟨r,p⟩:=rfl
def xNS (S:List Fc) (r:Row):List Per:=(S.filter fun f=>decide (f.r=r)).map (·.p)
theorem xJH (l:List AV) (S:List Fc) (hS:S.length<=1048576) (hr:∀ f,f∈S->f.r.length<=maxLen) (R:List Row) (on i:Nat) (hi:i<R.length) (t0:List UInt8) (t1 t2 t3 t4 ox:List AV) :
  Iter (xbL l (S.map encF) (R.map encR) on (i:Int)) ((0:Nat),(0:Int),t0,t1,t2,t3,t4,ox,[])=some ((xNS S R[i]).length,t0,t1,t2,t3,t4,ox,(xNS S R[i]).map encP):=by
 have e:=xiW (step:=xbL l (S.map encF) (R.map encR) on (i:Int)) S (fun f=>if decide (f.r=R[i])=true then [f.p] else []) (fun n D=>(D.length,(n:Int),t0,t1,t2,t3,t4,ox,D.map encP)) (fun D=>(D.length,t0,t1,t2,t3,t4,ox,D.map encP)) [] 1 (fun f _=>by split<;>simp) (fun n h D hD=>by
  have h1:(n:Int)<(S.length:Int):=by omega
  have i1:(i:Int)<(R.length:Int):=by omega
  rw [List.length_nil] at hD;have m1:(D.length+1)*16<=140737488355328:=by omega
  have m2:D.length+1<=4611686018427387904:=by omega
  have gf:(S.map encF).getD n .top=encF S[n]:=xaa _ _ _ h;have gr:(R.map encR).getD i .top=encR R[i]:=xaa _ _ _ hi;have q:=xly S[n].r R[i] (hr _ (zo h));simp only [xbL,xfK,sBU,h,h1,i1,hi,gf,gr,cF0,cF1,cF2,sF0,sF1,sF2,lF,sF12,sF02,cR0,sR0,q,cmp0,m1,m2,xNG (n:=n) (by omega)]
  by_cases hc:S[n].r=R[i]
  . simp [hc,xab,encP,sUF]
  . simp [hc,xac,sUF]) (fun D=>by
  simp only [xbL,xfK,za,zy,zm,xac,sUF])
 rw [zU,xuB _ (fun f:Fc=>f.p) (fun f=>decide (f.r=R[i])) (fun _=>rfl)] at e
 exact e
theorem xJI (l s0:List AV) (R:List Row) (i:Nat) (hi:i<R.length) (P:List Per) (hP:P.length<=1048576) (t0:List UInt8) (t1 t2 t3 t4:List AV) (D:List Fc) (hD:D.length<=1099511627776) :
  Iter (xbM l s0 (R.map encR) (i:Int) (P.map encP)) (D.length,(0:Int),t0,t1,t2,t3,t4,D.map (xNJ t0))=some ((D++mk R[i] P).length,t0,t1,t2,t3,t4,(D++mk R[i] P).map (xNJ t0)):=by
 have e:=xiW (step:=xbM l s0 (R.map encR) (i:Int) (P.map encP)) P (fun p=>[(⟨R[i],p⟩:Fc)]) (fun n D=>(D.length,(n:Int),t0,t1,t2,t3,t4,D.map (xNJ t0))) (fun D=>(D.length,t0,t1,t2,t3,t4,D.map (xNJ t0))) D 1 (fun _ _=>by simp) (fun n h D' q=>by
  have h1:(n:Int)<(P.length:Int):=by omega
  have i1:(i:Int)<(R.length:Int):=by omega
  have m1:(D'.length+1)*72<=140737488355328:=by omega
  have m2:D'.length+1<=4611686018427387904:=by omega
  have gf:(P.map encP).getD n .top=encP P[n]:=xaa _ _ _ h;have gr:(R.map encR).getD i .top=encR R[i]:=xaa _ _ _ hi;simp only [xbM,xfL,sBU,h,h1,i1,hi,gf,gr,cP0,cP1,lP,sP,sP0,sP1,cR0,sR0,m1,m2,xCJ,xNG (n:=n) (by omega),z8,zj,zx,zV,zW]) (fun D'=>by
  simp only [xbM,xfL,za,zy,zm,xac,sUF])
 rw [xN3 (fun p:Per=>(⟨R[i],p⟩:Fc))] at e
 exact e
theorem xHE (S:List Fc) (r:Row) (t:Int):inL (xNS S r) t=decide (0<cnt S r t):=by
 rw [Bool.eq_iff_iff,zl,xuf];unfold inL xNS;rw [List.any_eq_true];constructor
 . rintro ⟨p,hp,h⟩;obtain ⟨f,hf,rfl⟩:=zK.1 hp;obtain ⟨h1,h2⟩:=List.mem_filter.1 hf;exact ⟨f,h1,of_decide_eq_true h2,h⟩
 . rintro ⟨f,hf,h1,h2⟩;exact ⟨f.p,zK.2 ⟨f,List.mem_filter.2 ⟨hf,decide_eq_true h1⟩,rfl⟩,h2⟩
theorem xBc {α:Type} [DecidableEq α]:∀ {R M:List α},R.Nodup->(∀ r,r∈R->r∈M)->R.length<=M.length
 | [],_,_,_=>zQ _
 | r::R,M,h,hs=>by
  rw [List.nodup_cons] at h;have h1:r∈M:=hs r (by simp)
  have h2:=xBc (R:=R) (M:=M.erase r) h.2 fun x hx=>(List.mem_erase_of_ne (fun e:x=r=>h.1 (by rw [<-e];exact hx))).2 (hs x (by simp [hx]))
  rw [List.length_erase_of_mem h1] at h2;have:=List.length_pos_of_mem h1;rw [zF];omega
theorem xJJ (n:List UInt8) (p1 p3 p4:List AV) (key:List Int) (hk:key.length<=1048576) (l:List Fc) (hf:Few l) (hl:l.length<=200) :
  ∃ V,xcG n p1 (key.map encN) p3 p4 (l.map encF)=some (V.map (xNJ n))/\IsViol key l V/\V.length<=1048576*1048576:=by
 obtain ⟨S,e1,hS⟩:=xKW l hf (by omega)
 obtain ⟨R,e2,hR⟩:=xDC l hf;have O:S.length<=40000:=Nat.le_trans hS.len (Nat.mul_le_mul hl hl);have U:∀ f,f∈S->f.r.length<=1048576:=hS.all (Q:=fun r=>r.length<=1048576) fun f q=>hf.2 f q
 have Y:∀ r,r∈R->r.length<=1048576:=fun r hr=>by
  obtain ⟨f,h1,rfl,_⟩:=(hR.2 r).1 hr;exact hf.2 f h1
 obtain ⟨L,hL⟩:=xvJ (R:=R) (Q:=fun r A=>xkh ((xNS S r).map encP) ((xNP (life key l (pick r key))).map encP)=some (A.map encP)/\(IsSpan A/\∀ t,inL A t=(decide (0<cnt l r t)&&decide (1<cntK key l (pick r key) t)))/\A.length<=1048576) fun r hr=>by
  have d1:(xNS S r).length<=40000:=by
   unfold xNS;rw [za];exact Nat.le_trans (List.length_filter_le _ _) O
  have c1:=xpk key l (pick r key);have c2:=xkK (ps:=life key l (pick r key)) (by omega)
  have c3:=c2.2;obtain ⟨A,a1,a2,a3,a4⟩:=xBv (xNS S r) (xNP (life key l (pick r key))) (by omega) (by omega)
  refine ⟨A,a1,⟨a2,fun t=>?_⟩,by omega⟩
  rw [a3,xHE,hS.cntS,c2.1.2];unfold cntK;by_cases h0:0<cnt l r t<;>simp [h0]
 have W:R.length<=200:=by
  have h1:R.length<=l.length:=by
   have:R.length<=(l.map (·.r)).length:=xBc (hR.1.nodup xpb) fun r hr=>by
    obtain ⟨f,h1,h2,_⟩:=(hR.2 r).1 hr;exact zK.2 ⟨f,h1,h2⟩
   simpa using this
  omega
 have e3:Iter (xbK (l.map encF) (S.map encF) (R.map encR)) ((0:Nat),(0:Int),n,p1,key.map encN,p3,p4,[])=some ((facts R L).length,(facts R L).map (xNJ n)):=by
  have e:=xiW (step:=xbK (l.map encF) (S.map encF) (R.map encR)) R (fun r=>mk r (L r)) (fun k D=>(D.length,(k:Int),n,p1,key.map encN,p3,p4,D.map (xNJ n))) (fun D=>(D.length,D.map (xNJ n))) [] 1048576 (fun r hr=>by unfold mk;rw [za];exact (hL r hr).2.2) (fun k h D hD=>by
   have i1:(k:Int)<(R.length:Int):=by omega
   rw [List.length_nil,zH] at hD;have J:D.length<=1099511627776:=Nat.le_trans hD (Nat.mul_le_mul_left 1048576 (by omega:k<=1048576))
   have gr:(R.map encR).getD k .top=encR R[k]:=xaa _ _ _ h;obtain ⟨a1,a2,a3⟩:=hL R[k] (zo h);have x1:=xJH (l.map encF) S (by omega) (fun f q=>by have:=U f q;simp only [maxLen];omega) R D.length k h n p1 (key.map encN) p3 p4 (D.map (xNJ n))
   have x2:=xDy n p1 p3 p4 key R[k] hk;have x3:=xGi n p1 p3 p4 key hk l (by omega) (pick R[k] key)
   have x4:=xJI (l.map encF) (S.map encF) R k h (L R[k]) a3 n p1 (key.map encN) p3 p4 D J;have tt:List.take (xNS S R[k]).length ((xNS S R[k]).map encP)=(xNS S R[k]).map encP:=zi (by simp)
   simp only [xbK,xfJ,xe9,xfa,xfb,xfc,xfd,xfe,xff,xfg,xfh,xfi,xc4,xc5,xc6,xc7,xc8,xeq,xer,xes,xet,xeu,xev,xew,xey,xez,xeA,sBU,h,i1,gr,cR0,sR0,x1,x2,x3,zd,zr,tt,a1,x4,xNG (n:=k) (by omega)]) (fun D=>by
   simp only [xbK,xfJ,xe9,xfa,xfb,xfc,xfd,xfe,xff,xfg,xfh,xfi,xc4,xc5,xc6,xc7,xc8,xeq,xer,xes,xet,xeu,xev,xew,xey,xez,xeA,za,zy,zm,xac,sUF])
  exact e
 refine ⟨facts R L,?_,⟨R,L,hR,fun r hr=>(hL r hr).2.1,rfl⟩,?_⟩
 . generalize facts R L=V at e3;have tt:List.take V.length (V.map (xNJ n))=V.map (xNJ n):=zi (by simp)
   unfold xcG xkx;simp only [xka,xkb,xkc,xkd,e1,e2,zk,zh,xab,e3,zH,za,zd,zn,zS,zr,tt,sUF]
 . exact Nat.le_trans (xHH fun r hr=>(hL r hr).2.2) (Nat.mul_le_mul_left 1048576 (by omega:R.length<=1048576))
theorem xIj {n:List UInt8} {p1 p3 p4:List AV} {key:List Int} {l V:List Fc} (e:xcG n p1 (key.map encN) p3 p4 (l.map encF)=some (V.map (xNJ n))):xqg n p1 (key.map encN) p3 p4 (l.map encF)=some (decide (V=[])):=by
 unfold xqg xrj;simp only [e,zk,zh,xab,za,sUF];congr 1;cases V with
 | nil=>simp
 | cons v V=>simp;omega
theorem xJc (a b:Row) (ha:a.length<=maxLen):xqj (a.map encV) (b.map encV)=some (decide (a=b)):=by
 unfold xqj xro;rw [xwg a b ha];simp only [zk,zh,xab,cmp0,sUF]
def xNY (key:List Int) (l:List Fc) (K:Row):List Fc:=l.filter fun f=>decide (pick f.r key=K)
theorem xIF (key:List Int) (l:List Fc) (K:Row):(xNY key l K).map (·.p)=life key l K:=rfl
theorem xDR (key:List Int) (l:List Fc) (K:Row):(xNY key l K).length<=l.length:=List.length_filter_le _ _
theorem xI9 (f:Fc):AV.agg [.list 3 (f.r.map encV),.int .i64 f.p.1,.int .i64 f.p.2]=encF f:=rfl
theorem xDp (p0:List UInt8) (p1 p3 p4:List AV) (key:List Int) (hk:key.length<=1048576) (l:List Fc) (hl:l.length<=1048576) (K:Row) :
  xcK p0 p1 (key.map encN) p3 p4 (l.map encF) (K.map encV)=some ((xNY key l K).map encF):=by
 have e:=xiW (step:=xdA (K.map encV) (l.map encF) ((l.length:Nat):Int)) l (fun f=>if decide (pick f.r key=K)=true then [f] else []) (fun n D=>(D.length,(n:Int),p0,p1,key.map encN,p3,p4,D.map encF)) (fun D=>(D.length,D.map encF)) [] 1 (fun f _=>by split<;>simp) (fun n h D hD=>by
  have h1:(n:Int)<(l.length:Int):=by omega
  rw [List.length_nil] at hD;have m1:(D.length+1)*40<=140737488355328:=by omega
  have m2:D.length+1<=4611686018427387904:=by omega
  have gf:(l.map encF).getD n .top=encF l[n]:=xaa _ _ _ h;have J:=xAe p0 p1 p3 p4 key l[n].r hk;have q:=xJc (pick l[n].r key) K (by rw [xuQ];simp only [maxLen];omega)
  simp only [xdA,xjF,sBU,h,h1,gf,cF0,cF1,cF2,sF0,sF1,sF2,lF,sF12,sF02,J,q,m1,m2,xNG (n:=n) (by omega)]
  by_cases hc:pick l[n].r key=K
  . simp [hc,xab,xI9,sUF]
  . simp [hc,xac,sUF]) (fun D=>by
  simp only [xdA,xjF,za,zy,zm,xac,sUF])
 rw [zU,xuB _ (fun f:Fc=>f) (fun f=>decide (pick f.r key=K)) (fun _=>rfl),List.map_id'] at e
 have e:Iter (xdA (K.map encV) (l.map encF) ((l.length:Nat):Int)) ((0:Nat),(0:Int),p0,p1,key.map encN,p3,p4,[])=some ((xNY key l K).length,(xNY key l K).map encF):=e;generalize xNY key l K=D at e;have tt:List.take D.length (D.map encF)=D.map encF:=zi (by simp)
 unfold xcK xrs;simp only [xp2,xp3,xp4,xp5,za,e,zk,zh,xab,zH,zd,zn,zS,zr,tt,sUF]
theorem xJv (p0:List UInt8) (p1 p3 p4:List AV) (key:List Int) (hk:key.length<=1048576) (l:List Fc) (hl:l.length<=65536) (K:Row):∃ A:List Per,xku p0 p1 (key.map encN) p3 p4 (l.map encF) (K.map encV)=some (A.map encP)/\IsSpan A/\∀ t,inL A t=inL (life key l K) t:=by
 have hw:=xDp p0 p1 p3 p4 key hk l (by omega) K
 have q:=xDR key l K;rw [<-xIF];generalize xNY key l K=W at *;have e:=xgL (step:=xc9 (W.map encF) ((W.length:Nat):Int)) W (fun f=>[f.p]) encP 1 (fun _ _=>by simp) (fun n h D hD=>by
  have i1:(n:Int)<(W.length:Int):=by omega
  have m1:(D.length+1)*16<=140737488355328:=by omega
  have m2:D.length+1<=4611686018427387904:=by omega
  have gf:(W.map encF).getD n .top=encF W[n]:=xaa _ _ _ h;simp only [xc9,xgw,sBU,h,i1,gf,cF0,cF1,cF2,sF0,sF1,sF2,lF,sF12,sF02,m1,m2,xNG (n:=n) (by omega)]
  simp [encP]) (fun D=>by
  simp only [xc9,xgw,za,zy,zm,xac,sUF])
 rw [xN3 (fun f:Fc=>f.p)] at e
 obtain ⟨A,a1,a2,a3⟩:=xKa (W.map (·.p)) (by rw [za];omega)
 refine ⟨A,?_,a2,a3⟩;generalize (W.map fun f=>f.p)=P at *
 have tt:List.take P.length (P.map encP)=P.map encP:=zi (by simp)
 unfold xku xl6;simp only [xk8,xk9,xla,xlb,xlc,za,hw,e,zk,zh,xab,zH,zd,zn,zS,zr,tt,a1,sUF]
theorem xJk (es:List En) (s:List UInt8):lookL (es.map xNQ) s=(xNN es s).map encP:=by
 unfold lookL;rw [xvX];cases h:ixE es s with
 | none=>rw [xzi h];rfl
 | some i =>
  have hi:=xvO h;dsimp only;have e:es.getD i default=es[i]:=by rw [z7,ze hi];rfl
  rw [xzj h,xaa _ _ _ hi,e];rfl
theorem xIo (es:List En) (s:List UInt8):(!xPd (es.map xNQ) s || xPo 2 (xO1 .nils (es.map xNQ) s))=true:=by
 unfold xPd xO1;rw [xvX];cases h:ixE es s with
 | none=>rfl
 | some i =>
  have hi:=xvO h;dsimp only;rw [xaa _ _ _ hi];rfl
theorem xJC (t0:List UInt8) (t1 t2 t3 t4:List AV) (row:Row) (hr:row.length<=1048576) (f1 f2:Int) (q:List AV) (J O:Int) (P:List Per) (hP:P.length<=1048576) (cx:List AV) (D:List Fc) (hD:D.length<=1099511627776) :
  Iter (xbD t0 t1 t2 t3 t4 (row.map encV) f1 f2 q J O (P.map encP) ((P.length:Nat):Int)) (D.length,(0:Int),cx,D.map (xNJ t0))=some ((D++mk row P).length,cx,(D++mk row P).map (xNJ t0)):=by
 have e:=xiW (step:=xbD t0 t1 t2 t3 t4 (row.map encV) f1 f2 q J O (P.map encP) ((P.length:Nat):Int)) P (fun p=>[(⟨row,p⟩:Fc)]) (fun n D=>(D.length,(n:Int),cx,D.map (xNJ t0))) (fun D=>(D.length,cx,D.map (xNJ t0))) D 1 (fun _ _=>by simp) (fun n h D' Q=>by
  have h1:(n:Int)<(P.length:Int):=by omega
  have m1:(D'.length+1)*72<=140737488355328:=by omega
  have m2:D'.length+1<=4611686018427387904:=by omega
  have m3:row.length*32<=140737488355328:=by omega
  have m4:row.length<=4611686018427387904:=by omega
  have gf:(P.map encP).getD n .top=encP P[n]:=xaa _ _ _ h;have tk:List.take row.length (row.map encV)=row.map encV:=zi (by simp)
  simp only [xbD,xfo,sBU,h,h1,gf,cP0,cP1,lP,sP,sP0,sP1,m1,m2,m3,m4,zd,zr,tk,xCJ,xNG (n:=n) (by omega),z8,zj,zx,zV,zW]) (fun D'=>by
  simp only [xbD,xfo,zy,zm,xac,sUF])
 rw [xN3 (fun p:Per=>(⟨row,p⟩:Fc))] at e
 exact e
theorem xDo (n:List UInt8) (p1 p3 p4:List AV) (key:List Int) (l:List Fc) (h:TOk key l) (hb:Bld l) (hl:l.length<=200) :
  ∃ V,xdf n p1 (key.map encN) p3 p4 (l.map encF)=some (V.map (xNJ n))/\IsViol key l V/\V.length<=1048576*1048576:=by
 obtain ⟨S,e1,hS⟩:=xMy l hb;have e2:=xAN h n p1 p3 p4;have U:S.length<=40000:=Nat.le_trans hS.len (Nat.mul_le_mul hl hl);have O:∀ f,f∈S->f.r.length<=1048576:=hS.all (Q:=fun r=>r.length<=1048576) fun f hf=>hb.1.1.2 f hf
 have J:∀ f,f∈S->Txt f.r:=hS.all fun f hf=>h.txt f hf
 obtain ⟨Q,hQ⟩:=xD2 (l:=S) (Q:=fun f A=>xiF ([f.p].map encP) ((xNP (life key l (pick f.r key))).map encP)=some (A.map encP)/\(IsSpan A/\∀ t,inL A t=(hasP f.p t&&decide (1<cntK key l (pick f.r key) t)))/\A.length<=1048576) fun f hf=>by
  have c1:=xpk key l (pick f.r key);have c2:=xkK (ps:=life key l (pick f.r key)) (by omega)
  have c3:=c2.2;obtain ⟨A,a1,a2,a3⟩:=xCZ [f.p] (xNP (life key l (pick f.r key))) (by simp) (by omega)
  obtain ⟨A',b1,b2,b3,b4⟩:=xBv [f.p] (xNP (life key l (pick f.r key))) (by simp) (by omega)
  obtain rfl:=xfm a2 b2 fun t=>by rw [a3,b3]
  refine ⟨A,a1,⟨a2,fun t=>?_⟩,by simp at b4;omega⟩
  rw [a3,xwq,c2.1.2];rfl
 have e3:Iter (xbC n p1 (key.map encN) p3 p4 (S.map encF) ((S.length:Nat):Int)) ((0:Nat),(0:Int),(xNR key l).map xNQ,[])=some ((S.flatMap fun f=>mk f.r (Q f)).length,(S.flatMap fun f=>mk f.r (Q f)).map (xNJ n)):=by
  have e:=xiW (step:=xbC n p1 (key.map encN) p3 p4 (S.map encF) ((S.length:Nat):Int)) S (fun f=>mk f.r (Q f)) (fun k D=>(D.length,(k:Int),(xNR key l).map xNQ,D.map (xNJ n))) (fun D=>(D.length,D.map (xNJ n))) [] 1048576 (fun f hf=>by unfold mk;rw [za];exact (hQ f hf).2.2) (fun k hk D hD=>by
   have i1:(k:Int)<(S.length:Int):=by omega
   rw [List.length_nil,zH] at hD;have q:D.length<=1099511627776:=Nat.le_trans hD (Nat.mul_le_mul_left 1048576 (by omega:k<=1048576))
   have gf:(S.map encF).getD k .top=encF S[k]:=xaa _ _ _ hk;obtain ⟨a1,a2,a3⟩:=hQ S[k] (zo hk);have hx:=J S[k] (zo hk);have x1:=xAe n p1 p3 p4 key S[k].r h.key;have x2:=xHF hx h.key;have x3:(keyOf (pick S[k].r key)).length<=4611686018427387904:=by have:=hx.len h.key;omega
   have x4:=xIo (xNR key l) (keyOf (pick S[k].r key));have x5:=xJk (xNR key l) (keyOf (pick S[k].r key));rw [xF6] at x5;have a1:xiF [AV.agg [.int .i64 S[k].p.1,.int .i64 S[k].p.2]] _=_:=a1;have x6:=xJC n p1 (key.map encN) p3 p4 S[k].r (O _ (zo hk)) S[k].p.1 S[k].p.2 (S.map encF) ((S.length:Nat):Int) (k:Int) (Q S[k]) a3 ((xNR key l).map xNQ) D q;simp only [xbC,xfn,xeB,xeC,xeD,xeE,xbX,xeF,sBU,hk,i1,gf,cF0,cF1,cF2,sF0,sF1,sF2,lF,sF12,sF02,x1,x2,x3,x4,x5,a1,x6,xNG (n:=k) (by omega)]) (fun D=>by
   simp only [xbC,xfn,xeB,xeC,xeD,xeE,xbX,xeF,za,zy,zm,xac,sUF])
  exact e
 refine ⟨S.flatMap fun f=>mk f.r (Q f),?_,xF1 hS fun f hf=>(hQ f hf).2.1,?_⟩
 . generalize (S.flatMap fun f=>mk f.r (Q f))=V at e3
   have tt:List.take V.length (V.map (xNJ n))=V.map (xNJ n):=zi (by simp)
   unfold xdf xke;simp only [xjA,xjB,xjC,xjD,e1,e2,za,zk,zh,xab,e3,zH,zd,zn,zS,zr,tt,sUF]
 . exact Nat.le_trans (xi2 S fun f hf=>by unfold mk;rw [za];exact (hQ f hf).2.2) (Nat.mul_le_mul_left 1048576 (by omega:S.length<=1048576))
theorem xIx {key:List Int} {l m:List Fc} (h:m.Sublist l) (K:Row) (t:Int):cntK key m K t<=cntK key l K t:=by
 unfold cntK life;exact ((h.filter _).map _).countP_le
theorem Once.sub {key:List Int} {l m:List Fc} (h:Once key l) (hm:m.Sublist l):Once key m:=by
 rw [xDc] at h |-;exact fun K t=>Nat.le_trans (xIx hm K t) (h K t)
def xN5 (D:List Row) (x:Row×Bool):Prop:=(D=[]/\x=([],false))\/(x.2=true/\x.1∈D/\∀ y,y∈D->cmpR x.1 y<=0)
theorem xN5.unique {D:List Row} {x y:Row×Bool} (h:xN5 D x) (g:xN5 D y):x=y:=by
 rcases h with ⟨h0,h⟩|⟨h1,h2,h3⟩
 . rcases g with ⟨g0,g⟩|⟨g1,g2,g3⟩
   . rw [h,g]
   . rw [h0] at g2;simp at g2
 . rcases g with ⟨g0,g⟩|⟨g1,g2,g3⟩
   . rw [g0] at h2;simp at h2
   . refine Prod.ext (xky ?_) (by rw [h1,g1])
     have a:=h3 _ g2;have b:=g3 _ h2;have:=xs9 x.1 y.1;omega
theorem xCP {D rest:List Row} {m:Row} (hp:(m::rest).Perm D) (hs:Sorted cmpR (m::rest)):xN5 D (m,true):=by
 refine .inr ⟨rfl,hp.mem_iff.1 (by simp),fun y hy=>?_⟩
 rcases zC.1 (hp.mem_iff.2 hy) with rfl|hy
 . rw [xkw];omega
 . exact (zM.1 hs).1 y hy
def okEA (x:AV):Bool:=xOI (Sh.list 3) (x.cells.getD 0 AV.top)
def ldEA (x:AV):AV:=AV.list 3 (x.cells.getD 0 AV.top).toList
abbrev encA:Row->AV:=encR
def xOc (x y:AV):Bool:=(xcJ (x.cells.getD 0 AV.top).toList (y.cells.getD 0 AV.top).toList).isSome
def xOe (x y:AV):Int:=(xcJ (x.cells.getD 0 AV.top).toList (y.cells.getD 0 AV.top).toList).getD 0
theorem ceA (x:Row):(encA x).cells.getD 0 AV.top=encA x:=rfl
theorem shA (x:Row):xOI (Sh.list 3) (encA x)=true:=rfl
theorem tlA (x:Row):(encA x).toList=x.map encV:=rfl
theorem heA (a:Row):okEA (encA a)=true:=rfl
theorem hdA (a:Row):ldEA (encA a)=encA a:=rfl
section
variable {N : Nat} (hN : N <= 2 ^ 60) {ok : Row -> Prop} {c : Row -> Row -> Int} (hc : ∀ x y, ok x -> ok y -> xOc (encA x) (encA y) = true /\ xOe (encA x) (encA y) = c x y)
include hN
include hc
theorem xNg (a b:Nat) (ha:a<=N) (hb:b<=N) {l r:List Row} (hl:LOk N ok l) (hr:xNZ c a b l=some r):xaU N a b (List.map encA l)=some (List.map encA r)/\LOk N ok r:=by
 obtain ⟨e1,e2⟩:=xDG (enc:=encA) hN (c:=c) (ok:=ok) a b hb (gi:=fun i=>xa8 N a b i) (fun i l r hl hr=>xFl (okE:=okEA) (ldE:=ldEA) heA hdA hN (P:=xOc) (V:=xOe) hc a (fun j xs=>rfl) hl hr) (g:=xa7 N a b) (fun i xs=>rfl) hl hr
 refine ⟨?_,e2⟩;unfold xaU xd5;rw [w64 (x:=(a:Int)+1) (n:=a+1) (by omega) (by omega),e1];rfl
theorem xJP (q:N<20) {l r:List Row} (hl:LOk N ok l) (hr:xNZ c 0 N l=some r):xfk N N (List.map encA l)=some (List.map encA r)/\LOk N ok r:=by
 obtain ⟨e1,e2⟩:=xNg hN hc 0 N (by omega) (zd _) hl hr
 have e1:xaU N 0 N (List.map encA l)=_:=e1;have q0:Iter (xbm N N 20) ((0:Int),(20:Int),List.map encA l)=some ((0:Int),List.map encA l):=by
  refine xag ?_;have h1:¬ (20:Int)<=(N:Int):=by omega
  simp only [xbm,xfv,h1,zm,xac,sUF]
 have q1:Iter (xci N N) ((20:Int),List.map encA r)=some (List.map encA r):=by
  refine xag ?_;have h1:¬ (20:Int)<(N:Int):=by omega
  simp only [xci,xfw,h1,zm,xac,sUF]
 refine ⟨?_,e2⟩;simp only [xfk,xgR,xgq,xgr,xgs,q0,e1,q1,zk,zh,xab,sUF]
end
theorem xMm {N:Nat} (hN:N*24<=140737488355328) (l:List Row) (hl:l.length=N) (hr:∀ x,x∈l->x.length<=4398046511104):∀ (k i:Nat),i+k=N->Iter (xbv (List.map encA l) N) (i,(i:Int),List.map encA (l.take i))=some (N,List.map encA l):=by
 intro k;induction k with
 | zero =>
  intro i hi;refine xag ?_;have:¬ (i:Int)<(N:Int):=by omega
  simp only [xbv,xg0,this,zm,xac,sUF];rw [zi (by omega),show i=N by omega]
 | succ k ih =>
  intro i hi;have q:i<l.length:=by omega
  refine xcr (s':=(i+1,((i+1:Nat):Int),List.map encA (l.take (i+1)))) ?_ (ih (i+1) (by omega))
  have hx:l[i]?=some l[i]:=by simp [q]
  have k1:(i:Int)<(N:Int):=by omega
  have k2:(i:Int)<((List.map encA l).length:Int):=by simp;omega
  have k2':(i:Int)<(l.length:Int):=by omega
  have k3:i<(List.map encA l).length:=by simpa using q
  have k4:=hr l[i] (zo q);have k5:(List.map encA (l.take i)).length=i:=by simp;omega
  have k6:(i+1)*24<=140737488355328:=by omega
  have k7:i+1<=4611686018427387904:=by omega
  have k8:List.map encA (l.take (i+1))=List.map encA (l.take i)++[AV.list 3 (l[i].map encV)]:=by
   rw [List.take_add_one,hx,zx];rfl
  simp only [xbv,xg0,k1,k2,k2',k3,q,zn,xab,Int.natCast_nonneg,zS,Bool.true_and,zN,gR hx,ceA,shA,tlA,za,k4,k5,beq_self_eq_true,k6,k7,w64 (x:=(i:Int)+1) (n:=i+1) (by omega) (by omega),k8,sUF]
theorem xJO {N:Nat} (hN:N*24<=140737488355328) {c:Row->Row->Int} (hc:∀ x y:Row,x.length<=4398046511104->y.length<=4398046511104->xOc (encA x) (encA y)=true/\xOe (encA x) (encA y)=c x y) (q:N<20) (l r:List Row) (hl:l.length=N) (ho:∀ x,x∈l->x.length<=4398046511104) (hr:xNZ c 0 N l=some r) :
  xrU (List.map encA l)=some (List.map encA r):=by
 obtain ⟨e1,e2⟩:=xJP (N:=N) (by omega) (ok:=fun x=>x.length<=4398046511104) hc q ⟨hl,ho⟩ hr
 have e0:=xMm hN l hl ho N 0 (by omega)
 have e0':Iter (xbv (List.map encA l) (N:Int)) (0,(0:Int),[])=some (N,List.map encA l):=e0;have k1:(List.map encA l).length=N:=by simpa using hl
 have k2:(24:Int)*(N:Int)<=281474976710656:=by omega
 have k3:(N:Int)<=4611686018427387904:=by omega
 have k4:0+N<=(List.map encA r).length:=by simp;exact Nat.le_of_eq e2.len.symm
 have k4':N<=r.length:=Nat.le_of_eq e2.len.symm;have k5:List.take N (List.map encA r)=List.map encA r:=zi (by simp;exact Nat.le_of_eq e2.len)
 simp only [xrU,xsX,xp1,xna,xl3,xl4,xib,xl5,k1,e0',xlG,xgo,e1,k2,k3,k4,k4',zn,za,Bool.true_and,zS,xab,zk,zh,zr,zH,k5,Int.natCast_nonneg,sUF]
 try simp
end Go.Sim.M
end
noncomputable section
set_option maxRecDepth 100000
namespace Go.Sim.M
open Go.RowKit Go.Sim.Srt
theorem xKw (x y:Row) (hx:x.length<=4398046511104):xOc (encA x) (encA y)=true/\xOe (encA x) (encA y)=cmpR x y:=by
 unfold xOc xOe;rw [ceA,ceA,tlA,tlA,xwg x y (by unfold maxLen;omega)]
 exact ⟨rfl,rfl⟩
theorem xK3 (l:List Row) (h:xNx l) (q:l.length<20):∃ r,xrU (l.map encR)=some (r.map encR)/\r.Perm l/\Sorted cmpR r:=by
 obtain ⟨r,e,p,s⟩:=xvN xpb.ord [] l [];simp only [zU,zD,List.length_nil,zH] at e;exact ⟨r,xJO (N:=l.length) (by omega) (c:=cmpR) (fun x y hx hy=>xKw x y hx) q l r rfl (fun x hx=>by have:=h.2 x hx;omega) e,p,s⟩
theorem xJt (p:Per) (t:Int):xnX p.1 p.2 t=hasP p t:=by
 rw [<-xyB];rfl
theorem xvt (t:Int) (l:List Fc) (hl:l.length<=1048576):Iter (xdj t (l.map encF) ((l.length:Nat):Int)) ((0:Nat),(0:Int),[])=some ((l.flatMap (fun (f:Fc)=>if hasP f.p t=true then [f.r] else [])).length,(l.flatMap (fun (f:Fc)=>if hasP f.p t=true then [f.r] else [])).map encR):=by
 refine xgL l (fun (f:Fc)=>if hasP f.p t=true then [f.r] else []) encR 1 (fun f hf=>?_) (fun n h D hD=>?_) (fun D=>?_)
 . cases q:(hasP (f).p t)<;>simp [q]
 . have h1:(n:Int)<(l.length:Int):=by omega
   have m1:(D.length+1)*24<=140737488355328:=by omega
   have m2:D.length+1<=4611686018427387904:=by omega
   have gf:(l.map encF).getD n .top=encF l[n]:=xaa _ _ _ h;simp only [xdj,xi0,sBU,h,h1,gf,cF0,cF1,cF2,sF0,sF1,sF2,lF,sF12,sF02,xJt,m1,m2,xNG (n:=n) (by omega)]
   cases q:(hasP (l[n]).p t)<;>simp [encR,xab,xac,encR,q,sUF]
 . simp only [xdj,xi0,za,zy,zm,xac,sUF]
theorem xNb (l:List Fc) (t:Int) (h:Few l) (q:l.length<20):∃ r,xgz (l.map encF) t=some (r.map encR)/\r.Perm (atL l t)/\Sorted cmpR r:=by
 obtain ⟨r,e,p,s⟩:=xK3 (atL l t) (h.at t) (by have:=xEU l t;omega)
 refine ⟨r,?_,p,s⟩;have:=xvt t l h.1;unfold xgz xqW;simp only [xpc,xpd,xpe,xpf,this,sOO,sUF];rw [show (l.flatMap fun f=>if hasP f.p t=true then [f.r] else [])=atL l t from rfl,e]
 simp only [sOO]
theorem xH7 (p0:List UInt8) (p1 p3 p4:List AV) (key:List Int) (hk:key.length<=1048576) (l:List Fc) (hl:Few l) (J:l.length<20) (K:Row) (t:Int) :
  ∃ x:Row×Bool,xgC p0 p1 (key.map encN) p3 p4 (l.map encF) (K.map encV) t=some (x.1.map encV,x.2)/\xN5 (atL (xNY key l K) t) x:=by
 have hw:=xDp p0 p1 p3 p4 key hk l hl.1 K;have q:=xDR key l K;obtain ⟨r,re,rp,rs⟩:=xNb (xNY key l K) t ⟨Nat.le_trans q hl.1,fun f hf=>hl.2 f (List.mem_filter.1 hf).1⟩ (by omega)
 generalize atL (xNY key l K) t=D at *;cases hr:r with
 | nil =>
  subst hr;have hD:D=[]:=by have:=rp.length_eq;exact List.length_eq_zero_iff.1 (by simpa using this.symm)
  refine ⟨([],false),?_,.inl ⟨hD,rfl⟩⟩;unfold xgC xmh;simp only [hw,re,zk,zh,xab,sUF];rfl
 | cons m rest =>
  subst hr;refine ⟨(m,true),?_,xCP rp rs⟩;have n0:((((m::rest).length:Nat):Int)==0)=false:=by simp<;>omega
  have i1:(0:Int)<(((m::rest).length:Nat):Int):=by simp<;>omega
  have i2:0<(m::rest).length:=by simp
  have g0:((m::rest).map encR).getD 0 .top=encR m:=rfl;unfold xgC xmh;simp only [sBU,hw,re,n0,i1,i2,g0,cR0,sR0]
end Go.Sim.M
end
noncomputable section
set_option maxRecDepth 100000
namespace Go.Sim.M
open Go.RowKit
def Stp {σ ρ:Type} (I:σ->Prop) (Q:ρ->Prop) (X:Option (σ⊕ρ)):Prop:=(∃ s,X=some (.inl s)/\I s)\/∃ r,X=some (.inr r)/\Q r
theorem Stp.br {σ ρ:Type} {I:σ->Prop} {Q:ρ->Prop} {c:Bool} {a b:Option (σ⊕ρ)} (h1:c=true->Stp I Q a) (h2:c=false->Stp I Q b):Stp I Q (br c a b):=by
 cases c with
 | true=>exact h1 rfl
 | false=>exact h2 rfl
theorem Stp.inl {σ ρ:Type} {I:σ->Prop} {Q:ρ->Prop} {s:σ} (h:I s):Stp I Q (some (.inl s):Option (σ⊕ρ)):=Or.inl ⟨s,rfl,h⟩
theorem Stp.inr {σ ρ:Type} {I:σ->Prop} {Q:ρ->Prop} {r:ρ} (h:Q r):Stp I Q (some (.inr r):Option (σ⊕ρ)):=Or.inr ⟨r,rfl,h⟩
def Ans {α:Type} (Q:α->Prop) (X:Option α):Prop:=∃ r,X=some r/\Q r
theorem Ans.br {α:Type} {Q:α->Prop} {c:Bool} {a b:Option α} (h1:c=true->Ans Q a) (h2:c=false->Ans Q b):Ans Q (br c a b):=by
 cases c with
 | true=>exact h1 rfl
 | false=>exact h2 rfl
theorem Ans.some {α:Type} {Q:α->Prop} {r:α} (h:Q r):Ans Q (some r):=⟨r,rfl,h⟩
theorem Ans.mono {α:Type} {Q Q':α->Prop} {X:Option α} (h:Ans Q X) (hq:∀ r,Q r->Q' r):Ans Q' X:=⟨h.choose,h.choose_spec.1,hq _ h.choose_spec.2⟩
theorem xbZ {σ ρ:Type} {step:σ->Option (σ⊕ρ)} (I:Nat->σ->Prop) (N:Nat) (Q:ρ->Prop) (hs:∀ k s,k<N->I k s->Stp (I (k+1)) Q (step s))
  (he:∀ s,I N s->Stp (fun _=>False) Q (step s)):∀ (d k:Nat) (s:σ),k+d=N->I k s->Ans Q (Iter step s)
 | 0,k,s,h,hp=>by
  obtain rfl:k=N:=by omega
  rcases he s hp with ⟨_,_,h⟩|⟨r,e,hq⟩
  . exact absurd h id
  . exact ⟨r,xag e,hq⟩
 | d+1,k,s,h,hp=>by
  rcases hs k s (by omega) hp with ⟨s',e,q⟩|⟨r,e,hq⟩
  . obtain ⟨x,ex,hx⟩:=xbZ I N Q hs he d (k+1) s' (by omega) q
    exact ⟨x,(xap e).trans ex,hx⟩
  . exact ⟨r,xag e,hq⟩
theorem xBS (s:List UInt8) (hs:s.length<=16777216):Ans (fun _=>True) (xki s):=by
 obtain ⟨r,e,_⟩:=xbZ (step:=xbb s) (fun k i=>i=(k:Int)) s.length (fun _=>True) (fun k i hk hi=>by
  subst hi;have h1:(k:Int)<(s.length:Int):=by omega
  simp only [xbb,xgj,sBU,h1,hk,xNG (n:=k) (by omega)]
  repeat' (first|exact Stp.inl rfl|exact Stp.inr trivial|refine Stp.br (fun _=>?_) (fun _=>?_))) (fun i hi=>by
  subst hi;simp only [xbb,xgj,zy,zm,xac,sUF];exact Stp.inr trivial) s.length 0 (0:Int) (by omega) rfl
 unfold xki xlP;simp only [e,zk,zh,xab,sUF];repeat' (first|exact Ans.some trivial|refine Ans.br (fun _=>?_) (fun _=>?_))
theorem xzX (k i:Int) (s:List UInt8) (hs:s.length<=16777216):Ans (fun _=>True) (xmd k i s):=by
 obtain ⟨r,e,_⟩:=xBS s hs;unfold xmd xqx;simp only [e,zk,zh,xab,sUF];repeat' (first|exact Ans.some trivial|refine Ans.br (fun _=>?_) (fun _=>?_))
theorem xFX (op i vk vi:Int) (vt nm:List UInt8) (args:List AV) (ht:vt.length<=16777216):Ans (fun b=>b=true->op=22->1<=args.length) (xoc op i vk vi vt nm args):=by
 obtain ⟨r,e,_⟩:=xzX vk vi vt ht;unfold xoc xpr;simp only [e,zk,zh,xab,sUF];refine Ans.br (fun _=>Ans.some (by simp)) (fun _=>Ans.br (fun _=>Ans.some (by simp)) (fun h=>?_))
 have hh:op=22->1<=args.length:=fun ho=>by
  subst ho;have ha:(xjU 22).fst=3:=by rfl
  rw [ha] at h;simp only [decide_eq_false_iff_not] at h;omega
 repeat' (first|exact Ans.some (fun _=>hh)|refine Ans.br (fun _=>?_) (fun _=>?_))
theorem xwn (ks:List Int) (q:Int) (hk:ks.length<=16777216):Ans (fun _=>True) (xdh (ks.map encN) q):=by
 obtain ⟨r,e,_⟩:=xbZ (step:=xdb (ks.map encN) q) (fun k i=>i=(k:Int)) ks.length (fun _=>True) (fun k i J hi=>by
  subst hi;have h1:(k:Int)<(ks.length:Int):=by omega
  have gf:(ks.map encN).getD k .top=encN ks[k]:=xaa _ _ _ J;simp only [xdb,xlt,sBU,h1,J,gf,cN,sN,xNG (n:=k) (by omega)]
  repeat' (first|exact Stp.inl rfl|exact Stp.inr trivial|refine Stp.br (fun _=>?_) (fun _=>?_))) (fun i hi=>by
  subst hi;simp only [xdb,xlt,za,zy,zm,xac,sUF];exact Stp.inr trivial) ks.length 0 (0:Int) (by omega) rfl
 unfold xdh xtQ;simp only [e,zk,zh,xab,sUF];repeat' (first|exact Ans.some trivial|refine Ans.br (fun _=>?_) (fun _=>?_))
theorem xC0 (ks:List Int) (hk:ks.length<=16777216):Ans (fun _=>True) (xef (ks.map encN)):=by
 obtain ⟨r,e,_⟩:=xbZ (step:=xdV (ks.map encN)) (fun k s=>s.2=(k:Int)) ks.length (fun _=>True) (fun k s q hi=>by
  obtain ⟨a,i⟩:=s;dsimp only at hi;subst hi;have h1:(k:Int)<(ks.length:Int):=by omega
  have gf:(ks.map encN).getD k .top=encN ks[k]:=xaa _ _ _ q;simp only [xdV,xkl,xh5,xjb,xjc,sBU,h1,q,gf,cN,sN,xNG (n:=k) (by omega)]
  repeat' (first|exact Stp.inl rfl|exact Stp.inr trivial|refine Stp.br (fun _=>?_) (fun _=>?_))) (fun s hi=>by
  obtain ⟨a,i⟩:=s;dsimp only at hi;subst hi;simp only [xdV,xkl,xh5,za,zy,zm,xac,sUF];exact Stp.inr trivial) ks.length 0 ((0:Int),(0:Int)) (by omega) rfl
 unfold xef xsr;simp only [xq5,xq6,xq7,e,zk,zh,xab,sUF];repeat' (first|exact Ans.some trivial|refine Ans.br (fun _=>?_) (fun _=>?_))
theorem xGq (op i vk vi:Int) (vt nm:List UInt8) (args:List AV) (ks kn:List Int) (hk:ks.length<=16777216) (h2:op=2->0<=i/\i<(kn.length:Int)) (q:op=22->1<=ks.length):Ans (fun _=>True) (xit op i vk vi vt nm args (ks.map encN) (kn.map encN)):=by
 obtain ⟨r1,e1,_⟩:=xwn ks 1 hk;obtain ⟨r2,e2,_⟩:=xwn ks 2 hk;obtain ⟨r3,e3,_⟩:=xwn ks 3 hk;obtain ⟨r4,e4,_⟩:=xC0 ks hk;obtain ⟨r5,e5,_⟩:=xC0 ((ks.drop 1).take (ks.length - 1)) (by rw [zt];omega)
 obtain ⟨r6,e6,_⟩:=xwn (ks.take 1) 3 (by rw [zt];omega)
 rw [List.map_take,List.map_drop] at e5;rw [List.map_take] at e6;unfold xit xpE xdJ xdK xjd;simp only [za,e1,e2,e3,e4,e5,e6,zr,zk,zh,xab,sUF];refine Ans.br (fun _=>Ans.some trivial) (fun _=>Ans.br (fun h=>?_) (fun _=>?_))
 . obtain ⟨a,b⟩:=h2 (by simpa using h)
   have c:i.toNat<kn.length:=by omega
   have gf:(kn.map encN).getD i.toNat .top=encN kn[i.toNat]:=xaa _ _ _ c;simp only [a,b,c,gf,cN,sN,zn,zS,xab,sUF];exact Ans.some trivial
 . by_cases h:op=22
   . have:=q h;have c:(1:Int)<=(ks.length:Int):=by omega
     simp only [c,zn,zS,xab,sUF];repeat' (first|exact Ans.some trivial|refine Ans.br (fun _=>?_) (fun _=>?_))
   . have hb:(op==22)=false:=by simpa using h
     simp only [hb,xac,sUF];repeat' (first|exact Ans.some trivial|refine Ans.br (fun _=>?_) (fun _=>?_))
theorem xOg (xs:List AV):(AV.agg xs).cells=xs:=rfl
theorem shE (op i vk vi:Int) (vt nm:List UInt8) (args:List AV):xOP [Sh.int IntKind.i64,Sh.int IntKind.i64,Sh.int IntKind.i64,Sh.int IntKind.i64,Sh.str,Sh.str,Sh.list 7] [AV.int .i64 op,.int .i64 i,.int .i64 vk,.int .i64 vi,.str vt,.str nm,.list 7 args] 0=true:=rfl
theorem cE0 (a b c d e f g:AV):[a,b,c,d,e,f,g].getD 0 .top=a:=rfl
theorem cE1 (a b c d e f g:AV):[a,b,c,d,e,f,g].getD 1 .top=b:=rfl
theorem cE2 (a b c d e f g:AV):[a,b,c,d,e,f,g].getD 2 .top=c:=rfl
theorem cE3 (a b c d e f g:AV):[a,b,c,d,e,f,g].getD 3 .top=d:=rfl
theorem cE4 (a b c d e f g:AV):[a,b,c,d,e,f,g].getD 4 .top=e:=rfl
theorem cE5 (a b c d e f g:AV):[a,b,c,d,e,f,g].getD 5 .top=f:=rfl
theorem cE6 (a b c d e f g:AV):[a,b,c,d,e,f,g].getD 6 .top=g:=rfl
theorem lE (a b c d e f g:AV):([a,b,c,d,e,f,g].length==7)=true:=rfl
theorem toIE (n:Int):(AV.int .i64 n).toInt=n:=rfl
theorem toSE (n:List UInt8):(AV.str n).toStr=n:=rfl
theorem toLE (k:Nat) (n:List AV):(AV.list k n).toList=n:=rfl
theorem xAO:∀ (n:Nat) (op i vk vi:Int) (vt nm:List UInt8) (args:List AV),args.length<=16777216->(∀ x,x∈args->IsEx x)->AV.dps args<n->Ans (fun _=>True) (xdH n op i vk vi vt nm args)
 | 0,op,i,vk,vi,vt,nm,args,hl,h,hd=>absurd hd (Nat.not_lt_zero _)
 | n+1,op,i,vk,vi,vt,nm,args,hl,h,hd=>by
  obtain ⟨r,e,_⟩:=xbZ (step:=xbG (xdH n)) (fun k s=>∃ m:Int,s=(m,(k:Int),op,i,vk,vi,vt,nm,args)) args.length (fun _=>True) (fun k s hk hi=>by
   obtain ⟨m,rfl⟩:=hi;have h1:(k:Int)<(args.length:Int):=by omega
   have hx:=h args[k] (zo hk);have hp:=xAa (zo hk);have gf:args.getD k .top=args[k]:=by rw [z7,ze hk];rfl
   obtain ⟨J,i',q,Q,O,U,ar,ex,l',t',h'⟩:=hx.get;rw [ex] at gf hp;simp only [AV.dp,AV.dps] at hp;obtain ⟨r',e',_⟩:=xAO n J i' q Q O U ar l' h' (by omega)
   simp only [xbG,xgQ,xl0,xl1,sBU,h1,hk,gf,xOg,shE,cE0,cE1,cE2,cE3,cE4,cE5,cE6,lE,toIE,toSE,toLE,e',xNG (n:=k) (by omega)]
   exact Stp.inl ⟨_,rfl⟩) (fun s hi=>by
   obtain ⟨m,rfl⟩:=hi;simp only [xbG,xgQ,zy,zm,xac,sUF];exact Stp.inr trivial) args.length 0 ((0:Int),(0:Int),op,i,vk,vi,vt,nm,args) (by omega) ⟨0,rfl⟩
  show Ans _ (xhU (xdH n) op i vk vi vt nm args);unfold xhU xmp;simp only [xpD,e,zk,zh,xab,sUF];exact Ans.some trivial
theorem xAH (kn:List Int):∀ (n:Nat) (op i vk vi:Int) (vt nm:List UInt8) (args:List AV),args.length<=16777216->vt.length<=16777216->(∀ x,x∈args->IsEx x)->AV.dps args<n->Ans (fun _=>True) (xdG n op i vk vi vt nm args (kn.map encN))
 | 0,op,i,vk,vi,vt,nm,args,hl,ht,h,hd=>absurd hd (Nat.not_lt_zero _)
 | n+1,op,i,vk,vi,vt,nm,args,hl,ht,h,hd=>by
  obtain ⟨b,fe,fq⟩:=xFX op i vk vi vt nm args ht;obtain ⟨r,e,hq⟩:=xbZ (step:=xbF (xdG n) (kn.map encN)) (fun k s=>∃ ks:List Int,ks.length=k/\s=(ks.length,(k:Int),op,i,vk,vi,vt,nm,args,ks.map encN)) args.length (fun r=>r.1=false->∃ ks:List Int,ks.length=args.length/\r.2.2=(ks.length,op,i,vk,vi,vt,nm,args,ks.map encN)) (fun k s hk hi=>by
   obtain ⟨ks,q,rfl⟩:=hi;have h1:(k:Int)<(args.length:Int):=by omega
   have hx:=h args[k] (zo hk);have hp:=xAa (zo hk);have gf:args.getD k .top=args[k]:=by rw [z7,ze hk];rfl
   obtain ⟨Q,i',O,W,U,Y,ar,ex,l',t',h'⟩:=hx.get;rw [ex] at gf hp;simp only [AV.dp,AV.dps] at hp;have m1:(ks.length+1)*8<=140737488355328:=by omega
   have m2:ks.length+1<=4611686018427387904:=by omega
   obtain ⟨⟨r1,r2⟩,e',_⟩:=xAH kn n Q i' O W U Y ar l' t' h' (by omega)
   simp only [xbF,xgP,xlW,xlX,xlY,sBU,h1,hk,gf,xOg,shE,cE0,cE1,cE2,cE3,cE4,cE5,cE6,lE,toIE,toSE,toLE,e',m1,m2,xNG (n:=k) (by omega)]
   refine Stp.br (fun _=>Stp.inr (by simp)) (fun _=>Stp.inl ⟨ks++[r1],by simp [q],?_⟩)
   simp [encN]) (fun s hi=>by
   obtain ⟨ks,q,rfl⟩:=hi;simp only [xbF,xgP,zy,zm,xac,sUF];exact Stp.inr fun _=>⟨ks,q,rfl⟩) args.length 0 ((0:Nat),(0:Int),op,i,vk,vi,vt,nm,args,[]) (by omega) ⟨[],rfl,rfl⟩
  obtain ⟨r1,r2,r3⟩:=r;show Ans _ (xgA (xdG n) op i vk vi vt nm args (kn.map encN));unfold xgA xmo xkm;simp only [xps,xpt,xpu,xpv,xpw,xpy,xpz,xpA,xpB,xpC,xod,xoe,xof,xog,xoh,xoi,e,fe,za,zk,zh,xab,sUF];cases b with
  | false=>simp only [Bool.not_false,xab,sUF];repeat' (first|exact Ans.some trivial|refine Ans.br (fun _=>?_) (fun _=>?_))
  | true =>
   have J:∀ r1:Bool,(r1=false->∃ ks:List Int,ks.length=args.length/\r3=(ks.length,op,i,vk,vi,vt,nm,args,ks.map encN))->(op=2->0<=i/\i<(kn.length:Int))->∀ x:Int×Int,Ans (fun _=>True) (br r1 (some x) (br (decide (r3.1<=r3.2.2.2.2.2.2.2.2.length)&&true) (br ((xit r3.2.1 r3.2.2.1 r3.2.2.2.1 r3.2.2.2.2.1 r3.2.2.2.2.2.1 r3.2.2.2.2.2.2.1 r3.2.2.2.2.2.2.2.1 (List.take r3.1 (List.drop 0 r3.2.2.2.2.2.2.2.2)) (kn.map encN)).isSome) (br (!((xit r3.2.1 r3.2.2.1 r3.2.2.2.1 r3.2.2.2.2.1 r3.2.2.2.2.2.1 r3.2.2.2.2.2.2.1 r3.2.2.2.2.2.2.2.1 (List.take r3.1 (List.drop 0 r3.2.2.2.2.2.2.2.2)) (kn.map encN)).getD ((0:Int),false)).2) (some ((0:Int),(7:Int))) (some (((xit r3.2.1 r3.2.2.1 r3.2.2.2.1 r3.2.2.2.2.1 r3.2.2.2.2.2.1 r3.2.2.2.2.2.2.1 r3.2.2.2.2.2.2.2.1 (List.take r3.1 (List.drop 0 r3.2.2.2.2.2.2.2.2)) (kn.map encN)).getD ((0:Int),false)).1,(0:Int)))) none) none)):=fun r1 hr h2 x=>by
    cases r1 with
    | true=>exact Ans.some trivial
    | false =>
     obtain ⟨ks,q,rfl⟩:=hr rfl;obtain ⟨y,ye,_⟩:=xGq op i vk vi vt nm args ks kn (by omega) h2 (fun ho=>by rw [q];exact fq rfl ho)
     have tt:List.take ks.length (ks.map encN)=ks.map encN:=zi (by simp)
     simp only [xac,za,zd,zn,zS,xab,zr,tt,ye,zk,zh,sUF];repeat' (first|exact Ans.some trivial|refine Ans.br (fun _=>?_) (fun _=>?_))
   simp only [Bool.not_true,xac,zH,sUF];refine Ans.br (fun _=>Ans.some trivial) (fun _=>Ans.br (fun ho=>?_) (fun ho=>?_))
   . refine Ans.br (fun _=>Ans.some trivial) (fun a1=>Ans.br (fun _=>Ans.some trivial) (fun a2=>?_))
     simp only [decide_eq_false_iff_not] at a1 a2;exact J r1 hq (fun _=>⟨by omega,by omega⟩) _
   . exact J r1 hq (fun h=>by simp [h] at ho) _
theorem xFN (kn:List Int) (op i vk vi:Int) (vt nm:List UInt8) (args:List AV) (hl:args.length<=16777216) (ht:vt.length<=16777216) (h:∀ x,x∈args->IsEx x):Ans (fun _=>True) (xtP op i vk vi vt nm args (kn.map encN)):=by
 obtain ⟨d,de,_⟩:=xAO (AV.dps args+1) op i vk vi vt nm args hl h (Nat.lt_succ_self _);obtain ⟨c,ce,_⟩:=xAH kn (AV.dps args+1) op i vk vi vt nm args hl ht h (Nat.lt_succ_self _);have h1:(xjM op i vk vi vt nm args).isSome=true:=xwP (R:=fun n=>xdH n op i vk vi vt nm args) (by rw [de];rfl)
 have h2:(xhe op i vk vi vt nm args (kn.map encN)).isSome=true:=xwP (R:=fun n=>xdG n op i vk vi vt nm args (kn.map encN)) (by rw [ce];rfl)
 unfold xtP xq4;rw [h1,h2];simp only [xab,sUF];repeat' (first|exact Ans.some trivial|refine Ans.br (fun _=>?_) (fun _=>?_))
def xOh:AV->Bool
 | .str _=>true
 | _=>false
theorem xFx {x:AV} (h:xOh x=true):∃ s,x=.str s:=by
 cases x<;>first|exact ⟨_,rfl⟩|(simp [xOh] at h)
theorem xOF (s:List UInt8):xOI .str ((AV.str s).cells.getD 0 .top)=true:=rfl
theorem cStr (s:List UInt8):((AV.str s).cells.getD 0 .top).toStr=s:=rfl
theorem xMp (l:List AV) (s:List UInt8) (hl:l.length<=16777216) (h:l.all xOh=true):Ans (fun _=>True) (xyJ l s):=by
 obtain ⟨r,e,_⟩:=xbZ (step:=xdL l s) (fun k i=>i=(k:Int)) l.length (fun _=>True) (fun k i hk hi=>by
  subst hi;have h1:(k:Int)<(l.length:Int):=by omega
  obtain ⟨x,hx⟩:=xFx (zI.1 h l[k] (zo hk));have gf:l.getD k .top=.str x:=by rw [z7,ze hk,<-hx];rfl
  simp only [xdL,xmq,sBU,h1,hk,gf,xOF,cStr,xNG (n:=k) (by omega)]
  repeat' (first|exact Stp.inl rfl|exact Stp.inr trivial|refine Stp.br (fun _=>?_) (fun _=>?_))) (fun i hi=>by
  subst hi;simp only [xdL,xmq,zy,zm,xac,sUF];exact Stp.inr trivial) l.length 0 (0:Int) (by omega) rfl
 unfold xyJ xuW;simp only [e,zk,zh,xab,sUF];repeat' (first|exact Ans.some trivial|refine Ans.br (fun _=>?_) (fun _=>?_))
theorem xyv (s:List UInt8) (hs:s.length<=16777216):Ans (fun _=>True) (xhw s):=by
 obtain ⟨r,e,_⟩:=xbZ (step:=xcD s) (fun k i=>i=(k:Int)) s.length (fun _=>True) (fun k i hk hi=>by
  subst hi;have h1:(k:Int)<(s.length:Int):=by omega
  simp only [xcD,xko,xh6,xh7,sBU,h1,hk,xNG (n:=k) (by omega)]
  repeat' (first|exact Stp.inl rfl|exact Stp.inr trivial|refine Stp.br (fun _=>?_) (fun _=>?_))) (fun i hi=>by
  subst hi;simp only [xcD,xko,xh6,xh7,zy,zm,xac,sUF];exact Stp.inr trivial) s.length 0 (0:Int) (by omega) rfl
 obtain ⟨r2,e2,_⟩:Ans (fun _=>True) (xrc s):=xMp _ s (by decide) (by rfl)
 unfold xhw xsA xpJ;simp only [e,e2,zk,zh,xab,sUF];cases s with
 | nil=>exact Ans.some trivial
 | cons c t =>
  have h0:(0:Int)<(((c::t).length:Nat):Int):=by rw [zF];omega
  simp only [h0,zn,xab,sUF];repeat' (first|exact Ans.some trivial|refine Ans.br (fun _=>?_) (fun _=>?_))
theorem xC1 (t:Tab) (hc:t.cols.length<=16777216):xhV t.n (t.cols.map xNF) (t.key.map encN) (t.fos.map xNH) t.chk=some ((t.cols.map (·.k)).map encN):=by
 have e:=xiW (step:=xdz) t.cols (fun c=>[c.k]) (fun n D=>(D.length,(n:Int),t.n,t.cols.map xNF,t.key.map encN,t.fos.map xNH,t.chk,D.map encN)) (fun D=>(D.length,D.map encN)) [] 1 (fun _ _=>by simp) (fun n h D hD=>by
  have h1:(n:Int)<(t.cols.length:Int):=by omega
  rw [List.length_nil] at hD;have m1:(D.length+1)*8<=140737488355328:=by omega
  have m2:D.length+1<=4611686018427387904:=by omega
  have gf:(t.cols.map xNF).getD n .top=xNF t.cols[n]:=xaa _ _ _ h;simp only [xdz,xje,sBU,h,h1,gf,cK1,shI,AV.toInt,m1,m2,xNG (n:=n) (by omega)]
  simp [encN]) (fun D=>by
  simp only [xdz,xje,za,zy,zm,xac,sUF])
 rw [zU,xN3] at e;have e:Iter xdz ((0:Nat),(0:Int),t.n,t.cols.map xNF,t.key.map encN,t.fos.map xNH,t.chk,[])=some ((t.cols.map (·.k)).length,(t.cols.map (·.k)).map encN):=e;have tt:List.take (t.cols.map (·.k)).length ((t.cols.map (·.k)).map encN)=(t.cols.map (·.k)).map encN:=zi (by simp)
 unfold xhV xrb;simp only [xpF,xpG,xpH,xpI,e,zk,zh,xab,zH,zr,sUF];rw [tt];simp [xab,sUF]
theorem xJd (t:Tab) (s:List UInt8) (hc:t.cols.length<=16777216):Ans (fun _=>True) (xrP t.n (t.cols.map xNF) (t.key.map encN) (t.fos.map xNH) t.chk s):=by
 obtain ⟨r,e,_⟩:=xbZ (step:=xdY s) (fun k x=>x=((k:Int),t.n,t.cols.map xNF,t.key.map encN,t.fos.map xNH,t.chk)) t.cols.length (fun _=>True) (fun k i hk hi=>by
  subst hi;have h1:(k:Int)<(t.cols.length:Int):=by omega
  have gf:(t.cols.map xNF).getD k .top=xNF t.cols[k]:=xaa _ _ _ hk;simp only [xdY,xkn,sBU,h1,hk,gf,cK0,shS,AV.toStr,xNG (n:=k) (by omega)]
  repeat' (first|exact Stp.inl rfl|exact Stp.inr trivial|refine Stp.br (fun _=>?_) (fun _=>?_))) (fun i hi=>by
  subst hi;simp only [xdY,xkn,za,zy,zm,xac,sUF];exact Stp.inr trivial) t.cols.length 0 _ (by omega) rfl
 have e:Iter (xdY s) ((0:Int),t.n,t.cols.map xNF,t.key.map encN,t.fos.map xNH,t.chk)=some r:=e;unfold xrP xsy;simp only [xq9,xra,e,zk,zh,xab,sUF];repeat' (first|exact Ans.some trivial|refine Ans.br (fun _=>?_) (fun _=>?_))
structure Tab.Ok (t:Tab):Prop where
 n:t.n.length<=16777216
 cols:t.cols.length<=16777216
 key:t.key.length<=1048576
 fos:t.fos.length<=16777216
 chk:t.chk.length<=16777216
 cn:∀ c,c∈t.cols->c.n.length<=16777216
 fc:∀ f,f∈t.fos->f.cols.length<=1048576/\f.t.length<=16777216
 ex:∀ x,x∈t.chk->IsEx x
theorem xD6 (t:Tab) (h:t.Ok):Ans (fun _=>True) (xhf t.n (t.cols.map xNF) (t.key.map encN) (t.fos.map xNH) t.chk):=by
 have q:=h.cols;obtain ⟨r,e,_⟩:=xbZ (step:=xcl) (fun k x=>x=((k:Int),t.n,t.cols.map xNF,t.key.map encN,t.fos.map xNH,t.chk)) t.cols.length (fun _=>True) (fun k i hk hi=>by
  subst hi;have h1:(k:Int)<(t.cols.length:Int):=by omega
  have gf:(t.cols.map xNF).getD k .top=xNF t.cols[k]:=xaa _ _ _ hk;obtain ⟨a,ae,_⟩:=xyv t.cols[k].n (h.cn _ (zo hk));obtain ⟨b,be,_⟩:=xJd t t.cols[k].n h.cols;simp only [xcl,xhy,sBU,h1,hk,gf,cK0,cK1,lK,sK,AV.toStr,AV.toInt,ae,be,xNG (n:=k) (by omega)]
  repeat' (first|exact Stp.inl rfl|exact Stp.inr trivial|refine Stp.br (fun _=>?_) (fun _=>?_))) (fun i hi=>by
  subst hi;simp only [xcl,xhy,za,zy,zm,xac,sUF];exact Stp.inr trivial) t.cols.length 0 _ (by omega) rfl
 have e:Iter xcl ((0:Int),t.n,t.cols.map xNF,t.key.map encN,t.fos.map xNH,t.chk)=some r:=e;unfold xhf xoj;simp only [xmU,xmV,e,zk,zh,xab,sUF];repeat' (first|exact Ans.some trivial|refine Ans.br (fun _=>?_) (fun _=>?_))
def InC (t:Tab) (x:Int):Prop:=0<=x/\x<(t.cols.length:Int)
theorem xqm (t:Tab) (x:Int):xkV t.n (t.cols.map xNF) (t.key.map encN) (t.fos.map xNH) t.chk x=(decide (0<=x)&&decide (x<(t.cols.length:Int))):=by
 unfold xkV;rw [za];by_cases h:0<=x
 . have:x>=0:=h;simp [br,h,this]
 . have:¬ x>=0:=h;simp [br,h,this]
theorem xAS {t:Tab} {x:Int} (h:(decide (0<=x)&&decide (x<(t.cols.length:Int)))=true):InC t x:=by
 simp only [zf,zl] at h;exact h
theorem xKG (t:Tab) (h:t.Ok):Ans (fun c=>c=0->∀ x,x∈t.key->InC t x) (xqA t.n (t.cols.map xNF) (t.key.map encN) (t.fos.map xNH) t.chk):=by
 have U:=h.key;obtain ⟨r,e,hr⟩:=xbZ (step:=xb8) (fun k x=>x=((k:Int),t.n,t.cols.map xNF,t.key.map encN,t.fos.map xNH,t.chk)/\∀ j (hj:j<t.key.length),j<k->InC t t.key[j]) t.key.length (fun r=>(r.1=true->r.2.1≠0)/\(r.1=false->∀ x,x∈t.key->InC t x)) (fun k i hk hi=>by
  obtain ⟨rfl,hp⟩:=hi;have h1:(k:Int)<(t.key.length:Int):=by omega
  have gf:(t.key.map encN).getD k .top=encN t.key[k]:=xaa _ _ _ hk;cases hx:(decide (0<=t.key[k])&&decide (t.key[k]<(t.cols.length:Int))) with
  | false =>
   simp only [xb8,xgJ,xeY,xfG,xfH,xbP,sBU,h1,hk,gf,cN,sN,xqm,hx];exact Stp.inr ⟨fun _=>by simp,fun h=>by simp at h⟩
  | true =>
   have q:=xAS hx;have c:t.key[k].toNat<t.cols.length:=by have:=q.1;have:=q.2;omega
   have gc:(t.cols.map xNF).getD t.key[k].toNat .top=xNF t.cols[t.key[k].toNat]:=xaa _ _ _ c;have hp':∀ j (hj:j<t.key.length),j<k+1->InC t t.key[j]:=fun j hj Q=>by
    rcases zJ j k with J|O
    . exact hp j hj J
    . obtain rfl:j=k:=by omega
      exact q
   cases k with
   | zero =>
    have i0:¬ ((0:Nat):Int)>0:=by omega
    simp only [xb8,xgJ,xeY,xfG,xfH,xbP,sBU,h1,hk,gf,cN,sN,xqm,hx,i0,q.1,q.2,c,gc,cK2,shB,AV.toBool,xNG (n:=0) (by omega)]
    exact Stp.br (fun _=>Stp.inr ⟨fun _=>by simp,fun h=>by simp at h⟩) (fun _=>Stp.inl ⟨rfl,hp'⟩)
   | succ m =>
    have i0:((m+1:Nat):Int)>0:=by omega
    have w:IntKind.i64.wrap (((m+1:Nat):Int) - 1)=(m:Int):=by rw [xdP (by omega) (by omega)];omega
    have h3:(m:Int)<(t.key.length:Int):=by omega
    have h4:m<t.key.length:=by omega
    have gm:(t.key.map encN).getD m .top=encN t.key[m]:=xaa _ _ _ h4;simp only [xb8,xgJ,xeY,xfG,xfH,xbP,sBU,h1,hk,gf,cN,sN,xqm,hx,i0,w,h3,h4,gm,q.1,q.2,c,gc,cK2,shB,AV.toBool,xNG (n:=m+1) (by omega)]
    exact Stp.br (fun _=>Stp.inr ⟨fun _=>by simp,fun h=>by simp at h⟩) (fun _=>Stp.br (fun _=>Stp.inr ⟨fun _=>by simp,fun h=>by simp at h⟩) (fun _=>Stp.inl ⟨rfl,hp'⟩))) (fun i hi=>by
  obtain ⟨rfl,hp⟩:=hi;simp only [xb8,xgJ,xeY,za,zy,zm,xac,sUF];refine Stp.inr ⟨fun h=>by simp at h,fun _ x hx=>?_⟩
  obtain ⟨j,hj,rfl⟩:=List.getElem_of_mem hx;exact hp j hj hj) t.key.length 0 _ (by omega) ⟨rfl,fun j _ h=>absurd h (Nat.not_lt_zero _)⟩
 have e:Iter xb8 ((0:Int),t.n,t.cols.map xNF,t.key.map encN,t.fos.map xNH,t.chk)=some r:=e;unfold xqA xtT;simp only [xsB,xsC,e,zk,zh,xab,sUF];exact Ans.br (fun _=>Ans.some fun h=>by simp at h) (fun _=>Ans.br (fun h1=>Ans.some fun h=>absurd h (hr.1 h1)) (fun h1=>Ans.some fun _=>hr.2 h1))
theorem xEc (t:Tab) (h:t.Ok) (f:Fo) (hf:f.cols.length<=1048576/\f.t.length<=16777216):Ans (fun c=>c=0->∀ x,x∈f.cols->InC t x) (xjN t.n (t.cols.map xNF) (t.key.map encN) (t.fos.map xNH) t.chk (f.cols.map encN) f.t):=by
 have Q:=hf.1;obtain ⟨a,ae,_⟩:=xyv f.t hf.2;obtain ⟨r,e,hr⟩:=xbZ (step:=xbJ) (fun k x=>x=((k:Int),t.n,t.cols.map xNF,t.key.map encN,t.fos.map xNH,t.chk,f.cols.map encN,f.t)/\∀ j (hj:j<f.cols.length),j<k->InC t f.cols[j]) f.cols.length (fun r=>(r.1=true->r.2.1≠0)/\(r.1=false->∀ x,x∈f.cols->InC t x)) (fun k i hk hi=>by
  obtain ⟨rfl,hp⟩:=hi;have h1:(k:Int)<(f.cols.length:Int):=by omega
  have gf:(f.cols.map encN).getD k .top=encN f.cols[k]:=xaa _ _ _ hk;cases hx:(decide (0<=f.cols[k])&&decide (f.cols[k]<(t.cols.length:Int))) with
  | false =>
   simp only [xbJ,xft,sBU,h1,hk,gf,cN,sN,xqm,hx];exact Stp.inr ⟨fun _=>by simp,fun h=>by simp at h⟩
  | true =>
   have O:=xAS hx;have hp':∀ j (hj:j<f.cols.length),j<k+1->InC t f.cols[j]:=fun j hj W=>by
    rcases zJ j k with J|U
    . exact hp j hj J
    . obtain rfl:j=k:=by omega
      exact O
   obtain ⟨⟨b,q1,q2⟩,e1,q⟩:=xbZ (step:=xcm (k:Int)) (fun m x=>x=((m:Int),t.n,t.cols.map xNF,t.key.map encN,t.fos.map xNH,t.chk,f.cols.map encN,f.t)) k (fun r=>(r.1=true->r.2.1.1≠0)/\(r.1=false->r.2.2=(t.n,t.cols.map xNF,t.key.map encN,t.fos.map xNH,t.chk,f.cols.map encN,f.t))) (fun m i hm hi=>by
    subst hi;have m1:(m:Int)<(k:Int):=by omega
    have m2:(m:Int)<(f.cols.length:Int):=by omega
    have m3:m<f.cols.length:=by omega
    have gm:(f.cols.map encN).getD m .top=encN f.cols[m]:=xaa _ _ _ m3;simp only [xcm,xhz,sBU,m1,m2,m3,h1,hk,gf,gm,cN,sN,xNG (n:=m) (by omega)]
    exact Stp.br (fun _=>Stp.inr ⟨fun _=>by simp,fun h=>by simp at h⟩) (fun _=>Stp.inl rfl)) (fun i hi=>by
    subst hi;simp only [xcm,xhz,zy,zm,xac,sUF];exact Stp.inr ⟨fun h=>by simp at h,fun _=>rfl⟩) k 0 _ (by omega) rfl
   have e1:Iter (xcm (k:Int)) ((0:Int),t.n,t.cols.map xNF,t.key.map encN,t.fos.map xNH,t.chk,f.cols.map encN,f.t)=_:=e1;simp only [xbJ,xft,xj1,xj2,xj3,xj4,xj5,xj6,xj7,xj8,xj9,sBU,h1,hk,gf,cN,sN,xqm,hx,e1,xNG (n:=k) (by omega)]
   refine Stp.br (fun hb=>Stp.inr ⟨fun _=>q.1 hb,fun h=>by simp at h⟩) (fun hb=>?_)
   have:=q.2 hb;dsimp only at this;subst this;exact Stp.inl ⟨rfl,hp'⟩) (fun i hi=>by
  obtain ⟨rfl,hp⟩:=hi;simp only [xbJ,xft,za,zy,zm,xac,sUF];refine Stp.inr ⟨fun h=>by simp at h,fun _ x hx=>?_⟩
  obtain ⟨j,hj,rfl⟩:=List.getElem_of_mem hx;exact hp j hj hj) f.cols.length 0 _ (by omega) ⟨rfl,fun j _ h=>absurd h (Nat.not_lt_zero _)⟩
 have e:Iter xbJ ((0:Int),t.n,t.cols.map xNF,t.key.map encN,t.fos.map xNH,t.chk,f.cols.map encN,f.t)=some r:=e;unfold xjN xok;simp only [xmW,xmX,ae,e,zk,zh,xab,sUF];exact Ans.br (fun _=>Ans.some fun h=>by simp at h) (fun _=>Ans.br (fun _=>Ans.some fun h=>by simp at h) (fun _=>Ans.br (fun h1=>Ans.some fun h=>absurd h (hr.1 h1)) (fun h1=>Ans.some fun _=>hr.2 h1)))
theorem xy2 (t:Tab) (h:t.Ok):Ans (fun c=>c=0->∀ f,f∈t.fos->∀ x,x∈f.cols->InC t x) (xek t.n (t.cols.map xNF) (t.key.map encN) (t.fos.map xNH) t.chk):=by
 have ac:=h.fos;have ab:=h.chk;obtain ⟨⟨b,q1,q2⟩,e,hr⟩:=xbZ (step:=xbw) (fun k x=>x=((k:Int),t.n,t.cols.map xNF,t.key.map encN,t.fos.map xNH,t.chk)/\∀ j (hj:j<t.fos.length),j<k->∀ x,x∈t.fos[j].cols->InC t x) t.fos.length (fun r=>(r.1=true->r.2.1.1≠0)/\(r.1=false->r.2.2=(t.n,t.cols.map xNF,t.key.map encN,t.fos.map xNH,t.chk)/\∀ f,f∈t.fos->∀ x,x∈f.cols->InC t x)) (fun k i hk hi=>by
  obtain ⟨rfl,hp⟩:=hi;have h1:(k:Int)<(t.fos.length:Int):=by omega
  have gf:(t.fos.map xNH).getD k .top=xNH t.fos[k]:=xaa _ _ _ hk;obtain ⟨c,ce,hc⟩:=xEc t h t.fos[k] (h.fc _ (zo hk));simp only [xbw,xe7,sBU,h1,hk,gf,cFo0,cFo1,lFo,sFo,AV.toList,AV.toStr,ce,xNG (n:=k) (by omega)]
  refine Stp.br (fun hb=>Stp.inr ⟨fun _=>by simpa using hb,fun h=>by simp at h⟩) (fun hb=>Stp.inl ⟨rfl,fun j hj ae=>?_⟩)
  rcases zJ j k with U|ad
  . exact hp j hj U
  . obtain rfl:j=k:=by omega
    exact hc (by simpa using hb)) (fun i hi=>by
  obtain ⟨rfl,hp⟩:=hi;simp only [xbw,xe7,za,zy,zm,xac,sUF];refine Stp.inr ⟨fun h=>by simp at h,fun _=>⟨rfl,fun f hf=>?_⟩⟩
  obtain ⟨j,hj,rfl⟩:=List.getElem_of_mem hf;exact hp j hj hj) t.fos.length 0 _ (by omega) ⟨rfl,fun j _ h=>absurd h (Nat.not_lt_zero _)⟩
 have e:Iter xbw ((0:Int),t.n,t.cols.map xNF,t.key.map encN,t.fos.map xNH,t.chk)=_:=e;have Q:=xC1 t h.cols;obtain ⟨r1,e1,O⟩:=xbZ (step:=xby) (fun k x=>x=((k:Int),t.n,t.cols.map xNF,t.key.map encN,t.fos.map xNH,t.chk)) t.chk.length (fun r=>r.1=true->r.2.1≠0) (fun k i hk hi=>by
  subst hi;have h1:(k:Int)<(t.chk.length:Int):=by omega
  have gf:t.chk.getD k .top=t.chk[k]:=by rw [z7,ze hk];rfl
  obtain ⟨W,i',J,Z,Y,aa,ar,ex,l',t',h'⟩:=(h.ex _ (zo hk)).get;rw [ex] at gf;obtain ⟨⟨c1,c2⟩,ce,_⟩:=xFN (t.cols.map (·.k)) W i' J Z Y aa ar l' t' h';simp only [xby,xe8,xg5,xg6,xg7,xg8,sBU,h1,hk,gf,xOg,shE,cE0,cE1,cE2,cE3,cE4,cE5,cE6,lE,toIE,toSE,toLE,Q,ce,xNG (n:=k) (by omega)]
  exact Stp.br (fun hb=>Stp.inr fun _=>by simpa using hb) (fun _=>Stp.br (fun _=>Stp.br (fun _=>Stp.inr fun _=>by simp) (fun _=>Stp.inl rfl)) (fun _=>Stp.inl rfl))) (fun i hi=>by
  subst hi;simp only [xby,xe8,zy,zm,xac,sUF];exact Stp.inr fun h=>by simp at h) t.chk.length 0 _ (by omega) rfl
 have e1:Iter xby ((0:Int),t.n,t.cols.map xNF,t.key.map encN,t.fos.map xNH,t.chk)=_:=e1;unfold xek xj0;simp only [xjf,xjg,xjh,xji,xjj,xjk,xjl,xjm,xjn,xjo,e,zk,zh,xab,sUF];refine Ans.br (fun _=>Ans.some fun h=>by simp at h) (fun _=>Ans.br (fun h1=>Ans.some fun h=>absurd h (hr.1 h1)) (fun h1=>?_))
 obtain ⟨q,hq⟩:=hr.2 h1;dsimp only at q;subst q;simp only [e1,zk,zh,xab,sUF];exact Ans.br (fun _=>Ans.some fun h=>by simp at h) (fun _=>Ans.br (fun h1=>Ans.some fun h=>absurd h (O h1)) (fun _=>Ans.some fun _=>hq))
theorem xGD (t:Tab) (h:t.Ok):Ans (fun c=>c=0->(∀ x,x∈t.key->InC t x)/\∀ f,f∈t.fos->∀ x,x∈f.cols->InC t x) (xqe t.n (t.cols.map xNF) (t.key.map encN) (t.fos.map xNH) t.chk):=by
 obtain ⟨a,ae,_⟩:=xyv t.n h.n;obtain ⟨b,be,_⟩:=xD6 t h;obtain ⟨c,ce,hc⟩:=xKG t h;obtain ⟨d,de,hd⟩:=xy2 t h;unfold xqe xq8;simp only [ae,be,ce,de,zk,zh,xab,sUF];cases a with
 | false=>exact Ans.some fun h=>by simp at h
 | true =>
  simp only [Bool.not_true,xac,sUF];refine Ans.br (fun _=>Ans.br (fun h2=>Ans.some fun h=>⟨hc (by simpa using h2),hd h⟩) (fun h2=>Ans.some fun h=>by simp [h] at h2)) (fun h1=>?_)
  simp only [h1,xac,sUF];exact Ans.some fun h=>by simp [h] at h1
theorem xEy (row:Row) (kn:List Int) (hr:row.length<=1048576) (ht:Txt row):Ans (fun b=>b=true->row.length=kn.length) (xrN (row.map encV) (kn.map encN)):=by
 unfold xrN xsk;by_cases hl:row.length=kn.length
 . obtain ⟨r,e,_⟩:=xbZ (step:=xcv (row.map encV) (kn.map encN)) (fun k i=>i=(k:Int)) row.length (fun _=>True) (fun k i hk hi=>by
    subst hi;have h1:(k:Int)<(row.length:Int):=by omega
    have h2:(k:Int)<(kn.length:Int):=by omega
    have h3:k<kn.length:=by omega
    have gf:(row.map encV).getD k .top=encV row[k]:=xaa _ _ _ hk;have gn:(kn.map encN).getD k .top=encN kn[k]:=xaa _ _ _ h3;have hv:=(ht _ (zo hk)).2;obtain ⟨v,ve,_⟩:=xzX row[k].k row[k].i row[k].t (by omega)
    have q:xOI (Sh.int .i64) ((encV row[k]).cells.getD 0 .top)=true:=rfl;simp only [xcv,xkj,xi8,xmS,sBU,h1,h2,h3,hk,gf,gn,cV0,cV1,cV2,lV,sV,q,cN,sN,ve,xNG (n:=k) (by omega)]
    repeat' (first|exact Stp.inl rfl|exact Stp.inr trivial|refine Stp.br (fun _=>?_) (fun _=>?_))) (fun i hi=>by
    subst hi;simp only [xcv,xkj,za,zy,zm,xac,sUF];exact Stp.inr trivial) row.length 0 (0:Int) (by omega) rfl
   simp only [e,zk,zh,xab,sUF];repeat' (first|exact Ans.some fun _=>hl|refine Ans.br (fun _=>?_) (fun _=>?_))
 . have hb:(((row.length:Nat):Int) != ((kn.length:Nat):Int))=true:=by
    rw [bne_iff_ne];omega
   simp only [za,hb,xab,sUF];exact Ans.some fun h=>by simp at h
theorem xGs (kn:List Int) (hk:kn.length<=16777216):Ans (fun _=>True) (xtU (kn.map encN)):=by
 obtain ⟨r,e,_⟩:=xbZ (step:=xcd (kn.map encN)) (fun k i=>i=(k:Int)) kn.length (fun _=>True) (fun k i q hi=>by
  subst hi;have h1:(k:Int)<(kn.length:Int):=by omega
  have gf:(kn.map encN).getD k .top=encN kn[k]:=xaa _ _ _ q;simp only [xcd,xjp,sBU,h1,q,gf,cN,sN,xNG (n:=k) (by omega)]
  repeat' (first|exact Stp.inl rfl|exact Stp.inr trivial|refine Stp.br (fun _=>?_) (fun _=>?_))) (fun i hi=>by
  subst hi;simp only [xcd,xjp,za,zy,zm,xac,sUF];exact Stp.inr trivial) kn.length 0 (0:Int) (by omega) rfl
 unfold xtU xrd;simp only [e,zk,zh,xab,sUF];repeat' (first|exact Ans.some trivial|refine Ans.br (fun _=>?_) (fun _=>?_))
structure FOk (l:List Fc):Prop where
 len:l.length<=1048576
 row:∀ f,f∈l->f.r.length<=1048576
 txt:∀ f,f∈l->Txt f.r
def Rows (n:Nat) (l:List Fc):Prop:=∀ f,f∈l->pv f.p=true/\f.r.length=n
theorem xIy (kn:List Int) (hk:kn.length<=16777216) (l:List Fc) (h:FOk l):Ans (fun b=>b=true->Rows kn.length l) (xqf (kn.map encN) (l.map encF)):=by
 have hl:=h.len;obtain ⟨⟨b,q1,q2⟩,e,O,J⟩:=xbZ (step:=xce) (fun k x=>x=((k:Int),kn.map encN,l.map encF)/\Rows kn.length (l.take k)) l.length (fun r=>(r.1=false->r.2.2=(kn.map encN,l.map encF)/\Rows kn.length l)/\(r.1=true->r.2.1.1=false)) (fun k i q hi=>by
  obtain ⟨rfl,hi⟩:=hi;have h1:(k:Int)<(l.length:Int):=by omega
  have gf:(l.map encF).getD k .top=encF l[k]:=xaa _ _ _ q;obtain ⟨v,ve,hv⟩:=xEy l[k].r kn (h.row _ (zo q)) (h.txt _ (zo q));simp only [xce,xjq,sBU,h1,q,gf,cF0,cF1,cF2,sF0,sF1,sF2,lF,sF12,sF02,ve,xqH,xNG (n:=k) (by omega)]
  refine Stp.br (fun _=>Stp.inr (by simp)) (fun c1=>Stp.br (fun _=>Stp.inr (by simp)) (fun c2=>Stp.inl ⟨rfl,fun f hf=>?_⟩))
  rw [List.take_add_one,ze q] at hf;rcases zG.1 hf with hf|hf
  . exact hi f hf
  . simp only [Option.toList_some,zv] at hf;subst hf;exact ⟨by simpa using c1,hv (by simpa using c2)⟩) (fun i hi=>by
  obtain ⟨rfl,hi⟩:=hi;rw [y4] at hi;simp only [xce,xjq,za,zy,zm,xac,sUF];exact Stp.inr ⟨fun _=>⟨rfl,hi⟩,fun h=>by simp at h⟩) l.length 0 _ (by omega) ⟨rfl,fun f hf=>by simp at hf⟩
 have e:Iter xce ((0:Int),kn.map encN,l.map encF)=_:=e;obtain ⟨c,ce,_⟩:=xGs kn hk;unfold xqf xri;simp only [xpM,xpN,xpO,xpP,xpQ,e,zk,zh,xab,sUF];refine Ans.br (fun hb=>Ans.some fun h=>?_) (fun hb=>?_)
 . rw [J hb] at h;simp at h
 . obtain ⟨h1,h2⟩:=O hb;dsimp only at h1;subst h1;simp only [ce,zk,zh,xab,sUF];repeat' (first|exact Ans.some fun _=>h2|refine Ans.br (fun _=>?_) (fun _=>?_))
theorem xD0 (t:Tab) (ht:t.Ok) (l:List Fc) (h:FOk l):Ans (fun b=>b=true->Rows t.cols.length l) (xmr t.n (t.cols.map xNF) (t.key.map encN) (t.fos.map xNH) t.chk (l.map encF)):=by
 obtain ⟨a,ae,ha⟩:=xGD t ht;have hk:=xC1 t ht.cols;obtain ⟨b,be,hb⟩:=xIy (t.cols.map (·.k)) (by rw [za];exact ht.cols) l h
 unfold xmr xoF;simp only [ae,hk,be,zk,zh,xab,sUF];exact Ans.br (fun h=>Ans.some fun h=>by have:=hb h;rwa [za] at this) (fun _=>Ans.some fun h=>by simp at h)
end Go.Sim.M
end
noncomputable section
set_option maxRecDepth 100000
namespace Go.Sim.M
open Go.RowKit Go.Sim.Srt
theorem xIt (A:List Per) (hA:A.length<=1048576):xuS (A.map encP) (A.map encP)=some true:=by
 have e:=xi6 (step:=xbS (A.map encP) (A.map encP)) (fun k=>(k:Int)) A.length (false,false,()) (fun k hk=>by
  have i1:(k:Int)<(A.length:Int):=by omega
  have gf:(A.map encP).getD k .top=encP A[k]:=xaa _ _ _ hk;simp only [xbS,xkf,sBU,hk,i1,gf,cP0,cP1,lP,sP,sP0,sP1,xNG (n:=k) (by omega)]) (by
  simp only [xbS,xkf,za,zy,zm,xac,sUF]) A.length 0 (by omega)
 have e:Iter (xbS (A.map encP) (A.map encP)) (0:Int)=_:=e;unfold xuS xsg;simp only [za,e,bne_self_eq_false,xac,zk,zh,xab,sUF]
theorem cVi0 (n:List UInt8) (f:Fc):(xNJ n f).cells.getD 0 .top=.int .i64 2:=rfl
theorem cVi1 (n:List UInt8) (f:Fc):(xNJ n f).cells.getD 1 .top=.str n:=rfl
theorem cVi2 (n:List UInt8) (f:Fc):(xNJ n f).cells.getD 2 .top=.int .i64 0:=rfl
theorem cVi3 (n:List UInt8) (f:Fc):(xNJ n f).cells.getD 3 .top=.list 3 (f.r.map encV):=rfl
theorem cVi4 (n:List UInt8) (f:Fc):(xNJ n f).cells.getD 4 .top=.int .i64 f.p.1:=rfl
theorem cVi5 (n:List UInt8) (f:Fc):(xNJ n f).cells.getD 5 .top=.int .i64 f.p.2:=rfl
theorem lVi (n:List UInt8) (f:Fc):((xNJ n f).cells.length==6)=true:=rfl
theorem sVi4 (n:List UInt8) (f:Fc):xOP [Sh.int .i64,Sh.int .i64] (xNJ n f).cells 4=true:=rfl
theorem toIv (n:Int):(AV.int .i64 n).toInt=n:=rfl
theorem toSv (n:List UInt8):(AV.str n).toStr=n:=rfl
theorem toLv (k:Nat) (n:List AV):(AV.list k n).toList=n:=rfl
theorem bneI (n:Int):(n != n)=false:=by simp
theorem xJS (n:List UInt8) (S:List Fc) (hl:S.length<=1048576*1048576) (hr:∀ f,f∈S->f.r.length<=maxLen):xgn (S.map (xNJ n)) (S.map (xNJ n))=some true:=by
 have e:Iter (xaK (S.map (xNJ n)) (S.map (xNJ n))) (0:Int)=some (false,false,()):=by
  refine xi6 (fun k=>(k:Int)) S.length _ (fun k hk=>?_) ?_ S.length 0 (by omega)
  . have h1:(k:Int)<(S.length:Int):=by omega
    have gf:(S.map (xNJ n)).getD k .top=xNJ n S[k]:=xaa _ _ _ hk;have hc:=xly S[k].r S[k].r (hr _ (zo hk));rw [xkw] at hc;simp only [xaK,xd4,xbc,xbd,sBU,hk,h1,gf,cVi0,cVi1,cVi2,cVi3,cVi4,cVi5,lVi,sVi4,shI,shS,shL,toIv,toSv,toLv,bneI,hc,xNG (n:=k) (by omega)]
  . simp only [xaK,xd4,za,zy,zm,xac,sUF]
 unfold xgn xhW;simp only [e,bneI,zk,zh,xab,xac,sUF]
theorem xJF (l:List Fc) (hl:l.length<=1048576):Ans (fun b=>b=true->l.length<=16/\∀ f,f∈l->f.r.length<=60) (xtj (l.map encF) 16):=by
 obtain ⟨r,e,hr⟩:=xbZ (step:=xdc (l.map encF)) (fun k i=>i=(k:Int)/\∀ j (hj:j<l.length),j<k->l[j].r.length<=60) l.length (fun r=>(r.1=true->r.2.1=false)/\(r.1=false->∀ f,f∈l->f.r.length<=60)) (fun k i hk hi=>by
  obtain ⟨rfl,hp⟩:=hi;have h1:(k:Int)<(l.length:Int):=by omega
  have gf:(l.map encF).getD k .top=encF l[k]:=xaa _ _ _ hk;simp only [xdc,xlu,sBU,h1,hk,gf,cF0,cF1,cF2,sF0,sF1,sF2,lF,sF12,sF02,xNG (n:=k) (by omega)]
  refine Stp.br (fun _=>Stp.inr ⟨fun _=>rfl,fun h=>by simp at h⟩) (fun hb=>Stp.inl ⟨rfl,fun j hj O=>?_⟩)
  rcases zJ j k with q|J
  . exact hp j hj q
  . obtain rfl:j=k:=by omega
    have hb:=of_decide_eq_false hb;omega) (fun i hi=>by
  obtain ⟨rfl,hp⟩:=hi;simp only [xdc,xlu,za,zy,zm,xac,sUF];refine Stp.inr ⟨fun h=>by simp at h,fun _ f hf=>?_⟩
  obtain ⟨j,hj,rfl⟩:=List.getElem_of_mem hf;exact hp j hj hj) l.length 0 (0:Int) (by omega) ⟨rfl,fun j _ h=>absurd h (Nat.not_lt_zero _)⟩
 unfold xtj xtV;simp only [e,zk,zh,xab,za,sUF];refine Ans.br (fun _=>Ans.some fun h=>by simp at h) (fun h=>?_)
 have h:=of_decide_eq_false h;exact Ans.br (fun h1=>Ans.some fun h2=>by rw [hr.1 h1] at h2;simp at h2) (fun h1=>Ans.some fun _=>⟨by omega,hr.2 h1⟩)
structure Bel (t:Tab) (l:List Fc):Prop where
 len:l.length<=16
 row:∀ f,f∈l->f.r.length<=60
 rows:Rows t.cols.length l
theorem xJj (t:Tab) (ht:t.Ok) (l:List Fc) (h:FOk l):Ans (fun b=>b=true->Bel t l) (xmi t.n (t.cols.map xNF) (t.key.map encN) (t.fos.map xNH) t.chk (l.map encF)):=by
 obtain ⟨a,ae,ha⟩:=xJF l h.len;obtain ⟨b,be,hb⟩:=xD0 t ht l h;unfold xmi xnT;simp only [ae,be,zk,zh,xab,sUF];refine Ans.br (fun _=>Ans.br (fun h1=>Ans.some fun h2=>?_) (fun _=>Ans.some fun h=>by simp at h)) (fun _=>Ans.some fun h=>by simp at h)
 obtain ⟨x1,x2⟩:=ha h1;exact ⟨x1,x2,hb h2⟩
theorem Bel.few {t:Tab} {l:List Fc} (h:Bel t l):Few l:=⟨by have:=h.len;omega,fun f hf=>by have:=h.row f hf;omega⟩
theorem Bel.tok {t:Tab} {l:List Fc} (h:Bel t l) (ht:t.Ok) (hf:FOk l):TOk t.key l:=⟨by have:=ht.key;omega,by have:=h.len;omega,hf.txt⟩
theorem FOk.tx {l:List Fc} (h:FOk l):Tx l:=fun f hf v hv=>⟨(h.txt f hf v hv).1,by have:=(h.txt f hf v hv).2;omega⟩
theorem Bel.bld {t:Tab} {l:List Fc} (h:Bel t l) (hf:FOk l):Bld l:=xIC (by have:=h.len;omega) h.row hf.tx (R20.few (by have:=h.len;omega))
end Go.Sim.M
end
noncomputable section
set_option maxRecDepth 10000
namespace Go.Sim
open Go.RowKit Go.Proofs Go.ChangeShapes Go.WideShapes Go.ChangeAt Go.Proofs.YtcekkkdjdfiipaaGreatDoor
theorem xAC:∀ {xs:List AV} {x:AV},x∈xs->AV.wt x<=AV.wts xs
 | y::xs,x,h=>by
  simp only [AV.wts];rcases zC.1 h with rfl|h
  . omega
  . have:=xAC h;omega
theorem xAB:∀ {xs:List AV},(∀ x,x∈xs->1<=AV.wt x)->xs.length<=AV.wts xs
 | [],_=>zQ _
 | y::xs,h=>by
  have a:=h y (by simp)
  have b:=xAB (xs:=xs) fun x hx=>h x (by simp [hx])
  simp only [AV.wts,zF];omega
theorem xjV {α:Type} {e:α->AV} (h:∀ a,1<=AV.wt (e a)) (l:List α):l.length<=AV.wts (l.map e):=by
 have:=xAB (xs:=l.map e) fun x hx=>by
  obtain ⟨a,_,rfl⟩:=zK.1 hx;exact h a
 rwa [za] at this
theorem xjW {α:Type} {e:α->AV} {l:List α} {a:α} (h:a∈l):AV.wt (e a)<=AV.wts (l.map e):=xAC (zK.2 ⟨a,h,rfl⟩)
theorem xII (v:M.Val):AV.wt (M.encV v)=1+(1+(v.t.length+1+0)):=rfl
theorem xDS (f:M.Fc):AV.wt (M.encF f)=AV.wts (f.r.map M.encV)+1+(1+(1+0)):=rfl
theorem xIG (c:M.Col):AV.wt (M.xNF c)=c.n.length+1+(1+(1+0)):=rfl
theorem xGH (f:M.Fo):AV.wt (M.xNH f)=AV.wts (f.cols.map M.encN)+1+(f.t.length+1+0):=rfl
theorem M.fok_wt {l:List M.Fc} (h:AV.wts (l.map M.encF)<=1048576) (hw:∀ y,y∈l->y.wf):M.FOk l:=by
 refine ⟨?_,fun f hf=>?_,fun f hf v hv=>⟨(hw f hf).1.2 v hv,?_⟩⟩
 . have:=xjV (e:=M.encF) (fun f=>by have:=xDS f;omega) l
   omega
 . have h1:=xjW (e:=M.encF) hf;have h2:=xDS f;have h3:=xjV (e:=M.encV) (fun f=>by have:=xII f;omega) f.r
   omega
 . have h1:=xjW (e:=M.encF) hf;have h2:=xDS f;have h3:=xjW (e:=M.encV) hv;have h4:=xII v;omega
def EX (xs:List AV):Prop:=∀ x,x∈xs->x.cells.length=7/\x=xPi x.cells/\∀ j,j<7->OfTy tyR (tyR.getD j .bool) (x.cells.getD j .top)
theorem xH1 {a:AV} (h:OfTy tyR .mu a):∃ xs,a=.list 7 xs/\EX xs:=by
 cases h with
 | mu xs h hl hx=>exact ⟨xs,rfl,fun x hm=>⟨(hl x hm).1,(hl x hm).2,fun j hj=>hx x j hm hj⟩⟩
theorem xJ8:∀ (n:Nat) (xs:List AV),AV.wts xs<n->n<=16777216->EX xs->xs.length<=AV.wts xs/\∀ x,x∈xs->M.IsEx x
 | 0,xs,h,_,_=>absurd h (Nat.not_lt_zero _)
 | n+1,xs,h,hn,hE=>by
  have key:∀ x,x∈xs->1<=AV.wt x/\M.IsEx x:=fun x hx=>by
   obtain ⟨h1,h2,h3⟩:=hE x hx;have hw:=xAC hx;generalize x.cells=cs at *;match cs,h1 with
   | [c0,c1,c2,c3,c4,c5,c6],_ =>
    have h0:=h3 0 (by decide)
    have h1:=h3 1 (by decide)
    have h2':=h3 2 (by decide)
    have h3':=h3 3 (by decide)
    have h4:=h3 4 (by decide)
    have h5:=h3 5 (by decide)
    have h6:=h3 6 (by decide)
    change OfTy tyR (.int .i64) c0 at h0;change OfTy tyR (.int .i64) c1 at h1;change OfTy tyR (.int .i64) c2 at h2';change OfTy tyR (.int .i64) c3 at h3';change OfTy tyR .str c4 at h4;change OfTy tyR .str c5 at h5;change OfTy tyR .mu c6 at h6;obtain ⟨ys,rfl,hy⟩:=xH1 h6;cases h0 with
    | int _ n0 _=>cases h1 with
     | int _ n1 _=>cases h2' with
      | int _ n2 _=>cases h3' with
       | int _ n3 _=>cases h4 with
        | str s4 _=>cases h5 with
         | str s5 _ =>
          have hx:x=.agg [.int .i64 n0,.int .i64 n1,.int .i64 n2,.int .i64 n3,.str s4,.str s5,.list 7 ys]:=h2;have wx:AV.wt x=1+(1+(1+(1+(s4.length+1+(s5.length+1+(AV.wts ys+1+0)))))):=by rw [hx];rfl
          obtain ⟨i1,i2⟩:=xJ8 n ys (by omega) (by omega) hy
          exact ⟨by omega,hx▸M.IsEx.mk n0 n1 n2 n3 s4 s5 ys (by omega) (by omega) i2⟩
  exact ⟨xAB fun x hx=>(key x hx).1,fun x hx=>(key x hx).2⟩
def tyCo:List Ty:=[.str,.int .i64,.bool]
def tyFo:List Ty:=[.slice [.int .i64],.str]
theorem xDP (x:AV) (hl:x.cells.length=[Ty.int .i64].length) (he:x=xPi x.cells) (hx:∀ j,j<[Ty.int .i64].length->OfTy tyR ([Ty.int .i64].getD j .bool) (x.cells.getD j .top)):∃ a,x=M.encN a/\I64 a:=by
 generalize x.cells=cs at *;match cs,hl with
 | [c0],_ =>
  have h0:=hx 0 (by decide)
  change OfTy tyR (.int .i64) c0 at h0;cases h0 with
  | int _ k hk=>exact ⟨k,he,hk⟩
theorem xJT (x:AV) (hl:x.cells.length=tyCo.length) (he:x=xPi x.cells) (hx:∀ j,j<tyCo.length->OfTy tyR (tyCo.getD j .bool) (x.cells.getD j .top)):∃ a,x=M.xNF a/\True:=by
 generalize x.cells=cs at *;match cs,hl with
 | [c0,c1,c2],_ =>
  have h0:=hx 0 (by decide)
  have h1:=hx 1 (by decide)
  have h2:=hx 2 (by decide)
  change OfTy tyR .str c0 at h0;change OfTy tyR (.int .i64) c1 at h1;change OfTy tyR .bool c2 at h2;cases h0 with
  | str s _=>cases h1 with
   | int _ k _=>cases h2 with
    | bool b=>exact ⟨⟨s,k,b⟩,he,trivial⟩
theorem xK8 (x:AV) (hl:x.cells.length=tyFo.length) (he:x=xPi x.cells) (hx:∀ j,j<tyFo.length->OfTy tyR (tyFo.getD j .bool) (x.cells.getD j .top)):∃ a,x=M.xNH a/\True:=by
 generalize x.cells=cs at *;match cs,hl with
 | [c0,c1],_ =>
  have h0:=hx 0 (by decide)
  have h1:=hx 1 (by decide)
  change OfTy tyR (.slice [.int .i64]) c0 at h0;change OfTy tyR .str c1 at h1;obtain ⟨l,rfl,_,_⟩:=xns (es:=[.int .i64]) xDP h0;cases h1 with
  | str s _=>exact ⟨⟨l,s⟩,he,trivial⟩
theorem M.tab_ok (t:M.Tab) (hb:AV.wts [.str t.n,.list 3 (t.cols.map M.xNF),.list 1 (t.key.map M.encN),.list 2 (t.fos.map M.xNH),.list 7 t.chk]<=1048576) (hx:EX t.chk):t.Ok:=by
 have hw:AV.wts [.str t.n,.list 3 (t.cols.map M.xNF),.list 1 (t.key.map M.encN),.list 2 (t.fos.map M.xNH),.list 7 t.chk]=t.n.length+1+(AV.wts (t.cols.map M.xNF)+1+(AV.wts (t.key.map M.encN)+1+(AV.wts (t.fos.map M.xNH)+1+(AV.wts t.chk+1+0)))):=rfl;obtain ⟨e1,e2⟩:=xJ8 (AV.wts t.chk+1) t.chk (Nat.lt_succ_self _) (by omega) hx
 refine ⟨by omega,?_,?_,?_,by omega,fun c hc=>?_,fun f hf=>⟨?_,?_⟩,e2⟩
 . have:=xjV (e:=M.xNF) (fun f=>by have:=xIG f;omega) t.cols
   omega
 . have:=xjV (e:=M.encN) (fun f=>zd 1) t.key
   omega
 . have:=xjV (e:=M.xNH) (fun f=>by have:=xGH f;omega) t.fos
   omega
 . have h1:=xjW (e:=M.xNF) hc;have h2:=xIG c;omega
 . have h1:=xjW (e:=M.xNH) hf;have h2:=xGH f;have h3:=xjV (e:=M.encN) (fun f=>zd 1) f.cols
   omega
 . have h1:=xjW (e:=M.xNH) hf;have h2:=xGH f;omega
def M.Tab.wf (t:M.Tab):Prop:=EX t.chk
theorem xJe:flat Tryz.prog muT 9 27=some [.str,.slice tyCo,.slice [.int .i64],.slice tyFo,.mu]:=by kernel_rfl
section
variable {H : Type} {enc : TypeId × Value -> H} {w : World} {base b : Nat} {sp : Nat -> Bool} {held : Bool} {v : Value} {d : DataW H} {ps : List MemPlace}
theorem xJq (q:Value.okWide Tryz.prog w .any base 27 v) (hd:DataW.Trod enc Tryz.prog w b sp held 27 v d ps):∃ x:M.Tab,Rel w (fun _=>False) xOX v (.agg [.str x.n,.list 3 (x.cols.map M.xNF),.list 1 (x.key.map M.encN),.list 2 (x.fos.map M.xNH),.list 7 x.chk])/\(∀ μ:DataW H->Nat,Meas μ->(AV.agg [.str x.n,.list 3 (x.cols.map M.xNF),.list 1 (x.key.map M.encN),.list 2 (x.fos.map M.xNH),.list 7 x.chk]).wt<=μ d)/\M.Tab.wf x:=by
 obtain ⟨cs,h,hl,hx,hB⟩:=xH5 recR Tryz.underlying27 xJe q hd;match cs,hl with
 | [k0,k1,k2,k3,k4],_ =>
  have h0:=hx 0 (by decide)
  have h1:=hx 1 (by decide)
  have h2:=hx 2 (by decide)
  have h3:=hx 3 (by decide)
  have h4:=hx 4 (by decide)
  change OfTy tyR .str k0 at h0;change OfTy tyR (.slice tyCo) k1 at h1;change OfTy tyR (.slice [.int .i64]) k2 at h2;change OfTy tyR (.slice tyFo) k3 at h3;change OfTy tyR .mu k4 at h4;obtain ⟨l1,rfl,_,_⟩:=xns (es:=tyCo) xJT h1;obtain ⟨l2,rfl,_,_⟩:=xns (es:=[.int .i64]) xDP h2;obtain ⟨l3,rfl,_,_⟩:=xns (es:=tyFo) xK8 h3;obtain ⟨l4,rfl,x4⟩:=xH1 h4;cases h0 with
  | str s0 _=>exact ⟨⟨s0,l1,l2,l3,l4⟩,h,fun μ hμ=>hB μ hμ,x4⟩
abbrev M.Look:=M.Row×Int
def M.Look.wf (x:M.Look):Prop:=∀ v,v∈x.1->M.Val.wf v
end
theorem M.tl_wt (t:M.Tab) (l:List M.Fc) (ht:t.wf) (hl:∀ y,y∈l->y.wf) {r:Nat} (hb:(AV.agg [.str t.n,.list 3 (t.cols.map M.xNF),.list 1 (t.key.map M.encN),.list 2 (t.fos.map M.xNH),.list 7 t.chk]).wt+(AV.list 3 (l.map M.encF)).wt+r<=1048576):t.Ok/\M.FOk l:=by
 have hs:(AV.agg [.str t.n,.list 3 (t.cols.map M.xNF),.list 1 (t.key.map M.encN),.list 2 (t.fos.map M.xNH),.list 7 t.chk]).wt=AV.wts [.str t.n,.list 3 (t.cols.map M.xNF),.list 1 (t.key.map M.encN),.list 2 (t.fos.map M.xNH),.list 7 t.chk]:=by simp only [AV.wt]
 have q:(AV.list 3 (l.map M.encF)).wt=AV.wts (l.map M.encF)+1:=by simp only [AV.wt]
 exact ⟨M.tab_ok t (by omega) ht,M.fok_wt (by omega) hl⟩
end Go.Sim
end
noncomputable section
set_option maxRecDepth 100000
namespace Go.Sim.M
open Go.RowKit Go.Sim.Srt
theorem xfY {a b:Int} (h:pv (a,b)=true) (t:Int):hasP (a,b) t=decide (a<=t/\t<b):=by
 rw [Bool.eq_iff_iff,xbs,zl];simp [h]
def rx:Row:=[⟨1,1,[]⟩,⟨2,0,[120]⟩]
def ry:Row:=[⟨1,1,[]⟩,⟨2,0,[121]⟩]
def kA:Row:=[⟨1,1,[]⟩]
def xN8:List Fc:=[⟨rx,(0,5)⟩,⟨ry,(5,9)⟩]
def badA:List Fc:=[⟨rx,(0,5)⟩,⟨ry,(4,9)⟩]
theorem p05:pv (0,5)=true:=by decide
theorem p59:pv (5,9)=true:=by decide
theorem p49:pv (4,9)=true:=by decide
theorem p45:pv (4,5)=true:=by decide
theorem p09:pv (0,9)=true:=by decide
theorem xzf:life [0] xN8 kA=[(0,5),(5,9)]:=by decide +kernel
theorem xA2:life [0] badA kA=[(0,5),(4,9)]:=by decide +kernel
theorem xAn:pick rx [0]=kA:=by decide +kernel
theorem xFe:pick ry [0]=kA:=by decide +kernel
theorem xH3:Once [0] xN8:=fun f hf t=>by
 have e:pick f.r [0]=kA:=by
  simp only [xN8,zC,List.not_mem_nil,or_false] at hf;rcases hf with rfl|rfl
  . exact xAn
  . exact xFe
 rw [e,xzf,List.countP_cons,List.countP_cons,List.countP_nil,xfY p05,xfY p59];by_cases h1:(0:Int)<=t/\t<5<;>by_cases h2:(5:Int)<=t/\t<9<;>simp [h1,h2];omega
theorem xJm:¬ Once [0] badA:=fun h=>by
 have:=h ⟨rx,(0,5)⟩ (by simp [badA]) 4
 rw [show pick (⟨rx,(0,5)⟩:Fc).r [0]=kA from xAn,xA2,List.countP_cons,List.countP_cons,List.countP_nil,xfY p05,xfY p49] at this
 simp at this
theorem xDH {p:Per} (h:pv p=true):IsSpan [p]:=⟨fun q hq=>by simp at hq;subst hq;exact h,List.pairwise_singleton _ _⟩
theorem xCE (t:Int):cntK [0] badA kA t=(if (0:Int)<=t/\t<5 then 1 else 0)+(if (4:Int)<=t/\t<9 then 1 else 0):=by
 unfold cntK;rw [xA2,List.countP_cons,List.countP_cons,List.countP_nil,xfY p05,xfY p49];simp;omega
theorem xKb:rx≠ry:=by decide +kernel
theorem xMk (t:Int):cnt badA rx t=if (0:Int)<=t/\t<5 then 1 else 0:=by
 unfold cnt badA;rw [List.countP_cons,List.countP_cons,List.countP_nil];dsimp only;rw [xfY p05];simp [xKb.symm]
theorem xMl (t:Int):cnt badA ry t=if (4:Int)<=t/\t<9 then 1 else 0:=by
 unfold cnt badA;rw [List.countP_cons,List.countP_cons,List.countP_nil];dsimp only;rw [xfY p49];simp [xKb]
def xOl:List Fc:=[⟨rx,(4,5)⟩,⟨ry,(4,5)⟩]
theorem xF0:IsViol [0] badA xOl:=by
 refine ⟨[rx,ry],fun _=>[(4,5)],⟨?_,fun r=>?_⟩,fun r hr=>⟨xDH p45,fun t=>?_⟩,rfl⟩
 . exact List.pairwise_pair.2 (by decide +kernel)
 . simp only [badA,zC,List.not_mem_nil,or_false];constructor
   . rintro (rfl|rfl)
     . exact ⟨_,.inl rfl,rfl,p05⟩
     . exact ⟨_,.inr rfl,rfl,p49⟩
   . rintro ⟨f,rfl|rfl,rfl,_⟩
     . exact .inl rfl
     . exact .inr rfl
 . rw [xwq,xfY p45];simp only [zC,List.not_mem_nil,or_false] at hr;rcases hr with rfl|rfl
   . rw [xAn,xMk,xCE,Bool.eq_iff_iff,zf,zl,zl,zl];by_cases h1:(0:Int)<=t/\t<5<;>by_cases h2:(4:Int)<=t/\t<9<;>simp [h1,h2]<;>omega
   . rw [xFe,xMl,xCE,Bool.eq_iff_iff,zf,zl,zl,zl];by_cases h1:(0:Int)<=t/\t<5<;>by_cases h2:(4:Int)<=t/\t<9<;>simp [h1,h2]<;>omega
theorem xMg:atL (xNY [0] badA kA) 4=[rx,ry]:=by decide +kernel
theorem xHI:xN5 (atL (xNY [0] badA kA) 4) (rx,true):=by
 rw [xMg];refine .inr ⟨rfl,by simp,fun y hy=>?_⟩
 simp only [zC,List.not_mem_nil,or_false] at hy;rcases hy with rfl|rfl
 . rw [xkw];omega
 . exact (by decide +kernel:cmpR rx ry<=0)
theorem xHX (t:Int):inL [(0,9)] t=inL (life [0] xN8 kA) t:=by
 rw [xzf,xwq,xi4,xwq,xfY p09,xfY p05,xfY p59,Bool.eq_iff_iff,Bool.or_eq_true,zl,zl,zl];omega
theorem xKd {s:List UInt8} (hs:s.length<=8):Txt [⟨1,1,[]⟩,⟨2,0,s⟩]:=fun v hv=>by
 simp only [zC,List.not_mem_nil,or_false] at hv;rcases hv with rfl|rfl
 . exact ⟨⟨by decide +kernel,by decide +kernel,by simp [maxLen]⟩,by simp⟩
 . exact ⟨⟨(by decide +kernel:(Lit.int .i64 2).wf=true),(by decide +kernel:(Lit.int .i64 0).wf=true),by simp only [maxLen];omega⟩,by dsimp only;omega⟩
theorem xFR (p q:Per):FOk [⟨rx,p⟩,⟨ry,q⟩]:=by
 refine ⟨by simp,fun f hf=>?_,fun f hf=>?_⟩<;>simp only [zC,List.not_mem_nil,or_false] at hf<;>rcases hf with rfl|rfl
 . simp [rx]
 . simp [ry]
 . exact xKd (s:=[120]) (by simp)
 . exact xKd (s:=[121]) (by simp)
theorem xGE (p q:Per):TOk [0] [⟨rx,p⟩,⟨ry,q⟩]:=⟨by simp,by simp,(xFR p q).txt⟩
theorem xNf (p q:Per):Few [⟨rx,p⟩,⟨ry,q⟩]:=⟨by simp,(xFR p q).row⟩
theorem xNe (p q:Per):Bld [⟨rx,p⟩,⟨ry,q⟩]:=xIC (by simp) (fun f hf=>by
 simp only [zC,List.not_mem_nil,or_false] at hf;rcases hf with rfl|rfl
 . simp [rx]
 . simp [ry]) (xFR p q).tx (R20.few (by simp))
def xN1:List AV:=[.agg [.str [97],.int .i64 1,.bool false],.agg [.str [98],.int .i64 2,.bool false]]
theorem xNc:xb5 [116] xN1 ([(0:Int)].map encN) [] [] (xN8.map encF)=some true:=by
 obtain ⟨b,e,h⟩:=xv0 (xGE (0,5) (5,9)) [116] xN1 [] [];rw [h.2 xH3] at e;exact e
theorem xNd:xb5 [116] xN1 ([(0:Int)].map encN) [] [] (badA.map encF)=some false:=by
 obtain ⟨b,e,h⟩:=xv0 (xGE (0,5) (4,9)) [116] xN1 [] [];cases b with
 | true=>exact absurd (h.1 rfl) xJm
 | false=>exact e
theorem xNz:xdf [116] xN1 ([(0:Int)].map encN) [] [] (badA.map encF)=some (xOl.map (xNJ [116])):=by
 obtain ⟨V,e,h,_⟩:=xDo [116] xN1 [] [] [0] badA (xGE (0,5) (4,9)) (xNe (0,5) (4,9)) (by simp [badA])
 rw [h.unique xF0] at e;exact e
theorem xNw:xgC [116] xN1 ([(0:Int)].map encN) [] [] (badA.map encF) (kA.map encV) 4=some (rx.map encV,true):=by
 obtain ⟨x,e,h⟩:=xH7 [116] xN1 [] [] [0] (by simp) badA (xNf (0,5) (4,9)) (by simp [badA]) kA 4
 rw [h.unique xHI] at e;exact e
theorem xNy:xku [116] xN1 ([(0:Int)].map encN) [] [] (xN8.map encF) (kA.map encV)=some ([((0,9):Per)].map encP):=by
 obtain ⟨A,e,h1,h2⟩:=xJv [116] xN1 [] [] [0] (by simp) xN8 (by simp [xN8]) kA
 rw [xfm h1 (xDH p09) fun t=>by rw [h2,xHX]] at e
 exact e
theorem xCu:xjS=some true:=by
 have E10:xnO=some (rx.map encV,true):=xNw;have E11:xnP=some ([((0,9):Per)].map encP):=xNy;have E12:xnQ=some (xOl.map (xNJ [116])):=xNz;have E13:xnR=some true:=xNc;have E14:xnS=some false:=xNd;have E7:xlm=some 0:=by
  unfold xlm xlo;rw [E10];have:=xly rx rx (by simp [rx,maxLen])
  rw [xkw] at this;exact this
 have E8:xln=some true:=by
  unfold xln;rw [E11];exact xIt [(0,9)] (by simp)
 unfold xjS xqX;simp only [xlh,xli,xcM,xie,xlj,xlk,xll,xlo,E7,E8,E10,E11,E12,E13,E14,zk,zh,xab,xac,Bool.not_true,Bool.not_false,sUF];rfl
theorem Bel.mx {t:Tab} {l:List Fc} (h:Bel t l):∀ f,f∈l->f.r.length<=maxLen:=fun f hf=>by have:=h.row f hf;simp only [maxLen];omega
theorem xAf (t:Tab) (ht:t.Ok) (l:List Fc) (hf:FOk l):xhT t.n (t.cols.map xNF) (t.key.map encN) (t.fos.map xNH) t.chk (l.map encF)=some true:=by
 obtain ⟨b,be,hb⟩:=xJj t ht l hf;unfold xhT xgM;cases b with
 | false=>simp only [be,xCu,zk,zh,xab,Bool.not_false,sUF]
 | true =>
  have h:=hb rfl;obtain ⟨b1,e1,h1⟩:=xv0 (h.tok ht hf) t.n (t.cols.map xNF) (t.fos.map xNH) t.chk;obtain ⟨V,e2,h2,l2⟩:=xDo t.n (t.cols.map xNF) (t.fos.map xNH) t.chk t.key l (h.tok ht hf) (h.bld hf) (by have:=h.len;omega)
  obtain ⟨V',e3,h3,l3⟩:=xJJ t.n (t.cols.map xNF) (t.fos.map xNH) t.chk t.key (h.tok ht hf).key l h.few (by have:=h.len;omega)
  obtain rfl:=h2.unique h3;have e4:=xIj e3;have e5:b1=decide (V=[]):=by
   rw [Bool.eq_iff_iff,h1,zl,h2.nil]
  have e6:=xJS t.n V l2 fun f q=>by
   obtain ⟨g,hg,e⟩:=h2.row f q;rw [<-e];exact h.mx g hg
  subst e5;simp only [be,e1,e2,e3,e4,e6,xCu,zk,zh,xab,xac,Bool.not_true,beq_self_eq_true,sUF]
end Go.Sim.M
end
noncomputable section
set_option maxRecDepth 10000
namespace Go.Sim
open Go.RowKit
theorem M.card_violations (t:M.Tab) (l:List M.Fc) (w0:t.wf) (w1:l.length<=maxLen/\∀ y,y∈l->y.wf) (hb:(AV.agg [.str t.n,.list 3 (t.cols.map M.xNF),.list 1 (t.key.map M.encN),.list 2 (t.fos.map M.xNH),.list 7 t.chk]).wt+(AV.list 3 (l.map M.encF)).wt<=1048576):M.xhT t.n (t.cols.map M.xNF) (t.key.map M.encN) (t.fos.map M.xNH) t.chk (l.map M.encF)  = some true :=
 M.xAf t (M.tl_wt t l w0 w1.2 (r:=0) hb).1 l (M.tl_wt t l w0 w1.2 (r:=0) hb).2
end Go.Sim
end
noncomputable section
set_option maxRecDepth 10000
namespace Go.Proofs.YtcekkkdjdfiipaaGreatDoor.uniqueViolations
open Go.ChangeShapes Go.WideShapes Go.ChangeAt Go.RowKit Go.Sim
theorem contract (H:Type) (enc:TypeId×Value->H) (W:World) (base:Nat) (args:Array Value) (ds gs:List (DataW H)) (before:List MemPlace)
  (hval:∀ (j:Nat) t v,Tryz.f3.params[j]?=some t->args[j]?=some v->Value.okWide Tryz.prog W .any base t v)
  (hW:DataW.Whole enc Tryz.prog Tryz.f3.params.toList Rows.uniqueViolationsSpec.vars false W args.toList ds gs before) (hL:laidMetH Tryz.prog Rows.uniqueViolationsUptoRow.laid W) (hsh:W.ShapedOpen Tryz.prog) (hbulk:Rows.uptoBulkAll (ds++gs)<=1048576) :
  Calls Tryz.prog 3 args W fun e W'=>∃ v,e=.returned v/\Rows.uniqueViolationsSpec.post enc Tryz.prog Tryz.f3 false true false false W args v W':=by
 have hW':=hW;obtain ⟨p,q,hA0,hV,rfl,hfz,hnd⟩:=hW;have hA:DataW.TrodAll enc Tryz.prog W 0 (fun _=>true) true Tryz.f3.params.toList args.toList ds p:=hA0
 have hAk:=hA;rw [Tryz.params3] at hA hval;obtain ⟨v0,vs0,d0,ds0,p0,q0,hargs,rfl,rfl,h0,r0⟩:=trodAll_cons hA;obtain ⟨v1,vs1,d1,ds1,p1,q1,rfl,rfl,rfl,h1,r1⟩:=trodAll_cons r0;obtain ⟨rfl,rfl,rfl⟩:=trodAll_nil r1;obtain rfl:args=#[v0,v1]:=by cases args;simp_all
 obtain ⟨rfl,rfl⟩:=trodVars_none hV;obtain ⟨a0,rr0,b0,w0⟩:=xJq (hval 0 27 v0 rfl rfl) h0;obtain ⟨a1,rr1,b1,w1⟩:=xF9 (hval 1 28 v1 rfl rfl) h1;clear hA0;have hbulk:((.agg [.str a0.n,.list 3 (a0.cols.map M.xNF),.list 1 (a0.key.map M.encN),.list 2 (a0.fos.map M.xNH),.list 7 a0.chk]):AV).wt+(.list 3 (a1.map M.encF):AV).wt<=1048576:=by
  rw [List.append_nil,xp8] at hbulk;simp only [List.map_cons,List.map_nil,List.sum_cons,List.sum_nil] at hbulk;have:=b0 _ xBa;have:=b1 _ xBa;omega
 have hI:xPq W:=xMr rfl (by kernel_rfl) hL hsh
 have hpl:=M.card_violations a0 a1 w0 w1 hbulk;have hg:Sim.Good Tryz.prog xPq 3 [(.agg [.str a0.n,.list 3 (a0.cols.map M.xNF),.list 1 (a0.key.map M.encN),.list 2 (a0.fos.map M.xNH),.list 7 a0.chk]),.list 3 (a1.map M.encF)] (.bool true):=M.xr8 _ _ (congrArg (fun x:Option Bool=>some (x.isSome,AV.bool (x.getD false))) hpl)
 have hrc:RC W (fun _=>False) xOX [v0,v1] [(.agg [.str a0.n,.list 3 (a0.cols.map M.xNF),.list 1 (a0.key.map M.encN),.list 2 (a0.fos.map M.xNH),.list 7 a0.chk]),.list 3 (a1.map M.encF)]:=by
  refine ⟨rfl,fun i hi=>?_⟩
  match i,hi with
  | 0,_=>exact rr0
  | 1,_=>exact rr1
 refine (hg.2 W (fun _=>False) _ hI (fun _ h=>h.elim) hrc).mono fun e W' ⟨v,he,hb,hr⟩=>?_
 subst he;obtain rfl:=hr.bool_inv;exact ⟨_,rfl,xH9 rfl hW' ⟨rfl,rfl,rfl⟩ rfl Tryz.underlying4 (by simpa using xvc xOr hb (by kernel_rfl) hAk) hb⟩
noncomputable def wit:Array Value:=#[.agg #[.string ⟨#[]⟩,.slice none 0 0,.slice none 0 0,.slice none 0 0,.slice none 0 0],.slice none 0 0]
theorem laid_met (os:Os):laidMet Tryz.prog Rows.uniqueViolationsUptoRow.laid ((xN9 Tryz.prog Rows.uniqueViolationsUptoRow.laid os).forCall (fun _ _=>0) ⟨#[],wit,[]⟩).memory :=
 laidMet_of_run3 8 (by kernel_rfl) (by kernel_rfl) (by kernel_rfl)
theorem reads (os:Os) {H:Type} (enc:TypeId×Value->H):∃ places,DataW.whole enc Tryz.prog ((xN9 Tryz.prog Rows.uniqueViolationsUptoRow.laid os).forCall (fun _ _=>0) ⟨#[],wit,[]⟩).memory Tryz.f3.params.toList Rows.uniqueViolationsSpec.vars false wit.toList 8=some ([.agg [.lit (.string []),.nil,.nil,.nil,.nil],.nil],[],places) :=
 ⟨[],by kernel_rfl⟩
set_option maxRecDepth 100000 in
theorem lifted (os:Os) (started:os.Started) (H:Type) (enc:TypeId×Value->H) (F:Stop.Interp) :
  ReturnsInHanded {} Tryz.checked os 3 .any ((Rows.OpenSpec.upto Rows.uniqueViolationsSpec).preRow enc Tryz.prog Tryz.f3 Rows.uniqueViolationsUptoRow.domain false Rows.uniqueViolationsUptoRow.laid) (((Rows.OpenSpec.upto Rows.uniqueViolationsSpec).at F).post enc Tryz.prog Tryz.f3 false true false false):=by
 obtain ⟨places,hx⟩:=reads os enc;refine returnsInHanded_of_row (C:=Tryz.checked) (s:=Rows.OpenSpec.upto Rows.uniqueViolationsSpec) xOv started (by kernel_rfl) Tryz.func3
  (witness_row_at (enc:=enc) (C:=Tryz.checked) false (xN9 Tryz.prog Rows.uniqueViolationsUptoRow.laid os) wit rfl (by kernel_rfl) (by kernel_rfl) (by kernel_rfl)
   (OpenSpec.preRow_of_cond 8 hx (by kernel_rfl) (fun k hk=>by cases hk;kernel_rfl) (by kernel_rfl) (laid_met os))) ?_
 intro W base args ds gs before hval hW _ hcond _ hL hsh _;exact contract H enc W base args ds gs before hval hW hL hsh (of_decide_eq_true (hcond _ rfl))
theorem said:Rows.UniqueViolationsUptoSaid :=
 OpenClaim.holds_of_cond 3 Tryz.f3 rfl rfl rfl rfl rfl rfl rfl ⟨rfl,rfl,rfl,rfl,rfl⟩ rfl rfl rfl rfl rfl (by kernel_rfl) Tryz.func3 (by kernel_rfl)
  (of_decide_eq_true (by kernel_rfl)) (by unfold Func.isWrapper;first|(rw [if_pos (by decide +kernel)];kernel_rfl)|(rw [if_neg (by decide +kernel)];exact ⟨rfl,rfl⟩))
  (fun os started H enc _ F=>by rw [OpenClaim.pre_eq_preRow];exact lifted os started H enc F)
theorem plain (f:FuncId) (fn:Func) (hf:Tryz.pinned.checked.prog.funcNamed "bitemporal/bitemporallaw43.UniqueViolations" = some f) (hfn:Tryz.pinned.checked.prog.funcs[f]?=some fn) :
  false=Tryz.pinned.checked.prog.looks []/\∀ (j:Nat) t,fn.params[j]?=some t->Tryz.pinned.checked.prog.wantsStandIn t=false:=by
 obtain rfl:f=3:=Option.some.inj ((show Tryz.prog.funcNamed "bitemporal/bitemporallaw43.UniqueViolations" = some 3 by kernel_rfl).symm.trans hf) |>.symm
 obtain rfl:fn=Tryz.f3:=(Option.some.inj (Tryz.func3.symm.trans hfn)).symm;refine ⟨by kernel_rfl,fun j t ht=>?_⟩
 rw [Tryz.params3] at ht;have hm:=Array.mem_of_getElem? ht;have:([27,28]:List Nat).all (fun t=>!(Tryz.prog.wantsStandIn t))=true:=by kernel_rfl
 have:=List.all_eq_true.1 this t (by simpa using hm)
 show Tryz.prog.wantsStandIn t=false;simpa using this
theorem card:Rows.UniqueViolationsUptoCardSaid :=
 Claim7.holds_tied_plain_at .later [] _ _ _ _ said (fun _ h=>by cases h) (by kernel_rfl) (fun _ h=>by cases h) uniqueViolationsUpto_row_tie rfl ⟨rfl,rfl⟩ (by kernel_rfl) rfl plain (by kernel_rfl)
end Go.Proofs.YtcekkkdjdfiipaaGreatDoor.uniqueViolations
end
