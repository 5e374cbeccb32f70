/- Part 18 of the proof of the law. -/
import Derived.Test.YtcekkkdjdfiipaaGreatDoorUI17
import Derived.Lib.ItoaLen
set_option linter.unusedVariables false
set_option linter.unusedSimpArgs false
set_option linter.unusedSectionVars false
noncomputable section
set_option maxRecDepth 100000
namespace Go.Sim.M
open Go.RowKit Go.Sim.Srt
def rdD (l:List UInt8):Nat:=l.foldl (fun a c=>a*10+(c.toNat - 48)) 0
theorem xB1 (u:Nat):∀ c,c∈Lib.decDigits u->48<=c.toNat/\c.toNat<=57:=by
 induction u using Nat.strongRecOn with
 | _ u ih =>
  intro c hc;rw [Lib.decDigits] at hc;split at hc
  . rw [zu] at hc;subst hc;rw [UInt8.toNat_ofNat'];omega
  . rw [zF,zu] at hc;rcases hc with hc|rfl
    . exact ih (u / 10) (by omega) c hc
    . rw [UInt8.toNat_ofNat'];omega
theorem xEZ (u:Nat):rdD (Lib.decDigits u)=u:=by
 induction u using Nat.strongRecOn with
 | _ u ih =>
  rw [Lib.decDigits];split
  . simp only [rdD,List.foldl_cons,List.foldl_nil,UInt8.toNat_ofNat'];omega
  . have:=ih (u / 10) (by omega)
    unfold rdD at this |-;rw [List.foldl_append,this];simp only [List.foldl_cons,List.foldl_nil,UInt8.toNat_ofNat'];omega
theorem xB2 {u v:Nat} (h:Lib.decDigits u=Lib.decDigits v):u=v:=by rw [<-xEZ u,h,xEZ]
theorem xuR {a b:Int} (h:Lib.itoa a=Lib.itoa b):a=b:=by
 unfold Lib.itoa at h;have k:∀ u v:Nat,45::Lib.decDigits u≠Lib.decDigits v:=fun u v e=>by
  have:=xB1 v 45 (by rw [<-e];simp)
  have t:(45:UInt8).toNat=45:=rfl;omega
 split at h<;>split at h
 . have:=xB2 (List.cons.inj h).2;omega
 . exact absurd h (k _ _)
 . exact absurd h.symm (k _ _)
 . have:=xB2 h;omega
theorem xpr (a:Int):(32:UInt8)∉Lib.itoa a:=by
 have k:∀ v:Nat,(32:UInt8)∉Lib.decDigits v:=fun v e=>by
  have:=xB1 v 32 e;have t:(32:UInt8).toNat=32:=rfl;omega
 unfold Lib.itoa;split
 . rw [zB];rintro (h|h)
   . simp at h
   . exact k _ h
 . exact k _
theorem xvq:∀ {a b x y:List UInt8},(32:UInt8)∉a->(32:UInt8)∉b->a++32::x=b++32::y->a=b/\x=y
 | [],[],x,y,_,_,h=>⟨rfl,(List.cons.inj h).2⟩
 | [],c::b,x,y,_,hb,h=>absurd (List.cons.inj h).1 fun e=>hb (by rw [e];simp)
 | c::a,[],x,y,ha,_,h=>absurd (List.cons.inj h).1 fun e=>ha (by rw [<-e];simp)
 | c::a,d::b,x,y,ha,hb,h=>by
  obtain ⟨e1,h⟩:=List.cons.inj h;obtain ⟨e2,e3⟩:=xvq (a:=a) (b:=b) (fun e=>ha (by simp [e])) (fun e=>hb (by simp [e])) h
  exact ⟨by rw [e1,e2],e3⟩
def keyV (v:Val):List UInt8:=Lib.itoa v.k++32::(Lib.itoa v.i++32::(Lib.itoa (v.t.length:Int)++32::v.t))
def keyOf (r:Row):List UInt8:=r.flatMap keyV
theorem xuT (v:Val) (s:List UInt8):keyV v++s=Lib.itoa v.k++32::(Lib.itoa v.i++32::(Lib.itoa (v.t.length:Int)++32::(v.t++s))):=by simp [keyV]
theorem xjQ (v:Val) (r:Row):keyOf (v::r)=keyV v++keyOf r:=by simp [keyOf]
theorem xwu (v:Val) (s:List UInt8):keyV v++s≠[]:=by rw [xuT];simp
theorem xwv:∀ {r r':Row},keyOf r=keyOf r'->r=r'
 | [],[],_=>rfl
 | [],v::r',h=>by rw [xjQ] at h;exact absurd h.symm (xwu _ _)
 | v::r,[],h=>by rw [xjQ] at h;exact absurd h (xwu _ _)
 | v::r,v'::r',h=>by
  rw [xjQ,xjQ,xuT,xuT] at h;obtain ⟨h1,h⟩:=xvq (xpr _) (xpr _) h;obtain ⟨h2,h⟩:=xvq (xpr _) (xpr _) h;obtain ⟨h3,h⟩:=xvq (xpr _) (xpr _) h;have h3:=xuR h3;obtain ⟨h4,h⟩:=List.append_inj h (by omega)
  obtain rfl:=xwv h;have:v=v':=by
   obtain ⟨k,i,t⟩:=v;obtain ⟨k',i',t'⟩:=v';obtain rfl:=xuR h1;obtain rfl:=xuR h2;subst h4;rfl
  rw [this]
theorem xKJ {n:Int} (h:(Lit.int .i64 n).wf=true):-9223372036854775808<=n/\n<=9223372036854775807:=by
 have h:(decide ((IntKind.i64).min<=n)&&decide (n<=(IntKind.i64).max))=true:=h;rw [ze,zk,zk] at h;exact h
theorem xuU {v:Val} (hw:v.wf) (ht:v.t.length<=1099511627776):(keyV v).length<=66+v.t.length:=by
 obtain ⟨w1,w2,_⟩:=hw;have a1:=Lib.itoa_length_le v.k (xKJ w1).1 (xKJ w1).2;have a2:=Lib.itoa_length_le v.i (xKJ w2).1 (xKJ w2).2;have a3:=Lib.itoa_length_le (v.t.length:Int) (by omega) (by omega)
 simp only [keyV,z7,zD];omega
theorem xwS (s B:List UInt8) (h:(B++s).length<=140737488355328):xai s B.length (byteAVs B)=some ((s.length:Int),(B++s).length,byteAVs (B++s)):=by
 rw [z7] at h;have h2:B.length+s.length<=4611686018427387904:=by omega
 unfold xai xcZ;simp only [xjO,beq_self_eq_true,Nat.mul_one,h,h2,zm,Bool.and_self,xab,xrJ,z7,sUF]
theorem xA2 (B:List UInt8) (h:(B++[32]).length<=140737488355328):xcw 32 B.length (byteAVs B)=some ((B++[32]).length,byteAVs (B++[32])):=by
 rw [z7,zi] at h;have h2:B.length+1<=4611686018427387904:=by omega
 unfold xcw xdr;simp only [xjO,beq_self_eq_true,Nat.mul_one,h,h2,zm,Bool.and_self,xab,xrJ,z7,zi,sUF];rfl
def numI (n:Int):List UInt8:=Lib.itoa n++[32]
theorem xC0 (t8:List AV) (t9 q:Int) (xs:List AV) (hx:xs.length=3) (j:Nat) (hj:j<3) (n:Int) (hn:xs.getD j .top=.int .i64 n) (h1:-9223372036854775808<=n) (h2:n<=9223372036854775807) (v0 v1:Int) (v2 B:List UInt8) (hB:B.length<=70368744177664) :
  xaQ t8 t9 q 3 3 ((j:Int),B.length,v0,v1,v2,xs,byteAVs B)=some (.inl (((j+1:Nat):Int),(B++numI n).length,v0,v1,v2,xs,byteAVs (B++numI n))):=by
 have hl:=Lib.itoa_length_le n h1 h2;have i1:(j:Int)<3:=by omega
 have i2:(j:Int)<((3:Nat):Int):=by omega
 have i3:j<xs.length:=by omega
 have e1:=xwS (Lib.itoa n) B (by rw [z7];omega)
 have e2:=xA2 (B++Lib.itoa n) (by rw [z7,z7,zi];omega)
 have hc:((AV.int IntKind.i64 n).cells.getD 0 .top).toInt=n:=rfl;have hs:xLj (Sh.int IntKind.i64) ((AV.int IntKind.i64 n).cells.getD 0 .top)=true:=rfl;simp only [xaQ,xg4,xjk,xjl,xjm,xd6,sBU,i1,i2,i3,hn,hc,hs,h1,h2,e1,e2,xKl (n:=j) (by omega),numI,zv]
theorem xHr (t8:List AV) (t9 q:Int) (xs:List AV) (v0 v1:Int) (v2 B:List UInt8):xaQ t8 t9 q 3 3 (((3:Nat):Int),B.length,v0,v1,v2,xs,byteAVs B)=some (.inr (B.length,v0,v1,v2,byteAVs B)):=by
 have i1:¬ ((3:Nat):Int)<3:=by omega
 simp only [xaQ,xg4,i1,zl,xae,sUF]
theorem xuV (v:Val):keyV v=numI v.k++(numI v.i++(numI (v.t.length:Int)++v.t)):=by simp [keyV,numI]
def KOk (v:Val):Prop:=v.wf/\v.t.length<=1099511627776
theorem KOk.len {v:Val} (h:KOk v):(keyV v).length<=1099511627842:=by have:=xuU h.1 h.2;have:=h.2;omega
theorem xB9 (t8:List AV) (t9 q:Int) (v:Val) (h:KOk v) (B:List UInt8) (hB:B.length<=35184372088832) :
  Iter (xaQ t8 t9 q 3 3) ((1:Int),(B++numI v.k).length,v.k,v.i,v.t,[AV.int .i64 v.k,AV.int .i64 v.i,AV.int .i64 (v.t.length:Int)],byteAVs (B++numI v.k))=some ((B++numI v.k++numI v.i++numI (v.t.length:Int)).length,v.k,v.i,v.t,byteAVs (B++numI v.k++numI v.i++numI (v.t.length:Int))):=by
 have hl:=h.len;have ht:=h.2;rw [xuV,z7,z7,z7] at hl;have e1:=xC0 t8 t9 q [AV.int .i64 v.k,AV.int .i64 v.i,AV.int .i64 (v.t.length:Int)] rfl 1 (by omega) v.i rfl (xKJ h.1.2.1).1 (xKJ h.1.2.1).2 v.k v.i v.t (B++numI v.k) (by rw [z7];omega)
 have e2:=xC0 t8 t9 q [AV.int .i64 v.k,AV.int .i64 v.i,AV.int .i64 (v.t.length:Int)] rfl 2 (by omega) (v.t.length:Int) rfl (by omega) (by omega) v.k v.i v.t (B++numI v.k++numI v.i) (by rw [z7,z7];omega)
 exact (xaF e1).trans ((xaF e2).trans (xam (xHr ..)))
theorem xJb (t8:List AV) (t9 q:Int) (v:Val) (h:KOk v) (B:List UInt8) (hB:B.length<=35184372088832) :
  Iter (xaQ t8 t9 q 3 3) ((0:Int),B.length,v.k,v.i,v.t,[AV.int .i64 v.k,AV.int .i64 v.i,AV.int .i64 (v.t.length:Int)],byteAVs B)=some ((B++numI v.k++numI v.i++numI (v.t.length:Int)).length,v.k,v.i,v.t,byteAVs (B++numI v.k++numI v.i++numI (v.t.length:Int))):=by
 have e0:=xC0 t8 t9 q [AV.int .i64 v.k,AV.int .i64 v.i,AV.int .i64 (v.t.length:Int)] rfl 0 (by omega) v.k rfl (xKJ h.1.1).1 (xKJ h.1.1).2 v.k v.i v.t B (by omega)
 exact (xaF e0).trans (xB9 t8 t9 q v h B hB)
theorem xEB (r:Row) (hr:r.length<=1048576) (h:∀ v,v∈r->KOk v) (hk:(keyOf r).length<=17592186044416):∀ d k:Nat,k+d=r.length->Iter (xci (r.map encV) ((r.length:Nat):Int)) ((k:Int),(keyOf (r.take k)).length,byteAVs (keyOf (r.take k)))=some ((keyOf r).length,byteAVs (keyOf r))
 | 0,k,hkk=>by
  obtain rfl:k=r.length:=by omega
  rw [y3];refine xam ?_;simp only [xci,xg3,zx,zl,xae,sUF]
 | d+1,k,hkk=>by
  have q:k<r.length:=by omega
  have hv:=h r[k] (zn q);have i1:(k:Int)<(r.length:Int):=by omega
  have gf:(r.map encV).getD k .top=encV r[k]:=xaa _ _ _ q;have tk:keyOf (r.take (k+1))=keyOf (r.take k)++keyV r[k]:=by
   unfold keyOf;rw [List.take_add_one,zd q,List.flatMap_append];simp
  have le:(keyOf (r.take (k+1))).length<=(keyOf r).length:=by
   conv=>rhs;rw [<-List.take_append_drop (k+1) r]
   unfold keyOf;rw [List.flatMap_append,z7];omega
  have hl:=hv.len;rw [tk,z7] at le;have e1:=xJb (r.map encV) (r.length:Int) (k:Int) r[k] hv (keyOf (r.take k)) (by omega)
  have kn:keyOf (r.take k)++keyV r[k]=keyOf (r.take k)++numI r[k].k++numI r[k].i++numI (r[k].t.length:Int)++r[k].t:=by rw [xuV];simp only [zv]
  have e2:=xwS r[k].t (keyOf (r.take k)++numI r[k].k++numI r[k].i++numI (r[k].t.length:Int)) (by rw [<-kn,z7];omega)
  rw [xaF (s':=(((k+1:Nat):Int),(keyOf (r.take (k+1))).length,byteAVs (keyOf (r.take (k+1))))) ?_]
  . exact xEB r hr h hk d (k+1) (by omega)
  . rw [tk,kn];simp only [xci,xg3,xjf,xjg,xjh,xji,xjj,sBU,q,i1,gf,cV0,cV1,cV2,lV,sV,e1,e2,xKl (n:=k) (by omega)]
theorem xEC (r:Row) (hr:r.length<=1048576) (h:∀ v,v∈r->KOk v) (hk:(keyOf r).length<=17592186044416):xhf (r.map encV)=some (keyOf r):=by
 match r with
 | []=>rfl
 | v::t =>
  have hv:=h v (by simp)
  have hl:=hv.len;have i1:(0:Int)<((t.length+1:Nat):Int):=by omega
  have i2:0<t.length+1:=by omega
  obtain ⟨r1,r2⟩:=xKJ hv.1.1;have q:=Lib.itoa_length_le v.k r1 r2;have gf:((v::t).map encV).getD 0 .top=encV v:=rfl;have e0:xar (Lib.itoa v.k)=some (((Lib.itoa v.k).length:Int),(Lib.itoa v.k).length,byteAVs (Lib.itoa v.k)):=by
   have m1:(Lib.itoa v.k).length<=140737488355328:=by omega
   have m2:(Lib.itoa v.k).length<=4611686018427387904:=by omega
   unfold xar xde;simp only [xjO,Nat.mul_one,m1,m2,zm,Bool.and_self,xab,sUF]
  have e1:xdW 32 (Lib.itoa v.k).length (byteAVs (Lib.itoa v.k))=some (([]++numI v.k).length,byteAVs ([]++numI v.k)):=xA2 (Lib.itoa v.k) (by rw [z7,zi];omega)
  have e2:=xB9 ((v::t).map encV) ((t.length+1:Nat):Int) 0 v hv [] (by simp)
  have kn:keyV v=[]++numI v.k++numI v.i++numI (v.t.length:Int)++v.t:=by rw [xuV];simp
  have e3:=xwS v.t ([]++numI v.k++numI v.i++numI (v.t.length:Int)) (by rw [<-kn];omega)
  rw [<-kn] at e3;have e4:=xEB (v::t) hr h hk t.length 1 (by rw [zD];omega)
  have tk:keyOf ((v::t).take 1)=keyV v:=by simp [keyOf]
  rw [tk,zD] at e4;have e4:Iter (xci ((v::t).map encV) ((t.length+1:Nat):Int)) ((1:Int),(keyV v).length,byteAVs (keyV v))=_:=e4;have hne:(keyOf (v::t)).length≠0:=fun e=>xwu v (keyOf t) (by rw [<-xjQ];exact List.length_eq_zero_iff.1 e)
  unfold xhf xm7 xgh xlM xlN xlO xlP xlQ xlR xlS xlT xlU xb3;simp only [z8,zD,i1,i2,gf,cV0,cV1,cV2,lV,sV,r1,r2,e0,e1,e2,e3,e4,zm,xab,Bool.and_self,beq_self_eq_true,zj,zg,xjO,xvC,xzs,ne_eq,hne,not_false_eq_true,sUF]
end Go.Sim.M
end
noncomputable section
set_option maxRecDepth 100000
namespace Go.Sim.M
open Go.RowKit
theorem xqJ {σ ρ α β:Type} {step:σ->Option (σ⊕ρ)} (l:List α) (g:α->List β) (st:Nat->List β->σ) (rr:List β->ρ) (D0:List β) (c:Nat) (hc:∀ a,a∈l->(g a).length<=c)
  (hs:∀ (n:Nat) (h:n<l.length) (D:List β),D.length<=D0.length+c*n->step (st n D)=some (.inl (st (n+1) (D++g l[n]))))
  (he:∀ D:List β,step (st l.length D)=some (.inr (rr D))):Iter step (st 0 D0)=some (rr (D0++l.flatMap g)):=by
 have key:∀ (d n:Nat) (D:List β),n+d=l.length->D.length<=D0.length+c*n->Iter step (st n D)=some (rr (D++(l.drop n).flatMap g)):=by
  intro d;induction d with
  | zero =>
   intro n D h hD;have:n=l.length:=by omega
   subst this;rw [zp (zb _),List.flatMap_nil,zC];exact xam (he D)
  | succ d ih =>
   intro n D h hD;have hn:n<l.length:=by omega
   have h2:(D++g l[n]).length<=D0.length+c*(n+1):=by
    rw [z7,Nat.mul_add,Nat.mul_one];have:=hc l[n] (zn hn);omega
   rw [xaF (hs n hn D hD),ih (n+1) (D++g l[n]) (by omega) h2,xb4 hn,zQ,zv]
 have:=key l.length 0 D0 (by omega) (by simp)
 simpa using this
theorem xBf {α β:Type} [Nonempty β] {l:List α} {Q:α->β->Prop} (h:∀ a,a∈l->∃ b,Q a b):∃ L:α->β,∀ a,a∈l->Q a (L a):=by
 classical
 refine ⟨fun a=>if ha:a∈l then (h a ha).choose else Classical.choice inferInstance,fun a ha=>?_⟩
 simp only [dif_pos ha];exact (h a ha).choose_spec
theorem xz7 {α β:Type} (g:α->List β) (f:α->β) (p:α->Bool) (h:∀ a,g a=if p a=true then [f a] else []):∀ l:List α,l.flatMap g=(l.filter p).map f
 | []=>rfl
 | a::l=>by
  rw [zQ,xz7 g f p h l,h a,List.filter_cons];cases p a<;>simp
theorem xHG (row:Row) (i:Int):xlc (row.map encV) i=some (trip (atV row i)):=xD8 row i
theorem xtv (row:Row) (l:List Int) (hl:l.length<=1048576):Iter (xc2 (row.map encV) (l.map encN)) ((0:Nat),(0:Int),[])=some ((l.flatMap (fun (f:Int)=>[atV row f])).length,(l.flatMap (fun (f:Int)=>[atV row f])).map encV):=by
 refine xk8 l (fun (f:Int)=>[atV row f]) encV 1 (fun f hf=>?_) (fun n h D hD=>?_) (fun D=>?_)
 . simp
 . have h1:(n:Int)<(l.length:Int):=by omega
   have m1:(D.length+1)*32<=140737488355328:=by omega
   have m2:D.length+1<=4611686018427387904:=by omega
   have gf:(l.map encN).getD n .top=encN l[n]:=xaa _ _ _ h;simp only [xc2,xi2,xhZ,xhx,sBU,h,h1,gf,cN,sN,xHG,trip,m1,m2,xKl (n:=n) (by omega)]
   simp [encV]
 . simp only [xc2,xi2,xhZ,xhx,z8,zx,zl,xae,sUF]
theorem xFb (row:Row) (ks:List Int) (hk:ks.length<=1048576):xpk (row.map encV) (ks.map encN)=some ((pick row ks).map encV):=by
 have e:=xtv row ks hk;rw [xKQ] at e;change Iter _ _=some ((pick row ks).length,(pick row ks).map encV) at e;have tt:List.take (pick row ks).length ((pick row ks).map encV)=(pick row ks).map encV:=zh (by simp)
 unfold xpk xpW;simp only [xoF,xoG,xoH,z8,e,zm,zR,xab,zj,zg,zG,zq,tt,zb,sUF]
theorem xAO (n:List UInt8) (cs fs ck:List AV) (key:List Int) (row:Row) (hk:key.length<=1048576):xlz n cs (key.map encN) fs ck (row.map encV)=some ((pick row key).map encV):=by
 unfold xlz xrr;rw [xFb row key hk];rfl
def Txt (r:Row):Prop:=∀ v,v∈r->v.wf/\v.t.length<=8388608
theorem Txt.at {r:Row} (h:Txt r) (i:Int):(atV r i).wf/\(atV r i).t.length<=8388608:=by
 unfold atV;split
 . exact ⟨⟨by decide,by decide,by simp [maxLen]⟩,by simp⟩
 . rw [z6];cases hg:r[i.toNat]? with
   | none=>exact ⟨⟨by decide,by decide,by simp [maxLen]⟩,by simp⟩
   | some v=>exact h v (List.mem_of_getElem? hg)
theorem xAD {r:Row} {ks:List Int} {v:Val} (h:v∈pick r ks):∃ i,i∈ks/\v=atV r i:=by
 obtain ⟨i,hi,e⟩:=zJ.1 h;exact ⟨i,hi,e.symm⟩
theorem Txt.kok {r:Row} (h:Txt r) (ks:List Int):∀ v,v∈pick r ks->KOk v:=fun v hv=>by
 obtain ⟨i,_,rfl⟩:=xAD hv;have:=h.at i;exact ⟨this.1,by omega⟩
theorem xK4 {c:Nat}:∀ {r:Row},(∀ v,v∈r->(keyV v).length<=c)->(keyOf r).length<=c*r.length
 | [],_=>by simp [keyOf]
 | v::r,h=>by
  have h1:=h v (by simp)
  have h2:=xK4 (r:=r) fun x hx=>h x (by simp [hx])
  rw [xjQ,z7,zD,Nat.mul_add,Nat.mul_one];omega
theorem Txt.len {r:Row} (h:Txt r) {ks:List Int} (hk:ks.length<=1048576):(keyOf (pick r ks)).length<=17592186044416:=by
 have h1:(keyOf (pick r ks)).length<=8388674*(pick r ks).length:=xK4 fun v hv=>by
  obtain ⟨i,_,rfl⟩:=xAD hv;have:=h.at i;have:=xuU this.1 (by omega)
  omega
 rw [xsi] at h1;omega
theorem xI6 (l:List AV):xgf l=xhf l:=rfl
theorem xEn {r:Row} (h:Txt r) {ks:List Int} (hk:ks.length<=1048576):xgf ((pick r ks).map encV)=some (keyOf (pick r ks)):=by
 rw [xI6];exact xEC _ (by rw [xsi];exact hk) (h.kok ks) (h.len hk)
abbrev En:=List UInt8×List Per
def xKu (e:En):AV:=.agg [.str e.1,.list 2 (e.2.map encP)]
def xKM (s:List UInt8) (n:Int):AV:=.agg [.str s,.int .i64 n]
def ixE:List En->List UInt8->Option Nat
 | [],_=>none
 | e::es,s=>match e.1==s with
  | true=>some 0
  | false=>(ixE es s).map (·+1)
theorem xtn (s:List UInt8):∀ es:List En,mapIx (es.map xKu) s=ixE es s
 | []=>rfl
 | e::es=>by
  rw [zU,mapIx,ixE,xtn s es];rfl
theorem xtf {s:List UInt8}:∀ {es:List En} {i:Nat},ixE es s=some i->i<es.length
 | [],i,h=>by simp [ixE] at h
 | e::es,i,h=>by
  rw [ixE] at h;split at h
  . cases h;simp
  . cases hm:ixE es s with
    | none=>rw [hm] at h;simp at h
    | some j =>
     rw [hm] at h;simp only [Option.map_some,z1] at h;have:=xtf hm;subst h;simp;omega
theorem xB8 {s:List UInt8}:∀ {es:List En} {i:Nat},ixE es s=some i->(es.getD i default).1=s
 | [],i,h=>by simp [ixE] at h
 | e::es,i,h=>by
  rw [ixE] at h;split at h
  . rename_i he;cases h;simpa using he
  . cases hm:ixE es s with
    | none=>rw [hm] at h;simp at h
    | some j =>
     rw [hm] at h;simp only [Option.map_some,z1] at h;subst h;simpa using xB8 hm
def addE:List En->List UInt8->Per->List En
 | [],s,p=>[(s,[p])]
 | e::es,s,p=>match e.1==s with
  | true=>(e.1,e.2++[p])::es
  | false=>e::addE es s p
theorem xwV {s:List UInt8} {p:Per}:∀ {es:List En},ixE es s=none->addE es s p=es++[(s,[p])]
 | [],_=>rfl
 | e::es,h=>by
  rw [ixE] at h;split at h
  . simp at h
  . rename_i he;cases hm:ixE es s with
    | some j=>rw [hm] at h;simp at h
    | none=>rw [addE,he,xwV hm];rfl
theorem xwW {s:List UInt8} {p:Per}:∀ {es:List En} {i:Nat},ixE es s=some i->addE es s p=es.set i (s,(es.getD i default).2++[p])
 | [],i,h=>by simp [ixE] at h
 | e::es,i,h=>by
  rw [ixE] at h;split at h
  . rename_i he;cases h;have e1:e.1=s:=by simpa using he
    rw [addE,he];simp [e1]
  . rename_i he;cases hm:ixE es s with
    | none=>rw [hm] at h;simp at h
    | some j =>
     rw [hm] at h;simp only [Option.map_some,z1] at h;subst h;rw [addE,he,xwW hm];simp
def xKq:List En->List UInt8->List Per
 | [],_=>[]
 | e::es,s=>match e.1==s with
  | true=>e.2
  | false=>xKq es s
theorem xvH {s:List UInt8}:∀ {es:List En},ixE es s=none->xKq es s=[]
 | [],_=>rfl
 | e::es,h=>by
  rw [ixE] at h;split at h
  . simp at h
  . rename_i he;cases hm:ixE es s with
    | some j=>rw [hm] at h;simp at h
    | none=>rw [xKq,he];exact xvH hm
theorem xvI {s:List UInt8}:∀ {es:List En} {i:Nat},ixE es s=some i->xKq es s=(es.getD i default).2
 | [],i,h=>by simp [ixE] at h
 | e::es,i,h=>by
  rw [ixE] at h;split at h
  . rename_i he;cases h;rw [xKq,he];rfl
  . rename_i he;cases hm:ixE es s with
    | none=>rw [hm] at h;simp at h
    | some j =>
     rw [hm] at h;simp only [Option.map_some,z1] at h;subst h;rw [xKq,he];simpa using xvI hm
theorem xAq (s s':List UInt8) (p:Per):∀ es:List En,xKq (addE es s p) s'=xKq es s'++if s==s' then [p] else []
 | []=>by simp only [addE,xKq];cases s==s'<;>simp
 | e::es=>by
  have ih:=xAq s s' p es;rw [addE];cases he:e.1==s with
  | true =>
   have e1:e.1=s:=by simpa using he
   dsimp only;rw [xKq,xKq,e1];cases h:s==s' with
   | true=>simp
   | false=>simp
  | false =>
   dsimp only;rw [xKq,xKq,ih];cases h:e.1==s' with
   | false=>rfl
   | true =>
    have e1:e.1=s':=by simpa using h
    have:(s==s')=false:=by
     rw [<-e1,Bool.eq_false_iff];intro hh;rw [show s=e.1 by simpa using hh] at he
     simp at he
    simp [this]
theorem xuM (s:List UInt8) (p:Per):∀ es:List En,(addE es s p).length<=es.length+1
 | []=>by simp [addE]
 | e::es=>by
  have:=xuM s p es;rw [addE];cases e.1==s<;>simp<;>omega
theorem xyp {α:Type} (k:α->List UInt8) (f:α->Per) (s:List UInt8):∀ (l:List α) (es:List En),xKq (l.foldl (fun es x=>addE es (k x) (f x)) es) s=xKq es s++(l.filter fun x=>k x==s).map f
 | [],es=>by simp
 | x::l,es=>by
  rw [List.foldl_cons,xyp k f s l,xAq,List.filter_cons];cases k x==s<;>simp
end Go.Sim.M
end
noncomputable section
set_option maxRecDepth 100000
namespace Go.Sim.M
open Go.RowKit Go.Sim.Srt
abbrev Grp:=Row×List Per
def encG (g:Grp):AV:=.agg [.list 3 (g.1.map encV),.list 2 (g.2.map encP)]
def okEG (x:AV):Bool:=x.cells.length==(2:Nat)&&xLq [Sh.list (3:Nat),Sh.list (2:Nat)] x.cells (0:Nat)
def ldEG (x:AV):AV:=AV.agg [AV.list (3:Nat) (x.cells.getD (0:Nat) AV.top).toList,AV.list (2:Nat) (x.cells.getD (1:Nat) AV.top).toList]
def xKT (x y:AV):Bool:=(xfc (x.cells.getD 0 AV.top).toList (x.cells.getD 1 AV.top).toList (y.cells.getD 0 AV.top).toList (y.cells.getD 1 AV.top).toList).isSome
def xKV (x y:AV):Int:=(xfc (x.cells.getD 0 AV.top).toList (x.cells.getD 1 AV.top).toList (y.cells.getD 0 AV.top).toList (y.cells.getD 1 AV.top).toList).getD 0
theorem heG (a:Grp):okEG (encG a)=true:=rfl
theorem hdG (a:Grp):ldEG (encG a)=encG a:=rfl
section
variable {N : Nat} (hN : N <= 2 ^ 60) {ok : Grp -> Prop} {c : Grp -> Grp -> Int} (hc : ∀ x y, ok x -> ok y -> xKT (encG x) (encG y) = true /\ xKV (encG x) (encG y) = c x y)
include hN
include hc
theorem xJZ (a b:Nat) (ha:a<=N) (hb:b<=N) {l r:List Grp} (hl:LOk N ok l) (hr:xKD c a b l=some r):xaO N a b (List.map encG l)=some (List.map encG r)/\LOk N ok r:=by
 obtain ⟨e1,e2⟩:=xAV (enc:=encG) hN (c:=c) (ok:=ok) a b hb (gi:=fun i=>xa2 N a b i) (fun i l r hl hr=>xCm (okE:=okEG) (ldE:=ldEG) heG hdG hN (P:=xKT) (V:=xKV) hc a (fun j xs=>rfl) hl hr) (g:=xa1 N a b) (fun i xs=>rfl) hl hr
 refine ⟨?_,e2⟩;unfold xaO xdd;rw [w64 (x:=(a:Int)+1) (n:=a+1) (by omega) (by omega),e1];rfl
theorem xGB (q:N<20) {l r:List Grp} (hl:LOk N ok l) (hr:xKD c 0 N l=some r):xd3 N N (List.map encG l)=some (List.map encG r)/\LOk N ok r:=by
 obtain ⟨e1,e2⟩:=xJZ hN hc 0 N (by omega) (zb _) hl hr
 have e1:xaO N 0 N (List.map encG l)=_:=e1;have q0:Iter (xbe N N 20) ((0:Int),(20:Int),List.map encG l)=some ((0:Int),List.map encG l):=by
  refine xam ?_;have h1:¬ (20:Int)<=(N:Int):=by omega
  simp only [xbe,xee,h1,zl,xae,sUF]
 have q1:Iter (xbZ N N) ((20:Int),List.map encG r)=some (List.map encG r):=by
  refine xam ?_;have h1:¬ (20:Int)<(N:Int):=by omega
  simp only [xbZ,xef,h1,zl,xae,sUF]
 refine ⟨?_,e2⟩;simp only [xd3,xfH,xe1,xe2,xe3,q0,e1,q1,zj,zg,xab,sUF]
end
theorem xJx {N:Nat} (hN:N*48<=140737488355328) {ok:Grp->Prop} {c:Grp->Grp->Int} (hc:∀ x y:Grp,ok x->ok y->xKT (encG x) (encG y)=true/\xKV (encG x) (encG y)=c x y) (q:N<20) (l r:List Grp) (hl:l.length=N) (ho:∀ x,x∈l->ok x) (hr:xKD c 0 N l=some r) :
  xf7 N (List.map encG l)=some (List.map encG r):=by
 obtain ⟨e1,e2⟩:=xGB (N:=N) (by omega) (ok:=ok) hc q ⟨hl,ho⟩ hr
 simp only [xf7,xeY,e1,zj,zg,xab,sUF]
end Go.Sim.M
end
noncomputable section
set_option maxRecDepth 100000
namespace Go.Sim.M
open Go.RowKit Go.Sim.Srt
def ents:Nat->List Row->List AV
 | _,[]=>[]
 | k,r::R=>.agg [.str (keyOf r),.int .i64 (k:Int)]::ents (k+1) R
theorem xB5:∀ (R:List Row) (k:Nat) (r:Row),mapIx (ents k R) (keyOf r)=R.findIdx? fun x=>decide (x=r)
 | [],_,_=>rfl
 | x::R,k,r=>by
  have hk:isKey (keyOf r) (((AV.agg [.str (keyOf x),.int .i64 (k:Int)]).cells).getD 0 .top)=decide (x=r):=by
   show (keyOf x==keyOf r)=_;by_cases h:x=r
   . subst h;simp
   . have:¬ keyOf x=keyOf r:=fun e=>h (xwv e)
     simp [h,this]
  show (match isKey (keyOf r) (((AV.agg [.str (keyOf x),.int .i64 (k:Int)]).cells).getD 0 .top) with|true=>some 0|false=>(mapIx (ents (k+1) R) (keyOf r)).map (·+1))=_
  rw [hk,List.findIdx?_cons,xB5 R (k+1) r];by_cases h:x=r<;>simp [h]
theorem xz1:∀ (R:List Row) (k:Nat),(ents k R).length=R.length
 | [],_=>rfl
 | _::R,k=>by show (ents (k+1) R).length+1=_;rw [xz1 R];rfl
theorem xw8:∀ (R:List Row) (k:Nat) (r:Row),ents k (R++[r])=ents k R++[.agg [.str (keyOf r),.int .i64 ((k+R.length:Nat):Int)]]
 | [],_,_=>rfl
 | x::R,k,r=>by
  show _::ents (k+1) (R++[r])=_;rw [xw8 R (k+1) r,zD,show k+1+R.length=k+(R.length+1) by omega];rfl
theorem xz0:∀ (R:List Row) (k j:Nat) (h:j<R.length),(ents k R).getD j .top=.agg [.str (keyOf R[j]),.int .i64 ((k+j:Nat):Int)]
 | x::R,k,0,h=>rfl
 | x::R,k,j+1,h=>by
  show (ents (k+1) R).getD j .top=_;rw [xz0 R (k+1) j (by simpa using h),show k+1+j=k+(j+1) by omega];rfl
def upd (G:List Grp) (f:Fc):List Grp:=match (G.map (·.1)).findIdx? fun x=>decide (x=f.r) with
 | some j=>G.set j (f.r,(G.getD j ([],[])).2++[f.p])
 | none=>G++[(f.r,[f.p])]
structure GI (l:List Fc) (G:List Grp):Prop where
 nd:(G.map (·.1)).Nodup
 mem:∀ r,r∈G.map (·.1)↔∃ f,f∈l/\f.r=r/\pv f.p=true
 ps:∀ g,g∈G->g.2=psOf l g.1
 len:G.length<=l.length
theorem GI.nil:GI [] []:=⟨List.nodup_nil,fun r=>by simp,fun g hg=>by simp at hg,zb _⟩
theorem xrM (l:List Fc) (f:Fc) (r:Row):psOf (l++[f]) r=psOf l r++(if f.r=r/\pv f.p=true then [f.p] else []):=by
 unfold psOf;rw [List.filter_append,zw];congr 1;by_cases h1:f.r=r<;>by_cases h2:pv f.p=true<;>simp [h1,h2]
theorem GI.skip {l:List Fc} {G:List Grp} (h:GI l G) {f:Fc} (hf:pv f.p=false):GI (l++[f]) G :=
 ⟨h.nd,fun r=>by
  rw [h.mem];refine ⟨fun ⟨g,hg,e⟩=>⟨g,by simp [hg],e⟩,fun ⟨g,hg,e1,e2⟩=>⟨g,?_,e1,e2⟩⟩
  rcases zF.1 hg with hg|hg
  . exact hg
  . rw [zu] at hg;subst hg;rw [hf] at e2;simp at e2,fun g hg=>by rw [xrM,if_neg (by rw [hf];simp),zC];exact h.ps g hg,by rw [z7];have:=h.len;omega⟩
theorem xtb {R:List Row} {r:Row} {j:Nat} (h:R.findIdx? (fun x=>decide (x=r))=some j):∃ hj:j<R.length,R[j]=r:=by
 obtain ⟨hj,h1,_⟩:=List.findIdx?_eq_some_iff_getElem.1 h;exact ⟨hj,by simpa using h1⟩
theorem xz4 {R:List Row} {r:Row} (h:R.findIdx? (fun x=>decide (x=r))=none):r∉R:=fun hr=>by
 have:=List.findIdx?_eq_none_iff.1 h r hr;simp at this
theorem xwK {G:List Grp} {j:Nat} (hj:j<G.length) {ps:List Per} {r:Row} (hr:G[j].1=r):(G.set j (r,ps)).map (·.1)=G.map (·.1):=by
 rw [List.map_set];show (G.map (·.1)).set j r=_;rw [<-hr];have:(G.map (·.1))[j]'(by simpa using hj)=G[j].1:=by simp
 rw [<-this];exact List.set_getElem_self _
theorem GI.upd {l:List Fc} {G:List Grp} (h:GI l G) {f:Fc} (hf:pv f.p=true):GI (l++[f]) (M.upd G f):=by
 unfold M.upd;cases hi:(G.map (·.1)).findIdx? fun x=>decide (x=f.r) with
 | some j =>
  obtain ⟨hj,hr⟩:=xtb hi;rw [z8] at hj;rw [List.getElem_map] at hr;dsimp only;have gd:G.getD j ([],[])=G[j]:=by rw [z6,zd hj];rfl
  rw [gd];refine ⟨by rw [xwK hj hr];exact h.nd,fun r=>?_,fun g hg=>?_,by rw [y1,z7];have:=h.len;omega⟩
  . rw [xwK hj hr,h.mem];refine ⟨fun ⟨g,hg,e⟩=>⟨g,by simp [hg],e⟩,fun ⟨g,hg,e1,e2⟩=>?_⟩
    rcases zF.1 hg with hg|hg
    . exact ⟨g,hg,e1,e2⟩
    . rw [zu] at hg;subst hg;refine (h.mem r).1 ?_;rw [<-e1,<-hr];exact zJ.2 ⟨G[j],zn hj,rfl⟩
  . obtain ⟨i,q,rfl⟩:=zo.1 hg;rw [y1] at q;rw [List.getElem_set];by_cases O:j=i
    . subst O;rw [if_pos rfl,xrM,if_pos ⟨rfl,hf⟩,h.ps _ (zn hj),hr]
    . rw [if_neg O,xrM,if_neg ?_,zC]
      . exact h.ps _ (zn q)
      . rintro ⟨e,_⟩;have hn:=zA.1 h.nd;have ei:(G.map (·.1))[i]'(by simpa using q)=G[i].1:=by simp
        have ej:(G.map (·.1))[j]'(by simpa using hj)=G[j].1:=by simp
        rcases Nat.lt_or_gt_of_ne O with J|J
        . exact hn j i (by simpa using hj) (by simpa using q) J (by rw [ei,ej,hr,e])
        . exact hn i j (by simpa using q) (by simpa using hj) J (by rw [ei,ej,hr,e])
 | none =>
  have hr:=xz4 hi;dsimp only;have hz:psOf l f.r=[]:=by
   unfold psOf;rw [List.map_eq_nil_iff,List.filter_eq_nil_iff];intro g hg he;simp only [ze,zk] at he;exact hr ((h.mem _).2 ⟨g,hg,he⟩)
  refine ⟨?_,fun r=>?_,fun g hg=>?_,by rw [z7,z7];have:=h.len;simp;omega⟩
  . rw [zw];refine List.nodup_append.2 ⟨h.nd,by simp,fun a ha b hb e=>?_⟩
    simp at hb;exact hr (by rw [<-hb,<-e];exact ha)
  . rw [zw,zF,h.mem];simp only [zU,zV,zu,zF];constructor
    . rintro (⟨g,hg,e⟩|rfl)
      . exact ⟨g,.inl hg,e⟩
      . exact ⟨f,.inr rfl,rfl,hf⟩
    . rintro ⟨g,hg|rfl,e⟩
      . exact .inl ⟨g,hg,e⟩
      . exact .inr e.1.symm
  . rcases zF.1 hg with hg|hg
    . rw [xrM,if_neg ?_,zC]
      . exact h.ps g hg
      . rintro ⟨e,_⟩;exact hr (by rw [e];exact zJ.2 ⟨g,hg,rfl⟩)
    . rw [zu] at hg;subst hg;rw [xrM,if_pos ⟨rfl,hf⟩,hz];rfl
theorem cG0 (g:Grp):((encG g).cells.getD 0 .top).toList=g.1.map encV:=rfl
theorem xEt {α:Type} (l:List α) (x d:α):(l++[x]).getD l.length d=x:=by simp
theorem xGy {α:Type} (l:List α) (x y:α):(l++[x]).set l.length y=l++[y]:=by simp
theorem xK2 (xs:List AV):(AV.agg xs).cells=xs:=rfl
theorem tolA (n:Nat) (xs:List AV):(AV.list n xs).toList=xs:=rfl
theorem xK5 (k:IntKind) (n:Int):(AV.int k n).toInt=n:=rfl
theorem xK3 (xs:List AV):xL0 2 (.list 2 xs)=true:=rfl
theorem xK8 (n m:Nat):xMn (.int .i64 (n:Int)) m=decide (n<m):=rfl
theorem xK7:xMn (.int .i64 0) 1=true:=rfl
theorem g2a (a b:AV):[a,b].getD 0 .top=a:=rfl
theorem g2b (a b:AV):[a,b].getD 1 .top=b:=rfl
theorem lt2 (a b:AV):([a,b].length==2)=true:=rfl
theorem tk1 (a b:AV):List.take 1 [a,b]=[a]:=rfl
theorem dp2 (a b:AV):List.drop 2 [a,b]=[]:=rfl
theorem xB3 (g:Grp):encG g=.agg [.list 3 (g.1.map encV),.list 2 (g.2.map encP)]:=rfl
theorem xB4 (p:Per):encP p=.agg [.int .i64 p.1,.int .i64 p.2]:=rfl
def R20 (l:List Fc):Prop:=∃ R:List Row,R.length<20/\∀ f,f∈l->f.r∈R
theorem R20.few {l:List Fc} (h:l.length<20):R20 l:=⟨l.map (·.r),by rw [z8];exact h,fun f hf=>zJ.2 ⟨f,hf,rfl⟩⟩
theorem R20.of {l m:List Fc} (h:R20 l) (hm:∀ f,f∈m->∃ g,g∈l/\f.r=g.r):R20 m:=by
 obtain ⟨R,h1,h2⟩:=h;exact ⟨R,h1,fun f hf=>by obtain ⟨g,g1,g2⟩:=hm f hf;rw [g2];exact h2 g g1⟩
def Keyed (l:List Fc):Prop:=Few l/\(∀ f,f∈l->(∀ v,v∈f.r->KOk v)/\(keyOf f.r).length<=17592186044416)/\R20 l
theorem Keyed.key {l:List Fc} (h:Keyed l) {f:Fc} (hf:f∈l):xhf (f.r.map encV)=some (keyOf f.r):=xEC f.r (h.1.2 f hf) (h.2.1 f hf).1 (h.2.1 f hf).2
theorem xFa (l:List Fc) (h:Keyed l) (k:Nat) (hk:k<l.length) (G:List Grp) (hG:GI (l.take k) G) :
  xaY (l.map encF) ((l.length:Nat):Int) (G.length,(k:Int),ents 0 (G.map (·.1)),G.map encG) =
   some (.inl ((if pv l[k].p=true then upd G l[k] else G).length,((k+1:Nat):Int),ents 0 ((if pv l[k].p=true then upd G l[k] else G).map (·.1)),(if pv l[k].p=true then upd G l[k] else G).map encG)):=by
 have hl:=h.1.1;have i1:(k:Int)<(l.length:Int):=by omega
 have gf:(l.map encF).getD k .top=encF l[k]:=xaa _ _ _ hk;have ek:=h.key (zn hk);have kl:=(h.2.1 _ (zn hk)).2;have O:=hG.len;rw [zr] at O;cases hv:pv l[k].p with
 | false =>
  simp only [xaY,xcx,sBU,i1,hk,gf,cF0,cF1,cF2,sF0,sF1,sF2,lF,sF12,sF02,xlw,hv,xKl (n:=k) (by omega)]
  rfl
 | true =>
  have k1:(keyOf l[k].r).length<=4611686018427387904:=by omega
  have hx:=xB5 (G.map (·.1)) 0 l[k].r;have n1:(ents 0 (G.map (·.1))).length<4611686018427387904:=by rw [xz1,z8];omega
  have m1:(G.length+1)*48<=140737488355328:=by omega
  have m2:G.length+1<=4611686018427387904:=by omega
  simp only [if_true];cases hi:(G.map (·.1)).findIdx? fun x=>decide (x=l[k].r) with
  | none =>
   rw [hi] at hx;have hu:upd G l[k]=G++[(l[k].r,[l[k].p])]:=by unfold upd;rw [hi]
   have hh:xLQ (ents 0 (G.map (·.1))) (keyOf l[k].r)=false:=by unfold xLQ;rw [hx];rfl
   have hg:xLE (AV.int .i64 0) (ents 0 (G.map (·.1))) (keyOf l[k].r)=AV.int .i64 0:=by unfold xLE;rw [hx]
   have hp:xLC (ents 0 (G.map (·.1))) (keyOf l[k].r) (AV.int .i64 (G.length:Int))=ents 0 ((G++[(l[k].r,[l[k].p])]).map (·.1)):=by
    unfold xLC;rw [hx,zw];show _=ents 0 (G.map (·.1)++[l[k].r]);rw [xw8,z8,zG]
   have i2:(G.length:Int)<((G.length+1:Nat):Int):=by omega
   have J:xLj (Sh.int .i64) (AV.int .i64 0)=true:=rfl;have gl:∀ x:AV,(G.map encG++[x]).getD G.length .top=x:=fun x=>by have:=xEt (G.map encG) x .top;rwa [z8] at this
   have sl:∀ x y:AV,(G.map encG++[x]).set G.length y=G.map encG++[y]:=fun x y=>by have:=xGy (G.map encG) x y;rwa [z8] at this
   rw [hu];simp only [xaY,xcx,xfJ,xfK,xcJ,xcK,xdG,xfL,xdH,xap,xfM,xaq,xaG,xaj,xdg,xeM,xeN,xa7,xeO,xdh,xbL,sBU,i1,hk,gf,cF0,cF1,cF2,sF0,sF1,sF2,lF,sF12,sF02,xlw,hv,xKl (n:=k) (by omega),ek,k1,hh,hg,hp,n1,m1,m2,i2,J,gl,sl,z7,zi,zw,zU,zV,xK2,tolA,xK5,xK3,xK8,g2a,g2b,lt2,tk1,dp2,y1,Nat.lt_succ_self,Bool.and_self,List.length_nil,zG,xB3,xB4,List.singleton_append,zT,zC,Int.natCast_zero]
   try simp [xab,xK7,sUF]
  | some j =>
   obtain ⟨hj,hr⟩:=xtb hi;rw [hi] at hx;have q:j<G.length:=by simpa using hj
   rw [List.getElem_map] at hr;have gd:G.getD j ([],[])=G[j]:=by rw [z6,zd q];rfl
   have hu:upd G l[k]=G.set j (l[k].r,G[j].2++[l[k].p]):=by unfold upd;rw [hi];dsimp only;rw [gd]
   have hh:xLQ (ents 0 (G.map (·.1))) (keyOf l[k].r)=true:=by unfold xLQ;rw [hx];rfl
   have hg:xLE (AV.int .i64 0) (ents 0 (G.map (·.1))) (keyOf l[k].r)=AV.int .i64 (j:Int):=by
    unfold xLE;rw [hx];dsimp only;rw [xz0 _ _ _ hj,zG];rfl
   have gj:(G.map encG).getD j .top=encG G[j]:=xaa _ _ _ q;have i2:(j:Int)<(G.length:Int):=by omega
   have J:xLj (Sh.int .i64) (AV.int .i64 (j:Int))=true:=rfl;have pl:G[j].2.length<=k:=by
    rw [hG.ps _ (zn q)];have:=xEW (l.take k) G[j].1;rw [zr] at this;omega
   have m3:(G[j].2.length+1)*16<=140737488355328:=by omega
   have m4:G[j].2.length+1<=4611686018427387904:=by omega
   have gs:∀ x:AV,((G.map encG).set j x).getD j .top=x:=fun x=>by
    rw [z6,zK (by simpa using q)];rfl
   have ss:∀ x y:AV,((G.map encG).set j x).set j y=(G.map encG).set j y:=fun x y=>List.set_set ..
   have tj:(AV.int IntKind.i64 (j:Int)).toInt=(j:Int):=rfl;have cj:(encG G[j]).cells=[.list 3 (l[k].r.map encV),.list 2 (G[j].2.map encP)]:=by rw [<-hr];rfl
   rw [hu,xwK q hr,y1,List.map_set];simp only [xaY,xcx,xfJ,xfK,xcJ,xcK,xdG,xfL,xdH,xap,xfM,xaq,xaG,xaj,xdg,xeM,xeN,xa7,xeO,xdh,xbL,sBU,i1,hk,gf,cF0,cF1,cF2,sF0,sF1,sF2,lF,sF12,sF02,xlw,hv,xKl (n:=k) (by omega),ek,k1,hh,hg,i2,J,tj,gj,cj,q,y1,gs,ss,xK2,tolA,xK5,xK3,xK8,g2a,g2b,lt2,tk1,dp2,m3,m4,Bool.and_self,z7,zi,Nat.lt_succ_self,xB3,xB4,zw,zU,zV,List.singleton_append,zC]
   try simp [xab,xK7,hr,sUF]
def grp (l:List Fc):List Grp:=l.foldl (fun G f=>if pv f.p=true then upd G f else G) []
theorem xAf (l:List Fc) (f:Fc):grp (l++[f])=if pv f.p=true then upd (grp l) f else grp l:=by simp [grp]
theorem xEu:∀ l:List Fc,GI l.reverse (grp l.reverse)
 | []=>GI.nil
 | f::l=>by
  rw [List.reverse_cons,xAf];have ih:=xEu l;cases hv:pv f.p with
  | true=>rw [if_pos rfl];exact ih.upd hv
  | false=>rw [if_neg (by simp)];exact ih.skip hv
theorem xEv (l:List Fc):GI l (grp l):=by have:=xEu l.reverse;rwa [List.reverse_reverse] at this
theorem xE9 (l:List Fc) (h:Keyed l):Iter (xaY (l.map encF) ((l.length:Nat):Int)) ((0:Nat),(0:Int),[],[])=some ((grp l).length,(grp l).map encG):=by
 refine xnb (fun k=>(((grp (l.take k)).length,((k:Nat):Int),ents 0 ((grp (l.take k)).map (·.1)),(grp (l.take k)).map encG):Nat×Int×List AV×List AV)) l.length _ (fun k hk=>?_) ?_ l.length 0 (by omega)
 . rw [xFa l h k hk (grp (l.take k)) (xEv _)];have tk:l.take (k+1)=l.take k++[l[k]]:=by rw [List.take_add_one,zd hk];rfl
   rw [tk,xAf]
 . simp only [xaY,xcx,z8,zx,zl,xae,y3,sUF]
theorem xHg (x y:Grp) (hx:x.1.length<=4398046511104):xKT (encG x) (encG y)=true/\xKV (encG x) (encG y)=cmpR x.1 y.1:=by
 have e:xfc (x.1.map encV) (x.2.map encP) (y.1.map encV) (y.2.map encP)=some (cmpR x.1 y.1):=by
  unfold xfc xk1;rw [xtI x.1 y.1 (by unfold maxLen;omega)];rfl
 have e2:xfc ((encG x).cells.getD 0 .top).toList ((encG x).cells.getD 1 .top).toList ((encG y).cells.getD 0 .top).toList ((encG y).cells.getD 1 .top).toList=some (cmpR x.1 y.1):=e;unfold xKT xKV;rw [e2];exact ⟨rfl,rfl⟩
theorem xHI (l:List Fc) (h:Keyed l):∃ S:List Grp,xit (l.map encF)=some (S.map encG)/\IsRows l (S.map (·.1))/\(∀ g,g∈S->g.2=psOf l g.1)/\S.length<=l.length:=by
 have hg:=xEv l;have Q:=h.1.1;have O:=hg.len;have cG:Cm fun x y:Grp=>cmpR x.1 y.1:=xta.on (e:=fun x:Grp=>x.1)
 obtain ⟨R,U,hR⟩:=h.2.2;have J:(grp l).length<20:=by
  have:=hg.nd.length_le_of_subset (l₂:=R) fun r hr=>by
   obtain ⟨f,hf,e,_⟩:=(hg.mem r).1 hr;rw [<-e];exact hR f hf
  rw [z8] at this;omega
 obtain ⟨r,e,p,s⟩:=xte cG.ord [] (grp l) [];simp only [zT,zC,List.length_nil,zG] at e;have es:=xJx (N:=(grp l).length) (by omega) (ok:=fun g=>g.1.length<=1048576) (c:=fun x y:Grp=>cmpR x.1 y.1) (fun x y hx hy=>xHg x y (by omega)) J (grp l) r rfl (fun g q=>by
  obtain ⟨f,hf,e,_⟩:=(hg.mem g.1).1 (zJ.2 ⟨g,q,rfl⟩);rw [<-e];exact h.1.2 f hf) e
 have rl:=p.length_eq;refine ⟨r,?_,⟨?_,fun x=>?_⟩,fun g q=>hg.ps g (p.mem_iff.1 q),by rw [rl];exact O⟩
 . have el:=xE9 l h;have ra:xLR 2 1 ((grp l).map encG)=true:=by
    unfold xLR;rw [zH];intro x hx;obtain ⟨g,_,rfl⟩:=zJ.1 hx;rfl
   have ll:(grp l).length<=r.length:=by omega
   have tt:List.take (grp l).length (r.map encG)=r.map encG:=zh (by rw [z8];omega)
   unfold xit xlV xk2 xk3 xhT xk4 xk5 xk6;simp only [z8,el,zj,zg,xab,ra,es,zG,ll,zm,zR,zq,tt,sUF]
 . refine xFh (fun _ _=>xn1) ?_ ?_
   . exact List.pairwise_map.2 s
   . exact ((p.map (·.1)).nodup_iff).2 hg.nd
 . rw [(p.map (·.1)).mem_iff];exact hg.mem x
end Go.Sim.M
end
noncomputable section
set_option maxRecDepth 100000
namespace Go.Sim.M
open Go.RowKit Go.Lib
def xov (l:List AV) (i:Int):Bool:=decide ((0:Int)<=i)&&decide (i<(↑l.length:Int))
def xsA {T:Type} (l:List AV) (out_n:Nat) (q:Int) (na:Int) (nb:Int) (i:Int) (out_xs:List AV) (δ:T) (κl:(Int×Int×Int×List AV)->T) (κr:(Int×Int×Int×List AV)->T):T:=br (decide (i<(↑l.length:Int))) (br (xov l i) (br (decide (i.toNat<l.length)&&xLj (Sh.int IntKind.i64) ((l.getD i.toNat AV.top).cells.getD (0:Nat) AV.top)) (br (((l.getD i.toNat AV.top).cells.getD (0:Nat) AV.top).toInt==q) (br (xov l i) (br (decide (i.toNat<l.length)&&xLj (Sh.int IntKind.i64) ((l.getD i.toNat AV.top).cells.getD (1:Nat) AV.top)) (br (xov l i) (br (decide (i.toNat<l.length)&&xLj (Sh.int IntKind.i64) ((l.getD i.toNat AV.top).cells.getD (2:Nat) AV.top)) (κl (IntKind.i64.wrap (na+((l.getD i.toNat AV.top).cells.getD (1:Nat) AV.top).toInt),IntKind.i64.wrap (nb+((l.getD i.toNat AV.top).cells.getD (2:Nat) AV.top).toInt),IntKind.i64.wrap (i+(1:Int)),out_xs)) (δ)) (δ)) (δ)) (δ)) (κr (na,nb,i,out_xs))) (δ)) (δ)) (κr (na,nb,i,out_xs))
def xg0 (l:List AV) (out_n:Nat) (q:Int):(Int×Int×Int×List AV)->Option ((Int×Int×Int×List AV)⊕(Int×Int×Int×List AV)):=fun (na,nb,i,out_xs)=>xsA l out_n q na nb i out_xs none (fun s=>some (.inl s)) (fun p=>some (.inr p))
def xlF (keep:Bool->Bool->Bool) (out_n:Nat):Bool:=decide ((0:Int)<=IntKind.i64.wrap ((↑out_n:Int) - (1:Int)))&&decide (IntKind.i64.wrap ((↑out_n:Int) - (1:Int))<(↑out_n:Int))
def xpo (keep:Bool->Bool->Bool) (l:List AV) (out_n:Nat) (na:Int) (nb:Int) (i:Int) (q:Int) (out_xs:List AV):Int×Int×Int×List AV:=(Iter (xg0 l out_n q) (na,nb,i,out_xs)).getD ((0:Int),(0:Int),(0:Int),[])
def xbx (keep:Bool->Bool->Bool) (out_n:Nat):Nat:=(0:Nat)+(IntKind.i64.wrap ((↑out_n:Int) - (1:Int))).toNat
def xq5 (keep:Bool->Bool->Bool) (l:List AV) (out_n:Nat) (na:Int) (nb:Int) (i:Int) (q:Int) (out_xs:List AV):Int×Int×List AV:=(xpo keep l out_n na nb i q out_xs).snd
def xei (keep:Bool->Bool->Bool) (l:List AV) (out_n:Nat) (na:Int) (nb:Int) (i:Int) (q:Int) (out_xs:List AV):Int:=(xpo keep l out_n na nb i q out_xs).fst
def xq4 (keep:Bool->Bool->Bool) (l:List AV) (out_n:Nat) (na:Int) (nb:Int) (i:Int) (q:Int) (out_xs:List AV):Int×List AV:=(xq5 keep l out_n na nb i q out_xs).snd
def xeh (keep:Bool->Bool->Bool) (l:List AV) (out_n:Nat) (na:Int) (nb:Int) (i:Int) (q:Int) (out_xs:List AV):Int:=(xq5 keep l out_n na nb i q out_xs).fst
def xaI (keep:Bool->Bool->Bool) (l:List AV) (out_n:Nat) (na:Int) (nb:Int) (i:Int) (q:Int) (out_xs:List AV):List AV:=(xq4 keep l out_n na nb i q out_xs).snd
def xq2 (keep:Bool->Bool->Bool) (l:List AV) (out_n:Nat) (na:Int) (nb:Int) (i:Int) (q:Int) (out_xs:List AV):Bool:=keep (decide (xei keep l out_n na nb i q out_xs>(0:Int))) (decide (xeh keep l out_n na nb i q out_xs>(0:Int)))
def xaU (keep:Bool->Bool->Bool) (l:List AV) (out_n:Nat) (na:Int) (nb:Int) (i:Int) (q:Int) (out_xs:List AV):Int:=(xq4 keep l out_n na nb i q out_xs).fst
def xlE (keep:Bool->Bool->Bool) (l:List AV) (out_n:Nat) (na:Int) (nb:Int) (i:Int) (q:Int) (out_xs:List AV):Bool:=decide (xbx keep out_n<(xaI keep l out_n na nb i q out_xs).length)
def xq3 (keep:Bool->Bool->Bool) (l:List AV) (out_n:Nat) (na:Int) (nb:Int) (i:Int) (q:Int) (out_xs:List AV):Bool:=decide (xaU keep l out_n na nb i q out_xs<(↑l.length:Int))
def xnH {T:Type} (keep:Bool->Bool->Bool) (l:List AV) (out_n:Nat) (na:Int) (nb:Int) (i:Int) (q:Int) (out_xs:List AV) (δ:T) (κl:(Nat×Int×Int×Int×Int×List AV)->T) (κr:(Nat×List AV)->T):T:=br (decide (q<(1099511627776:Int))) (br ((Iter (xg0 l out_n q) (na,nb,i,out_xs)).isSome) (br (xq3 keep l out_n na nb i q out_xs) (br (decide ((0:Int)<=xaU keep l out_n na nb i q out_xs)&&xq3 keep l out_n na nb i q out_xs) (br (decide ((xaU keep l out_n na nb i q out_xs).toNat<l.length)&&xLj (Sh.int IntKind.i64) ((l.getD (xaU keep l out_n na nb i q out_xs).toNat AV.top).cells.getD (0:Nat) AV.top)) (br (xq2 keep l out_n na nb i q out_xs) (br (decide ((↑out_n:Int)>(0:Int))) (br (xlF keep out_n) (br (xlE keep l out_n na nb i q out_xs&&xLj (Sh.int IntKind.i64) (((xaI keep l out_n na nb i q out_xs).getD (xbx keep out_n) AV.top).cells.getD (1:Nat) AV.top)) (br ((((xaI keep l out_n na nb i q out_xs).getD (xbx keep out_n) AV.top).cells.getD (1:Nat) AV.top).toInt==q) (br (xlF keep out_n) (br (xlE keep l out_n na nb i q out_xs) (κl (out_n,xei keep l out_n na nb i q out_xs,xeh keep l out_n na nb i q out_xs,xaU keep l out_n na nb i q out_xs,((l.getD (xaU keep l out_n na nb i q out_xs).toNat AV.top).cells.getD (0:Nat) AV.top).toInt,(xaI keep l out_n na nb i q out_xs).set (xbx keep out_n) (AV.agg (List.take (1:Nat) ((xaI keep l out_n na nb i q out_xs).getD (xbx keep out_n) AV.top).cells++[AV.int IntKind.i64 ((l.getD (xaU keep l out_n na nb i q out_xs).toNat AV.top).cells.getD (0:Nat) AV.top).toInt]++List.drop (2:Nat) ((xaI keep l out_n na nb i q out_xs).getD (xbx keep out_n) AV.top).cells)))) (δ)) (δ)) (br (out_n==(xaI keep l out_n na nb i q out_xs).length&&(decide ((out_n+(1:Nat))*(16:Nat)<=(140737488355328:Nat))&&decide (out_n+(1:Nat)<=(4611686018427387904:Nat)))) (κl (out_n+(1:Nat),xei keep l out_n na nb i q out_xs,xeh keep l out_n na nb i q out_xs,xaU keep l out_n na nb i q out_xs,((l.getD (xaU keep l out_n na nb i q out_xs).toNat AV.top).cells.getD (0:Nat) AV.top).toInt,xaI keep l out_n na nb i q out_xs++[AV.agg [AV.int IntKind.i64 q,AV.int IntKind.i64 ((l.getD (xaU keep l out_n na nb i q out_xs).toNat AV.top).cells.getD (0:Nat) AV.top).toInt]])) (δ))) (δ)) (δ)) (br (out_n==(xaI keep l out_n na nb i q out_xs).length&&(decide ((out_n+(1:Nat))*(16:Nat)<=(140737488355328:Nat))&&decide (out_n+(1:Nat)<=(4611686018427387904:Nat)))) (κl (out_n+(1:Nat),xei keep l out_n na nb i q out_xs,xeh keep l out_n na nb i q out_xs,xaU keep l out_n na nb i q out_xs,((l.getD (xaU keep l out_n na nb i q out_xs).toNat AV.top).cells.getD (0:Nat) AV.top).toInt,xaI keep l out_n na nb i q out_xs++[AV.agg [AV.int IntKind.i64 q,AV.int IntKind.i64 ((l.getD (xaU keep l out_n na nb i q out_xs).toNat AV.top).cells.getD (0:Nat) AV.top).toInt]])) (δ))) (κl (out_n,xei keep l out_n na nb i q out_xs,xeh keep l out_n na nb i q out_xs,xaU keep l out_n na nb i q out_xs,((l.getD (xaU keep l out_n na nb i q out_xs).toNat AV.top).cells.getD (0:Nat) AV.top).toInt,xaI keep l out_n na nb i q out_xs))) (δ)) (δ)) (br (xq2 keep l out_n na nb i q out_xs) (br (decide ((↑out_n:Int)>(0:Int))) (br (xlF keep out_n) (br (xlE keep l out_n na nb i q out_xs&&xLj (Sh.int IntKind.i64) (((xaI keep l out_n na nb i q out_xs).getD (xbx keep out_n) AV.top).cells.getD (1:Nat) AV.top)) (br ((((xaI keep l out_n na nb i q out_xs).getD (xbx keep out_n) AV.top).cells.getD (1:Nat) AV.top).toInt==q) (br (xlF keep out_n) (br (xlE keep l out_n na nb i q out_xs) (κl (out_n,xei keep l out_n na nb i q out_xs,xeh keep l out_n na nb i q out_xs,xaU keep l out_n na nb i q out_xs,(1099511627776:Int),(xaI keep l out_n na nb i q out_xs).set (xbx keep out_n) (AV.agg (List.take (1:Nat) ((xaI keep l out_n na nb i q out_xs).getD (xbx keep out_n) AV.top).cells++[AV.int IntKind.i64 (1099511627776:Int)]++List.drop (2:Nat) ((xaI keep l out_n na nb i q out_xs).getD (xbx keep out_n) AV.top).cells)))) (δ)) (δ)) (br (out_n==(xaI keep l out_n na nb i q out_xs).length&&(decide ((out_n+(1:Nat))*(16:Nat)<=(140737488355328:Nat))&&decide (out_n+(1:Nat)<=(4611686018427387904:Nat)))) (κl (out_n+(1:Nat),xei keep l out_n na nb i q out_xs,xeh keep l out_n na nb i q out_xs,xaU keep l out_n na nb i q out_xs,(1099511627776:Int),xaI keep l out_n na nb i q out_xs++[AV.agg [AV.int IntKind.i64 q,AV.int IntKind.i64 (1099511627776:Int)]])) (δ))) (δ)) (δ)) (br (out_n==(xaI keep l out_n na nb i q out_xs).length&&(decide ((out_n+(1:Nat))*(16:Nat)<=(140737488355328:Nat))&&decide (out_n+(1:Nat)<=(4611686018427387904:Nat)))) (κl (out_n+(1:Nat),xei keep l out_n na nb i q out_xs,xeh keep l out_n na nb i q out_xs,xaU keep l out_n na nb i q out_xs,(1099511627776:Int),xaI keep l out_n na nb i q out_xs++[AV.agg [AV.int IntKind.i64 q,AV.int IntKind.i64 (1099511627776:Int)]])) (δ))) (κl (out_n,xei keep l out_n na nb i q out_xs,xeh keep l out_n na nb i q out_xs,xaU keep l out_n na nb i q out_xs,(1099511627776:Int),xaI keep l out_n na nb i q out_xs)))) (δ)) (κr (out_n,out_xs))
def xfa (keep:Bool->Bool->Bool) (l:List AV):(Nat×Int×Int×Int×Int×List AV)->Option ((Nat×Int×Int×Int×Int×List AV)⊕(Nat×List AV)):=fun (out_n,na,nb,i,q,out_xs)=>xnH keep l out_n na nb i q out_xs none (fun s=>some (.inl s)) (fun p=>some (.inr p))
def xwb (keep:Bool->Bool->Bool) (a:List AV) (b:List AV):Option (Nat×List AV):=Iter (xfa keep ((xgJ a b).getD [])) ((0:Nat),(0:Int),(0:Int),(0:Int),(0:Int),[])
def xwa (keep:Bool->Bool->Bool) (a:List AV) (b:List AV):Nat×List AV:=(xwb keep a b).getD ((0:Nat),[])
def xv8 (keep:Bool->Bool->Bool) (a:List AV) (b:List AV):List AV:=(xwa keep a b).snd
def xv9 (keep:Bool->Bool->Bool) (a:List AV) (b:List AV):Nat:=(xwa keep a b).fst
def xGW {T:Type} (keep:Bool->Bool->Bool) (a:List AV) (b:List AV) (δ:T) (κ:List AV->T):T:=br ((xgJ a b).isSome) (br ((xwb keep a b).isSome) (br (decide ((0:Nat)+xv9 keep a b<=(xv8 keep a b).length)&&true) (κ (List.take (xv9 keep a b) (List.drop (0:Nat) (xv8 keep a b)))) (δ)) (δ)) (δ)
def swG (keep:Bool->Bool->Bool) (a:List AV) (b:List AV):Option (List AV):=xGW keep a b none some
end Go.Sim.M
end
noncomputable section
set_option maxRecDepth 100000
namespace Go.Sim.M
open Go.RowKit Go.Lib Go.Sort
def xKm (e:Edg):AV:=.agg [.int .i64 e.1,.int .i64 e.2.1,.int .i64 e.2.2]
theorem xuf (x y:Int):∀ a b,xKh x y (a++b)=xKh x y a++xKh x y b
 | [],b=>rfl
 | p::a,b=>by
  simp only [List.cons_append,xKh,xuf x y a b];split<;>rfl
theorem xvt (x y:Int) (l:List Per) (n:Nat) (h:n<l.length):xKh x y (l.take (n+1))=xKh x y (l.take n)++(if pv l[n]=true then [(l[n].1,x,y),(l[n].2,-x,-y)] else []):=by
 rw [List.take_add_one,zd h];show xKh x y (l.take n++[l[n]])=_;rw [xuf];rfl
theorem xud (B:List AV) (l:List Per) (hl:l.length<=1073741824):∀ (k n:Nat),n+k=l.length ->
  Iter (xbH B (l.map encP) ((l.length:Nat):Int)) ((xKh 1 0 (l.take n)).length,((n:Nat):Int),(xKh 1 0 (l.take n)).map xKm)=some ((xKh 1 0 l).length,(xKh 1 0 l).map xKm)
 | 0,n,hk=>by
  obtain rfl:n=l.length:=by omega
  rw [zh (zb _)];refine xam ?_;unfold xbH;simp only;unfold xi7;rw [decide_eq_false (by omega:¬ ((l.length:Nat):Int)<((l.length:Nat):Int))]
  rfl
 | k+1,n,hk=>by
  have h1:n<l.length:=by omega
  have J:=xjo 1 0 (l.take n);have q:(l.take n).length<=n:=by rw [zr];omega
  have d1:((n:Nat):Int)<((l.length:Nat):Int):=by omega
  have d2:(0:Int)<=((n:Nat):Int):=by omega
  have d3:((xKh 1 0 (l.take n)).length+2)*24<=140737488355328:=by omega
  have d4:(xKh 1 0 (l.take n)).length+2<=4611686018427387904:=by omega
  have d5:((xKh 1 0 (l.take n)).length==(xKh 1 0 (l.take n)).length)=true:=by simp
  have gf:(l.map encP).getD n .top=encP l[n]:=xaa _ _ _ h1;have c0:((encP l[n]).cells.getD 0 .top).toInt=l[n].1:=rfl;have c1:((encP l[n]).cells.getD 1 .top).toInt=l[n].2:=rfl;have sh:((encP l[n]).cells.length==(2:Nat)&&xLq [Sh.int IntKind.i64,Sh.int IntKind.i64] (encP l[n]).cells (0:Nat))=true:=rfl;have st:xbH B (l.map encP) ((l.length:Nat):Int) ((xKh 1 0 (l.take n)).length,((n:Nat):Int),(xKh 1 0 (l.take n)).map xKm) =
    some (.inl ((xKh 1 0 (l.take (n+1))).length,((n+1:Nat):Int),(xKh 1 0 (l.take (n+1))).map xKm)):=by
   rw [xvt 1 0 l n h1];unfold xbH;simp only;unfold xi7;rw [zM,gf,sh,c0,c1,xlw,z8,z8,decide_eq_true d1,decide_eq_true d2,decide_eq_true h1,decide_eq_true d3,decide_eq_true d4,d5,xlr (show n+1<=maxLen by unfold maxLen;omega)]
   cases pv l[n] with
   | true=>simp only [if_true,z7,zw];rfl
   | false=>simp only [zS,if_false,zC];rfl
  rw [xaF st];exact xud B l hl k (n+1) (by omega)
theorem xue (E0:List Edg) (l:List Per) (hl:l.length<=1073741824) (hE:E0.length<=2147483648):∀ (k n:Nat),n+k=l.length ->
  Iter (xc8 (l.map encP) ((l.length:Nat):Int)) ((E0++xKh 0 1 (l.take n)).length,((n:Nat):Int),(E0++xKh 0 1 (l.take n)).map xKm)=some ((E0++xKh 0 1 l).length,(E0++xKh 0 1 l).map xKm)
 | 0,n,hk=>by
  obtain rfl:n=l.length:=by omega
  rw [zh (zb _)];refine xam ?_;unfold xc8;simp only;unfold xi8;rw [decide_eq_false (by omega:¬ ((l.length:Nat):Int)<((l.length:Nat):Int))]
  rfl
 | k+1,n,hk=>by
  have h1:n<l.length:=by omega
  have J:=xjo 0 1 (l.take n);have q:(l.take n).length<=n:=by rw [zr];omega
  have O:(E0++xKh 0 1 (l.take n)).length=E0.length+(xKh 0 1 (l.take n)).length:=z7;have d1:((n:Nat):Int)<((l.length:Nat):Int):=by omega
  have d2:(0:Int)<=((n:Nat):Int):=by omega
  have d3:((E0++xKh 0 1 (l.take n)).length+2)*24<=140737488355328:=by omega
  have d4:(E0++xKh 0 1 (l.take n)).length+2<=4611686018427387904:=by omega
  have d5:((E0++xKh 0 1 (l.take n)).length==(E0++xKh 0 1 (l.take n)).length)=true:=by simp
  have gf:(l.map encP).getD n .top=encP l[n]:=xaa _ _ _ h1;have c0:((encP l[n]).cells.getD 0 .top).toInt=l[n].1:=rfl;have c1:((encP l[n]).cells.getD 1 .top).toInt=l[n].2:=rfl;have sh:((encP l[n]).cells.length==(2:Nat)&&xLq [Sh.int IntKind.i64,Sh.int IntKind.i64] (encP l[n]).cells (0:Nat))=true:=rfl;have st:xc8 (l.map encP) ((l.length:Nat):Int) ((E0++xKh 0 1 (l.take n)).length,((n:Nat):Int),(E0++xKh 0 1 (l.take n)).map xKm) =
    some (.inl ((E0++xKh 0 1 (l.take (n+1))).length,((n+1:Nat):Int),(E0++xKh 0 1 (l.take (n+1))).map xKm)):=by
   rw [xvt 0 1 l n h1,<-zv];unfold xc8;simp only;unfold xi8;rw [zM,gf,sh,c0,c1,xlw,z8,z8,decide_eq_true d1,decide_eq_true d2,decide_eq_true h1,decide_eq_true d3,decide_eq_true d4,d5,xlr (show n+1<=maxLen by unfold maxLen;omega)]
   cases pv l[n] with
   | true=>rw [if_pos rfl,z7 (bs:=[(l[n].1,0,1),(l[n].2,-0,-1)]),zw (l₂:=[(l[n].1,0,1),(l[n].2,-0,-1)])];rfl
   | false=>rw [if_neg (by simp),zC];rfl
  rw [xaF st];exact xue E0 l hl hE k (n+1) (by omega)
def toE (e:Edg):TyE:=(Fin.ofNat 1099511627777 e.1.toNat,e.2.1,e.2.2)
def ofE (x:TyE):Edg:=((x.1.val:Int),x.2.1,x.2.2)
theorem xHu {e:Edg} (h1:0<=e.1) (h2:e.1<=1099511627776):ofE (toE e)=e:=by
 have:e.1.toNat % 1099511627777=e.1.toNat:=Nat.mod_eq_of_lt (by omega)
 simp only [ofE,toE,Fin.ofNat,this,Int.toNat_of_nonneg h1]
theorem xHR (E:List Edg) (h:∀ e,e∈E->0<=e.1/\e.1<=1099511627776):(E.map xKm).all isE=true/\∃ S:List Edg,srtE (E.map xKm)=S.map xKm/\S.Perm E/\S.Pairwise fun x y=>x.1<=y.1:=by
 refine ⟨?_,(pdqL cmpE (E.map toE)).map ofE,?_,?_,?_⟩
 . rw [zH];intro x hx;obtain ⟨e,he,rfl⟩:=zJ.1 hx;have:=h e he;show (decide _&&decide _)=true;rw [decide_eq_true this.1,decide_eq_true this.2];rfl
 . unfold srtE;have e1:(E.map xKm).map decE=E.map toE:=by rw [List.map_map];rfl
   rw [e1,List.map_map];rfl
 . have hp:=((xn8 cmpE swoE (E.map toE)).1).map ofE;have e2:(E.map toE).map ofE=E:=by
    rw [List.map_map]
    conv=>rhs;rw [<-List.map_id E]
    refine List.map_congr_left fun e he=>?_
    exact xHu (h e he).1 (h e he).2
   rwa [e2] at hp
 . rw [List.pairwise_map];refine (xuq cmpE swoE (E.map toE)).imp fun {x y} q=>?_
   show ((x.1.val:Nat):Int)<=((y.1.val:Nat):Int);unfold cmpE at q;omega
theorem xFR (a b:List Per) (ha:a.length<=1073741824) (hb:b.length<=1073741824) :
  ∃ S:List Edg,xgJ (a.map encP) (b.map encP)=some (S.map xKm)/\S.Perm (xKh 1 0 a++xKh 0 1 b)/\S.Pairwise fun x y=>x.1<=y.1:=by
 have l1:=xjo 1 0 a;have l2:=xjo 0 1 b;have O:(xKh 1 0 a++xKh 0 1 b).length=(xKh 1 0 a).length+(xKh 0 1 b).length:=z7;obtain ⟨J,S,hS,hp,hs⟩:=xHR (xKh 1 0 a++xKh 0 1 b) (fun e he=>by
  rcases zF.1 he with he|he
  . exact xls 1 0 a e he
  . exact xls 0 1 b e he)
 refine ⟨S,?_,hp,hs⟩;have h0:=xud (b.map encP) a ha a.length 0 (by omega)
 rw [List.take_zero] at h0;have h1:=xue (xKh 1 0 a) b hb (by omega) b.length 0 (by omega)
 rw [List.take_zero] at h1;have h0:Iter (xbH (b.map encP) (a.map encP) (((a.map encP).length:Nat):Int)) (0,0,[])=some ((xKh 1 0 a).length,(xKh 1 0 a).map xKm):=by rw [z8];exact h0
 have v4:xkW (a.map encP) (b.map encP)=((xKh 1 0 a).length,(xKh 1 0 a).map xKm):=by unfold xkW;rw [h0];rfl
 have v3:xkV (a.map encP) (b.map encP)=some ((xKh 1 0 a++xKh 0 1 b).length,(xKh 1 0 a++xKh 0 1 b).map xKm):=by
  unfold xkV;rw [v4,z8];have e:xKh 1 0 a++xKh 0 1 []=xKh 1 0 a:=zC _;rw [e] at h1;exact h1
 have v2:xkU (a.map encP) (b.map encP)=((xKh 1 0 a++xKh 0 1 b).length,(xKh 1 0 a++xKh 0 1 b).map xKm):=by unfold xkU;rw [v3];rfl
 have v0:xgd (a.map encP) (b.map encP)=(xKh 1 0 a++xKh 0 1 b).length:=by unfold xgd;rw [v2]
 have v1:xge (a.map encP) (b.map encP)=(xKh 1 0 a++xKh 0 1 b).map xKm:=by unfold xge;rw [v2]
 have q:S.length=(xKh 1 0 a++xKh 0 1 b).length:=hp.length_eq;have d1:(xKh 1 0 a++xKh 0 1 b).length<4611686018427387904:=by omega
 have d2:0+(xKh 1 0 a++xKh 0 1 b).length<=(S.map xKm).length:=by rw [z8,q];omega
 have d3:(xKh 1 0 a++xKh 0 1 b).length.beq (xKh 1 0 a++xKh 0 1 b).length=true:=Nat.beq_refl _;have tk:List.take (xKh 1 0 a++xKh 0 1 b).length (List.drop 0 (S.map xKm))=S.map xKm:=by rw [zq,zh (by rw [z8,q];exact zb _)]
 unfold xgJ xqd;rw [h0,v3,v0,v1,J,hS,tk,z8,d3,decide_eq_true d1,decide_eq_true d2];rfl
theorem xEE (out:List Per) (h:out≠[]):out=out.dropLast++[out[out.length - 1]'(by have:=List.length_pos_iff.2 h;omega)]:=by
 have:=List.dropLast_concat_getLast h;rw [List.getLast_eq_getElem] at this;exact this.symm
section
variable (S : List Edg) (hS1 : ∀ e, e ∈ S -> 0 <= e.1 /\ e.1 <= 1099511627776) (hS2 : ∀ e, e ∈ S -> (-1 <= e.2.1 /\ e.2.1 <= 1) /\ (-1 <= e.2.2 /\ e.2.2 <= 1)) (hS3 : S.Pairwise fun x y => x.1 <= y.1) (hS4 : S.length <= 8589934592)
theorem xwP (g:Edg->Int):∀ l:List Edg,(∀ e,e∈l->-1<=g e/\g e<=1)->-(l.length:Int)<=xKi g l/\xKi g l<=l.length
 | [],_=>by simp [xKi]
 | e::l,h=>by
  have:=xwP g l fun x hx=>h x (List.mem_cons_of_mem _ hx)
  have:=h e (List.mem_cons_self ..);simp only [xKi,zD];omega
theorem xAZ (g:Edg->Int) (n:Nat) (h:n<S.length):xKi g (S.take (n+1))=xKi g (S.take n)+g S[n]:=by
 rw [List.take_add_one,zd h];show xKi g (S.take n++[S[n]])=_;rw [xsV];simp [xKi]
include hS1 hS2 hS3 hS4
theorem xvB (on:Nat) (at':Int) (ox:List AV):∀ (k i:Nat),i+k=S.length->∃ j:Nat,i<=j/\j<=S.length /\
  Iter (xg0 (S.map xKm) on at') (xKi (·.2.1) (S.take i),xKi (·.2.2) (S.take i),((i:Nat):Int),ox)=some (xKi (·.2.1) (S.take j),xKi (·.2.2) (S.take j),((j:Nat):Int),ox) /\
  (∀ (m:Nat) (h:m<S.length),i<=m->m<j->S[m].1=at')/\∀ (h:j<S.length),S[j].1≠at'
 | 0,i,hk=>by
  obtain rfl:i=S.length:=by omega
  refine ⟨S.length,zb _,zb _,xam ?_,fun m _ h1 h2=>by omega,fun h=>absurd h (Nat.lt_irrefl _)⟩
  unfold xg0;simp only;unfold xsA;rw [z8,decide_eq_false (by omega:¬ ((S.length:Nat):Int)<((S.length:Nat):Int))]
  rfl
 | k+1,i,hk=>by
  have h1:i<S.length:=by omega
  have d1:((i:Nat):Int)<((S.length:Nat):Int):=by omega
  have d2:(0:Int)<=((i:Nat):Int):=by omega
  have gf:(S.map xKm).getD i .top=xKm S[i]:=xaa _ _ _ h1;have c0:((xKm S[i]).cells.getD 0 .top).toInt=S[i].1:=rfl;have c1:((xKm S[i]).cells.getD 1 .top).toInt=S[i].2.1:=rfl;have c2:((xKm S[i]).cells.getD 2 .top).toInt=S[i].2.2:=rfl;have s0:xLj (Sh.int IntKind.i64) ((xKm S[i]).cells.getD 0 .top)=true:=rfl;have s1:xLj (Sh.int IntKind.i64) ((xKm S[i]).cells.getD 1 .top)=true:=rfl;have s2:xLj (Sh.int IntKind.i64) ((xKm S[i]).cells.getD 2 .top)=true:=rfl;have v0:xov (S.map xKm) ((i:Nat):Int)=true:=by unfold xov;rw [z8,decide_eq_true d1,decide_eq_true d2];rfl
  by_cases he:S[i].1=at'
  . have hb:=hS2 S[i] (zn h1);have b1:=xwP (·.2.1) (S.take i) fun e he=>(hS2 e (List.mem_of_mem_take he)).1
    have b2:=xwP (·.2.2) (S.take i) fun e he=>(hS2 e (List.mem_of_mem_take he)).2
    have hl:(S.take i).length=i:=by rw [zr];omega
    rw [hl] at b1 b2;have b3:=xAZ S (·.2.1) i h1;have b4:=xAZ S (·.2.2) i h1;have w1:IntKind.i64.wrap (xKi (·.2.1) (S.take i)+S[i].2.1)=xKi (·.2.1) (S.take (i+1)):=by rw [b3];exact xdX (by omega) (by omega)
    have w2:IntKind.i64.wrap (xKi (·.2.2) (S.take i)+S[i].2.2)=xKi (·.2.2) (S.take (i+1)):=by rw [b4];exact xdX (by omega) (by omega)
    have st:xg0 (S.map xKm) on at' (xKi (·.2.1) (S.take i),xKi (·.2.2) (S.take i),((i:Nat):Int),ox)=some (.inl (xKi (·.2.1) (S.take (i+1)),xKi (·.2.2) (S.take (i+1)),((i+1:Nat):Int),ox)):=by
     unfold xg0;simp only;unfold xsA;have e1:(S[i].1==at')=true:=by simp [he]
     rw [v0,zM,gf,s0,s1,s2,c0,c1,c2,z8,decide_eq_true d1,decide_eq_true h1,e1,w1,w2,xlr (show i+1<=maxLen by unfold maxLen;omega)]
     rfl
    obtain ⟨j,j1,j2,j3,j4,j5⟩:=xvB on at' ox k (i+1) (by omega)
    refine ⟨j,by omega,j2,by rw [xaF st];exact j3,fun m hm h2 h3=>?_,j5⟩
    rcases Nat.eq_or_lt_of_le h2 with rfl|h2
    . exact he
    . exact j4 m hm h2 h3
  . refine ⟨i,zb _,by omega,xam ?_,fun m _ h2 h3=>by omega,fun _=>he⟩
    unfold xg0;simp only;unfold xsA;have e1:(S[i].1==at')=false:=by simp [he]
    rw [v0,zM,gf,s0,c0,z8,decide_eq_true d1,decide_eq_true h1,e1];rfl
omit hS1 hS2 hS3 hS4
def SwI (K:Int->Bool) (s:Nat×Int×Int×Int×Int×List AV):Prop :=
 ∃ (out:List Per) (i:Nat) (at':Int),s=(out.length,xKi (·.2.1) (S.take i),xKi (·.2.2) (S.take i),((i:Nat):Int),at',out.map encP)/\0<=at'/\at'<=1099511627776/\i<=S.length /\
  (∀ (m:Nat) (h:m<S.length),m<i->S[m].1<at')/\(∀ (m:Nat) (h:m<S.length),i<=m->at'<=S[m].1)/\OutOk out at' K/\(out.length:Int)<=at'
include hS1 hS2 hS3 hS4
set_option maxHeartbeats 4000000 in
theorem xBQ (keep:Bool->Bool->Bool) (a b:List Per) (hp:S.Perm (xKh 1 0 a++xKh 0 1 b)) (s:Nat×Int×Int×Int×Int×List AV) (hs:SwI S (fun t=>keep (inL a t) (inL b t)) s) :
  (∃ s',xfa keep (S.map xKm) s=some (.inl s')/\SwI S (fun t=>keep (inL a t) (inL b t)) s'/\(1099511627776 - s'.2.2.2.2.1).toNat<(1099511627776 - s.2.2.2.2.1).toNat) \/
  ∃ r,xfa keep (S.map xKm) s=some (.inr r)/\∃ out:List Per,r=(out.length,out.map encP)/\OutOk out 1099511627776 (fun t=>keep (inL a t) (inL b t)):=by
 obtain ⟨out,i,at',rfl,ah,a0,hi,ax,aw,O,a1⟩:=hs;by_cases hF:at'<1099511627776
 . left;obtain ⟨j,j1,j2,j3,j4,j5⟩:=xvB S hS1 hS2 hS3 hS4 out.length at' (out.map encP) (S.length - i) i (by omega)
   have ai:∀ (m:Nat) (h:m<S.length),m<j->S[m].1<=at':=fun m h hm=>by
    by_cases ay:m<i
    . have:=ax m h ay;omega
    . have:=j4 m h (by omega) hm;omega
   have ao:∀ (m:Nat) (h:m<S.length),j<=m->at'<S[m].1:=fun m h hm=>by
    have hj:j<S.length:=by omega
    have h1:=aw j hj (by omega)
    have h2:=j5 hj;have h3:S[j].1<=S[m].1:=by
     rcases Nat.eq_or_lt_of_le hm with rfl|hm
     . exact Int.le_refl _
     . exact zA.1 hS3 j m hj h hm
    omega
   obtain ⟨nx,J⟩:∃ nx:Int,nx=if h:j<S.length then S[j].1 else 1099511627776:=⟨_,rfl⟩
   have ab:at'<nx:=by
    rw [J];split
    . rename_i h;exact ao j h (zb _)
    . exact hF
   have W:nx<=1099511627776:=by
    rw [J];split
    . rename_i h;exact (hS1 _ (zn h)).2
    . exact Int.le_refl _
   have ak:∀ (m:Nat) (h:m<S.length),j<=m->nx<=S[m].1:=fun m h hm=>by
    have hj:j<S.length:=by omega
    rw [J,dif_pos hj];rcases Nat.eq_or_lt_of_le hm with rfl|hm
    . exact Int.le_refl _
    . exact zA.1 hS3 j m hj h hm
   have ag:∀ (g:Edg->Int) (t:Int),at'<=t->t<nx->xKi g (S.take j)=xKs g t S:=fun g t Y Z=>by
    conv=>rhs;rw [<-List.take_append_drop j S]
    rw [xmF,xyW,xv5]
    . omega
    . intro e he;obtain ⟨m,hm,rfl⟩:=zo.1 he;rw [List.getElem_drop];have:=ak (j+m) (by rw [zZ] at hm;omega) (by omega)
      omega
    . intro e he;obtain ⟨m,hm,rfl⟩:=zo.1 he;rw [List.getElem_take];rw [zr] at hm;have:=ai m (by omega) (by omega)
      omega
   have al:∀ t,at'<=t->t<nx->decide (xKi (·.2.1) (S.take j)>0)=inL a t/\decide (xKi (·.2.2) (S.take j)>0)=inL b t:=fun t Y Z=>by
    rw [ag _ t Y Z,ag _ t Y Z,xv6 _ t hp,xv6 _ t hp,xmF,xmF,xsz,xuC,xv7,xuD,Int.add_zero,Int.zero_add,xzY,xzY];exact ⟨rfl,rfl⟩
   obtain ⟨kv,aq⟩:∃ kv:Bool,kv=keep (decide (xKi (·.2.1) (S.take j)>0)) (decide (xKi (·.2.2) (S.take j)>0)):=⟨_,rfl⟩;have hK:∀ t,at'<=t->t<nx->keep (inL a t) (inL b t)=kv:=fun t Y Z=>by
    rw [aq,(al t Y Z).1,(al t Y Z).2]
   have ap:xpo keep (S.map xKm) out.length (xKi (·.2.1) (S.take i)) (xKi (·.2.2) (S.take i)) ((i:Nat):Int) at' (out.map encP)=(xKi (·.2.1) (S.take j),xKi (·.2.2) (S.take j),((j:Nat):Int),out.map encP):=by unfold xpo;rw [j3];rfl
   have v8:xei keep (S.map xKm) out.length (xKi (·.2.1) (S.take i)) (xKi (·.2.2) (S.take i)) ((i:Nat):Int) at' (out.map encP)=xKi (·.2.1) (S.take j):=by unfold xei;rw [ap]
   have v9:xq5 keep (S.map xKm) out.length (xKi (·.2.1) (S.take i)) (xKi (·.2.2) (S.take i)) ((i:Nat):Int) at' (out.map encP)=(xKi (·.2.2) (S.take j),((j:Nat):Int),out.map encP):=by unfold xq5;rw [ap]
   have v7:xeh keep (S.map xKm) out.length (xKi (·.2.1) (S.take i)) (xKi (·.2.2) (S.take i)) ((i:Nat):Int) at' (out.map encP)=xKi (·.2.2) (S.take j):=by unfold xeh;rw [v9]
   have v6:xq4 keep (S.map xKm) out.length (xKi (·.2.1) (S.take i)) (xKi (·.2.2) (S.take i)) ((i:Nat):Int) at' (out.map encP)=(((j:Nat):Int),out.map encP):=by unfold xq4;rw [v9]
   have v1:xaI keep (S.map xKm) out.length (xKi (·.2.1) (S.take i)) (xKi (·.2.2) (S.take i)) ((i:Nat):Int) at' (out.map encP)=out.map encP:=by unfold xaI;rw [v6]
   have v3:xaU keep (S.map xKm) out.length (xKi (·.2.1) (S.take i)) (xKi (·.2.2) (S.take i)) ((i:Nat):Int) at' (out.map encP)=((j:Nat):Int):=by unfold xaU;rw [v6]
   have v2:xq2 keep (S.map xKm) out.length (xKi (·.2.1) (S.take i)) (xKi (·.2.2) (S.take i)) ((i:Nat):Int) at' (out.map encP)=kv:=by unfold xq2;rw [v8,v7,<-aq]
   have v0:xlE keep (S.map xKm) out.length (xKi (·.2.1) (S.take i)) (xKi (·.2.2) (S.take i)) ((i:Nat):Int) at' (out.map encP)=decide (xbx keep out.length<out.length):=by unfold xlE;rw [v1,z8]
   have v5:xq3 keep (S.map xKm) out.length (xKi (·.2.1) (S.take i)) (xKi (·.2.2) (S.take i)) ((i:Nat):Int) at' (out.map encP)=decide (j<S.length):=by
    unfold xq3;rw [v3,z8];by_cases h:j<S.length
    . rw [decide_eq_true h,decide_eq_true (by omega)]
    . rw [decide_eq_false h,decide_eq_false (by omega)]
   have am:(out.length+1)*16<=140737488355328:=by omega
   have aj:out.length+1<=4611686018427387904:=by omega
   have e1:(out.length==out.length)=true:=by simp
   have dF:decide (at'<1099511627776)=true:=decide_eq_true hF;have dj:decide ((0:Int)<=((j:Nat):Int))=true:=decide_eq_true (by omega)
   have Q:∀ h:j<S.length,(((S.map xKm).getD j .top).cells.getD 0 .top).toInt=nx:=fun h=>by
    rw [xaa _ _ _ h,J,dif_pos h];rfl
   have af:∀ h:j<S.length,xLj (Sh.int IntKind.i64) (((S.map xKm).getD j .top).cells.getD 0 .top)=true:=fun h=>by
    rw [xaa _ _ _ h];rfl
   have ad:∀ q:List Per,OutOk q nx (fun t=>keep (inL a t) (inL b t))->(q.length:Int)<=nx->SwI S (fun t=>keep (inL a t) (inL b t)) (q.length,xKi (·.2.1) (S.take j),xKi (·.2.2) (S.take j),((j:Nat):Int),nx,q.map encP):=fun q ho hl =>
    ⟨q,j,nx,rfl,by omega,W,j2,fun m h hm=>by have:=ai m h hm;omega,fun m h hm=>ak m h hm,ho,hl⟩
   have mu:(1099511627776 - nx).toNat<(1099511627776 - at').toNat:=by omega
   cases kv with
   | false =>
    refine ⟨(out.length,xKi (·.2.1) (S.take j),xKi (·.2.2) (S.take j),((j:Nat):Int),nx,out.map encP),?_,ad out (O.skip (by omega) hK) (by omega),mu⟩
    unfold xfa;simp only;unfold xnH;rw [v1,v2,v3,v5,v7,v8,j3,dF,dj,zM,z8];by_cases hj:j<S.length
    . rw [decide_eq_true hj,af hj,Q hj];rfl
    . rw [decide_eq_false hj];have:nx=1099511627776:=by rw [J,dif_neg hj]
      rw [this];rfl
   | true =>
    by_cases hne:out=[]
    . have aa:=O.add ah ab W hK (fun p hp=>by rw [hne] at hp;cases hp)
      refine ⟨((out++[(at',nx)]).length,xKi (·.2.1) (S.take j),xKi (·.2.2) (S.take j),((j:Nat):Int),nx,(out++[(at',nx)]).map encP),?_,ad _ aa (by rw [z7,zi];omega),mu⟩
      have dl:decide (((out.length:Nat):Int)>0)=false:=by rw [hne];rfl
      unfold xfa;simp only;unfold xnH;rw [v1,v2,v3,v5,v7,v8,j3,dF,dj,zM,z8,z8,dl,e1,decide_eq_true am,decide_eq_true aj];by_cases hj:j<S.length
      . rw [decide_eq_true hj,af hj,Q hj,zw,z7];rfl
      . rw [decide_eq_false hj];have:nx=1099511627776:=by rw [J,dif_neg hj]
        rw [this,zw,z7];rfl
    . have az:=List.length_pos_iff.2 hne;have w1:IntKind.i64.wrap (((out.length:Nat):Int) - 1)=((out.length - 1:Nat):Int):=by rw [xdX (by omega) (by omega)];omega
      have ar:xbx keep out.length=out.length - 1:=by unfold xbx;rw [w1,zM];omega
      have v4:xlF keep out.length=true:=by
       unfold xlF;rw [w1,decide_eq_true (by omega),decide_eq_true (by omega)];rfl
      have dl:decide (((out.length:Nat):Int)>0)=true:=decide_eq_true (by omega)
      have dv:decide (out.length - 1<out.length)=true:=decide_eq_true (by omega)
      have an:out.length - 1<out.length:=by omega
      have gl:(out.map encP).getD (out.length - 1) .top=encP out[out.length - 1]:=xaa _ _ _ an;have cl:((encP out[out.length - 1]).cells.getD 1 .top).toInt=out[out.length - 1].2:=rfl;have sl:xLj (Sh.int IntKind.i64) ((encP out[out.length - 1]).cells.getD 1 .top)=true:=rfl;have ae:=xEE out hne;by_cases hl:out[out.length - 1].2=at'
      . have au:=OutOk.ext (o:=out.dropLast) (p:=out[out.length - 1]) (by rw [<-ae];exact O) hl ab W hK
        have U:(out.dropLast++[(out[out.length - 1].1,nx)]).length=out.length:=by rw [z7,List.length_dropLast,zi];omega
        have ac:(out.map encP).set (out.length - 1) (AV.agg (List.take 1 (encP out[out.length - 1]).cells++[AV.int IntKind.i64 nx]++List.drop 2 (encP out[out.length - 1]).cells))=(out.dropLast++[(out[out.length - 1].1,nx)]).map encP:=by
         have e2:AV.agg (List.take 1 (encP out[out.length - 1]).cells++[AV.int IntKind.i64 nx]++List.drop 2 (encP out[out.length - 1]).cells)=encP (out[out.length - 1].1,nx):=rfl;rw [e2,<-List.map_set];congr 1;have e3:out.set (out.length - 1) (out[out.length - 1].1,nx)=(out.dropLast++[out[out.length - 1]]).set (out.length - 1) (out[out.length - 1].1,nx):=congrArg (fun l=>List.set l (out.length - 1) (out[out.length - 1].1,nx)) ae
         rw [e3,List.set_append_right _ _ (by rw [List.length_dropLast];exact zb _),List.length_dropLast,Nat.sub_self];rfl
        refine ⟨((out.dropLast++[(out[out.length - 1].1,nx)]).length,xKi (·.2.1) (S.take j),xKi (·.2.2) (S.take j),((j:Nat):Int),nx,(out.dropLast++[(out[out.length - 1].1,nx)]).map encP),?_,ad _ au (by rw [U];omega),mu⟩
        have e4:(out[out.length - 1].2==at')=true:=by simp [hl]
        unfold xfa;simp only;unfold xnH;rw [v0,v1,v2,v3,v4,v5,v7,v8,ar,j3,dF,dj,zM,z8,gl,cl,sl,dl,dv,e4];by_cases hj:j<S.length
        . rw [decide_eq_true hj,af hj,Q hj,ac,U];rfl
        . rw [decide_eq_false hj];have:nx=1099511627776:=by rw [J,dif_neg hj]
          rw [this] at ac U |-;rw [ac,U];rfl
      . have aa:=O.add ah ab W hK (fun p hp=>by
         rw [ae] at hp;rcases zF.1 hp with hp|hp
         . have h1:=O.span.2;rw [ae] at h1;have:=(List.pairwise_append.1 h1).2.2 p hp _ (zu.2 rfl);have h2:=O.low _ (zn an);have h3:=xbX.1 (O.span.1 _ (zn an));omega
         . rw [zu.1 hp];exact hl)
        refine ⟨((out++[(at',nx)]).length,xKi (·.2.1) (S.take j),xKi (·.2.2) (S.take j),((j:Nat):Int),nx,(out++[(at',nx)]).map encP),?_,ad _ aa (by rw [z7,zi];omega),mu⟩
        have e4:(out[out.length - 1].2==at')=false:=by simp [hl]
        unfold xfa;simp only;unfold xnH;rw [v0,v1,v2,v3,v4,v5,v7,v8,ar,j3,dF,dj,zM,z8,z8,gl,cl,sl,dl,dv,e4,e1,decide_eq_true am,decide_eq_true aj];by_cases hj:j<S.length
        . rw [decide_eq_true hj,af hj,Q hj,zw,z7];rfl
        . rw [decide_eq_false hj];have:nx=1099511627776:=by rw [J,dif_neg hj]
          rw [this,zw,z7];rfl
 . right;have:at'=1099511627776:=by omega
   subst this;refine ⟨(out.length,out.map encP),?_,out,rfl,O⟩;unfold xfa;simp only;unfold xnH;rw [decide_eq_false hF];rfl
end
theorem xr0:∀ (l:List Per) (e:Edg),e∈xKh 1 0 l->(-1<=e.2.1/\e.2.1<=1)/\(-1<=e.2.2/\e.2.2<=1)
 | [],e,h=>by cases h
 | p::l,e,h=>by
  unfold xKh at h;split at h
  . rcases zB.1 h with rfl|h
    . simp
    . rcases zB.1 h with rfl|h
      . simp
      . exact xr0 l e h
  . exact xr0 l e h
theorem xr1:∀ (l:List Per) (e:Edg),e∈xKh 0 1 l->(-1<=e.2.1/\e.2.1<=1)/\(-1<=e.2.2/\e.2.2<=1)
 | [],e,h=>by cases h
 | p::l,e,h=>by
  unfold xKh at h;split at h
  . rcases zB.1 h with rfl|h
    . simp
    . rcases zB.1 h with rfl|h
      . simp
      . exact xr1 l e h
  . exact xr1 l e h
theorem xFl (keep:Bool->Bool->Bool) (a b:List Per) (ha:a.length<=1073741824) (hb:b.length<=1073741824) :
  ∃ r:List Per,swG keep (a.map encP) (b.map encP)=some (r.map encP)/\IsSpan r/\∀ t,inL r t=(decide (0<=t)&&(decide (t<1099511627776)&&keep (inL a t) (inL b t))):=by
 obtain ⟨S,hS,hp,W⟩:=xFR a b ha hb;have l1:=xjo 1 0 a;have l2:=xjo 0 1 b;have Q:S.length=(xKh 1 0 a++xKh 0 1 b).length:=hp.length_eq;rw [z7] at Q;have q:∀ e,e∈S->e∈xKh 1 0 a\/e∈xKh 0 1 b:=fun e he=>zF.1 (hp.mem_iff.1 he)
 have J:∀ e,e∈S->0<=e.1/\e.1<=1099511627776:=fun e he=>(q e he).elim (xls 1 0 a e) (xls 0 1 b e)
 have U:∀ e,e∈S->(-1<=e.2.1/\e.2.1<=1)/\(-1<=e.2.2/\e.2.2<=1):=fun e he=>(q e he).elim (xr0 a e) (xr1 b e)
 obtain ⟨r,hr,out,rfl,O⟩:=xAk (SwI S (fun t=>keep (inL a t) (inL b t))) (fun s=>(1099511627776 - s.2.2.2.2.1).toNat) (fun r=>∃ out:List Per,r=(out.length,out.map encP)/\OutOk out 1099511627776 (fun t=>keep (inL a t) (inL b t)))
  (xBQ S J U W (by omega) keep a b hp) (0,0,0,0,0,[]) ⟨[],0,0,rfl,Int.le_refl _,by omega,zP _,fun m _ h=>by omega,fun m h _=>(J _ (zn h)).1,xtr _,by simp⟩
 refine ⟨out,?_,O.span,O.done⟩;have v3:xwb keep (a.map encP) (b.map encP)=some (out.length,out.map encP):=by unfold xwb;rw [hS];exact hr
 have v2:xwa keep (a.map encP) (b.map encP)=(out.length,out.map encP):=by unfold xwa;rw [v3];rfl
 have v0:xv9 keep (a.map encP) (b.map encP)=out.length:=by unfold xv9;rw [v2]
 have v1:xv8 keep (a.map encP) (b.map encP)=out.map encP:=by unfold xv8;rw [v2]
 have d1:0+out.length<=out.length:=by omega
 unfold swG xGW;rw [hS,v3,v0,v1,z8,decide_eq_true d1,zq,zh (by rw [z8];exact zb _)]
 rfl
theorem xDu (a b:List AV):xqf a b=swG xlD a b:=rfl
theorem xGU (a:List Per) (ha:a.length<=1073741824):∃ r:List Per,xlC (a.map encP)=some (r.map encP)/\IsSpan r/\∀ t,inL r t=inL a t:=by
 obtain ⟨r,h1,h2,h3⟩:=xFl xlD a [] ha (by simp)
 refine ⟨r,?_,h2,fun t=>?_⟩
 . unfold xlC xtE;rw [xDu,show ([]:List AV)=([]:List Per).map encP from rfl,h1];rfl
 . rw [h3 t];cases hc:inL a t with
   | false=>simp [xlD,xaP,sUF]
   | true=>have:=xtW hc;simp [xlD,xaP,this,sUF]
theorem xDt (a b:List AV):xqe a b=swG xdT a b:=rfl
theorem xAj (a b:List Per) (ha:a.length<=1073741824) (hb:b.length<=1073741824) :
  ∃ r:List Per,xhw (a.map encP) (b.map encP)=some (r.map encP)/\IsSpan r/\∀ t,inL r t=(inL a t&&inL b t):=by
 obtain ⟨r,h1,h2,h3⟩:=xFl xdT a b ha hb;refine ⟨r,?_,h2,fun t=>?_⟩
 . unfold xhw xlk;rw [xDt,h1];rfl
 . rw [h3 t];cases hc:inL a t with
   | false=>simp [xdT,xaP,sUF]
   | true=>have:=xtW hc;simp [xdT,xaP,this,sUF]
end Go.Sim.M
end
noncomputable section
set_option maxRecDepth 100000
namespace Go.Sim.M
open Go.RowKit Go.Sim.Srt
abbrev Asc (l:List Int):Prop:=l.Pairwise fun x y=>x<y
def insI:List Int->Int->List Int
 | [],n=>[n]
 | x::l,n=>if x<n then x::insI l n else if n<x then n::x::l else x::l
theorem xk7:∀ (l:List Int) (n x:Int),x∈insI l n↔x=n\/x∈l
 | [],n,x=>by simp [insI]
 | y::l,n,x=>by
  unfold insI;split
  . rw [zB,xk7 l n x,zB];constructor<;>rintro (h|h|h)<;>simp [h]
  . split
    . simp
    . have:y=n:=by omega
      subst this;simp
theorem xna:∀ {l:List Int},Asc l->∀ n,Asc (insI l n)
 | [],_,n=>by simp [insI,Asc]
 | y::l,h,n=>by
  obtain ⟨h1,h2⟩:=zL.1 h;unfold insI;split
  . refine zL.2 ⟨fun z hz=>?_,xna h2 n⟩
    rcases (xk7 l n z).1 hz with rfl|hz
    . assumption
    . exact h1 z hz
  . split
    . rename_i hn;refine zL.2 ⟨fun z hz=>?_,h⟩
      rcases zB.1 hz with rfl|hz
      . exact hn
      . have:=h1 z hz;omega
    . exact h
theorem xjr:∀ (l:List Int) (n:Int),(insI l n).length<=l.length+1
 | [],n=>by simp [insI]
 | y::l,n=>by
  unfold insI;have:=xjr l n;repeat' split
  all_goals simp
  all_goals omega
theorem xAh (n:Int):∀ l:List Int,∃ m,m<=l.length/\(∀ k (h:k<m) (h2:k<l.length),l[k]<n)/\(∀ h:m<l.length,¬ l[m]<n)/\insI l n=l.take m++(if h:m<l.length then (if n<l[m] then n::l.drop m else l.drop m) else [n])
 | []=>⟨0,zb _,fun k h=>by omega,fun h=>by simp at h,by simp [insI]⟩
 | y::l=>by
  by_cases hy:y<n
  . obtain ⟨m,h1,h2,h3,h4⟩:=xAh n l;refine ⟨m+1,by simpa using h1,fun k h hk=>?_,fun h=>?_,?_⟩
    . cases k with
      | zero=>simpa using hy
      | succ k=>simpa using h2 k (by omega) (by simpa using hk)
    . simpa using h3 (by simpa using h)
    . unfold insI;rw [if_pos hy,h4];by_cases hm:m<l.length<;>simp [hm]
  . refine ⟨0,zP _,fun k h=>by omega,fun _=>by simpa using hy,?_⟩
    unfold insI;rw [if_neg hy];by_cases h:n<y<;>simp [h]
structure StepI (N:Int->Int) (T:Int) (S:List Per):Prop where
 asc:S.Pairwise fun a b=>a.1<b.1
 mem:∀ s,s∈S↔0<=s.1/\s.1<T/\s.2=N s.1/\(s.1=0\/N (s.1 - 1)≠s.2)
 last:0<T->∃ S' f,S=S'++[(f,N (T - 1))]
theorem StepI.nil (N:Int->Int):StepI N 0 []:=⟨List.Pairwise.nil,fun s=>by simp;omega,fun h=>by omega⟩
def putS (S:List Per) (f n:Int):List Per:=match S.getLast? with
 | some s=>if s.2=n then S else S++[(f,n)]
 | none=>S++[(f,n)]
theorem StepI.unique {N:Int->Int} {T:Int} {S S':List Per} (h:StepI N T S) (h':StepI N T S'):S=S' :=
 xsT xI0 xqB (h.asc.imp fun {x y} q=>by
  have h1:cmpP x y<=0:=xtR.2 (.inl q);by_cases h0:cmpP x y=0
  . have:=xqB x y h0;subst this;omega
  . omega) (h'.asc.imp fun {x y} q=>by
  have h1:cmpP x y<=0:=xtR.2 (.inl q);by_cases h0:cmpP x y=0
  . have:=xqB x y h0;subst this;omega
  . omega) fun s=>by rw [h.mem,h'.mem]
theorem StepI.put {N:Int->Int} {T T':Int} {S:List Per} (h:StepI N T S) (h0:0<=T) (q:T<T') (hc:∀ t,T<=t->t<T'->N t=N T):StepI N T' (putS S T (N T)):=by
 rcases Int.lt_or_eq_of_le h0 with hp|hz
 . obtain ⟨S',f,rfl⟩:=h.last hp;unfold putS;rw [List.getLast?_append];simp only [List.getLast?_singleton,Option.some_or];by_cases he:N (T - 1)=N T
   . rw [if_pos he];refine ⟨h.asc,fun s=>?_,fun _=>⟨S',f,by rw [he,hc (T' - 1) (by omega) (by omega)]⟩⟩
     rw [h.mem];constructor
     . rintro ⟨a,b,c,d⟩;exact ⟨a,by omega,c,d⟩
     . rintro ⟨a,b,c,d⟩;refine ⟨a,?_,c,d⟩;rcases Int.lt_or_le s.1 T with hs|hs
       . exact hs
       . exfalso;have e1:=hc s.1 hs b;rcases d with d|d
         . omega
         . rcases Int.lt_or_eq_of_le hs with h2|h2
           . have e2:=hc (s.1 - 1) (by omega) (by omega)
             exact d (by rw [e2,c,e1])
           . rw [<-h2] at d c;exact d (by rw [he,c])
   . rw [if_neg he];refine ⟨?_,fun s=>?_,fun _=>⟨_,T,by rw [hc (T' - 1) (by omega) (by omega)]⟩⟩
     . rw [List.pairwise_append];refine ⟨h.asc,List.pairwise_singleton _ _,fun a ha b hb=>?_⟩
       simp only [zu] at hb;subst hb;exact ((h.mem a).1 ha).2.1
     . rw [zF,h.mem,zu];constructor
       . rintro (⟨a,b,c,d⟩|rfl)
         . exact ⟨a,by omega,c,d⟩
         . exact ⟨h0,q,rfl,.inr he⟩
       . rintro ⟨a,b,c,d⟩;rcases Int.lt_or_le s.1 T with hs|hs
         . exact .inl ⟨a,hs,c,d⟩
         . right;have e1:=hc s.1 hs b;rcases Int.lt_or_eq_of_le hs with h2|h2
           . exfalso;have e2:=hc (s.1 - 1) (by omega) (by omega)
             rcases d with d|d
             . omega
             . exact d (by rw [e2,c,e1])
           . exact Prod.ext h2.symm (by rw [c,e1])
 . subst hz;have hS:S=[]:=by
    rw [List.eq_nil_iff_forall_not_mem];intro s hs;have:=(h.mem s).1 hs;omega
   subst hS;refine ⟨by simp [putS],fun s=>?_,fun _=>⟨[],0,by simp [putS];exact (hc (T' - 1) (by omega) (by omega)).symm⟩⟩
   simp only [putS,List.getLast?_nil,zT,zu];constructor
   . rintro rfl;exact ⟨Int.le_refl _,q,rfl,.inl rfl⟩
   . rintro ⟨a,b,c,d⟩;have e1:=hc s.1 a b;rcases Int.lt_or_eq_of_le a with h2|h2
     . exfalso;have e2:=hc (s.1 - 1) (by omega) (by omega)
       rcases d with d|d
       . omega
       . exact d (by rw [e2,c,e1])
     . exact Prod.ext h2.symm (by rw [c,e1])
theorem xGo (S:List Per) (f n:Int):(putS S f n).length<=S.length+1:=by
 unfold putS;repeat' split
 all_goals simp
def sumC (l:List Cnt) (t:Int):Int:=(l.map fun c=>if hasP c.1 t=true then c.2 else 0).sum
theorem xyX (c:Cnt) (l:List Cnt) (t:Int):sumC (c::l) t=(if hasP c.1 t=true then c.2 else 0)+sumC l t:=by simp [sumC]
theorem xFi (ps:List Per) (t:Int):sumC (ps.map fun p=>(p,(1:Int))) t=(ps.countP (hasP · t):Nat):=by
 induction ps with
 | nil=>rfl
 | cons p ps ih =>
  rw [zU,xyX,ih,List.countP_cons];split<;>simp_all<;>omega
theorem xI9 (l:List Int) (n:Int) (hl:l.length<=1048576) (m:Nat) (hm:m<=l.length) (h1:∀ k (h:k<m) (h2:k<l.length),l[k]<n) (h2:∀ h:m<l.length,¬ l[m]<n) :
  Iter (xbM (l.map encN) n) ((0:Nat),(0:Int),[])=some (m,(m:Int),(l.take m).map encN):=by
 refine xnb (fun k=>((k,(k:Int),(l.take k).map encN):Nat×Int×List AV)) m _ (fun k hk=>?_) ?_ m 0 (by omega)
 . have q:k<l.length:=by omega
   have i1:(k:Int)<(l.length:Int):=by omega
   have i2:=h1 k hk q;have m1:(k+1)*8<=140737488355328:=by omega
   have m2:k+1<=4611686018427387904:=by omega
   have tl:(l.take k).length=k:=by rw [zr];omega
   have gf:(l.map encN).getD k .top=encN l[k]:=xaa _ _ _ q;simp only [xbM,xeF,sBU,q,i1,i2,gf,cN,sN,tl,m1,m2,xKl (n:=k) (by omega)]
   rw [List.take_add_one,zd q,zw];rfl
 . by_cases hml:m<l.length
   . have i1:(m:Int)<(l.length:Int):=by omega
     have i2:=h2 hml;have gf:(l.map encN).getD m .top=encN l[m]:=xaa _ _ _ hml;simp only [xbM,xeF,sBU,hml,i1,i2,gf,cN,sN]
   . have i1:¬ (m:Int)<(l.length:Int):=by omega
     simp only [xbM,xeF,sBU,i1]
theorem xAi (l:List Int) (hl:l.length<=1048576):∀ (d i:Nat) (D:List Int),i+d=l.length->D.length<=1048576+i ->
  Iter (xbN (l.map encN)) (D.length,(i:Int),D.map encN)=some ((D++l.drop i).length,(D++l.drop i).map encN)
 | 0,i,D,h,hD=>by
  obtain rfl:i=l.length:=by omega
  rw [zp (zb _),zC];refine xam ?_;simp only [xbN,xg7,z8,zx,zl,xae,sUF]
 | d+1,i,D,h,hD=>by
  have q:i<l.length:=by omega
  have i1:(i:Int)<(l.length:Int):=by omega
  have m1:(D.length+1)*8<=140737488355328:=by omega
  have m2:D.length+1<=4611686018427387904:=by omega
  have gf:(l.map encN).getD i .top=encN l[i]:=xaa _ _ _ q;rw [xaF (s':=((D++[l[i]]).length,((i+1:Nat):Int),(D++[l[i]]).map encN)) ?_,xAi l hl d (i+1) (D++[l[i]]) (by omega) (by rw [z7];simp;omega),xb4 q,zv]
  . rfl
  . simp only [xbN,xg7,sBU,q,i1,gf,cN,sN,m1,m2,xKl (n:=i) (by omega)]
    simp [encN]
theorem xqI (l:List Int) (n:Int) (hl:l.length<=1048576):xbz (l.map encN) n=some ((insI l n).map encN):=by
 obtain ⟨m,hm,h1,h2,h3⟩:=xAh n l;have e0:=xI9 l n hl m hm h1 h2;have tl:(l.take m).length=m:=by rw [zr];omega
 have e1:=xAi l hl (l.length - m) m (l.take m++[n]) (by omega) (by rw [z7,tl];simp;omega)
 have e2:=xAi l hl (l.length - m) m (l.take m) (by omega) (by omega)
 rw [z7,tl,zw] at e1;rw [tl] at e2;have e1:Iter (xbN (l.map encN)) (m+1,(m:Int),(l.take m).map encN++[AV.int .i64 n])=some ((l.take m++[n]++l.drop m).length,(l.take m++[n]++l.drop m).map encN):=e1;have m1:(m+1)*8<=140737488355328:=by omega
 have m2:m+1<=4611686018427387904:=by omega
 rw [h3];unfold xbz xnd xlb;by_cases hml:m<l.length
 . have i1:((m:Int)==(l.length:Int))=false:=by simp;omega
   have i2:(m:Int)<(l.length:Int):=by omega
   have gf:(l.map encN).getD m .top=encN l[m]:=xaa _ _ _ hml;rw [dif_pos hml];by_cases hn:n<l[m]
   . have i3:l[m]>n:=hn;simp only [xbb,xgt,xgu,xgv,xix,xgw,xgy,xgz,xgA,xgB,xdJ,xhX,xdK,xdL,xfC,xfD,e0,zj,zg,z8,i1,i2,hml,gf,cN,sN,i3,m1,m2,tl,e1,sBU,sOO,↓reduceIte,zv,List.singleton_append]
   . have i3:¬ l[m]>n:=hn;simp only [xbb,xgt,xgu,xgv,xix,xgw,xgy,xgz,xgA,xgB,xdJ,xhX,xdK,xdL,xfC,xfD,e0,zj,zg,z8,i1,i2,hml,gf,cN,sN,i3,e2,sBU,sOO,↓reduceIte]
 . have i1:((m:Int)==(l.length:Int))=true:=by simp;omega
   rw [dif_neg hml];have hd:l.drop m=[]:=zp (by omega)
   rw [hd,zC] at e1;simp only [xbb,xgt,xgu,xgv,xix,xgw,xgy,xgz,xgA,xgB,xdJ,xhX,xdK,xdL,xfC,xfD,e0,zj,zg,z8,i1,m1,m2,tl,e1,sBU,sOO]
theorem xpn {α:Type} (l:List α):l=[]\/∃ m a,l=m++[a]:=by
 rcases List.eq_nil_or_concat l with h|⟨m,a,h⟩
 . exact .inl h
 . exact .inr ⟨m,a,by rw [h,List.concat_eq_append]⟩
theorem xHF (S:List Per) (f n:Int) (hS:S.length<=16777216):∃ p,xqN S.length f n (S.map encP)=some p/\br p.1 p.2.1.1 p.2.2.1=(putS S f n).length/\br p.1 p.2.1.2 p.2.2.2=(putS S f n).map encP:=by
 have m1:(S.length+1)*16<=140737488355328:=by omega
 have m2:S.length+1<=4611686018427387904:=by omega
 rcases xpn S with rfl|⟨S',s,rfl⟩
 . refine ⟨(false,(0,[]),(1,[encP (f,n)])),?_,rfl,rfl⟩;unfold xqN xnV xiz;simp [xaP,encP,sUF]
 . have hk:IntKind.i64.wrap (((S'++[s]).length:Int) - 1)=((S'.length:Nat):Int):=by
    rw [z7,xdX (by simp<;>omega) (by simp at hS |-<;>omega)];simp
   have g1:((S'++[s]).length:Int)>0:=by simp<;>omega
   have g2:(S'.length:Int)<((S'++[s]).length:Int):=by simp<;>omega
   have g3:S'.length<(S'++[s]).length:=by simp
   have gf:((S'++[s]).map encP).getD S'.length .top=encP s:=by
    rw [xaa _ _ _ (by simp)];simp
   have hl:(S'++[s]).getLast?=some s:=by simp
   by_cases he:s.2=n
   . refine ⟨(true,((S'++[s]).length,(S'++[s]).map encP),(0,[])),?_,?_,?_⟩
     . unfold xqN xnV xiz;simp only [hk,g1,g2,g3,gf,sBU,cP0,cP1,lP,sP,sP0,sP1,he]
     . simp only [xab,putS,hl,if_pos he,sUF]
     . simp only [xab,putS,hl,if_pos he,sUF]
   . have he':(s.2==n)=false:=by simp [he]
     refine ⟨(false,(0,[]),((S'++[s]).length+1,(S'++[s]).map encP++[encP (f,n)])),?_,?_,?_⟩
     . unfold xqN xnV xiz;simp only [hk,g1,g2,g3,gf,sBU,cP0,cP1,lP,sP,sP0,sP1,he',m1,m2];rfl
     . simp only [xae,putS,hl,if_neg he,sUF];simp
     . simp only [xae,putS,hl,if_neg he,sUF];simp
def Tame (l:List Cnt):Prop:=l.length<=262144/\∀ c,c∈l->-1099511627776<=c.2/\c.2<=1099511627776
end Go.Sim.M
end
noncomputable section
set_option maxRecDepth 100000
namespace Go.Sim.M
open Go.RowKit Go.Sim.Srt Go.Sort
def chg (c:Cnt):List Per:=if pv c.1=true then [(c.1.1,c.2),(c.1.2,-c.2)] else []
theorem xBx {l:List Cnt}:∀ s,s∈l.flatMap chg->0<=s.1/\s.1<=1099511627776:=fun s hs=>by
 obtain ⟨c,hc,h⟩:=y2.1 hs;unfold chg at h;split at h
 . rename_i hv;have:=xbX.1 hv;simp only [zB,List.not_mem_nil,or_false] at h;rcases h with rfl|rfl<;>dsimp only<;>omega
 . simp at h
theorem xHe (c:Cnt):(chg c).length<=2:=by unfold chg;split<;>simp
def sumS (S:List Per) (t:Int):Int:=(S.map fun s=>if s.1<=t then s.2 else 0).sum
theorem xuB (a b:List Per) (t:Int):sumS (a++b) t=sumS a t+sumS b t:=by simp [sumS]
theorem xGC {a b:List Int} (h:a.Perm b):a.sum=b.sum:=by
 induction h with
 | nil=>rfl
 | cons x _ ih=>simp [ih]
 | swap x y l=>simp;omega
 | trans _ _ h1 h2=>rw [h1,h2]
theorem xFj {a b:List Per} (h:a.Perm b) (t:Int):sumS a t=sumS b t:=xGC (h.map _)
theorem xAY (t:Int):∀ l:List Cnt,sumS (l.flatMap chg) t=sumC l t
 | []=>rfl
 | c::l=>by
  rw [zQ,xuB,xAY t l,xyX];congr 1;unfold chg;cases hv:pv c.1 with
  | false=>simp [sumS,hasP,hv]
  | true =>
   have:=xbX.1 hv;simp only [if_true,sumS,zU,zV,List.sum_cons,List.sum_nil,hasP,hv,Bool.true_and,ze,zk];by_cases h1:c.1.1<=t<;>by_cases h2:c.1.2<=t
   . rw [if_pos h1,if_pos h2,if_neg (by omega)];omega
   . rw [if_pos h1,if_neg h2,if_pos (by omega)];omega
   . omega
   . rw [if_neg h1,if_neg h2,if_neg (by omega)];omega
theorem sum0:∀ L:List Per,(L.map fun _=>(0:Int)).sum=0
 | []=>rfl
 | _::L=>by rw [zU,List.sum_cons,sum0 L];rfl
def preS (S:List Per) (i:Nat):Int:=((S.take i).map (·.2)).sum
theorem xyG (S:List Per) (i:Nat) (h:i<S.length):preS S (i+1)=preS S i+S[i].2:=by
 unfold preS;rw [List.take_add_one,zd h,zw,List.sum_append];simp
theorem xGk (S:List Per) (i:Nat) (hi:i<=S.length) (t:Int) (h1:∀ k (h:k<S.length),k<i->S[k].1<=t) (h2:∀ k (h:k<S.length),i<=k->t<S[k].1):preS S i=sumS S t:=by
 have e:S=S.take i++S.drop i:=(List.take_append_drop i S).symm
 conv=>rhs;rw [e]
 rw [xuB];have a1:sumS (S.take i) t=preS S i:=by
  unfold sumS preS;congr 1;refine List.map_congr_left fun s hs=>?_
  obtain ⟨k,hk,rfl⟩:=zo.1 hs;rw [zr] at hk;rw [List.getElem_take,if_pos (h1 k (by omega) (by omega))]
 have a2:sumS (S.drop i) t=0:=by
  unfold sumS;have:(S.drop i).map (fun s=>if s.1<=t then s.2 else 0)=(S.drop i).map fun _=>(0:Int):=by
   refine List.map_congr_left fun s hs=>?_
   obtain ⟨k,hk,rfl⟩:=zo.1 hs;rw [zZ] at hk;have:=h2 (i+k) (by omega) (by omega)
   rw [List.getElem_drop,if_neg (by omega)]
  rw [this];exact sum0 _
 omega
theorem xAE {B:Int} (hB:0<=B) (S:List Per) (h:∀ s,s∈S->-B<=s.2/\s.2<=B):∀ i,i<=S.length->-(B*i)<=preS S i/\preS S i<=B*i
 | 0,_=>by simp [preS]
 | i+1,hi=>by
  have ih:=xAE hB S h i (by omega)
  have hs:=h S[i] (zn (by omega))
  rw [xyG S i (by omega),show B*((i+1:Nat):Int)=B*(i:Int)+B by rw [Int.natCast_add,Int.mul_add];simp]
  omega
def toS (e:Per):TyS:=(Fin.ofNat 1099511627777 e.1.toNat,e.2)
def ofS (x:TyS):Per:=((x.1.val:Int),x.2)
theorem xHv {e:Per} (h1:0<=e.1) (h2:e.1<=1099511627776):ofS (toS e)=e:=by
 have:e.1.toNat % 1099511627777=e.1.toNat:=Nat.mod_eq_of_lt (by omega)
 simp only [ofS,toS,Fin.ofNat,this,Int.toNat_of_nonneg h1]
theorem xHS (E:List Per) (h:∀ e,e∈E->0<=e.1/\e.1<=1099511627776):(E.map encP).all isS=true/\∃ S:List Per,srtS (E.map encP)=S.map encP/\S.Perm E/\S.Pairwise fun x y=>x.1<=y.1:=by
 refine ⟨?_,(pdqL cmpS (E.map toS)).map ofS,?_,?_,?_⟩
 . rw [zH];intro x hx;obtain ⟨e,he,rfl⟩:=zJ.1 hx;have:=h e he;show (decide _&&decide _)=true;rw [decide_eq_true this.1,decide_eq_true this.2];rfl
 . unfold srtS;have e1:(E.map encP).map decS=E.map toS:=by rw [List.map_map];rfl
   rw [e1,List.map_map];rfl
 . have hp:=((xn8 cmpS swoS (E.map toS)).1).map ofS;have e2:(E.map toS).map ofS=E:=by
    rw [List.map_map]
    conv=>rhs;rw [<-List.map_id E]
    refine List.map_congr_left fun e he=>?_
    exact xHv (h e he).1 (h e he).2
   rwa [e2] at hp
 . rw [List.pairwise_map];refine (xuq cmpS swoS (E.map toS)).imp fun {x y} q=>?_
   show ((x.1.val:Nat):Int)<=((y.1.val:Nat):Int);unfold cmpS at q;omega
theorem xHs (n o:Nat):xik n o=xcY n o 0:=rfl
theorem xvd (l:List Cnt) (hl:l.length<=1048576) (ht:∀ c,c∈l->-1099511627776<=c.2/\c.2<=1099511627776):Iter (xdU (l.map encC) ((l.length:Nat):Int)) ((0:Nat),(0:Int),[])=some ((l.flatMap (fun (f:Cnt)=>chg f)).length,(l.flatMap (fun (f:Cnt)=>chg f)).map encP):=by
 refine xk8 l (fun (f:Cnt)=>chg f) encP 2 (fun f hf=>?_) (fun n h D hD=>?_) (fun D=>?_)
 . cases q:(pv (f).1)<;>simp [chg,q]
 . have h1:(n:Int)<(l.length:Int):=by omega
   have m1:(D.length+2)*16<=140737488355328:=by omega
   have m2:D.length+2<=4611686018427387904:=by omega
   have gf:(l.map encC).getD n .top=encC l[n]:=xaa _ _ _ h;have hm:=ht l[n] (zn h);have hw:IntKind.i64.wrap (0 - l[n].2)=-l[n].2:=by rw [xdX (by omega) (by omega)];omega
   simp only [xdU,xkX,sBU,h,h1,gf,cC0,cC1,cC2,lC,sC,sC3,sC2,xlw,hw,m1,m2,xKl (n:=n) (by omega)]
   cases q:(pv (l[n]).1)<;>simp [encP,xab,xae,encR,chg,q,sUF]
 . simp only [xdU,xkX,z8,zx,zl,xae,sUF]
theorem xuQ (S:List Per) (hS:S.length<=1048576) (hb:∀ s,s∈S->-1099511627776<=s.2/\s.2<=1099511627776) (on:Nat) (at':Int) (ox:List AV):∀ (d i:Nat),i+d=S.length->∃ j:Nat,i<=j/\j<=S.length/\(∀ k (h:k<S.length),i<=k->k<j->S[k].1=at')/\(∀ h:j<S.length,S[j].1≠at') /\
  Iter (xcY S.length on at') (preS S i,(i:Int),S.map encP,ox)=some (preS S j,(j:Int),S.map encP,ox)
 | 0,i,h=>by
  refine ⟨i,zb _,by omega,fun k _ h1 h2=>by omega,fun h=>by omega,xam ?_⟩
  have i1:¬ (i:Int)<(S.length:Int):=by omega
  simp only [xcY,xiE,xhJ,i1,zl,xae,sUF]
 | d+1,i,h=>by
  have hi:i<S.length:=by omega
  have i1:(i:Int)<(S.length:Int):=by omega
  have gf:(S.map encP).getD i .top=encP S[i]:=xaa _ _ _ hi;by_cases he:S[i].1=at'
  . obtain ⟨j,h1,h2,h3,h4,h5⟩:=xuQ S hS hb on at' ox d (i+1) (by omega)
    refine ⟨j,by omega,h2,fun k hk a b=>?_,h4,?_⟩
    . rcases Nat.lt_or_eq_of_le a with a|a
      . exact h3 k hk a b
      . subst a;exact he
    . have hp:=xAE (B:=1099511627776) (by omega) S hb i (by omega)
      have hs:=hb S[i] (zn hi);rw [xaF (s':=(preS S (i+1),((i+1:Nat):Int),S.map encP,ox)) ?_,h5];simp only [xcY,xiE,xhJ,sBU,hi,i1,gf,cP0,cP1,lP,sP,sP0,sP1,he,xKl (n:=i) (by omega),xyG S i hi]
      rw [xdX (by omega) (by omega)]
  . have he':(S[i].1==at')=false:=by simp [he]
    refine ⟨i,zb _,by omega,fun k _ h1 h2=>by omega,fun _=>he,xam ?_⟩
    simp only [xcY,xiE,xhJ,sBU,hi,i1,gf,cP0,cP1,lP,sP,sP0,sP1,he']
theorem xla (l:List Cnt) (hl:Tame l):∃ S,xij (l.map encC)=some (S.map encP)/\StepI (sumC l) 1099511627776 S/\S.length<=2*l.length+1:=by
 have ar:=hl.1;have e0:=xvd l (by omega) hl.2
 have hE:=xm8 (g:=chg) (c:=2) l fun c _=>xHe c
 obtain ⟨aj,S,hS,hp,ao⟩:=xHS (l.flatMap chg) xBx;have af:S.length=(l.flatMap chg).length:=hp.length_eq;have U:∀ s,s∈S->0<=s.1/\s.1<=1099511627776:=fun s hs=>xBx s (hp.mem_iff.1 hs)
 have hb:∀ s,s∈S->-1099511627776<=s.2/\s.2<=1099511627776:=fun s hs=>by
  obtain ⟨c,hc,h⟩:=y2.1 (hp.mem_iff.1 hs);have:=hl.2 c hc;unfold chg at h;split at h
  . simp only [zB,List.not_mem_nil,or_false] at h;rcases h with rfl|rfl<;>dsimp only<;>omega
  . simp at h
 have hN:∀ t,sumS S t=sumC l t:=fun t=>by rw [xFj hp,xAY]
 have J:∀ a b (ha:a<S.length) (hb:b<S.length),a<=b->S[a].1<=S[b].1:=fun a b ha hb am=>by
  rcases Nat.lt_or_eq_of_le am with h|h
  . exact zA.1 ao a b ha hb h
  . subst h;exact Int.le_refl _
 let T:Nat->Int:=fun i=>if h:i<S.length then S[i].1 else 1099511627776
 have step:∀ (out:List Per) (i j:Nat) (at':Int),0<=at'->i<=j->j<=S.length->StepI (sumC l) at' out->at'<1099511627776->(∀ k (h:k<S.length),k<i->S[k].1<=at')->(∀ k (h:k<S.length),i<=k->at'<=S[k].1)->(∀ k (h:k<S.length),i<=k->k<j->S[k].1=at')->(∀ h:j<S.length,S[j].1≠at') ->
   preS S j=sumC l at'/\StepI (sumC l) (T j) (putS out at' (preS S j))/\at'<T j/\∀ k (h:k<S.length),k<j->S[k].1<=at':=fun out i j at' h0 ah hj Q hF ab ai al hne=>by
  have a1:∀ k (h:k<S.length),k<j->S[k].1<=at':=fun k h hk=>by
   rcases zI k i with h1|h1
   . exact ab k h h1
   . rw [al k h h1 hk];exact Int.le_refl _
  have a2:∀ k (h:k<S.length),j<=k->at'<S[k].1:=fun k h hk=>by
   have O:j<S.length:=by omega
   have b1:=ai j O ah;have b2:=hne O;have b3:=J j k O h hk;omega
  have hT:at'<T j:=by
   simp only [T];split
   . rename_i h;exact a2 j h (zb _)
   . exact hF
  have ac:∀ t,at'<=t->t<T j->preS S j=sumC l t:=fun t h1 h2=>by
   rw [<-hN];refine xGk S j hj t (fun k h hk=>by have:=a1 k h hk;omega) fun k h hk=>?_
   have O:j<S.length:=by omega
   have b3:=J j k O h hk;simp only [T,dif_pos O] at h2;omega
  have e:=ac at' (Int.le_refl _) hT;refine ⟨e,?_,hT,a1⟩;rw [e];exact Q.put h0 hT fun t h1 h2=>by rw [<-ac t h1 h2,e]
 have ad:∀ (out:List Per) (f n:Int),out.length<=2*l.length+1->∃ p,xcH out.length f n (out.map encP)=some p/\br p.1 p.2.1.1 p.2.2.1=(putS out f n).length/\br p.1 p.2.1.2 p.2.2.2=(putS out f n).map encP:=fun out f n h=>xHF out f n (by omega)
 obtain ⟨j0,_,ak,h3,h4,e1⟩:=xuQ S (by omega) hb 0 0 ([]:List AV) S.length 0 (by omega)
 obtain ⟨_,ap,_,aq⟩:=step [] 0 j0 0 (Int.le_refl _) (zP _) ak (.nil _) (by omega) (fun k _ h=>by omega) (fun k h _=>(U _ (zn h)).1) h3 h4
 obtain ⟨p0,ae,W,aa⟩:=ad [] 0 (preS S j0) (by simp)
 have o0:putS [] 0 (preS S j0)=[(0,preS S j0)]:=rfl;obtain ⟨r,hr,out,rfl,Q,ag⟩:=xAk (step:=xdV S.length)
  (fun s=>∃ (out:List Per) (i:Nat),s=(out.length,preS S i,(i:Int),S.map encP,out.map encP)/\i<=S.length/\StepI (sumC l) (T i) out/\out.length<=i+1/\∀ k (h:k<S.length) (hi:i<S.length),k<i->S[k].1<=S[i].1) (fun s=>(S.length - s.2.2.1.toNat)) (fun r=>∃ out:List Per,r=(out.length,out.map encP)/\StepI (sumC l) 1099511627776 out/\out.length<=2*l.length+1)
  (by
   rintro _ ⟨out,i,rfl,hi,Z,au,ab⟩;by_cases q:i<S.length
   . have i1:(i:Int)<(S.length:Int):=by omega
     have gf:(S.map encP).getD i .top=encP S[i]:=xaa _ _ _ q;have Y:T i=S[i].1:=dif_pos q;by_cases hF:S[i].1<1099511627776
     . left;obtain ⟨j,a1,a2,a3,a4,a5⟩:=xuQ S (by omega) hb out.length S[i].1 (out.map encP) (S.length - i) i (by omega)
       rw [Y] at Z;obtain ⟨b1,b2,b3,b4⟩:=step out i j S[i].1 (U _ (zn q)).1 a1 a2 Z hF (fun k h hk=>J k i h q (by omega)) (fun k h hk=>J i k q h hk) a3 a4
       have ah:i<j:=by
        rcases Nat.lt_or_eq_of_le a1 with h|h
        . exact h
        . subst h;exact absurd rfl (a4 q)
       obtain ⟨p,ae,W,aa⟩:=ad out S[i].1 (preS S j) (by omega)
       have aw:=xGo out S[i].1 (preS S j);refine ⟨((putS out S[i].1 (preS S j)).length,preS S j,(j:Int),S.map encP,(putS out S[i].1 (preS S j)).map encP),?_,⟨_,j,rfl,a2,b2,by omega,fun k h hj hk=>J k j h hj (by omega)⟩,by dsimp only;rw [zM,zM];omega⟩
       simp only [xdV,xiD,xhz,xhA,xhB,xhC,xhD,xhE,xhF,xhG,xhH,xhI,xgQ,xgR,xez,sBU,q,i1,gf,cP0,cP1,lP,sP,sP0,sP1,hF,a5,ae,W,aa]
     . right;have an:S[i].1=1099511627776:=by have:=(U _ (zn q)).2;omega
       refine ⟨(out.length,out.map encP),?_,out,rfl,by rw [<-an,<-Y];exact Z,by omega⟩
       simp only [xdV,xiD,xhz,xhA,xhB,xhC,xhD,xhE,xhF,xhG,xhH,xhI,xgQ,xgR,xez,sBU,q,i1,gf,cP0,cP1,lP,sP,sP0,sP1,hF]
   . right;have i1:¬ (i:Int)<(S.length:Int):=by omega
     have Y:T i=1099511627776:=dif_neg q;refine ⟨(out.length,out.map encP),?_,out,rfl,by rw [<-Y];exact Z,by omega⟩
     simp only [xdV,xiD,xhz,xhA,xhB,xhC,xhD,xhE,xhF,xhG,xhH,xhI,xgQ,xgR,xez,sBU,i1])
  (([(0,preS S j0)]:List Per).length,preS S j0,(j0:Int),S.map encP,([(0,preS S j0)]:List Per).map encP) ⟨[(0,preS S j0)],j0,rfl,ak,ap,by simp,fun k h hj hk=>J k j0 h hj (by omega)⟩
 refine ⟨out,?_,Q,ag⟩;have d1:(l.flatMap chg).length<4611686018427387904:=by omega
 have d2:((l.flatMap chg).length).beq (l.flatMap chg).length=true:=Nat.beq_refl _;have e1':Iter (xik (l.flatMap chg).length 0) ((0:Int),(0:Int),S.map encP,[])=some (preS S j0,(j0:Int),S.map encP,[]):=by
  rw [xHs,<-af];exact e1
 rw [af] at hr;unfold xij xsy;have hp1':xcH 0 0 (preS S j0) []=some p0:=ae;rw [o0] at W aa;simp only [xrv,xrw,xry,xrz,xrA,xrB,xrC,xrD,xrE,xrF,xqg,xqh,xqi,xqj,xqk,xjH,xmE,xql,z8,e0,zg,zj,xab,aj,hS,d1,d2,e1',hp1',W,aa,hr,zm,zR,sOO,sUF]
end Go.Sim.M
end
noncomputable section
set_option maxRecDepth 100000
namespace Go.Sim.M
open Go.RowKit Go.Sim.Srt
theorem xEP {ps:List Per} (h:ps.length<=262144):Tame (ps.map fun p=>(p,(1:Int))):=⟨by simpa using h,fun c hc=>by
 obtain ⟨p,_,rfl⟩:=zJ.1 hc;dsimp only;omega⟩
end Go.Sim.M
end
noncomputable section
set_option maxRecDepth 100000
namespace Go.Sim.M
open Go.RowKit Go.Sim.Srt Go.Sort
theorem xFL (ps:List Per) (t:Int) (ht:t<0\/1099511627776<=t):ps.countP (hasP · t)=0:=by
 rw [List.countP_eq_zero];intro p hp h;obtain ⟨h1,h2,h3⟩:=xa4.1 h;have:=xbX.1 h1;omega
def mk (r:Row) (P:List Per):List Fc:=P.map fun p=>⟨r,p⟩
theorem xz3 (L:Row->List Per):∀ S:List Grp,(S.flatMap fun g=>mk g.1 (L g.1))=facts (S.map (·.1)) L
 | []=>rfl
 | g::S=>by rw [zQ,xz3 L S];rfl
theorem xEb (q:List AV) (J O:Int) (row:Row) (hr:row.length<=1048576) (g1:List AV) (P:List Per) (D:List Fc) (hb:D.length+P.length<=2199023255552) (hP:P.length<=1099511627776) :
  Iter (xby q J O (P.map encP) ((P.length:Nat):Int)) (D.length,(0:Int),D.map encF,row.map encV,g1)=some ((D++mk row P).length,(D++mk row P).map encF):=by
 have key:=xnb (step:=xby q J O (P.map encP) ((P.length:Nat):Int)) (fun k=>(((D++mk row (P.take k)).length,((k:Nat):Int),(D++mk row (P.take k)).map encF,row.map encV,g1):Nat×Int×List AV×List AV×List AV)) P.length
  ((D++mk row P).length,(D++mk row P).map encF) (fun k hk=>by
  have i1:(k:Int)<(P.length:Int):=by omega
  have gf:(P.map encP).getD k .top=encP P[k]:=xaa _ _ _ hk;have dl:(D++mk row (P.take k)).length=D.length+k:=by unfold mk;rw [z7,z8,zr];omega
  have m1:(D.length+k+1)*40<=140737488355328:=by omega
  have m2:D.length+k+1<=4611686018427387904:=by omega
  have m3:row.length*32<=140737488355328:=by omega
  have m4:row.length<=4611686018427387904:=by omega
  have tk:List.take row.length (row.map encV)=row.map encV:=zh (by simp)
  have Q:mk row (P.take (k+1))=mk row (P.take k)++[⟨row,P[k]⟩]:=by unfold mk;rw [List.take_add_one,zd hk,zw];rfl
  rw [Q,<-zv];simp only [xby,xek,sBU,hk,i1,gf,cP0,cP1,lP,sP,sP0,sP1,dl,m1,m2,m3,m4,zb,tk,zq,xKl (n:=k) (by omega)]
  rw [z7,dl];simp [encF]) (by
  simp only [xby,xek,zx,zl,xae,y3,sUF]) P.length 0 (by omega)
 have e0:D++mk row (P.take 0)=D:=by simp [mk]
 rw [e0] at key;exact key
def Bld (l:List Fc):Prop:=Keyed l/\l.length<=1024
theorem cGs (g:Grp):((encG g).cells.getD 1 .top).toList=g.2.map encP:=rfl
theorem lG (g:Grp):((encG g).cells.length==2)=true:=rfl
theorem sG (g:Grp):xLq [Sh.list 3,Sh.list 2] (encG g).cells 0=true:=rfl
theorem xEc (S:List Grp) (hS:S.length<=1024) (hr:∀ g,g∈S->g.1.length<=1048576) (L:Row->List Per) (hL:∀ g,g∈S->xlC (g.2.map encP)=some ((L g.1).map encP)/\(L g.1).length<=1048576) :
  Iter (xb2 (S.map encG) ((S.length:Nat):Int)) ((0:Nat),(0:Int),[])=some ((facts (S.map (·.1)) L).length,(facts (S.map (·.1)) L).map encF):=by
 rw [<-xz3];refine xk8 S (fun g=>mk g.1 (L g.1)) encF 1048576 (fun g hg=>by unfold mk;rw [z8];exact (hL g hg).2) (fun n h D hD=>?_) (fun D=>?_)
 . have i1:(n:Int)<(S.length:Int):=by omega
   have gf:(S.map encG).getD n .top=encG S[n]:=xaa _ _ _ h;obtain ⟨e1,e2⟩:=hL _ (zn h);have q:=hr _ (zn h);have el:=xEb (S.map encG) (S.length:Int) (n:Int) S[n].1 q (S[n].2.map encP) (L S[n].1) D (by omega) (by omega)
   simp only [xb2,xej,xgV,xgW,sBU,h,i1,gf,cG0,cGs,lG,sG,e1,el,xKl (n:=n) (by omega)]
 . simp only [xb2,xej,zx,zl,xae,sUF]
theorem xEg {R:List Row} {Q:Row->List Per->Prop} (h:∀ r,r∈R->∃ P,Q r P):∃ L:Row->List Per,∀ r,r∈R->Q r (L r):=by
 refine ⟨fun r=>if hr:r∈R then Classical.choose (h r hr) else [],fun r hr=>?_⟩
 show Q r (if hr:r∈R then Classical.choose (h r hr) else [])
 rw [dif_pos hr];exact Classical.choose_spec (h r hr)
theorem xJe (l:List Fc) (h:Bld l):∃ B,xjd (l.map encF)=some (B.map encF)/\xKH l B:=by
 obtain ⟨S,e1,hR,q,O⟩:=xHI l h.1;have hl:=h.2;obtain ⟨L,hL⟩:=xEg (R:=S.map (·.1)) (Q:=fun r P=>xlC ((psOf l r).map encP)=some (P.map encP)/\(IsSpan P/\∀ t,inL P t=decide (0<cnt l r t))/\P.length<=1048576) fun r hr=>by
  have J:=xEW l r;obtain ⟨P,a1,a2,a3⟩:=xGU (psOf l r) (by omega)
  have a4:∀ t,inL P t=decide (0<(psOf l r).countP (hasP · t)):=fun t=>by
   rw [a3,Bool.eq_iff_iff,zk,List.countP_pos_iff];unfold inL;rw [List.any_eq_true]
  refine ⟨P,a1,⟨a2,fun t=>by rw [a4,xAF]⟩,?_⟩
  have:=xwy (k:=0) a2 a4;omega
 have hk:∀ g,g∈S->g.1∈S.map (·.1):=fun g hg=>zJ.2 ⟨g,hg,rfl⟩
 have eb:=xEc S (by omega) (fun g hg=>by
  obtain ⟨f,hf,e,_⟩:=(hR.2 g.1).1 (hk g hg);rw [<-e];exact h.1.1.2 f hf) L (fun g hg=>by
  rw [q g hg];exact ⟨(hL _ (hk g hg)).1,(hL _ (hk g hg)).2.2⟩)
 refine ⟨facts (S.map (·.1)) L,?_,S.map (·.1),L,hR,fun r hr=>(hL r hr).2.1,rfl⟩
 have tt:∀ F:List Fc,List.take F.length (F.map encF)=F.map encF:=fun F=>zh (by simp)
 unfold xjd xm6 xk0 xje;simp only [xiJ,xiK,xiL,xiM,e1,zj,zg,xab,z8,eb,zG,zb,zm,zR,zq,tt,sUF]
end Go.Sim.M
end
noncomputable section
set_option maxRecDepth 100000
namespace Go.Sim.M
open Go.RowKit Go.Sim.Srt
theorem xK1 {n:Nat} (h:n+1<=4611686018427387904):IntKind.i64.wrap (((n+1:Nat):Int) - 1)=(n:Int):=by rw [xdX (by omega) (by omega)];omega
theorem tkP (p:Per):List.take 1 (encP p).cells=[.int .i64 p.1]:=rfl
theorem dpP (p:Per):List.drop 2 (encP p).cells=[]:=rfl
theorem aggP (a b:Int):AV.agg [.int .i64 a,.int .i64 b]=encP (a,b):=rfl
theorem xAb {α:Type} (l:List α) (x d:α):(l++[x]).getD l.length d=x:=by simp
theorem xHM {α:Type} (l:List α) (x y:α):(l++[x]).set l.length y=l++[y]:=by simp
theorem xw0 {N:Int->Nat} {a b:Int} (h:∀ t,a<t->t<b->N (t - 1)=N t):∀ (d:Nat) (t:Int),t=a+d->t<b->N t=N a
 | 0,t,e,_=>by rw [e];simp
 | d+1,t,e,hb=>by
  rw [<-h t (by omega) hb]
  exact xw0 h d (t - 1) (by omega) (by omega)
def pos (S:List Per) (i:Nat):Int:=match S[i]? with
 | some s=>s.1
 | none=>1099511627776
theorem xpJ {S:List Per} {i:Nat} (h:i<S.length):pos S i=S[i].1:=by unfold pos;rw [zd h]
theorem xvR {S:List Per} {i:Nat} (h:S.length<=i):pos S i=1099511627776:=by unfold pos;rw [zy h]
theorem xGi {N:Int->Nat} {S:List Per} (hS:StepI (fun t=>(N t:Int)) 1099511627776 S) {i:Nat} (hi:i<S.length):0<=pos S i/\pos S i<pos S (i+1)/\pos S (i+1)<=1099511627776/\S[i].2=(N S[i].1:Int)/\∀ t,pos S i<=t->t<pos S (i+1)->N t=N S[i].1:=by
 obtain ⟨m1,m2,m3,_⟩:=(hS.mem S[i]).1 (zn hi);rw [xpJ hi];have hb:S[i].1<pos S (i+1)/\pos S (i+1)<=1099511627776:=by
  by_cases h:i+1<S.length
  . rw [xpJ h];have:=zA.1 hS.asc i (i+1) hi h (by omega)
    have:=((hS.mem S[i+1]).1 (zn h)).2.1;omega
  . rw [xvR (by omega)];omega
 refine ⟨m1,hb.1,hb.2,m3,fun t h1 h2=>xw0 (a:=S[i].1) (b:=pos S (i+1)) (fun u u1 u2=>?_) (t - S[i].1).toNat t (by omega) h2⟩
 by_cases e:N (u - 1)=N u
 . exact e
 . have hu:(u,(N u:Int))∈S:=(hS.mem _).2 ⟨by dsimp only;omega,by dsimp only;omega,rfl,.inr (by dsimp only;omega)⟩
   obtain ⟨k,hk,J⟩:=zo.1 hu;have O:S[k].1=u:=by rw [J]
   rcases zI i k with q|q
   . have:i+1<S.length:=by omega
     rw [xpJ this] at u2;rcases zI (i+1) k with h3|h3
     . have:=zA.1 hS.asc (i+1) k this hk h3;omega
     . obtain rfl:k=i+1:=by omega
       omega
   . rcases zI k i with h3|h3
     . have:=zA.1 hS.asc k i hk hi h3;omega
     . obtain rfl:k=i:=by omega
       omega
theorem xGj {N:Int->Nat} {S:List Per} (hS:StepI (fun t=>(N t:Int)) 1099511627776 S):pos S 0=0:=by
 have h0:((0:Int),(N 0:Int))∈S:=(hS.mem _).2 ⟨by simp,by simp,rfl,.inl rfl⟩
 obtain ⟨k,hk,q⟩:=zo.1 h0;have h:0<S.length:=by omega
 have p0:=((hS.mem S[0]).1 (zn h)).1;rw [xpJ h];have J:S[k].1=0:=by rw [q]
 rcases zI 0 k with h3|h3
 . have:=zA.1 hS.asc 0 k h hk h3;omega
 . obtain rfl:k=0:=by omega
   exact J
def xKr (out:List Per) (f t:Int):List Per:=match out.getLast? with
 | some p=>if p.2=f then out.dropLast++[(p.1,t)] else out++[(f,t)]
 | none=>out++[(f,t)]
theorem xKZ {n:Nat} (h:n<=1099511627776):(n+1)*16<=140737488355328/\n+1<=4611686018427387904/\n*16<=140737488355328/\n<=4611686018427387904:=by omega
theorem xHp (out:List Per) (f t:Int) (O:f<t) (J:∀ p,p∈out->p.2<=f) (hl:out.length<=1048576):∃ q,xmh out.length f t (out.map encP)=some q/\br q.1 q.2.1.1 q.2.2.1=(xKr out f t).length/\br q.1 q.2.1.2.2 q.2.2.2=(xKr out f t).map encP:=by
 rcases xpn out with rfl|⟨o,p,rfl⟩
 . refine ⟨_,rfl,rfl,rfl⟩
 . have hp:=J p (by simp)
   have L:(o++[p]).length=o.length+1:=by simp
   rw [L] at hl;have w1:IntKind.i64.wrap (((o.length+1:Nat):Int) - 1)=(o.length:Int):=xK1 (by omega)
   have i1:((o.length+1:Nat):Int)>0:=by omega
   have i2:(o.length:Int)<((o.length+1:Nat):Int):=by omega
   have i3:(o.length:Int)<=((o.length+1:Nat):Int):=by omega
   have i4:o.length<o.length+1:=by omega
   have i5:o.length<=o.length+1:=by omega
   have gl:((o++[p]).map encP).getD o.length .top=encP p:=by
    rw [zw];have:=xAb (o.map encP) (encP p) .top;rwa [z8] at this
   have tl:List.take o.length ((o++[p]).map encP)=o.map encP:=by
    rw [zw];exact List.take_left' (by simp)
   obtain ⟨m1,m2,m3,m4⟩:=xKZ (n:=o.length) (by omega)
   obtain ⟨m5,m6,_,_⟩:=xKZ (n:=o.length+1) (by omega)
   have jn:xKr (o++[p]) f t=if p.2=f then o++[(p.1,t)] else o++[p]++[(f,t)]:=by
    unfold xKr;simp
   by_cases he:p.2=f
   . have c1:p.2>=f:=by omega
     have c2:t>p.2:=by omega
     rw [jn,if_pos he,L];refine ⟨(true,(o.length+1,(o++[p]).map encP,o.map encP++[encP (p.1,t)]),(0,[])),?_,by simp [xab,sUF],by simp [xab,sUF]⟩
     unfold xmh xpP xjx xiw xcR xkM xkN xiy xkO;simp only [sBU,L,w1,i1,i2,i3,i4,i5,gl,cP0,cP1,lP,sP,sP0,sP1,c1,c2,tl,zq,m1,m2,m3,m4,if_true,aggP]
   . have c1:¬ p.2>=f:=by omega
     rw [jn,if_neg he,L];refine ⟨(false,(0,[],[]),(o.length+1+1,(o++[p]).map encP++[encP (f,t)])),?_,by simp [xae,sUF],by simp [xae,sUF]⟩
     unfold xmh xpP xjx xiw xcR xkM xkN xiy xkO;simp only [sBU,L,w1,i1,i2,i3,i4,gl,cP0,cP1,lP,sP,sP0,sP1,c1,m5,m6,aggP]
theorem xyj {out:List Per} {f t:Int} {K:Int->Bool} (h:OutOk out f K) (h0:0<=f) (J:f<t) (hF:t<=1099511627776) (hK:∀ u,f<=u->u<t->K u=true):OutOk (xKr out f t) t K/\(xKr out f t).length<=out.length+1:=by
 rcases xpn out with rfl|⟨o,p,rfl⟩
 . exact ⟨h.add h0 J hF hK (fun p hp=>by simp at hp),by simp [xKr]⟩
 . have jn:xKr (o++[p]) f t=if p.2=f then o++[(p.1,t)] else o++[p]++[(f,t)]:=by unfold xKr;simp
   rw [jn];by_cases he:p.2=f
   . rw [if_pos he];exact ⟨h.ext he J hF hK,by simp⟩
   . rw [if_neg he];refine ⟨h.add h0 J hF hK (fun q hq e=>?_),by simp⟩
     rcases zF.1 hq with hq|hq
     . have:=(List.pairwise_append.1 h.span.2).2.2 q hq p (by simp)
       have hv:=xbX.1 (h.span.1 p (by simp))
       have:=h.low p (by simp)
       omega
     . rw [zu] at hq;subst hq;exact he e
theorem xwD {N:Int->Nat} {S:List Per} (hS:StepI (fun t=>(N t:Int)) 1099511627776 S) (hl:S.length<=524289) (n:Int):∀ (d i:Nat) (out:List Per),i+d=S.length->OutOk out (pos S i) (fun t=>decide (n<=(N t:Int)))->out.length<=i ->
  ∃ q:List Per,Iter (xal (S.map encP) n (S.map encP) ((S.length:Nat):Int)) (out.length,(i:Int),out.map encP)=some (q.length,q.map encP)/\OutOk q 1099511627776 (fun t=>decide (n<=(N t:Int)))/\q.length<=S.length
 | 0,i,out,h,ho,hn=>by
  obtain rfl:i=S.length:=by omega
  rw [xvR (zb _)] at ho;refine ⟨out,xam ?_,ho,hn⟩;simp only [xal,xaH,xaA,xaB,z8,zx,zl,xae,sUF]
 | d+1,i,out,h,ho,hn=>by
  have hi:i<S.length:=by omega
  obtain ⟨p1,p2,p3,p4,p5⟩:=xGi hS hi;have pe:=xpJ hi;have i1:(i:Int)<(S.length:Int):=by omega
  have gf:(S.map encP).getD i .top=encP S[i]:=xaa _ _ _ hi;have wi:IntKind.i64.wrap ((i:Int)+1)=((i+1:Nat):Int):=xKl (by omega)
  obtain ⟨m1,m2,m3,m4⟩:=xKZ (n:=out.length) (by omega)
  by_cases Q:n<=S[i].2
  . have hK:∀ t,pos S i<=t->t<pos S (i+1)->(fun t=>decide (n<=(N t:Int))) t=true:=fun t t1 t2=>by
     dsimp only;rw [p5 t t1 t2,<-p4];exact decide_eq_true Q
    obtain ⟨j1,j2⟩:=xyj ho p1 p2 p3 hK;obtain ⟨q,e',x1,x2⟩:=xwD hS hl n d (i+1) (xKr out (pos S i) (pos S (i+1))) (by omega) j1 (by omega)
    refine ⟨q,(xaF (s':=((xKr out (pos S i) (pos S (i+1))).length,((i+1:Nat):Int),(xKr out (pos S i) (pos S (i+1))).map encP)) ?_).trans e',x1,x2⟩;have O:¬ S[i].2<n:=by omega
    rcases xpn out with rfl|⟨o,p,rfl⟩
    . have i0:¬ ((0:Int)>0):=by omega
      by_cases J:i+1<S.length
      . have i2:((i+1:Nat):Int)<(S.length:Int):=by omega
        have gn:(S.map encP).getD (i+1) .top=encP S[i+1]:=xaa _ _ _ J;rw [xpJ J,pe];simp only [xal,xaH,xaA,xaB,xaL,xav,xaw,xaf,xaM,sBU,i1,i2,hi,J,gf,gn,cP0,cP1,lP,sP,sP0,sP1,O,wi,zV,List.length_nil,Int.natCast_zero,Int.ofNat_zero,i0,xKr,List.getLast?_nil,zT];rfl
      . have i2:¬ ((i+1:Nat):Int)<(S.length:Int):=by omega
        rw [xvR (S:=S) (i:=i+1) (by omega),pe]
        simp only [xal,xaH,xaA,xaB,xaL,xav,xaw,xaf,xaM,sBU,i1,i2,hi,gf,cP0,cP1,lP,sP,sP0,sP1,O,wi,zV,List.length_nil,Int.natCast_zero,Int.ofNat_zero,i0,xKr,List.getLast?_nil,zT];rfl
    . have L:(o++[p]).length=o.length+1:=by simp
      rw [L] at m1 m2;have w1:IntKind.i64.wrap (((o.length+1:Nat):Int) - 1)=(o.length:Int):=xK1 (by omega)
      have k1:((o.length+1:Nat):Int)>0:=by omega
      have k2:(o.length:Int)<((o.length+1:Nat):Int):=by omega
      have k4:o.length<o.length+1:=by omega
      have gl:((o++[p]).map encP).getD o.length .top=encP p:=by
       rw [zw];have:=xAb (o.map encP) (encP p) .top;rwa [z8] at this
      have sl:∀ y:AV,((o++[p]).map encP).set o.length y=o.map encP++[y]:=fun y=>by
       rw [zw];have:=xHM (o.map encP) (encP p) y;rwa [z8] at this
      have jn:∀ f t:Int,xKr (o++[p]) f t=if p.2=f then o++[(p.1,t)] else o++[p]++[(f,t)]:=fun f t=>by unfold xKr;simp
      by_cases J:i+1<S.length
      . have i2:((i+1:Nat):Int)<(S.length:Int):=by omega
        have gn:(S.map encP).getD (i+1) .top=encP S[i+1]:=xaa _ _ _ J;rw [xpJ J,pe,jn];by_cases he:p.2=S[i].1
        . have be:(p.2==S[i].1)=true:=by simpa using he
          rw [if_pos he];simp only [xal,xaH,xaA,xaB,xaL,xav,xaw,xaf,xaM,sBU,L,i1,i2,hi,J,gf,gn,cP0,cP1,lP,sP,sP0,sP1,O,wi,w1,k1,k2,k4,gl,be,sl,tkP,dpP];simp [encP]
        . have be:(p.2==S[i].1)=false:=by simpa using he
          rw [if_neg he];simp only [xal,xaH,xaA,xaB,xaL,xav,xaw,xaf,xaM,sBU,L,i1,i2,hi,J,gf,gn,cP0,cP1,lP,sP,sP0,sP1,O,wi,w1,k1,k2,k4,gl,be,m1,m2];simp [encP]
      . have i2:¬ ((i+1:Nat):Int)<(S.length:Int):=by omega
        rw [xvR (S:=S) (i:=i+1) (by omega),pe,jn]
        by_cases he:p.2=S[i].1
        . have be:(p.2==S[i].1)=true:=by simpa using he
          rw [if_pos he];simp only [xal,xaH,xaA,xaB,xaL,xav,xaw,xaf,xaM,sBU,L,i1,i2,hi,gf,cP0,cP1,lP,sP,sP0,sP1,O,wi,w1,k1,k2,k4,gl,be,sl,tkP,dpP];simp [encP]
        . have be:(p.2==S[i].1)=false:=by simpa using he
          rw [if_neg he];simp only [xal,xaH,xaA,xaB,xaL,xav,xaw,xaf,xaM,sBU,L,i1,i2,hi,gf,cP0,cP1,lP,sP,sP0,sP1,O,wi,w1,k1,k2,k4,gl,be,m1,m2];simp [encP]
  . have hK:∀ t,pos S i<=t->t<pos S (i+1)->(fun t=>decide (n<=(N t:Int))) t=false:=fun t t1 t2=>by
     dsimp only;rw [p5 t t1 t2,<-p4];exact decide_eq_false (by omega)
    obtain ⟨q,e',x1,x2⟩:=xwD hS hl n d (i+1) out (by omega) (ho.skip (by omega) hK) (by omega)
    refine ⟨q,(xaF (s':=(out.length,((i+1:Nat):Int),out.map encP)) ?_).trans e',x1,x2⟩;have O:S[i].2<n:=by omega
    by_cases J:i+1<S.length
    . have i2:((i+1:Nat):Int)<(S.length:Int):=by omega
      have gn:(S.map encP).getD (i+1) .top=encP S[i+1]:=xaa _ _ _ J;simp only [xal,xaH,xaA,xaB,xaL,xav,xaw,xaf,xaM,sBU,i1,i2,hi,J,gf,gn,cP0,cP1,lP,sP,sP0,sP1,O,wi]
    . have i2:¬ ((i+1:Nat):Int)<(S.length:Int):=by omega
      simp only [xal,xaH,xaA,xaB,xaL,xav,xaw,xaf,xaM,sBU,i1,i2,hi,gf,cP0,cP1,lP,sP,sP0,sP1,O,wi]
theorem xHC {N:Int->Nat} (h0:∀ t,t<0\/1099511627776<=t->N t=0) {S:List Per} (hS:StepI (fun t=>(N t:Int)) 1099511627776 S) (hl:S.length<=524289) (k:Nat):∃ A:List Per,xeE (S.map encP) ((k+1:Nat):Int)=some (A.map encP)/\(IsSpan A/\∀ t,inL A t=decide (k<N t))/\A.length<=S.length:=by
 obtain ⟨A,e,a1,a2⟩:=xwD hS hl ((k+1:Nat):Int) S.length 0 [] (by omega) (by rw [xGj hS];exact xtr _) (zb _)
 refine ⟨A,?_,⟨a1.span,fun t=>?_⟩,a2⟩
 . have e:Iter (xal (S.map encP) ((k+1:Nat):Int) (S.map encP) ((S.length:Nat):Int)) ((0:Nat),(0:Int),[])=_:=e;have tt:List.take A.length (A.map encP)=A.map encP:=zh (by simp)
   unfold xeE xmD;simp only [xlm,xln,xlo,z8,e,zj,zg,xab,zG,zb,zm,zR,zq,tt,sUF]
 . rw [a1.done];by_cases h1:0<=t
   . by_cases h2:t<1099511627776
     . simp only [h1,h2,zm,Bool.true_and];rw [Bool.eq_iff_iff,zk,zk];omega
     . have:=h0 t (.inr (by omega));simp [h2,this]
   . have:=h0 t (.inl (by omega));simp [h1,this]
theorem xC7 {ps:List Per}:(fun t=>sumC (ps.map fun p=>(p,(1:Int))) t)=fun t=>((ps.countP (hasP · t):Nat):Int):=funext fun t=>xFi ps t
def xKC (ps A:List Per):Prop:=(IsSpan A/\∀ t,inL A t=decide (1<ps.countP (hasP · t)))/\A.length<=2*ps.length+1
theorem xKC.unique {ps A B:List Per} (h:xKC ps A) (g:xKC ps B):A=B:=xe9 h.1.1 g.1.1 fun t=>by rw [h.1.2,g.1.2]
theorem xyC (ps:List Per) (h:ps.length<=65536):∃ S A:List Per,xij ((ps.map fun p=>(p,(1:Int))).map encC)=some (S.map encP)/\xeE (S.map encP) 2=some (A.map encP)/\xKC ps A:=by
 obtain ⟨S,h1,h2,h3⟩:=xla _ (xEP (ps:=ps) (by omega))
 have h2:StepI (fun t=>((ps.countP (hasP · t):Nat):Int)) 1099511627776 S:=by
  have:=xC7 (ps:=ps);rw [<-this];exact h2
 rw [z8] at h3;obtain ⟨A,a1,a2,a3⟩:=xHC (N:=fun t=>ps.countP (hasP · t)) (xFL ps) h2 (by omega) 1
 exact ⟨S,A,h1,a1,a2,by omega⟩
def life (key:List Int) (pl:List Fc) (K:Row):List Per:=(pl.filter fun y=>decide (pick y.r key=K)).map (·.p)
theorem xr9 (key:List Int) (pl:List Fc) (K:Row):(life key pl K).length<=pl.length:=by
 unfold life;rw [z8];exact List.length_filter_le _ _
def xKE (key:List Int) (pl:List Fc):List En:=pl.foldl (fun es x=>addE es (keyOf (pick x.r key)) x.p) []
theorem xtm (key:List Int) (pl:List Fc) (K:Row):xKq (xKE key pl) (keyOf K)=life key pl K:=by
 unfold xKE life;rw [xyp (fun x:Fc=>keyOf (pick x.r key)) (fun x=>x.p)]
 show []++_=_;rw [zT];congr 1;refine List.filter_congr fun x _=>?_
 rw [Bool.eq_iff_iff,beq_iff_eq,zk];exact ⟨fun h=>xwv h,fun h=>by rw [h]⟩
theorem xzN {n:Nat} {s:List UInt8} {p:Per}:∀ {es:List En},(∀ e,e∈es->e.2.length<=n)->∀ e,e∈addE es s p->e.2.length<=n+1
 | [],_,e,he=>by simp only [addE,zu] at he;subst he;simp
 | a::es,h,e,he=>by
  have ha:=h a (by simp)
  rw [addE] at he;cases hc:a.1==s with
  | true =>
   rw [hc] at he;rcases zB.1 he with rfl|he
   . simp;exact ha
   . have:=h e (by simp [he]);omega
  | false =>
   rw [hc] at he;rcases zB.1 he with rfl|he
   . omega
   . exact xzN (fun x hx=>h x (by simp [hx])) e he
theorem xuL (s:List UInt8) (p:Per):∀ (es:List En) (x:List UInt8),x∈(addE es s p).map (·.1)↔x=s\/x∈es.map (·.1)
 | [],x=>by simp [addE]
 | e::es,x=>by
  have ih:=xuL s p es x;rw [addE];cases he:e.1==s with
  | true =>
   have e1:e.1=s:=by simpa using he
   simp only [zU,zB,e1];constructor
   . rintro (h|h)
     . exact .inl h
     . exact .inr (.inr h)
   . rintro (h|h|h)
     . exact .inl h
     . exact .inl h
     . exact .inr h
  | false =>
   simp only [zU,zB,ih];constructor
   . rintro (h|h|h)
     . exact .inr (.inl h)
     . exact .inl h
     . exact .inr (.inr h)
   . rintro (h|h|h)
     . exact .inr (.inl h)
     . exact .inl h
     . exact .inr (.inr h)
theorem xvj (s:List UInt8) (p:Per):∀ {es:List En},(es.map (·.1)).Nodup->((addE es s p).map (·.1)).Nodup
 | [],_=>by simp [addE]
 | e::es,h=>by
  rw [zU,List.nodup_cons] at h;rw [addE];cases he:e.1==s with
  | true=>simp only [zU,List.nodup_cons];exact h
  | false =>
   simp only [zU,List.nodup_cons];refine ⟨fun hm=>?_,xvj s p h.2⟩
   rcases (xuL s p es e.1).1 hm with h1|h1
   . rw [h1] at he;simp at he
   . exact h.1 h1
theorem xya {α:Type} (k:α->List UInt8) (f:α->Per):∀ (l:List α) (es:List En),(es.map (·.1)).Nodup->((l.foldl (fun es x=>addE es (k x) (f x)) es).map (·.1)).Nodup/\∀ x,x∈(l.foldl (fun es x=>addE es (k x) (f x)) es).map (·.1)↔x∈es.map (·.1)\/∃ a,a∈l/\x=k a
 | [],es,h=>⟨h,fun x=>by simp⟩
 | a::l,es,h=>by
  obtain ⟨h1,h2⟩:=xya k f l (addE es (k a) (f a)) (xvj _ _ h);rw [List.foldl_cons];refine ⟨h1,fun x=>?_⟩
  rw [h2,xuL];constructor
  . rintro ((h|h)|⟨b,hb,h⟩)
    . exact .inr ⟨a,by simp,h⟩
    . exact .inl h
    . exact .inr ⟨b,by simp [hb],h⟩
  . rintro (h|⟨b,hb,h⟩)
    . exact .inl (.inr h)
    . rcases zB.1 hb with rfl|hb
      . exact .inl (.inl h)
      . exact .inr ⟨b,hb,h⟩
theorem xwz:∀ {es:List En},(es.map (·.1)).Nodup->∀ {e:En},e∈es->xKq es e.1=e.2
 | a::es,h,e,he=>by
  rw [zU,List.nodup_cons] at h;rw [xKq];rcases zB.1 he with rfl|he
  . simp
  . have:(a.1==e.1)=false:=by
     rw [Bool.eq_false_iff];intro hh;exact h.1 (zJ.2 ⟨e,he,(by simpa using hh:a.1=e.1).symm⟩)
    rw [this];exact xwz h.2 he
theorem xvD (key:List Int) (l:List Fc):((xKE key l).map (·.1)).Nodup/\∀ x,x∈(xKE key l).map (·.1)↔∃ f,f∈l/\x=keyOf (pick f.r key):=by
 obtain ⟨h1,h2⟩:=xya (fun x:Fc=>keyOf (pick x.r key)) (fun x=>x.p) l [] List.nodup_nil
 exact ⟨h1,fun x=>by rw [xKE,h2];simp⟩
theorem xti (key:List Int) (l:List Fc) (e:En):e∈xKE key l↔∃ f,f∈l/\e=(keyOf (pick f.r key),life key l (pick f.r key)):=by
 obtain ⟨h1,h2⟩:=xvD key l;constructor
 . intro he;obtain ⟨f,hf,h⟩:=(h2 e.1).1 (zJ.2 ⟨e,he,rfl⟩);refine ⟨f,hf,?_⟩;have h3:=xwz h1 he;rw [h,xtm] at h3;exact Prod.ext h h3.symm
 . rintro ⟨f,hf,rfl⟩;obtain ⟨e,he,h⟩:=zJ.1 ((h2 _).2 ⟨f,hf,rfl⟩);have h3:=xwz h1 he;rw [h,xtm] at h3;have:e=(keyOf (pick f.r key),life key l (pick f.r key)):=Prod.ext h h3.symm;rw [<-this];exact he
def encO (p:Per):AV:=encC (p,1)
theorem xF8 (ps:List Per):ps.map encO=(ps.map fun p=>(p,(1:Int))).map encC:=by rw [List.map_map];rfl
def xKn (e:En):AV:=.agg [.str e.1,.list 3 (e.2.map encO)]
theorem xma (s:List UInt8):∀ es:List En,mapIx (es.map xKn) s=ixE es s
 | []=>rfl
 | e::es=>by
  rw [zU,mapIx,ixE,xma s es];rfl
theorem xun (es:List En) (s:List UInt8):xLQ (es.map xKn) s=(ixE es s).isSome:=by unfold xLQ;rw [xma]
theorem xBA {es:List En} {s:List UInt8} {i:Nat} (h:ixE es s=some i):putIx (es.map xKn) s=i:=by unfold putIx;rw [xma,h]
theorem xsd {s:List UInt8} {n:Int}:∀ {es:List En} {i:Nat},ixE es s=some i->mapIx ((es.map xKn).set i (xKM s n)) s=some i
 | [],i,h=>by simp [ixE] at h
 | e::es,i,h=>by
  rw [ixE] at h;split at h
  . cases h;simp [mapIx,xKM,AV.cells,isKey]
  . rename_i he;cases hm:ixE es s with
    | none=>rw [hm] at h;simp at h
    | some j =>
     rw [hm] at h;simp only [Option.map_some,z1] at h;subst h;rw [zU,List.set_cons_succ,mapIx,xsd hm];have:isKey s ((xKn e).cells.getD 0 .top)=false:=he;rw [this];rfl
theorem xAt {es:List En} {s:List UInt8} {i:Nat} (h:ixE es s=some i) (n:Int) (p:Per):xLC ((es.map xKn).set i (xKM s n)) s (.list 3 ((((es.getD i default).2)++[p]).map encO))=(addE es s p).map xKn:=by
 unfold xLC;rw [xsd h,xwW h];dsimp only;rw [List.set_set,List.map_set];rfl
theorem xBv {es:List En} {s:List UInt8} (h:ixE es s=none) (p:Per):xLC (es.map xKn) s (.list 3 [encO p])=(addE es s p).map xKn:=by
 unfold xLC;rw [xma,h,xwV h,zw];rfl
theorem xCM {es:List En} {s:List UInt8} {i:Nat} (h:ixE es s=some i) {n:Nat}:deadR ((es.map xKn).set i (xKM s (n:Int))) s (n+1)=true:=by
 have hi:i<((es.map xKn).set i (xKM s (n:Int))).length:=by rw [y1,z8];exact xtf h
 unfold deadR;rw [xsd h];have:((es.map xKn).set i (xKM s (n:Int))).getD i .top=xKM s (n:Int):=by
  rw [z6,zK (by simpa using hi)];rfl
 dsimp only;rw [this];show (match deadLen (AV.int .i64 (n:Int)) with|some l0=>decide (l0<n+1)|none=>false)=true
 simp [deadLen]
theorem xCL {es:List En} {s:List UInt8} (h:ixE es s=none) (n:Nat):deadR (es.map xKn) s n=true:=by unfold deadR;rw [xma,h]
theorem xLd {es:List En} {i:Nat} (h:i<es.length):(es.map xKn).getD i .top=xKn (es.getD i default):=by
 rw [xaa _ _ _ h,z6,zd h];rfl
theorem xLb (e:En) (a:AV):AV.agg (List.take 1 (xKn e).cells++[a]++List.drop 2 (xKn e).cells)=AV.agg [.str e.1,a]:=rfl
theorem xLi (e:En):((xKn e).cells.getD 1 .top).toList=e.2.map encO:=rfl
theorem xLf (e:En):xL0 3 ((xKn e).cells.getD 1 .top)=true:=rfl
theorem xLe (e:En):((xKn e).cells.length==2)=true:=rfl
theorem xLh (ps:List Per) (f t:Int):ps.map encO++[AV.agg [.int .i64 f,.int .i64 t,.int .i64 1]]=(ps++[(f,t)]).map encO:=by rw [zw];rfl
theorem xFS (s:List UInt8) (n:Int):AV.agg [.str s,.int .i64 n]=xKM s n:=rfl
theorem xCK (p0:List UInt8) (p1 p3 p4:List AV) (key:List Int) (hk:key.length<=1048576) (x:Fc) (ht:Txt x.r) (es:List En) {n:Nat} (hn:n<=1048576) (hb:es.length<=n/\∀ e,e∈es->e.2.length<=n) :
  crowds1 (x.r.map encV) x.p.1 x.p.2 p0 p1 (key.map encN) p3 p4 (es.map xKn)=some ((addE es (keyOf (pick x.r key)) x.p).map xKn):=by
 have O:=xww p0 p1 p3 p4 key x.r hk;have hs:=xEn ht hk;have hl:(keyOf (pick x.r key)).length<=4611686018427387904:=by have:=ht.len hk;omega
 generalize hK:keyOf (pick x.r key)=K at *;cases hi:ixE es K with
 | none =>
  have m1:es.length<4611686018427387904:=by have:=hb.1;omega
  have d1:=xCL hi 1;have mp:=xBv hi x.p;have mp:xLC (es.map xKn) K (.list 3 [AV.agg [.int .i64 x.p.1,.int .i64 x.p.2,.int .i64 1]])=_:=mp;simp only [crowds1,xqE,xlW,xlX,xjP,xdZ,xa8,xpc,sBU,O,hs,hl,xun,hi,Option.isSome_none,m1,d1,mp]
 | some i =>
  have q:=xtf hi;have m1:es.length<4611686018427387904:=by have:=hb.1;omega
  have Q:(es.getD i default).2.length<=n:=hb.2 _ (by rw [z6,zd q];exact zn q)
  have r1:((es.getD i default).2.length+1)*24<=140737488355328:=by omega
  have r2:(es.getD i default).2.length+1<=4611686018427387904:=by omega
  have J:=xB8 hi;have d1:=xCM hi (n:=(es.getD i default).2.length);have mp:=xAt hi (((es.getD i default).2.length:Nat):Int) x.p;simp only [crowds1,xqE,xlW,xlX,xjP,xdZ,xa8,xpc,sBU,O,hs,hl,xun,hi,xBA hi,xLd q,q,xLi,xLf,xLe,xLb,J,xFS,xLh,z7,zi,y1,r1,r2,m1,d1];rw [<-mp]
theorem xEj (p0:List UInt8) (p1 p3 p4:List AV) (key:List Int) (hk:key.length<=1048576) (l:List Fc) (hl:l.length<=1048576) (ht:∀ y,y∈l->Txt y.r) :
  Iter (xdI p0 p1 (key.map encN) p3 p4 (l.map encF) ((l.length:Nat):Int)) ((0:Int),[])=some ((xKE key l).map xKn):=by
 refine xn6 l (fun es x=>addE es (keyOf (pick x.r key)) x.p) (fun n b=>((n:Int),b.map xKn)) (fun n b=>b.length<=n/\∀ e,e∈b->e.2.length<=n) (fun n h b hb=>?_) l.length 0 [] (by omega) (by simp) ?_
 . have h1:(n:Int)<(l.length:Int):=by omega
   have gf:(l.map encF).getD n .top=encF l[n]:=xaa _ _ _ h;have hx:=xCK p0 p1 p3 p4 key hk l[n] (ht l[n] (zn h)) b (n:=n) (by omega) hb
   refine ⟨?_,?_,xzN hb.2⟩
   . simp only [xdI,xnQ,xlY,sBU,h,h1,gf,cF0,cF1,cF2,sF0,sF1,sF2,lF,sF12,sF02,hx,xKl (n:=n) (by omega)]
   . have:=xuM (keyOf (pick l[n].r key)) l[n].p b;omega
 . simp only [zq];simp only [xdI,xnQ,xlY,z8,zx,zl,xae,sUF];rfl
def xKw (ps:List Per):List Per:=by
 classical
 exact if h:∃ A,xKC ps A then Classical.choose h else []
theorem xn3 {ps:List Per} (h:ps.length<=65536):xKC ps (xKw ps):=by
 obtain ⟨S,A,_,_,h3⟩:=xyC ps h;have hx:∃ A,xKC ps A:=⟨A,h3⟩;unfold xKw;rw [dif_pos hx];exact Classical.choose_spec hx
theorem xCJ:xKw []=[]:=(xn3 (ps:=[]) (by simp)).unique ⟨⟨xpg,fun t=>by simp [xm9]⟩,by simp⟩
theorem xw1 {ps:List Per} (h:ps.length<=65536):crowdV (ps.map encO)=(xKw ps).map encP/\crowdOk (ps.map encO)=true:=by
 obtain ⟨S,A,h1,h2,h3⟩:=xyC ps h;rw [xF8];unfold crowdV crowdOk;simp only [h1,h2,zg,zj,Bool.and_self,and_true];rw [h3.unique (xn3 h)]
theorem xw2 {ps A:List Per} (h:xKC ps A):A=[]↔∀ t,ps.countP (hasP · t)<=1:=by
 constructor
 . rintro rfl t;have:=h.1.2 t;rw [xm9] at this;have:=of_decide_eq_false this.symm;omega
 . intro h1;exact xsv h.1.1 fun t=>by rw [h.1.2];exact decide_eq_false (by have:=h1 t;omega)
theorem xr6 {es:List En} {k:Nat} (h:k<es.length):keyK (es.map xKn) k=es[k].1:=by unfold keyK;rw [xaa _ _ _ h];rfl
theorem xAP {es:List En} {k:Nat} (h:k<es.length):rowK (es.map xKn) k=es[k].2.map encO:=by unfold rowK;rw [xaa _ _ _ h];rfl
theorem xCj {es:List En} {k:Nat} (h:k<es.length):rowK (es.map xKu) k=es[k].2.map encP:=by unfold rowK;rw [xaa _ _ _ h];rfl
theorem xED {es:List En} (h:(es.map (·.1)).Nodup):keysD (es.map xKn)=true:=by
 unfold keysD;rw [zH];intro i hi;rw [zH];intro j hj;rw [List.mem_range,z8] at hi hj;rw [xr6 hi,xr6 hj];by_cases e:i=j
 . subst e;simp
 . have hne:¬ es[i].1=es[j].1:=fun hh=>by
    rcases Nat.lt_or_gt_of_ne e with q|q
    . exact zA.1 h i j (by simpa using hi) (by simpa using hj) q (by rw [List.getElem_map,List.getElem_map];exact hh)
    . exact zA.1 h j i (by simpa using hj) (by simpa using hi) q (by rw [List.getElem_map,List.getElem_map];exact hh.symm)
   simp [hne]
def PcOk (es:List En):Prop:=∀ e,e∈es->e.1.length<=4611686018427387904/\e.2.length<=65536
theorem xDa {es:List En} (h:(es.map (·.1)).Nodup) (hl:es.length<=65536) (h1:PcOk es):piecesOk (es.map xKn)=true:=by
 unfold piecesOk;have h2:decide (es.length<4611686018427387904)=true:=decide_eq_true (by omega)
 rw [xED h,Bool.true_and,z8,h2,Bool.true_and,zH];intro k hk;rw [List.mem_range] at hk;have hm:=h1 _ (zn hk);have h3:xL0 3 (((es.map xKn).getD k .top).cells.getD 1 .top)=true:=by rw [xaa _ _ _ hk];rfl
 rw [xr6 hk,xAP hk,(xw1 hm.2).2,h3,Bool.true_and,Bool.true_and];exact decide_eq_true hm.1
theorem xGd {es:List En} (h1:PcOk es):outC (es.map xKn)=(es.map fun e=>((e.1,xKw e.2):En)).map xKu:=by
 unfold outC;refine List.ext_getElem (by simp) fun k h2 h3=>?_
 have hk:k<es.length:=by simpa using h2
 rw [List.getElem_map,List.getElem_range,List.getElem_map,List.getElem_map];unfold entC;rw [xr6 hk,xAP hk,(xw1 (h1 _ (zn hk)).2).1];rfl
def xKv (key:List Int) (l:List Fc):List En:=(xKE key l).map fun e=>(e.1,xKw e.2)
theorem xAr {g:List Per->List Per} (h0:g []=[]) (s:List UInt8):∀ es:List En,xKq (es.map fun e=>((e.1,g e.2):En)) s=g (xKq es s)
 | []=>h0.symm
 | e::es=>by
  rw [zU,xKq,xKq,xAr h0 s es];cases e.1==s<;>rfl
theorem xC4 (key:List Int) (l:List Fc) (K:Row):xKq (xKv key l) (keyOf K)=xKw (life key l K):=by
 unfold xKv;rw [xAr xCJ,xtm]
structure TOk (key:List Int) (l:List Fc):Prop where
 key:key.length<=1048576
 len:l.length<=65536
 txt:∀ y,y∈l->Txt y.r
theorem TOk.pc {key:List Int} {l:List Fc} (h:TOk key l):PcOk (xKE key l):=fun e he=>by
 obtain ⟨f,hf,rfl⟩:=(xti key l e).1 he;have h1:=(h.txt f hf).len h.key;have h2:=xr9 key l (pick f.r key);have:=h.len;dsimp only;omega
theorem xEG (key:List Int) (l:List Fc):(xKE key l).length<=l.length:=by
 have:∀ (l:List Fc) (es:List En),(l.foldl (fun es x=>addE es (keyOf (pick x.r key)) x.p) es).length<=es.length+l.length:=by
  intro l;induction l with
  | nil=>intro es;simp
  | cons x l ih =>
   intro es;have h1:=ih (addE es (keyOf (pick x.r key)) x.p);have h2:=xuM (keyOf (pick x.r key)) x.p es;rw [List.foldl_cons,zD];omega
 have:=this l [];simpa [xKE] using this
theorem xw3 {key:List Int} {l:List Fc} (h:TOk key l) (p0:List UInt8) (p1 p3 p4:List AV) :
  crowds p0 p1 (key.map encN) p3 p4 (l.map encF)=some ((xKv key l).map xKu):=by
 have e:=xEj p0 p1 p3 p4 key h.key l (by have:=h.len;omega) h.txt
 have h1:=xDa (xvD key l).1 (by have:=xEG key l;have:=h.len;omega) h.pc
 unfold crowds xrx;simp only [z8,e,zj,zg,xab,h1,zR,xGd h.pc,sUF];rfl
theorem xE8 (es:List En):rowsC (es.map xKu)=true:=by
 unfold rowsC;rw [zH];intro k hk;rw [List.mem_range,z8] at hk;rw [xaa _ _ _ hk];rfl
theorem xFD (es:List En):anyC (es.map xKu)=true↔∃ e,e∈es/\e.2≠[]:=by
 unfold anyC;rw [List.any_eq_true];constructor
 . rintro ⟨k,hk,h⟩;rw [List.mem_range,z8] at hk;rw [xCj hk,z8] at h;refine ⟨es[k],zn hk,fun h0=>?_⟩
   rw [h0] at h;simp at h
 . rintro ⟨e,he,h⟩;obtain ⟨k,hk,rfl⟩:=zo.1 he;refine ⟨k,by simpa using hk,?_⟩
   rw [xCj hk,z8];have:=List.length_pos_iff.2 h;exact decide_eq_true (by omega)
def Once (key:List Int) (l:List Fc):Prop:=∀ f,f∈l->∀ t,(life key l (pick f.r key)).countP (hasP · t)<=1
theorem xts {key:List Int} {l:List Fc} (h:TOk key l) (p0:List UInt8) (p1 p3 p4:List AV) :
  ∃ b,xcf p0 p1 (key.map encN) p3 p4 (l.map encF)=some b/\(b=true↔Once key l):=by
 have e:=xw3 h p0 p1 p3 p4;have hN:anyC ((xKv key l).map xKu)=true↔¬ Once key l:=by
  rw [xFD];constructor
  . rintro ⟨x,hx,hne⟩ ho;obtain ⟨y,hy,rfl⟩:=zJ.1 hx;obtain ⟨f,hf,rfl⟩:=(xti key l y).1 hy;exact hne ((xw2 (xn3 (Nat.le_trans (xr9 key l (pick f.r key)) h.len))).2 (ho f hf))
  . intro ho;obtain ⟨f,hf,hn⟩:∃ f,f∈l/\¬ ∀ t,(life key l (pick f.r key)).countP (hasP · t)<=1:=by
     refine Classical.byContradiction fun hc=>ho fun f hf=>Classical.byContradiction fun hd=>hc ⟨f,hf,hd⟩
    refine ⟨(keyOf (pick f.r key),xKw (life key l (pick f.r key))),zJ.2 ⟨_,(xti key l _).2 ⟨f,hf,rfl⟩,rfl⟩,fun h0=>hn ?_⟩
    exact (xw2 (xn3 (Nat.le_trans (xr9 key l (pick f.r key)) h.len))).1 h0
 refine ⟨!anyC ((xKv key l).map xKu),?_,?_⟩
 . unfold xcf xj9;simp only [e,zj,zg,xE8,zR,xab,sUF];cases anyC ((xKv key l).map xKu)<;>rfl
 . constructor
   . intro hb;refine Classical.byContradiction fun hc=>?_
     rw [hN.2 hc] at hb;simp at hb
   . intro ho;cases ha:anyC ((xKv key l).map xKu) with
     | false=>rfl
     | true=>exact absurd ho (hN.1 ha)
def Tx (l:List Fc):Prop:=∀ f,f∈l->∀ v,v∈f.r->v.wf/\v.t.length<=1073741824
theorem xEA {r:Row} (h:∀ v,v∈r->v.wf/\v.t.length<=1073741824) (hl:r.length<=60):(keyOf r).length<=17592186044416:=by
 have:=xm8 (g:=keyV) (c:=1073741890) r fun v hv=>by
  obtain ⟨h1,h2⟩:=h v hv;have:=xuU h1 (by omega);omega
 unfold keyOf;have h2:1073741890*r.length<=1073741890*60:=Nat.mul_le_mul_left _ hl;omega
theorem xFm {l:List Fc} (hl:l.length<=1024) (hr:∀ f,f∈l->f.r.length<=60) (ht:Tx l) (q:R20 l):Bld l :=
 ⟨⟨⟨by omega,fun f hf=>by have:=hr f hf;omega⟩,fun f hf=>⟨fun v hv=>⟨(ht f hf v hv).1,by have:=(ht f hf v hv).2;omega⟩,xEA (ht f hf) (hr f hf)⟩,q⟩,hl⟩
theorem xKG.all {l B:List Fc} (h:xKG l B) {Q:Row->Prop} (hq:∀ f,f∈l->Q f.r):∀ f,f∈B->Q f.r:=fun f hf=>by
 obtain ⟨_,g,hg,e⟩:=h.valid hf;rw [<-e];exact hq g hg
theorem xKH.all {l B:List Fc} (h:xKH l B) {Q:Row->Prop} (hq:∀ f,f∈l->Q f.r):∀ f,f∈B->Q f.r:=fun f hf=>by
 obtain ⟨R,L,h1,h2,rfl⟩:=h;obtain ⟨a,b⟩:=xn5 hf;obtain ⟨g,g1,g2,_⟩:=(h1.2 _).1 a;rw [<-g2];exact hq g g1
theorem xKH.len {l B:List Fc} (h:xKH l B):B.length<=l.length*l.length:=by
 obtain ⟨R,L,h1,h2,rfl⟩:=h;refine xth (h1.1.nodup xta) fun r hr=>?_
 obtain ⟨a,b⟩:=h2 r hr;have:=xwy (ps:=psOf l r) (k:=0) a fun t=>by rw [b,xAF]
 exact Nat.le_trans this (Nat.le_mul_self _)
theorem xHm (A B:List Per) (t:Int):inL (A++B) t=(inL A t || inL B t):=by unfold inL;rw [List.any_append]
theorem xtV (p:Per) (t:Int):inL [p] t=hasP p t:=by unfold inL;simp
theorem xCn {A:List Per} (hA:IsSpan A) {p q:Per} (hq:q∈A) (h:∀ t,inL A t=true->hasP p t=true):p.1<=q.1/\q.2<=p.2:=by
 have hv:=xbX.1 (hA.1 q hq);have h1:=h q.1 (List.any_eq_true.2 ⟨q,hq,xa4.2 ⟨hA.1 q hq,by omega,by omega⟩⟩)
 have h2:=h (q.2 - 1) (List.any_eq_true.2 ⟨q,hq,xa4.2 ⟨hA.1 q hq,by omega,by omega⟩⟩)
 have:=(xa4.1 h1).2;have:=(xa4.1 h2).2;omega
theorem xyV {c:Int->Bool} {Q:Per->List Per}:∀ {A:List Per},IsSpan A->(∀ p,p∈A->IsSpan (Q p)/\∀ t,inL (Q p) t=(hasP p t&&c t))->IsSpan (A.flatMap Q)/\∀ t,inL (A.flatMap Q) t=(inL A t&&c t)
 | [],_,_=>⟨xpg,fun t=>by simp [xm9]⟩
 | p::A,hA,hQ=>by
  obtain ⟨h1,h2⟩:=xyV (xyU hA) fun q hq=>hQ q (by simp [hq])
  obtain ⟨h3,h4⟩:=hQ p (by simp)
  have U:=(zL.1 hA.2).1;rw [zQ];refine ⟨⟨fun q hq=>?_,List.pairwise_append.2 ⟨h3.2,h1.2,fun q hq q' J=>?_⟩⟩,fun t=>?_⟩
  . rcases zF.1 hq with hq|hq
    . exact h3.1 q hq
    . exact h1.1 q hq
  . obtain ⟨p',O,J⟩:=y2.1 J;obtain ⟨h5,h6⟩:=hQ p' (by simp [O])
    have a1:=(xCn h3 hq (p:=p) fun t ht=>by rw [h4] at ht;exact (Bool.and_eq_true_iff.1 ht).1).2
    have a2:=(xCn h5 J (p:=p') fun t ht=>by rw [h6] at ht;exact (Bool.and_eq_true_iff.1 ht).1).1
    have a3:=U p' O;omega
  . rw [xHm,h2,h4,xhU];cases hasP p t<;>cases inL A t<;>cases c t<;>rfl
def cntK (key:List Int) (l:List Fc) (K:Row) (t:Int):Nat:=(life key l K).countP (hasP · t)
structure IsViol (key:List Int) (l V:List Fc):Prop where
 ex:∃ R L,IsRows l R/\(∀ r,r∈R->IsSpan (L r)/\∀ t,inL (L r) t=(decide (0<cnt l r t)&&decide (1<cntK key l (pick r key) t)))/\V=facts R L
theorem IsViol.unique {key:List Int} {l V W:List Fc} (h:IsViol key l V) (g:IsViol key l W):V=W:=by
 obtain ⟨R,L,h1,h2,rfl⟩:=h;obtain ⟨R',L',g1,g2,rfl⟩:=g;obtain rfl:=h1.unique g1 fun _ _=>rfl
 exact xq8 fun r hr=>xe9 (h2 r hr).1 (g2 r hr).1 fun t=>by rw [(h2 r hr).2,(g2 r hr).2]
theorem IsViol.row {key:List Int} {l V:List Fc} (h:IsViol key l V):∀ f,f∈V->∃ g,g∈l/\g.r=f.r:=fun f hf=>by
 obtain ⟨R,L,h1,h2,rfl⟩:=h;obtain ⟨g,g1,g2,_⟩:=(h1.2 _).1 (xn5 hf).1;exact ⟨g,g1,g2⟩
theorem IsViol.has {key:List Int} {l V:List Fc} (h:IsViol key l V) (t:Int):(∃ f,f∈V/\hasP f.p t=true)↔∃ f,f∈l/\hasP f.p t=true/\1<cntK key l (pick f.r key) t:=by
 obtain ⟨R,L,h1,h2,rfl⟩:=h;constructor
 . rintro ⟨f,hf,ht⟩;obtain ⟨a,b⟩:=xn5 hf;have h3:=(h2 _ a).2 t;rw [show inL (L f.r) t=true from List.any_eq_true.2 ⟨_,b,ht⟩] at h3
   obtain ⟨c1,c2⟩:=Bool.and_eq_true_iff.1 h3.symm;obtain ⟨g,g1,g2,g3⟩:=xtT.1 (of_decide_eq_true c1);exact ⟨g,g1,g3,by rw [g2];exact of_decide_eq_true c2⟩
 . rintro ⟨f,hf,ht,hc⟩;have hr:f.r∈R:=(h1.2 _).2 ⟨f,hf,rfl,xtd ht⟩;have h3:=(h2 _ hr).2 t;rw [decide_eq_true (xtT.2 ⟨f,hf,rfl,ht⟩),decide_eq_true hc] at h3;obtain ⟨p,hp,q⟩:=List.any_eq_true.1 h3;exact ⟨⟨f.r,p⟩,y2.2 ⟨f.r,hr,zJ.2 ⟨p,hp,rfl⟩⟩,q⟩
theorem xrZ {key:List Int} {l:List Fc} {K:Row} {t:Int}:0<cntK key l K t↔∃ f,f∈l/\pick f.r key=K/\hasP f.p t=true:=by
 unfold cntK life;rw [List.countP_pos_iff];constructor
 . rintro ⟨p,hp,h⟩;obtain ⟨f,hf,rfl⟩:=zJ.1 hp;obtain ⟨h1,h2⟩:=List.mem_filter.1 hf;exact ⟨f,h1,of_decide_eq_true h2,h⟩
 . rintro ⟨f,hf,h1,h2⟩;exact ⟨f.p,zJ.2 ⟨f,List.mem_filter.2 ⟨hf,decide_eq_true h1⟩,rfl⟩,h2⟩
theorem IsViol.valid {key:List Int} {l V:List Fc} (h:IsViol key l V):∀ f,f∈V->pv f.p=true:=fun f hf=>by
 obtain ⟨R,L,h1,h2,rfl⟩:=h;obtain ⟨a,b⟩:=xn5 hf;exact (h2 _ a).1.1 _ b
theorem xuY {key:List Int} {l:List Fc}:Once key l↔∀ K t,cntK key l K t<=1:=by
 constructor
 . intro h K t;rcases Nat.eq_zero_or_pos (cntK key l K t) with h0|h0
   . omega
   . obtain ⟨f,hf,rfl,_⟩:=xrZ.1 h0;exact h f hf t
 . intro h f hf t;exact h _ t
theorem IsViol.nil {key:List Int} {l V:List Fc} (h:IsViol key l V):V=[]↔Once key l:=by
 rw [xuY];constructor
 . rintro rfl K t;refine Classical.byContradiction fun hc=>?_
   obtain ⟨f,hf,rfl,ht⟩:=xrZ.1 (show 0<cntK key l K t by omega)
   obtain ⟨g,hg,_⟩:=(h.has t).2 ⟨f,hf,ht,by omega⟩
   simp at hg
 . intro ho;rcases V with _|⟨v,V⟩
   . rfl
   . obtain ⟨f,hf,ht,hc⟩:=(h.has v.p.1).1 ⟨v,by simp,xyY (h.valid v (by simp))⟩
     have:=ho (pick f.r key) v.p.1;omega
theorem xCx {key:List Int} {l S:List Fc} (h:xKH l S) {Q:Fc->List Per} (hQ:∀ f,f∈S->IsSpan (Q f)/\∀ t,inL (Q f) t=(hasP f.p t&&decide (1<cntK key l (pick f.r key) t))):IsViol key l (S.flatMap fun f=>mk f.r (Q f)):=by
 obtain ⟨R,L,h1,h2,rfl⟩:=h;have hm:∀ r,r∈R->∀ p,p∈L r->(⟨r,p⟩:Fc)∈facts R L:=fun r hr p hp=>y2.2 ⟨r,hr,zJ.2 ⟨p,hp,rfl⟩⟩
 refine ⟨R,fun r=>(L r).flatMap fun p=>Q ⟨r,p⟩,h1,fun r hr=>?_,?_⟩
 . obtain ⟨a,b⟩:=xyV (c:=fun t=>decide (1<cntK key l (pick r key) t)) (h2 r hr).1 (Q:=fun p=>Q ⟨r,p⟩) fun p hp=>hQ ⟨r,p⟩ (hm r hr p hp)
   exact ⟨a,fun t=>by rw [b,(h2 r hr).2]⟩
 . unfold facts;rw [List.flatMap_assoc];congr 1;funext r;rw [List.flatMap_map,List.map_flatMap];rfl
theorem xE3 (l:List Per) (t:Int) (hl:l.length<=1048576):xfe (l.map encP) t=some (inL l t):=by
 have e:=xyh (step:=xbk (l.map encP) t) l (fun k=>(k:Int)) (fun a=>br (hasP a t) (some (true,true,())) none) (false,false,()) (fun k h=>by
  have h1:(k:Int)<(l.length:Int):=by omega
  have gf:(l.map encP).getD k .top=encP l[k]:=xaa _ _ _ h;simp only [xbk,xiN,sBU,h,h1,gf,cP0,cP1,lP,sP,sP0,sP1,xsj,xHB,xyB,xyA,xKl (n:=k) (by omega)]) (by
  simp only [xbk,xiN,z8,zx,zl,xae,sUF]) l.length 0 (by simp)
 rw [zq,xz5] at e;have e:Iter (xbk (l.map encP) t) (0:Int)=_:=e;unfold xfe xpO;rw [e];show _=some (l.any (hasP · t));cases l.any (hasP · t)<;>rfl
def ptsP (l:List Per):List Int:=l.foldl (fun P p=>if pv p=true then insI (insI P p.1) p.2 else P) []
theorem xyJ (l:List Per) (p:Per):ptsP (l++[p])=if pv p=true then insI (insI (ptsP l) p.1) p.2 else ptsP l:=by simp [ptsP]
theorem xyK:∀ l:List Per,Asc (ptsP l.reverse)/\∀ x,x∈ptsP l.reverse↔∃ p,p∈l/\pv p=true/\(x=p.1\/x=p.2)
 | []=>by simp [ptsP,Asc]
 | c::l=>by
  obtain ⟨h1,h2⟩:=xyK l;rw [List.reverse_cons,xyJ];split
  . rename_i hv;refine ⟨xna (xna h1 _) _,fun x=>?_⟩
    rw [xk7,xk7,h2];constructor
    . rintro (h|h|⟨c',a,b,d⟩)
      . exact ⟨c,by simp,hv,.inr h⟩
      . exact ⟨c,by simp,hv,.inl h⟩
      . exact ⟨c',by simp [a],b,d⟩
    . rintro ⟨c',a,b,d⟩;rcases zB.1 a with rfl|a
      . rcases d with d|d
        . exact .inr (.inl d)
        . exact .inl d
      . exact .inr (.inr ⟨c',a,b,d⟩)
  . rename_i hv;refine ⟨h1,fun x=>?_⟩
    rw [h2];constructor
    . rintro ⟨c',a,b,d⟩;exact ⟨c',by simp [a],b,d⟩
    . rintro ⟨c',a,b,d⟩;rcases zB.1 a with rfl|a
      . exact absurd b hv
      . exact ⟨c',a,b,d⟩
theorem xHE (l:List Per):Asc (ptsP l)/\∀ x,x∈ptsP l↔∃ p,p∈l/\pv p=true/\(x=p.1\/x=p.2):=by
 have:=xyK l.reverse;simpa using this
theorem xGm (l:List Per):(ptsP l).length<=2*l.length:=by
 have q:∀ l:List Per,(ptsP l.reverse).length<=2*l.length:=fun l=>by
  induction l with
  | nil=>simp [ptsP]
  | cons c l ih =>
   rw [List.reverse_cons,xyJ];have a1:=xjr (ptsP l.reverse) c.1;have a2:=xjr (insI (ptsP l.reverse) c.1) c.2;split<;>simp<;>omega
 have:=q l.reverse;simpa using this
theorem xBH (l:List Per) (hl:l.length<=262144):xpQ (l.map encP)=some ((ptsP l).map encN):=by
 have e:Iter (xdl (l.map encP)) ([],(0:Int))=some ((ptsP l).map encN):=by
  refine xn6 l (fun P p=>if pv p=true then insI (insI P p.1) p.2 else P) (fun n b=>(b.map encN,(n:Int))) (fun n b=>b.length<=2*n) (fun n h b hb=>?_) l.length 0 [] (by omega) (by simp) ?_
  . have h1:(n:Int)<(l.length:Int):=by omega
    have gf:(l.map encP).getD n .top=encP l[n]:=xaa _ _ _ h;have a1:=xjr b l[n].1;have a2:=xjr (insI b l[n].1) l[n].2;have i1:=xqI b l[n].1 (by omega)
    have i2:=xqI (insI b l[n].1) l[n].2 (by omega)
    refine ⟨?_,by split<;>omega⟩
    simp only [xdl,xkd,xea,sBU,h,h1,gf,cP0,cP1,lP,sP,sP0,sP1,xqT,i1,i2,xKl (n:=n) (by omega)]
    cases pv l[n]<;>simp [xab,xae,sUF]
  . simp only [zq];simp only [xdl,xkd,xea,z8,zx,zl,xae,sUF];rfl
 unfold xpQ xrN;rw [e];rfl
theorem xyL {P:List Int} (hA:Asc P) {l:List Per} (hm:∀ p,p∈l->pv p=true->p.1∈P/\p.2∈P) {j:Nat} (hj:j+1<P.length) {t:Int} (h1:P[j]<=t) (h2:t<P[j+1]):inL l t=inL l P[j]:=by
 have key:∀ x,x∈P->(x<=t↔x<=P[j]):=fun x hx=>by
  obtain ⟨k,hk,rfl⟩:=List.getElem_of_mem hx;constructor
  . intro h;rcases zI j k with q|q
    . rcases zI (j+1) k with h3|h3
      . have:=zA.1 hA (j+1) k hj hk h3;omega
      . obtain rfl:k=j+1:=by omega
        omega
    . rcases zI k j with h3|h3
      . have:=zA.1 hA k j hk (by omega) h3;omega
      . obtain rfl:k=j:=by omega
        omega
  . intro h;omega
 rw [Bool.eq_iff_iff,xel,xel];constructor
 . rintro ⟨p,a,b,c,d⟩;obtain ⟨m1,m2⟩:=hm p a b;have k1:=key _ m1;have k2:=key _ m2;exact ⟨p,a,b,by omega,by omega⟩
 . rintro ⟨p,a,b,c,d⟩;obtain ⟨m1,m2⟩:=hm p a b;have k1:=key _ m1;have k2:=key _ m2;exact ⟨p,a,b,by omega,by omega⟩
theorem xwp (J:Int) (a b:List Per) (ha:a.length<=65536) (hb:b.length<=65536) (P:List Int) (hA:Asc P) (hP:P.length<=1048576) (hR:∀ x,x∈P->0<=x/\x<=1099511627776)
  (ma:∀ p,p∈a->pv p=true->p.1∈P/\p.2∈P) (mb:∀ p,p∈b->pv p=true->p.1∈P/\p.2∈P):∀ (d j:Nat) (hj:j<P.length) (out:List Per),j+1+d=P.length->OutOk out P[j] (fun t=>xdo J (inL a t) (inL b t))->out.length<=j ->
  ∃ O:List Per,Iter (xbP J (a.map encP) (b.map encP) (P.map encN)) (out.length,((j+1:Nat):Int),out.map encP)=some (O.length,O.map encP)/\OutOk O (P[P.length - 1]'(by omega)) (fun t=>xdo J (inL a t) (inL b t))/\O.length<=P.length
 | 0,j,hj,out,h,ho,hn=>by
  have e:P.length=j+1:=by omega
  refine ⟨out,xam ?_,?_,by omega⟩
  . have i1:¬ ((j+1:Nat):Int)<(P.length:Int):=by omega
    simp only [xbP,xfN,z8,i1,zl,xae,sUF]
  . have:P[P.length - 1]'(by omega)=P[j]:=by congr 1;omega
    rw [this];exact ho
 | d+1,j,hj,out,h,ho,hn=>by
  have Q:j+1<P.length:=by omega
  have i0:((j+1:Nat):Int)<(P.length:Int):=by omega
  have i1:(j:Int)<(P.length:Int):=by omega
  have i2:(0:Int)<=((j+1:Nat):Int):=by omega
  have w:IntKind.i64.wrap (((j+1:Nat):Int) - 1)=(j:Int):=xK1 (by omega)
  have gf:(P.map encN).getD j .top=encN P[j]:=xaa _ _ _ hj;have gn:(P.map encN).getD (j+1) .top=encN P[j+1]:=xaa _ _ _ Q;have ca:=xE3 a P[j] (by omega)
  have cb:=xE3 b P[j] (by omega)
  have lt:P[j]<P[j+1]:=zA.1 hA j (j+1) hj Q (by omega)
  have r1:=hR _ (zn hj);have r2:=hR _ (zn Q);have hw:=xKl (n:=j+1) (by omega)
  have hK:∀ t,P[j]<=t->t<P[j+1]->xdo J (inL a t) (inL b t)=xdo J (inL a P[j]) (inL b P[j]):=fun t t1 t2=>by
   rw [xyL hA ma Q t1 t2,xyL hA mb Q t1 t2]
  cases hc:xdo J (inL a P[j]) (inL b P[j]) with
  | true =>
   obtain ⟨j1,j2⟩:=xyj ho r1.1 lt r2.2 (fun t t1 t2=>by rw [hK t t1 t2,hc])
   obtain ⟨q,q1,q2,q3⟩:=xHp out P[j] P[j+1] lt ho.low (by omega)
   obtain ⟨O,e',x1,x2⟩:=xwp J a b ha hb P hA hP hR ma mb d (j+1) Q (xKr out P[j] P[j+1]) (by omega) j1 (by omega)
   refine ⟨O,(xaF (s':=((xKr out P[j] P[j+1]).length,((j+1+1:Nat):Int),(xKr out P[j] P[j+1]).map encP)) ?_).trans e',x1,x2⟩;rw [<-q2,<-q3];simp only [xbP,xfN,xdm,xeR,xeS,xdn,xeT,xeU,xeV,xbc,sBU,i0,i1,i2,w,hj,Q,gf,gn,cN,sN,ca,cb,hc,q1,hw]
  | false =>
   obtain ⟨O,e',x1,x2⟩:=xwp J a b ha hb P hA hP hR ma mb d (j+1) Q out (by omega) (ho.skip (by omega) (fun t t1 t2=>by rw [hK t t1 t2,hc])) (by omega)
   refine ⟨O,(xaF (s':=(out.length,((j+1+1:Nat):Int),out.map encP)) ?_).trans e',x1,x2⟩;simp only [xbP,xfN,xdm,xeR,xeS,xdn,xeT,xeU,xeV,xbc,sBU,i0,i1,i2,w,hj,Q,gf,gn,cN,sN,ca,cb,hc,hw]
theorem xHh (q:Int) (a b:List Per) (ha:a.length<=65536) (hb:b.length<=65536):∃ A:List Per,xj0 q (a.map encP) (b.map encP)=some (A.map encP)/\IsSpan A/\(∀ t,inL A t=(decide (0<=t)&&(decide (t<1099511627776)&&xdo q (inL a t) (inL b t))))/\A.length<=2*(1+a.length+b.length):=by
 have O:∀ x,x∈(((0,1099511627776):Per)::a++b)↔x=(0,1099511627776)\/x∈a\/x∈b:=fun x=>by simp
 have J:(((0,1099511627776):Per)::a++b).length=1+a.length+b.length:=by simp;omega
 obtain ⟨pA,pm⟩:=xHE (((0,1099511627776):Per)::a++b);have pl:=xGm (((0,1099511627776):Per)::a++b);have pe:=xBH (((0,1099511627776):Per)::a++b) (by rw [J];omega)
 rw [J] at pl;generalize Y:ptsP (((0,1099511627776):Per)::a++b)=P at pA pm pl pe;have m0:(0:Int)∈P:=(pm 0).2 ⟨(0,1099511627776),by simp,by decide,.inl rfl⟩
 have mF:(1099511627776:Int)∈P:=(pm _).2 ⟨(0,1099511627776),by simp,by decide,.inr rfl⟩
 have hR:∀ x,x∈P->0<=x/\x<=1099511627776:=fun x hx=>by
  obtain ⟨p,_,hv,h⟩:=(pm x).1 hx;have:=xbX.1 hv;omega
 have U:0<P.length:=List.length_pos_of_mem m0;have e0:P[0]=0:=by
  obtain ⟨k,hk,he⟩:=List.getElem_of_mem m0;rcases Nat.eq_zero_or_pos k with rfl|h
  . exact he
  . have:=zA.1 pA 0 k U hk h;have:=hR _ (zn U);omega
 have eF:P[P.length - 1]'(by omega)=1099511627776:=by
  obtain ⟨k,hk,he⟩:=List.getElem_of_mem mF;rcases zI k (P.length - 1) with h|h
  . have:=zA.1 pA k (P.length - 1) hk (by omega) h
    have:=hR _ (zn (l:=P) (n:=P.length - 1) (by omega))
    omega
  . have:P[P.length - 1]'(by omega)=P[k]:=by congr 1;omega
    rw [this];exact he
 have mm:∀ l:List Per,(∀ x,x∈l->x=(0,1099511627776)\/x∈a\/x∈b)->∀ p,p∈l->pv p=true->p.1∈P/\p.2∈P:=fun l hl p hp hv=>⟨(pm _).2 ⟨p,(O p).2 (hl p hp),hv,.inl rfl⟩,(pm _).2 ⟨p,(O p).2 (hl p hp),hv,.inr rfl⟩⟩
 obtain ⟨A,e,a1,a2⟩:=xwp q a b ha hb P pA (by omega) hR (mm a fun x hx=>.inr (.inl hx)) (mm b fun x hx=>.inr (.inr hx)) (P.length - 1) 0 U [] (by omega) (by rw [e0];exact xtr _) (zb _)
 rw [eF] at a1;refine ⟨A,?_,a1.span,fun t=>a1.done t,by omega⟩
 have e:Iter (xbP q (a.map encP) (b.map encP) (P.map encN)) ((0:Nat),(1:Int),[])=_:=e;have tt:List.take A.length (A.map encP)=A.map encP:=zh (by simp)
 have la:([AV.agg [AV.int IntKind.i64 (0:Int),AV.int IntKind.i64 (1099511627776:Int)]]++a.map encP).length=1+a.length:=by simp;omega
 have Q:([AV.agg [AV.int IntKind.i64 (0:Int),AV.int IntKind.i64 (1099511627776:Int)]]++a.map encP++b.map encP).length=1+a.length+b.length:=by simp;omega
 have W:List.take (1+a.length+b.length) ([AV.agg [AV.int IntKind.i64 (0:Int),AV.int IntKind.i64 (1099511627776:Int)]]++a.map encP++b.map encP)=(((0,1099511627776):Per)::a++b).map encP:=by
  rw [zh (by rw [Q];exact zb _)]
  simp [encP]
 have b1:(1+a.length)*16<=140737488355328:=by omega
 have b2:1+a.length<=4611686018427387904:=by omega
 have b3:(1+a.length+b.length)*16<=140737488355328:=by omega
 have b4:1+a.length+b.length<=4611686018427387904:=by omega
 unfold xj0 xpR;simp only [xke,xkf,xkg,xkh,xki,xeG,xkj,z8,la,Q,W,zq,b1,b2,b3,b4,beq_self_eq_true,zm,zR,zG,zb,xab,pe,zj,zg,e,tt,sUF]
theorem xE4 (a b:List Per) (ha:a.length<=65536) (hb:b.length<=65536):∃ A:List Per,xqM (a.map encP) (b.map encP)=some (A.map encP)/\IsSpan A/\(∀ t,inL A t=(inL a t&&inL b t))/\A.length<=2*(1+a.length+b.length):=by
 obtain ⟨A,e,h1,h2,h3⟩:=xHh 1 a b ha hb;refine ⟨A,?_,h1,fun t=>?_,h3⟩
 . unfold xqM xo1;rw [e];rfl
 . rw [h2];cases hc:inL a t with
   | false=>simp [xdo,br,sUF]
   | true=>obtain ⟨x,y⟩:=xtW hc;simp [x,y,xdo,br,sUF]
def dk (S:List Row):Nat->List Row
 | 0=>[]
 | k+1=>dk S k++(if k=0\/S[k - 1]?≠S[k]? then S[k]?.toList else [])
structure RGI (S:List Fc) (i:Nat) (G:List Grp):Prop where
 st:Strict cmpR (G.map (·.1))
 mem:∀ r,r∈G.map (·.1)↔∃ f,f∈S.take i/\f.r=r/\pv f.p=true
 ps:∀ g,g∈G->StepI (fun t=>((cnt S g.1 t:Nat):Int)) 1099511627776 g.2/\g.2.length<=2*S.length+1
 len:G.length<=i
 bd:∀ a b (ha:a<S.length) (hb:b<S.length),a<i->i<=b->cmpR S[a].r S[b].r<0
def xKt (n:List UInt8) (f:Fc):AV:=.agg [.int .i64 2,.str n,.int .i64 0,.list 3 (f.r.map encV),.int .i64 f.p.1,.int .i64 f.p.2]
theorem xFU (n:List UInt8) (r:Row) (p:Per):AV.agg [.int .i64 2,.str n,.int .i64 0,.list 3 (r.map encV),.int .i64 p.1,.int .i64 p.2]=xKt n ⟨r,p⟩:=rfl
theorem xFX (a b:Row) (ha:a.length<=maxLen):xnx (a.map encV) (b.map encV)=some (decide (a=b)):=by
 unfold xnx xoW;rw [xtI a b ha];simp only [zj,zg,xab,cmp0,sUF]
def xKB (key:List Int) (l:List Fc) (K:Row):List Fc:=l.filter fun f=>decide (pick f.r key=K)
theorem xFp (key:List Int) (l:List Fc) (K:Row):(xKB key l K).map (·.p)=life key l K:=rfl
theorem xA3 (key:List Int) (l:List Fc) (K:Row):(xKB key l K).length<=l.length:=List.length_filter_le _ _
theorem xFT (f:Fc):AV.agg [.list 3 (f.r.map encV),.int .i64 f.p.1,.int .i64 f.p.2]=encF f:=rfl
theorem xAJ (p0:List UInt8) (p1 p3 p4:List AV) (key:List Int) (hk:key.length<=1048576) (l:List Fc) (hl:l.length<=1048576) (K:Row) :
  xch p0 p1 (key.map encN) p3 p4 (l.map encF) (K.map encV)=some ((xKB key l K).map encF):=by
 have e:=xqJ (step:=xcO (K.map encV) (l.map encF) ((l.length:Nat):Int)) l (fun f=>if decide (pick f.r key=K)=true then [f] else []) (fun n D=>(D.length,(n:Int),p0,p1,key.map encN,p3,p4,D.map encF)) (fun D=>(D.length,D.map encF)) [] 1 (fun f _=>by split<;>simp) (fun n h D hD=>by
  have h1:(n:Int)<(l.length:Int):=by omega
  rw [List.length_nil] at hD;have m1:(D.length+1)*40<=140737488355328:=by omega
  have m2:D.length+1<=4611686018427387904:=by omega
  have gf:(l.map encF).getD n .top=encF l[n]:=xaa _ _ _ h;have J:=xww p0 p1 p3 p4 key l[n].r hk;have q:=xFX (pick l[n].r key) K (by rw [xsi];simp only [maxLen];omega)
  simp only [xcO,xis,sBU,h,h1,gf,cF0,cF1,cF2,sF0,sF1,sF2,lF,sF12,sF02,J,q,m1,m2,xKl (n:=n) (by omega)]
  by_cases hc:pick l[n].r key=K
  . simp [hc,xab,xFT,sUF]
  . simp [hc,xae,sUF]) (fun D=>by
  simp only [xcO,xis,z8,zx,zl,xae,sUF])
 rw [zT,xz7 _ (fun f:Fc=>f) (fun f=>decide (pick f.r key=K)) (fun _=>rfl),List.map_id'] at e
 have e:Iter (xcO (K.map encV) (l.map encF) ((l.length:Nat):Int)) ((0:Nat),(0:Int),p0,p1,key.map encN,p3,p4,[])=some ((xKB key l K).length,(xKB key l K).map encF):=e;generalize xKB key l K=D at e;have tt:List.take D.length (D.map encF)=D.map encF:=zh (by simp)
 unfold xch xox;simp only [xnJ,xnK,xnL,xnM,z8,e,zj,zg,xab,zG,zb,zm,zR,zq,tt,sUF]
theorem xGh (p0:List UInt8) (p1 p3 p4:List AV) (key:List Int) (hk:key.length<=1048576) (l:List Fc) (hl:l.length<=65536) (K:Row):∃ A:List Per,xja p0 p1 (key.map encN) p3 p4 (l.map encF) (K.map encV)=some (A.map encP)/\IsSpan A/\∀ t,inL A t=inL (life key l K) t:=by
 have hw:=xAJ p0 p1 p3 p4 key hk l (by omega) K
 have q:=xA3 key l K;rw [<-xFp];generalize xKB key l K=W at *;have e:=xk8 (step:=xcA (W.map encF) ((W.length:Nat):Int)) W (fun f=>[f.p]) encP 1 (fun _ _=>by simp) (fun n h D hD=>by
  have i1:(n:Int)<(W.length:Int):=by omega
  have m1:(D.length+1)*16<=140737488355328:=by omega
  have m2:D.length+1<=4611686018427387904:=by omega
  have gf:(W.map encF).getD n .top=encF W[n]:=xaa _ _ _ h;simp only [xcA,xe4,sBU,h,i1,gf,cF0,cF1,cF2,sF0,sF1,sF2,lF,sF12,sF02,m1,m2,xKl (n:=n) (by omega)]
  simp [encP]) (fun D=>by
  simp only [xcA,xe4,z8,zx,zl,xae,sUF])
 rw [xKQ (fun f:Fc=>f.p)] at e
 obtain ⟨A,a1,a2,a3⟩:=xGU (W.map (·.p)) (by rw [z8];omega)
 refine ⟨A,?_,a2,a3⟩;generalize (W.map fun f=>f.p)=P at *
 have tt:List.take P.length (P.map encP)=P.map encP:=zh (by simp)
 unfold xja xkA;simp only [xjJ,xjK,xjL,xjM,xjN,z8,hw,e,zj,zg,xab,zG,zb,zm,zR,zq,tt,a1,sUF]
theorem xF5 (es:List En) (s:List UInt8):lookL (es.map xKu) s=(xKq es s).map encP:=by
 unfold lookL;rw [xtn];cases h:ixE es s with
 | none=>rw [xvH h];rfl
 | some i =>
  have hi:=xtf h;dsimp only;have e:es.getD i default=es[i]:=by rw [z6,zd hi];rfl
  rw [xvI h,xaa _ _ _ hi,e];rfl
theorem xE7 (es:List En) (s:List UInt8):(!xLQ (es.map xKu) s || xL0 2 (xLE .nils (es.map xKu) s))=true:=by
 unfold xLQ xLE;rw [xtn];cases h:ixE es s with
 | none=>rfl
 | some i =>
  have hi:=xtf h;dsimp only;rw [xaa _ _ _ hi];rfl
theorem xGq (t0:List UInt8) (t1 t2 t3 t4:List AV) (row:Row) (hr:row.length<=1048576) (f1 f2:Int) (J:List AV) (q O:Int) (P:List Per) (hP:P.length<=1048576) (cx:List AV) (D:List Fc) (hD:D.length<=1099511627776) :
  Iter (xbs t0 t1 t2 t3 t4 (row.map encV) f1 f2 J q O (P.map encP) ((P.length:Nat):Int)) (D.length,(0:Int),cx,D.map (xKt t0))=some ((D++mk row P).length,cx,(D++mk row P).map (xKt t0)):=by
 have e:=xqJ (step:=xbs t0 t1 t2 t3 t4 (row.map encV) f1 f2 J q O (P.map encP) ((P.length:Nat):Int)) P (fun p=>[(⟨row,p⟩:Fc)]) (fun n D=>(D.length,(n:Int),cx,D.map (xKt t0))) (fun D=>(D.length,cx,D.map (xKt t0))) D 1 (fun _ _=>by simp) (fun n h D' Q=>by
  have h1:(n:Int)<(P.length:Int):=by omega
  have m1:(D'.length+1)*72<=140737488355328:=by omega
  have m2:D'.length+1<=4611686018427387904:=by omega
  have m3:row.length*32<=140737488355328:=by omega
  have m4:row.length<=4611686018427387904:=by omega
  have gf:(P.map encP).getD n .top=encP P[n]:=xaa _ _ _ h;have tk:List.take row.length (row.map encV)=row.map encV:=zh (by simp)
  simp only [xbs,xd5,sBU,h,h1,gf,cP0,cP1,lP,sP,sP0,sP1,m1,m2,m3,m4,zb,zq,tk,xFU,xKl (n:=n) (by omega),z7,zi,zw,zU,zV]) (fun D'=>by
  simp only [xbs,xd5,zx,zl,xae,sUF])
 rw [xKQ (fun p:Per=>(⟨row,p⟩:Fc))] at e
 exact e
theorem xAI (n:List UInt8) (p1 p3 p4:List AV) (key:List Int) (l:List Fc) (h:TOk key l) (hb:Bld l) (hl:l.length<=200) :
  ∃ V,xeL n p1 (key.map encN) p3 p4 (l.map encF)=some (V.map (xKt n))/\IsViol key l V/\V.length<=1048576*1048576:=by
 obtain ⟨S,e1,hS⟩:=xJe l hb;have e2:=xw3 h n p1 p3 p4;have U:S.length<=40000:=Nat.le_trans hS.len (Nat.mul_le_mul hl hl);have O:∀ f,f∈S->f.r.length<=1048576:=hS.all (Q:=fun r=>r.length<=1048576) fun f hf=>hb.1.1.2 f hf
 have J:∀ f,f∈S->Txt f.r:=hS.all fun f hf=>h.txt f hf
 obtain ⟨Q,hQ⟩:=xBf (l:=S) (Q:=fun f A=>xhw ([f.p].map encP) ((xKw (life key l (pick f.r key))).map encP)=some (A.map encP)/\(IsSpan A/\∀ t,inL A t=(hasP f.p t&&decide (1<cntK key l (pick f.r key) t)))/\A.length<=1048576) fun f hf=>by
  have c1:=xr9 key l (pick f.r key);have c2:=xn3 (ps:=life key l (pick f.r key)) (by omega)
  have c3:=c2.2;obtain ⟨A,a1,a2,a3⟩:=xAj [f.p] (xKw (life key l (pick f.r key))) (by simp) (by omega)
  obtain ⟨A',b1,b2,b3,b4⟩:=xE4 [f.p] (xKw (life key l (pick f.r key))) (by simp) (by omega)
  obtain rfl:=xe9 a2 b2 fun t=>by rw [a3,b3]
  refine ⟨A,a1,⟨a2,fun t=>?_⟩,by simp at b4;omega⟩
  rw [a3,xtV,c2.1.2];rfl
 have e3:Iter (xbr n p1 (key.map encN) p3 p4 (S.map encF) ((S.length:Nat):Int)) ((0:Nat),(0:Int),(xKv key l).map xKu,[])=some ((S.flatMap fun f=>mk f.r (Q f)).length,(S.flatMap fun f=>mk f.r (Q f)).map (xKt n)):=by
  have e:=xqJ (step:=xbr n p1 (key.map encN) p3 p4 (S.map encF) ((S.length:Nat):Int)) S (fun f=>mk f.r (Q f)) (fun k D=>(D.length,(k:Int),(xKv key l).map xKu,D.map (xKt n))) (fun D=>(D.length,D.map (xKt n))) [] 1048576 (fun f hf=>by unfold mk;rw [z8];exact (hQ f hf).2.2) (fun k hk D hD=>by
   have i1:(k:Int)<(S.length:Int):=by omega
   rw [List.length_nil,zG] at hD;have q:D.length<=1099511627776:=Nat.le_trans hD (Nat.mul_le_mul_left 1048576 (by omega:k<=1048576))
   have gf:(S.map encF).getD k .top=encF S[k]:=xaa _ _ _ hk;obtain ⟨a1,a2,a3⟩:=hQ S[k] (zn hk);have hx:=J S[k] (zn hk);have x1:=xww n p1 p3 p4 key S[k].r h.key;have x2:=xEn hx h.key;have x3:(keyOf (pick S[k].r key)).length<=4611686018427387904:=by have:=hx.len h.key;omega
   have x4:=xE7 (xKv key l) (keyOf (pick S[k].r key));have x5:=xF5 (xKv key l) (keyOf (pick S[k].r key));rw [xC4] at x5;have a1:xhw [AV.agg [.int .i64 S[k].p.1,.int .i64 S[k].p.2]] _=_:=a1;have x6:=xGq n p1 (key.map encN) p3 p4 S[k].r (O _ (zn hk)) S[k].p.1 S[k].p.2 (S.map encF) ((S.length:Nat):Int) (k:Int) (Q S[k]) a3 ((xKv key l).map xKu) D q;simp only [xbr,xd4,xdA,xdB,xdC,xdD,xbK,xdE,sBU,hk,i1,gf,cF0,cF1,cF2,sF0,sF1,sF2,lF,sF12,sF02,x1,x2,x3,x4,x5,a1,x6,xKl (n:=k) (by omega)]) (fun D=>by
   simp only [xbr,xd4,xdA,xdB,xdC,xdD,xbK,xdE,z8,zx,zl,xae,sUF])
  exact e
 refine ⟨S.flatMap fun f=>mk f.r (Q f),?_,xCx hS fun f hf=>(hQ f hf).2.1,?_⟩
 . generalize (S.flatMap fun f=>mk f.r (Q f))=V at e3
   have tt:List.take V.length (V.map (xKt n))=V.map (xKt n):=zh (by simp)
   unfold xeL xiY;simp only [xin,xio,xip,xiq,e1,e2,z8,zj,zg,xab,e3,zG,zb,zm,zR,zq,tt,sUF]
 . exact Nat.le_trans (xm8 S fun f hf=>by unfold mk;rw [z8];exact (hQ f hf).2.2) (Nat.mul_le_mul_left 1048576 (by omega:S.length<=1048576))
def ptsF (l:List Fc):List Int:=l.foldl (fun P f=>if pv f.p=true then (if f.p.2<1099511627776 then insI (insI P f.p.1) f.p.2 else insI P f.p.1) else P) [0]
def bnd (f:Fc):List Int:=if pv f.p=true then (if f.p.2<1099511627776 then [f.p.1,f.p.2] else [f.p.1]) else []
theorem xtu (l:List Fc) (f:Fc):ptsF (l++[f])=if pv f.p=true then (if f.p.2<1099511627776 then insI (insI (ptsF l) f.p.1) f.p.2 else insI (ptsF l) f.p.1) else ptsF l:=by simp [ptsF]
theorem xyI:∀ l:List Fc,Asc (ptsF l.reverse)/\∀ x,x∈ptsF l.reverse↔x=0\/x∈l.flatMap bnd
 | []=>⟨List.pairwise_singleton _ _,fun x=>by simp [ptsF]⟩
 | f::l=>by
  have ih:=xyI l;rw [List.reverse_cons,xtu];simp only [zQ,zF,bnd];split
  . split
    . refine ⟨xna (xna ih.1 _) _,fun x=>?_⟩
      rw [xk7,xk7,ih.2,zB,zu];grind
    . refine ⟨xna ih.1 _,fun x=>?_⟩
      rw [xk7,ih.2,zu];grind
  . exact ⟨ih.1,fun x=>by rw [ih.2];simp⟩
theorem xwG (l:List Fc):Asc (ptsF l)/\∀ x,x∈ptsF l↔x=0\/x∈l.flatMap bnd:=by
 have:=xyI l.reverse;rw [List.reverse_reverse] at this;refine ⟨this.1,fun x=>?_⟩
 rw [this.2];simp only [y2,List.mem_reverse]
theorem xAG:∀ l:List Fc,(ptsF l.reverse).length<=2*l.length+1
 | []=>by simp [ptsF]
 | f::l=>by
  have ih:=xAG l;have h1:=xjr (ptsF l.reverse) f.p.1;have h2:=xjr (insI (ptsF l.reverse) f.p.1) f.p.2;rw [List.reverse_cons,xtu,zD];split
  . split<;>omega
  . omega
theorem xCh (l:List Fc):(ptsF l).length<=2*l.length+1:=by
 have:=xAG l.reverse;rwa [List.reverse_reverse,List.length_reverse] at this
theorem xEq (l:List Fc) (n:Nat) (h:n<l.length):ptsF (l.take (n+1))=if pv l[n].p=true then (if l[n].p.2<1099511627776 then insI (insI (ptsF (l.take n)) l[n].p.1) l[n].p.2 else insI (ptsF (l.take n)) l[n].p.1) else ptsF (l.take n):=by
 rw [List.take_add_one,zd h];exact xtu _ _
theorem xDp (l:List Fc) (hl:l.length<=262144):xmy (l.map encF)=some ((ptsF l).map encN):=by
 have key:Iter (xcn (l.map encF)) ([AV.int IntKind.i64 (0:Int)],(0:Int))=some ((ptsF l).map encN):=by
  refine xnb (fun k=>((ptsF (l.take k)).map encN,((k:Nat):Int))) l.length _ (fun k hk=>?_) ?_ l.length 0 (by omega)
  . have i1:(k:Int)<(l.length:Int):=by omega
    have gf:(l.map encF).getD k .top=encF l[k]:=xaa _ _ _ hk;have hp:=xCh (l.take k);rw [zr] at hp;have e1:=xqI (ptsF (l.take k)) l[k].p.1 (by omega)
    have h2:=xjr (ptsF (l.take k)) l[k].p.1;have e2:=xqI (insI (ptsF (l.take k)) l[k].p.1) l[k].p.2 (by omega)
    simp only [xcn,xhc,xc7,sBU,hk,i1,gf,cF0,cF1,cF2,sF0,sF1,sF2,lF,sF12,sF02,xqT,xKl (n:=k) (by omega),e1,e2,xEq l k hk]
    cases hv:pv l[k].p with
    | false=>simp [xae,sUF]
    | true=>by_cases hf:l[k].p.2<1099511627776<;>simp [hf,xab,xae,sUF]
  . simp only [xcn,xhc,xc7,z8,zx,zl,xae,y3,sUF]
 unfold xmy xnz;simp only [key,zj,zg,xab,sUF]
theorem xEw (l:List Fc) {x t:Int} (hx:x<=t) (ht:t<1099511627776) (hn:∀ y,y∈ptsF l->¬ (x<y/\y<=t)) {f:Fc} (hf:f∈l):hasP f.p x=hasP f.p t:=by
 cases hv:pv f.p with
 | false=>simp [hasP,hv]
 | true =>
  have h1:=xbX.1 hv;have m1:f.p.1∈ptsF l:=((xwG l).2 _).2 (.inr (y2.2 ⟨f,hf,by unfold bnd;rw [if_pos hv];split<;>simp⟩))
  have n1:=hn _ m1;have n2:f.p.2<1099511627776->¬ (x<f.p.2/\f.p.2<=t):=fun h=>hn _ (((xwG l).2 _).2 (.inr (y2.2 ⟨f,hf,by unfold bnd;rw [if_pos hv,if_pos h];simp⟩)))
  unfold hasP;rw [hv];by_cases c:f.p.2<1099511627776
  . have n2:=n2 c;by_cases a1:f.p.1<=x<;>by_cases a2:x<f.p.2<;>by_cases a3:f.p.1<=t<;>by_cases a4:t<f.p.2<;>simp [a1,a2,a3,a4]<;>omega
  . by_cases a1:f.p.1<=x<;>by_cases a2:x<f.p.2<;>by_cases a3:f.p.1<=t<;>by_cases a4:t<f.p.2<;>simp [a1,a2,a3,a4]<;>omega
theorem xD7 (l:List Fc) {x t:Int} (hx:x<=t) (ht:t<1099511627776) (hn:∀ y,y∈ptsF l->¬ (x<y/\y<=t)):atL l x=atL l t:=by
 unfold atL;have:∀ l':List Fc,(∀ f,f∈l'->f∈l)->(l'.flatMap fun f=>if hasP f.p x=true then [f.r] else [])=l'.flatMap fun f=>if hasP f.p t=true then [f.r] else []:=fun l' h=>by
  induction l' with
  | nil=>rfl
  | cons f l' ih=>rw [zQ,zQ,ih fun g hg=>h g (List.mem_cons_of_mem _ hg),xEw l hx ht hn (h f (by simp))]
 exact this l fun f hf=>hf
theorem xAH:∀ {P:List Int} {t:Int},(∃ x,x∈P/\x<=t)->∃ x,x∈P/\x<=t/\∀ y,y∈P->¬ (x<y/\y<=t)
 | [],t,h=>by obtain ⟨x,hx,_⟩:=h;simp at hx
 | a::P,t,h=>by
  by_cases hP:∃ x,x∈P/\x<=t
  . obtain ⟨x,x1,x2,x3⟩:=xAH hP;by_cases ha:x<a/\a<=t
    . exact ⟨a,by simp,ha.2,fun y hy=>by
       rcases zB.1 hy with rfl|hy
       . omega
       . have:=x3 y hy;omega⟩
    . exact ⟨x,by simp [x1],x2,fun y hy=>by
       rcases zB.1 hy with rfl|hy
       . exact ha
       . exact x3 y hy⟩
  . obtain ⟨x,x1,x2⟩:=h;rcases zB.1 x1 with rfl|x1
    . exact ⟨x,by simp,x2,fun y hy=>by
       rcases zB.1 hy with rfl|hy
       . omega
       . exact fun hh=>hP ⟨y,hy,hh.2⟩⟩
    . exact absurd ⟨x,x1,x2⟩ hP
theorem xu9 (t:Int) (l:List Fc) (hl:l.length<=1048576):Iter (xdS (l.map encF) t) ((0:Nat),(0:Int),[])=some ((l.flatMap (fun (f:Fc)=>if hasP f.p t=true then [f.r] else [])).length,(l.flatMap (fun (f:Fc)=>if hasP f.p t=true then [f.r] else [])).map encR):=by
 refine xk8 l (fun (f:Fc)=>if hasP f.p t=true then [f.r] else []) encR 1 (fun f hf=>?_) (fun n h D hD=>?_) (fun D=>?_)
 . cases q:(hasP (f).p t)<;>simp [q]
 . have h1:(n:Int)<(l.length:Int):=by omega
   have m1:(D.length+1)*24<=140737488355328:=by omega
   have m2:D.length+1<=4611686018427387904:=by omega
   have gf:(l.map encF).getD n .top=encF l[n]:=xaa _ _ _ h;simp only [xdS,xkS,sBU,h,h1,gf,cF0,cF1,cF2,sF0,sF1,sF2,lF,sF12,sF02,xsj,m1,m2,xKl (n:=n) (by omega)]
   cases q:(hasP (l[n]).p t)<;>simp [encR,xab,xae,encR,q,sUF]
 . simp only [xdS,xkS,z8,zx,zl,xae,sUF]
theorem xEX (l:List Fc) (t:Int) (h:Few l):∃ r,xlj (l.map encF) t=some (r.map encR)/\r.Perm (atL l t)/\Sorted cmpR r:=by
 obtain ⟨r,e,p,s⟩:=xGt (atL l t) (h.at t);refine ⟨r,?_,p,s⟩;have:=xu9 t l h.1;unfold xlj xsq;simp only [xrm,xrn,xro,xrp,this,sOO,sUF];rw [show (l.flatMap fun f=>if hasP f.p t=true then [f.r] else [])=atL l t from rfl,e]
 simp only [sOO]
def xKp (key:List Int) (rows:List Row):List Row:=rows.map fun r=>pick r key
theorem xtS (key:List Int) (K:Row) (t:Int):∀ l:List Fc,(xKp key (atL l t)).count K=cntK key l K t
 | []=>rfl
 | f::l=>by
  have ih:=xtS key K t l;have e1:atL (f::l) t=(if hasP f.p t=true then [f.r] else [])++atL l t:=rfl
  have e2:cntK key (f::l) K t=cntK key l K t+if (decide (pick f.r key=K)&&hasP f.p t)=true then 1 else 0:=by
   unfold cntK life;rw [List.filter_cons];by_cases hr:pick f.r key=K
   . rw [if_pos (decide_eq_true hr),zU,List.countP_cons];simp [hr]
   . rw [if_neg (by simpa using hr)];simp [hr]
  unfold xKp at ih |-;rw [e1,zw,List.count_append,ih,e2];by_cases hp:hasP f.p t=true
  . by_cases hr:pick f.r key=K<;>simp [hp,hr]<;>omega
  . simp [hp]
def dbl (key:List Int) (rows:List Row):Bool:=decide (¬ (xKp key rows).Nodup)
theorem xzx {key:List Int} {a b:List Row} (h:a.Perm b):dbl key a=dbl key b:=by
 unfold dbl;have:=(h.map fun r=>pick r key).nodup_iff
 exact decide_eq_decide.2 (not_congr this)
theorem xvr (key:List Int) (l:List Fc) (t:Int):dbl key (atL l t)=false↔∀ K,cntK key l K t<=1:=by
 unfold dbl;rw [decide_eq_false_iff_not,Classical.not_not,List.nodup_iff_count];exact forall_congr' fun K=>by rw [xtS]
theorem xHi (key:List Int) (l:List Fc) (t:Int):dbl key (atL l t)=true↔∃ f,f∈l/\hasP f.p t=true/\1<cntK key l (pick f.r key) t:=by
 constructor
 . intro h;refine Classical.byContradiction fun hc=>?_
   have:dbl key (atL l t)=false:=(xvr key l t).2 fun K=>by
    rcases Nat.eq_zero_or_pos (cntK key l K t) with h0|h0
    . omega
    . obtain ⟨f,hf,rfl,ht⟩:=xrZ.1 h0;exact Nat.le_of_not_lt fun h1=>hc ⟨f,hf,ht,h1⟩
   rw [h] at this;simp at this
 . rintro ⟨f,hf,_,h⟩;cases hd:dbl key (atL l t) with
   | true=>rfl
   | false=>have:=(xvr key l t).1 hd (pick f.r key);omega
theorem xBw {key:List Int} {l:List Fc}:(∀ u,u∈ptsF l->dbl key (atL l u)=false)↔Once key l:=by
 rw [xuY];constructor
 . intro h K t;rcases Nat.eq_zero_or_pos (cntK key l K t) with h0|h0
   . omega
   . obtain ⟨f,hf,_,ht⟩:=xrZ.1 h0;have hp:=xa4.1 ht;have hv:=xbX.1 hp.1;obtain ⟨u,u1,u2,u3⟩:=xAH (P:=ptsF l) (t:=t) ⟨0,((xwG _).2 0).2 (.inl rfl),by omega⟩
     have e:=xD7 l u2 (by omega) u3
     rw [<-xtS,<-e,xtS];exact (xvr key l u).1 (h u u1) K
 . intro h u _;exact (xvr key l u).2 fun K=>h K u
theorem xFK {key:List Int} {l m:List Fc} (h:m.Sublist l) (K:Row) (t:Int):cntK key m K t<=cntK key l K t:=by
 unfold cntK life;exact ((h.filter _).map _).countP_le
theorem Once.sub {key:List Int} {l m:List Fc} (h:Once key l) (hm:m.Sublist l):Once key m:=by
 rw [xuY] at h |-;exact fun K t=>Nat.le_trans (xFK hm K t) (h K t)
def xKK (D:List Row) (x:Row×Bool):Prop:=(D=[]/\x=([],false))\/(x.2=true/\x.1∈D/\∀ y,y∈D->cmpR x.1 y<=0)
theorem xKK.unique {D:List Row} {x y:Row×Bool} (h:xKK D x) (g:xKK D y):x=y:=by
 rcases h with ⟨h0,h⟩|⟨h1,h2,h3⟩
 . rcases g with ⟨g0,g⟩|⟨g1,g2,g3⟩
   . rw [h,g]
   . rw [h0] at g2;simp at g2
 . rcases g with ⟨g0,g⟩|⟨g1,g2,g3⟩
   . rw [g0] at h2;simp at h2
   . refine Prod.ext (xn1 ?_) (by rw [h1,g1])
     have a:=h3 _ g2;have b:=g3 _ h2;have:=xqD x.1 y.1;omega
theorem xz6 {D rest:List Row} {m:Row} (hp:(m::rest).Perm D) (hs:Sorted cmpR (m::rest)):xKK D (m,true):=by
 refine .inr ⟨rfl,hp.mem_iff.1 (by simp),fun y hy=>?_⟩
 rcases zB.1 (hp.mem_iff.2 hy) with rfl|hy
 . rw [xqC];omega
 . exact (zL.1 hs).1 y hy
def okEA (x:AV):Bool:=xLj (Sh.list 3) (x.cells.getD 0 AV.top)
def ldEA (x:AV):AV:=AV.list 3 (x.cells.getD 0 AV.top).toList
abbrev encA:Row->AV:=encR
def xKS (x y:AV):Bool:=(xcg (x.cells.getD 0 AV.top).toList (y.cells.getD 0 AV.top).toList).isSome
def xKU (x y:AV):Int:=(xcg (x.cells.getD 0 AV.top).toList (y.cells.getD 0 AV.top).toList).getD 0
theorem ceA (x:Row):(encA x).cells.getD 0 AV.top=encA x:=rfl
theorem shA (x:Row):xLj (Sh.list 3) (encA x)=true:=rfl
theorem tlA (x:Row):(encA x).toList=x.map encV:=rfl
theorem heA (a:Row):okEA (encA a)=true:=rfl
theorem hdA (a:Row):ldEA (encA a)=encA a:=rfl
section
variable {N : Nat} (hN : N <= 2 ^ 60) {ok : Row -> Prop} {c : Row -> Row -> Int} (hc : ∀ x y, ok x -> ok y -> xKS (encA x) (encA y) = true /\ xKU (encA x) (encA y) = c x y)
include hN
include hc
theorem xJY (a b:Nat) (ha:a<=N) (hb:b<=N) {l r:List Row} (hl:LOk N ok l) (hr:xKD c a b l=some r):xaN N a b (List.map encA l)=some (List.map encA r)/\LOk N ok r:=by
 obtain ⟨e1,e2⟩:=xAV (enc:=encA) hN (c:=c) (ok:=ok) a b hb (gi:=fun i=>xa0 N a b i) (fun i l r hl hr=>xCm (okE:=okEA) (ldE:=ldEA) heA hdA hN (P:=xKS) (V:=xKU) hc a (fun j xs=>rfl) hl hr) (g:=xax N a b) (fun i xs=>rfl) hl hr
 refine ⟨?_,e2⟩;unfold xaN xdc;rw [w64 (x:=(a:Int)+1) (n:=a+1) (by omega) (by omega),e1];rfl
theorem xGA (q:N<20) {l r:List Row} (hl:LOk N ok l) (hr:xKD c 0 N l=some r):xd2 N N (List.map encA l)=some (List.map encA r)/\LOk N ok r:=by
 obtain ⟨e1,e2⟩:=xJY hN hc 0 N (by omega) (zb _) hl hr
 have e1:xaN N 0 N (List.map encA l)=_:=e1;have q0:Iter (xbd N N 20) ((0:Int),(20:Int),List.map encA l)=some ((0:Int),List.map encA l):=by
  refine xam ?_;have h1:¬ (20:Int)<=(N:Int):=by omega
  simp only [xbd,xec,h1,zl,xae,sUF]
 have q1:Iter (xbY N N) ((20:Int),List.map encA r)=some (List.map encA r):=by
  refine xam ?_;have h1:¬ (20:Int)<(N:Int):=by omega
  simp only [xbY,xed,h1,zl,xae,sUF]
 refine ⟨?_,e2⟩;simp only [xd2,xfG,xeZ,xex,xe0,q0,e1,q1,zj,zg,xab,sUF]
end
theorem xI4 {N:Nat} (hN:N*24<=140737488355328) (l:List Row) (hl:l.length=N) (hr:∀ x,x∈l->x.length<=4398046511104):∀ (k i:Nat),i+k=N->Iter (xbl (List.map encA l) N) (i,(i:Int),List.map encA (l.take i))=some (N,List.map encA l):=by
 intro k;induction k with
 | zero =>
  intro i hi;refine xam ?_;have:¬ (i:Int)<(N:Int):=by omega
  simp only [xbl,xfP,this,zl,xae,sUF];rw [zh (by omega),show i=N by omega]
 | succ k ih =>
  intro i hi;have q:i<l.length:=by omega
  refine xfk (s':=(i+1,((i+1:Nat):Int),List.map encA (l.take (i+1)))) ?_ (ih (i+1) (by omega))
  have hx:l[i]?=some l[i]:=by simp [q]
  have k1:(i:Int)<(N:Int):=by omega
  have k2:(i:Int)<((List.map encA l).length:Int):=by simp;omega
  have k2':(i:Int)<(l.length:Int):=by omega
  have k3:i<(List.map encA l).length:=by simpa using q
  have k4:=hr l[i] (zn q);have k5:(List.map encA (l.take i)).length=i:=by simp;omega
  have k6:(i+1)*24<=140737488355328:=by omega
  have k7:i+1<=4611686018427387904:=by omega
  have k8:List.map encA (l.take (i+1))=List.map encA (l.take i)++[AV.list 3 (l[i].map encV)]:=by
   rw [List.take_add_one,hx,zw];rfl
  simp only [xbl,xfP,k1,k2,k2',k3,q,zm,xab,Int.natCast_nonneg,zR,Bool.true_and,zM,gR hx,ceA,shA,tlA,z8,k4,k5,beq_self_eq_true,k6,k7,w64 (x:=(i:Int)+1) (n:=i+1) (by omega) (by omega),k8,sUF]
theorem xGz {N:Nat} (hN:N*24<=140737488355328) {c:Row->Row->Int} (hc:∀ x y:Row,x.length<=4398046511104->y.length<=4398046511104->xKS (encA x) (encA y)=true/\xKU (encA x) (encA y)=c x y) (q:N<20) (l r:List Row) (hl:l.length=N) (ho:∀ x,x∈l->x.length<=4398046511104) (hr:xKD c 0 N l=some r) :
  xpq (List.map encA l)=some (List.map encA r):=by
 obtain ⟨e1,e2⟩:=xGA (N:=N) (by omega) (ok:=fun x=>x.length<=4398046511104) hc q ⟨hl,ho⟩ hr
 have e0:=xI4 hN l hl ho N 0 (by omega)
 have e0':Iter (xbl (List.map encA l) (N:Int)) (0,(0:Int),[])=some (N,List.map encA l):=e0;have k1:(List.map encA l).length=N:=by simpa using hl
 have k2:(24:Int)*(N:Int)<=281474976710656:=by omega
 have k3:(N:Int)<=4611686018427387904:=by omega
 have k4:0+N<=(List.map encA r).length:=by simp;exact Nat.le_of_eq e2.len.symm
 have k4':N<=r.length:=Nat.le_of_eq e2.len.symm;have k5:List.take N (List.map encA r)=List.map encA r:=zh (by simp;exact Nat.le_of_eq e2.len)
 simp only [xpq,xqo,xnI,xlq,xkw,xky,xhd,xkz,k1,e0',xkb,xeX,e1,k2,k3,k4,k4',zm,z8,Bool.true_and,zR,xab,zj,zg,zq,zG,k5,Int.natCast_nonneg,sUF]
 try simp
end Go.Sim.M
end
noncomputable section
set_option maxRecDepth 100000
namespace Go.Sim.M
open Go.RowKit Go.Sim.Srt
theorem xHf (x y:Row) (hx:x.length<=4398046511104):xKS (encA x) (encA y)=true/\xKU (encA x) (encA y)=cmpR x y:=by
 unfold xKS xKU;rw [ceA,ceA,tlA,tlA,xtI x y (by unfold maxLen;omega)]
 exact ⟨rfl,rfl⟩
theorem xHQ (l:List Row) (h:xKI l) (q:l.length<20):∃ r,xpq (l.map encR)=some (r.map encR)/\r.Perm l/\Sorted cmpR r:=by
 obtain ⟨r,e,p,s⟩:=xte xta.ord [] l [];simp only [zT,zC,List.length_nil,zG] at e;exact ⟨r,xGz (N:=l.length) (by omega) (c:=cmpR) (fun x y hx hy=>xHf x y hx) q l r rfl (fun x hx=>by have:=h.2 x hx;omega) e,p,s⟩
theorem xGf (p:Per) (t:Int):xmd p.1 p.2 t=hasP p t:=by
 rw [<-xsj];rfl
theorem xsX (t:Int) (l:List Fc) (hl:l.length<=1048576):Iter (xcI t (l.map encF) ((l.length:Nat):Int)) ((0:Nat),(0:Int),[])=some ((l.flatMap (fun (f:Fc)=>if hasP f.p t=true then [f.r] else [])).length,(l.flatMap (fun (f:Fc)=>if hasP f.p t=true then [f.r] else [])).map encR):=by
 refine xk8 l (fun (f:Fc)=>if hasP f.p t=true then [f.r] else []) encR 1 (fun f hf=>?_) (fun n h D hD=>?_) (fun D=>?_)
 . cases q:(hasP (f).p t)<;>simp [q]
 . have h1:(n:Int)<(l.length:Int):=by omega
   have m1:(D.length+1)*24<=140737488355328:=by omega
   have m2:D.length+1<=4611686018427387904:=by omega
   have gf:(l.map encF).getD n .top=encF l[n]:=xaa _ _ _ h;simp only [xcI,xhS,sBU,h,h1,gf,cF0,cF1,cF2,sF0,sF1,sF2,lF,sF12,sF02,xGf,m1,m2,xKl (n:=n) (by omega)]
   cases q:(hasP (l[n]).p t)<;>simp [encR,xab,xae,encR,q,sUF]
 . simp only [xcI,xhS,z8,zx,zl,xae,sUF]
theorem xJT (l:List Fc) (t:Int) (h:Few l) (q:l.length<20):∃ r,xe6 (l.map encF) t=some (r.map encR)/\r.Perm (atL l t)/\Sorted cmpR r:=by
 obtain ⟨r,e,p,s⟩:=xHQ (atL l t) (h.at t) (by have:=xtQ l t;omega)
 refine ⟨r,?_,p,s⟩;have:=xsX t l h.1;unfold xe6 xoA;simp only [xm2,xm3,xm4,xm5,this,sOO,sUF];rw [show (l.flatMap fun f=>if hasP f.p t=true then [f.r] else [])=atL l t from rfl,e]
 simp only [sOO]
theorem xES (p0:List UInt8) (p1 p3 p4:List AV) (key:List Int) (hk:key.length<=1048576) (l:List Fc) (hl:Few l) (J:l.length<20) (K:Row) (t:Int) :
  ∃ x:Row×Bool,xfb p0 p1 (key.map encN) p3 p4 (l.map encF) (K.map encV) t=some (x.1.map encV,x.2)/\xKK (atL (xKB key l K) t) x:=by
 have hw:=xAJ p0 p1 p3 p4 key hk l hl.1 K;have q:=xA3 key l K;obtain ⟨r,re,rp,rs⟩:=xJT (xKB key l K) t ⟨Nat.le_trans q hl.1,fun f hf=>hl.2 f (List.mem_filter.1 hf).1⟩ (by omega)
 generalize atL (xKB key l K) t=D at *;cases hr:r with
 | nil =>
  subst hr;have hD:D=[]:=by have:=rp.length_eq;exact List.length_eq_zero_iff.1 (by simpa using this.symm)
  refine ⟨([],false),?_,.inl ⟨hD,rfl⟩⟩;unfold xfb xkK;simp only [hw,re,zj,zg,xab,sUF];rfl
 | cons m rest =>
  subst hr;refine ⟨(m,true),?_,xz6 rp rs⟩;have n0:((((m::rest).length:Nat):Int)==0)=false:=by simp<;>omega
  have i1:(0:Int)<(((m::rest).length:Nat):Int):=by simp<;>omega
  have i2:0<(m::rest).length:=by simp
  have g0:((m::rest).map encR).getD 0 .top=encR m:=rfl;unfold xfb xkK;simp only [sBU,hw,re,n0,i1,i2,g0,cR0,sR0]
end Go.Sim.M
end
noncomputable section
set_option maxRecDepth 100000
namespace Go.Sim.M
open Go.RowKit
def Stp {σ ρ:Type} (I:σ->Prop) (Q:ρ->Prop) (X:Option (σ⊕ρ)):Prop:=(∃ s,X=some (.inl s)/\I s)\/∃ r,X=some (.inr r)/\Q r
theorem Stp.br {σ ρ:Type} {I:σ->Prop} {Q:ρ->Prop} {c:Bool} {a b:Option (σ⊕ρ)} (h1:c=true->Stp I Q a) (h2:c=false->Stp I Q b):Stp I Q (br c a b):=by
 cases c with
 | true=>exact h1 rfl
 | false=>exact h2 rfl
theorem Stp.inl {σ ρ:Type} {I:σ->Prop} {Q:ρ->Prop} {s:σ} (h:I s):Stp I Q (some (.inl s):Option (σ⊕ρ)):=Or.inl ⟨s,rfl,h⟩
theorem Stp.inr {σ ρ:Type} {I:σ->Prop} {Q:ρ->Prop} {r:ρ} (h:Q r):Stp I Q (some (.inr r):Option (σ⊕ρ)):=Or.inr ⟨r,rfl,h⟩
def Ans {α:Type} (Q:α->Prop) (X:Option α):Prop:=∃ r,X=some r/\Q r
theorem Ans.br {α:Type} {Q:α->Prop} {c:Bool} {a b:Option α} (h1:c=true->Ans Q a) (h2:c=false->Ans Q b):Ans Q (br c a b):=by
 cases c with
 | true=>exact h1 rfl
 | false=>exact h2 rfl
theorem Ans.some {α:Type} {Q:α->Prop} {r:α} (h:Q r):Ans Q (some r):=⟨r,rfl,h⟩
theorem Ans.mono {α:Type} {Q Q':α->Prop} {X:Option α} (h:Ans Q X) (hq:∀ r,Q r->Q' r):Ans Q' X:=⟨h.choose,h.choose_spec.1,hq _ h.choose_spec.2⟩
theorem xbj {σ ρ:Type} {step:σ->Option (σ⊕ρ)} (I:Nat->σ->Prop) (N:Nat) (Q:ρ->Prop) (hs:∀ k s,k<N->I k s->Stp (I (k+1)) Q (step s))
  (he:∀ s,I N s->Stp (fun _=>False) Q (step s)):∀ (d k:Nat) (s:σ),k+d=N->I k s->Ans Q (Iter step s)
 | 0,k,s,h,hp=>by
  obtain rfl:k=N:=by omega
  rcases he s hp with ⟨_,_,h⟩|⟨r,e,hq⟩
  . exact absurd h id
  . exact ⟨r,xam e,hq⟩
 | d+1,k,s,h,hp=>by
  rcases hs k s (by omega) hp with ⟨s',e,q⟩|⟨r,e,hq⟩
  . obtain ⟨x,ex,hx⟩:=xbj I N Q hs he d (k+1) s' (by omega) q
    exact ⟨x,(xaF e).trans ex,hx⟩
  . exact ⟨r,xam e,hq⟩
theorem xza (s:List UInt8) (hs:s.length<=16777216):Ans (fun _=>True) (xi0 s):=by
 obtain ⟨r,e,_⟩:=xbj (step:=xa5 s) (fun k i=>i=(k:Int)) s.length (fun _=>True) (fun k i hk hi=>by
  subst hi;have h1:(k:Int)<(s.length:Int):=by omega
  simp only [xa5,xeW,sBU,h1,hk,xKl (n:=k) (by omega)]
  repeat' (first|exact Stp.inl rfl|exact Stp.inr trivial|refine Stp.br (fun _=>?_) (fun _=>?_))) (fun i hi=>by
  subst hi;simp only [xa5,xeW,zx,zl,xae,sUF];exact Stp.inr trivial) s.length 0 (0:Int) (by omega) rfl
 unfold xi0 xkk;simp only [e,zj,zg,xab,sUF];repeat' (first|exact Ans.some trivial|refine Ans.br (fun _=>?_) (fun _=>?_))
theorem xwe (k i:Int) (s:List UInt8) (hs:s.length<=16777216):Ans (fun _=>True) (xkH k i s):=by
 obtain ⟨r,e,_⟩:=xza s hs;unfold xkH xoE;simp only [e,zj,zg,xab,sUF];repeat' (first|exact Ans.some trivial|refine Ans.br (fun _=>?_) (fun _=>?_))
theorem xCV (op i vk vi:Int) (vt nm:List UInt8) (args:List AV) (ht:vt.length<=16777216):Ans (fun b=>b=true->op=22->1<=args.length) (xmo op i vk vi vt nm args):=by
 obtain ⟨r,e,_⟩:=xwe vk vi vt ht;unfold xmo xng;simp only [e,zj,zg,xab,sUF];refine Ans.br (fun _=>Ans.some (by simp)) (fun _=>Ans.br (fun _=>Ans.some (by simp)) (fun h=>?_))
 have hh:op=22->1<=args.length:=fun ho=>by
  subst ho;have ha:(xiG 22).fst=3:=by rfl
  rw [ha] at h;simp only [decide_eq_false_iff_not] at h;omega
 repeat' (first|exact Ans.some (fun _=>hh)|refine Ans.br (fun _=>?_) (fun _=>?_))
theorem xtP (ks:List Int) (q:Int) (hk:ks.length<=16777216):Ans (fun _=>True) (xcG (ks.map encN) q):=by
 obtain ⟨r,e,_⟩:=xbj (step:=xcC (ks.map encN) q) (fun k i=>i=(k:Int)) ks.length (fun _=>True) (fun k i J hi=>by
  subst hi;have h1:(k:Int)<(ks.length:Int):=by omega
  have gf:(ks.map encN).getD k .top=encN ks[k]:=xaa _ _ _ J;simp only [xcC,xj1,sBU,h1,J,gf,cN,sN,xKl (n:=k) (by omega)]
  repeat' (first|exact Stp.inl rfl|exact Stp.inr trivial|refine Stp.br (fun _=>?_) (fun _=>?_))) (fun i hi=>by
  subst hi;simp only [xcC,xj1,z8,zx,zl,xae,sUF];exact Stp.inr trivial) ks.length 0 (0:Int) (by omega) rfl
 unfold xcG xrh;simp only [e,zj,zg,xab,sUF];repeat' (first|exact Ans.some trivial|refine Ans.br (fun _=>?_) (fun _=>?_))
theorem xAl (ks:List Int) (hk:ks.length<=16777216):Ans (fun _=>True) (xdp (ks.map encN)):=by
 obtain ⟨r,e,_⟩:=xbj (step:=xc3 (ks.map encN)) (fun k s=>s.2=(k:Int)) ks.length (fun _=>True) (fun k s q hi=>by
  obtain ⟨a,i⟩:=s;dsimp only at hi;subst hi;have h1:(k:Int)<(ks.length:Int):=by omega
  have gf:(ks.map encN).getD k .top=encN ks[k]:=xaa _ _ _ q;simp only [xc3,xi3,xg9,xh0,xh1,sBU,h1,q,gf,cN,sN,xKl (n:=k) (by omega)]
  repeat' (first|exact Stp.inl rfl|exact Stp.inr trivial|refine Stp.br (fun _=>?_) (fun _=>?_))) (fun s hi=>by
  obtain ⟨a,i⟩:=s;dsimp only at hi;subst hi;simp only [xc3,xi3,xg9,z8,zx,zl,xae,sUF];exact Stp.inr trivial) ks.length 0 ((0:Int),(0:Int)) (by omega) rfl
 unfold xdp xpx;simp only [xoJ,xoK,xoL,e,zj,zg,xab,sUF];repeat' (first|exact Ans.some trivial|refine Ans.br (fun _=>?_) (fun _=>?_))
theorem xDm (op i vk vi:Int) (vt nm:List UInt8) (args:List AV) (ks kn:List Int) (hk:ks.length<=16777216) (h2:op=2->0<=i/\i<(kn.length:Int)) (q:op=22->1<=ks.length):Ans (fun _=>True) (xhl op i vk vi vt nm args (ks.map encN) (kn.map encN)):=by
 obtain ⟨r1,e1,_⟩:=xtP ks 1 hk;obtain ⟨r2,e2,_⟩:=xtP ks 2 hk;obtain ⟨r3,e3,_⟩:=xtP ks 3 hk;obtain ⟨r4,e4,_⟩:=xAl ks hk;obtain ⟨r5,e5,_⟩:=xAl ((ks.drop 1).take (ks.length - 1)) (by rw [zr];omega)
 obtain ⟨r6,e6,_⟩:=xtP (ks.take 1) 3 (by rw [zr];omega)
 rw [List.map_take,List.map_drop] at e5;rw [List.map_take] at e6;unfold xhl xns xcU xcV xh2;simp only [z8,e1,e2,e3,e4,e5,e6,zq,zj,zg,xab,sUF];refine Ans.br (fun _=>Ans.some trivial) (fun _=>Ans.br (fun h=>?_) (fun _=>?_))
 . obtain ⟨a,b⟩:=h2 (by simpa using h)
   have c:i.toNat<kn.length:=by omega
   have gf:(kn.map encN).getD i.toNat .top=encN kn[i.toNat]:=xaa _ _ _ c;simp only [a,b,c,gf,cN,sN,zm,zR,xab,sUF];exact Ans.some trivial
 . by_cases h:op=22
   . have:=q h;have c:(1:Int)<=(ks.length:Int):=by omega
     simp only [c,zm,zR,xab,sUF];repeat' (first|exact Ans.some trivial|refine Ans.br (fun _=>?_) (fun _=>?_))
   . have hb:(op==22)=false:=by simpa using h
     simp only [hb,xae,sUF];repeat' (first|exact Ans.some trivial|refine Ans.br (fun _=>?_) (fun _=>?_))
theorem xKW (xs:List AV):(AV.agg xs).cells=xs:=rfl
theorem shE (op i vk vi:Int) (vt nm:List UInt8) (args:List AV):xLq [Sh.int IntKind.i64,Sh.int IntKind.i64,Sh.int IntKind.i64,Sh.int IntKind.i64,Sh.str,Sh.str,Sh.list 7] [AV.int .i64 op,.int .i64 i,.int .i64 vk,.int .i64 vi,.str vt,.str nm,.list 7 args] 0=true:=rfl
theorem cE0 (a b c d e f g:AV):[a,b,c,d,e,f,g].getD 0 .top=a:=rfl
theorem cE1 (a b c d e f g:AV):[a,b,c,d,e,f,g].getD 1 .top=b:=rfl
theorem cE2 (a b c d e f g:AV):[a,b,c,d,e,f,g].getD 2 .top=c:=rfl
theorem cE3 (a b c d e f g:AV):[a,b,c,d,e,f,g].getD 3 .top=d:=rfl
theorem cE4 (a b c d e f g:AV):[a,b,c,d,e,f,g].getD 4 .top=e:=rfl
theorem cE5 (a b c d e f g:AV):[a,b,c,d,e,f,g].getD 5 .top=f:=rfl
theorem cE6 (a b c d e f g:AV):[a,b,c,d,e,f,g].getD 6 .top=g:=rfl
theorem lE (a b c d e f g:AV):([a,b,c,d,e,f,g].length==7)=true:=rfl
theorem toIE (n:Int):(AV.int .i64 n).toInt=n:=rfl
theorem toSE (n:List UInt8):(AV.str n).toStr=n:=rfl
theorem toLE (k:Nat) (n:List AV):(AV.list k n).toList=n:=rfl
theorem xw4:∀ (n:Nat) (op i vk vi:Int) (vt nm:List UInt8) (args:List AV),args.length<=16777216->(∀ x,x∈args->IsEx x)->AV.dps args<n->Ans (fun _=>True) (xcT n op i vk vi vt nm args)
 | 0,op,i,vk,vi,vt,nm,args,hl,h,hd=>absurd hd (Nat.not_lt_zero _)
 | n+1,op,i,vk,vi,vt,nm,args,hl,h,hd=>by
  obtain ⟨r,e,_⟩:=xbj (step:=xbv (xcT n)) (fun k s=>∃ m:Int,s=(m,(k:Int),op,i,vk,vi,vt,nm,args)) args.length (fun _=>True) (fun k s hk hi=>by
   obtain ⟨m,rfl⟩:=hi;have h1:(k:Int)<(args.length:Int):=by omega
   have hx:=h args[k] (zn hk);have hp:=xws (zn hk);have gf:args.getD k .top=args[k]:=by rw [z6,zd hk];rfl
   obtain ⟨O,i',q,Q,U,J,ar,ex,l',t',h'⟩:=hx.get;rw [ex] at gf hp;simp only [AV.dp,AV.dps] at hp;obtain ⟨r',e',_⟩:=xw4 n O i' q Q U J ar l' h' (by omega)
   simp only [xbv,xfF,xkt,xku,sBU,h1,hk,gf,xKW,shE,cE0,cE1,cE2,cE3,cE4,cE5,cE6,lE,toIE,toSE,toLE,e',xKl (n:=k) (by omega)]
   exact Stp.inl ⟨_,rfl⟩) (fun s hi=>by
   obtain ⟨m,rfl⟩:=hi;simp only [xbv,xfF,zx,zl,xae,sUF];exact Stp.inr trivial) args.length 0 ((0:Int),(0:Int),op,i,vk,vi,vt,nm,args) (by omega) ⟨0,rfl⟩
  show Ans _ (xgY (xcT n) op i vk vi vt nm args);unfold xgY xkQ;simp only [xnr,e,zj,zg,xab,sUF];exact Ans.some trivial
theorem xwZ (kn:List Int):∀ (n:Nat) (op i vk vi:Int) (vt nm:List UInt8) (args:List AV),args.length<=16777216->vt.length<=16777216->(∀ x,x∈args->IsEx x)->AV.dps args<n->Ans (fun _=>True) (xcS n op i vk vi vt nm args (kn.map encN))
 | 0,op,i,vk,vi,vt,nm,args,hl,ht,h,hd=>absurd hd (Nat.not_lt_zero _)
 | n+1,op,i,vk,vi,vt,nm,args,hl,ht,h,hd=>by
  obtain ⟨b,fe,fq⟩:=xCV op i vk vi vt nm args ht;obtain ⟨r,e,hq⟩:=xbj (step:=xbu (xcS n) (kn.map encN)) (fun k s=>∃ ks:List Int,ks.length=k/\s=(ks.length,(k:Int),op,i,vk,vi,vt,nm,args,ks.map encN)) args.length (fun r=>r.1=false->∃ ks:List Int,ks.length=args.length/\r.2.2=(ks.length,op,i,vk,vi,vt,nm,args,ks.map encN)) (fun k s hk hi=>by
   obtain ⟨ks,q,rfl⟩:=hi;have h1:(k:Int)<(args.length:Int):=by omega
   have hx:=h args[k] (zn hk);have hp:=xws (zn hk);have gf:args.getD k .top=args[k]:=by rw [z6,zd hk];rfl
   obtain ⟨U,i',O,W,Y,Q,ar,ex,l',t',h'⟩:=hx.get;rw [ex] at gf hp;simp only [AV.dp,AV.dps] at hp;have m1:(ks.length+1)*8<=140737488355328:=by omega
   have m2:ks.length+1<=4611686018427387904:=by omega
   obtain ⟨⟨r1,r2⟩,e',_⟩:=xwZ kn n U i' O W Y Q ar l' t' h' (by omega)
   simp only [xbu,xfE,xko,xkp,xkq,sBU,h1,hk,gf,xKW,shE,cE0,cE1,cE2,cE3,cE4,cE5,cE6,lE,toIE,toSE,toLE,e',m1,m2,xKl (n:=k) (by omega)]
   refine Stp.br (fun _=>Stp.inr (by simp)) (fun _=>Stp.inl ⟨ks++[r1],by simp [q],?_⟩)
   simp [encN]) (fun s hi=>by
   obtain ⟨ks,q,rfl⟩:=hi;simp only [xbu,xfE,zx,zl,xae,sUF];exact Stp.inr fun _=>⟨ks,q,rfl⟩) args.length 0 ((0:Nat),(0:Int),op,i,vk,vi,vt,nm,args,[]) (by omega) ⟨[],rfl,rfl⟩
  obtain ⟨r1,r2,r3⟩:=r;show Ans _ (xe8 (xcS n) op i vk vi vt nm args (kn.map encN));unfold xe8 xkP xi4;simp only [xnh,xni,xnj,xnk,xnl,xnm,xnn,xno,xnp,xnq,xmp,xmq,xmr,xms,xmt,xmu,e,fe,z8,zj,zg,xab,sUF];cases b with
  | false=>simp only [Bool.not_false,xab,sUF];repeat' (first|exact Ans.some trivial|refine Ans.br (fun _=>?_) (fun _=>?_))
  | true =>
   have J:∀ r1:Bool,(r1=false->∃ ks:List Int,ks.length=args.length/\r3=(ks.length,op,i,vk,vi,vt,nm,args,ks.map encN))->(op=2->0<=i/\i<(kn.length:Int))->∀ x:Int×Int,Ans (fun _=>True) (br r1 (some x) (br (decide (r3.1<=r3.2.2.2.2.2.2.2.2.length)&&true) (br ((xhl r3.2.1 r3.2.2.1 r3.2.2.2.1 r3.2.2.2.2.1 r3.2.2.2.2.2.1 r3.2.2.2.2.2.2.1 r3.2.2.2.2.2.2.2.1 (List.take r3.1 (List.drop 0 r3.2.2.2.2.2.2.2.2)) (kn.map encN)).isSome) (br (!((xhl r3.2.1 r3.2.2.1 r3.2.2.2.1 r3.2.2.2.2.1 r3.2.2.2.2.2.1 r3.2.2.2.2.2.2.1 r3.2.2.2.2.2.2.2.1 (List.take r3.1 (List.drop 0 r3.2.2.2.2.2.2.2.2)) (kn.map encN)).getD ((0:Int),false)).2) (some ((0:Int),(7:Int))) (some (((xhl r3.2.1 r3.2.2.1 r3.2.2.2.1 r3.2.2.2.2.1 r3.2.2.2.2.2.1 r3.2.2.2.2.2.2.1 r3.2.2.2.2.2.2.2.1 (List.take r3.1 (List.drop 0 r3.2.2.2.2.2.2.2.2)) (kn.map encN)).getD ((0:Int),false)).1,(0:Int)))) none) none)):=fun r1 hr h2 x=>by
    cases r1 with
    | true=>exact Ans.some trivial
    | false =>
     obtain ⟨ks,q,rfl⟩:=hr rfl;obtain ⟨y,ye,_⟩:=xDm op i vk vi vt nm args ks kn (by omega) h2 (fun ho=>by rw [q];exact fq rfl ho)
     have tt:List.take ks.length (ks.map encN)=ks.map encN:=zh (by simp)
     simp only [xae,z8,zb,zm,zR,xab,zq,tt,ye,zj,zg,sUF];repeat' (first|exact Ans.some trivial|refine Ans.br (fun _=>?_) (fun _=>?_))
   simp only [Bool.not_true,xae,zG,sUF];refine Ans.br (fun _=>Ans.some trivial) (fun _=>Ans.br (fun ho=>?_) (fun ho=>?_))
   . refine Ans.br (fun _=>Ans.some trivial) (fun a1=>Ans.br (fun _=>Ans.some trivial) (fun a2=>?_))
     simp only [decide_eq_false_iff_not] at a1 a2;exact J r1 hq (fun _=>⟨by omega,by omega⟩) _
   . exact J r1 hq (fun h=>by simp [h] at ho) _
theorem xCN (kn:List Int) (op i vk vi:Int) (vt nm:List UInt8) (args:List AV) (hl:args.length<=16777216) (ht:vt.length<=16777216) (h:∀ x,x∈args->IsEx x):Ans (fun _=>True) (xrg op i vk vi vt nm args (kn.map encN)):=by
 obtain ⟨d,de,_⟩:=xw4 (AV.dps args+1) op i vk vi vt nm args hl h (Nat.lt_succ_self _);obtain ⟨c,ce,_⟩:=xwZ kn (AV.dps args+1) op i vk vi vt nm args hl ht h (Nat.lt_succ_self _);have h1:(xiA op i vk vi vt nm args).isSome=true:=xui (R:=fun n=>xcT n op i vk vi vt nm args) (by rw [de];rfl)
 have h2:(xgb op i vk vi vt nm args (kn.map encN)).isSome=true:=xui (R:=fun n=>xcS n op i vk vi vt nm args (kn.map encN)) (by rw [ce];rfl)
 unfold xrg xoI;rw [h1,h2];simp only [xab,sUF];repeat' (first|exact Ans.some trivial|refine Ans.br (fun _=>?_) (fun _=>?_))
def xKX:AV->Bool
 | .str _=>true
 | _=>false
theorem xCY {x:AV} (h:xKX x=true):∃ s,x=.str s:=by
 cases x<;>first|exact ⟨_,rfl⟩|(simp [xKX] at h)
theorem xLg (s:List UInt8):xLj .str ((AV.str s).cells.getD 0 .top)=true:=rfl
theorem cStr (s:List UInt8):((AV.str s).cells.getD 0 .top).toStr=s:=rfl
theorem xI8 (l:List AV) (s:List UInt8) (hl:l.length<=16777216) (h:l.all xKX=true):Ans (fun _=>True) (xu8 l s):=by
 obtain ⟨r,e,_⟩:=xbj (step:=xcW l s) (fun k i=>i=(k:Int)) l.length (fun _=>True) (fun k i hk hi=>by
  subst hi;have h1:(k:Int)<(l.length:Int):=by omega
  obtain ⟨x,hx⟩:=xCY (zH.1 h l[k] (zn hk));have gf:l.getD k .top=.str x:=by rw [z6,zd hk,<-hx];rfl
  simp only [xcW,xkR,sBU,h1,hk,gf,xLg,cStr,xKl (n:=k) (by omega)]
  repeat' (first|exact Stp.inl rfl|exact Stp.inr trivial|refine Stp.br (fun _=>?_) (fun _=>?_))) (fun i hi=>by
  subst hi;simp only [xcW,xkR,zx,zl,xae,sUF];exact Stp.inr trivial) l.length 0 (0:Int) (by omega) rfl
 unfold xu8 xsp;simp only [e,zj,zg,xab,sUF];repeat' (first|exact Ans.some trivial|refine Ans.br (fun _=>?_) (fun _=>?_))
theorem xuX (s:List UInt8) (hs:s.length<=16777216):Ans (fun _=>True) (xgD s):=by
 obtain ⟨r,e,_⟩:=xbj (step:=xcd s) (fun k i=>i=(k:Int)) s.length (fun _=>True) (fun k i hk hi=>by
  subst hi;have h1:(k:Int)<(s.length:Int):=by omega
  simp only [xcd,xi6,xha,xhb,sBU,h1,hk,xKl (n:=k) (by omega)]
  repeat' (first|exact Stp.inl rfl|exact Stp.inr trivial|refine Stp.br (fun _=>?_) (fun _=>?_))) (fun i hi=>by
  subst hi;simp only [xcd,xi6,xha,xhb,zx,zl,xae,sUF];exact Stp.inr trivial) s.length 0 (0:Int) (by omega) rfl
 obtain ⟨r2,e2,_⟩:Ans (fun _=>True) (xoQ s):=xI8 _ s (by decide) (by rfl)
 unfold xgD xp7 xny;simp only [e,e2,zj,zg,xab,sUF];cases s with
 | nil=>exact Ans.some trivial
 | cons c t =>
  have h0:(0:Int)<(((c::t).length:Nat):Int):=by rw [zD];omega
  simp only [h0,zm,xab,sUF];repeat' (first|exact Ans.some trivial|refine Ans.br (fun _=>?_) (fun _=>?_))
theorem xAm (t:Tab) (hc:t.cols.length<=16777216):xgZ t.n (t.cols.map xKj) (t.key.map encN) (t.fos.map xKk) t.chk=some ((t.cols.map (·.k)).map encN):=by
 have e:=xqJ (step:=xcN) t.cols (fun c=>[c.k]) (fun n D=>(D.length,(n:Int),t.n,t.cols.map xKj,t.key.map encN,t.fos.map xKk,t.chk,D.map encN)) (fun D=>(D.length,D.map encN)) [] 1 (fun _ _=>by simp) (fun n h D hD=>by
  have h1:(n:Int)<(t.cols.length:Int):=by omega
  rw [List.length_nil] at hD;have m1:(D.length+1)*8<=140737488355328:=by omega
  have m2:D.length+1<=4611686018427387904:=by omega
  have gf:(t.cols.map xKj).getD n .top=xKj t.cols[n]:=xaa _ _ _ h;simp only [xcN,xh3,sBU,h,h1,gf,cK1,shI,AV.toInt,m1,m2,xKl (n:=n) (by omega)]
  simp [encN]) (fun D=>by
  simp only [xcN,xh3,z8,zx,zl,xae,sUF])
 rw [zT,xKQ] at e;have e:Iter xcN ((0:Nat),(0:Int),t.n,t.cols.map xKj,t.key.map encN,t.fos.map xKk,t.chk,[])=some ((t.cols.map (·.k)).length,(t.cols.map (·.k)).map encN):=e;have tt:List.take (t.cols.map (·.k)).length ((t.cols.map (·.k)).map encN)=(t.cols.map (·.k)).map encN:=zh (by simp)
 unfold xgZ xoP;simp only [xnt,xnu,xnv,xnw,e,zj,zg,xab,zG,zq,sUF];rw [tt];simp [xab,sUF]
theorem xFY (t:Tab) (s:List UInt8) (hc:t.cols.length<=16777216):Ans (fun _=>True) (xpl t.n (t.cols.map xKj) (t.key.map encN) (t.fos.map xKk) t.chk s):=by
 obtain ⟨r,e,_⟩:=xbj (step:=xc6 s) (fun k x=>x=((k:Int),t.n,t.cols.map xKj,t.key.map encN,t.fos.map xKk,t.chk)) t.cols.length (fun _=>True) (fun k i hk hi=>by
  subst hi;have h1:(k:Int)<(t.cols.length:Int):=by omega
  have gf:(t.cols.map xKj).getD k .top=xKj t.cols[k]:=xaa _ _ _ hk;simp only [xc6,xi5,sBU,h1,hk,gf,cK0,shS,AV.toStr,xKl (n:=k) (by omega)]
  repeat' (first|exact Stp.inl rfl|exact Stp.inr trivial|refine Stp.br (fun _=>?_) (fun _=>?_))) (fun i hi=>by
  subst hi;simp only [xc6,xi5,z8,zx,zl,xae,sUF];exact Stp.inr trivial) t.cols.length 0 _ (by omega) rfl
 have e:Iter (xc6 s) ((0:Int),t.n,t.cols.map xKj,t.key.map encN,t.fos.map xKk,t.chk)=some r:=e;unfold xpl xp5;simp only [xoN,xoO,e,zj,zg,xab,sUF];repeat' (first|exact Ans.some trivial|refine Ans.br (fun _=>?_) (fun _=>?_))
structure Tab.Ok (t:Tab):Prop where
 n:t.n.length<=16777216
 cols:t.cols.length<=16777216
 key:t.key.length<=1048576
 fos:t.fos.length<=16777216
 chk:t.chk.length<=16777216
 cn:∀ c,c∈t.cols->c.n.length<=16777216
 fc:∀ f,f∈t.fos->f.cols.length<=1048576/\f.t.length<=16777216
 ex:∀ x,x∈t.chk->IsEx x
theorem xBj (t:Tab) (h:t.Ok):Ans (fun _=>True) (xgc t.n (t.cols.map xKj) (t.key.map encN) (t.fos.map xKk) t.chk):=by
 have q:=h.cols;obtain ⟨r,e,_⟩:=xbj (step:=xb0) (fun k x=>x=((k:Int),t.n,t.cols.map xKj,t.key.map encN,t.fos.map xKk,t.chk)) t.cols.length (fun _=>True) (fun k i hk hi=>by
  subst hi;have h1:(k:Int)<(t.cols.length:Int):=by omega
  have gf:(t.cols.map xKj).getD k .top=xKj t.cols[k]:=xaa _ _ _ hk;obtain ⟨a,ae,_⟩:=xuX t.cols[k].n (h.cn _ (zn hk));obtain ⟨b,be,_⟩:=xFY t t.cols[k].n h.cols;simp only [xb0,xgE,sBU,h1,hk,gf,cK0,cK1,lK,sK,AV.toStr,AV.toInt,ae,be,xKl (n:=k) (by omega)]
  repeat' (first|exact Stp.inl rfl|exact Stp.inr trivial|refine Stp.br (fun _=>?_) (fun _=>?_))) (fun i hi=>by
  subst hi;simp only [xb0,xgE,z8,zx,zl,xae,sUF];exact Stp.inr trivial) t.cols.length 0 _ (by omega) rfl
 have e:Iter xb0 ((0:Int),t.n,t.cols.map xKj,t.key.map encN,t.fos.map xKk,t.chk)=some r:=e;unfold xgc xmv;simp only [xlf,xlg,e,zj,zg,xab,sUF];repeat' (first|exact Ans.some trivial|refine Ans.br (fun _=>?_) (fun _=>?_))
def InC (t:Tab) (x:Int):Prop:=0<=x/\x<(t.cols.length:Int)
theorem xn4 (t:Tab) (x:Int):xjA t.n (t.cols.map xKj) (t.key.map encN) (t.fos.map xKk) t.chk x=(decide (0<=x)&&decide (x<(t.cols.length:Int))):=by
 unfold xjA;rw [z8];by_cases h:0<=x
 . have:x>=0:=h;simp [br,h,this]
 . have:¬ x>=0:=h;simp [br,h,this]
theorem xw9 {t:Tab} {x:Int} (h:(decide (0<=x)&&decide (x<(t.cols.length:Int)))=true):InC t x:=by
 simp only [ze,zk] at h;exact h
theorem xHq (t:Tab) (h:t.Ok):Ans (fun c=>c=0->∀ x,x∈t.key->InC t x) (xoh t.n (t.cols.map xKj) (t.key.map encN) (t.fos.map xKk) t.chk):=by
 have O:=h.key;obtain ⟨r,e,hr⟩:=xbj (step:=xbQ) (fun k x=>x=((k:Int),t.n,t.cols.map xKj,t.key.map encN,t.fos.map xKk,t.chk)/\∀ j (hj:j<t.key.length),j<k->InC t t.key[j]) t.key.length (fun r=>(r.1=true->r.2.1≠0)/\(r.1=false->∀ x,x∈t.key->InC t x)) (fun k i hk hi=>by
  obtain ⟨rfl,hp⟩:=hi;have h1:(k:Int)<(t.key.length:Int):=by omega
  have gf:(t.key.map encN).getD k .top=encN t.key[k]:=xaa _ _ _ hk;cases hx:(decide (0<=t.key[k])&&decide (t.key[k]<(t.cols.length:Int))) with
  | false =>
   simp only [xbQ,xfi,xdR,xem,xen,xbD,sBU,h1,hk,gf,cN,sN,xn4,hx];exact Stp.inr ⟨fun _=>by simp,fun h=>by simp at h⟩
  | true =>
   have q:=xw9 hx;have c:t.key[k].toNat<t.cols.length:=by have:=q.1;have:=q.2;omega
   have gc:(t.cols.map xKj).getD t.key[k].toNat .top=xKj t.cols[t.key[k].toNat]:=xaa _ _ _ c;have hp':∀ j (hj:j<t.key.length),j<k+1->InC t t.key[j]:=fun j hj U=>by
    rcases zI j k with J|Q
    . exact hp j hj J
    . obtain rfl:j=k:=by omega
      exact q
   cases k with
   | zero =>
    have i0:¬ ((0:Nat):Int)>0:=by omega
    simp only [xbQ,xfi,xdR,xem,xen,xbD,sBU,h1,hk,gf,cN,sN,xn4,hx,i0,q.1,q.2,c,gc,cK2,shB,AV.toBool,xKl (n:=0) (by omega)]
    exact Stp.br (fun _=>Stp.inr ⟨fun _=>by simp,fun h=>by simp at h⟩) (fun _=>Stp.inl ⟨rfl,hp'⟩)
   | succ m =>
    have i0:((m+1:Nat):Int)>0:=by omega
    have w:IntKind.i64.wrap (((m+1:Nat):Int) - 1)=(m:Int):=by rw [xdX (by omega) (by omega)];omega
    have h3:(m:Int)<(t.key.length:Int):=by omega
    have h4:m<t.key.length:=by omega
    have gm:(t.key.map encN).getD m .top=encN t.key[m]:=xaa _ _ _ h4;simp only [xbQ,xfi,xdR,xem,xen,xbD,sBU,h1,hk,gf,cN,sN,xn4,hx,i0,w,h3,h4,gm,q.1,q.2,c,gc,cK2,shB,AV.toBool,xKl (n:=m+1) (by omega)]
    exact Stp.br (fun _=>Stp.inr ⟨fun _=>by simp,fun h=>by simp at h⟩) (fun _=>Stp.br (fun _=>Stp.inr ⟨fun _=>by simp,fun h=>by simp at h⟩) (fun _=>Stp.inl ⟨rfl,hp'⟩))) (fun i hi=>by
  obtain ⟨rfl,hp⟩:=hi;simp only [xbQ,xfi,xdR,z8,zx,zl,xae,sUF];refine Stp.inr ⟨fun h=>by simp at h,fun _ x hx=>?_⟩
  obtain ⟨j,hj,rfl⟩:=List.getElem_of_mem hx;exact hp j hj hj) t.key.length 0 _ (by omega) ⟨rfl,fun j _ h=>absurd h (Nat.not_lt_zero _)⟩
 have e:Iter xbQ ((0:Int),t.n,t.cols.map xKj,t.key.map encN,t.fos.map xKk,t.chk)=some r:=e;unfold xoh xrk;simp only [xp8,xp9,e,zj,zg,xab,sUF];exact Ans.br (fun _=>Ans.some fun h=>by simp at h) (fun _=>Ans.br (fun h1=>Ans.some fun h=>absurd h (hr.1 h1)) (fun h1=>Ans.some fun _=>hr.2 h1))
theorem xBm (t:Tab) (h:t.Ok) (f:Fo) (hf:f.cols.length<=1048576/\f.t.length<=16777216):Ans (fun c=>c=0->∀ x,x∈f.cols->InC t x) (xiB t.n (t.cols.map xKj) (t.key.map encN) (t.fos.map xKk) t.chk (f.cols.map encN) f.t):=by
 have Q:=hf.1;obtain ⟨a,ae,_⟩:=xuX f.t hf.2;obtain ⟨r,e,hr⟩:=xbj (step:=xbA) (fun k x=>x=((k:Int),t.n,t.cols.map xKj,t.key.map encN,t.fos.map xKk,t.chk,f.cols.map encN,f.t)/\∀ j (hj:j<f.cols.length),j<k->InC t f.cols[j]) f.cols.length (fun r=>(r.1=true->r.2.1≠0)/\(r.1=false->∀ x,x∈f.cols->InC t x)) (fun k i hk hi=>by
  obtain ⟨rfl,hp⟩:=hi;have h1:(k:Int)<(f.cols.length:Int):=by omega
  have gf:(f.cols.map encN).getD k .top=encN f.cols[k]:=xaa _ _ _ hk;cases hx:(decide (0<=f.cols[k])&&decide (f.cols[k]<(t.cols.length:Int))) with
  | false =>
   simp only [xbA,xeb,sBU,h1,hk,gf,cN,sN,xn4,hx];exact Stp.inr ⟨fun _=>by simp,fun h=>by simp at h⟩
  | true =>
   have J:=xw9 hx;have hp':∀ j (hj:j<f.cols.length),j<k+1->InC t f.cols[j]:=fun j hj W=>by
    rcases zI j k with O|U
    . exact hp j hj O
    . obtain rfl:j=k:=by omega
      exact J
   obtain ⟨⟨b,q1,q2⟩,e1,q⟩:=xbj (step:=xb1 (k:Int)) (fun m x=>x=((m:Int),t.n,t.cols.map xKj,t.key.map encN,t.fos.map xKk,t.chk,f.cols.map encN,f.t)) k (fun r=>(r.1=true->r.2.1.1≠0)/\(r.1=false->r.2.2=(t.n,t.cols.map xKj,t.key.map encN,t.fos.map xKk,t.chk,f.cols.map encN,f.t))) (fun m i hm hi=>by
    subst hi;have m1:(m:Int)<(k:Int):=by omega
    have m2:(m:Int)<(f.cols.length:Int):=by omega
    have m3:m<f.cols.length:=by omega
    have gm:(f.cols.map encN).getD m .top=encN f.cols[m]:=xaa _ _ _ m3;simp only [xb1,xgF,sBU,m1,m2,m3,h1,hk,gf,gm,cN,sN,xKl (n:=m) (by omega)]
    exact Stp.br (fun _=>Stp.inr ⟨fun _=>by simp,fun h=>by simp at h⟩) (fun _=>Stp.inl rfl)) (fun i hi=>by
    subst hi;simp only [xb1,xgF,zx,zl,xae,sUF];exact Stp.inr ⟨fun h=>by simp at h,fun _=>rfl⟩) k 0 _ (by omega) rfl
   have e1:Iter (xb1 (k:Int)) ((0:Int),t.n,t.cols.map xKj,t.key.map encN,t.fos.map xKk,t.chk,f.cols.map encN,f.t)=_:=e1;simp only [xbA,xeb,xiP,xiQ,xiR,xiS,xiT,xiU,xiV,xiW,xiX,sBU,h1,hk,gf,cN,sN,xn4,hx,e1,xKl (n:=k) (by omega)]
   refine Stp.br (fun hb=>Stp.inr ⟨fun _=>q.1 hb,fun h=>by simp at h⟩) (fun hb=>?_)
   have:=q.2 hb;dsimp only at this;subst this;exact Stp.inl ⟨rfl,hp'⟩) (fun i hi=>by
  obtain ⟨rfl,hp⟩:=hi;simp only [xbA,xeb,z8,zx,zl,xae,sUF];refine Stp.inr ⟨fun h=>by simp at h,fun _ x hx=>?_⟩
  obtain ⟨j,hj,rfl⟩:=List.getElem_of_mem hx;exact hp j hj hj) f.cols.length 0 _ (by omega) ⟨rfl,fun j _ h=>absurd h (Nat.not_lt_zero _)⟩
 have e:Iter xbA ((0:Int),t.n,t.cols.map xKj,t.key.map encN,t.fos.map xKk,t.chk,f.cols.map encN,f.t)=some r:=e;unfold xiB xmw;simp only [xlh,xli,ae,e,zj,zg,xab,sUF];exact Ans.br (fun _=>Ans.some fun h=>by simp at h) (fun _=>Ans.br (fun _=>Ans.some fun h=>by simp at h) (fun _=>Ans.br (fun h1=>Ans.some fun h=>absurd h (hr.1 h1)) (fun h1=>Ans.some fun _=>hr.2 h1)))
theorem xvp (t:Tab) (h:t.Ok):Ans (fun c=>c=0->∀ f,f∈t.fos->∀ x,x∈f.cols->InC t x) (xdu t.n (t.cols.map xKj) (t.key.map encN) (t.fos.map xKk) t.chk):=by
 have ac:=h.fos;have ab:=h.chk;obtain ⟨⟨b,q1,q2⟩,e,hr⟩:=xbj (step:=xbm) (fun k x=>x=((k:Int),t.n,t.cols.map xKj,t.key.map encN,t.fos.map xKk,t.chk)/\∀ j (hj:j<t.fos.length),j<k->∀ x,x∈t.fos[j].cols->InC t x) t.fos.length (fun r=>(r.1=true->r.2.1.1≠0)/\(r.1=false->r.2.2=(t.n,t.cols.map xKj,t.key.map encN,t.fos.map xKk,t.chk)/\∀ f,f∈t.fos->∀ x,x∈f.cols->InC t x)) (fun k i hk hi=>by
  obtain ⟨rfl,hp⟩:=hi;have h1:(k:Int)<(t.fos.length:Int):=by omega
  have gf:(t.fos.map xKk).getD k .top=xKk t.fos[k]:=xaa _ _ _ hk;obtain ⟨c,ce,hc⟩:=xBm t h t.fos[k] (h.fc _ (zn hk));simp only [xbm,xd0,sBU,h1,hk,gf,cFo0,cFo1,lFo,sFo,AV.toList,AV.toStr,ce,xKl (n:=k) (by omega)]
  refine Stp.br (fun hb=>Stp.inr ⟨fun _=>by simpa using hb,fun h=>by simp at h⟩) (fun hb=>Stp.inl ⟨rfl,fun j hj ae=>?_⟩)
  rcases zI j k with Y|ad
  . exact hp j hj Y
  . obtain rfl:j=k:=by omega
    exact hc (by simpa using hb)) (fun i hi=>by
  obtain ⟨rfl,hp⟩:=hi;simp only [xbm,xd0,z8,zx,zl,xae,sUF];refine Stp.inr ⟨fun h=>by simp at h,fun _=>⟨rfl,fun f hf=>?_⟩⟩
  obtain ⟨j,hj,rfl⟩:=List.getElem_of_mem hf;exact hp j hj hj) t.fos.length 0 _ (by omega) ⟨rfl,fun j _ h=>absurd h (Nat.not_lt_zero _)⟩
 have e:Iter xbm ((0:Int),t.n,t.cols.map xKj,t.key.map encN,t.fos.map xKk,t.chk)=_:=e;have O:=xAm t h.cols;obtain ⟨r1,e1,J⟩:=xbj (step:=xbn) (fun k x=>x=((k:Int),t.n,t.cols.map xKj,t.key.map encN,t.fos.map xKk,t.chk)) t.chk.length (fun r=>r.1=true->r.2.1≠0) (fun k i hk hi=>by
  subst hi;have h1:(k:Int)<(t.chk.length:Int):=by omega
  have gf:t.chk.getD k .top=t.chk[k]:=by rw [z6,zd hk];rfl
  obtain ⟨W,i',Q,Z,aa,U,ar,ex,l',t',h'⟩:=(h.ex _ (zn hk)).get;rw [ex] at gf;obtain ⟨⟨c1,c2⟩,ce,_⟩:=xCN (t.cols.map (·.k)) W i' Q Z aa U ar l' t' h';simp only [xbn,xd1,xf3,xf4,xf5,xf6,sBU,h1,hk,gf,xKW,shE,cE0,cE1,cE2,cE3,cE4,cE5,cE6,lE,toIE,toSE,toLE,O,ce,xKl (n:=k) (by omega)]
  exact Stp.br (fun hb=>Stp.inr fun _=>by simpa using hb) (fun _=>Stp.br (fun _=>Stp.br (fun _=>Stp.inr fun _=>by simp) (fun _=>Stp.inl rfl)) (fun _=>Stp.inl rfl))) (fun i hi=>by
  subst hi;simp only [xbn,xd1,zx,zl,xae,sUF];exact Stp.inr fun h=>by simp at h) t.chk.length 0 _ (by omega) rfl
 have e1:Iter xbn ((0:Int),t.n,t.cols.map xKj,t.key.map encN,t.fos.map xKk,t.chk)=_:=e1;unfold xdu xiO;simp only [xh4,xh5,xh6,xh7,xh8,xh9,xia,xib,xic,xid,e,zj,zg,xab,sUF];refine Ans.br (fun _=>Ans.some fun h=>by simp at h) (fun _=>Ans.br (fun h1=>Ans.some fun h=>absurd h (hr.1 h1)) (fun h1=>?_))
 obtain ⟨q,hq⟩:=hr.2 h1;dsimp only at q;subst q;simp only [e1,zj,zg,xab,sUF];exact Ans.br (fun _=>Ans.some fun h=>by simp at h) (fun _=>Ans.br (fun h1=>Ans.some fun h=>absurd h (J h1)) (fun _=>Ans.some fun _=>hq))
theorem xDz (t:Tab) (h:t.Ok):Ans (fun c=>c=0->(∀ x,x∈t.key->InC t x)/\∀ f,f∈t.fos->∀ x,x∈f.cols->InC t x) (xnW t.n (t.cols.map xKj) (t.key.map encN) (t.fos.map xKk) t.chk):=by
 obtain ⟨a,ae,_⟩:=xuX t.n h.n;obtain ⟨b,be,_⟩:=xBj t h;obtain ⟨c,ce,hc⟩:=xHq t h;obtain ⟨d,de,hd⟩:=xvp t h;unfold xnW xoM;simp only [ae,be,ce,de,zj,zg,xab,sUF];cases a with
 | false=>exact Ans.some fun h=>by simp at h
 | true =>
  simp only [Bool.not_true,xae,sUF];refine Ans.br (fun _=>Ans.br (fun h2=>Ans.some fun h=>⟨hc (by simpa using h2),hd h⟩) (fun h2=>Ans.some fun h=>by simp [h] at h2)) (fun h1=>?_)
  simp only [h1,xae,sUF];exact Ans.some fun h=>by simp [h] at h1
theorem xBG (row:Row) (kn:List Int) (hr:row.length<=1048576) (ht:Txt row):Ans (fun b=>b=true->row.length=kn.length) (xpj (row.map encV) (kn.map encN)):=by
 unfold xpj xpT;by_cases hl:row.length=kn.length
 . obtain ⟨r,e,_⟩:=xbj (step:=xb6 (row.map encV) (kn.map encN)) (fun k i=>i=(k:Int)) row.length (fun _=>True) (fun k i hk hi=>by
    subst hi;have h1:(k:Int)<(row.length:Int):=by omega
    have h2:(k:Int)<(kn.length:Int):=by omega
    have h3:k<kn.length:=by omega
    have gf:(row.map encV).getD k .top=encV row[k]:=xaa _ _ _ hk;have gn:(kn.map encN).getD k .top=encN kn[k]:=xaa _ _ _ h3;have hv:=(ht _ (zn hk)).2;obtain ⟨v,ve,_⟩:=xwe row[k].k row[k].i row[k].t (by omega)
    have q:xLj (Sh.int .i64) ((encV row[k]).cells.getD 0 .top)=true:=rfl;simp only [xb6,xi1,xhY,xld,sBU,h1,h2,h3,hk,gf,gn,cV0,cV1,cV2,lV,sV,q,cN,sN,ve,xKl (n:=k) (by omega)]
    repeat' (first|exact Stp.inl rfl|exact Stp.inr trivial|refine Stp.br (fun _=>?_) (fun _=>?_))) (fun i hi=>by
    subst hi;simp only [xb6,xi1,z8,zx,zl,xae,sUF];exact Stp.inr trivial) row.length 0 (0:Int) (by omega) rfl
   simp only [e,zj,zg,xab,sUF];repeat' (first|exact Ans.some fun _=>hl|refine Ans.br (fun _=>?_) (fun _=>?_))
 . have hb:(((row.length:Nat):Int) != ((kn.length:Nat):Int))=true:=by
    rw [bne_iff_ne];omega
   simp only [z8,hb,xab,sUF];exact Ans.some fun h=>by simp at h
theorem xDn (kn:List Int) (hk:kn.length<=16777216):Ans (fun _=>True) (xrl (kn.map encN)):=by
 obtain ⟨r,e,_⟩:=xbj (step:=xbV (kn.map encN)) (fun k i=>i=(k:Int)) kn.length (fun _=>True) (fun k i q hi=>by
  subst hi;have h1:(k:Int)<(kn.length:Int):=by omega
  have gf:(kn.map encN).getD k .top=encN kn[k]:=xaa _ _ _ q;simp only [xbV,xie,sBU,h1,q,gf,cN,sN,xKl (n:=k) (by omega)]
  repeat' (first|exact Stp.inl rfl|exact Stp.inr trivial|refine Stp.br (fun _=>?_) (fun _=>?_))) (fun i hi=>by
  subst hi;simp only [xbV,xie,z8,zx,zl,xae,sUF];exact Stp.inr trivial) kn.length 0 (0:Int) (by omega) rfl
 unfold xrl xoR;simp only [e,zj,zg,xab,sUF];repeat' (first|exact Ans.some trivial|refine Ans.br (fun _=>?_) (fun _=>?_))
structure FOk (l:List Fc):Prop where
 len:l.length<=1048576
 row:∀ f,f∈l->f.r.length<=1048576
 txt:∀ f,f∈l->Txt f.r
def Rows (n:Nat) (l:List Fc):Prop:=∀ f,f∈l->pv f.p=true/\f.r.length=n
theorem xFg (kn:List Int) (hk:kn.length<=16777216) (l:List Fc) (h:FOk l):Ans (fun b=>b=true->Rows kn.length l) (xnX (kn.map encN) (l.map encF)):=by
 have hl:=h.len;obtain ⟨⟨b,q1,q2⟩,e,O,J⟩:=xbj (step:=xbW) (fun k x=>x=((k:Int),kn.map encN,l.map encF)/\Rows kn.length (l.take k)) l.length (fun r=>(r.1=false->r.2.2=(kn.map encN,l.map encF)/\Rows kn.length l)/\(r.1=true->r.2.1.1=false)) (fun k i q hi=>by
  obtain ⟨rfl,hi⟩:=hi;have h1:(k:Int)<(l.length:Int):=by omega
  have gf:(l.map encF).getD k .top=encF l[k]:=xaa _ _ _ q;obtain ⟨v,ve,hv⟩:=xBG l[k].r kn (h.row _ (zn q)) (h.txt _ (zn q));simp only [xbW,xif,sBU,h1,q,gf,cF0,cF1,cF2,sF0,sF1,sF2,lF,sF12,sF02,ve,xqT,xKl (n:=k) (by omega)]
  refine Stp.br (fun _=>Stp.inr (by simp)) (fun c1=>Stp.br (fun _=>Stp.inr (by simp)) (fun c2=>Stp.inl ⟨rfl,fun f hf=>?_⟩))
  rw [List.take_add_one,zd q] at hf;rcases zF.1 hf with hf|hf
  . exact hi f hf
  . simp only [Option.toList_some,zu] at hf;subst hf;exact ⟨by simpa using c1,hv (by simpa using c2)⟩) (fun i hi=>by
  obtain ⟨rfl,hi⟩:=hi;rw [y3] at hi;simp only [xbW,xif,z8,zx,zl,xae,sUF];exact Stp.inr ⟨fun _=>⟨rfl,hi⟩,fun h=>by simp at h⟩) l.length 0 _ (by omega) ⟨rfl,fun f hf=>by simp at hf⟩
 have e:Iter xbW ((0:Int),kn.map encN,l.map encF)=_:=e;obtain ⟨c,ce,_⟩:=xDn kn hk;unfold xnX xoS;simp only [xnA,xnB,xnC,xnD,xnE,e,zj,zg,xab,sUF];refine Ans.br (fun hb=>Ans.some fun h=>?_) (fun hb=>?_)
 . rw [J hb] at h;simp at h
 . obtain ⟨h1,h2⟩:=O hb;dsimp only at h1;subst h1;simp only [ce,zj,zg,xab,sUF];repeat' (first|exact Ans.some fun _=>h2|refine Ans.br (fun _=>?_) (fun _=>?_))
theorem xBd (t:Tab) (ht:t.Ok) (l:List Fc) (h:FOk l):Ans (fun b=>b=true->Rows t.cols.length l) (xkT t.n (t.cols.map xKj) (t.key.map encN) (t.fos.map xKk) t.chk (l.map encF)):=by
 obtain ⟨a,ae,ha⟩:=xDz t ht;have hk:=xAm t ht.cols;obtain ⟨b,be,hb⟩:=xFg (t.cols.map (·.k)) (by rw [z8];exact ht.cols) l h
 unfold xkT xmz;simp only [ae,hk,be,zj,zg,xab,sUF];exact Ans.br (fun h=>Ans.some fun h=>by have:=hb h;rwa [z8] at this) (fun _=>Ans.some fun h=>by simp at h)
end Go.Sim.M
end
noncomputable section
set_option maxRecDepth 100000
namespace Go.Sim.M
open Go.RowKit Go.Sim.Srt
theorem xFc (A:List Per) (hA:A.length<=1048576):xsl (A.map encP) (A.map encP)=some true:=by
 have e:=xnb (step:=xbG (A.map encP) (A.map encP)) (fun k=>(k:Int)) A.length (false,false,()) (fun k hk=>by
  have i1:(k:Int)<(A.length:Int):=by omega
  have gf:(A.map encP).getD k .top=encP A[k]:=xaa _ _ _ hk;simp only [xbG,xiZ,sBU,hk,i1,gf,cP0,cP1,lP,sP,sP0,sP1,xKl (n:=k) (by omega)]) (by
  simp only [xbG,xiZ,z8,zx,zl,xae,sUF]) A.length 0 (by omega)
 have e:Iter (xbG (A.map encP) (A.map encP)) (0:Int)=_:=e;unfold xsl xpN;simp only [z8,e,bne_self_eq_false,xae,zj,zg,xab,sUF]
theorem cVi4 (n:List UInt8) (f:Fc):(xKt n f).cells.getD 4 .top=.int .i64 f.p.1:=rfl
theorem cVi5 (n:List UInt8) (f:Fc):(xKt n f).cells.getD 5 .top=.int .i64 f.p.2:=rfl
theorem lVi (n:List UInt8) (f:Fc):((xKt n f).cells.length==6)=true:=rfl
theorem sVi4 (n:List UInt8) (f:Fc):xLq [Sh.int .i64,Sh.int .i64] (xKt n f).cells 4=true:=rfl
theorem toIv (n:Int):(AV.int .i64 n).toInt=n:=rfl
theorem xGs (l:List Fc) (hl:l.length<=1048576):Ans (fun b=>b=true->l.length<=16/\∀ f,f∈l->f.r.length<=60) (xqQ (l.map encF) 16):=by
 obtain ⟨r,e,hr⟩:=xbj (step:=xcD (l.map encF)) (fun k i=>i=(k:Int)/\∀ j (hj:j<l.length),j<k->l[j].r.length<=60) l.length (fun r=>(r.1=true->r.2.1=false)/\(r.1=false->∀ f,f∈l->f.r.length<=60)) (fun k i hk hi=>by
  obtain ⟨rfl,hp⟩:=hi;have h1:(k:Int)<(l.length:Int):=by omega
  have gf:(l.map encF).getD k .top=encF l[k]:=xaa _ _ _ hk;simp only [xcD,xj2,sBU,h1,hk,gf,cF0,cF1,cF2,sF0,sF1,sF2,lF,sF12,sF02,xKl (n:=k) (by omega)]
  refine Stp.br (fun _=>Stp.inr ⟨fun _=>rfl,fun h=>by simp at h⟩) (fun hb=>Stp.inl ⟨rfl,fun j hj O=>?_⟩)
  rcases zI j k with q|J
  . exact hp j hj q
  . obtain rfl:j=k:=by omega
    have hb:=of_decide_eq_false hb;omega) (fun i hi=>by
  obtain ⟨rfl,hp⟩:=hi;simp only [xcD,xj2,z8,zx,zl,xae,sUF];refine Stp.inr ⟨fun h=>by simp at h,fun _ f hf=>?_⟩
  obtain ⟨j,hj,rfl⟩:=List.getElem_of_mem hf;exact hp j hj hj) l.length 0 (0:Int) (by omega) ⟨rfl,fun j _ h=>absurd h (Nat.not_lt_zero _)⟩
 unfold xqQ xrq;simp only [e,zj,zg,xab,z8,sUF];refine Ans.br (fun _=>Ans.some fun h=>by simp at h) (fun h=>?_)
 have h:=of_decide_eq_false h;exact Ans.br (fun h1=>Ans.some fun h2=>by rw [hr.1 h1] at h2;simp at h2) (fun h1=>Ans.some fun _=>⟨by omega,hr.2 h1⟩)
structure Bel (t:Tab) (l:List Fc):Prop where
 len:l.length<=16
 row:∀ f,f∈l->f.r.length<=60
 rows:Rows t.cols.length l
theorem xF3 (t:Tab) (ht:t.Ok) (l:List Fc) (h:FOk l):Ans (fun b=>b=true->Bel t l) (xkL t.n (t.cols.map xKj) (t.key.map encN) (t.fos.map xKk) t.chk (l.map encF)):=by
 obtain ⟨a,ae,ha⟩:=xGs l h.len;obtain ⟨b,be,hb⟩:=xBd t ht l h;unfold xkL xl7;simp only [ae,be,zj,zg,xab,sUF];refine Ans.br (fun _=>Ans.br (fun h1=>Ans.some fun h2=>?_) (fun _=>Ans.some fun h=>by simp at h)) (fun _=>Ans.some fun h=>by simp at h)
 obtain ⟨x1,x2⟩:=ha h1;exact ⟨x1,x2,hb h2⟩
theorem Bel.few {t:Tab} {l:List Fc} (h:Bel t l):Few l:=⟨by have:=h.len;omega,fun f hf=>by have:=h.row f hf;omega⟩
theorem Bel.tok {t:Tab} {l:List Fc} (h:Bel t l) (ht:t.Ok) (hf:FOk l):TOk t.key l:=⟨by have:=ht.key;omega,by have:=h.len;omega,hf.txt⟩
theorem FOk.tx {l:List Fc} (h:FOk l):Tx l:=fun f hf v hv=>⟨(h.txt f hf v hv).1,by have:=(h.txt f hf v hv).2;omega⟩
theorem Bel.bld {t:Tab} {l:List Fc} (h:Bel t l) (hf:FOk l):Bld l:=xFm (by have:=h.len;omega) h.row hf.tx (R20.few (by have:=h.len;omega))
end Go.Sim.M
end
noncomputable section
set_option maxRecDepth 10000
namespace Go.Sim
open Go.RowKit Go.Proofs Go.ChangeShapes Go.WideShapes Go.ChangeAt Go.Proofs.YtcekkkdjdfiipaaGreatDoor
theorem xwU:∀ {xs:List AV} {x:AV},x∈xs->AV.wt x<=AV.wts xs
 | y::xs,x,h=>by
  simp only [AV.wts];rcases zB.1 h with rfl|h
  . omega
  . have:=xwU h;omega
theorem xwT:∀ {xs:List AV},(∀ x,x∈xs->1<=AV.wt x)->xs.length<=AV.wts xs
 | [],_=>zP _
 | y::xs,h=>by
  have a:=h y (by simp)
  have b:=xwT (xs:=xs) fun x hx=>h x (by simp [hx])
  simp only [AV.wts,zD];omega
theorem xiH {α:Type} {e:α->AV} (h:∀ a,1<=AV.wt (e a)) (l:List α):l.length<=AV.wts (l.map e):=by
 have:=xwT (xs:=l.map e) fun x hx=>by
  obtain ⟨a,_,rfl⟩:=zJ.1 hx;exact h a
 rwa [z8] at this
theorem xiI {α:Type} {e:α->AV} {l:List α} {a:α} (h:a∈l):AV.wt (e a)<=AV.wts (l.map e):=xwU (zJ.2 ⟨a,h,rfl⟩)
theorem xFs (v:M.Val):AV.wt (M.encV v)=1+(1+(v.t.length+1+0)):=rfl
theorem xA4 (f:M.Fc):AV.wt (M.encF f)=AV.wts (f.r.map M.encV)+1+(1+(1+0)):=rfl
theorem xFq (c:M.Col):AV.wt (M.xKj c)=c.n.length+1+(1+(1+0)):=rfl
theorem xDD (f:M.Fo):AV.wt (M.xKk f)=AV.wts (f.cols.map M.encN)+1+(f.t.length+1+0):=rfl
theorem M.fok_wt {l:List M.Fc} (h:AV.wts (l.map M.encF)<=1048576) (hw:∀ y,y∈l->y.wf):M.FOk l:=by
 refine ⟨?_,fun f hf=>?_,fun f hf v hv=>⟨(hw f hf).1.2 v hv,?_⟩⟩
 . have:=xiH (e:=M.encF) (fun f=>by have:=xA4 f;omega) l
   omega
 . have h1:=xiI (e:=M.encF) hf;have h2:=xA4 f;have h3:=xiH (e:=M.encV) (fun f=>by have:=xFs f;omega) f.r
   omega
 . have h1:=xiI (e:=M.encF) hf;have h2:=xA4 f;have h3:=xiI (e:=M.encV) hv;have h4:=xFs v;omega
def EX (xs:List AV):Prop:=∀ x,x∈xs->x.cells.length=7/\x=xLV x.cells/\∀ j,j<7->OfTy tyR (tyR.getD j .bool) (x.cells.getD j .top)
theorem xEM {a:AV} (h:OfTy tyR .mu a):∃ xs,a=.list 7 xs/\EX xs:=by
 cases h with
 | mu xs h hl hx=>exact ⟨xs,rfl,fun x hm=>⟨(hl x hm).1,(hl x hm).2,fun j hj=>hx x j hm hj⟩⟩
theorem xGS:∀ (n:Nat) (xs:List AV),AV.wts xs<n->n<=16777216->EX xs->xs.length<=AV.wts xs/\∀ x,x∈xs->M.IsEx x
 | 0,xs,h,_,_=>absurd h (Nat.not_lt_zero _)
 | n+1,xs,h,hn,hE=>by
  have key:∀ x,x∈xs->1<=AV.wt x/\M.IsEx x:=fun x hx=>by
   obtain ⟨h1,h2,h3⟩:=hE x hx;have hw:=xwU hx;generalize x.cells=cs at *;match cs,h1 with
   | [c0,c1,c2,c3,c4,c5,c6],_ =>
    have h0:=h3 0 (by decide)
    have h1:=h3 1 (by decide)
    have h2':=h3 2 (by decide)
    have h3':=h3 3 (by decide)
    have h4:=h3 4 (by decide)
    have h5:=h3 5 (by decide)
    have h6:=h3 6 (by decide)
    change OfTy tyR (.int .i64) c0 at h0;change OfTy tyR (.int .i64) c1 at h1;change OfTy tyR (.int .i64) c2 at h2';change OfTy tyR (.int .i64) c3 at h3';change OfTy tyR .str c4 at h4;change OfTy tyR .str c5 at h5;change OfTy tyR .mu c6 at h6;obtain ⟨ys,rfl,hy⟩:=xEM h6;cases h0 with
    | int _ n0 _=>cases h1 with
     | int _ n1 _=>cases h2' with
      | int _ n2 _=>cases h3' with
       | int _ n3 _=>cases h4 with
        | str s4 _=>cases h5 with
         | str s5 _ =>
          have hx:x=.agg [.int .i64 n0,.int .i64 n1,.int .i64 n2,.int .i64 n3,.str s4,.str s5,.list 7 ys]:=h2;have wx:AV.wt x=1+(1+(1+(1+(s4.length+1+(s5.length+1+(AV.wts ys+1+0)))))):=by rw [hx];rfl
          obtain ⟨i1,i2⟩:=xGS n ys (by omega) (by omega) hy
          exact ⟨by omega,hx▸M.IsEx.mk n0 n1 n2 n3 s4 s5 ys (by omega) (by omega) i2⟩
  exact ⟨xwT fun x hx=>(key x hx).1,fun x hx=>(key x hx).2⟩
def tyCo:List Ty:=[.str,.int .i64,.bool]
def tyFo:List Ty:=[.slice [.int .i64],.str]
theorem xA1 (x:AV) (hl:x.cells.length=[Ty.int .i64].length) (he:x=xLV x.cells) (hx:∀ j,j<[Ty.int .i64].length->OfTy tyR ([Ty.int .i64].getD j .bool) (x.cells.getD j .top)):∃ a,x=M.encN a/\I64 a:=by
 generalize x.cells=cs at *;match cs,hl with
 | [c0],_ =>
  have h0:=hx 0 (by decide)
  change OfTy tyR (.int .i64) c0 at h0;cases h0 with
  | int _ k hk=>exact ⟨k,he,hk⟩
theorem xGD (x:AV) (hl:x.cells.length=tyCo.length) (he:x=xLV x.cells) (hx:∀ j,j<tyCo.length->OfTy tyR (tyCo.getD j .bool) (x.cells.getD j .top)):∃ a,x=M.xKj a/\True:=by
 generalize x.cells=cs at *;match cs,hl with
 | [c0,c1,c2],_ =>
  have h0:=hx 0 (by decide)
  have h1:=hx 1 (by decide)
  have h2:=hx 2 (by decide)
  change OfTy tyR .str c0 at h0;change OfTy tyR (.int .i64) c1 at h1;change OfTy tyR .bool c2 at h2;cases h0 with
  | str s _=>cases h1 with
   | int _ k _=>cases h2 with
    | bool b=>exact ⟨⟨s,k,b⟩,he,trivial⟩
theorem xHV (x:AV) (hl:x.cells.length=tyFo.length) (he:x=xLV x.cells) (hx:∀ j,j<tyFo.length->OfTy tyR (tyFo.getD j .bool) (x.cells.getD j .top)):∃ a,x=M.xKk a/\True:=by
 generalize x.cells=cs at *;match cs,hl with
 | [c0,c1],_ =>
  have h0:=hx 0 (by decide)
  have h1:=hx 1 (by decide)
  change OfTy tyR (.slice [.int .i64]) c0 at h0;change OfTy tyR .str c1 at h1;obtain ⟨l,rfl,_,_⟩:=xlI (es:=[.int .i64]) xA1 h0;cases h1 with
  | str s _=>exact ⟨⟨l,s⟩,he,trivial⟩
theorem M.tab_ok (t:M.Tab) (hb:AV.wts [.str t.n,.list 3 (t.cols.map M.xKj),.list 1 (t.key.map M.encN),.list 2 (t.fos.map M.xKk),.list 7 t.chk]<=1048576) (hx:EX t.chk):t.Ok:=by
 have hw:AV.wts [.str t.n,.list 3 (t.cols.map M.xKj),.list 1 (t.key.map M.encN),.list 2 (t.fos.map M.xKk),.list 7 t.chk]=t.n.length+1+(AV.wts (t.cols.map M.xKj)+1+(AV.wts (t.key.map M.encN)+1+(AV.wts (t.fos.map M.xKk)+1+(AV.wts t.chk+1+0)))):=rfl;obtain ⟨e1,e2⟩:=xGS (AV.wts t.chk+1) t.chk (Nat.lt_succ_self _) (by omega) hx
 refine ⟨by omega,?_,?_,?_,by omega,fun c hc=>?_,fun f hf=>⟨?_,?_⟩,e2⟩
 . have:=xiH (e:=M.xKj) (fun f=>by have:=xFq f;omega) t.cols
   omega
 . have:=xiH (e:=M.encN) (fun f=>zb 1) t.key
   omega
 . have:=xiH (e:=M.xKk) (fun f=>by have:=xDD f;omega) t.fos
   omega
 . have h1:=xiI (e:=M.xKj) hc;have h2:=xFq c;omega
 . have h1:=xiI (e:=M.xKk) hf;have h2:=xDD f;have h3:=xiH (e:=M.encN) (fun f=>zb 1) f.cols
   omega
 . have h1:=xiI (e:=M.xKk) hf;have h2:=xDD f;omega
def M.Tab.wf (t:M.Tab):Prop:=EX t.chk
theorem xFZ:flat Tryz.prog muT 9 27=some [.str,.slice tyCo,.slice [.int .i64],.slice tyFo,.mu]:=by kernel_rfl
section
variable {H : Type} {enc : TypeId × Value -> H} {w : World} {base b : Nat} {sp : Nat -> Bool} {held : Bool} {v : Value} {d : DataW H} {ps : List MemPlace}
theorem xGc (q:Value.okWide Tryz.prog w .any base 27 v) (hd:DataW.Trod enc Tryz.prog w b sp held 27 v d ps):∃ x:M.Tab,Rel w (fun _=>False) xLz v (.agg [.str x.n,.list 3 (x.cols.map M.xKj),.list 1 (x.key.map M.encN),.list 2 (x.fos.map M.xKk),.list 7 x.chk])/\(∀ μ:DataW H->Nat,Meas μ->(AV.agg [.str x.n,.list 3 (x.cols.map M.xKj),.list 1 (x.key.map M.encN),.list 2 (x.fos.map M.xKk),.list 7 x.chk]).wt<=μ d)/\M.Tab.wf x:=by
 obtain ⟨cs,h,hl,hx,hB⟩:=xER recR Tryz.underlying27 xFZ q hd;match cs,hl with
 | [k0,k1,k2,k3,k4],_ =>
  have h0:=hx 0 (by decide)
  have h1:=hx 1 (by decide)
  have h2:=hx 2 (by decide)
  have h3:=hx 3 (by decide)
  have h4:=hx 4 (by decide)
  change OfTy tyR .str k0 at h0;change OfTy tyR (.slice tyCo) k1 at h1;change OfTy tyR (.slice [.int .i64]) k2 at h2;change OfTy tyR (.slice tyFo) k3 at h3;change OfTy tyR .mu k4 at h4;obtain ⟨l1,rfl,_,_⟩:=xlI (es:=tyCo) xGD h1;obtain ⟨l2,rfl,_,_⟩:=xlI (es:=[.int .i64]) xA1 h2;obtain ⟨l3,rfl,_,_⟩:=xlI (es:=tyFo) xHV h3;obtain ⟨l4,rfl,x4⟩:=xEM h4;cases h0 with
  | str s0 _=>exact ⟨⟨s0,l1,l2,l3,l4⟩,h,fun μ hμ=>hB μ hμ,x4⟩
abbrev M.Look:=M.Row×Int
def M.Look.wf (x:M.Look):Prop:=∀ v,v∈x.1->M.Val.wf v
end
theorem M.tl_wt (t:M.Tab) (l:List M.Fc) (ht:t.wf) (hl:∀ y,y∈l->y.wf) {r:Nat} (hb:(AV.agg [.str t.n,.list 3 (t.cols.map M.xKj),.list 1 (t.key.map M.encN),.list 2 (t.fos.map M.xKk),.list 7 t.chk]).wt+(AV.list 3 (l.map M.encF)).wt+r<=1048576):t.Ok/\M.FOk l:=by
 have hs:(AV.agg [.str t.n,.list 3 (t.cols.map M.xKj),.list 1 (t.key.map M.encN),.list 2 (t.fos.map M.xKk),.list 7 t.chk]).wt=AV.wts [.str t.n,.list 3 (t.cols.map M.xKj),.list 1 (t.key.map M.encN),.list 2 (t.fos.map M.xKk),.list 7 t.chk]:=by simp only [AV.wt]
 have q:(AV.list 3 (l.map M.encF)).wt=AV.wts (l.map M.encF)+1:=by simp only [AV.wt]
 exact ⟨M.tab_ok t (by omega) ht,M.fok_wt (by omega) hl⟩
end Go.Sim
end
noncomputable section
set_option maxRecDepth 100000
namespace Go.Sim.M
open Go.RowKit Go.Sim.Srt
theorem xeB {a b:Int} (h:pv (a,b)=true) (t:Int):hasP (a,b) t=decide (a<=t/\t<b):=by
 rw [Bool.eq_iff_iff,xa4,zk];simp [h]
def rx:Row:=[⟨1,1,[]⟩,⟨2,0,[120]⟩]
def ry:Row:=[⟨1,1,[]⟩,⟨2,0,[121]⟩]
def kA:Row:=[⟨1,1,[]⟩]
def xKN:List Fc:=[⟨rx,(0,5)⟩,⟨ry,(5,9)⟩]
def badA:List Fc:=[⟨rx,(0,5)⟩,⟨ry,(4,9)⟩]
theorem p05:pv (0,5)=true:=by decide
theorem p59:pv (5,9)=true:=by decide
theorem p49:pv (4,9)=true:=by decide
theorem p45:pv (4,5)=true:=by decide
theorem p09:pv (0,9)=true:=by decide
theorem xvE:life [0] xKN kA=[(0,5),(5,9)]:=by decide +kernel
theorem xyl:life [0] badA kA=[(0,5),(4,9)]:=by decide +kernel
theorem xwF:pick rx [0]=kA:=by decide +kernel
theorem xCg:pick ry [0]=kA:=by decide +kernel
theorem xEO:Once [0] xKN:=fun f hf t=>by
 have e:pick f.r [0]=kA:=by
  simp only [xKN,zB,List.not_mem_nil,or_false] at hf;rcases hf with rfl|rfl
  . exact xwF
  . exact xCg
 rw [e,xvE,List.countP_cons,List.countP_cons,List.countP_nil,xeB p05,xeB p59];by_cases h1:(0:Int)<=t/\t<5<;>by_cases h2:(5:Int)<=t/\t<9<;>simp [h1,h2];omega
theorem xF7:¬ Once [0] badA:=fun h=>by
 have:=h ⟨rx,(0,5)⟩ (by simp [badA]) 4
 rw [show pick (⟨rx,(0,5)⟩:Fc).r [0]=kA from xwF,xyl,List.countP_cons,List.countP_cons,List.countP_nil,xeB p05,xeB p49] at this
 simp at this
theorem xAW {p:Per} (h:pv p=true):IsSpan [p]:=⟨fun q hq=>by simp at hq;subst hq;exact h,List.pairwise_singleton _ _⟩
theorem xzX (t:Int):cntK [0] badA kA t=(if (0:Int)<=t/\t<5 then 1 else 0)+(if (4:Int)<=t/\t<9 then 1 else 0):=by
 unfold cntK;rw [xyl,List.countP_cons,List.countP_cons,List.countP_nil,xeB p05,xeB p49];simp;omega
theorem xGV:rx≠ry:=by decide +kernel
theorem xI2 (t:Int):cnt badA rx t=if (0:Int)<=t/\t<5 then 1 else 0:=by
 unfold cnt badA;rw [List.countP_cons,List.countP_cons,List.countP_nil];dsimp only;rw [xeB p05];simp [xGV.symm]
theorem xI3 (t:Int):cnt badA ry t=if (4:Int)<=t/\t<9 then 1 else 0:=by
 unfold cnt badA;rw [List.countP_cons,List.countP_cons,List.countP_nil];dsimp only;rw [xeB p49];simp [xGV]
def xK0:List Fc:=[⟨rx,(4,5)⟩,⟨ry,(4,5)⟩]
theorem xCZ:IsViol [0] badA xK0:=by
 refine ⟨[rx,ry],fun _=>[(4,5)],⟨?_,fun r=>?_⟩,fun r hr=>⟨xAW p45,fun t=>?_⟩,rfl⟩
 . exact List.pairwise_pair.2 (by decide +kernel)
 . simp only [badA,zB,List.not_mem_nil,or_false];constructor
   . rintro (rfl|rfl)
     . exact ⟨_,.inl rfl,rfl,p05⟩
     . exact ⟨_,.inr rfl,rfl,p49⟩
   . rintro ⟨f,rfl|rfl,rfl,_⟩
     . exact .inl rfl
     . exact .inr rfl
 . rw [xtV,xeB p45];simp only [zB,List.not_mem_nil,or_false] at hr;rcases hr with rfl|rfl
   . rw [xwF,xI2,xzX,Bool.eq_iff_iff,ze,zk,zk,zk];by_cases h1:(0:Int)<=t/\t<5<;>by_cases h2:(4:Int)<=t/\t<9<;>simp [h1,h2]<;>omega
   . rw [xCg,xI3,xzX,Bool.eq_iff_iff,ze,zk,zk,zk];by_cases h1:(0:Int)<=t/\t<5<;>by_cases h2:(4:Int)<=t/\t<9<;>simp [h1,h2]<;>omega
theorem xIZ:atL (xKB [0] badA kA) 4=[rx,ry]:=by decide +kernel
theorem xEp:xKK (atL (xKB [0] badA kA) 4) (rx,true):=by
 rw [xIZ];refine .inr ⟨rfl,by simp,fun y hy=>?_⟩
 simp only [zB,List.not_mem_nil,or_false] at hy;rcases hy with rfl|rfl
 . rw [xqC];omega
 . exact (by decide +kernel:cmpR rx ry<=0)
theorem xEH (t:Int):inL [(0,9)] t=inL (life [0] xKN kA) t:=by
 rw [xvE,xtV,xhU,xtV,xeB p09,xeB p05,xeB p59,Bool.eq_iff_iff,Bool.or_eq_true,zk,zk,zk];omega
theorem xGX {s:List UInt8} (hs:s.length<=8):Txt [⟨1,1,[]⟩,⟨2,0,s⟩]:=fun v hv=>by
 simp only [zB,List.not_mem_nil,or_false] at hv;rcases hv with rfl|rfl
 . exact ⟨⟨by decide +kernel,by decide +kernel,by simp [maxLen]⟩,by simp⟩
 . exact ⟨⟨(by decide +kernel:(Lit.int .i64 2).wf=true),(by decide +kernel:(Lit.int .i64 0).wf=true),by simp only [maxLen];omega⟩,by dsimp only;omega⟩
theorem xCP (p q:Per):FOk [⟨rx,p⟩,⟨ry,q⟩]:=by
 refine ⟨by simp,fun f hf=>?_,fun f hf=>?_⟩<;>simp only [zB,List.not_mem_nil,or_false] at hf<;>rcases hf with rfl|rfl
 . simp [rx]
 . simp [ry]
 . exact xGX (s:=[120]) (by simp)
 . exact xGX (s:=[121]) (by simp)
theorem xDA (p q:Per):TOk [0] [⟨rx,p⟩,⟨ry,q⟩]:=⟨by simp,by simp,(xCP p q).txt⟩
theorem xJX (p q:Per):Few [⟨rx,p⟩,⟨ry,q⟩]:=⟨by simp,(xCP p q).row⟩
theorem xJW (p q:Per):Bld [⟨rx,p⟩,⟨ry,q⟩]:=xFm (by simp) (fun f hf=>by
 simp only [zB,List.not_mem_nil,or_false] at hf;rcases hf with rfl|rfl
 . simp [rx]
 . simp [ry]) (xCP p q).tx (R20.few (by simp))
def xKF:List AV:=[.agg [.str [97],.int .i64 1,.bool false],.agg [.str [98],.int .i64 2,.bool false]]
theorem xJU:xcf [116] xKF ([(0:Int)].map encN) [] [] (xKN.map encF)=some true:=by
 obtain ⟨b,e,h⟩:=xts (xDA (0,5) (5,9)) [116] xKF [] [];rw [h.2 xEO] at e;exact e
theorem xJV:xcf [116] xKF ([(0:Int)].map encN) [] [] (badA.map encF)=some false:=by
 obtain ⟨b,e,h⟩:=xts (xDA (0,5) (4,9)) [116] xKF [] [];cases b with
 | true=>exact absurd (h.1 rfl) xF7
 | false=>exact e
theorem xKd:xeL [116] xKF ([(0:Int)].map encN) [] [] (badA.map encF)=some (xK0.map (xKt [116])):=by
 obtain ⟨V,e,h,_⟩:=xAI [116] xKF [] [] [0] badA (xDA (0,5) (4,9)) (xJW (0,5) (4,9)) (by simp [badA])
 rw [h.unique xCZ] at e;exact e
theorem xKb:xfb [116] xKF ([(0:Int)].map encN) [] [] (badA.map encF) (kA.map encV) 4=some (rx.map encV,true):=by
 obtain ⟨x,e,h⟩:=xES [116] xKF [] [] [0] (by simp) badA (xJX (0,5) (4,9)) (by simp [badA]) kA 4
 rw [h.unique xEp] at e;exact e
theorem xKc:xja [116] xKF ([(0:Int)].map encN) [] [] (xKN.map encF) (kA.map encV)=some ([((0,9):Per)].map encP):=by
 obtain ⟨A,e,h1,h2⟩:=xGh [116] xKF [] [] [0] (by simp) xKN (by simp [xKN]) kA
 rw [xe9 h1 (xAW p09) fun t=>by rw [h2,xEH]] at e
 exact e
theorem xzO:xiF=some true:=by
 have E10:xl2=some (rx.map encV,true):=xKb;have E11:xl3=some ([((0,9):Per)].map encP):=xKc;have E12:xl4=some (xK0.map (xKt [116])):=xKd;have E13:xl5=some true:=xJU;have E14:xl6=some false:=xJV;have E7:xjW=some 0:=by
  unfold xjW xjY;rw [E10];have:=xwI rx rx (by simp [rx,maxLen])
  rw [xqC] at this;exact this
 have E8:xjX=some true:=by
  unfold xjX;rw [E11];exact xFc [(0,9)] (by simp)
 unfold xiF xoB;simp only [xjR,xjS,xcj,xhg,xjT,xjU,xjV,xjY,E7,E8,E10,E11,E12,E13,E14,zj,zg,xab,xae,Bool.not_true,Bool.not_false,sUF];rfl
theorem xyu {α:Type} {K:List α} (d:α):K.Nodup↔∀ a,a<K.length->∀ b,b<a->K.getD a d≠K.getD b d:=by
 unfold List.Nodup;rw [zA];constructor
 . intro h a ha b hb;have:=h b a (by omega) ha hb
   simp only [z6,zd ha,zd (show b<K.length by omega),zg]
   exact fun e=>this e.symm
 . intro h i j hi hj q;have:=h j hj i q;simp only [z6,zd hj,zd hi,zg] at this;exact fun e=>this e.symm
theorem xr7 {key:List Int} {rows:List Row} {i:Nat} (h:i<rows.length):(xKp key rows).getD i []=pick rows[i] key:=by
 unfold xKp;rw [z6,List.getElem?_map,zd h];rfl
theorem xI5 (n:List UInt8) (p1 p3 p4:List AV) (key:List Int) (hk:key.length<=1048576) (rows:List Row) (i:Nat) (hi:i<rows.length) (hl:rows.length<=1048576) :
  ∃ r,Iter (xcl (rows.map encR) (i:Int)) ((0:Int),n,p1,key.map encN,p3,p4)=some r/\(r.1=true->r.2.1.1=true/\∃ j,j<i/\(xKp key rows).getD i []=(xKp key rows).getD j [])/\(r.1=false->r.2.2=(n,p1,key.map encN,p3,p4)/\∀ j,j<i->(xKp key rows).getD i []≠(xKp key rows).getD j []):=by
 have:=xbj (step:=xcl (rows.map encR) (i:Int)) (fun k s=>s=((k:Int),n,p1,key.map encN,p3,p4)/\∀ j,j<k->(xKp key rows).getD i []≠(xKp key rows).getD j []) i (fun r=>(r.1=true->r.2.1.1=true/\∃ j,j<i/\(xKp key rows).getD i []=(xKp key rows).getD j [])/\(r.1=false->r.2.2=(n,p1,key.map encN,p3,p4)/\∀ j,j<i->(xKp key rows).getD i []≠(xKp key rows).getD j [])) (fun k s q hs=>by
  obtain ⟨rfl,hs⟩:=hs;have h1:(k:Int)<(i:Int):=by omega
  have i1:(i:Int)<(rows.length:Int):=by omega
  have k1:(k:Int)<(rows.length:Int):=by omega
  have k2:k<rows.length:=by omega
  have gi:(rows.map encR).getD i .top=encR rows[i]:=xaa _ _ _ hi;have gk:(rows.map encR).getD k .top=encR rows[k]:=xaa _ _ _ k2;have e1:=xAO n p1 p3 p4 key rows[i] hk;have e2:=xAO n p1 p3 p4 key rows[k] hk;have e3:=xwI (pick rows[i] key) (pick rows[k] key) (by rw [xsi];simp only [maxLen];omega)
  simp only [xcl,xg6,xgr,sBU,h1,i1,k1,hi,k2,gi,gk,cR0,sR0,e1,e2,e3,cmp0,xKl (n:=k) (by omega)]
  refine Stp.br (fun hc=>Stp.inr ⟨fun _=>⟨rfl,k,q,?_⟩,fun h=>by simp at h⟩) (fun hc=>Stp.inl ⟨rfl,fun j hj=>?_⟩)
  . rw [xr7 hi,xr7 k2];exact of_decide_eq_true hc
  . rcases zI j k with J|O
    . exact hs j J
    . obtain rfl:j=k:=by omega
      rw [xr7 hi,xr7 k2];exact of_decide_eq_false hc) (fun s hs=>by
  obtain ⟨rfl,hs⟩:=hs;simp only [xcl,xg6,xgr,zx,zl,xae,sUF];exact Stp.inr ⟨fun h=>by simp at h,fun _=>⟨rfl,hs⟩⟩) i 0 _ (by omega) ⟨rfl,fun j h=>absurd h (Nat.not_lt_zero _)⟩
 exact this
theorem xw7 (n:List UInt8) (p1 p3 p4:List AV) (key:List Int) (hk:key.length<=1048576) (rows:List Row) (hl:rows.length<=1048576):xjt n p1 (key.map encN) p3 p4 (rows.map encR)=some (dbl key rows):=by
 obtain ⟨r,e,h1,h2⟩:=xbj (step:=xck (rows.map encR)) (fun k s=>s=((k:Int),n,p1,key.map encN,p3,p4)/\∀ a,a<k->∀ b,b<a->(xKp key rows).getD a []≠(xKp key rows).getD b []) rows.length (fun r=>(r.1=true->r.2.1=true/\¬ (xKp key rows).Nodup)/\(r.1=false->(xKp key rows).Nodup)) (fun k s q hs=>by
  obtain ⟨rfl,hs⟩:=hs;have k1:(k:Int)<(rows.length:Int):=by omega
  obtain ⟨r,e,a1,a2⟩:=xI5 n p1 p3 p4 key hk rows k q hl;simp only [xck,xg5,xgj,xgk,xgl,xgm,xgn,xgo,xgp,sBU,k1,e];refine Stp.br (fun hc=>Stp.inr ⟨fun _=>⟨(a1 hc).1,fun hn=>?_⟩,fun h=>by simp at h⟩) (fun hc=>?_)
  . obtain ⟨j,hj,he⟩:=(a1 hc).2;exact (xyu []).1 hn k (by unfold xKp;rw [z8];exact q) j hj he
  . obtain ⟨b1,b2⟩:=a2 hc;rw [b1];refine Stp.inl ⟨by rw [xKl (n:=k) (by omega)],fun a ha=>?_⟩
    rcases zI a k with J|O
    . exact hs a J
    . obtain rfl:a=k:=by omega
      exact b2) (fun s hs=>by
  obtain ⟨rfl,hs⟩:=hs;simp only [xck,xg5,xgj,xgk,xgl,xgm,xgn,xgo,xgp,z8,zx,zl,xae,sUF];refine Stp.inr ⟨fun h=>by simp at h,fun _=>(xyu []).2 fun a ha b hb=>hs a ?_ b hb⟩
  unfold xKp at ha;rwa [z8] at ha) rows.length 0 _ (by omega) ⟨rfl,fun j h=>absurd h (Nat.not_lt_zero _)⟩
 have e:Iter (xck (rows.map encR)) ((0:Int),n,p1,key.map encN,p3,p4)=some r:=e;unfold xjt xnc dbl;simp only [xl8,xl9,e,zj,zg,xab,sUF];obtain ⟨r1,r2,r3⟩:=r;cases r1 with
 | true =>
  obtain ⟨x1,x2⟩:=h1 rfl;dsimp only at x1;rw [x1,xab,decide_eq_true x2]
 | false=>rw [xae,decide_eq_false (Classical.not_not.2 (h2 rfl))]
theorem xHn (n:List UInt8) (p1 p3 p4:List AV) (key:List Int) (hk:key.length<=1048576) (l:List Fc) (hf:Few l) (q:Int) (P:List Int) (hP:P.length<=1048576) :
  Iter (xaV (l.map encF) q (P.map encN)) (true,(0:Int),n,p1,key.map encN,p3,p4)=some (P.all fun u=>!dbl key (atL l u),n,p1,key.map encN,p3,p4):=by
 have e:=xn6 P (fun g u=>g&&!dbl key (atL l u)) (step:=xaV (l.map encF) q (P.map encN)) (r:=(P.all fun u=>!dbl key (atL l u),n,p1,key.map encN,p3,p4)) (fun k g=>(g,(k:Int),n,p1,key.map encN,p3,p4)) (fun _ _=>True) (fun k h g _=>by
  have i1:(k:Int)<(P.length:Int):=by omega
  have gf:(P.map encN).getD k .top=encN P[k]:=xaa _ _ _ h;obtain ⟨r,re,rp,_⟩:=xEX l P[k] hf;have hd:=xw7 n p1 p3 p4 key hk r (by rw [rp.length_eq];exact Nat.le_trans (xtQ l P[k]) hf.1)
  rw [xzx rp] at hd;refine ⟨?_,trivial⟩;cases g<;>simp only [xaV,xda,sBU,h,i1,gf,cN,sN,re,hd,xKl (n:=k) (by omega),Bool.false_and]) P.length 0 true (by omega) trivial (by
  simp only [zq,xyb,Bool.true_and];simp only [xaV,xda,z8,zx,zl,xae,sUF])
 exact e
theorem xHo (n:List UInt8) (p1 k0 p3 p4 l:List AV) (q:Int) (g:Bool) (m:List UInt8) (V:List Fc) (hV:V.length<=1048576*1048576) :
  Iter (xaW l q g (V.map (xKt m))) (false,(0:Int),n,p1,k0,p3,p4)=some (V.any fun f=>hasP f.p q,n,p1,k0,p3,p4):=by
 have e:=xn6 V (fun c f=>c || hasP f.p q) (step:=xaW l q g (V.map (xKt m))) (r:=(V.any fun f=>hasP f.p q,n,p1,k0,p3,p4)) (fun k c=>(c,(k:Int),n,p1,k0,p3,p4)) (fun _ _=>True) (fun k h c _=>by
  have i1:(k:Int)<(V.length:Int):=by omega
  have gf:(V.map (xKt m)).getD k .top=xKt m V[k]:=xaa _ _ _ h;refine ⟨?_,trivial⟩;cases c<;>simp only [xaW,xdb,sBU,h,i1,gf,cVi4,cVi5,lVi,sVi4,toIv,xsj,xKl (n:=k) (by omega),Bool.false_or,Bool.true_or]) V.length 0 false (by omega) trivial (by
  simp only [zq,xz9,Bool.false_or];simp only [xaW,xdb,z8,zx,zl,xae,sUF])
 exact e
theorem xF4 {α:Type} (l:List α):(((l.length:Nat):Int)==0)=decide (l=[]):=by
 cases l with
 | nil=>simp
 | cons a l=>simp;omega
theorem xAo (t:Tab) (ht:t.Ok) (l:List Fc) (hf:FOk l) (q:Int):xhV t.n (t.cols.map xKj) (t.key.map encN) (t.fos.map xKk) t.chk (l.map encF) q=some true:=by
 obtain ⟨b,be,hb⟩:=xF3 t ht l hf;unfold xhV xgX;cases b with
 | false=>simp only [be,xzO,zj,zg,xab,Bool.not_false,sUF]
 | true =>
  have h:=hb rfl;have hk:=(h.tok ht hf).key;have J:=h.len;obtain ⟨b1,e1,h1⟩:=xts (h.tok ht hf) t.n (t.cols.map xKj) (t.fos.map xKk) t.chk;obtain ⟨V,e2,h2,l2⟩:=xAI t.n (t.cols.map xKj) (t.fos.map xKk) t.chk t.key l (h.tok ht hf) (h.bld hf) (by omega)
  have e3:=xDp l (by omega)
  have O:=xCh l;have e4:=xHn t.n (t.cols.map xKj) (t.fos.map xKk) t.chk t.key hk l h.few q (ptsF l) (by omega)
  have e5:=xHo t.n (t.cols.map xKj) (t.key.map encN) (t.fos.map xKk) t.chk (l.map encF) q ((ptsF l).all fun u=>!dbl t.key (atL l u)) t.n V l2
  obtain ⟨r,re,rp,_⟩:=xEX l q h.few;have e6:=xw7 t.n (t.cols.map xKj) (t.fos.map xKk) t.chk t.key hk r (by rw [rp.length_eq];have:=xtQ l q;omega)
  rw [xzx rp] at e6;have g1:((ptsF l).all fun u=>!dbl t.key (atL l u))=b1:=by
   rw [Bool.eq_iff_iff,h1,<-xBw,zH];exact forall_congr' fun u=>forall_congr' fun _=>by rw [Bool.not_eq_true']
  have g2:decide (V=[])=b1:=by rw [Bool.eq_iff_iff,h1,zk,h2.nil]
  have g3:(V.any fun f=>hasP f.p q)=dbl t.key (atL l q):=by
   rw [Bool.eq_iff_iff,xHi,<-h2.has,List.any_eq_true]
  rw [g1] at e4 e5;rw [g3] at e5;simp only [xfT,xfU,xfV,xfW,xfX,xfY,xfZ,xfx,xf0,xf1,xfl,xfm,xfn,xfo,xfp,xdj,xfq,xfr,xfs,xft,xfu,xfv,xfw,xfy,xfz,xfA,xfB,be,e1,e2,e3,e4,e5,re,e6,z8,xF4,g2,xzO,zj,zg,xab,xae,Bool.not_true,beq_self_eq_true,sUF]
end Go.Sim.M
end
noncomputable section
set_option maxRecDepth 10000
namespace Go.Sim
open Go.RowKit
theorem M.card_instants (t:M.Tab) (l:List M.Fc) (a:Int) (w0:t.wf) (w1:l.length<=maxLen/\∀ y,y∈l->y.wf) (_:I64 a) (hb:(AV.agg [.str t.n,.list 3 (t.cols.map M.xKj),.list 1 (t.key.map M.encN),.list 2 (t.fos.map M.xKk),.list 7 t.chk]).wt+(AV.list 3 (l.map M.encF)).wt+(AV.int .i64 a).wt<=1048576):M.xhV t.n (t.cols.map M.xKj) (t.key.map M.encN) (t.fos.map M.xKk) t.chk (l.map M.encF) a=some true :=
 M.xAo t (M.tl_wt t l w0 w1.2 hb).1 l (M.tl_wt t l w0 w1.2 hb).2 a
end Go.Sim
end
noncomputable section
set_option maxRecDepth 10000
namespace Go.Proofs.YtcekkkdjdfiipaaGreatDoor.uniqueInstants
open Go.ChangeShapes Go.WideShapes Go.ChangeAt Go.RowKit Go.Sim
theorem contract (H:Type) (enc:TypeId×Value->H) (W:World) (base:Nat) (args:Array Value) (ds gs:List (DataW H)) (before:List MemPlace)
  (hval:∀ (j:Nat) t v,Tryz.f5.params[j]?=some t->args[j]?=some v->Value.okWide Tryz.prog W .any base t v)
  (hW:DataW.Whole enc Tryz.prog Tryz.f5.params.toList Rows.uniqueInstantsSpec.vars false W args.toList ds gs before) (hL:laidMetH Tryz.prog Rows.uniqueInstantsUptoRow.laid W) (hsh:W.ShapedOpen Tryz.prog) (hbulk:Rows.uptoBulkAll (ds++gs)<=1048576) :
  Calls Tryz.prog 5 args W fun e W'=>∃ v,e=.returned v/\Rows.uniqueInstantsSpec.post enc Tryz.prog Tryz.f5 false true false false W args v W':=by
 have hW':=hW;obtain ⟨p,q,hA0,hV,rfl,hfz,hnd⟩:=hW;have hA:DataW.TrodAll enc Tryz.prog W 0 (fun _=>true) true Tryz.f5.params.toList args.toList ds p:=hA0
 have hAk:=hA;rw [Tryz.params5] at hA hval;obtain ⟨v0,vs0,d0,ds0,p0,q0,hargs,rfl,rfl,h0,r0⟩:=trodAll_cons hA;obtain ⟨v1,vs1,d1,ds1,p1,q1,rfl,rfl,rfl,h1,r1⟩:=trodAll_cons r0;obtain ⟨v2,vs2,d2,ds2,p2,q2,rfl,rfl,rfl,h2,r2⟩:=trodAll_cons r1;obtain ⟨rfl,rfl,rfl⟩:=trodAll_nil r2;obtain rfl:args=#[v0,v1,v2]:=by cases args;simp_all
 obtain ⟨rfl,rfl⟩:=trodVars_none hV;obtain ⟨a0,rr0,b0,w0⟩:=xGc (hval 0 27 v0 rfl rfl) h0;obtain ⟨a1,rr1,b1,w1⟩:=xC8 (hval 1 28 v1 rfl rfl) h1;obtain ⟨a2,rr2,b2,w2⟩:=xGa (hval 2 3 v2 rfl rfl) h2;clear hA0;have hbulk:((.agg [.str a0.n,.list 3 (a0.cols.map M.xKj),.list 1 (a0.key.map M.encN),.list 2 (a0.fos.map M.xKk),.list 7 a0.chk]):AV).wt+(.list 3 (a1.map M.encF):AV).wt+(.int .i64 a2:AV).wt<=1048576:=by
  rw [List.append_nil,xnP] at hbulk;simp only [List.map_cons,List.map_nil,List.sum_cons,List.sum_nil] at hbulk;have:=b0 _ xtp;have:=b1 _ xtp;have:=b2 _ xtp;omega
 have hI:xL2 W:=xJa rfl (by kernel_rfl) hL hsh
 have hpl:=M.card_instants a0 a1 a2 w0 w1 w2 hbulk;have hg:Sim.Good Tryz.prog xL2 5 [(.agg [.str a0.n,.list 3 (a0.cols.map M.xKj),.list 1 (a0.key.map M.encN),.list 2 (a0.fos.map M.xKk),.list 7 a0.chk]),.list 3 (a1.map M.encF),.int .i64 a2] (.bool true):=M.xrc _ _ (congrArg (fun x:Option Bool=>some (x.isSome,AV.bool (x.getD false))) hpl)
 have hrc:RC W (fun _=>False) xLz [v0,v1,v2] [(.agg [.str a0.n,.list 3 (a0.cols.map M.xKj),.list 1 (a0.key.map M.encN),.list 2 (a0.fos.map M.xKk),.list 7 a0.chk]),.list 3 (a1.map M.encF),.int .i64 a2]:=by
  refine ⟨rfl,fun i hi=>?_⟩
  match i,hi with
  | 0,_=>exact rr0
  | 1,_=>exact rr1
  | 2,_=>exact rr2
 refine (hg.2 W (fun _=>False) _ hI (fun _ h=>h.elim) hrc).mono fun e W' ⟨v,he,hb,hr⟩=>?_
 subst he;obtain rfl:=hr.bool_inv;exact ⟨_,rfl,xEU rfl hW' ⟨rfl,rfl,rfl⟩ rfl Tryz.underlying4 (by simpa using xsG xK6 hb (by kernel_rfl) hAk) hb⟩
noncomputable def wit:Array Value:=#[.agg #[.string ⟨#[]⟩,.slice none 0 0,.slice none 0 0,.slice none 0 0,.slice none 0 0],.slice none 0 0,.int .i64 0]
theorem laid_met (os:Os):laidMet Tryz.prog Rows.uniqueInstantsUptoRow.laid ((xKO Tryz.prog Rows.uniqueInstantsUptoRow.laid os).forCall (fun _ _=>0) ⟨#[],wit,[]⟩).memory :=
 laidMet_of_run3 8 (by kernel_rfl) (by kernel_rfl) (by kernel_rfl)
theorem reads (os:Os) {H:Type} (enc:TypeId×Value->H):∃ places,DataW.whole enc Tryz.prog ((xKO Tryz.prog Rows.uniqueInstantsUptoRow.laid os).forCall (fun _ _=>0) ⟨#[],wit,[]⟩).memory Tryz.f5.params.toList Rows.uniqueInstantsSpec.vars false wit.toList 8=some ([.agg [.lit (.string []),.nil,.nil,.nil,.nil],.nil,.lit (.int .i64 0)],[],places) :=
 ⟨[],by kernel_rfl⟩
set_option maxRecDepth 100000 in
theorem lifted (os:Os) (started:os.Started) (H:Type) (enc:TypeId×Value->H) (F:Stop.Interp) :
  ReturnsInHanded {} Tryz.checked os 5 .any ((Rows.OpenSpec.upto Rows.uniqueInstantsSpec).preRow enc Tryz.prog Tryz.f5 Rows.uniqueInstantsUptoRow.domain false Rows.uniqueInstantsUptoRow.laid) (((Rows.OpenSpec.upto Rows.uniqueInstantsSpec).at F).post enc Tryz.prog Tryz.f5 false true false false):=by
 obtain ⟨places,hx⟩:=reads os enc;refine returnsInHanded_of_row (C:=Tryz.checked) (s:=Rows.OpenSpec.upto Rows.uniqueInstantsSpec) xLa started (by kernel_rfl) Tryz.func5
  (witness_row_at (enc:=enc) (C:=Tryz.checked) false (xKO Tryz.prog Rows.uniqueInstantsUptoRow.laid os) wit rfl (by kernel_rfl) (by kernel_rfl) (by kernel_rfl)
   (OpenSpec.preRow_of_cond 8 hx (by kernel_rfl) (fun k hk=>by cases hk;kernel_rfl) (by kernel_rfl) (laid_met os))) ?_
 intro W base args ds gs before hval hW _ hcond _ hL hsh _;exact contract H enc W base args ds gs before hval hW hL hsh (of_decide_eq_true (hcond _ rfl))
theorem said:Rows.UniqueInstantsUptoSaid :=
 OpenClaim.holds_of_cond 5 Tryz.f5 rfl rfl rfl rfl rfl rfl rfl ⟨rfl,rfl,rfl,rfl,rfl⟩ rfl rfl rfl rfl rfl (by kernel_rfl) Tryz.func5 (by kernel_rfl)
  (of_decide_eq_true (by kernel_rfl)) (by unfold Func.isWrapper;first|(rw [if_pos (by decide +kernel)];kernel_rfl)|(rw [if_neg (by decide +kernel)];exact ⟨rfl,rfl⟩))
  (fun os started H enc _ F=>by rw [OpenClaim.pre_eq_preRow];exact lifted os started H enc F)
theorem plain (f:FuncId) (fn:Func) (hf:Tryz.pinned.checked.prog.funcNamed "bitemporal/bitemporallaw43.UniqueInstants" = some f) (hfn:Tryz.pinned.checked.prog.funcs[f]?=some fn) :
  false=Tryz.pinned.checked.prog.looks []/\∀ (j:Nat) t,fn.params[j]?=some t->Tryz.pinned.checked.prog.wantsStandIn t=false:=by
 obtain rfl:f=5:=Option.some.inj ((show Tryz.prog.funcNamed "bitemporal/bitemporallaw43.UniqueInstants" = some 5 by kernel_rfl).symm.trans hf) |>.symm
 obtain rfl:fn=Tryz.f5:=(Option.some.inj (Tryz.func5.symm.trans hfn)).symm;refine ⟨by kernel_rfl,fun j t ht=>?_⟩
 rw [Tryz.params5] at ht;have hm:=Array.mem_of_getElem? ht;have:([27,28,3]:List Nat).all (fun t=>!(Tryz.prog.wantsStandIn t))=true:=by kernel_rfl
 have:=List.all_eq_true.1 this t (by simpa using hm)
 show Tryz.prog.wantsStandIn t=false;simpa using this
theorem card:Rows.UniqueInstantsUptoCardSaid :=
 Claim7.holds_tied_plain_at .later [] _ _ _ _ said (fun _ h=>by cases h) (by kernel_rfl) (fun _ h=>by cases h) uniqueInstantsUpto_row_tie rfl ⟨rfl,rfl⟩ (by kernel_rfl) rfl plain (by kernel_rfl)
end Go.Proofs.YtcekkkdjdfiipaaGreatDoor.uniqueInstants
end
