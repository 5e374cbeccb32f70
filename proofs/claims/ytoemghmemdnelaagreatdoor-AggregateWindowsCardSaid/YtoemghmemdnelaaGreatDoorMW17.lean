/- Part 17 of the proof of the law. -/
import Derived.Test.YtoemghmemdnelaaGreatDoorMW16
import Derived.Lib.ItoaLen
set_option linter.unusedVariables false
set_option linter.unusedSimpArgs false
noncomputable section
set_option maxRecDepth 100000
namespace Go.Sim.M
open Go.RowKit Go.Sim.Srt
def rdD (l:List UInt8):Nat:=l.foldl (fun a c=>a*10+(c.toNat - 48)) 0
theorem xFP (u:Nat):∀ c,c∈Lib.decDigits u->48<=c.toNat/\c.toNat<=57:=by
 induction u using Nat.strongRecOn with
 | _ u ih =>
  intro c hc;rw [Lib.decDigits] at hc;split at hc
  . rw [zv] at hc;subst hc;rw [UInt8.toNat_ofNat'];omega
  . rw [zG,zv] at hc;rcases hc with hc|rfl
    . exact ih (u / 10) (by omega) c hc
    . rw [UInt8.toNat_ofNat'];omega
theorem xNa (u:Nat):rdD (Lib.decDigits u)=u:=by
 induction u using Nat.strongRecOn with
 | _ u ih =>
  rw [Lib.decDigits];split
  . simp only [rdD,List.foldl_cons,List.foldl_nil,UInt8.toNat_ofNat'];omega
  . have:=ih (u / 10) (by omega)
    unfold rdD at this |-;rw [List.foldl_append,this];simp only [List.foldl_cons,List.foldl_nil,UInt8.toNat_ofNat'];omega
theorem xJQ {u v:Nat} (h:Lib.decDigits u=Lib.decDigits v):u=v:=by rw [<-xNa u,h,xNa]
theorem xwq {a b:Int} (h:Lib.itoa a=Lib.itoa b):a=b:=by
 unfold Lib.itoa at h;have k:∀ u v:Nat,45::Lib.decDigits u≠Lib.decDigits v:=fun u v e=>by
  have:=xFP v 45 (by rw [<-e];simp)
  have t:(45:UInt8).toNat=45:=rfl;omega
 split at h<;>split at h
 . have:=xJQ (List.cons.inj h).2;omega
 . exact absurd h (k _ _)
 . exact absurd h.symm (k _ _)
 . have:=xJQ h;omega
theorem xzr (a:Int):(32:UInt8)∉Lib.itoa a:=by
 have k:∀ v:Nat,(32:UInt8)∉Lib.decDigits v:=fun v e=>by
  have:=xFP v 32 e;have t:(32:UInt8).toNat=32:=rfl;omega
 unfold Lib.itoa;split
 . rw [zC];rintro (h|h)
   . simp at h
   . exact k _ h
 . exact k _
theorem xEN:∀ {a b x y:List UInt8},(32:UInt8)∉a->(32:UInt8)∉b->a++32::x=b++32::y->a=b/\x=y
 | [],[],x,y,_,_,h=>⟨rfl,(List.cons.inj h).2⟩
 | [],c::b,x,y,_,hb,h=>absurd (List.cons.inj h).1 fun e=>hb (by rw [e];simp)
 | c::a,[],x,y,ha,_,h=>absurd (List.cons.inj h).1 fun e=>ha (by rw [<-e];simp)
 | c::a,d::b,x,y,ha,hb,h=>by
  obtain ⟨e1,h⟩:=List.cons.inj h;obtain ⟨e2,e3⟩:=xEN (a:=a) (b:=b) (fun e=>ha (by simp [e])) (fun e=>hb (by simp [e])) h
  exact ⟨by rw [e1,e2],e3⟩
def keyV (v:Val):List UInt8:=Lib.itoa v.k++32::(Lib.itoa v.i++32::(Lib.itoa (v.t.length:Int)++32::v.t))
def keyOf (r:Row):List UInt8:=r.flatMap keyV
theorem xEd (v:Val) (s:List UInt8):keyV v++s=Lib.itoa v.k++32::(Lib.itoa v.i++32::(Lib.itoa (v.t.length:Int)++32::(v.t++s))):=by simp [keyV]
theorem xrp (v:Val) (r:Row):keyOf (v::r)=keyV v++keyOf r:=by simp [keyOf]
theorem xDp (v:Val) (s:List UInt8):keyV v++s≠[]:=by rw [xEd];simp
theorem xFV:∀ {r r':Row},keyOf r=keyOf r'->r=r'
 | [],[],_=>rfl
 | [],v::r',h=>by rw [xrp] at h;exact absurd h.symm (xDp _ _)
 | v::r,[],h=>by rw [xrp] at h;exact absurd h (xDp _ _)
 | v::r,v'::r',h=>by
  rw [xrp,xrp,xEd,xEd] at h;obtain ⟨h1,h⟩:=xEN (xzr _) (xzr _) h;obtain ⟨h2,h⟩:=xEN (xzr _) (xzr _) h;obtain ⟨h3,h⟩:=xEN (xzr _) (xzr _) h;have h3:=xwq h3;obtain ⟨h4,h⟩:=List.append_inj h (by omega)
  obtain rfl:=xFV h;have:v=v':=by
   obtain ⟨k,i,t⟩:=v;obtain ⟨k',i',t'⟩:=v';obtain rfl:=xwq h1;obtain rfl:=xwq h2;subst h4;rfl
  rw [this]
theorem xSt {n:Int} (h:(Lit.int .i64 n).wf=true):-9223372036854775808<=n/\n<=9223372036854775807:=by
 have h:(decide ((IntKind.i64).min<=n)&&decide (n<=(IntKind.i64).max))=true:=h;rw [zf,zl,zl] at h;exact h
theorem xHX {v:Val} (hw:v.wf) (ht:v.t.length<=1099511627776):(keyV v).length<=66+v.t.length:=by
 obtain ⟨w1,w2,_⟩:=hw;have a1:=Lib.itoa_length_le v.k (xSt w1).1 (xSt w1).2;have a2:=Lib.itoa_length_le v.i (xSt w2).1 (xSt w2).2;have a3:=Lib.itoa_length_le (v.t.length:Int) (by omega) (by omega)
 simp only [keyV,z8,zF];omega
theorem xjA (s B:List UInt8) (h:(B++s).length<=140737488355328):xaQ s B.length (byteAVs B)=some ((s.length:Int),(B++s).length,byteAVs (B++s)):=by
 rw [z8] at h;have h2:B.length+s.length<=4611686018427387904:=by omega
 unfold xaQ xfi;simp only [xeb,beq_self_eq_true,Nat.mul_one,h,h2,zn,Bool.and_self,xaj,xwf,z8,sUF]
theorem xCc (B:List UInt8) (h:(B++[32]).length<=140737488355328):xbq 32 B.length (byteAVs B)=some ((B++[32]).length,byteAVs (B++[32])):=by
 rw [z8,zj] at h;have h2:B.length+1<=4611686018427387904:=by omega
 unfold xbq xdI;simp only [xeb,beq_self_eq_true,Nat.mul_one,h,h2,zn,Bool.and_self,xaj,xwf,z8,zj,sUF];rfl
def numI (n:Int):List UInt8:=Lib.itoa n++[32]
theorem xKW (t8:List AV) (t9 q:Int) (xs:List AV) (hx:xs.length=3) (j:Nat) (hj:j<3) (n:Int) (hn:xs.getD j .top=.int .i64 n) (h1:-9223372036854775808<=n) (h2:n<=9223372036854775807) (v0 v1:Int) (v2 B:List UInt8) (hB:B.length<=70368744177664) :
  xbO t8 t9 q 3 3 ((j:Int),B.length,v0,v1,v2,xs,byteAVs B)=some (.inl (((j+1:Nat):Int),(B++numI n).length,v0,v1,v2,xs,byteAVs (B++numI n))):=by
 have hl:=Lib.itoa_length_le n h1 h2;have i1:(j:Int)<3:=by omega
 have i2:(j:Int)<((3:Nat):Int):=by omega
 have i3:j<xs.length:=by omega
 have e1:=xjA (Lib.itoa n) B (by rw [z8];omega)
 have e2:=xCc (B++Lib.itoa n) (by rw [z8,z8,zj];omega)
 have hc:((AV.int IntKind.i64 n).cells.getD 0 .top).toInt=n:=rfl;have hs:xTm (Sh.int IntKind.i64) ((AV.int IntKind.i64 n).cells.getD 0 .top)=true:=rfl;simp only [xbO,xmm,xqr,xqs,xqt,xhk,sBU,i1,i2,i3,hn,hc,hs,h1,h2,e1,e2,xSj (n:=j) (by omega),numI,zw]
theorem xPK (t8:List AV) (t9 q:Int) (xs:List AV) (v0 v1:Int) (v2 B:List UInt8):xbO t8 t9 q 3 3 (((3:Nat):Int),B.length,v0,v1,v2,xs,byteAVs B)=some (.inr (B.length,v0,v1,v2,byteAVs B)):=by
 have i1:¬ ((3:Nat):Int)<3:=by omega
 simp only [xbO,xmm,i1,zm,xag,sUF]
theorem xwr (v:Val):keyV v=numI v.k++(numI v.i++(numI (v.t.length:Int)++v.t)):=by simp [keyV,numI]
def KOk (v:Val):Prop:=v.wf/\v.t.length<=1099511627776
theorem KOk.len {v:Val} (h:KOk v):(keyV v).length<=1099511627842:=by have:=xHX h.1 h.2;have:=h.2;omega
theorem xJ0 (t8:List AV) (t9 q:Int) (v:Val) (h:KOk v) (B:List UInt8) (hB:B.length<=35184372088832) :
  Iter (xbO t8 t9 q 3 3) ((1:Int),(B++numI v.k).length,v.k,v.i,v.t,[AV.int .i64 v.k,AV.int .i64 v.i,AV.int .i64 (v.t.length:Int)],byteAVs (B++numI v.k))=some ((B++numI v.k++numI v.i++numI (v.t.length:Int)).length,v.k,v.i,v.t,byteAVs (B++numI v.k++numI v.i++numI (v.t.length:Int))):=by
 have hl:=h.len;have ht:=h.2;rw [xwr,z8,z8,z8] at hl;have e1:=xKW t8 t9 q [AV.int .i64 v.k,AV.int .i64 v.i,AV.int .i64 (v.t.length:Int)] rfl 1 (by omega) v.i rfl (xSt h.1.2.1).1 (xSt h.1.2.1).2 v.k v.i v.t (B++numI v.k) (by rw [z8];omega)
 have e2:=xKW t8 t9 q [AV.int .i64 v.k,AV.int .i64 v.i,AV.int .i64 (v.t.length:Int)] rfl 2 (by omega) (v.t.length:Int) rfl (by omega) (by omega) v.k v.i v.t (B++numI v.k++numI v.i) (by rw [z8,z8];omega)
 exact (xaM e1).trans ((xaM e2).trans (xam (xPK ..)))
theorem xRf (t8:List AV) (t9 q:Int) (v:Val) (h:KOk v) (B:List UInt8) (hB:B.length<=35184372088832) :
  Iter (xbO t8 t9 q 3 3) ((0:Int),B.length,v.k,v.i,v.t,[AV.int .i64 v.k,AV.int .i64 v.i,AV.int .i64 (v.t.length:Int)],byteAVs B)=some ((B++numI v.k++numI v.i++numI (v.t.length:Int)).length,v.k,v.i,v.t,byteAVs (B++numI v.k++numI v.i++numI (v.t.length:Int))):=by
 have e0:=xKW t8 t9 q [AV.int .i64 v.k,AV.int .i64 v.i,AV.int .i64 (v.t.length:Int)] rfl 0 (by omega) v.k rfl (xSt h.1.1).1 (xSt h.1.1).2 v.k v.i v.t B (by omega)
 exact (xaM e0).trans (xJ0 t8 t9 q v h B hB)
theorem xML (r:Row) (hr:r.length<=1048576) (h:∀ v,v∈r->KOk v) (hk:(keyOf r).length<=17592186044416):∀ d k:Nat,k+d=r.length->Iter (xec (r.map encV) ((r.length:Nat):Int)) ((k:Int),(keyOf (r.take k)).length,byteAVs (keyOf (r.take k)))=some ((keyOf r).length,byteAVs (keyOf r))
 | 0,k,hkk=>by
  obtain rfl:k=r.length:=by omega
  rw [y4];refine xam ?_;simp only [xec,xml,zy,zm,xag,sUF]
 | d+1,k,hkk=>by
  have q:k<r.length:=by omega
  have hv:=h r[k] (zo q);have i1:(k:Int)<(r.length:Int):=by omega
  have gf:(r.map encV).getD k .top=encV r[k]:=xad _ _ _ q;have tk:keyOf (r.take (k+1))=keyOf (r.take k)++keyV r[k]:=by
   unfold keyOf;rw [List.take_add_one,ze q,List.flatMap_append];simp
  have le:(keyOf (r.take (k+1))).length<=(keyOf r).length:=by
   conv=>rhs;rw [<-List.take_append_drop (k+1) r]
   unfold keyOf;rw [List.flatMap_append,z8];omega
  have hl:=hv.len;rw [tk,z8] at le;have e1:=xRf (r.map encV) (r.length:Int) (k:Int) r[k] hv (keyOf (r.take k)) (by omega)
  have kn:keyOf (r.take k)++keyV r[k]=keyOf (r.take k)++numI r[k].k++numI r[k].i++numI (r[k].t.length:Int)++r[k].t:=by rw [xwr];simp only [zw]
  have e2:=xjA r[k].t (keyOf (r.take k)++numI r[k].k++numI r[k].i++numI (r[k].t.length:Int)) (by rw [<-kn,z8];omega)
  rw [xaM (s':=(((k+1:Nat):Int),(keyOf (r.take (k+1))).length,byteAVs (keyOf (r.take (k+1))))) ?_]
  . exact xML r hr h hk d (k+1) (by omega)
  . rw [tk,kn];simp only [xec,xml,xqm,xqn,xqo,xqp,xqq,sBU,q,i1,gf,cV0,cV1,cV2,lV,sV,e1,e2,xSj (n:=k) (by omega)]
theorem xRg (r:Row) (hr:r.length<=1048576) (h:∀ v,v∈r->KOk v) (hk:(keyOf r).length<=17592186044416):xql (r.map encV)=some (keyOf r):=by
 match r with
 | []=>rfl
 | v::t =>
  have hv:=h v (by simp)
  have hl:=hv.len;have i1:(0:Int)<((t.length+1:Nat):Int):=by omega
  have i2:0<t.length+1:=by omega
  obtain ⟨r1,r2⟩:=xSt hv.1.1;have q:=Lib.itoa_length_le v.k r1 r2;have gf:((v::t).map encV).getD 0 .top=encV v:=rfl;have e0:xaN (Lib.itoa v.k)=some (((Lib.itoa v.k).length:Int),(Lib.itoa v.k).length,byteAVs (Lib.itoa v.k)):=by
   have m1:(Lib.itoa v.k).length<=140737488355328:=by omega
   have m2:(Lib.itoa v.k).length<=4611686018427387904:=by omega
   unfold xaN xb7;simp only [xeb,Nat.mul_one,m1,m2,zn,Bool.and_self,xaj,sUF]
  have e1:xbW 32 (Lib.itoa v.k).length (byteAVs (Lib.itoa v.k))=some (([]++numI v.k).length,byteAVs ([]++numI v.k)):=xCc (Lib.itoa v.k) (by rw [z8,zj];omega)
  have e2:=xJ0 ((v::t).map encV) ((t.length+1:Nat):Int) 0 v hv [] (by simp)
  have kn:keyV v=[]++numI v.k++numI v.i++numI (v.t.length:Int)++v.t:=by rw [xwr];simp
  have e3:=xjA v.t ([]++numI v.k++numI v.i++numI (v.t.length:Int)) (by rw [<-kn];omega)
  rw [<-kn] at e3;have e4:=xML (v::t) hr h hk t.length 1 (by rw [zF];omega)
  have tk:keyOf ((v::t).take 1)=keyV v:=by simp [keyOf]
  rw [tk,zF] at e4;have e4:Iter (xec ((v::t).map encV) ((t.length+1:Nat):Int)) ((1:Int),(keyV v).length,byteAVs (keyV v))=_:=e4;have hne:(keyOf (v::t)).length≠0:=fun e=>xDp v (keyOf t) (by rw [<-xrp];exact List.length_eq_zero_iff.1 e)
  unfold xql xwl xkK xun xuo xup xuq xur xus xut xuu xuv xdU;simp only [za,zF,i1,i2,gf,cV0,cV1,cV2,lV,sV,r1,r2,e0,e1,e2,e3,e4,zn,xaj,Bool.and_self,beq_self_eq_true,zk,zh,xeb,xuC,xyZ,ne_eq,hne,not_false_eq_true,sUF]
theorem xHt (t8:List AV) (t9 q:Int) (xs:List AV) (hx:xs.length=3) (j:Nat) (hj:j<3) (n:Int) (hn:xs.getD j .top=.int .i64 n) (h1:-9223372036854775808<=n) (h2:n<=9223372036854775807) (v0 v1:Int) (v2 B:List UInt8) (hB:B.length<=70368744177664) :
  xbB t8 t9 q 3 3 ((j:Int),B.length,v0,v1,v2,xs,byteAVs B)=some (.inl (((j+1:Nat):Int),(B++numI n).length,v0,v1,v2,xs,byteAVs (B++numI n))):=by
 have hl:=Lib.itoa_length_le n h1 h2;have i1:(j:Int)<3:=by omega
 have i2:(j:Int)<((3:Nat):Int):=by omega
 have i3:j<xs.length:=by omega
 have e1:=xjA (Lib.itoa n) B (by rw [z8];omega)
 have e2:=xCc (B++Lib.itoa n) (by rw [z8,z8,zj];omega)
 have hc:((AV.int IntKind.i64 n).cells.getD 0 .top).toInt=n:=rfl;have hs:xTm (Sh.int IntKind.i64) ((AV.int IntKind.i64 n).cells.getD 0 .top)=true:=rfl;simp only [xbB,xkF,xo2,xo3,xo4,xgt,sBU,i1,i2,i3,hn,hc,hs,h1,h2,e1,e2,xSj (n:=j) (by omega),numI,zw]
theorem xNI (t8:List AV) (t9 q:Int) (xs:List AV) (v0 v1:Int) (v2 B:List UInt8):xbB t8 t9 q 3 3 (((3:Nat):Int),B.length,v0,v1,v2,xs,byteAVs B)=some (.inr (B.length,v0,v1,v2,byteAVs B)):=by
 have i1:¬ ((3:Nat):Int)<3:=by omega
 simp only [xbB,xkF,i1,zm,xag,sUF]
theorem xHs (t8:List AV) (t9 q:Int) (v:Val) (h:KOk v) (B:List UInt8) (hB:B.length<=35184372088832) :
  Iter (xbB t8 t9 q 3 3) ((1:Int),(B++numI v.k).length,v.k,v.i,v.t,[AV.int .i64 v.k,AV.int .i64 v.i,AV.int .i64 (v.t.length:Int)],byteAVs (B++numI v.k))=some ((B++numI v.k++numI v.i++numI (v.t.length:Int)).length,v.k,v.i,v.t,byteAVs (B++numI v.k++numI v.i++numI (v.t.length:Int))):=by
 have hl:=h.len;have ht:=h.2;rw [xwr,z8,z8,z8] at hl;have e1:=xHt t8 t9 q [AV.int .i64 v.k,AV.int .i64 v.i,AV.int .i64 (v.t.length:Int)] rfl 1 (by omega) v.i rfl (xSt h.1.2.1).1 (xSt h.1.2.1).2 v.k v.i v.t (B++numI v.k) (by rw [z8];omega)
 have e2:=xHt t8 t9 q [AV.int .i64 v.k,AV.int .i64 v.i,AV.int .i64 (v.t.length:Int)] rfl 2 (by omega) (v.t.length:Int) rfl (by omega) (by omega) v.k v.i v.t (B++numI v.k++numI v.i) (by rw [z8,z8];omega)
 exact (xaM e1).trans ((xaM e2).trans (xam (xNI ..)))
theorem xPl (t8:List AV) (t9 q:Int) (v:Val) (h:KOk v) (B:List UInt8) (hB:B.length<=35184372088832) :
  Iter (xbB t8 t9 q 3 3) ((0:Int),B.length,v.k,v.i,v.t,[AV.int .i64 v.k,AV.int .i64 v.i,AV.int .i64 (v.t.length:Int)],byteAVs B)=some ((B++numI v.k++numI v.i++numI (v.t.length:Int)).length,v.k,v.i,v.t,byteAVs (B++numI v.k++numI v.i++numI (v.t.length:Int))):=by
 have e0:=xHt t8 t9 q [AV.int .i64 v.k,AV.int .i64 v.i,AV.int .i64 (v.t.length:Int)] rfl 0 (by omega) v.k rfl (xSt h.1.1).1 (xSt h.1.1).2 v.k v.i v.t B (by omega)
 exact (xaM e0).trans (xHs t8 t9 q v h B hB)
theorem xJH (r:Row) (hr:r.length<=1048576) (h:∀ v,v∈r->KOk v) (hk:(keyOf r).length<=17592186044416):∀ d k:Nat,k+d=r.length->Iter (xdK (r.map encV) ((r.length:Nat):Int)) ((k:Int),(keyOf (r.take k)).length,byteAVs (keyOf (r.take k)))=some ((keyOf r).length,byteAVs (keyOf r))
 | 0,k,hkk=>by
  obtain rfl:k=r.length:=by omega
  rw [y4];refine xam ?_;simp only [xdK,xkE,zy,zm,xag,sUF]
 | d+1,k,hkk=>by
  have q:k<r.length:=by omega
  have hv:=h r[k] (zo q);have i1:(k:Int)<(r.length:Int):=by omega
  have gf:(r.map encV).getD k .top=encV r[k]:=xad _ _ _ q;have tk:keyOf (r.take (k+1))=keyOf (r.take k)++keyV r[k]:=by
   unfold keyOf;rw [List.take_add_one,ze q,List.flatMap_append];simp
  have le:(keyOf (r.take (k+1))).length<=(keyOf r).length:=by
   conv=>rhs;rw [<-List.take_append_drop (k+1) r]
   unfold keyOf;rw [List.flatMap_append,z8];omega
  have hl:=hv.len;rw [tk,z8] at le;have e1:=xPl (r.map encV) (r.length:Int) (k:Int) r[k] hv (keyOf (r.take k)) (by omega)
  have kn:keyOf (r.take k)++keyV r[k]=keyOf (r.take k)++numI r[k].k++numI r[k].i++numI (r[k].t.length:Int)++r[k].t:=by rw [xwr];simp only [zw]
  have e2:=xjA r[k].t (keyOf (r.take k)++numI r[k].k++numI r[k].i++numI (r[k].t.length:Int)) (by rw [<-kn,z8];omega)
  rw [xaM (s':=(((k+1:Nat):Int),(keyOf (r.take (k+1))).length,byteAVs (keyOf (r.take (k+1))))) ?_]
  . exact xJH r hr h hk d (k+1) (by omega)
  . rw [tk,kn];simp only [xdK,xkE,xoY,xoZ,xox,xo0,xo1,sBU,q,i1,gf,cV0,cV1,cV2,lV,sV,e1,e2,xSj (n:=k) (by omega)]
theorem xPm (r:Row) (hr:r.length<=1048576) (h:∀ v,v∈r->KOk v) (hk:(keyOf r).length<=17592186044416):xsN (r.map encV)=some (keyOf r):=by
 match r with
 | []=>rfl
 | v::t =>
  have hv:=h v (by simp)
  have hl:=hv.len;have i1:(0:Int)<((t.length+1:Nat):Int):=by omega
  have i2:0<t.length+1:=by omega
  obtain ⟨r1,r2⟩:=xSt hv.1.1;have q:=Lib.itoa_length_le v.k r1 r2;have gf:((v::t).map encV).getD 0 .top=encV v:=rfl;have e0:xaN (Lib.itoa v.k)=some (((Lib.itoa v.k).length:Int),(Lib.itoa v.k).length,byteAVs (Lib.itoa v.k)):=by
   have m1:(Lib.itoa v.k).length<=140737488355328:=by omega
   have m2:(Lib.itoa v.k).length<=4611686018427387904:=by omega
   unfold xaN xb7;simp only [xeb,Nat.mul_one,m1,m2,zn,Bool.and_self,xaj,sUF]
  have e1:xbW 32 (Lib.itoa v.k).length (byteAVs (Lib.itoa v.k))=some (([]++numI v.k).length,byteAVs ([]++numI v.k)):=xCc (Lib.itoa v.k) (by rw [z8,zj];omega)
  have e2:=xHs ((v::t).map encV) ((t.length+1:Nat):Int) 0 v hv [] (by simp)
  have kn:keyV v=[]++numI v.k++numI v.i++numI (v.t.length:Int)++v.t:=by rw [xwr];simp
  have e3:=xjA v.t ([]++numI v.k++numI v.i++numI (v.t.length:Int)) (by rw [<-kn];omega)
  rw [<-kn] at e3;have e4:=xJH (v::t) hr h hk t.length 1 (by rw [zF];omega)
  have tk:keyOf ((v::t).take 1)=keyV v:=by simp [keyOf]
  rw [tk,zF] at e4;have e4:Iter (xdK ((v::t).map encV) ((t.length+1:Nat):Int)) ((1:Int),(keyV v).length,byteAVs (keyV v))=_:=e4;have hne:(keyOf (v::t)).length≠0:=fun e=>xDp v (keyOf t) (by rw [<-xrp];exact List.length_eq_zero_iff.1 e)
  unfold xsN xuh xjE xs8 xs9 xta xtb xtc xtd xte xtf xtg xdk;simp only [za,zF,i1,i2,gf,cV0,cV1,cV2,lV,sV,r1,r2,e0,e1,e2,e3,e4,zn,xaj,Bool.and_self,beq_self_eq_true,zk,zh,xeb,xuC,xyZ,ne_eq,hne,not_false_eq_true,sUF]
theorem xzq (a:Int):(58:UInt8)∉Lib.itoa a:=by
 have k:∀ v:Nat,(58:UInt8)∉Lib.decDigits v:=fun v e=>by
  have:=xFP v 58 e;have t:(58:UInt8).toNat=58:=rfl;omega
 unfold Lib.itoa;split
 . rw [zC];rintro (h|h)
   . simp at h
   . exact k _ h
 . exact k _
theorem xEM:∀ {a b x y:List UInt8},(58:UInt8)∉a->(58:UInt8)∉b->a++58::x=b++58::y->a=b/\x=y
 | [],[],x,y,_,_,h=>⟨rfl,(List.cons.inj h).2⟩
 | [],c::b,x,y,_,hb,h=>absurd (List.cons.inj h).1 fun e=>hb (by rw [e];simp)
 | c::a,[],x,y,ha,_,h=>absurd (List.cons.inj h).1 fun e=>ha (by rw [<-e];simp)
 | c::a,d::b,x,y,ha,hb,h=>by
  obtain ⟨e1,h⟩:=List.cons.inj h;obtain ⟨e2,e3⟩:=xEM (a:=a) (b:=b) (fun e=>ha (by simp [e])) (fun e=>hb (by simp [e])) h
  exact ⟨by rw [e1,e2],e3⟩
def keyC (v:Val):List UInt8:=Lib.itoa v.k++58::(Lib.itoa v.i++58::(Lib.itoa (v.t.length:Int)++58::v.t))
def xUb (r:Row):List UInt8:=r.flatMap keyC
theorem xEb (v:Val) (s:List UInt8):keyC v++s=Lib.itoa v.k++58::(Lib.itoa v.i++58::(Lib.itoa (v.t.length:Int)++58::(v.t++s))):=by simp [keyC]
theorem xuD (v:Val) (r:Row):xUb (v::r)=keyC v++xUb r:=by simp [xUb]
theorem xFU (v:Val) (s:List UInt8):keyC v++s≠[]:=by rw [xEb];simp
theorem xHY:∀ {r r':Row},xUb r=xUb r'->r=r'
 | [],[],_=>rfl
 | [],v::r',h=>by rw [xuD] at h;exact absurd h.symm (xFU _ _)
 | v::r,[],h=>by rw [xuD] at h;exact absurd h (xFU _ _)
 | v::r,v'::r',h=>by
  rw [xuD,xuD,xEb,xEb] at h;obtain ⟨h1,h⟩:=xEM (xzq _) (xzq _) h;obtain ⟨h2,h⟩:=xEM (xzq _) (xzq _) h;obtain ⟨h3,h⟩:=xEM (xzq _) (xzq _) h;have h3:=xwq h3;obtain ⟨h4,h⟩:=List.append_inj h (by omega)
  obtain rfl:=xHY h;have:v=v':=by
   obtain ⟨k,i,t⟩:=v;obtain ⟨k',i',t'⟩:=v';obtain rfl:=xwq h1;obtain rfl:=xwq h2;subst h4;rfl
  rw [this]
theorem xHW {v:Val} (hw:v.wf) (ht:v.t.length<=1099511627776):(keyC v).length<=66+v.t.length:=by
 obtain ⟨w1,w2,_⟩:=hw;have a1:=Lib.itoa_length_le v.k (xSt w1).1 (xSt w1).2;have a2:=Lib.itoa_length_le v.i (xSt w2).1 (xSt w2).2;have a3:=Lib.itoa_length_le (v.t.length:Int) (by omega) (by omega)
 simp only [keyC,z8,zF];omega
theorem wb58 (B:List UInt8) (h:(B++[58]).length<=140737488355328):xbq 58 B.length (byteAVs B)=some ((B++[58]).length,byteAVs (B++[58])):=by
 rw [z8,zj] at h;have h2:B.length+1<=4611686018427387904:=by omega
 unfold xbq xdI;simp only [xeb,beq_self_eq_true,Nat.mul_one,h,h2,zn,Bool.and_self,xaj,xwf,z8,zj,sUF];rfl
def numC (n:Int):List UInt8:=Lib.itoa n++[58]
theorem xEc (v:Val):keyC v=numC v.k++(numC v.i++(numC (v.t.length:Int)++v.t)):=by simp [keyC,numC]
theorem KOk.lenC {v:Val} (h:KOk v):(keyC v).length<=1099511627842:=by have:=xHW h.1 h.2;have:=h.2;omega
theorem xJ1 (r:Row) (hr:r.length<=1048576) (h:∀ v,v∈r->KOk v) (hk:(xUb r).length<=17592186044416):∀ d k:Nat,k+d=r.length->Iter (xeF (r.map encV) ((r.length:Nat):Int)) ((k:Int),(xUb (r.take k)).length,byteAVs (xUb (r.take k)))=some ((xUb r).length,byteAVs (xUb r))
 | 0,k,hkk=>by
  obtain rfl:k=r.length:=by omega
  rw [y4];refine xam ?_;simp only [xeF,xmO,zy,zm,xag,sUF]
 | d+1,k,hkk=>by
  have q:k<r.length:=by omega
  have hv:=h r[k] (zo q);have i1:(k:Int)<(r.length:Int):=by omega
  have gf:(r.map encV).getD k .top=encV r[k]:=xad _ _ _ q;have tk:xUb (r.take (k+1))=xUb (r.take k)++keyC r[k]:=by
   unfold xUb;rw [List.take_add_one,ze q,List.flatMap_append];simp
  have le:(xUb (r.take (k+1))).length<=(xUb r).length:=by
   conv=>rhs;rw [<-List.take_append_drop (k+1) r]
   unfold xUb;rw [List.flatMap_append,z8];omega
  have hl:=hv.lenC;rw [tk,z8] at le;rw [xaM (s':=(((k+1:Nat):Int),(xUb (r.take (k+1))).length,byteAVs (xUb (r.take (k+1))))) ?_]
  . exact xJ1 r hr h hk d (k+1) (by omega)
  . rw [tk];generalize xUb (r.take k)=B at le |-;obtain ⟨r1,r2⟩:=xSt hv.1.1;obtain ⟨r3,r4⟩:=xSt hv.1.2.1;have r5:(r[k].t.length:Int)<=9223372036854775807:=by have:=hv.2;omega
    generalize r[k]=v at *;rw [xEc] at hl |-;simp only [numC,z8,zj] at hl;have e1:=xjA (Lib.itoa v.k) B (by simp only [z8];omega)
    have e2:=wb58 (B++Lib.itoa v.k) (by simp only [z8,zj];omega)
    have e3:xlS _ _ _=_:=xjA (Lib.itoa v.i) (B++Lib.itoa v.k++[58]) (by simp only [z8,zj];omega)
    have e4:xnZ 58 _ _=_:=wb58 (B++Lib.itoa v.k++[58]++Lib.itoa v.i) (by simp only [z8,zj];omega)
    have e5:xlU _ _ _=_:=xjA (Lib.itoa (v.t.length:Int)) (B++Lib.itoa v.k++[58]++Lib.itoa v.i++[58]) (by simp only [z8,zj];omega)
    have e6:xn0 58 _ _=_:=wb58 (B++Lib.itoa v.k++[58]++Lib.itoa v.i++[58]++Lib.itoa (v.t.length:Int)) (by simp only [z8,zj];omega)
    have e7:xlW _ _ _=_:=xjA v.t (B++Lib.itoa v.k++[58]++Lib.itoa v.i++[58]++Lib.itoa (v.t.length:Int)++[58]) (by simp only [z8,zj];omega)
    have kn:B++(numC v.k++(numC v.i++(numC (v.t.length:Int)++v.t)))=B++Lib.itoa v.k++[58]++Lib.itoa v.i++[58]++Lib.itoa (v.t.length:Int)++[58]++v.t:=by simp only [numC,zw]
    rw [kn];simp only [xeF,xmO,xq2,xq3,xq4,xq5,xq6,xq7,xq8,xq9,xra,xrb,xpz,xpA,xpB,sBU,q,i1,gf,cV0,cV1,cV2,lV,sV,r1,r2,r3,r4,r5,e1,e2,e3,e4,e5,e6,e7,xSj (n:=k) (by omega)]
theorem xPL (r:Row) (hr:r.length<=1048576) (h:∀ v,v∈r->KOk v) (hk:(xUb r).length<=17592186044416):xvA (r.map encV)=some (xUb r):=by
 match r with
 | []=>rfl
 | v::t =>
  have hv:=h v (by simp)
  have hl:=hv.lenC;have i1:(0:Int)<((t.length+1:Nat):Int):=by omega
  have i2:0<t.length+1:=by omega
  obtain ⟨r1,r2⟩:=xSt hv.1.1;obtain ⟨r3,r4⟩:=xSt hv.1.2.1;have r5:(v.t.length:Int)<=9223372036854775807:=by have:=hv.2;omega
  have q:=Lib.itoa_length_le v.k r1 r2;have gf:((v::t).map encV).getD 0 .top=encV v:=rfl;have e0:xaN (Lib.itoa v.k)=some (((Lib.itoa v.k).length:Int),(Lib.itoa v.k).length,byteAVs (Lib.itoa v.k)):=by
   have m1:(Lib.itoa v.k).length<=140737488355328:=by omega
   have m2:(Lib.itoa v.k).length<=4611686018427387904:=by omega
   unfold xaN xb7;simp only [xeb,Nat.mul_one,m1,m2,zn,Bool.and_self,xaj,sUF]
  rw [xEc] at hl;simp only [numC,z8,zj] at hl;have e2:xbW 58 _ _=_:=wb58 (Lib.itoa v.k) (by simp only [z8,zj];omega)
  have e3:xlR _ _ _=_:=xjA (Lib.itoa v.i) (Lib.itoa v.k++[58]) (by simp only [z8,zj];omega)
  have e4:xnY 58 _ _=_:=wb58 (Lib.itoa v.k++[58]++Lib.itoa v.i) (by simp only [z8,zj];omega)
  have e5:xlT _ _ _=_:=xjA (Lib.itoa (v.t.length:Int)) (Lib.itoa v.k++[58]++Lib.itoa v.i++[58]) (by simp only [z8,zj];omega)
  have e6:xnx 58 _ _=_:=wb58 (Lib.itoa v.k++[58]++Lib.itoa v.i++[58]++Lib.itoa (v.t.length:Int)) (by simp only [z8,zj];omega)
  have e7:xlV _ _ _=_:=xjA v.t (Lib.itoa v.k++[58]++Lib.itoa v.i++[58]++Lib.itoa (v.t.length:Int)++[58]) (by simp only [z8,zj];omega)
  have kn:keyC v=Lib.itoa v.k++[58]++Lib.itoa v.i++[58]++Lib.itoa (v.t.length:Int)++[58]++v.t:=by rw [xEc];simp only [numC,zw]
  rw [<-kn] at e7;have e8:=xJ1 (v::t) hr h hk t.length 1 (by rw [zF];omega)
  have tk:xUb ((v::t).take 1)=keyC v:=by simp [xUb]
  rw [tk,zF] at e8;have e8:Iter (xeF ((v::t).map encV) ((t.length+1:Nat):Int)) ((1:Int),(keyC v).length,byteAVs (keyC v))=_:=e8;have hne:(xUb (v::t)).length≠0:=fun e=>xFU v (xUb t) (by rw [<-xuD];exact List.length_eq_zero_iff.1 e)
  unfold xvA xwQ;simp only [xlH,xvB,xvC,xvD,xvE,xvF,xvG,xvH,xvI,xvJ,xtV,xtW,xtX,xtY,xtZ,xtx,za,zF,i1,i2,gf,cV0,cV1,cV2,lV,sV,r1,r2,r3,r4,r5,e0,e2,e3,e4,e5,e6,e7,e8,zn,xaj,Bool.and_self,beq_self_eq_true,zk,zh,xeb,xuC,xyZ,ne_eq,hne,not_false_eq_true,sUF]
abbrev Grp:=Row×List Per
def encG (g:Grp):AV:=.agg [.list 3 (g.1.map encV),.list 2 (g.2.map encP)]
def okEG (x:AV):Bool:=x.cells.length==(2:Nat)&&xTt [Sh.list (3:Nat),Sh.list (2:Nat)] x.cells (0:Nat)
def ldEG (x:AV):AV:=AV.agg [AV.list (3:Nat) (x.cells.getD (0:Nat) AV.top).toList,AV.list (2:Nat) (x.cells.getD (1:Nat) AV.top).toList]
def xSR (x y:AV):Bool:=(xed (x.cells.getD 0 AV.top).toList (x.cells.getD 1 AV.top).toList (y.cells.getD 0 AV.top).toList (y.cells.getD 1 AV.top).toList).isSome
def xSS (x y:AV):Int:=(xed (x.cells.getD 0 AV.top).toList (x.cells.getD 1 AV.top).toList (y.cells.getD 0 AV.top).toList (y.cells.getD 1 AV.top).toList).getD 0
theorem heG (a:Grp):okEG (encG a)=true:=rfl
theorem hdG (a:Grp):ldEG (encG a)=encG a:=rfl
section
variable {N : Nat} (hN : N <= 2 ^ 60) {ok : Grp -> Prop} {c : Grp -> Grp -> Int} (hc : ∀ x y, ok x -> ok y -> xSR (encG x) (encG y) = true /\ xSS (encG x) (encG y) = c x y)
include hN
theorem xO5 (a b n:Nat) (l r:List Grp) (ha:a<=2 ^ 60) (hb:b<=2 ^ 60) (hn:n<=2 ^ 60) (hl:LOk N ok l) (hr:swr a b n l=some r):xbp N a b n (List.map encG l)=some (List.map encG r)/\LOk N ok r:=by
 obtain ⟨e1,e2⟩:=xQf (okE:=okEG) (ldE:=ldEG) heG hdG hN a b n ha hb hn (g:=xcQ N a b n) (fun i xs=>rfl) hl hr
 refine ⟨?_,e2⟩;unfold xbp xhq;rw [e1];rfl
theorem xRW (a m b:Nat) (l r:List Grp) (h1:a<=m) (h2:m<=b) (h3:b<=N) (hl:LOk N ok l) (hr:rot a m b l=some r):xcv N a m b (List.map encG l)=some (List.map encG r)/\LOk N ok r:=by
 unfold rot at hr;cases hi:Iter (xSy m) (m - a,b - m,l) with
 | none=>rw [hi] at hr;simp at hr
 | some p =>
  obtain ⟨i,l'⟩:=p;rw [hi] at hr;obtain ⟨e1,e2,e3⟩:=xQe (enc:=encG) hN (ok:=ok) (SW:=fun a b n xs=>xbp N a b n xs) (fun a b n l r ha hb hn hl hr=>xO5 hN a b n l r ha hb hn hl hr) m (by omega) (g:=xf8 N m) (fun i j xs=>rfl) (by omega) (by omega) hl hi
  obtain ⟨e4,e5⟩:=xO5 hN (m - i) m i l' r (by omega) (by omega) (by omega) e3 hr
  refine ⟨?_,e5⟩;simp only [xcv,xj4,xi2,xi3,xi4,xi5,w64 (x:=(m:Int) - (a:Int)) (n:=m - a) (by omega) (by omega),w64 (x:=(b:Int) - (m:Int)) (n:=b - m) (by omega) (by omega),e1,zh,zk,xaj,w64 (x:=(m:Int) - (i:Int)) (n:=m - i) (by omega) (by omega),e4,sUF]
include hc
theorem xO4 (a b:Nat) (ha:a<=N) (hb:b<=N) {l r:List Grp} (hl:LOk N ok l) (hr:xSB c a b l=some r):xbM N a b (List.map encG l)=some (List.map encG r)/\LOk N ok r:=by
 obtain ⟨e1,e2⟩:=xIz (enc:=encG) hN (c:=c) (ok:=ok) a b hb (gi:=fun i=>xcb N a b i) (fun i l r hl hr=>xKi (okE:=okEG) (ldE:=ldEG) heG hdG hN (P:=xSR) (V:=xSS) hc a (fun j xs=>rfl) hl hr) (g:=xca N a b) (fun i xs=>rfl) hl hr
 refine ⟨?_,e2⟩;unfold xbM xfM;rw [w64 (x:=(a:Int)+1) (n:=a+1) (by omega) (by omega),e1];rfl
theorem xO6:∀ (f a m b:Nat) (l r:List Grp),a<m->m<b->b<=N->LOk N ok l->symM c f a m b l=some r->xaU f N a m b (List.map encG l)=some (List.map encG r)/\LOk N ok r:=by
 intro f;induction f with
 | zero=>intro a m b l r _ _ _ _ hr;simp [symM] at hr
 | succ f ih =>
  intro a m b l r af ae hb hl hr;unfold symM at hr;show xay (xaU f) N a m b (List.map encG l)=some (List.map encG r)/\LOk N ok r;have J:IntKind.i64.wrap ((m:Int) - (a:Int))=((m - a:Nat):Int):=w64 (by omega) (by omega)
  have O:IntKind.i64.wrap ((b:Int) - (m:Int))=((b - m:Nat):Int):=w64 (by omega) (by omega)
  by_cases h1:m - a=1
  . rw [if_pos h1] at hr;cases hi:Iter (xSv fun h=>(get2 c l h a).map fun r=>decide (r<0)) (m,b) with
    | none=>rw [hi] at hr;simp at hr
    | some i =>
     rw [hi] at hr;obtain ⟨e0,b1,b2⟩:=xIy (okE:=okEG) heG hN (P:=xSR) (V:=xSS) hc (fun h=>h) (fun _=>a) (fun h=>h) (fun _=>(a:Int)) m b (by omega) (fun _ _ _=>rfl) (fun _ _ _=>rfl) (fun r=>decide (r<0)) (g:=xbX N a) (fun i j xs=>rfl) hl (zd _) (zd _) (by omega) hi
     obtain ⟨e1,e2⟩:=xRp (okE:=okEG) (ldE:=ldEG) heG hdG hN (ok:=ok) (i - 1) i (by omega) (by omega) (g:=xff N i) (fun k xs=>rfl) hl hr
     refine ⟨?_,e2⟩;simp only [xay,xaL,xar,xas,xat,xau,xav,xaw,xan,xao,xae,xap,xaq,xaf,xab,xac,xah,xai,xaz,xaA,xaB,xaa,xaC,xaD,xaE,xaF,xaG,xaH,xaI,xaJ,xaK,xak,xal,J,h1,e0,zh,zk,xaj,e1,Int.natCast_one,beq_self_eq_true,sUF]
  . rw [if_neg h1] at hr;have d1:(((m - a:Nat):Int)==1)=false:=by simp;omega
    by_cases h2:b - m=1
    . rw [if_pos h2] at hr;cases hi:Iter (xSv fun h=>(get2 c l m h).map fun r=>!decide (r<0)) (a,m) with
      | none=>rw [hi] at hr;simp at hr
      | some i =>
       rw [hi] at hr;obtain ⟨e0,b1,b2⟩:=xIy (okE:=okEG) heG hN (P:=xSR) (V:=xSS) hc (fun _=>m) (fun h=>h) (fun _=>(m:Int)) (fun h=>h) a m (by omega) (fun _ _ _=>rfl) (fun _ _ _=>rfl) (fun r=>!decide (r<0)) (g:=xbY N m) (fun i j xs=>rfl) hl (zd _) (zd _) (by omega) hi
       obtain ⟨e1,e2⟩:=xOG (okE:=okEG) (ldE:=ldEG) heG hdG hN (ok:=ok) i (g:=xfg N i) (fun k xs=>rfl) hl hr
       refine ⟨?_,e2⟩;simp only [xay,xaL,xar,xas,xat,xau,xav,xaw,xan,xao,xae,xap,xaq,xaf,xab,xac,xah,xai,xaz,xaA,xaB,xaa,xaC,xaD,xaE,xaF,xaG,xaH,xaI,xaJ,xaK,xak,xal,J,O,d1,h2,e0,zh,zk,xaj,xag,e1,Int.natCast_one,beq_self_eq_true,sUF]
    . rw [if_neg h2] at hr;have d2:(((b - m:Nat):Int)==1)=false:=by simp;omega
      have hh:IntKind.i64.wrap ((IntKind.u64.wrap (IntKind.i64.wrap ((a:Int)+(b:Int)))).fdiv 2)=(((a+b) / 2:Nat):Int):=xTa (by omega)
      obtain ⟨q,ac⟩:∃ q,q=(a+b) / 2:=⟨_,rfl⟩;rw [<-ac] at hr hh;have w2:IntKind.i64.wrap ((q:Int)+(m:Int))=((q+m:Nat):Int):=w64 (by omega) (by omega)
      have w3:IntKind.i64.wrap (((q+m:Nat):Int) - 1)=((q+m - 1:Nat):Int):=w64 (by omega) (by omega)
      obtain ⟨lo,hi,ab,g1,g2,g3,g4,ad⟩:∃ lo hi,(if q<m then (q+m - b,q) else (a,m))=(lo,hi)/\a<=lo/\lo<=hi/\hi<=m/\hi<=q/\((q<m/\lo=q+m - b/\hi=q)\/(¬ q<m/\lo=a/\hi=m)):=by
       by_cases h:q<m
       . exact ⟨_,_,if_pos h,by omega,by omega,by omega,by omega,.inl ⟨h,rfl,rfl⟩⟩
       . exact ⟨_,_,if_neg h,by omega,by omega,by omega,by omega,.inr ⟨h,rfl,rfl⟩⟩
      rw [ab] at hr;cases hs:Iter (xSv fun h=>(get2 c l (q+m - 1 - h) h).map fun r=>!decide (r<0)) (lo,hi) with
      | none=>rw [hs] at hr;simp at hr
      | some s =>
       rw [hs] at hr;dsimp only at hr;obtain ⟨e0,b1,b2⟩:=xIy (okE:=okEG) heG hN (P:=xSR) (V:=xSS) hc (fun h=>q+m - 1 - h) (fun h=>h) (fun h=>IntKind.i64.wrap (((q+m - 1:Nat):Int) - h)) (fun h=>h) lo hi (by omega) (fun h _ _=>w64 (by omega) (by omega)) (fun _ _ _=>rfl) (fun r=>!decide (r<0)) (g:=xc8 N a m b q ((q+m:Nat):Int) ((q+m - 1:Nat):Int)) (fun i j xs=>rfl) hl (zd _) (zd _) g2 hs
       have w5:IntKind.i64.wrap (((q+m:Nat):Int) - (s:Int))=((q+m - s:Nat):Int):=w64 (by omega) (by omega)
       obtain ⟨e,he⟩:∃ e,e=q+m - s:=⟨_,rfl⟩;rw [<-he] at hr w5;cases Q:(if s<m/\m<e then rot s m e l else some l) with
       | none=>rw [Q] at hr;simp at hr
       | some l1 =>
        rw [Q] at hr;dsimp only at hr;have k1:(s<m/\m<e/\xcv N s m e (List.map encG l)=some (List.map encG l1)/\LOk N ok l1)\/(¬ (s<m/\m<e)/\l1=l):=by
         by_cases h:s<m/\m<e
         . rw [if_pos h] at Q;obtain ⟨x1,x2⟩:=xRW hN s m e l l1 (by omega) (by omega) (by omega) hl Q
           exact .inl ⟨h.1,h.2,x1,x2⟩
         . rw [if_neg h] at Q;simp only [z6] at Q;exact .inr ⟨h,Q.symm⟩
        have Y:LOk N ok l1:=by
         rcases k1 with k|k
         . exact k.2.2.2
         . rw [k.2];exact hl
        cases U:(if a<s/\s<q then symM c f a s q l1 else some l1) with
        | none=>rw [U] at hr;simp at hr
        | some l2 =>
         rw [U] at hr;dsimp only at hr;have k2:(a<s/\s<q/\xaU f N a s q (List.map encG l1)=some (List.map encG l2)/\LOk N ok l2)\/(¬ (a<s/\s<q)/\l2=l1):=by
          by_cases h:a<s/\s<q
          . rw [if_pos h] at U;obtain ⟨x1,x2⟩:=ih a s q l1 l2 h.1 h.2 (by omega) Y U
            exact .inl ⟨h.1,h.2,x1,x2⟩
          . rw [if_neg h] at U;simp only [z6] at U;exact .inr ⟨h,U.symm⟩
         have W:LOk N ok l2:=by
          rcases k2 with k|k
          . exact k.2.2.2
          . rw [k.2];exact Y
         have k3:(q<e/\e<b/\xaU f N q e b (List.map encG l2)=some (List.map encG r)/\LOk N ok r)\/(¬ (q<e/\e<b)/\r=l2):=by
          by_cases h:q<e/\e<b
          . rw [if_pos h] at hr;obtain ⟨x1,x2⟩:=ih q e b l2 r h.1 h.2 hb W hr;exact .inl ⟨h.1,h.2,x1,x2⟩
          . rw [if_neg h] at hr;simp only [z6] at hr;exact .inr ⟨h,hr.symm⟩
         refine ⟨?_,?_⟩
         . clear ih hc hl Y W hr U Q hs ab;rcases ad with ⟨hm,Z,aa⟩|⟨hm,Z,aa⟩
           . rw [Z,aa] at e0;have w4:IntKind.i64.wrap (((q+m:Nat):Int) - (b:Int))=((q+m - b:Nat):Int):=w64 (by omega) (by omega)
             have dm:decide ((m:Int)>(q:Int))=true:=by simp [hm]
             rcases k1 with ⟨p1,p2,p3,_⟩|⟨p1,rfl⟩<;>rcases k2 with ⟨q1,q2,q3,_⟩|⟨q1,rfl⟩<;>rcases k3 with ⟨r1,r2,r3,_⟩|⟨r1,rfl⟩ <;>
              (by_cases t1:s<m<;>by_cases t2:m<e<;>by_cases t3:a<s<;>by_cases t4:s<q<;>by_cases t5:q<e<;>by_cases t6:e<b<;>first|(exfalso;omega) |
               (simp only [xay,xaL,xar,xas,xat,xau,xav,xaw,xan,xao,xae,xap,xaq,xaf,xab,xac,xah,xai,xaz,xaA,xaB,xaa,xaC,xaD,xaE,xaF,xaG,xaH,xaI,xaJ,xaK,xak,xal,J,O,d1,d2,hh,w2,w3,w4,dm,e0,w5,zh,zk,xaj,xag,Int.ofNat_lt,t1,t2,t3,t4,t5,t6,zn,zm,hm,p3,q3,r3,sUF]) |
               (simp only [xay,xaL,xar,xas,xat,xau,xav,xaw,xan,xao,xae,xap,xaq,xaf,xab,xac,xah,xai,xaz,xaA,xaB,xaa,xaC,xaD,xaE,xaF,xaG,xaH,xaI,xaJ,xaK,xak,xal,J,O,d1,d2,hh,w2,w3,w4,dm,e0,w5,zh,zk,xaj,xag,Int.ofNat_lt,t1,t2,t3,t4,t5,t6,zn,zm,hm,p3,q3,sUF]) |
               (simp only [xay,xaL,xar,xas,xat,xau,xav,xaw,xan,xao,xae,xap,xaq,xaf,xab,xac,xah,xai,xaz,xaA,xaB,xaa,xaC,xaD,xaE,xaF,xaG,xaH,xaI,xaJ,xaK,xak,xal,J,O,d1,d2,hh,w2,w3,w4,dm,e0,w5,zh,zk,xaj,xag,Int.ofNat_lt,t1,t2,t3,t4,t5,t6,zn,zm,hm,p3,r3,sUF]) |
               (simp only [xay,xaL,xar,xas,xat,xau,xav,xaw,xan,xao,xae,xap,xaq,xaf,xab,xac,xah,xai,xaz,xaA,xaB,xaa,xaC,xaD,xaE,xaF,xaG,xaH,xaI,xaJ,xaK,xak,xal,J,O,d1,d2,hh,w2,w3,w4,dm,e0,w5,zh,zk,xaj,xag,Int.ofNat_lt,t1,t2,t3,t4,t5,t6,zn,zm,hm,q3,r3,sUF]) |
               (simp only [xay,xaL,xar,xas,xat,xau,xav,xaw,xan,xao,xae,xap,xaq,xaf,xab,xac,xah,xai,xaz,xaA,xaB,xaa,xaC,xaD,xaE,xaF,xaG,xaH,xaI,xaJ,xaK,xak,xal,J,O,d1,d2,hh,w2,w3,w4,dm,e0,w5,zh,zk,xaj,xag,Int.ofNat_lt,t1,t2,t3,t4,t5,t6,zn,zm,hm,p3,sUF]) |
               (simp only [xay,xaL,xar,xas,xat,xau,xav,xaw,xan,xao,xae,xap,xaq,xaf,xab,xac,xah,xai,xaz,xaA,xaB,xaa,xaC,xaD,xaE,xaF,xaG,xaH,xaI,xaJ,xaK,xak,xal,J,O,d1,d2,hh,w2,w3,w4,dm,e0,w5,zh,zk,xaj,xag,Int.ofNat_lt,t1,t2,t3,t4,t5,t6,zn,zm,hm,q3,sUF]) |
               (simp only [xay,xaL,xar,xas,xat,xau,xav,xaw,xan,xao,xae,xap,xaq,xaf,xab,xac,xah,xai,xaz,xaA,xaB,xaa,xaC,xaD,xaE,xaF,xaG,xaH,xaI,xaJ,xaK,xak,xal,J,O,d1,d2,hh,w2,w3,w4,dm,e0,w5,zh,zk,xaj,xag,Int.ofNat_lt,t1,t2,t3,t4,t5,t6,zn,zm,hm,r3,sUF]) |
               (simp only [xay,xaL,xar,xas,xat,xau,xav,xaw,xan,xao,xae,xap,xaq,xaf,xab,xac,xah,xai,xaz,xaA,xaB,xaa,xaC,xaD,xaE,xaF,xaG,xaH,xaI,xaJ,xaK,xak,xal,J,O,d1,d2,hh,w2,w3,w4,dm,e0,w5,zh,zk,xaj,xag,Int.ofNat_lt,t1,t2,t3,t4,t5,t6,zn,zm,hm,sUF]))
           . rw [Z,aa] at e0;have dm:decide ((m:Int)>(q:Int))=false:=by simp;omega
             rcases k1 with ⟨p1,p2,p3,_⟩|⟨p1,rfl⟩<;>rcases k2 with ⟨q1,q2,q3,_⟩|⟨q1,rfl⟩<;>rcases k3 with ⟨r1,r2,r3,_⟩|⟨r1,rfl⟩ <;>
              (by_cases t1:s<m<;>by_cases t2:m<e<;>by_cases t3:a<s<;>by_cases t4:s<q<;>by_cases t5:q<e<;>by_cases t6:e<b<;>first|(exfalso;omega) |
               (simp only [xay,xaL,xar,xas,xat,xau,xav,xaw,xan,xao,xae,xap,xaq,xaf,xab,xac,xah,xai,xaz,xaA,xaB,xaa,xaC,xaD,xaE,xaF,xaG,xaH,xaI,xaJ,xaK,xak,xal,J,O,d1,d2,hh,w2,w3,dm,e0,w5,zh,zk,xaj,xag,Int.ofNat_lt,t1,t2,t3,t4,t5,t6,zn,zm,hm,p3,q3,r3,sUF]) |
               (simp only [xay,xaL,xar,xas,xat,xau,xav,xaw,xan,xao,xae,xap,xaq,xaf,xab,xac,xah,xai,xaz,xaA,xaB,xaa,xaC,xaD,xaE,xaF,xaG,xaH,xaI,xaJ,xaK,xak,xal,J,O,d1,d2,hh,w2,w3,dm,e0,w5,zh,zk,xaj,xag,Int.ofNat_lt,t1,t2,t3,t4,t5,t6,zn,zm,hm,p3,q3,sUF]) |
               (simp only [xay,xaL,xar,xas,xat,xau,xav,xaw,xan,xao,xae,xap,xaq,xaf,xab,xac,xah,xai,xaz,xaA,xaB,xaa,xaC,xaD,xaE,xaF,xaG,xaH,xaI,xaJ,xaK,xak,xal,J,O,d1,d2,hh,w2,w3,dm,e0,w5,zh,zk,xaj,xag,Int.ofNat_lt,t1,t2,t3,t4,t5,t6,zn,zm,hm,p3,r3,sUF]) |
               (simp only [xay,xaL,xar,xas,xat,xau,xav,xaw,xan,xao,xae,xap,xaq,xaf,xab,xac,xah,xai,xaz,xaA,xaB,xaa,xaC,xaD,xaE,xaF,xaG,xaH,xaI,xaJ,xaK,xak,xal,J,O,d1,d2,hh,w2,w3,dm,e0,w5,zh,zk,xaj,xag,Int.ofNat_lt,t1,t2,t3,t4,t5,t6,zn,zm,hm,q3,r3,sUF]) |
               (simp only [xay,xaL,xar,xas,xat,xau,xav,xaw,xan,xao,xae,xap,xaq,xaf,xab,xac,xah,xai,xaz,xaA,xaB,xaa,xaC,xaD,xaE,xaF,xaG,xaH,xaI,xaJ,xaK,xak,xal,J,O,d1,d2,hh,w2,w3,dm,e0,w5,zh,zk,xaj,xag,Int.ofNat_lt,t1,t2,t3,t4,t5,t6,zn,zm,hm,p3,sUF]) |
               (simp only [xay,xaL,xar,xas,xat,xau,xav,xaw,xan,xao,xae,xap,xaq,xaf,xab,xac,xah,xai,xaz,xaA,xaB,xaa,xaC,xaD,xaE,xaF,xaG,xaH,xaI,xaJ,xaK,xak,xal,J,O,d1,d2,hh,w2,w3,dm,e0,w5,zh,zk,xaj,xag,Int.ofNat_lt,t1,t2,t3,t4,t5,t6,zn,zm,hm,q3,sUF]) |
               (simp only [xay,xaL,xar,xas,xat,xau,xav,xaw,xan,xao,xae,xap,xaq,xaf,xab,xac,xah,xai,xaz,xaA,xaB,xaa,xaC,xaD,xaE,xaF,xaG,xaH,xaI,xaJ,xaK,xak,xal,J,O,d1,d2,hh,w2,w3,dm,e0,w5,zh,zk,xaj,xag,Int.ofNat_lt,t1,t2,t3,t4,t5,t6,zn,zm,hm,r3,sUF]) |
               (simp only [xay,xaL,xar,xas,xat,xau,xav,xaw,xan,xao,xae,xap,xaq,xaf,xab,xac,xah,xai,xaz,xaA,xaB,xaa,xaC,xaD,xaE,xaF,xaG,xaH,xaI,xaJ,xaK,xak,xal,J,O,d1,d2,hh,w2,w3,dm,e0,w5,zh,zk,xaj,xag,Int.ofNat_lt,t1,t2,t3,t4,t5,t6,zn,zm,hm,sUF]))
         . rcases k3 with k|k
           . exact k.2.2.2
           . rw [k.2];exact W
theorem xOK {l r:List Grp} (hl:LOk N ok l) (hr:xSW c 1000 N l=some r):xhj N N (List.map encG l)=some (List.map encG r)/\LOk N ok r:=by
 unfold xSW at hr;cases h1:Iter (xSO c N) (0,20,l) with
 | none=>rw [h1] at hr;simp at hr
 | some p =>
  obtain ⟨a,l1⟩:=p;rw [h1] at hr;dsimp only at hr;obtain ⟨e1,ha,_,Q⟩:=xIA (enc:=encG) hN (ok:=ok) 20 (by omega) (p:=xSO c N) (F:=fun a b l=>xSB c a b l) (fun a b l l' h e=>by simp only [xSO,h,if_true,e]) (fun a b l h e=>by simp only [xSO,h,if_true,e]) (fun a b l h=>by simp only [xSO,h,if_false]) (G:=fun a b xs=>xbM N a b xs) (fun a b l r U _ hb hl hr=>xO4 hN hc a b (by omega) hb hl hr) (g:=xcq N N 20) (fun a b xs=>rfl) (a:=0) hl h1 (by omega)
  cases h2:xSB c a N l1 with
  | none=>rw [h2] at hr;simp at hr
  | some l2 =>
   rw [h2] at hr;dsimp only at hr;obtain ⟨e2,O⟩:=xO4 hN hc a N ha (zd _) Q h2;have e3:Iter (xbg N N) (((20:Nat):Int),List.map encG l2)=some (List.map encG r)/\LOk N ok r:=by
    refine xkM (I:=fun s=>1<=s.1/\LOk N ok s.2) (J:=LOk N ok) (e:=fun (s:Nat×List Grp)=>((s.1:Int),List.map encG s.2)) (f:=List.map encG) ?_ (s:=(20,l2)) ⟨by omega,O⟩ hr
    rintro ⟨bs,l⟩ ⟨hb,hl⟩;dsimp only at hb hl;by_cases h:bs<N
    . have wb:IntKind.i64.wrap (2*(bs:Int))=((2*bs:Nat):Int):=w64 (by omega) (by omega)
      have wb':IntKind.i64.wrap ((bs:Int)*2)=((bs*2:Nat):Int):=w64 (by omega) (by omega)
      cases h3:Iter (xSC c 1000 bs N) (0,2*bs,l) with
      | none=>exact xgc (by simp [xSM,h,h3])
      | some p =>
       obtain ⟨a,l3⟩:=p;obtain ⟨f1,f2,f3,f4⟩:=xIA (enc:=encG) hN (ok:=ok) (2*bs) (by omega) (p:=xSC c 1000 bs N) (F:=fun a b l=>symM c 1000 a (a+bs) b l) (fun a b l l' h e=>by simp only [xSC,h,if_true,e]) (fun a b l h e=>by simp only [xSC,h,if_true,e]) (fun a b l h=>by simp only [xSC,h,if_false]) (G:=fun a b xs=>xaU 1000 N a (IntKind.i64.wrap (a+(bs:Int))) b xs) (fun a b l r U W V hl hr=>by
        have:=xO6 hN hc 1000 a (a+bs) b l r (by omega) (by omega) V hl hr
        rw [w64 (x:=(a:Int)+(bs:Int)) (n:=a+bs) (by omega) (by omega)]
        exact this) (g:=xdy N N bs) (fun a b xs=>by rw [<-wb];rfl) (a:=0) hl (by rw [zH];exact h3) (by omega)
       rw [zH,<-wb] at f1;have f1':Iter (xdy N N bs) ((0:Int),IntKind.i64.wrap (2*(bs:Int)),List.map encG l)=some ((a:Int),List.map encG l3):=f1;have q:IntKind.i64.wrap ((a:Int)+(bs:Int))=((a+bs:Nat):Int):=w64 (by omega) (by omega)
       by_cases h4:a+bs<N
       . cases h5:symM c 1000 a (a+bs) N l3 with
         | none=>exact xgc (by simp [xSM,h,h3,h4,h5])
         | some l4 =>
          obtain ⟨f5,f6⟩:=xO6 hN hc 1000 a (a+bs) N l3 l4 (by omega) h4 (zd _) f4 h5
          refine xsO (s0:=(bs*2,l4)) (by simp [xSM,h,h3,h4,h5]) ?_ ⟨by dsimp only;omega,f6⟩
          have q1:(bs:Int)<(N:Int):=by omega
          have q2:((a+bs:Nat):Int)<(N:Int):=by omega
          simp only [xbg,xcV,xew,xey,xez,xeA,xeB,xeC,f1',q1,q2,zn,xaj,zk,zh,q,f5,wb',sUF]
       . refine xsO (s0:=(bs*2,l3)) (by simp [xSM,h,h3,h4]) ?_ ⟨by dsimp only;omega,f4⟩
         have q1:(bs:Int)<(N:Int):=by omega
         have q2:¬ ((a+bs:Nat):Int)<(N:Int):=by omega
         simp only [xbg,xcV,xew,xey,xez,xeA,xeB,xeC,f1',q1,q2,zn,zm,xaj,xag,zk,zh,q,wb',sUF]
    . refine xsA (r0:=l) (by simp [xSM,h]) ?_ hl
      have q1:¬ (bs:Int)<(N:Int):=by omega
      simp only [xbg,xcV,q1,zm,xag,sUF]
   have e1':Iter (xcq N N 20) ((0:Int),(20:Int),List.map encG l)=some ((a:Int),List.map encG l1):=e1;have e3':Iter (xbg N N) ((20:Int),List.map encG l2)=some (List.map encG r):=e3.1;refine ⟨?_,e3.2⟩;simp only [xhj,xj6,xi9,xja,xjb,e1',e2,e3',zk,zh,xaj,sUF]
end
theorem xRZ {N:Nat} (hN:N*48<=140737488355328) {ok:Grp->Prop} {c:Grp->Grp->Int} (hc:∀ x y:Grp,ok x->ok y->xSR (encG x) (encG y)=true/\xSS (encG x) (encG y)=c x y) (l r:List Grp) (hl:l.length=N) (ho:∀ x,x∈l->ok x) (hr:xSW c 1000 N l=some r) :
  xkC N (List.map encG l)=some (List.map encG r):=by
 obtain ⟨e1,e2⟩:=xOK (N:=N) (by omega) (ok:=ok) hc ⟨hl,ho⟩ hr
 simp only [xkC,xi1,e1,zk,zh,xaj,sUF]
end Go.Sim.M
end
noncomputable section
set_option maxRecDepth 100000
namespace Go.Sim.M
open Go.RowKit Go.Sim.Srt
def ents:Nat->List Row->List AV
 | _,[]=>[]
 | k,r::R=>.agg [.str (keyOf r),.int .i64 (k:Int)]::ents (k+1) R
theorem xJU:∀ (R:List Row) (k:Nat) (r:Row),mapIx (ents k R) (keyOf r)=R.findIdx? fun x=>decide (x=r)
 | [],_,_=>rfl
 | x::R,k,r=>by
  have hk:isKey (keyOf r) (((AV.agg [.str (keyOf x),.int .i64 (k:Int)]).cells).getD 0 .top)=decide (x=r):=by
   show (keyOf x==keyOf r)=_;by_cases h:x=r
   . subst h;simp
   . have:¬ keyOf x=keyOf r:=fun e=>h (xFV e)
     simp [h,this]
  show (match isKey (keyOf r) (((AV.agg [.str (keyOf x),.int .i64 (k:Int)]).cells).getD 0 .top) with|true=>some 0|false=>(mapIx (ents (k+1) R) (keyOf r)).map (·+1))=_
  rw [hk,List.findIdx?_cons,xJU R (k+1) r];by_cases h:x=r<;>simp [h]
theorem xHJ:∀ (R:List Row) (k:Nat),(ents k R).length=R.length
 | [],_=>rfl
 | _::R,k=>by show (ents (k+1) R).length+1=_;rw [xHJ R];rfl
theorem xGg:∀ (R:List Row) (k:Nat) (r:Row),ents k (R++[r])=ents k R++[.agg [.str (keyOf r),.int .i64 ((k+R.length:Nat):Int)]]
 | [],_,_=>rfl
 | x::R,k,r=>by
  show _::ents (k+1) (R++[r])=_;rw [xGg R (k+1) r,zF,show k+1+R.length=k+(R.length+1) by omega];rfl
theorem xHI:∀ (R:List Row) (k j:Nat) (h:j<R.length),(ents k R).getD j .top=.agg [.str (keyOf R[j]),.int .i64 ((k+j:Nat):Int)]
 | x::R,k,0,h=>rfl
 | x::R,k,j+1,h=>by
  show (ents (k+1) R).getD j .top=_;rw [xHI R (k+1) j (by simpa using h),show k+1+j=k+(j+1) by omega];rfl
def upd (G:List Grp) (f:Fc):List Grp:=match (G.map (·.1)).findIdx? fun x=>decide (x=f.r) with
 | some j=>G.set j (f.r,(G.getD j ([],[])).2++[f.p])
 | none=>G++[(f.r,[f.p])]
structure GI (l:List Fc) (G:List Grp):Prop where
 nd:(G.map (·.1)).Nodup
 mem:∀ r,r∈G.map (·.1)↔∃ f,f∈l/\f.r=r/\pv f.p=true
 ps:∀ g,g∈G->g.2=psOf l g.1
 len:G.length<=l.length
theorem GI.nil:GI [] []:=⟨List.nodup_nil,fun r=>by simp,fun g hg=>by simp at hg,zd _⟩
theorem xBo (l:List Fc) (f:Fc) (r:Row):psOf (l++[f]) r=psOf l r++(if f.r=r/\pv f.p=true then [f.p] else []):=by
 unfold psOf;rw [List.filter_append,zx];congr 1;by_cases h1:f.r=r<;>by_cases h2:pv f.p=true<;>simp [h1,h2]
theorem GI.skip {l:List Fc} {G:List Grp} (h:GI l G) {f:Fc} (hf:pv f.p=false):GI (l++[f]) G :=
 ⟨h.nd,fun r=>by
  rw [h.mem];refine ⟨fun ⟨g,hg,e⟩=>⟨g,by simp [hg],e⟩,fun ⟨g,hg,e1,e2⟩=>⟨g,?_,e1,e2⟩⟩
  rcases zG.1 hg with hg|hg
  . exact hg
  . rw [zv] at hg;subst hg;rw [hf] at e2;simp at e2,fun g hg=>by rw [xBo,if_neg (by rw [hf];simp),zD];exact h.ps g hg,by rw [z8];have:=h.len;omega⟩
theorem xqu {R:List Row} {r:Row} {j:Nat} (h:R.findIdx? (fun x=>decide (x=r))=some j):∃ hj:j<R.length,R[j]=r:=by
 obtain ⟨hj,h1,_⟩:=List.findIdx?_eq_some_iff_getElem.1 h;exact ⟨hj,by simpa using h1⟩
theorem xCP {R:List Row} {r:Row} (h:R.findIdx? (fun x=>decide (x=r))=none):r∉R:=fun hr=>by
 have:=List.findIdx?_eq_none_iff.1 h r hr;simp at this
theorem xF3 {G:List Grp} {j:Nat} (hj:j<G.length) {ps:List Per} {r:Row} (hr:G[j].1=r):(G.set j (r,ps)).map (·.1)=G.map (·.1):=by
 rw [List.map_set];show (G.map (·.1)).set j r=_;rw [<-hr];have:(G.map (·.1))[j]'(by simpa using hj)=G[j].1:=by simp
 rw [<-this];exact List.set_getElem_self _
theorem GI.upd {l:List Fc} {G:List Grp} (h:GI l G) {f:Fc} (hf:pv f.p=true):GI (l++[f]) (M.upd G f):=by
 unfold M.upd;cases hi:(G.map (·.1)).findIdx? fun x=>decide (x=f.r) with
 | some j =>
  obtain ⟨hj,hr⟩:=xqu hi;rw [za] at hj;rw [List.getElem_map] at hr;dsimp only;have gd:G.getD j ([],[])=G[j]:=by rw [z7,ze hj];rfl
  rw [gd];refine ⟨by rw [xF3 hj hr];exact h.nd,fun r=>?_,fun g hg=>?_,by rw [y2,z8];have:=h.len;omega⟩
  . rw [xF3 hj hr,h.mem];refine ⟨fun ⟨g,hg,e⟩=>⟨g,by simp [hg],e⟩,fun ⟨g,hg,e1,e2⟩=>?_⟩
    rcases zG.1 hg with hg|hg
    . exact ⟨g,hg,e1,e2⟩
    . rw [zv] at hg;subst hg;refine (h.mem r).1 ?_;rw [<-e1,<-hr];exact zK.2 ⟨G[j],zo hj,rfl⟩
  . obtain ⟨i,q,rfl⟩:=zp.1 hg;rw [y2] at q;rw [List.getElem_set];by_cases J:j=i
    . subst J;rw [if_pos rfl,xBo,if_pos ⟨rfl,hf⟩,h.ps _ (zo hj),hr]
    . rw [if_neg J,xBo,if_neg ?_,zD]
      . exact h.ps _ (zo q)
      . rintro ⟨e,_⟩;have hn:=zB.1 h.nd;have ei:(G.map (·.1))[i]'(by simpa using q)=G[i].1:=by simp
        have ej:(G.map (·.1))[j]'(by simpa using hj)=G[j].1:=by simp
        rcases Nat.lt_or_gt_of_ne J with O|O
        . exact hn j i (by simpa using hj) (by simpa using q) O (by rw [ei,ej,hr,e])
        . exact hn i j (by simpa using q) (by simpa using hj) O (by rw [ei,ej,hr,e])
 | none =>
  have hr:=xCP hi;dsimp only;have hz:psOf l f.r=[]:=by
   unfold psOf;rw [List.map_eq_nil_iff,List.filter_eq_nil_iff];intro g hg he;simp only [zf,zl] at he;exact hr ((h.mem _).2 ⟨g,hg,he⟩)
  refine ⟨?_,fun r=>?_,fun g hg=>?_,by rw [z8,z8];have:=h.len;simp;omega⟩
  . rw [zx];refine List.nodup_append.2 ⟨h.nd,by simp,fun a ha b hb e=>?_⟩
    simp at hb;exact hr (by rw [<-hb,<-e];exact ha)
  . rw [zx,zG,h.mem];simp only [zV,zW,zv,zG];constructor
    . rintro (⟨g,hg,e⟩|rfl)
      . exact ⟨g,.inl hg,e⟩
      . exact ⟨f,.inr rfl,rfl,hf⟩
    . rintro ⟨g,hg|rfl,e⟩
      . exact .inl ⟨g,hg,e⟩
      . exact .inr e.1.symm
  . rcases zG.1 hg with hg|hg
    . rw [xBo,if_neg ?_,zD]
      . exact h.ps g hg
      . rintro ⟨e,_⟩;exact hr (by rw [e];exact zK.2 ⟨g,hg,rfl⟩)
    . rw [zv] at hg;subst hg;rw [xBo,if_pos ⟨rfl,hf⟩,hz];rfl
theorem cG0 (g:Grp):((encG g).cells.getD 0 .top).toList=g.1.map encV:=rfl
theorem xCR {α:Type} (l:List α) (x d:α):(l++[x]).getD l.length d=x:=by simp
theorem xEu {α:Type} (l:List α) (x y:α):(l++[x]).set l.length y=l++[y]:=by simp
theorem xS9 (xs:List AV):(AV.agg xs).cells=xs:=rfl
theorem tolA (n:Nat) (xs:List AV):(AV.list n xs).toList=xs:=rfl
theorem xST (k:IntKind) (n:Int):(AV.int k n).toInt=n:=rfl
theorem xTd (xs:List AV):xT3 2 (.list 2 xs)=true:=rfl
theorem xSZ (n m:Nat):xUs (.int .i64 (n:Int)) m=decide (n<m):=rfl
theorem xSY:xUs (.int .i64 0) 1=true:=rfl
theorem g2a (a b:AV):[a,b].getD 0 .top=a:=rfl
theorem g2b (a b:AV):[a,b].getD 1 .top=b:=rfl
theorem lt2 (a b:AV):([a,b].length==2)=true:=rfl
theorem tk1 (a b:AV):List.take 1 [a,b]=[a]:=rfl
theorem dp2 (a b:AV):List.drop 2 [a,b]=[]:=rfl
theorem xJS (g:Grp):encG g=.agg [.list 3 (g.1.map encV),.list 2 (g.2.map encP)]:=rfl
theorem xJT (p:Per):encP p=.agg [.int .i64 p.1,.int .i64 p.2]:=rfl
def Keyed (l:List Fc):Prop:=Few l/\∀ f,f∈l->(∀ v,v∈f.r->KOk v)/\(keyOf f.r).length<=17592186044416
theorem Keyed.key {l:List Fc} (h:Keyed l) {f:Fc} (hf:f∈l):xql (f.r.map encV)=some (keyOf f.r):=xRg f.r (h.1.2 f hf) (h.2 f hf).1 (h.2 f hf).2
theorem xNi (l:List Fc) (h:Keyed l) (k:Nat) (hk:k<l.length) (G:List Grp) (hG:GI (l.take k) G) :
  xb2 (l.map encF) ((l.length:Nat):Int) (G.length,(k:Int),ents 0 (G.map (·.1)),G.map encG) =
   some (.inl ((if pv l[k].p=true then upd G l[k] else G).length,((k+1:Nat):Int),ents 0 ((if pv l[k].p=true then upd G l[k] else G).map (·.1)),(if pv l[k].p=true then upd G l[k] else G).map encG)):=by
 have hl:=h.1.1;have i1:(k:Int)<(l.length:Int):=by omega
 have gf:(l.map encF).getD k .top=encF l[k]:=xad _ _ _ hk;have ek:=h.key (zo hk);have kl:=(h.2 _ (zo hk)).2;have O:=hG.len;rw [zt] at O;cases hv:pv l[k].p with
 | false =>
  simp only [xb2,xfm,sBU,i1,hk,gf,cF0,cF1,cF2,sF0,sF1,sF2,lF,sF12,sF02,xjy,hv,xSj (n:=k) (by omega)]
  rfl
 | true =>
  have k1:(keyOf l[k].r).length<=4611686018427387904:=by omega
  have hx:=xJU (G.map (·.1)) 0 l[k].r;have n1:(ents 0 (G.map (·.1))).length<4611686018427387904:=by rw [xHJ,za];omega
  have m1:(G.length+1)*48<=140737488355328:=by omega
  have m2:G.length+1<=4611686018427387904:=by omega
  simp only [if_true];cases hi:(G.map (·.1)).findIdx? fun x=>decide (x=l[k].r) with
  | none =>
   rw [hi] at hx;have hu:upd G l[k]=G++[(l[k].r,[l[k].p])]:=by unfold upd;rw [hi]
   have hh:xTT (ents 0 (G.map (·.1))) (keyOf l[k].r)=false:=by unfold xTT;rw [hx];rfl
   have hg:xTH (AV.int .i64 0) (ents 0 (G.map (·.1))) (keyOf l[k].r)=AV.int .i64 0:=by unfold xTH;rw [hx]
   have hp:xTF (ents 0 (G.map (·.1))) (keyOf l[k].r) (AV.int .i64 (G.length:Int))=ents 0 ((G++[(l[k].r,[l[k].p])]).map (·.1)):=by
    unfold xTF;rw [hx,zx];show _=ents 0 (G.map (·.1)++[l[k].r]);rw [xGg,za,zH]
   have i2:(G.length:Int)<((G.length+1:Nat):Int):=by omega
   have J:xTm (Sh.int .i64) (AV.int .i64 0)=true:=rfl;have gl:∀ x:AV,(G.map encG++[x]).getD G.length .top=x:=fun x=>by have:=xCR (G.map encG) x .top;rwa [za] at this
   have sl:∀ x y:AV,(G.map encG++[x]).set G.length y=G.map encG++[y]:=fun x y=>by have:=xEu (G.map encG) x y;rwa [za] at this
   rw [hu];simp only [xb2,xfm,xkk,xkl,xeT,xeU,xgu,xkm,xgv,xa7,xkn,xa8,xbt,xaX,xf1,xit,xiu,xci,xiv,xf2,xc2,sBU,i1,hk,gf,cF0,cF1,cF2,sF0,sF1,sF2,lF,sF12,sF02,xjy,hv,xSj (n:=k) (by omega),ek,k1,hh,hg,hp,n1,m1,m2,i2,J,gl,sl,z8,zj,zx,zV,zW,xS9,tolA,xST,xTd,xSZ,g2a,g2b,lt2,tk1,dp2,y2,Nat.lt_succ_self,Bool.and_self,List.length_nil,zH,xJS,xJT,List.singleton_append,zU,zD,Int.natCast_zero]
   try simp [xaj,xSY,sUF]
  | some j =>
   obtain ⟨hj,hr⟩:=xqu hi;rw [hi] at hx;have q:j<G.length:=by simpa using hj
   rw [List.getElem_map] at hr;have gd:G.getD j ([],[])=G[j]:=by rw [z7,ze q];rfl
   have hu:upd G l[k]=G.set j (l[k].r,G[j].2++[l[k].p]):=by unfold upd;rw [hi];dsimp only;rw [gd]
   have hh:xTT (ents 0 (G.map (·.1))) (keyOf l[k].r)=true:=by unfold xTT;rw [hx];rfl
   have hg:xTH (AV.int .i64 0) (ents 0 (G.map (·.1))) (keyOf l[k].r)=AV.int .i64 (j:Int):=by
    unfold xTH;rw [hx];dsimp only;rw [xHI _ _ _ hj,zH];rfl
   have gj:(G.map encG).getD j .top=encG G[j]:=xad _ _ _ q;have i2:(j:Int)<(G.length:Int):=by omega
   have J:xTm (Sh.int .i64) (AV.int .i64 (j:Int))=true:=rfl;have pl:G[j].2.length<=k:=by
    rw [hG.ps _ (zo q)];have:=xId (l.take k) G[j].1;rw [zt] at this;omega
   have m3:(G[j].2.length+1)*16<=140737488355328:=by omega
   have m4:G[j].2.length+1<=4611686018427387904:=by omega
   have gs:∀ x:AV,((G.map encG).set j x).getD j .top=x:=fun x=>by
    rw [z7,zL (by simpa using q)];rfl
   have ss:∀ x y:AV,((G.map encG).set j x).set j y=(G.map encG).set j y:=fun x y=>List.set_set ..
   have tj:(AV.int IntKind.i64 (j:Int)).toInt=(j:Int):=rfl;have cj:(encG G[j]).cells=[.list 3 (l[k].r.map encV),.list 2 (G[j].2.map encP)]:=by rw [<-hr];rfl
   rw [hu,xF3 q hr,y2,List.map_set];simp only [xb2,xfm,xkk,xkl,xeT,xeU,xgu,xkm,xgv,xa7,xkn,xa8,xbt,xaX,xf1,xit,xiu,xci,xiv,xf2,xc2,sBU,i1,hk,gf,cF0,cF1,cF2,sF0,sF1,sF2,lF,sF12,sF02,xjy,hv,xSj (n:=k) (by omega),ek,k1,hh,hg,i2,J,tj,gj,cj,q,y2,gs,ss,xS9,tolA,xST,xTd,xSZ,g2a,g2b,lt2,tk1,dp2,m3,m4,Bool.and_self,z8,zj,Nat.lt_succ_self,xJS,xJT,zx,zV,zW,List.singleton_append,zD]
   try simp [xaj,xSY,hr,sUF]
def grp (l:List Fc):List Grp:=l.foldl (fun G f=>if pv f.p=true then upd G f else G) []
theorem xHT (l:List Fc) (f:Fc):grp (l++[f])=if pv f.p=true then upd (grp l) f else grp l:=by simp [grp]
theorem xME:∀ l:List Fc,GI l.reverse (grp l.reverse)
 | []=>GI.nil
 | f::l=>by
  rw [List.reverse_cons,xHT];have ih:=xME l;cases hv:pv f.p with
  | true=>rw [if_pos rfl];exact ih.upd hv
  | false=>rw [if_neg (by simp)];exact ih.skip hv
theorem xMF (l:List Fc):GI l (grp l):=by have:=xME l.reverse;rwa [List.reverse_reverse] at this
theorem xNh (l:List Fc) (h:Keyed l):Iter (xb2 (l.map encF) ((l.length:Nat):Int)) ((0:Nat),(0:Int),[],[])=some ((grp l).length,(grp l).map encG):=by
 refine xeL (fun k=>(((grp (l.take k)).length,((k:Nat):Int),ents 0 ((grp (l.take k)).map (·.1)),(grp (l.take k)).map encG):Nat×Int×List AV×List AV)) l.length _ (fun k hk=>?_) ?_ l.length 0 (by omega)
 . rw [xNi l h k hk (grp (l.take k)) (xMF _)];have tk:l.take (k+1)=l.take k++[l[k]]:=by rw [List.take_add_one,ze hk];rfl
   rw [tk,xHT]
 . simp only [xb2,xfm,za,zy,zm,xag,y4,sUF]
theorem xPA (x y:Grp) (hx:x.1.length<=4398046511104):xSR (encG x) (encG y)=true/\xSS (encG x) (encG y)=cmpR x.1 y.1:=by
 have e:xed (x.1.map encV) (x.2.map encP) (y.1.map encV) (y.2.map encP)=some (cmpR x.1 y.1):=by
  unfold xed xti;rw [xGW x.1 y.1 (by unfold maxLen;omega)];rfl
 have e2:xed ((encG x).cells.getD 0 .top).toList ((encG x).cells.getD 1 .top).toList ((encG y).cells.getD 0 .top).toList ((encG y).cells.getD 1 .top).toList=some (cmpR x.1 y.1):=e;unfold xSR xSS;rw [e2];exact ⟨rfl,rfl⟩
theorem xP5 (l:List Fc) (h:Keyed l):∃ S:List Grp,xoy (l.map encF)=some (S.map encG)/\xSH l (S.map (·.1))/\(∀ g,g∈S->g.2=psOf l g.1)/\S.length<=l.length:=by
 have hg:=xMF l;have O:=h.1.1;have J:=hg.len;have cG:Cm fun x y:Grp=>cmpR x.1 y.1:=xqb.on (e:=fun x:Grp=>x.1)
 obtain ⟨r,e,p,s⟩:=(fun F (hF:20<=F)=>xJi cG.ord F (grp l).length (xJ8 (Nat.le_trans J O) hF) (grp l) rfl) 1000 (by decide)
 have es:=xRZ (N:=(grp l).length) (by omega) (ok:=fun g=>g.1.length<=1048576) (c:=fun x y:Grp=>cmpR x.1 y.1) (fun x y hx hy=>xPA x y (by omega)) (grp l) r rfl (fun g q=>by
  obtain ⟨f,hf,e,_⟩:=(hg.mem g.1).1 (zK.2 ⟨g,q,rfl⟩);rw [<-e];exact h.1.2 f hf) e
 have rl:=p.length_eq;refine ⟨r,?_,⟨?_,fun x=>?_⟩,fun g q=>hg.ps g (p.mem_iff.1 q),by rw [rl];exact J⟩
 . have el:=xNh l h;have ra:xTU 2 1 ((grp l).map encG)=true:=by
    unfold xTU;rw [zI];intro x hx;obtain ⟨g,_,rfl⟩:=zK.1 hx;rfl
   have ll:(grp l).length<=r.length:=by omega
   have tt:List.take (grp l).length (r.map encG)=r.map encG:=zi (by rw [za];omega)
   unfold xoy xuw xtj xtk xob xtl xtm xtn;simp only [za,el,zk,zh,xaj,ra,es,zH,ll,zn,zS,zr,tt,sUF]
 . refine xNq (fun _ _=>xkG) ?_ ?_
   . exact List.pairwise_map.2 s
   . exact ((p.map (·.1)).nodup_iff).2 hg.nd
 . rw [(p.map (·.1)).mem_iff];exact hg.mem x
def xSn (kf:Row->List UInt8):Nat->List Row->List AV
 | _,[]=>[]
 | k,r::R=>.agg [.str (kf r),.int .i64 (k:Int)]::xSn kf (k+1) R
theorem xD5 {kf:Row->List UInt8} (q:∀ {r r':Row},kf r=kf r'->r=r'):∀ (R:List Row) (k:Nat) (r:Row),mapIx (xSn kf k R) (kf r)=R.findIdx? fun x=>decide (x=r)
 | [],_,_=>rfl
 | x::R,k,r=>by
  have hk:isKey (kf r) (((AV.agg [.str (kf x),.int .i64 (k:Int)]).cells).getD 0 .top)=decide (x=r):=by
   show (kf x==kf r)=_;by_cases h:x=r
   . subst h;simp
   . have:¬ kf x=kf r:=fun e=>h (q e)
     simp [h,this]
  show (match isKey (kf r) (((AV.agg [.str (kf x),.int .i64 (k:Int)]).cells).getD 0 .top) with|true=>some 0|false=>(mapIx (xSn kf (k+1) R) (kf r)).map (·+1))=_
  rw [hk,List.findIdx?_cons,xD5 q R (k+1) r];by_cases h:x=r<;>simp [h]
theorem xCN (kf:Row->List UInt8):∀ (R:List Row) (k:Nat),(xSn kf k R).length=R.length
 | [],_=>rfl
 | _::R,k=>by show (xSn kf (k+1) R).length+1=_;rw [xCN kf R];rfl
theorem xBL (kf:Row->List UInt8):∀ (R:List Row) (k:Nat) (r:Row),xSn kf k (R++[r])=xSn kf k R++[.agg [.str (kf r),.int .i64 ((k+R.length:Nat):Int)]]
 | [],_,_=>rfl
 | x::R,k,r=>by
  show _::xSn kf (k+1) (R++[r])=_;rw [xBL kf R (k+1) r,zF,show k+1+R.length=k+(R.length+1) by omega];rfl
theorem xCM (kf:Row->List UInt8):∀ (R:List Row) (k j:Nat) (h:j<R.length),(xSn kf k R).getD j .top=.agg [.str (kf R[j]),.int .i64 ((k+j:Nat):Int)]
 | x::R,k,0,h=>rfl
 | x::R,k,j+1,h=>by
  show (xSn kf (k+1) R).getD j .top=_;rw [xCM kf R (k+1) j (by simpa using h),show k+1+j=k+(j+1) by omega];rfl
section
variable {α : Type} {key : α -> Row}
def updK (key:α->Row) (G:List (Row×List α)) (a:α):List (Row×List α):=match (G.map (·.1)).findIdx? fun x=>decide (x=key a) with
 | some j=>G.set j (key a,(G.getD j ([],[])).2++[a])
 | none=>G++[(key a,[a])]
structure GK (key:α->Row) (K0:List Row) (l:List α) (G:List (Row×List α)):Prop where
 nd:(G.map (·.1)).Nodup
 mem:∀ r,r∈G.map (·.1)↔r∈K0\/∃ a,a∈l/\key a=r
 ps:∀ g,g∈G->g.2=l.filter fun a=>decide (key a=g.1)
 len:G.length<=l.length+K0.length
theorem GK.nil:GK key [] ([]:List α) []:=⟨List.nodup_nil,fun r=>by simp,fun g hg=>by simp at hg,zd _⟩
theorem GK.one (r:Row):GK key [r] ([]:List α) [(r,[])]:=⟨by simp,fun x=>by simp,fun g hg=>by simp at hg;subst hg;rfl,by simp⟩
theorem xDo (l:List α) (a:α) (r:Row):(l++[a]).filter (fun x=>decide (key x=r))=l.filter (fun x=>decide (key x=r))++(if key a=r then [a] else []):=by
 rw [List.filter_append];congr 1;by_cases h1:key a=r<;>simp [h1]
theorem xB2 {G:List (Row×List α)} {j:Nat} (hj:j<G.length) {ps:List α} {r:Row} (hr:G[j].1=r):(G.set j (r,ps)).map (·.1)=G.map (·.1):=by
 rw [List.map_set];show (G.map (·.1)).set j r=_;rw [<-hr];have:(G.map (·.1))[j]'(by simpa using hj)=G[j].1:=by simp
 rw [<-this];exact List.set_getElem_self _
theorem GK.upd {K0:List Row} {l:List α} {G:List (Row×List α)} (h:GK key K0 l G) (a:α):GK key K0 (l++[a]) (updK key G a):=by
 unfold updK;cases hi:(G.map (·.1)).findIdx? fun x=>decide (x=key a) with
 | some j =>
  obtain ⟨hj,hr⟩:=xqu hi;rw [za] at hj;rw [List.getElem_map] at hr;dsimp only;have gd:G.getD j ([],[])=G[j]:=by rw [z7,ze hj];rfl
  rw [gd];refine ⟨by rw [xB2 hj hr];exact h.nd,fun r=>?_,fun g hg=>?_,by rw [y2,z8];have:=h.len;omega⟩
  . rw [xB2 hj hr,h.mem];constructor
    . rintro (h0|⟨g,hg,e⟩)
      . exact .inl h0
      . exact .inr ⟨g,by simp [hg],e⟩
    . rintro (h0|⟨g,hg,e1⟩)
      . exact .inl h0
      . rcases zG.1 hg with hg|hg
        . exact .inr ⟨g,hg,e1⟩
        . rw [zv] at hg;subst hg;refine (h.mem r).1 ?_;rw [<-e1,<-hr];exact zK.2 ⟨G[j],zo hj,rfl⟩
  . obtain ⟨i,q,rfl⟩:=zp.1 hg;rw [y2] at q;rw [List.getElem_set];by_cases J:j=i
    . subst J;rw [if_pos rfl,xDo,if_pos rfl,h.ps _ (zo hj),hr]
    . rw [if_neg J,xDo,if_neg ?_,zD]
      . exact h.ps _ (zo q)
      . intro e;have hn:=zB.1 h.nd;have ei:(G.map (·.1))[i]'(by simpa using q)=G[i].1:=by simp
        have ej:(G.map (·.1))[j]'(by simpa using hj)=G[j].1:=by simp
        rcases Nat.lt_or_gt_of_ne J with O|O
        . exact hn j i (by simpa using hj) (by simpa using q) O (by rw [ei,ej,hr,e])
        . exact hn i j (by simpa using q) (by simpa using hj) O (by rw [ei,ej,hr,e])
 | none =>
  have hr:=xCP hi;dsimp only;have hz:l.filter (fun x=>decide (key x=key a))=[]:=by
   rw [List.filter_eq_nil_iff];intro g hg he;simp only [zl] at he;exact hr ((h.mem _).2 (.inr ⟨g,hg,he⟩))
  refine ⟨?_,fun r=>?_,fun g hg=>?_,by rw [z8,z8];have:=h.len;simp;omega⟩
  . rw [zx];refine List.nodup_append.2 ⟨h.nd,by simp,fun x ha b hb e=>?_⟩
    simp at hb;exact hr (by rw [<-hb,<-e];exact ha)
  . rw [zx,zG,h.mem];simp only [zV,zW,zv,zG];constructor
    . rintro ((h0|⟨g,hg,e⟩)|rfl)
      . exact .inl h0
      . exact .inr ⟨g,.inl hg,e⟩
      . exact .inr ⟨a,.inr rfl,rfl⟩
    . rintro (h0|⟨g,hg|rfl,e⟩)
      . exact .inl (.inl h0)
      . exact .inl (.inr ⟨g,hg,e⟩)
      . exact .inr e.symm
  . rcases zG.1 hg with hg|hg
    . rw [xDo,if_neg ?_,zD]
      . exact h.ps g hg
      . intro e;exact hr (by rw [e];exact zK.2 ⟨g,hg,rfl⟩)
    . rw [zv] at hg;subst hg;rw [xDo,if_pos rfl,hz];rfl
def grpK (key:α->Row) (G0:List (Row×List α)) (l:List α):List (Row×List α):=l.foldl (updK key) G0
theorem xCU (G0:List (Row×List α)) (l:List α) (a:α):grpK key G0 (l++[a])=updK key (grpK key G0 l) a:=by simp [grpK]
theorem xeV {K0:List Row} {G0:List (Row×List α)} (h0:GK key K0 [] G0) (l:List α):GK key K0 l (grpK key G0 l):=by
 have k:∀ l:List α,GK key K0 l.reverse (grpK key G0 l.reverse):=fun l=>by
  induction l with
  | nil=>exact h0
  | cons a l ih=>rw [List.reverse_cons,xCU];exact ih.upd a
 have:=k l.reverse;rwa [List.reverse_reverse] at this
end
end Go.Sim.M
end
noncomputable section
set_option maxRecDepth 100000
namespace Go.Sim.M
open Go.RowKit Go.Sim.Srt
def xSp (g:Row×List Row):AV:=.list 1 (g.2.map encR)
structure RK (ks:List Int) (rows:List Row):Prop where
 len:rows.length<=1048576
 kl:ks.length<=1048576
 key:∀ r,r∈rows->(∀ v,v∈pick r ks->KOk v)/\(xUb (pick r ks)).length<=17592186044416/\(keyOf (pick r ks)).length<=17592186044416
theorem xtt (r:Row) (ks:List Int):List.length (pick r ks)=ks.length:=by unfold pick;simp
theorem RK.ek {ks:List Int} {rows:List Row} (h:RK ks rows) {r:Row} (hr:r∈rows):xvA ((pick r ks).map encV)=some (xUb (pick r ks)) :=
 xPL _ (by rw [xtt];exact h.kl) (h.key r hr).1 (h.key r hr).2.1
theorem xSP (n:Nat) (xs:List AV):(AV.list n xs).cells=[.list n xs]:=rfl
theorem xS0 (k:IntKind) (n:Int):(AV.int k n).cells=[.int k n]:=rfl
theorem g1a (a:AV):[a].getD 0 .top=a:=rfl
theorem lt1 (a:AV):([a].length==1)=true:=rfl
theorem xTb (xs:List AV):xT3 1 (.list 1 xs)=true:=rfl
theorem xN3 (ks:List Int) (l:List AV) (rows:List Row) (h:RK ks rows) (b0 b1:List AV) (K0:List Row) (hK:K0.length<=1) (k:Nat) (hk:k<rows.length) (G:List (Row×List Row)) (hG:GK (fun r=>pick r ks) K0 (rows.take k) G) :
  xbd (ks.map encN) l (rows.map encR) ((rows.length:Nat):Int) (G.length,(k:Int),b0,b1,xSn xUb 0 (G.map (·.1)),G.map xSp) =
   some (.inl ((updK (fun r=>pick r ks) G rows[k]).length,((k+1:Nat):Int),b0,b1,xSn xUb 0 ((updK (fun r=>pick r ks) G rows[k]).map (·.1)),(updK (fun r=>pick r ks) G rows[k]).map xSp)):=by
 have hl:=h.len;have i1:(k:Int)<(rows.length:Int):=by omega
 have gf:(rows.map encR).getD k .top=encR rows[k]:=xad _ _ _ hk;have hm:=zo hk;have ek:=h.ek hm;have kl:=(h.key _ hm).2.1;have ep:=xEj rows[k] ks h.kl;have O:=hG.len;rw [zt] at O;have tt:List.take (List.length (pick rows[k] ks)) ((pick rows[k] ks).map encV)=(pick rows[k] ks).map encV:=zi (by simp)
 have pl:(0:Nat)+List.length (pick rows[k] ks)<=((pick rows[k] ks).map encV).length:=by simp
 have k1:(xUb (pick rows[k] ks)).length<=4611686018427387904:=by omega
 have hx:=xD5 (kf:=xUb) xHY (G.map (·.1)) 0 (pick rows[k] ks);have n1:(xSn xUb 0 (G.map (·.1))).length<4611686018427387904:=by rw [xCN,za];omega
 have m1:(G.length+1)*24<=140737488355328:=by omega
 have m2:G.length+1<=4611686018427387904:=by omega
 cases hi:(G.map (·.1)).findIdx? fun x=>decide (x=pick rows[k] ks) with
 | none =>
  rw [hi] at hx;have hu:updK (fun r=>pick r ks) G rows[k]=G++[(pick rows[k] ks,[rows[k]])]:=by unfold updK;rw [hi]
  have hh:xTT (xSn xUb 0 (G.map (·.1))) (xUb (pick rows[k] ks))=false:=by unfold xTT;rw [hx];rfl
  have hg:xTH (AV.int .i64 0) (xSn xUb 0 (G.map (·.1))) (xUb (pick rows[k] ks))=AV.int .i64 0:=by unfold xTH;rw [hx]
  have hp:xTF (xSn xUb 0 (G.map (·.1))) (xUb (pick rows[k] ks)) (AV.int .i64 (G.length:Int))=xSn xUb 0 ((G++[(pick rows[k] ks,[rows[k]])]).map (·.1)):=by
   unfold xTF;rw [hx,zx];show _=xSn xUb 0 (G.map (·.1)++[pick rows[k] ks]);rw [xBL,za,zH]
  have i2:(G.length:Int)<((G.length+1:Nat):Int):=by omega
  have J:xTm (Sh.int .i64) (AV.int .i64 0)=true:=rfl;have gl:∀ x:AV,(G.map xSp++[x]).getD G.length .top=x:=fun x=>by have:=xCR (G.map xSp) x .top;rwa [za] at this
  have sl:∀ x y:AV,(G.map xSp++[x]).set G.length y=G.map xSp++[y]:=fun x y=>by have:=xEu (G.map xSp) x y;rwa [za] at this
  rw [hu];simp only [xbd,xgA,xjd,xje,xjf,xjg,xaS,xjh,xbR,xa5,xeE,xji,xdO,xhS,xa2,xaZ,xhT,sBU,i1,hk,gf,cR0,sR0,ep,zr,tt,zd,xSj (n:=k) (by omega),ek,k1,hh,hg,hp,n1,m1,m2,i2,J,gl,sl,z8,zj,zx,zV,zW,xSP,xS0,g1a,lt1,tolA,xST,xTb,xSZ,y2,Nat.lt_succ_self,Bool.and_self,List.length_nil,zH,xSp,List.singleton_append,zU,zD,Int.natCast_zero]
  try simp [xaj,xSY,xSp,encR,sUF]
 | some j =>
  obtain ⟨hj,hr⟩:=xqu hi;rw [hi] at hx;have q:j<G.length:=by simpa using hj
  rw [List.getElem_map] at hr;have gd:G.getD j ([],[])=G[j]:=by rw [z7,ze q];rfl
  have hu:updK (fun r=>pick r ks) G rows[k]=G.set j (pick rows[k] ks,G[j].2++[rows[k]]):=by unfold updK;rw [hi];dsimp only;rw [gd]
  have hh:xTT (xSn xUb 0 (G.map (·.1))) (xUb (pick rows[k] ks))=true:=by unfold xTT;rw [hx];rfl
  have hg:xTH (AV.int .i64 0) (xSn xUb 0 (G.map (·.1))) (xUb (pick rows[k] ks))=AV.int .i64 (j:Int):=by
   unfold xTH;rw [hx];dsimp only;rw [xCM _ _ _ _ hj,zH];rfl
  have gj:(G.map xSp).getD j .top=xSp G[j]:=xad _ _ _ q;have i2:(j:Int)<(G.length:Int):=by omega
  have J:xTm (Sh.int .i64) (AV.int .i64 (j:Int))=true:=rfl;have Q:G[j].2.length<=k:=by
   rw [hG.ps _ (zo q)];have:=List.length_filter_le (fun a=>decide (pick a ks=G[j].1)) (rows.take k)
   rw [zt] at this;omega
  have m3:(G[j].2.length+1)*24<=140737488355328:=by omega
  have m4:G[j].2.length+1<=4611686018427387904:=by omega
  have gs:∀ x:AV,((G.map xSp).set j x).getD j .top=x:=fun x=>by
   rw [z7,zL (by simpa using q)];rfl
  have ss:∀ x y:AV,((G.map xSp).set j x).set j y=(G.map xSp).set j y:=fun x y=>List.set_set ..
  have tj:(AV.int IntKind.i64 (j:Int)).toInt=(j:Int):=rfl;rw [hu,xB2 q hr,y2,List.map_set];simp only [xbd,xgA,xjd,xje,xjf,xjg,xaS,xjh,xbR,xa5,xeE,xji,xdO,xhS,xa2,xaZ,xhT,sBU,i1,hk,gf,cR0,sR0,ep,zr,tt,zd,xSj (n:=k) (by omega),ek,k1,hh,hg,i2,J,tj,gj,q,y2,gs,ss,xSP,xS0,g1a,lt1,tolA,xST,xTb,xSZ,m3,m4,Bool.and_self,z8,zj,Nat.lt_succ_self,xSp,zx,zV,zW,List.singleton_append,zD]
  try simp [xaj,xSY,xSp,encR,sUF]
theorem xN1 (ks:List Int) (l:List AV) (rows:List Row) (h:RK ks rows) (b0 b1:List AV) (K0:List Row) (hK:K0.length<=1) (G0:List (Row×List Row)) (h0:GK (fun r=>pick r ks) K0 [] G0) :
  Iter (xbd (ks.map encN) l (rows.map encR) ((rows.length:Nat):Int)) (G0.length,(0:Int),b0,b1,xSn xUb 0 (G0.map (·.1)),G0.map xSp) =
   some ((grpK (fun r=>pick r ks) G0 rows).length,b0,b1,(grpK (fun r=>pick r ks) G0 rows).map xSp):=by
 refine xeL (fun k=>(((grpK (fun r=>pick r ks) G0 (rows.take k)).length,((k:Nat):Int),b0,b1,xSn xUb 0 ((grpK (fun r=>pick r ks) G0 (rows.take k)).map (·.1)),(grpK (fun r=>pick r ks) G0 (rows.take k)).map xSp):Nat×Int×List AV×List AV×List AV×List AV)) rows.length _ (fun k hk=>?_) ?_ rows.length 0 (by omega)
 . rw [xN3 ks l rows h b0 b1 K0 hK k hk _ (xeV h0 _)];have tk:rows.take (k+1)=rows.take k++[rows[k]]:=by rw [List.take_add_one,ze hk];rfl
   rw [tk,xCU]
 . simp only [xbd,xgA,za,zy,zm,xag,y4,sUF]
def xSs (g:Row×List Fc):AV:=.list 3 (g.2.map encF)
theorem xTc (xs:List AV):xT3 3 (.list 3 xs)=true:=rfl
structure FK (ks:List Int) (l:List Fc):Prop where
 len:l.length<=1048576
 kl:ks.length<=1048576
 key:∀ f,f∈l->(∀ v,v∈pick f.r ks->KOk v)/\(xUb (pick f.r ks)).length<=17592186044416/\(keyOf (pick f.r ks)).length<=17592186044416
theorem FK.ek {ks:List Int} {l:List Fc} (h:FK ks l) {f:Fc} (hr:f∈l):xsN ((pick f.r ks).map encV)=some (keyOf (pick f.r ks)) :=
 xPm _ (by rw [xtt];exact h.kl) (h.key f hr).1 (h.key f hr).2.2
theorem xNH (ks:List Int) (l:List Fc) (h:FK ks l) (K0:List Row) (hK:K0.length<=1) (k:Nat) (hk:k<l.length) (G:List (Row×List Fc)) (hG:GK (fun f:Fc=>pick f.r ks) K0 (l.take k) G) :
  xby (ks.map encN) (l.map encF) ((l.length:Nat):Int) (G.length,(k:Int),xSn keyOf 0 (G.map (·.1)),G.map xSs) =
   some (.inl ((updK (fun f:Fc=>pick f.r ks) G l[k]).length,((k+1:Nat):Int),xSn keyOf 0 ((updK (fun f:Fc=>pick f.r ks) G l[k]).map (·.1)),(updK (fun f:Fc=>pick f.r ks) G l[k]).map xSs)):=by
 have hl:=h.len;have i1:(k:Int)<(l.length:Int):=by omega
 have gf:(l.map encF).getD k .top=encF l[k]:=xad _ _ _ hk;have hm:=zo hk;have ek:=h.ek hm;have kl:=(h.key _ hm).2.2;have ep:=xEj l[k].r ks h.kl;have O:=hG.len;rw [zt] at O;have tt:List.take (List.length (pick l[k].r ks)) ((pick l[k].r ks).map encV)=(pick l[k].r ks).map encV:=zi (by simp)
 have pl:(0:Nat)+List.length (pick l[k].r ks)<=((pick l[k].r ks).map encV).length:=by simp
 have k1:(keyOf (pick l[k].r ks)).length<=4611686018427387904:=by omega
 have hx:=xD5 (kf:=keyOf) xFV (G.map (·.1)) 0 (pick l[k].r ks);have n1:(xSn keyOf 0 (G.map (·.1))).length<4611686018427387904:=by rw [xCN,za];omega
 have m1:(G.length+1)*24<=140737488355328:=by omega
 have m2:G.length+1<=4611686018427387904:=by omega
 cases hi:(G.map (·.1)).findIdx? fun x=>decide (x=pick l[k].r ks) with
 | none =>
  rw [hi] at hx;have hu:updK (fun f:Fc=>pick f.r ks) G l[k]=G++[(pick l[k].r ks,[l[k]])]:=by unfold updK;rw [hi]
  have hh:xTT (xSn keyOf 0 (G.map (·.1))) (keyOf (pick l[k].r ks))=false:=by unfold xTT;rw [hx];rfl
  have hg:xTH (AV.int .i64 0) (xSn keyOf 0 (G.map (·.1))) (keyOf (pick l[k].r ks))=AV.int .i64 0:=by unfold xTH;rw [hx]
  have hp:xTF (xSn keyOf 0 (G.map (·.1))) (keyOf (pick l[k].r ks)) (AV.int .i64 (G.length:Int))=xSn keyOf 0 ((G++[(pick l[k].r ks,[l[k]])]).map (·.1)):=by
   unfold xTF;rw [hx,zx];show _=xSn keyOf 0 (G.map (·.1)++[pick l[k].r ks]);rw [xBL,za,zH]
  have i2:(G.length:Int)<((G.length+1:Nat):Int):=by omega
  have J:xTm (Sh.int .i64) (AV.int .i64 0)=true:=rfl;have gl:∀ x:AV,(G.map xSs++[x]).getD G.length .top=x:=fun x=>by have:=xCR (G.map xSs) x .top;rwa [za] at this
  have sl:∀ x y:AV,(G.map xSs++[x]).set G.length y=G.map xSs++[y]:=fun x y=>by have:=xEu (G.map xSs) x y;rwa [za] at this
  rw [hu];simp only [xby,xfj,xg7,xg8,xg9,xha,xaP,xhb,xbs,xax,xhc,xhd,xcX,xcY,xgn,xaW,xaT,sBU,i1,hk,gf,cF0,cF1,cF2,sF0,sF1,sF2,lF,sF12,sF02,ep,zr,tt,zd,xSj (n:=k) (by omega),ek,k1,hh,hg,hp,n1,m1,m2,i2,J,gl,sl,z8,zj,zx,zV,zW,xSP,xS0,g1a,lt1,tolA,xST,xTc,xSZ,y2,Nat.lt_succ_self,Bool.and_self,List.length_nil,zH,xSs,List.singleton_append,zU,zD,Int.natCast_zero]
  try simp [xaj,xSY,xSs,encF,encR,sUF]
 | some j =>
  obtain ⟨hj,hr⟩:=xqu hi;rw [hi] at hx;have q:j<G.length:=by simpa using hj
  rw [List.getElem_map] at hr;have gd:G.getD j ([],[])=G[j]:=by rw [z7,ze q];rfl
  have hu:updK (fun f:Fc=>pick f.r ks) G l[k]=G.set j (pick l[k].r ks,G[j].2++[l[k]]):=by unfold updK;rw [hi];dsimp only;rw [gd]
  have hh:xTT (xSn keyOf 0 (G.map (·.1))) (keyOf (pick l[k].r ks))=true:=by unfold xTT;rw [hx];rfl
  have hg:xTH (AV.int .i64 0) (xSn keyOf 0 (G.map (·.1))) (keyOf (pick l[k].r ks))=AV.int .i64 (j:Int):=by
   unfold xTH;rw [hx];dsimp only;rw [xCM _ _ _ _ hj,zH];rfl
  have gj:(G.map xSs).getD j .top=xSs G[j]:=xad _ _ _ q;have i2:(j:Int)<(G.length:Int):=by omega
  have J:xTm (Sh.int .i64) (AV.int .i64 (j:Int))=true:=rfl;have Q:G[j].2.length<=k:=by
   rw [hG.ps _ (zo q)];have:=List.length_filter_le (fun a:Fc=>decide (pick a.r ks=G[j].1)) (l.take k)
   rw [zt] at this;omega
  have m3:(G[j].2.length+1)*40<=140737488355328:=by omega
  have m4:G[j].2.length+1<=4611686018427387904:=by omega
  have gs:∀ x:AV,((G.map xSs).set j x).getD j .top=x:=fun x=>by
   rw [z7,zL (by simpa using q)];rfl
  have ss:∀ x y:AV,((G.map xSs).set j x).set j y=(G.map xSs).set j y:=fun x y=>List.set_set ..
  have tj:(AV.int IntKind.i64 (j:Int)).toInt=(j:Int):=rfl;rw [hu,xB2 q hr,y2,List.map_set];simp only [xby,xfj,xg7,xg8,xg9,xha,xaP,xhb,xbs,xax,xhc,xhd,xcX,xcY,xgn,xaW,xaT,sBU,i1,hk,gf,cF0,cF1,cF2,sF0,sF1,sF2,lF,sF12,sF02,ep,zr,tt,zd,xSj (n:=k) (by omega),ek,k1,hh,hg,i2,J,tj,gj,q,y2,gs,ss,xSP,xS0,g1a,lt1,tolA,xST,xTc,xSZ,m3,m4,Bool.and_self,z8,zj,Nat.lt_succ_self,xSs,zx,zV,zW,List.singleton_append,zD]
  try simp [xaj,xSY,xSs,encF,encR,sUF]
theorem xNG (ks:List Int) (l:List Fc) (h:FK ks l) (K0:List Row) (hK:K0.length<=1) (G0:List (Row×List Fc)) (h0:GK (fun f:Fc=>pick f.r ks) K0 [] G0) :
  Iter (xby (ks.map encN) (l.map encF) ((l.length:Nat):Int)) (G0.length,(0:Int),xSn keyOf 0 (G0.map (·.1)),G0.map xSs) =
   some ((grpK (fun f:Fc=>pick f.r ks) G0 l).length,(grpK (fun f:Fc=>pick f.r ks) G0 l).map xSs):=by
 refine xeL (fun k=>(((grpK (fun f:Fc=>pick f.r ks) G0 (l.take k)).length,((k:Nat):Int),xSn keyOf 0 ((grpK (fun f:Fc=>pick f.r ks) G0 (l.take k)).map (·.1)),(grpK (fun f:Fc=>pick f.r ks) G0 (l.take k)).map xSs):Nat×Int×List AV×List AV)) l.length _ (fun k hk=>?_) ?_ l.length 0 (by omega)
 . rw [xNH ks l h K0 hK k hk _ (xeV h0 _)];have tk:l.take (k+1)=l.take k++[l[k]]:=by rw [List.take_add_one,ze hk];rfl
   rw [tk,xCU]
 . simp only [xby,xfj,za,zy,zm,xag,y4,sUF]
def xSo (rows:List Row) (L:List Per):Row:=L.map fun p=>aggV rows p.1 p.2
structure AK (L:List Per) (rows:List Row):Prop where
 len:rows.length<=1048576
 ll:L.length<=1048576
 col:∀ p,p∈L->0<=p.2->∀ r,r∈rows->p.2.toNat<r.length
 rng:∀ r,r∈rows->∀ v,v∈r->inR v
theorem xuy {α β:Type} (g:α->β):∀ (l:List α) (D:List β),l.foldl (fun D a=>D++[g a]) D=D++l.map g
 | [],D=>by simp
 | a::l,D=>by simp only [List.foldl_cons,zV];rw [xuy g l];simp
theorem xJY (keys l:List AV) (out_n:Nat) (O:List AV) (J q:Int) (rows:List Row) (L:List Per) (h:AK L rows) (D0:Row) (hD:D0.length<=1048576) (b0 b1 out:List AV) :
  Iter (xcw keys l out_n (rows.map encR) O J q (L.map encP) ((L.length:Nat):Int)) (D0.length,(0:Int),b0,b1,out,D0.map encV)=some ((D0++xSo rows L).length,b0,b1,out,(D0++xSo rows L).map encV):=by
 refine xjw (step:=xcw keys l out_n (rows.map encR) O J q (L.map encP) ((L.length:Nat):Int)) L (fun (D:Row) p=>D++[aggV rows p.1 p.2]) (fun n D=>(List.length D,(n:Int),b0,b1,out,D.map encV)) (fun n D=>List.length D<=D0.length+n) (fun n hn D hD=>?_) L.length 0 D0 (by omega) (by simp) ?_
 . have hl:=h.ll;have h1:(n:Int)<(L.length:Int):=by omega
   have gf:(L.map encP).getD n .top=encP L[n]:=xad _ _ _ hn;have m1:(List.length D+1)*32<=140737488355328:=by omega
   have m2:List.length D+1<=4611686018427387904:=by omega
   have hm:=zo hn;have ea:=xPk rows L[n].1 L[n].2 h.len (h.col _ hm) h.rng;refine ⟨?_,by simp only [z8,zj];omega⟩
   simp only [xcw,xkt,xoq,xor,sBU,hn,h1,gf,cP0,cP1,lP,sP,sP0,sP1,ea,trip,m1,m2,xSj (n:=n) (by omega),z8,zj,zx,zV,zW]
   rfl
 . simp only [xcw,xkt,zy,zm,xag,zr,xuy,sUF];rfl
def rowK (ks:List Int) (L:List Per) (g:Row×List Row):Row:=(if ks=[] then [] else pick (g.2.getD 0 []) ks)++xSo g.2 L
theorem xF8 (rows:List Row) (L:List Per):List.length (xSo rows L)=L.length:=by unfold xSo;simp
theorem sL1 (xs:List AV):xTm (Sh.list 1) (AV.list 1 xs)=true:=rfl
theorem sL3 (xs:List AV):xTm (Sh.list 3) (AV.list 3 xs)=true:=rfl
theorem xMD (ks:List Int) (L:List Per) (G:List (Row×List Row)) (hk:ks.length<=1048576) (hG:∀ g,g∈G->AK L g.2/\(ks≠[]->g.2≠[])) (U:G.length<=1048577) (b0 b1:List AV) (n:Nat) (hn:n<G.length) (O:List Row) (hO:O.length<=n) :
  xbw (ks.map encN) (L.map encP) (G.map xSp) ((G.length:Nat):Int) (O.length,(n:Int),b0,b1,O.map encR)=some (.inl ((O++[rowK ks L G[n]]).length,((n+1:Nat):Int),b0,b1,(O++[rowK ks L G[n]]).map encR)):=by
 have h1:(n:Int)<(G.length:Int):=by omega
 have gf:(G.map xSp).getD n .top=.list 1 (G[n].2.map encR):=xad _ _ _ hn;obtain ⟨ha,hne⟩:=hG _ (zo hn);have m1:(O.length+1)*24<=140737488355328:=by omega
 have m2:O.length+1<=4611686018427387904:=by omega
 generalize G[n]=g at *;have ll:=ha.ll;by_cases J:ks=[]
 . have e:=xJY (ks.map encN) (L.map encP) O.length (G.map xSp) ((G.length:Nat):Int) (n:Int) g.2 L ha [] (by simp) b0 b1 (O.map encR)
   have e:Iter _ ((0:Nat),(0:Int),b0,b1,O.map encR,[])=_:=e;rw [zU] at e;have tt:List.take (List.length (xSo g.2 L)) ((xSo g.2 L).map encV)=(xSo g.2 L).map encV:=zi (by simp)
   subst J;have i0:¬ (((0:Nat):Int)>0):=by omega
   have hr:rowK [] L g=xSo g.2 L:=by unfold rowK;simp
   rw [hr];simp only [zW] at e;simp only [xbw,xgB,xjj,xjk,xjl,xjm,xjn,xjo,xjp,xjq,xjr,xjs,xhU,xhV,xhW,xhX,xhY,xhZ,xhx,sBU,hn,h1,gf,xSP,g1a,tolA,sL1,zW,List.length_nil,i0,e,tt,zd,m1,m2,zr,xSj (n:=n) (by omega),z8,zj,zx,zV]
   simp [encR,xaj,xag,sUF]
 . obtain ⟨r0,rest,q⟩:=List.exists_cons_of_ne_nil (hne J);have ep:=xEj r0 ks hk;have pl:List.length (pick r0 ks)<=1048576:=by rw [xtt];exact hk
   have e:=xJY (ks.map encN) (L.map encP) O.length (G.map xSp) ((G.length:Nat):Int) (n:Int) g.2 L ha (pick r0 ks) pl b0 b1 (O.map encR);have hr:rowK ks L g=pick r0 ks++xSo g.2 L:=by unfold rowK;rw [if_neg J,q];rfl
   rw [hr];have i0:((ks.length:Nat):Int)>0:=by
    have:0<ks.length:=List.length_pos_iff.2 J;omega
   have gl:(0:Int)<((g.2.length:Nat):Int):=by rw [q,zF];omega
   have Q:0<g.2.length:=by rw [q,zF];omega
   have g0:(g.2.map encR).getD 0 .top=.list 3 (r0.map encV):=by rw [q];rfl
   generalize pick r0 ks++xSo g.2 L=Z at e;have tt:List.take (List.length Z) (Z.map encV)=Z.map encV:=zi (by simp)
   simp only [xbw,xgB,xjj,xjk,xjl,xjm,xjn,xjo,xjp,xjq,xjr,xjs,xhU,xhV,xhW,xhX,xhY,xhZ,xhx,sBU,hn,h1,gf,g0,gl,Q,ep,xSP,g1a,tolA,sL1,sL3,i0,e,tt,zd,m1,m2,zr,xSj (n:=n) (by omega),z8,zj,zx,zV,zW]
   simp [encR,xaj,xag,sUF]
theorem xMC (ks:List Int) (L:List Per) (G:List (Row×List Row)) (hk:ks.length<=1048576) (hG:∀ g,g∈G->AK L g.2/\(ks≠[]->g.2≠[])) (q:G.length<=1048577) (b0 b1:List AV) :
  Iter (xbw (ks.map encN) (L.map encP) (G.map xSp) ((G.length:Nat):Int)) ((0:Nat),(0:Int),b0,b1,[])=some (G.length,b0,b1,(G.map (rowK ks L)).map encR):=by
 have key:=xjw (step:=xbw (ks.map encN) (L.map encP) (G.map xSp) ((G.length:Nat):Int)) (r:=(G.length,b0,b1,(G.map (rowK ks L)).map encR)) G (fun (O:List Row) g=>O++[rowK ks L g]) (fun n O=>(O.length,(n:Int),b0,b1,O.map encR)) (fun n O=>O.length<=n) (fun n hn O hO=>⟨?_,?_⟩) G.length 0 [] (by omega) (by simp) ?_
 . exact key
 . exact xMD ks L G hk hG q b0 b1 n hn O hO
 . simp only [z8,zj];omega
 . simp only [xbw,xgB,zy,zm,xag,zr,xuy,zU,za,sUF]
def G0 (α:Type) (ks:List Int):List (Row×List α):=if ks=[] then [([],[])] else []
def K0 (ks:List Int):List Row:=if ks=[] then [[]] else []
theorem GK0 {α:Type} (key:α->Row) (ks:List Int):GK key (K0 ks) ([]:List α) (G0 α ks):=by
 unfold K0 G0;split
 . exact GK.one []
 . exact GK.nil
theorem xED (ks:List Int):(K0 ks).length<=1:=by unfold K0;split<;>simp
def xSk (ks:List Int) (L:List Per) (rows:List Row):List Row:=(grpK (fun r=>pick r ks) (G0 Row ks) rows).map (rowK ks L)
theorem AK.sub {L:List Per} {rows q:List Row} (h:AK L rows) (hl:q.length<=rows.length) (hs:∀ r,r∈q->r∈rows):AK L q :=
 ⟨by have:=h.len;omega,h.ll,fun p hp h0 r hr=>h.col p hp h0 r (hs r hr),fun r hr=>h.rng r (hs r hr)⟩
theorem xI1 {ks:List Int} {L:List Per} {rows:List Row} (h:AK L rows):∀ g,g∈grpK (fun r=>pick r ks) (G0 Row ks) rows->AK L g.2/\(ks≠[]->g.2≠[]):=fun g hg=>by
 have hG:=xeV (GK0 (fun r=>pick r ks) ks) rows
 have hp:=hG.ps g hg;refine ⟨?_,fun hk he=>?_⟩
 . rw [hp];exact h.sub (List.length_filter_le _ _) fun r hr=>(List.mem_filter.1 hr).1
 . rcases (hG.mem g.1).1 (zK.2 ⟨g,hg,rfl⟩) with h0|⟨a,ha,e⟩
   . unfold K0 at h0;rw [if_neg hk] at h0;simp at h0
   . have:a∈rows.filter (fun a=>decide (pick a ks=g.1)):=List.mem_filter.2 ⟨ha,by simpa using e⟩
     rw [<-hp,he] at this;simp at this
theorem xLi (G:List (Row×List Row)):xTU 1 0 (G.map xSp)=true:=by
 unfold xTU;simp only [List.all_map,zI];intro g hg;rfl
theorem xOy (ks:List Int) (L:List Per) (g:Row×List Row):List.length (rowK ks L g)<=ks.length+L.length:=by
 unfold rowK;rw [z8,xF8];split
 . simp
 . rw [xtt];omega
theorem xFu {ks:List Int} {L:List Per} {rows:List Row} (hl:rows.length<=524288) (hk:ks.length<=524288) (hL:L.length<=524288):xSF (xSk ks L rows):=by
 have hG:=(xeV (GK0 (fun r=>pick r ks) ks) rows).len
 have q:=xED ks;refine ⟨by unfold xSk;rw [za];omega,fun x hx=>?_⟩
 unfold xSk at hx;obtain ⟨g,_,rfl⟩:=zK.1 hx;have:=xOy ks L g;omega
theorem xPr (kinds:List Int) (rows r:List Row) (hk:kinds.length<=1048576) (h:xov (rows.map encR)=some (r.map encR)):xvz (kinds.map encN) (rows.map encR)=some (kinds.map encN,r.map encR):=by
 have m1:kinds.length*8<=140737488355328:=by omega
 have m2:kinds.length<=4611686018427387904:=by omega
 have tt:List.take kinds.length (kinds.map encN)=kinds.map encN:=zi (by simp)
 unfold xvz xwP;simp only [sBU,m1,m2,h,zU,zd,tt,zr]
theorem xDI (kinds ks:List Int) (L:List Per):(xUc kinds ks L).1.length<=ks.length+L.length:=by
 unfold xUc;cases hc:accE (xSE kinds) ks [] with
 | inl x=>simp
 | inr D =>
  have h1:=xzw hc;dsimp only;cases hd:accE (xSD kinds) L D with
  | inl x=>simp
  | inr D2 =>
   have h2:=xzw hd;simp only [List.length_nil] at h1;dsimp only;omega
theorem xDc (kinds ks:List Int) (L:List Per) (rows:List Row) (hr:RK ks rows) (h:AK L rows) (hl:rows.length<=18) (hk:ks.length<=524288) (hL:L.length<=524288) :
  ∃ S,xbV (kinds.map encN) (rows.map encR) (ks.map encN) (L.map encP)=some ((xUc kinds ks L).1.map encN,S.map encR)/\S.Perm (xSk ks L rows)/\Sorted cmpR S:=by
 obtain ⟨S,hS,hp,hs⟩:=xKk (xSk ks L rows) (xFu (by omega) hk hL) (by
  have:=(xeV (GK0 (fun r=>pick r ks) ks) rows).len
  have:=xED ks;unfold xSk;rw [za];omega)
 refine ⟨S,?_,hp,hs⟩;have hb:=xPr (xUc kinds ks L).1 (xSk ks L rows) S (by have:=xDI kinds ks L;omega) hS
 have ek:=xI0 kinds ks L (by omega) (by omega)
 have e:=xN1 ks (L.map encP) rows hr (kinds.map encN) (rows.map encR) (K0 ks) (xED ks) (G0 Row ks) (GK0 _ ks);have hG:=xeV (GK0 (fun r=>pick r ks) ks) rows
 have U:=hG.len;have hf:=xI1 (ks:=ks) h;have V:=xED ks;have e2:=xMC ks L (grpK (fun r=>pick r ks) (G0 Row ks) rows) (by omega) hf (by omega) (kinds.map encN) (rows.map encR)
 have ht:List.take (grpK (fun r=>pick r ks) (G0 Row ks) rows).length ((grpK (fun r=>pick r ks) (G0 Row ks) rows).map xSp)=(grpK (fun r=>pick r ks) (G0 Row ks) rows).map xSp:=zi (by simp)
 have ra:=xLi (grpK (fun r=>pick r ks) (G0 Row ks) rows)
 have O:xSk ks L rows=(grpK (fun r=>pick r ks) (G0 Row ks) rows).map (rowK ks L):=rfl
 rw [O] at hb;generalize grpK (fun r=>pick r ks) (G0 Row ks) rows=G at *
 have J:List.take G.length ((G.map (rowK ks L)).map encR)=(G.map (rowK ks L)).map encR:=zi (by simp)
 unfold xbV xtU;by_cases q:ks=[]
 . subst q;have e:Iter (xbd ((([]:List Int)).map encN) (L.map encP) (rows.map encR) ((rows.length:Nat):Int)) ((1:Nat),(0:Int),kinds.map encN,rows.map encR,[AV.agg [AV.str [],AV.int IntKind.i64 (0:Int)]],[AV.list (1:Nat) []])=_:=e;simp only [xmE,xmF,xmG,xmH,xmI,xmJ,xmK,xmL,xmM,xmN,xln,xlo,xlp,xlq,xlr,xls,xhr,xhs,xlt,xlu,xlv,xlw,xly,xlz,xlA,xlB,xlC,xlD,xlE,xlF,sBU,e,ht,J,ra,e2,ek,hb,zr,zd,List.length_nil,Int.natCast_zero]
 . have e:Iter (xbd (ks.map encN) (L.map encP) (rows.map encR) ((rows.length:Nat):Int)) ((0:Nat),(0:Int),kinds.map encN,rows.map encR,[],[])=some (G.length,kinds.map encN,rows.map encR,G.map xSp):=by
    have:=e;unfold G0 at this;rw [if_neg q] at this;exact this
   have Q:(((ks.length:Nat):Int)==0)=false:=by
    have:0<ks.length:=List.length_pos_iff.2 q;simp;exact q
   simp only [xmE,xmF,xmG,xmH,xmI,xmJ,xmK,xmL,xmM,xmN,xln,xlo,xlp,xlq,xlr,xls,xhr,xhs,xlt,xlu,xlv,xlw,xly,xlz,xlA,xlB,xlC,xlD,xlE,xlF,sBU,Q,e,ht,J,ra,e2,ek,hb,zr,zd]
abbrev Kd:=Row×Row
def encK (x:Kd):AV:=.agg [.list 3 (x.1.map encV),.list 3 (x.2.map encV)]
def cK (x y:Kd):Int:=cmpR x.1 y.1
theorem xFM:Cm cK:=xqb.on (e:=fun x:Kd=>x.1)
def leK (x y:Kd):Bool:=decide (¬ cK y x<0)
theorem cK0 (x:Kd):((encK x).cells.getD 0 .top).toList=x.1.map encV:=rfl
theorem cK1 (x:Kd):((encK x).cells.getD 1 .top).toList=x.2.map encV:=rfl
theorem sK0 (x:Kd):xTm (Sh.list 3) ((encK x).cells.getD 0 .top)=true:=rfl
theorem lK (x:Kd):((encK x).cells.length==2)=true:=rfl
theorem sK (x:Kd):xTt [Sh.list 3,Sh.list 3] (encK x).cells 0=true:=rfl
theorem xEg:∀ (n:Nat) (a b D:List Kd),a.length+b.length=n->D.length+n<=1048576->(∀ x,x∈a->x.1.length<=1048576)->(∀ x,x∈b->x.1.length<=1048576) ->
  ∃ a' b' D':List Kd,Iter xb5 (a.map encK,b.map encK,D.length,D.map encK)=some (a'.map encK,b'.map encK,D'.length,D'.map encK)/\D'++a'++b'=D++List.merge a b leK
 | n,[],b,D,hn,hD,ha,hb=>by
  refine ⟨[],b,D,xam ?_,by simp⟩
  simp [xb5,xft,xaO,sUF]
 | n,x::a,[],D,hn,hD,ha,hb=>by
  refine ⟨x::a,[],D,xam ?_,by simp⟩
  have h1:((a.length:Int)+1)>0:=by omega
  simp [xb5,xft,xaO,sUF]
 | n+1,x::a,y::b,D,hn,hD,ha,hb=>by
  have hc:=xwN y.1 x.1 (by have:=hb y (by simp);unfold maxLen;omega)
  have m1:(D.length+1)*48<=140737488355328:=by omega
  have m2:D.length+1<=4611686018427387904:=by omega
  have a1:(0:Int)<((a.length+1:Nat):Int):=by omega
  have a2:((a.length+1:Nat):Int)>0:=by omega
  have a3:0<a.length+1:=by omega
  have a4:(1:Int)<=((a.length+1:Nat):Int):=by omega
  have b1:(0:Int)<((b.length+1:Nat):Int):=by omega
  have b2:((b.length+1:Nat):Int)>0:=by omega
  have b3:0<b.length+1:=by omega
  have b4:(1:Int)<=((b.length+1:Nat):Int):=by omega
  have gx:((x::a).map encK).getD 0 .top=encK x:=rfl;have gy:((y::b).map encK).getD 0 .top=encK y:=rfl;have ta:List.take a.length (List.drop 1 ((x::a).map encK))=a.map encK:=zi (by simp)
  have tb:List.take b.length (List.drop 1 ((y::b).map encK))=b.map encK:=zi (by simp)
  simp only [zF] at hn;by_cases h:cmpR y.1 x.1<0
  . obtain ⟨a',b',D',e1,e2⟩:=xEg n (x::a) b (D++[y]) (by simp only [zF];omega) (by simp only [z8,zj];omega) ha (fun z hz=>hb z (List.mem_cons_of_mem _ hz))
    refine ⟨a',b',D',?_,?_⟩
    . rw [xaM (s':=((x::a).map encK,b.map encK,(D++[y]).length,(D++[y]).map encK)) ?_,e1];simp only [xb5,xft,sBU,zF,a1,a2,a3,a4,b1,b2,b3,b4,gx,gy,cK0,cK1,sK0,lK,sK,hc,h,m1,m2,Nat.add_sub_cancel,ta,tb,z8,zj,zx];rfl
    . rw [e2,List.cons_merge_cons];have hl:leK x y=false:=by unfold leK cK;simpa using h
      simp [hl]
  . obtain ⟨a',b',D',e1,e2⟩:=xEg n a (y::b) (D++[x]) (by simp only [zF];omega) (by simp only [z8,zj];omega) (fun z hz=>ha z (List.mem_cons_of_mem _ hz)) hb
    refine ⟨a',b',D',?_,?_⟩
    . rw [xaM (s':=(a.map encK,(y::b).map encK,(D++[x]).length,(D++[x]).map encK)) ?_,e1];simp only [xb5,xft,sBU,zF,a1,a2,a3,a4,b1,b2,b3,b4,gx,gy,cK0,cK1,sK0,lK,sK,hc,h,m1,m2,Nat.add_sub_cancel,ta,tb,z8,zj,zx];rfl
    . rw [e2,List.cons_merge_cons];have hl:leK x y=true:=by unfold leK cK;simpa using h
      simp [hl]
theorem xBm (x y:Kd):leK x y=true↔cK x y<=0:=by
 unfold leK;rw [zl,xFM.swap x y];omega
theorem xH3 {a b:List Kd} (ha:Sorted cK a) (hb:Sorted cK b):Sorted cK (List.merge a b leK):=by
 have conv:∀ l:List Kd,Sorted cK l↔l.Pairwise fun x y=>leK x y=true:=fun l=>by
  unfold Sorted;constructor
  . exact fun h=>h.imp fun h=>(xBm _ _).2 h
  . exact fun h=>h.imp fun h=>(xBm _ _).1 h
 rw [conv] at ha hb |-
 refine List.pairwise_merge (fun x y z h1 h2=>?_) (fun x y=>?_) a b ha hb
 . rw [xBm] at h1 h2 |-;exact xFM.trans _ _ _ h1 h2
 . rw [Bool.or_eq_true,xBm,xBm,xFM.swap x y];omega
theorem xI3:∀ (f:Nat) (l:List Kd),l.length<=2 ^ f->l.length<=1048576->(∀ x,x∈l->x.1.length<=1048576)->∃ r,xcm (f+1) (List.map encK l)=some (List.map encK r)/\r.Perm l/\Sorted cK r:=by
 intro f;induction f with
 | zero =>
  intro l hl O q;have h1:(l.length:Int)<2:=by simp at hl;omega
  refine ⟨l,?_,List.Perm.refl _,?_⟩
  . show xdc (xcm 0) (List.map encK l)=_;simp only [xdc,xhG,za,h1,zn,xaj,sUF]
  . match l,hl with
    | [],_=>exact List.Pairwise.nil
    | [x],_=>exact List.pairwise_singleton _ _
 | succ f ih =>
  intro l hl O q;by_cases h2:l.length<=1
  . have h1:(l.length:Int)<2:=by omega
    refine ⟨l,?_,List.Perm.refl _,?_⟩
    . show xdc (xcm (f+1)) (List.map encK l)=_;simp only [xdc,xhG,za,h1,zn,xaj,sUF]
    . match l,h2 with
      | [],_=>exact List.Pairwise.nil
      | [x],_=>exact List.pairwise_singleton _ _
  . have hp:2 ^ (f+1)=2*2 ^ f:=by rw [Nat.pow_succ];omega
    obtain ⟨m,hm⟩:∃ m,m=l.length / 2:=⟨_,rfl⟩;obtain ⟨r1,e1,p1,s1⟩:=ih (l.take m) (by simp;omega) (by simp;omega) (fun x hx=>q x (List.mem_of_mem_take hx))
    obtain ⟨r2,e2,p2,s2⟩:=ih (l.drop m) (by simp;omega) (by simp;omega) (fun x hx=>q x (List.mem_of_mem_drop hx))
    have l1:=p1.length_eq;have l2:=p2.length_eq;simp only [zt,y1] at l1 l2;obtain ⟨a',b',D',a1,a2⟩:=xEg _ r1 r2 [] rfl (by simp;omega) (fun x hx=>q x (List.mem_of_mem_take (p1.mem_iff.1 hx))) (fun x hx=>q x (List.mem_of_mem_drop (p2.mem_iff.1 hx)))
    rw [zU] at a2;have a1:Iter xb5 (r1.map encK,r2.map encK,0,[])=_:=a1;have J:(List.merge r1 r2 leK).Perm (r1++r2):=List.merge_perm_append leK;refine ⟨List.merge r1 r2 leK,?_,J.trans ((p1.append p2).trans (by rw [List.take_append_drop])),xH3 s1 s2⟩
    have Q:D'.length+a'.length+b'.length=l.length:=by
     have:=congrArg List.length a2;rw [J.length_eq] at this;simp only [z8] at this;omega
    rw [<-a2];have w:IntKind.i64.wrap ((l.length:Int).tdiv 2)=(m:Int):=by
     rw [Int.tdiv_eq_ediv_of_nonneg (by omega)]
     exact w64 (by omega) (by omega)
    have t1:List.take m (List.map encK l)=List.map encK (l.take m):=by simp
    have t2:List.take (l.length - m) (List.drop m (List.map encK l))=List.map encK (l.drop m):=by
     rw [zi (by simp)];simp
    have d0:¬ (l.length:Int)<2:=by omega
    have d2:(m:Int)<=(l.length:Int):=by omega
    have m1:(D'.length+a'.length)*48<=140737488355328:=by omega
    have m2:D'.length+a'.length<=4611686018427387904:=by omega
    have m3:(D'.length+a'.length+b'.length)*48<=140737488355328:=by omega
    have m4:D'.length+a'.length+b'.length<=4611686018427387904:=by omega
    have tt:List.take (D'.length+a'.length+b'.length) (D'.map encK++a'.map encK++b'.map encK)=(D'++a'++b').map encK:=by
     rw [zi (by simp;omega)];simp
    show xdc (xcm (f+1)) (List.map encK l)=_;simp only [xdc,xhG,xj1,xj2,xtC,xtD,xtE,xtF,xtG,xtH,xtI,xtJ,xsh,xsi,xsj,xsk,  sBU,d0,w,zr,t1,t2,e1,e2,d2,a1,m1,m2,m3,m4,z8,zd,tt]
theorem xOc (rows:List Row) (L:List Per) (h:AK L rows) (D0:Row) (hD:D0.length<=1048576) :
  Iter (xge (rows.map encR) (L.map encP)) (D0.length,(0:Int),D0.map encV)=some ((D0++xSo rows L).length,(D0++xSo rows L).map encV):=by
 refine xjw (step:=xge (rows.map encR) (L.map encP)) L (fun (D:Row) p=>D++[aggV rows p.1 p.2]) (fun n D=>(List.length D,(n:Int),D.map encV)) (fun n D=>List.length D<=D0.length+n) (fun n hn D hD=>?_) L.length 0 D0 (by omega) (by simp) ?_
 . have hl:=h.ll;have h1:(n:Int)<(L.length:Int):=by omega
   have gf:(L.map encP).getD n .top=encP L[n]:=xad _ _ _ hn;have m1:(List.length D+1)*32<=140737488355328:=by omega
   have m2:List.length D+1<=4611686018427387904:=by omega
   have hm:=zo hn;have ea:=xPj rows L[n].1 L[n].2 h.len (h.col _ hm) h.rng;refine ⟨?_,by simp only [z8,zj];omega⟩
   simp only [xge,xrP,xuX,xuY,sBU,hn,h1,gf,cP0,cP1,lP,sP,sP0,sP1,ea,trip,m1,m2,xSj (n:=n) (by omega),z8,zj,zx,zV,zW]
   rfl
 . simp only [xge,xrP,za,zy,zm,xag,zr,xuy,sUF];rfl
theorem xMW (key:Row) (rows:List Row) (L:List Per) (h:AK L rows) (hk:key.length<=1048576):xt9 (key.map encV) (rows.map encR) (L.map encP)=some ((key++xSo rows L).map encV):=by
 have e:=xOc rows L h key hk;generalize key++xSo rows L=Z at e |-;have tt:List.take (List.length Z) (Z.map encV)=Z.map encV:=zi (by simp)
 have m1:List.length key*32<=140737488355328:=by omega
 have m2:List.length key<=4611686018427387904:=by omega
 unfold xt9 xAU;simp only [xzx,xz0,xz1,xz2,sBU,zU,m1,m2,e,tt,zr,zd]
theorem xK1 (l:List AV) (rows:List Row) (ks:List Int) (hl:rows.length<=1048576) (hk:ks.length<=1048576) (b0 o0:List AV) (on:Nat) (B:List AV) :
  Iter (xdr (ks.map encN) l) ((0:Nat),(0:Int),b0,rows.map encR,o0,on,[],B)=some (rows.length,o0,on,(rows.map fun r=>((pick r ks,r):Kd)).map encK,B):=by
 have key:=xjw (step:=xdr (ks.map encN) l) (r:=(rows.length,o0,on,(rows.map fun r=>((pick r ks,r):Kd)).map encK,B)) rows (fun (D:List Kd) r=>D++[(pick r ks,r)]) (fun n D=>(D.length,(n:Int),b0,rows.map encR,o0,on,D.map encK,B)) (fun n D=>D.length<=n) (fun n hn D hD=>?_) rows.length 0 [] (by omega) (by simp) ?_
 . exact key
 . have h1:(n:Int)<(rows.length:Int):=by omega
   have gf:(rows.map encR).getD n .top=encR rows[n]:=xad _ _ _ hn;have m1:(D.length+1)*48<=140737488355328:=by omega
   have m2:D.length+1<=4611686018427387904:=by omega
   have ep:=xOh rows[n] ks hk;refine ⟨?_,by simp only [z8,zj];omega⟩
   simp only [xdr,xoj,sBU,hn,h1,gf,cR0,sR0,ep,m1,m2,xSj (n:=n) (by omega),z8,zj,zx,zV,zW]
   rfl
 . simp only [xdr,xoj,za,zy,zm,xag,zr,xuy,zU,sUF]
theorem xNr {l l':List Val} (h:l.Perm l'):sumI l=sumI l':=by
 induction h with
 | nil=>rfl
 | cons x _ ih=>simp only [sumI,ih]
 | swap x y l=>simp only [sumI];omega
 | trans _ _ h1 h2=>exact h1.trans h2
def Ext (op:Int) (m:Val) (l:List Val):Prop:=m∈l/\∀ x,x∈l->(op=3->cmpV m x<=0)/\(op=4->cmpV x m<=0)
theorem xCO (op:Int) (ho:op=3\/op=4):∀ (l:List Val) (o:Val),Ext op (extV op o l) (o::l)
 | [],o=>⟨by simp [extV],fun x hx=>by
  simp only [zv] at hx;subst hx;have:=xzD.swap x x;exact ⟨fun _=>by show cmpV x x<=0;omega,fun _=>by show cmpV x x<=0;omega⟩⟩
 | v::l,o=>by
  have e:extV op o (v::l)=extV op (ext1 op o v) l:=by unfold extV;rw [List.foldl_cons]
  rw [e];obtain ⟨h1,h2⟩:=xCO op ho l (ext1 op o v);have hm:ext1 op o v=v\/ext1 op o v=o:=by unfold ext1;split<;>simp
  refine ⟨?_,fun x hx=>?_⟩
  . rcases zC.1 h1 with h|h
    . rw [h];rcases hm with h|h<;>rw [h]<;>simp
    . simp [h]
  . have h0:=h2 (ext1 op o v) (by simp)
    have q:(op=3->cmpV (ext1 op o v) o<=0/\cmpV (ext1 op o v) v<=0)/\(op=4->cmpV o (ext1 op o v)<=0/\cmpV v (ext1 op o v)<=0):=by
     have s1:=xzD.swap v o;have s2:=xzD.swap v v;have s3:=xzD.swap o o;unfold ext1;rcases ho with rfl|rfl
     . refine ⟨fun _=>?_,fun h=>by omega⟩
       by_cases hc:cmpV v o<0
       . rw [if_pos (.inl ⟨rfl,hc⟩)];omega
       . rw [if_neg (by omega)];omega
     . refine ⟨fun h=>by omega,fun _=>?_⟩
       by_cases hc:cmpV v o>0
       . rw [if_pos (.inr ⟨rfl,hc⟩)];omega
       . rw [if_neg (by omega)];omega
    rcases zC.1 hx with rfl|hx
    . exact ⟨fun h=>xzD.trans _ _ _ (h0.1 h) (q.1 h).1,fun h=>xzD.trans _ _ _ (q.2 h).1 (h0.2 h)⟩
    . rcases zC.1 hx with rfl|hx
      . exact ⟨fun h=>xzD.trans _ _ _ (h0.1 h) (q.1 h).2,fun h=>xzD.trans _ _ _ (q.2 h).2 (h0.2 h)⟩
      . exact h2 x (List.mem_cons_of_mem _ hx)
theorem Ext.unique {op:Int} (ho:op=3\/op=4) {m m':Val} {l l':List Val} (h:Ext op m l) (h':Ext op m' l') (hp:l.Perm l'):m=m':=by
 have a1:=h.2 m' (hp.mem_iff.2 h'.1);have a2:=h'.2 m (hp.mem_iff.1 h.1);have s:=xzD.swap m m';refine xGd ?_;rcases ho with rfl|rfl
 . have:=a1.1 rfl;have:=a2.1 rfl;omega
 . have:=a1.2 rfl;have:=a2.2 rfl;omega
theorem xMh (a:Int) {rows q:List Row} (h:rows.Perm q):(colV rows a).Perm (colV q a):=h.flatMap_right _
theorem xL4 {rows q:List Row} (h:rows.Perm q) {op a:Int} (ho:1<=op/\op<=4):aggV rows op a=aggV q op a:=by
 have hc:=xMh a h;unfold aggV;rw [h.length_eq,hc.length_eq];generalize colV rows a=l at hc |-;generalize colV q a=l' at hc |-;split
 . rfl
 split
 . rfl
 rename_i h1;cases l with
 | nil =>
  have:=hc.symm.eq_nil;subst this;rfl
 | cons v l =>
  cases l' with
  | nil=>have:=hc.eq_nil;simp at this
  | cons v' l' =>
   dsimp only;by_cases h2:op=2
   . rw [if_pos h2,if_pos h2,xNr hc]
   . rw [if_neg h2,if_neg h2];have ho':op=3\/op=4:=by omega
     exact Ext.unique ho' (xCO op ho' l v) (xCO op ho' l' v') hc
theorem xEF {rows q:List Row} (h:rows.Perm q) {L:List Per} (hL:∀ p,p∈L->1<=p.1/\p.1<=4):xSo rows L=xSo q L:=by
 unfold xSo;exact List.map_congr_left fun p hp=>xL4 h (hL p hp)
def runR (key:Row) (l:List Kd):List Row:=(l.takeWhile fun x=>decide (x.1=key)).map (·.2)
theorem sK1 (x:Kd):xTm (Sh.list 3) ((encK x).cells.getD 1 .top)=true:=rfl
theorem xIu (l:List AV) (all:List Kd) (ha:all.length<=1048576) (hs:∀ x,x∈all->x.1.length<=1048576) (i:Nat) (hi:i<all.length) (o0:List AV) (on:Nat) (B:List AV) :
  ∀ (d k:Nat) (D:List Row),k+d=all.length->D.length<=k->Iter (xds l (all.map encK) (i:Int)) (D.length,(k:Int),o0,on,D.map encR,B) =
   some ((D++runR all[i].1 (all.drop k)).length,((k+(runR all[i].1 (all.drop k)).length:Nat):Int),o0,on,(D++runR all[i].1 (all.drop k)).map encR,B)
 | 0,k,D,hk,hD=>by
  have:k=all.length:=by omega
  subst this;have e:runR all[i].1 (all.drop all.length)=[]:=by rw [zq (zd _)];rfl
  rw [e];refine xam ?_;simp only [xds,xjQ,za,zy,zm,xag,zD,List.length_nil,Nat.add_zero,sUF]
 | d+1,k,D,hk,hD=>by
  have q:k<all.length:=by omega
  have h1:(k:Int)<(all.length:Int):=by omega
  have h2:(i:Int)<(all.length:Int):=by omega
  have gk:(all.map encK).getD k .top=encK all[k]:=xad _ _ _ q;have gi:(all.map encK).getD i .top=encK all[i]:=xad _ _ _ hi;have eq:=xIp all[k].1 all[i].1 (by have:=hs _ (zo q);unfold maxLen;omega)
  have m1:(D.length+1)*24<=140737488355328:=by omega
  have m2:D.length+1<=4611686018427387904:=by omega
  by_cases he:all[k].1=all[i].1
  . have hc:(cmpR all[k].1 all[i].1==0)=true:=by
     rw [he];have:=xqb.swap all[i].1 all[i].1;simp;omega
    have er:runR all[i].1 (all.drop k)=all[k].2::runR all[i].1 (all.drop (k+1)):=by
     rw [xaR q];unfold runR;rw [List.takeWhile_cons,if_pos (by simpa using he)];rfl
    have ih:=xIu l all ha hs i hi o0 on B d (k+1) (D++[all[k].2]) (by omega) (by simp;omega)
    rw [xaM (s':=((D++[all[k].2]).length,((k+1:Nat):Int),o0,on,(D++[all[k].2]).map encR,B)) ?_,ih,er]
    . have e1:D++[all[k].2]++runR all[i].1 (all.drop (k+1))=D++all[k].2::runR all[i].1 (all.drop (k+1)):=by simp
      rw [e1,zF];have e2:k+1+(runR all[i].1 (all.drop (k+1))).length=k+((runR all[i].1 (all.drop (k+1))).length+1):=by omega
      rw [e2]
    . simp only [xds,xjQ,sBU,q,hi,h1,h2,gk,gi,cK0,cK1,sK0,sK1,eq,hc,m1,m2,xSj (n:=k) (by omega),z8,zj,zx,zV,zW]
      rfl
  . have hc:(cmpR all[k].1 all[i].1==0)=false:=by
     rw [beq_eq_false_iff_ne];exact fun h=>he (xkG h)
    have er:runR all[i].1 (all.drop k)=[]:=by
     rw [xaR q];unfold runR;rw [List.takeWhile_cons,if_neg (by simpa using he)];rfl
    rw [er];refine xam ?_;simp only [xds,xjQ,sBU,q,hi,h1,h2,gk,gi,cK0,cK1,sK0,sK1,eq,hc,zD,List.length_nil,Nat.add_zero]
def xSu:Nat->List Kd->List (Row×List Row)
 | 0,_=>[]
 | _+1,[]=>[]
 | n+1,x::l=>(x.1,runR x.1 (x::l))::xSu n ((x::l).drop (runR x.1 (x::l)).length)
def rowG (L:List Per) (g:Row×List Row):Row:=g.1++xSo g.2 L
theorem xIt (x:Kd) (l:List Kd):0<(runR x.1 (x::l)).length:=by
 unfold runR;rw [List.takeWhile_cons,if_pos (by simp)]
 simp
theorem xP7 (key:Row) (l:List Kd):(runR key l).length<=l.length:=by
 unfold runR;rw [za];exact (List.takeWhile_sublist _).length_le
theorem xOB (key:Row) (l:List Kd):∀ r,r∈runR key l->r∈l.map (·.2):=fun r hr=>by
 unfold runR at hr;obtain ⟨x,hx,rfl⟩:=zK.1 hr;exact zK.2 ⟨x,(List.takeWhile_sublist _).subset hx,rfl⟩
theorem xC9 (L:List Per) (all:List Kd) (ha:all.length<=1048576) (hs:∀ x,x∈all->x.1.length<=1048576) (h:AK L (all.map (·.2))) (o0:List AV) :
  ∀ (n i:Nat) (O:List Row),all.length<=i+n->i<=all.length->O.length<=i+1 ->
   Iter (xbZ (L.map encP) (all.map encK)) ((i:Int),o0,O.length,O.map encR)=some (o0,(O++(xSu n (all.drop i)).map (rowG L)).length,(O++(xSu n (all.drop i)).map (rowG L)).map encR)
 | 0,i,O,hn,hi,hO=>by
  have:i=all.length:=by omega
  subst this;refine xam ?_;simp only [xbZ,xjP,za,zy,zm,xag,xSu,zW,zD,sUF]
 | n+1,i,O,hn,hi,hO=>by
  by_cases q:i<all.length
  . have h1:(i:Int)<(all.length:Int):=by omega
    have gi:(all.map encK).getD i .top=encK all[i]:=xad _ _ _ q;have er:=xIu (L.map encP) all ha hs i q o0 O.length (O.map encR) (all.length - i) i [] (by omega) (by simp)
    simp only [zU] at er;have er:Iter (xds (L.map encP) (all.map encK) (i:Int)) (0,(i:Int),o0,O.length,[],O.map encR)=_:=er;have hd:all.drop i=all[i]::all.drop (i+1):=xaR q;have V:0<(runR all[i].1 (all.drop i)).length:=by rw [hd];exact xIt _ _
    have J:=xP7 all[i].1 (all.drop i);rw [y1] at J;have U:AK L (runR all[i].1 (all.drop i)):=h.sub (by rw [za];omega) fun r hr=>by
     obtain ⟨x,hx,e⟩:=zK.1 (xOB _ _ r hr);exact zK.2 ⟨x,List.mem_of_mem_drop hx,e⟩
    have eo:=xMW all[i].1 (runR all[i].1 (all.drop i)) L U (hs _ (zo q));have Q:xSu (n+1) (all.drop i)=(all[i].1,runR all[i].1 (all.drop i))::xSu n (all.drop (i+(runR all[i].1 (all.drop i)).length)):=by
     rw [hd];show _::xSu n (List.drop _ _)=_;rw [<-hd,List.drop_drop]
    have ih:=xC9 L all ha hs h o0 n (i+(runR all[i].1 (all.drop i)).length) (O++[rowG L (all[i].1,runR all[i].1 (all.drop i))]) (by omega) (by omega) (by simp;omega)
    have tt:List.take (runR all[i].1 (all.drop i)).length ((runR all[i].1 (all.drop i)).map encR)=(runR all[i].1 (all.drop i)).map encR:=zi (by simp)
    have m1:(O.length+1)*24<=140737488355328:=by omega
    have m2:O.length+1<=4611686018427387904:=by omega
    rw [xaM (s':=(((i+(runR all[i].1 (all.drop i)).length:Nat):Int),o0,(O++[rowG L (all[i].1,runR all[i].1 (all.drop i))]).length,(O++[rowG L (all[i].1,runR all[i].1 (all.drop i))]).map encR)) ?_,ih,Q]
    . simp
    . simp only [xbZ,xjP,xmy,xr7,xr8,xr9,xsa,xsb,xsc,xsd,xse,xsf,xqP,xqQ,sBU,q,h1,gi,cK0,sK0,er,eo,tt,m1,m2,zr,zd,z8,zj,zx,zV,zW];simp [encR,rowG]
  . have:i=all.length:=by omega
    subst this;have e:xSu (n+1) (all.drop all.length)=[]:=by rw [zq (zd _)];rfl
    rw [e];refine xam ?_;simp only [xbZ,xjP,za,zy,zm,xag,zW,zD,sUF]
theorem xHG (key:Row):∀ l:List Kd,l.drop (runR key l).length=l.dropWhile fun x=>decide (x.1=key)
 | []=>rfl
 | x::l=>by
  unfold runR;rw [List.takeWhile_cons,List.dropWhile_cons];by_cases h:x.1=key
  . rw [if_pos (by simpa using h),if_pos (by simpa using h)]
    have:=xHG key l;unfold runR at this;simpa using this
  . rw [if_neg (by simpa using h),if_neg (by simpa using h)];rfl
theorem xP3 {x:Kd} {l:List Kd} (hs:Sorted cK (x::l)):∀ z,z∈(x::l).dropWhile (fun y=>decide (y.1=x.1))->z.1≠x.1:=by
 have hx:=(zM.1 hs).1;have hl:=(zM.1 hs).2;rw [List.dropWhile_cons,if_pos (by simp)]
 clear hs;induction l with
 | nil=>intro z hz;simp at hz
 | cons y l ih =>
  intro z hz;rw [List.dropWhile_cons] at hz;by_cases h:y.1=x.1
  . rw [if_pos (by simpa using h)] at hz
    exact ih (fun w hw=>hx w (List.mem_cons_of_mem _ hw)) (zM.1 hl).2 z hz
  . rw [if_neg (by simpa using h)] at hz
    intro e;have h1:=hx y (by simp)
    have h2:cK y z<=0:=by
     rcases zC.1 hz with rfl|hz
     . have:=xFM.swap z z;omega
     . exact (zM.1 hl).1 z hz
    have h3:cK z x=0:=by
     show cmpR z.1 x.1=0;rw [e];have:=xqb.swap x.1 x.1;omega
    have h4:cK y x<=0:=xFM.trans y z x h2 (by omega)
    have h5:=xFM.swap x y;exact h (xkG (x:=y.1) (y:=x.1) (show cK y x=0 by omega))
theorem xAj {α:Type} (p:α->Bool):∀ l:List α,(∀ z,z∈l.dropWhile p->p z=false)->l.takeWhile p=l.filter p
 | [],_=>rfl
 | x::l,h=>by
  rw [List.dropWhile_cons] at h;rw [List.takeWhile_cons,List.filter_cons];by_cases hx:p x=true
  . rw [if_pos hx] at h |-;rw [if_pos hx,xAj p l h]
  . rw [if_neg hx] at h |-;rw [if_neg hx];symm;rw [List.filter_eq_nil_iff];intro z hz;rw [h z (List.mem_cons_of_mem _ hz)];simp
theorem xGQ:∀ (n:Nat) (S:List Kd),S.length<=n->Sorted cK S->((xSu n S).map (·.1)).Nodup/\(∀ r,r∈(xSu n S).map (·.1)↔∃ x,x∈S/\x.1=r)/\∀ g,g∈xSu n S->g.2=(S.filter fun x=>decide (x.1=g.1)).map (·.2)
 | 0,S,hn,hs=>by
  have:S=[]:=List.length_eq_zero_iff.1 (by omega)
  subst this;exact ⟨List.nodup_nil,fun r=>by simp [xSu],fun g hg=>by simp [xSu] at hg⟩
 | n+1,[],hn,hs=>⟨List.nodup_nil,fun r=>by simp [xSu],fun g hg=>by simp [xSu] at hg⟩
 | n+1,x::l,hn,hs=>by
  have hne:=xP3 hs;have q:=List.takeWhile_append_dropWhile (p:=fun y:Kd=>decide (y.1=x.1)) (l:=x::l)
  have O:=xHG x.1 (x::l);have aa:=xIt x l;have V:xSu (n+1) (x::l)=(x.1,runR x.1 (x::l))::xSu n ((x::l).dropWhile fun y=>decide (y.1=x.1)):=by
   show _::xSu n _=_;rw [O]
  have Q:runR x.1 (x::l)=((x::l).filter fun y=>decide (y.1=x.1)).map (·.2):=by
   unfold runR;rw [xAj _ _ fun z hz=>by simpa using hne z hz]
  have Y:((x::l).dropWhile fun y=>decide (y.1=x.1)).length<=n:=by
   rw [<-O,y1];omega
  have Z:Sorted cK ((x::l).dropWhile fun y=>decide (y.1=x.1)):=List.Pairwise.sublist (List.dropWhile_sublist _) hs
  have J:∀ y,y∈(x::l).takeWhile (fun y=>decide (y.1=x.1))->y.1=x.1:=fun y hy=>by
   have:=zI.1 (List.all_takeWhile (p:=fun y:Kd=>decide (y.1=x.1)) (l:=x::l)) y hy
   simpa using this
  generalize hT:(x::l).dropWhile (fun y=>decide (y.1=x.1))=T at *
  generalize hW:(x::l).takeWhile (fun y=>decide (y.1=x.1))=W at *
  obtain ⟨i1,i2,i3⟩:=xGQ n T Y Z;rw [V];refine ⟨?_,fun r=>?_,fun g hg=>?_⟩
  . rw [zV,List.nodup_cons];refine ⟨fun h=>?_,i1⟩
    obtain ⟨y,hy,e⟩:=(i2 _).1 h;exact hne y hy e
  . rw [zV,zC,i2];constructor
    . rintro (rfl|⟨y,hy,e⟩)
      . exact ⟨x,by simp,rfl⟩
      . exact ⟨y,by rw [<-q];exact List.mem_append_right _ hy,e⟩
    . rintro ⟨y,hy,e⟩;rw [<-q] at hy;rcases zG.1 hy with hy|hy
      . left;rw [<-e];exact J y hy
      . exact .inr ⟨y,hy,e⟩
  . rcases zC.1 hg with rfl|hg
    . exact Q
    . have U:g.1≠x.1:=by
       obtain ⟨y,hy,e⟩:=(i2 g.1).1 (zK.2 ⟨g,hg,rfl⟩);rw [<-e];exact hne y hy
      have hz:W.filter (fun y=>decide (y.1=g.1))=[]:=by
       rw [List.filter_eq_nil_iff];intro y hy h;simp only [zl] at h;exact U (by rw [<-h];exact J y hy)
      rw [i3 g hg,<-q,List.filter_append,hz,zU]
def rowOf (ks:List Int) (L:List Per) (rows:List Row) (r:Row):Row:=r++xSo (rows.filter fun a=>decide (pick a ks=r)) L
theorem xjH (ks:List Int) (L:List Per) (rows:List Row):xSk ks L rows=((grpK (fun r=>pick r ks) (G0 Row ks) rows).map (·.1)).map (rowOf ks L rows):=by
 have hG:=xeV (GK0 (fun r=>pick r ks) ks) rows
 unfold xSk;rw [List.map_map];refine List.map_congr_left fun g hg=>?_
 have hp:=hG.ps g hg;have hk:=(hG.mem g.1).1 (zK.2 ⟨g,hg,rfl⟩);show rowK ks L g=rowOf ks L rows g.1;unfold rowK rowOf;rw [<-hp];congr 1;by_cases h:ks=[]
 . rw [if_pos h];subst h;rcases hk with hk|⟨a,_,e⟩
   . unfold K0 at hk;rw [if_pos rfl,zv] at hk;exact hk.symm
   . rw [<-e];rfl
 . rw [if_neg h];rcases hk with hk|⟨a,ha,e⟩
   . unfold K0 at hk;rw [if_neg h] at hk;simp at hk
   . have hm:a∈g.2:=by rw [hp];exact List.mem_filter.2 ⟨ha,by simpa using e⟩
     cases q:g.2 with
     | nil=>rw [q] at hm;simp at hm
     | cons b t =>
      have hb:b∈rows.filter (fun a=>decide (pick a ks=g.1)):=by rw [<-hp,q];simp
      have:=(List.mem_filter.1 hb).2;simpa using this
theorem xNj (ks:List Int) (L:List Per) (rows:List Row) (hL:∀ p,p∈L->1<=p.1/\p.1<=4) (S:List Kd) (hS:S.Perm (rows.map fun r=>((pick r ks,r):Kd))) (hs:Sorted cK S) (hne:ks≠[]\/rows≠[]) :
  ((xSu S.length S).map (rowG L)).Perm (xSk ks L rows):=by
 obtain ⟨h1,h2,h3⟩:=xGQ S.length S (zd _) hs;have hG:=xeV (GK0 (fun r=>pick r ks) ks) rows
 have e1:(xSu S.length S).map (rowG L)=((xSu S.length S).map (·.1)).map (rowOf ks L rows):=by
  rw [List.map_map];refine List.map_congr_left fun g hg=>?_
  show g.1++xSo g.2 L=g.1++_;congr 1;refine xEF ?_ hL;rw [h3 g hg];refine ((hS.filter _).map _).trans ?_;rw [List.filter_map,List.map_map];have:((fun x:Kd=>x.2)∘fun r=>((pick r ks,r):Kd))=id:=rfl
  rw [this,List.map_id];exact List.Perm.refl _
 rw [e1,xjH];refine List.Perm.map _ ((List.perm_ext_iff_of_nodup h1 hG.nd).2 fun r=>?_)
 rw [h2,hG.mem];constructor
 . rintro ⟨x,hx,e⟩;obtain ⟨a,ha,rfl⟩:=zK.1 (hS.mem_iff.1 hx);exact .inr ⟨a,ha,e⟩
 . rintro (h0|⟨a,ha,e⟩)
   . by_cases h:ks=[]
     . unfold K0 at h0;rw [if_pos h] at h0;have hr:rows≠[]:=hne.resolve_left (fun c=>c h)
       obtain ⟨a,t,rfl⟩:=List.exists_cons_of_ne_nil hr;refine ⟨(pick a ks,a),hS.mem_iff.2 (by simp),?_⟩
       subst h;simp only [zv] at h0;rw [h0];rfl
     . unfold K0 at h0;rw [if_neg h] at h0;simp at h0
   . exact ⟨(pick a ks,a),hS.mem_iff.2 (zK.2 ⟨a,ha,rfl⟩),e⟩
theorem xDR (kinds ks:List Int) (L:List Per) (rows:List Row) (h:AK L rows) (hl:rows.length<=524288) (hk:ks.length<=524288) (hL:L.length<=524288) (ad:∀ p,p∈L->1<=p.1/\p.1<=4) :
  ∃ S,xfP (kinds.map encN) (rows.map encR) (ks.map encN) (L.map encP)=some ((xUc kinds ks L).1.map encN,S.map encR)/\S.Perm (xSk ks L rows)/\Sorted cmpR S:=by
 have ek:=xwx kinds ks L (by omega) (by omega)
 have el:=xK1 (L.map encP) rows ks (by omega) (by omega) (kinds.map encN) ((xUc kinds ks L).1.map encN) 0 []
 have O:(rows.map fun r=>((pick r ks,r):Kd)).length=rows.length:=by simp
 have ag:(524288:Nat)<=2 ^ 99:=by decide
 have J:∀ x,x∈(rows.map fun r=>((pick r ks,r):Kd))->x.1.length<=1048576:=fun x hx=>by
  obtain ⟨r,_,rfl⟩:=zK.1 hx;show List.length (pick r ks)<=_;rw [xtt];omega
 obtain ⟨Q,hQ,hp,hs⟩:=xI3 99 _ (by rw [O];omega) (by rw [O];omega) J
 have Y:Q.length=rows.length:=by rw [hp.length_eq,O]
 have t1:List.take rows.length ((rows.map fun r=>((pick r ks,r):Kd)).map encK)=(rows.map fun r=>((pick r ks,r):Kd)).map encK:=zi (by simp)
 have hQ:xcm 100 ((rows.map fun r=>((pick r ks,r):Kd)).map encK)=some (Q.map encK):=hQ
 have aa:AK L (Q.map (·.2)):=h.sub (by rw [za];omega) fun r hr=>by
  obtain ⟨x,hx,rfl⟩:=zK.1 hr;obtain ⟨a,ha,rfl⟩:=zK.1 (hp.mem_iff.1 hx);exact ha
 have U:=xFu (ks:=ks) (L:=L) hl hk hL;by_cases hne:ks≠[]\/rows≠[]
 . have er:=xC9 L Q (by omega) (fun x hx=>J x (hp.mem_iff.1 hx)) aa ((xUc kinds ks L).1.map encN) Q.length 0 [] (by omega) (by omega) (by simp)
   simp only [zr,zU] at er;have er:Iter (xbZ (L.map encP) (Q.map encK)) ((0:Int),(xUc kinds ks L).1.map encN,0,[])=_:=er;have q:=xNj ks L rows ad Q hp hs hne;generalize (xSu Q.length Q).map (rowG L)=Z at er q;obtain ⟨S,hS,W,V⟩:=xB0 Z (U.perm q);refine ⟨S,?_,W.trans q,V⟩;have t2:List.take Z.length (Z.map encR)=Z.map encR:=zi (by simp)
   have hb:((((Q.length:Nat):Int)==0)&&(((ks.length:Nat):Int)==0))=false:=by
    rcases hne with c|c
    . have:0<ks.length:=List.length_pos_iff.2 c;have:(((ks.length:Nat):Int)==0)=false:=by simp;exact c
      rw [this];simp
    . have:0<rows.length:=List.length_pos_iff.2 c;have:(((Q.length:Nat):Int)==0)=false:=by rw [Y];simp;exact c
      rw [this];simp
   unfold xfP xs5 xpI;simp only [xrF,xrG,xrH,xrI,xrJ,xrK,xrL,xrM,xrN,xrO,xpJ,xpK,xkx,xk0,xk1,xpL,xk2,xpM,xpN,xpO,xpP,xpQ,xpR,xpS,xpT,sBU,ek,el,t1,hQ,er,t2,hS,zr,zd];cases c1:(((Q.length:Nat):Int)==0) with
   | false=>simp only [xag,sUF]
   | true =>
    cases c2:(((ks.length:Nat):Int)==0) with
    | false=>simp only [xag,xaj,sUF]
    | true=>rw [c1,c2] at hb;simp at hb
 . have af:ks=[]:=Classical.byContradiction fun c=>hne (.inl c)
   have ac:rows=[]:=Classical.byContradiction fun c=>hne (.inr c)
   subst af ac;have ab:Q=[]:=List.length_eq_zero_iff.1 Y;subst ab;have eo:=xMW [] [] L h (by simp)
   have eo:xt9 [] [] (L.map encP)=_:=eo;have er:=xC9 L [] (by simp) (by simp) aa ((xUc kinds [] L).1.map encN) 0 0 [xSo [] L] (by simp) (by simp) (by simp)
   have er:Iter (xbZ (L.map encP) []) ((0:Int),(xUc kinds [] L).1.map encN,1,[encR (xSo [] L)])=some ((xUc kinds [] L).1.map encN,1,[encR (xSo [] L)]):=er;have ae:xSk [] L []=[xSo [] L]:=rfl;rw [ae] at U |-;obtain ⟨S,hS,W,V⟩:=xB0 [xSo [] L] U;refine ⟨S,?_,W,V⟩;have hS:xiL [encR (xSo [] L)]=some (S.map encR):=hS;have el:Iter (xdr [] (L.map encP)) ((0:Nat),(0:Int),kinds.map encN,[],(xUc kinds [] L).1.map encN,0,[],[])=some (0,(xUc kinds [] L).1.map encN,0,[],[]):=el;have hQ:xcm 100 []=some []:=hQ;have ek:xbk (kinds.map encN) [] (L.map encP)=_:=ek;have e1:[AV.list 3 ((xSo [] L).map encV)]=[encR (xSo [] L)]:=rfl;unfold xfP xs5 xpI;simp only [xrF,xrG,xrH,xrI,xrJ,xrK,xrL,xrM,xrN,xrO,xpJ,xpK,xkx,xk0,xk1,xpL,xk2,xpM,xpN,xpO,xpP,xpQ,xpR,xpS,xpT,sBU,zW,ek,el,hQ,eo,zU,zr,List.take_nil,List.length_nil,Int.natCast_zero,zd,e1,er,hS,List.take_succ_cons,List.take_zero,zj];rfl
def xSl (ks:List Int) (l:List Fc):List (Row×List Fc):=if ks=[] then [([],l)] else grpK (fun f:Fc=>pick f.r ks) [] l
theorem xLh (G:List (Row×List Fc)):xTU 3 0 (G.map xSs)=true:=by
 unfold xTU;simp only [List.all_map,zI];intro g hg;rfl
theorem xKA (ks:List Int) (l:List Fc) (h:FK ks l):xjD (l.map encF) (ks.map encN)=some ((xSl ks l).map xSs):=by
 unfold xjD xp8 xSl;by_cases q:ks=[]
 . subst q;rw [if_pos rfl];rfl
 . rw [if_neg q];have J:(((ks.length:Nat):Int)==0)=false:=by simp;exact q
   have e:=xNG ks l h [] (by simp) [] GK.nil
   have e:Iter (xby (ks.map encN) (l.map encF) ((l.length:Nat):Int)) ((0:Nat),(0:Int),[],[])=_:=e;have ra:=xLh (grpK (fun f:Fc=>pick f.r ks) [] l)
   generalize grpK (fun f:Fc=>pick f.r ks) [] l=G at *
   have tt:List.take G.length (G.map xSs)=G.map xSs:=zi (by simp)
   simp only [xoT,xoU,xoV,xoW,xoX,sBU,J,e,tt,ra,zr,zd]
abbrev Asc (l:List Int):Prop:=l.Pairwise fun x y=>x<y
def insI:List Int->Int->List Int
 | [],n=>[n]
 | x::l,n=>if x<n then x::insI l n else if n<x then n::x::l else x::l
theorem xtp:∀ (l:List Int) (n x:Int),x∈insI l n↔x=n\/x∈l
 | [],n,x=>by simp [insI]
 | y::l,n,x=>by
  unfold insI;split
  . rw [zC,xtp l n x,zC];constructor<;>rintro (h|h|h)<;>simp [h]
  . split
    . simp
    . have:y=n:=by omega
      subst this;simp
theorem xwo:∀ {l:List Int},Asc l->∀ n,Asc (insI l n)
 | [],_,n=>by simp [insI,Asc]
 | y::l,h,n=>by
  obtain ⟨h1,h2⟩:=zM.1 h;unfold insI;split
  . refine zM.2 ⟨fun z hz=>?_,xwo h2 n⟩
    rcases (xtp l n z).1 hz with rfl|hz
    . assumption
    . exact h1 z hz
  . split
    . rename_i hn;refine zM.2 ⟨fun z hz=>?_,h⟩
      rcases zC.1 hz with rfl|hz
      . exact hn
      . have:=h1 z hz;omega
    . exact h
theorem xqw:∀ (l:List Int) (n:Int),(insI l n).length<=l.length+1
 | [],n=>by simp [insI]
 | y::l,n=>by
  unfold insI;have:=xqw l n;repeat' split
  all_goals simp
  all_goals omega
theorem xD9 (n:Int):∀ l:List Int,∃ m,m<=l.length/\(∀ k (h:k<m) (h2:k<l.length),l[k]<n)/\(∀ h:m<l.length,¬ l[m]<n)/\insI l n=l.take m++(if h:m<l.length then (if n<l[m] then n::l.drop m else l.drop m) else [n])
 | []=>⟨0,zd _,fun k h=>by omega,fun h=>by simp at h,by simp [insI]⟩
 | y::l=>by
  by_cases hy:y<n
  . obtain ⟨m,h1,h2,h3,h4⟩:=xD9 n l;refine ⟨m+1,by simpa using h1,fun k h hk=>?_,fun h=>?_,?_⟩
    . cases k with
      | zero=>simpa using hy
      | succ k=>simpa using h2 k (by omega) (by simpa using hk)
    . simpa using h3 (by simpa using h)
    . unfold insI;rw [if_pos hy,h4];by_cases hm:m<l.length<;>simp [hm]
  . refine ⟨0,zQ _,fun k h=>by omega,fun _=>by simpa using hy,?_⟩
    unfold insI;rw [if_neg hy];by_cases h:n<y<;>simp [h]
theorem xKF {l m:List Int} (hl:Asc l) (hm:Asc m) (h:∀ x,x∈l↔x∈m):l=m :=
 xyx xSa xMg (hl.imp fun {x y} h=>by rw [xt3,if_pos h];omega) (hm.imp fun {x y} h=>by rw [xt3,if_pos h];omega) h
structure StepI (N:Int->Int) (T:Int) (S:List Per):Prop where
 asc:S.Pairwise fun a b=>a.1<b.1
 mem:∀ s,s∈S↔0<=s.1/\s.1<T/\s.2=N s.1/\(s.1=0\/N (s.1 - 1)≠s.2)
 last:0<T->∃ S' f,S=S'++[(f,N (T - 1))]
theorem StepI.nil (N:Int->Int):StepI N 0 []:=⟨List.Pairwise.nil,fun s=>by simp;omega,fun h=>by omega⟩
def putS (S:List Per) (f n:Int):List Per:=match S.getLast? with
 | some s=>if s.2=n then S else S++[(f,n)]
 | none=>S++[(f,n)]
theorem StepI.unique {N:Int->Int} {T:Int} {S S':List Per} (h:StepI N T S) (h':StepI N T S'):S=S' :=
 xyx xNO xAr (h.asc.imp fun {x y} q=>by
  have h1:cmpP x y<=0:=xBj.2 (.inl q);by_cases h0:cmpP x y=0
  . have:=xAr x y h0;subst this;omega
  . omega) (h'.asc.imp fun {x y} q=>by
  have h1:cmpP x y<=0:=xBj.2 (.inl q);by_cases h0:cmpP x y=0
  . have:=xAr x y h0;subst this;omega
  . omega) fun s=>by rw [h.mem,h'.mem]
theorem StepI.put {N:Int->Int} {T T':Int} {S:List Per} (h:StepI N T S) (h0:0<=T) (q:T<T') (hc:∀ t,T<=t->t<T'->N t=N T):StepI N T' (putS S T (N T)):=by
 rcases Int.lt_or_eq_of_le h0 with hp|hz
 . obtain ⟨S',f,rfl⟩:=h.last hp;unfold putS;rw [List.getLast?_append];simp only [List.getLast?_singleton,Option.some_or];by_cases he:N (T - 1)=N T
   . rw [if_pos he];refine ⟨h.asc,fun s=>?_,fun _=>⟨S',f,by rw [he,hc (T' - 1) (by omega) (by omega)]⟩⟩
     rw [h.mem];constructor
     . rintro ⟨a,b,c,d⟩;exact ⟨a,by omega,c,d⟩
     . rintro ⟨a,b,c,d⟩;refine ⟨a,?_,c,d⟩;rcases Int.lt_or_le s.1 T with hs|hs
       . exact hs
       . exfalso;have e1:=hc s.1 hs b;rcases d with d|d
         . omega
         . rcases Int.lt_or_eq_of_le hs with h2|h2
           . have e2:=hc (s.1 - 1) (by omega) (by omega)
             exact d (by rw [e2,c,e1])
           . rw [<-h2] at d c;exact d (by rw [he,c])
   . rw [if_neg he];refine ⟨?_,fun s=>?_,fun _=>⟨_,T,by rw [hc (T' - 1) (by omega) (by omega)]⟩⟩
     . rw [List.pairwise_append];refine ⟨h.asc,List.pairwise_singleton _ _,fun a ha b hb=>?_⟩
       simp only [zv] at hb;subst hb;exact ((h.mem a).1 ha).2.1
     . rw [zG,h.mem,zv];constructor
       . rintro (⟨a,b,c,d⟩|rfl)
         . exact ⟨a,by omega,c,d⟩
         . exact ⟨h0,q,rfl,.inr he⟩
       . rintro ⟨a,b,c,d⟩;rcases Int.lt_or_le s.1 T with hs|hs
         . exact .inl ⟨a,hs,c,d⟩
         . right;have e1:=hc s.1 hs b;rcases Int.lt_or_eq_of_le hs with h2|h2
           . exfalso;have e2:=hc (s.1 - 1) (by omega) (by omega)
             rcases d with d|d
             . omega
             . exact d (by rw [e2,c,e1])
           . exact Prod.ext h2.symm (by rw [c,e1])
 . subst hz;have hS:S=[]:=by
    rw [List.eq_nil_iff_forall_not_mem];intro s hs;have:=(h.mem s).1 hs;omega
   subst hS;refine ⟨by simp [putS],fun s=>?_,fun _=>⟨[],0,by simp [putS];exact (hc (T' - 1) (by omega) (by omega)).symm⟩⟩
   simp only [putS,List.getLast?_nil,zU,zv];constructor
   . rintro rfl;exact ⟨Int.le_refl _,q,rfl,.inl rfl⟩
   . rintro ⟨a,b,c,d⟩;have e1:=hc s.1 a b;rcases Int.lt_or_eq_of_le a with h2|h2
     . exfalso;have e2:=hc (s.1 - 1) (by omega) (by omega)
       rcases d with d|d
       . omega
       . exact d (by rw [e2,c,e1])
     . exact Prod.ext h2.symm (by rw [c,e1])
theorem xIh (S:List Per) (f n:Int):(putS S f n).length<=S.length+1:=by
 unfold putS;repeat' split
 all_goals simp
def sumC (l:List Cnt) (t:Int):Int:=(l.map fun c=>if hasP c.1 t=true then c.2 else 0).sum
theorem xue (c:Cnt) (l:List Cnt) (t:Int):sumC (c::l) t=(if hasP c.1 t=true then c.2 else 0)+sumC l t:=by simp [sumC]
theorem xJp (a b:List Cnt) (t:Int):sumC (a++b) t=sumC a t+sumC b t:=by simp [sumC]
theorem xIE (t:Int):sumC [] t=0:=rfl
theorem xFA {T T':Int}:∀ {l:List Cnt},(∀ c,c∈l->pv c.1=true->¬ (T<c.1.1/\c.1.1<T')/\¬ (T<c.1.2/\c.1.2<T'))->∀ t,T<=t->t<T'->sumC l t=sumC l T
 | [],_,t,_,_=>rfl
 | c::l,h,t,h1,h2=>by
  rw [xue,xue,xFA (fun c hc=>h c (by simp [hc])) t h1 h2]
  congr 2;cases hv:pv c.1 with
  | false=>simp [hasP,hv]
  | true =>
   have:=h c (by simp) hv
   simp only [hasP,hv,Bool.true_and,zf,zl,eq_iff_iff];omega
theorem xID (B:Int) (hB:0<=B) (t:Int):∀ l:List Cnt,(∀ c,c∈l->-B<=c.2/\c.2<=B)->-(B*l.length)<=sumC l t/\sumC l t<=B*l.length
 | [],_=>by simp [xIE]
 | c::l,h=>by
  have ih:=xID B hB t l fun c hc=>h c (by simp [hc])
  have hc:=h c (by simp)
  rw [xue,zF,show B*((l.length+1:Nat):Int)=B*(l.length:Int)+B by rw [Int.natCast_add,Int.mul_add];simp]
  split<;>omega
theorem xGU (ps:List Per) (t:Int):sumC (ps.map fun p=>(p,(1:Int))) t=(ps.countP (hasP · t):Nat):=by
 induction ps with
 | nil=>rfl
 | cons p ps ih =>
  rw [zV,xue,ih,List.countP_cons];split<;>simp_all<;>omega
theorem xRd (l:List Int) (n:Int) (hl:l.length<=1048576) (m:Nat) (hm:m<=l.length) (h1:∀ k (h:k<m) (h2:k<l.length),l[k]<n) (h2:∀ h:m<l.length,¬ l[m]<n) :
  Iter (xc3 (l.map encN) n) ((0:Nat),(0:Int),[])=some (m,(m:Int),(l.take m).map encN):=by
 refine xeL (fun k=>((k,(k:Int),(l.take k).map encN):Nat×Int×List AV)) m _ (fun k hk=>?_) ?_ m 0 (by omega)
 . have q:k<l.length:=by omega
   have i1:(k:Int)<(l.length:Int):=by omega
   have i2:=h1 k hk q;have m1:(k+1)*8<=140737488355328:=by omega
   have m2:k+1<=4611686018427387904:=by omega
   have tl:(l.take k).length=k:=by rw [zt];omega
   have gf:(l.map encN).getD k .top=encN l[k]:=xad _ _ _ q;simp only [xc3,xij,sBU,q,i1,i2,gf,cN,sN,tl,m1,m2,xSj (n:=k) (by omega)]
   rw [List.take_add_one,ze q,zx];rfl
 . by_cases hml:m<l.length
   . have i1:(m:Int)<(l.length:Int):=by omega
     have i2:=h2 hml;have gf:(l.map encN).getD m .top=encN l[m]:=xad _ _ _ hml;simp only [xc3,xij,sBU,hml,i1,i2,gf,cN,sN]
   . have i1:¬ (m:Int)<(l.length:Int):=by omega
     simp only [xc3,xij,sBU,i1]
theorem xHU (l:List Int) (hl:l.length<=1048576):∀ (d i:Nat) (D:List Int),i+d=l.length->D.length<=1048576+i ->
  Iter (xc4 (l.map encN)) (D.length,(i:Int),D.map encN)=some ((D++l.drop i).length,(D++l.drop i).map encN)
 | 0,i,D,h,hD=>by
  obtain rfl:i=l.length:=by omega
  rw [zq (zd _),zD];refine xam ?_;simp only [xc4,xmr,za,zy,zm,xag,sUF]
 | d+1,i,D,h,hD=>by
  have q:i<l.length:=by omega
  have i1:(i:Int)<(l.length:Int):=by omega
  have m1:(D.length+1)*8<=140737488355328:=by omega
  have m2:D.length+1<=4611686018427387904:=by omega
  have gf:(l.map encN).getD i .top=encN l[i]:=xad _ _ _ q;rw [xaM (s':=((D++[l[i]]).length,((i+1:Nat):Int),(D++[l[i]]).map encN)) ?_,xHU l hl d (i+1) (D++[l[i]]) (by omega) (by rw [z8];simp;omega),xaR q,zw]
  . rfl
  . simp only [xc4,xmr,sBU,q,i1,gf,cN,sN,m1,m2,xSj (n:=i) (by omega)]
    simp [encN]
theorem xAv (l:List Int) (n:Int) (hl:l.length<=1048576):xcI (l.map encN) n=some ((insI l n).map encN):=by
 obtain ⟨m,hm,h1,h2,h3⟩:=xD9 n l;have e0:=xRd l n hl m hm h1 h2;have tl:(l.take m).length=m:=by rw [zt];omega
 have e1:=xHU l hl (l.length - m) m (l.take m++[n]) (by omega) (by rw [z8,tl];simp;omega)
 have e2:=xHU l hl (l.length - m) m (l.take m) (by omega) (by omega)
 rw [z8,tl,zx] at e1;rw [tl] at e2;have e1:Iter (xc4 (l.map encN)) (m+1,(m:Int),(l.take m).map encN++[AV.int .i64 n])=some ((l.take m++[n]++l.drop m).length,(l.take m++[n]++l.drop m).map encN):=e1;have m1:(m+1)*8<=140737488355328:=by omega
 have m2:m+1<=4611686018427387904:=by omega
 rw [h3];unfold xcI xwv xtu;by_cases hml:m<l.length
 . have i1:((m:Int)==(l.length:Int))=false:=by simp;omega
   have i2:(m:Int)<(l.length:Int):=by omega
   have gf:(l.map encN).getD m .top=encN l[m]:=xad _ _ _ hml;rw [dif_pos hml];by_cases hn:n<l[m]
   . have i3:l[m]>n:=hn;simp only [xck,xkO,xkP,xkQ,xpF,xkR,xkS,xkT,xkU,xkV,xgU,xog,xgV,xgW,xjM,xjN,e0,zk,zh,za,i1,i2,hml,gf,cN,sN,i3,m1,m2,tl,e1,sBU,sOO,↓reduceIte,zw,List.singleton_append]
   . have i3:¬ l[m]>n:=hn;simp only [xck,xkO,xkP,xkQ,xpF,xkR,xkS,xkT,xkU,xkV,xgU,xog,xgV,xgW,xjM,xjN,e0,zk,zh,za,i1,i2,hml,gf,cN,sN,i3,e2,sBU,sOO,↓reduceIte]
 . have i1:((m:Int)==(l.length:Int))=true:=by simp;omega
   rw [dif_neg hml];have hd:l.drop m=[]:=zq (by omega)
   rw [hd,zD] at e1;simp only [xck,xkO,xkP,xkQ,xpF,xkR,xkS,xkT,xkU,xkV,xgU,xog,xgV,xgW,xjM,xjN,e0,zk,zh,za,i1,m1,m2,tl,e1,sBU,sOO]
theorem xzm {α:Type} (l:List α):l=[]\/∃ m a,l=m++[a]:=by
 rcases List.eq_nil_or_concat l with h|⟨m,a,h⟩
 . exact .inl h
 . exact .inr ⟨m,a,by rw [h,List.concat_eq_append]⟩
theorem xJ9 (S:List Per) (f n:Int) (hS:S.length<=16777216):∃ p,xd0 S.length f n (S.map encP)=some p/\br p.1 p.2.1.1 p.2.2.1=(putS S f n).length/\br p.1 p.2.1.2 p.2.2.2=(putS S f n).map encP:=by
 have m1:(S.length+1)*16<=140737488355328:=by omega
 have m2:S.length+1<=4611686018427387904:=by omega
 rcases xzm S with rfl|⟨S',s,rfl⟩
 . refine ⟨(false,(0,[]),(1,[encP (f,n)])),?_,rfl,rfl⟩;unfold xd0 xoK xkD;simp [xaO,encP,sUF]
 . have hk:IntKind.i64.wrap (((S'++[s]).length:Int) - 1)=((S'.length:Nat):Int):=by
    rw [z8,xa1 (by simp<;>omega) (by simp at hS |-<;>omega)];simp
   have g1:((S'++[s]).length:Int)>0:=by simp<;>omega
   have g2:(S'.length:Int)<((S'++[s]).length:Int):=by simp<;>omega
   have g3:S'.length<(S'++[s]).length:=by simp
   have gf:((S'++[s]).map encP).getD S'.length .top=encP s:=by
    rw [xad _ _ _ (by simp)];simp
   have hl:(S'++[s]).getLast?=some s:=by simp
   by_cases he:s.2=n
   . refine ⟨(true,((S'++[s]).length,(S'++[s]).map encP),(0,[])),?_,?_,?_⟩
     . unfold xd0 xoK xkD;simp only [hk,g1,g2,g3,gf,sBU,cP0,cP1,lP,sP,sP0,sP1,he]
     . simp only [xaj,putS,hl,if_pos he,sUF]
     . simp only [xaj,putS,hl,if_pos he,sUF]
   . have he':(s.2==n)=false:=by simp [he]
     refine ⟨(false,(0,[]),((S'++[s]).length+1,(S'++[s]).map encP++[encP (f,n)])),?_,?_,?_⟩
     . unfold xd0 xoK xkD;simp only [hk,g1,g2,g3,gf,sBU,cP0,cP1,lP,sP,sP0,sP1,he',m1,m2];rfl
     . simp only [xag,putS,hl,if_neg he,sUF];simp
     . simp only [xag,putS,hl,if_neg he,sUF];simp
def ptsC (l:List Cnt):List Int:=l.foldl (fun P c=>if pv c.1=true then insI (insI P c.1.1) c.1.2 else P) [0]
theorem xIf (l:List Cnt) (c:Cnt):ptsC (l++[c])=if pv c.1=true then insI (insI (ptsC l) c.1.1) c.1.2 else ptsC l:=by simp [ptsC]
theorem xIg:∀ l:List Cnt,Asc (ptsC l.reverse)/\∀ x,x∈ptsC l.reverse↔x=0\/∃ c,c∈l/\pv c.1=true/\(x=c.1.1\/x=c.1.2)
 | []=>by simp [ptsC,Asc]
 | c::l=>by
  obtain ⟨h1,h2⟩:=xIg l;rw [List.reverse_cons,xIf];split
  . rename_i hv;refine ⟨xwo (xwo h1 _) _,fun x=>?_⟩
    rw [xtp,xtp,h2];constructor
    . rintro (h|h|h|⟨c',a,b,d⟩)
      . exact .inr ⟨c,by simp,hv,.inr h⟩
      . exact .inr ⟨c,by simp,hv,.inl h⟩
      . exact .inl h
      . exact .inr ⟨c',by simp [a],b,d⟩
    . rintro (h|⟨c',a,b,d⟩)
      . exact .inr (.inr (.inl h))
      . rcases zC.1 a with rfl|a
        . rcases d with d|d
          . exact .inr (.inl d)
          . exact .inl d
        . exact .inr (.inr (.inr ⟨c',a,b,d⟩))
  . rename_i hv;refine ⟨h1,fun x=>?_⟩
    rw [h2];constructor
    . rintro (h|⟨c',a,b,d⟩)
      . exact .inl h
      . exact .inr ⟨c',by simp [a],b,d⟩
    . rintro (h|⟨c',a,b,d⟩)
      . exact .inl h
      . rcases zC.1 a with rfl|a
        . exact absurd b hv
        . exact .inr ⟨c',a,b,d⟩
theorem xRk (l:List Cnt):Asc (ptsC l)/\∀ x,x∈ptsC l↔x=0\/∃ c,c∈l/\pv c.1=true/\(x=c.1.1\/x=c.1.2):=by
 have:=xIg l.reverse;simpa using this
theorem xRU (l:List Cnt) (hl:l.length<=262144):Iter (xgX (l.map encC)) ([AV.int IntKind.i64 (0:Int)],(0:Int))=some ((ptsC l).map encN)/\(ptsC l).length<=2*l.length+1:=by
 have q:∀ l:List Cnt,(ptsC l.reverse).length<=2*l.length+1:=fun l=>by
  induction l with
  | nil=>simp [ptsC]
  | cons c l ih =>
   rw [List.reverse_cons,xIf];have a1:=xqw (ptsC l.reverse) c.1.1;have a2:=xqw (insI (ptsC l.reverse) c.1.1) c.1.2;split<;>simp<;>omega
 refine ⟨?_,by have:=q l.reverse;simpa using this⟩
 refine xjw l (fun P c=>if pv c.1=true then insI (insI P c.1.1) c.1.2 else P) (fun n b=>(b.map encN,(n:Int))) (fun n b=>b.length<=2*n+1) (fun n h b hb=>?_) l.length 0 [0] (by omega) (by simp) ?_
 . have h1:(n:Int)<(l.length:Int):=by omega
   have gf:(l.map encC).getD n .top=encC l[n]:=xad _ _ _ h;have a1:=xqw b l[n].1.1;have a2:=xqw (insI b l[n].1.1) l[n].1.2;have i1:=xAv b l[n].1.1 (by omega)
   have i2:=xAv (insI b l[n].1.1) l[n].1.2 (by omega)
   refine ⟨?_,by split<;>omega⟩
   simp only [xgX,xs2,xm9,sBU,h,h1,gf,cC0,cC1,cC2,lC,sC,sC3,sC2,xlb,i1,i2,xSj (n:=n) (by omega),sC0,sC1]
   cases pv l[n].1<;>simp [xaj,xag,sUF]
 . simp only [zr];simp only [xgX,xs2,xm9,za,zy,zm,xag,sUF];rfl
def Tame (l:List Cnt):Prop:=l.length<=262144/\∀ c,c∈l->-1099511627776<=c.2/\c.2<=1099511627776
theorem xRV (l:List Cnt) (hl:Tame l) (P:List Int) (hP:P.length<=1048576) (on k:Nat) (hk:k<P.length) (ox:List AV):Iter (xgZ (l.map encC) (P.map encN) on (k:Int)) ((0:Int),(0:Int),ox)=some (sumC l P[k],ox):=by
 have k1:(k:Int)<(P.length:Int):=by omega
 have gk:(P.map encN).getD k .top=encN P[k]:=xad _ _ _ hk;have J:=hl.1;refine xeL (fun i=>((sumC (l.take i) P[k],(i:Int),ox):Int×Int×List AV)) l.length _ (fun i hi=>?_) ?_ l.length 0 (by omega)
 . have h1:(i:Int)<(l.length:Int):=by omega
   have gf:(l.map encC).getD i .top=encC l[i]:=xad _ _ _ hi;have hs:sumC (l.take (i+1)) P[k]=sumC (l.take i) P[k]+if hasP l[i].1 P[k]=true then l[i].2 else 0:=by
    rw [List.take_add_one,ze hi,xJp];show _+sumC [l[i]] P[k]=_;rw [xue,xIE];omega
   have hb:=xID 1099511627776 (by omega) P[k] (l.take i) fun c hc=>hl.2 c (List.mem_of_mem_take hc)
   have q:(l.take i).length=i:=by rw [zt];omega
   rw [q] at hb;have hc:=hl.2 l[i] (zo hi);have hw:hasP l[i].1 P[k]=true->IntKind.i64.wrap (sumC (l.take i) P[k]+l[i].2)=sumC (l.take i) P[k]+l[i].2:=fun _=>xa1 (by omega) (by omega)
   simp only [xgZ,xs3,sBU,hi,h1,hk,k1,gf,gk,cC0,cC1,cC2,lC,sC,sC3,sC2,cN,sN,xIi,xSj (n:=i) (by omega),hs]
   cases hc:hasP l[i].1 P[k] with
   | false=>simp [xag,sUF]
   | true=>rw [xaj,hw hc];rfl
 . simp only [xgZ,xs3,za,zy,zm,xag,y4,sUF]
theorem xRm (l:List Cnt) (hl:Tame l):∃ S,xEq (l.map encC)=some (S.map encP)/\StepI (sumC l) 1099511627776 S/\S.length<=2*l.length+1:=by
 obtain ⟨e0,an⟩:=xRU l hl.1;obtain ⟨V,Q⟩:=xRk l;generalize hP:ptsC l=P at *;have al:=hl.1;have U:∀ x,x∈P->0<=x/\x<=1099511627776:=fun x hx=>by
  rcases (Q x).1 hx with rfl|⟨c,_,hv,h⟩
  . omega
  . have:=xbT.1 hv;rcases h with rfl|rfl<;>omega
 obtain ⟨m,hm,Z,J⟩:∃ m,m<=P.length/\(∀ k (h:k<P.length),k<m->P[k]<1099511627776)/\∀ h:m<P.length,¬ P[m]<1099511627776:=by
  obtain ⟨m,a,b,c,_⟩:=xD9 1099511627776 P;exact ⟨m,a,fun k h hk=>b k hk h,c⟩
 let G:Nat->List Per:=fun k=>(P.take k).foldl (fun S p=>putS S p (sumC l p)) []
 have hG:∀ k (h:k<P.length),G (k+1)=putS (G k) P[k] (sumC l P[k]):=fun k h=>by
  simp only [G];rw [List.take_add_one,ze h,List.foldl_append];rfl
 have ab:∀ k,k<=P.length->(G k).length<=k:=fun k=>by
  induction k with
  | zero=>intro _;simp [G]
  | succ k ih=>intro h;rw [hG k (by omega)];have:=xIh (G k) P[k] (sumC l P[k]);have:=ih (by omega);omega
 have Y:0<P.length:=List.length_pos_of_mem ((Q 0).2 (.inl rfl));have q:P[0]=0:=by
  have h0:=(U P[0] (zo Y)).1;obtain ⟨j,hj,ah⟩:=zp.1 ((Q 0).2 (.inl rfl));rcases Nat.eq_zero_or_pos j with rfl|ac
  . exact ah
  . have:=zB.1 V 0 j Y hj ac;omega
 have aj:0<m:=by
  rcases Nat.eq_zero_or_pos m with rfl|h
  . exact absurd (by rw [q];omega) (J Y)
  . exact h
 have nb:∀ k (h:k<P.length) T',(∀ h2:k+1<P.length,T'<=P[k+1])->T'<=1099511627776->∀ t,P[k]<=t->t<T'->sumC l t=sumC l P[k]:=fun k h T' hT hF t h1 h2=>by
  have no:∀ x,x∈P->¬ (P[k]<x/\x<T'):=fun x hx ⟨a,b⟩=>by
   obtain ⟨j,hj,rfl⟩:=zp.1 hx;rcases Nat.lt_trichotomy j k with W|rfl|W
   . have:=zB.1 V j k hj h W;omega
   . omega
   . rcases Nat.lt_or_eq_of_le W with h3|h3
     . have:=zB.1 V (k+1) j (by omega) hj h3
       have:=hT (by omega);omega
     . have h4:j=k+1:=h3.symm;subst h4;have:=hT hj;omega
  refine xFA (T:=P[k]) (T':=T') (fun c hc hv=>⟨no _ ((Q _).2 (.inr ⟨c,hc,hv,.inl rfl⟩)),no _ ((Q _).2 (.inr ⟨c,hc,hv,.inr rfl⟩))⟩) t h1 h2
 have inv:∀ k (h:k<P.length),k<m->StepI (sumC l) P[k] (G k):=fun k=>by
  induction k with
  | zero=>intro h _;rw [q];exact .nil _
  | succ k ih =>
   intro h ag;rw [hG k (by omega)]
   have h1:=zB.1 V k (k+1) (by omega) h (by omega)
   have h2:=Z (k+1) h ag;exact (ih (by omega) (by omega)).put (U _ (zo (by omega))).1 h1 (nb k (by omega) P[k+1] (fun _=>Int.le_refl _) (by omega))
 have ae:StepI (sumC l) 1099511627776 (G m):=by
  obtain ⟨k,rfl⟩:∃ k,m=k+1:=⟨m - 1,by omega⟩
  rw [hG k (by omega)]
  exact (inv k (by omega) (by omega)).put (U _ (zo (by omega))).1 (Z k (by omega) (by omega)) (nb k (by omega) _ (fun h2=>by have:=J h2;omega) (Int.le_refl _))
 refine ⟨G m,?_,ae,by have:=ab m hm;omega⟩
 have e1:Iter (xgY (l.map encC) (P.map encN)) ((0:Nat),(0:Int),[])=some ((G m).length,(G m).map encP):=by
  refine xeL (fun k=>(((G k).length,(k:Int),(G k).map encP):Nat×Int×List AV)) m _ (fun k hk=>?_) ?_ m 0 (by omega)
  . have O:k<P.length:=by omega
    have k1:(k:Int)<(P.length:Int):=by omega
    have k2:=Z k O hk;have gk:(P.map encN).getD k .top=encN P[k]:=xad _ _ _ O;have e2:=xRV l hl P (by omega) (G k).length k O ((G k).map encP)
    have am:=ab k (by omega)
    obtain ⟨p,ad,af,ai⟩:=xJ9 (G k) P[k] (sumC l P[k]) (by omega)
    simp only [xgY,xoE,xna,xnb,xnc,xnd,xne,xnf,xng,sBU,O,k1,k2,gk,cN,sN,e2,ad,af,ai,xSj (n:=k) (by omega),hG k O]
  . by_cases aa:m<P.length
    . have k1:(m:Int)<(P.length:Int):=by omega
      have k2:=J aa;have gk:(P.map encN).getD m .top=encN P[m]:=xad _ _ _ aa;simp only [xgY,xoE,xna,xnb,xnc,xnd,xne,xnf,xng,sBU,aa,k1,k2,gk,cN,sN]
    . have k1:¬ (m:Int)<(P.length:Int):=by omega
      simp only [xgY,xoE,xna,xnb,xnc,xnd,xne,xnf,xng,sBU,k1]
 unfold xEq xBU;simp only [xAN,xAO,xAP,xAQ,e0,zh,zk,xaj,e1,sOO,sUF]
end Go.Sim.M
end
noncomputable section
set_option maxRecDepth 100000
namespace Go.Sim.M
open Go.RowKit Go.Sim.Srt Go.Sort
def ptsF (l:List Fc):List Int:=l.foldl (fun P f=>if pv f.p=true then (if f.p.2<1099511627776 then insI (insI P f.p.1) f.p.2 else insI P f.p.1) else P) [0]
def bnd (f:Fc):List Int:=if pv f.p=true then (if f.p.2<1099511627776 then [f.p.1,f.p.2] else [f.p.1]) else []
theorem xC2 (l:List Fc) (f:Fc):ptsF (l++[f])=if pv f.p=true then (if f.p.2<1099511627776 then insI (insI (ptsF l) f.p.1) f.p.2 else insI (ptsF l) f.p.1) else ptsF l:=by simp [ptsF]
theorem xGH:∀ l:List Fc,Asc (ptsF l.reverse)/\∀ x,x∈ptsF l.reverse↔x=0\/x∈l.flatMap bnd
 | []=>⟨List.pairwise_singleton _ _,fun x=>by simp [ptsF]⟩
 | f::l=>by
  have ih:=xGH l;rw [List.reverse_cons,xC2];simp only [zR,zG,bnd];split
  . split
    . refine ⟨xwo (xwo ih.1 _) _,fun x=>?_⟩
      rw [xtp,xtp,ih.2,zC,zv];grind
    . refine ⟨xwo ih.1 _,fun x=>?_⟩
      rw [xtp,ih.2,zv];grind
  . exact ⟨ih.1,fun x=>by rw [ih.2];simp⟩
theorem xwu (l:List Fc):Asc (ptsF l)/\∀ x,x∈ptsF l↔x=0\/x∈l.flatMap bnd:=by
 have:=xGH l.reverse;rw [List.reverse_reverse] at this;refine ⟨this.1,fun x=>?_⟩
 rw [this.2];simp only [y3,List.mem_reverse]
theorem xIe:∀ l:List Fc,(ptsF l.reverse).length<=2*l.length+1
 | []=>by simp [ptsF]
 | f::l=>by
  have ih:=xIe l;have h1:=xqw (ptsF l.reverse) f.p.1;have h2:=xqw (insI (ptsF l.reverse) f.p.1) f.p.2;rw [List.reverse_cons,xC2,zF];split
  . split<;>omega
  . omega
theorem xBp (l:List Fc):(ptsF l).length<=2*l.length+1:=by
 have:=xIe l.reverse;rwa [List.reverse_reverse,List.length_reverse] at this
theorem xMu (l:List Fc) (n:Nat) (h:n<l.length):ptsF (l.take (n+1))=if pv l[n].p=true then (if l[n].p.2<1099511627776 then insI (insI (ptsF (l.take n)) l[n].p.1) l[n].p.2 else insI (ptsF (l.take n)) l[n].p.1) else ptsF (l.take n):=by
 rw [List.take_add_one,ze h];exact xC2 _ _
theorem xLk (l:List Fc) (hl:l.length<=262144):xvf (l.map encF)=some ((ptsF l).map encN):=by
 have key:Iter (xf7 (l.map encF)) ([AV.int IntKind.i64 (0:Int)],(0:Int))=some ((ptsF l).map encN):=by
  refine xeL (fun k=>((ptsF (l.take k)).map encN,((k:Nat):Int))) l.length _ (fun k hk=>?_) ?_ l.length 0 (by omega)
  . have i1:(k:Int)<(l.length:Int):=by omega
    have gf:(l.map encF).getD k .top=encF l[k]:=xad _ _ _ hk;have hp:=xBp (l.take k);rw [zt] at hp;have e1:=xAv (ptsF (l.take k)) l[k].p.1 (by omega)
    have h2:=xqw (ptsF (l.take k)) l[k].p.1;have e2:=xAv (insI (ptsF (l.take k)) l[k].p.1) l[k].p.2 (by omega)
    simp only [xf7,xsn,xfu,sBU,hk,i1,gf,cF0,cF1,cF2,sF0,sF1,sF2,lF,sF12,sF02,xlb,xSj (n:=k) (by omega),e1,e2,xMu l k hk]
    cases hv:pv l[k].p with
    | false=>simp [xag,sUF]
    | true=>by_cases hf:l[k].p.2<1099511627776<;>simp [hf,xaj,xag,sUF]
  . simp only [xf7,xsn,xfu,za,zy,zm,xag,y4,sUF]
 unfold xvf xBw;simp only [key,zk,zh,xaj,sUF]
theorem xS6 {n:Nat} (h:n+1<=4611686018427387904):IntKind.i64.wrap (((n+1:Nat):Int) - 1)=(n:Int):=by
 rw [show ((n+1:Nat):Int) - 1=(n:Int) by omega]
 exact w64 rfl (by omega)
theorem xOF {α:Type} (xs:List α) (n:Nat) (v:α) (h:n<xs.length):(xs.set n v).take (n+1)=xs.take n++[v]:=by
 rw [List.set_eq_take_append_cons_drop,if_pos h];have:(xs.take n).length=n:=by rw [zt];omega
 rw [List.take_append,this,Nat.add_sub_cancel_left,zi (by omega)];rfl
theorem xJ5 {α:Type} {xs S:List α} {m i:Nat} (h:xs.drop m=S.drop m) (hi:m<=i):xs[i]?=S[i]?:=by
 have:=congrArg (fun l=>l[i - m]?) h
 simpa [List.getElem?_drop,Nat.add_sub_cancel' hi] using this
theorem xFO (S:List Int) (hN:S.length<=1048576) (hs:S.Pairwise fun x y=>x<=y) (o:Nat):∀ (d q:Nat) (D xs:List Int),o+q+1+d=S.length->D.length<=o+q->xs.length=S.length->xs.take D.length=D->xs.drop (o+q)=S.drop (o+q)->Asc D->(∀ x,x∈D↔x∈S.take (o+q+1)) ->
  ∃ (D' J:List Int),Iter (xcu S.length o (S.length - o)) ((D.length:Int),((q+1:Nat):Int),xs.map encN)=some ((D'.length:Int),J.map encN)/\J.length=S.length/\J.take D'.length=D'/\Asc D'/\∀ x,x∈D'↔x∈S
 | 0,q,D,xs,h,hD,hx,ht,hd,ha,hm=>by
  refine ⟨D,xs,xam ?_,hx,ht,ha,fun x=>?_⟩
  . have i1:¬ ((q+1:Nat):Int)<((S.length - o:Nat):Int):=by omega
    simp only [xcu,xgz,sBU,i1]
  . rw [hm,zi (by omega)]
 | d+1,q,D,xs,h,hD,hx,ht,hd,ha,hm=>by
  have hp:o+q+1<S.length:=by omega
  have O:o+q<S.length:=by omega
  have g1:(xs.map encN).getD (o+(q+1)) .top=encN S[o+q+1]:=by
   have:=xJ5 hd (i:=o+q+1) (by omega)
   rw [ze (by omega),ze hp,z6] at this
   rw [<-this];exact xad _ _ _ (by omega)
  have g0:(xs.map encN).getD (o+q) .top=encN S[o+q]:=by
   have:=xJ5 hd (i:=o+q) (by omega)
   rw [ze (by omega),ze O,z6] at this
   rw [<-this];exact xad _ _ _ (by omega)
  have i1:((q+1:Nat):Int)<((S.length - o:Nat):Int):=by omega
  have i2:(q:Int)<((S.length - o:Nat):Int):=by omega
  have i3:o+(q+1)<xs.length:=by omega
  have i4:o+q<xs.length:=by omega
  have i5:(D.length:Int)<(S.length:Int):=by omega
  have i6:D.length<xs.length:=by omega
  have U:S[o+q]<=S[o+q+1]:=zB.1 hs _ _ O hp (by omega)
  have tk:S.take (o+q+1+1)=S.take (o+q+1)++[S[o+q+1]]:=by rw [List.take_add_one,ze hp];rfl
  by_cases he:S[o+q+1]=S[o+q]
  . rw [xaM (s':=((D.length:Int),((q+1+1:Nat):Int),xs.map encN)) ?_]
    . refine xFO S hN hs o d (q+1) D xs (by omega) (by omega) hx ht ?_ ha fun x=>?_
      . have:=congrArg (List.drop 1) hd;rwa [List.drop_drop,List.drop_drop] at this
      . rw [hm,show o+(q+1)+1=o+q+1+1 by omega,tk,zG,zv]
        refine ⟨Or.inl,fun hh=>hh.elim id fun hh=>?_⟩
        rw [hh,he];exact List.mem_take_iff_getElem.2 ⟨o+q,by omega,rfl⟩
    . have i7:(S[o+q+1] != S[o+q])=false:=by simp [he]
      simp only [xcu,xgz,xix,sBU,i1,xS6 (n:=q) (by omega),i2,i3,i4,g1,g0,cN,sN,i7,xSj (n:=q+1) (by omega)]
  . rw [xaM (s':=(((D++[S[o+q+1]]).length:Int),((q+1+1:Nat):Int),(xs.set D.length S[o+q+1]).map encN)) ?_]
    . refine xFO S hN hs o d (q+1) _ _ (by omega) (by rw [z8];simp;omega) (by rw [y2];exact hx) ?_ ?_ ?_ fun x=>?_
      . rw [z8,zj,xOF _ _ _ i6,ht]
      . rw [List.drop_set_of_lt (by omega)]
        have:=congrArg (List.drop 1) hd;rwa [List.drop_drop,List.drop_drop] at this
      . refine List.pairwise_append.2 ⟨ha,List.pairwise_singleton _ _,fun x Q y hy=>?_⟩
        rw [zv] at hy;obtain ⟨i,hi,rfl⟩:=List.mem_take_iff_getElem.1 ((hm x).1 Q);have:S[i]<=S[o+q]:=by
         rcases zJ i (o+q) with h1|h1
         . exact zB.1 hs _ _ (by omega) O h1
         . have:i=o+q:=by omega
           subst this;exact Int.le_refl _
        omega
      . rw [show o+(q+1)+1=o+q+1+1 by omega,tk,zG,zG,hm]
    . have i7:(S[o+q+1] != S[o+q])=true:=by simp [he]
      simp only [xcu,xgz,xix,sBU,i1,xS6 (n:=q) (by omega),i2,i3,i4,i5,i6,g1,g0,cN,sN,i7,xSj (n:=q+1) (by omega),xSj (n:=D.length) (by omega)]
      simp [encN,List.map_set]
theorem xJP (S:List Int) (hN:S.length<=1048576) (hs:S.Pairwise fun x y=>x<=y):∀ (d k:Nat),k+1+d=S.length->Asc (S.take (k+1)) ->
  (∃ (D:List Int) (xs:List AV),Iter (xbc S.length) (((k+1:Nat):Int),S.map encN)=some (true,(D.length,xs),[])/\D.length<=xs.length/\xs.take D.length=D.map encN/\Asc D/\∀ x,x∈D↔x∈S) \/
  (Iter (xbc S.length) (((k+1:Nat):Int),S.map encN)=some (false,(0,[]),S.map encN)/\Asc S)
 | 0,k,h,ha=>by
  refine .inr ⟨xam ?_,?_⟩
  . have i1:¬ ((k+1:Nat):Int)<(S.length:Int):=by omega
    simp only [xbc,xgy,sBU,i1]
  . rwa [zi (by omega)] at ha
 | d+1,k,h,ha=>by
  have q:k+1<S.length:=by omega
  have hk:k<S.length:=by omega
  have g1:(S.map encN).getD (k+1) .top=encN S[k+1]:=xad _ _ _ q;have g0:(S.map encN).getD k .top=encN S[k]:=xad _ _ _ hk;have i1:((k+1:Nat):Int)<(S.length:Int):=by omega
  have i2:(k:Int)<(S.length:Int):=by omega
  have i3:((k+1:Nat):Int)<=(S.length:Int):=by omega
  have O:S[k]<=S[k+1]:=zB.1 hs _ _ hk q (by omega)
  have tk:S.take (k+1+1)=S.take (k+1)++[S[k+1]]:=by rw [List.take_add_one,ze q];rfl
  by_cases he:S[k+1]=S[k]
  . obtain ⟨D,xs,e,h1,h2,h3,h4⟩:=xFO S hN hs (k+1) (S.length - (k+2)) 0 (S.take (k+1)) S (by omega) (by rw [zt];omega) rfl (by rw [zt,Nat.min_eq_left (by omega)]) rfl ha (fun x=>by
     rw [show k+1+0+1=k+1+1 by omega,tk,zG,zv]
     refine ⟨Or.inl,fun hh=>hh.elim id fun hh=>?_⟩
     rw [hh,he];exact List.mem_take_iff_getElem.2 ⟨k,by omega,rfl⟩)
    have tl:(S.take (k+1)).length=k+1:=by rw [zt];omega
    rw [tl] at e;have e:Iter (xcu S.length (k+1) (S.length - (k+1))) (((k+1:Nat):Int),(1:Int),S.map encN)=some ((D.length:Int),xs.map encN):=e;have dl:D.length<=S.length:=by rw [<-h1,<-h2,zt];omega
    refine .inl ⟨D,List.take D.length (xs.map encN)++(List.replicate (S.length - D.length) (AV.int .i64 0)++List.drop (D.length+(S.length - D.length)) (xs.map encN)),xam ?_,?_,?_,h3,h4⟩
    . have i7:(S[k+1]==S[k])=true:=by simp [he]
      have i8:(D.length:Int)<=(S.length:Int):=by omega
      have i9:D.length+(S.length - D.length)<=xs.length:=by omega
      simp only [xbc,xgy,xon,xom,xiY,xiX,xeo,xol,xok,sBU,i1,xS6 (n:=k) (by omega),i2,i3,q,hk,g1,g0,cN,sN,i7,e,i8,i9]
    . rw [z8,zt,za];omega
    . rw [List.take_append_of_le_length (by rw [zt,za];omega),List.take_take,Nat.min_self,<-List.map_take,h2]
  . have Q:S[k]<S[k+1]:=by omega
    rw [xaM (s':=(((k+1+1:Nat):Int),S.map encN)) ?_]
    . refine xJP S hN hs d (k+1) (by omega) ?_
      rw [tk];refine List.pairwise_append.2 ⟨ha,List.pairwise_singleton _ _,fun x J y hy=>?_⟩
      rw [zv] at hy;obtain ⟨i,hi,rfl⟩:=List.mem_take_iff_getElem.1 J;have:S[i]<=S[k]:=by
       rcases zJ i k with h1|h1
       . exact zB.1 hs _ _ (by omega) hk h1
       . have:i=k:=by omega
         subst this;exact Int.le_refl _
      omega
    . have i7:(S[k+1]==S[k])=false:=by simp [he]
      simp only [xbc,xgy,sBU,i1,xS6 (n:=k) (by omega),i2,q,hk,g1,g0,cN,sN,i7,xSj (n:=k+1) (by omega)]
theorem xKL (S:List Int) (hN:S.length<=1048576) (hs:S.Pairwise fun x y=>x<=y):∃ (D:List Int) (xs:List AV),xwO S.length (S.map encN)=some (D.length,xs)/\D.length<=xs.length/\xs.take D.length=D.map encN/\Asc D/\∀ x,x∈D↔x∈S:=by
 unfold xwO xtT xsp xsq xsr;by_cases h2:(S.length:Int)<2
 . refine ⟨S,S.map encN,?_,by simp,?_,?_,fun x=>Iff.rfl⟩
   . simp only [h2,zn,xaj,sUF]
   . rw [zi (by simp)]
   . match S,h2 with
     | [],_=>exact List.Pairwise.nil
     | [x],_=>exact List.pairwise_singleton _ _
     | x::y::t,h=>simp at h;omega
 . simp only [h2,zm,xag,sUF];have h1:Asc (S.take (0+1)):=by
    match S with
    | []=>exact List.Pairwise.nil
    | x::t=>exact List.pairwise_singleton _ _
   rcases xJP S hN hs (S.length - 1) 0 (by omega) h1 with ⟨D,xs,e,a1,a2,a3,a4⟩|⟨e,a3⟩
   . refine ⟨D,xs,?_,a1,a2,a3,a4⟩;have e:Iter (xbc S.length) ((1:Int),S.map encN)=_:=e;simp only [e,zk,zh,xaj,sUF]
   . refine ⟨S,S.map encN,?_,by simp,?_,a3,fun x=>Iff.rfl⟩
     . have e:Iter (xbc S.length) ((1:Int),S.map encN)=_:=e;simp only [e,zk,zh,xaj,xag,sUF]
     . rw [zi (by simp)]
theorem xQj (E:List Int):(E.map encN).all isI=true/\∃ S:List Int,srtI (E.map encN)=S.map encN/\S.Perm E/\S.Pairwise fun x y=>x<=y:=by
 have e1:(E.map encN).map AV.toInt=E:=by
  rw [List.map_map];conv=>rhs;rw [<-List.map_id E]
  rfl
 refine ⟨?_,pdqL cmpI E,?_,(xn3 cmpI swoI E).1,(xAL cmpI swoI E).imp fun {x y} h=>?_⟩
 . rw [zI];intro x hx;obtain ⟨e,he,rfl⟩:=zK.1 hx;rfl
 . unfold srtI;rw [e1];rfl
 . rw [xt3] at h;by_cases h1:y<x
   . rw [if_pos h1] at h;omega
   . omega
theorem xJI (f:Fc):(bnd f).length<=2:=by
 unfold bnd;by_cases h1:pv f.p=true<;>by_cases h2:f.p.2<1099511627776<;>simp [h1,h2]
theorem xM1 (l:List Fc) (hl:l.length<=262144):Iter (xcc (l.map encF) ((l.length:Nat):Int)) ((1:Nat),(0:Int),[AV.int IntKind.i64 (0:Int)])=some ((0::l.flatMap bnd).length,(0::l.flatMap bnd).map encN):=by
 have bl:∀ k,(((l.take k).flatMap bnd)).length<=2*l.length:=fun k=>by
  have:=xgN (g:=bnd) (l.take k) fun a _=>xJI a
  rw [zt] at this;omega
 have key:=xeL (step:=xcc (l.map encF) ((l.length:Nat):Int)) (fun k=>((((0:Int)::(l.take k).flatMap bnd).length,((k:Nat):Int),((0:Int)::(l.take k).flatMap bnd).map encN):Nat×Int×List AV)) l.length
  ((0::l.flatMap bnd).length,(0::l.flatMap bnd).map encN) (fun k hk=>by
  have i1:(k:Int)<(l.length:Int):=by omega
  have gf:(l.map encF).getD k .top=encF l[k]:=xad _ _ _ hk;have b:=bl k;have hD:∀ D:List Int,D.length<=2*l.length+1->xcc (l.map encF) ((l.length:Nat):Int) (D.length,(k:Int),D.map encN)=some (.inl ((D++bnd l[k]).length,((k+1:Nat):Int),(D++bnd l[k]).map encN)):=fun D hD=>by
   have m1:(D.length+1)*8<=140737488355328:=by omega
   have m2:D.length+1<=4611686018427387904:=by omega
   have m3:(D.length+1+1)*8<=140737488355328:=by omega
   have m4:D.length+1+1<=4611686018427387904:=by omega
   simp only [xcc,xis,xhy,sBU,hk,i1,gf,cF0,cF1,cF2,sF0,sF1,sF2,lF,sF12,sF02,xjy,xSj (n:=k) (by omega),m1,m2,m3,m4,z8,zj]
   cases hv:pv l[k].p with
   | false=>simp [bnd,hv,xag,sUF]
   | true=>by_cases hf:l[k].p.2<1099511627776<;>simp [bnd,hv,hf,xaj,xag,encN,sUF]
  have:=hD (0::(l.take k).flatMap bnd) (by rw [zF];omega)
  rw [this,List.take_add_one,ze hk,List.flatMap_append,List.cons_append];simp only [Option.toList_some,zR,List.flatMap_nil,zD]) (by
  simp only [xcc,xis,za,zy,zm,xag,y4,sUF]) l.length 0 (by omega)
 exact key
theorem xM2 (l:List Fc) (hl:l.length<=262144):xhw (l.map encF)=some ((ptsF l).map encN):=by
 have e0:=xM1 l hl;have b:(l.flatMap bnd).length<=2*l.length:=xgN l fun a _=>xJI a
 obtain ⟨h1,S,h2,h3,h4⟩:=xQj (0::l.flatMap bnd);have hn:=h3.length_eq;rw [zF] at hn;obtain ⟨D,xs,e1,a1,a2,a3,a4⟩:=xKL S (by omega) h4
 rw [hn] at e1;have hD:D=ptsF l:=xKF a3 (xwu l).1 fun x=>by
  rw [a4,h3.mem_iff,(xwu l).2,zC]
 subst hD;have m1:(l.flatMap bnd).length+1<4611686018427387904:=by omega
 have bq:((l.flatMap bnd).length+1).beq ((l.flatMap bnd).length+1)=true:=by simp
 rw [zF] at e0;unfold xhw xr0 xqd xqe xqf xqg xkH xkI xqh xqi;simp only [za,e0,zk,zh,xaj,zF,bq,m1,zn,h1,h2,zS,e1,zH,a1,zr,a2,sUF]
def chg (c:Cnt):List Per:=if pv c.1=true then [(c.1.1,c.2),(c.1.2,-c.2)] else []
theorem xJL {l:List Cnt}:∀ s,s∈l.flatMap chg->0<=s.1/\s.1<=1099511627776:=fun s hs=>by
 obtain ⟨c,hc,h⟩:=y3.1 hs;unfold chg at h;split at h
 . rename_i hv;have:=xbT.1 hv;simp only [zC,List.not_mem_nil,or_false] at h;rcases h with rfl|rfl<;>dsimp only<;>omega
 . simp at h
theorem xPy (c:Cnt):(chg c).length<=2:=by unfold chg;split<;>simp
def sumS (S:List Per) (t:Int):Int:=(S.map fun s=>if s.1<=t then s.2 else 0).sum
theorem xDY (a b:List Per) (t:Int):sumS (a++b) t=sumS a t+sumS b t:=by simp [sumS]
theorem xOL {a b:List Int} (h:a.Perm b):a.sum=b.sum:=by
 induction h with
 | nil=>rfl
 | cons x _ ih=>simp [ih]
 | swap x y l=>simp;omega
 | trans _ _ h1 h2=>rw [h1,h2]
theorem xNs {a b:List Per} (h:a.Perm b) (t:Int):sumS a t=sumS b t:=xOL (h.map _)
theorem xIF (t:Int):∀ l:List Cnt,sumS (l.flatMap chg) t=sumC l t
 | []=>rfl
 | c::l=>by
  rw [zR,xDY,xIF t l,xue];congr 1;unfold chg;cases hv:pv c.1 with
  | false=>simp [sumS,hasP,hv]
  | true =>
   have:=xbT.1 hv;simp only [if_true,sumS,zV,zW,List.sum_cons,List.sum_nil,hasP,hv,Bool.true_and,zf,zl];by_cases h1:c.1.1<=t<;>by_cases h2:c.1.2<=t
   . rw [if_pos h1,if_pos h2,if_neg (by omega)];omega
   . rw [if_pos h1,if_neg h2,if_pos (by omega)];omega
   . omega
   . rw [if_neg h1,if_neg h2,if_neg (by omega)];omega
theorem sum0:∀ L:List Per,(L.map fun _=>(0:Int)).sum=0
 | []=>rfl
 | _::L=>by rw [zV,List.sum_cons,sum0 L];rfl
def preS (S:List Per) (i:Nat):Int:=((S.take i).map (·.2)).sum
theorem xGE (S:List Per) (i:Nat) (h:i<S.length):preS S (i+1)=preS S i+S[i].2:=by
 unfold preS;rw [List.take_add_one,ze h,zx,List.sum_append];simp
theorem xOm (S:List Per) (i:Nat) (hi:i<=S.length) (t:Int) (h1:∀ k (h:k<S.length),k<i->S[k].1<=t) (h2:∀ k (h:k<S.length),i<=k->t<S[k].1):preS S i=sumS S t:=by
 have e:S=S.take i++S.drop i:=(List.take_append_drop i S).symm
 conv=>rhs;rw [e]
 rw [xDY];have a1:sumS (S.take i) t=preS S i:=by
  unfold sumS preS;congr 1;refine List.map_congr_left fun s hs=>?_
  obtain ⟨k,hk,rfl⟩:=zp.1 hs;rw [zt] at hk;rw [List.getElem_take,if_pos (h1 k (by omega) (by omega))]
 have a2:sumS (S.drop i) t=0:=by
  unfold sumS;have:(S.drop i).map (fun s=>if s.1<=t then s.2 else 0)=(S.drop i).map fun _=>(0:Int):=by
   refine List.map_congr_left fun s hs=>?_
   obtain ⟨k,hk,rfl⟩:=zp.1 hs;rw [y1] at hk;have:=h2 (i+k) (by omega) (by omega)
   rw [List.getElem_drop,if_neg (by omega)]
  rw [this];exact sum0 _
 omega
theorem xIc {B:Int} (hB:0<=B) (S:List Per) (h:∀ s,s∈S->-B<=s.2/\s.2<=B):∀ i,i<=S.length->-(B*i)<=preS S i/\preS S i<=B*i
 | 0,_=>by simp [preS]
 | i+1,hi=>by
  have ih:=xIc hB S h i (by omega)
  have hs:=h S[i] (zo (by omega))
  rw [xGE S i (by omega),show B*((i+1:Nat):Int)=B*(i:Int)+B by rw [Int.natCast_add,Int.mul_add];simp]
  omega
def toS (e:Per):TyS:=(Fin.ofNat 1099511627777 e.1.toNat,e.2)
def ofS (x:TyS):Per:=((x.1.val:Int),x.2)
theorem xPS {e:Per} (h1:0<=e.1) (h2:e.1<=1099511627776):ofS (toS e)=e:=by
 have:e.1.toNat % 1099511627777=e.1.toNat:=Nat.mod_eq_of_lt (by omega)
 simp only [ofS,toS,Fin.ofNat,this,Int.toNat_of_nonneg h1]
theorem xQl (E:List Per) (h:∀ e,e∈E->0<=e.1/\e.1<=1099511627776):(E.map encP).all isS=true/\∃ S:List Per,srtS (E.map encP)=S.map encP/\S.Perm E/\S.Pairwise fun x y=>x.1<=y.1:=by
 refine ⟨?_,(pdqL cmpS (E.map toS)).map ofS,?_,?_,?_⟩
 . rw [zI];intro x hx;obtain ⟨e,he,rfl⟩:=zK.1 hx;have:=h e he;show (decide _&&decide _)=true;rw [decide_eq_true this.1,decide_eq_true this.2];rfl
 . unfold srtS;have e1:(E.map encP).map decS=E.map toS:=by rw [List.map_map];rfl
   rw [e1,List.map_map];rfl
 . have hp:=((xn3 cmpS swoS (E.map toS)).1).map ofS;have e2:(E.map toS).map ofS=E:=by
    rw [List.map_map]
    conv=>rhs;rw [<-List.map_id E]
    refine List.map_congr_left fun e he=>?_
    exact xPS (h e he).1 (h e he).2
   rwa [e2] at hp
 . rw [List.pairwise_map];refine (xAL cmpS swoS (E.map toS)).imp fun {x y} q=>?_
   show ((x.1.val:Nat):Int)<=((y.1.val:Nat):Int);unfold cmpS at q;omega
theorem xPM (n o:Nat):xos n o=xfh n o 0:=rfl
theorem xEv (l:List Cnt) (hl:l.length<=1048576) (ht:∀ c,c∈l->-1099511627776<=c.2/\c.2<=1099511627776):Iter (xg5 (l.map encC) ((l.length:Nat):Int)) ((0:Nat),(0:Int),[])=some ((l.flatMap (fun (f:Cnt)=>chg f)).length,(l.flatMap (fun (f:Cnt)=>chg f)).map encP):=by
 refine xjJ l (fun (f:Cnt)=>chg f) encP 2 (fun f hf=>?_) (fun n h D hD=>?_) (fun D=>?_)
 . cases q:(pv (f).1)<;>simp [chg,q]
 . have h1:(n:Int)<(l.length:Int):=by omega
   have m1:(D.length+2)*16<=140737488355328:=by omega
   have m2:D.length+2<=4611686018427387904:=by omega
   have gf:(l.map encC).getD n .top=encC l[n]:=xad _ _ _ h;have hm:=ht l[n] (zo h);have hw:IntKind.i64.wrap (0 - l[n].2)=-l[n].2:=by rw [xa1 (by omega) (by omega)];omega
   simp only [xg5,xs7,sBU,h,h1,gf,cC0,cC1,cC2,lC,sC,sC3,sC2,xjy,hw,m1,m2,xSj (n:=n) (by omega)]
   cases q:(pv (l[n]).1)<;>simp [encP,xaj,xag,encR,chg,q,sUF]
 . simp only [xg5,xs7,za,zy,zm,xag,sUF]
theorem xD8 (S:List Per) (hS:S.length<=1048576) (hb:∀ s,s∈S->-1099511627776<=s.2/\s.2<=1099511627776) (on:Nat) (at':Int) (ox:List AV):∀ (d i:Nat),i+d=S.length->∃ j:Nat,i<=j/\j<=S.length/\(∀ k (h:k<S.length),i<=k->k<j->S[k].1=at')/\(∀ h:j<S.length,S[j].1≠at') /\
  Iter (xfh S.length on at') (preS S i,(i:Int),S.map encP,ox)=some (preS S j,(j:Int),S.map encP,ox)
 | 0,i,h=>by
  refine ⟨i,zd _,by omega,fun k _ h1 h2=>by omega,fun h=>by omega,xam ?_⟩
  have i1:¬ (i:Int)<(S.length:Int):=by omega
  simp only [xfh,xoH,xnX,i1,zm,xag,sUF]
 | d+1,i,h=>by
  have hi:i<S.length:=by omega
  have i1:(i:Int)<(S.length:Int):=by omega
  have gf:(S.map encP).getD i .top=encP S[i]:=xad _ _ _ hi;by_cases he:S[i].1=at'
  . obtain ⟨j,h1,h2,h3,h4,h5⟩:=xD8 S hS hb on at' ox d (i+1) (by omega)
    refine ⟨j,by omega,h2,fun k hk a b=>?_,h4,?_⟩
    . rcases Nat.lt_or_eq_of_le a with a|a
      . exact h3 k hk a b
      . subst a;exact he
    . have hp:=xIc (B:=1099511627776) (by omega) S hb i (by omega)
      have hs:=hb S[i] (zo hi);rw [xaM (s':=(preS S (i+1),((i+1:Nat):Int),S.map encP,ox)) ?_,h5];simp only [xfh,xoH,xnX,sBU,hi,i1,gf,cP0,cP1,lP,sP,sP0,sP1,he,xSj (n:=i) (by omega),xGE S i hi]
      rw [xa1 (by omega) (by omega)]
  . have he':(S[i].1==at')=false:=by simp [he]
    refine ⟨i,zd _,by omega,fun k _ h1 h2=>by omega,fun _=>he,xam ?_⟩
    simp only [xfh,xoH,xnX,sBU,hi,i1,gf,cP0,cP1,lP,sP,sP0,sP1,he']
theorem xBR (l:List Cnt) (hl:Tame l):∃ S,xB6 (l.map encC)=some (S.map encP)/\StepI (sumC l) 1099511627776 S/\S.length<=2*l.length+1:=by
 have ar:=hl.1;have e0:=xEv l (by omega) hl.2
 have hE:=xgN (g:=chg) (c:=2) l fun c _=>xPy c
 obtain ⟨ae,S,hS,hp,an⟩:=xQl (l.flatMap chg) xJL;have ag:S.length=(l.flatMap chg).length:=hp.length_eq;have U:∀ s,s∈S->0<=s.1/\s.1<=1099511627776:=fun s hs=>xJL s (hp.mem_iff.1 hs)
 have hb:∀ s,s∈S->-1099511627776<=s.2/\s.2<=1099511627776:=fun s hs=>by
  obtain ⟨c,hc,h⟩:=y3.1 (hp.mem_iff.1 hs);have:=hl.2 c hc;unfold chg at h;split at h
  . simp only [zC,List.not_mem_nil,or_false] at h;rcases h with rfl|rfl<;>dsimp only<;>omega
  . simp at h
 have hN:∀ t,sumS S t=sumC l t:=fun t=>by rw [xNs hp,xIF]
 have J:∀ a b (ha:a<S.length) (hb:b<S.length),a<=b->S[a].1<=S[b].1:=fun a b ha hb am=>by
  rcases Nat.lt_or_eq_of_le am with h|h
  . exact zB.1 an a b ha hb h
  . subst h;exact Int.le_refl _
 let T:Nat->Int:=fun i=>if h:i<S.length then S[i].1 else 1099511627776
 have step:∀ (out:List Per) (i j:Nat) (at':Int),0<=at'->i<=j->j<=S.length->StepI (sumC l) at' out->at'<1099511627776->(∀ k (h:k<S.length),k<i->S[k].1<=at')->(∀ k (h:k<S.length),i<=k->at'<=S[k].1)->(∀ k (h:k<S.length),i<=k->k<j->S[k].1=at')->(∀ h:j<S.length,S[j].1≠at') ->
   preS S j=sumC l at'/\StepI (sumC l) (T j) (putS out at' (preS S j))/\at'<T j/\∀ k (h:k<S.length),k<j->S[k].1<=at':=fun out i j at' h0 af hj Q hF ac aj ao hne=>by
  have a1:∀ k (h:k<S.length),k<j->S[k].1<=at':=fun k h hk=>by
   rcases zJ k i with h1|h1
   . exact ac k h h1
   . rw [ao k h h1 hk];exact Int.le_refl _
  have a2:∀ k (h:k<S.length),j<=k->at'<S[k].1:=fun k h hk=>by
   have O:j<S.length:=by omega
   have b1:=aj j O af;have b2:=hne O;have b3:=J j k O h hk;omega
  have hT:at'<T j:=by
   simp only [T];split
   . rename_i h;exact a2 j h (zd _)
   . exact hF
  have aa:∀ t,at'<=t->t<T j->preS S j=sumC l t:=fun t h1 h2=>by
   rw [<-hN];refine xOm S j hj t (fun k h hk=>by have:=a1 k h hk;omega) fun k h hk=>?_
   have O:j<S.length:=by omega
   have b3:=J j k O h hk;simp only [T,dif_pos O] at h2;omega
  have e:=aa at' (Int.le_refl _) hT;refine ⟨e,?_,hT,a1⟩;rw [e];exact Q.put h0 hT fun t h1 h2=>by rw [<-aa t h1 h2,e]
 have ab:∀ (out:List Per) (f n:Int),out.length<=2*l.length+1->∃ p,xeQ out.length f n (out.map encP)=some p/\br p.1 p.2.1.1 p.2.2.1=(putS out f n).length/\br p.1 p.2.1.2 p.2.2.2=(putS out f n).map encP:=fun out f n h=>xJ9 out f n (by omega)
 obtain ⟨j0,_,ah,h3,h4,e1⟩:=xD8 S (by omega) hb 0 0 ([]:List AV) S.length 0 (by omega)
 obtain ⟨_,ap,_,aq⟩:=step [] 0 j0 0 (Int.le_refl _) (zQ _) ah (.nil _) (by omega) (fun k _ h=>by omega) (fun k h _=>(U _ (zo h)).1) h3 h4
 obtain ⟨p0,ad,V,Y⟩:=ab [] 0 (preS S j0) (by simp)
 have o0:putS [] 0 (preS S j0)=[(0,preS S j0)]:=rfl;obtain ⟨r,hr,out,rfl,Q,ai⟩:=xN4 (step:=xg6 S.length)
  (fun s=>∃ (out:List Per) (i:Nat),s=(out.length,preS S i,(i:Int),S.map encP,out.map encP)/\i<=S.length/\StepI (sumC l) (T i) out/\out.length<=i+1/\∀ k (h:k<S.length) (hi:i<S.length),k<i->S[k].1<=S[i].1) (fun s=>(S.length - s.2.2.1.toNat)) (fun r=>∃ out:List Per,r=(out.length,out.map encP)/\StepI (sumC l) 1099511627776 out/\out.length<=2*l.length+1)
  (by
   rintro _ ⟨out,i,rfl,hi,W,aw,ac⟩;by_cases q:i<S.length
   . have i1:(i:Int)<(S.length:Int):=by omega
     have gf:(S.map encP).getD i .top=encP S[i]:=xad _ _ _ q;have Z:T i=S[i].1:=dif_pos q;by_cases hF:S[i].1<1099511627776
     . left;obtain ⟨j,a1,a2,a3,a4,a5⟩:=xD8 S (by omega) hb out.length S[i].1 (out.map encP) (S.length - i) i (by omega)
       rw [Z] at W;obtain ⟨b1,b2,b3,b4⟩:=step out i j S[i].1 (U _ (zo q)).1 a1 a2 W hF (fun k h hk=>J k i h q (by omega)) (fun k h hk=>J i k q h hk) a3 a4
       have af:i<j:=by
        rcases Nat.lt_or_eq_of_le a1 with h|h
        . exact h
        . subst h;exact absurd rfl (a4 q)
       obtain ⟨p,ad,V,Y⟩:=ab out S[i].1 (preS S j) (by omega)
       have au:=xIh out S[i].1 (preS S j);refine ⟨((putS out S[i].1 (preS S j)).length,preS S j,(j:Int),S.map encP,(putS out S[i].1 (preS S j)).map encP),?_,⟨_,j,rfl,a2,b2,by omega,fun k h hj hk=>J k j h hj (by omega)⟩,by dsimp only;rw [zN,zN];omega⟩
       simp only [xg6,xoG,xnN,xnO,xnP,xnQ,xnR,xnS,xnT,xnU,xnV,xnW,xlK,xlL,xh3,sBU,q,i1,gf,cP0,cP1,lP,sP,sP0,sP1,hF,a5,ad,V,Y]
     . right;have al:S[i].1=1099511627776:=by have:=(U _ (zo q)).2;omega
       refine ⟨(out.length,out.map encP),?_,out,rfl,by rw [<-al,<-Z];exact W,by omega⟩
       simp only [xg6,xoG,xnN,xnO,xnP,xnQ,xnR,xnS,xnT,xnU,xnV,xnW,xlK,xlL,xh3,sBU,q,i1,gf,cP0,cP1,lP,sP,sP0,sP1,hF]
   . right;have i1:¬ (i:Int)<(S.length:Int):=by omega
     have Z:T i=1099511627776:=dif_neg q;refine ⟨(out.length,out.map encP),?_,out,rfl,by rw [<-Z];exact W,by omega⟩
     simp only [xg6,xoG,xnN,xnO,xnP,xnQ,xnR,xnS,xnT,xnU,xnV,xnW,xlK,xlL,xh3,sBU,i1])
  (([(0,preS S j0)]:List Per).length,preS S j0,(j0:Int),S.map encP,([(0,preS S j0)]:List Per).map encP) ⟨[(0,preS S j0)],j0,rfl,ah,ap,by simp,fun k h hj hk=>J k j0 h hj (by omega)⟩
 refine ⟨out,?_,Q,ai⟩;have d1:(l.flatMap chg).length<4611686018427387904:=by omega
 have d2:((l.flatMap chg).length).beq (l.flatMap chg).length=true:=Nat.beq_refl _;have e1':Iter (xos (l.flatMap chg).length 0) ((0:Int),(0:Int),S.map encP,[])=some (preS S j0,(j0:Int),S.map encP,[]):=by
  rw [xPM,<-ag];exact e1
 rw [ag] at hr;unfold xB6 xB7;have hp1':xeQ 0 0 (preS S j0) []=some p0:=ad;rw [o0] at V Y;simp only [xA4,xA5,xA6,xA7,xA8,xA9,xBa,xBb,xBc,xBd,xAd,xAe,xAf,xAg,xAh,xrj,xvW,xAi,za,e0,zh,zk,xaj,ae,hS,d1,d2,e1',hp1',V,Y,hr,zn,zS,sOO,sUF]
end Go.Sim.M
end
noncomputable section
set_option maxRecDepth 100000
namespace Go.Sim.M
open Go.RowKit Go.Sim.Srt
theorem xTf {n:Nat} (h:n+1<=4611686018427387904):IntKind.i64.wrap (((n+1:Nat):Int) - 1)=(n:Int):=by rw [xa1 (by omega) (by omega)];omega
theorem tkP (p:Per):List.take 1 (encP p).cells=[.int .i64 p.1]:=rfl
theorem dpP (p:Per):List.drop 2 (encP p).cells=[]:=rfl
theorem aggP (a b:Int):AV.agg [.int .i64 a,.int .i64 b]=encP (a,b):=rfl
theorem xHR {α:Type} (l:List α) (x d:α):(l++[x]).getD l.length d=x:=by simp
theorem xQd {α:Type} (l:List α) (x y:α):(l++[x]).set l.length y=l++[y]:=by simp
def xSm (st:List Per):List Int:=st.flatMap fun s=>List.replicate s.2.toNat s.1
theorem xoc (st:List Per) (f m:Int):xSm (st++[(f,m)])=xSm st++List.replicate m.toNat f:=by simp [xSm]
def StOk (st:List Per):Prop:=∀ s,s∈st->1<=s.2
theorem StOk.len {st:List Per} (h:StOk st):st.length<=(xSm st).length:=by
 unfold xSm;induction st with
 | nil=>simp
 | cons s st ih =>
  have h1:=h s (by simp)
  have:=ih fun s hs=>h s (by simp [hs])
  rw [zR,z8,zF,List.length_replicate];omega
theorem xFX (J n:Int) (v:Nat) (k t2 f:Int) (q:List Per) (ti:Nat) (O:ti<q.length) (hf:q[ti].1=f) (K:Nat) (hK:K<=1048576):∀ (d j:Nat) (ox:List Per) (vo:Nat),j+d=K->ox.length+d<=1099511627776 ->
  Iter (xdZ J n v ti k (K:Int)) ((j:Int),t2,q.length,v,ox.length,vo,v,q.map encP,vo,ox.map encP)=some (t2,v,q.length,vo+d,(ox++List.replicate d (f,J)).length,q.map encP,v,(ox++List.replicate d (f,J)).map encP,vo+d)
 | 0,j,ox,vo,h,hb=>by
  obtain rfl:j=K:=by omega
  refine xam ?_;simp only [xdZ,xpD,zy,zm,xag,List.replicate_zero,zD,Nat.add_zero,sUF]
 | d+1,j,ox,vo,h,hb=>by
  have i1:(j:Int)<(K:Int):=by omega
  have gf:(q.map encP).getD ti .top=encP q[ti]:=xad _ _ _ O;have m1:(ox.length+1)*16<=140737488355328:=by omega
  have m2:ox.length+1<=4611686018427387904:=by omega
  have tk:List.take q.length (q.map encP)=q.map encP:=zi (by simp)
  rw [xaM (s':=(((j+1:Nat):Int),t2,q.length,v,(ox++[(f,J)]).length,vo+1,v,q.map encP,vo+1,(ox++[(f,J)]).map encP)) ?_,xFX J n v k t2 f q ti O hf K hK d (j+1) (ox++[(f,J)]) (vo+1) (by omega) (by rw [z8,zj];omega)]
  . rw [zw,show [(f,J)]++List.replicate d (f,J)=List.replicate (d+1) (f,J) from rfl,show vo+1+d=vo+(d+1) by omega]
  . simp only [xdZ,xpD,sBU,i1,O,gf,cP0,cP1,lP,sP,sP0,sP1,hf,m1,m2,tk,xSj (n:=j) (by omega)]
    simp [encP]
theorem xKc {α:Type} (n:Nat) (a:α):(List.replicate n a).reverse=List.replicate n a:=List.reverse_replicate ..
theorem xFW (q:Int) (n:Nat):∀ (c:Nat) (J:List Per) (h:Nat) (ox:List Per) (v vo:Nat),J.length<=c->StOk J->(xSm J).length=h->n<=h->h<=1048576->ox.length+h<=1099511627776 ->
  ∃ (O Q:List Per) (U:Nat),Iter (xcT q (n:Int)) ((h:Int),J.length,v,ox.length,vo,v,J.map encP,vo,ox.map encP)=some ((n:Int),v,O.length,U,Q.length,O.map encP,v,Q.map encP,U) /\
   StOk O/\xSm O=(xSm J).take n/\Q=ox++(((xSm J).drop n).reverse.map fun f=>(f,q))
 | c,J,h,ox,v,vo,hc,hs,hh,hn,hb,ho=>by
  by_cases Z:n=h
  . subst Z;refine ⟨J,ox,vo,xam ?_,hs,?_,?_⟩
    . have i1:¬ ((n:Int)>(n:Int)):=by omega
      simp only [xcT,xhC,i1,zm,xag,sUF]
    . rw [zi (by omega)]
    . rw [zq (by omega)];simp
  . have ac:n<h:=by omega
    rcases xzm J with rfl|⟨st,⟨f,m⟩,rfl⟩
    . simp [xSm] at hh;omega
    . have hm:=hs (f,m) (by simp)
      dsimp only at hm;have W:StOk st:=fun s h=>hs s (by simp [h])
      have aa:(xSm st).length+m.toNat=h:=by rw [<-hh,xoc,z8,List.length_replicate]
      obtain ⟨M,rfl⟩:∃ M:Nat,m=(M:Int):=⟨m.toNat,by omega⟩
      rw [zN] at aa;have sl:=hs.len;rw [z8,zj] at hc sl;rw [hh] at sl;have L1:(st++[(f,(M:Int))]).length=st.length+1:=by simp
      have i1:(h:Int)>(n:Int):=by omega
      have w1:IntKind.i64.wrap (((st.length+1:Nat):Int) - 1)=(st.length:Int):=xTf (by omega)
      have w2:IntKind.i64.wrap ((h:Int) - (n:Int))=((h - n:Nat):Int):=by rw [xa1 (by omega) (by omega)];omega
      have i2:(st.length:Int)<((st.length+1:Nat):Int):=by omega
      have i3:st.length<(st++[(f,(M:Int))]).length:=by omega
      have g0:(st++[(f,(M:Int))])[st.length]'i3=(f,(M:Int)):=by simp
      have gf:((st++[(f,(M:Int))]).map encP).getD st.length .top=encP (f,(M:Int)):=by rw [xad _ _ _ i3,g0]
      have tk:List.take (st.length+1) ((st++[(f,(M:Int))]).map encP)=(st++[(f,(M:Int))]).map encP:=zi (by simp)
      have V:∀ x:AV,((st++[(f,(M:Int))]).map encP).set st.length x=st.map encP++[x]:=fun x=>by
       rw [zx];have:=xQd (st.map encP) (encP (f,(M:Int))) x;rwa [za] at this
      have gl:∀ x:AV,(st.map encP++[x]).getD st.length .top=x:=fun x=>by have:=xHR (st.map encP) x .top;rwa [za] at this
      have tl:∀ x:AV,List.take st.length (st.map encP++[x])=st.map encP:=fun x=>by
       have:=List.take_left' (l₁:=st.map encP) (l₂:=[x]) (i:=st.length) (by simp)
       exact this
      by_cases hk:M<=h - n
      ·
       have i4:¬ ((h - n:Nat):Int)<(M:Int):=by omega
       have e1:=xFX q (n:Int) v (M:Int) (h:Int) f (st++[(f,(M:Int))]) st.length i3 (by rw [g0]) M (by omega) M 0 ox vo (by omega) (by omega)
       rw [L1] at e1;obtain ⟨O,Q,U,e2,h1,h2,h3⟩:=xFW q n (c - 1) st (h - M) (ox++List.replicate M (f,q)) v (vo+M) (by omega) W (by omega) (by omega) (by omega) (by rw [z8,List.length_replicate];omega)
       refine ⟨O,Q,U,(xaM (s':=(((h - M:Nat):Int),st.length,v,(ox++List.replicate M (f,q)).length,vo+M,v,st.map encP,vo+M,(ox++List.replicate M (f,q)).map encP)) ?_).trans e2,h1,?_,?_⟩
       . have w3:IntKind.i64.wrap ((h:Int) - (M:Int))=((h - M:Nat):Int):=by rw [xa1 (by omega) (by omega)];omega
         have w4:IntKind.i64.wrap ((M:Int) - (M:Int))=0:=by rw [Int.sub_self];rfl
         have i5:(st.length:Int)<=((st.length+1:Nat):Int):=by omega
         have e1:Iter (xdZ q (n:Int) v st.length (M:Int) (M:Int)) ((0:Int),(h:Int),st.length+1,v,ox.length,vo,v,(st++[(f,(M:Int))]).map encP,vo,ox.map encP)=_:=e1;simp only [xcT,xhC,xfb,xdY,xod,xgO,xjL,xgP,xgQ,xgR,xgS,xoe,xmn,xig,xih,xmo,xmp,xii,xeM,xmq,xbj,sBU,L1,i1,i2,w1,w2,w3,w4,i4,i5,gf,cP0,cP1,lP,sP,sP0,sP1,tk,e1,if_false,V,gl,tl,z8,zj,Nat.lt_succ_self,tkP,dpP,aggP,zD,List.singleton_append]
         try simp [xaj,tl,gl,sUF]
       . rw [h2,xoc,List.take_append_of_le_length (by omega)]
       . rw [h3,xoc,zN,List.drop_append_of_le_length (by omega),List.reverse_append,xKc,zx,List.map_replicate,zw]
      ·
       have i4:((h - n:Nat):Int)<(M:Int):=by omega
       have e1:=xFX q (n:Int) v ((h - n:Nat):Int) (h:Int) f (st++[(f,(M:Int))]) st.length i3 (by rw [g0]) (h - n) (by omega) (h - n) 0 ox vo (by omega) (by omega)
       rw [L1] at e1;refine ⟨st++[(f,((M - (h - n):Nat):Int))],ox++List.replicate (h - n) (f,q),vo+(h - n),(xaM (s':=((n:Int),st.length+1,v,(ox++List.replicate (h - n) (f,q)).length,vo+(h - n),v,(st++[(f,((M - (h - n):Nat):Int))]).map encP,vo+(h - n),(ox++List.replicate (h - n) (f,q)).map encP)) ?_).trans (xam ?_),?_,?_,?_⟩
       . have w3:IntKind.i64.wrap ((h:Int) - ((h - n:Nat):Int))=(n:Int):=by rw [xa1 (by omega) (by omega)];omega
         have w4:IntKind.i64.wrap ((M:Int) - ((h - n:Nat):Int))=((M - (h - n):Nat):Int):=by rw [xa1 (by omega) (by omega)];omega
         have i6:(((M - (h - n):Nat):Int)==0)=false:=by simp;omega
         have e1:Iter (xdZ q (n:Int) v st.length ((h - n:Nat):Int) ((h - n:Nat):Int)) ((0:Int),(h:Int),st.length+1,v,ox.length,vo,v,(st++[(f,(M:Int))]).map encP,vo,ox.map encP)=_:=e1;have Y:∀ x:AV,List.take (st.length+1) (st.map encP++[x])=st.map encP++[x]:=fun x=>zi (by simp)
         simp only [xcT,xhC,xfb,xdY,xod,xgO,xjL,xgP,xgQ,xgR,xgS,xoe,xmn,xig,xih,xmo,xmp,xii,xeM,xmq,xbj,sBU,L1,i1,i2,w1,w2,w3,w4,i4,gf,cP0,cP1,lP,sP,sP0,sP1,tk,e1,if_true,V,gl,tl,Y,z8,zj,Nat.lt_succ_self,tkP,dpP,aggP,zD,List.singleton_append]
         try simp [xaj,xag,tl,Y,gl,i6,sUF]
       . have i5:¬ ((n:Int)>(n:Int)):=by omega
         simp only [xcT,xhC,i5,zm,xag,z8,zj,sUF]
       . intro s ab;rcases zG.1 ab with h1|h1
         . exact W s h1
         . rw [zv] at h1;subst h1;dsimp only;omega
       . rw [xoc,xoc,zN,zN,List.take_append];have:(xSm st).take n=xSm st:=zi (by omega)
         rw [this,List.take_replicate,show min (n - (xSm st).length) M=M - (h - n) by omega]
       . rw [xoc,zN,List.drop_append,zq (show (xSm st).length<=n by omega),zU,List.drop_replicate,xKc,List.map_replicate,show M - (n - (xSm st).length)=h - n by omega]
theorem xKh (J:Int) (n h:Nat) (q ox:List Per) (hs:StOk q) (hh:(xSm q).length=h) (hn:n<=1048576) (hb:h<=1048576) (ho:ox.length+1048576<=1099511627776) :
  ∃ O:List Per,set2 J (n:Int) (h:Int) q.length ox.length (q.map encP) (ox.map encP)=some ((n:Int),O.length,(ox++(((xSm q).drop n).reverse.map fun f=>(f,J))).length,O.map encP,(ox++(((xSm q).drop n).reverse.map fun f=>(f,J))).map encP) /\
   StOk O/\xSm O=(xSm q).take n++List.replicate (n - h) J:=by
 have sl:=hs.len;rw [hh] at sl;have tk:List.take q.length (q.map encP)=q.map encP:=zi (by simp)
 by_cases Z:h<n
 . have i1:(n:Int)>(h:Int):=by omega
   have w1:IntKind.i64.wrap ((n:Int) - (h:Int))=((n - h:Nat):Int):=by rw [xa1 (by omega) (by omega)];omega
   have U:StOk (q++[(J,((n - h:Nat):Int))]):=fun s h1=>by
    rcases zG.1 h1 with h1|h1
    . exact hs s h1
    . rw [zv] at h1;subst h1;dsimp only;omega
   have hf:xSm (q++[(J,((n - h:Nat):Int))])=xSm q++List.replicate (n - h) J:=by rw [xoc,zN]
   have Q:(xSm (q++[(J,((n - h:Nat):Int))])).length=n:=by rw [hf,z8,List.length_replicate];omega
   obtain ⟨O,V,Y,e,h1,h2,h3⟩:=xFW J n (q.length+1) (q++[(J,((n - h:Nat):Int))]) n ox 1 0 (by simp) U Q (zd _) hn (by omega)
   refine ⟨O,?_,h1,?_⟩
   . have d1:(xSm q).drop n=[]:=zq (by omega)
     have d2:(xSm (q++[(J,((n - h:Nat):Int))])).drop n=[]:=zq (by omega)
     rw [d2] at h3;subst h3;rw [d1];have m1:(q.length+1)*16<=140737488355328:=by omega
     have m2:q.length+1<=4611686018427387904:=by omega
     have W:List.take (q.length+1) (q.map encP++[AV.agg [.int .i64 J,.int .i64 ((n - h:Nat):Int)]])=(q++[(J,((n - h:Nat):Int))]).map encP:=by
      rw [zi (by simp),zx];rfl
     rw [z8,zj] at e;unfold set2 xrq xqA;simp only [xsP,xsQ,xsR,xsS,xsT,xsU,xsV,xsW,xsX,xsY,xrr,xrs,xrt,xru,xrv,xrw,xry,xrz,i1,w1,zn,xaj,za,beq_self_eq_true,m1,m2,Bool.and_self,W,e,zk,zh,Option.bind_some,Nat.beq_refl,sUF]
   . rw [h2,hf,zi (by rw [<-hf];omega),zi (by omega)]
 . obtain ⟨O,V,Y,e,h1,h2,h3⟩:=xFW J n q.length q h ox 0 0 (zd _) hs hh (by omega) hb (by omega)
   refine ⟨O,?_,h1,by rw [h2,show n - h=0 by omega];simp⟩
   have i1:¬ (n:Int)>(h:Int):=by omega
   subst h3;unfold set2 xrq xqA;simp only [xsP,xsQ,xsR,xsS,xsT,xsU,xsV,xsW,xsX,xsY,xrr,xrs,xrt,xru,xrv,xrw,xry,xrz,i1,zm,xag,tk,e,zk,zh,xaj,Option.bind_some,Nat.beq_refl,Bool.and_self,sUF]
def setF (s:List Int×List Per) (q:Int×Nat):List Int×List Per:=(s.1.take q.2++List.replicate (q.2 - s.1.length) q.1,s.2++((s.1.drop q.2).reverse.map fun f=>(f,q.1)))
theorem xDE {α β:Type} (A B:α->List β):∀ l:List α,(l.flatMap fun k=>A k++B k).Perm (l.flatMap A++l.flatMap B)
 | []=>List.Perm.refl _
 | a::l=>by
  rw [zR,zR,zR];have ih:=xDE A B l;refine (ih.append_left (A a++B a)).trans ?_;rw [zw,zw];refine List.Perm.append_left _ ?_;rw [<-zw,<-zw];exact List.Perm.append_right _ List.perm_append_comm
theorem xFa {β:Type} (g:Int->β):∀ (F:List Int) (H n:Nat),F.length<=H->(List.range H).flatMap (fun k=>if n<=k then (F[k]?).toList.map g else [])=(F.drop n).map g
 | [],H,n,_=>by
  rw [List.drop_nil,zW,List.flatMap_eq_nil_iff];intro k _;split<;>simp
 | x::F,0,n,h=>by simp at h
 | x::F,H+1,n,h=>by
  rw [List.range_succ_eq_map,zR,List.flatMap_map];have ih:=xFa g F H (n - 1) (by simpa using h)
  have e:(List.range H).flatMap (fun a=>if n<=a.succ then (((x::F)[a.succ]?).toList).map g else [])=(F.drop (n - 1)).map g:=by
   rw [<-ih];congr 1;funext a;have:(n<=a.succ)=(n - 1<=a):=by rw [eq_iff_iff];omega
   simp only [this,zZ,Nat.succ_eq_add_one]
  rw [e];cases n with
  | zero=>simp
  | succ n=>simp
structure LvI (N:Int->Nat) (H:Nat) (at':Int) (F:List Int) (out:List Per) (A:Nat->List Per):Prop where
 perm:out.Perm ((List.range H).flatMap A)
 span:∀ k,IsSpan (A k)
 low:∀ k (h:k<F.length),F[k]<=at'/\0<=F[k]/\∀ p,p∈A k->p.2<F[k]
 high:∀ k,F.length<=k->∀ p,p∈A k->p.2<=at'
 cov:∀ k t,t<=at'->((inL (A k) t=true\/∃ h:k<F.length,F[k]<=t)↔k<N t)
 len:F.length=N at'
 top:F.length<=H
theorem LvI.start {N:Int->Nat} {H:Nat} (h0:∀ t,t<0->N t=0):LvI N H (-1) [] [] fun _=>[] where
 perm:=by
  have:(List.range H).flatMap (fun _=>([]:List Per))=[]:=by simp
  rw [this]
 span _:=xzg
 low k h:=by simp at h
 high k _ p hp:=by simp at hp
 cov k t ht:=by rw [h0 t (by omega),xrn];simp
 len:=by rw [h0 _ (by omega)];rfl
 top:=zQ _
theorem LvI.set {N:Int->Nat} {H:Nat} {a b:Int} {F:List Int} {out:List Per} {A:Nat->List Per} (h:LvI N H a F out A) (ac:a<b) (h0:0<=b) (hb:b<=1099511627776) (hc:∀ t,a<=t->t<b->N t=N a) (hH:N b<=H) :
  ∃ A',LvI N H b (setF (F,out) (b,N b)).1 (setF (F,out) (b,N b)).2 A':=by
 have hl:=h.len;refine ⟨fun k=>A k++(if N b<=k then (F[k]?).toList.map (fun f=>(f,b)) else []),?_,?_,?_,?_,?_,?_,?_⟩
 . refine (List.Perm.append h.perm ?_).trans (xDE A _ _).symm;rw [xFa (fun f=>(f,b)) F H (N b) h.top]
   exact (List.reverse_perm _).map _
 . intro k;by_cases hk:N b<=k
   . rw [if_pos hk];by_cases J:k<F.length
     . obtain ⟨l1,l2,l3⟩:=h.low k J;rw [ze J];refine ⟨fun p hp=>?_,List.pairwise_append.2 ⟨(h.span k).2,by simp,fun p hp q hq=>?_⟩⟩
       . rcases zG.1 hp with hp|hp
         . exact (h.span k).1 p hp
         . simp at hp;subst hp;exact xbT.2 ⟨l2,by dsimp only;omega,hb⟩
       . simp at hq;subst hq;exact l3 p hp
     . rw [zz (by omega)];simpa using h.span k
   . rw [if_neg hk,zD];exact h.span k
 . intro k hk;simp only [setF] at hk |-;rw [z8,zt,List.length_replicate] at hk;have O:¬ N b<=k:=by omega
   simp only [O,if_false,zD];by_cases J:k<F.length
   . rw [List.getElem_append_left (by rw [zt];omega),List.getElem_take]
     obtain ⟨l1,l2,l3⟩:=h.low k J;exact ⟨by omega,l2,l3⟩
   . rw [List.getElem_append_right (by rw [zt];omega),List.getElem_replicate]
     exact ⟨Int.le_refl _,h0,fun p hp=>by have:=h.high k (by omega) p hp;omega⟩
 . intro k hk p hp;simp only [setF] at hk;rw [z8,zt,List.length_replicate] at hk;have O:N b<=k:=by omega
   simp only [O,if_true] at hp;by_cases J:k<F.length
   . rw [ze J] at hp;rcases zG.1 hp with hp|hp
     . obtain ⟨l1,l2,l3⟩:=h.low k J;have:=l3 p hp;omega
     . simp at hp;subst hp;exact Int.le_refl _
   . rw [zz (by omega)] at hp
     simp at hp;have:=h.high k (by omega) p hp;omega
 . intro k t ht;have U:(setF (F,out) (b,N b)).1=F.take (N b)++List.replicate (N b - F.length) b:=rfl;have key:(∃ hh:k<(setF (F,out) (b,N b)).1.length,(setF (F,out) (b,N b)).1[k]<=t)↔(k<N b/\((∃ hh:k<F.length,F[k]<=t)\/(F.length<=k/\b<=t))):=by
    constructor
    . rintro ⟨hh,Q⟩;have hh':=hh;rw [U,z8,zt,List.length_replicate] at hh';refine ⟨by omega,?_⟩
      by_cases J:k<F.length
      . refine .inl ⟨J,?_⟩;have e:(setF (F,out) (b,N b)).1[k]=F[k]:=by
         simp only [U];rw [List.getElem_append_left (by rw [zt];omega),List.getElem_take]
        rw [<-e];exact Q
      . refine .inr ⟨by omega,?_⟩
        have e:(setF (F,out) (b,N b)).1[k]=b:=by
         simp only [U];rw [List.getElem_append_right (by rw [zt];omega),List.getElem_replicate]
        rw [<-e];exact Q
    . rintro ⟨h1,h2⟩;have hh:k<(setF (F,out) (b,N b)).1.length:=by rw [U,z8,zt,List.length_replicate];omega
      refine ⟨hh,?_⟩;rcases h2 with ⟨J,Q⟩|⟨J,Q⟩
      . have e:(setF (F,out) (b,N b)).1[k]=F[k]:=by
         simp only [U];rw [List.getElem_append_left (by rw [zt];omega),List.getElem_take]
        rw [e];exact Q
      . have e:(setF (F,out) (b,N b)).1[k]=b:=by
         simp only [U];rw [List.getElem_append_right (by rw [zt];omega),List.getElem_replicate]
        rw [e];exact Q
   rw [key];have Z:inL (A k++(if N b<=k then (F[k]?).toList.map (fun f=>(f,b)) else [])) t=true↔inL (A k) t=true\/(N b<=k/\(∃ hh:k<F.length,F[k]<=t)/\t<b):=by
    rw [xuB,Bool.or_eq_true];refine or_congr Iff.rfl ?_;by_cases O:N b<=k
    . rw [if_pos O];by_cases J:k<F.length
      . obtain ⟨l1,l2,l3⟩:=h.low k J;rw [ze J];have e:inL ((some F[k]).toList.map fun f=>(f,b)) t=hasP (F[k],b) t:=by simp [inL]
        rw [e,xf4,xbT];dsimp only;constructor
        . rintro ⟨_,h2,h3⟩;exact ⟨O,⟨J,h2⟩,h3⟩
        . rintro ⟨_,⟨_,h2⟩,h3⟩;exact ⟨⟨l2,by omega,hb⟩,h2,h3⟩
      . rw [zz (by omega)]
        simp only [Option.toList_none,zW,xrn,zT,false_iff];rintro ⟨_,⟨hh,_⟩,_⟩;omega
    . rw [if_neg O,xrn];simp only [zT,false_iff];rintro ⟨hh,_⟩;omega
   rw [Z];by_cases ab:t<=a
   . have V:=h.cov k t ab;rw [<-V];constructor
     . rintro ((h1|⟨_,h2,_⟩)|⟨_,h2|⟨_,h3⟩⟩)
       . exact .inl h1
       . exact .inr h2
       . exact .inr h2
       . omega
     . rintro (h1|h2)
       . exact .inl (.inl h1)
       . by_cases O:N b<=k
         . exact .inl (.inr ⟨O,h2,by omega⟩)
         . exact .inr ⟨by omega,.inl h2⟩
   . have W:inL (A k) t=true->False:=fun hi=>by
      obtain ⟨p,hp,_,p1,p2⟩:=xjz.1 hi;by_cases J:k<F.length
      . obtain ⟨l1,l2,l3⟩:=h.low k J;have:=l3 p hp;omega
      . have:=h.high k (by omega) p hp;omega
     have aa:(∃ hh:k<F.length,F[k]<=t)↔k<F.length:=⟨fun ⟨hh,_⟩=>hh,fun hh=>⟨hh,by have:=(h.low k hh).1;omega⟩⟩
     rw [aa];by_cases Y:t<b
     . rw [hc t (by omega) Y,<-hl]
       constructor
       . rintro ((h1|⟨_,h2,_⟩)|⟨_,h2|⟨_,h3⟩⟩)
         . exact (W h1).elim
         . exact h2
         . exact h2
         . omega
       . intro J;by_cases O:N b<=k
         . exact .inl (.inr ⟨O,J,Y⟩)
         . exact .inr ⟨by omega,.inl J⟩
     . obtain rfl:t=b:=by omega
       constructor
       . rintro ((h1|⟨_,_,h2⟩)|⟨h1,_⟩)
         . exact (W h1).elim
         . omega
         . exact h1
       . intro hk;refine .inr ⟨hk,?_⟩;by_cases J:k<F.length
         . exact .inl J
         . exact .inr ⟨by omega,Int.le_refl _⟩
 . show (F.take (N b)++List.replicate (N b - F.length) b).length=N b;rw [z8,zt,List.length_replicate];omega
 . show (F.take (N b)++List.replicate (N b - F.length) b).length<=H;rw [z8,zt,List.length_replicate];omega
theorem xAs {N:Int->Nat} {a b:Int} (h:∀ t,a<t->t<b->N (t - 1)=N t):∀ (d:Nat) (t:Int),t=a+d->t<b->N t=N a
 | 0,t,e,_=>by rw [e];simp
 | d+1,t,e,hb=>by
  rw [<-h t (by omega) hb]
  exact xAs h d (t - 1) (by omega) (by omega)
theorem xH1 {N:Int->Nat} {H:Nat} (hH:∀ t,N t<=H):∀ (R:List Per) (a:Int) (F:List Int) (out:List Per) (A:Nat->List Per),LvI N H a F out A->-1<=a->a<1099511627776->(∀ s,s∈R->a<s.1/\s.1<1099511627776/\s.2=(N s.1:Int))->R.Pairwise (fun x y=>x.1<y.1) ->
  (∀ t,a<t->t<1099511627776->N (t - 1)≠N t->∃ s,s∈R/\s.1=t)->∃ (a':Int) (A':Nat->List Per),LvI N H a' (R.foldl (fun x s=>setF x (s.1,s.2.toNat)) (F,out)).1 (R.foldl (fun x s=>setF x (s.1,s.2.toNat)) (F,out)).2 A'/\-1<=a'/\a'<1099511627776/\∀ t,a'<t->t<1099511627776->N (t - 1)=N t
 | [],a,F,out,A,h,h1,h2,_,_,hm=>⟨a,A,h,h1,h2,fun t t1 t2=>by
  by_cases e:N (t - 1)=N t
  . exact e
  . obtain ⟨s,hs,_⟩:=hm t t1 t2 e;simp at hs⟩
 | s::R,a,F,out,A,h,h1,h2,hr,hp,hm=>by
  obtain ⟨s1,s2,s3⟩:=hr s (by simp)
  obtain ⟨p1,p2⟩:=zM.1 hp;obtain ⟨A',h'⟩:=h.set (b:=s.1) s1 (by omega) (by omega) (fun t t1 t2=>xAs (a:=a) (b:=s.1) (fun u u1 u2=>by
   by_cases e:N (u - 1)=N u
   . exact e
   . obtain ⟨q,hq,J⟩:=hm u u1 (by omega) e
     rcases zC.1 hq with rfl|hq
     . omega
     . have:=p1 q hq;omega) (t - a).toNat t (by omega) t2) (hH _)
  rw [List.foldl_cons];have e:setF (F,out) (s.1,s.2.toNat)=setF (F,out) (s.1,N s.1):=by rw [s3,zN]
  rw [e];obtain ⟨a',A2,g1,g2,g3,g4⟩:=xH1 hH R s.1 _ _ A' h' (by omega) s2 (fun q hq=>⟨p1 q hq,(hr q (by simp [hq])).2⟩) p2 (fun t t1 t2 e=>by
   obtain ⟨q,hq,J⟩:=hm t (by omega) t2 e
   rcases zC.1 hq with rfl|hq
   . omega
   . exact ⟨q,hq,J⟩)
  exact ⟨a',A2,g1,g2,g3,g4⟩
theorem xN6 {N:Int->Nat} {H:Nat} (hH:∀ t,N t<=H) (h0:∀ t,t<0\/1099511627776<=t->N t=0) {S:List Per} (hS:StepI (fun t=>(N t:Int)) 1099511627776 S) {P:List Per} (hP:P.Perm (setF (S.foldl (fun x s=>setF x (s.1,s.2.toNat)) ([],[])) (1099511627776,0)).2) (hs:Sorted cmpP P):IsLevs N P:=by
 obtain ⟨a,A,g1,g2,g3,g4⟩:=xH1 hH S (-1) [] [] _ (LvI.start fun t ht=>h0 t (.inl ht)) (by omega) (by omega) (fun s hs=>by
  obtain ⟨m1,m2,m3,_⟩:=(hS.mem s).1 hs;exact ⟨by omega,m2,m3⟩) hS.asc (fun t t1 t2 e=>by
  refine ⟨(t,(N t:Int)),(hS.mem _).2 ⟨by dsimp only;omega,t2,rfl,?_⟩,rfl⟩
  refine .inr ?_;dsimp only;omega)
 have hz:N 1099511627776=0:=h0 _ (.inr (Int.le_refl _));obtain ⟨A',h'⟩:=g1.set (b:=1099511627776) g3 (by omega) (by omega) (fun t t1 t2=>xAs (fun u u1 u2=>g4 u u1 u2) (t - a).toNat t (by omega) t2) (hH _)
 rw [hz] at h';have hF:=h'.len;rw [hz] at hF;refine ⟨hs,A',H,hH,fun k=>⟨h'.span k,fun t=>?_⟩,hP.trans h'.perm⟩
 rw [Bool.eq_iff_iff,zl];by_cases ht:t<=1099511627776
 . rw [<-h'.cov k t ht];refine ⟨Or.inl,fun hh=>hh.elim id fun ⟨hk,_⟩=>?_⟩
   rw [hF] at hk;omega
 . rw [h0 t (.inr (by omega))]
   refine ⟨fun hi=>?_,fun hh=>by omega⟩
   have:=(xJx hi).2;omega
theorem xGA {ps:List Per} (h:ps.length<=262144):Tame (ps.map fun p=>(p,(1:Int))):=⟨by simpa using h,fun c hc=>by
 obtain ⟨p,_,rfl⟩:=zK.1 hc;dsimp only;omega⟩
theorem xG0 (ps:List Per) (h:ps.length<=262144):∃ S,xgM (ps.map encP)=some (S.map encP)/\StepI (fun t=>((ps.countP (hasP · t):Nat):Int)) 1099511627776 S/\S.length<=2*ps.length+1:=by
 obtain ⟨S,h1,h2,h3⟩:=xBR _ (xGA h);refine ⟨S,by rw [xKO ps (by omega),h1],?_,by simpa using h3⟩
 rwa [show sumC (ps.map fun p=>(p,(1:Int)))=fun t=>((ps.countP (hasP · t):Nat):Int) from funext fun t=>xGU ps t] at h2
theorem xNS (l:List Fc) (q:Row) (t:Int) (g:Fc->List Per) (hg:∀ f,(g f).countP (hasP · t)=if f.r=q/\hasP f.p t=true then 1 else 0):(l.flatMap g).countP (hasP · t)=cnt l q t:=by
 induction l with
 | nil=>rfl
 | cons f l ih =>
  rw [zR,List.countP_append,ih,hg];have e2:cnt (f::l) q t=cnt l q t+if (decide (f.r=q)&&hasP f.p t)=true then 1 else 0:=List.countP_cons
  rw [e2];by_cases h:f.r=q/\hasP f.p t=true
  . rw [if_pos h,if_pos (by simp [h.1,h.2])];omega
  . rw [if_neg h,if_neg (by simpa using h)];omega
theorem xK5 (l:List Fc) (q:Row) (hr:∀ f,f∈l->f.r.length<=maxLen) (hl:l.length<=262144):∃ S,xu2 (l.map encF) (q.map encV)=some (S.map encP)/\StepI (fun t=>((cnt l q t:Nat):Int)) 1099511627776 S/\S.length<=2*l.length+1:=by
 have e:=xBY q l (by omega) hr
 have J:(l.flatMap fun f=>if cmpR f.r q==0 then [(f.p,(1:Int))] else [])=(l.flatMap fun f=>if cmpR f.r q==0 then [f.p] else []).map fun p=>(p,(1:Int)):=by
  rw [List.map_flatMap];congr 1;funext f;split<;>simp
 rw [J] at e;generalize hq:(l.flatMap fun f=>if cmpR f.r q==0 then [f.p] else [])=ps at e
 have O:ps.length<=l.length:=by
  rw [<-hq];have:=xgN (c:=1) (g:=fun f:Fc=>if cmpR f.r q==0 then [f.p] else []) l fun f _=>by split<;>simp
  omega
 obtain ⟨S,h1,h2,h3⟩:=xRm _ (xGA (ps:=ps) (by omega))
 refine ⟨S,?_,?_,by rw [za] at h3;omega⟩
 . unfold xu2 xwI;simp only [xu3,xu4,xu5,xu6,e,sOO,sUF];simp only [h1,sOO]
 . rwa [show sumC (ps.map fun p=>(p,(1:Int)))=fun t=>((cnt l q t:Nat):Int) from funext fun t=>by
    rw [xGU,<-hq,xNS l q t _ fun f=>?_]
    rw [cmp0];by_cases hr:f.r=q<;>cases hh:hasP f.p t<;>simp [hr,hh]] at h2
end Go.Sim.M
end
noncomputable section
set_option maxRecDepth 100000
namespace Go.Sim.M
open Go.RowKit Go.Sim.Srt Go.Sort
theorem xQk (E:List Per):(E.map encP).all isP=true/\∃ P:List Per,srtP (E.map encP)=P.map encP/\P.Perm E/\Sorted cmpP P:=by
 have e1:(E.map encP).map decP=E:=by
  rw [List.map_map];conv=>rhs;rw [<-List.map_id E]
  rfl
 refine ⟨?_,pdqL cmpP E,?_,(xn3 cmpP swoP E).1,(xAL cmpP swoP E).imp fun {x y} h=>?_⟩
 . rw [zI];intro x hx;obtain ⟨e,he,rfl⟩:=zK.1 hx;rfl
 . unfold srtP;rw [e1];rfl
 . have:=xAq x y;omega
theorem xHx (S:List Per) (hS:S.length<=524289) (hN:∀ s,s∈S->0<=s.2/\s.2<=1048576):∀ (d k:Nat) (J ox:List Per),k+d=S.length->StOk J->(xSm J).length<=1048576->ox.length<=k*1048576 ->
  ∃ q Q:List Per,Iter (xeH (S.map encP) ((S.length:Nat):Int)) ((k:Int),ox.length,J.length,((xSm J).length:Int),ox.map encP,J.map encP)=some (Q.length,((xSm q).length:Int),q.length,Q.map encP,q.map encP) /\
   StOk q/\(xSm q,Q)=(S.drop k).foldl (fun x s=>setF x (s.1,s.2.toNat)) (xSm J,ox)/\(xSm q).length<=1048576/\Q.length<=S.length*1048576
 | 0,k,J,ox,h,h1,h2,h3=>by
  obtain rfl:k=S.length:=by omega
  refine ⟨J,ox,xam ?_,h1,by rw [zq (zd _)];rfl,h2,h3⟩
  simp only [xeH,xmQ,zy,zm,xag,sUF]
 | d+1,k,J,ox,h,h1,h2,h3=>by
  have hk:k<S.length:=by omega
  obtain ⟨n1,n2⟩:=hN _ (zo hk);obtain ⟨m,hm⟩:∃ m:Nat,S[k].2=(m:Int):=⟨S[k].2.toNat,by omega⟩
  obtain ⟨O,e,a1,a2⟩:=xKh S[k].1 m (xSm J).length J ox h1 rfl (by omega) h2 (by omega)
  have U:(xSm O).length=m:=by rw [a2,z8,zt,List.length_replicate];omega
  obtain ⟨q,Q,e',b1,b2,b3,b4⟩:=xHx S hS hN d (k+1) O (ox++(((xSm J).drop m).reverse.map fun f=>(f,S[k].1))) (by omega) a1 (by omega) (by
   rw [z8,za,List.length_reverse,y1];omega)
  refine ⟨q,Q,(xaM ?_).trans e',b1,?_,b3,b4⟩
  . have i1:(k:Int)<(S.length:Int):=by omega
    have gf:(S.map encP).getD k .top=encP S[k]:=xad _ _ _ hk;have i2:¬ (0:Int)>(m:Int):=by omega
    have i3:¬ (1048576:Int)<(m:Int):=by omega
    have tk:List.take O.length (O.map encP)=O.map encP:=zi (by simp)
    rw [U];simp only [xeH,xmQ,xrc,xrd,xre,xrf,xrg,xrh,xri,sBU,hk,i1,gf,cP0,cP1,lP,sP,sP0,sP1,hm,i2,i3,if_false,e,tk,xSj (n:=k) (by omega)]
  . rw [b2,xaR hk,List.foldl_cons];congr 1;rw [hm,zN,a2];rfl
theorem xMP {N:Int->Nat} {H:Nat} (hb:H<=1048576) (hH:∀ t,N t<=H) (h0:∀ t,t<0\/1099511627776<=t->N t=0) {S:List Per} (hS:StepI (fun t=>(N t:Int)) 1099511627776 S) (hl:S.length<=524289):∃ P,xvO (S.map encP)=some (P.map encP)/\IsLevs N P:=by
 obtain ⟨q,ox,e,a1,a2,a3,a4⟩:=xHx S hl (fun s hs=>by
  obtain ⟨_,_,m3,_⟩:=(hS.mem s).1 hs;have:=hH s.1;omega) S.length 0 [] [] (by omega) (fun s hs=>by simp at hs) (by simp [xSm]) (by simp)
 obtain ⟨J,e2,c1,c2⟩:=xKh 1099511627776 0 (xSm q).length q ox a1 rfl (by omega) a3 (by omega)
 obtain ⟨s1,P,s2,s3,s4⟩:=xQk (ox++(((xSm q).drop 0).reverse.map fun f=>(f,(1099511627776:Int))))
 have m1:(ox++(((xSm q).drop 0).reverse.map fun f=>(f,(1099511627776:Int)))).length<4611686018427387904:=by
  rw [z8,za,List.length_reverse,y1];omega
 refine ⟨P,?_,xN6 hH h0 hS ?_ s4⟩
 . have pl:=s3.length_eq;have e:Iter (xeH (S.map encP) ((S.length:Nat):Int)) ((0:Int),(0:Nat),(0:Nat),(0:Int),[],[])=_:=e;have e2:set2 1099511627776 0 ((xSm q).length:Int) q.length ox.length (q.map encP) (ox.map encP)=_:=e2;generalize (ox++(((xSm q).drop 0).reverse.map fun f=>(f,(1099511627776:Int))))=O at s1 s2 e2 pl m1
   have bq:O.length.beq O.length=true:=by simp
   have m2:O.length<=P.length:=by omega
   have tt:List.take O.length (P.map encP)=P.map encP:=zi (by rw [za];omega)
   unfold xvO xwS;simp only [xlI,xlJ,xvP,xvQ,xvR,xvS,xvT,xvU,xvV,za,e,zk,zh,xaj,e2,bq,m1,s1,s2,zn,zS,zH,m2,zr,tt,sUF]
 . have a2:(xSm q,ox)=S.foldl (fun x s=>setF x (s.1,s.2.toNat)) ([],[]):=a2
   rw [<-a2];exact s3
theorem xHE (ps:List Per) (t:Int) (ht:t<0\/1099511627776<=t):ps.countP (hasP · t)=0:=by
 rw [List.countP_eq_zero];intro p hp h;obtain ⟨h1,h2,h3⟩:=xf4.1 h;have:=xbT.1 h1;omega
theorem xPq (ps:List Per) (hv:∀ p,p∈ps->pv p=true) (hl:ps.length<=262144):∃ P,xh4 (ps.map encP)=some (P.map encP)/\IsLevs (fun t=>ps.countP (hasP · t)) P:=by
 unfold xh4 xum;by_cases h1:ps.length=1
 . obtain ⟨p,rfl⟩:=List.length_eq_one_iff.1 h1;refine ⟨[p],rfl,List.pairwise_singleton _ _,fun k=>if k=0 then [p] else [],1,fun t=>?_,fun k=>?_,?_⟩
   . have:=List.countP_le_length (p:=(hasP · t)) (l:=[p]);simpa using this
   . by_cases hk:k=0
     . subst hk;refine ⟨⟨fun q hq=>by simp at hq;subst hq;exact hv _ (by simp),List.pairwise_singleton _ _⟩,fun t=>?_⟩
       simp [inL];cases hasP p t<;>simp
     . refine ⟨by simp [hk,xzg],fun t=>?_⟩
       simp only [hk,if_false,xrn];have:=List.countP_le_length (p:=(hasP · t)) (l:=[p]);simp at this |-;omega
   . simp
 . obtain ⟨S,e1,e2,e3⟩:=xG0 ps hl;obtain ⟨P,e4,e5⟩:=xMP (N:=fun t=>ps.countP (hasP · t)) (H:=ps.length) (by omega) (fun t=>List.countP_le_length) (xHE ps) e2 (by omega)
   refine ⟨P,?_,e5⟩;have i1:((ps.length:Int)==1)=false:=by simp;omega
   simp only [za,i1,xag,e1,e4,zk,zh,xaj,sUF]
def mk (r:Row) (P:List Per):List Fc:=P.map fun p=>⟨r,p⟩
theorem xD6 (L:Row->List Per):∀ S:List Grp,(S.flatMap fun g=>mk g.1 (L g.1))=xSq (S.map (·.1)) L
 | []=>rfl
 | g::S=>by rw [zR,xD6 L S];rfl
theorem xMb (Q:List AV) (O J:Int) (q:Row) (hr:q.length<=1048576) (g1:List AV) (P:List Per) (D:List Fc) (hb:D.length+P.length<=2199023255552) (hP:P.length<=1099511627776) :
  Iter (xcG Q O J (P.map encP) ((P.length:Nat):Int)) (D.length,(0:Int),D.map encF,q.map encV,g1)=some ((D++mk q P).length,(D++mk q P).map encF):=by
 have key:=xeL (step:=xcG Q O J (P.map encP) ((P.length:Nat):Int)) (fun k=>(((D++mk q (P.take k)).length,((k:Nat):Int),(D++mk q (P.take k)).map encF,q.map encV,g1):Nat×Int×List AV×List AV×List AV)) P.length
  ((D++mk q P).length,(D++mk q P).map encF) (fun k hk=>by
  have i1:(k:Int)<(P.length:Int):=by omega
  have gf:(P.map encP).getD k .top=encP P[k]:=xad _ _ _ hk;have dl:(D++mk q (P.take k)).length=D.length+k:=by unfold mk;rw [z8,za,zt];omega
  have m1:(D.length+k+1)*40<=140737488355328:=by omega
  have m2:D.length+k+1<=4611686018427387904:=by omega
  have m3:q.length*32<=140737488355328:=by omega
  have m4:q.length<=4611686018427387904:=by omega
  have tk:List.take q.length (q.map encV)=q.map encV:=zi (by simp)
  have U:mk q (P.take (k+1))=mk q (P.take k)++[⟨q,P[k]⟩]:=by unfold mk;rw [List.take_add_one,ze hk,zx];rfl
  rw [U,<-zw];simp only [xcG,xhA,sBU,hk,i1,gf,cP0,cP1,lP,sP,sP0,sP1,dl,m1,m2,m3,m4,zd,tk,zr,xSj (n:=k) (by omega)]
  rw [z8,dl];simp [encF]) (by
  simp only [xcG,xhA,zy,zm,xag,y4,sUF]) P.length 0 (by omega)
 have e0:D++mk q (P.take 0)=D:=by simp [mk]
 rw [e0] at key;exact key
def Bld (l:List Fc):Prop:=Keyed l/\l.length<=1024
theorem cGs (g:Grp):((encG g).cells.getD 1 .top).toList=g.2.map encP:=rfl
theorem lG (g:Grp):((encG g).cells.length==2)=true:=rfl
theorem sG (g:Grp):xTt [Sh.list 3,Sh.list 2] (encG g).cells 0=true:=rfl
theorem xMc (S:List Grp) (hS:S.length<=1024) (hr:∀ g,g∈S->g.1.length<=1048576) (L:Row->List Per) (hL:∀ g,g∈S->xh4 (g.2.map encP)=some ((L g.1).map encP)/\(L g.1).length<=1048576) :
  Iter (xdT (S.map encG) ((S.length:Nat):Int)) ((0:Nat),(0:Int),[])=some ((xSq (S.map (·.1)) L).length,(xSq (S.map (·.1)) L).map encF):=by
 rw [<-xD6];refine xjJ S (fun g=>mk g.1 (L g.1)) encF 1048576 (fun g hg=>by unfold mk;rw [za];exact (hL g hg).2) (fun n h D hD=>?_) (fun D=>?_)
 . have i1:(n:Int)<(S.length:Int):=by omega
   have gf:(S.map encG).getD n .top=encG S[n]:=xad _ _ _ h;obtain ⟨e1,e2⟩:=hL _ (zo h);have q:=hr _ (zo h);have el:=xMb (S.map encG) (S.length:Int) (n:Int) S[n].1 q (S[n].2.map encP) (L S[n].1) D (by omega) (by omega)
   simp only [xdT,xhz,xlY,xlZ,sBU,h,i1,gf,cG0,cGs,lG,sG,e1,el,xSj (n:=n) (by omega)]
 . simp only [xdT,xhz,zy,zm,xag,sUF]
theorem xGc {R:List Row} {Q:Row->List Per->Prop} (h:∀ r,r∈R->∃ P,Q r P):∃ L:Row->List Per,∀ r,r∈R->Q r (L r):=by
 refine ⟨fun r=>if hr:r∈R then Classical.choose (h r hr) else [],fun r hr=>?_⟩
 show Q r (if hr:r∈R then Classical.choose (h r hr) else [])
 rw [dif_pos hr];exact Classical.choose_spec (h r hr)
theorem xM5 (l:List Fc) (r:Row):(fun t=>(psOf l r).countP (hasP · t))=cnt l r:=funext fun t=>xC1 l r t
theorem xL7 (l:List Fc) (h:Bld l):∃ B,xjF (l.map encF)=some (B.map encF)/\xSw l B:=by
 obtain ⟨S,e1,hR,J,O⟩:=xP5 l h.1;have hl:=h.2;obtain ⟨L,hL⟩:=xGc (R:=S.map (·.1)) (Q:=fun r P=>xh4 ((psOf l r).map encP)=some (P.map encP)/\IsLevs (cnt l r) P/\P.length<=1048576) fun r hr=>by
  have q:=xId l r;obtain ⟨P,a1,a2⟩:=xPq (psOf l r) xOo (by omega)
  have a3:=a2.len;rw [xM5] at a2;refine ⟨P,a1,a2,Nat.le_trans a3 (Nat.mul_le_mul (Nat.le_trans q hl) (Nat.le_trans q hl))⟩
 have hk:∀ g,g∈S->g.1∈S.map (·.1):=fun g hg=>zK.2 ⟨g,hg,rfl⟩
 have eb:=xMc S (by omega) (fun g hg=>by
  obtain ⟨f,hf,e,_⟩:=(hR.2 g.1).1 (hk g hg);rw [<-e];exact h.1.1.2 f hf) L (fun g hg=>by
  rw [J g hg];exact ⟨(hL _ (hk g hg)).1,(hL _ (hk g hg)).2.2⟩)
 refine ⟨xSq (S.map (·.1)) L,?_,S.map (·.1),L,hR,fun r hr=>(hL r hr).2.1,rfl⟩
 have tt:∀ F:List Fc,List.take F.length (F.map encF)=F.map encF:=fun F=>zi (by simp)
 unfold xjF xwk xth xqj xo5 xo6 xo7 xo8;simp only [e1,zk,zh,xaj,za,eb,zH,zd,zn,zS,zr,tt,sUF]
end Go.Sim.M
end
noncomputable section
set_option maxRecDepth 100000
namespace Go.Sim.M
open Go.RowKit Go.Sim.Srt
def pos (S:List Per) (i:Nat):Int:=match S[i]? with
 | some s=>s.1
 | none=>1099511627776
theorem xBn {S:List Per} {i:Nat} (h:i<S.length):pos S i=S[i].1:=by unfold pos;rw [ze h]
theorem xIb {S:List Per} {i:Nat} (h:S.length<=i):pos S i=1099511627776:=by unfold pos;rw [zz h]
theorem xOj {N:Int->Nat} {S:List Per} (hS:StepI (fun t=>(N t:Int)) 1099511627776 S) {i:Nat} (hi:i<S.length):0<=pos S i/\pos S i<pos S (i+1)/\pos S (i+1)<=1099511627776/\S[i].2=(N S[i].1:Int)/\∀ t,pos S i<=t->t<pos S (i+1)->N t=N S[i].1:=by
 obtain ⟨m1,m2,m3,_⟩:=(hS.mem S[i]).1 (zo hi);rw [xBn hi];have hb:S[i].1<pos S (i+1)/\pos S (i+1)<=1099511627776:=by
  by_cases h:i+1<S.length
  . rw [xBn h];have:=zB.1 hS.asc i (i+1) hi h (by omega)
    have:=((hS.mem S[i+1]).1 (zo h)).2.1;omega
  . rw [xIb (by omega)];omega
 refine ⟨m1,hb.1,hb.2,m3,fun t h1 h2=>xAs (a:=S[i].1) (b:=pos S (i+1)) (fun u u1 u2=>?_) (t - S[i].1).toNat t (by omega) h2⟩
 by_cases e:N (u - 1)=N u
 . exact e
 . have hu:(u,(N u:Int))∈S:=(hS.mem _).2 ⟨by dsimp only;omega,by dsimp only;omega,rfl,.inr (by dsimp only;omega)⟩
   obtain ⟨k,hk,q⟩:=zp.1 hu;have O:S[k].1=u:=by rw [q]
   rcases zJ i k with J|J
   . have:i+1<S.length:=by omega
     rw [xBn this] at u2;rcases zJ (i+1) k with h3|h3
     . have:=zB.1 hS.asc (i+1) k this hk h3;omega
     . obtain rfl:k=i+1:=by omega
       omega
   . rcases zJ k i with h3|h3
     . have:=zB.1 hS.asc k i hk hi h3;omega
     . obtain rfl:k=i:=by omega
       omega
theorem xOk {N:Int->Nat} {S:List Per} (hS:StepI (fun t=>(N t:Int)) 1099511627776 S):pos S 0=0:=by
 have h0:((0:Int),(N 0:Int))∈S:=(hS.mem _).2 ⟨by simp,by simp,rfl,.inl rfl⟩
 obtain ⟨k,hk,q⟩:=zp.1 h0;have h:0<S.length:=by omega
 have p0:=((hS.mem S[0]).1 (zo h)).1;rw [xBn h];have J:S[k].1=0:=by rw [q]
 rcases zJ 0 k with h3|h3
 . have:=zB.1 hS.asc 0 k h hk h3;omega
 . obtain rfl:k=0:=by omega
   exact J
def xSA (out:List Per) (f t:Int):List Per:=match out.getLast? with
 | some p=>if p.2=f then out.dropLast++[(p.1,t)] else out++[(f,t)]
 | none=>out++[(f,t)]
theorem xS5 {n:Nat} (h:n<=1099511627776):(n+1)*16<=140737488355328/\n+1<=4611686018427387904/\n*16<=140737488355328/\n<=4611686018427387904:=by omega
theorem xPJ (out:List Per) (f t:Int) (O:f<t) (J:∀ p,p∈out->p.2<=f) (hl:out.length<=1048576):∃ q,xcE out.length f t (out.map encP)=some q/\br q.1 q.2.1.1 q.2.2.1=(xSA out f t).length/\br q.1 q.2.1.2.2 q.2.2.2=(xSA out f t).map encP:=by
 rcases xzm out with rfl|⟨o,p,rfl⟩
 . refine ⟨_,rfl,rfl,rfl⟩
 . have hp:=J p (by simp)
   have L:(o++[p]).length=o.length+1:=by simp
   rw [L] at hl;have w1:IntKind.i64.wrap (((o.length+1:Nat):Int) - 1)=(o.length:Int):=xTf (by omega)
   have i1:((o.length+1:Nat):Int)>0:=by omega
   have i2:(o.length:Int)<((o.length+1:Nat):Int):=by omega
   have i3:(o.length:Int)<=((o.length+1:Nat):Int):=by omega
   have i4:o.length<o.length+1:=by omega
   have i5:o.length<=o.length+1:=by omega
   have gl:((o++[p]).map encP).getD o.length .top=encP p:=by
    rw [zx];have:=xHR (o.map encP) (encP p) .top;rwa [za] at this
   have tl:List.take o.length ((o++[p]).map encP)=o.map encP:=by
    rw [zx];exact List.take_left' (by simp)
   obtain ⟨m1,m2,m3,m4⟩:=xS5 (n:=o.length) (by omega)
   obtain ⟨m5,m6,_,_⟩:=xS5 (n:=o.length+1) (by omega)
   have jn:xSA (o++[p]) f t=if p.2=f then o++[(p.1,t)] else o++[p]++[(f,t)]:=by
    unfold xSA;simp
   by_cases he:p.2=f
   . have c1:p.2>=f:=by omega
     have c2:t>p.2:=by omega
     rw [jn,if_pos he,L];refine ⟨(true,(o.length+1,(o++[p]).map encP,o.map encP++[encP (p.1,t)]),(0,[])),?_,by simp [xaj,sUF],by simp [xaj,sUF]⟩
     unfold xcE xqE xm8 xoC xfa xsx xs0 xoD xs1;simp only [sBU,L,w1,i1,i2,i3,i4,i5,gl,cP0,cP1,lP,sP,sP0,sP1,c1,c2,tl,zr,m1,m2,m3,m4,if_true,aggP]
   . have c1:¬ p.2>=f:=by omega
     rw [jn,if_neg he,L];refine ⟨(false,(0,[],[]),(o.length+1+1,(o++[p]).map encP++[encP (f,t)])),?_,by simp [xag,sUF],by simp [xag,sUF]⟩
     unfold xcE xqE xm8 xoC xfa xsx xs0 xoD xs1;simp only [sBU,L,w1,i1,i2,i3,i4,gl,cP0,cP1,lP,sP,sP0,sP1,c1,m5,m6,aggP]
theorem xMJ {out:List Per} {f t:Int} {K:Int->Bool} (h:OutOk out f K) (h0:0<=f) (J:f<t) (hF:t<=1099511627776) (hK:∀ u,f<=u->u<t->K u=true):OutOk (xSA out f t) t K/\(xSA out f t).length<=out.length+1:=by
 rcases xzm out with rfl|⟨o,p,rfl⟩
 . exact ⟨h.add h0 J hF hK (fun p hp=>by simp at hp),by simp [xSA]⟩
 . have jn:xSA (o++[p]) f t=if p.2=f then o++[(p.1,t)] else o++[p]++[(f,t)]:=by unfold xSA;simp
   rw [jn];by_cases he:p.2=f
   . rw [if_pos he];exact ⟨h.ext he J hF hK,by simp⟩
   . rw [if_neg he];refine ⟨h.add h0 J hF hK (fun q hq e=>?_),by simp⟩
     rcases zG.1 hq with hq|hq
     . have:=(List.pairwise_append.1 h.span.2).2.2 q hq p (by simp)
       have hv:=xbT.1 (h.span.1 p (by simp))
       have:=h.low p (by simp)
       omega
     . rw [zv] at hq;subst hq;exact he e
theorem xHv {N:Int->Nat} {S:List Per} (hS:StepI (fun t=>(N t:Int)) 1099511627776 S) (hl:S.length<=524289) (n:Int):∀ (d i:Nat) (out:List Per),i+d=S.length->OutOk out (pos S i) (fun t=>decide (n<=(N t:Int)))->out.length<=i ->
  ∃ J:List Per,Iter (xbm (S.map encP) n) (out.length,(i:Int),out.map encP)=some (J.length,J.map encP)/\OutOk J 1099511627776 (fun t=>decide (n<=(N t:Int)))/\J.length<=S.length
 | 0,i,out,h,ho,hn=>by
  obtain rfl:i=S.length:=by omega
  rw [xIb (zd _)] at ho;refine ⟨out,xam ?_,ho,hn⟩;simp only [xbm,xdx,za,zy,zm,xag,sUF]
 | d+1,i,out,h,ho,hn=>by
  have hi:i<S.length:=by omega
  obtain ⟨p1,p2,p3,p4,p5⟩:=xOj hS hi;have i1:(i:Int)<(S.length:Int):=by omega
  have gf:(S.map encP).getD i .top=encP S[i]:=xad _ _ _ hi;have wi:=xSj (n:=i) (by omega)
  have pe:=xBn hi;by_cases Q:S[i].2>=n
  . have hK:∀ t,pos S i<=t->t<pos S (i+1)->(fun t=>decide (n<=(N t:Int))) t=true:=fun t t1 t2=>by
     dsimp only;rw [p5 t t1 t2,<-p4];exact decide_eq_true Q
    obtain ⟨j1,j2⟩:=xMJ ho p1 p2 p3 hK;obtain ⟨q,q1,q2,q3⟩:=xPJ out (pos S i) (pos S (i+1)) p2 ho.low (by omega)
    obtain ⟨J,e',x1,x2⟩:=xHv hS hl n d (i+1) (xSA out (pos S i) (pos S (i+1))) (by omega) j1 (by omega)
    refine ⟨J,(xaM (s':=((xSA out (pos S i) (pos S (i+1))).length,((i+1:Nat):Int),(xSA out (pos S i) (pos S (i+1))).map encP)) ?_).trans e',x1,x2⟩;rw [<-q2,<-q3];by_cases O:i+1<S.length
    . have i2:((i+1:Nat):Int)<(S.length:Int):=by omega
      have gn:(S.map encP).getD (i+1) .top=encP S[i+1]:=xad _ _ _ O;rw [xBn O,pe] at q1;simp only [xbm,xdx,xeW,xeX,xeY,xeZ,xex,xe0,xe1,xe2,xe3,xe4,xcl,xee,xef,xeg,sBU,i1,i2,hi,O,gf,gn,cP0,cP1,lP,sP,sP0,sP1,Q,wi,q1]
    . have i2:¬ ((i+1:Nat):Int)<(S.length:Int):=by omega
      rw [xIb (S:=S) (i:=i+1) (by omega),pe] at q1
      simp only [xbm,xdx,xeW,xeX,xeY,xeZ,xex,xe0,xe1,xe2,xe3,xe4,xcl,xee,xef,xeg,sBU,i1,i2,hi,gf,cP0,cP1,lP,sP,sP0,sP1,Q,wi,q1]
  . have hK:∀ t,pos S i<=t->t<pos S (i+1)->(fun t=>decide (n<=(N t:Int))) t=false:=fun t t1 t2=>by
     dsimp only;rw [p5 t t1 t2,<-p4];exact decide_eq_false (by omega)
    obtain ⟨J,e',x1,x2⟩:=xHv hS hl n d (i+1) out (by omega) (ho.skip (by omega) hK) (by omega)
    refine ⟨J,(xaM (s':=(out.length,((i+1:Nat):Int),out.map encP)) ?_).trans e',x1,x2⟩;by_cases O:i+1<S.length
    . have i2:((i+1:Nat):Int)<(S.length:Int):=by omega
      have gn:(S.map encP).getD (i+1) .top=encP S[i+1]:=xad _ _ _ O;simp only [xbm,xdx,xeW,xeX,xeY,xeZ,xex,xe0,xe1,xe2,xe3,xe4,xcl,xee,xef,xeg,sBU,i1,i2,hi,O,gf,gn,cP0,cP1,lP,sP,sP0,sP1,Q,wi]
    . have i2:¬ ((i+1:Nat):Int)<(S.length:Int):=by omega
      simp only [xbm,xdx,xeW,xeX,xeY,xeZ,xex,xe0,xe1,xe2,xe3,xe4,xcl,xee,xef,xeg,sBU,i1,i2,hi,gf,cP0,cP1,lP,sP,sP0,sP1,Q,wi]
theorem xQX {N:Int->Nat} (h0:∀ t,t<0\/1099511627776<=t->N t=0) {S:List Per} (hS:StepI (fun t=>(N t:Int)) 1099511627776 S) (hl:S.length<=524289) (k:Nat):∃ A:List Per,xgi (S.map encP) ((k+1:Nat):Int)=some (A.map encP)/\(IsSpan A/\∀ t,inL A t=decide (k<N t))/\A.length<=S.length:=by
 obtain ⟨A,e,a1,a2⟩:=xHv hS hl ((k+1:Nat):Int) S.length 0 [] (by omega) (by rw [xOk hS];exact xM0 _) (zd _)
 refine ⟨A,?_,⟨a1.span,fun t=>?_⟩,a2⟩
 . have e:Iter (xbm (S.map encP) ((k+1:Nat):Int)) ((0:Nat),(0:Int),[])=_:=e;have tt:List.take A.length (A.map encP)=A.map encP:=zi (by simp)
   unfold xgi xuI;simp only [xtv,xtw,xty,e,zk,zh,xaj,zH,za,zd,zn,zS,zr,tt,sUF]
 . rw [a1.done];by_cases h1:0<=t
   . by_cases h2:t<1099511627776
     . simp only [h1,h2,zn,Bool.true_and];rw [Bool.eq_iff_iff,zl,zl];omega
     . have:=h0 t (.inr (by omega));simp [h2,this]
   . have:=h0 t (.inl (by omega));simp [h1,this]
theorem xM9 (p q:Per):decide (xsZ p.1 p.2 q.1 q.2<=0)=decide (cmpP p q<=0):=by
 rw [Bool.eq_iff_iff,zl,zl,xBj];unfold xsZ;simp only [xaO,zS,sUF];by_cases h1:p.1=q.1
 . by_cases h2:p.2=q.2
   . simp [h1,h2]
   . by_cases h3:p.2<q.2
     . simp [h1,h2,h3];omega
     . simp [h1,h2,h3];omega
 . by_cases h3:p.1<q.1
   . simp [h1,h3]
   . simp [h1,h3]
theorem xIa (P:List Per) (hP:P.length<=1099511627775) (p:Per):∀ (d i:Nat),i+d=P.length->(∀ k (h:k<P.length),k<i->cmpP P[k] p<=0)->∃ m:Nat,m<=P.length/\(∀ k (h:k<P.length),k<m->cmpP P[k] p<=0)/\(∀ h:m<P.length,¬ cmpP P[m] p<=0) /\
  Iter (xdm (P.map encP)) (i,(i:Int),p.1,p.2,(P.take i).map encP)=some (m,(m:Int),p.1,p.2,(P.take m).map encP)
 | 0,i,h,hk=>by
  obtain rfl:i=P.length:=by omega
  refine ⟨P.length,zd _,hk,fun h=>by omega,xam ?_⟩
  simp only [xdm,xjO,za,zy,zm,xag,sUF]
 | d+1,i,h,hk=>by
  have hi:i<P.length:=by omega
  have i1:(i:Int)<(P.length:Int):=by omega
  have gf:(P.map encP).getD i .top=encP P[i]:=xad _ _ _ hi;have tl:(P.take i).length=i:=by rw [zt];omega
  obtain ⟨m1,m2,_,_⟩:=xS5 (n:=i) (by omega)
  have rc:=xM9 P[i] p;by_cases hc:cmpP P[i] p<=0
  . rw [decide_eq_true hc] at rc;obtain ⟨m,a1,a2,a3,a4⟩:=xIa P hP p d (i+1) (by omega) (fun k h h1=>by
     by_cases e:k=i
     . subst e;exact hc
     . exact hk k h (by omega))
    refine ⟨m,a1,a2,a3,(xaM ?_).trans a4⟩;simp only [xdm,xjO,xmu,sBU,i1,hi,gf,cP0,cP1,lP,sP,sP0,sP1,rc,tl,m1,m2,xSj (n:=i) (by omega),aggP]
    rw [List.take_add_one,ze hi,zx];rfl
  . rw [decide_eq_false hc] at rc;refine ⟨i,by omega,hk,fun _=>hc,xam ?_⟩
    simp only [xdm,xjO,xmu,sBU,i1,hi,gf,cP0,cP1,lP,sP,sP0,sP1,rc]
theorem xOi (P:List Per) (hP:P.length<=1099511627775) (p:Per) (hs:Sorted cmpP P):∃ P':List Per,xw2 (P.map encP) p.1 p.2=some (P'.map encP)/\P'.Perm (p::P)/\Sorted cmpP P':=by
 obtain ⟨m,a1,a2,a3,a4⟩:=xIa P hP p P.length 0 (by omega) (fun k h h1=>by omega)
 refine ⟨P.take m++p::P.drop m,?_,?_,?_⟩
 . have a4:Iter (xdm (P.map encP)) ((0:Nat),(0:Int),p.1,p.2,[])=_:=a4;have tl:(P.take m).length=m:=by rw [zt];omega
   obtain ⟨m1,m2,_,_⟩:=xS5 (n:=m) (by omega)
   have i1:(m:Int)<=(P.length:Int):=by omega
   have t1:List.take (P.length - m) (List.drop m (P.map encP))=(P.drop m).map encP:=by rw [zi (by simp),List.map_drop]
   have dl:(P.drop m).length=P.length - m:=y1;have m3:(m+1+(P.length - m))*16<=140737488355328:=by omega
   have m4:m+1+(P.length - m)<=4611686018427387904:=by omega
   have J:(P.take m).map encP++[encP p]++(P.drop m).map encP=(P.take m++p::P.drop m).map encP:=by simp
   have fl:((P.take m++p::P.drop m).map encP).length=m+1+(P.length - m):=by simp;omega
   have tt:List.take (m+1+(P.length - m)) ((P.take m++p::P.drop m).map encP)=(P.take m++p::P.drop m).map encP:=zi (by rw [fl];exact zd _)
   have ag:AV.agg [.int .i64 p.1,.int .i64 p.2]=encP p:=rfl;unfold xw2 xyG;simp only [xnh,xwy,xwz,xni,xwA,xnj,xwB,xwC,xwD,xwE,xuL,xuM,xuN,a4,sBU,ag,tl,t1,dl,m1,m2,m3,m4,i1,z8,zj,J,zd,zr];have l9:m+(p::P.drop m).length=m+1+(P.length - m):=by rw [zF,dl];omega
   simp only [za,l9,zd,zn,xaj,tt,sUF]
 . exact List.perm_middle.trans (by rw [List.take_append_drop])
 . refine List.pairwise_append.2 ⟨hs.sublist (List.take_sublist _ _),zM.2 ⟨fun q hq=>?_,hs.sublist (List.drop_sublist _ _)⟩,fun x hx y hy=>?_⟩
   . obtain ⟨j,hj,rfl⟩:=zp.1 hq;rw [y1] at hj;rw [List.getElem_drop];have h1:=a3 (by omega)
     have h2:cmpP p P[m]<=0:=by rw [xAq P[m] p];omega
     rcases Nat.eq_zero_or_pos j with rfl|O
     . exact h2
     . exact xNO.trans _ _ _ h2 (zB.1 hs m (m+j) (by omega) (by omega) (by omega))
   . obtain ⟨i,hi,rfl⟩:=List.mem_take_iff_getElem.1 hx;rcases zC.1 hy with rfl|hy
     . exact a2 i (by omega) (by omega)
     . obtain ⟨j,hj,rfl⟩:=zp.1 hy;rw [y1] at hj;rw [List.getElem_drop];exact zB.1 hs i (m+j) (by omega) (by omega) (by omega)
theorem xKe (l:List AV) (n:Int) (s:List Per) (hs:s.length<=1048576):∀ (d i:Nat) (out:List Per),i+d=s.length->Sorted cmpP out->out.length+d<=1099511627775->∃ q:List Per,Iter (xc6 l n (s.map encP)) (out.map encP,(i:Int))=some (q.map encP)/\q.Perm (out++s.drop i)/\Sorted cmpP q
 | 0,i,out,h,ho,hl=>by
  obtain rfl:i=s.length:=by omega
  refine ⟨out,xam ?_,by rw [zq (zd _),zD],ho⟩
  simp only [xc6,xmt,za,zy,zm,xag,sUF]
 | d+1,i,out,h,ho,hl=>by
  have hi:i<s.length:=by omega
  have i1:(i:Int)<(s.length:Int):=by omega
  have gf:(s.map encP).getD i .top=encP s[i]:=xad _ _ _ hi;obtain ⟨P',e1,p1,s1⟩:=xOi out (by omega) s[i] ho
  have pl:=p1.length_eq;rw [zF] at pl;obtain ⟨q,e2,p2,s2⟩:=xKe l n s hs d (i+1) P' (by omega) s1 (by omega)
  refine ⟨q,(xaM (s':=(P'.map encP,((i+1:Nat):Int))) ?_).trans e2,?_,s2⟩
  . simp only [xc6,xmt,sBU,i1,hi,gf,cP0,cP1,lP,sP,sP0,sP1,e1,xSj (n:=i) (by omega)]
  . refine p2.trans ((p1.append_right _).trans ?_);rw [xaR hi];exact List.perm_middle.symm
theorem xKd {S:List Per} (A:Nat->List Per) (C:Nat) (hC:C<=524289) (hA:∀ k,xgi (S.map encP) ((k+1:Nat):Int)=some ((A k).map encP)/\(A k).length<=C) (H:Nat) (hH:H<=1048575) (hE:A H=[]):∀ (d k:Nat) (out:List Per),k+d=H->Sorted cmpP out->out.Perm ((List.range k).flatMap A) ->
  ∃ (K:Nat) (q:List Per),Iter (xc5 (S.map encP)) (out.map encP,((k+1:Nat):Int))=some (true,(q.map encP,q.map encP),[])/\A K=[]/\K<=H/\q.Perm ((List.range K).flatMap A)/\Sorted cmpP q
 | d,k,out,h,ho,hp=>by
  obtain ⟨e1,l1⟩:=hA k;have n1:((k+1:Nat):Int)<=1048576:=by omega
  by_cases hk:A k=[]
  . refine ⟨k,out,xam ?_,hk,by omega,hp,ho⟩
    rw [hk] at e1;simp only [xc5,xms,n1,e1,zn,xaj,zk,zh,zW,sUF];rfl
  . match d,h with
    | 0,h =>
     obtain rfl:k=H:=by omega
     exact absurd hE hk
    | d+1,h =>
     have ol:out.length<=C*k:=by
      rw [hp.length_eq];have:=xgN (g:=A) (List.range k) fun j _=>(hA j).2
      rwa [List.length_range] at this
     have J:C*k<=524289*1048575:=Nat.mul_le_mul hC (by omega)
     obtain ⟨q,e2,p2,s2⟩:=xKe (S.map encP) ((k+1:Nat):Int) (A k) (by omega) (A k).length 0 out (by omega) ho (by omega)
     obtain ⟨K,o2,e3,k1,k2,p3,s3⟩:=xKd A C hC hA H hH hE d (k+1) q (by omega) s2 (by
      rw [List.range_succ,List.flatMap_append];rw [zr] at p2;refine p2.trans ((hp.append_right _).trans ?_);simp)
     refine ⟨K,o2,(xaM ?_).trans e3,k1,k2,p3,s3⟩;have ne:(((A k).length:Int)==0)=false:=by
      have:(A k).length≠0:=fun e=>hk (List.length_eq_zero_iff.1 e)
      simp;exact hk
     have e2:Iter (xc6 (S.map encP) ((k+1:Nat):Int) ((A k).map encP)) (out.map encP,(0:Int))=_:=e2;simp only [xc5,xms,n1,e1,zn,xaj,xag,zk,zh,za,ne,e2,xSj (n:=k+1) (by omega),sUF]
theorem xLf {N:Int->Nat} {H:Nat} (hH:H<=1048575) (hN:∀ t,N t<=H) (h0:∀ t,t<0\/1099511627776<=t->N t=0) {S:List Per} (hS:StepI (fun t=>(N t:Int)) 1099511627776 S) (hl:S.length<=524289):∃ P,xf5 (S.map encP)=some (P.map encP)/\IsLevs N P:=by
 have ha:=xQX h0 hS hl;have hA:=fun k=>Classical.choose_spec (ha k)
 obtain ⟨A,q⟩:∃ A:Nat->List Per,A=fun k=>Classical.choose (ha k):=⟨_,rfl⟩
 have hA:∀ k,xgi (S.map encP) ((k+1:Nat):Int)=some ((A k).map encP)/\(IsSpan (A k)/\∀ t,inL (A k) t=decide (k<N t))/\(A k).length<=S.length:=fun k=>by rw [q];exact hA k
 have hE:A H=[]:=xB4 (hA H).2.1.1 fun t=>by rw [(hA H).2.1.2];have:=hN t;simp;omega
 obtain ⟨K,P,e,k1,k2,p1,s1⟩:=xKd A S.length hl (fun k=>⟨(hA k).1,(hA k).2.2⟩) H hH hE H 0 [] (by omega) List.Pairwise.nil (by simp)
 refine ⟨P,?_,s1,A,K,fun t=>?_,fun k=>(hA k).2.1,p1⟩
 . have e:Iter (xc5 (S.map encP)) ([],(1:Int))=_:=e;unfold xf5 xww;simp only [xuJ,xuK,e,zk,zh,xaj,sUF]
 . have:=(hA K).2.1.2 t;rw [k1,xrn] at this;have:=of_decide_eq_false this.symm;omega
def Tx (l:List Fc):Prop:=∀ f,f∈l->∀ v,v∈f.r->v.wf/\v.t.length<=1073741824
theorem xGq {r:Row} (h:∀ v,v∈r->v.wf/\v.t.length<=1073741824) (hl:r.length<=60):(keyOf r).length<=17592186044416:=by
 have:=xgN (g:=keyV) (c:=1073741890) r fun v hv=>by
  obtain ⟨h1,h2⟩:=h v hv;have:=xHX h1 (by omega);omega
 unfold keyOf;have h2:1073741890*r.length<=1073741890*60:=Nat.mul_le_mul_left _ hl;omega
theorem xNu {l:List Fc} (hl:l.length<=1024) (hr:∀ f,f∈l->f.r.length<=60) (ht:Tx l):Bld l :=
 ⟨⟨⟨by omega,fun f hf=>by have:=hr f hf;omega⟩,fun f hf=>⟨fun v hv=>⟨(ht f hf v hv).1,by have:=(ht f hf v hv).2;omega⟩,xGq (ht f hf) (hr f hf)⟩⟩,hl⟩
theorem xSw.all {l B:List Fc} (h:xSw l B) {Q:Row->Prop} (hq:∀ f,f∈l->Q f.r):∀ f,f∈B->Q f.r:=fun f hf=>by
 obtain ⟨_,g,hg,e⟩:=h.valid hf;rw [<-e];exact hq g hg
theorem xSU.all {l B:List Fc} (h:xSU l B) {Q:Row->Prop} (hq:∀ f,f∈l->Q f.r):∀ f,f∈B->Q f.r:=fun f hf=>by
 obtain ⟨R,L,h1,h2,rfl⟩:=h;obtain ⟨a,b⟩:=xGh hf;obtain ⟨g,g1,g2,_⟩:=(h1.2 _).1 a;rw [<-g2];exact hq g g1
theorem xSU.len {l B:List Fc} (h:xSU l B):B.length<=l.length*l.length:=by
 obtain ⟨R,L,h1,h2,rfl⟩:=h;refine xCV (h1.1.nodup xqb) fun r hr=>?_
 obtain ⟨a,b⟩:=h2 r hr;have:=xJ2 (ps:=psOf l r) (k:=0) a fun t=>by rw [b,xC1]
 exact Nat.le_trans this (Nat.le_mul_self _)
def split (t:Int) (f:Fc):List Fc:=if hasP f.p t=true then (if f.p.1<t then [⟨f.r,(t,f.p.2)⟩,⟨f.r,(f.p.1,t)⟩] else [f]) else [f]
theorem xOl (p q:Per):xcN p.1 p.2 q.1 q.2=(pv p&&(pv q&&(decide (p.1<q.2)&&decide (q.1<p.2)))):=by
 unfold xcN;rw [xjy,xjy];cases pv p<;>cases pv q<;>by_cases h1:p.1<q.2<;>by_cases h2:q.1<p.2<;>simp [h1,h2,xaj,xag,sUF]
theorem xOw (p q:Per):xrC p.1 p.2 q.1 q.2=xcN p.1 p.2 q.1 q.2:=by
 unfold xrC xcN;rw [xjy,xjy,xlb,xlb]
def dk (S:List Row):Nat->List Row
 | 0=>[]
 | k+1=>dk S k++(if k=0\/S[k - 1]?≠S[k]? then S[k]?.toList else [])
theorem xHF (S:List Row):∀ k,(dk S k).length<=k
 | 0=>zd _
 | k+1=>by
  have:=xHF S k;unfold dk;rw [z8];have:(if k=0\/S[k - 1]?≠S[k]? then S[k]?.toList else []).length<=1:=by
   split
   . cases S[k]?<;>simp
   . simp
  omega
theorem xO3 (S:List Row) (hs:Sorted cmpR S):∀ k,k<=S.length->Strict cmpR (dk S k)/\∀ x,x∈dk S k↔x∈S.take k
 | 0,_=>⟨List.Pairwise.nil,fun x=>by simp [dk]⟩
 | k+1,hk=>by
  obtain ⟨h1,h2⟩:=xO3 S hs k (by omega)
  have J:k<S.length:=by omega
  have tk:S.take (k+1)=S.take k++[S[k]]:=by rw [List.take_add_one,ze J];rfl
  unfold dk;rw [ze J,tk];by_cases hc:k=0\/S[k - 1]?≠some S[k]
  . rw [if_pos hc];refine ⟨List.pairwise_append.2 ⟨h1,List.pairwise_singleton _ _,fun x hx y hy=>?_⟩,fun x=>by rw [zG,zG,h2];rfl⟩
    simp at hy;subst hy;obtain ⟨i,hi,rfl⟩:=List.mem_take_iff_getElem.1 ((h2 x).1 hx);have O:k≠0:=by omega
    have q:k - 1<S.length:=by omega
    have hne:S[k - 1]≠S[k]:=fun e=>by
     rcases hc with hc|hc
     . exact O hc
     . exact hc (by rw [ze q,e])
    have c1:cmpR S[k - 1] S[k]<=0:=zB.1 hs _ _ q J (by omega)
    have c2:cmpR S[k - 1] S[k]<0:=by
     rcases Int.lt_or_eq_of_le c1 with c|c
     . exact c
     . exact absurd (xkG c) hne
    rcases zJ i (k - 1) with Q|Q
    . have c3:cmpR S[i] S[k - 1]<=0:=zB.1 hs _ _ (by omega) q Q
      exact xqb.lt2 c3 c2
    . have:i=k - 1:=by omega
      subst this;exact c2
  . rw [if_neg hc,zD];refine ⟨h1,fun x=>?_⟩
    rw [h2,zG,zv];refine ⟨Or.inl,fun hh=>hh.elim id fun hx=>?_⟩
    have O:k≠0:=fun e=>hc (.inl e)
    have he:S[k - 1]?=some S[k]:=by
     by_cases e:S[k - 1]?=some S[k]
     . exact e
     . exact absurd (.inr e) hc
    have q:k - 1<S.length:=by omega
    rw [ze q,z6] at he;rw [hx,<-he];exact List.mem_take_iff_getElem.2 ⟨k - 1,by omega,rfl⟩
theorem xTj {n:Nat} (h:n<=1048576):(n+1)*24<=140737488355328/\n+1<=4611686018427387904:=by omega
theorem xIV (S:List Row) (hS:S.length<=1048576) (hr:∀ x,x∈S->x.length<=maxLen):Iter (xcs (S.map encR)) ((0:Nat),(0:Int),[])=some ((dk S S.length).length,(dk S S.length).map encR):=by
 refine xeL (fun k=>(((dk S k).length,((k:Nat):Int),(dk S k).map encR):Nat×Int×List AV)) S.length _ (fun k hk=>?_) ?_ S.length 0 (by omega)
 . have i1:(k:Int)<(S.length:Int):=by omega
   have gf:(S.map encR).getD k .top=encR S[k]:=xad _ _ _ hk;have dl:=xHF S k;obtain ⟨m1,m2⟩:=xTj (n:=(dk S k).length) (by omega)
   cases k with
   | zero =>
    have:dk S (0+1)=[S[0]]:=by simp [dk,ze hk]
    rw [this];have i0:(((0:Nat):Int)==0)=true:=rfl;simp only [xcs,xgw,xfq,xiI,xiJ,xiK,sBU,hk,i0,i1,gf,cR0,sR0,m1,m2,xSj (n:=0) (by omega)]
    rfl
   | succ j =>
    have hj:j<S.length:=by omega
    have i0:(((j+1:Nat):Int)==0)=false:=by simp;omega
    have i2:(j:Int)<(S.length:Int):=by omega
    have gj:(S.map encR).getD j .top=encR S[j]:=xad _ _ _ hj;have ee:=xIp S[j] S[j+1] (hr _ (zo hj));have wj:IntKind.i64.wrap (((j+1:Nat):Int) - 1)=(j:Int):=by rw [xa1 (by omega) (by omega)];omega
    have sd:dk S (j+1+1)=dk S (j+1)++(if S[j]=S[j+1] then [] else [S[j+1]]):=by
     show dk S (j+1)++_=_;congr 1;rw [show j+1 - 1=j by omega,ze hj,ze hk]
     by_cases e:S[j]=S[j+1]
     . simp [e]
     . simp [e]
    rw [sd];simp only [xcs,xgw,xfq,xiI,xiJ,xiK,sBU,hk,hj,i0,i1,i2,gf,gj,cR0,sR0,ee,wj,cmp0,m1,m2,xSj (n:=j+1) (by omega)]
    by_cases e:S[j]=S[j+1]
    . simp [e,xag,sUF]
    . simp [e,xaj,encR,sUF]
 . simp only [xcs,xgw,xfq,za,zy,zm,xag,sUF]
theorem xIW (l:List Row) (h:xSF l):∃ D,xwF (l.map encR)=some (D.map encR)/\Strict cmpR D/\(∀ x,x∈D↔x∈l)/\D.length<=l.length:=by
 obtain ⟨S,e1,p1,s1⟩:=xB0 l h;have hS:=h.perm p1;obtain ⟨a1,a2⟩:=xO3 S s1 S.length (zd _);have e2:=xIV S hS.1 (fun x hx=>by have:=hS.2 x hx;unfold maxLen;omega)
 refine ⟨dk S S.length,?_,a1,fun x=>by rw [a2,y4,p1.mem_iff],by rw [<-p1.length_eq];exact xHF _ _⟩
 have tt:List.take (dk S S.length).length ((dk S S.length).map encR)=(dk S S.length).map encR:=zi (by simp)
 unfold xwF xtz;simp only [xr2,xr3,xr4,e1,e2,zk,zh,xaj,zH,za,zd,zn,zS,zr,tt,sUF]
theorem xRY {r:List Row} (h:xSF r):xg2 (r.map encR) (r.map encR)=some true:=by
 have:=xJg r r h.1 (fun x hx=>by have:=h.2 x hx;unfold maxLen;omega)
 rwa [decide_eq_true rfl] at this
def cF (f g:Fc):Int:=cmpR f.r g.r
theorem xNN:Cm cF:=xqb.on (e:=fun f:Fc=>f.r)
theorem xKP (a b:List Fc) (ha:a.length+b.length<=1048576) (Y:∀ x,x∈a->x.r.length<=1048576) (V:∀ x,x∈b->x.r.length<=1048576) (sa:Sorted cF a) (sb:Sorted cF b) :
  ∀ (n i k:Nat) (D:List Fc),(a.length - i)+(b.length - k)=n->i<=a.length->k<=b.length->D.length=i+k ->
   ∃ r,Iter (xbQ (List.map encF a) (List.map encF b)) (D.length,(i:Int),(k:Int),List.map encF D)=some (a.length+b.length,List.map encF (D++r))/\r.Perm (a.drop i++b.drop k)/\Sorted cF r:=by
 intro n;induction n with
 | zero =>
  intro i k D hn hi hk hD;have h1:¬ (i:Int)<(a.length:Int):=by omega
  have h2:¬ (k:Int)<(b.length:Int):=by omega
  refine ⟨[],xam ?_,?_,by simp [Sorted]⟩
  . simp only [xbQ,xeO,xdt,xdu,xdv,xfw,xfy,xfz,xd7,xd8,  za,xaO,h1,h2,zm,zT,if_false,zD,sUF];rw [show D.length=a.length+b.length by omega]
  . rw [zq (by omega),zq (by omega)];exact List.Perm.refl _
 | succ n ih =>
  intro i k D hn hi hk hD;have W:(List.map encF D).length=D.length:=by simp
  have m1:(D.length+1)*40<=140737488355328:=by omega
  have m2:D.length+1<=4611686018427387904:=by omega
  have snoc:∀ x:Fc,List.map encF D++[AV.agg [AV.list 3 (x.r.map encV),AV.int .i64 x.p.1,AV.int .i64 x.p.2]]=List.map encF (D++[x]):=fun x=>by simp [encF]
  have wi:=xwV (n:=i) (show i+1<=maxLen by unfold maxLen;omega)
  have wk:=xwV (n:=k) (show k+1<=maxLen by unfold maxLen;omega)
  by_cases J:i<a.length
  . have i1:(i:Int)<(a.length:Int):=by omega
    have i2:((i:Int)==(a.length:Int))=false:=by simp;omega
    have hx:a[i]?=some a[i]:=by simp [J]
    by_cases q:k<b.length
    . have k1:(k:Int)<(b.length:Int):=by omega
      have hy:b[k]?=some b[k]:=by simp [q]
      have e:=xwN b[k].r a[i].r (by have:=V b[k] (zo q);unfold maxLen;omega)
      by_cases hc:cmpR b[k].r a[i].r<0
      . obtain ⟨r,h1,h2,h3⟩:=ih i (k+1) (D++[b[k]]) (by omega) hi (by omega) (by simp;omega)
        refine ⟨b[k]::r,?_,?_,?_⟩
        . refine xa6 (s':=((D++[b[k]]).length,(i:Int),((k+1:Nat):Int),List.map encF (D++[b[k]]))) ?_ (by rw [h1];simp)
          simp only [xbQ,xeO,xdt,xdu,xdv,xfw,xfy,xfz,xd7,xd8,  za,xaO,i1,i2,k1,J,q,zn,zT,if_false,if_true,zN,gR hx,gR hy,cF0,cF1,cF2,sF0,sF1,sF2,lF,sF12,sF02,e,zk,zh,hc,Int.natCast_nonneg,zS,beq_self_eq_true,m1,m2,snoc,wk,sUF];simp
        . rw [xaR q];exact (h2.cons _).trans List.perm_middle.symm
        . refine zM.2 ⟨fun z hz=>?_,h3⟩
          rcases zG.1 (h2.mem_iff.1 hz) with hz|hz
          . rw [xaR J] at hz;rcases zC.1 hz with rfl|hz
            . exact Int.le_of_lt hc
            . obtain ⟨j,hj,rfl⟩:=zp.1 hz;have Q:i+1+j<a.length:=by simp at hj;omega
              have:=xbH sa (i:=i) (j:=i+1+j) (by omega) Q
              rw [List.getElem_drop];exact xNN.trans _ _ _ (Int.le_of_lt hc) this
          . obtain ⟨j,hj,rfl⟩:=zp.1 hz;have O:k+1+j<b.length:=by simp at hj;omega
            rw [List.getElem_drop];exact xbH sb (i:=k) (j:=k+1+j) (by omega) O
      . obtain ⟨r,h1,h2,h3⟩:=ih (i+1) k (D++[a[i]]) (by omega) (by omega) hk (by simp;omega)
        refine ⟨a[i]::r,?_,?_,?_⟩
        . refine xa6 (s':=((D++[a[i]]).length,((i+1:Nat):Int),(k:Int),List.map encF (D++[a[i]]))) ?_ (by rw [h1];simp)
          simp only [xbQ,xeO,xdt,xdu,xdv,xfw,xfy,xfz,xd7,xd8,  za,xaO,i1,i2,k1,J,q,zn,zT,if_false,if_true,zN,gR hx,gR hy,cF0,cF1,cF2,sF0,sF1,sF2,lF,sF12,sF02,e,zk,zh,hc,zm,Int.natCast_nonneg,zS,beq_self_eq_true,m1,m2,snoc,wi,sUF];simp
        . rw [xaR J];exact h2.cons _
        . refine zM.2 ⟨fun z hz=>?_,h3⟩
          have U:cF a[i] b[k]<=0:=xNN.ord.le_of_not hc;rcases zG.1 (h2.mem_iff.1 hz) with hz|hz
          . obtain ⟨j,hj,rfl⟩:=zp.1 hz;have Q:i+1+j<a.length:=by simp at hj;omega
            rw [List.getElem_drop];exact xbH sa (i:=i) (j:=i+1+j) (by omega) Q
          . rw [xaR q] at hz;rcases zC.1 hz with rfl|hz
            . exact U
            . obtain ⟨j,hj,rfl⟩:=zp.1 hz;have O:k+1+j<b.length:=by simp at hj;omega
              rw [List.getElem_drop];exact xNN.trans _ _ _ U (xbH sb (i:=k) (j:=k+1+j) (by omega) O)
    . have k1:¬ (k:Int)<(b.length:Int):=by omega
      obtain ⟨r,h1,h2,h3⟩:=ih (i+1) k (D++[a[i]]) (by omega) (by omega) hk (by simp;omega)
      refine ⟨a[i]::r,?_,?_,?_⟩
      . refine xa6 (s':=((D++[a[i]]).length,((i+1:Nat):Int),(k:Int),List.map encF (D++[a[i]]))) ?_ (by rw [h1];simp)
        simp only [xbQ,xeO,xdt,xdu,xdv,xfw,xfy,xfz,xd7,xd8,  za,xaO,i1,i2,k1,J,zn,zm,zT,if_false,if_true,zN,gR hx,cF0,cF1,cF2,sF0,sF1,sF2,lF,sF12,sF02,Int.natCast_nonneg,zS,beq_self_eq_true,m1,m2,snoc,wi,sUF];simp
      . rw [xaR J];exact h2.cons _
      . refine zM.2 ⟨fun z hz=>?_,h3⟩
        rw [zq (show b.length<=k by omega),zD] at h2
        obtain ⟨j,hj,rfl⟩:=zp.1 (h2.mem_iff.1 hz);have Q:i+1+j<a.length:=by simp at hj;omega
        rw [List.getElem_drop];exact xbH sa (i:=i) (j:=i+1+j) (by omega) Q
  . have i1:¬ (i:Int)<(a.length:Int):=by omega
    have q:k<b.length:=by omega
    have k1:(k:Int)<(b.length:Int):=by omega
    have i2:((i:Int)==(a.length:Int))=true:=by simp;omega
    have hy:b[k]?=some b[k]:=by simp [q]
    obtain ⟨r,h1,h2,h3⟩:=ih i (k+1) (D++[b[k]]) (by omega) hi (by omega) (by simp;omega)
    refine ⟨b[k]::r,?_,?_,?_⟩
    . refine xa6 (s':=((D++[b[k]]).length,(i:Int),((k+1:Nat):Int),List.map encF (D++[b[k]]))) ?_ (by rw [h1];simp)
      simp only [xbQ,xeO,xdt,xdu,xdv,xfw,xfy,xfz,xd7,xd8,  za,xaO,i1,i2,k1,q,zn,zm,zT,if_false,if_true,zN,gR hy,cF0,cF1,cF2,sF0,sF1,sF2,lF,sF12,sF02,Int.natCast_nonneg,zS,beq_self_eq_true,m1,m2,snoc,wk,sUF];simp
    . rw [xaR q];exact (h2.cons _).trans List.perm_middle.symm
    . refine zM.2 ⟨fun z hz=>?_,h3⟩
      rw [zq (show a.length<=i by omega),zU] at h2
      obtain ⟨j,hj,rfl⟩:=zp.1 (h2.mem_iff.1 hz);have O:k+1+j<b.length:=by simp at hj;omega
      rw [List.getElem_drop];exact xbH sb (i:=k) (j:=k+1+j) (by omega) O
theorem xKQ (a b:List Fc) (ha:a.length+b.length<=1048576) (J:∀ x,x∈a->x.r.length<=1048576) (q:∀ x,x∈b->x.r.length<=1048576) (sa:Sorted cF a) (sb:Sorted cF b) :
  ∃ r,xz9 (a.map encF) (b.map encF)=some (r.map encF)/\r.Perm (a++b)/\Sorted cF r:=by
 obtain ⟨r,h1,h2,h3⟩:=xKP a b ha J q sa sb _ 0 0 [] rfl (zQ _) (zQ _) rfl;simp only [zr,zU] at h1 h2;have h1':Iter (xbQ (a.map encF) (b.map encF)) (0,(0:Int),(0:Int),[])=some (r.length,r.map encF):=by
  rw [h2.length_eq,z8];exact h1
 refine ⟨r,?_,h2,h3⟩;unfold xz9 xwM;simp only [xvk,xvl,xvm,xvn,h1',sOO,sUF]
theorem xIY:∀ (f:Nat) (l:List Fc),l.length<=2 ^ f->Few l->∃ r,xco (f+1) (List.map encF l)=some (List.map encF r)/\r.Perm l/\Sorted cF r:=by
 intro f;induction f with
 | zero =>
  intro l hl hs;have h1:(l.length:Int)<2:=by simp at hl;omega
  refine ⟨l,?_,List.Perm.refl _,?_⟩
  . show xdd (xco 0) (List.map encF l)=_;simp only [xdd,xhH,za,h1,zn,xaj,sUF]
  . match l,hl with
    | [],_=>exact List.Pairwise.nil
    | [x],_=>exact List.pairwise_singleton _ _
 | succ f ih =>
  intro l hl hs;by_cases h2:l.length<=1
  . have h1:(l.length:Int)<2:=by omega
    refine ⟨l,?_,List.Perm.refl _,?_⟩
    . show xdd (xco (f+1)) (List.map encF l)=_;simp only [xdd,xhH,za,h1,zn,xaj,sUF]
    . match l,h2 with
      | [],_=>exact List.Pairwise.nil
      | [x],_=>exact List.pairwise_singleton _ _
  . have hp:2 ^ (f+1)=2*2 ^ f:=by rw [Nat.pow_succ];omega
    have q:=hs.1;obtain ⟨m,hm⟩:∃ m,m=l.length / 2:=⟨_,rfl⟩;have st:Few (l.take m):=⟨by simp;omega,fun x hx=>hs.2 x (List.mem_of_mem_take hx)⟩
    have sd:Few (l.drop m):=⟨by simp;omega,fun x hx=>hs.2 x (List.mem_of_mem_drop hx)⟩
    obtain ⟨r1,e1,p1,s1⟩:=ih (l.take m) (by simp;omega) st
    obtain ⟨r2,e2,p2,s2⟩:=ih (l.drop m) (by simp;omega) sd
    have l1:=p1.length_eq;have l2:=p2.length_eq;simp only [zt,y1] at l1 l2;obtain ⟨r,a1,a3,a4⟩:=xKQ r1 r2 (by omega) (fun x hx=>st.2 x (p1.mem_iff.1 hx)) (fun x hx=>sd.2 x (p2.mem_iff.1 hx)) s1 s2
    refine ⟨r,?_,a3.trans ((p1.append p2).trans (by rw [List.take_append_drop])),a4⟩
    have w:IntKind.i64.wrap ((l.length:Int).tdiv 2)=(m:Int):=by
     rw [Int.tdiv_eq_ediv_of_nonneg (by omega)]
     exact w64 (by omega) (by omega)
    have t1:List.take m (List.map encF l)=List.map encF (l.take m):=by simp
    have t2:List.take (l.length - m) (List.drop m (List.map encF l))=List.map encF (l.drop m):=by
     rw [zi (by simp)];simp
    have d0:¬ (l.length:Int)<2:=by omega
    have d2:(m:Int)<=(l.length:Int):=by omega
    show xdd (xco (f+1)) (List.map encF l)=_;simp only [xdd,xhH,xtL,xtM,xtN,  za,d0,xag,w,zN,Nat.sub_zero,zr,t1,t2,e1,e2,zk,zh,xaj,d2,zn,zm,Int.natCast_nonneg,zS,a1,sUF]
theorem xOz (l:List Fc) (h:Few l):∃ D,xzk (l.map encF)=some (D.map encR)/\xSH l D:=by
 have e0:=xC4 l h.1;have hf:(l.flatMap fun f=>if pv f.p=true then [f.r] else []).length<=1*l.length:=xgN l fun f _=>by split<;>simp
 have hm:∀ x,x∈(l.flatMap fun f=>if pv f.p=true then [f.r] else [])↔∃ f,f∈l/\f.r=x/\pv f.p=true:=fun x=>by
  rw [y3];constructor
  . rintro ⟨f,hf,hx⟩;split at hx
    . simp at hx;exact ⟨f,hf,hx.symm,by assumption⟩
    . simp at hx
  . rintro ⟨f,hf,e,hv⟩;exact ⟨f,hf,by rw [if_pos hv];simp [e]⟩
 have q:xSF (l.flatMap fun f=>if pv f.p=true then [f.r] else []):=⟨by have:=h.1;omega,fun x hx=>by
  obtain ⟨f,hf,e,_⟩:=(hm x).1 hx;rw [<-e];exact h.2 f hf⟩
 obtain ⟨D,d1,d2,d3,d4⟩:=xIW _ q;refine ⟨D,?_,d2,fun r=>by rw [d3,hm]⟩
 generalize (l.flatMap fun f=>if pv f.p=true then [f.r] else [])=w at e0 d1
 have tt:List.take w.length (w.map encR)=w.map encR:=zi (by simp)
 unfold xzk xz8;simp only [xyP,xyQ,xyR,xyS,e0,zk,zh,xaj,zH,za,zd,zn,zS,zr,tt,d1,sUF]
theorem xKf (S:List Fc) (hS:S.length<=1048576) (hr:∀ f,f∈S->f.r.length<=maxLen) (on i:Nat) (hi:i<S.length) (xs:List AV):∀ (d k:Nat),k+d=S.length->i<=k->∃ j:Nat,k<=j/\j<=S.length/\(∀ t (h:t<S.length),k<=t->t<j->S[t].r=S[i].r)/\(∀ h:j<S.length,S[j].r≠S[i].r) /\
  Iter (xcn (S.map encF) on (i:Int)) ((k:Int),xs)=some ((j:Int),xs)
 | 0,k,h,hik=>by
  obtain rfl:k=S.length:=by omega
  refine ⟨S.length,zd _,zd _,fun t h1 h2 h3=>by omega,fun h=>by omega,xam ?_⟩
  simp only [xcn,xik,za,zy,zm,xag,sUF]
 | d+1,k,h,hik=>by
  have hk:k<S.length:=by omega
  have i1:(k:Int)<(S.length:Int):=by omega
  have i2:(i:Int)<(S.length:Int):=by omega
  have gk:(S.map encF).getD k .top=encF S[k]:=xad _ _ _ hk;have gi:(S.map encF).getD i .top=encF S[i]:=xad _ _ _ hi;have ec:=xwN S[k].r S[i].r (hr _ (zo hk));by_cases he:S[k].r=S[i].r
  . obtain ⟨j,a1,a2,a3,a4,a5⟩:=xKf S hS hr on i hi xs d (k+1) (by omega) (by omega)
    refine ⟨j,by omega,a2,fun t h1 h2 h3=>?_,a4,(xaM (s':=(((k+1:Nat):Int),xs)) ?_).trans a5⟩
    . by_cases q:t=k
      . subst q;exact he
      . exact a3 t h1 (by omega) h3
    . have dd:decide (S[k].r=S[i].r)=true:=decide_eq_true he;simp only [xcn,xik,sBU,i1,i2,hk,hi,gk,gi,cF0,cF1,cF2,sF0,sF1,sF2,lF,sF12,sF02,ec,cmp0,dd,xSj (n:=k) (by omega)]
  . refine ⟨k,zd _,by omega,fun t h1 h2 h3=>by omega,fun _=>he,xam ?_⟩
    simp only [xcn,xik,sBU,i1,i2,hk,hi,gk,gi,cF0,cF1,cF2,sF0,sF1,sF2,lF,sF12,sF02,ec,cmp0,he,zm]
structure RGI (S:List Fc) (i:Nat) (G:List Grp):Prop where
 st:Strict cmpR (G.map (·.1))
 mem:∀ r,r∈G.map (·.1)↔∃ f,f∈S.take i/\f.r=r/\pv f.p=true
 ps:∀ g,g∈G->StepI (fun t=>((cnt S g.1 t:Nat):Int)) 1099511627776 g.2/\g.2.length<=2*S.length+1
 len:G.length<=i
 bd:∀ a b (ha:a<S.length) (hb:b<S.length),a<i->i<=b->cmpR S[a].r S[b].r<0
theorem xTk {n:Nat} (h:n<=1048576):(n+1)*48<=140737488355328/\n+1<=4611686018427387904:=by omega
theorem xGn (S:List Fc) (hS:S.length<=262144) (hr:∀ f,f∈S->f.r.length<=1048576) (hs:Sorted cF S):∀ (c i:Nat) (G:List Grp),S.length - i<=c->i<=S.length->RGI S i G ->
  ∃ G',Iter (xem (S.map encF)) (G.length,(i:Int),G.map encG)=some (G'.length,G'.map encG)/\RGI S S.length G'
 | c,i,G,hc,hi,hG=>by
  by_cases ac:i=S.length
  . subst ac;refine ⟨G,xam ?_,hG⟩;simp only [xem,xmD,za,zy,zm,xag,sUF]
  . have O:i<S.length:=by omega
    obtain ⟨j,a1,a2,a3,a4,a5⟩:=xKf S (by omega) (fun f hf=>by have:=hr f hf;unfold maxLen;omega) G.length i O (G.map encG) (S.length - i) i (by omega) (zd _)
    have ab:i<j:=by
     rcases zJ i j with h|h
     . exact h
     . obtain rfl:j=i:=by omega
       exact absurd rfl (a4 O)
    have run_mem:∀ f,f∈(S.drop i).take (j - i)↔∃ t,∃ h:t<S.length,i<=t/\t<j/\S[t]=f:=fun f=>by
     rw [List.mem_take_iff_getElem];constructor
     . rintro ⟨m,hm,rfl⟩;rw [y1] at hm;exact ⟨i+m,by omega,by omega,by omega,by rw [List.getElem_drop]⟩
     . rintro ⟨t,h,h1,h2,rfl⟩;refine ⟨t - i,by rw [y1];omega,?_⟩
       rw [List.getElem_drop];congr 1;omega
    have run_row:∀ f,f∈(S.drop i).take (j - i)->f.r=S[i].r:=fun f hf=>by
     obtain ⟨t,h,h1,h2,rfl⟩:=(run_mem f).1 hf;exact a3 t h h1 h2
    have Y:S.take j=S.take i++(S.drop i).take (j - i):=by
     rw [show j=i+(j - i) by omega,List.take_add,Nat.add_sub_cancel_left]
    have Q:S=S.take i++((S.drop i).take (j - i)++S.drop j):=by
     rw [<-zw,<-Y,List.take_append_drop]
    have rl:((S.drop i).take (j - i)).length=j - i:=by rw [zt,y1];omega
    have J:∀ f,f∈S.take i->cmpR f.r S[i].r<0:=fun f hf=>by
     obtain ⟨t,ht,rfl⟩:=List.mem_take_iff_getElem.1 hf;exact hG.bd t i (by omega) O (by omega) (zd _)
    have q:∀ t (h:t<S.length),j<=t->cmpR S[i].r S[t].r<0:=fun t h ag=>by
     have hj:j<S.length:=by omega
     have c1:cmpR S[i].r S[j].r<=0:=zB.1 hs i j O hj ab;have c2:cmpR S[i].r S[j].r<0:=by
      rcases Int.lt_or_eq_of_le c1 with c|c
      . exact c
      . exact absurd (xkG c).symm (a4 hj)
     rcases zJ j t with h1|h1
     . have c3:cmpR S[j].r S[t].r<=0:=zB.1 hs j t hj h h1;exact xqb.lt1 c2 c3
     . obtain rfl:t=j:=by omega
       exact c2
    have no_other:∀ (l:List Fc) (ρ:Row) (t:Int),(∀ f,f∈l->f.r≠ρ)->cnt l ρ t=0:=fun l ρ t h=>by
     unfold cnt;rw [List.countP_eq_zero];intro f hf hh;simp only [zf,zl] at hh;exact h f hf hh.1
    have ne_of:∀ x y:Row,cmpR x y<0->x≠y:=fun x y h e=>by subst e;rw [xCK] at h;omega
    have W:∀ t,cnt ((S.drop i).take (j - i)) S[i].r t=cnt S S[i].r t:=fun t=>by
     have e:cnt S S[i].r t=cnt (S.take i++((S.drop i).take (j - i)++S.drop j)) S[i].r t:=by rw [<-Q]
     rw [e,xul,xul,no_other (S.take i) _ t (fun f hf=>ne_of _ _ (J f hf)),no_other (S.drop j) _ t (fun f hf=>by
      obtain ⟨m,hm,rfl⟩:=zp.1 hf;rw [y1] at hm;rw [List.getElem_drop];exact fun e=>ne_of _ _ (q (j+m) (by omega) (by omega)) e.symm)]
     omega
    have U:Few ((S.drop i).take (j - i)):=⟨by omega,fun f hf=>hr f (List.mem_of_mem_drop (List.mem_of_mem_take hf))⟩
    obtain ⟨D,d1,d2,d3⟩:=xOz _ U;obtain ⟨St,s1,s2,s3⟩:=xK5 ((S.drop i).take (j - i)) S[i].r (fun f hf=>by have:=U.2 f hf;unfold maxLen;omega) (by omega)
    have s2:StepI (fun t=>((cnt S S[i].r t:Nat):Int)) 1099511627776 St:=by
     have e:(fun t=>((cnt ((S.drop i).take (j - i)) S[i].r t:Nat):Int))=fun t=>((cnt S S[i].r t:Nat):Int):=funext fun t=>by rw [W]
     rwa [e] at s2
    have tS:List.take (j - i) (List.drop i (S.map encF))=((S.drop i).take (j - i)).map encF:=by rw [<-List.map_drop,<-List.map_take]
    have hD:D=[]\/D=[S[i].r]:=by
     match D,d2,d3 with
     | [],_,_=>exact .inl rfl
     | [x],_,h=>right;obtain ⟨f,hf,e,_⟩:=(h x).1 (by simp);rw [<-e,run_row f hf]
     | x::y::t,h1,h =>
      obtain ⟨f,hf,e,_⟩:=(h x).1 (by simp)
      obtain ⟨g,hg,e',_⟩:=(h y).1 (by simp)
      have:cmpR x y<0:=(zM.1 h1).1 y (by simp)
      rw [<-e,<-e',run_row f hf,run_row g hg,xCK] at this;omega
    have af:=hG.len;obtain ⟨m1,m2⟩:=xTk (n:=G.length) (by omega)
    have nx:RGI S j (G++D.map fun ρ=>(ρ,St)):=by
     refine ⟨?_,fun r=>?_,fun g hg=>?_,?_,fun a b ha hb ae Z=>?_⟩
     . rw [zx];refine List.pairwise_append.2 ⟨hG.st,?_,fun x hx y hy=>?_⟩
       . rcases hD with rfl|rfl
         . exact List.Pairwise.nil
         . exact List.pairwise_singleton _ _
       . obtain ⟨f,hf,e,_⟩:=(hG.mem x).1 hx;rcases hD with rfl|rfl
         . simp at hy
         . simp at hy;subst hy;rw [<-e];exact J f hf
     . rw [zx,zG,hG.mem,Y];have e:r∈(D.map fun ρ=>(ρ,St)).map (·.1)↔r∈D:=by simp
       rw [e,d3];constructor
       . rintro (⟨f,hf,h⟩|⟨f,hf,h⟩)
         . exact ⟨f,zG.2 (.inl hf),h⟩
         . exact ⟨f,zG.2 (.inr hf),h⟩
       . rintro ⟨f,hf,h⟩;rcases zG.1 hf with hf|hf
         . exact .inl ⟨f,hf,h⟩
         . exact .inr ⟨f,hf,h⟩
     . rcases zG.1 hg with hg|hg
       . exact hG.ps g hg
       . obtain ⟨ρ,hρ,rfl⟩:=zK.1 hg;rcases hD with rfl|rfl
         . simp at hρ
         . simp at hρ;subst hρ;exact ⟨s2,by rw [rl] at s3;dsimp only;omega⟩
     . rw [z8,za];rcases hD with rfl|rfl<;>simp<;>omega
     . rcases zJ a i with V|V
       . exact hG.bd a b ha hb V (by omega)
       . rw [a3 a ha V ae];exact q b hb Z
    obtain ⟨G',e',aa⟩:=xGn S hS hr hs (c - 1) j _ (by omega) a2 nx
    refine ⟨G',(xaM ?_).trans e',aa⟩;have i1:(i:Int)<(S.length:Int):=by omega
    have i2:(j:Int)<=(S.length:Int):=by omega
    have i3:(i:Int)<=(j:Int):=by omega
    have ad:Iter (xen (S.map encF) (i:Int) (j:Int) (D.map encR)) (G.length,(0:Int),G.map encG)=some ((G++D.map fun ρ=>(ρ,St)).length,(G++D.map fun ρ=>(ρ,St)).map encG):=by
     rcases hD with rfl|rfl
     . refine xam ?_;have z:¬ (0:Int)<(([]:List AV).length:Int):=by simp
       simp only [xen,xil,zW,z,zm,xag,zD,sUF]
     . have z0:(0:Int)<(1:Int):=by omega
       have g0:([S[i].r].map encR).getD 0 .top=encR S[i].r:=rfl;have w1:IntKind.i64.wrap ((0:Int)+1)=1:=rfl;refine (xaM (s':=((G++[(S[i].r,St)]).length,(1:Int),(G++[(S[i].r,St)]).map encG)) ?_).trans (xam ?_)
       . have l1:(([S[i].r]:List Row).length:Int)=1:=rfl;have z1:(0:Int)<=0:=by omega
         have z2:(0:Nat)<([S[i].r]:List Row).length:=by simp
         have z3:(0:Int).toNat=0:=rfl;simp only [xen,xil,sBU,l1,z0,z1,z2,z3,g0,cR0,sR0,i2,i3,tS,s1,m1,m2,w1];simp [encG]
       . have l1:¬ (1:Int)<(([encR S[i].r]:List AV).length:Int):=by simp
         simp only [xen,xil,zV,zW,l1,zm,xag,sUF]
    simp only [xem,xmD,xqU,xqV,xcU,sBU,i1,i2,i3,a5,tS,d1,ad]
theorem xLd (l:List Fc) (h:Few l) (hl:l.length<=262144):∃ G:List Grp,xqT (l.map encF)=some (G.map encG)/\xSH l (G.map (·.1))/\(∀ g,g∈G->StepI (fun t=>((cnt l g.1 t:Nat):Int)) 1099511627776 g.2/\g.2.length<=2*l.length+1)/\G.length<=l.length:=by
 obtain ⟨S,e1,p1,s1⟩:=xIY 99 l (Nat.le_trans h.1 (Nat.le_trans (show 1048576<=2 ^ 20 by omega) (Nat.pow_le_pow_right (by omega) (by omega)))) h
 have q:=p1.length_eq;obtain ⟨G,e2,hG⟩:=xGn S (by omega) (fun f hf=>h.2 f (p1.mem_iff.1 hf)) s1 S.length 0 [] (by omega) (by omega) ⟨List.Pairwise.nil,fun r=>by simp,fun g hg=>by simp at hg,zd _,fun a b ha hb h1 h2=>by omega⟩
 refine ⟨G,?_,⟨hG.st,fun r=>?_⟩,fun g hg=>?_,by rw [<-q];exact hG.len⟩
 . have e1:xco 100 (l.map encF)=some (S.map encF):=e1;have e2:Iter (xem (S.map encF)) ((0:Nat),(0:Int),[])=_:=e2;have tt:List.take G.length (G.map encG)=G.map encG:=zi (by simp)
   unfold xqT xwL;simp only [xvg,xvh,xvi,xvj,e1,e2,zk,zh,xaj,zH,za,zd,zn,zS,zr,tt,sUF]
 . rw [hG.mem,y4];constructor
   . rintro ⟨f,hf,e⟩;exact ⟨f,p1.mem_iff.1 hf,e⟩
   . rintro ⟨f,hf,e⟩;exact ⟨f,p1.mem_iff.2 hf,e⟩
 . obtain ⟨x1,x2⟩:=hG.ps g hg;have e:(fun t=>((cnt S g.1 t:Nat):Int))=fun t=>((cnt l g.1 t:Nat):Int):=funext fun t=>by rw [xNT p1]
   rw [e] at x1;exact ⟨x1,by omega⟩
theorem xK6 (q:Row) (P:List Per) (hP:P.length<=1048576):xqS (q.map encV) (P.map encP)=some ((mk q P).map encF):=by
 have e:=xBZ q P hP;rw [xS3 (fun p:Per=>(⟨q,p⟩:Fc)) P] at e
 have e:Iter (xc7 (q.map encV) (P.map encP)) ((0:Nat),(0:Int),[])=some ((mk q P).length,(mk q P).map encF):=e;generalize mk q P=D at e;have tt:List.take D.length (D.map encF)=D.map encF:=zi (by simp)
 unfold xqS xwJ;simp only [xu7,xu8,xu9,e,zk,zh,xaj,zH,za,zd,zn,zS,zr,tt,sUF]
theorem sG0 (g:Grp):xTm (Sh.list 3) ((encG g).cells.getD 0 .top)=true:=rfl
theorem sG1 (g:Grp):xTm (Sh.list 2) ((encG g).cells.getD 1 .top)=true:=rfl
theorem xTi {n m:Nat} (h:n<=1048576*1024) (hm:m<=1048576):(n+m)*40<=140737488355328/\n+m<=4611686018427387904:=by omega
theorem xOr (G:List Grp) (hG:G.length<=1024) (L:Row->List Per) (hL:∀ g,g∈G->xf5 (g.2.map encP)=some ((L g.1).map encP)/\(L g.1).length<=1048576) :
  Iter (xgf (G.map encG)) ((0:Nat),(0:Int),[])=some ((xSq (G.map (·.1)) L).length,(xSq (G.map (·.1)) L).map encF):=by
 rw [<-xD6];refine xjJ G (fun g=>mk g.1 (L g.1)) encF 1048576 (fun g hg=>by unfold mk;rw [za];exact (hL g hg).2) (fun n h D hD=>?_) (fun D=>?_)
 . have i1:(n:Int)<(G.length:Int):=by omega
   have gf:(G.map encG).getD n .top=encG G[n]:=xad _ _ _ h;obtain ⟨e1,e2⟩:=hL _ (zo h);have ed:=xK6 G[n].1 (L G[n].1) e2;have ml:(mk G[n].1 (L G[n].1)).length<=1048576:=by unfold mk;rw [za];exact e2
   have q:D.length<=1048576*1024:=Nat.le_trans hD (Nat.mul_le_mul_left _ (by omega))
   obtain ⟨m1,m2⟩:=xTi q ml;simp only [xgf,xrQ,xpV,sBU,h,i1,gf,cG0,cGs,sG0,sG1,e1,ed,m1,m2,xSj (n:=n) (by omega),z8,zx]
 . simp only [xgf,xrQ,za,zy,zm,xag,sUF]
theorem xQx (l:List Fc) (r:Row) (t:Int):cnt l r t<=l.length:=List.countP_le_length
theorem xPC (l:List Fc) (r:Row) (t:Int) (h:t<0\/1099511627776<=t):cnt l r t=0:=by rw [<-xC1];exact xHE _ t h
theorem xKa (l:List Fc) (h:Few l) (hl:l.length<=1024):∃ B,xk5 (l.map encF)=some (B.map encF)/\xSw l B:=by
 obtain ⟨G,e1,hR,hS,O⟩:=xLd l h (by omega)
 have lv:∀ g,g∈G->∃ P,xf5 (g.2.map encP)=some (P.map encP)/\IsLevs (cnt l g.1) P:=fun g hg=>by
  obtain ⟨s1,s2⟩:=hS g hg;exact xLf (N:=cnt l g.1) (H:=l.length) (by omega) (xQx l g.1) (xPC l g.1) s1 (by omega)
 obtain ⟨L,hL⟩:=xGc (R:=G.map (·.1)) (Q:=fun r P=>(∀ g,g∈G->g.1=r->xf5 (g.2.map encP)=some (P.map encP))/\IsLevs (cnt l r) P) fun r hr=>by
  obtain ⟨g,hg,rfl⟩:=zK.1 hr;obtain ⟨P,p1,p2⟩:=lv g hg;refine ⟨P,fun g' J e=>?_,p2⟩
  obtain ⟨P',q1,q2⟩:=lv g' J;rw [e] at q2;rw [q1,q2.unique p2]
 have hk:∀ g,g∈G->g.1∈G.map (·.1):=fun g hg=>zK.2 ⟨g,hg,rfl⟩
 have q:∀ g,g∈G->(L g.1).length<=1048576:=fun g hg=>by
  have a:=(hL g.1 (hk g hg)).2;rw [<-xM5] at a;have b:=xId l g.1;exact Nat.le_trans a.len (Nat.mul_le_mul (Nat.le_trans b hl) (Nat.le_trans b hl))
 have e2:=xOr G (by omega) L fun g hg=>⟨(hL g.1 (hk g hg)).1 g hg rfl,q g hg⟩
 refine ⟨xSq (G.map (·.1)) L,?_,G.map (·.1),L,hR,fun r hr=>(hL r hr).2,rfl⟩
 generalize xSq (G.map (·.1)) L=F at e2;have tt:List.take F.length (F.map encF)=F.map encF:=zi (by simp)
 unfold xk5 xAx;simp only [xz4,xz5,xz6,e1,e2,zk,zh,xaj,zH,za,zd,zn,zS,zr,tt,sUF]
theorem xNM (l:List Fc) (h:Bld l):∃ B,xjF (l.map encF)=some (B.map encF)/\xk5 (l.map encF)=some (B.map encF)/\xSw l B:=by
 obtain ⟨B,b1,b2⟩:=xL7 l h;obtain ⟨B',c1,c2⟩:=xKa l h.1.1 h.2;obtain rfl:B=B':=b2.unique c2 fun _ _=>rfl
 exact ⟨B,b1,c1,b2⟩
theorem xOu {B:List Fc} (h:B.length<=1048576) (hr:∀ f,f∈B->f.r.length<=60):xk6 (B.map encF) (B.map encF)=some true:=by
 have:=xNe B B h (fun f hf=>by have:=hr f hf;unfold maxLen;omega)
 rwa [decide_eq_true rfl] at this
def nxt (P:List Int):Int:=P.headD 1099511627776
def gF (S:Int->List Row):List Int->List Fc
 | []=>[]
 | a::P=>((S a).map fun r=>(⟨r,(a,nxt P)⟩:Fc))++gF S P
theorem xJM (rs:List Row) (p:Per) (r:Row) (t:Int):cnt (rs.map fun r=>(⟨r,p⟩:Fc)) r t=if hasP p t=true then rs.count r else 0:=by
 induction rs with
 | nil=>simp [cnt]
 | cons x rs ih =>
  have e:cnt ((⟨x,p⟩:Fc)::rs.map fun r=>(⟨r,p⟩:Fc)) r t=cnt (rs.map fun r=>(⟨r,p⟩:Fc)) r t+if (decide (x=r)&&hasP p t)=true then 1 else 0:=List.countP_cons
  rw [zV,e,ih,List.count_cons];by_cases hp:hasP p t=true<;>by_cases hr:x=r<;>simp [hp,hr]
theorem xJZ {a b t:Int} (ha:0<=a) (q:a<b) (hb:b<=1099511627776):hasP (a,b) t=decide (a<=t/\t<b):=by
 have:pv (a,b)=true:=xbT.2 ⟨ha,q,hb⟩;unfold hasP;rw [this];by_cases h1:a<=t<;>by_cases h2:t<b<;>simp [h1,h2]
theorem xMz (S:Int->List Row) (C:Nat) (r:Row) (t:Int):∀ (a:Int) (P:List Int),Asc (a::P)->(∀ x,x∈a::P->0<=x/\x<1099511627776) ->
  (∀ x,x∈a::P->x<=t->t<1099511627776->(∀ y,y∈a::P->¬ (x<y/\y<=t))->(S x).count r=C)->cnt (gF S (a::P)) r t=if a<=t/\t<1099511627776 then C else 0
 | a,[],ha,hb,hC=>by
  have h0:=hb a (by simp)
  show cnt (((S a).map fun r=>(⟨r,(a,(1099511627776:Int))⟩:Fc))++[]) r t=_
  rw [zD,xJM,xJZ h0.1 h0.2 (Int.le_refl _)];by_cases h:a<=t/\t<1099511627776
  . rw [if_pos h,if_pos (by simpa using h)]
    exact hC a (by simp) h.1 h.2 fun y hy=>by simp at hy;omega
  . rw [if_neg h,if_neg (by simpa using h)]
 | a,b::P,ha,hb,hC=>by
  have h0:=hb a (by simp)
  have h1:=hb b (by simp)
  obtain ⟨q,hP⟩:=zM.1 ha;have ab:a<b:=q b (by simp)
  have ih:=xMz S C r t b P hP (fun x hx=>hb x (List.mem_cons_of_mem _ hx)) fun x hx O J hn=>hC x (List.mem_cons_of_mem _ hx) O J fun y hy=>by
   rcases zC.1 hy with rfl|hy
   . have:=q x hx;omega
   . exact hn y hy
  show cnt (((S a).map fun r=>(⟨r,(a,b)⟩:Fc))++gF S (b::P)) r t=_
  rw [xul,xJM,xJZ h0.1 ab (by omega),ih]
  by_cases c1:a<=t
  . by_cases c2:t<b
    . rw [if_pos (by simp;omega),if_neg (by omega),if_pos (by omega),Nat.add_zero]
      refine hC a (by simp) c1 (by omega) fun y hy=>?_
      rcases zC.1 hy with rfl|hy
      . omega
      . rcases zC.1 hy with rfl|hy
        . omega
        . have:=(zM.1 hP).1 y hy;omega
    . rw [if_neg (by simp;omega),zH]
      by_cases c3:t<1099511627776
      . rw [if_pos (by omega),if_pos (by omega)]
      . rw [if_neg (by omega),if_neg (by omega)]
  . rw [if_neg (by simp;omega),if_neg (by omega),if_neg (by omega)]
theorem xPs {f:Fc} {x:Int} (h:x∈bnd f):pv f.p=true/\(x=f.p.1\/x=f.p.2/\f.p.2<1099511627776):=by
 unfold bnd at h;by_cases h1:pv f.p=true
 . rw [if_pos h1] at h;refine ⟨h1,?_⟩;by_cases h2:f.p.2<1099511627776
   . rw [if_pos h2] at h;rcases zC.1 h with h|h
     . exact .inl h
     . exact .inr ⟨by simpa using h,h2⟩
   . rw [if_neg h2] at h;exact .inl (by simpa using h)
 . rw [if_neg h1] at h;simp at h
theorem xPZ (l:List Fc):∀ x,x∈ptsF l->0<=x/\x<1099511627776:=fun x hx=>by
 rcases ((xwu l).2 x).1 hx with rfl|hx
 . omega
 . obtain ⟨f,_,hf⟩:=y3.1 hx;obtain ⟨h1,h2⟩:=xPs hf;have:=xbT.1 h1;omega
theorem xMH (l:List Fc) {x t:Int} (hx:x<=t) (ht:t<1099511627776) (hn:∀ y,y∈ptsF l->¬ (x<y/\y<=t)) {f:Fc} (hf:f∈l):hasP f.p x=hasP f.p t:=by
 cases hv:pv f.p with
 | false=>simp [hasP,hv]
 | true =>
  have h1:=xbT.1 hv;have m1:f.p.1∈ptsF l:=((xwu l).2 _).2 (.inr (y3.2 ⟨f,hf,by unfold bnd;rw [if_pos hv];split<;>simp⟩))
  have n1:=hn _ m1;have n2:f.p.2<1099511627776->¬ (x<f.p.2/\f.p.2<=t):=fun h=>hn _ (((xwu l).2 _).2 (.inr (y3.2 ⟨f,hf,by unfold bnd;rw [if_pos hv,if_pos h];simp⟩)))
  unfold hasP;rw [hv];by_cases c:f.p.2<1099511627776
  . have n2:=n2 c;by_cases a1:f.p.1<=x<;>by_cases a2:x<f.p.2<;>by_cases a3:f.p.1<=t<;>by_cases a4:t<f.p.2<;>simp [a1,a2,a3,a4]<;>omega
  . by_cases a1:f.p.1<=x<;>by_cases a2:x<f.p.2<;>by_cases a3:f.p.1<=t<;>by_cases a4:t<f.p.2<;>simp [a1,a2,a3,a4]<;>omega
theorem xL6 (l:List Fc) {x t:Int} (hx:x<=t) (ht:t<1099511627776) (hn:∀ y,y∈ptsF l->¬ (x<y/\y<=t)):atL l x=atL l t:=by
 unfold atL;have:∀ l':List Fc,(∀ f,f∈l'->f∈l)->(l'.flatMap fun f=>if hasP f.p x=true then [f.r] else [])=l'.flatMap fun f=>if hasP f.p t=true then [f.r] else []:=fun l' h=>by
  induction l' with
  | nil=>rfl
  | cons f l' ih=>rw [zR,zR,ih fun g hg=>h g (List.mem_cons_of_mem _ hg),xMH l hx ht hn (h f (by simp))]
 exact this l fun f hf=>hf
theorem xMy (l:List Fc) (S:Int->List Row) (Q:List Row->List Row) (hS:∀ t,(S t).Perm (Q (atL l t))) (r:Row) (t:Int):cnt (gF S (ptsF l)) r t=if 0<=t/\t<1099511627776 then (Q (atL l t)).count r else 0:=by
 have hA:=(xwu l).1;have h0:(0:Int)∈ptsF l:=((xwu l).2 0).2 (.inl rfl);have q:=xPZ l;have J:∀ x,x∈ptsF l->x<=t->t<1099511627776->(∀ y,y∈ptsF l->¬ (x<y/\y<=t))->(S x).count r=(Q (atL l t)).count r:=fun x _ O U hn=>by
  rw [(hS x).count_eq,xL6 l O U hn]
 generalize ptsF l=P at *;match P with
 | []=>simp at h0
 | a::P =>
  rw [xMz S ((Q (atL l t)).count r) r t a P hA q J];have:a=0:=by
   rcases zC.1 h0 with h|h
   . exact h.symm
   . have h1:=(zM.1 hA).1 0 h;have h2:=q a (by simp)
     omega
  subst this;rfl
theorem xHP (S:Int->List Row) (c:Nat):∀ P:List Int,(∀ x,x∈P->(S x).length<=c)->(gF S P).length<=c*P.length
 | [],_=>by simp [gF]
 | a::P,h=>by
  have h1:=h a (by simp)
  have h2:=xHP S c P fun x hx=>h x (List.mem_cons_of_mem _ hx)
  show (((S a).map fun r=>(⟨r,(a,nxt P)⟩:Fc))++gF S P).length<=_
  rw [z8,za,zF,Nat.mul_add,Nat.mul_one];omega
theorem xHQ (S:Int->List Row):∀ (P:List Int) (f:Fc),f∈gF S P->∃ x,x∈P/\f.r∈S x
 | [],f,h=>by simp [gF] at h
 | a::P,f,h=>by
  rcases zG.1 (show f∈((S a).map fun r=>(⟨r,(a,nxt P)⟩:Fc))++gF S P from h) with h|h
  . obtain ⟨r,hr,rfl⟩:=zK.1 h;exact ⟨a,by simp,hr⟩
  . obtain ⟨x,hx,hr⟩:=xHQ S P f h;exact ⟨x,List.mem_cons_of_mem _ hx,hr⟩
theorem xEH (p:Row->Bool) (t:Int):∀ l:List Fc,atL (l.filter fun f=>p f.r) t=(atL l t).filter p
 | []=>rfl
 | f::l=>by
  have ih:=xEH p t l;have e:atL (f::l) t=(if hasP f.p t=true then [f.r] else [])++atL l t:=rfl
  rw [e,List.filter_append,<-ih];by_cases hp:p f.r=true
  . rw [List.filter_cons,if_pos hp];show (if hasP f.p t=true then [f.r] else [])++atL (l.filter fun f=>p f.r) t=_
    by_cases hh:hasP f.p t=true<;>simp [hh,hp]
  . rw [List.filter_cons,if_neg hp];by_cases hh:hasP f.p t=true<;>simp [hh,hp]
theorem xJW {α β:Type} (q:α->Bool) (f:α->β):∀ l:List α,(l.flatMap fun a=>if q a=true then [f a] else [])=(l.filter q).map f
 | []=>rfl
 | a::l=>by
  rw [zR,xJW q f l];by_cases h:q a=true
  . rw [if_pos h,List.filter_cons_of_pos h];rfl
  . rw [if_neg h,List.filter_cons_of_neg h];rfl
theorem xGy {l:List Row} {k:Row} (h:l.Nodup) (hk:∀ x,x∈l->x=k):l=[]\/l=[k]:=by
 match l with
 | []=>exact .inl rfl
 | [x]=>exact .inr (by rw [hk x (by simp)])
 | x::y::l =>
  have h1:=hk x (by simp)
  have h2:=hk y (by simp)
  have:=(List.nodup_cons.1 h).1;simp [h1,h2] at this
theorem xCT (ks:List Int) (L:List Per) (rows:List Row) (k:Row) (hk:∀ a,a∈rows->pick a ks=k) (h0:ks=[]->k=[]):(xSk ks L rows).length<=1:=by
 have hG:=xeV (GK0 (fun r=>pick r ks) ks) rows
 rw [xjH,za];have:∀ x,x∈(grpK (fun r=>pick r ks) (G0 Row ks) rows).map (·.1)->x=k:=fun x hx=>by
  rcases (hG.mem x).1 hx with h|⟨a,ha,e⟩
  . unfold K0 at h;by_cases c:ks=[]
    . rw [if_pos c,zv] at h;rw [h,h0 c]
    . rw [if_neg c] at h;simp at h
  . rw [<-e,hk a ha]
 rcases xGy hG.nd this with h|h<;>rw [h]<;>simp
theorem xG2 (ks:List Int) (L:List Per) (rows:List Row) (k:Row) (O:ks≠[]) (hk:∀ a,a∈rows->pick a ks=k):xSk ks L rows=if (!rows.isEmpty)=true then [rowOf ks L rows k] else []:=by
 have hG:=xeV (GK0 (fun r=>pick r ks) ks) rows
 have h0:K0 ks=[]:=by unfold K0;rw [if_neg O]
 have hm:=hG.mem;rw [h0] at hm;rw [xjH];have:∀ x,x∈(grpK (fun r=>pick r ks) (G0 Row ks) rows).map (·.1)->x=k:=fun x hx=>by
  rcases (hm x).1 hx with h|⟨a,ha,e⟩
  . simp at h
  . rw [<-e,hk a ha]
 have J:=hG.nd;generalize (grpK (fun r=>pick r ks) (G0 Row ks) rows).map (·.1)=K at this J hm |-
 clear hG;match rows with
 | [] =>
  have:K=[]:=List.eq_nil_iff_forall_not_mem.2 fun x hx=>by
   rcases (hm x).1 hx with h|⟨a,ha,_⟩
   . simp at h
   . simp at ha
  rw [this];rfl
 | a::rows =>
  have q:k∈K:=(hm k).2 (.inr ⟨a,by simp,hk a (by simp)⟩)
  rcases xGy J this with h|h
  . rw [h] at q;simp at q
  . rw [h];rfl
theorem xQ4 (ks:List Int) (l:List Fc):∀ g,g∈xSl ks l->(∀ f,f∈g.2->f∈l/\pick f.r ks=g.1)/\(ks=[]->g.1=[])/\g.2.length<=l.length:=fun g hg=>by
 unfold xSl at hg;by_cases h:ks=[]
 . rw [if_pos h,zv] at hg;subst hg h;exact ⟨fun f hf=>⟨hf,rfl⟩,fun _=>rfl,zd _⟩
 . rw [if_neg h] at hg;have hG:=xeV (GK.nil (key:=fun f:Fc=>pick f.r ks)) l
   have hp:=hG.ps g hg;refine ⟨fun f hf=>?_,fun c=>absurd c h,?_⟩
   . rw [hp] at hf;have:=List.mem_filter.1 hf;exact ⟨this.1,by simpa using this.2⟩
   . rw [hp];exact List.length_filter_le _ _
def capN (ks:List Int) (l:List Fc):Nat:=if ks=[] then 1 else l.length
theorem xQ5 (ks:List Int) (l:List Fc):(xSl ks l).length<=capN ks l:=by
 unfold xSl capN;by_cases h:ks=[]
 . rw [if_pos h,if_pos h];simp
 . rw [if_neg h,if_neg h];have hG:=xeV (GK.nil (key:=fun f:Fc=>pick f.r ks)) l
   have:=hG.len;simpa using this
theorem xRb (ks:List Int) (L:List Per) (l:List Fc) (t:Int):(xSk ks L (atL l t)).length<=capN ks l:=by
 unfold capN;by_cases h:ks=[]
 . rw [if_pos h];exact xCT ks L _ [] (fun a _=>by subst h;rfl) fun _=>rfl
 . rw [if_neg h];have hG:=(xeV (GK0 (fun r=>pick r ks) ks) (atL l t)).len
   have h0:K0 ks=[]:=by unfold K0;rw [if_neg h]
   rw [h0] at hG;have:=xzp l t;unfold xSk;rw [za];simp at hG;omega
theorem xMB (ks:List Int) (L:List Per) (l:List Fc) (t:Int):((xSl ks l).flatMap fun g=>xSk ks L (atL g.2 t)).Perm (xSk ks L (atL l t)):=by
 by_cases h:ks=[]
 . unfold xSl;rw [if_pos h,zR,List.flatMap_nil,zD]
 . have hF:=xeV (GK.nil (key:=fun f:Fc=>pick f.r ks)) l
   have hG:=xeV (GK0 (fun r=>pick r ks) ks) (atL l t)
   have h0:K0 ks=[]:=by unfold K0;rw [if_neg h]
   have hm:=hG.mem;rw [h0] at hm;have e:xSl ks l=grpK (fun f:Fc=>pick f.r ks) [] l:=by unfold xSl;rw [if_neg h]
   rw [e];have e1:((grpK (fun f:Fc=>pick f.r ks) [] l).flatMap fun g=>xSk ks L (atL g.2 t))=(((grpK (fun f:Fc=>pick f.r ks) [] l).map (·.1)).flatMap fun k=>if (!((atL l t).filter fun a=>decide (pick a ks=k)).isEmpty)=true then [rowOf ks L (atL l t) k] else []):=by
    rw [List.flatMap_map];have:∀ G:List (Row×List Fc),(∀ g,g∈G->g.2=l.filter fun a=>decide (pick a.r ks=g.1))->(G.flatMap fun g=>xSk ks L (atL g.2 t))=G.flatMap fun g=>if (!((atL l t).filter fun a=>decide (pick a ks=g.1)).isEmpty)=true then [rowOf ks L (atL l t) g.1] else []:=fun G hG=>by
     induction G with
     | nil=>rfl
     | cons g G ih =>
      rw [zR,zR,ih fun x hx=>hG x (List.mem_cons_of_mem _ hx)]
      congr 1;have e2:=hG g (by simp)
      rw [e2,xEH (fun a=>decide (pick a ks=g.1)) t l,xG2 ks L _ g.1 h fun a ha=>by simpa using (List.mem_filter.1 ha).2]
      have e3:rowOf ks L ((atL l t).filter fun a=>decide (pick a ks=g.1)) g.1=rowOf ks L (atL l t) g.1:=by
       unfold rowOf;rw [List.filter_filter];simp only [Bool.and_self]
      rw [e3]
    exact this _ hF.ps
   rw [e1,xJW,xjH];refine List.Perm.map _ ((List.perm_ext_iff_of_nodup (hF.nd.filter _) hG.nd).2 fun r=>?_)
   rw [List.mem_filter,hF.mem,hm];constructor
   . rintro ⟨_,h2⟩;have:((atL l t).filter fun a=>decide (pick a ks=r))≠[]:=fun c=>by rw [c] at h2;simp at h2
     obtain ⟨a,ha⟩:=List.exists_mem_of_ne_nil _ this;have:=List.mem_filter.1 ha;exact .inr ⟨a,this.1,by simpa using this.2⟩
   . rintro (c|⟨a,ha,e⟩)
     . simp at c
     . obtain ⟨f,hf,e2,_⟩:=xwe ha;refine ⟨.inr ⟨f,hf,by rw [e2,e]⟩,?_⟩
       cases hc:(atL l t).filter fun a=>decide (pick a ks=r) with
       | nil =>
        have:a∈(atL l t).filter fun a=>decide (pick a ks=r):=List.mem_filter.2 ⟨ha,by simpa using e⟩
        rw [hc] at this;simp at this
       | cons x y=>rfl
theorem xDB {α:Type} (g:α->List Fc) (r:Row) (t:Int) (c:α->Nat):∀ l:List α,(∀ a,a∈l->cnt (g a) r t=c a)->cnt (l.flatMap g) r t=(l.map c).sum
 | [],_=>rfl
 | a::l,h=>by rw [zR,xul,h a (by simp),xDB g r t c l fun b hb=>h b (List.mem_cons_of_mem _ hb)];rfl
theorem xPn (ks:List Int) (L:List Per) (l:List Fc) (S:List Fc->Int->List Row) (hS:∀ g,g∈xSl ks l->∀ t,(S g.2 t).Perm (xSk ks L (atL g.2 t))) (r:Row) (t:Int) :
  cnt ((xSl ks l).flatMap fun g=>gF (S g.2) (ptsF g.2)) r t=if 0<=t/\t<1099511627776 then (xSk ks L (atL l t)).count r else 0:=by
 rw [xDB _ r t (fun g=>if 0<=t/\t<1099511627776 then (xSk ks L (atL g.2 t)).count r else 0) _ fun g hg=>xMy g.2 (S g.2) (xSk ks L) (hS g hg) r t]
 by_cases h:0<=t/\t<1099511627776
 . simp only [h,and_self,if_true];rw [<-(xMB ks L l t).count_eq,List.count_flatMap];rfl
 . have:(fun g:Row×List Fc=>if 0<=t/\t<1099511627776 then (xSk ks L (atL g.2 t)).count r else 0)=fun _=>0:=funext fun g=>if_neg h
   rw [this,if_neg h];generalize xSl ks l=G;induction G with
   | nil=>rfl
   | cons g G ih=>simpa using ih
def TVal (v:Val):Prop:=v.wf/\v.t.length<=1073741824
theorem wf64 {n:Int} (h1:-9223372036854775808<=n) (h2:n<=9223372036854775807):(Lit.int .i64 n).wf=true:=by
 show (decide ((IntKind.i64).min<=n)&&decide (n<=(IntKind.i64).max))=true;rw [zf,zl,zl];exact ⟨h1,h2⟩
theorem xBG:TVal ⟨0,0,[]⟩:=⟨⟨wf64 (by decide) (by decide),wf64 (by decide) (by decide),zQ _⟩,zQ _⟩
theorem xIG (n:Int):TVal (intV n):=by
 unfold intV;split
 . exact ⟨⟨wf64 (by show (-9223372036854775808:Int)<=1;decide) (by show (1:Int)<=9223372036854775807;decide),wf64 (by show -9223372036854775808<=n;omega) (by show n<=9223372036854775807;omega),zQ _⟩,zQ _⟩
 . exact xBG
theorem xJX {q:Row} {Q:Val->Prop} (h0:Q ⟨0,0,[]⟩) (h:∀ v,v∈q->Q v) (n:Nat):Q (q.getD n ⟨0,0,[]⟩):=by
 rw [z7];by_cases hn:n<q.length
 . rw [ze hn];exact h _ (zo hn)
 . rw [zz (by omega)];exact h0
theorem xRx {q:Row} (h:∀ v,v∈q->TVal v) (i:Int):TVal (atV q i):=by
 unfold atV;split
 . exact xBG
 . exact xJX xBG h _
theorem xKo {q:Row} (h:∀ v,v∈q->TVal v) (ks:List Int):∀ v,v∈pick q ks->TVal v:=fun v hv=>by
 obtain ⟨i,_,rfl⟩:=zK.1 hv;exact xRx h i
theorem xHL (op:Int):∀ (l:List Val) (o:Val),extV op o l∈o::l
 | [],o=>by simp [extV]
 | v::l,o=>by
  have e:extV op o (v::l)=extV op (ext1 op o v) l:=by unfold extV;rw [List.foldl_cons]
  rw [e];rcases zC.1 (xHL op l (ext1 op o v)) with h|h
  . rw [h];unfold ext1;split<;>simp
  . simp [h]
theorem xRs {rows:List Row} (h:∀ r,r∈rows->∀ v,v∈r->TVal v) (op a:Int):TVal (aggV rows op a):=by
 have hc:∀ v,v∈colV rows a->TVal v:=fun v hv=>by
  obtain ⟨r,hr,hs⟩:=y3.1 hv;unfold sel at hs;split at hs
  . simp at hs
  . rw [zv] at hs;rw [hs];exact xJX xBG (h r hr) _
 unfold aggV;split
 . exact xIG _
 . split
   . exact xIG _
   . generalize colV rows a=c at *;match c with
     | []=>exact xBG
     | v::l =>
      show TVal (if op=2 then intV (sumI (v::l)) else extV op v l)
      split
      . exact xIG _
      . exact hc _ (xHL op l v)
theorem xKp {ks:List Int} {L:List Per} {rows:List Row} (h:∀ r,r∈rows->∀ v,v∈r->TVal v):∀ x,x∈xSk ks L rows->(∀ v,v∈x->TVal v)/\List.length x<=ks.length+L.length:=fun x hx=>by
 have hG:=xeV (GK0 (fun r=>pick r ks) ks) rows
 rw [xjH] at hx;obtain ⟨k,hk,rfl⟩:=zK.1 hx;have q:(∀ v,v∈k->TVal v)/\List.length k<=ks.length:=by
  rcases (hG.mem k).1 hk with h0|⟨a,ha,rfl⟩
  . unfold K0 at h0;split at h0
    . rw [zv] at h0;subst h0;exact ⟨fun v hv=>by simp at hv,by simp⟩
    . simp at h0
  . exact ⟨xKo (h a ha) ks,by rw [xtt];exact zd _⟩
 unfold rowOf;refine ⟨fun v hv=>?_,?_⟩
 . rcases zG.1 hv with hv|hv
   . exact q.1 v hv
   . unfold xSo at hv;obtain ⟨p,_,rfl⟩:=zK.1 hv;exact xRs (fun r hr=>h r (List.mem_filter.1 hr).1) _ _
 . rw [z8,xF8];omega
theorem xMK {r:Row} (h:∀ v,v∈r->TVal v) (hl:r.length<=60):(xUb r).length<=17592186044416:=by
 have:=xgN (g:=keyC) (c:=1073741890) r fun v hv=>by
  obtain ⟨h1,h2⟩:=h v hv;have:=xHW h1 (by omega);omega
 unfold xUb;have h2:1073741890*r.length<=1073741890*60:=Nat.mul_le_mul_left _ hl;omega
structure FA (ks:List Int) (L:List Per) (l:List Fc):Prop where
 kl:ks.length<=20
 ll:L.length<=20
 len:l.length<=14
 sz:capN ks l*(2*l.length+1)<=1024
 col:∀ p,p∈L->0<=p.2->∀ f,f∈l->p.2.toNat<f.r.length
 rng:∀ f,f∈l->∀ v,v∈f.r->inR v
 rl:∀ f,f∈l->f.r.length<=60
 tx:Tx l
 ops:∀ p,p∈L->1<=p.1/\p.1<=4
section
variable {ks : List Int} {L : List Per} {l : List Fc}
theorem FA.keys (h:FA ks L l) {f:Fc} (hf:f∈l):(∀ v,v∈pick f.r ks->KOk v)/\(xUb (pick f.r ks)).length<=17592186044416/\(keyOf (pick f.r ks)).length<=17592186044416:=by
 have ht:=xKo (fun v hv=>h.tx f hf v hv) ks
 have hl:List.length (pick f.r ks)<=60:=by rw [xtt];have:=h.kl;omega
 exact ⟨fun v hv=>⟨(ht v hv).1,by have:=(ht v hv).2;omega⟩,xMK ht hl,xGq ht hl⟩
theorem FA.fk (h:FA ks L l):FK ks l:=⟨by have:=h.len;omega,by have:=h.kl;omega,fun f hf=>h.keys hf⟩
theorem FA.rk (h:FA ks L l) {rows:List Row} (hm:∀ r,r∈rows->∃ f,f∈l/\f.r=r) (hl:rows.length<=1024):RK ks rows:=⟨by omega,by have:=h.kl;omega,fun r hr=>by obtain ⟨f,hf,rfl⟩:=hm r hr;exact h.keys hf⟩
theorem FA.ak (h:FA ks L l) {rows:List Row} (hm:∀ r,r∈rows->∃ f,f∈l/\f.r=r) (hl:rows.length<=1024):AK L rows :=
 ⟨by omega,by have:=h.ll;omega,fun p hp h0 r hr=>by obtain ⟨f,hf,rfl⟩:=hm r hr;exact h.col p hp h0 f hf,fun r hr=>by obtain ⟨f,hf,rfl⟩:=hm r hr;exact h.rng f hf⟩
theorem FA.few (h:FA ks L l) {l':List Fc} (hs:∀ f,f∈l'->f∈l) (hl:l'.length<=l.length):Few l':=⟨by have:=h.len;omega,fun f hf=>by have:=h.rl f (hs f hf);omega⟩
theorem xwn {rows q:List Row} (hp:rows.Perm q) (hL:∀ p,p∈L->1<=p.1/\p.1<=4):(xSk ks L rows).Perm (xSk ks L q):=by
 have h1:=xeV (GK0 (fun r=>pick r ks) ks) rows
 have h2:=xeV (GK0 (fun r=>pick r ks) ks) q
 rw [xjH,xjH];have:rowOf ks L rows=rowOf ks L q:=funext fun r=>by
  unfold rowOf;rw [xEF (hp.filter _) hL]
 rw [this];refine List.Perm.map _ ((List.perm_ext_iff_of_nodup h1.nd h2.nd).2 fun r=>?_)
 rw [h1.mem,h2.mem];simp only [hp.mem_iff]
theorem FA.snap (h:FA ks L l) (kinds:List Int) {l':List Fc} (hs:∀ f,f∈l'->f∈l) (hl:l'.length<=l.length) (t:Int) :
  ∃ R S:List Row,xe7 (l'.map encF) t=some (R.map encR)/\xbV (kinds.map encN) (R.map encR) (ks.map encN) (L.map encP)=some ((xUc kinds ks L).1.map encN,S.map encR)/\S.Perm (xSk ks L (atL l' t)):=by
 obtain ⟨R,e,p,s⟩:=xRR l' t (h.few hs hl) (by have:=h.len;omega)
 have hm:∀ r,r∈R->∃ f,f∈l/\f.r=r:=fun r hr=>by
  obtain ⟨f,hf,e,_⟩:=xwe (p.mem_iff.1 hr);exact ⟨f,hs f hf,e⟩
 have J:R.length<=14:=by have:=p.length_eq;have:=xzp l' t;have:=h.len;omega
 have q:R.length<=1024:=by omega
 obtain ⟨S,e2,p2,_⟩:=xDc kinds ks L R (h.rk hm q) (h.ak hm q) (by omega) (by have:=h.kl;omega) (by have:=h.ll;omega)
 exact ⟨R,S,e,e2,p2.trans (xwn p h.ops)⟩
theorem FA.rsnap (h:FA ks L l) (kinds:List Int) (t:Int) :
  ∃ R S:List Row,xie (l.map encF) t=some (R.map encR)/\xfP (kinds.map encN) (R.map encR) (ks.map encN) (L.map encP)=some ((xUc kinds ks L).1.map encN,S.map encR)/\S.Perm (xSk ks L (atL l t))/\Sorted cmpR S:=by
 obtain ⟨R,e,p,s⟩:=xM7 l t (h.few (fun f hf=>hf) (zd _))
 have hm:∀ r,r∈R->∃ f,f∈l/\f.r=r:=fun r hr=>by
  obtain ⟨f,hf,e,_⟩:=xwe (p.mem_iff.1 hr);exact ⟨f,hf,e⟩
 have q:R.length<=1024:=by have:=p.length_eq;have:=xzp l t;have:=h.len;omega
 obtain ⟨S,e2,p2,s2⟩:=xDR kinds ks L R (h.ak hm q) (by omega) (by have:=h.kl;omega) (by have:=h.ll;omega) h.ops
 exact ⟨R,S,e,e2,p2.trans (xwn p h.ops),s2⟩
theorem xO1 (h:FA ks L l) {l':List Fc} (hs:∀ f,f∈l'->f∈l) (t:Int):∀ r,r∈atL l' t->∀ v,v∈r->TVal v:=fun r hr v hv=>by
 obtain ⟨f,hf,rfl,_⟩:=xwe hr;exact h.tx f (hs f hf) v hv
end
end Go.Sim.M
end
noncomputable section
set_option maxRecDepth 100000
namespace Go.Sim.M
open Go.RowKit Go.Sim.Srt
def mkA (S:List Row) (p:Per):List Fc:=S.map fun r=>⟨r,p⟩
theorem xNF (f t:Int) (S:List Row) (b0 b1 b2 b3:List AV) (v:Nat) (k:Nat) (hk:k<S.length) (hS:S.length<=1048576) (D:List Fc) (hD:D.length<=1048576) :
  xdR f t (S.map encR) ((S.length:Nat):Int) ((k:Int),b0,b1,b2,b3,D.length,v,v,D.map encF)=some (.inl (((k+1:Nat):Int),b0,b1,b2,b3,(D++[(⟨S[k],(f,t)⟩:Fc)]).length,v+1,v+1,(D++[(⟨S[k],(f,t)⟩:Fc)]).map encF)):=by
 have h1:(k:Int)<(S.length:Int):=by omega
 have gf:(S.map encR).getD k .top=encR S[k]:=xad _ _ _ hk;have m1:(D.length+1)*40<=140737488355328:=by omega
 have m2:D.length+1<=4611686018427387904:=by omega
 simp only [xdR,xpC,sBU,hk,h1,gf,cR0,sR0,m1,m2,xSj (n:=k) (by omega),z8,zj,zx,zV,zW]
 simp [encF]
theorem xNE (f t:Int) (S:List Row) (b0 b1 b2 b3:List AV) (v:Nat) (O:List Fc) (hl:O.length+S.length<=1048576) :
  Iter (xdR f t (S.map encR) ((S.length:Nat):Int)) ((0:Int),b0,b1,b2,b3,O.length,v,v,O.map encF)=some (b0,b1,b2,b3,v+S.length,(O++mkA S (f,t)).length,(O++mkA S (f,t)).map encF,v+S.length):=by
 have key:Iter (xdR f t (S.map encR) ((S.length:Nat):Int)) (((0:Nat):Int),b0,b1,b2,b3,(O++[]).length,v+0,v+0,(O++[]).map encF)=some (b0,b1,b2,b3,v+S.length,(O++mkA S (f,t)).length,(O++mkA S (f,t)).map encF,v+S.length):=by
  refine xeL (fun k=>(((k:Nat):Int),b0,b1,b2,b3,(O++mkA (S.take k) (f,t)).length,v+k,v+k,(O++mkA (S.take k) (f,t)).map encF)) S.length _ (fun k hk=>?_) ?_ S.length 0 (by omega)
  . have ht:mkA (S.take (k+1)) (f,t)=mkA (S.take k) (f,t)++[⟨S[k],(f,t)⟩]:=by
     unfold mkA;rw [List.take_add_one,ze hk,zx];rfl
    have hm:(mkA (S.take k) (f,t)).length<=k:=by unfold mkA;rw [za,zt];omega
    rw [xNF f t S b0 b1 b2 b3 (v+k) k hk (by omega) (O++mkA (S.take k) (f,t)) (by rw [z8];omega),ht,zw]
    rfl
  . simp only [xdR,xpC,zy,zm,xag,y4,sUF]
 rw [zD] at key;exact key
theorem xQU (f t:Int) (rows:List AV) (kd fs ks ag k:List AV) (S:List Row) (hs:xbV kd rows ks ag=some (k,S.map encR)) (v:Nat) (O:List Fc) (hl:O.length+S.length<=1048576) :
  xzc f t rows kd fs ks ag v O.length v (O.map encF)=some (kd,fs,ks,ag,v+S.length,(O++mkA S (f,t)).length,(O++mkA S (f,t)).map encF,v+S.length):=by
 have e:=xNE f t S kd fs ks ag v O hl;unfold xzc xzz;simp only [xys,xyt,xyu,xyv,xyw,xyy,xyz,xyA,sBU,hs,e]
theorem xH9 (lE:List AV) (P:List Int) (hP:P.length<=1048576) (kd fs ks ag:List AV) (S:Int->List Row) (hS:∀ x,x∈P->∃ R k,xe7 lE x=some R/\xbV kd R ks ag=some (k,(S x).map encR)) :
  ∀ (d k v:Nat) (O:List Fc),k+d=P.length->O.length+(gF S (P.drop k)).length<=1048576->∃ v',Iter (xbJ lE (P.map encN) (P.map encN) ((P.length:Nat):Int)) ((k:Int),kd,fs,ks,ag,O.length,v,v,O.map encF)=some (kd,fs,ks,ag,v',(O++gF S (P.drop k)).length,(O++gF S (P.drop k)).map encF,v')
 | 0,k,v,O,h,hO=>by
  have hk:k=P.length:=by omega
  subst hk;rw [zq (zd _)];refine ⟨v,xam ?_⟩;simp only [xbJ,xeI,zy,zm,xag,gF,zD,sUF]
 | d+1,k,v,O,h,hO=>by
  have hk:k<P.length:=by omega
  have h1:(k:Int)<(P.length:Int):=by omega
  have gf:(P.map encN).getD k .top=encN P[k]:=xad _ _ _ hk;obtain ⟨R,kk,e1,e2⟩:=hS P[k] (zo hk);have hd:P.drop k=P[k]::P.drop (k+1):=xaR hk;have hg:gF S (P.drop k)=mkA (S P[k]) (P[k],nxt (P.drop (k+1)))++gF S (P.drop (k+1)):=by rw [hd];rfl
  rw [hg,z8] at hO;have hml:(mkA (S P[k]) (P[k],nxt (P.drop (k+1)))).length=(S P[k]).length:=by unfold mkA;simp
  have e3:=xQU P[k] (nxt (P.drop (k+1))) R kd fs ks ag kk (S P[k]) e2 v O (by omega)
  obtain ⟨v',ih⟩:=xH9 lE P hP kd fs ks ag S hS d (k+1) (v+(S P[k]).length) (O++mkA (S P[k]) (P[k],nxt (P.drop (k+1)))) (by omega) (by rw [z8];omega)
  refine ⟨v',?_⟩;rw [hg,<-zw,<-ih];refine xaM ?_;by_cases q:k+1<P.length
  . have h2:((k+1:Nat):Int)<(P.length:Int):=by omega
    have gn:(P.map encN).getD (k+1) .top=encN P[k+1]:=xad _ _ _ q;have hn:nxt (P.drop (k+1))=P[k+1]:=by rw [xaR q];rfl
    rw [hn] at e3 |-;simp only [xbJ,xeI,xfS,xfT,xfU,xfV,xfW,xfX,xfY,xfZ,xfx,xf0,xfC,xfD,xfE,xfF,xfG,xfH,xfI,sBU,hk,h1,q,h2,gf,gn,cN,sN,xSj (n:=k) (by omega),e1,e3]
  . have h2:¬ ((k+1:Nat):Int)<(P.length:Int):=by omega
    have hn:nxt (P.drop (k+1))=1099511627776:=by rw [zq (by omega)];rfl
    rw [hn] at e3 |-;simp only [xbJ,xeI,xfS,xfT,xfU,xfV,xfW,xfX,xfY,xfZ,xfx,xf0,xfC,xfD,xfE,xfF,xfG,xfH,xfI,sBU,hk,h1,h2,gf,cN,sN,xSj (n:=k) (by omega),e1,e3]
theorem xPH (l':List Fc) (hl:l'.length<=262144) (kd fs ks ag:List AV) (S:Int->List Row) (hS:∀ x,x∈ptsF l'->∃ R k,xe7 (l'.map encF) x=some R/\xbV kd R ks ag=some (k,(S x).map encR)) (O:List Fc) (hO:O.length+(gF S (ptsF l')).length<=1048576) :
  gset (l'.map encF) kd fs ks ag O.length (O.map encF)=some (kd,fs,ks,ag,(O++gF S (ptsF l')).length,(O++gF S (ptsF l')).map encF):=by
 have hp:=xBp l';obtain ⟨v',e⟩:=xH9 (l'.map encF) (ptsF l') (by omega) kd fs ks ag S hS (ptsF l').length 0 0 O (by omega) (by rw [zr];exact hO)
 rw [zr] at e;have e:Iter (xbJ (l'.map encF) ((ptsF l').map encN) ((ptsF l').map encN) (((ptsF l').length:Nat):Int)) ((0:Int),kd,fs,ks,ag,O.length,0,0,O.map encF)=_:=e;have ep:=xM2 l' hl;have e2:xfk (l'.map encF) kd fs ks ag 0 O.length 0 (O.map encF)=some (kd,fs,ks,ag,v',(O++gF S (ptsF l')).length,(O++gF S (ptsF l')).map encF,v'):=by
  unfold xfk xir;simp only [xmY,xmZ,xmx,xm0,xm1,xm2,xm3,xm4,sBU,ep,e]
 unfold gset;rw [e2];have:Nat.beq v' v'=true:=by simp
 simp only [Option.bind_some,this,xaj,sUF]
theorem xHr (kd fs ks ag:List AV) (F:Row×List Fc->List Fc) (G:List (Row×List Fc)) (hG:G.length<=1048576) (hF:∀ g,g∈G->∀ O:List Fc,O.length+(F g).length<=1048576->gset (g.2.map encF) kd fs ks ag O.length (O.map encF)=some (kd,fs,ks,ag,(O++F g).length,(O++F g).map encF)) :
  ∀ (d k:Nat) (O:List Fc),k+d=G.length->O.length+((G.drop k).flatMap F).length<=1048576->Iter (xcW (G.map xSs) ((G.length:Nat):Int)) ((k:Int),kd,fs,ks,ag,O.length,O.map encF)=some (kd,fs,ks,ag,(O++(G.drop k).flatMap F).length,(O++(G.drop k).flatMap F).map encF)
 | 0,k,O,h,hO=>by
  have hk:k=G.length:=by omega
  subst hk;rw [zq (zd _)];refine xam ?_;simp only [xcW,xiq,zy,zm,xag,List.flatMap_nil,zD,sUF]
 | d+1,k,O,h,hO=>by
  have hk:k<G.length:=by omega
  have h1:(k:Int)<(G.length:Int):=by omega
  have gf:(G.map xSs).getD k .top=.list 3 (G[k].2.map encF):=xad _ _ _ hk;have hd:(G.drop k).flatMap F=F G[k]++(G.drop (k+1)).flatMap F:=by rw [xaR hk];rfl
  rw [hd,z8] at hO;have e:=hF G[k] (zo hk) O (by omega)
  rw [hd,<-zw,<-xHr kd fs ks ag F G hG hF d (k+1) (O++F G[k]) (by omega) (by rw [z8];omega)]
  refine xaM ?_;simp only [xcW,xiq,xmT,xmU,xmV,xmW,xmX,sBU,hk,h1,gf,xSP,g1a,tolA,sL3,xSj (n:=k) (by omega),e]
theorem xTl {ks:List Int} {L:List Per} {l:List Fc} (h:FA ks L l) (kinds:List Int):∃ S:List Row,xbV (kinds.map encN) [] (ks.map encN) (L.map encP)=some ((xUc kinds ks L).1.map encN,S.map encR):=by
 obtain ⟨S,e,_⟩:=xDc kinds ks L [] (h.rk (by simp) (by simp)) (h.ak (by simp) (by simp)) (by simp) (by have:=h.kl;omega) (by have:=h.ll;omega)
 exact ⟨S,e⟩
def xSL (ks:List Int) (L:List Per) (l:List Fc) (B:List Fc):Prop:=∃ O,xSw O B/\(∀ r t,cnt O r t=if 0<=t/\t<1099511627776 then (xSk ks L (atL l t)).count r else 0)/\O.length<=1024/\∀ f,f∈O->(∀ v,v∈f.r->TVal v)/\f.r.length<=40
theorem xRq {α:Type} (F:α->List Fc) (c:Nat) (G:List α) (h:∀ g,g∈G->(F g).length<=c):(G.flatMap F).length<=c*G.length:=xgN G h
theorem xL5 {ks:List Int} {L:List Per} {l:List Fc} (h:FA ks L l) (kinds:List Int):∃ B,xfR (kinds.map encN) (l.map encF) (ks.map encN) (L.map encP)=some ((xUc kinds ks L).1.map encN,B.map encF)/\xSL ks L l B:=by
 have q:=xQ4 ks l;have Q:∀ (l':List Fc) (t:Int),∃ S:List Row,(∀ f,f∈l'->f∈l)->l'.length<=l.length->(∃ R k,xe7 (l'.map encF) t=some R/\xbV (kinds.map encN) R (ks.map encN) (L.map encP)=some (k,S.map encR))/\S.Perm (xSk ks L (atL l' t)):=fun l' t=>by
  by_cases c:(∀ f,f∈l'->f∈l)/\l'.length<=l.length
  . obtain ⟨R,S,e1,e2,e3⟩:=h.snap kinds c.1 c.2 t;exact ⟨S,fun _ _=>⟨⟨_,_,e1,e2⟩,e3⟩⟩
  . exact ⟨[],fun c1 c2=>absurd ⟨c1,c2⟩ c⟩
 let S:List Fc->Int->List Row:=fun l' t=>Classical.choose (Q l' t)
 have hS:∀ g,g∈xSl ks l->∀ t,(∃ R k,xe7 (g.2.map encF) t=some R/\xbV (kinds.map encN) R (ks.map encN) (L.map encP)=some (k,(S g.2 t).map encR))/\(S g.2 t).Perm (xSk ks L (atL g.2 t)):=fun g hg t=>by
  obtain ⟨h1,_,h2⟩:=q g hg;exact Classical.choose_spec (Q g.2 t) (fun f hf=>(h1 f hf).1) h2
 have hcap:=xQ5 ks l;have hsz:=h.sz;have Y:=h.len;have W:∀ g,g∈xSl ks l->(gF (S g.2) (ptsF g.2)).length<=2*l.length+1:=fun g hg=>by
  obtain ⟨h1,h0,h2⟩:=q g hg;have:=xHP (S g.2) 1 (ptsF g.2) fun x _=>by
   rw [((hS g hg x).2).length_eq];refine xCT ks L _ g.1 (fun a ha=>?_) h0
   obtain ⟨f,hf,rfl,_⟩:=xwe ha;exact (h1 f hf).2
  have:=xBp g.2;omega
 have V:((xSl ks l).flatMap fun g=>gF (S g.2) (ptsF g.2)).length<=1024:=by
  have:=xRq (fun g:Row×List Fc=>gF (S g.2) (ptsF g.2)) _ _ W
  have:=Nat.mul_le_mul_left (2*l.length+1) hcap;rw [Nat.mul_comm (2*l.length+1) (capN ks l)] at this;omega
 have U:=xPn ks L l S fun g hg t=>(hS g hg t).2
 have J:∀ f,f∈((xSl ks l).flatMap fun g=>gF (S g.2) (ptsF g.2))->(∀ v,v∈f.r->TVal v)/\f.r.length<=40:=fun f hf=>by
  obtain ⟨g,hg,hf⟩:=y3.1 hf;obtain ⟨x,_,hx⟩:=xHQ _ _ f hf;have:=xKp (xO1 h (fun f hf=>((q g hg).1 f hf).1) x) f.r (((hS g hg x).2).mem_iff.1 hx)
  have k1:=h.kl;have k2:=h.ll;exact ⟨this.1,by omega⟩
 have el:=xHr (kinds.map encN) (l.map encF) (ks.map encN) (L.map encP) (fun g=>gF (S g.2) (ptsF g.2)) (xSl ks l) (by
  have:capN ks l<=1024:=by unfold capN;split<;>omega
  omega) (fun g hg O hO=>xPH g.2 (by have:=(q g hg).2.2;omega) _ _ _ _ (S g.2) (fun x _=>(hS g hg x).1) O hO) (xSl ks l).length 0 [] (by omega) (by rw [zr,List.length_nil];omega)
 rw [zr,zU] at el;have eg:=xKA ks l h.fk;obtain ⟨S0,e0⟩:=xTl h kinds;generalize ((xSl ks l).flatMap fun g=>gF (S g.2) (ptsF g.2))=O at *
 obtain ⟨B,eb,hB⟩:=xL7 O (xNu V (fun f hf=>by have:=(J f hf).2;omega) fun f hf v hv=>(J f hf).1 v hv)
 refine ⟨B,?_,O,hB,U,V,J⟩;have el:Iter (xcW ((xSl ks l).map xSs) (((xSl ks l).length:Nat):Int)) ((0:Int),kinds.map encN,l.map encF,ks.map encN,L.map encP,0,[])=_:=el;have tt:List.take O.length (O.map encF)=O.map encF:=zi (by simp)
 unfold xfR xrx;simp only [xpZ,xpx,xp0,xp1,xp2,xp3,xp4,xp5,xp6,sBU,eg,el,e0,tt,eb,zr,zd]
def pcL:List Int->List Per
 | []=>[]
 | a::P=>(a,nxt P)::pcL P
theorem xzs:∀ P:List Int,(pcL P).length=P.length
 | []=>rfl
 | a::P=>by show (pcL P).length+1=_;rw [xzs P];rfl
theorem xH8:∀ (k:Nat) (P:List Int),(pcL P).drop k=pcL (P.drop k)
 | 0,P=>rfl
 | k+1,[]=>rfl
 | k+1,a::P=>xH8 k P
theorem xPX (P:List Int) (k:Nat) (hk:k<P.length):(pcL P)[k]'(by rw [xzs];exact hk)=(P[k],nxt (P.drop (k+1))):=by
 have h1:=xaR (l:=pcL P) (n:=k) (by rw [xzs];exact hk)
 rw [xH8,xaR hk] at h1;exact (List.cons.inj h1).1.symm
theorem xGO (P:List Int) (hP:P.length<=1048576):∀ (d k:Nat) (O:List Per),k+d=P.length->O.length<=k->Iter (xel (P.map encN)) (O.length,(k:Int),O.map encP)=some ((O++pcL (P.drop k)).length,(O++pcL (P.drop k)).map encP)
 | 0,k,O,h,hO=>by
  have hk:k=P.length:=by omega
  subst hk;rw [zq (zd _)];refine xam ?_;simp only [xel,xmC,za,zy,zm,xag,pcL,zD,sUF]
 | d+1,k,O,h,hO=>by
  have hk:k<P.length:=by omega
  have h1:(k:Int)<(P.length:Int):=by omega
  have gf:(P.map encN).getD k .top=encN P[k]:=xad _ _ _ hk;have m1:(O.length+1)*16<=140737488355328:=by omega
  have m2:O.length+1<=4611686018427387904:=by omega
  have hd:pcL (P.drop k)=[(P[k],nxt (P.drop (k+1)))]++pcL (P.drop (k+1)):=by rw [xaR hk];rfl
  rw [hd,<-zw,<-xGO P hP d (k+1) (O++[(P[k],nxt (P.drop (k+1)))]) (by omega) (by rw [z8,zj];omega)]
  refine xaM ?_;by_cases q:k+1<P.length
  . have h2:((k+1:Nat):Int)<(P.length:Int):=by omega
    have gn:(P.map encN).getD (k+1) .top=encN P[k+1]:=xad _ _ _ q;have hn:nxt (P.drop (k+1))=P[k+1]:=by rw [xaR q];rfl
    rw [hn];simp only [xel,xmC,xk7,sBU,hk,h1,q,h2,gf,gn,cN,sN,m1,m2,xSj (n:=k) (by omega),z8,zj,zx,zV,zW]
    simp [encP]
  . have h2:¬ ((k+1:Nat):Int)<(P.length:Int):=by omega
    have hn:nxt (P.drop (k+1))=1099511627776:=by rw [zq (by omega)];rfl
    rw [hn];simp only [xel,xmC,xk7,sBU,hk,h1,h2,gf,cN,sN,m1,m2,xSj (n:=k) (by omega),z8,zj,zx,zV,zW]
    simp [encP]
theorem xLj (l:List Fc) (hl:l.length<=262144):xva (l.map encF) []=some ((pcL (ptsF l)).map encP):=by
 have hp:=xBp l;have e:=xGO (ptsF l) (by omega) (ptsF l).length 0 [] (by omega) (by simp)
 rw [zr,zU] at e;have e:Iter (xel ((ptsF l).map encN)) ((0:Nat),(0:Int),[])=_:=e;have m1:l.length*40<=140737488355328:=by omega
 have m2:l.length<=4611686018427387904:=by omega
 have t1:List.take l.length (l.map encF)=l.map encF:=zi (by simp)
 have ep:=xLk l hl;have t2:List.take (pcL (ptsF l)).length ((pcL (ptsF l)).map encP)=(pcL (ptsF l)).map encP:=zi (by simp)
 unfold xva xBv;simp only [xvb,xvc,xvd,xve,sBU,m1,m2,List.length_nil,Nat.add_zero,zD,zr,zd,t1,ep,e,t2]
theorem xM6 (S:List Row) (hS:S.length<=1048576) (f t:Int):Iter (xiU (S.map encR)) ((0:Nat),(0:Int),f,t,[])=some ((mkA S (f,t)).length,(mkA S (f,t)).map encF):=by
 refine xeL (fun k=>((mkA (S.take k) (f,t)).length,((k:Nat):Int),f,t,(mkA (S.take k) (f,t)).map encF)) S.length _ (fun k hk=>?_) ?_ S.length 0 (by omega)
 . have ht:mkA (S.take (k+1)) (f,t)=mkA (S.take k) (f,t)++[⟨S[k],(f,t)⟩]:=by
    unfold mkA;rw [List.take_add_one,ze hk,zx];rfl
   have hm:(mkA (S.take k) (f,t)).length<=k:=by unfold mkA;rw [za,zt];omega
   have h1:(k:Int)<(S.length:Int):=by omega
   have gf:(S.map encR).getD k .top=encR S[k]:=xad _ _ _ hk;rw [ht];generalize mkA (S.take k) (f,t)=D at *;have m1:(D.length+1)*40<=140737488355328:=by omega
   have m2:D.length+1<=4611686018427387904:=by omega
   simp only [xiU,xsl,sBU,hk,h1,gf,cR0,sR0,m1,m2,xSj (n:=k) (by omega),z8,zj,zx,zV,zW]
   simp [encF]
 . simp only [xiU,xsl,za,zy,zm,xag,y4,sUF]
theorem xP1 (S:List Row) (hS:S.length<=1048576) (f t:Int):xz3 (S.map encR) f t=some ((mkA S (f,t)).map encF):=by
 have e:=xM6 S hS f t;generalize mkA S (f,t)=D at *;have tt:List.take D.length (D.map encF)=D.map encF:=zi (by simp)
 unfold xz3 xBt;simp only [xuZ,xux,xu0,xu1,sBU,e,tt,zr,zd]
theorem xIr (kinds lE keys a:List AV) (P:List Int) (hP:P.length<=1048576) (S:Int->List Row) (hS:∀ x,x∈P->(∃ R k,xie lE x=some R/\xfP kinds R keys a=some (k,(S x).map encR))/\(S x).length<=1048576) :
  ∀ (d k:Nat) (O:List Fc),k+d=P.length->O.length+(gF S (P.drop k)).length<=1048576->Iter (xfA kinds lE keys a ((pcL P).map encP)) (O.length,(k:Int),O.map encF)=some ((O++gF S (P.drop k)).length,(O++gF S (P.drop k)).map encF)
 | 0,k,O,h,hO=>by
  have hk:k=P.length:=by omega
  subst hk;rw [zq (zd _)];refine xam ?_;simp only [xfA,xqX,za,xzs,zy,zm,xag,gF,zD,sUF]
 | d+1,k,O,h,hO=>by
  have hk:k<P.length:=by omega
  have h1:(k:Int)<(P.length:Int):=by omega
  have gf:((pcL P).map encP).getD k .top=encP (P[k],nxt (P.drop (k+1))):=by rw [xad _ _ _ (by rw [xzs];exact hk),xPX P k hk]
  obtain ⟨⟨R,kk,e1,e2⟩,q⟩:=hS P[k] (zo hk);have hd:P.drop k=P[k]::P.drop (k+1):=xaR hk;have hg:gF S (P.drop k)=mkA (S P[k]) (P[k],nxt (P.drop (k+1)))++gF S (P.drop (k+1)):=by rw [hd];rfl
  rw [hg,z8] at hO;have hml:(mkA (S P[k]) (P[k],nxt (P.drop (k+1)))).length=(S P[k]).length:=by unfold mkA;simp
  have e3:=xP1 (S P[k]) q P[k] (nxt (P.drop (k+1)));rw [hg,<-zw,<-xIr kinds lE keys a P hP S hS d (k+1) (O++mkA (S P[k]) (P[k],nxt (P.drop (k+1)))) (by omega) (by rw [z8];omega)]
  refine xaM ?_;generalize mkA (S P[k]) (P[k],nxt (P.drop (k+1)))=Z at *;have m1:(O.length+Z.length)*40<=140737488355328:=by omega
  have m2:O.length+Z.length<=4611686018427387904:=by omega
  simp only [xfA,xqX,xks,xpw,xpy,sBU,xzs,hk,h1,gf,cP0,cP1,lP,sP,sP0,sP1,xSj (n:=k) (by omega),e1,e2,e3,m1,m2,z8,zx]
theorem xJf {ks:List Int} {L:List Per} {l:List Fc} (h:FA ks L l) (kinds:List Int):∃ B,xif (kinds.map encN) (l.map encF) (ks.map encN) (L.map encP)=some (B.map encF)/\xSL ks L l B:=by
 have hsz:=h.sz;have V:=h.len;let S:Int->List Row:=fun t=>Classical.choose (h.rsnap kinds t).choose_spec
 have hS:∀ t,(∃ R k,xie (l.map encF) t=some R/\xfP (kinds.map encN) R (ks.map encN) (L.map encP)=some (k,(S t).map encR))/\(S t).Perm (xSk ks L (atL l t)):=fun t=>by
  obtain ⟨e1,e2,e3,_⟩:=Classical.choose_spec (h.rsnap kinds t).choose_spec;exact ⟨⟨_,_,e1,e2⟩,e3⟩
 have J:∀ t,(S t).length<=capN ks l:=fun t=>by rw [(hS t).2.length_eq];exact xRb ks L l t
 have hcap:capN ks l<=1024:=by unfold capN;split<;>omega
 have hp:=xBp l;have Q:(gF S (ptsF l)).length<=1024:=by
  have:=xHP S (capN ks l) (ptsF l) fun x _=>J x
  have:=Nat.mul_le_mul_left (capN ks l) hp;omega
 have q:=fun r t=>xMy l S (xSk ks L) (fun t=>(hS t).2) r t
 have U:∀ f,f∈gF S (ptsF l)->(∀ v,v∈f.r->TVal v)/\f.r.length<=40:=fun f hf=>by
  obtain ⟨x,_,hx⟩:=xHQ _ _ f hf;have:=xKp (xO1 h (fun f hf=>hf) x) f.r (((hS x).2).mem_iff.1 hx)
  have k1:=h.kl;have k2:=h.ll;exact ⟨this.1,by omega⟩
 have el:=xIr (kinds.map encN) (l.map encF) (ks.map encN) (L.map encP) (ptsF l) (by omega) S (fun x _=>⟨(hS x).1,by have:=J x;omega⟩) (ptsF l).length 0 [] (by omega) (by rw [zr,List.length_nil];omega)
 rw [zr,zU] at el;have ep:=xLj l (by omega)
 generalize gF S (ptsF l)=O at *;obtain ⟨B,eb,hB⟩:=xKa O ⟨by omega,fun f hf=>by have:=(U f hf).2;omega⟩ Q
 refine ⟨B,?_,O,hB,q,Q,U⟩;have el:Iter (xfA (kinds.map encN) (l.map encF) (ks.map encN) (L.map encP) ((pcL (ptsF l)).map encP)) ((0:Nat),(0:Int),[])=_:=el;have tt:List.take O.length (O.map encF)=O.map encF:=zi (by simp)
 unfold xif xAC;simp only [xtO,xtP,xtQ,xtR,xtS,sBU,ep,el,tt,eb,zr,zd]
theorem xSL.unique {ks:List Int} {L:List Per} {l l' B B':List Fc} (h:xSL ks L l B) (h':xSL ks L l' B') (hp:∀ t,0<=t->t<1099511627776->(atL l t).Perm (atL l' t)) (hL:∀ p,p∈L->1<=p.1/\p.1<=4):B=B':=by
 obtain ⟨O,h1,h2,_⟩:=h;obtain ⟨O',q,J,_⟩:=h';refine h1.unique q fun r t=>?_
 rw [h2,J];by_cases c:0<=t/\t<1099511627776
 . rw [if_pos c,if_pos c];exact (xwn (hp t c.1 c.2) hL).count_eq r
 . rw [if_neg c,if_neg c]
theorem xEU {ks:List Int} {L:List Per} {l:List Fc} (h:FA ks L l) (kinds:List Int):∃ B,xfR (kinds.map encN) (l.map encF) (ks.map encN) (L.map encP)=some ((xUc kinds ks L).1.map encN,B.map encF) /\
  xDQ (kinds.map encN) (l.map encF) (ks.map encN) (L.map encP)=some ((xUc kinds ks L).1.map encN,B.map encF)/\xif (kinds.map encN) (l.map encF) (ks.map encN) (L.map encP)=some (B.map encF)/\xSL ks L l B:=by
 obtain ⟨B,e1,h1⟩:=xL5 h kinds;obtain ⟨B',e2,h2⟩:=xJf h kinds;obtain rfl:B=B':=h1.unique h2 (fun _ _ _=>List.Perm.refl _) h.ops
 have ek:=xwx kinds ks L (by have:=h.kl;omega) (by have:=h.ll;omega)
 refine ⟨B,e1,?_,e2,h1⟩;unfold xDQ xCh;simp only [sBU,ek,e2]
end Go.Sim.M
end
