/- Part 18 of the proof of the law. -/
import Derived.Test.YtcekkkdjdfiipaaGreatDoorUP17
import Derived.Lib.ItoaLen
set_option linter.unusedVariables false
set_option linter.unusedSimpArgs false
set_option linter.unusedSectionVars false
noncomputable section
set_option maxRecDepth 100000
namespace Go.Sim.M
open Go.RowKit Go.Sim.Srt
def rdD (l:List UInt8):Nat:=l.foldl (fun a c=>a*10+(c.toNat - 48)) 0
theorem xzR (u:Nat):∀ c,c∈Lib.decDigits u->48<=c.toNat/\c.toNat<=57:=by
 induction u using Nat.strongRecOn with
 | _ u ih =>
  intro c hc;rw [Lib.decDigits] at hc;split at hc
  . rw [zu] at hc;subst hc;rw [UInt8.toNat_ofNat'];omega
  . rw [zF,zu] at hc;rcases hc with hc|rfl
    . exact ih (u / 10) (by omega) c hc
    . rw [UInt8.toNat_ofNat'];omega
theorem xCA (u:Nat):rdD (Lib.decDigits u)=u:=by
 induction u using Nat.strongRecOn with
 | _ u ih =>
  rw [Lib.decDigits];split
  . simp only [rdD,List.foldl_cons,List.foldl_nil,UInt8.toNat_ofNat'];omega
  . have:=ih (u / 10) (by omega)
    unfold rdD at this |-;rw [List.foldl_append,this];simp only [List.foldl_cons,List.foldl_nil,UInt8.toNat_ofNat'];omega
theorem xzS {u v:Nat} (h:Lib.decDigits u=Lib.decDigits v):u=v:=by rw [<-xCA u,h,xCA]
theorem xs0 {a b:Int} (h:Lib.itoa a=Lib.itoa b):a=b:=by
 unfold Lib.itoa at h;have k:∀ u v:Nat,45::Lib.decDigits u≠Lib.decDigits v:=fun u v e=>by
  have:=xzR v 45 (by rw [<-e];simp)
  have t:(45:UInt8).toNat=45:=rfl;omega
 split at h<;>split at h
 . have:=xzS (List.cons.inj h).2;omega
 . exact absurd h (k _ _)
 . exact absurd h.symm (k _ _)
 . have:=xzS h;omega
theorem xnT (a:Int):(32:UInt8)∉Lib.itoa a:=by
 have k:∀ v:Nat,(32:UInt8)∉Lib.decDigits v:=fun v e=>by
  have:=xzR v 32 e;have t:(32:UInt8).toNat=32:=rfl;omega
 unfold Lib.itoa;split
 . rw [zB];rintro (h|h)
   . simp at h
   . exact k _ h
 . exact k _
theorem xtz:∀ {a b x y:List UInt8},(32:UInt8)∉a->(32:UInt8)∉b->a++32::x=b++32::y->a=b/\x=y
 | [],[],x,y,_,_,h=>⟨rfl,(List.cons.inj h).2⟩
 | [],c::b,x,y,_,hb,h=>absurd (List.cons.inj h).1 fun e=>hb (by rw [e];simp)
 | c::a,[],x,y,ha,_,h=>absurd (List.cons.inj h).1 fun e=>ha (by rw [<-e];simp)
 | c::a,d::b,x,y,ha,hb,h=>by
  obtain ⟨e1,h⟩:=List.cons.inj h;obtain ⟨e2,e3⟩:=xtz (a:=a) (b:=b) (fun e=>ha (by simp [e])) (fun e=>hb (by simp [e])) h
  exact ⟨by rw [e1,e2],e3⟩
def keyV (v:Val):List UInt8:=Lib.itoa v.k++32::(Lib.itoa v.i++32::(Lib.itoa (v.t.length:Int)++32::v.t))
def keyOf (r:Row):List UInt8:=r.flatMap keyV
theorem xs2 (v:Val) (s:List UInt8):keyV v++s=Lib.itoa v.k++32::(Lib.itoa v.i++32::(Lib.itoa (v.t.length:Int)++32::(v.t++s))):=by simp [keyV]
theorem xiO (v:Val) (r:Row):keyOf (v::r)=keyV v++keyOf r:=by simp [keyOf]
theorem xuA (v:Val) (s:List UInt8):keyV v++s≠[]:=by rw [xs2];simp
theorem xuB:∀ {r r':Row},keyOf r=keyOf r'->r=r'
 | [],[],_=>rfl
 | [],v::r',h=>by rw [xiO] at h;exact absurd h.symm (xuA _ _)
 | v::r,[],h=>by rw [xiO] at h;exact absurd h (xuA _ _)
 | v::r,v'::r',h=>by
  rw [xiO,xiO,xs2,xs2] at h;obtain ⟨h1,h⟩:=xtz (xnT _) (xnT _) h;obtain ⟨h2,h⟩:=xtz (xnT _) (xnT _) h;obtain ⟨h3,h⟩:=xtz (xnT _) (xnT _) h;have h3:=xs0 h3;obtain ⟨h4,h⟩:=List.append_inj h (by omega)
  obtain rfl:=xuB h;have:v=v':=by
   obtain ⟨k,i,t⟩:=v;obtain ⟨k',i',t'⟩:=v';obtain rfl:=xs0 h1;obtain rfl:=xs0 h2;subst h4;rfl
  rw [this]
theorem xH8 {n:Int} (h:(Lit.int .i64 n).wf=true):-9223372036854775808<=n/\n<=9223372036854775807:=by
 have h:(decide ((IntKind.i64).min<=n)&&decide (n<=(IntKind.i64).max))=true:=h;rw [ze,zk,zk] at h;exact h
theorem xs3 {v:Val} (hw:v.wf) (ht:v.t.length<=1099511627776):(keyV v).length<=66+v.t.length:=by
 obtain ⟨w1,w2,_⟩:=hw;have a1:=Lib.itoa_length_le v.k (xH8 w1).1 (xH8 w1).2;have a2:=Lib.itoa_length_le v.i (xH8 w2).1 (xH8 w2).2;have a3:=Lib.itoa_length_le (v.t.length:Int) (by omega) (by omega)
 simp only [keyV,z7,zD];omega
theorem xuV (s B:List UInt8) (h:(B++s).length<=140737488355328):xai s B.length (byteAVs B)=some ((s.length:Int),(B++s).length,byteAVs (B++s)):=by
 rw [z7] at h;have h2:B.length+s.length<=4611686018427387904:=by omega
 unfold xai xcH;simp only [xiM,beq_self_eq_true,Nat.mul_one,h,h2,zm,Bool.and_self,xae,xp0,z7,sUF]
theorem xyV (B:List UInt8) (h:(B++[32]).length<=140737488355328):xce 32 B.length (byteAVs B)=some ((B++[32]).length,byteAVs (B++[32])):=by
 rw [z7,zi] at h;have h2:B.length+1<=4611686018427387904:=by omega
 unfold xce xc9;simp only [xiM,beq_self_eq_true,Nat.mul_one,h,h2,zm,Bool.and_self,xae,xp0,z7,zi,sUF];rfl
def numI (n:Int):List UInt8:=Lib.itoa n++[32]
theorem xAN (t8:List AV) (t9 q:Int) (xs:List AV) (hx:xs.length=3) (j:Nat) (hj:j<3) (n:Int) (hn:xs.getD j .top=.int .i64 n) (h1:-9223372036854775808<=n) (h2:n<=9223372036854775807) (v0 v1:Int) (v2 B:List UInt8) (hB:B.length<=70368744177664) :
  xaP t8 t9 q 3 3 ((j:Int),B.length,v0,v1,v2,xs,byteAVs B)=some (.inl (((j+1:Nat):Int),(B++numI n).length,v0,v1,v2,xs,byteAVs (B++numI n))):=by
 have hl:=Lib.itoa_length_le n h1 h2;have i1:(j:Int)<3:=by omega
 have i2:(j:Int)<((3:Nat):Int):=by omega
 have i3:j<xs.length:=by omega
 have e1:=xuV (Lib.itoa n) B (by rw [z7];omega)
 have e2:=xyV (B++Lib.itoa n) (by rw [z7,z7,zi];omega)
 have hc:((AV.int IntKind.i64 n).cells.getD 0 .top).toInt=n:=rfl;have hs:xIL (Sh.int IntKind.i64) ((AV.int IntKind.i64 n).cells.getD 0 .top)=true:=rfl;simp only [xaP,xgf,xil,xim,xin,xdN,sBU,i1,i2,i3,hn,hc,hs,h1,h2,e1,e2,xHP (n:=j) (by omega),numI,zv]
theorem xEV (t8:List AV) (t9 q:Int) (xs:List AV) (v0 v1:Int) (v2 B:List UInt8):xaP t8 t9 q 3 3 (((3:Nat):Int),B.length,v0,v1,v2,xs,byteAVs B)=some (.inr (B.length,v0,v1,v2,byteAVs B)):=by
 have i1:¬ ((3:Nat):Int)<3:=by omega
 simp only [xaP,xgf,i1,zl,xah,sUF]
theorem xs4 (v:Val):keyV v=numI v.k++(numI v.i++(numI (v.t.length:Int)++v.t)):=by simp [keyV,numI]
def KOk (v:Val):Prop:=v.wf/\v.t.length<=1099511627776
theorem KOk.len {v:Val} (h:KOk v):(keyV v).length<=1099511627842:=by have:=xs3 h.1 h.2;have:=h.2;omega
theorem xzZ (t8:List AV) (t9 q:Int) (v:Val) (h:KOk v) (B:List UInt8) (hB:B.length<=35184372088832) :
  Iter (xaP t8 t9 q 3 3) ((1:Int),(B++numI v.k).length,v.k,v.i,v.t,[AV.int .i64 v.k,AV.int .i64 v.i,AV.int .i64 (v.t.length:Int)],byteAVs (B++numI v.k))=some ((B++numI v.k++numI v.i++numI (v.t.length:Int)).length,v.k,v.i,v.t,byteAVs (B++numI v.k++numI v.i++numI (v.t.length:Int))):=by
 have hl:=h.len;have ht:=h.2;rw [xs4,z7,z7,z7] at hl;have e1:=xAN t8 t9 q [AV.int .i64 v.k,AV.int .i64 v.i,AV.int .i64 (v.t.length:Int)] rfl 1 (by omega) v.i rfl (xH8 h.1.2.1).1 (xH8 h.1.2.1).2 v.k v.i v.t (B++numI v.k) (by rw [z7];omega)
 have e2:=xAN t8 t9 q [AV.int .i64 v.k,AV.int .i64 v.i,AV.int .i64 (v.t.length:Int)] rfl 2 (by omega) (v.t.length:Int) rfl (by omega) (by omega) v.k v.i v.t (B++numI v.k++numI v.i) (by rw [z7,z7];omega)
 exact (xaF e1).trans ((xaF e2).trans (xam (xEV ..)))
theorem xGD (t8:List AV) (t9 q:Int) (v:Val) (h:KOk v) (B:List UInt8) (hB:B.length<=35184372088832) :
  Iter (xaP t8 t9 q 3 3) ((0:Int),B.length,v.k,v.i,v.t,[AV.int .i64 v.k,AV.int .i64 v.i,AV.int .i64 (v.t.length:Int)],byteAVs B)=some ((B++numI v.k++numI v.i++numI (v.t.length:Int)).length,v.k,v.i,v.t,byteAVs (B++numI v.k++numI v.i++numI (v.t.length:Int))):=by
 have e0:=xAN t8 t9 q [AV.int .i64 v.k,AV.int .i64 v.i,AV.int .i64 (v.t.length:Int)] rfl 0 (by omega) v.k rfl (xH8 h.1.1).1 (xH8 h.1.1).2 v.k v.i v.t B (by omega)
 exact (xaF e0).trans (xzZ t8 t9 q v h B hB)
theorem xCd (r:Row) (hr:r.length<=1048576) (h:∀ v,v∈r->KOk v) (hk:(keyOf r).length<=17592186044416):∀ d k:Nat,k+d=r.length->Iter (xb2 (r.map encV) ((r.length:Nat):Int)) ((k:Int),(keyOf (r.take k)).length,byteAVs (keyOf (r.take k)))=some ((keyOf r).length,byteAVs (keyOf r))
 | 0,k,hkk=>by
  obtain rfl:k=r.length:=by omega
  rw [y3];refine xam ?_;simp only [xb2,xge,zx,zl,xah,sUF]
 | d+1,k,hkk=>by
  have q:k<r.length:=by omega
  have hv:=h r[k] (zn q);have i1:(k:Int)<(r.length:Int):=by omega
  have gf:(r.map encV).getD k .top=encV r[k]:=xaa _ _ _ q;have tk:keyOf (r.take (k+1))=keyOf (r.take k)++keyV r[k]:=by
   unfold keyOf;rw [List.take_add_one,zd q,List.flatMap_append];simp
  have le:(keyOf (r.take (k+1))).length<=(keyOf r).length:=by
   conv=>rhs;rw [<-List.take_append_drop (k+1) r]
   unfold keyOf;rw [List.flatMap_append,z7];omega
  have hl:=hv.len;rw [tk,z7] at le;have e1:=xGD (r.map encV) (r.length:Int) (k:Int) r[k] hv (keyOf (r.take k)) (by omega)
  have kn:keyOf (r.take k)++keyV r[k]=keyOf (r.take k)++numI r[k].k++numI r[k].i++numI (r[k].t.length:Int)++r[k].t:=by rw [xs4];simp only [zv]
  have e2:=xuV r[k].t (keyOf (r.take k)++numI r[k].k++numI r[k].i++numI (r[k].t.length:Int)) (by rw [<-kn,z7];omega)
  rw [xaF (s':=(((k+1:Nat):Int),(keyOf (r.take (k+1))).length,byteAVs (keyOf (r.take (k+1))))) ?_]
  . exact xCd r hr h hk d (k+1) (by omega)
  . rw [tk,kn];simp only [xb2,xge,xig,xih,xii,xij,xik,sBU,q,i1,gf,cV0,cV1,cV2,lV,sV,e1,e2,xHP (n:=k) (by omega)]
theorem xCe (r:Row) (hr:r.length<=1048576) (h:∀ v,v∈r->KOk v) (hk:(keyOf r).length<=17592186044416):xgn (r.map encV)=some (keyOf r):=by
 match r with
 | []=>rfl
 | v::t =>
  have hv:=h v (by simp)
  have hl:=hv.len;have i1:(0:Int)<((t.length+1:Nat):Int):=by omega
  have i2:0<t.length+1:=by omega
  obtain ⟨r1,r2⟩:=xH8 hv.1.1;have q:=Lib.itoa_length_le v.k r1 r2;have gf:((v::t).map encV).getD 0 .top=encV v:=rfl;have e0:xar (Lib.itoa v.k)=some (((Lib.itoa v.k).length:Int),(Lib.itoa v.k).length,byteAVs (Lib.itoa v.k)):=by
   have m1:(Lib.itoa v.k).length<=140737488355328:=by omega
   have m2:(Lib.itoa v.k).length<=4611686018427387904:=by omega
   unfold xar xcT;simp only [xiM,Nat.mul_one,m1,m2,zm,Bool.and_self,xae,sUF]
  have e1:xdB 32 (Lib.itoa v.k).length (byteAVs (Lib.itoa v.k))=some (([]++numI v.k).length,byteAVs ([]++numI v.k)):=xyV (Lib.itoa v.k) (by rw [z7,zi];omega)
  have e2:=xzZ ((v::t).map encV) ((t.length+1:Nat):Int) 0 v hv [] (by simp)
  have kn:keyV v=[]++numI v.k++numI v.i++numI (v.t.length:Int)++v.t:=by rw [xs4];simp
  have e3:=xuV v.t ([]++numI v.k++numI v.i++numI (v.t.length:Int)) (by rw [<-kn];omega)
  rw [<-kn] at e3;have e4:=xCd (v::t) hr h hk t.length 1 (by rw [zD];omega)
  have tk:keyOf ((v::t).take 1)=keyV v:=by simp [keyOf]
  rw [tk,zD] at e4;have e4:Iter (xb2 ((v::t).map encV) ((t.length+1:Nat):Int)) ((1:Int),(keyV v).length,byteAVs (keyV v))=_:=e4;have hne:(keyOf (v::t)).length≠0:=fun e=>xuA v (keyOf t) (by rw [<-xiO];exact List.length_eq_zero_iff.1 e)
  unfold xgn xlS xfC xkE xkF xkG xkH xkI xkJ xkK xkL xkM xbU;simp only [z8,zD,i1,i2,gf,cV0,cV1,cV2,lV,sV,r1,r2,e0,e1,e2,e3,e4,zm,xae,Bool.and_self,beq_self_eq_true,zj,zg,xiM,xtJ,xwp,ne_eq,hne,not_false_eq_true,sUF]
end Go.Sim.M
end
noncomputable section
set_option maxRecDepth 100000
namespace Go.Sim.M
open Go.RowKit
theorem xo9 {σ ρ α β:Type} {step:σ->Option (σ⊕ρ)} (l:List α) (g:α->List β) (st:Nat->List β->σ) (rr:List β->ρ) (D0:List β) (c:Nat) (hc:∀ a,a∈l->(g a).length<=c)
  (hs:∀ (n:Nat) (h:n<l.length) (D:List β),D.length<=D0.length+c*n->step (st n D)=some (.inl (st (n+1) (D++g l[n]))))
  (he:∀ D:List β,step (st l.length D)=some (.inr (rr D))):Iter step (st 0 D0)=some (rr (D0++l.flatMap g)):=by
 have key:∀ (d n:Nat) (D:List β),n+d=l.length->D.length<=D0.length+c*n->Iter step (st n D)=some (rr (D++(l.drop n).flatMap g)):=by
  intro d;induction d with
  | zero =>
   intro n D h hD;have:n=l.length:=by omega
   subst this;rw [zp (zb _),List.flatMap_nil,zC];exact xam (he D)
  | succ d ih =>
   intro n D h hD;have hn:n<l.length:=by omega
   have h2:(D++g l[n]).length<=D0.length+c*(n+1):=by
    rw [z7,Nat.mul_add,Nat.mul_one];have:=hc l[n] (zn hn);omega
   rw [xaF (hs n hn D hD),ih (n+1) (D++g l[n]) (by omega) h2,xfD hn,zQ,zv]
 have:=key l.length 0 D0 (by omega) (by simp)
 simpa using this
theorem xy7 {α β:Type} [Nonempty β] {l:List α} {Q:α->β->Prop} (h:∀ a,a∈l->∃ b,Q a b):∃ L:α->β,∀ a,a∈l->Q a (L a):=by
 classical
 refine ⟨fun a=>if ha:a∈l then (h a ha).choose else Classical.choice inferInstance,fun a ha=>?_⟩
 simp only [dif_pos ha];exact (h a ha).choose_spec
theorem xw3 {α β:Type} (g:α->List β) (f:α->β) (p:α->Bool) (h:∀ a,g a=if p a=true then [f a] else []):∀ l:List α,l.flatMap g=(l.filter p).map f
 | []=>rfl
 | a::l=>by
  rw [zQ,xw3 g f p h l,h a,List.filter_cons];cases p a<;>simp
def Txt (r:Row):Prop:=∀ v,v∈r->v.wf/\v.t.length<=8388608
theorem Txt.at {r:Row} (h:Txt r) (i:Int):(atV r i).wf/\(atV r i).t.length<=8388608:=by
 unfold atV;split
 . exact ⟨⟨by decide,by decide,by simp [maxLen]⟩,by simp⟩
 . rw [z6];cases hg:r[i.toNat]? with
   | none=>exact ⟨⟨by decide,by decide,by simp [maxLen]⟩,by simp⟩
   | some v=>exact h v (List.mem_of_getElem? hg)
theorem xyy {r:Row} {ks:List Int} {v:Val} (h:v∈pick r ks):∃ i,i∈ks/\v=atV r i:=by
 obtain ⟨i,hi,e⟩:=zJ.1 h;exact ⟨i,hi,e.symm⟩
theorem Txt.kok {r:Row} (h:Txt r) (ks:List Int):∀ v,v∈pick r ks->KOk v:=fun v hv=>by
 obtain ⟨i,_,rfl⟩:=xyy hv;have:=h.at i;exact ⟨this.1,by omega⟩
theorem xIv {c:Nat}:∀ {r:Row},(∀ v,v∈r->(keyV v).length<=c)->(keyOf r).length<=c*r.length
 | [],_=>by simp [keyOf]
 | v::r,h=>by
  have h1:=h v (by simp)
  have h2:=xIv (r:=r) fun x hx=>h x (by simp [hx])
  rw [xiO,z7,zD,Nat.mul_add,Nat.mul_one];omega
theorem Txt.len {r:Row} (h:Txt r) {ks:List Int} (hk:ks.length<=1048576):(keyOf (pick r ks)).length<=17592186044416:=by
 have h1:(keyOf (pick r ks)).length<=8388674*(pick r ks).length:=xIv fun v hv=>by
  obtain ⟨i,_,rfl⟩:=xyy hv;have:=h.at i;have:=xs3 this.1 (by omega)
  omega
 rw [xs9] at h1;omega
theorem xGy (l:List AV):xfA l=xgn l:=rfl
theorem xB2 {r:Row} (h:Txt r) {ks:List Int} (hk:ks.length<=1048576):xfA ((pick r ks).map encV)=some (keyOf (pick r ks)):=by
 rw [xGy];exact xCe _ (by rw [xs9];exact hk) (h.kok ks) (h.len hk)
abbrev En:=List UInt8×List Per
def xHV (e:En):AV:=.agg [.str e.1,.list 2 (e.2.map encP)]
def xIb (s:List UInt8) (n:Int):AV:=.agg [.str s,.int .i64 n]
def ixE:List En->List UInt8->Option Nat
 | [],_=>none
 | e::es,s=>match e.1==s with
  | true=>some 0
  | false=>(ixE es s).map (·+1)
theorem xrC (s:List UInt8):∀ es:List En,mapIx (es.map xHV) s=ixE es s
 | []=>rfl
 | e::es=>by
  rw [zU,mapIx,ixE,xrC s es];rfl
theorem xrt {s:List UInt8}:∀ {es:List En} {i:Nat},ixE es s=some i->i<es.length
 | [],i,h=>by simp [ixE] at h
 | e::es,i,h=>by
  rw [ixE] at h;split at h
  . cases h;simp
  . cases hm:ixE es s with
    | none=>rw [hm] at h;simp at h
    | some j =>
     rw [hm] at h;simp only [Option.map_some,z1] at h;have:=xrt hm;subst h;simp;omega
theorem xzY {s:List UInt8}:∀ {es:List En} {i:Nat},ixE es s=some i->(es.getD i default).1=s
 | [],i,h=>by simp [ixE] at h
 | e::es,i,h=>by
  rw [ixE] at h;split at h
  . rename_i he;cases h;simpa using he
  . cases hm:ixE es s with
    | none=>rw [hm] at h;simp at h
    | some j =>
     rw [hm] at h;simp only [Option.map_some,z1] at h;subst h;simpa using xzY hm
def addE:List En->List UInt8->Per->List En
 | [],s,p=>[(s,[p])]
 | e::es,s,p=>match e.1==s with
  | true=>(e.1,e.2++[p])::es
  | false=>e::addE es s p
theorem xuY {s:List UInt8} {p:Per}:∀ {es:List En},ixE es s=none->addE es s p=es++[(s,[p])]
 | [],_=>rfl
 | e::es,h=>by
  rw [ixE] at h;split at h
  . simp at h
  . rename_i he;cases hm:ixE es s with
    | some j=>rw [hm] at h;simp at h
    | none=>rw [addE,he,xuY hm];rfl
theorem xuZ {s:List UInt8} {p:Per}:∀ {es:List En} {i:Nat},ixE es s=some i->addE es s p=es.set i (s,(es.getD i default).2++[p])
 | [],i,h=>by simp [ixE] at h
 | e::es,i,h=>by
  rw [ixE] at h;split at h
  . rename_i he;cases h;have e1:e.1=s:=by simpa using he
    rw [addE,he];simp [e1]
  . rename_i he;cases hm:ixE es s with
    | none=>rw [hm] at h;simp at h
    | some j =>
     rw [hm] at h;simp only [Option.map_some,z1] at h;subst h;rw [addE,he,xuZ hm];simp
def xHS:List En->List UInt8->List Per
 | [],_=>[]
 | e::es,s=>match e.1==s with
  | true=>e.2
  | false=>xHS es s
theorem xtO {s:List UInt8}:∀ {es:List En},ixE es s=none->xHS es s=[]
 | [],_=>rfl
 | e::es,h=>by
  rw [ixE] at h;split at h
  . simp at h
  . rename_i he;cases hm:ixE es s with
    | some j=>rw [hm] at h;simp at h
    | none=>rw [xHS,he];exact xtO hm
theorem xtP {s:List UInt8}:∀ {es:List En} {i:Nat},ixE es s=some i->xHS es s=(es.getD i default).2
 | [],i,h=>by simp [ixE] at h
 | e::es,i,h=>by
  rw [ixE] at h;split at h
  . rename_i he;cases h;rw [xHS,he];rfl
  . rename_i he;cases hm:ixE es s with
    | none=>rw [hm] at h;simp at h
    | some j =>
     rw [hm] at h;simp only [Option.map_some,z1] at h;subst h;rw [xHS,he];simpa using xtP hm
theorem xyk (s s':List UInt8) (p:Per):∀ es:List En,xHS (addE es s p) s'=xHS es s'++if s==s' then [p] else []
 | []=>by simp only [addE,xHS];cases s==s'<;>simp
 | e::es=>by
  have ih:=xyk s s' p es;rw [addE];cases he:e.1==s with
  | true =>
   have e1:e.1=s:=by simpa using he
   dsimp only;rw [xHS,xHS,e1];cases h:s==s' with
   | true=>simp
   | false=>simp
  | false =>
   dsimp only;rw [xHS,xHS,ih];cases h:e.1==s' with
   | false=>rfl
   | true =>
    have e1:e.1=s':=by simpa using h
    have:(s==s')=false:=by
     rw [<-e1,Bool.eq_false_iff];intro hh;rw [show s=e.1 by simpa using hh] at he
     simp at he
    simp [this]
theorem xsU (s:List UInt8) (p:Per):∀ es:List En,(addE es s p).length<=es.length+1
 | []=>by simp [addE]
 | e::es=>by
  have:=xsU s p es;rw [addE];cases e.1==s<;>simp<;>omega
theorem xvr {α:Type} (k:α->List UInt8) (f:α->Per) (s:List UInt8):∀ (l:List α) (es:List En),xHS (l.foldl (fun es x=>addE es (k x) (f x)) es) s=xHS es s++(l.filter fun x=>k x==s).map f
 | [],es=>by simp
 | x::l,es=>by
  rw [List.foldl_cons,xvr k f s l,xyk,List.filter_cons];cases k x==s<;>simp
end Go.Sim.M
end
noncomputable section
set_option maxRecDepth 100000
namespace Go.Sim.M
open Go.RowKit Go.Sim.Srt
abbrev Grp:=Row×List Per
def encG (g:Grp):AV:=.agg [.list 3 (g.1.map encV),.list 2 (g.2.map encP)]
def okEG (x:AV):Bool:=x.cells.length==(2:Nat)&&xIS [Sh.list (3:Nat),Sh.list (2:Nat)] x.cells (0:Nat)
def ldEG (x:AV):AV:=AV.agg [AV.list (3:Nat) (x.cells.getD (0:Nat) AV.top).toList,AV.list (2:Nat) (x.cells.getD (1:Nat) AV.top).toList]
def xIi (x y:AV):Bool:=(xe0 (x.cells.getD 0 AV.top).toList (x.cells.getD 1 AV.top).toList (y.cells.getD 0 AV.top).toList (y.cells.getD 1 AV.top).toList).isSome
def xIk (x y:AV):Int:=(xe0 (x.cells.getD 0 AV.top).toList (x.cells.getD 1 AV.top).toList (y.cells.getD 0 AV.top).toList (y.cells.getD 1 AV.top).toList).getD 0
theorem heG (a:Grp):okEG (encG a)=true:=rfl
theorem hdG (a:Grp):ldEG (encG a)=encG a:=rfl
section
variable {N : Nat} (hN : N <= 2 ^ 60) {ok : Grp -> Prop} {c : Grp -> Grp -> Int} (hc : ∀ x y, ok x -> ok y -> xIi (encG x) (encG y) = true /\ xIk (encG x) (encG y) = c x y)
include hN
include hc
theorem xHq (a b:Nat) (ha:a<=N) (hb:b<=N) {l r:List Grp} (hl:LOk N ok l) (hr:xH3 c a b l=some r):xaO N a b (List.map encG l)=some (List.map encG r)/\LOk N ok r:=by
 obtain ⟨e1,e2⟩:=xyN (enc:=encG) hN (c:=c) (ok:=ok) a b hb (gi:=fun i=>xaZ N a b i) (fun i l r hl hr=>xAa (okE:=okEG) (ldE:=ldEG) heG hdG hN (P:=xIi) (V:=xIk) hc a (fun j xs=>rfl) hl hr) (g:=xaY N a b) (fun i xs=>rfl) hl hr
 refine ⟨?_,e2⟩;unfold xaO xcS;rw [w64 (x:=(a:Int)+1) (n:=a+1) (by omega) (by omega),e1];rfl
theorem xD7 (q:N<20) {l r:List Grp} (hl:LOk N ok l) (hr:xH3 c 0 N l=some r):xdK N N (List.map encG l)=some (List.map encG r)/\LOk N ok r:=by
 obtain ⟨e1,e2⟩:=xHq hN hc 0 N (by omega) (zb _) hl hr
 have e1:xaO N 0 N (List.map encG l)=_:=e1;have q0:Iter (xa8 N N 20) ((0:Int),(20:Int),List.map encG l)=some ((0:Int),List.map encG l):=by
  refine xam ?_;have h1:¬ (20:Int)<=(N:Int):=by omega
  simp only [xa8,xdV,h1,zl,xah,sUF]
 have q1:Iter (xbP N N) ((20:Int),List.map encG r)=some (List.map encG r):=by
  refine xam ?_;have h1:¬ (20:Int)<(N:Int):=by omega
  simp only [xbP,xdW,h1,zl,xah,sUF]
 refine ⟨?_,e2⟩;simp only [xdK,xfc,xeR,xeS,xeT,q0,e1,q1,zj,zg,xae,sUF]
end
theorem xHr {N:Nat} (hN:N*48<=140737488355328) {ok:Grp->Prop} {c:Grp->Grp->Int} (hc:∀ x y:Grp,ok x->ok y->xIi (encG x) (encG y)=true/\xIk (encG x) (encG y)=c x y) (q:N<20) (l r:List Grp) (hl:l.length=N) (ho:∀ x,x∈l->ok x) (hr:xH3 c 0 N l=some r) :
  xft N (List.map encG l)=some (List.map encG r):=by
 obtain ⟨e1,e2⟩:=xD7 (N:=N) (by omega) (ok:=ok) hc q ⟨hl,ho⟩ hr
 simp only [xft,xeN,e1,zj,zg,xae,sUF]
end Go.Sim.M
end
noncomputable section
set_option maxRecDepth 100000
namespace Go.Sim.M
open Go.RowKit Go.Sim.Srt
def ents:Nat->List Row->List AV
 | _,[]=>[]
 | k,r::R=>.agg [.str (keyOf r),.int .i64 (k:Int)]::ents (k+1) R
theorem xzV:∀ (R:List Row) (k:Nat) (r:Row),mapIx (ents k R) (keyOf r)=R.findIdx? fun x=>decide (x=r)
 | [],_,_=>rfl
 | x::R,k,r=>by
  have hk:isKey (keyOf r) (((AV.agg [.str (keyOf x),.int .i64 (k:Int)]).cells).getD 0 .top)=decide (x=r):=by
   show (keyOf x==keyOf r)=_;by_cases h:x=r
   . subst h;simp
   . have:¬ keyOf x=keyOf r:=fun e=>h (xuB e)
     simp [h,this]
  show (match isKey (keyOf r) (((AV.agg [.str (keyOf x),.int .i64 (k:Int)]).cells).getD 0 .top) with|true=>some 0|false=>(mapIx (ents (k+1) R) (keyOf r)).map (·+1))=_
  rw [hk,List.findIdx?_cons,xzV R (k+1) r];by_cases h:x=r<;>simp [h]
theorem xwY:∀ (R:List Row) (k:Nat),(ents k R).length=R.length
 | [],_=>rfl
 | _::R,k=>by show (ents (k+1) R).length+1=_;rw [xwY R];rfl
theorem xva:∀ (R:List Row) (k:Nat) (r:Row),ents k (R++[r])=ents k R++[.agg [.str (keyOf r),.int .i64 ((k+R.length:Nat):Int)]]
 | [],_,_=>rfl
 | x::R,k,r=>by
  show _::ents (k+1) (R++[r])=_;rw [xva R (k+1) r,zD,show k+1+R.length=k+(R.length+1) by omega];rfl
theorem xwX:∀ (R:List Row) (k j:Nat) (h:j<R.length),(ents k R).getD j .top=.agg [.str (keyOf R[j]),.int .i64 ((k+j:Nat):Int)]
 | x::R,k,0,h=>rfl
 | x::R,k,j+1,h=>by
  show (ents (k+1) R).getD j .top=_;rw [xwX R (k+1) j (by simpa using h),show k+1+j=k+(j+1) by omega];rfl
def upd (G:List Grp) (f:Fc):List Grp:=match (G.map (·.1)).findIdx? fun x=>decide (x=f.r) with
 | some j=>G.set j (f.r,(G.getD j ([],[])).2++[f.p])
 | none=>G++[(f.r,[f.p])]
structure GI (l:List Fc) (G:List Grp):Prop where
 nd:(G.map (·.1)).Nodup
 mem:∀ r,r∈G.map (·.1)↔∃ f,f∈l/\f.r=r/\pv f.p=true
 ps:∀ g,g∈G->g.2=psOf l g.1
 len:G.length<=l.length
theorem GI.nil:GI [] []:=⟨List.nodup_nil,fun r=>by simp,fun g hg=>by simp at hg,zb _⟩
theorem xp3 (l:List Fc) (f:Fc) (r:Row):psOf (l++[f]) r=psOf l r++(if f.r=r/\pv f.p=true then [f.p] else []):=by
 unfold psOf;rw [List.filter_append,zw];congr 1;by_cases h1:f.r=r<;>by_cases h2:pv f.p=true<;>simp [h1,h2]
theorem GI.skip {l:List Fc} {G:List Grp} (h:GI l G) {f:Fc} (hf:pv f.p=false):GI (l++[f]) G :=
 ⟨h.nd,fun r=>by
  rw [h.mem];refine ⟨fun ⟨g,hg,e⟩=>⟨g,by simp [hg],e⟩,fun ⟨g,hg,e1,e2⟩=>⟨g,?_,e1,e2⟩⟩
  rcases zF.1 hg with hg|hg
  . exact hg
  . rw [zu] at hg;subst hg;rw [hf] at e2;simp at e2,fun g hg=>by rw [xp3,if_neg (by rw [hf];simp),zC];exact h.ps g hg,by rw [z7];have:=h.len;omega⟩
theorem xro {R:List Row} {r:Row} {j:Nat} (h:R.findIdx? (fun x=>decide (x=r))=some j):∃ hj:j<R.length,R[j]=r:=by
 obtain ⟨hj,h1,_⟩:=List.findIdx?_eq_some_iff_getElem.1 h;exact ⟨hj,by simpa using h1⟩
theorem xw0 {R:List Row} {r:Row} (h:R.findIdx? (fun x=>decide (x=r))=none):r∉R:=fun hr=>by
 have:=List.findIdx?_eq_none_iff.1 h r hr;simp at this
theorem xuN {G:List Grp} {j:Nat} (hj:j<G.length) {ps:List Per} {r:Row} (hr:G[j].1=r):(G.set j (r,ps)).map (·.1)=G.map (·.1):=by
 rw [List.map_set];show (G.map (·.1)).set j r=_;rw [<-hr];have:(G.map (·.1))[j]'(by simpa using hj)=G[j].1:=by simp
 rw [<-this];exact List.set_getElem_self _
theorem GI.upd {l:List Fc} {G:List Grp} (h:GI l G) {f:Fc} (hf:pv f.p=true):GI (l++[f]) (M.upd G f):=by
 unfold M.upd;cases hi:(G.map (·.1)).findIdx? fun x=>decide (x=f.r) with
 | some j =>
  obtain ⟨hj,hr⟩:=xro hi;rw [z8] at hj;rw [List.getElem_map] at hr;dsimp only;have gd:G.getD j ([],[])=G[j]:=by rw [z6,zd hj];rfl
  rw [gd];refine ⟨by rw [xuN hj hr];exact h.nd,fun r=>?_,fun g hg=>?_,by rw [y1,z7];have:=h.len;omega⟩
  . rw [xuN hj hr,h.mem];refine ⟨fun ⟨g,hg,e⟩=>⟨g,by simp [hg],e⟩,fun ⟨g,hg,e1,e2⟩=>?_⟩
    rcases zF.1 hg with hg|hg
    . exact ⟨g,hg,e1,e2⟩
    . rw [zu] at hg;subst hg;refine (h.mem r).1 ?_;rw [<-e1,<-hr];exact zJ.2 ⟨G[j],zn hj,rfl⟩
  . obtain ⟨i,q,rfl⟩:=zo.1 hg;rw [y1] at q;rw [List.getElem_set];by_cases J:j=i
    . subst J;rw [if_pos rfl,xp3,if_pos ⟨rfl,hf⟩,h.ps _ (zn hj),hr]
    . rw [if_neg J,xp3,if_neg ?_,zC]
      . exact h.ps _ (zn q)
      . rintro ⟨e,_⟩;have hn:=zA.1 h.nd;have ei:(G.map (·.1))[i]'(by simpa using q)=G[i].1:=by simp
        have ej:(G.map (·.1))[j]'(by simpa using hj)=G[j].1:=by simp
        rcases Nat.lt_or_gt_of_ne J with O|O
        . exact hn j i (by simpa using hj) (by simpa using q) O (by rw [ei,ej,hr,e])
        . exact hn i j (by simpa using q) (by simpa using hj) O (by rw [ei,ej,hr,e])
 | none =>
  have hr:=xw0 hi;dsimp only;have hz:psOf l f.r=[]:=by
   unfold psOf;rw [List.map_eq_nil_iff,List.filter_eq_nil_iff];intro g hg he;simp only [ze,zk] at he;exact hr ((h.mem _).2 ⟨g,hg,he⟩)
  refine ⟨?_,fun r=>?_,fun g hg=>?_,by rw [z7,z7];have:=h.len;simp;omega⟩
  . rw [zw];refine List.nodup_append.2 ⟨h.nd,by simp,fun a ha b hb e=>?_⟩
    simp at hb;exact hr (by rw [<-hb,<-e];exact ha)
  . rw [zw,zF,h.mem];simp only [zU,zV,zu,zF];constructor
    . rintro (⟨g,hg,e⟩|rfl)
      . exact ⟨g,.inl hg,e⟩
      . exact ⟨f,.inr rfl,rfl,hf⟩
    . rintro ⟨g,hg|rfl,e⟩
      . exact .inl ⟨g,hg,e⟩
      . exact .inr e.1.symm
  . rcases zF.1 hg with hg|hg
    . rw [xp3,if_neg ?_,zC]
      . exact h.ps g hg
      . rintro ⟨e,_⟩;exact hr (by rw [e];exact zJ.2 ⟨g,hg,rfl⟩)
    . rw [zu] at hg;subst hg;rw [xp3,if_pos ⟨rfl,hf⟩,hz];rfl
theorem cG0 (g:Grp):((encG g).cells.getD 0 .top).toList=g.1.map encV:=rfl
theorem xB7 {α:Type} (l:List α) (x d:α):(l++[x]).getD l.length d=x:=by simp
theorem xD4 {α:Type} (l:List α) (x y:α):(l++[x]).set l.length y=l++[y]:=by simp
theorem xIt (xs:List AV):(AV.agg xs).cells=xs:=rfl
theorem tolA (n:Nat) (xs:List AV):(AV.list n xs).toList=xs:=rfl
theorem xIw (k:IntKind) (n:Int):(AV.int k n).toInt=n:=rfl
theorem xIu (xs:List AV):xJr 2 (.list 2 xs)=true:=rfl
theorem xIA (n m:Nat):xJP (.int .i64 (n:Int)) m=decide (n<m):=rfl
theorem xIz:xJP (.int .i64 0) 1=true:=rfl
theorem g2a (a b:AV):[a,b].getD 0 .top=a:=rfl
theorem g2b (a b:AV):[a,b].getD 1 .top=b:=rfl
theorem lt2 (a b:AV):([a,b].length==2)=true:=rfl
theorem tk1 (a b:AV):List.take 1 [a,b]=[a]:=rfl
theorem dp2 (a b:AV):List.drop 2 [a,b]=[]:=rfl
theorem xzT (g:Grp):encG g=.agg [.list 3 (g.1.map encV),.list 2 (g.2.map encP)]:=rfl
theorem xzU (p:Per):encP p=.agg [.int .i64 p.1,.int .i64 p.2]:=rfl
def R20 (l:List Fc):Prop:=∃ R:List Row,R.length<20/\∀ f,f∈l->f.r∈R
theorem R20.few {l:List Fc} (h:l.length<20):R20 l:=⟨l.map (·.r),by rw [z8];exact h,fun f hf=>zJ.2 ⟨f,hf,rfl⟩⟩
theorem R20.of {l m:List Fc} (h:R20 l) (hm:∀ f,f∈m->∃ g,g∈l/\f.r=g.r):R20 m:=by
 obtain ⟨R,h1,h2⟩:=h;exact ⟨R,h1,fun f hf=>by obtain ⟨g,g1,g2⟩:=hm f hf;rw [g2];exact h2 g g1⟩
def Keyed (l:List Fc):Prop:=Few l/\(∀ f,f∈l->(∀ v,v∈f.r->KOk v)/\(keyOf f.r).length<=17592186044416)/\R20 l
theorem Keyed.key {l:List Fc} (h:Keyed l) {f:Fc} (hf:f∈l):xgn (f.r.map encV)=some (keyOf f.r):=xCe f.r (h.1.2 f hf) (h.2.1 f hf).1 (h.2.1 f hf).2
theorem xCL (l:List Fc) (h:Keyed l) (k:Nat) (hk:k<l.length) (G:List Grp) (hG:GI (l.take k) G) :
  xaU (l.map encF) ((l.length:Nat):Int) (G.length,(k:Int),ents 0 (G.map (·.1)),G.map encG) =
   some (.inl ((if pv l[k].p=true then upd G l[k] else G).length,((k+1:Nat):Int),ents 0 ((if pv l[k].p=true then upd G l[k] else G).map (·.1)),(if pv l[k].p=true then upd G l[k] else G).map encG)):=by
 have hl:=h.1.1;have i1:(k:Int)<(l.length:Int):=by omega
 have gf:(l.map encF).getD k .top=encF l[k]:=xaa _ _ _ hk;have ek:=h.key (zn hk);have kl:=(h.2.1 _ (zn hk)).2;have O:=hG.len;rw [zr] at O;cases hv:pv l[k].p with
 | false =>
  simp only [xaU,xcI,sBU,i1,hk,gf,cF0,cF1,cF2,sF0,sF1,sF2,lF,sF12,sF02,xkp,hv,xHP (n:=k) (by omega)]
  rfl
 | true =>
  have k1:(keyOf l[k].r).length<=4611686018427387904:=by omega
  have hx:=xzV (G.map (·.1)) 0 l[k].r;have n1:(ents 0 (G.map (·.1))).length<4611686018427387904:=by rw [xwY,z8];omega
  have m1:(G.length+1)*48<=140737488355328:=by omega
  have m2:G.length+1<=4611686018427387904:=by omega
  simp only [if_true];cases hi:(G.map (·.1)).findIdx? fun x=>decide (x=l[k].r) with
  | none =>
   rw [hi] at hx;have hu:upd G l[k]=G++[(l[k].r,[l[k].p])]:=by unfold upd;rw [hi]
   have hh:xJg (ents 0 (G.map (·.1))) (keyOf l[k].r)=false:=by unfold xJg;rw [hx];rfl
   have hg:xI4 (AV.int .i64 0) (ents 0 (G.map (·.1))) (keyOf l[k].r)=AV.int .i64 0:=by unfold xI4;rw [hx]
   have hp:xI2 (ents 0 (G.map (·.1))) (keyOf l[k].r) (AV.int .i64 (G.length:Int))=ents 0 ((G++[(l[k].r,[l[k].p])]).map (·.1)):=by
    unfold xI2;rw [hx,zw];show _=ents 0 (G.map (·.1)++[l[k].r]);rw [xva,z8,zG]
   have i2:(G.length:Int)<((G.length+1:Nat):Int):=by omega
   have J:xIL (Sh.int .i64) (AV.int .i64 0)=true:=rfl;have gl:∀ x:AV,(G.map encG++[x]).getD G.length .top=x:=fun x=>by have:=xB7 (G.map encG) x .top;rwa [z8] at this
   have sl:∀ x y:AV,(G.map encG++[x]).set G.length y=G.map encG++[y]:=fun x y=>by have:=xD4 (G.map encG) x y;rwa [z8] at this
   rw [hu];simp only [xaU,xcI,xfe,xff,xcq,xcr,xdm,xfg,xdn,xap,xfh,xaq,xaG,xaj,xcV,xev,xew,xa1,xey,xcW,xbG,sBU,i1,hk,gf,cF0,cF1,cF2,sF0,sF1,sF2,lF,sF12,sF02,xkp,hv,xHP (n:=k) (by omega),ek,k1,hh,hg,hp,n1,m1,m2,i2,J,gl,sl,z7,zi,zw,zU,zV,xIt,tolA,xIw,xIu,xIA,g2a,g2b,lt2,tk1,dp2,y1,Nat.lt_succ_self,Bool.and_self,List.length_nil,zG,xzT,xzU,List.singleton_append,zT,zC,Int.natCast_zero]
   try simp [xae,xIz,sUF]
  | some j =>
   obtain ⟨hj,hr⟩:=xro hi;rw [hi] at hx;have q:j<G.length:=by simpa using hj
   rw [List.getElem_map] at hr;have gd:G.getD j ([],[])=G[j]:=by rw [z6,zd q];rfl
   have hu:upd G l[k]=G.set j (l[k].r,G[j].2++[l[k].p]):=by unfold upd;rw [hi];dsimp only;rw [gd]
   have hh:xJg (ents 0 (G.map (·.1))) (keyOf l[k].r)=true:=by unfold xJg;rw [hx];rfl
   have hg:xI4 (AV.int .i64 0) (ents 0 (G.map (·.1))) (keyOf l[k].r)=AV.int .i64 (j:Int):=by
    unfold xI4;rw [hx];dsimp only;rw [xwX _ _ _ hj,zG];rfl
   have gj:(G.map encG).getD j .top=encG G[j]:=xaa _ _ _ q;have i2:(j:Int)<(G.length:Int):=by omega
   have J:xIL (Sh.int .i64) (AV.int .i64 (j:Int))=true:=rfl;have pl:G[j].2.length<=k:=by
    rw [hG.ps _ (zn q)];have:=xCy (l.take k) G[j].1;rw [zr] at this;omega
   have m3:(G[j].2.length+1)*16<=140737488355328:=by omega
   have m4:G[j].2.length+1<=4611686018427387904:=by omega
   have gs:∀ x:AV,((G.map encG).set j x).getD j .top=x:=fun x=>by
    rw [z6,zK (by simpa using q)];rfl
   have ss:∀ x y:AV,((G.map encG).set j x).set j y=(G.map encG).set j y:=fun x y=>List.set_set ..
   have tj:(AV.int IntKind.i64 (j:Int)).toInt=(j:Int):=rfl;have cj:(encG G[j]).cells=[.list 3 (l[k].r.map encV),.list 2 (G[j].2.map encP)]:=by rw [<-hr];rfl
   rw [hu,xuN q hr,y1,List.map_set];simp only [xaU,xcI,xfe,xff,xcq,xcr,xdm,xfg,xdn,xap,xfh,xaq,xaG,xaj,xcV,xev,xew,xa1,xey,xcW,xbG,sBU,i1,hk,gf,cF0,cF1,cF2,sF0,sF1,sF2,lF,sF12,sF02,xkp,hv,xHP (n:=k) (by omega),ek,k1,hh,hg,i2,J,tj,gj,cj,q,y1,gs,ss,xIt,tolA,xIw,xIu,xIA,g2a,g2b,lt2,tk1,dp2,m3,m4,Bool.and_self,z7,zi,Nat.lt_succ_self,xzT,xzU,zw,zU,zV,List.singleton_append,zC]
   try simp [xae,xIz,hr,sUF]
def grp (l:List Fc):List Grp:=l.foldl (fun G f=>if pv f.p=true then upd G f else G) []
theorem xya (l:List Fc) (f:Fc):grp (l++[f])=if pv f.p=true then upd (grp l) f else grp l:=by simp [grp]
theorem xB8:∀ l:List Fc,GI l.reverse (grp l.reverse)
 | []=>GI.nil
 | f::l=>by
  rw [List.reverse_cons,xya];have ih:=xB8 l;cases hv:pv f.p with
  | true=>rw [if_pos rfl];exact ih.upd hv
  | false=>rw [if_neg (by simp)];exact ih.skip hv
theorem xB9 (l:List Fc):GI l (grp l):=by have:=xB8 l.reverse;rwa [List.reverse_reverse] at this
theorem xCK (l:List Fc) (h:Keyed l):Iter (xaU (l.map encF) ((l.length:Nat):Int)) ((0:Nat),(0:Int),[],[])=some ((grp l).length,(grp l).map encG):=by
 refine xn5 (fun k=>(((grp (l.take k)).length,((k:Nat):Int),ents 0 ((grp (l.take k)).map (·.1)),(grp (l.take k)).map encG):Nat×Int×List AV×List AV)) l.length _ (fun k hk=>?_) ?_ l.length 0 (by omega)
 . rw [xCL l h k hk (grp (l.take k)) (xB9 _)];have tk:l.take (k+1)=l.take k++[l[k]]:=by rw [List.take_add_one,zd hk];rfl
   rw [tk,xya]
 . simp only [xaU,xcI,z8,zx,zl,xah,y3,sUF]
theorem xEN (x y:Grp) (hx:x.1.length<=4398046511104):xIi (encG x) (encG y)=true/\xIk (encG x) (encG y)=cmpR x.1 y.1:=by
 have e:xe0 (x.1.map encV) (x.2.map encP) (y.1.map encV) (y.2.map encP)=some (cmpR x.1 y.1):=by
  unfold xe0 xj0;rw [xrT x.1 y.1 (by unfold maxLen;omega)];rfl
 have e2:xe0 ((encG x).cells.getD 0 .top).toList ((encG x).cells.getD 1 .top).toList ((encG y).cells.getD 0 .top).toList ((encG y).cells.getD 1 .top).toList=some (cmpR x.1 y.1):=e;unfold xIi xIk;rw [e2];exact ⟨rfl,rfl⟩
theorem xFa (l:List Fc) (h:Keyed l):∃ S:List Grp,xht (l.map encF)=some (S.map encG)/\IsRows l (S.map (·.1))/\(∀ g,g∈S->g.2=psOf l g.1)/\S.length<=l.length:=by
 have hg:=xB9 l;have Q:=h.1.1;have O:=hg.len;have cG:Cm fun x y:Grp=>cmpR x.1 y.1:=xwN.on (e:=fun x:Grp=>x.1)
 obtain ⟨R,U,hR⟩:=h.2.2;have J:(grp l).length<20:=by
  have:=hg.nd.length_le_of_subset (l₂:=R) fun r hr=>by
   obtain ⟨f,hf,e,_⟩:=(hg.mem r).1 hr;rw [<-e];exact hR f hf
  rw [z8] at this;omega
 obtain ⟨r,e,p,s⟩:=xrr cG.ord [] (grp l) [];simp only [zT,zC,List.length_nil,zG] at e;have es:=xHr (N:=(grp l).length) (by omega) (ok:=fun g=>g.1.length<=1048576) (c:=fun x y:Grp=>cmpR x.1 y.1) (fun x y hx hy=>xEN x y (by omega)) J (grp l) r rfl (fun g q=>by
  obtain ⟨f,hf,e,_⟩:=(hg.mem g.1).1 (zJ.2 ⟨g,q,rfl⟩);rw [<-e];exact h.1.2 f hf) e
 have rl:=p.length_eq;refine ⟨r,?_,⟨?_,fun x=>?_⟩,fun g q=>hg.ps g (p.mem_iff.1 q),by rw [rl];exact O⟩
 . have el:=xCK l h;have ra:xJh 2 1 ((grp l).map encG)=true:=by
    unfold xJh;rw [zH];intro x hx;obtain ⟨g,_,rfl⟩:=zJ.1 hx;rfl
   have ll:(grp l).length<=r.length:=by omega
   have tt:List.take (grp l).length (r.map encG)=r.map encG:=zh (by rw [z8];omega)
   unfold xht xkN xj1 xj2 xgY xj3 xj4 xj5;simp only [z8,el,zj,zg,xae,ra,es,zG,ll,zm,zR,zq,tt,sUF]
 . refine xCS (fun _ _=>xmG) ?_ ?_
   . exact List.pairwise_map.2 s
   . exact ((p.map (·.1)).nodup_iff).2 hg.nd
 . rw [(p.map (·.1)).mem_iff];exact hg.mem x
end Go.Sim.M
end
noncomputable section
set_option maxRecDepth 100000
namespace Go.Sim.M
open Go.RowKit Go.Lib
def xmZ (l:List AV) (i:Int):Bool:=decide ((0:Int)<=i)&&decide (i<(↑l.length:Int))
def xqN {T:Type} (l:List AV) (out_n:Nat) (q:Int) (na:Int) (nb:Int) (i:Int) (out_xs:List AV) (δ:T) (κl:(Int×Int×Int×List AV)->T) (κr:(Int×Int×Int×List AV)->T):T:=br (decide (i<(↑l.length:Int))) (br (xmZ l i) (br (decide (i.toNat<l.length)&&xIL (Sh.int IntKind.i64) ((l.getD i.toNat AV.top).cells.getD (0:Nat) AV.top)) (br (((l.getD i.toNat AV.top).cells.getD (0:Nat) AV.top).toInt==q) (br (xmZ l i) (br (decide (i.toNat<l.length)&&xIL (Sh.int IntKind.i64) ((l.getD i.toNat AV.top).cells.getD (1:Nat) AV.top)) (br (xmZ l i) (br (decide (i.toNat<l.length)&&xIL (Sh.int IntKind.i64) ((l.getD i.toNat AV.top).cells.getD (2:Nat) AV.top)) (κl (IntKind.i64.wrap (na+((l.getD i.toNat AV.top).cells.getD (1:Nat) AV.top).toInt),IntKind.i64.wrap (nb+((l.getD i.toNat AV.top).cells.getD (2:Nat) AV.top).toInt),IntKind.i64.wrap (i+(1:Int)),out_xs)) (δ)) (δ)) (δ)) (δ)) (κr (na,nb,i,out_xs))) (δ)) (δ)) (κr (na,nb,i,out_xs))
def xgb (l:List AV) (out_n:Nat) (q:Int):(Int×Int×Int×List AV)->Option ((Int×Int×Int×List AV)⊕(Int×Int×Int×List AV)):=fun (na,nb,i,out_xs)=>xqN l out_n q na nb i out_xs none (fun s=>some (.inl s)) (fun p=>some (.inr p))
def xkw (keep:Bool->Bool->Bool) (out_n:Nat):Bool:=decide ((0:Int)<=IntKind.i64.wrap ((↑out_n:Int) - (1:Int)))&&decide (IntKind.i64.wrap ((↑out_n:Int) - (1:Int))<(↑out_n:Int))
def xnP (keep:Bool->Bool->Bool) (l:List AV) (out_n:Nat) (na:Int) (nb:Int) (i:Int) (q:Int) (out_xs:List AV):Int×Int×Int×List AV:=(Iter (xgb l out_n q) (na,nb,i,out_xs)).getD ((0:Int),(0:Int),(0:Int),[])
def xbQ (keep:Bool->Bool->Bool) (out_n:Nat):Nat:=(0:Nat)+(IntKind.i64.wrap ((↑out_n:Int) - (1:Int))).toNat
def xpv (keep:Bool->Bool->Bool) (l:List AV) (out_n:Nat) (na:Int) (nb:Int) (i:Int) (q:Int) (out_xs:List AV):Int×Int×List AV:=(xnP keep l out_n na nb i q out_xs).snd
def xdZ (keep:Bool->Bool->Bool) (l:List AV) (out_n:Nat) (na:Int) (nb:Int) (i:Int) (q:Int) (out_xs:List AV):Int:=(xnP keep l out_n na nb i q out_xs).fst
def xpu (keep:Bool->Bool->Bool) (l:List AV) (out_n:Nat) (na:Int) (nb:Int) (i:Int) (q:Int) (out_xs:List AV):Int×List AV:=(xpv keep l out_n na nb i q out_xs).snd
def xdY (keep:Bool->Bool->Bool) (l:List AV) (out_n:Nat) (na:Int) (nb:Int) (i:Int) (q:Int) (out_xs:List AV):Int:=(xpv keep l out_n na nb i q out_xs).fst
def xaI (keep:Bool->Bool->Bool) (l:List AV) (out_n:Nat) (na:Int) (nb:Int) (i:Int) (q:Int) (out_xs:List AV):List AV:=(xpu keep l out_n na nb i q out_xs).snd
def xps (keep:Bool->Bool->Bool) (l:List AV) (out_n:Nat) (na:Int) (nb:Int) (i:Int) (q:Int) (out_xs:List AV):Bool:=keep (decide (xdZ keep l out_n na nb i q out_xs>(0:Int))) (decide (xdY keep l out_n na nb i q out_xs>(0:Int)))
def xaS (keep:Bool->Bool->Bool) (l:List AV) (out_n:Nat) (na:Int) (nb:Int) (i:Int) (q:Int) (out_xs:List AV):Int:=(xpu keep l out_n na nb i q out_xs).fst
def xkv (keep:Bool->Bool->Bool) (l:List AV) (out_n:Nat) (na:Int) (nb:Int) (i:Int) (q:Int) (out_xs:List AV):Bool:=decide (xbQ keep out_n<(xaI keep l out_n na nb i q out_xs).length)
def xpt (keep:Bool->Bool->Bool) (l:List AV) (out_n:Nat) (na:Int) (nb:Int) (i:Int) (q:Int) (out_xs:List AV):Bool:=decide (xaS keep l out_n na nb i q out_xs<(↑l.length:Int))
def xmk {T:Type} (keep:Bool->Bool->Bool) (l:List AV) (out_n:Nat) (na:Int) (nb:Int) (i:Int) (q:Int) (out_xs:List AV) (δ:T) (κl:(Nat×Int×Int×Int×Int×List AV)->T) (κr:(Nat×List AV)->T):T:=br (decide (q<(1099511627776:Int))) (br ((Iter (xgb l out_n q) (na,nb,i,out_xs)).isSome) (br (xpt keep l out_n na nb i q out_xs) (br (decide ((0:Int)<=xaS keep l out_n na nb i q out_xs)&&xpt keep l out_n na nb i q out_xs) (br (decide ((xaS keep l out_n na nb i q out_xs).toNat<l.length)&&xIL (Sh.int IntKind.i64) ((l.getD (xaS keep l out_n na nb i q out_xs).toNat AV.top).cells.getD (0:Nat) AV.top)) (br (xps keep l out_n na nb i q out_xs) (br (decide ((↑out_n:Int)>(0:Int))) (br (xkw keep out_n) (br (xkv keep l out_n na nb i q out_xs&&xIL (Sh.int IntKind.i64) (((xaI keep l out_n na nb i q out_xs).getD (xbQ keep out_n) AV.top).cells.getD (1:Nat) AV.top)) (br ((((xaI keep l out_n na nb i q out_xs).getD (xbQ keep out_n) AV.top).cells.getD (1:Nat) AV.top).toInt==q) (br (xkw keep out_n) (br (xkv keep l out_n na nb i q out_xs) (κl (out_n,xdZ keep l out_n na nb i q out_xs,xdY keep l out_n na nb i q out_xs,xaS keep l out_n na nb i q out_xs,((l.getD (xaS keep l out_n na nb i q out_xs).toNat AV.top).cells.getD (0:Nat) AV.top).toInt,(xaI keep l out_n na nb i q out_xs).set (xbQ keep out_n) (AV.agg (List.take (1:Nat) ((xaI keep l out_n na nb i q out_xs).getD (xbQ keep out_n) AV.top).cells++[AV.int IntKind.i64 ((l.getD (xaS keep l out_n na nb i q out_xs).toNat AV.top).cells.getD (0:Nat) AV.top).toInt]++List.drop (2:Nat) ((xaI keep l out_n na nb i q out_xs).getD (xbQ keep out_n) AV.top).cells)))) (δ)) (δ)) (br (out_n==(xaI keep l out_n na nb i q out_xs).length&&(decide ((out_n+(1:Nat))*(16:Nat)<=(140737488355328:Nat))&&decide (out_n+(1:Nat)<=(4611686018427387904:Nat)))) (κl (out_n+(1:Nat),xdZ keep l out_n na nb i q out_xs,xdY keep l out_n na nb i q out_xs,xaS keep l out_n na nb i q out_xs,((l.getD (xaS keep l out_n na nb i q out_xs).toNat AV.top).cells.getD (0:Nat) AV.top).toInt,xaI keep l out_n na nb i q out_xs++[AV.agg [AV.int IntKind.i64 q,AV.int IntKind.i64 ((l.getD (xaS keep l out_n na nb i q out_xs).toNat AV.top).cells.getD (0:Nat) AV.top).toInt]])) (δ))) (δ)) (δ)) (br (out_n==(xaI keep l out_n na nb i q out_xs).length&&(decide ((out_n+(1:Nat))*(16:Nat)<=(140737488355328:Nat))&&decide (out_n+(1:Nat)<=(4611686018427387904:Nat)))) (κl (out_n+(1:Nat),xdZ keep l out_n na nb i q out_xs,xdY keep l out_n na nb i q out_xs,xaS keep l out_n na nb i q out_xs,((l.getD (xaS keep l out_n na nb i q out_xs).toNat AV.top).cells.getD (0:Nat) AV.top).toInt,xaI keep l out_n na nb i q out_xs++[AV.agg [AV.int IntKind.i64 q,AV.int IntKind.i64 ((l.getD (xaS keep l out_n na nb i q out_xs).toNat AV.top).cells.getD (0:Nat) AV.top).toInt]])) (δ))) (κl (out_n,xdZ keep l out_n na nb i q out_xs,xdY keep l out_n na nb i q out_xs,xaS keep l out_n na nb i q out_xs,((l.getD (xaS keep l out_n na nb i q out_xs).toNat AV.top).cells.getD (0:Nat) AV.top).toInt,xaI keep l out_n na nb i q out_xs))) (δ)) (δ)) (br (xps keep l out_n na nb i q out_xs) (br (decide ((↑out_n:Int)>(0:Int))) (br (xkw keep out_n) (br (xkv keep l out_n na nb i q out_xs&&xIL (Sh.int IntKind.i64) (((xaI keep l out_n na nb i q out_xs).getD (xbQ keep out_n) AV.top).cells.getD (1:Nat) AV.top)) (br ((((xaI keep l out_n na nb i q out_xs).getD (xbQ keep out_n) AV.top).cells.getD (1:Nat) AV.top).toInt==q) (br (xkw keep out_n) (br (xkv keep l out_n na nb i q out_xs) (κl (out_n,xdZ keep l out_n na nb i q out_xs,xdY keep l out_n na nb i q out_xs,xaS keep l out_n na nb i q out_xs,(1099511627776:Int),(xaI keep l out_n na nb i q out_xs).set (xbQ keep out_n) (AV.agg (List.take (1:Nat) ((xaI keep l out_n na nb i q out_xs).getD (xbQ keep out_n) AV.top).cells++[AV.int IntKind.i64 (1099511627776:Int)]++List.drop (2:Nat) ((xaI keep l out_n na nb i q out_xs).getD (xbQ keep out_n) AV.top).cells)))) (δ)) (δ)) (br (out_n==(xaI keep l out_n na nb i q out_xs).length&&(decide ((out_n+(1:Nat))*(16:Nat)<=(140737488355328:Nat))&&decide (out_n+(1:Nat)<=(4611686018427387904:Nat)))) (κl (out_n+(1:Nat),xdZ keep l out_n na nb i q out_xs,xdY keep l out_n na nb i q out_xs,xaS keep l out_n na nb i q out_xs,(1099511627776:Int),xaI keep l out_n na nb i q out_xs++[AV.agg [AV.int IntKind.i64 q,AV.int IntKind.i64 (1099511627776:Int)]])) (δ))) (δ)) (δ)) (br (out_n==(xaI keep l out_n na nb i q out_xs).length&&(decide ((out_n+(1:Nat))*(16:Nat)<=(140737488355328:Nat))&&decide (out_n+(1:Nat)<=(4611686018427387904:Nat)))) (κl (out_n+(1:Nat),xdZ keep l out_n na nb i q out_xs,xdY keep l out_n na nb i q out_xs,xaS keep l out_n na nb i q out_xs,(1099511627776:Int),xaI keep l out_n na nb i q out_xs++[AV.agg [AV.int IntKind.i64 q,AV.int IntKind.i64 (1099511627776:Int)]])) (δ))) (κl (out_n,xdZ keep l out_n na nb i q out_xs,xdY keep l out_n na nb i q out_xs,xaS keep l out_n na nb i q out_xs,(1099511627776:Int),xaI keep l out_n na nb i q out_xs)))) (δ)) (κr (out_n,out_xs))
def xeZ (keep:Bool->Bool->Bool) (l:List AV):(Nat×Int×Int×Int×Int×List AV)->Option ((Nat×Int×Int×Int×Int×List AV)⊕(Nat×List AV)):=fun (out_n,na,nb,i,q,out_xs)=>xmk keep l out_n na nb i q out_xs none (fun s=>some (.inl s)) (fun p=>some (.inr p))
def xug (keep:Bool->Bool->Bool) (a:List AV) (b:List AV):Option (Nat×List AV):=Iter (xeZ keep ((xfV a b).getD [])) ((0:Nat),(0:Int),(0:Int),(0:Int),(0:Int),[])
def xuf (keep:Bool->Bool->Bool) (a:List AV) (b:List AV):Nat×List AV:=(xug keep a b).getD ((0:Nat),[])
def xud (keep:Bool->Bool->Bool) (a:List AV) (b:List AV):List AV:=(xuf keep a b).snd
def xue (keep:Bool->Bool->Bool) (a:List AV) (b:List AV):Nat:=(xuf keep a b).fst
def xEs {T:Type} (keep:Bool->Bool->Bool) (a:List AV) (b:List AV) (δ:T) (κ:List AV->T):T:=br ((xfV a b).isSome) (br ((xug keep a b).isSome) (br (decide ((0:Nat)+xue keep a b<=(xud keep a b).length)&&true) (κ (List.take (xue keep a b) (List.drop (0:Nat) (xud keep a b)))) (δ)) (δ)) (δ)
def swG (keep:Bool->Bool->Bool) (a:List AV) (b:List AV):Option (List AV):=xEs keep a b none some
end Go.Sim.M
end
noncomputable section
set_option maxRecDepth 100000
namespace Go.Sim.M
open Go.RowKit Go.Lib Go.Sort
def xHO (e:Edg):AV:=.agg [.int .i64 e.1,.int .i64 e.2.1,.int .i64 e.2.2]
theorem xsn (x y:Int):∀ a b,xHK x y (a++b)=xHK x y a++xHK x y b
 | [],b=>rfl
 | p::a,b=>by
  simp only [List.cons_append,xHK,xsn x y a b];split<;>rfl
theorem xtB (x y:Int) (l:List Per) (n:Nat) (h:n<l.length):xHK x y (l.take (n+1))=xHK x y (l.take n)++(if pv l[n]=true then [(l[n].1,x,y),(l[n].2,-x,-y)] else []):=by
 rw [List.take_add_one,zd h];show xHK x y (l.take n++[l[n]])=_;rw [xsn];rfl
theorem xsl (B:List AV) (l:List Per) (hl:l.length<=1073741824):∀ (k n:Nat),n+k=l.length ->
  Iter (xbC B (l.map encP) ((l.length:Nat):Int)) ((xHK 1 0 (l.take n)).length,((n:Nat):Int),(xHK 1 0 (l.take n)).map xHO)=some ((xHK 1 0 l).length,(xHK 1 0 l).map xHO)
 | 0,n,hk=>by
  obtain rfl:n=l.length:=by omega
  rw [zh (zb _)];refine xam ?_;unfold xbC;simp only;unfold xh8;rw [decide_eq_false (by omega:¬ ((l.length:Nat):Int)<((l.length:Nat):Int))]
  rfl
 | k+1,n,hk=>by
  have h1:n<l.length:=by omega
  have q:=xip 1 0 (l.take n);have J:(l.take n).length<=n:=by rw [zr];omega
  have d1:((n:Nat):Int)<((l.length:Nat):Int):=by omega
  have d2:(0:Int)<=((n:Nat):Int):=by omega
  have d3:((xHK 1 0 (l.take n)).length+2)*24<=140737488355328:=by omega
  have d4:(xHK 1 0 (l.take n)).length+2<=4611686018427387904:=by omega
  have d5:((xHK 1 0 (l.take n)).length==(xHK 1 0 (l.take n)).length)=true:=by simp
  have gf:(l.map encP).getD n .top=encP l[n]:=xaa _ _ _ h1;have c0:((encP l[n]).cells.getD 0 .top).toInt=l[n].1:=rfl;have c1:((encP l[n]).cells.getD 1 .top).toInt=l[n].2:=rfl;have sh:((encP l[n]).cells.length==(2:Nat)&&xIS [Sh.int IntKind.i64,Sh.int IntKind.i64] (encP l[n]).cells (0:Nat))=true:=rfl;have st:xbC B (l.map encP) ((l.length:Nat):Int) ((xHK 1 0 (l.take n)).length,((n:Nat):Int),(xHK 1 0 (l.take n)).map xHO) =
    some (.inl ((xHK 1 0 (l.take (n+1))).length,((n+1:Nat):Int),(xHK 1 0 (l.take (n+1))).map xHO)):=by
   rw [xtB 1 0 l n h1];unfold xbC;simp only;unfold xh8;rw [zM,gf,sh,c0,c1,xkp,z8,z8,decide_eq_true d1,decide_eq_true d2,decide_eq_true h1,decide_eq_true d3,decide_eq_true d4,d5,xox (show n+1<=maxLen by unfold maxLen;omega)]
   cases pv l[n] with
   | true=>simp only [if_true,z7,zw];rfl
   | false=>simp only [zS,if_false,zC];rfl
  rw [xaF st];exact xsl B l hl k (n+1) (by omega)
theorem xsm (E0:List Edg) (l:List Per) (hl:l.length<=1073741824) (hE:E0.length<=2147483648):∀ (k n:Nat),n+k=l.length ->
  Iter (xcP (l.map encP) ((l.length:Nat):Int)) ((E0++xHK 0 1 (l.take n)).length,((n:Nat):Int),(E0++xHK 0 1 (l.take n)).map xHO)=some ((E0++xHK 0 1 l).length,(E0++xHK 0 1 l).map xHO)
 | 0,n,hk=>by
  obtain rfl:n=l.length:=by omega
  rw [zh (zb _)];refine xam ?_;unfold xcP;simp only;unfold xh9;rw [decide_eq_false (by omega:¬ ((l.length:Nat):Int)<((l.length:Nat):Int))]
  rfl
 | k+1,n,hk=>by
  have h1:n<l.length:=by omega
  have J:=xip 0 1 (l.take n);have O:(l.take n).length<=n:=by rw [zr];omega
  have q:(E0++xHK 0 1 (l.take n)).length=E0.length+(xHK 0 1 (l.take n)).length:=z7;have d1:((n:Nat):Int)<((l.length:Nat):Int):=by omega
  have d2:(0:Int)<=((n:Nat):Int):=by omega
  have d3:((E0++xHK 0 1 (l.take n)).length+2)*24<=140737488355328:=by omega
  have d4:(E0++xHK 0 1 (l.take n)).length+2<=4611686018427387904:=by omega
  have d5:((E0++xHK 0 1 (l.take n)).length==(E0++xHK 0 1 (l.take n)).length)=true:=by simp
  have gf:(l.map encP).getD n .top=encP l[n]:=xaa _ _ _ h1;have c0:((encP l[n]).cells.getD 0 .top).toInt=l[n].1:=rfl;have c1:((encP l[n]).cells.getD 1 .top).toInt=l[n].2:=rfl;have sh:((encP l[n]).cells.length==(2:Nat)&&xIS [Sh.int IntKind.i64,Sh.int IntKind.i64] (encP l[n]).cells (0:Nat))=true:=rfl;have st:xcP (l.map encP) ((l.length:Nat):Int) ((E0++xHK 0 1 (l.take n)).length,((n:Nat):Int),(E0++xHK 0 1 (l.take n)).map xHO) =
    some (.inl ((E0++xHK 0 1 (l.take (n+1))).length,((n+1:Nat):Int),(E0++xHK 0 1 (l.take (n+1))).map xHO)):=by
   rw [xtB 0 1 l n h1,<-zv];unfold xcP;simp only;unfold xh9;rw [zM,gf,sh,c0,c1,xkp,z8,z8,decide_eq_true d1,decide_eq_true d2,decide_eq_true h1,decide_eq_true d3,decide_eq_true d4,d5,xox (show n+1<=maxLen by unfold maxLen;omega)]
   cases pv l[n] with
   | true=>rw [if_pos rfl,z7 (bs:=[(l[n].1,0,1),(l[n].2,-0,-1)]),zw (l₂:=[(l[n].1,0,1),(l[n].2,-0,-1)])];rfl
   | false=>rw [if_neg (by simp),zC];rfl
  rw [xaF st];exact xsm E0 l hl hE k (n+1) (by omega)
def toE (e:Edg):TyE:=(Fin.ofNat 1099511627777 e.1.toNat,e.2.1,e.2.2)
def ofE (x:TyE):Edg:=((x.1.val:Int),x.2.1,x.2.2)
theorem xEY {e:Edg} (h1:0<=e.1) (h2:e.1<=1099511627776):ofE (toE e)=e:=by
 have:e.1.toNat % 1099511627777=e.1.toNat:=Nat.mod_eq_of_lt (by omega)
 simp only [ofE,toE,Fin.ofNat,this,Int.toNat_of_nonneg h1]
theorem xFj (E:List Edg) (h:∀ e,e∈E->0<=e.1/\e.1<=1099511627776):(E.map xHO).all isE=true/\∃ S:List Edg,srtE (E.map xHO)=S.map xHO/\S.Perm E/\S.Pairwise fun x y=>x.1<=y.1:=by
 refine ⟨?_,(pdqL cmpE (E.map toE)).map ofE,?_,?_,?_⟩
 . rw [zH];intro x hx;obtain ⟨e,he,rfl⟩:=zJ.1 hx;have:=h e he;show (decide _&&decide _)=true;rw [decide_eq_true this.1,decide_eq_true this.2];rfl
 . unfold srtE;have e1:(E.map xHO).map decE=E.map toE:=by rw [List.map_map];rfl
   rw [e1,List.map_map];rfl
 . have hp:=((xmL cmpE swoE (E.map toE)).1).map ofE;have e2:(E.map toE).map ofE=E:=by
    rw [List.map_map]
    conv=>rhs;rw [<-List.map_id E]
    refine List.map_congr_left fun e he=>?_
    exact xEY (h e he).1 (h e he).2
   rwa [e2] at hp
 . rw [List.pairwise_map];refine (xsz cmpE swoE (E.map toE)).imp fun {x y} q=>?_
   show ((x.1.val:Nat):Int)<=((y.1.val:Nat):Int);unfold cmpE at q;omega
theorem xDo (a b:List Per) (ha:a.length<=1073741824) (hb:b.length<=1073741824) :
  ∃ S:List Edg,xfV (a.map encP) (b.map encP)=some (S.map xHO)/\S.Perm (xHK 1 0 a++xHK 0 1 b)/\S.Pairwise fun x y=>x.1<=y.1:=by
 have l1:=xip 1 0 a;have l2:=xip 0 1 b;have O:(xHK 1 0 a++xHK 0 1 b).length=(xHK 1 0 a).length+(xHK 0 1 b).length:=z7;obtain ⟨q,S,hS,hp,hs⟩:=xFj (xHK 1 0 a++xHK 0 1 b) (fun e he=>by
  rcases zF.1 he with he|he
  . exact xkm 1 0 a e he
  . exact xkm 0 1 b e he)
 refine ⟨S,?_,hp,hs⟩;have h0:=xsl (b.map encP) a ha a.length 0 (by omega)
 rw [List.take_zero] at h0;have h1:=xsm (xHK 1 0 a) b hb (by omega) b.length 0 (by omega)
 rw [List.take_zero] at h1;have h0:Iter (xbC (b.map encP) (a.map encP) (((a.map encP).length:Nat):Int)) (0,0,[])=some ((xHK 1 0 a).length,(xHK 1 0 a).map xHO):=by rw [z8];exact h0
 have v4:xjV (a.map encP) (b.map encP)=((xHK 1 0 a).length,(xHK 1 0 a).map xHO):=by unfold xjV;rw [h0];rfl
 have v3:xjU (a.map encP) (b.map encP)=some ((xHK 1 0 a++xHK 0 1 b).length,(xHK 1 0 a++xHK 0 1 b).map xHO):=by
  unfold xjU;rw [v4,z8];have e:xHK 1 0 a++xHK 0 1 []=xHK 1 0 a:=zC _;rw [e] at h1;exact h1
 have v2:xjT (a.map encP) (b.map encP)=((xHK 1 0 a++xHK 0 1 b).length,(xHK 1 0 a++xHK 0 1 b).map xHO):=by unfold xjT;rw [v3];rfl
 have v0:xfy (a.map encP) (b.map encP)=(xHK 1 0 a++xHK 0 1 b).length:=by unfold xfy;rw [v2]
 have v1:xfz (a.map encP) (b.map encP)=(xHK 1 0 a++xHK 0 1 b).map xHO:=by unfold xfz;rw [v2]
 have J:S.length=(xHK 1 0 a++xHK 0 1 b).length:=hp.length_eq;have d1:(xHK 1 0 a++xHK 0 1 b).length<4611686018427387904:=by omega
 have d2:0+(xHK 1 0 a++xHK 0 1 b).length<=(S.map xHO).length:=by rw [z8,J];omega
 have d3:(xHK 1 0 a++xHK 0 1 b).length.beq (xHK 1 0 a++xHK 0 1 b).length=true:=Nat.beq_refl _;have tk:List.take (xHK 1 0 a++xHK 0 1 b).length (List.drop 0 (S.map xHO))=S.map xHO:=by rw [zq,zh (by rw [z8,J];exact zb _)]
 unfold xfV xoF;rw [h0,v3,v0,v1,q,hS,tk,z8,d3,decide_eq_true d1,decide_eq_true d2];rfl
theorem xCg (out:List Per) (h:out≠[]):out=out.dropLast++[out[out.length - 1]'(by have:=List.length_pos_iff.2 h;omega)]:=by
 have:=List.dropLast_concat_getLast h;rw [List.getLast_eq_getElem] at this;exact this.symm
section
variable (S : List Edg) (hS1 : ∀ e, e ∈ S -> 0 <= e.1 /\ e.1 <= 1099511627776) (hS2 : ∀ e, e ∈ S -> (-1 <= e.2.1 /\ e.2.1 <= 1) /\ (-1 <= e.2.2 /\ e.2.2 <= 1)) (hS3 : S.Pairwise fun x y => x.1 <= y.1) (hS4 : S.length <= 8589934592)
theorem xuS (g:Edg->Int):∀ l:List Edg,(∀ e,e∈l->-1<=g e/\g e<=1)->-(l.length:Int)<=xHL g l/\xHL g l<=l.length
 | [],_=>by simp [xHL]
 | e::l,h=>by
  have:=xuS g l fun x hx=>h x (List.mem_cons_of_mem _ hx)
  have:=h e (List.mem_cons_self ..);simp only [xHL,zD];omega
theorem xyR (g:Edg->Int) (n:Nat) (h:n<S.length):xHL g (S.take (n+1))=xHL g (S.take n)+g S[n]:=by
 rw [List.take_add_one,zd h];show xHL g (S.take n++[S[n]])=_;rw [xq7];simp [xHL]
include hS1 hS2 hS3 hS4
theorem xtI (on:Nat) (at':Int) (ox:List AV):∀ (k i:Nat),i+k=S.length->∃ j:Nat,i<=j/\j<=S.length /\
  Iter (xgb (S.map xHO) on at') (xHL (·.2.1) (S.take i),xHL (·.2.2) (S.take i),((i:Nat):Int),ox)=some (xHL (·.2.1) (S.take j),xHL (·.2.2) (S.take j),((j:Nat):Int),ox) /\
  (∀ (m:Nat) (h:m<S.length),i<=m->m<j->S[m].1=at')/\∀ (h:j<S.length),S[j].1≠at'
 | 0,i,hk=>by
  obtain rfl:i=S.length:=by omega
  refine ⟨S.length,zb _,zb _,xam ?_,fun m _ h1 h2=>by omega,fun h=>absurd h (Nat.lt_irrefl _)⟩
  unfold xgb;simp only;unfold xqN;rw [z8,decide_eq_false (by omega:¬ ((S.length:Nat):Int)<((S.length:Nat):Int))]
  rfl
 | k+1,i,hk=>by
  have h1:i<S.length:=by omega
  have d1:((i:Nat):Int)<((S.length:Nat):Int):=by omega
  have d2:(0:Int)<=((i:Nat):Int):=by omega
  have gf:(S.map xHO).getD i .top=xHO S[i]:=xaa _ _ _ h1;have c0:((xHO S[i]).cells.getD 0 .top).toInt=S[i].1:=rfl;have c1:((xHO S[i]).cells.getD 1 .top).toInt=S[i].2.1:=rfl;have c2:((xHO S[i]).cells.getD 2 .top).toInt=S[i].2.2:=rfl;have s0:xIL (Sh.int IntKind.i64) ((xHO S[i]).cells.getD 0 .top)=true:=rfl;have s1:xIL (Sh.int IntKind.i64) ((xHO S[i]).cells.getD 1 .top)=true:=rfl;have s2:xIL (Sh.int IntKind.i64) ((xHO S[i]).cells.getD 2 .top)=true:=rfl;have v0:xmZ (S.map xHO) ((i:Nat):Int)=true:=by unfold xmZ;rw [z8,decide_eq_true d1,decide_eq_true d2];rfl
  by_cases he:S[i].1=at'
  . have hb:=hS2 S[i] (zn h1);have b1:=xuS (·.2.1) (S.take i) fun e he=>(hS2 e (List.mem_of_mem_take he)).1
    have b2:=xuS (·.2.2) (S.take i) fun e he=>(hS2 e (List.mem_of_mem_take he)).2
    have hl:(S.take i).length=i:=by rw [zr];omega
    rw [hl] at b1 b2;have b3:=xyR S (·.2.1) i h1;have b4:=xyR S (·.2.2) i h1;have w1:IntKind.i64.wrap (xHL (·.2.1) (S.take i)+S[i].2.1)=xHL (·.2.1) (S.take (i+1)):=by rw [b3];exact xdC (by omega) (by omega)
    have w2:IntKind.i64.wrap (xHL (·.2.2) (S.take i)+S[i].2.2)=xHL (·.2.2) (S.take (i+1)):=by rw [b4];exact xdC (by omega) (by omega)
    have st:xgb (S.map xHO) on at' (xHL (·.2.1) (S.take i),xHL (·.2.2) (S.take i),((i:Nat):Int),ox)=some (.inl (xHL (·.2.1) (S.take (i+1)),xHL (·.2.2) (S.take (i+1)),((i+1:Nat):Int),ox)):=by
     unfold xgb;simp only;unfold xqN;have e1:(S[i].1==at')=true:=by simp [he]
     rw [v0,zM,gf,s0,s1,s2,c0,c1,c2,z8,decide_eq_true d1,decide_eq_true h1,e1,w1,w2,xox (show i+1<=maxLen by unfold maxLen;omega)]
     rfl
    obtain ⟨j,j1,j2,j3,j4,j5⟩:=xtI on at' ox k (i+1) (by omega)
    refine ⟨j,by omega,j2,by rw [xaF st];exact j3,fun m hm h2 h3=>?_,j5⟩
    rcases Nat.eq_or_lt_of_le h2 with rfl|h2
    . exact he
    . exact j4 m hm h2 h3
  . refine ⟨i,zb _,by omega,xam ?_,fun m _ h2 h3=>by omega,fun _=>he⟩
    unfold xgb;simp only;unfold xqN;have e1:(S[i].1==at')=false:=by simp [he]
    rw [v0,zM,gf,s0,c0,z8,decide_eq_true d1,decide_eq_true h1,e1];rfl
omit hS1 hS2 hS3 hS4
def SwI (K:Int->Bool) (s:Nat×Int×Int×Int×Int×List AV):Prop :=
 ∃ (out:List Per) (i:Nat) (at':Int),s=(out.length,xHL (·.2.1) (S.take i),xHL (·.2.2) (S.take i),((i:Nat):Int),at',out.map encP)/\0<=at'/\at'<=1099511627776/\i<=S.length /\
  (∀ (m:Nat) (h:m<S.length),m<i->S[m].1<at')/\(∀ (m:Nat) (h:m<S.length),i<=m->at'<=S[m].1)/\OutOk out at' K/\(out.length:Int)<=at'
include hS1 hS2 hS3 hS4
set_option maxHeartbeats 4000000 in
theorem xzH (keep:Bool->Bool->Bool) (a b:List Per) (hp:S.Perm (xHK 1 0 a++xHK 0 1 b)) (s:Nat×Int×Int×Int×Int×List AV) (hs:SwI S (fun t=>keep (inL a t) (inL b t)) s) :
  (∃ s',xeZ keep (S.map xHO) s=some (.inl s')/\SwI S (fun t=>keep (inL a t) (inL b t)) s'/\(1099511627776 - s'.2.2.2.2.1).toNat<(1099511627776 - s.2.2.2.2.1).toNat) \/
  ∃ r,xeZ keep (S.map xHO) s=some (.inr r)/\∃ out:List Per,r=(out.length,out.map encP)/\OutOk out 1099511627776 (fun t=>keep (inL a t) (inL b t)):=by
 obtain ⟨out,i,at',rfl,ah,a0,hi,ay,aw,J,a1⟩:=hs;by_cases hF:at'<1099511627776
 . left;obtain ⟨j,j1,j2,j3,j4,j5⟩:=xtI S hS1 hS2 hS3 hS4 out.length at' (out.map encP) (S.length - i) i (by omega)
   have aj:∀ (m:Nat) (h:m<S.length),m<j->S[m].1<=at':=fun m h hm=>by
    by_cases ax:m<i
    . have:=ay m h ax;omega
    . have:=j4 m h (by omega) hm;omega
   have au:∀ (m:Nat) (h:m<S.length),j<=m->at'<S[m].1:=fun m h hm=>by
    have hj:j<S.length:=by omega
    have h1:=aw j hj (by omega)
    have h2:=j5 hj;have h3:S[j].1<=S[m].1:=by
     rcases Nat.eq_or_lt_of_le hm with rfl|hm
     . exact Int.le_refl _
     . exact zA.1 hS3 j m hj h hm
    omega
   obtain ⟨nx,O⟩:∃ nx:Int,nx=if h:j<S.length then S[j].1 else 1099511627776:=⟨_,rfl⟩
   have ac:at'<nx:=by
    rw [O];split
    . rename_i h;exact au j h (zb _)
    . exact hF
   have W:nx<=1099511627776:=by
    rw [O];split
    . rename_i h;exact (hS1 _ (zn h)).2
    . exact Int.le_refl _
   have ak:∀ (m:Nat) (h:m<S.length),j<=m->nx<=S[m].1:=fun m h hm=>by
    have hj:j<S.length:=by omega
    rw [O,dif_pos hj];rcases Nat.eq_or_lt_of_le hm with rfl|hm
    . exact Int.le_refl _
    . exact zA.1 hS3 j m hj h hm
   have al:∀ (g:Edg->Int) (t:Int),at'<=t->t<nx->xHL g (S.take j)=xHU g t S:=fun g t Y Z=>by
    conv=>rhs;rw [<-List.take_append_drop j S]
    rw [xlo,xvW,xua]
    . omega
    . intro e he;obtain ⟨m,hm,rfl⟩:=zo.1 he;rw [List.getElem_drop];have:=ak (j+m) (by rw [zZ] at hm;omega) (by omega)
      omega
    . intro e he;obtain ⟨m,hm,rfl⟩:=zo.1 he;rw [List.getElem_take];rw [zr] at hm;have:=aj m (by omega) (by omega)
      omega
   have ai:∀ t,at'<=t->t<nx->decide (xHL (·.2.1) (S.take j)>0)=inL a t/\decide (xHL (·.2.2) (S.take j)>0)=inL b t:=fun t Y Z=>by
    rw [al _ t Y Z,al _ t Y Z,xub _ t hp,xub _ t hp,xlo,xlo,xqM,xsK,xuc,xsL,Int.add_zero,Int.zero_add,xwU,xwU];exact ⟨rfl,rfl⟩
   obtain ⟨kv,ar⟩:∃ kv:Bool,kv=keep (decide (xHL (·.2.1) (S.take j)>0)) (decide (xHL (·.2.2) (S.take j)>0)):=⟨_,rfl⟩;have hK:∀ t,at'<=t->t<nx->keep (inL a t) (inL b t)=kv:=fun t Y Z=>by
    rw [ar,(ai t Y Z).1,(ai t Y Z).2]
   have aq:xnP keep (S.map xHO) out.length (xHL (·.2.1) (S.take i)) (xHL (·.2.2) (S.take i)) ((i:Nat):Int) at' (out.map encP)=(xHL (·.2.1) (S.take j),xHL (·.2.2) (S.take j),((j:Nat):Int),out.map encP):=by unfold xnP;rw [j3];rfl
   have v8:xdZ keep (S.map xHO) out.length (xHL (·.2.1) (S.take i)) (xHL (·.2.2) (S.take i)) ((i:Nat):Int) at' (out.map encP)=xHL (·.2.1) (S.take j):=by unfold xdZ;rw [aq]
   have v9:xpv keep (S.map xHO) out.length (xHL (·.2.1) (S.take i)) (xHL (·.2.2) (S.take i)) ((i:Nat):Int) at' (out.map encP)=(xHL (·.2.2) (S.take j),((j:Nat):Int),out.map encP):=by unfold xpv;rw [aq]
   have v7:xdY keep (S.map xHO) out.length (xHL (·.2.1) (S.take i)) (xHL (·.2.2) (S.take i)) ((i:Nat):Int) at' (out.map encP)=xHL (·.2.2) (S.take j):=by unfold xdY;rw [v9]
   have v6:xpu keep (S.map xHO) out.length (xHL (·.2.1) (S.take i)) (xHL (·.2.2) (S.take i)) ((i:Nat):Int) at' (out.map encP)=(((j:Nat):Int),out.map encP):=by unfold xpu;rw [v9]
   have v1:xaI keep (S.map xHO) out.length (xHL (·.2.1) (S.take i)) (xHL (·.2.2) (S.take i)) ((i:Nat):Int) at' (out.map encP)=out.map encP:=by unfold xaI;rw [v6]
   have v3:xaS keep (S.map xHO) out.length (xHL (·.2.1) (S.take i)) (xHL (·.2.2) (S.take i)) ((i:Nat):Int) at' (out.map encP)=((j:Nat):Int):=by unfold xaS;rw [v6]
   have v2:xps keep (S.map xHO) out.length (xHL (·.2.1) (S.take i)) (xHL (·.2.2) (S.take i)) ((i:Nat):Int) at' (out.map encP)=kv:=by unfold xps;rw [v8,v7,<-ar]
   have v0:xkv keep (S.map xHO) out.length (xHL (·.2.1) (S.take i)) (xHL (·.2.2) (S.take i)) ((i:Nat):Int) at' (out.map encP)=decide (xbQ keep out.length<out.length):=by unfold xkv;rw [v1,z8]
   have v5:xpt keep (S.map xHO) out.length (xHL (·.2.1) (S.take i)) (xHL (·.2.2) (S.take i)) ((i:Nat):Int) at' (out.map encP)=decide (j<S.length):=by
    unfold xpt;rw [v3,z8];by_cases h:j<S.length
    . rw [decide_eq_true h,decide_eq_true (by omega)]
    . rw [decide_eq_false h,decide_eq_false (by omega)]
   have am:(out.length+1)*16<=140737488355328:=by omega
   have ag:out.length+1<=4611686018427387904:=by omega
   have e1:(out.length==out.length)=true:=by simp
   have dF:decide (at'<1099511627776)=true:=decide_eq_true hF;have dj:decide ((0:Int)<=((j:Nat):Int))=true:=decide_eq_true (by omega)
   have Q:∀ h:j<S.length,(((S.map xHO).getD j .top).cells.getD 0 .top).toInt=nx:=fun h=>by
    rw [xaa _ _ _ h,O,dif_pos h];rfl
   have ad:∀ h:j<S.length,xIL (Sh.int IntKind.i64) (((S.map xHO).getD j .top).cells.getD 0 .top)=true:=fun h=>by
    rw [xaa _ _ _ h];rfl
   have ae:∀ q:List Per,OutOk q nx (fun t=>keep (inL a t) (inL b t))->(q.length:Int)<=nx->SwI S (fun t=>keep (inL a t) (inL b t)) (q.length,xHL (·.2.1) (S.take j),xHL (·.2.2) (S.take j),((j:Nat):Int),nx,q.map encP):=fun q ho hl =>
    ⟨q,j,nx,rfl,by omega,W,j2,fun m h hm=>by have:=aj m h hm;omega,fun m h hm=>ak m h hm,ho,hl⟩
   have mu:(1099511627776 - nx).toNat<(1099511627776 - at').toNat:=by omega
   cases kv with
   | false =>
    refine ⟨(out.length,xHL (·.2.1) (S.take j),xHL (·.2.2) (S.take j),((j:Nat):Int),nx,out.map encP),?_,ae out (J.skip (by omega) hK) (by omega),mu⟩
    unfold xeZ;simp only;unfold xmk;rw [v1,v2,v3,v5,v7,v8,j3,dF,dj,zM,z8];by_cases hj:j<S.length
    . rw [decide_eq_true hj,ad hj,Q hj];rfl
    . rw [decide_eq_false hj];have:nx=1099511627776:=by rw [O,dif_neg hj]
      rw [this];rfl
   | true =>
    by_cases hne:out=[]
    . have ab:=J.add ah ac W hK (fun p hp=>by rw [hne] at hp;cases hp)
      refine ⟨((out++[(at',nx)]).length,xHL (·.2.1) (S.take j),xHL (·.2.2) (S.take j),((j:Nat):Int),nx,(out++[(at',nx)]).map encP),?_,ae _ ab (by rw [z7,zi];omega),mu⟩
      have dl:decide (((out.length:Nat):Int)>0)=false:=by rw [hne];rfl
      unfold xeZ;simp only;unfold xmk;rw [v1,v2,v3,v5,v7,v8,j3,dF,dj,zM,z8,z8,dl,e1,decide_eq_true am,decide_eq_true ag];by_cases hj:j<S.length
      . rw [decide_eq_true hj,ad hj,Q hj,zw,z7];rfl
      . rw [decide_eq_false hj];have:nx=1099511627776:=by rw [O,dif_neg hj]
        rw [this,zw,z7];rfl
    . have az:=List.length_pos_iff.2 hne;have w1:IntKind.i64.wrap (((out.length:Nat):Int) - 1)=((out.length - 1:Nat):Int):=by rw [xdC (by omega) (by omega)];omega
      have ap:xbQ keep out.length=out.length - 1:=by unfold xbQ;rw [w1,zM];omega
      have v4:xkw keep out.length=true:=by
       unfold xkw;rw [w1,decide_eq_true (by omega),decide_eq_true (by omega)];rfl
      have dl:decide (((out.length:Nat):Int)>0)=true:=decide_eq_true (by omega)
      have dv:decide (out.length - 1<out.length)=true:=decide_eq_true (by omega)
      have an:out.length - 1<out.length:=by omega
      have gl:(out.map encP).getD (out.length - 1) .top=encP out[out.length - 1]:=xaa _ _ _ an;have cl:((encP out[out.length - 1]).cells.getD 1 .top).toInt=out[out.length - 1].2:=rfl;have sl:xIL (Sh.int IntKind.i64) ((encP out[out.length - 1]).cells.getD 1 .top)=true:=rfl;have af:=xCg out hne;by_cases hl:out[out.length - 1].2=at'
      . have ao:=OutOk.ext (o:=out.dropLast) (p:=out[out.length - 1]) (by rw [<-af];exact J) hl ac W hK
        have U:(out.dropLast++[(out[out.length - 1].1,nx)]).length=out.length:=by rw [z7,List.length_dropLast,zi];omega
        have aa:(out.map encP).set (out.length - 1) (AV.agg (List.take 1 (encP out[out.length - 1]).cells++[AV.int IntKind.i64 nx]++List.drop 2 (encP out[out.length - 1]).cells))=(out.dropLast++[(out[out.length - 1].1,nx)]).map encP:=by
         have e2:AV.agg (List.take 1 (encP out[out.length - 1]).cells++[AV.int IntKind.i64 nx]++List.drop 2 (encP out[out.length - 1]).cells)=encP (out[out.length - 1].1,nx):=rfl;rw [e2,<-List.map_set];congr 1;have e3:out.set (out.length - 1) (out[out.length - 1].1,nx)=(out.dropLast++[out[out.length - 1]]).set (out.length - 1) (out[out.length - 1].1,nx):=congrArg (fun l=>List.set l (out.length - 1) (out[out.length - 1].1,nx)) af
         rw [e3,List.set_append_right _ _ (by rw [List.length_dropLast];exact zb _),List.length_dropLast,Nat.sub_self];rfl
        refine ⟨((out.dropLast++[(out[out.length - 1].1,nx)]).length,xHL (·.2.1) (S.take j),xHL (·.2.2) (S.take j),((j:Nat):Int),nx,(out.dropLast++[(out[out.length - 1].1,nx)]).map encP),?_,ae _ ao (by rw [U];omega),mu⟩
        have e4:(out[out.length - 1].2==at')=true:=by simp [hl]
        unfold xeZ;simp only;unfold xmk;rw [v0,v1,v2,v3,v4,v5,v7,v8,ap,j3,dF,dj,zM,z8,gl,cl,sl,dl,dv,e4];by_cases hj:j<S.length
        . rw [decide_eq_true hj,ad hj,Q hj,aa,U];rfl
        . rw [decide_eq_false hj];have:nx=1099511627776:=by rw [O,dif_neg hj]
          rw [this] at aa U |-;rw [aa,U];rfl
      . have ab:=J.add ah ac W hK (fun p hp=>by
         rw [af] at hp;rcases zF.1 hp with hp|hp
         . have h1:=J.span.2;rw [af] at h1;have:=(List.pairwise_append.1 h1).2.2 p hp _ (zu.2 rfl);have h2:=J.low _ (zn an);have h3:=xch.1 (J.span.1 _ (zn an));omega
         . rw [zu.1 hp];exact hl)
        refine ⟨((out++[(at',nx)]).length,xHL (·.2.1) (S.take j),xHL (·.2.2) (S.take j),((j:Nat):Int),nx,(out++[(at',nx)]).map encP),?_,ae _ ab (by rw [z7,zi];omega),mu⟩
        have e4:(out[out.length - 1].2==at')=false:=by simp [hl]
        unfold xeZ;simp only;unfold xmk;rw [v0,v1,v2,v3,v4,v5,v7,v8,ap,j3,dF,dj,zM,z8,z8,gl,cl,sl,dl,dv,e4,e1,decide_eq_true am,decide_eq_true ag];by_cases hj:j<S.length
        . rw [decide_eq_true hj,ad hj,Q hj,zw,z7];rfl
        . rw [decide_eq_false hj];have:nx=1099511627776:=by rw [O,dif_neg hj]
          rw [this,zw,z7];rfl
 . right;have:at'=1099511627776:=by omega
   subst this;refine ⟨(out.length,out.map encP),?_,out,rfl,J⟩;unfold xeZ;simp only;unfold xmk;rw [decide_eq_false hF];rfl
end
theorem xqh:∀ (l:List Per) (e:Edg),e∈xHK 1 0 l->(-1<=e.2.1/\e.2.1<=1)/\(-1<=e.2.2/\e.2.2<=1)
 | [],e,h=>by cases h
 | p::l,e,h=>by
  unfold xHK at h;split at h
  . rcases zB.1 h with rfl|h
    . simp
    . rcases zB.1 h with rfl|h
      . simp
      . exact xqh l e h
  . exact xqh l e h
theorem xqi:∀ (l:List Per) (e:Edg),e∈xHK 0 1 l->(-1<=e.2.1/\e.2.1<=1)/\(-1<=e.2.2/\e.2.2<=1)
 | [],e,h=>by cases h
 | p::l,e,h=>by
  unfold xHK at h;split at h
  . rcases zB.1 h with rfl|h
    . simp
    . rcases zB.1 h with rfl|h
      . simp
      . exact xqi l e h
  . exact xqi l e h
theorem xCV (keep:Bool->Bool->Bool) (a b:List Per) (ha:a.length<=1073741824) (hb:b.length<=1073741824) :
  ∃ r:List Per,swG keep (a.map encP) (b.map encP)=some (r.map encP)/\IsSpan r/\∀ t,inL r t=(decide (0<=t)&&(decide (t<1099511627776)&&keep (inL a t) (inL b t))):=by
 obtain ⟨S,hS,hp,Q⟩:=xDo a b ha hb;have l1:=xip 1 0 a;have l2:=xip 0 1 b;have W:S.length=(xHK 1 0 a++xHK 0 1 b).length:=hp.length_eq;rw [z7] at W;have q:∀ e,e∈S->e∈xHK 1 0 a\/e∈xHK 0 1 b:=fun e he=>zF.1 (hp.mem_iff.1 he)
 have J:∀ e,e∈S->0<=e.1/\e.1<=1099511627776:=fun e he=>(q e he).elim (xkm 1 0 a e) (xkm 0 1 b e)
 have U:∀ e,e∈S->(-1<=e.2.1/\e.2.1<=1)/\(-1<=e.2.2/\e.2.2<=1):=fun e he=>(q e he).elim (xqh a e) (xqi b e)
 obtain ⟨r,hr,out,rfl,O⟩:=xyf (SwI S (fun t=>keep (inL a t) (inL b t))) (fun s=>(1099511627776 - s.2.2.2.2.1).toNat) (fun r=>∃ out:List Per,r=(out.length,out.map encP)/\OutOk out 1099511627776 (fun t=>keep (inL a t) (inL b t)))
  (xzH S J U Q (by omega) keep a b hp) (0,0,0,0,0,[]) ⟨[],0,0,rfl,Int.le_refl _,by omega,zP _,fun m _ h=>by omega,fun m h _=>(J _ (zn h)).1,xrG _,by simp⟩
 refine ⟨out,?_,O.span,O.done⟩;have v3:xug keep (a.map encP) (b.map encP)=some (out.length,out.map encP):=by unfold xug;rw [hS];exact hr
 have v2:xuf keep (a.map encP) (b.map encP)=(out.length,out.map encP):=by unfold xuf;rw [v3];rfl
 have v0:xue keep (a.map encP) (b.map encP)=out.length:=by unfold xue;rw [v2]
 have v1:xud keep (a.map encP) (b.map encP)=out.map encP:=by unfold xud;rw [v2]
 have d1:0+out.length<=out.length:=by omega
 unfold swG xEs;rw [hS,v3,v0,v1,z8,decide_eq_true d1,zq,zh (by rw [z8];exact zb _)]
 rfl
theorem xBf (a b:List AV):xoH a b=swG xku a b:=rfl
theorem xEq (a:List Per) (ha:a.length<=1073741824):∃ r:List Per,xkt (a.map encP)=some (r.map encP)/\IsSpan r/\∀ t,inL r t=inL a t:=by
 obtain ⟨r,h1,h2,h3⟩:=xCV xku a [] ha (by simp)
 refine ⟨r,?_,h2,fun t=>?_⟩
 . unfold xkt xrQ;rw [xBf,show ([]:List AV)=([]:List Per).map encP from rfl,h1];rfl
 . rw [h3 t];cases hc:inL a t with
   | false=>simp [xku,xbH,sUF]
   | true=>have:=xr4 hc;simp [xku,xbH,this,sUF]
theorem xBe (a b:List AV):xoG a b=swG xdy a b:=rfl
theorem xye (a b:List Per) (ha:a.length<=1073741824) (hb:b.length<=1073741824) :
  ∃ r:List Per,xgC (a.map encP) (b.map encP)=some (r.map encP)/\IsSpan r/\∀ t,inL r t=(inL a t&&inL b t):=by
 obtain ⟨r,h1,h2,h3⟩:=xCV xdy a b ha hb;refine ⟨r,?_,h2,fun t=>?_⟩
 . unfold xgC xkf;rw [xBe,h1];rfl
 . rw [h3 t];cases hc:inL a t with
   | false=>simp [xdy,xbH,sUF]
   | true=>have:=xr4 hc;simp [xdy,xbH,this,sUF]
end Go.Sim.M
end
noncomputable section
set_option maxRecDepth 100000
namespace Go.Sim.M
open Go.RowKit Go.Sim.Srt
abbrev Asc (l:List Int):Prop:=l.Pairwise fun x y=>x<y
def insI:List Int->Int->List Int
 | [],n=>[n]
 | x::l,n=>if x<n then x::insI l n else if n<x then n::x::l else x::l
theorem xqm:∀ (l:List Int) (n x:Int),x∈insI l n↔x=n\/x∈l
 | [],n,x=>by simp [insI]
 | y::l,n,x=>by
  unfold insI;split
  . rw [zB,xqm l n x,zB];constructor<;>rintro (h|h|h)<;>simp [h]
  . split
    . simp
    . have:y=n:=by omega
      subst this;simp
theorem xsx:∀ {l:List Int},Asc l->∀ n,Asc (insI l n)
 | [],_,n=>by simp [insI,Asc]
 | y::l,h,n=>by
  obtain ⟨h1,h2⟩:=zL.1 h;unfold insI;split
  . refine zL.2 ⟨fun z hz=>?_,xsx h2 n⟩
    rcases (xqm l n z).1 hz with rfl|hz
    . assumption
    . exact h1 z hz
  . split
    . rename_i hn;refine zL.2 ⟨fun z hz=>?_,h⟩
      rcases zB.1 hz with rfl|hz
      . exact hn
      . have:=h1 z hz;omega
    . exact h
theorem xn3:∀ (l:List Int) (n:Int),(insI l n).length<=l.length+1
 | [],n=>by simp [insI]
 | y::l,n=>by
  unfold insI;have:=xn3 l n;repeat' split
  all_goals simp
  all_goals omega
theorem xyc (n:Int):∀ l:List Int,∃ m,m<=l.length/\(∀ k (h:k<m) (h2:k<l.length),l[k]<n)/\(∀ h:m<l.length,¬ l[m]<n)/\insI l n=l.take m++(if h:m<l.length then (if n<l[m] then n::l.drop m else l.drop m) else [n])
 | []=>⟨0,zb _,fun k h=>by omega,fun h=>by simp at h,by simp [insI]⟩
 | y::l=>by
  by_cases hy:y<n
  . obtain ⟨m,h1,h2,h3,h4⟩:=xyc n l;refine ⟨m+1,by simpa using h1,fun k h hk=>?_,fun h=>?_,?_⟩
    . cases k with
      | zero=>simpa using hy
      | succ k=>simpa using h2 k (by omega) (by simpa using hk)
    . simpa using h3 (by simpa using h)
    . unfold insI;rw [if_pos hy,h4];by_cases hm:m<l.length<;>simp [hm]
  . refine ⟨0,zP _,fun k h=>by omega,fun _=>by simpa using hy,?_⟩
    unfold insI;rw [if_neg hy];by_cases h:n<y<;>simp [h]
structure StepI (N:Int->Int) (T:Int) (S:List Per):Prop where
 asc:S.Pairwise fun a b=>a.1<b.1
 mem:∀ s,s∈S↔0<=s.1/\s.1<T/\s.2=N s.1/\(s.1=0\/N (s.1 - 1)≠s.2)
 last:0<T->∃ S' f,S=S'++[(f,N (T - 1))]
theorem StepI.nil (N:Int->Int):StepI N 0 []:=⟨List.Pairwise.nil,fun s=>by simp;omega,fun h=>by omega⟩
def putS (S:List Per) (f n:Int):List Per:=match S.getLast? with
 | some s=>if s.2=n then S else S++[(f,n)]
 | none=>S++[(f,n)]
theorem StepI.unique {N:Int->Int} {T:Int} {S S':List Per} (h:StepI N T S) (h':StepI N T S'):S=S' :=
 xq5 xGs xo2 (h.asc.imp fun {x y} q=>by
  have h1:cmpP x y<=0:=xr0.2 (.inl q);by_cases h0:cmpP x y=0
  . have:=xo2 x y h0;subst this;omega
  . omega) (h'.asc.imp fun {x y} q=>by
  have h1:cmpP x y<=0:=xr0.2 (.inl q);by_cases h0:cmpP x y=0
  . have:=xo2 x y h0;subst this;omega
  . omega) fun s=>by rw [h.mem,h'.mem]
theorem StepI.put {N:Int->Int} {T T':Int} {S:List Per} (h:StepI N T S) (h0:0<=T) (q:T<T') (hc:∀ t,T<=t->t<T'->N t=N T):StepI N T' (putS S T (N T)):=by
 rcases Int.lt_or_eq_of_le h0 with hp|hz
 . obtain ⟨S',f,rfl⟩:=h.last hp;unfold putS;rw [List.getLast?_append];simp only [List.getLast?_singleton,Option.some_or];by_cases he:N (T - 1)=N T
   . rw [if_pos he];refine ⟨h.asc,fun s=>?_,fun _=>⟨S',f,by rw [he,hc (T' - 1) (by omega) (by omega)]⟩⟩
     rw [h.mem];constructor
     . rintro ⟨a,b,c,d⟩;exact ⟨a,by omega,c,d⟩
     . rintro ⟨a,b,c,d⟩;refine ⟨a,?_,c,d⟩;rcases Int.lt_or_le s.1 T with hs|hs
       . exact hs
       . exfalso;have e1:=hc s.1 hs b;rcases d with d|d
         . omega
         . rcases Int.lt_or_eq_of_le hs with h2|h2
           . have e2:=hc (s.1 - 1) (by omega) (by omega)
             exact d (by rw [e2,c,e1])
           . rw [<-h2] at d c;exact d (by rw [he,c])
   . rw [if_neg he];refine ⟨?_,fun s=>?_,fun _=>⟨_,T,by rw [hc (T' - 1) (by omega) (by omega)]⟩⟩
     . rw [List.pairwise_append];refine ⟨h.asc,List.pairwise_singleton _ _,fun a ha b hb=>?_⟩
       simp only [zu] at hb;subst hb;exact ((h.mem a).1 ha).2.1
     . rw [zF,h.mem,zu];constructor
       . rintro (⟨a,b,c,d⟩|rfl)
         . exact ⟨a,by omega,c,d⟩
         . exact ⟨h0,q,rfl,.inr he⟩
       . rintro ⟨a,b,c,d⟩;rcases Int.lt_or_le s.1 T with hs|hs
         . exact .inl ⟨a,hs,c,d⟩
         . right;have e1:=hc s.1 hs b;rcases Int.lt_or_eq_of_le hs with h2|h2
           . exfalso;have e2:=hc (s.1 - 1) (by omega) (by omega)
             rcases d with d|d
             . omega
             . exact d (by rw [e2,c,e1])
           . exact Prod.ext h2.symm (by rw [c,e1])
 . subst hz;have hS:S=[]:=by
    rw [List.eq_nil_iff_forall_not_mem];intro s hs;have:=(h.mem s).1 hs;omega
   subst hS;refine ⟨by simp [putS],fun s=>?_,fun _=>⟨[],0,by simp [putS];exact (hc (T' - 1) (by omega) (by omega)).symm⟩⟩
   simp only [putS,List.getLast?_nil,zT,zu];constructor
   . rintro rfl;exact ⟨Int.le_refl _,q,rfl,.inl rfl⟩
   . rintro ⟨a,b,c,d⟩;have e1:=hc s.1 a b;rcases Int.lt_or_eq_of_le a with h2|h2
     . exfalso;have e2:=hc (s.1 - 1) (by omega) (by omega)
       rcases d with d|d
       . omega
       . exact d (by rw [e2,c,e1])
     . exact Prod.ext h2.symm (by rw [c,e1])
theorem xDW (S:List Per) (f n:Int):(putS S f n).length<=S.length+1:=by
 unfold putS;repeat' split
 all_goals simp
def sumC (l:List Cnt) (t:Int):Int:=(l.map fun c=>if hasP c.1 t=true then c.2 else 0).sum
theorem xvX (c:Cnt) (l:List Cnt) (t:Int):sumC (c::l) t=(if hasP c.1 t=true then c.2 else 0)+sumC l t:=by simp [sumC]
theorem xCT (ps:List Per) (t:Int):sumC (ps.map fun p=>(p,(1:Int))) t=(ps.countP (hasP · t):Nat):=by
 induction ps with
 | nil=>rfl
 | cons p ps ih =>
  rw [zU,xvX,ih,List.countP_cons];split<;>simp_all<;>omega
theorem xGB (l:List Int) (n:Int) (hl:l.length<=1048576) (m:Nat) (hm:m<=l.length) (h1:∀ k (h:k<m) (h2:k<l.length),l[k]<n) (h2:∀ h:m<l.length,¬ l[m]<n) :
  Iter (xb4 (l.map encN) n) ((0:Nat),(0:Int),[])=some (m,(m:Int),(l.take m).map encN):=by
 refine xn5 (fun k=>((k,(k:Int),(l.take k).map encN):Nat×Int×List AV)) m _ (fun k hk=>?_) ?_ m 0 (by omega)
 . have q:k<l.length:=by omega
   have i1:(k:Int)<(l.length:Int):=by omega
   have i2:=h1 k hk q;have m1:(k+1)*8<=140737488355328:=by omega
   have m2:k+1<=4611686018427387904:=by omega
   have tl:(l.take k).length=k:=by rw [zr];omega
   have gf:(l.map encN).getD k .top=encN l[k]:=xaa _ _ _ q;simp only [xb4,xgg,sBU,q,i1,i2,gf,cN,sN,tl,m1,m2,xHP (n:=k) (by omega)]
   rw [List.take_add_one,zd q,zw];rfl
 . by_cases hml:m<l.length
   . have i1:(m:Int)<(l.length:Int):=by omega
     have i2:=h2 hml;have gf:(l.map encN).getD m .top=encN l[m]:=xaa _ _ _ hml;simp only [xb4,xgg,sBU,hml,i1,i2,gf,cN,sN]
   . have i1:¬ (m:Int)<(l.length:Int):=by omega
     simp only [xb4,xgg,sBU,i1]
theorem xyd (l:List Int) (hl:l.length<=1048576):∀ (d i:Nat) (D:List Int),i+d=l.length->D.length<=1048576+i ->
  Iter (xb5 (l.map encN)) (D.length,(i:Int),D.map encN)=some ((D++l.drop i).length,(D++l.drop i).map encN)
 | 0,i,D,h,hD=>by
  obtain rfl:i=l.length:=by omega
  rw [zp (zb _),zC];refine xam ?_;simp only [xb5,xjd,z8,zx,zl,xah,sUF]
 | d+1,i,D,h,hD=>by
  have q:i<l.length:=by omega
  have i1:(i:Int)<(l.length:Int):=by omega
  have m1:(D.length+1)*8<=140737488355328:=by omega
  have m2:D.length+1<=4611686018427387904:=by omega
  have gf:(l.map encN).getD i .top=encN l[i]:=xaa _ _ _ q;rw [xaF (s':=((D++[l[i]]).length,((i+1:Nat):Int),(D++[l[i]]).map encN)) ?_,xyd l hl d (i+1) (D++[l[i]]) (by omega) (by rw [z7];simp;omega),xfD q,zv]
  . rfl
  . simp only [xb5,xjd,sBU,q,i1,gf,cN,sN,m1,m2,xHP (n:=i) (by omega)]
    simp [encN]
theorem xvh (l:List Int) (n:Int) (hl:l.length<=1048576):xe6 (l.map encN) n=some ((insI l n).map encN):=by
 obtain ⟨m,hm,h1,h2,h3⟩:=xyc n l;have e0:=xGB l n hl m hm h1 h2;have tl:(l.take m).length=m:=by rw [zr];omega
 have e1:=xyd l hl (l.length - m) m (l.take m++[n]) (by omega) (by rw [z7,tl];simp;omega)
 have e2:=xyd l hl (l.length - m) m (l.take m) (by omega) (by omega)
 rw [z7,tl,zw] at e1;rw [tl] at e2;have e1:Iter (xb5 (l.map encN)) (m+1,(m:Int),(l.take m).map encN++[AV.int .i64 n])=some ((l.take m++[n]++l.drop m).length,(l.take m++[n]++l.drop m).map encN):=e1;have m1:(m+1)*8<=140737488355328:=by omega
 have m2:m+1<=4611686018427387904:=by omega
 rw [h3];unfold xe6 xp4 xj9;by_cases hml:m<l.length
 . have i1:((m:Int)==(l.length:Int))=false:=by simp;omega
   have i2:(m:Int)<(l.length:Int):=by omega
   have gf:(l.map encN).getD m .top=encN l[m]:=xaa _ _ _ hml;rw [dif_pos hml];by_cases hn:n<l[m]
   . have i3:l[m]>n:=hn;simp only [xa5,xfG,xfH,xfI,xh1,xfJ,xfK,xfL,xfM,xfN,xdp,xgZ,xdq,xdr,xe7,xe8,e0,zj,zg,z8,i1,i2,hml,gf,cN,sN,i3,m1,m2,tl,e1,sBU,sOO,↓reduceIte,zv,List.singleton_append]
   . have i3:¬ l[m]>n:=hn;simp only [xa5,xfG,xfH,xfI,xh1,xfJ,xfK,xfL,xfM,xfN,xdp,xgZ,xdq,xdr,xe7,xe8,e0,zj,zg,z8,i1,i2,hml,gf,cN,sN,i3,e2,sBU,sOO,↓reduceIte]
 . have i1:((m:Int)==(l.length:Int))=true:=by simp;omega
   rw [dif_neg hml];have hd:l.drop m=[]:=zp (by omega)
   rw [hd,zC] at e1;simp only [xa5,xfG,xfH,xfI,xh1,xfJ,xfK,xfL,xfM,xfN,xdp,xgZ,xdq,xdr,xe7,xe8,e0,zj,zg,z8,i1,m1,m2,tl,e1,sBU,sOO]
theorem xnO {α:Type} (l:List α):l=[]\/∃ m a,l=m++[a]:=by
 rcases List.eq_nil_or_concat l with h|⟨m,a,h⟩
 . exact .inl h
 . exact .inr ⟨m,a,by rw [h,List.concat_eq_append]⟩
theorem xE7 (S:List Per) (f n:Int) (hS:S.length<=16777216):∃ p,xpd S.length f n (S.map encP)=some p/\br p.1 p.2.1.1 p.2.2.1=(putS S f n).length/\br p.1 p.2.1.2 p.2.2.2=(putS S f n).map encP:=by
 have m1:(S.length+1)*16<=140737488355328:=by omega
 have m2:S.length+1<=4611686018427387904:=by omega
 rcases xnO S with rfl|⟨S',s,rfl⟩
 . refine ⟨(false,(0,[]),(1,[encP (f,n)])),?_,rfl,rfl⟩;unfold xpd xmz xhy;simp [xbH,encP,sUF]
 . have hk:IntKind.i64.wrap (((S'++[s]).length:Int) - 1)=((S'.length:Nat):Int):=by
    rw [z7,xdC (by simp<;>omega) (by simp at hS |-<;>omega)];simp
   have g1:((S'++[s]).length:Int)>0:=by simp<;>omega
   have g2:(S'.length:Int)<((S'++[s]).length:Int):=by simp<;>omega
   have g3:S'.length<(S'++[s]).length:=by simp
   have gf:((S'++[s]).map encP).getD S'.length .top=encP s:=by
    rw [xaa _ _ _ (by simp)];simp
   have hl:(S'++[s]).getLast?=some s:=by simp
   by_cases he:s.2=n
   . refine ⟨(true,((S'++[s]).length,(S'++[s]).map encP),(0,[])),?_,?_,?_⟩
     . unfold xpd xmz xhy;simp only [hk,g1,g2,g3,gf,sBU,cP0,cP1,lP,sP,sP0,sP1,he]
     . simp only [xae,putS,hl,if_pos he,sUF]
     . simp only [xae,putS,hl,if_pos he,sUF]
   . have he':(s.2==n)=false:=by simp [he]
     refine ⟨(false,(0,[]),((S'++[s]).length+1,(S'++[s]).map encP++[encP (f,n)])),?_,?_,?_⟩
     . unfold xpd xmz xhy;simp only [hk,g1,g2,g3,gf,sBU,cP0,cP1,lP,sP,sP0,sP1,he',m1,m2];rfl
     . simp only [xah,putS,hl,if_neg he,sUF];simp
     . simp only [xah,putS,hl,if_neg he,sUF];simp
def Tame (l:List Cnt):Prop:=l.length<=262144/\∀ c,c∈l->-1099511627776<=c.2/\c.2<=1099511627776
end Go.Sim.M
end
noncomputable section
set_option maxRecDepth 100000
namespace Go.Sim.M
open Go.RowKit Go.Sim.Srt Go.Sort
def chg (c:Cnt):List Per:=if pv c.1=true then [(c.1.1,c.2),(c.1.2,-c.2)] else []
theorem xzP {l:List Cnt}:∀ s,s∈l.flatMap chg->0<=s.1/\s.1<=1099511627776:=fun s hs=>by
 obtain ⟨c,hc,h⟩:=y2.1 hs;unfold chg at h;split at h
 . rename_i hv;have:=xch.1 hv;simp only [zB,List.not_mem_nil,or_false] at h;rcases h with rfl|rfl<;>dsimp only<;>omega
 . simp at h
theorem xEL (c:Cnt):(chg c).length<=2:=by unfold chg;split<;>simp
def sumS (S:List Per) (t:Int):Int:=(S.map fun s=>if s.1<=t then s.2 else 0).sum
theorem xsJ (a b:List Per) (t:Int):sumS (a++b) t=sumS a t+sumS b t:=by simp [sumS]
theorem xD8 {a b:List Int} (h:a.Perm b):a.sum=b.sum:=by
 induction h with
 | nil=>rfl
 | cons x _ ih=>simp [ih]
 | swap x y l=>simp;omega
 | trans _ _ h1 h2=>rw [h1,h2]
theorem xCU {a b:List Per} (h:a.Perm b) (t:Int):sumS a t=sumS b t:=xD8 (h.map _)
theorem xyQ (t:Int):∀ l:List Cnt,sumS (l.flatMap chg) t=sumC l t
 | []=>rfl
 | c::l=>by
  rw [zQ,xsJ,xyQ t l,xvX];congr 1;unfold chg;cases hv:pv c.1 with
  | false=>simp [sumS,hasP,hv]
  | true =>
   have:=xch.1 hv;simp only [if_true,sumS,zU,zV,List.sum_cons,List.sum_nil,hasP,hv,Bool.true_and,ze,zk];by_cases h1:c.1.1<=t<;>by_cases h2:c.1.2<=t
   . rw [if_pos h1,if_pos h2,if_neg (by omega)];omega
   . rw [if_pos h1,if_neg h2,if_pos (by omega)];omega
   . omega
   . rw [if_neg h1,if_neg h2,if_neg (by omega)];omega
theorem sum0:∀ L:List Per,(L.map fun _=>(0:Int)).sum=0
 | []=>rfl
 | _::L=>by rw [zU,List.sum_cons,sum0 L];rfl
def preS (S:List Per) (i:Nat):Int:=((S.take i).map (·.2)).sum
theorem xvH (S:List Per) (i:Nat) (h:i<S.length):preS S (i+1)=preS S i+S[i].2:=by
 unfold preS;rw [List.take_add_one,zd h,zw,List.sum_append];simp
theorem xDS (S:List Per) (i:Nat) (hi:i<=S.length) (t:Int) (h1:∀ k (h:k<S.length),k<i->S[k].1<=t) (h2:∀ k (h:k<S.length),i<=k->t<S[k].1):preS S i=sumS S t:=by
 have e:S=S.take i++S.drop i:=(List.take_append_drop i S).symm
 conv=>rhs;rw [e]
 rw [xsJ];have a1:sumS (S.take i) t=preS S i:=by
  unfold sumS preS;congr 1;refine List.map_congr_left fun s hs=>?_
  obtain ⟨k,hk,rfl⟩:=zo.1 hs;rw [zr] at hk;rw [List.getElem_take,if_pos (h1 k (by omega) (by omega))]
 have a2:sumS (S.drop i) t=0:=by
  unfold sumS;have:(S.drop i).map (fun s=>if s.1<=t then s.2 else 0)=(S.drop i).map fun _=>(0:Int):=by
   refine List.map_congr_left fun s hs=>?_
   obtain ⟨k,hk,rfl⟩:=zo.1 hs;rw [zZ] at hk;have:=h2 (i+k) (by omega) (by omega)
   rw [List.getElem_drop,if_neg (by omega)]
  rw [this];exact sum0 _
 omega
theorem xyz {B:Int} (hB:0<=B) (S:List Per) (h:∀ s,s∈S->-B<=s.2/\s.2<=B):∀ i,i<=S.length->-(B*i)<=preS S i/\preS S i<=B*i
 | 0,_=>by simp [preS]
 | i+1,hi=>by
  have ih:=xyz hB S h i (by omega)
  have hs:=h S[i] (zn (by omega))
  rw [xvH S i (by omega),show B*((i+1:Nat):Int)=B*(i:Int)+B by rw [Int.natCast_add,Int.mul_add];simp]
  omega
def toS (e:Per):TyS:=(Fin.ofNat 1099511627777 e.1.toNat,e.2)
def ofS (x:TyS):Per:=((x.1.val:Int),x.2)
theorem xEZ {e:Per} (h1:0<=e.1) (h2:e.1<=1099511627776):ofS (toS e)=e:=by
 have:e.1.toNat % 1099511627777=e.1.toNat:=Nat.mod_eq_of_lt (by omega)
 simp only [ofS,toS,Fin.ofNat,this,Int.toNat_of_nonneg h1]
theorem xFk (E:List Per) (h:∀ e,e∈E->0<=e.1/\e.1<=1099511627776):(E.map encP).all isS=true/\∃ S:List Per,srtS (E.map encP)=S.map encP/\S.Perm E/\S.Pairwise fun x y=>x.1<=y.1:=by
 refine ⟨?_,(pdqL cmpS (E.map toS)).map ofS,?_,?_,?_⟩
 . rw [zH];intro x hx;obtain ⟨e,he,rfl⟩:=zJ.1 hx;have:=h e he;show (decide _&&decide _)=true;rw [decide_eq_true this.1,decide_eq_true this.2];rfl
 . unfold srtS;have e1:(E.map encP).map decS=E.map toS:=by rw [List.map_map];rfl
   rw [e1,List.map_map];rfl
 . have hp:=((xmL cmpS swoS (E.map toS)).1).map ofS;have e2:(E.map toS).map ofS=E:=by
    rw [List.map_map]
    conv=>rhs;rw [<-List.map_id E]
    refine List.map_congr_left fun e he=>?_
    exact xEZ (h e he).1 (h e he).2
   rwa [e2] at hp
 . rw [List.pairwise_map];refine (xsz cmpS swoS (E.map toS)).imp fun {x y} q=>?_
   show ((x.1.val:Nat):Int)<=((y.1.val:Nat):Int);unfold cmpS at q;omega
theorem xEW (n o:Nat):xhk n o=xcG n o 0:=rfl
theorem xtl (l:List Cnt) (hl:l.length<=1048576) (ht:∀ c,c∈l->-1099511627776<=c.2/\c.2<=1099511627776):Iter (xdz (l.map encC) ((l.length:Nat):Int)) ((0:Nat),(0:Int),[])=some ((l.flatMap (fun (f:Cnt)=>chg f)).length,(l.flatMap (fun (f:Cnt)=>chg f)).map encP):=by
 refine xn7 l (fun (f:Cnt)=>chg f) encP 2 (fun f hf=>?_) (fun n h D hD=>?_) (fun D=>?_)
 . cases q:(pv (f).1)<;>simp [chg,q]
 . have h1:(n:Int)<(l.length:Int):=by omega
   have m1:(D.length+2)*16<=140737488355328:=by omega
   have m2:D.length+2<=4611686018427387904:=by omega
   have gf:(l.map encC).getD n .top=encC l[n]:=xaa _ _ _ h;have hm:=ht l[n] (zn h);have hw:IntKind.i64.wrap (0 - l[n].2)=-l[n].2:=by rw [xdC (by omega) (by omega)];omega
   simp only [xdz,xjW,sBU,h,h1,gf,cC0,cC1,cC2,lC,sC,sC3,sC2,xkp,hw,m1,m2,xHP (n:=n) (by omega)]
   cases q:(pv (l[n]).1)<;>simp [encP,xae,xah,encR,chg,q,sUF]
 . simp only [xdz,xjW,z8,zx,zl,xah,sUF]
theorem xsZ (S:List Per) (hS:S.length<=1048576) (hb:∀ s,s∈S->-1099511627776<=s.2/\s.2<=1099511627776) (on:Nat) (at':Int) (ox:List AV):∀ (d i:Nat),i+d=S.length->∃ j:Nat,i<=j/\j<=S.length/\(∀ k (h:k<S.length),i<=k->k<j->S[k].1=at')/\(∀ h:j<S.length,S[j].1≠at') /\
  Iter (xcG S.length on at') (preS S i,(i:Int),S.map encP,ox)=some (preS S j,(j:Int),S.map encP,ox)
 | 0,i,h=>by
  refine ⟨i,zb _,by omega,fun k _ h1 h2=>by omega,fun h=>by omega,xam ?_⟩
  have i1:¬ (i:Int)<(S.length:Int):=by omega
  simp only [xcG,xhE,xgO,i1,zl,xah,sUF]
 | d+1,i,h=>by
  have hi:i<S.length:=by omega
  have i1:(i:Int)<(S.length:Int):=by omega
  have gf:(S.map encP).getD i .top=encP S[i]:=xaa _ _ _ hi;by_cases he:S[i].1=at'
  . obtain ⟨j,h1,h2,h3,h4,h5⟩:=xsZ S hS hb on at' ox d (i+1) (by omega)
    refine ⟨j,by omega,h2,fun k hk a b=>?_,h4,?_⟩
    . rcases Nat.lt_or_eq_of_le a with a|a
      . exact h3 k hk a b
      . subst a;exact he
    . have hp:=xyz (B:=1099511627776) (by omega) S hb i (by omega)
      have hs:=hb S[i] (zn hi);rw [xaF (s':=(preS S (i+1),((i+1:Nat):Int),S.map encP,ox)) ?_,h5];simp only [xcG,xhE,xgO,sBU,hi,i1,gf,cP0,cP1,lP,sP,sP0,sP1,he,xHP (n:=i) (by omega),xvH S i hi]
      rw [xdC (by omega) (by omega)]
  . have he':(S[i].1==at')=false:=by simp [he]
    refine ⟨i,zb _,by omega,fun k _ h1 h2=>by omega,fun _=>he,xam ?_⟩
    simp only [xcG,xhE,xgO,sBU,hi,i1,gf,cP0,cP1,lP,sP,sP0,sP1,he']
theorem xj8 (l:List Cnt) (hl:Tame l):∃ S,xhj (l.map encC)=some (S.map encP)/\StepI (sumC l) 1099511627776 S/\S.length<=2*l.length+1:=by
 have au:=hl.1;have e0:=xtl l (by omega) hl.2
 have hE:=xlT (g:=chg) (c:=2) l fun c _=>xEL c
 obtain ⟨ah,S,hS,hp,ap⟩:=xFk (l.flatMap chg) xzP;have ag:S.length=(l.flatMap chg).length:=hp.length_eq;have U:∀ s,s∈S->0<=s.1/\s.1<=1099511627776:=fun s hs=>xzP s (hp.mem_iff.1 hs)
 have hb:∀ s,s∈S->-1099511627776<=s.2/\s.2<=1099511627776:=fun s hs=>by
  obtain ⟨c,hc,h⟩:=y2.1 (hp.mem_iff.1 hs);have:=hl.2 c hc;unfold chg at h;split at h
  . simp only [zB,List.not_mem_nil,or_false] at h;rcases h with rfl|rfl<;>dsimp only<;>omega
  . simp at h
 have hN:∀ t,sumS S t=sumC l t:=fun t=>by rw [xCU hp,xyQ]
 have O:∀ a b (ha:a<S.length) (hb:b<S.length),a<=b->S[a].1<=S[b].1:=fun a b ha hb am=>by
  rcases Nat.lt_or_eq_of_le am with h|h
  . exact zA.1 ap a b ha hb h
  . subst h;exact Int.le_refl _
 let T:Nat->Int:=fun i=>if h:i<S.length then S[i].1 else 1099511627776
 have step:∀ (out:List Per) (i j:Nat) (at':Int),0<=at'->i<=j->j<=S.length->StepI (sumC l) at' out->at'<1099511627776->(∀ k (h:k<S.length),k<i->S[k].1<=at')->(∀ k (h:k<S.length),i<=k->at'<=S[k].1)->(∀ k (h:k<S.length),i<=k->k<j->S[k].1=at')->(∀ h:j<S.length,S[j].1≠at') ->
   preS S j=sumC l at'/\StepI (sumC l) (T j) (putS out at' (preS S j))/\at'<T j/\∀ k (h:k<S.length),k<j->S[k].1<=at':=fun out i j at' h0 aj hj Q hF ad af ao hne=>by
  have a1:∀ k (h:k<S.length),k<j->S[k].1<=at':=fun k h hk=>by
   rcases zI k i with h1|h1
   . exact ad k h h1
   . rw [ao k h h1 hk];exact Int.le_refl _
  have a2:∀ k (h:k<S.length),j<=k->at'<S[k].1:=fun k h hk=>by
   have J:j<S.length:=by omega
   have b1:=af j J aj;have b2:=hne J;have b3:=O j k J h hk;omega
  have hT:at'<T j:=by
   simp only [T];split
   . rename_i h;exact a2 j h (zb _)
   . exact hF
  have ac:∀ t,at'<=t->t<T j->preS S j=sumC l t:=fun t h1 h2=>by
   rw [<-hN];refine xDS S j hj t (fun k h hk=>by have:=a1 k h hk;omega) fun k h hk=>?_
   have J:j<S.length:=by omega
   have b3:=O j k J h hk;simp only [T,dif_pos J] at h2;omega
  have e:=ac at' (Int.le_refl _) hT;refine ⟨e,?_,hT,a1⟩;rw [e];exact Q.put h0 hT fun t h1 h2=>by rw [<-ac t h1 h2,e]
 have ab:∀ (out:List Per) (f n:Int),out.length<=2*l.length+1->∃ p,xco out.length f n (out.map encP)=some p/\br p.1 p.2.1.1 p.2.2.1=(putS out f n).length/\br p.1 p.2.1.2 p.2.2.2=(putS out f n).map encP:=fun out f n h=>xE7 out f n (by omega)
 obtain ⟨j0,_,ak,h3,h4,e1⟩:=xsZ S (by omega) hb 0 0 ([]:List AV) S.length 0 (by omega)
 obtain ⟨_,an,_,aq⟩:=step [] 0 j0 0 (Int.le_refl _) (zP _) ak (.nil _) (by omega) (fun k _ h=>by omega) (fun k h _=>(U _ (zn h)).1) h3 h4
 obtain ⟨p0,ae,Y,W⟩:=ab [] 0 (preS S j0) (by simp)
 have o0:putS [] 0 (preS S j0)=[(0,preS S j0)]:=rfl;obtain ⟨r,hr,out,rfl,Q,ai⟩:=xyf (step:=xdA S.length)
  (fun s=>∃ (out:List Per) (i:Nat),s=(out.length,preS S i,(i:Int),S.map encP,out.map encP)/\i<=S.length/\StepI (sumC l) (T i) out/\out.length<=i+1/\∀ k (h:k<S.length) (hi:i<S.length),k<i->S[k].1<=S[i].1) (fun s=>(S.length - s.2.2.1.toNat)) (fun r=>∃ out:List Per,r=(out.length,out.map encP)/\StepI (sumC l) 1099511627776 out/\out.length<=2*l.length+1)
  (by
   rintro _ ⟨out,i,rfl,hi,aa,ar,ad⟩;by_cases q:i<S.length
   . have i1:(i:Int)<(S.length:Int):=by omega
     have gf:(S.map encP).getD i .top=encP S[i]:=xaa _ _ _ q;have Z:T i=S[i].1:=dif_pos q;by_cases hF:S[i].1<1099511627776
     . left;obtain ⟨j,a1,a2,a3,a4,a5⟩:=xsZ S (by omega) hb out.length S[i].1 (out.map encP) (S.length - i) i (by omega)
       rw [Z] at aa;obtain ⟨b1,b2,b3,b4⟩:=step out i j S[i].1 (U _ (zn q)).1 a1 a2 aa hF (fun k h hk=>O k i h q (by omega)) (fun k h hk=>O i k q h hk) a3 a4
       have aj:i<j:=by
        rcases Nat.lt_or_eq_of_le a1 with h|h
        . exact h
        . subst h;exact absurd rfl (a4 q)
       obtain ⟨p,ae,Y,W⟩:=ab out S[i].1 (preS S j) (by omega)
       have aw:=xDW out S[i].1 (preS S j);refine ⟨((putS out S[i].1 (preS S j)).length,preS S j,(j:Int),S.map encP,(putS out S[i].1 (preS S j)).map encP),?_,⟨_,j,rfl,a2,b2,by omega,fun k h hj hk=>O k j h hj (by omega)⟩,by dsimp only;rw [zM,zM];omega⟩
       simp only [xdA,xhD,xgE,xgF,xgG,xgH,xgI,xgJ,xgK,xgL,xgM,xgN,xf1,xf2,xel,sBU,q,i1,gf,cP0,cP1,lP,sP,sP0,sP1,hF,a5,ae,Y,W]
     . right;have al:S[i].1=1099511627776:=by have:=(U _ (zn q)).2;omega
       refine ⟨(out.length,out.map encP),?_,out,rfl,by rw [<-al,<-Z];exact aa,by omega⟩
       simp only [xdA,xhD,xgE,xgF,xgG,xgH,xgI,xgJ,xgK,xgL,xgM,xgN,xf1,xf2,xel,sBU,q,i1,gf,cP0,cP1,lP,sP,sP0,sP1,hF]
   . right;have i1:¬ (i:Int)<(S.length:Int):=by omega
     have Z:T i=1099511627776:=dif_neg q;refine ⟨(out.length,out.map encP),?_,out,rfl,by rw [<-Z];exact aa,by omega⟩
     simp only [xdA,xhD,xgE,xgF,xgG,xgH,xgI,xgJ,xgK,xgL,xgM,xgN,xf1,xf2,xel,sBU,i1])
  (([(0,preS S j0)]:List Per).length,preS S j0,(j0:Int),S.map encP,([(0,preS S j0)]:List Per).map encP) ⟨[(0,preS S j0)],j0,rfl,ak,an,by simp,fun k h hj hk=>O k j0 h hj (by omega)⟩
 refine ⟨out,?_,Q,ai⟩;have d1:(l.flatMap chg).length<4611686018427387904:=by omega
 have d2:((l.flatMap chg).length).beq (l.flatMap chg).length=true:=Nat.beq_refl _;have e1':Iter (xhk (l.flatMap chg).length 0) ((0:Int),(0:Int),S.map encP,[])=some (preS S j0,(j0:Int),S.map encP,[]):=by
  rw [xEW,<-ag];exact e1
 rw [ag] at hr;unfold xhj xqL;have hp1':xco 0 0 (preS S j0) []=some p0:=ae;rw [o0] at Y W;simp only [xpP,xpQ,xpR,xpS,xpT,xpU,xpV,xpW,xpX,xpY,xoI,xoJ,xoK,xoL,xoM,xiF,xln,xoN,z8,e0,zg,zj,xae,ah,hS,d1,d2,e1',hp1',Y,W,hr,zm,zR,sOO,sUF]
end Go.Sim.M
end
noncomputable section
set_option maxRecDepth 100000
namespace Go.Sim.M
open Go.RowKit Go.Sim.Srt
theorem xCq {ps:List Per} (h:ps.length<=262144):Tame (ps.map fun p=>(p,(1:Int))):=⟨by simpa using h,fun c hc=>by
 obtain ⟨p,_,rfl⟩:=zJ.1 hc;dsimp only;omega⟩
end Go.Sim.M
end
noncomputable section
set_option maxRecDepth 100000
namespace Go.Sim.M
open Go.RowKit Go.Sim.Srt Go.Sort
theorem xDi (ps:List Per) (t:Int) (ht:t<0\/1099511627776<=t):ps.countP (hasP · t)=0:=by
 rw [List.countP_eq_zero];intro p hp h;obtain ⟨h1,h2,h3⟩:=xbe.1 h;have:=xch.1 h1;omega
def mk (r:Row) (P:List Per):List Fc:=P.map fun p=>⟨r,p⟩
theorem xwx (L:Row->List Per):∀ S:List Grp,(S.flatMap fun g=>mk g.1 (L g.1))=facts (S.map (·.1)) L
 | []=>rfl
 | g::S=>by rw [zQ,xwx L S];rfl
theorem xBR (O:List AV) (J q:Int) (row:Row) (hr:row.length<=1048576) (g1:List AV) (P:List Per) (D:List Fc) (hb:D.length+P.length<=2199023255552) (hP:P.length<=1099511627776) :
  Iter (xbs O J q (P.map encP) ((P.length:Nat):Int)) (D.length,(0:Int),D.map encF,row.map encV,g1)=some ((D++mk row P).length,(D++mk row P).map encF):=by
 have key:=xn5 (step:=xbs O J q (P.map encP) ((P.length:Nat):Int)) (fun k=>(((D++mk row (P.take k)).length,((k:Nat):Int),(D++mk row (P.take k)).map encF,row.map encV,g1):Nat×Int×List AV×List AV×List AV)) P.length
  ((D++mk row P).length,(D++mk row P).map encF) (fun k hk=>by
  have i1:(k:Int)<(P.length:Int):=by omega
  have gf:(P.map encP).getD k .top=encP P[k]:=xaa _ _ _ hk;have dl:(D++mk row (P.take k)).length=D.length+k:=by unfold mk;rw [z7,z8,zr];omega
  have m1:(D.length+k+1)*40<=140737488355328:=by omega
  have m2:D.length+k+1<=4611686018427387904:=by omega
  have m3:row.length*32<=140737488355328:=by omega
  have m4:row.length<=4611686018427387904:=by omega
  have tk:List.take row.length (row.map encV)=row.map encV:=zh (by simp)
  have Q:mk row (P.take (k+1))=mk row (P.take k)++[⟨row,P[k]⟩]:=by unfold mk;rw [List.take_add_one,zd hk,zw];rfl
  rw [Q,<-zv];simp only [xbs,xd0,sBU,hk,i1,gf,cP0,cP1,lP,sP,sP0,sP1,dl,m1,m2,m3,m4,zb,tk,zq,xHP (n:=k) (by omega)]
  rw [z7,dl];simp [encF]) (by
  simp only [xbs,xd0,zx,zl,xah,y3,sUF]) P.length 0 (by omega)
 have e0:D++mk row (P.take 0)=D:=by simp [mk]
 rw [e0] at key;exact key
def Bld (l:List Fc):Prop:=Keyed l/\l.length<=1024
theorem cGs (g:Grp):((encG g).cells.getD 1 .top).toList=g.2.map encP:=rfl
theorem lG (g:Grp):((encG g).cells.length==2)=true:=rfl
theorem sG (g:Grp):xIS [Sh.list 3,Sh.list 2] (encG g).cells 0=true:=rfl
theorem xBS (S:List Grp) (hS:S.length<=1024) (hr:∀ g,g∈S->g.1.length<=1048576) (L:Row->List Per) (hL:∀ g,g∈S->xkt (g.2.map encP)=some ((L g.1).map encP)/\(L g.1).length<=1048576) :
  Iter (xbT (S.map encG) ((S.length:Nat):Int)) ((0:Nat),(0:Int),[])=some ((facts (S.map (·.1)) L).length,(facts (S.map (·.1)) L).map encF):=by
 rw [<-xwx];refine xn7 S (fun g=>mk g.1 (L g.1)) encF 1048576 (fun g hg=>by unfold mk;rw [z8];exact (hL g hg).2) (fun n h D hD=>?_) (fun D=>?_)
 . have i1:(n:Int)<(S.length:Int):=by omega
   have gf:(S.map encG).getD n .top=encG S[n]:=xaa _ _ _ h;obtain ⟨e1,e2⟩:=hL _ (zn h);have q:=hr _ (zn h);have el:=xBR (S.map encG) (S.length:Int) (n:Int) S[n].1 q (S[n].2.map encP) (L S[n].1) D (by omega) (by omega)
   simp only [xbT,xdx,xf6,xf7,sBU,h,i1,gf,cG0,cGs,lG,sG,e1,el,xHP (n:=n) (by omega)]
 . simp only [xbT,xdx,zx,zl,xah,sUF]
theorem xBW {R:List Row} {Q:Row->List Per->Prop} (h:∀ r,r∈R->∃ P,Q r P):∃ L:Row->List Per,∀ r,r∈R->Q r (L r):=by
 refine ⟨fun r=>if hr:r∈R then Classical.choose (h r hr) else [],fun r hr=>?_⟩
 show Q r (if hr:r∈R then Classical.choose (h r hr) else [])
 rw [dif_pos hr];exact Classical.choose_spec (h r hr)
theorem xGG (l:List Fc) (h:Bld l):∃ B,xie (l.map encF)=some (B.map encF)/\xH7 l B:=by
 obtain ⟨S,e1,hR,q,O⟩:=xFa l h.1;have hl:=h.2;obtain ⟨L,hL⟩:=xBW (R:=S.map (·.1)) (Q:=fun r P=>xkt ((psOf l r).map encP)=some (P.map encP)/\(IsSpan P/\∀ t,inL P t=decide (0<cnt l r t))/\P.length<=1048576) fun r hr=>by
  have J:=xCy l r;obtain ⟨P,a1,a2,a3⟩:=xEq (psOf l r) (by omega)
  have a4:∀ t,inL P t=decide (0<(psOf l r).countP (hasP · t)):=fun t=>by
   rw [a3,Bool.eq_iff_iff,zk,List.countP_pos_iff];unfold inL;rw [List.any_eq_true]
  refine ⟨P,a1,⟨a2,fun t=>by rw [a4,xyA]⟩,?_⟩
  have:=xuD (k:=0) a2 a4;omega
 have hk:∀ g,g∈S->g.1∈S.map (·.1):=fun g hg=>zJ.2 ⟨g,hg,rfl⟩
 have eb:=xBS S (by omega) (fun g hg=>by
  obtain ⟨f,hf,e,_⟩:=(hR.2 g.1).1 (hk g hg);rw [<-e];exact h.1.1.2 f hf) L (fun g hg=>by
  rw [q g hg];exact ⟨(hL _ (hk g hg)).1,(hL _ (hk g hg)).2.2⟩)
 refine ⟨facts (S.map (·.1)) L,?_,S.map (·.1),L,hR,fun r hr=>(hL r hr).2.1,rfl⟩
 have tt:∀ F:List Fc,List.take F.length (F.map encF)=F.map encF:=fun F=>zh (by simp)
 unfold xie xlR xjx xif;simp only [xhK,xhL,xhM,xhN,e1,zj,zg,xae,z8,eb,zG,zb,zm,zR,zq,tt,sUF]
end Go.Sim.M
end
noncomputable section
set_option maxRecDepth 100000
namespace Go.Sim.M
open Go.RowKit Go.Sim.Srt
theorem xIs {n:Nat} (h:n+1<=4611686018427387904):IntKind.i64.wrap (((n+1:Nat):Int) - 1)=(n:Int):=by rw [xdC (by omega) (by omega)];omega
theorem tkP (p:Per):List.take 1 (encP p).cells=[.int .i64 p.1]:=rfl
theorem dpP (p:Per):List.drop 2 (encP p).cells=[]:=rfl
theorem aggP (a b:Int):AV.agg [.int .i64 a,.int .i64 b]=encP (a,b):=rfl
theorem xw6 {α:Type} (l:List α) (x d:α):(l++[x]).getD l.length d=x:=by simp
theorem xFe {α:Type} (l:List α) (x y:α):(l++[x]).set l.length y=l++[y]:=by simp
theorem xu3 {N:Int->Nat} {a b:Int} (h:∀ t,a<t->t<b->N (t - 1)=N t):∀ (d:Nat) (t:Int),t=a+d->t<b->N t=N a
 | 0,t,e,_=>by rw [e];simp
 | d+1,t,e,hb=>by
  rw [<-h t (by omega) hb]
  exact xu3 h d (t - 1) (by omega) (by omega)
def pos (S:List Per) (i:Nat):Int:=match S[i]? with
 | some s=>s.1
 | none=>1099511627776
theorem xod {S:List Per} {i:Nat} (h:i<S.length):pos S i=S[i].1:=by unfold pos;rw [zd h]
theorem xtY {S:List Per} {i:Nat} (h:S.length<=i):pos S i=1099511627776:=by unfold pos;rw [zy h]
theorem xDQ {N:Int->Nat} {S:List Per} (hS:StepI (fun t=>(N t:Int)) 1099511627776 S) {i:Nat} (hi:i<S.length):0<=pos S i/\pos S i<pos S (i+1)/\pos S (i+1)<=1099511627776/\S[i].2=(N S[i].1:Int)/\∀ t,pos S i<=t->t<pos S (i+1)->N t=N S[i].1:=by
 obtain ⟨m1,m2,m3,_⟩:=(hS.mem S[i]).1 (zn hi);rw [xod hi];have hb:S[i].1<pos S (i+1)/\pos S (i+1)<=1099511627776:=by
  by_cases h:i+1<S.length
  . rw [xod h];have:=zA.1 hS.asc i (i+1) hi h (by omega)
    have:=((hS.mem S[i+1]).1 (zn h)).2.1;omega
  . rw [xtY (by omega)];omega
 refine ⟨m1,hb.1,hb.2,m3,fun t h1 h2=>xu3 (a:=S[i].1) (b:=pos S (i+1)) (fun u u1 u2=>?_) (t - S[i].1).toNat t (by omega) h2⟩
 by_cases e:N (u - 1)=N u
 . exact e
 . have hu:(u,(N u:Int))∈S:=(hS.mem _).2 ⟨by dsimp only;omega,by dsimp only;omega,rfl,.inr (by dsimp only;omega)⟩
   obtain ⟨k,hk,q⟩:=zo.1 hu;have O:S[k].1=u:=by rw [q]
   rcases zI i k with J|J
   . have:i+1<S.length:=by omega
     rw [xod this] at u2;rcases zI (i+1) k with h3|h3
     . have:=zA.1 hS.asc (i+1) k this hk h3;omega
     . obtain rfl:k=i+1:=by omega
       omega
   . rcases zI k i with h3|h3
     . have:=zA.1 hS.asc k i hk hi h3;omega
     . obtain rfl:k=i:=by omega
       omega
theorem xDR {N:Int->Nat} {S:List Per} (hS:StepI (fun t=>(N t:Int)) 1099511627776 S):pos S 0=0:=by
 have h0:((0:Int),(N 0:Int))∈S:=(hS.mem _).2 ⟨by simp,by simp,rfl,.inl rfl⟩
 obtain ⟨k,hk,q⟩:=zo.1 h0;have h:0<S.length:=by omega
 have p0:=((hS.mem S[0]).1 (zn h)).1;rw [xod h];have J:S[k].1=0:=by rw [q]
 rcases zI 0 k with h3|h3
 . have:=zA.1 hS.asc 0 k h hk h3;omega
 . obtain rfl:k=0:=by omega
   exact J
def xHT (out:List Per) (f t:Int):List Per:=match out.getLast? with
 | some p=>if p.2=f then out.dropLast++[(p.1,t)] else out++[(f,t)]
 | none=>out++[(f,t)]
theorem xIp {n:Nat} (h:n<=1099511627776):(n+1)*16<=140737488355328/\n+1<=4611686018427387904/\n*16<=140737488355328/\n<=4611686018427387904:=by omega
theorem xET (out:List Per) (f t:Int) (O:f<t) (J:∀ p,p∈out->p.2<=f) (hl:out.length<=1048576):∃ q,xk7 out.length f t (out.map encP)=some q/\br q.1 q.2.1.1 q.2.2.1=(xHT out f t).length/\br q.1 q.2.1.2.2 q.2.2.2=(xHT out f t).map encP:=by
 rcases xnO out with rfl|⟨o,p,rfl⟩
 . refine ⟨_,rfl,rfl,rfl⟩
 . have hp:=J p (by simp)
   have L:(o++[p]).length=o.length+1:=by simp
   rw [L] at hl;have w1:IntKind.i64.wrap (((o.length+1:Nat):Int) - 1)=(o.length:Int):=xIs (by omega)
   have i1:((o.length+1:Nat):Int)>0:=by omega
   have i2:(o.length:Int)<((o.length+1:Nat):Int):=by omega
   have i3:(o.length:Int)<=((o.length+1:Nat):Int):=by omega
   have i4:o.length<o.length+1:=by omega
   have i5:o.length<=o.length+1:=by omega
   have gl:((o++[p]).map encP).getD o.length .top=encP p:=by
    rw [zw];have:=xw6 (o.map encP) (encP p) .top;rwa [z8] at this
   have tl:List.take o.length ((o++[p]).map encP)=o.map encP:=by
    rw [zw];exact List.take_left' (by simp)
   obtain ⟨m1,m2,m3,m4⟩:=xIp (n:=o.length) (by omega)
   obtain ⟨m5,m6,_,_⟩:=xIp (n:=o.length+1) (by omega)
   have jn:xHT (o++[p]) f t=if p.2=f then o++[(p.1,t)] else o++[p]++[(f,t)]:=by
    unfold xHT;simp
   by_cases he:p.2=f
   . have c1:p.2>=f:=by omega
     have c2:t>p.2:=by omega
     rw [jn,if_pos he,L];refine ⟨(true,(o.length+1,(o++[p]).map encP,o.map encP++[encP (p.1,t)]),(0,[])),?_,by simp [xae,sUF],by simp [xae,sUF]⟩
     unfold xk7 xoj xiZ xhv xcz xjM xjN xhw xjO;simp only [sBU,L,w1,i1,i2,i3,i4,i5,gl,cP0,cP1,lP,sP,sP0,sP1,c1,c2,tl,zq,m1,m2,m3,m4,if_true,aggP]
   . have c1:¬ p.2>=f:=by omega
     rw [jn,if_neg he,L];refine ⟨(false,(0,[],[]),(o.length+1+1,(o++[p]).map encP++[encP (f,t)])),?_,by simp [xah,sUF],by simp [xah,sUF]⟩
     unfold xk7 xoj xiZ xhv xcz xjM xjN xhw xjO;simp only [sBU,L,w1,i1,i2,i3,i4,gl,cP0,cP1,lP,sP,sP0,sP1,c1,m5,m6,aggP]
theorem xvl {out:List Per} {f t:Int} {K:Int->Bool} (h:OutOk out f K) (h0:0<=f) (J:f<t) (hF:t<=1099511627776) (hK:∀ u,f<=u->u<t->K u=true):OutOk (xHT out f t) t K/\(xHT out f t).length<=out.length+1:=by
 rcases xnO out with rfl|⟨o,p,rfl⟩
 . exact ⟨h.add h0 J hF hK (fun p hp=>by simp at hp),by simp [xHT]⟩
 . have jn:xHT (o++[p]) f t=if p.2=f then o++[(p.1,t)] else o++[p]++[(f,t)]:=by unfold xHT;simp
   rw [jn];by_cases he:p.2=f
   . rw [if_pos he];exact ⟨h.ext he J hF hK,by simp⟩
   . rw [if_neg he];refine ⟨h.add h0 J hF hK (fun q hq e=>?_),by simp⟩
     rcases zF.1 hq with hq|hq
     . have:=(List.pairwise_append.1 h.span.2).2.2 q hq p (by simp)
       have hv:=xch.1 (h.span.1 p (by simp))
       have:=h.low p (by simp)
       omega
     . rw [zu] at hq;subst hq;exact he e
theorem xuI {N:Int->Nat} {S:List Per} (hS:StepI (fun t=>(N t:Int)) 1099511627776 S) (hl:S.length<=524289) (n:Int):∀ (d i:Nat) (out:List Per),i+d=S.length->OutOk out (pos S i) (fun t=>decide (n<=(N t:Int)))->out.length<=i ->
  ∃ q:List Per,Iter (xal (S.map encP) n (S.map encP) ((S.length:Nat):Int)) (out.length,(i:Int),out.map encP)=some (q.length,q.map encP)/\OutOk q 1099511627776 (fun t=>decide (n<=(N t:Int)))/\q.length<=S.length
 | 0,i,out,h,ho,hn=>by
  obtain rfl:i=S.length:=by omega
  rw [xtY (zb _)] at ho;refine ⟨out,xam ?_,ho,hn⟩;simp only [xal,xaH,xaA,xaB,z8,zx,zl,xah,sUF]
 | d+1,i,out,h,ho,hn=>by
  have hi:i<S.length:=by omega
  obtain ⟨p1,p2,p3,p4,p5⟩:=xDQ hS hi;have pe:=xod hi;have i1:(i:Int)<(S.length:Int):=by omega
  have gf:(S.map encP).getD i .top=encP S[i]:=xaa _ _ _ hi;have wi:IntKind.i64.wrap ((i:Int)+1)=((i+1:Nat):Int):=xHP (by omega)
  obtain ⟨m1,m2,m3,m4⟩:=xIp (n:=out.length) (by omega)
  by_cases Q:n<=S[i].2
  . have hK:∀ t,pos S i<=t->t<pos S (i+1)->(fun t=>decide (n<=(N t:Int))) t=true:=fun t t1 t2=>by
     dsimp only;rw [p5 t t1 t2,<-p4];exact decide_eq_true Q
    obtain ⟨j1,j2⟩:=xvl ho p1 p2 p3 hK;obtain ⟨q,e',x1,x2⟩:=xuI hS hl n d (i+1) (xHT out (pos S i) (pos S (i+1))) (by omega) j1 (by omega)
    refine ⟨q,(xaF (s':=((xHT out (pos S i) (pos S (i+1))).length,((i+1:Nat):Int),(xHT out (pos S i) (pos S (i+1))).map encP)) ?_).trans e',x1,x2⟩;have O:¬ S[i].2<n:=by omega
    rcases xnO out with rfl|⟨o,p,rfl⟩
    . have i0:¬ ((0:Int)>0):=by omega
      by_cases J:i+1<S.length
      . have i2:((i+1:Nat):Int)<(S.length:Int):=by omega
        have gn:(S.map encP).getD (i+1) .top=encP S[i+1]:=xaa _ _ _ J;rw [xod J,pe];simp only [xal,xaH,xaA,xaB,xaL,xav,xaw,xad,xaM,sBU,i1,i2,hi,J,gf,gn,cP0,cP1,lP,sP,sP0,sP1,O,wi,zV,List.length_nil,Int.natCast_zero,Int.ofNat_zero,i0,xHT,List.getLast?_nil,zT];rfl
      . have i2:¬ ((i+1:Nat):Int)<(S.length:Int):=by omega
        rw [xtY (S:=S) (i:=i+1) (by omega),pe]
        simp only [xal,xaH,xaA,xaB,xaL,xav,xaw,xad,xaM,sBU,i1,i2,hi,gf,cP0,cP1,lP,sP,sP0,sP1,O,wi,zV,List.length_nil,Int.natCast_zero,Int.ofNat_zero,i0,xHT,List.getLast?_nil,zT];rfl
    . have L:(o++[p]).length=o.length+1:=by simp
      rw [L] at m1 m2;have w1:IntKind.i64.wrap (((o.length+1:Nat):Int) - 1)=(o.length:Int):=xIs (by omega)
      have k1:((o.length+1:Nat):Int)>0:=by omega
      have k2:(o.length:Int)<((o.length+1:Nat):Int):=by omega
      have k4:o.length<o.length+1:=by omega
      have gl:((o++[p]).map encP).getD o.length .top=encP p:=by
       rw [zw];have:=xw6 (o.map encP) (encP p) .top;rwa [z8] at this
      have sl:∀ y:AV,((o++[p]).map encP).set o.length y=o.map encP++[y]:=fun y=>by
       rw [zw];have:=xFe (o.map encP) (encP p) y;rwa [z8] at this
      have jn:∀ f t:Int,xHT (o++[p]) f t=if p.2=f then o++[(p.1,t)] else o++[p]++[(f,t)]:=fun f t=>by unfold xHT;simp
      by_cases J:i+1<S.length
      . have i2:((i+1:Nat):Int)<(S.length:Int):=by omega
        have gn:(S.map encP).getD (i+1) .top=encP S[i+1]:=xaa _ _ _ J;rw [xod J,pe,jn];by_cases he:p.2=S[i].1
        . have be:(p.2==S[i].1)=true:=by simpa using he
          rw [if_pos he];simp only [xal,xaH,xaA,xaB,xaL,xav,xaw,xad,xaM,sBU,L,i1,i2,hi,J,gf,gn,cP0,cP1,lP,sP,sP0,sP1,O,wi,w1,k1,k2,k4,gl,be,sl,tkP,dpP];simp [encP]
        . have be:(p.2==S[i].1)=false:=by simpa using he
          rw [if_neg he];simp only [xal,xaH,xaA,xaB,xaL,xav,xaw,xad,xaM,sBU,L,i1,i2,hi,J,gf,gn,cP0,cP1,lP,sP,sP0,sP1,O,wi,w1,k1,k2,k4,gl,be,m1,m2];simp [encP]
      . have i2:¬ ((i+1:Nat):Int)<(S.length:Int):=by omega
        rw [xtY (S:=S) (i:=i+1) (by omega),pe,jn]
        by_cases he:p.2=S[i].1
        . have be:(p.2==S[i].1)=true:=by simpa using he
          rw [if_pos he];simp only [xal,xaH,xaA,xaB,xaL,xav,xaw,xad,xaM,sBU,L,i1,i2,hi,gf,cP0,cP1,lP,sP,sP0,sP1,O,wi,w1,k1,k2,k4,gl,be,sl,tkP,dpP];simp [encP]
        . have be:(p.2==S[i].1)=false:=by simpa using he
          rw [if_neg he];simp only [xal,xaH,xaA,xaB,xaL,xav,xaw,xad,xaM,sBU,L,i1,i2,hi,gf,cP0,cP1,lP,sP,sP0,sP1,O,wi,w1,k1,k2,k4,gl,be,m1,m2];simp [encP]
  . have hK:∀ t,pos S i<=t->t<pos S (i+1)->(fun t=>decide (n<=(N t:Int))) t=false:=fun t t1 t2=>by
     dsimp only;rw [p5 t t1 t2,<-p4];exact decide_eq_false (by omega)
    obtain ⟨q,e',x1,x2⟩:=xuI hS hl n d (i+1) out (by omega) (ho.skip (by omega) hK) (by omega)
    refine ⟨q,(xaF (s':=(out.length,((i+1:Nat):Int),out.map encP)) ?_).trans e',x1,x2⟩;have O:S[i].2<n:=by omega
    by_cases J:i+1<S.length
    . have i2:((i+1:Nat):Int)<(S.length:Int):=by omega
      have gn:(S.map encP).getD (i+1) .top=encP S[i+1]:=xaa _ _ _ J;simp only [xal,xaH,xaA,xaB,xaL,xav,xaw,xad,xaM,sBU,i1,i2,hi,J,gf,gn,cP0,cP1,lP,sP,sP0,sP1,O,wi]
    . have i2:¬ ((i+1:Nat):Int)<(S.length:Int):=by omega
      simp only [xal,xaH,xaA,xaB,xaL,xav,xaw,xad,xaM,sBU,i1,i2,hi,gf,cP0,cP1,lP,sP,sP0,sP1,O,wi]
theorem xE5 {N:Int->Nat} (h0:∀ t,t<0\/1099511627776<=t->N t=0) {S:List Per} (hS:StepI (fun t=>(N t:Int)) 1099511627776 S) (hl:S.length<=524289) (k:Nat):∃ A:List Per,xep (S.map encP) ((k+1:Nat):Int)=some (A.map encP)/\(IsSpan A/\∀ t,inL A t=decide (k<N t))/\A.length<=S.length:=by
 obtain ⟨A,e,a1,a2⟩:=xuI hS hl ((k+1:Nat):Int) S.length 0 [] (by omega) (by rw [xDR hS];exact xrG _) (zb _)
 refine ⟨A,?_,⟨a1.span,fun t=>?_⟩,a2⟩
 . have e:Iter (xal (S.map encP) ((k+1:Nat):Int) (S.map encP) ((S.length:Nat):Int)) ((0:Nat),(0:Int),[])=_:=e;have tt:List.take A.length (A.map encP)=A.map encP:=zh (by simp)
   unfold xep xlm;simp only [xkh,xki,xkj,z8,e,zj,zg,xae,zG,zb,zm,zR,zq,tt,sUF]
 . rw [a1.done];by_cases h1:0<=t
   . by_cases h2:t<1099511627776
     . simp only [h1,h2,zm,Bool.true_and];rw [Bool.eq_iff_iff,zk,zk];omega
     . have:=h0 t (.inr (by omega));simp [h2,this]
   . have:=h0 t (.inl (by omega));simp [h1,this]
theorem xAU {ps:List Per}:(fun t=>sumC (ps.map fun p=>(p,(1:Int))) t)=fun t=>((ps.countP (hasP · t):Nat):Int):=funext fun t=>xCT ps t
def xH2 (ps A:List Per):Prop:=(IsSpan A/\∀ t,inL A t=decide (1<ps.countP (hasP · t)))/\A.length<=2*ps.length+1
theorem xH2.unique {ps A B:List Per} (h:xH2 ps A) (g:xH2 ps B):A=B:=xeY h.1.1 g.1.1 fun t=>by rw [h.1.2,g.1.2]
theorem xvD (ps:List Per) (h:ps.length<=65536):∃ S A:List Per,xhj ((ps.map fun p=>(p,(1:Int))).map encC)=some (S.map encP)/\xep (S.map encP) 2=some (A.map encP)/\xH2 ps A:=by
 obtain ⟨S,h1,h2,h3⟩:=xj8 _ (xCq (ps:=ps) (by omega))
 have h2:StepI (fun t=>((ps.countP (hasP · t):Nat):Int)) 1099511627776 S:=by
  have:=xAU (ps:=ps);rw [<-this];exact h2
 rw [z8] at h3;obtain ⟨A,a1,a2,a3⟩:=xE5 (N:=fun t=>ps.countP (hasP · t)) (xDi ps) h2 (by omega) 1
 exact ⟨S,A,h1,a1,a2,by omega⟩
def life (key:List Int) (pl:List Fc) (K:Row):List Per:=(pl.filter fun y=>decide (pick y.r key=K)).map (·.p)
theorem xqq (key:List Int) (pl:List Fc) (K:Row):(life key pl K).length<=pl.length:=by
 unfold life;rw [z8];exact List.length_filter_le _ _
def xH4 (key:List Int) (pl:List Fc):List En:=pl.foldl (fun es x=>addE es (keyOf (pick x.r key)) x.p) []
theorem xrB (key:List Int) (pl:List Fc) (K:Row):xHS (xH4 key pl) (keyOf K)=life key pl K:=by
 unfold xH4 life;rw [xvr (fun x:Fc=>keyOf (pick x.r key)) (fun x=>x.p)]
 show []++_=_;rw [zT];congr 1;refine List.filter_congr fun x _=>?_
 rw [Bool.eq_iff_iff,beq_iff_eq,zk];exact ⟨fun h=>xuB h,fun h=>by rw [h]⟩
theorem xwI {n:Nat} {s:List UInt8} {p:Per}:∀ {es:List En},(∀ e,e∈es->e.2.length<=n)->∀ e,e∈addE es s p->e.2.length<=n+1
 | [],_,e,he=>by simp only [addE,zu] at he;subst he;simp
 | a::es,h,e,he=>by
  have ha:=h a (by simp)
  rw [addE] at he;cases hc:a.1==s with
  | true =>
   rw [hc] at he;rcases zB.1 he with rfl|he
   . simp;exact ha
   . have:=h e (by simp [he]);omega
  | false =>
   rw [hc] at he;rcases zB.1 he with rfl|he
   . omega
   . exact xwI (fun x hx=>h x (by simp [hx])) e he
theorem xsT (s:List UInt8) (p:Per):∀ (es:List En) (x:List UInt8),x∈(addE es s p).map (·.1)↔x=s\/x∈es.map (·.1)
 | [],x=>by simp [addE]
 | e::es,x=>by
  have ih:=xsT s p es x;rw [addE];cases he:e.1==s with
  | true =>
   have e1:e.1=s:=by simpa using he
   simp only [zU,zB,e1];constructor
   . rintro (h|h)
     . exact .inl h
     . exact .inr (.inr h)
   . rintro (h|h|h)
     . exact .inl h
     . exact .inl h
     . exact .inr h
  | false =>
   simp only [zU,zB,ih];constructor
   . rintro (h|h|h)
     . exact .inr (.inl h)
     . exact .inl h
     . exact .inr (.inr h)
   . rintro (h|h|h)
     . exact .inr (.inl h)
     . exact .inl h
     . exact .inr (.inr h)
theorem xtr (s:List UInt8) (p:Per):∀ {es:List En},(es.map (·.1)).Nodup->((addE es s p).map (·.1)).Nodup
 | [],_=>by simp [addE]
 | e::es,h=>by
  rw [zU,List.nodup_cons] at h;rw [addE];cases he:e.1==s with
  | true=>simp only [zU,List.nodup_cons];exact h
  | false =>
   simp only [zU,List.nodup_cons];refine ⟨fun hm=>?_,xtr s p h.2⟩
   rcases (xsT s p es e.1).1 hm with h1|h1
   . rw [h1] at he;simp at he
   . exact h.1 h1
theorem xvc {α:Type} (k:α->List UInt8) (f:α->Per):∀ (l:List α) (es:List En),(es.map (·.1)).Nodup->((l.foldl (fun es x=>addE es (k x) (f x)) es).map (·.1)).Nodup/\∀ x,x∈(l.foldl (fun es x=>addE es (k x) (f x)) es).map (·.1)↔x∈es.map (·.1)\/∃ a,a∈l/\x=k a
 | [],es,h=>⟨h,fun x=>by simp⟩
 | a::l,es,h=>by
  obtain ⟨h1,h2⟩:=xvc k f l (addE es (k a) (f a)) (xtr _ _ h);rw [List.foldl_cons];refine ⟨h1,fun x=>?_⟩
  rw [h2,xsT];constructor
  . rintro ((h|h)|⟨b,hb,h⟩)
    . exact .inr ⟨a,by simp,h⟩
    . exact .inl h
    . exact .inr ⟨b,by simp [hb],h⟩
  . rintro (h|⟨b,hb,h⟩)
    . exact .inl (.inr h)
    . rcases zB.1 hb with rfl|hb
      . exact .inl (.inl h)
      . exact .inr ⟨b,hb,h⟩
theorem xuE:∀ {es:List En},(es.map (·.1)).Nodup->∀ {e:En},e∈es->xHS es e.1=e.2
 | a::es,h,e,he=>by
  rw [zU,List.nodup_cons] at h;rw [xHS];rcases zB.1 he with rfl|he
  . simp
  . have:(a.1==e.1)=false:=by
     rw [Bool.eq_false_iff];intro hh;exact h.1 (zJ.2 ⟨e,he,(by simpa using hh:a.1=e.1).symm⟩)
    rw [this];exact xuE h.2 he
theorem xtK (key:List Int) (l:List Fc):((xH4 key l).map (·.1)).Nodup/\∀ x,x∈(xH4 key l).map (·.1)↔∃ f,f∈l/\x=keyOf (pick f.r key):=by
 obtain ⟨h1,h2⟩:=xvc (fun x:Fc=>keyOf (pick x.r key)) (fun x=>x.p) l [] List.nodup_nil
 exact ⟨h1,fun x=>by rw [xH4,h2];simp⟩
theorem xrw (key:List Int) (l:List Fc) (e:En):e∈xH4 key l↔∃ f,f∈l/\e=(keyOf (pick f.r key),life key l (pick f.r key)):=by
 obtain ⟨h1,h2⟩:=xtK key l;constructor
 . intro he;obtain ⟨f,hf,h⟩:=(h2 e.1).1 (zJ.2 ⟨e,he,rfl⟩);refine ⟨f,hf,?_⟩;have h3:=xuE h1 he;rw [h,xrB] at h3;exact Prod.ext h h3.symm
 . rintro ⟨f,hf,rfl⟩;obtain ⟨e,he,h⟩:=zJ.1 ((h2 _).2 ⟨f,hf,rfl⟩);have h3:=xuE h1 he;rw [h,xrB] at h3;have:e=(keyOf (pick f.r key),life key l (pick f.r key)):=Prod.ext h h3.symm;rw [<-this];exact he
def encO (p:Per):AV:=encC (p,1)
theorem xDG (ps:List Per):ps.map encO=(ps.map fun p=>(p,(1:Int))).map encC:=by rw [List.map_map];rfl
def xHQ (e:En):AV:=.agg [.str e.1,.list 3 (e.2.map encO)]
theorem xk0 (s:List UInt8):∀ es:List En,mapIx (es.map xHQ) s=ixE es s
 | []=>rfl
 | e::es=>by
  rw [zU,mapIx,ixE,xk0 s es];rfl
theorem xsv (es:List En) (s:List UInt8):xJg (es.map xHQ) s=(ixE es s).isSome:=by unfold xJg;rw [xk0]
theorem xzq {es:List En} {s:List UInt8} {i:Nat} (h:ixE es s=some i):putIx (es.map xHQ) s=i:=by unfold putIx;rw [xk0,h]
theorem xqu {s:List UInt8} {n:Int}:∀ {es:List En} {i:Nat},ixE es s=some i->mapIx ((es.map xHQ).set i (xIb s n)) s=some i
 | [],i,h=>by simp [ixE] at h
 | e::es,i,h=>by
  rw [ixE] at h;split at h
  . cases h;simp [mapIx,xIb,AV.cells,isKey]
  . rename_i he;cases hm:ixE es s with
    | none=>rw [hm] at h;simp at h
    | some j =>
     rw [hm] at h;simp only [Option.map_some,z1] at h;subst h;rw [zU,List.set_cons_succ,mapIx,xqu hm];have:isKey s ((xHQ e).cells.getD 0 .top)=false:=he;rw [this];rfl
theorem xyn {es:List En} {s:List UInt8} {i:Nat} (h:ixE es s=some i) (n:Int) (p:Per):xI2 ((es.map xHQ).set i (xIb s n)) s (.list 3 ((((es.getD i default).2)++[p]).map encO))=(addE es s p).map xHQ:=by
 unfold xI2;rw [xqu h,xuZ h];dsimp only;rw [List.set_set,List.map_set];rfl
theorem xzn {es:List En} {s:List UInt8} (h:ixE es s=none) (p:Per):xI2 (es.map xHQ) s (.list 3 [encO p])=(addE es s p).map xHQ:=by
 unfold xI2;rw [xk0,h,xuY h,zw];rfl
theorem xAy {es:List En} {s:List UInt8} {i:Nat} (h:ixE es s=some i) {n:Nat}:deadR ((es.map xHQ).set i (xIb s (n:Int))) s (n+1)=true:=by
 have hi:i<((es.map xHQ).set i (xIb s (n:Int))).length:=by rw [y1,z8];exact xrt h
 unfold deadR;rw [xqu h];have:((es.map xHQ).set i (xIb s (n:Int))).getD i .top=xIb s (n:Int):=by
  rw [z6,zK (by simpa using hi)];rfl
 dsimp only;rw [this];show (match deadLen (AV.int .i64 (n:Int)) with|some l0=>decide (l0<n+1)|none=>false)=true
 simp [deadLen]
theorem xAw {es:List En} {s:List UInt8} (h:ixE es s=none) (n:Nat):deadR (es.map xHQ) s n=true:=by unfold deadR;rw [xk0,h]
theorem xIF {es:List En} {i:Nat} (h:i<es.length):(es.map xHQ).getD i .top=xHQ (es.getD i default):=by
 rw [xaa _ _ _ h,z6,zd h];rfl
theorem xID (e:En) (a:AV):AV.agg (List.take 1 (xHQ e).cells++[a]++List.drop 2 (xHQ e).cells)=AV.agg [.str e.1,a]:=rfl
theorem xIK (e:En):((xHQ e).cells.getD 1 .top).toList=e.2.map encO:=rfl
theorem xIH (e:En):xJr 3 ((xHQ e).cells.getD 1 .top)=true:=rfl
theorem xIG (e:En):((xHQ e).cells.length==2)=true:=rfl
theorem xIJ (ps:List Per) (f t:Int):ps.map encO++[AV.agg [.int .i64 f,.int .i64 t,.int .i64 1]]=(ps++[(f,t)]).map encO:=by rw [zw];rfl
theorem xDp (s:List UInt8) (n:Int):AV.agg [.str s,.int .i64 n]=xIb s n:=rfl
theorem xAv (p0:List UInt8) (p1 p3 p4:List AV) (key:List Int) (hk:key.length<=1048576) (x:Fc) (ht:Txt x.r) (es:List En) {n:Nat} (hn:n<=1048576) (hb:es.length<=n/\∀ e,e∈es->e.2.length<=n) :
  crowds1 (x.r.map encV) x.p.1 x.p.2 p0 p1 (key.map encN) p3 p4 (es.map xHQ)=some ((addE es (keyOf (pick x.r key)) x.p).map xHQ):=by
 have J:=xuC p0 p1 p3 p4 key x.r hk;have hs:=xB2 ht hk;have hl:(keyOf (pick x.r key)).length<=4611686018427387904:=by have:=ht.len hk;omega
 generalize hK:keyOf (pick x.r key)=K at *;cases hi:ixE es K with
 | none =>
  have m1:es.length<4611686018427387904:=by have:=hb.1;omega
  have d1:=xAw hi 1;have mp:=xzn hi x.p;have mp:xI2 (es.map xHQ) K (.list 3 [AV.agg [.int .i64 x.p.1,.int .i64 x.p.2,.int .i64 1]])=_:=mp;simp only [crowds1,xo5,xkO,xkP,xiN,xdE,xa2,xnE,sBU,J,hs,hl,xsv,hi,Option.isSome_none,m1,d1,mp]
 | some i =>
  have q:=xrt hi;have m1:es.length<4611686018427387904:=by have:=hb.1;omega
  have Q:(es.getD i default).2.length<=n:=hb.2 _ (by rw [z6,zd q];exact zn q)
  have r1:((es.getD i default).2.length+1)*24<=140737488355328:=by omega
  have r2:(es.getD i default).2.length+1<=4611686018427387904:=by omega
  have O:=xzY hi;have d1:=xAy hi (n:=(es.getD i default).2.length);have mp:=xyn hi (((es.getD i default).2.length:Nat):Int) x.p;simp only [crowds1,xo5,xkO,xkP,xiN,xdE,xa2,xnE,sBU,J,hs,hl,xsv,hi,xzq hi,xIF q,q,xIK,xIH,xIG,xID,O,xDp,xIJ,z7,zi,y1,r1,r2,m1,d1];rw [<-mp]
theorem xBZ (p0:List UInt8) (p1 p3 p4:List AV) (key:List Int) (hk:key.length<=1048576) (l:List Fc) (hl:l.length<=1048576) (ht:∀ y,y∈l->Txt y.r) :
  Iter (xdo p0 p1 (key.map encN) p3 p4 (l.map encF) ((l.length:Nat):Int)) ((0:Int),[])=some ((xH4 key l).map xHQ):=by
 refine xrs l (fun es x=>addE es (keyOf (pick x.r key)) x.p) (fun n b=>((n:Int),b.map xHQ)) (fun n b=>b.length<=n/\∀ e,e∈b->e.2.length<=n) (fun n h b hb=>?_) l.length 0 [] (by omega) (by simp) ?_
 . have h1:(n:Int)<(l.length:Int):=by omega
   have gf:(l.map encF).getD n .top=encF l[n]:=xaa _ _ _ h;have hx:=xAv p0 p1 p3 p4 key hk l[n] (ht l[n] (zn h)) b (n:=n) (by omega) hb
   refine ⟨?_,?_,xwI hb.2⟩
   . simp only [xdo,xmt,xkQ,sBU,h,h1,gf,cF0,cF1,cF2,sF0,sF1,sF2,lF,sF12,sF02,hx,xHP (n:=n) (by omega)]
   . have:=xsU (keyOf (pick l[n].r key)) l[n].p b;omega
 . simp only [zq];simp only [xdo,xmt,xkQ,z8,zx,zl,xah,sUF];rfl
def xHX (ps:List Per):List Per:=by
 classical
 exact if h:∃ A,xH2 ps A then Classical.choose h else []
theorem xmI {ps:List Per} (h:ps.length<=65536):xH2 ps (xHX ps):=by
 obtain ⟨S,A,_,_,h3⟩:=xvD ps h;have hx:∃ A,xH2 ps A:=⟨A,h3⟩;unfold xHX;rw [dif_pos hx];exact Classical.choose_spec hx
theorem xAu:xHX []=[]:=(xmI (ps:=[]) (by simp)).unique ⟨⟨xnI,fun t=>by simp [xnS]⟩,by simp⟩
theorem xu4 {ps:List Per} (h:ps.length<=65536):crowdV (ps.map encO)=(xHX ps).map encP/\crowdOk (ps.map encO)=true:=by
 obtain ⟨S,A,h1,h2,h3⟩:=xvD ps h;rw [xDG];unfold crowdV crowdOk;simp only [h1,h2,zg,zj,Bool.and_self,and_true];rw [h3.unique (xmI h)]
theorem xu5 {ps A:List Per} (h:xH2 ps A):A=[]↔∀ t,ps.countP (hasP · t)<=1:=by
 constructor
 . rintro rfl t;have:=h.1.2 t;rw [xnS] at this;have:=of_decide_eq_false this.symm;omega
 . intro h1;exact xqJ h.1.1 fun t=>by rw [h.1.2];exact decide_eq_false (by have:=h1 t;omega)
theorem xqo {es:List En} {k:Nat} (h:k<es.length):keyK (es.map xHQ) k=es[k].1:=by unfold keyK;rw [xaa _ _ _ h];rfl
theorem xyH {es:List En} {k:Nat} (h:k<es.length):rowK (es.map xHQ) k=es[k].2.map encO:=by unfold rowK;rw [xaa _ _ _ h];rfl
theorem xz7 {es:List En} {k:Nat} (h:k<es.length):rowK (es.map xHV) k=es[k].2.map encP:=by unfold rowK;rw [xaa _ _ _ h];rfl
theorem xCf {es:List En} (h:(es.map (·.1)).Nodup):keysD (es.map xHQ)=true:=by
 unfold keysD;rw [zH];intro i hi;rw [zH];intro j hj;rw [List.mem_range,z8] at hi hj;rw [xqo hi,xqo hj];by_cases e:i=j
 . subst e;simp
 . have hne:¬ es[i].1=es[j].1:=fun hh=>by
    rcases Nat.lt_or_gt_of_ne e with q|q
    . exact zA.1 h i j (by simpa using hi) (by simpa using hj) q (by rw [List.getElem_map,List.getElem_map];exact hh)
    . exact zA.1 h j i (by simpa using hj) (by simpa using hi) q (by rw [List.getElem_map,List.getElem_map];exact hh.symm)
   simp [hne]
def PcOk (es:List En):Prop:=∀ e,e∈es->e.1.length<=4611686018427387904/\e.2.length<=65536
theorem xAX {es:List En} (h:(es.map (·.1)).Nodup) (hl:es.length<=65536) (h1:PcOk es):piecesOk (es.map xHQ)=true:=by
 unfold piecesOk;have h2:decide (es.length<4611686018427387904)=true:=decide_eq_true (by omega)
 rw [xCf h,Bool.true_and,z8,h2,Bool.true_and,zH];intro k hk;rw [List.mem_range] at hk;have hm:=h1 _ (zn hk);have h3:xJr 3 (((es.map xHQ).getD k .top).cells.getD 1 .top)=true:=by rw [xaa _ _ _ hk];rfl
 rw [xqo hk,xyH hk,(xu4 hm.2).2,h3,Bool.true_and,Bool.true_and];exact decide_eq_true hm.1
theorem xDL {es:List En} (h1:PcOk es):outC (es.map xHQ)=(es.map fun e=>((e.1,xHX e.2):En)).map xHV:=by
 unfold outC;refine List.ext_getElem (by simp) fun k h2 h3=>?_
 have hk:k<es.length:=by simpa using h2
 rw [List.getElem_map,List.getElem_range,List.getElem_map,List.getElem_map];unfold entC;rw [xqo hk,xyH hk,(xu4 (h1 _ (zn hk)).2).1];rfl
def xHW (key:List Int) (l:List Fc):List En:=(xH4 key l).map fun e=>(e.1,xHX e.2)
theorem xyl {g:List Per->List Per} (h0:g []=[]) (s:List UInt8):∀ es:List En,xHS (es.map fun e=>((e.1,g e.2):En)) s=g (xHS es s)
 | []=>h0.symm
 | e::es=>by
  rw [zU,xHS,xHS,xyl h0 s es];cases e.1==s<;>rfl
theorem xAR (key:List Int) (l:List Fc) (K:Row):xHS (xHW key l) (keyOf K)=xHX (life key l K):=by
 unfold xHW;rw [xyl xAu,xrB]
structure TOk (key:List Int) (l:List Fc):Prop where
 key:key.length<=1048576
 len:l.length<=65536
 txt:∀ y,y∈l->Txt y.r
theorem TOk.pc {key:List Int} {l:List Fc} (h:TOk key l):PcOk (xH4 key l):=fun e he=>by
 obtain ⟨f,hf,rfl⟩:=(xrw key l e).1 he;have h1:=(h.txt f hf).len h.key;have h2:=xqq key l (pick f.r key);have:=h.len;dsimp only;omega
theorem xCj (key:List Int) (l:List Fc):(xH4 key l).length<=l.length:=by
 have:∀ (l:List Fc) (es:List En),(l.foldl (fun es x=>addE es (keyOf (pick x.r key)) x.p) es).length<=es.length+l.length:=by
  intro l;induction l with
  | nil=>intro es;simp
  | cons x l ih =>
   intro es;have h1:=ih (addE es (keyOf (pick x.r key)) x.p);have h2:=xsU (keyOf (pick x.r key)) x.p es;rw [List.foldl_cons,zD];omega
 have:=this l [];simpa [xH4] using this
theorem xu6 {key:List Int} {l:List Fc} (h:TOk key l) (p0:List UInt8) (p1 p3 p4:List AV) :
  crowds p0 p1 (key.map encN) p3 p4 (l.map encF)=some ((xHW key l).map xHV):=by
 have e:=xBZ p0 p1 p3 p4 key h.key l (by have:=h.len;omega) h.txt
 have h1:=xAX (xtK key l).1 (by have:=xCj key l;have:=h.len;omega) h.pc
 unfold crowds xqg;simp only [z8,e,zj,zg,xae,h1,zR,xDL h.pc,sUF];rfl
theorem xCJ (es:List En):rowsC (es.map xHV)=true:=by
 unfold rowsC;rw [zH];intro k hk;rw [List.mem_range,z8] at hk;rw [xaa _ _ _ hk];rfl
theorem xDa (es:List En):anyC (es.map xHV)=true↔∃ e,e∈es/\e.2≠[]:=by
 unfold anyC;rw [List.any_eq_true];constructor
 . rintro ⟨k,hk,h⟩;rw [List.mem_range,z8] at hk;rw [xz7 hk,z8] at h;refine ⟨es[k],zn hk,fun h0=>?_⟩
   rw [h0] at h;simp at h
 . rintro ⟨e,he,h⟩;obtain ⟨k,hk,rfl⟩:=zo.1 he;refine ⟨k,by simpa using hk,?_⟩
   rw [xz7 hk,z8];have:=List.length_pos_iff.2 h;exact decide_eq_true (by omega)
def Once (key:List Int) (l:List Fc):Prop:=∀ f,f∈l->∀ t,(life key l (pick f.r key)).countP (hasP · t)<=1
theorem xmM {key:List Int} {l:List Fc} (h:TOk key l) (p0:List UInt8) (p1 p3 p4:List AV) :
  ∃ b,xbd p0 p1 (key.map encN) p3 p4 (l.map encF)=some b/\(b=true↔Once key l):=by
 have e:=xu6 h p0 p1 p3 p4;have hN:anyC ((xHW key l).map xHV)=true↔¬ Once key l:=by
  rw [xDa];constructor
  . rintro ⟨x,hx,hne⟩ ho;obtain ⟨y,hy,rfl⟩:=zJ.1 hx;obtain ⟨f,hf,rfl⟩:=(xrw key l y).1 hy;exact hne ((xu5 (xmI (Nat.le_trans (xqq key l (pick f.r key)) h.len))).2 (ho f hf))
  . intro ho;obtain ⟨f,hf,hn⟩:∃ f,f∈l/\¬ ∀ t,(life key l (pick f.r key)).countP (hasP · t)<=1:=by
     refine Classical.byContradiction fun hc=>ho fun f hf=>Classical.byContradiction fun hd=>hc ⟨f,hf,hd⟩
    refine ⟨(keyOf (pick f.r key),xHX (life key l (pick f.r key))),zJ.2 ⟨_,(xrw key l _).2 ⟨f,hf,rfl⟩,rfl⟩,fun h0=>hn ?_⟩
    exact (xu5 (xmI (Nat.le_trans (xqq key l (pick f.r key)) h.len))).1 h0
 refine ⟨!anyC ((xHW key l).map xHV),?_,?_⟩
 . unfold xbd xi7;simp only [e,zj,zg,xCJ,zR,xae,sUF];cases anyC ((xHW key l).map xHV)<;>rfl
 . constructor
   . intro hb;refine Classical.byContradiction fun hc=>?_
     rw [hN.2 hc] at hb;simp at hb
   . intro ho;cases ha:anyC ((xHW key l).map xHV) with
     | false=>rfl
     | true=>exact absurd ho (hN.1 ha)
def Tx (l:List Fc):Prop:=∀ f,f∈l->∀ v,v∈f.r->v.wf/\v.t.length<=1073741824
theorem xCc {r:Row} (h:∀ v,v∈r->v.wf/\v.t.length<=1073741824) (hl:r.length<=60):(keyOf r).length<=17592186044416:=by
 have:=xlT (g:=keyV) (c:=1073741890) r fun v hv=>by
  obtain ⟨h1,h2⟩:=h v hv;have:=xs3 h1 (by omega);omega
 unfold keyOf;have h2:1073741890*r.length<=1073741890*60:=Nat.mul_le_mul_left _ hl;omega
theorem xGH {l:List Fc} (hl:l.length<=1024) (hr:∀ f,f∈l->f.r.length<=60) (ht:Tx l) (q:R20 l):Bld l :=
 ⟨⟨⟨by omega,fun f hf=>by have:=hr f hf;omega⟩,fun f hf=>⟨fun v hv=>⟨(ht f hf v hv).1,by have:=(ht f hf v hv).2;omega⟩,xCc (ht f hf) (hr f hf)⟩,q⟩,hl⟩
theorem xH6.all {l B:List Fc} (h:xH6 l B) {Q:Row->Prop} (hq:∀ f,f∈l->Q f.r):∀ f,f∈B->Q f.r:=fun f hf=>by
 obtain ⟨_,g,hg,e⟩:=h.valid hf;rw [<-e];exact hq g hg
theorem xH7.all {l B:List Fc} (h:xH7 l B) {Q:Row->Prop} (hq:∀ f,f∈l->Q f.r):∀ f,f∈B->Q f.r:=fun f hf=>by
 obtain ⟨R,L,h1,h2,rfl⟩:=h;obtain ⟨a,b⟩:=xmK hf;obtain ⟨g,g1,g2,_⟩:=(h1.2 _).1 a;rw [<-g2];exact hq g g1
theorem xH7.len {l B:List Fc} (h:xH7 l B):B.length<=l.length*l.length:=by
 obtain ⟨R,L,h1,h2,rfl⟩:=h;refine xrv (h1.1.nodup xwN) fun r hr=>?_
 obtain ⟨a,b⟩:=h2 r hr;have:=xuD (ps:=psOf l r) (k:=0) a fun t=>by rw [b,xyA]
 exact Nat.le_trans this (Nat.le_mul_self _)
theorem xES (A B:List Per) (t:Int):inL (A++B) t=(inL A t || inL B t):=by unfold inL;rw [List.any_append]
theorem xr3 (p:Per) (t:Int):inL [p] t=hasP p t:=by unfold inL;simp
theorem xAb {A:List Per} (hA:IsSpan A) {p q:Per} (hq:q∈A) (h:∀ t,inL A t=true->hasP p t=true):p.1<=q.1/\q.2<=p.2:=by
 have hv:=xch.1 (hA.1 q hq);have h1:=h q.1 (List.any_eq_true.2 ⟨q,hq,xbe.2 ⟨hA.1 q hq,by omega,by omega⟩⟩)
 have h2:=h (q.2 - 1) (List.any_eq_true.2 ⟨q,hq,xbe.2 ⟨hA.1 q hq,by omega,by omega⟩⟩)
 have:=(xbe.1 h1).2;have:=(xbe.1 h2).2;omega
theorem xvU {c:Int->Bool} {Q:Per->List Per}:∀ {A:List Per},IsSpan A->(∀ p,p∈A->IsSpan (Q p)/\∀ t,inL (Q p) t=(hasP p t&&c t))->IsSpan (A.flatMap Q)/\∀ t,inL (A.flatMap Q) t=(inL A t&&c t)
 | [],_,_=>⟨xnI,fun t=>by simp [xnS]⟩
 | p::A,hA,hQ=>by
  obtain ⟨h1,h2⟩:=xvU (xCR hA) fun q hq=>hQ q (by simp [hq])
  obtain ⟨h3,h4⟩:=hQ p (by simp)
  have O:=(zL.1 hA.2).1;rw [zQ];refine ⟨⟨fun q hq=>?_,List.pairwise_append.2 ⟨h3.2,h1.2,fun q hq q' J=>?_⟩⟩,fun t=>?_⟩
  . rcases zF.1 hq with hq|hq
    . exact h3.1 q hq
    . exact h1.1 q hq
  . obtain ⟨p',U,J⟩:=y2.1 J;obtain ⟨h5,h6⟩:=hQ p' (by simp [U])
    have a1:=(xAb h3 hq (p:=p) fun t ht=>by rw [h4] at ht;exact (Bool.and_eq_true_iff.1 ht).1).2
    have a2:=(xAb h5 J (p:=p') fun t ht=>by rw [h6] at ht;exact (Bool.and_eq_true_iff.1 ht).1).1
    have a3:=O p' U;omega
  . rw [xES,h2,h4,xir];cases hasP p t<;>cases inL A t<;>cases c t<;>rfl
def cntK (key:List Int) (l:List Fc) (K:Row) (t:Int):Nat:=(life key l K).countP (hasP · t)
structure IsViol (key:List Int) (l V:List Fc):Prop where
 ex:∃ R L,IsRows l R/\(∀ r,r∈R->IsSpan (L r)/\∀ t,inL (L r) t=(decide (0<cnt l r t)&&decide (1<cntK key l (pick r key) t)))/\V=facts R L
theorem IsViol.unique {key:List Int} {l V W:List Fc} (h:IsViol key l V) (g:IsViol key l W):V=W:=by
 obtain ⟨R,L,h1,h2,rfl⟩:=h;obtain ⟨R',L',g1,g2,rfl⟩:=g;obtain rfl:=h1.unique g1 fun _ _=>rfl
 exact xpz fun r hr=>xeY (h2 r hr).1 (g2 r hr).1 fun t=>by rw [(h2 r hr).2,(g2 r hr).2]
theorem IsViol.row {key:List Int} {l V:List Fc} (h:IsViol key l V):∀ f,f∈V->∃ g,g∈l/\g.r=f.r:=fun f hf=>by
 obtain ⟨R,L,h1,h2,rfl⟩:=h;obtain ⟨g,g1,g2,_⟩:=(h1.2 _).1 (xmK hf).1;exact ⟨g,g1,g2⟩
theorem IsViol.has {key:List Int} {l V:List Fc} (h:IsViol key l V) (t:Int):(∃ f,f∈V/\hasP f.p t=true)↔∃ f,f∈l/\hasP f.p t=true/\1<cntK key l (pick f.r key) t:=by
 obtain ⟨R,L,h1,h2,rfl⟩:=h;constructor
 . rintro ⟨f,hf,ht⟩;obtain ⟨a,b⟩:=xmK hf;have h3:=(h2 _ a).2 t;rw [show inL (L f.r) t=true from List.any_eq_true.2 ⟨_,b,ht⟩] at h3
   obtain ⟨c1,c2⟩:=Bool.and_eq_true_iff.1 h3.symm;obtain ⟨g,g1,g2,g3⟩:=xr1.1 (of_decide_eq_true c1);exact ⟨g,g1,g3,by rw [g2];exact of_decide_eq_true c2⟩
 . rintro ⟨f,hf,ht,hc⟩;have hr:f.r∈R:=(h1.2 _).2 ⟨f,hf,rfl,xrq ht⟩;have h3:=(h2 _ hr).2 t;rw [decide_eq_true (xr1.2 ⟨f,hf,rfl,ht⟩),decide_eq_true hc] at h3;obtain ⟨p,hp,q⟩:=List.any_eq_true.1 h3;exact ⟨⟨f.r,p⟩,y2.2 ⟨f.r,hr,zJ.2 ⟨p,hp,rfl⟩⟩,q⟩
theorem xwT {key:List Int} {l:List Fc} {K:Row} {t:Int}:0<cntK key l K t↔∃ f,f∈l/\pick f.r key=K/\hasP f.p t=true:=by
 unfold cntK life;rw [List.countP_pos_iff];constructor
 . rintro ⟨p,hp,h⟩;obtain ⟨f,hf,rfl⟩:=zJ.1 hp;obtain ⟨h1,h2⟩:=List.mem_filter.1 hf;exact ⟨f,h1,of_decide_eq_true h2,h⟩
 . rintro ⟨f,hf,h1,h2⟩;exact ⟨f.p,zJ.2 ⟨f,List.mem_filter.2 ⟨hf,decide_eq_true h1⟩,rfl⟩,h2⟩
theorem IsViol.valid {key:List Int} {l V:List Fc} (h:IsViol key l V):∀ f,f∈V->pv f.p=true:=fun f hf=>by
 obtain ⟨R,L,h1,h2,rfl⟩:=h;obtain ⟨a,b⟩:=xmK hf;exact (h2 _ a).1.1 _ b
theorem xys {key:List Int} {l:List Fc}:Once key l↔∀ K t,cntK key l K t<=1:=by
 constructor
 . intro h K t;rcases Nat.eq_zero_or_pos (cntK key l K t) with h0|h0
   . omega
   . obtain ⟨f,hf,rfl,_⟩:=xwT.1 h0;exact h f hf t
 . intro h f hf t;exact h _ t
theorem IsViol.nil {key:List Int} {l V:List Fc} (h:IsViol key l V):V=[]↔Once key l:=by
 rw [xys];constructor
 . rintro rfl K t;refine Classical.byContradiction fun hc=>?_
   obtain ⟨f,hf,rfl,ht⟩:=xwT.1 (show 0<cntK key l K t by omega)
   obtain ⟨g,hg,_⟩:=(h.has t).2 ⟨f,hf,ht,by omega⟩
   simp at hg
 . intro ho;rcases V with _|⟨v,V⟩
   . rfl
   . obtain ⟨f,hf,ht,hc⟩:=(h.has v.p.1).1 ⟨v,by simp,xvY (h.valid v (by simp))⟩
     have:=ho (pick f.r key) v.p.1;omega
theorem xAM {key:List Int} {l S:List Fc} (h:xH7 l S) {Q:Fc->List Per} (hQ:∀ f,f∈S->IsSpan (Q f)/\∀ t,inL (Q f) t=(hasP f.p t&&decide (1<cntK key l (pick f.r key) t))):IsViol key l (S.flatMap fun f=>mk f.r (Q f)):=by
 obtain ⟨R,L,h1,h2,rfl⟩:=h;have hm:∀ r,r∈R->∀ p,p∈L r->(⟨r,p⟩:Fc)∈facts R L:=fun r hr p hp=>y2.2 ⟨r,hr,zJ.2 ⟨p,hp,rfl⟩⟩
 refine ⟨R,fun r=>(L r).flatMap fun p=>Q ⟨r,p⟩,h1,fun r hr=>?_,?_⟩
 . obtain ⟨a,b⟩:=xvU (c:=fun t=>decide (1<cntK key l (pick r key) t)) (h2 r hr).1 (Q:=fun p=>Q ⟨r,p⟩) fun p hp=>hQ ⟨r,p⟩ (hm r hr p hp)
   exact ⟨a,fun t=>by rw [b,(h2 r hr).2]⟩
 . unfold facts;rw [List.flatMap_assoc];congr 1;funext r;rw [List.flatMap_map,List.map_flatMap];rfl
theorem xCF (l:List Per) (t:Int) (hl:l.length<=1048576):xe1 (l.map encP) t=some (inL l t):=by
 have e:=xvj (step:=xbf (l.map encP) t) l (fun k=>(k:Int)) (fun a=>br (hasP a t) (some (true,true,())) none) (false,false,()) (fun k h=>by
  have h1:(k:Int)<(l.length:Int):=by omega
  have gf:(l.map encP).getD k .top=encP l[k]:=xaa _ _ _ h;simp only [xbf,xhP,sBU,h,h1,gf,cP0,cP1,lP,sP,sP0,sP1,xyC,xE3,xvC,xvB,xHP (n:=k) (by omega)]) (by
  simp only [xbf,xhP,z8,zx,zl,xah,sUF]) l.length 0 (by simp)
 rw [zq,xw1] at e;have e:Iter (xbf (l.map encP) t) (0:Int)=_:=e;unfold xe1 xoi;rw [e];show _=some (l.any (hasP · t));cases l.any (hasP · t)<;>rfl
def ptsP (l:List Per):List Int:=l.foldl (fun P p=>if pv p=true then insI (insI P p.1) p.2 else P) []
theorem xvJ (l:List Per) (p:Per):ptsP (l++[p])=if pv p=true then insI (insI (ptsP l) p.1) p.2 else ptsP l:=by simp [ptsP]
theorem xvK:∀ l:List Per,Asc (ptsP l.reverse)/\∀ x,x∈ptsP l.reverse↔∃ p,p∈l/\pv p=true/\(x=p.1\/x=p.2)
 | []=>by simp [ptsP,Asc]
 | c::l=>by
  obtain ⟨h1,h2⟩:=xvK l;rw [List.reverse_cons,xvJ];split
  . rename_i hv;refine ⟨xsx (xsx h1 _) _,fun x=>?_⟩
    rw [xqm,xqm,h2];constructor
    . rintro (h|h|⟨c',a,b,d⟩)
      . exact ⟨c,by simp,hv,.inr h⟩
      . exact ⟨c,by simp,hv,.inl h⟩
      . exact ⟨c',by simp [a],b,d⟩
    . rintro ⟨c',a,b,d⟩;rcases zB.1 a with rfl|a
      . rcases d with d|d
        . exact .inr (.inl d)
        . exact .inl d
      . exact .inr (.inr ⟨c',a,b,d⟩)
  . rename_i hv;refine ⟨h1,fun x=>?_⟩
    rw [h2];constructor
    . rintro ⟨c',a,b,d⟩;exact ⟨c',by simp [a],b,d⟩
    . rintro ⟨c',a,b,d⟩;rcases zB.1 a with rfl|a
      . exact absurd b hv
      . exact ⟨c',a,b,d⟩
theorem xE6 (l:List Per):Asc (ptsP l)/\∀ x,x∈ptsP l↔∃ p,p∈l/\pv p=true/\(x=p.1\/x=p.2):=by
 have:=xvK l.reverse;simpa using this
theorem xDU (l:List Per):(ptsP l).length<=2*l.length:=by
 have q:∀ l:List Per,(ptsP l.reverse).length<=2*l.length:=fun l=>by
  induction l with
  | nil=>simp [ptsP]
  | cons c l ih =>
   rw [List.reverse_cons,xvJ];have a1:=xn3 (ptsP l.reverse) c.1;have a2:=xn3 (insI (ptsP l.reverse) c.1) c.2;split<;>simp<;>omega
 have:=q l.reverse;simpa using this
theorem xzy (l:List Per) (hl:l.length<=262144):xok (l.map encP)=some ((ptsP l).map encN):=by
 have e:Iter (xc3 (l.map encP)) ([],(0:Int))=some ((ptsP l).map encN):=by
  refine xrs l (fun P p=>if pv p=true then insI (insI P p.1) p.2 else P) (fun n b=>(b.map encN,(n:Int))) (fun n b=>b.length<=2*n) (fun n h b hb=>?_) l.length 0 [] (by omega) (by simp) ?_
  . have h1:(n:Int)<(l.length:Int):=by omega
    have gf:(l.map encP).getD n .top=encP l[n]:=xaa _ _ _ h;have a1:=xn3 b l[n].1;have a2:=xn3 (insI b l[n].1) l[n].2;have i1:=xvh b l[n].1 (by omega)
    have i2:=xvh (insI b l[n].1) l[n].2 (by omega)
    refine ⟨?_,by split<;>omega⟩
    simp only [xc3,xje,xdR,sBU,h,h1,gf,cP0,cP1,lP,sP,sP0,sP1,xrN,i1,i2,xHP (n:=n) (by omega)]
    cases pv l[n]<;>simp [xae,xah,sUF]
  . simp only [zq];simp only [xc3,xje,xdR,z8,zx,zl,xah,sUF];rfl
 unfold xok xp5;rw [e];rfl
theorem xvL {P:List Int} (hA:Asc P) {l:List Per} (hm:∀ p,p∈l->pv p=true->p.1∈P/\p.2∈P) {j:Nat} (hj:j+1<P.length) {t:Int} (h1:P[j]<=t) (h2:t<P[j+1]):inL l t=inL l P[j]:=by
 have key:∀ x,x∈P->(x<=t↔x<=P[j]):=fun x hx=>by
  obtain ⟨k,hk,rfl⟩:=List.getElem_of_mem hx;constructor
  . intro h;rcases zI j k with q|q
    . rcases zI (j+1) k with h3|h3
      . have:=zA.1 hA (j+1) k hj hk h3;omega
      . obtain rfl:k=j+1:=by omega
        omega
    . rcases zI k j with h3|h3
      . have:=zA.1 hA k j hk (by omega) h3;omega
      . obtain rfl:k=j:=by omega
        omega
  . intro h;omega
 rw [Bool.eq_iff_iff,xd1,xd1];constructor
 . rintro ⟨p,a,b,c,d⟩;obtain ⟨m1,m2⟩:=hm p a b;have k1:=key _ m1;have k2:=key _ m2;exact ⟨p,a,b,by omega,by omega⟩
 . rintro ⟨p,a,b,c,d⟩;obtain ⟨m1,m2⟩:=hm p a b;have k1:=key _ m1;have k2:=key _ m2;exact ⟨p,a,b,by omega,by omega⟩
theorem xuu (O:Int) (a b:List Per) (ha:a.length<=65536) (hb:b.length<=65536) (P:List Int) (hA:Asc P) (hP:P.length<=1048576) (hR:∀ x,x∈P->0<=x/\x<=1099511627776)
  (ma:∀ p,p∈a->pv p=true->p.1∈P/\p.2∈P) (mb:∀ p,p∈b->pv p=true->p.1∈P/\p.2∈P):∀ (d j:Nat) (hj:j<P.length) (out:List Per),j+1+d=P.length->OutOk out P[j] (fun t=>xc6 O (inL a t) (inL b t))->out.length<=j ->
  ∃ J:List Per,Iter (xbJ O (a.map encP) (b.map encP) (P.map encN)) (out.length,((j+1:Nat):Int),out.map encP)=some (J.length,J.map encP)/\OutOk J (P[P.length - 1]'(by omega)) (fun t=>xc6 O (inL a t) (inL b t))/\J.length<=P.length
 | 0,j,hj,out,h,ho,hn=>by
  have e:P.length=j+1:=by omega
  refine ⟨out,xam ?_,?_,by omega⟩
  . have i1:¬ ((j+1:Nat):Int)<(P.length:Int):=by omega
    simp only [xbJ,xfi,z8,i1,zl,xah,sUF]
  . have:P[P.length - 1]'(by omega)=P[j]:=by congr 1;omega
    rw [this];exact ho
 | d+1,j,hj,out,h,ho,hn=>by
  have Q:j+1<P.length:=by omega
  have i0:((j+1:Nat):Int)<(P.length:Int):=by omega
  have i1:(j:Int)<(P.length:Int):=by omega
  have i2:(0:Int)<=((j+1:Nat):Int):=by omega
  have w:IntKind.i64.wrap (((j+1:Nat):Int) - 1)=(j:Int):=xIs (by omega)
  have gf:(P.map encN).getD j .top=encN P[j]:=xaa _ _ _ hj;have gn:(P.map encN).getD (j+1) .top=encN P[j+1]:=xaa _ _ _ Q;have ca:=xCF a P[j] (by omega)
  have cb:=xCF b P[j] (by omega)
  have lt:P[j]<P[j+1]:=zA.1 hA j (j+1) hj Q (by omega)
  have r1:=hR _ (zn hj);have r2:=hR _ (zn Q);have hw:=xHP (n:=j+1) (by omega)
  have hK:∀ t,P[j]<=t->t<P[j+1]->xc6 O (inL a t) (inL b t)=xc6 O (inL a P[j]) (inL b P[j]):=fun t t1 t2=>by
   rw [xvL hA ma Q t1 t2,xvL hA mb Q t1 t2]
  cases hc:xc6 O (inL a P[j]) (inL b P[j]) with
  | true =>
   obtain ⟨j1,j2⟩:=xvl ho r1.1 lt r2.2 (fun t t1 t2=>by rw [hK t t1 t2,hc])
   obtain ⟨q,q1,q2,q3⟩:=xET out P[j] P[j+1] lt ho.low (by omega)
   obtain ⟨J,e',x1,x2⟩:=xuu O a b ha hb P hA hP hR ma mb d (j+1) Q (xHT out P[j] P[j+1]) (by omega) j1 (by omega)
   refine ⟨J,(xaF (s':=((xHT out P[j] P[j+1]).length,((j+1+1:Nat):Int),(xHT out P[j] P[j+1]).map encP)) ?_).trans e',x1,x2⟩;rw [<-q2,<-q3];simp only [xbJ,xfi,xc4,xeG,xeH,xc5,xeI,xeJ,xeK,xa6,sBU,i0,i1,i2,w,hj,Q,gf,gn,cN,sN,ca,cb,hc,q1,hw]
  | false =>
   obtain ⟨J,e',x1,x2⟩:=xuu O a b ha hb P hA hP hR ma mb d (j+1) Q out (by omega) (ho.skip (by omega) (fun t t1 t2=>by rw [hK t t1 t2,hc])) (by omega)
   refine ⟨J,(xaF (s':=(out.length,((j+1+1:Nat):Int),out.map encP)) ?_).trans e',x1,x2⟩;simp only [xbJ,xfi,xc4,xeG,xeH,xc5,xeI,xeJ,xeK,xa6,sBU,i0,i1,i2,w,hj,Q,gf,gn,cN,sN,ca,cb,hc,hw]
theorem xEO (q:Int) (a b:List Per) (ha:a.length<=65536) (hb:b.length<=65536):∃ A:List Per,xix q (a.map encP) (b.map encP)=some (A.map encP)/\IsSpan A/\(∀ t,inL A t=(decide (0<=t)&&(decide (t<1099511627776)&&xc6 q (inL a t) (inL b t))))/\A.length<=2*(1+a.length+b.length):=by
 have J:∀ x,x∈(((0,1099511627776):Per)::a++b)↔x=(0,1099511627776)\/x∈a\/x∈b:=fun x=>by simp
 have O:(((0,1099511627776):Per)::a++b).length=1+a.length+b.length:=by simp;omega
 obtain ⟨pA,pm⟩:=xE6 (((0,1099511627776):Per)::a++b);have pl:=xDU (((0,1099511627776):Per)::a++b);have pe:=xzy (((0,1099511627776):Per)::a++b) (by rw [O];omega)
 rw [O] at pl;generalize Y:ptsP (((0,1099511627776):Per)::a++b)=P at pA pm pl pe;have m0:(0:Int)∈P:=(pm 0).2 ⟨(0,1099511627776),by simp,by decide,.inl rfl⟩
 have mF:(1099511627776:Int)∈P:=(pm _).2 ⟨(0,1099511627776),by simp,by decide,.inr rfl⟩
 have hR:∀ x,x∈P->0<=x/\x<=1099511627776:=fun x hx=>by
  obtain ⟨p,_,hv,h⟩:=(pm x).1 hx;have:=xch.1 hv;omega
 have U:0<P.length:=List.length_pos_of_mem m0;have e0:P[0]=0:=by
  obtain ⟨k,hk,he⟩:=List.getElem_of_mem m0;rcases Nat.eq_zero_or_pos k with rfl|h
  . exact he
  . have:=zA.1 pA 0 k U hk h;have:=hR _ (zn U);omega
 have eF:P[P.length - 1]'(by omega)=1099511627776:=by
  obtain ⟨k,hk,he⟩:=List.getElem_of_mem mF;rcases zI k (P.length - 1) with h|h
  . have:=zA.1 pA k (P.length - 1) hk (by omega) h
    have:=hR _ (zn (l:=P) (n:=P.length - 1) (by omega))
    omega
  . have:P[P.length - 1]'(by omega)=P[k]:=by congr 1;omega
    rw [this];exact he
 have mm:∀ l:List Per,(∀ x,x∈l->x=(0,1099511627776)\/x∈a\/x∈b)->∀ p,p∈l->pv p=true->p.1∈P/\p.2∈P:=fun l hl p hp hv=>⟨(pm _).2 ⟨p,(J p).2 (hl p hp),hv,.inl rfl⟩,(pm _).2 ⟨p,(J p).2 (hl p hp),hv,.inr rfl⟩⟩
 obtain ⟨A,e,a1,a2⟩:=xuu q a b ha hb P pA (by omega) hR (mm a fun x hx=>.inr (.inl hx)) (mm b fun x hx=>.inr (.inr hx)) (P.length - 1) 0 U [] (by omega) (by rw [e0];exact xrG _) (zb _)
 rw [eF] at a1;refine ⟨A,?_,a1.span,fun t=>a1.done t,by omega⟩
 have e:Iter (xbJ q (a.map encP) (b.map encP) (P.map encN)) ((0:Nat),(1:Int),[])=_:=e;have tt:List.take A.length (A.map encP)=A.map encP:=zh (by simp)
 have la:([AV.agg [AV.int IntKind.i64 (0:Int),AV.int IntKind.i64 (1099511627776:Int)]]++a.map encP).length=1+a.length:=by simp;omega
 have Q:([AV.agg [AV.int IntKind.i64 (0:Int),AV.int IntKind.i64 (1099511627776:Int)]]++a.map encP++b.map encP).length=1+a.length+b.length:=by simp;omega
 have W:List.take (1+a.length+b.length) ([AV.agg [AV.int IntKind.i64 (0:Int),AV.int IntKind.i64 (1099511627776:Int)]]++a.map encP++b.map encP)=(((0,1099511627776):Per)::a++b).map encP:=by
  rw [zh (by rw [Q];exact zb _)]
  simp [encP]
 have b1:(1+a.length)*16<=140737488355328:=by omega
 have b2:1+a.length<=4611686018427387904:=by omega
 have b3:(1+a.length+b.length)*16<=140737488355328:=by omega
 have b4:1+a.length+b.length<=4611686018427387904:=by omega
 unfold xix xol;simp only [xjf,xjg,xjh,xji,xjj,xeq,xjk,z8,la,Q,W,zq,b1,b2,b3,b4,beq_self_eq_true,zm,zR,zG,zb,xae,pe,zj,zg,e,tt,sUF]
theorem xCG (a b:List Per) (ha:a.length<=65536) (hb:b.length<=65536):∃ A:List Per,xpc (a.map encP) (b.map encP)=some (A.map encP)/\IsSpan A/\(∀ t,inL A t=(inL a t&&inL b t))/\A.length<=2*(1+a.length+b.length):=by
 obtain ⟨A,e,h1,h2,h3⟩:=xEO 1 a b ha hb;refine ⟨A,?_,h1,fun t=>?_,h3⟩
 . unfold xpc xns;rw [e];rfl
 . rw [h2];cases hc:inL a t with
   | false=>simp [xc6,br,sUF]
   | true=>obtain ⟨x,y⟩:=xr4 hc;simp [x,y,xc6,br,sUF]
def dk (S:List Row):Nat->List Row
 | 0=>[]
 | k+1=>dk S k++(if k=0\/S[k - 1]?≠S[k]? then S[k]?.toList else [])
structure RGI (S:List Fc) (i:Nat) (G:List Grp):Prop where
 st:Strict cmpR (G.map (·.1))
 mem:∀ r,r∈G.map (·.1)↔∃ f,f∈S.take i/\f.r=r/\pv f.p=true
 ps:∀ g,g∈G->StepI (fun t=>((cnt S g.1 t:Nat):Int)) 1099511627776 g.2/\g.2.length<=2*S.length+1
 len:G.length<=i
 bd:∀ a b (ha:a<S.length) (hb:b<S.length),a<i->i<=b->cmpR S[a].r S[b].r<0
def xHY (n:List UInt8) (f:Fc):AV:=.agg [.int .i64 2,.str n,.int .i64 0,.list 3 (f.r.map encV),.int .i64 f.p.1,.int .i64 f.p.2]
theorem xDq (n:List UInt8) (r:Row) (p:Per):AV.agg [.int .i64 2,.str n,.int .i64 0,.list 3 (r.map encV),.int .i64 p.1,.int .i64 p.2]=xHY n ⟨r,p⟩:=rfl
theorem xDt (a b:Row) (ha:a.length<=maxLen):xmE (a.map encV) (b.map encV)=some (decide (a=b)):=by
 unfold xmE xnm;rw [xrT a b ha];simp only [zj,zg,xae,cmp0,sUF]
def xH1 (key:List Int) (l:List Fc) (K:Row):List Fc:=l.filter fun f=>decide (pick f.r key=K)
theorem xCY (key:List Int) (l:List Fc) (K:Row):(xH1 key l K).map (·.p)=life key l K:=rfl
theorem xyW (key:List Int) (l:List Fc) (K:Row):(xH1 key l K).length<=l.length:=List.length_filter_le _ _
theorem xwW (f:Fc):AV.agg [.list 3 (f.r.map encV),.int .i64 f.p.1,.int .i64 f.p.2]=encF f:=rfl
theorem xyB (p0:List UInt8) (p1 p3 p4:List AV) (key:List Int) (hk:key.length<=1048576) (l:List Fc) (hl:l.length<=1048576) (K:Row) :
  xb1 p0 p1 (key.map encN) p3 p4 (l.map encF) (K.map encV)=some ((xH1 key l K).map encF):=by
 have e:=xo9 (step:=xcv (K.map encV) (l.map encF) ((l.length:Nat):Int)) l (fun f=>if decide (pick f.r key=K)=true then [f] else []) (fun n D=>(D.length,(n:Int),p0,p1,key.map encN,p3,p4,D.map encF)) (fun D=>(D.length,D.map encF)) [] 1 (fun f _=>by split<;>simp) (fun n h D hD=>by
  have h1:(n:Int)<(l.length:Int):=by omega
  rw [List.length_nil] at hD;have m1:(D.length+1)*40<=140737488355328:=by omega
  have m2:D.length+1<=4611686018427387904:=by omega
  have gf:(l.map encF).getD n .top=encF l[n]:=xaa _ _ _ h;have J:=xuC p0 p1 p3 p4 key l[n].r hk;have q:=xDt (pick l[n].r key) K (by rw [xs9];simp only [maxLen];omega)
  simp only [xcv,xhs,sBU,h,h1,gf,cF0,cF1,cF2,sF0,sF1,sF2,lF,sF12,sF02,J,q,m1,m2,xHP (n:=n) (by omega)]
  by_cases hc:pick l[n].r key=K
  . simp [hc,xae,xwW,sUF]
  . simp [hc,xah,sUF]) (fun D=>by
  simp only [xcv,xhs,z8,zx,zl,xah,sUF])
 rw [zT,xw3 _ (fun f:Fc=>f) (fun f=>decide (pick f.r key=K)) (fun _=>rfl),List.map_id'] at e
 have e:Iter (xcv (K.map encV) (l.map encF) ((l.length:Nat):Int)) ((0:Nat),(0:Int),p0,p1,key.map encN,p3,p4,[])=some ((xH1 key l K).length,(xH1 key l K).map encF):=e;generalize xH1 key l K=D at e;have tt:List.take D.length (D.map encF)=D.map encF:=zh (by simp)
 unfold xb1 xnq;simp only [xmm,xmn,xmo,xmp,z8,e,zj,zg,xae,zG,zb,zm,zR,zq,tt,sUF]
theorem xDP (p0:List UInt8) (p1 p3 p4:List AV) (key:List Int) (hk:key.length<=1048576) (l:List Fc) (hl:l.length<=65536) (K:Row):∃ A:List Per,xib p0 p1 (key.map encN) p3 p4 (l.map encF) (K.map encV)=some (A.map encP)/\IsSpan A/\∀ t,inL A t=inL (life key l K) t:=by
 have hw:=xyB p0 p1 p3 p4 key hk l (by omega) K
 have q:=xyW key l K;rw [<-xCY];generalize xH1 key l K=W at *;have e:=xn7 (step:=xci (W.map encF) ((W.length:Nat):Int)) W (fun f=>[f.p]) encP 1 (fun _ _=>by simp) (fun n h D hD=>by
  have i1:(n:Int)<(W.length:Int):=by omega
  have m1:(D.length+1)*16<=140737488355328:=by omega
  have m2:D.length+1<=4611686018427387904:=by omega
  have gf:(W.map encF).getD n .top=encF W[n]:=xaa _ _ _ h;simp only [xci,xeU,sBU,h,i1,gf,cF0,cF1,cF2,sF0,sF1,sF2,lF,sF12,sF02,m1,m2,xHP (n:=n) (by omega)]
  simp [encP]) (fun D=>by
  simp only [xci,xeU,z8,zx,zl,xah,sUF])
 rw [xIl (fun f:Fc=>f.p)] at e
 obtain ⟨A,a1,a2,a3⟩:=xEq (W.map (·.p)) (by rw [z8];omega)
 refine ⟨A,?_,a2,a3⟩;generalize (W.map fun f=>f.p)=P at *
 have tt:List.take P.length (P.map encP)=P.map encP:=zh (by simp)
 unfold xib xjA;simp only [xiH,xiI,xiJ,xiK,xiL,z8,hw,e,zj,zg,xae,zG,zb,zm,zR,zq,tt,a1,sUF]
theorem xDC (es:List En) (s:List UInt8):lookL (es.map xHV) s=(xHS es s).map encP:=by
 unfold lookL;rw [xrC];cases h:ixE es s with
 | none=>rw [xtO h];rfl
 | some i =>
  have hi:=xrt h;dsimp only;have e:es.getD i default=es[i]:=by rw [z6,zd hi];rfl
  rw [xtP h,xaa _ _ _ hi,e];rfl
theorem xCI (es:List En) (s:List UInt8):(!xJg (es.map xHV) s || xJr 2 (xI4 .nils (es.map xHV) s))=true:=by
 unfold xJg xI4;rw [xrC];cases h:ixE es s with
 | none=>rfl
 | some i =>
  have hi:=xrt h;dsimp only;rw [xaa _ _ _ hi];rfl
theorem xDY (t0:List UInt8) (t1 t2 t3 t4:List AV) (row:Row) (hr:row.length<=1048576) (f1 f2:Int) (J:List AV) (q O:Int) (P:List Per) (hP:P.length<=1048576) (cx:List AV) (D:List Fc) (hD:D.length<=1099511627776) :
  Iter (xbo t0 t1 t2 t3 t4 (row.map encV) f1 f2 J q O (P.map encP) ((P.length:Nat):Int)) (D.length,(0:Int),cx,D.map (xHY t0))=some ((D++mk row P).length,cx,(D++mk row P).map (xHY t0)):=by
 have e:=xo9 (step:=xbo t0 t1 t2 t3 t4 (row.map encV) f1 f2 J q O (P.map encP) ((P.length:Nat):Int)) P (fun p=>[(⟨row,p⟩:Fc)]) (fun n D=>(D.length,(n:Int),cx,D.map (xHY t0))) (fun D=>(D.length,cx,D.map (xHY t0))) D 1 (fun _ _=>by simp) (fun n h D' Q=>by
  have h1:(n:Int)<(P.length:Int):=by omega
  have m1:(D'.length+1)*72<=140737488355328:=by omega
  have m2:D'.length+1<=4611686018427387904:=by omega
  have m3:row.length*32<=140737488355328:=by omega
  have m4:row.length<=4611686018427387904:=by omega
  have gf:(P.map encP).getD n .top=encP P[n]:=xaa _ _ _ h;have tk:List.take row.length (row.map encV)=row.map encV:=zh (by simp)
  simp only [xbo,xdM,sBU,h,h1,gf,cP0,cP1,lP,sP,sP0,sP1,m1,m2,m3,m4,zb,zq,tk,xDq,xHP (n:=n) (by omega),z7,zi,zw,zU,zV]) (fun D'=>by
  simp only [xbo,xdM,zx,zl,xah,sUF])
 rw [xIl (fun p:Per=>(⟨row,p⟩:Fc))] at e
 exact e
theorem xDZ (n:List UInt8) (p1 p3 p4:List AV) (key:List Int) (l:List Fc) (h:TOk key l) (hb:Bld l) (hl:l.length<=200) :
  ∃ V,xgl n p1 (key.map encN) p3 p4 (l.map encF)=some (V.map (xHY n))/\IsViol key l V/\V.length<=1048576*1048576:=by
 obtain ⟨S,e1,hS⟩:=xGG l hb;have e2:=xu6 h n p1 p3 p4;have U:S.length<=40000:=Nat.le_trans hS.len (Nat.mul_le_mul hl hl);have J:∀ f,f∈S->f.r.length<=1048576:=hS.all (Q:=fun r=>r.length<=1048576) fun f hf=>hb.1.1.2 f hf
 have q:∀ f,f∈S->Txt f.r:=hS.all fun f hf=>h.txt f hf
 obtain ⟨Q,hQ⟩:=xy7 (l:=S) (Q:=fun f A=>xgC ([f.p].map encP) ((xHX (life key l (pick f.r key))).map encP)=some (A.map encP)/\(IsSpan A/\∀ t,inL A t=(hasP f.p t&&decide (1<cntK key l (pick f.r key) t)))/\A.length<=1048576) fun f hf=>by
  have c1:=xqq key l (pick f.r key);have c2:=xmI (ps:=life key l (pick f.r key)) (by omega)
  have c3:=c2.2;obtain ⟨A,a1,a2,a3⟩:=xye [f.p] (xHX (life key l (pick f.r key))) (by simp) (by omega)
  obtain ⟨A',b1,b2,b3,b4⟩:=xCG [f.p] (xHX (life key l (pick f.r key))) (by simp) (by omega)
  obtain rfl:=xeY a2 b2 fun t=>by rw [a3,b3]
  refine ⟨A,a1,⟨a2,fun t=>?_⟩,by simp at b4;omega⟩
  rw [a3,xr3,c2.1.2];rfl
 have e3:Iter (xbn n p1 (key.map encN) p3 p4 (S.map encF) ((S.length:Nat):Int)) ((0:Nat),(0:Int),(xHW key l).map xHV,[])=some ((S.flatMap fun f=>mk f.r (Q f)).length,(S.flatMap fun f=>mk f.r (Q f)).map (xHY n)):=by
  have e:=xo9 (step:=xbn n p1 (key.map encN) p3 p4 (S.map encF) ((S.length:Nat):Int)) S (fun f=>mk f.r (Q f)) (fun k D=>(D.length,(k:Int),(xHW key l).map xHV,D.map (xHY n))) (fun D=>(D.length,D.map (xHY n))) [] 1048576 (fun f hf=>by unfold mk;rw [z8];exact (hQ f hf).2.2) (fun k hk D hD=>by
   have i1:(k:Int)<(S.length:Int):=by omega
   rw [List.length_nil,zG] at hD;have O:D.length<=1099511627776:=Nat.le_trans hD (Nat.mul_le_mul_left 1048576 (by omega:k<=1048576))
   have gf:(S.map encF).getD k .top=encF S[k]:=xaa _ _ _ hk;obtain ⟨a1,a2,a3⟩:=hQ S[k] (zn hk);have hx:=q S[k] (zn hk);have x1:=xuC n p1 p3 p4 key S[k].r h.key;have x2:=xB2 hx h.key;have x3:(keyOf (pick S[k].r key)).length<=4611686018427387904:=by have:=hx.len h.key;omega
   have x4:=xCI (xHW key l) (keyOf (pick S[k].r key));have x5:=xDC (xHW key l) (keyOf (pick S[k].r key));rw [xAR] at x5;have a1:xgC [AV.agg [.int .i64 S[k].p.1,.int .i64 S[k].p.2]] _=_:=a1;have x6:=xDY n p1 (key.map encN) p3 p4 S[k].r (J _ (zn hk)) S[k].p.1 S[k].p.2 (S.map encF) ((S.length:Nat):Int) (k:Int) (Q S[k]) a3 ((xHW key l).map xHV) D O;simp only [xbn,xdL,xdg,xdh,xdi,xdj,xbF,xdk,sBU,hk,i1,gf,cF0,cF1,cF2,sF0,sF1,sF2,lF,sF12,sF02,x1,x2,x3,x4,x5,a1,x6,xHP (n:=k) (by omega)]) (fun D=>by
   simp only [xbn,xdL,xdg,xdh,xdi,xdj,xbF,xdk,z8,zx,zl,xah,sUF])
  exact e
 refine ⟨S.flatMap fun f=>mk f.r (Q f),?_,xAM hS fun f hf=>(hQ f hf).2.1,?_⟩
 . generalize (S.flatMap fun f=>mk f.r (Q f))=V at e3
   have tt:List.take V.length (V.map (xHY n))=V.map (xHY n):=zh (by simp)
   unfold xgl xhx;simp only [xhn,xho,xhp,xhq,e1,e2,z8,zj,zg,xae,e3,zG,zb,zm,zR,zq,tt,sUF]
 . exact Nat.le_trans (xlT S fun f hf=>by unfold mk;rw [z8];exact (hQ f hf).2.2) (Nat.mul_le_mul_left 1048576 (by omega:S.length<=1048576))
theorem xDh {key:List Int} {l m:List Fc} (h:m.Sublist l) (K:Row) (t:Int):cntK key m K t<=cntK key l K t:=by
 unfold cntK life;exact ((h.filter _).map _).countP_le
theorem Once.sub {key:List Int} {l m:List Fc} (h:Once key l) (hm:m.Sublist l):Once key m:=by
 rw [xys] at h |-;exact fun K t=>Nat.le_trans (xDh hm K t) (h K t)
theorem xDF (key:List Int):Once key []:=fun f hf=>by simp at hf
def xH9 (D:List Row) (x:Row×Bool):Prop:=(D=[]/\x=([],false))\/(x.2=true/\x.1∈D/\∀ y,y∈D->cmpR x.1 y<=0)
theorem xH9.unique {D:List Row} {x y:Row×Bool} (h:xH9 D x) (g:xH9 D y):x=y:=by
 rcases h with ⟨h0,h⟩|⟨h1,h2,h3⟩
 . rcases g with ⟨g0,g⟩|⟨g1,g2,g3⟩
   . rw [h,g]
   . rw [h0] at g2;simp at g2
 . rcases g with ⟨g0,g⟩|⟨g1,g2,g3⟩
   . rw [g0] at h2;simp at h2
   . refine Prod.ext (xmG ?_) (by rw [h1,g1])
     have a:=h3 _ g2;have b:=g3 _ h2;have:=xo4 x.1 y.1;omega
theorem xw2 {D rest:List Row} {m:Row} (hp:(m::rest).Perm D) (hs:Sorted cmpR (m::rest)):xH9 D (m,true):=by
 refine .inr ⟨rfl,hp.mem_iff.1 (by simp),fun y hy=>?_⟩
 rcases zB.1 (hp.mem_iff.2 hy) with rfl|hy
 . rw [xo3];omega
 . exact (zL.1 hs).1 y hy
def okEA (x:AV):Bool:=xIL (Sh.list 3) (x.cells.getD 0 AV.top)
def ldEA (x:AV):AV:=AV.list 3 (x.cells.getD 0 AV.top).toList
abbrev encA:Row->AV:=encR
def xIh (x y:AV):Bool:=(xb0 (x.cells.getD 0 AV.top).toList (y.cells.getD 0 AV.top).toList).isSome
def xIj (x y:AV):Int:=(xb0 (x.cells.getD 0 AV.top).toList (y.cells.getD 0 AV.top).toList).getD 0
theorem ceA (x:Row):(encA x).cells.getD 0 AV.top=encA x:=rfl
theorem shA (x:Row):xIL (Sh.list 3) (encA x)=true:=rfl
theorem tlA (x:Row):(encA x).toList=x.map encV:=rfl
theorem heA (a:Row):okEA (encA a)=true:=rfl
theorem hdA (a:Row):ldEA (encA a)=encA a:=rfl
section
variable {N : Nat} (hN : N <= 2 ^ 60) {ok : Row -> Prop} {c : Row -> Row -> Int} (hc : ∀ x y, ok x -> ok y -> xIh (encA x) (encA y) = true /\ xIj (encA x) (encA y) = c x y)
include hN
include hc
theorem xHp (a b:Nat) (ha:a<=N) (hb:b<=N) {l r:List Row} (hl:LOk N ok l) (hr:xH3 c a b l=some r):xaN N a b (List.map encA l)=some (List.map encA r)/\LOk N ok r:=by
 obtain ⟨e1,e2⟩:=xyN (enc:=encA) hN (c:=c) (ok:=ok) a b hb (gi:=fun i=>xaX N a b i) (fun i l r hl hr=>xAa (okE:=okEA) (ldE:=ldEA) heA hdA hN (P:=xIh) (V:=xIj) hc a (fun j xs=>rfl) hl hr) (g:=xaW N a b) (fun i xs=>rfl) hl hr
 refine ⟨?_,e2⟩;unfold xaN xcR;rw [w64 (x:=(a:Int)+1) (n:=a+1) (by omega) (by omega),e1];rfl
theorem xD6 (q:N<20) {l r:List Row} (hl:LOk N ok l) (hr:xH3 c 0 N l=some r):xdJ N N (List.map encA l)=some (List.map encA r)/\LOk N ok r:=by
 obtain ⟨e1,e2⟩:=xHp hN hc 0 N (by omega) (zb _) hl hr
 have e1:xaN N 0 N (List.map encA l)=_:=e1;have q0:Iter (xa7 N N 20) ((0:Int),(20:Int),List.map encA l)=some ((0:Int),List.map encA l):=by
  refine xam ?_;have h1:¬ (20:Int)<=(N:Int):=by omega
  simp only [xa7,xdT,h1,zl,xah,sUF]
 have q1:Iter (xbO N N) ((20:Int),List.map encA r)=some (List.map encA r):=by
  refine xam ?_;have h1:¬ (20:Int)<(N:Int):=by omega
  simp only [xbO,xdU,h1,zl,xah,sUF]
 refine ⟨?_,e2⟩;simp only [xdJ,xfb,xeO,xeP,xeQ,q0,e1,q1,zj,zg,xae,sUF]
end
theorem xGw {N:Nat} (hN:N*24<=140737488355328) (l:List Row) (hl:l.length=N) (hr:∀ x,x∈l->x.length<=4398046511104):∀ (k i:Nat),i+k=N->Iter (xbg (List.map encA l) N) (i,(i:Int),List.map encA (l.take i))=some (N,List.map encA l):=by
 intro k;induction k with
 | zero =>
  intro i hi;refine xam ?_;have:¬ (i:Int)<(N:Int):=by omega
  simp only [xbg,xfk,this,zl,xah,sUF];rw [zh (by omega),show i=N by omega]
 | succ k ih =>
  intro i hi;have q:i<l.length:=by omega
  refine xn8 (s':=(i+1,((i+1:Nat):Int),List.map encA (l.take (i+1)))) ?_ (ih (i+1) (by omega))
  have hx:l[i]?=some l[i]:=by simp [q]
  have k1:(i:Int)<(N:Int):=by omega
  have k2:(i:Int)<((List.map encA l).length:Int):=by simp;omega
  have k2':(i:Int)<(l.length:Int):=by omega
  have k3:i<(List.map encA l).length:=by simpa using q
  have k4:=hr l[i] (zn q);have k5:(List.map encA (l.take i)).length=i:=by simp;omega
  have k6:(i+1)*24<=140737488355328:=by omega
  have k7:i+1<=4611686018427387904:=by omega
  have k8:List.map encA (l.take (i+1))=List.map encA (l.take i)++[AV.list 3 (l[i].map encV)]:=by
   rw [List.take_add_one,hx,zw];rfl
  simp only [xbg,xfk,k1,k2,k2',k3,q,zm,xae,Int.natCast_nonneg,zR,Bool.true_and,zM,gR hx,ceA,shA,tlA,z8,k4,k5,beq_self_eq_true,k6,k7,w64 (x:=(i:Int)+1) (n:=i+1) (by omega) (by omega),k8,sUF]
theorem xD5 {N:Nat} (hN:N*24<=140737488355328) {c:Row->Row->Int} (hc:∀ x y:Row,x.length<=4398046511104->y.length<=4398046511104->xIh (encA x) (encA y)=true/\xIj (encA x) (encA y)=c x y) (q:N<20) (l r:List Row) (hl:l.length=N) (ho:∀ x,x∈l->x.length<=4398046511104) (hr:xH3 c 0 N l=some r) :
  xnR (List.map encA l)=some (List.map encA r):=by
 obtain ⟨e1,e2⟩:=xD6 (N:=N) (by omega) (ok:=fun x=>x.length<=4398046511104) hc q ⟨hl,ho⟩ hr
 have e0:=xGw hN l hl ho N 0 (by omega)
 have e0':Iter (xbg (List.map encA l) (N:Int)) (0,(0:Int),[])=some (N,List.map encA l):=e0;have k1:(List.map encA l).length=N:=by simpa using hl
 have k2:(24:Int)*(N:Int)<=281474976710656:=by omega
 have k3:(N:Int)<=4611686018427387904:=by omega
 have k4:0+N<=(List.map encA r).length:=by simp;exact Nat.le_of_eq e2.len.symm
 have k4':N<=r.length:=Nat.le_of_eq e2.len.symm;have k5:List.take N (List.map encA r)=List.map encA r:=zh (by simp;exact Nat.le_of_eq e2.len)
 simp only [xnR,xoQ,xml,xkl,xjw,xjy,xgk,xjz,k1,e0',xja,xeM,e1,k2,k3,k4,k4',zm,z8,Bool.true_and,zR,xae,zj,zg,zq,zG,k5,Int.natCast_nonneg,sUF]
 try simp
end Go.Sim.M
end
noncomputable section
set_option maxRecDepth 100000
namespace Go.Sim.M
open Go.RowKit Go.Sim.Srt
theorem xEM (x y:Row) (hx:x.length<=4398046511104):xIh (encA x) (encA y)=true/\xIj (encA x) (encA y)=cmpR x y:=by
 unfold xIh xIj;rw [ceA,ceA,tlA,tlA,xrT x y (by unfold maxLen;omega)]
 exact ⟨rfl,rfl⟩
theorem xFi (l:List Row) (h:xIg l) (q:l.length<20):∃ r,xnR (l.map encR)=some (r.map encR)/\r.Perm l/\Sorted cmpR r:=by
 obtain ⟨r,e,p,s⟩:=xrr xwN.ord [] l [];simp only [zT,zC,List.length_nil,zG] at e;exact ⟨r,xD5 (N:=l.length) (by omega) (c:=cmpR) (fun x y hx hy=>xEM x y hx) q l r rfl (fun x hx=>by have:=h.2 x hx;omega) e,p,s⟩
theorem xDN (p:Per) (t:Int):xk3 p.1 p.2 t=hasP p t:=by
 rw [<-xyC];rfl
theorem xq9 (t:Int) (l:List Fc) (hl:l.length<=1048576):Iter (xcp t (l.map encF) ((l.length:Nat):Int)) ((0:Nat),(0:Int),[])=some ((l.flatMap (fun (f:Fc)=>if hasP f.p t=true then [f.r] else [])).length,(l.flatMap (fun (f:Fc)=>if hasP f.p t=true then [f.r] else [])).map encR):=by
 refine xn7 l (fun (f:Fc)=>if hasP f.p t=true then [f.r] else []) encR 1 (fun f hf=>?_) (fun n h D hD=>?_) (fun D=>?_)
 . cases q:(hasP (f).p t)<;>simp [q]
 . have h1:(n:Int)<(l.length:Int):=by omega
   have m1:(D.length+1)*24<=140737488355328:=by omega
   have m2:D.length+1<=4611686018427387904:=by omega
   have gf:(l.map encF).getD n .top=encF l[n]:=xaa _ _ _ h;simp only [xcp,xgX,sBU,h,h1,gf,cF0,cF1,cF2,sF0,sF1,sF2,lF,sF12,sF02,xDN,m1,m2,xHP (n:=n) (by omega)]
   cases q:(hasP (l[n]).p t)<;>simp [encR,xae,xah,encR,q,sUF]
 . simp only [xcp,xgX,z8,zx,zl,xah,sUF]
theorem xHk (l:List Fc) (t:Int) (h:Few l) (q:l.length<20):∃ r,xeW (l.map encF) t=some (r.map encR)/\r.Perm (atL l t)/\Sorted cmpR r:=by
 obtain ⟨r,e,p,s⟩:=xFi (atL l t) (h.at t) (by have:=xzM l t;omega)
 refine ⟨r,?_,p,s⟩;have:=xq9 t l h.1;unfold xeW xm2;simp only [xlN,xlO,xlP,xlQ,this,sOO,sUF];rw [show (l.flatMap fun f=>if hasP f.p t=true then [f.r] else [])=atL l t from rfl,e]
 simp only [sOO]
theorem xCt (p0:List UInt8) (p1 p3 p4:List AV) (key:List Int) (hk:key.length<=1048576) (l:List Fc) (hl:Few l) (J:l.length<20) (K:Row) (t:Int) :
  ∃ x:Row×Bool,xex p0 p1 (key.map encN) p3 p4 (l.map encF) (K.map encV) t=some (x.1.map encV,x.2)/\xH9 (atL (xH1 key l K) t) x:=by
 have hw:=xyB p0 p1 p3 p4 key hk l hl.1 K;have q:=xyW key l K;obtain ⟨r,re,rp,rs⟩:=xHk (xH1 key l K) t ⟨Nat.le_trans q hl.1,fun f hf=>hl.2 f (List.mem_filter.1 hf).1⟩ (by omega)
 generalize atL (xH1 key l K) t=D at *;cases hr:r with
 | nil =>
  subst hr;have hD:D=[]:=by have:=rp.length_eq;exact List.length_eq_zero_iff.1 (by simpa using this.symm)
  refine ⟨([],false),?_,.inl ⟨hD,rfl⟩⟩;unfold xex xjK;simp only [hw,re,zj,zg,xae,sUF];rfl
 | cons m rest =>
  subst hr;refine ⟨(m,true),?_,xw2 rp rs⟩;have n0:((((m::rest).length:Nat):Int)==0)=false:=by simp<;>omega
  have i1:(0:Int)<(((m::rest).length:Nat):Int):=by simp<;>omega
  have i2:0<(m::rest).length:=by simp
  have g0:((m::rest).map encR).getD 0 .top=encR m:=rfl;unfold xex xjK;simp only [sBU,hw,re,n0,i1,i2,g0,cR0,sR0]
end Go.Sim.M
end
noncomputable section
set_option maxRecDepth 100000
namespace Go.Sim.M
open Go.RowKit
def Stp {σ ρ:Type} (I:σ->Prop) (Q:ρ->Prop) (X:Option (σ⊕ρ)):Prop:=(∃ s,X=some (.inl s)/\I s)\/∃ r,X=some (.inr r)/\Q r
theorem Stp.br {σ ρ:Type} {I:σ->Prop} {Q:ρ->Prop} {c:Bool} {a b:Option (σ⊕ρ)} (h1:c=true->Stp I Q a) (h2:c=false->Stp I Q b):Stp I Q (br c a b):=by
 cases c with
 | true=>exact h1 rfl
 | false=>exact h2 rfl
theorem Stp.inl {σ ρ:Type} {I:σ->Prop} {Q:ρ->Prop} {s:σ} (h:I s):Stp I Q (some (.inl s):Option (σ⊕ρ)):=Or.inl ⟨s,rfl,h⟩
theorem Stp.inr {σ ρ:Type} {I:σ->Prop} {Q:ρ->Prop} {r:ρ} (h:Q r):Stp I Q (some (.inr r):Option (σ⊕ρ)):=Or.inr ⟨r,rfl,h⟩
def Ans {α:Type} (Q:α->Prop) (X:Option α):Prop:=∃ r,X=some r/\Q r
theorem Ans.br {α:Type} {Q:α->Prop} {c:Bool} {a b:Option α} (h1:c=true->Ans Q a) (h2:c=false->Ans Q b):Ans Q (br c a b):=by
 cases c with
 | true=>exact h1 rfl
 | false=>exact h2 rfl
theorem Ans.some {α:Type} {Q:α->Prop} {r:α} (h:Q r):Ans Q (some r):=⟨r,rfl,h⟩
theorem Ans.mono {α:Type} {Q Q':α->Prop} {X:Option α} (h:Ans Q X) (hq:∀ r,Q r->Q' r):Ans Q' X:=⟨h.choose,h.choose_spec.1,hq _ h.choose_spec.2⟩
theorem xbu {σ ρ:Type} {step:σ->Option (σ⊕ρ)} (I:Nat->σ->Prop) (N:Nat) (Q:ρ->Prop) (hs:∀ k s,k<N->I k s->Stp (I (k+1)) Q (step s))
  (he:∀ s,I N s->Stp (fun _=>False) Q (step s)):∀ (d k:Nat) (s:σ),k+d=N->I k s->Ans Q (Iter step s)
 | 0,k,s,h,hp=>by
  obtain rfl:k=N:=by omega
  rcases he s hp with ⟨_,_,h⟩|⟨r,e,hq⟩
  . exact absurd h id
  . exact ⟨r,xam e,hq⟩
 | d+1,k,s,h,hp=>by
  rcases hs k s (by omega) hp with ⟨s',e,q⟩|⟨r,e,hq⟩
  . obtain ⟨x,ex,hx⟩:=xbu I N Q hs he d (k+1) s' (by omega) q
    exact ⟨x,(xaF e).trans ex,hx⟩
  . exact ⟨r,xam e,hq⟩
theorem xwa (s:List UInt8) (hs:s.length<=16777216):Ans (fun _=>True) (xh2 s):=by
 obtain ⟨r,e,_⟩:=xbu (step:=xa0 s) (fun k i=>i=(k:Int)) s.length (fun _=>True) (fun k i hk hi=>by
  subst hi;have h1:(k:Int)<(s.length:Int):=by omega
  simp only [xa0,xeL,sBU,h1,hk,xHP (n:=k) (by omega)]
  repeat' (first|exact Stp.inl rfl|exact Stp.inr trivial|refine Stp.br (fun _=>?_) (fun _=>?_))) (fun i hi=>by
  subst hi;simp only [xa0,xeL,zx,zl,xah,sUF];exact Stp.inr trivial) s.length 0 (0:Int) (by omega) rfl
 unfold xh2 xjl;simp only [e,zj,zg,xae,sUF];repeat' (first|exact Ans.some trivial|refine Ans.br (fun _=>?_) (fun _=>?_))
theorem xuj (k i:Int) (s:List UInt8) (hs:s.length<=16777216):Ans (fun _=>True) (xjH k i s):=by
 obtain ⟨r,e,_⟩:=xwa s hs;unfold xjH xm6;simp only [e,zj,zg,xae,sUF];repeat' (first|exact Ans.some trivial|refine Ans.br (fun _=>?_) (fun _=>?_))
theorem xAH (op i vk vi:Int) (vt nm:List UInt8) (args:List AV) (ht:vt.length<=16777216):Ans (fun b=>b=true->op=22->1<=args.length) (xk9 op i vk vi vt nm args):=by
 obtain ⟨r,e,_⟩:=xuj vk vi vt ht;unfold xk9 xlW;simp only [e,zj,zg,xae,sUF];refine Ans.br (fun _=>Ans.some (by simp)) (fun _=>Ans.br (fun _=>Ans.some (by simp)) (fun h=>?_))
 have hh:op=22->1<=args.length:=fun ho=>by
  subst ho;have ha:(xhH 22).fst=3:=by rfl
  rw [ha] at h;simp only [decide_eq_false_iff_not] at h;omega
 repeat' (first|exact Ans.some (fun _=>hh)|refine Ans.br (fun _=>?_) (fun _=>?_))
theorem xrx (ks:List Int) (q:Int) (hk:ks.length<=16777216):Ans (fun _=>True) (xcn (ks.map encN) q):=by
 obtain ⟨r,e,_⟩:=xbu (step:=xcj (ks.map encN) q) (fun k i=>i=(k:Int)) ks.length (fun _=>True) (fun k i J hi=>by
  subst hi;have h1:(k:Int)<(ks.length:Int):=by omega
  have gf:(ks.map encN).getD k .top=encN ks[k]:=xaa _ _ _ J;simp only [xcj,xi0,sBU,h1,J,gf,cN,sN,xHP (n:=k) (by omega)]
  repeat' (first|exact Stp.inl rfl|exact Stp.inr trivial|refine Stp.br (fun _=>?_) (fun _=>?_))) (fun i hi=>by
  subst hi;simp only [xcj,xi0,z8,zx,zl,xah,sUF];exact Stp.inr trivial) ks.length 0 (0:Int) (by omega) rfl
 unfold xcn xpG;simp only [e,zj,zg,xae,sUF];repeat' (first|exact Ans.some trivial|refine Ans.br (fun _=>?_) (fun _=>?_))
theorem xyg (ks:List Int) (hk:ks.length<=16777216):Ans (fun _=>True) (xc7 (ks.map encN)):=by
 obtain ⟨r,e,_⟩:=xbu (step:=xcL (ks.map encN)) (fun k s=>s.2=(k:Int)) ks.length (fun _=>True) (fun k s q hi=>by
  obtain ⟨a,i⟩:=s;dsimp only at hi;subst hi;have h1:(k:Int)<(ks.length:Int):=by omega
  have gf:(ks.map encN).getD k .top=encN ks[k]:=xaa _ _ _ q;simp only [xcL,xh4,xgh,xg0,xg1,sBU,h1,q,gf,cN,sN,xHP (n:=k) (by omega)]
  repeat' (first|exact Stp.inl rfl|exact Stp.inr trivial|refine Stp.br (fun _=>?_) (fun _=>?_))) (fun s hi=>by
  obtain ⟨a,i⟩:=s;dsimp only at hi;subst hi;simp only [xcL,xh4,xgh,z8,zx,zl,xah,sUF];exact Stp.inr trivial) ks.length 0 ((0:Int),(0:Int)) (by omega) rfl
 unfold xc7 xoq;simp only [xm9,xna,xnb,e,zj,zg,xae,sUF];repeat' (first|exact Ans.some trivial|refine Ans.br (fun _=>?_) (fun _=>?_))
theorem xA8 (op i vk vi:Int) (vt nm:List UInt8) (args:List AV) (ks kn:List Int) (hk:ks.length<=16777216) (h2:op=2->0<=i/\i<(kn.length:Int)) (q:op=22->1<=ks.length):Ans (fun _=>True) (xgq op i vk vi vt nm args (ks.map encN) (kn.map encN)):=by
 obtain ⟨r1,e1,_⟩:=xrx ks 1 hk;obtain ⟨r2,e2,_⟩:=xrx ks 2 hk;obtain ⟨r3,e3,_⟩:=xrx ks 3 hk;obtain ⟨r4,e4,_⟩:=xyg ks hk;obtain ⟨r5,e5,_⟩:=xyg ((ks.drop 1).take (ks.length - 1)) (by rw [zr];omega)
 obtain ⟨r6,e6,_⟩:=xrx (ks.take 1) 3 (by rw [zr];omega)
 rw [List.map_take,List.map_drop] at e5;rw [List.map_take] at e6;unfold xgq xl7 xcC xcD xg2;simp only [z8,e1,e2,e3,e4,e5,e6,zq,zj,zg,xae,sUF];refine Ans.br (fun _=>Ans.some trivial) (fun _=>Ans.br (fun h=>?_) (fun _=>?_))
 . obtain ⟨a,b⟩:=h2 (by simpa using h)
   have c:i.toNat<kn.length:=by omega
   have gf:(kn.map encN).getD i.toNat .top=encN kn[i.toNat]:=xaa _ _ _ c;simp only [a,b,c,gf,cN,sN,zm,zR,xae,sUF];exact Ans.some trivial
 . by_cases h:op=22
   . have:=q h;have c:(1:Int)<=(ks.length:Int):=by omega
     simp only [c,zm,zR,xae,sUF];repeat' (first|exact Ans.some trivial|refine Ans.br (fun _=>?_) (fun _=>?_))
   . have hb:(op==22)=false:=by simpa using h
     simp only [hb,xah,sUF];repeat' (first|exact Ans.some trivial|refine Ans.br (fun _=>?_) (fun _=>?_))
theorem xIm (xs:List AV):(AV.agg xs).cells=xs:=rfl
theorem shE (op i vk vi:Int) (vt nm:List UInt8) (args:List AV):xIS [Sh.int IntKind.i64,Sh.int IntKind.i64,Sh.int IntKind.i64,Sh.int IntKind.i64,Sh.str,Sh.str,Sh.list 7] [AV.int .i64 op,.int .i64 i,.int .i64 vk,.int .i64 vi,.str vt,.str nm,.list 7 args] 0=true:=rfl
theorem cE0 (a b c d e f g:AV):[a,b,c,d,e,f,g].getD 0 .top=a:=rfl
theorem cE1 (a b c d e f g:AV):[a,b,c,d,e,f,g].getD 1 .top=b:=rfl
theorem cE2 (a b c d e f g:AV):[a,b,c,d,e,f,g].getD 2 .top=c:=rfl
theorem cE3 (a b c d e f g:AV):[a,b,c,d,e,f,g].getD 3 .top=d:=rfl
theorem cE4 (a b c d e f g:AV):[a,b,c,d,e,f,g].getD 4 .top=e:=rfl
theorem cE5 (a b c d e f g:AV):[a,b,c,d,e,f,g].getD 5 .top=f:=rfl
theorem cE6 (a b c d e f g:AV):[a,b,c,d,e,f,g].getD 6 .top=g:=rfl
theorem lE (a b c d e f g:AV):([a,b,c,d,e,f,g].length==7)=true:=rfl
theorem toIE (n:Int):(AV.int .i64 n).toInt=n:=rfl
theorem toSE (n:List UInt8):(AV.str n).toStr=n:=rfl
theorem toLE (k:Nat) (n:List AV):(AV.list k n).toList=n:=rfl
theorem xu7:∀ (n:Nat) (op i vk vi:Int) (vt nm:List UInt8) (args:List AV),args.length<=16777216->(∀ x,x∈args->IsEx x)->AV.dps args<n->Ans (fun _=>True) (xcB n op i vk vi vt nm args)
 | 0,op,i,vk,vi,vt,nm,args,hl,h,hd=>absurd hd (Nat.not_lt_zero _)
 | n+1,op,i,vk,vi,vt,nm,args,hl,h,hd=>by
  obtain ⟨r,e,_⟩:=xbu (step:=xbr (xcB n)) (fun k s=>∃ m:Int,s=(m,(k:Int),op,i,vk,vi,vt,nm,args)) args.length (fun _=>True) (fun k s hk hi=>by
   obtain ⟨m,rfl⟩:=hi;have h1:(k:Int)<(args.length:Int):=by omega
   have hx:=h args[k] (zn hk);have hp:=xuy (zn hk);have gf:args.getD k .top=args[k]:=by rw [z6,zd hk];rfl
   obtain ⟨O,i',q,J,U,Q,ar,ex,l',t',h'⟩:=hx.get;rw [ex] at gf hp;simp only [AV.dp,AV.dps] at hp;obtain ⟨r',e',_⟩:=xu7 n O i' q J U Q ar l' h' (by omega)
   simp only [xbr,xfa,xjt,xju,sBU,h1,hk,gf,xIm,shE,cE0,cE1,cE2,cE3,cE4,cE5,cE6,lE,toIE,toSE,toLE,e',xHP (n:=k) (by omega)]
   exact Stp.inl ⟨_,rfl⟩) (fun s hi=>by
   obtain ⟨m,rfl⟩:=hi;simp only [xbr,xfa,zx,zl,xah,sUF];exact Stp.inr trivial) args.length 0 ((0:Int),(0:Int),op,i,vk,vi,vt,nm,args) (by omega) ⟨0,rfl⟩
  show Ans _ (xf8 (xcB n) op i vk vi vt nm args);unfold xf8 xjQ;simp only [xl6,e,zj,zg,xae,sUF];exact Ans.some trivial
theorem xu1 (kn:List Int):∀ (n:Nat) (op i vk vi:Int) (vt nm:List UInt8) (args:List AV),args.length<=16777216->vt.length<=16777216->(∀ x,x∈args->IsEx x)->AV.dps args<n->Ans (fun _=>True) (xcA n op i vk vi vt nm args (kn.map encN))
 | 0,op,i,vk,vi,vt,nm,args,hl,ht,h,hd=>absurd hd (Nat.not_lt_zero _)
 | n+1,op,i,vk,vi,vt,nm,args,hl,ht,h,hd=>by
  obtain ⟨b,fe,fq⟩:=xAH op i vk vi vt nm args ht;obtain ⟨r,e,hq⟩:=xbu (step:=xbq (xcA n) (kn.map encN)) (fun k s=>∃ ks:List Int,ks.length=k/\s=(ks.length,(k:Int),op,i,vk,vi,vt,nm,args,ks.map encN)) args.length (fun r=>r.1=false->∃ ks:List Int,ks.length=args.length/\r.2.2=(ks.length,op,i,vk,vi,vt,nm,args,ks.map encN)) (fun k s hk hi=>by
   obtain ⟨ks,q,rfl⟩:=hi;have h1:(k:Int)<(args.length:Int):=by omega
   have hx:=h args[k] (zn hk);have hp:=xuy (zn hk);have gf:args.getD k .top=args[k]:=by rw [z6,zd hk];rfl
   obtain ⟨U,i',O,Q,Y,W,ar,ex,l',t',h'⟩:=hx.get;rw [ex] at gf hp;simp only [AV.dp,AV.dps] at hp;have m1:(ks.length+1)*8<=140737488355328:=by omega
   have m2:ks.length+1<=4611686018427387904:=by omega
   obtain ⟨⟨r1,r2⟩,e',_⟩:=xu1 kn n U i' O Q Y W ar l' t' h' (by omega)
   simp only [xbq,xe9,xjo,xjp,xjq,sBU,h1,hk,gf,xIm,shE,cE0,cE1,cE2,cE3,cE4,cE5,cE6,lE,toIE,toSE,toLE,e',m1,m2,xHP (n:=k) (by omega)]
   refine Stp.br (fun _=>Stp.inr (by simp)) (fun _=>Stp.inl ⟨ks++[r1],by simp [q],?_⟩)
   simp [encN]) (fun s hi=>by
   obtain ⟨ks,q,rfl⟩:=hi;simp only [xbq,xe9,zx,zl,xah,sUF];exact Stp.inr fun _=>⟨ks,q,rfl⟩) args.length 0 ((0:Nat),(0:Int),op,i,vk,vi,vt,nm,args,[]) (by omega) ⟨[],rfl,rfl⟩
  obtain ⟨r1,r2,r3⟩:=r;show Ans _ (xeX (xcA n) op i vk vi vt nm args (kn.map encN));unfold xeX xjP xh5;simp only [xlX,xlY,xlZ,xlx,xl0,xl1,xl2,xl3,xl4,xl5,xla,xlb,xlc,xld,xle,xlf,e,fe,z8,zj,zg,xae,sUF];cases b with
  | false=>simp only [Bool.not_false,xae,sUF];repeat' (first|exact Ans.some trivial|refine Ans.br (fun _=>?_) (fun _=>?_))
  | true =>
   have J:∀ r1:Bool,(r1=false->∃ ks:List Int,ks.length=args.length/\r3=(ks.length,op,i,vk,vi,vt,nm,args,ks.map encN))->(op=2->0<=i/\i<(kn.length:Int))->∀ x:Int×Int,Ans (fun _=>True) (br r1 (some x) (br (decide (r3.1<=r3.2.2.2.2.2.2.2.2.length)&&true) (br ((xgq r3.2.1 r3.2.2.1 r3.2.2.2.1 r3.2.2.2.2.1 r3.2.2.2.2.2.1 r3.2.2.2.2.2.2.1 r3.2.2.2.2.2.2.2.1 (List.take r3.1 (List.drop 0 r3.2.2.2.2.2.2.2.2)) (kn.map encN)).isSome) (br (!((xgq r3.2.1 r3.2.2.1 r3.2.2.2.1 r3.2.2.2.2.1 r3.2.2.2.2.2.1 r3.2.2.2.2.2.2.1 r3.2.2.2.2.2.2.2.1 (List.take r3.1 (List.drop 0 r3.2.2.2.2.2.2.2.2)) (kn.map encN)).getD ((0:Int),false)).2) (some ((0:Int),(7:Int))) (some (((xgq r3.2.1 r3.2.2.1 r3.2.2.2.1 r3.2.2.2.2.1 r3.2.2.2.2.2.1 r3.2.2.2.2.2.2.1 r3.2.2.2.2.2.2.2.1 (List.take r3.1 (List.drop 0 r3.2.2.2.2.2.2.2.2)) (kn.map encN)).getD ((0:Int),false)).1,(0:Int)))) none) none)):=fun r1 hr h2 x=>by
    cases r1 with
    | true=>exact Ans.some trivial
    | false =>
     obtain ⟨ks,q,rfl⟩:=hr rfl;obtain ⟨y,ye,_⟩:=xA8 op i vk vi vt nm args ks kn (by omega) h2 (fun ho=>by rw [q];exact fq rfl ho)
     have tt:List.take ks.length (ks.map encN)=ks.map encN:=zh (by simp)
     simp only [xah,z8,zb,zm,zR,xae,zq,tt,ye,zj,zg,sUF];repeat' (first|exact Ans.some trivial|refine Ans.br (fun _=>?_) (fun _=>?_))
   simp only [Bool.not_true,xah,zG,sUF];refine Ans.br (fun _=>Ans.some trivial) (fun _=>Ans.br (fun ho=>?_) (fun ho=>?_))
   . refine Ans.br (fun _=>Ans.some trivial) (fun a1=>Ans.br (fun _=>Ans.some trivial) (fun a2=>?_))
     simp only [decide_eq_false_iff_not] at a1 a2;exact J r1 hq (fun _=>⟨by omega,by omega⟩) _
   . exact J r1 hq (fun h=>by simp [h] at ho) _
theorem xAz (kn:List Int) (op i vk vi:Int) (vt nm:List UInt8) (args:List AV) (hl:args.length<=16777216) (ht:vt.length<=16777216) (h:∀ x,x∈args->IsEx x):Ans (fun _=>True) (xpF op i vk vi vt nm args (kn.map encN)):=by
 obtain ⟨d,de,_⟩:=xu7 (AV.dps args+1) op i vk vi vt nm args hl h (Nat.lt_succ_self _);obtain ⟨c,ce,_⟩:=xu1 kn (AV.dps args+1) op i vk vi vt nm args hl ht h (Nat.lt_succ_self _);have h1:(xhA op i vk vi vt nm args).isSome=true:=xsq (R:=fun n=>xcB n op i vk vi vt nm args) (by rw [de];rfl)
 have h2:(xfv op i vk vi vt nm args (kn.map encN)).isSome=true:=xsq (R:=fun n=>xcA n op i vk vi vt nm args (kn.map encN)) (by rw [ce];rfl)
 unfold xpF xm8;rw [h1,h2];simp only [xae,sUF];repeat' (first|exact Ans.some trivial|refine Ans.br (fun _=>?_) (fun _=>?_))
def xIn:AV->Bool
 | .str _=>true
 | _=>false
theorem xAK {x:AV} (h:xIn x=true):∃ s,x=.str s:=by
 cases x<;>first|exact ⟨_,rfl⟩|(simp [xIn] at h)
theorem xII (s:List UInt8):xIL .str ((AV.str s).cells.getD 0 .top)=true:=rfl
theorem cStr (s:List UInt8):((AV.str s).cells.getD 0 .top).toStr=s:=rfl
theorem xGA (l:List AV) (s:List UInt8) (hl:l.length<=16777216) (h:l.all xIn=true):Ans (fun _=>True) (xth l s):=by
 obtain ⟨r,e,_⟩:=xbu (step:=xcE l s) (fun k i=>i=(k:Int)) l.length (fun _=>True) (fun k i hk hi=>by
  subst hi;have h1:(k:Int)<(l.length:Int):=by omega
  obtain ⟨x,hx⟩:=xAK (zH.1 h l[k] (zn hk));have gf:l.getD k .top=.str x:=by rw [z6,zd hk,<-hx];rfl
  simp only [xcE,xjR,sBU,h1,hk,gf,xII,cStr,xHP (n:=k) (by omega)]
  repeat' (first|exact Stp.inl rfl|exact Stp.inr trivial|refine Stp.br (fun _=>?_) (fun _=>?_))) (fun i hi=>by
  subst hi;simp only [xcE,xjR,zx,zl,xah,sUF];exact Stp.inr trivial) l.length 0 (0:Int) (by omega) rfl
 unfold xth xqE;simp only [e,zj,zg,xae,sUF];repeat' (first|exact Ans.some trivial|refine Ans.br (fun _=>?_) (fun _=>?_))
theorem xs6 (s:List UInt8) (hs:s.length<=16777216):Ans (fun _=>True) (xfP s):=by
 obtain ⟨r,e,_⟩:=xbu (step:=xbZ s) (fun k i=>i=(k:Int)) s.length (fun _=>True) (fun k i hk hi=>by
  subst hi;have h1:(k:Int)<(s.length:Int):=by omega
  simp only [xbZ,xh7,xgi,xgj,sBU,h1,hk,xHP (n:=k) (by omega)]
  repeat' (first|exact Stp.inl rfl|exact Stp.inr trivial|refine Stp.br (fun _=>?_) (fun _=>?_))) (fun i hi=>by
  subst hi;simp only [xbZ,xh7,xgi,xgj,zx,zl,xah,sUF];exact Stp.inr trivial) s.length 0 (0:Int) (by omega) rfl
 obtain ⟨r2,e2,_⟩:Ans (fun _=>True) (xng s):=xGA _ s (by decide) (by rfl)
 unfold xfP xoz xmc;simp only [e,e2,zj,zg,xae,sUF];cases s with
 | nil=>exact Ans.some trivial
 | cons c t =>
  have h0:(0:Int)<(((c::t).length:Nat):Int):=by rw [zD];omega
  simp only [h0,zm,xae,sUF];repeat' (first|exact Ans.some trivial|refine Ans.br (fun _=>?_) (fun _=>?_))
theorem xyh (t:Tab) (hc:t.cols.length<=16777216):xf9 t.n (t.cols.map xHM) (t.key.map encN) (t.fos.map xHN) t.chk=some ((t.cols.map (·.k)).map encN):=by
 have e:=xo9 (step:=xcu) t.cols (fun c=>[c.k]) (fun n D=>(D.length,(n:Int),t.n,t.cols.map xHM,t.key.map encN,t.fos.map xHN,t.chk,D.map encN)) (fun D=>(D.length,D.map encN)) [] 1 (fun _ _=>by simp) (fun n h D hD=>by
  have h1:(n:Int)<(t.cols.length:Int):=by omega
  rw [List.length_nil] at hD;have m1:(D.length+1)*8<=140737488355328:=by omega
  have m2:D.length+1<=4611686018427387904:=by omega
  have gf:(t.cols.map xHM).getD n .top=xHM t.cols[n]:=xaa _ _ _ h;simp only [xcu,xg3,sBU,h,h1,gf,cK1,shI,AV.toInt,m1,m2,xHP (n:=n) (by omega)]
  simp [encN]) (fun D=>by
  simp only [xcu,xg3,z8,zx,zl,xah,sUF])
 rw [zT,xIl] at e;have e:Iter xcu ((0:Nat),(0:Int),t.n,t.cols.map xHM,t.key.map encN,t.fos.map xHN,t.chk,[])=some ((t.cols.map (·.k)).length,(t.cols.map (·.k)).map encN):=e;have tt:List.take (t.cols.map (·.k)).length ((t.cols.map (·.k)).map encN)=(t.cols.map (·.k)).map encN:=zh (by simp)
 unfold xf9 xnf;simp only [xl8,xl9,xma,xmb,e,zj,zg,xae,zG,zq,sUF];rw [tt];simp [xae,sUF]
theorem xDu (t:Tab) (s:List UInt8) (hc:t.cols.length<=16777216):Ans (fun _=>True) (xnM t.n (t.cols.map xHM) (t.key.map encN) (t.fos.map xHN) t.chk s):=by
 obtain ⟨r,e,_⟩:=xbu (step:=xcO s) (fun k x=>x=((k:Int),t.n,t.cols.map xHM,t.key.map encN,t.fos.map xHN,t.chk)) t.cols.length (fun _=>True) (fun k i hk hi=>by
  subst hi;have h1:(k:Int)<(t.cols.length:Int):=by omega
  have gf:(t.cols.map xHM).getD k .top=xHM t.cols[k]:=xaa _ _ _ hk;simp only [xcO,xh6,sBU,h1,hk,gf,cK0,shS,AV.toStr,xHP (n:=k) (by omega)]
  repeat' (first|exact Stp.inl rfl|exact Stp.inr trivial|refine Stp.br (fun _=>?_) (fun _=>?_))) (fun i hi=>by
  subst hi;simp only [xcO,xh6,z8,zx,zl,xah,sUF];exact Stp.inr trivial) t.cols.length 0 _ (by omega) rfl
 have e:Iter (xcO s) ((0:Int),t.n,t.cols.map xHM,t.key.map encN,t.fos.map xHN,t.chk)=some r:=e;unfold xnM xow;simp only [xnd,xne,e,zj,zg,xae,sUF];repeat' (first|exact Ans.some trivial|refine Ans.br (fun _=>?_) (fun _=>?_))
structure Tab.Ok (t:Tab):Prop where
 n:t.n.length<=16777216
 cols:t.cols.length<=16777216
 key:t.key.length<=1048576
 fos:t.fos.length<=16777216
 chk:t.chk.length<=16777216
 cn:∀ c,c∈t.cols->c.n.length<=16777216
 fc:∀ f,f∈t.fos->f.cols.length<=1048576/\f.t.length<=16777216
 ex:∀ x,x∈t.chk->IsEx x
theorem xzb (t:Tab) (h:t.Ok):Ans (fun _=>True) (xfw t.n (t.cols.map xHM) (t.key.map encN) (t.fos.map xHN) t.chk):=by
 have q:=h.cols;obtain ⟨r,e,_⟩:=xbu (step:=xbR) (fun k x=>x=((k:Int),t.n,t.cols.map xHM,t.key.map encN,t.fos.map xHN,t.chk)) t.cols.length (fun _=>True) (fun k i hk hi=>by
  subst hi;have h1:(k:Int)<(t.cols.length:Int):=by omega
  have gf:(t.cols.map xHM).getD k .top=xHM t.cols[k]:=xaa _ _ _ hk;obtain ⟨a,ae,_⟩:=xs6 t.cols[k].n (h.cn _ (zn hk));obtain ⟨b,be,_⟩:=xDu t t.cols[k].n h.cols;simp only [xbR,xfQ,sBU,h1,hk,gf,cK0,cK1,lK,sK,AV.toStr,AV.toInt,ae,be,xHP (n:=k) (by omega)]
  repeat' (first|exact Stp.inl rfl|exact Stp.inr trivial|refine Stp.br (fun _=>?_) (fun _=>?_))) (fun i hi=>by
  subst hi;simp only [xbR,xfQ,z8,zx,zl,xah,sUF];exact Stp.inr trivial) t.cols.length 0 _ (by omega) rfl
 have e:Iter xbR ((0:Int),t.n,t.cols.map xHM,t.key.map encN,t.fos.map xHN,t.chk)=some r:=e;unfold xfw xlg;simp only [xkb,xkc,e,zj,zg,xae,sUF];repeat' (first|exact Ans.some trivial|refine Ans.br (fun _=>?_) (fun _=>?_))
def InC (t:Tab) (x:Int):Prop:=0<=x/\x<(t.cols.length:Int)
theorem xmJ (t:Tab) (x:Int):xiy t.n (t.cols.map xHM) (t.key.map encN) (t.fos.map xHN) t.chk x=(decide (0<=x)&&decide (x<(t.cols.length:Int))):=by
 unfold xiy;rw [z8];by_cases h:0<=x
 . have:x>=0:=h;simp [br,h,this]
 . have:¬ x>=0:=h;simp [br,h,this]
theorem xvb {t:Tab} {x:Int} (h:(decide (0<=x)&&decide (x<(t.cols.length:Int)))=true):InC t x:=by
 simp only [ze,zk] at h;exact h
theorem xEU (t:Tab) (h:t.Ok):Ans (fun c=>c=0->∀ x,x∈t.key->InC t x) (xmN t.n (t.cols.map xHM) (t.key.map encN) (t.fos.map xHN) t.chk):=by
 have U:=h.key;obtain ⟨r,e,hr⟩:=xbu (step:=xbK) (fun k x=>x=((k:Int),t.n,t.cols.map xHM,t.key.map encN,t.fos.map xHN,t.chk)/\∀ j (hj:j<t.key.length),j<k->InC t t.key[j]) t.key.length (fun r=>(r.1=true->r.2.1≠0)/\(r.1=false->∀ x,x∈t.key->InC t x)) (fun k i hk hi=>by
  obtain ⟨rfl,hp⟩:=hi;have h1:(k:Int)<(t.key.length:Int):=by omega
  have gf:(t.key.map encN).getD k .top=encN t.key[k]:=xaa _ _ _ hk;cases hx:(decide (0<=t.key[k])&&decide (t.key[k]<(t.cols.length:Int))) with
  | false =>
   simp only [xbK,xe4,xdw,xd9,xea,xby,sBU,h1,hk,gf,cN,sN,xmJ,hx];exact Stp.inr ⟨fun _=>by simp,fun h=>by simp at h⟩
  | true =>
   have q:=xvb hx;have c:t.key[k].toNat<t.cols.length:=by have:=q.1;have:=q.2;omega
   have gc:(t.cols.map xHM).getD t.key[k].toNat .top=xHM t.cols[t.key[k].toNat]:=xaa _ _ _ c;have hp':∀ j (hj:j<t.key.length),j<k+1->InC t t.key[j]:=fun j hj O=>by
    rcases zI j k with J|Q
    . exact hp j hj J
    . obtain rfl:j=k:=by omega
      exact q
   cases k with
   | zero =>
    have i0:¬ ((0:Nat):Int)>0:=by omega
    simp only [xbK,xe4,xdw,xd9,xea,xby,sBU,h1,hk,gf,cN,sN,xmJ,hx,i0,q.1,q.2,c,gc,cK2,shB,AV.toBool,xHP (n:=0) (by omega)]
    exact Stp.br (fun _=>Stp.inr ⟨fun _=>by simp,fun h=>by simp at h⟩) (fun _=>Stp.inl ⟨rfl,hp'⟩)
   | succ m =>
    have i0:((m+1:Nat):Int)>0:=by omega
    have w:IntKind.i64.wrap (((m+1:Nat):Int) - 1)=(m:Int):=by rw [xdC (by omega) (by omega)];omega
    have h3:(m:Int)<(t.key.length:Int):=by omega
    have h4:m<t.key.length:=by omega
    have gm:(t.key.map encN).getD m .top=encN t.key[m]:=xaa _ _ _ h4;simp only [xbK,xe4,xdw,xd9,xea,xby,sBU,h1,hk,gf,cN,sN,xmJ,hx,i0,w,h3,h4,gm,q.1,q.2,c,gc,cK2,shB,AV.toBool,xHP (n:=m+1) (by omega)]
    exact Stp.br (fun _=>Stp.inr ⟨fun _=>by simp,fun h=>by simp at h⟩) (fun _=>Stp.br (fun _=>Stp.inr ⟨fun _=>by simp,fun h=>by simp at h⟩) (fun _=>Stp.inl ⟨rfl,hp'⟩))) (fun i hi=>by
  obtain ⟨rfl,hp⟩:=hi;simp only [xbK,xe4,xdw,z8,zx,zl,xah,sUF];refine Stp.inr ⟨fun h=>by simp at h,fun _ x hx=>?_⟩
  obtain ⟨j,hj,rfl⟩:=List.getElem_of_mem hx;exact hp j hj hj) t.key.length 0 _ (by omega) ⟨rfl,fun j _ h=>absurd h (Nat.not_lt_zero _)⟩
 have e:Iter xbK ((0:Int),t.n,t.cols.map xHM,t.key.map encN,t.fos.map xHN,t.chk)=some r:=e;unfold xmN xpJ;simp only [xoA,xoB,e,zj,zg,xae,sUF];exact Ans.br (fun _=>Ans.some fun h=>by simp at h) (fun _=>Ans.br (fun h1=>Ans.some fun h=>absurd h (hr.1 h1)) (fun h1=>Ans.some fun _=>hr.2 h1))
theorem xze (t:Tab) (h:t.Ok) (f:Fo) (hf:f.cols.length<=1048576/\f.t.length<=16777216):Ans (fun c=>c=0->∀ x,x∈f.cols->InC t x) (xhB t.n (t.cols.map xHM) (t.key.map encN) (t.fos.map xHN) t.chk (f.cols.map encN) f.t):=by
 have W:=hf.1;obtain ⟨a,ae,_⟩:=xs6 f.t hf.2;obtain ⟨r,e,hr⟩:=xbu (step:=xbv) (fun k x=>x=((k:Int),t.n,t.cols.map xHM,t.key.map encN,t.fos.map xHN,t.chk,f.cols.map encN,f.t)/\∀ j (hj:j<f.cols.length),j<k->InC t f.cols[j]) f.cols.length (fun r=>(r.1=true->r.2.1≠0)/\(r.1=false->∀ x,x∈f.cols->InC t x)) (fun k i hk hi=>by
  obtain ⟨rfl,hp⟩:=hi;have h1:(k:Int)<(f.cols.length:Int):=by omega
  have gf:(f.cols.map encN).getD k .top=encN f.cols[k]:=xaa _ _ _ hk;cases hx:(decide (0<=f.cols[k])&&decide (f.cols[k]<(t.cols.length:Int))) with
  | false =>
   simp only [xbv,xdS,sBU,h1,hk,gf,cN,sN,xmJ,hx];exact Stp.inr ⟨fun _=>by simp,fun h=>by simp at h⟩
  | true =>
   have O:=xvb hx;have hp':∀ j (hj:j<f.cols.length),j<k+1->InC t f.cols[j]:=fun j hj Q=>by
    rcases zI j k with J|U
    . exact hp j hj J
    . obtain rfl:j=k:=by omega
      exact O
   obtain ⟨⟨b,q1,q2⟩,e1,q⟩:=xbu (step:=xbS (k:Int)) (fun m x=>x=((m:Int),t.n,t.cols.map xHM,t.key.map encN,t.fos.map xHN,t.chk,f.cols.map encN,f.t)) k (fun r=>(r.1=true->r.2.1.1≠0)/\(r.1=false->r.2.2=(t.n,t.cols.map xHM,t.key.map encN,t.fos.map xHN,t.chk,f.cols.map encN,f.t))) (fun m i hm hi=>by
    subst hi;have m1:(m:Int)<(k:Int):=by omega
    have m2:(m:Int)<(f.cols.length:Int):=by omega
    have m3:m<f.cols.length:=by omega
    have gm:(f.cols.map encN).getD m .top=encN f.cols[m]:=xaa _ _ _ m3;simp only [xbS,xfR,sBU,m1,m2,m3,h1,hk,gf,gm,cN,sN,xHP (n:=m) (by omega)]
    exact Stp.br (fun _=>Stp.inr ⟨fun _=>by simp,fun h=>by simp at h⟩) (fun _=>Stp.inl rfl)) (fun i hi=>by
    subst hi;simp only [xbS,xfR,zx,zl,xah,sUF];exact Stp.inr ⟨fun h=>by simp at h,fun _=>rfl⟩) k 0 _ (by omega) rfl
   have e1:Iter (xbS (k:Int)) ((0:Int),t.n,t.cols.map xHM,t.key.map encN,t.fos.map xHN,t.chk,f.cols.map encN,f.t)=_:=e1;simp only [xbv,xdS,xhR,xhS,xhT,xhU,xhV,xhW,xhX,xhY,xhZ,sBU,h1,hk,gf,cN,sN,xmJ,hx,e1,xHP (n:=k) (by omega)]
   refine Stp.br (fun hb=>Stp.inr ⟨fun _=>q.1 hb,fun h=>by simp at h⟩) (fun hb=>?_)
   have:=q.2 hb;dsimp only at this;subst this;exact Stp.inl ⟨rfl,hp'⟩) (fun i hi=>by
  obtain ⟨rfl,hp⟩:=hi;simp only [xbv,xdS,z8,zx,zl,xah,sUF];refine Stp.inr ⟨fun h=>by simp at h,fun _ x hx=>?_⟩
  obtain ⟨j,hj,rfl⟩:=List.getElem_of_mem hx;exact hp j hj hj) f.cols.length 0 _ (by omega) ⟨rfl,fun j _ h=>absurd h (Nat.not_lt_zero _)⟩
 have e:Iter xbv ((0:Int),t.n,t.cols.map xHM,t.key.map encN,t.fos.map xHN,t.chk,f.cols.map encN,f.t)=some r:=e;unfold xhB xlh;simp only [xkd,xke,ae,e,zj,zg,xae,sUF];exact Ans.br (fun _=>Ans.some fun h=>by simp at h) (fun _=>Ans.br (fun _=>Ans.some fun h=>by simp at h) (fun _=>Ans.br (fun h1=>Ans.some fun h=>absurd h (hr.1 h1)) (fun h1=>Ans.some fun _=>hr.2 h1)))
theorem xty (t:Tab) (h:t.Ok):Ans (fun c=>c=0->∀ f,f∈t.fos->∀ x,x∈f.cols->InC t x) (xdc t.n (t.cols.map xHM) (t.key.map encN) (t.fos.map xHN) t.chk):=by
 have ae:=h.fos;have ad:=h.chk;obtain ⟨⟨b,q1,q2⟩,e,hr⟩:=xbu (step:=xbi) (fun k x=>x=((k:Int),t.n,t.cols.map xHM,t.key.map encN,t.fos.map xHN,t.chk)/\∀ j (hj:j<t.fos.length),j<k->∀ x,x∈t.fos[j].cols->InC t x) t.fos.length (fun r=>(r.1=true->r.2.1.1≠0)/\(r.1=false->r.2.2=(t.n,t.cols.map xHM,t.key.map encN,t.fos.map xHN,t.chk)/\∀ f,f∈t.fos->∀ x,x∈f.cols->InC t x)) (fun k i hk hi=>by
  obtain ⟨rfl,hp⟩:=hi;have h1:(k:Int)<(t.fos.length:Int):=by omega
  have gf:(t.fos.map xHN).getD k .top=xHN t.fos[k]:=xaa _ _ _ hk;obtain ⟨c,ce,hc⟩:=xze t h t.fos[k] (h.fc _ (zn hk));simp only [xbi,xdH,sBU,h1,hk,gf,cFo0,cFo1,lFo,sFo,AV.toList,AV.toStr,ce,xHP (n:=k) (by omega)]
  refine Stp.br (fun hb=>Stp.inr ⟨fun _=>by simpa using hb,fun h=>by simp at h⟩) (fun hb=>Stp.inl ⟨rfl,fun j hj ab=>?_⟩)
  rcases zI j k with U|ac
  . exact hp j hj U
  . obtain rfl:j=k:=by omega
    exact hc (by simpa using hb)) (fun i hi=>by
  obtain ⟨rfl,hp⟩:=hi;simp only [xbi,xdH,z8,zx,zl,xah,sUF];refine Stp.inr ⟨fun h=>by simp at h,fun _=>⟨rfl,fun f hf=>?_⟩⟩
  obtain ⟨j,hj,rfl⟩:=List.getElem_of_mem hf;exact hp j hj hj) t.fos.length 0 _ (by omega) ⟨rfl,fun j _ h=>absurd h (Nat.not_lt_zero _)⟩
 have e:Iter xbi ((0:Int),t.n,t.cols.map xHM,t.key.map encN,t.fos.map xHN,t.chk)=_:=e;have J:=xyh t h.cols;obtain ⟨r1,e1,Y⟩:=xbu (step:=xbj) (fun k x=>x=((k:Int),t.n,t.cols.map xHM,t.key.map encN,t.fos.map xHN,t.chk)) t.chk.length (fun r=>r.1=true->r.2.1≠0) (fun k i hk hi=>by
  subst hi;have h1:(k:Int)<(t.chk.length:Int):=by omega
  have gf:t.chk.getD k .top=t.chk[k]:=by rw [z6,zd hk];rfl
  obtain ⟨W,i',O,Q,aa,Z,ar,ex,l',t',h'⟩:=(h.ex _ (zn hk)).get;rw [ex] at gf;obtain ⟨⟨c1,c2⟩,ce,_⟩:=xAz (t.cols.map (·.k)) W i' O Q aa Z ar l' t' h';simp only [xbj,xdI,xfp,xfq,xfr,xfs,sBU,h1,hk,gf,xIm,shE,cE0,cE1,cE2,cE3,cE4,cE5,cE6,lE,toIE,toSE,toLE,J,ce,xHP (n:=k) (by omega)]
  exact Stp.br (fun hb=>Stp.inr fun _=>by simpa using hb) (fun _=>Stp.br (fun _=>Stp.br (fun _=>Stp.inr fun _=>by simp) (fun _=>Stp.inl rfl)) (fun _=>Stp.inl rfl))) (fun i hi=>by
  subst hi;simp only [xbj,xdI,zx,zl,xah,sUF];exact Stp.inr fun h=>by simp at h) t.chk.length 0 _ (by omega) rfl
 have e1:Iter xbj ((0:Int),t.n,t.cols.map xHM,t.key.map encN,t.fos.map xHN,t.chk)=_:=e1;unfold xdc xhQ;simp only [xg4,xg5,xg6,xg7,xg8,xg9,xha,xhb,xhc,xhd,e,zj,zg,xae,sUF];refine Ans.br (fun _=>Ans.some fun h=>by simp at h) (fun _=>Ans.br (fun h1=>Ans.some fun h=>absurd h (hr.1 h1)) (fun h1=>?_))
 obtain ⟨q,hq⟩:=hr.2 h1;dsimp only at q;subst q;simp only [e1,zj,zg,xae,sUF];exact Ans.br (fun _=>Ans.some fun h=>by simp at h) (fun _=>Ans.br (fun h1=>Ans.some fun h=>absurd h (Y h1)) (fun _=>Ans.some fun _=>hq))
theorem xBj (t:Tab) (h:t.Ok):Ans (fun c=>c=0->(∀ x,x∈t.key->InC t x)/\∀ f,f∈t.fos->∀ x,x∈f.cols->InC t x) (xmA t.n (t.cols.map xHM) (t.key.map encN) (t.fos.map xHN) t.chk):=by
 obtain ⟨a,ae,_⟩:=xs6 t.n h.n;obtain ⟨b,be,_⟩:=xzb t h;obtain ⟨c,ce,hc⟩:=xEU t h;obtain ⟨d,de,hd⟩:=xty t h;unfold xmA xnc;simp only [ae,be,ce,de,zj,zg,xae,sUF];cases a with
 | false=>exact Ans.some fun h=>by simp at h
 | true =>
  simp only [Bool.not_true,xah,sUF];refine Ans.br (fun _=>Ans.br (fun h2=>Ans.some fun h=>⟨hc (by simpa using h2),hd h⟩) (fun h2=>Ans.some fun h=>by simp [h] at h2)) (fun h1=>?_)
  simp only [h1,xah,sUF];exact Ans.some fun h=>by simp [h] at h1
theorem xzw (row:Row) (kn:List Int) (hr:row.length<=1048576) (ht:Txt row):Ans (fun b=>b=true->row.length=kn.length) (xnL (row.map encV) (kn.map encN)):=by
 unfold xnL xon;by_cases hl:row.length=kn.length
 . obtain ⟨r,e,_⟩:=xbu (step:=xbW (row.map encV) (kn.map encN)) (fun k i=>i=(k:Int)) row.length (fun _=>True) (fun k i hk hi=>by
    subst hi;have h1:(k:Int)<(row.length:Int):=by omega
    have h2:(k:Int)<(kn.length:Int):=by omega
    have h3:k<kn.length:=by omega
    have gf:(row.map encV).getD k .top=encV row[k]:=xaa _ _ _ hk;have gn:(kn.map encN).getD k .top=encN kn[k]:=xaa _ _ _ h3;have hv:=(ht _ (zn hk)).2;obtain ⟨v,ve,_⟩:=xuj row[k].k row[k].i row[k].t (by omega)
    have q:xIL (Sh.int .i64) ((encV row[k]).cells.getD 0 .top)=true:=rfl;simp only [xbW,xh3,xgx,xka,sBU,h1,h2,h3,hk,gf,gn,cV0,cV1,cV2,lV,sV,q,cN,sN,ve,xHP (n:=k) (by omega)]
    repeat' (first|exact Stp.inl rfl|exact Stp.inr trivial|refine Stp.br (fun _=>?_) (fun _=>?_))) (fun i hi=>by
    subst hi;simp only [xbW,xh3,z8,zx,zl,xah,sUF];exact Stp.inr trivial) row.length 0 (0:Int) (by omega) rfl
   simp only [e,zj,zg,xae,sUF];repeat' (first|exact Ans.some fun _=>hl|refine Ans.br (fun _=>?_) (fun _=>?_))
 . have hb:(((row.length:Nat):Int) != ((kn.length:Nat):Int))=true:=by
    rw [bne_iff_ne];omega
   simp only [z8,hb,xae,sUF];exact Ans.some fun h=>by simp at h
theorem xA9 (kn:List Int) (hk:kn.length<=16777216):Ans (fun _=>True) (xpK (kn.map encN)):=by
 obtain ⟨r,e,_⟩:=xbu (step:=xbM (kn.map encN)) (fun k i=>i=(k:Int)) kn.length (fun _=>True) (fun k i q hi=>by
  subst hi;have h1:(k:Int)<(kn.length:Int):=by omega
  have gf:(kn.map encN).getD k .top=encN kn[k]:=xaa _ _ _ q;simp only [xbM,xhe,sBU,h1,q,gf,cN,sN,xHP (n:=k) (by omega)]
  repeat' (first|exact Stp.inl rfl|exact Stp.inr trivial|refine Stp.br (fun _=>?_) (fun _=>?_))) (fun i hi=>by
  subst hi;simp only [xbM,xhe,z8,zx,zl,xah,sUF];exact Stp.inr trivial) kn.length 0 (0:Int) (by omega) rfl
 unfold xpK xnh;simp only [e,zj,zg,xae,sUF];repeat' (first|exact Ans.some trivial|refine Ans.br (fun _=>?_) (fun _=>?_))
structure FOk (l:List Fc):Prop where
 len:l.length<=1048576
 row:∀ f,f∈l->f.r.length<=1048576
 txt:∀ f,f∈l->Txt f.r
def Rows (n:Nat) (l:List Fc):Prop:=∀ f,f∈l->pv f.p=true/\f.r.length=n
theorem xCQ (kn:List Int) (hk:kn.length<=16777216) (l:List Fc) (h:FOk l):Ans (fun b=>b=true->Rows kn.length l) (xmB (kn.map encN) (l.map encF)):=by
 have hl:=h.len;obtain ⟨⟨b,q1,q2⟩,e,O,J⟩:=xbu (step:=xbN) (fun k x=>x=((k:Int),kn.map encN,l.map encF)/\Rows kn.length (l.take k)) l.length (fun r=>(r.1=false->r.2.2=(kn.map encN,l.map encF)/\Rows kn.length l)/\(r.1=true->r.2.1.1=false)) (fun k i q hi=>by
  obtain ⟨rfl,hi⟩:=hi;have h1:(k:Int)<(l.length:Int):=by omega
  have gf:(l.map encF).getD k .top=encF l[k]:=xaa _ _ _ q;obtain ⟨v,ve,hv⟩:=xzw l[k].r kn (h.row _ (zn q)) (h.txt _ (zn q));simp only [xbN,xhf,sBU,h1,q,gf,cF0,cF1,cF2,sF0,sF1,sF2,lF,sF12,sF02,ve,xrN,xHP (n:=k) (by omega)]
  refine Stp.br (fun _=>Stp.inr (by simp)) (fun c1=>Stp.br (fun _=>Stp.inr (by simp)) (fun c2=>Stp.inl ⟨rfl,fun f hf=>?_⟩))
  rw [List.take_add_one,zd q] at hf;rcases zF.1 hf with hf|hf
  . exact hi f hf
  . simp only [Option.toList_some,zu] at hf;subst hf;exact ⟨by simpa using c1,hv (by simpa using c2)⟩) (fun i hi=>by
  obtain ⟨rfl,hi⟩:=hi;rw [y3] at hi;simp only [xbN,xhf,z8,zx,zl,xah,sUF];exact Stp.inr ⟨fun _=>⟨rfl,hi⟩,fun h=>by simp at h⟩) l.length 0 _ (by omega) ⟨rfl,fun f hf=>by simp at hf⟩
 have e:Iter xbN ((0:Int),kn.map encN,l.map encF)=_:=e;obtain ⟨c,ce,_⟩:=xA9 kn hk;unfold xmB xni;simp only [xmd,xme,xmf,xmg,xmh,e,zj,zg,xae,sUF];refine Ans.br (fun hb=>Ans.some fun h=>?_) (fun hb=>?_)
 . rw [J hb] at h;simp at h
 . obtain ⟨h1,h2⟩:=O hb;dsimp only at h1;subst h1;simp only [ce,zj,zg,xae,sUF];repeat' (first|exact Ans.some fun _=>h2|refine Ans.br (fun _=>?_) (fun _=>?_))
theorem xy5 (t:Tab) (ht:t.Ok) (l:List Fc) (h:FOk l):Ans (fun b=>b=true->Rows t.cols.length l) (xjS t.n (t.cols.map xHM) (t.key.map encN) (t.fos.map xHN) t.chk (l.map encF)):=by
 obtain ⟨a,ae,ha⟩:=xBj t ht;have hk:=xyh t ht.cols;obtain ⟨b,be,hb⟩:=xCQ (t.cols.map (·.k)) (by rw [z8];exact ht.cols) l h
 unfold xjS xli;simp only [ae,hk,be,zj,zg,xae,sUF];exact Ans.br (fun h=>Ans.some fun h=>by have:=hb h;rwa [z8] at this) (fun _=>Ans.some fun h=>by simp at h)
end Go.Sim.M
end
noncomputable section
set_option maxRecDepth 100000
namespace Go.Sim.M
open Go.RowKit Go.Sim.Srt
theorem xCM (A:List Per) (hA:A.length<=1048576):xqB (A.map encP) (A.map encP)=some true:=by
 have e:=xn5 (step:=xbB (A.map encP) (A.map encP)) (fun k=>(k:Int)) A.length (false,false,()) (fun k hk=>by
  have i1:(k:Int)<(A.length:Int):=by omega
  have gf:(A.map encP).getD k .top=encP A[k]:=xaa _ _ _ hk;simp only [xbB,xh0,sBU,hk,i1,gf,cP0,cP1,lP,sP,sP0,sP1,xHP (n:=k) (by omega)]) (by
  simp only [xbB,xh0,z8,zx,zl,xah,sUF]) A.length 0 (by omega)
 have e:Iter (xbB (A.map encP) (A.map encP)) (0:Int)=_:=e;unfold xqB xoh;simp only [z8,e,bne_self_eq_false,xah,zj,zg,xae,sUF]
theorem xD0 (l:List Fc) (hl:l.length<=1048576):Ans (fun b=>b=true->l.length<=16/\∀ f,f∈l->f.r.length<=60) (xpg (l.map encF) 16):=by
 obtain ⟨r,e,hr⟩:=xbu (step:=xck (l.map encF)) (fun k i=>i=(k:Int)/\∀ j (hj:j<l.length),j<k->l[j].r.length<=60) l.length (fun r=>(r.1=true->r.2.1=false)/\(r.1=false->∀ f,f∈l->f.r.length<=60)) (fun k i hk hi=>by
  obtain ⟨rfl,hp⟩:=hi;have h1:(k:Int)<(l.length:Int):=by omega
  have gf:(l.map encF).getD k .top=encF l[k]:=xaa _ _ _ hk;simp only [xck,xi1,sBU,h1,hk,gf,cF0,cF1,cF2,sF0,sF1,sF2,lF,sF12,sF02,xHP (n:=k) (by omega)]
  refine Stp.br (fun _=>Stp.inr ⟨fun _=>rfl,fun h=>by simp at h⟩) (fun hb=>Stp.inl ⟨rfl,fun j hj J=>?_⟩)
  rcases zI j k with q|O
  . exact hp j hj q
  . obtain rfl:j=k:=by omega
    have hb:=of_decide_eq_false hb;omega) (fun i hi=>by
  obtain ⟨rfl,hp⟩:=hi;simp only [xck,xi1,z8,zx,zl,xah,sUF];refine Stp.inr ⟨fun h=>by simp at h,fun _ f hf=>?_⟩
  obtain ⟨j,hj,rfl⟩:=List.getElem_of_mem hf;exact hp j hj hj) l.length 0 (0:Int) (by omega) ⟨rfl,fun j _ h=>absurd h (Nat.not_lt_zero _)⟩
 unfold xpg xpL;simp only [e,zj,zg,xae,z8,sUF];refine Ans.br (fun _=>Ans.some fun h=>by simp at h) (fun h=>?_)
 have h:=of_decide_eq_false h;exact Ans.br (fun h1=>Ans.some fun h2=>by rw [hr.1 h1] at h2;simp at h2) (fun h1=>Ans.some fun _=>⟨by omega,hr.2 h1⟩)
structure Bel (t:Tab) (l:List Fc):Prop where
 len:l.length<=16
 row:∀ f,f∈l->f.r.length<=60
 rows:Rows t.cols.length l
theorem xDB (t:Tab) (ht:t.Ok) (l:List Fc) (h:FOk l):Ans (fun b=>b=true->Bel t l) (xjL t.n (t.cols.map xHM) (t.key.map encN) (t.fos.map xHN) t.chk (l.map encF)):=by
 obtain ⟨a,ae,ha⟩:=xD0 l h.len;obtain ⟨b,be,hb⟩:=xy5 t ht l h;unfold xjL xkx;simp only [ae,be,zj,zg,xae,sUF];refine Ans.br (fun _=>Ans.br (fun h1=>Ans.some fun h2=>?_) (fun _=>Ans.some fun h=>by simp at h)) (fun _=>Ans.some fun h=>by simp at h)
 obtain ⟨x1,x2⟩:=ha h1;exact ⟨x1,x2,hb h2⟩
theorem Bel.few {t:Tab} {l:List Fc} (h:Bel t l):Few l:=⟨by have:=h.len;omega,fun f hf=>by have:=h.row f hf;omega⟩
theorem Bel.tok {t:Tab} {l:List Fc} (h:Bel t l) (ht:t.Ok) (hf:FOk l):TOk t.key l:=⟨by have:=ht.key;omega,by have:=h.len;omega,hf.txt⟩
theorem FOk.tx {l:List Fc} (h:FOk l):Tx l:=fun f hf v hv=>⟨(h.txt f hf v hv).1,by have:=(h.txt f hf v hv).2;omega⟩
end Go.Sim.M
end
noncomputable section
set_option maxRecDepth 10000
namespace Go.Sim
open Go.RowKit Go.Proofs Go.ChangeShapes Go.WideShapes Go.ChangeAt Go.Proofs.YtcekkkdjdfiipaaGreatDoor
theorem xuX:∀ {xs:List AV} {x:AV},x∈xs->AV.wt x<=AV.wts xs
 | y::xs,x,h=>by
  simp only [AV.wts];rcases zB.1 h with rfl|h
  . omega
  . have:=xuX h;omega
theorem xuW:∀ {xs:List AV},(∀ x,x∈xs->1<=AV.wt x)->xs.length<=AV.wts xs
 | [],_=>zP _
 | y::xs,h=>by
  have a:=h y (by simp)
  have b:=xuW (xs:=xs) fun x hx=>h x (by simp [hx])
  simp only [AV.wts,zD];omega
theorem xhI {α:Type} {e:α->AV} (h:∀ a,1<=AV.wt (e a)) (l:List α):l.length<=AV.wts (l.map e):=by
 have:=xuW (xs:=l.map e) fun x hx=>by
  obtain ⟨a,_,rfl⟩:=zJ.1 hx;exact h a
 rwa [z8] at this
theorem xhJ {α:Type} {e:α->AV} {l:List α} {a:α} (h:a∈l):AV.wt (e a)<=AV.wts (l.map e):=xuX (zJ.2 ⟨a,h,rfl⟩)
theorem xC0 (v:M.Val):AV.wt (M.encV v)=1+(1+(v.t.length+1+0)):=rfl
theorem xyX (f:M.Fc):AV.wt (M.encF f)=AV.wts (f.r.map M.encV)+1+(1+(1+0)):=rfl
theorem xCZ (c:M.Col):AV.wt (M.xHM c)=c.n.length+1+(1+(1+0)):=rfl
theorem xBn (f:M.Fo):AV.wt (M.xHN f)=AV.wts (f.cols.map M.encN)+1+(f.t.length+1+0):=rfl
theorem M.fok_wt {l:List M.Fc} (h:AV.wts (l.map M.encF)<=1048576) (hw:∀ y,y∈l->y.wf):M.FOk l:=by
 refine ⟨?_,fun f hf=>?_,fun f hf v hv=>⟨(hw f hf).1.2 v hv,?_⟩⟩
 . have:=xhI (e:=M.encF) (fun f=>by have:=xyX f;omega) l
   omega
 . have h1:=xhJ (e:=M.encF) hf;have h2:=xyX f;have h3:=xhI (e:=M.encV) (fun f=>by have:=xC0 f;omega) f.r
   omega
 . have h1:=xhJ (e:=M.encF) hf;have h2:=xyX f;have h3:=xhJ (e:=M.encV) hv;have h4:=xC0 v;omega
def EX (xs:List AV):Prop:=∀ x,x∈xs->x.cells.length=7/\x=xJl x.cells/\∀ j,j<7->OfTy tyR (tyR.getD j .bool) (x.cells.getD j .top)
theorem xCn {a:AV} (h:OfTy tyR .mu a):∃ xs,a=.list 7 xs/\EX xs:=by
 cases h with
 | mu xs h hl hx=>exact ⟨xs,rfl,fun x hm=>⟨(hl x hm).1,(hl x hm).2,fun j hj=>hx x j hm hj⟩⟩
theorem xEo:∀ (n:Nat) (xs:List AV),AV.wts xs<n->n<=16777216->EX xs->xs.length<=AV.wts xs/\∀ x,x∈xs->M.IsEx x
 | 0,xs,h,_,_=>absurd h (Nat.not_lt_zero _)
 | n+1,xs,h,hn,hE=>by
  have key:∀ x,x∈xs->1<=AV.wt x/\M.IsEx x:=fun x hx=>by
   obtain ⟨h1,h2,h3⟩:=hE x hx;have hw:=xuX hx;generalize x.cells=cs at *;match cs,h1 with
   | [c0,c1,c2,c3,c4,c5,c6],_ =>
    have h0:=h3 0 (by decide)
    have h1:=h3 1 (by decide)
    have h2':=h3 2 (by decide)
    have h3':=h3 3 (by decide)
    have h4:=h3 4 (by decide)
    have h5:=h3 5 (by decide)
    have h6:=h3 6 (by decide)
    change OfTy tyR (.int .i64) c0 at h0;change OfTy tyR (.int .i64) c1 at h1;change OfTy tyR (.int .i64) c2 at h2';change OfTy tyR (.int .i64) c3 at h3';change OfTy tyR .str c4 at h4;change OfTy tyR .str c5 at h5;change OfTy tyR .mu c6 at h6;obtain ⟨ys,rfl,hy⟩:=xCn h6;cases h0 with
    | int _ n0 _=>cases h1 with
     | int _ n1 _=>cases h2' with
      | int _ n2 _=>cases h3' with
       | int _ n3 _=>cases h4 with
        | str s4 _=>cases h5 with
         | str s5 _ =>
          have hx:x=.agg [.int .i64 n0,.int .i64 n1,.int .i64 n2,.int .i64 n3,.str s4,.str s5,.list 7 ys]:=h2;have wx:AV.wt x=1+(1+(1+(1+(s4.length+1+(s5.length+1+(AV.wts ys+1+0)))))):=by rw [hx];rfl
          obtain ⟨i1,i2⟩:=xEo n ys (by omega) (by omega) hy
          exact ⟨by omega,hx▸M.IsEx.mk n0 n1 n2 n3 s4 s5 ys (by omega) (by omega) i2⟩
  exact ⟨xuW fun x hx=>(key x hx).1,fun x hx=>(key x hx).2⟩
def tyCo:List Ty:=[.str,.int .i64,.bool]
def tyFo:List Ty:=[.slice [.int .i64],.str]
theorem xyU (x:AV) (hl:x.cells.length=[Ty.int .i64].length) (he:x=xJl x.cells) (hx:∀ j,j<[Ty.int .i64].length->OfTy tyR ([Ty.int .i64].getD j .bool) (x.cells.getD j .top)):∃ a,x=M.encN a/\I64 a:=by
 generalize x.cells=cs at *;match cs,hl with
 | [c0],_ =>
  have h0:=hx 0 (by decide)
  change OfTy tyR (.int .i64) c0 at h0;cases h0 with
  | int _ k hk=>exact ⟨k,he,hk⟩
theorem xD9 (x:AV) (hl:x.cells.length=tyCo.length) (he:x=xJl x.cells) (hx:∀ j,j<tyCo.length->OfTy tyR (tyCo.getD j .bool) (x.cells.getD j .top)):∃ a,x=M.xHM a/\True:=by
 generalize x.cells=cs at *;match cs,hl with
 | [c0,c1,c2],_ =>
  have h0:=hx 0 (by decide)
  have h1:=hx 1 (by decide)
  have h2:=hx 2 (by decide)
  change OfTy tyR .str c0 at h0;change OfTy tyR (.int .i64) c1 at h1;change OfTy tyR .bool c2 at h2;cases h0 with
  | str s _=>cases h1 with
   | int _ k _=>cases h2 with
    | bool b=>exact ⟨⟨s,k,b⟩,he,trivial⟩
theorem xFn (x:AV) (hl:x.cells.length=tyFo.length) (he:x=xJl x.cells) (hx:∀ j,j<tyFo.length->OfTy tyR (tyFo.getD j .bool) (x.cells.getD j .top)):∃ a,x=M.xHN a/\True:=by
 generalize x.cells=cs at *;match cs,hl with
 | [c0,c1],_ =>
  have h0:=hx 0 (by decide)
  have h1:=hx 1 (by decide)
  change OfTy tyR (.slice [.int .i64]) c0 at h0;change OfTy tyR .str c1 at h1;obtain ⟨l,rfl,_,_⟩:=xkA (es:=[.int .i64]) xyU h0;cases h1 with
  | str s _=>exact ⟨⟨l,s⟩,he,trivial⟩
theorem M.tab_ok (t:M.Tab) (hb:AV.wts [.str t.n,.list 3 (t.cols.map M.xHM),.list 1 (t.key.map M.encN),.list 2 (t.fos.map M.xHN),.list 7 t.chk]<=1048576) (hx:EX t.chk):t.Ok:=by
 have hw:AV.wts [.str t.n,.list 3 (t.cols.map M.xHM),.list 1 (t.key.map M.encN),.list 2 (t.fos.map M.xHN),.list 7 t.chk]=t.n.length+1+(AV.wts (t.cols.map M.xHM)+1+(AV.wts (t.key.map M.encN)+1+(AV.wts (t.fos.map M.xHN)+1+(AV.wts t.chk+1+0)))):=rfl;obtain ⟨e1,e2⟩:=xEo (AV.wts t.chk+1) t.chk (Nat.lt_succ_self _) (by omega) hx
 refine ⟨by omega,?_,?_,?_,by omega,fun c hc=>?_,fun f hf=>⟨?_,?_⟩,e2⟩
 . have:=xhI (e:=M.xHM) (fun f=>by have:=xCZ f;omega) t.cols
   omega
 . have:=xhI (e:=M.encN) (fun f=>zb 1) t.key
   omega
 . have:=xhI (e:=M.xHN) (fun f=>by have:=xBn f;omega) t.fos
   omega
 . have h1:=xhJ (e:=M.xHM) hc;have h2:=xCZ c;omega
 . have h1:=xhJ (e:=M.xHN) hf;have h2:=xBn f;have h3:=xhI (e:=M.encN) (fun f=>zb 1) f.cols
   omega
 . have h1:=xhJ (e:=M.xHN) hf;have h2:=xBn f;omega
def M.Tab.wf (t:M.Tab):Prop:=EX t.chk
theorem xDv:flat Tryz.prog muT 9 27=some [.str,.slice tyCo,.slice [.int .i64],.slice tyFo,.mu]:=by kernel_rfl
section
variable {H : Type} {enc : TypeId × Value -> H} {w : World} {base b : Nat} {sp : Nat -> Bool} {held : Bool} {v : Value} {d : DataW H} {ps : List MemPlace}
theorem xDJ (q:Value.okWide Tryz.prog w .any base 27 v) (hd:DataW.Trod enc Tryz.prog w b sp held 27 v d ps):∃ x:M.Tab,Rel w (fun _=>False) xIx v (.agg [.str x.n,.list 3 (x.cols.map M.xHM),.list 1 (x.key.map M.encN),.list 2 (x.fos.map M.xHN),.list 7 x.chk])/\(∀ μ:DataW H->Nat,Meas μ->(AV.agg [.str x.n,.list 3 (x.cols.map M.xHM),.list 1 (x.key.map M.encN),.list 2 (x.fos.map M.xHN),.list 7 x.chk]).wt<=μ d)/\M.Tab.wf x:=by
 obtain ⟨cs,h,hl,hx,hB⟩:=xCs recR Tryz.underlying27 xDv q hd;match cs,hl with
 | [k0,k1,k2,k3,k4],_ =>
  have h0:=hx 0 (by decide)
  have h1:=hx 1 (by decide)
  have h2:=hx 2 (by decide)
  have h3:=hx 3 (by decide)
  have h4:=hx 4 (by decide)
  change OfTy tyR .str k0 at h0;change OfTy tyR (.slice tyCo) k1 at h1;change OfTy tyR (.slice [.int .i64]) k2 at h2;change OfTy tyR (.slice tyFo) k3 at h3;change OfTy tyR .mu k4 at h4;obtain ⟨l1,rfl,_,_⟩:=xkA (es:=tyCo) xD9 h1;obtain ⟨l2,rfl,_,_⟩:=xkA (es:=[.int .i64]) xyU h2;obtain ⟨l3,rfl,_,_⟩:=xkA (es:=tyFo) xFn h3;obtain ⟨l4,rfl,x4⟩:=xCn h4;cases h0 with
  | str s0 _=>exact ⟨⟨s0,l1,l2,l3,l4⟩,h,fun μ hμ=>hB μ hμ,x4⟩
abbrev M.Look:=M.Row×Int
def M.Look.wf (x:M.Look):Prop:=∀ v,v∈x.1->M.Val.wf v
def U16 (n:Int):Prop:=(Lit.int .u16 n).wf=true
theorem xDK (q:Value.okWide Tryz.prog w .any base 56 v) (hd:DataW.Trod enc Tryz.prog w b sp held 56 v d ps):∃ m:Int,Rel w (fun _=>False) xIx v (.int .u16 m)/\(∀ μ:DataW H->Nat,Meas μ->(AV.int .u16 m).wt<=μ d)/\U16 m:=by
 obtain ⟨m,h1,h2,h3⟩:=xE2 recR Tryz.underlying56 q hd;exact ⟨m,h1,h3,h2⟩
end
theorem M.tl_wt (t:M.Tab) (l:List M.Fc) (ht:t.wf) (hl:∀ y,y∈l->y.wf) {r:Nat} (hb:(AV.agg [.str t.n,.list 3 (t.cols.map M.xHM),.list 1 (t.key.map M.encN),.list 2 (t.fos.map M.xHN),.list 7 t.chk]).wt+(AV.list 3 (l.map M.encF)).wt+r<=1048576):t.Ok/\M.FOk l:=by
 have hs:(AV.agg [.str t.n,.list 3 (t.cols.map M.xHM),.list 1 (t.key.map M.encN),.list 2 (t.fos.map M.xHN),.list 7 t.chk]).wt=AV.wts [.str t.n,.list 3 (t.cols.map M.xHM),.list 1 (t.key.map M.encN),.list 2 (t.fos.map M.xHN),.list 7 t.chk]:=by simp only [AV.wt]
 have q:(AV.list 3 (l.map M.encF)).wt=AV.wts (l.map M.encF)+1:=by simp only [AV.wt]
 exact ⟨M.tab_ok t (by omega) ht,M.fok_wt (by omega) hl⟩
end Go.Sim
end
noncomputable section
set_option maxRecDepth 100000
namespace Go.Sim.M
open Go.RowKit Go.Sim.Srt
theorem xen {a b:Int} (h:pv (a,b)=true) (t:Int):hasP (a,b) t=decide (a<=t/\t<b):=by
 rw [Bool.eq_iff_iff,xbe,zk];simp [h]
def rx:Row:=[⟨1,1,[]⟩,⟨2,0,[120]⟩]
def ry:Row:=[⟨1,1,[]⟩,⟨2,0,[121]⟩]
def kA:Row:=[⟨1,1,[]⟩]
def xIc:List Fc:=[⟨rx,(0,5)⟩,⟨ry,(5,9)⟩]
def badA:List Fc:=[⟨rx,(0,5)⟩,⟨ry,(4,9)⟩]
theorem p05:pv (0,5)=true:=by decide
theorem p59:pv (5,9)=true:=by decide
theorem p49:pv (4,9)=true:=by decide
theorem p45:pv (4,5)=true:=by decide
theorem p09:pv (0,9)=true:=by decide
theorem xtL:life [0] xIc kA=[(0,5),(5,9)]:=by decide +kernel
theorem xvn:life [0] badA kA=[(0,5),(4,9)]:=by decide +kernel
theorem xuK:pick rx [0]=kA:=by decide +kernel
theorem xz5:pick ry [0]=kA:=by decide +kernel
theorem xCp:Once [0] xIc:=fun f hf t=>by
 have e:pick f.r [0]=kA:=by
  simp only [xIc,zB,List.not_mem_nil,or_false] at hf;rcases hf with rfl|rfl
  . exact xuK
  . exact xz5
 rw [e,xtL,List.countP_cons,List.countP_cons,List.countP_nil,xen p05,xen p59];by_cases h1:(0:Int)<=t/\t<5<;>by_cases h2:(5:Int)<=t/\t<9<;>simp [h1,h2];omega
theorem xDE:¬ Once [0] badA:=fun h=>by
 have:=h ⟨rx,(0,5)⟩ (by simp [badA]) 4
 rw [show pick (⟨rx,(0,5)⟩:Fc).r [0]=kA from xuK,xvn,List.countP_cons,List.countP_cons,List.countP_nil,xen p05,xen p49] at this
 simp at this
theorem xyO {p:Per} (h:pv p=true):IsSpan [p]:=⟨fun q hq=>by simp at hq;subst hq;exact h,List.pairwise_singleton _ _⟩
theorem xwS (t:Int):cntK [0] badA kA t=(if (0:Int)<=t/\t<5 then 1 else 0)+(if (4:Int)<=t/\t<9 then 1 else 0):=by
 unfold cntK;rw [xvn,List.countP_cons,List.countP_cons,List.countP_nil,xen p05,xen p49];simp;omega
theorem xEr:rx≠ry:=by decide +kernel
theorem xGu (t:Int):cnt badA rx t=if (0:Int)<=t/\t<5 then 1 else 0:=by
 unfold cnt badA;rw [List.countP_cons,List.countP_cons,List.countP_nil];dsimp only;rw [xen p05];simp [xEr.symm]
theorem xGv (t:Int):cnt badA ry t=if (4:Int)<=t/\t<9 then 1 else 0:=by
 unfold cnt badA;rw [List.countP_cons,List.countP_cons,List.countP_nil];dsimp only;rw [xen p49];simp [xEr]
def xIr:List Fc:=[⟨rx,(4,5)⟩,⟨ry,(4,5)⟩]
theorem xAL:IsViol [0] badA xIr:=by
 refine ⟨[rx,ry],fun _=>[(4,5)],⟨?_,fun r=>?_⟩,fun r hr=>⟨xyO p45,fun t=>?_⟩,rfl⟩
 . exact List.pairwise_pair.2 (by decide +kernel)
 . simp only [badA,zB,List.not_mem_nil,or_false];constructor
   . rintro (rfl|rfl)
     . exact ⟨_,.inl rfl,rfl,p05⟩
     . exact ⟨_,.inr rfl,rfl,p49⟩
   . rintro ⟨f,rfl|rfl,rfl,_⟩
     . exact .inl rfl
     . exact .inr rfl
 . rw [xr3,xen p45];simp only [zB,List.not_mem_nil,or_false] at hr;rcases hr with rfl|rfl
   . rw [xuK,xGu,xwS,Bool.eq_iff_iff,ze,zk,zk,zk];by_cases h1:(0:Int)<=t/\t<5<;>by_cases h2:(4:Int)<=t/\t<9<;>simp [h1,h2]<;>omega
   . rw [xz5,xGv,xwS,Bool.eq_iff_iff,ze,zk,zk,zk];by_cases h1:(0:Int)<=t/\t<5<;>by_cases h2:(4:Int)<=t/\t<9<;>simp [h1,h2]<;>omega
theorem xGp:atL (xH1 [0] badA kA) 4=[rx,ry]:=by decide +kernel
theorem xB4:xH9 (atL (xH1 [0] badA kA) 4) (rx,true):=by
 rw [xGp];refine .inr ⟨rfl,by simp,fun y hy=>?_⟩
 simp only [zB,List.not_mem_nil,or_false] at hy;rcases hy with rfl|rfl
 . rw [xo3];omega
 . exact (by decide +kernel:cmpR rx ry<=0)
theorem xCk (t:Int):inL [(0,9)] t=inL (life [0] xIc kA) t:=by
 rw [xtL,xr3,xir,xr3,xen p09,xen p05,xen p59,Bool.eq_iff_iff,Bool.or_eq_true,zk,zk,zk];omega
theorem xEt {s:List UInt8} (hs:s.length<=8):Txt [⟨1,1,[]⟩,⟨2,0,s⟩]:=fun v hv=>by
 simp only [zB,List.not_mem_nil,or_false] at hv;rcases hv with rfl|rfl
 . exact ⟨⟨by decide +kernel,by decide +kernel,by simp [maxLen]⟩,by simp⟩
 . exact ⟨⟨(by decide +kernel:(Lit.int .i64 2).wf=true),(by decide +kernel:(Lit.int .i64 0).wf=true),by simp only [maxLen];omega⟩,by dsimp only;omega⟩
theorem xAB (p q:Per):FOk [⟨rx,p⟩,⟨ry,q⟩]:=by
 refine ⟨by simp,fun f hf=>?_,fun f hf=>?_⟩<;>simp only [zB,List.not_mem_nil,or_false] at hf<;>rcases hf with rfl|rfl
 . simp [rx]
 . simp [ry]
 . exact xEt (s:=[120]) (by simp)
 . exact xEt (s:=[121]) (by simp)
theorem xBk (p q:Per):TOk [0] [⟨rx,p⟩,⟨ry,q⟩]:=⟨by simp,by simp,(xAB p q).txt⟩
theorem xHo (p q:Per):Few [⟨rx,p⟩,⟨ry,q⟩]:=⟨by simp,(xAB p q).row⟩
theorem xHn (p q:Per):Bld [⟨rx,p⟩,⟨ry,q⟩]:=xGH (by simp) (fun f hf=>by
 simp only [zB,List.not_mem_nil,or_false] at hf;rcases hf with rfl|rfl
 . simp [rx]
 . simp [ry]) (xAB p q).tx (R20.few (by simp))
def xH5:List AV:=[.agg [.str [97],.int .i64 1,.bool false],.agg [.str [98],.int .i64 2,.bool false]]
theorem xHl:xbd [116] xH5 ([(0:Int)].map encN) [] [] (xIc.map encF)=some true:=by
 obtain ⟨b,e,h⟩:=xmM (xBk (0,5) (5,9)) [116] xH5 [] [];rw [h.2 xCp] at e;exact e
theorem xHm:xbd [116] xH5 ([(0:Int)].map encN) [] [] (badA.map encF)=some false:=by
 obtain ⟨b,e,h⟩:=xmM (xBk (0,5) (4,9)) [116] xH5 [] [];cases b with
 | true=>exact absurd (h.1 rfl) xDE
 | false=>exact e
theorem xHG:xgl [116] xH5 ([(0:Int)].map encN) [] [] (badA.map encF)=some (xIr.map (xHY [116])):=by
 obtain ⟨V,e,h,_⟩:=xDZ [116] xH5 [] [] [0] badA (xBk (0,5) (4,9)) (xHn (0,5) (4,9)) (by simp [badA])
 rw [h.unique xAL] at e;exact e
theorem xHE:xex [116] xH5 ([(0:Int)].map encN) [] [] (badA.map encF) (kA.map encV) 4=some (rx.map encV,true):=by
 obtain ⟨x,e,h⟩:=xCt [116] xH5 [] [] [0] (by simp) badA (xHo (0,5) (4,9)) (by simp [badA]) kA 4
 rw [h.unique xB4] at e;exact e
theorem xHF:xib [116] xH5 ([(0:Int)].map encN) [] [] (xIc.map encF) (kA.map encV)=some ([((0,9):Per)].map encP):=by
 obtain ⟨A,e,h1,h2⟩:=xDP [116] xH5 [] [] [0] (by simp) xIc (by simp [xIc]) kA
 rw [xeY h1 (xyO p09) fun t=>by rw [h2,xCk]] at e
 exact e
theorem xsV:xhF=some true:=by
 have E10:xkV=some (rx.map encV,true):=xHE;have E11:xkW=some ([((0,9):Per)].map encP):=xHF;have E12:xkX=some (xIr.map (xHY [116])):=xHG;have E13:xkY=some true:=xHl;have E14:xkZ=some false:=xHm;have E7:xiU=some 0:=by
  unfold xiU xiW;rw [E10];have:=xE8 rx rx (by simp [rx,maxLen])
  rw [xo3] at this;exact this
 have E8:xiV=some true:=by
  unfold xiV;rw [E11];exact xCM [(0,9)] (by simp)
 unfold xhF xm3;simp only [xiP,xiQ,xb3,xgp,xiR,xiS,xiT,xiW,E7,E8,E10,E11,E12,E13,E14,zj,zg,xae,xah,Bool.not_true,Bool.not_false,sUF];rfl
theorem xE4 (n:List UInt8) (p1 k0 p3 p4:List AV) (l:List Fc) (hl:l.length<=1048576) (q:Int) :
  ∃ D:List Fc,Iter (xbh (l.map encF)) (q,(0:Nat),(0:Int),n,p1,k0,p3,p4,[])=some (D.length,n,p1,k0,p3,p4,D.map encF)/\D.Sublist l:=by
 obtain ⟨r,e,D,rfl,hD⟩:=xbu (step:=xbh (l.map encF)) (fun k s=>∃ (b:Int) (D:List Fc),s=(b,D.length,(k:Int),n,p1,k0,p3,p4,D.map encF)/\D.Sublist (l.take k)) l.length (fun r=>∃ D:List Fc,r=(D.length,n,p1,k0,p3,p4,D.map encF)/\D.Sublist l) (fun k s hk hs=>by
  obtain ⟨b,D,rfl,hD⟩:=hs;have i1:(k:Int)<(l.length:Int):=by omega
  have gf:(l.map encF).getD k .top=encF l[k]:=xaa _ _ _ hk;have J:=hD.length_le;rw [zr] at J;have m1:(D.length+1)*40<=140737488355328:=by omega
  have m2:D.length+1<=4611686018427387904:=by omega
  have ht:l.take (k+1)=l.take k++[l[k]]:=by rw [List.take_add_one,zd hk];rfl
  simp only [xbh,xdG,sBU,hk,i1,gf,cF0,cF1,cF2,sF0,sF1,sF2,lF,sF12,sF02,m1,m2,xwW,xHP (n:=k) (by omega)]
  refine Stp.br (fun _=>Stp.inl ⟨IntKind.u16.wrap (b.tdiv 2),D++[l[k]],?_,?_⟩) (fun _=>Stp.inl ⟨IntKind.u16.wrap (b.tdiv 2),D,rfl,?_⟩)
  . rw [z7,zw];rfl
  . rw [ht];exact hD.append (List.Sublist.refl _)
  . rw [ht];exact hD.trans (List.sublist_append_left _ _)) (fun s hs=>by
  obtain ⟨b,D,rfl,hD⟩:=hs;rw [y3] at hD;simp only [xbh,xdG,z8,zx,zl,xah,sUF];exact Stp.inr ⟨D,rfl,hD⟩) l.length 0 (q,(0:Nat),(0:Int),n,p1,k0,p3,p4,[]) (by omega) ⟨q,[],rfl,by simp⟩
 exact ⟨D,e,hD⟩
theorem xCh (t:Tab) (ht:t.Ok) (l:List Fc) (hf:FOk l) (J:Int):xjc t.n (t.cols.map xHM) (t.key.map encN) (t.fos.map xHN) t.chk (l.map encF) J=some true:=by
 obtain ⟨b,be,hb⟩:=xDB t ht l hf;unfold xjc xhO xgo;cases b with
 | false=>simp only [be,xsV,zj,zg,xae,Bool.not_false,sUF]
 | true =>
  have h:=hb rfl;have q:=h.tok ht hf;have O:=h.len;obtain ⟨D,e1,hD⟩:=xE4 t.n (t.cols.map xHM) (t.key.map encN) (t.fos.map xHN) t.chk l (by omega) J
  have Q:=hD.length_le;obtain ⟨b1,e2,h2⟩:=xmM q t.n (t.cols.map xHM) (t.fos.map xHN) t.chk;obtain ⟨b3,e3,h3⟩:=xmM (l:=D) ⟨q.key,by omega,fun y hy=>q.txt y (hD.subset hy)⟩ t.n (t.cols.map xHM) (t.fos.map xHN) t.chk
  obtain ⟨b4,e4,h4⟩:=xmM (l:=[]) ⟨q.key,by simp,fun y hy=>by simp at hy⟩ t.n (t.cols.map xHM) (t.fos.map xHN) t.chk
  obtain rfl:=h4.2 (xDF _);have e4:xbd t.n (t.cols.map xHM) (t.key.map encN) (t.fos.map xHN) t.chk []=_:=e4;have tt:List.take D.length (D.map encF)=D.map encF:=zh (by simp)
  cases b1 with
  | false=>simp only [xez,xeA,xeB,xcY,xcZ,xcx,xc0,xc1,xeC,xeD,xd2,xd3,xd4,xd5,xd6,xd7,xd8,be,e1,e2,e4,xsV,zj,zg,xae,xah,Bool.not_true,Bool.not_false,sUF]
  | true =>
   obtain rfl:=h3.2 ((h2.1 rfl).sub hD);simp only [xez,xeA,xeB,xcY,xcZ,xcx,xc0,xc1,xeC,xeD,xd2,xd3,xd4,xd5,xd6,xd7,xd8,be,e1,e2,e3,e4,zq,tt,z8,zG,zb,zm,zR,xsV,zj,zg,xae,xah,Bool.not_true,Bool.not_false,sUF]
end Go.Sim.M
end
noncomputable section
set_option maxRecDepth 10000
namespace Go.Sim
open Go.RowKit
theorem M.card_parts (t:M.Tab) (l:List M.Fc) (a:Int) (w0:t.wf) (w1:l.length<=maxLen/\∀ y,y∈l->y.wf) (w2:U16 a) (hb:(AV.agg [.str t.n,.list 3 (t.cols.map M.xHM),.list 1 (t.key.map M.encN),.list 2 (t.fos.map M.xHN),.list 7 t.chk]).wt+(AV.list 3 (l.map M.encF)).wt+(AV.int .u16 a).wt<=1048576):M.xjc t.n (t.cols.map M.xHM) (t.key.map M.encN) (t.fos.map M.xHN) t.chk (l.map M.encF) a=some true :=
 M.xCh t (M.tl_wt t l w0 w1.2 hb).1 l (M.tl_wt t l w0 w1.2 hb).2 a
end Go.Sim
end
noncomputable section
set_option maxRecDepth 10000
namespace Go.Proofs.YtcekkkdjdfiipaaGreatDoor.uniqueParts
open Go.ChangeShapes Go.WideShapes Go.ChangeAt Go.RowKit Go.Sim
theorem contract (H:Type) (enc:TypeId×Value->H) (W:World) (base:Nat) (args:Array Value) (ds gs:List (DataW H)) (before:List MemPlace)
  (hval:∀ (j:Nat) t v,Tryz.f7.params[j]?=some t->args[j]?=some v->Value.okWide Tryz.prog W .any base t v)
  (hW:DataW.Whole enc Tryz.prog Tryz.f7.params.toList Rows.uniquePartsSpec.vars false W args.toList ds gs before) (hL:laidMetH Tryz.prog Rows.uniquePartsUptoRow.laid W) (hsh:W.ShapedOpen Tryz.prog) (hbulk:Rows.uptoBulkAll (ds++gs)<=1048576) :
  Calls Tryz.prog 7 args W fun e W'=>∃ v,e=.returned v/\Rows.uniquePartsSpec.post enc Tryz.prog Tryz.f7 false true false false W args v W':=by
 have hW':=hW;obtain ⟨p,q,hA0,hV,rfl,hfz,hnd⟩:=hW;have hA:DataW.TrodAll enc Tryz.prog W 0 (fun _=>true) true Tryz.f7.params.toList args.toList ds p:=hA0
 have hAk:=hA;rw [Tryz.params7] at hA hval;obtain ⟨v0,vs0,d0,ds0,p0,q0,hargs,rfl,rfl,h0,r0⟩:=trodAll_cons hA;obtain ⟨v1,vs1,d1,ds1,p1,q1,rfl,rfl,rfl,h1,r1⟩:=trodAll_cons r0;obtain ⟨v2,vs2,d2,ds2,p2,q2,rfl,rfl,rfl,h2,r2⟩:=trodAll_cons r1;obtain ⟨rfl,rfl,rfl⟩:=trodAll_nil r2;obtain rfl:args=#[v0,v1,v2]:=by cases args;simp_all
 obtain ⟨rfl,rfl⟩:=trodVars_none hV;obtain ⟨a0,rr0,b0,w0⟩:=xDJ (hval 0 27 v0 rfl rfl) h0;obtain ⟨a1,rr1,b1,w1⟩:=xAV (hval 1 28 v1 rfl rfl) h1;obtain ⟨a2,rr2,b2,w2⟩:=xDK (hval 2 56 v2 rfl rfl) h2;clear hA0;have hbulk:((.agg [.str a0.n,.list 3 (a0.cols.map M.xHM),.list 1 (a0.key.map M.encN),.list 2 (a0.fos.map M.xHN),.list 7 a0.chk]):AV).wt+(.list 3 (a1.map M.encF):AV).wt+(.int .u16 a2:AV).wt<=1048576:=by
  rw [List.append_nil,xms] at hbulk;simp only [List.map_cons,List.map_nil,List.sum_cons,List.sum_nil] at hbulk;have:=b0 _ xrE;have:=b1 _ xrE;have:=b2 _ xrE;omega
 have hI:xJt W:=xGC rfl (by kernel_rfl) hL hsh
 have hpl:=M.card_parts a0 a1 a2 w0 w1 w2 hbulk;have hg:Sim.Good Tryz.prog xJt 7 [(.agg [.str a0.n,.list 3 (a0.cols.map M.xHM),.list 1 (a0.key.map M.encN),.list 2 (a0.fos.map M.xHN),.list 7 a0.chk]),.list 3 (a1.map M.encF),.int .u16 a2] (.bool true):=M.xra _ _ (congrArg (fun x:Option Bool=>some (x.isSome,AV.bool (x.getD false))) hpl)
 have hrc:RC W (fun _=>False) xIx [v0,v1,v2] [(.agg [.str a0.n,.list 3 (a0.cols.map M.xHM),.list 1 (a0.key.map M.encN),.list 2 (a0.fos.map M.xHN),.list 7 a0.chk]),.list 3 (a1.map M.encF),.int .u16 a2]:=by
  refine ⟨rfl,fun i hi=>?_⟩
  match i,hi with
  | 0,_=>exact rr0
  | 1,_=>exact rr1
  | 2,_=>exact rr2
 refine (hg.2 W (fun _=>False) _ hI (fun _ h=>h.elim) hrc).mono fun e W' ⟨v,he,hb,hr⟩=>?_
 subst he;obtain rfl:=hr.bool_inv;exact ⟨_,rfl,xCv rfl hW' ⟨rfl,rfl,rfl⟩ rfl Tryz.underlying4 (by simpa using xqT xIy hb (by kernel_rfl) hAk) hb⟩
noncomputable def wit:Array Value:=#[.agg #[.string ⟨#[]⟩,.slice none 0 0,.slice none 0 0,.slice none 0 0,.slice none 0 0],.slice none 0 0,.int .u16 0]
theorem laid_met (os:Os):laidMet Tryz.prog Rows.uniquePartsUptoRow.laid ((xId Tryz.prog Rows.uniquePartsUptoRow.laid os).forCall (fun _ _=>0) ⟨#[],wit,[]⟩).memory :=
 laidMet_of_run3 8 (by kernel_rfl) (by kernel_rfl) (by kernel_rfl)
theorem reads (os:Os) {H:Type} (enc:TypeId×Value->H):∃ places,DataW.whole enc Tryz.prog ((xId Tryz.prog Rows.uniquePartsUptoRow.laid os).forCall (fun _ _=>0) ⟨#[],wit,[]⟩).memory Tryz.f7.params.toList Rows.uniquePartsSpec.vars false wit.toList 8=some ([.agg [.lit (.string []),.nil,.nil,.nil,.nil],.nil,.lit (.int .u16 0)],[],places) :=
 ⟨[],by kernel_rfl⟩
set_option maxRecDepth 100000 in
theorem lifted (os:Os) (started:os.Started) (H:Type) (enc:TypeId×Value->H) (F:Stop.Interp) :
  ReturnsInHanded {} Tryz.checked os 7 .any ((Rows.OpenSpec.upto Rows.uniquePartsSpec).preRow enc Tryz.prog Tryz.f7 Rows.uniquePartsUptoRow.domain false Rows.uniquePartsUptoRow.laid) (((Rows.OpenSpec.upto Rows.uniquePartsSpec).at F).post enc Tryz.prog Tryz.f7 false true false false):=by
 obtain ⟨places,hx⟩:=reads os enc;refine returnsInHanded_of_row (C:=Tryz.checked) (s:=Rows.OpenSpec.upto Rows.uniquePartsSpec) xIC started (by kernel_rfl) Tryz.func7
  (witness_row_at (enc:=enc) (C:=Tryz.checked) false (xId Tryz.prog Rows.uniquePartsUptoRow.laid os) wit rfl (by kernel_rfl) (by kernel_rfl) (by kernel_rfl)
   (OpenSpec.preRow_of_cond 8 hx (by kernel_rfl) (fun k hk=>by cases hk;kernel_rfl) (by kernel_rfl) (laid_met os))) ?_
 intro W base args ds gs before hval hW _ hcond _ hL hsh _;exact contract H enc W base args ds gs before hval hW hL hsh (of_decide_eq_true (hcond _ rfl))
theorem said:Rows.UniquePartsUptoSaid :=
 OpenClaim.holds_of_cond 7 Tryz.f7 rfl rfl rfl rfl rfl rfl rfl ⟨rfl,rfl,rfl,rfl,rfl⟩ rfl rfl rfl rfl rfl (by kernel_rfl) Tryz.func7 (by kernel_rfl)
  (of_decide_eq_true (by kernel_rfl)) (by unfold Func.isWrapper;first|(rw [if_pos (by decide +kernel)];kernel_rfl)|(rw [if_neg (by decide +kernel)];exact ⟨rfl,rfl⟩))
  (fun os started H enc _ F=>by rw [OpenClaim.pre_eq_preRow];exact lifted os started H enc F)
theorem plain (f:FuncId) (fn:Func) (hf:Tryz.pinned.checked.prog.funcNamed "bitemporal/bitemporallaw43.UniqueParts" = some f) (hfn:Tryz.pinned.checked.prog.funcs[f]?=some fn) :
  false=Tryz.pinned.checked.prog.looks []/\∀ (j:Nat) t,fn.params[j]?=some t->Tryz.pinned.checked.prog.wantsStandIn t=false:=by
 obtain rfl:f=7:=Option.some.inj ((show Tryz.prog.funcNamed "bitemporal/bitemporallaw43.UniqueParts" = some 7 by kernel_rfl).symm.trans hf) |>.symm
 obtain rfl:fn=Tryz.f7:=(Option.some.inj (Tryz.func7.symm.trans hfn)).symm;refine ⟨by kernel_rfl,fun j t ht=>?_⟩
 rw [Tryz.params7] at ht;have hm:=Array.mem_of_getElem? ht;have:([27,28,56]:List Nat).all (fun t=>!(Tryz.prog.wantsStandIn t))=true:=by kernel_rfl
 have:=List.all_eq_true.1 this t (by simpa using hm)
 show Tryz.prog.wantsStandIn t=false;simpa using this
theorem card:Rows.UniquePartsUptoCardSaid :=
 Claim7.holds_tied_plain_at .later [] _ _ _ _ said (fun _ h=>by cases h) (by kernel_rfl) (fun _ h=>by cases h) uniquePartsUpto_row_tie rfl ⟨rfl,rfl⟩ (by kernel_rfl) rfl plain (by kernel_rfl)
end Go.Proofs.YtcekkkdjdfiipaaGreatDoor.uniqueParts
end
