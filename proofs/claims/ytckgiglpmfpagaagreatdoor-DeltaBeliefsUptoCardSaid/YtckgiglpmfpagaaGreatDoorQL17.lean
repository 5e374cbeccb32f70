/- Part 17 of the proof of the law. -/
import Derived.Test.YtckgiglpmfpagaaGreatDoorQL16
import Derived.Lib.ItoaLen
set_option linter.unusedVariables false
set_option linter.unusedSimpArgs false
noncomputable section
set_option maxRecDepth 100000
namespace Go.Sim.M
open Go.RowKit Go.Sim.Srt
def rdD (l:List UInt8):Nat:=l.foldl (fun a c=>a*10+(c.toNat - 48)) 0
theorem xB9 (u:Nat):∀ c,c∈Lib.decDigits u->48<=c.toNat/\c.toNat<=57:=by
 induction u using Nat.strongRecOn with
 | _ u ih =>
  intro c hc;rw [Lib.decDigits] at hc;split at hc
  . rw [zv] at hc;subst hc;rw [UInt8.toNat_ofNat'];omega
  . rw [zG,zv] at hc;rcases hc with hc|rfl
    . exact ih (u / 10) (by omega) c hc
    . rw [UInt8.toNat_ofNat'];omega
theorem xFn (u:Nat):rdD (Lib.decDigits u)=u:=by
 induction u using Nat.strongRecOn with
 | _ u ih =>
  rw [Lib.decDigits];split
  . simp only [rdD,List.foldl_cons,List.foldl_nil,UInt8.toNat_ofNat'];omega
  . have:=ih (u / 10) (by omega)
    unfold rdD at this |-;rw [List.foldl_append,this];simp only [List.foldl_cons,List.foldl_nil,UInt8.toNat_ofNat'];omega
theorem xCa {u v:Nat} (h:Lib.decDigits u=Lib.decDigits v):u=v:=by rw [<-xFn u,h,xFn]
theorem xvl {a b:Int} (h:Lib.itoa a=Lib.itoa b):a=b:=by
 unfold Lib.itoa at h;have k:∀ u v:Nat,45::Lib.decDigits u≠Lib.decDigits v:=fun u v e=>by
  have:=xB9 v 45 (by rw [<-e];simp)
  have t:(45:UInt8).toNat=45:=rfl;omega
 split at h<;>split at h
 . have:=xCa (List.cons.inj h).2;omega
 . exact absurd h (k _ _)
 . exact absurd h.symm (k _ _)
 . have:=xCa h;omega
theorem xqN (a:Int):(32:UInt8)∉Lib.itoa a:=by
 have k:∀ v:Nat,(32:UInt8)∉Lib.decDigits v:=fun v e=>by
  have:=xB9 v 32 e;have t:(32:UInt8).toNat=32:=rfl;omega
 unfold Lib.itoa;split
 . rw [zC];rintro (h|h)
   . simp at h
   . exact k _ h
 . exact k _
theorem xvx:∀ {a b x y:List UInt8},(32:UInt8)∉a->(32:UInt8)∉b->a++32::x=b++32::y->a=b/\x=y
 | [],[],x,y,_,_,h=>⟨rfl,(List.cons.inj h).2⟩
 | [],c::b,x,y,_,hb,h=>absurd (List.cons.inj h).1 fun e=>hb (by rw [e];simp)
 | c::a,[],x,y,ha,_,h=>absurd (List.cons.inj h).1 fun e=>ha (by rw [<-e];simp)
 | c::a,d::b,x,y,ha,hb,h=>by
  obtain ⟨e1,h⟩:=List.cons.inj h;obtain ⟨e2,e3⟩:=xvx (a:=a) (b:=b) (fun e=>ha (by simp [e])) (fun e=>hb (by simp [e])) h
  exact ⟨by rw [e1,e2],e3⟩
def keyV (v:Val):List UInt8:=Lib.itoa v.k++32::(Lib.itoa v.i++32::(Lib.itoa (v.t.length:Int)++32::v.t))
def keyOf (r:Row):List UInt8:=r.flatMap keyV
theorem xvn (v:Val) (s:List UInt8):keyV v++s=Lib.itoa v.k++32::(Lib.itoa v.i++32::(Lib.itoa (v.t.length:Int)++32::(v.t++s))):=by simp [keyV]
theorem xnJ (v:Val) (r:Row):keyOf (v::r)=keyV v++keyOf r:=by simp [keyOf]
theorem xw9 (v:Val) (s:List UInt8):keyV v++s≠[]:=by rw [xvn];simp
theorem xCj:∀ {r r':Row},keyOf r=keyOf r'->r=r'
 | [],[],_=>rfl
 | [],v::r',h=>by rw [xnJ] at h;exact absurd h.symm (xw9 _ _)
 | v::r,[],h=>by rw [xnJ] at h;exact absurd h (xw9 _ _)
 | v::r,v'::r',h=>by
  rw [xnJ,xnJ,xvn,xvn] at h;obtain ⟨h1,h⟩:=xvx (xqN _) (xqN _) h;obtain ⟨h2,h⟩:=xvx (xqN _) (xqN _) h;obtain ⟨h3,h⟩:=xvx (xqN _) (xqN _) h;have h3:=xvl h3;obtain ⟨h4,h⟩:=List.append_inj h (by omega)
  obtain rfl:=xCj h;have:v=v':=by
   obtain ⟨k,i,t⟩:=v;obtain ⟨k',i',t'⟩:=v';obtain rfl:=xvl h1;obtain rfl:=xvl h2;subst h4;rfl
  rw [this]
theorem xKR {n:Int} (h:(Lit.int .i64 n).wf=true):-9223372036854775808<=n/\n<=9223372036854775807:=by
 have h:(decide ((IntKind.i64).min<=n)&&decide (n<=(IntKind.i64).max))=true:=h;rw [zf,zl,zl] at h;exact h
theorem xAn {v:Val} (hw:v.wf) (ht:v.t.length<=1099511627776):(keyV v).length<=66+v.t.length:=by
 obtain ⟨w1,w2,_⟩:=hw;have a1:=Lib.itoa_length_le v.k (xKR w1).1 (xKR w1).2;have a2:=Lib.itoa_length_le v.i (xKR w2).1 (xKR w2).2;have a3:=Lib.itoa_length_le (v.t.length:Int) (by omega) (by omega)
 simp only [keyV,z8,zF];omega
theorem xyl (s B:List UInt8) (h:(B++s).length<=140737488355328):xbv s B.length (byteAVs B)=some ((s.length:Int),(B++s).length,byteAVs (B++s)):=by
 rw [z8] at h;have h2:B.length+s.length<=4611686018427387904:=by omega
 unfold xbv xes;simp only [xll,beq_self_eq_true,Nat.mul_one,h,h2,zn,Bool.and_self,xam,xsg,z8,sUF]
theorem xA8 (B:List UInt8) (h:(B++[32]).length<=140737488355328):xfB 32 B.length (byteAVs B)=some ((B++[32]).length,byteAVs (B++[32])):=by
 rw [z8,zj] at h;have h2:B.length+1<=4611686018427387904:=by omega
 unfold xfB xeX;simp only [xll,beq_self_eq_true,Nat.mul_one,h,h2,zn,Bool.and_self,xam,xsg,z8,zj,sUF];rfl
def numI (n:Int):List UInt8:=Lib.itoa n++[32]
theorem xDi (t8:List AV) (t9 q:Int) (xs:List AV) (hx:xs.length=3) (j:Nat) (hj:j<3) (n:Int) (hn:xs.getD j .top=.int .i64 n) (h1:-9223372036854775808<=n) (h2:n<=9223372036854775807) (v0 v1:Int) (v2 B:List UInt8) (hB:B.length<=70368744177664) :
  xbB t8 t9 q 3 3 ((j:Int),B.length,v0,v1,v2,xs,byteAVs B)=some (.inl (((j+1:Nat):Int),(B++numI n).length,v0,v1,v2,xs,byteAVs (B++numI n))):=by
 have hl:=Lib.itoa_length_le n h1 h2;have i1:(j:Int)<3:=by omega
 have i2:(j:Int)<((3:Nat):Int):=by omega
 have i3:j<xs.length:=by omega
 have e1:=xyl (Lib.itoa n) B (by rw [z8];omega)
 have e2:=xA8 (B++Lib.itoa n) (by rw [z8,z8,zj];omega)
 have hc:((AV.int IntKind.i64 n).cells.getD 0 .top).toInt=n:=rfl;have hs:xLw (Sh.int IntKind.i64) ((AV.int IntKind.i64 n).cells.getD 0 .top)=true:=rfl;simp only [xbB,xio,xkJ,xkK,xkL,xfF,sBU,i1,i2,i3,hn,hc,hs,h1,h2,e1,e2,xKi (n:=j) (by omega),numI,zw]
theorem xHS (t8:List AV) (t9 q:Int) (xs:List AV) (v0 v1:Int) (v2 B:List UInt8):xbB t8 t9 q 3 3 (((3:Nat):Int),B.length,v0,v1,v2,xs,byteAVs B)=some (.inr (B.length,v0,v1,v2,byteAVs B)):=by
 have i1:¬ ((3:Nat):Int)<3:=by omega
 simp only [xbB,xio,i1,zm,xah,sUF]
theorem xvo (v:Val):keyV v=numI v.k++(numI v.i++(numI (v.t.length:Int)++v.t)):=by simp [keyV,numI]
def KOk (v:Val):Prop:=v.wf/\v.t.length<=1099511627776
theorem KOk.len {v:Val} (h:KOk v):(keyV v).length<=1099511627842:=by have:=xAn h.1 h.2;have:=h.2;omega
theorem xCk (t8:List AV) (t9 q:Int) (v:Val) (h:KOk v) (B:List UInt8) (hB:B.length<=35184372088832) :
  Iter (xbB t8 t9 q 3 3) ((1:Int),(B++numI v.k).length,v.k,v.i,v.t,[AV.int .i64 v.k,AV.int .i64 v.i,AV.int .i64 (v.t.length:Int)],byteAVs (B++numI v.k))=some ((B++numI v.k++numI v.i++numI (v.t.length:Int)).length,v.k,v.i,v.t,byteAVs (B++numI v.k++numI v.i++numI (v.t.length:Int))):=by
 have hl:=h.len;have ht:=h.2;rw [xvo,z8,z8,z8] at hl;have e1:=xDi t8 t9 q [AV.int .i64 v.k,AV.int .i64 v.i,AV.int .i64 (v.t.length:Int)] rfl 1 (by omega) v.i rfl (xKR h.1.2.1).1 (xKR h.1.2.1).2 v.k v.i v.t (B++numI v.k) (by rw [z8];omega)
 have e2:=xDi t8 t9 q [AV.int .i64 v.k,AV.int .i64 v.i,AV.int .i64 (v.t.length:Int)] rfl 2 (by omega) (v.t.length:Int) rfl (by omega) (by omega) v.k v.i v.t (B++numI v.k++numI v.i) (by rw [z8,z8];omega)
 exact (xaZ e1).trans ((xaZ e2).trans (xaN (xHS ..)))
theorem xJg (t8:List AV) (t9 q:Int) (v:Val) (h:KOk v) (B:List UInt8) (hB:B.length<=35184372088832) :
  Iter (xbB t8 t9 q 3 3) ((0:Int),B.length,v.k,v.i,v.t,[AV.int .i64 v.k,AV.int .i64 v.i,AV.int .i64 (v.t.length:Int)],byteAVs B)=some ((B++numI v.k++numI v.i++numI (v.t.length:Int)).length,v.k,v.i,v.t,byteAVs (B++numI v.k++numI v.i++numI (v.t.length:Int))):=by
 have e0:=xDi t8 t9 q [AV.int .i64 v.k,AV.int .i64 v.i,AV.int .i64 (v.t.length:Int)] rfl 0 (by omega) v.k rfl (xKR h.1.1).1 (xKR h.1.1).2 v.k v.i v.t B (by omega)
 exact (xaZ e0).trans (xCk t8 t9 q v h B hB)
theorem xEW (r:Row) (hr:r.length<=1048576) (h:∀ v,v∈r->KOk v) (hk:(keyOf r).length<=17592186044416):∀ d k:Nat,k+d=r.length->Iter (xdy (r.map encV) ((r.length:Nat):Int)) ((k:Int),(keyOf (r.take k)).length,byteAVs (keyOf (r.take k)))=some ((keyOf r).length,byteAVs (keyOf r))
 | 0,k,hkk=>by
  obtain rfl:k=r.length:=by omega
  rw [y4];refine xaN ?_;simp only [xdy,xin,zy,zm,xah,sUF]
 | d+1,k,hkk=>by
  have q:k<r.length:=by omega
  have hv:=h r[k] (zo q);have i1:(k:Int)<(r.length:Int):=by omega
  have gf:(r.map encV).getD k .top=encV r[k]:=xaM _ _ _ q;have tk:keyOf (r.take (k+1))=keyOf (r.take k)++keyV r[k]:=by
   unfold keyOf;rw [List.take_add_one,ze q,List.flatMap_append];simp
  have le:(keyOf (r.take (k+1))).length<=(keyOf r).length:=by
   conv=>rhs;rw [<-List.take_append_drop (k+1) r]
   unfold keyOf;rw [List.flatMap_append,z8];omega
  have hl:=hv.len;rw [tk,z8] at le;have e1:=xJg (r.map encV) (r.length:Int) (k:Int) r[k] hv (keyOf (r.take k)) (by omega)
  have kn:keyOf (r.take k)++keyV r[k]=keyOf (r.take k)++numI r[k].k++numI r[k].i++numI (r[k].t.length:Int)++r[k].t:=by rw [xvo];simp only [zw]
  have e2:=xyl r[k].t (keyOf (r.take k)++numI r[k].k++numI r[k].i++numI (r[k].t.length:Int)) (by rw [<-kn,z8];omega)
  rw [xaZ (s':=(((k+1:Nat):Int),(keyOf (r.take (k+1))).length,byteAVs (keyOf (r.take (k+1))))) ?_]
  . exact xEW r hr h hk d (k+1) (by omega)
  . rw [tk,kn];simp only [xdy,xin,xkE,xkF,xkG,xkH,xkI,sBU,q,i1,gf,cV0,cV1,cV2,lV,sV,e1,e2,xKi (n:=k) (by omega)]
theorem xJh (r:Row) (hr:r.length<=1048576) (h:∀ v,v∈r->KOk v) (hk:(keyOf r).length<=17592186044416):xkD (r.map encV)=some (keyOf r):=by
 match r with
 | []=>rfl
 | v::t =>
  have hv:=h v (by simp)
  have hl:=hv.len;have i1:(0:Int)<((t.length+1:Nat):Int):=by omega
  have i2:0<t.length+1:=by omega
  obtain ⟨r1,r2⟩:=xKR hv.1.1;have q:=Lib.itoa_length_le v.k r1 r2;have gf:((v::t).map encV).getD 0 .top=encV v:=rfl;have e0:xcf (Lib.itoa v.k)=some (((Lib.itoa v.k).length:Int),(Lib.itoa v.k).length,byteAVs (Lib.itoa v.k)):=by
   have m1:(Lib.itoa v.k).length<=140737488355328:=by omega
   have m2:(Lib.itoa v.k).length<=4611686018427387904:=by omega
   unfold xcf xeJ;simp only [xll,Nat.mul_one,m1,m2,zn,Bool.and_self,xam,sUF]
  have e1:xjv 32 (Lib.itoa v.k).length (byteAVs (Lib.itoa v.k))=some (([]++numI v.k).length,byteAVs ([]++numI v.k)):=xA8 (Lib.itoa v.k) (by rw [z8,zj];omega)
  have e2:=xCk ((v::t).map encV) ((t.length+1:Nat):Int) 0 v hv [] (by simp)
  have kn:keyV v=[]++numI v.k++numI v.i++numI (v.t.length:Int)++v.t:=by rw [xvo];simp
  have e3:=xyl v.t ([]++numI v.k++numI v.i++numI (v.t.length:Int)) (by rw [<-kn];omega)
  rw [<-kn] at e3;have e4:=xEW (v::t) hr h hk t.length 1 (by rw [zF];omega)
  have tk:keyOf ((v::t).take 1)=keyV v:=by simp [keyOf]
  rw [tk,zF] at e4;have e4:Iter (xdy ((v::t).map encV) ((t.length+1:Nat):Int)) ((1:Int),(keyV v).length,byteAVs (keyV v))=_:=e4;have hne:(keyOf (v::t)).length≠0:=fun e=>xw9 v (keyOf t) (by rw [<-xnJ];exact List.length_eq_zero_iff.1 e)
  unfold xkD xoP xhs xnr xns xnt xnu xnv xnw xny xnz xnA xdf;simp only [za,zF,i1,i2,gf,cV0,cV1,cV2,lV,sV,r1,r2,e0,e1,e2,e3,e4,zn,xam,Bool.and_self,beq_self_eq_true,zk,zh,xll,xwd,xzB,ne_eq,hne,not_false_eq_true,sUF]
abbrev Grp:=Row×List Per
def encG (g:Grp):AV:=.agg [.list 3 (g.1.map encV),.list 2 (g.2.map encP)]
def okEG (x:AV):Bool:=x.cells.length==(2:Nat)&&xLE [Sh.list (3:Nat),Sh.list (2:Nat)] x.cells (0:Nat)
def ldEG (x:AV):AV:=AV.agg [AV.list (3:Nat) (x.cells.getD (0:Nat) AV.top).toList,AV.list (2:Nat) (x.cells.getD (1:Nat) AV.top).toList]
def xKT (x y:AV):Bool:=(xdz (x.cells.getD 0 AV.top).toList (x.cells.getD 1 AV.top).toList (y.cells.getD 0 AV.top).toList (y.cells.getD 1 AV.top).toList).isSome
def xKU (x y:AV):Int:=(xdz (x.cells.getD 0 AV.top).toList (x.cells.getD 1 AV.top).toList (y.cells.getD 0 AV.top).toList (y.cells.getD 1 AV.top).toList).getD 0
theorem heG (a:Grp):okEG (encG a)=true:=rfl
theorem hdG (a:Grp):ldEG (encG a)=encG a:=rfl
section
variable {N : Nat} (hN : N <= 2 ^ 60) {ok : Grp -> Prop} {c : Grp -> Grp -> Int} (hc : ∀ x y, ok x -> ok y -> xKT (encG x) (encG y) = true /\ xKU (encG x) (encG y) = c x y)
include hN
theorem xHf (a b n:Nat) (l r:List Grp) (ha:a<=2 ^ 60) (hb:b<=2 ^ 60) (hn:n<=2 ^ 60) (hl:LOk N ok l) (hr:swr a b n l=some r):xbi N a b n (List.map encG l)=some (List.map encG r)/\LOk N ok r:=by
 obtain ⟨e1,e2⟩:=xIf (okE:=okEG) (ldE:=ldEG) heG hdG hN a b n ha hb hn (g:=xcs N a b n) (fun i xs=>rfl) hl hr
 refine ⟨?_,e2⟩;unfold xbi xfM;rw [e1];rfl
theorem xJ5 (a m b:Nat) (l r:List Grp) (h1:a<=m) (h2:m<=b) (h3:b<=N) (hl:LOk N ok l) (hr:rot a m b l=some r):xca N a m b (List.map encG l)=some (List.map encG r)/\LOk N ok r:=by
 unfold rot at hr;cases hi:Iter (xKt m) (m - a,b - m,l) with
 | none=>rw [hi] at hr;simp at hr
 | some p =>
  obtain ⟨i,l'⟩:=p;rw [hi] at hr;obtain ⟨e1,e2,e3⟩:=xIe (enc:=encG) hN (ok:=ok) (SW:=fun a b n xs=>xbi N a b n xs) (fun a b n l r ha hb hn hl hr=>xHf hN a b n l r ha hb hn hl hr) m (by omega) (g:=xeU N m) (fun i j xs=>rfl) (by omega) (by omega) hl hi
  obtain ⟨e4,e5⟩:=xHf hN (m - i) m i l' r (by omega) (by omega) (by omega) e3 hr
  refine ⟨?_,e5⟩;simp only [xca,xg1,xgz,xgA,xgB,xgC,w64 (x:=(m:Int) - (a:Int)) (n:=m - a) (by omega) (by omega),w64 (x:=(b:Int) - (m:Int)) (n:=b - m) (by omega) (by omega),e1,zh,zk,xam,w64 (x:=(m:Int) - (i:Int)) (n:=m - i) (by omega) (by omega),e4,sUF]
include hc
theorem xHe (a b:Nat) (ha:a<=N) (hb:b<=N) {l r:List Grp} (hl:LOk N ok l) (hr:xKD c a b l=some r):xby N a b (List.map encG l)=some (List.map encG r)/\LOk N ok r:=by
 obtain ⟨e1,e2⟩:=xAY (enc:=encG) hN (c:=c) (ok:=ok) a b hb (gi:=fun i=>xbT N a b i) (fun i l r hl hr=>xCE (okE:=okEG) (ldE:=ldEG) heG hdG hN (P:=xKT) (V:=xKU) hc a (fun j xs=>rfl) hl hr) (g:=xbS N a b) (fun i xs=>rfl) hl hr
 refine ⟨?_,e2⟩;unfold xby xeH;rw [w64 (x:=(a:Int)+1) (n:=a+1) (by omega) (by omega),e1];rfl
theorem xHg:∀ (f a m b:Nat) (l r:List Grp),a<m->m<b->b<=N->LOk N ok l->symM c f a m b l=some r->xaR f N a m b (List.map encG l)=some (List.map encG r)/\LOk N ok r:=by
 intro f;induction f with
 | zero=>intro a m b l r _ _ _ _ hr;simp [symM] at hr
 | succ f ih =>
  intro a m b l r af ag hb hl hr;unfold symM at hr;show xay (xaR f) N a m b (List.map encG l)=some (List.map encG r)/\LOk N ok r;have J:IntKind.i64.wrap ((m:Int) - (a:Int))=((m - a:Nat):Int):=w64 (by omega) (by omega)
  have O:IntKind.i64.wrap ((b:Int) - (m:Int))=((b - m:Nat):Int):=w64 (by omega) (by omega)
  by_cases h1:m - a=1
  . rw [if_pos h1] at hr;cases hi:Iter (xKp fun h=>(get2 c l h a).map fun r=>decide (r<0)) (m,b) with
    | none=>rw [hi] at hr;simp at hr
    | some i =>
     rw [hi] at hr;obtain ⟨e0,b1,b2⟩:=xAX (okE:=okEG) heG hN (P:=xKT) (V:=xKU) hc (fun h=>h) (fun _=>a) (fun h=>h) (fun _=>(a:Int)) m b (by omega) (fun _ _ _=>rfl) (fun _ _ _=>rfl) (fun r=>decide (r<0)) (g:=xbI N a) (fun i j xs=>rfl) hl (zd _) (zd _) (by omega) hi
     obtain ⟨e1,e2⟩:=xJs (okE:=okEG) (ldE:=ldEG) heG hdG hN (ok:=ok) (i - 1) i (by omega) (by omega) (g:=xep N i) (fun k xs=>rfl) hl hr
     refine ⟨?_,e2⟩;simp only [xay,xaL,xar,xas,xat,xau,xav,xaw,xan,xao,xad,xap,xaq,xae,xab,xac,xaf,xag,xaz,xaA,xaB,xaa,xaC,xaD,xaE,xaF,xaG,xaH,xaI,xaJ,xaK,xai,xaj,J,h1,e0,zh,zk,xam,e1,Int.natCast_one,beq_self_eq_true,sUF]
  . rw [if_neg h1] at hr;have d1:(((m - a:Nat):Int)==1)=false:=by simp;omega
    by_cases h2:b - m=1
    . rw [if_pos h2] at hr;cases hi:Iter (xKp fun h=>(get2 c l m h).map fun r=>!decide (r<0)) (a,m) with
      | none=>rw [hi] at hr;simp at hr
      | some i =>
       rw [hi] at hr;obtain ⟨e0,b1,b2⟩:=xAX (okE:=okEG) heG hN (P:=xKT) (V:=xKU) hc (fun _=>m) (fun h=>h) (fun _=>(m:Int)) (fun h=>h) a m (by omega) (fun _ _ _=>rfl) (fun _ _ _=>rfl) (fun r=>!decide (r<0)) (g:=xbJ N m) (fun i j xs=>rfl) hl (zd _) (zd _) (by omega) hi
       obtain ⟨e1,e2⟩:=xGN (okE:=okEG) (ldE:=ldEG) heG hdG hN (ok:=ok) i (g:=xeq N i) (fun k xs=>rfl) hl hr
       refine ⟨?_,e2⟩;simp only [xay,xaL,xar,xas,xat,xau,xav,xaw,xan,xao,xad,xap,xaq,xae,xab,xac,xaf,xag,xaz,xaA,xaB,xaa,xaC,xaD,xaE,xaF,xaG,xaH,xaI,xaJ,xaK,xai,xaj,J,O,d1,h2,e0,zh,zk,xam,xah,e1,Int.natCast_one,beq_self_eq_true,sUF]
    . rw [if_neg h2] at hr;have d2:(((b - m:Nat):Int)==1)=false:=by simp;omega
      have hh:IntKind.i64.wrap ((IntKind.u64.wrap (IntKind.i64.wrap ((a:Int)+(b:Int)))).fdiv 2)=(((a+b) / 2:Nat):Int):=xLf (by omega)
      obtain ⟨q,ad⟩:∃ q,q=(a+b) / 2:=⟨_,rfl⟩;rw [<-ad] at hr hh;have w2:IntKind.i64.wrap ((q:Int)+(m:Int))=((q+m:Nat):Int):=w64 (by omega) (by omega)
      have w3:IntKind.i64.wrap (((q+m:Nat):Int) - 1)=((q+m - 1:Nat):Int):=w64 (by omega) (by omega)
      obtain ⟨lo,hi,ac,g1,g2,g3,g4,ae⟩:∃ lo hi,(if q<m then (q+m - b,q) else (a,m))=(lo,hi)/\a<=lo/\lo<=hi/\hi<=m/\hi<=q/\((q<m/\lo=q+m - b/\hi=q)\/(¬ q<m/\lo=a/\hi=m)):=by
       by_cases h:q<m
       . exact ⟨_,_,if_pos h,by omega,by omega,by omega,by omega,.inl ⟨h,rfl,rfl⟩⟩
       . exact ⟨_,_,if_neg h,by omega,by omega,by omega,by omega,.inr ⟨h,rfl,rfl⟩⟩
      rw [ac] at hr;cases hs:Iter (xKp fun h=>(get2 c l (q+m - 1 - h) h).map fun r=>!decide (r<0)) (lo,hi) with
      | none=>rw [hs] at hr;simp at hr
      | some s =>
       rw [hs] at hr;dsimp only at hr;obtain ⟨e0,b1,b2⟩:=xAX (okE:=okEG) heG hN (P:=xKT) (V:=xKU) hc (fun h=>q+m - 1 - h) (fun h=>h) (fun h=>IntKind.i64.wrap (((q+m - 1:Nat):Int) - h)) (fun h=>h) lo hi (by omega) (fun h _ _=>w64 (by omega) (by omega)) (fun _ _ _=>rfl) (fun r=>!decide (r<0)) (g:=xcJ N a m b q ((q+m:Nat):Int) ((q+m - 1:Nat):Int)) (fun i j xs=>rfl) hl (zd _) (zd _) g2 hs
       have w5:IntKind.i64.wrap (((q+m:Nat):Int) - (s:Int))=((q+m - s:Nat):Int):=w64 (by omega) (by omega)
       obtain ⟨e,he⟩:∃ e,e=q+m - s:=⟨_,rfl⟩;rw [<-he] at hr w5;cases Q:(if s<m/\m<e then rot s m e l else some l) with
       | none=>rw [Q] at hr;simp at hr
       | some l1 =>
        rw [Q] at hr;dsimp only at hr;have k1:(s<m/\m<e/\xca N s m e (List.map encG l)=some (List.map encG l1)/\LOk N ok l1)\/(¬ (s<m/\m<e)/\l1=l):=by
         by_cases h:s<m/\m<e
         . rw [if_pos h] at Q;obtain ⟨x1,x2⟩:=xJ5 hN s m e l l1 (by omega) (by omega) (by omega) hl Q
           exact .inl ⟨h.1,h.2,x1,x2⟩
         . rw [if_neg h] at Q;simp only [z6] at Q;exact .inr ⟨h,Q.symm⟩
        have Z:LOk N ok l1:=by
         rcases k1 with k|k
         . exact k.2.2.2
         . rw [k.2];exact hl
        cases U:(if a<s/\s<q then symM c f a s q l1 else some l1) with
        | none=>rw [U] at hr;simp at hr
        | some l2 =>
         rw [U] at hr;dsimp only at hr;have k2:(a<s/\s<q/\xaR f N a s q (List.map encG l1)=some (List.map encG l2)/\LOk N ok l2)\/(¬ (a<s/\s<q)/\l2=l1):=by
          by_cases h:a<s/\s<q
          . rw [if_pos h] at U;obtain ⟨x1,x2⟩:=ih a s q l1 l2 h.1 h.2 (by omega) Z U
            exact .inl ⟨h.1,h.2,x1,x2⟩
          . rw [if_neg h] at U;simp only [z6] at U;exact .inr ⟨h,U.symm⟩
         have Y:LOk N ok l2:=by
          rcases k2 with k|k
          . exact k.2.2.2
          . rw [k.2];exact Z
         have k3:(q<e/\e<b/\xaR f N q e b (List.map encG l2)=some (List.map encG r)/\LOk N ok r)\/(¬ (q<e/\e<b)/\r=l2):=by
          by_cases h:q<e/\e<b
          . rw [if_pos h] at hr;obtain ⟨x1,x2⟩:=ih q e b l2 r h.1 h.2 hb Y hr;exact .inl ⟨h.1,h.2,x1,x2⟩
          . rw [if_neg h] at hr;simp only [z6] at hr;exact .inr ⟨h,hr.symm⟩
         refine ⟨?_,?_⟩
         . clear ih hc hl Z Y hr U Q hs ac;rcases ae with ⟨hm,aa,ab⟩|⟨hm,aa,ab⟩
           . rw [aa,ab] at e0;have w4:IntKind.i64.wrap (((q+m:Nat):Int) - (b:Int))=((q+m - b:Nat):Int):=w64 (by omega) (by omega)
             have dm:decide ((m:Int)>(q:Int))=true:=by simp [hm]
             rcases k1 with ⟨p1,p2,p3,_⟩|⟨p1,rfl⟩<;>rcases k2 with ⟨q1,q2,q3,_⟩|⟨q1,rfl⟩<;>rcases k3 with ⟨r1,r2,r3,_⟩|⟨r1,rfl⟩ <;>
              (by_cases t1:s<m<;>by_cases t2:m<e<;>by_cases t3:a<s<;>by_cases t4:s<q<;>by_cases t5:q<e<;>by_cases t6:e<b<;>first|(exfalso;omega) |
               (simp only [xay,xaL,xar,xas,xat,xau,xav,xaw,xan,xao,xad,xap,xaq,xae,xab,xac,xaf,xag,xaz,xaA,xaB,xaa,xaC,xaD,xaE,xaF,xaG,xaH,xaI,xaJ,xaK,xai,xaj,J,O,d1,d2,hh,w2,w3,w4,dm,e0,w5,zh,zk,xam,xah,Int.ofNat_lt,t1,t2,t3,t4,t5,t6,zn,zm,hm,p3,q3,r3,sUF]) |
               (simp only [xay,xaL,xar,xas,xat,xau,xav,xaw,xan,xao,xad,xap,xaq,xae,xab,xac,xaf,xag,xaz,xaA,xaB,xaa,xaC,xaD,xaE,xaF,xaG,xaH,xaI,xaJ,xaK,xai,xaj,J,O,d1,d2,hh,w2,w3,w4,dm,e0,w5,zh,zk,xam,xah,Int.ofNat_lt,t1,t2,t3,t4,t5,t6,zn,zm,hm,p3,q3,sUF]) |
               (simp only [xay,xaL,xar,xas,xat,xau,xav,xaw,xan,xao,xad,xap,xaq,xae,xab,xac,xaf,xag,xaz,xaA,xaB,xaa,xaC,xaD,xaE,xaF,xaG,xaH,xaI,xaJ,xaK,xai,xaj,J,O,d1,d2,hh,w2,w3,w4,dm,e0,w5,zh,zk,xam,xah,Int.ofNat_lt,t1,t2,t3,t4,t5,t6,zn,zm,hm,p3,r3,sUF]) |
               (simp only [xay,xaL,xar,xas,xat,xau,xav,xaw,xan,xao,xad,xap,xaq,xae,xab,xac,xaf,xag,xaz,xaA,xaB,xaa,xaC,xaD,xaE,xaF,xaG,xaH,xaI,xaJ,xaK,xai,xaj,J,O,d1,d2,hh,w2,w3,w4,dm,e0,w5,zh,zk,xam,xah,Int.ofNat_lt,t1,t2,t3,t4,t5,t6,zn,zm,hm,q3,r3,sUF]) |
               (simp only [xay,xaL,xar,xas,xat,xau,xav,xaw,xan,xao,xad,xap,xaq,xae,xab,xac,xaf,xag,xaz,xaA,xaB,xaa,xaC,xaD,xaE,xaF,xaG,xaH,xaI,xaJ,xaK,xai,xaj,J,O,d1,d2,hh,w2,w3,w4,dm,e0,w5,zh,zk,xam,xah,Int.ofNat_lt,t1,t2,t3,t4,t5,t6,zn,zm,hm,p3,sUF]) |
               (simp only [xay,xaL,xar,xas,xat,xau,xav,xaw,xan,xao,xad,xap,xaq,xae,xab,xac,xaf,xag,xaz,xaA,xaB,xaa,xaC,xaD,xaE,xaF,xaG,xaH,xaI,xaJ,xaK,xai,xaj,J,O,d1,d2,hh,w2,w3,w4,dm,e0,w5,zh,zk,xam,xah,Int.ofNat_lt,t1,t2,t3,t4,t5,t6,zn,zm,hm,q3,sUF]) |
               (simp only [xay,xaL,xar,xas,xat,xau,xav,xaw,xan,xao,xad,xap,xaq,xae,xab,xac,xaf,xag,xaz,xaA,xaB,xaa,xaC,xaD,xaE,xaF,xaG,xaH,xaI,xaJ,xaK,xai,xaj,J,O,d1,d2,hh,w2,w3,w4,dm,e0,w5,zh,zk,xam,xah,Int.ofNat_lt,t1,t2,t3,t4,t5,t6,zn,zm,hm,r3,sUF]) |
               (simp only [xay,xaL,xar,xas,xat,xau,xav,xaw,xan,xao,xad,xap,xaq,xae,xab,xac,xaf,xag,xaz,xaA,xaB,xaa,xaC,xaD,xaE,xaF,xaG,xaH,xaI,xaJ,xaK,xai,xaj,J,O,d1,d2,hh,w2,w3,w4,dm,e0,w5,zh,zk,xam,xah,Int.ofNat_lt,t1,t2,t3,t4,t5,t6,zn,zm,hm,sUF]))
           . rw [aa,ab] at e0;have dm:decide ((m:Int)>(q:Int))=false:=by simp;omega
             rcases k1 with ⟨p1,p2,p3,_⟩|⟨p1,rfl⟩<;>rcases k2 with ⟨q1,q2,q3,_⟩|⟨q1,rfl⟩<;>rcases k3 with ⟨r1,r2,r3,_⟩|⟨r1,rfl⟩ <;>
              (by_cases t1:s<m<;>by_cases t2:m<e<;>by_cases t3:a<s<;>by_cases t4:s<q<;>by_cases t5:q<e<;>by_cases t6:e<b<;>first|(exfalso;omega) |
               (simp only [xay,xaL,xar,xas,xat,xau,xav,xaw,xan,xao,xad,xap,xaq,xae,xab,xac,xaf,xag,xaz,xaA,xaB,xaa,xaC,xaD,xaE,xaF,xaG,xaH,xaI,xaJ,xaK,xai,xaj,J,O,d1,d2,hh,w2,w3,dm,e0,w5,zh,zk,xam,xah,Int.ofNat_lt,t1,t2,t3,t4,t5,t6,zn,zm,hm,p3,q3,r3,sUF]) |
               (simp only [xay,xaL,xar,xas,xat,xau,xav,xaw,xan,xao,xad,xap,xaq,xae,xab,xac,xaf,xag,xaz,xaA,xaB,xaa,xaC,xaD,xaE,xaF,xaG,xaH,xaI,xaJ,xaK,xai,xaj,J,O,d1,d2,hh,w2,w3,dm,e0,w5,zh,zk,xam,xah,Int.ofNat_lt,t1,t2,t3,t4,t5,t6,zn,zm,hm,p3,q3,sUF]) |
               (simp only [xay,xaL,xar,xas,xat,xau,xav,xaw,xan,xao,xad,xap,xaq,xae,xab,xac,xaf,xag,xaz,xaA,xaB,xaa,xaC,xaD,xaE,xaF,xaG,xaH,xaI,xaJ,xaK,xai,xaj,J,O,d1,d2,hh,w2,w3,dm,e0,w5,zh,zk,xam,xah,Int.ofNat_lt,t1,t2,t3,t4,t5,t6,zn,zm,hm,p3,r3,sUF]) |
               (simp only [xay,xaL,xar,xas,xat,xau,xav,xaw,xan,xao,xad,xap,xaq,xae,xab,xac,xaf,xag,xaz,xaA,xaB,xaa,xaC,xaD,xaE,xaF,xaG,xaH,xaI,xaJ,xaK,xai,xaj,J,O,d1,d2,hh,w2,w3,dm,e0,w5,zh,zk,xam,xah,Int.ofNat_lt,t1,t2,t3,t4,t5,t6,zn,zm,hm,q3,r3,sUF]) |
               (simp only [xay,xaL,xar,xas,xat,xau,xav,xaw,xan,xao,xad,xap,xaq,xae,xab,xac,xaf,xag,xaz,xaA,xaB,xaa,xaC,xaD,xaE,xaF,xaG,xaH,xaI,xaJ,xaK,xai,xaj,J,O,d1,d2,hh,w2,w3,dm,e0,w5,zh,zk,xam,xah,Int.ofNat_lt,t1,t2,t3,t4,t5,t6,zn,zm,hm,p3,sUF]) |
               (simp only [xay,xaL,xar,xas,xat,xau,xav,xaw,xan,xao,xad,xap,xaq,xae,xab,xac,xaf,xag,xaz,xaA,xaB,xaa,xaC,xaD,xaE,xaF,xaG,xaH,xaI,xaJ,xaK,xai,xaj,J,O,d1,d2,hh,w2,w3,dm,e0,w5,zh,zk,xam,xah,Int.ofNat_lt,t1,t2,t3,t4,t5,t6,zn,zm,hm,q3,sUF]) |
               (simp only [xay,xaL,xar,xas,xat,xau,xav,xaw,xan,xao,xad,xap,xaq,xae,xab,xac,xaf,xag,xaz,xaA,xaB,xaa,xaC,xaD,xaE,xaF,xaG,xaH,xaI,xaJ,xaK,xai,xaj,J,O,d1,d2,hh,w2,w3,dm,e0,w5,zh,zk,xam,xah,Int.ofNat_lt,t1,t2,t3,t4,t5,t6,zn,zm,hm,r3,sUF]) |
               (simp only [xay,xaL,xar,xas,xat,xau,xav,xaw,xan,xao,xad,xap,xaq,xae,xab,xac,xaf,xag,xaz,xaA,xaB,xaa,xaC,xaD,xaE,xaF,xaG,xaH,xaI,xaJ,xaK,xai,xaj,J,O,d1,d2,hh,w2,w3,dm,e0,w5,zh,zk,xam,xah,Int.ofNat_lt,t1,t2,t3,t4,t5,t6,zn,zm,hm,sUF]))
         . rcases k3 with k|k
           . exact k.2.2.2
           . rw [k.2];exact Y
theorem xGP {l r:List Grp} (hl:LOk N ok l) (hr:xK0 c 1000 N l=some r):xfD N N (List.map encG l)=some (List.map encG r)/\LOk N ok r:=by
 unfold xK0 at hr;cases h1:Iter (xKO c N) (0,20,l) with
 | none=>rw [h1] at hr;simp at hr
 | some p =>
  obtain ⟨a,l1⟩:=p;rw [h1] at hr;dsimp only at hr;obtain ⟨e1,ha,_,Q⟩:=xAZ (enc:=encG) hN (ok:=ok) 20 (by omega) (p:=xKO c N) (F:=fun a b l=>xKD c a b l) (fun a b l l' h e=>by simp only [xKO,h,if_true,e]) (fun a b l h e=>by simp only [xKO,h,if_true,e]) (fun a b l h=>by simp only [xKO,h,if_false]) (G:=fun a b xs=>xby N a b xs) (fun a b l r V _ hb hl hr=>xHe hN hc a b (by omega) hb hl hr) (g:=xb4 N N 20) (fun a b xs=>rfl) (a:=0) hl h1 (by omega)
  cases h2:xKD c a N l1 with
  | none=>rw [h2] at hr;simp at hr
  | some l2 =>
   rw [h2] at hr;dsimp only at hr;obtain ⟨e2,O⟩:=xHe hN hc a N ha (zd _) Q h2;have e3:Iter (xbc N N) (((20:Nat):Int),List.map encG l2)=some (List.map encG r)/\LOk N ok r:=by
    refine xhz (I:=fun s=>1<=s.1/\LOk N ok s.2) (J:=LOk N ok) (e:=fun (s:Nat×List Grp)=>((s.1:Int),List.map encG s.2)) (f:=List.map encG) ?_ (s:=(20,l2)) ⟨by omega,O⟩ hr
    rintro ⟨bs,l⟩ ⟨hb,hl⟩;dsimp only at hb hl;by_cases h:bs<N
    . have wb:IntKind.i64.wrap (2*(bs:Int))=((2*bs:Nat):Int):=w64 (by omega) (by omega)
      have wb':IntKind.i64.wrap ((bs:Int)*2)=((bs*2:Nat):Int):=w64 (by omega) (by omega)
      cases h3:Iter (xKB c 1000 bs N) (0,2*bs,l) with
      | none=>exact xeZ (by simp [xKL,h,h3])
      | some p =>
       obtain ⟨a,l3⟩:=p;obtain ⟨f1,f2,f3,f4⟩:=xAZ (enc:=encG) hN (ok:=ok) (2*bs) (by omega) (p:=xKB c 1000 bs N) (F:=fun a b l=>symM c 1000 a (a+bs) b l) (fun a b l l' h e=>by simp only [xKB,h,if_true,e]) (fun a b l h e=>by simp only [xKB,h,if_true,e]) (fun a b l h=>by simp only [xKB,h,if_false]) (G:=fun a b xs=>xaR 1000 N a (IntKind.i64.wrap (a+(bs:Int))) b xs) (fun a b l r V Y U hl hr=>by
        have:=xHg hN hc 1000 a (a+bs) b l r (by omega) (by omega) U hl hr
        rw [w64 (x:=(a:Int)+(bs:Int)) (n:=a+bs) (by omega) (by omega)]
        exact this) (g:=xc0 N N bs) (fun a b xs=>by rw [<-wb];rfl) (a:=0) hl (by rw [zH];exact h3) (by omega)
       rw [zH,<-wb] at f1;have f1':Iter (xc0 N N bs) ((0:Int),IntKind.i64.wrap (2*(bs:Int)),List.map encG l)=some ((a:Int),List.map encG l3):=f1;have q:IntKind.i64.wrap ((a:Int)+(bs:Int))=((a+bs:Nat):Int):=w64 (by omega) (by omega)
       by_cases h4:a+bs<N
       . cases h5:symM c 1000 a (a+bs) N l3 with
         | none=>exact xeZ (by simp [xKL,h,h3,h4,h5])
         | some l4 =>
          obtain ⟨f5,f6⟩:=xHg hN hc 1000 a (a+bs) N l3 l4 (by omega) h4 (zd _) f4 h5
          refine xmc (s0:=(bs*2,l4)) (by simp [xKL,h,h3,h4,h5]) ?_ ⟨by dsimp only;omega,f6⟩
          have q1:(bs:Int)<(N:Int):=by omega
          have q2:((a+bs:Nat):Int)<(N:Int):=by omega
          simp only [xbc,xcy,xdM,xdN,xdO,xdP,xdQ,xdR,f1',q1,q2,zn,xam,zk,zh,q,f5,wb',sUF]
       . refine xmc (s0:=(bs*2,l3)) (by simp [xKL,h,h3,h4]) ?_ ⟨by dsimp only;omega,f4⟩
         have q1:(bs:Int)<(N:Int):=by omega
         have q2:¬ ((a+bs:Nat):Int)<(N:Int):=by omega
         simp only [xbc,xcy,xdM,xdN,xdO,xdP,xdQ,xdR,f1',q1,q2,zn,zm,xam,xah,zk,zh,q,wb',sUF]
    . refine xl2 (r0:=l) (by simp [xKL,h]) ?_ hl
      have q1:¬ (bs:Int)<(N:Int):=by omega
      simp only [xbc,xcy,q1,zm,xah,sUF]
   have e1':Iter (xb4 N N 20) ((0:Int),(20:Int),List.map encG l)=some ((a:Int),List.map encG l1):=e1;have e3':Iter (xbc N N) ((20:Int),List.map encG l2)=some (List.map encG r):=e3.1;refine ⟨?_,e3.2⟩;simp only [xfD,xg2,xgD,xgE,xgF,e1',e2,e3',zk,zh,xam,sUF]
end
theorem xJ6 {N:Nat} (hN:N*48<=140737488355328) {ok:Grp->Prop} {c:Grp->Grp->Int} (hc:∀ x y:Grp,ok x->ok y->xKT (encG x) (encG y)=true/\xKU (encG x) (encG y)=c x y) (l r:List Grp) (hl:l.length=N) (ho:∀ x,x∈l->ok x) (hr:xK0 c 1000 N l=some r) :
  xhh N (List.map encG l)=some (List.map encG r):=by
 obtain ⟨e1,e2⟩:=xGP (N:=N) (by omega) (ok:=ok) hc ⟨hl,ho⟩ hr
 simp only [xhh,xgw,e1,zk,zh,xam,sUF]
end Go.Sim.M
end
noncomputable section
set_option maxRecDepth 100000
namespace Go.Sim.M
open Go.RowKit Go.Sim.Srt
def ents:Nat->List Row->List AV
 | _,[]=>[]
 | k,r::R=>.agg [.str (keyOf r),.int .i64 (k:Int)]::ents (k+1) R
theorem xCe:∀ (R:List Row) (k:Nat) (r:Row),mapIx (ents k R) (keyOf r)=R.findIdx? fun x=>decide (x=r)
 | [],_,_=>rfl
 | x::R,k,r=>by
  have hk:isKey (keyOf r) (((AV.agg [.str (keyOf x),.int .i64 (k:Int)]).cells).getD 0 .top)=decide (x=r):=by
   show (keyOf x==keyOf r)=_;by_cases h:x=r
   . subst h;simp
   . have:¬ keyOf x=keyOf r:=fun e=>h (xCj e)
     simp [h,this]
  show (match isKey (keyOf r) (((AV.agg [.str (keyOf x),.int .i64 (k:Int)]).cells).getD 0 .top) with|true=>some 0|false=>(mapIx (ents (k+1) R) (keyOf r)).map (·+1))=_
  rw [hk,List.findIdx?_cons,xCe R (k+1) r];by_cases h:x=r<;>simp [h]
theorem xAb:∀ (R:List Row) (k:Nat),(ents k R).length=R.length
 | [],_=>rfl
 | _::R,k=>by show (ents (k+1) R).length+1=_;rw [xAb R];rfl
theorem xyu:∀ (R:List Row) (k:Nat) (r:Row),ents k (R++[r])=ents k R++[.agg [.str (keyOf r),.int .i64 ((k+R.length:Nat):Int)]]
 | [],_,_=>rfl
 | x::R,k,r=>by
  show _::ents (k+1) (R++[r])=_;rw [xyu R (k+1) r,zF,show k+1+R.length=k+(R.length+1) by omega];rfl
theorem xAa:∀ (R:List Row) (k j:Nat) (h:j<R.length),(ents k R).getD j .top=.agg [.str (keyOf R[j]),.int .i64 ((k+j:Nat):Int)]
 | x::R,k,0,h=>rfl
 | x::R,k,j+1,h=>by
  show (ents (k+1) R).getD j .top=_;rw [xAa R (k+1) j (by simpa using h),show k+1+j=k+(j+1) by omega];rfl
def upd (G:List Grp) (f:Fc):List Grp:=match (G.map (·.1)).findIdx? fun x=>decide (x=f.r) with
 | some j=>G.set j (f.r,(G.getD j ([],[])).2++[f.p])
 | none=>G++[(f.r,[f.p])]
structure GI (l:List Fc) (G:List Grp):Prop where
 nd:(G.map (·.1)).Nodup
 mem:∀ r,r∈G.map (·.1)↔∃ f,f∈l/\f.r=r/\pv f.p=true
 ps:∀ g,g∈G->g.2=psOf l g.1
 len:G.length<=l.length
theorem GI.nil:GI [] []:=⟨List.nodup_nil,fun r=>by simp,fun g hg=>by simp at hg,zd _⟩
theorem xsn (l:List Fc) (f:Fc) (r:Row):psOf (l++[f]) r=psOf l r++(if f.r=r/\pv f.p=true then [f.p] else []):=by
 unfold psOf;rw [List.filter_append,zx];congr 1;by_cases h1:f.r=r<;>by_cases h2:pv f.p=true<;>simp [h1,h2]
theorem GI.skip {l:List Fc} {G:List Grp} (h:GI l G) {f:Fc} (hf:pv f.p=false):GI (l++[f]) G :=
 ⟨h.nd,fun r=>by
  rw [h.mem];refine ⟨fun ⟨g,hg,e⟩=>⟨g,by simp [hg],e⟩,fun ⟨g,hg,e1,e2⟩=>⟨g,?_,e1,e2⟩⟩
  rcases zG.1 hg with hg|hg
  . exact hg
  . rw [zv] at hg;subst hg;rw [hf] at e2;simp at e2,fun g hg=>by rw [xsn,if_neg (by rw [hf];simp),zD];exact h.ps g hg,by rw [z8];have:=h.len;omega⟩
theorem xtN {R:List Row} {r:Row} {j:Nat} (h:R.findIdx? (fun x=>decide (x=r))=some j):∃ hj:j<R.length,R[j]=r:=by
 obtain ⟨hj,h1,_⟩:=List.findIdx?_eq_some_iff_getElem.1 h;exact ⟨hj,by simpa using h1⟩
theorem xAd {R:List Row} {r:Row} (h:R.findIdx? (fun x=>decide (x=r))=none):r∉R:=fun hr=>by
 have:=List.findIdx?_eq_none_iff.1 h r hr;simp at this
theorem xyg {G:List Grp} {j:Nat} (hj:j<G.length) {ps:List Per} {r:Row} (hr:G[j].1=r):(G.set j (r,ps)).map (·.1)=G.map (·.1):=by
 rw [List.map_set];show (G.map (·.1)).set j r=_;rw [<-hr];have:(G.map (·.1))[j]'(by simpa using hj)=G[j].1:=by simp
 rw [<-this];exact List.set_getElem_self _
theorem GI.upd {l:List Fc} {G:List Grp} (h:GI l G) {f:Fc} (hf:pv f.p=true):GI (l++[f]) (M.upd G f):=by
 unfold M.upd;cases hi:(G.map (·.1)).findIdx? fun x=>decide (x=f.r) with
 | some j =>
  obtain ⟨hj,hr⟩:=xtN hi;rw [za] at hj;rw [List.getElem_map] at hr;dsimp only;have gd:G.getD j ([],[])=G[j]:=by rw [z7,ze hj];rfl
  rw [gd];refine ⟨by rw [xyg hj hr];exact h.nd,fun r=>?_,fun g hg=>?_,by rw [y2,z8];have:=h.len;omega⟩
  . rw [xyg hj hr,h.mem];refine ⟨fun ⟨g,hg,e⟩=>⟨g,by simp [hg],e⟩,fun ⟨g,hg,e1,e2⟩=>?_⟩
    rcases zG.1 hg with hg|hg
    . exact ⟨g,hg,e1,e2⟩
    . rw [zv] at hg;subst hg;refine (h.mem r).1 ?_;rw [<-e1,<-hr];exact zK.2 ⟨G[j],zo hj,rfl⟩
  . obtain ⟨i,q,rfl⟩:=zp.1 hg;rw [y2] at q;rw [List.getElem_set];by_cases O:j=i
    . subst O;rw [if_pos rfl,xsn,if_pos ⟨rfl,hf⟩,h.ps _ (zo hj),hr]
    . rw [if_neg O,xsn,if_neg ?_,zD]
      . exact h.ps _ (zo q)
      . rintro ⟨e,_⟩;have hn:=zB.1 h.nd;have ei:(G.map (·.1))[i]'(by simpa using q)=G[i].1:=by simp
        have ej:(G.map (·.1))[j]'(by simpa using hj)=G[j].1:=by simp
        rcases Nat.lt_or_gt_of_ne O with J|J
        . exact hn j i (by simpa using hj) (by simpa using q) J (by rw [ei,ej,hr,e])
        . exact hn i j (by simpa using q) (by simpa using hj) J (by rw [ei,ej,hr,e])
 | none =>
  have hr:=xAd hi;dsimp only;have hz:psOf l f.r=[]:=by
   unfold psOf;rw [List.map_eq_nil_iff,List.filter_eq_nil_iff];intro g hg he;simp only [zf,zl] at he;exact hr ((h.mem _).2 ⟨g,hg,he⟩)
  refine ⟨?_,fun r=>?_,fun g hg=>?_,by rw [z8,z8];have:=h.len;simp;omega⟩
  . rw [zx];refine List.nodup_append.2 ⟨h.nd,by simp,fun a ha b hb e=>?_⟩
    simp at hb;exact hr (by rw [<-hb,<-e];exact ha)
  . rw [zx,zG,h.mem];simp only [zV,zW,zv,zG];constructor
    . rintro (⟨g,hg,e⟩|rfl)
      . exact ⟨g,.inl hg,e⟩
      . exact ⟨f,.inr rfl,rfl,hf⟩
    . rintro ⟨g,hg|rfl,e⟩
      . exact .inl ⟨g,hg,e⟩
      . exact .inr e.1.symm
  . rcases zG.1 hg with hg|hg
    . rw [xsn,if_neg ?_,zD]
      . exact h.ps g hg
      . rintro ⟨e,_⟩;exact hr (by rw [e];exact zK.2 ⟨g,hg,rfl⟩)
    . rw [zv] at hg;subst hg;rw [xsn,if_pos ⟨rfl,hf⟩,hz];rfl
theorem cG0 (g:Grp):((encG g).cells.getD 0 .top).toList=g.1.map encV:=rfl
theorem xEN {α:Type} (l:List α) (x d:α):(l++[x]).getD l.length d=x:=by simp
theorem xGM {α:Type} (l:List α) (x y:α):(l++[x]).set l.length y=l++[y]:=by simp
theorem xLe (xs:List AV):(AV.agg xs).cells=xs:=rfl
theorem tolA (n:Nat) (xs:List AV):(AV.list n xs).toList=xs:=rfl
theorem xLh (k:IntKind) (n:Int):(AV.int k n).toInt=n:=rfl
theorem xLg (xs:List AV):xMd 2 (.list 2 xs)=true:=rfl
theorem xLm (n m:Nat):xMB (.int .i64 (n:Int)) m=decide (n<m):=rfl
theorem xLl:xMB (.int .i64 0) 1=true:=rfl
theorem g2a (a b:AV):[a,b].getD 0 .top=a:=rfl
theorem g2b (a b:AV):[a,b].getD 1 .top=b:=rfl
theorem lt2 (a b:AV):([a,b].length==2)=true:=rfl
theorem tk1 (a b:AV):List.take 1 [a,b]=[a]:=rfl
theorem dp2 (a b:AV):List.drop 2 [a,b]=[]:=rfl
theorem xCc (g:Grp):encG g=.agg [.list 3 (g.1.map encV),.list 2 (g.2.map encP)]:=rfl
theorem xCd (p:Per):encP p=.agg [.int .i64 p.1,.int .i64 p.2]:=rfl
def Keyed (l:List Fc):Prop:=Few l/\∀ f,f∈l->(∀ v,v∈f.r->KOk v)/\(keyOf f.r).length<=17592186044416
theorem Keyed.key {l:List Fc} (h:Keyed l) {f:Fc} (hf:f∈l):xkD (f.r.map encV)=some (keyOf f.r):=xJh f.r (h.1.2 f hf) (h.2 f hf).1 (h.2 f hf).2
theorem xFy (l:List Fc) (h:Keyed l) (k:Nat) (hk:k<l.length) (G:List Grp) (hG:GI (l.take k) G) :
  xbN (l.map encF) ((l.length:Nat):Int) (G.length,(k:Int),ents 0 (G.map (·.1)),G.map encG) =
   some (.inl ((if pv l[k].p=true then upd G l[k] else G).length,((k+1:Nat):Int),ents 0 ((if pv l[k].p=true then upd G l[k] else G).map (·.1)),(if pv l[k].p=true then upd G l[k] else G).map encG)):=by
 have hl:=h.1.1;have i1:(k:Int)<(l.length:Int):=by omega
 have gf:(l.map encF).getD k .top=encF l[k]:=xaM _ _ _ hk;have ek:=h.key (zo hk);have kl:=(h.2 _ (zo hk)).2;have O:=hG.len;rw [zt] at O;cases hv:pv l[k].p with
 | false =>
  simp only [xbN,xev,sBU,i1,hk,gf,cF0,cF1,cF2,sF0,sF1,sF2,lF,sF12,sF02,xe5,hv,xKi (n:=k) (by omega)]
  rfl
 | true =>
  have k1:(keyOf l[k].r).length<=4611686018427387904:=by omega
  have hx:=xCe (G.map (·.1)) 0 l[k].r;have n1:(ents 0 (G.map (·.1))).length<4611686018427387904:=by rw [xAb,za];omega
  have m1:(G.length+1)*48<=140737488355328:=by omega
  have m2:G.length+1<=4611686018427387904:=by omega
  simp only [if_true];cases hi:(G.map (·.1)).findIdx? fun x=>decide (x=l[k].r) with
  | none =>
   rw [hi] at hx;have hu:upd G l[k]=G++[(l[k].r,[l[k].p])]:=by unfold upd;rw [hi]
   have hh:xL2 (ents 0 (G.map (·.1))) (keyOf l[k].r)=false:=by unfold xL2;rw [hx];rfl
   have hg:xLR (AV.int .i64 0) (ents 0 (G.map (·.1))) (keyOf l[k].r)=AV.int .i64 0:=by unfold xLR;rw [hx]
   have hp:xLP (ents 0 (G.map (·.1))) (keyOf l[k].r) (AV.int .i64 (G.length:Int))=ents 0 ((G++[(l[k].r,[l[k].p])]).map (·.1)):=by
    unfold xLP;rw [hx,zx];show _=ents 0 (G.map (·.1)++[l[k].r]);rw [xyu,za,zH]
   have i2:(G.length:Int)<((G.length+1:Nat):Int):=by omega
   have J:xLw (Sh.int .i64) (AV.int .i64 0)=true:=rfl;have gl:∀ x:AV,(G.map encG++[x]).getD G.length .top=x:=fun x=>by have:=xEN (G.map encG) x .top;rwa [za] at this
   have sl:∀ x y:AV,(G.map encG++[x]).set G.length y=G.map encG++[y]:=fun x y=>by have:=xGM (G.map encG) x y;rwa [za] at this
   rw [hu];simp only [xbN,xev,xg4,xg5,xdx,xd0,xfc,xg6,xfd,xa0,xg7,xa1,xbj,xaU,xeO,xgn,xgo,xbX,xgp,xeP,xcA,sBU,i1,hk,gf,cF0,cF1,cF2,sF0,sF1,sF2,lF,sF12,sF02,xe5,hv,xKi (n:=k) (by omega),ek,k1,hh,hg,hp,n1,m1,m2,i2,J,gl,sl,z8,zj,zx,zV,zW,xLe,tolA,xLh,xLg,xLm,g2a,g2b,lt2,tk1,dp2,y2,Nat.lt_succ_self,Bool.and_self,List.length_nil,zH,xCc,xCd,List.singleton_append,zU,zD,Int.natCast_zero]
   try simp [xam,xLl,sUF]
  | some j =>
   obtain ⟨hj,hr⟩:=xtN hi;rw [hi] at hx;have q:j<G.length:=by simpa using hj
   rw [List.getElem_map] at hr;have gd:G.getD j ([],[])=G[j]:=by rw [z7,ze q];rfl
   have hu:upd G l[k]=G.set j (l[k].r,G[j].2++[l[k].p]):=by unfold upd;rw [hi];dsimp only;rw [gd]
   have hh:xL2 (ents 0 (G.map (·.1))) (keyOf l[k].r)=true:=by unfold xL2;rw [hx];rfl
   have hg:xLR (AV.int .i64 0) (ents 0 (G.map (·.1))) (keyOf l[k].r)=AV.int .i64 (j:Int):=by
    unfold xLR;rw [hx];dsimp only;rw [xAa _ _ _ hj,zH];rfl
   have gj:(G.map encG).getD j .top=encG G[j]:=xaM _ _ _ q;have i2:(j:Int)<(G.length:Int):=by omega
   have J:xLw (Sh.int .i64) (AV.int .i64 (j:Int))=true:=rfl;have pl:G[j].2.length<=k:=by
    rw [hG.ps _ (zo q)];have:=xAI (l.take k) G[j].1;rw [zt] at this;omega
   have m3:(G[j].2.length+1)*16<=140737488355328:=by omega
   have m4:G[j].2.length+1<=4611686018427387904:=by omega
   have gs:∀ x:AV,((G.map encG).set j x).getD j .top=x:=fun x=>by
    rw [z7,zL (by simpa using q)];rfl
   have ss:∀ x y:AV,((G.map encG).set j x).set j y=(G.map encG).set j y:=fun x y=>List.set_set ..
   have tj:(AV.int IntKind.i64 (j:Int)).toInt=(j:Int):=rfl;have cj:(encG G[j]).cells=[.list 3 (l[k].r.map encV),.list 2 (G[j].2.map encP)]:=by rw [<-hr];rfl
   rw [hu,xyg q hr,y2,List.map_set];simp only [xbN,xev,xg4,xg5,xdx,xd0,xfc,xg6,xfd,xa0,xg7,xa1,xbj,xaU,xeO,xgn,xgo,xbX,xgp,xeP,xcA,sBU,i1,hk,gf,cF0,cF1,cF2,sF0,sF1,sF2,lF,sF12,sF02,xe5,hv,xKi (n:=k) (by omega),ek,k1,hh,hg,i2,J,tj,gj,cj,q,y2,gs,ss,xLe,tolA,xLh,xLg,xLm,g2a,g2b,lt2,tk1,dp2,m3,m4,Bool.and_self,z8,zj,Nat.lt_succ_self,xCc,xCd,zx,zV,zW,List.singleton_append,zD]
   try simp [xam,xLl,hr,sUF]
def grp (l:List Fc):List Grp:=l.foldl (fun G f=>if pv f.p=true then upd G f else G) []
theorem xAh (l:List Fc) (f:Fc):grp (l++[f])=if pv f.p=true then upd (grp l) f else grp l:=by simp [grp]
theorem xEP:∀ l:List Fc,GI l.reverse (grp l.reverse)
 | []=>GI.nil
 | f::l=>by
  rw [List.reverse_cons,xAh];have ih:=xEP l;cases hv:pv f.p with
  | true=>rw [if_pos rfl];exact ih.upd hv
  | false=>rw [if_neg (by simp)];exact ih.skip hv
theorem xEQ (l:List Fc):GI l (grp l):=by have:=xEP l.reverse;rwa [List.reverse_reverse] at this
theorem xFw (l:List Fc) (h:Keyed l):Iter (xbN (l.map encF) ((l.length:Nat):Int)) ((0:Nat),(0:Int),[],[])=some ((grp l).length,(grp l).map encG):=by
 refine xkO (fun k=>(((grp (l.take k)).length,((k:Nat):Int),ents 0 ((grp (l.take k)).map (·.1)),(grp (l.take k)).map encG):Nat×Int×List AV×List AV)) l.length _ (fun k hk=>?_) ?_ l.length 0 (by omega)
 . rw [xFy l h k hk (grp (l.take k)) (xEQ _)];have tk:l.take (k+1)=l.take k++[l[k]]:=by rw [List.take_add_one,ze hk];rfl
   rw [tk,xAh]
 . simp only [xbN,xev,za,zy,zm,xah,y4,sUF]
theorem xHG (x y:Grp) (hx:x.1.length<=4398046511104):xKT (encG x) (encG y)=true/\xKU (encG x) (encG y)=cmpR x.1 y.1:=by
 have e:xdz (x.1.map encV) (x.2.map encP) (y.1.map encV) (y.2.map encP)=some (cmpR x.1 y.1):=by
  unfold xdz xmy;rw [xy8 x.1 y.1 (by unfold maxLen;omega)];rfl
 have e2:xdz ((encG x).cells.getD 0 .top).toList ((encG x).cells.getD 1 .top).toList ((encG y).cells.getD 0 .top).toList ((encG y).cells.getD 1 .top).toList=some (cmpR x.1 y.1):=e;unfold xKT xKU;rw [e2];exact ⟨rfl,rfl⟩
theorem xH7 (l:List Fc) (h:Keyed l):∃ S:List Grp,xjZ (l.map encF)=some (S.map encG)/\xKG l (S.map (·.1))/\(∀ g,g∈S->g.2=psOf l g.1)/\S.length<=l.length:=by
 have hg:=xEQ l;have O:=h.1.1;have J:=hg.len;have cG:Cm fun x y:Grp=>cmpR x.1 y.1:=xqS.on (e:=fun x:Grp=>x.1)
 obtain ⟨r,e,p,s⟩:=(fun F (hF:20<=F)=>xBL cG.ord F (grp l).length (xCs (Nat.le_trans J O) hF) (grp l) rfl) 1000 (by decide)
 have es:=xJ6 (N:=(grp l).length) (by omega) (ok:=fun g=>g.1.length<=1048576) (c:=fun x y:Grp=>cmpR x.1 y.1) (fun x y hx hy=>xHG x y (by omega)) (grp l) r rfl (fun g q=>by
  obtain ⟨f,hf,e,_⟩:=(hg.mem g.1).1 (zK.2 ⟨g,q,rfl⟩);rw [<-e];exact h.1.2 f hf) e
 have rl:=p.length_eq;refine ⟨r,?_,⟨?_,fun x=>?_⟩,fun g q=>hg.ps g (p.mem_iff.1 q),by rw [rl];exact J⟩
 . have el:=xFw l h;have ra:xL3 2 1 ((grp l).map encG)=true:=by
    unfold xL3;rw [zI];intro x hx;obtain ⟨g,_,rfl⟩:=zK.1 hx;rfl
   have ll:(grp l).length<=r.length:=by omega
   have tt:List.take (grp l).length (r.map encG)=r.map encG:=zi (by rw [za];omega)
   unfold xjZ xnB xmz xmA xjD xmB xmC xmD;simp only [za,el,zk,zh,xam,ra,es,zH,ll,zn,zS,zr,tt,sUF]
 . refine xFJ (fun _ _=>xm8) ?_ ?_
   . exact List.pairwise_map.2 s
   . exact ((p.map (·.1)).nodup_iff).2 hg.nd
 . rw [(p.map (·.1)).mem_iff];exact hg.mem x
end Go.Sim.M
end
noncomputable section
set_option maxRecDepth 100000
namespace Go.Sim.M
open Go.RowKit Go.Sim.Srt Go.Sort
theorem xIk (E:List Per):(E.map encP).all isP=true/\∃ P:List Per,srtP (E.map encP)=P.map encP/\P.Perm E/\Sorted cmpP P:=by
 have e1:(E.map encP).map decP=E:=by
  rw [List.map_map];conv=>rhs;rw [<-List.map_id E]
  rfl
 refine ⟨?_,pdqL cmpP E,?_,(xpI cmpP swoP E).1,(xuR cmpP swoP E).imp fun {x y} h=>?_⟩
 . rw [zI];intro x hx;obtain ⟨e,he,rfl⟩:=zK.1 hx;rfl
 . unfold srtP;rw [e1];rfl
 . have:=xrz x y;omega
theorem xAq (S:List Per) (hS:S.length<=524289) (hN:∀ s,s∈S->0<=s.2/\s.2<=1048576):∀ (d k:Nat) (J ox:List Per),k+d=S.length->StOk J->(xKj J).length<=1048576->ox.length<=k*1048576 ->
  ∃ q Q:List Per,Iter (xdV (S.map encP) ((S.length:Nat):Int)) ((k:Int),ox.length,J.length,((xKj J).length:Int),ox.map encP,J.map encP)=some (Q.length,((xKj q).length:Int),q.length,Q.map encP,q.map encP) /\
   StOk q/\(xKj q,Q)=(S.drop k).foldl (fun x s=>setF x (s.1,s.2.toNat)) (xKj J,ox)/\(xKj q).length<=1048576/\Q.length<=S.length*1048576
 | 0,k,J,ox,h,h1,h2,h3=>by
  obtain rfl:k=S.length:=by omega
  refine ⟨J,ox,xaN ?_,h1,by rw [zq (zd _)];rfl,h2,h3⟩
  simp only [xdV,xiO,zy,zm,xah,sUF]
 | d+1,k,J,ox,h,h1,h2,h3=>by
  have hk:k<S.length:=by omega
  obtain ⟨n1,n2⟩:=hN _ (zo hk);obtain ⟨m,hm⟩:∃ m:Nat,S[k].2=(m:Int):=⟨S[k].2.toNat,by omega⟩
  obtain ⟨O,e,a1,a2⟩:=xCD S[k].1 m (xKj J).length J ox h1 rfl (by omega) h2 (by omega)
  have U:(xKj O).length=m:=by rw [a2,z8,zt,List.length_replicate];omega
  obtain ⟨q,Q,e',b1,b2,b3,b4⟩:=xAq S hS hN d (k+1) O (ox++(((xKj J).drop m).reverse.map fun f=>(f,S[k].1))) (by omega) a1 (by omega) (by
   rw [z8,za,List.length_reverse,y1];omega)
  refine ⟨q,Q,(xaZ ?_).trans e',b1,?_,b3,b4⟩
  . have i1:(k:Int)<(S.length:Int):=by omega
    have gf:(S.map encP).getD k .top=encP S[k]:=xaM _ _ _ hk;have i2:¬ (0:Int)>(m:Int):=by omega
    have i3:¬ (1048576:Int)<(m:Int):=by omega
    have tk:List.take O.length (O.map encP)=O.map encP:=zi (by simp)
    rw [U];simp only [xdV,xiO,xlc,xld,xle,xlf,xlg,xlh,xli,sBU,hk,i1,gf,cP0,cP1,lP,sP,sP0,sP1,hm,i2,i3,if_false,e,tk,xKi (n:=k) (by omega)]
  . rw [b2,xbf hk,List.foldl_cons];congr 1;rw [hm,zN,a2];rfl
theorem xEY {N:Int->Nat} {H:Nat} (hb:H<=1048576) (hH:∀ t,N t<=H) (h0:∀ t,t<0\/1099511627776<=t->N t=0) {S:List Per} (hS:StepI (fun t=>(N t:Int)) 1099511627776 S) (hl:S.length<=524289):∃ P,xos (S.map encP)=some (P.map encP)/\IsLevs N P:=by
 obtain ⟨q,ox,e,a1,a2,a3,a4⟩:=xAq S hl (fun s hs=>by
  obtain ⟨_,_,m3,_⟩:=(hS.mem s).1 hs;have:=hH s.1;omega) S.length 0 [] [] (by omega) (fun s hs=>by simp at hs) (by simp [xKj]) (by simp)
 obtain ⟨J,e2,c1,c2⟩:=xCD 1099511627776 0 (xKj q).length q ox a1 rfl (by omega) a3 (by omega)
 obtain ⟨s1,P,s2,s3,s4⟩:=xIk (ox++(((xKj q).drop 0).reverse.map fun f=>(f,(1099511627776:Int))))
 have m1:(ox++(((xKj q).drop 0).reverse.map fun f=>(f,(1099511627776:Int)))).length<4611686018427387904:=by
  rw [z8,za,List.length_reverse,y1];omega
 refine ⟨P,?_,xGh hH h0 hS ?_ s4⟩
 . have pl:=s3.length_eq;have e:Iter (xdV (S.map encP) ((S.length:Nat):Int)) ((0:Int),(0:Nat),(0:Nat),(0:Int),[],[])=_:=e;have e2:set2 1099511627776 0 ((xKj q).length:Int) q.length ox.length (q.map encP) (ox.map encP)=_:=e2;generalize (ox++(((xKj q).drop 0).reverse.map fun f=>(f,(1099511627776:Int))))=O at s1 s2 e2 pl m1
   have bq:O.length.beq O.length=true:=by simp
   have m2:O.length<=P.length:=by omega
   have tt:List.take O.length (P.map encP)=P.map encP:=zi (by rw [za];omega)
   unfold xos xpm;simp only [xh2,xh3,xot,xou,xov,xow,xoy,xoz,xoA,za,e,zk,zh,xam,e2,bq,m1,s1,s2,zn,zS,zH,m2,zr,tt,sUF]
 . have a2:(xKj q,ox)=S.foldl (fun x s=>setF x (s.1,s.2.toNat)) ([],[]):=a2
   rw [<-a2];exact s3
theorem xz4 (ps:List Per) (t:Int) (ht:t<0\/1099511627776<=t):ps.countP (hasP · t)=0:=by
 rw [List.countP_eq_zero];intro p hp h;obtain ⟨h1,h2,h3⟩:=xgc.1 h;have:=xeA.1 h1;omega
theorem xHy (ps:List Per) (hv:∀ p,p∈ps->pv p=true) (hl:ps.length<=262144):∃ P,xga (ps.map encP)=some (P.map encP)/\IsLevs (fun t=>ps.countP (hasP · t)) P:=by
 unfold xga xnq;by_cases h1:ps.length=1
 . obtain ⟨p,rfl⟩:=List.length_eq_one_iff.1 h1;refine ⟨[p],rfl,List.pairwise_singleton _ _,fun k=>if k=0 then [p] else [],1,fun t=>?_,fun k=>?_,?_⟩
   . have:=List.countP_le_length (p:=(hasP · t)) (l:=[p]);simpa using this
   . by_cases hk:k=0
     . subst hk;refine ⟨⟨fun q hq=>by simp at hq;subst hq;exact hv _ (by simp),List.pairwise_singleton _ _⟩,fun t=>?_⟩
       simp [inL];cases hasP p t<;>simp
     . refine ⟨by simp [hk,xqI],fun t=>?_⟩
       simp only [hk,if_false,xln];have:=List.countP_le_length (p:=(hasP · t)) (l:=[p]);simp at this |-;omega
   . simp
 . obtain ⟨S,e1,e2,e3⟩:=xze ps hl;obtain ⟨P,e4,e5⟩:=xEY (N:=fun t=>ps.countP (hasP · t)) (H:=ps.length) (by omega) (fun t=>List.countP_le_length) (xz4 ps) e2 (by omega)
   refine ⟨P,?_,e5⟩;have i1:((ps.length:Int)==1)=false:=by simp;omega
   simp only [za,i1,xah,e1,e4,zk,zh,xam,sUF]
def mk (r:Row) (P:List Per):List Fc:=P.map fun p=>⟨r,p⟩
theorem xva (L:Row->List Per):∀ S:List Grp,(S.flatMap fun g=>mk g.1 (L g.1))=xKo (S.map (·.1)) L
 | []=>rfl
 | g::S=>by rw [zR,xva L S];rfl
theorem xEo (O:List AV) (J Q:Int) (q:Row) (hr:q.length<=1048576) (g1:List AV) (P:List Per) (D:List Fc) (hb:D.length+P.length<=2199023255552) (hP:P.length<=1099511627776) :
  Iter (xcl O J Q (P.map encP) ((P.length:Nat):Int)) (D.length,(0:Int),D.map encF,q.map encV,g1)=some ((D++mk q P).length,(D++mk q P).map encF):=by
 have key:=xkO (step:=xcl O J Q (P.map encP) ((P.length:Nat):Int)) (fun k=>(((D++mk q (P.take k)).length,((k:Nat):Int),(D++mk q (P.take k)).map encF,q.map encV,g1):Nat×Int×List AV×List AV×List AV)) P.length
  ((D++mk q P).length,(D++mk q P).map encF) (fun k hk=>by
  have i1:(k:Int)<(P.length:Int):=by omega
  have gf:(P.map encP).getD k .top=encP P[k]:=xaM _ _ _ hk;have dl:(D++mk q (P.take k)).length=D.length+k:=by unfold mk;rw [z8,za,zt];omega
  have m1:(D.length+k+1)*40<=140737488355328:=by omega
  have m2:D.length+k+1<=4611686018427387904:=by omega
  have m3:q.length*32<=140737488355328:=by omega
  have m4:q.length<=4611686018427387904:=by omega
  have tk:List.take q.length (q.map encV)=q.map encV:=zi (by simp)
  have U:mk q (P.take (k+1))=mk q (P.take k)++[⟨q,P[k]⟩]:=by unfold mk;rw [List.take_add_one,ze hk,zx];rfl
  rw [U,<-zw];simp only [xcl,xfP,sBU,hk,i1,gf,cP0,cP1,lP,sP,sP0,sP1,dl,m1,m2,m3,m4,zd,tk,zr,xKi (n:=k) (by omega)]
  rw [z8,dl];simp [encF]) (by
  simp only [xcl,xfP,zy,zm,xah,y4,sUF]) P.length 0 (by omega)
 have e0:D++mk q (P.take 0)=D:=by simp [mk]
 rw [e0] at key;exact key
def Bld (l:List Fc):Prop:=Keyed l/\l.length<=1024
theorem cGs (g:Grp):((encG g).cells.getD 1 .top).toList=g.2.map encP:=rfl
theorem lG (g:Grp):((encG g).cells.length==2)=true:=rfl
theorem sG (g:Grp):xLE [Sh.list 3,Sh.list 2] (encG g).cells 0=true:=rfl
theorem xEp (S:List Grp) (hS:S.length<=1024) (hr:∀ g,g∈S->g.1.length<=1048576) (L:Row->List Per) (hL:∀ g,g∈S->xga (g.2.map encP)=some ((L g.1).map encP)/\(L g.1).length<=1048576) :
  Iter (xde (S.map encG) ((S.length:Nat):Int)) ((0:Nat),(0:Int),[])=some ((xKo (S.map (·.1)) L).length,(xKo (S.map (·.1)) L).map encF):=by
 rw [<-xva];refine xgU S (fun g=>mk g.1 (L g.1)) encF 1048576 (fun g hg=>by unfold mk;rw [za];exact (hL g hg).2) (fun n h D hD=>?_) (fun D=>?_)
 . have i1:(n:Int)<(S.length:Int):=by omega
   have gf:(S.map encG).getD n .top=encG S[n]:=xaM _ _ _ h;obtain ⟨e1,e2⟩:=hL _ (zo h);have q:=hr _ (zo h);have el:=xEo (S.map encG) (S.length:Int) (n:Int) S[n].1 q (S[n].2.map encP) (L S[n].1) D (by omega) (by omega)
   simp only [xde,xfO,xh9,xia,sBU,h,i1,gf,cG0,cGs,lG,sG,e1,el,xKi (n:=n) (by omega)]
 . simp only [xde,xfO,zy,zm,xah,sUF]
theorem xyq {R:List Row} {Q:Row->List Per->Prop} (h:∀ r,r∈R->∃ P,Q r P):∃ L:Row->List Per,∀ r,r∈R->Q r (L r):=by
 refine ⟨fun r=>if hr:r∈R then Classical.choose (h r hr) else [],fun r hr=>?_⟩
 show Q r (if hr:r∈R then Classical.choose (h r hr) else [])
 rw [dif_pos hr];exact Classical.choose_spec (h r hr)
theorem xFi (l:List Fc) (r:Row):(fun t=>(psOf l r).countP (hasP · t))=cnt l r:=funext fun t=>xws l r t
theorem xIW (l:List Fc) (h:Bld l):∃ B,xbm (l.map encF)=some (B.map encF)/\xKy l B:=by
 obtain ⟨S,e1,hR,J,O⟩:=xH7 l h.1;have hl:=h.2;obtain ⟨L,hL⟩:=xyq (R:=S.map (·.1)) (Q:=fun r P=>xga ((psOf l r).map encP)=some (P.map encP)/\IsLevs (cnt l r) P/\P.length<=1048576) fun r hr=>by
  have q:=xAI l r;obtain ⟨P,a1,a2⟩:=xHy (psOf l r) xGv (by omega)
  have a3:=a2.len;rw [xFi] at a2;refine ⟨P,a1,a2,Nat.le_trans a3 (Nat.mul_le_mul (Nat.le_trans q hl) (Nat.le_trans q hl))⟩
 have hk:∀ g,g∈S->g.1∈S.map (·.1):=fun g hg=>zK.2 ⟨g,hg,rfl⟩
 have eb:=xEp S (by omega) (fun g hg=>by
  obtain ⟨f,hf,e,_⟩:=(hR.2 g.1).1 (hk g hg);rw [<-e];exact h.1.1.2 f hf) L (fun g hg=>by
  rw [J g hg];exact ⟨(hL _ (hk g hg)).1,(hL _ (hk g hg)).2.2⟩)
 refine ⟨xKo (S.map (·.1)) L,?_,S.map (·.1),L,hR,fun r hr=>(hL r hr).2.1,rfl⟩
 have tt:∀ F:List Fc,List.take F.length (F.map encF)=F.map encF:=fun F=>zi (by simp)
 unfold xbm xoO xmw xkB xj9 xka xkb xkc;simp only [e1,zk,zh,xam,za,eb,zH,zd,zn,zS,zr,tt,sUF]
end Go.Sim.M
end
noncomputable section
set_option maxRecDepth 100000
namespace Go.Sim.M
open Go.RowKit Go.Sim.Srt
def pos (S:List Per) (i:Nat):Int:=match S[i]? with
 | some s=>s.1
 | none=>1099511627776
theorem xsm {S:List Per} {i:Nat} (h:i<S.length):pos S i=S[i].1:=by unfold pos;rw [ze h]
theorem xAG {S:List Per} {i:Nat} (h:S.length<=i):pos S i=1099511627776:=by unfold pos;rw [zz h]
theorem xGr {N:Int->Nat} {S:List Per} (hS:StepI (fun t=>(N t:Int)) 1099511627776 S) {i:Nat} (hi:i<S.length):0<=pos S i/\pos S i<pos S (i+1)/\pos S (i+1)<=1099511627776/\S[i].2=(N S[i].1:Int)/\∀ t,pos S i<=t->t<pos S (i+1)->N t=N S[i].1:=by
 obtain ⟨m1,m2,m3,_⟩:=(hS.mem S[i]).1 (zo hi);rw [xsm hi];have hb:S[i].1<pos S (i+1)/\pos S (i+1)<=1099511627776:=by
  by_cases h:i+1<S.length
  . rw [xsm h];have:=zB.1 hS.asc i (i+1) hi h (by omega)
    have:=((hS.mem S[i+1]).1 (zo h)).2.1;omega
  . rw [xAG (by omega)];omega
 refine ⟨m1,hb.1,hb.2,m3,fun t h1 h2=>xrB (a:=S[i].1) (b:=pos S (i+1)) (fun u u1 u2=>?_) (t - S[i].1).toNat t (by omega) h2⟩
 by_cases e:N (u - 1)=N u
 . exact e
 . have hu:(u,(N u:Int))∈S:=(hS.mem _).2 ⟨by dsimp only;omega,by dsimp only;omega,rfl,.inr (by dsimp only;omega)⟩
   obtain ⟨k,hk,q⟩:=zp.1 hu;have O:S[k].1=u:=by rw [q]
   rcases zJ i k with J|J
   . have:i+1<S.length:=by omega
     rw [xsm this] at u2;rcases zJ (i+1) k with h3|h3
     . have:=zB.1 hS.asc (i+1) k this hk h3;omega
     . obtain rfl:k=i+1:=by omega
       omega
   . rcases zJ k i with h3|h3
     . have:=zB.1 hS.asc k i hk hi h3;omega
     . obtain rfl:k=i:=by omega
       omega
theorem xGs {N:Int->Nat} {S:List Per} (hS:StepI (fun t=>(N t:Int)) 1099511627776 S):pos S 0=0:=by
 have h0:((0:Int),(N 0:Int))∈S:=(hS.mem _).2 ⟨by simp,by simp,rfl,.inl rfl⟩
 obtain ⟨k,hk,q⟩:=zp.1 h0;have h:0<S.length:=by omega
 have p0:=((hS.mem S[0]).1 (zo h)).1;rw [xsm h];have J:S[k].1=0:=by rw [q]
 rcases zJ 0 k with h3|h3
 . have:=zB.1 hS.asc 0 k h hk h3;omega
 . obtain rfl:k=0:=by omega
   exact J
def xKA (out:List Per) (f t:Int):List Per:=match out.getLast? with
 | some p=>if p.2=f then out.dropLast++[(p.1,t)] else out++[(f,t)]
 | none=>out++[(f,t)]
theorem xK5 {n:Nat} (h:n<=1099511627776):(n+1)*16<=140737488355328/\n+1<=4611686018427387904/\n*16<=140737488355328/\n<=4611686018427387904:=by omega
theorem xHR (out:List Per) (f t:Int) (O:f<t) (J:∀ p,p∈out->p.2<=f) (hl:out.length<=1048576):∃ q,xcj out.length f t (out.map encP)=some q/\br q.1 q.2.1.1 q.2.2.1=(xKA out f t).length/\br q.1 q.2.1.2.2 q.2.2.2=(xKA out f t).map encP:=by
 rcases xqM out with rfl|⟨o,p,rfl⟩
 . refine ⟨_,rfl,rfl,rfl⟩
 . have hp:=J p (by simp)
   have L:(o++[p]).length=o.length+1:=by simp
   rw [L] at hl;have w1:IntKind.i64.wrap (((o.length+1:Nat):Int) - 1)=(o.length:Int):=xLn (by omega)
   have i1:((o.length+1:Nat):Int)>0:=by omega
   have i2:(o.length:Int)<((o.length+1:Nat):Int):=by omega
   have i3:(o.length:Int)<=((o.length+1:Nat):Int):=by omega
   have i4:o.length<o.length+1:=by omega
   have i5:o.length<=o.length+1:=by omega
   have gl:((o++[p]).map encP).getD o.length .top=encP p:=by
    rw [zx];have:=xAg (o.map encP) (encP p) .top;rwa [za] at this
   have tl:List.take o.length ((o++[p]).map encP)=o.map encP:=by
    rw [zx];exact List.take_left' (by simp)
   obtain ⟨m1,m2,m3,m4⟩:=xK5 (n:=o.length) (by omega)
   obtain ⟨m5,m6,_,_⟩:=xK5 (n:=o.length+1) (by omega)
   have jn:xKA (o++[p]) f t=if p.2=f then o++[(p.1,t)] else o++[p]++[(f,t)]:=by
    unfold xKA;simp
   by_cases he:p.2=f
   . have c1:p.2>=f:=by omega
     have c2:t>p.2:=by omega
     rw [jn,if_pos he,L];refine ⟨(true,(o.length+1,(o++[p]).map encP,o.map encP++[encP (p.1,t)]),(0,[])),?_,by simp [xam,sUF],by simp [xam,sUF]⟩
     unfold xcj xkY xiT xj1 xej xmo xmp xj2 xmq;simp only [sBU,L,w1,i1,i2,i3,i4,i5,gl,cP0,cP1,lP,sP,sP0,sP1,c1,c2,tl,zr,m1,m2,m3,m4,if_true,aggP]
   . have c1:¬ p.2>=f:=by omega
     rw [jn,if_neg he,L];refine ⟨(false,(0,[],[]),(o.length+1+1,(o++[p]).map encP++[encP (f,t)])),?_,by simp [xah,sUF],by simp [xah,sUF]⟩
     unfold xcj xkY xiT xj1 xej xmo xmp xj2 xmq;simp only [sBU,L,w1,i1,i2,i3,i4,gl,cP0,cP1,lP,sP,sP0,sP1,c1,m5,m6,aggP]
theorem xEU {out:List Per} {f t:Int} {K:Int->Bool} (h:OutOk out f K) (h0:0<=f) (J:f<t) (hF:t<=1099511627776) (hK:∀ u,f<=u->u<t->K u=true):OutOk (xKA out f t) t K/\(xKA out f t).length<=out.length+1:=by
 rcases xqM out with rfl|⟨o,p,rfl⟩
 . exact ⟨h.add h0 J hF hK (fun p hp=>by simp at hp),by simp [xKA]⟩
 . have jn:xKA (o++[p]) f t=if p.2=f then o++[(p.1,t)] else o++[p]++[(f,t)]:=by unfold xKA;simp
   rw [jn];by_cases he:p.2=f
   . rw [if_pos he];exact ⟨h.ext he J hF hK,by simp⟩
   . rw [if_neg he];refine ⟨h.add h0 J hF hK (fun q hq e=>?_),by simp⟩
     rcases zG.1 hq with hq|hq
     . have:=(List.pairwise_append.1 h.span.2).2.2 q hq p (by simp)
       have hv:=xeA.1 (h.span.1 p (by simp))
       have:=h.low p (by simp)
       omega
     . rw [zv] at hq;subst hq;exact he e
theorem xzU {N:Int->Nat} {S:List Per} (hS:StepI (fun t=>(N t:Int)) 1099511627776 S) (hl:S.length<=524289) (n:Int):∀ (d i:Nat) (out:List Per),i+d=S.length->OutOk out (pos S i) (fun t=>decide (n<=(N t:Int)))->out.length<=i ->
  ∃ J:List Per,Iter (xbh (S.map encP) n) (out.length,(i:Int),out.map encP)=some (J.length,J.map encP)/\OutOk J 1099511627776 (fun t=>decide (n<=(N t:Int)))/\J.length<=S.length
 | 0,i,out,h,ho,hn=>by
  obtain rfl:i=S.length:=by omega
  rw [xAG (zd _)] at ho;refine ⟨out,xaN ?_,ho,hn⟩;simp only [xbh,xdm,za,zy,zm,xah,sUF]
 | d+1,i,out,h,ho,hn=>by
  have hi:i<S.length:=by omega
  obtain ⟨p1,p2,p3,p4,p5⟩:=xGr hS hi;have i1:(i:Int)<(S.length:Int):=by omega
  have gf:(S.map encP).getD i .top=encP S[i]:=xaM _ _ _ hi;have wi:=xKi (n:=i) (by omega)
  have pe:=xsm hi;by_cases Q:S[i].2>=n
  . have hK:∀ t,pos S i<=t->t<pos S (i+1)->(fun t=>decide (n<=(N t:Int))) t=true:=fun t t1 t2=>by
     dsimp only;rw [p5 t t1 t2,<-p4];exact decide_eq_true Q
    obtain ⟨j1,j2⟩:=xEU ho p1 p2 p3 hK;obtain ⟨q,q1,q2,q3⟩:=xHR out (pos S i) (pos S (i+1)) p2 ho.low (by omega)
    obtain ⟨J,e',x1,x2⟩:=xzU hS hl n d (i+1) (xKA out (pos S i) (pos S (i+1))) (by omega) j1 (by omega)
    refine ⟨J,(xaZ (s':=((xKA out (pos S i) (pos S (i+1))).length,((i+1:Nat):Int),(xKA out (pos S i) (pos S (i+1))).map encP)) ?_).trans e',x1,x2⟩;rw [<-q2,<-q3];by_cases O:i+1<S.length
    . have i2:((i+1:Nat):Int)<(S.length:Int):=by omega
      have gn:(S.map encP).getD (i+1) .top=encP S[i+1]:=xaM _ _ _ O;rw [xsm O,pe] at q1;simp only [xbh,xdm,xd4,xd5,xd6,xd7,xd8,xd9,xea,xeb,xec,xed,xb0,xdA,xdB,xdC,sBU,i1,i2,hi,O,gf,gn,cP0,cP1,lP,sP,sP0,sP1,Q,wi,q1]
    . have i2:¬ ((i+1:Nat):Int)<(S.length:Int):=by omega
      rw [xAG (S:=S) (i:=i+1) (by omega),pe] at q1
      simp only [xbh,xdm,xd4,xd5,xd6,xd7,xd8,xd9,xea,xeb,xec,xed,xb0,xdA,xdB,xdC,sBU,i1,i2,hi,gf,cP0,cP1,lP,sP,sP0,sP1,Q,wi,q1]
  . have hK:∀ t,pos S i<=t->t<pos S (i+1)->(fun t=>decide (n<=(N t:Int))) t=false:=fun t t1 t2=>by
     dsimp only;rw [p5 t t1 t2,<-p4];exact decide_eq_false (by omega)
    obtain ⟨J,e',x1,x2⟩:=xzU hS hl n d (i+1) out (by omega) (ho.skip (by omega) hK) (by omega)
    refine ⟨J,(xaZ (s':=(out.length,((i+1:Nat):Int),out.map encP)) ?_).trans e',x1,x2⟩;by_cases O:i+1<S.length
    . have i2:((i+1:Nat):Int)<(S.length:Int):=by omega
      have gn:(S.map encP).getD (i+1) .top=encP S[i+1]:=xaM _ _ _ O;simp only [xbh,xdm,xd4,xd5,xd6,xd7,xd8,xd9,xea,xeb,xec,xed,xb0,xdA,xdB,xdC,sBU,i1,i2,hi,O,gf,gn,cP0,cP1,lP,sP,sP0,sP1,Q,wi]
    . have i2:¬ ((i+1:Nat):Int)<(S.length:Int):=by omega
      simp only [xbh,xdm,xd4,xd5,xd6,xd7,xd8,xd9,xea,xeb,xec,xed,xb0,xdA,xdB,xdC,sBU,i1,i2,hi,gf,cP0,cP1,lP,sP,sP0,sP1,Q,wi]
theorem xIV {N:Int->Nat} (h0:∀ t,t<0\/1099511627776<=t->N t=0) {S:List Per} (hS:StepI (fun t=>(N t:Int)) 1099511627776 S) (hl:S.length<=524289) (k:Nat):∃ A:List Per,xe6 (S.map encP) ((k+1:Nat):Int)=some (A.map encP)/\(IsSpan A/\∀ t,inL A t=decide (k<N t))/\A.length<=S.length:=by
 obtain ⟨A,e,a1,a2⟩:=xzU hS hl ((k+1:Nat):Int) S.length 0 [] (by omega) (by rw [xGs hS];exact xFc _) (zd _)
 refine ⟨A,?_,⟨a1.span,fun t=>?_⟩,a2⟩
 . have e:Iter (xbh (S.map encP) ((k+1:Nat):Int)) ((0:Nat),(0:Int),[])=_:=e;have tt:List.take A.length (A.map encP)=A.map encP:=zi (by simp)
   unfold xe6 xnT;simp only [xmZ,xmx,xm0,e,zk,zh,xam,zH,za,zd,zn,zS,zr,tt,sUF]
 . rw [a1.done];by_cases h1:0<=t
   . by_cases h2:t<1099511627776
     . simp only [h1,h2,zn,Bool.true_and];rw [Bool.eq_iff_iff,zl,zl];omega
     . have:=h0 t (.inr (by omega));simp [h2,this]
   . have:=h0 t (.inl (by omega));simp [h1,this]
theorem xFm (p q:Per):decide (xmn p.1 p.2 q.1 q.2<=0)=decide (cmpP p q<=0):=by
 rw [Bool.eq_iff_iff,zl,zl,xsh];unfold xmn;simp only [xbo,zS,sUF];by_cases h1:p.1=q.1
 . by_cases h2:p.2=q.2
   . simp [h1,h2]
   . by_cases h3:p.2<q.2
     . simp [h1,h2,h3];omega
     . simp [h1,h2,h3];omega
 . by_cases h3:p.1<q.1
   . simp [h1,h3]
   . simp [h1,h3]
theorem xAE (P:List Per) (hP:P.length<=1099511627775) (p:Per):∀ (d i:Nat),i+d=P.length->(∀ k (h:k<P.length),k<i->cmpP P[k] p<=0)->∃ m:Nat,m<=P.length/\(∀ k (h:k<P.length),k<m->cmpP P[k] p<=0)/\(∀ h:m<P.length,¬ cmpP P[m] p<=0) /\
  Iter (xcS (P.map encP)) (i,(i:Int),p.1,p.2,(P.take i).map encP)=some (m,(m:Int),p.1,p.2,(P.take m).map encP)
 | 0,i,h,hk=>by
  obtain rfl:i=P.length:=by omega
  refine ⟨P.length,zd _,hk,fun h=>by omega,xaN ?_⟩
  simp only [xcS,xgx,za,zy,zm,xah,sUF]
 | d+1,i,h,hk=>by
  have hi:i<P.length:=by omega
  have i1:(i:Int)<(P.length:Int):=by omega
  have gf:(P.map encP).getD i .top=encP P[i]:=xaM _ _ _ hi;have tl:(P.take i).length=i:=by rw [zt];omega
  obtain ⟨m1,m2,_,_⟩:=xK5 (n:=i) (by omega)
  have rc:=xFm P[i] p;by_cases hc:cmpP P[i] p<=0
  . rw [decide_eq_true hc] at rc;obtain ⟨m,a1,a2,a3,a4⟩:=xAE P hP p d (i+1) (by omega) (fun k h h1=>by
     by_cases e:k=i
     . subst e;exact hc
     . exact hk k h (by omega))
    refine ⟨m,a1,a2,a3,(xaZ ?_).trans a4⟩;simp only [xcS,xgx,xiC,sBU,i1,hi,gf,cP0,cP1,lP,sP,sP0,sP1,rc,tl,m1,m2,xKi (n:=i) (by omega),aggP]
    rw [List.take_add_one,ze hi,zx];rfl
  . rw [decide_eq_false hc] at rc;refine ⟨i,by omega,hk,fun _=>hc,xaN ?_⟩
    simp only [xcS,xgx,xiC,sBU,i1,hi,gf,cP0,cP1,lP,sP,sP0,sP1,rc]
theorem xGo (P:List Per) (hP:P.length<=1099511627775) (p:Per) (hs:Sorted cmpP P):∃ P':List Per,xpw (P.map encP) p.1 p.2=some (P'.map encP)/\P'.Perm (p::P)/\Sorted cmpP P':=by
 obtain ⟨m,a1,a2,a3,a4⟩:=xAE P hP p P.length 0 (by omega) (fun k h h1=>by omega)
 refine ⟨P.take m++p::P.drop m,?_,?_,?_⟩
 . have a4:Iter (xcS (P.map encP)) ((0:Nat),(0:Int),p.1,p.2,[])=_:=a4;have tl:(P.take m).length=m:=by rw [zt];omega
   obtain ⟨m1,m2,_,_⟩:=xK5 (n:=m) (by omega)
   have i1:(m:Int)<=(P.length:Int):=by omega
   have t1:List.take (P.length - m) (List.drop m (P.map encP))=(P.drop m).map encP:=by rw [zi (by simp),List.map_drop]
   have dl:(P.drop m).length=P.length - m:=y1;have m3:(m+1+(P.length - m))*16<=140737488355328:=by omega
   have m4:m+1+(P.length - m)<=4611686018427387904:=by omega
   have J:(P.take m).map encP++[encP p]++(P.drop m).map encP=(P.take m++p::P.drop m).map encP:=by simp
   have fl:((P.take m++p::P.drop m).map encP).length=m+1+(P.length - m):=by simp;omega
   have tt:List.take (m+1+(P.length - m)) ((P.take m++p::P.drop m).map encP)=(P.take m++p::P.drop m).map encP:=zi (by rw [fl];exact zd _)
   have ag:AV.agg [.int .i64 p.1,.int .i64 p.2]=encP p:=rfl;unfold xpw xqi;simp only [xi1,xo3,xo4,xi2,xo5,xi3,xo6,xo7,xo8,xo9,xnW,xnX,xnY,a4,sBU,ag,tl,t1,dl,m1,m2,m3,m4,i1,z8,zj,J,zd,zr];have l9:m+(p::P.drop m).length=m+1+(P.length - m):=by rw [zF,dl];omega
   simp only [za,l9,zd,zn,xam,tt,sUF]
 . exact List.perm_middle.trans (by rw [List.take_append_drop])
 . refine List.pairwise_append.2 ⟨hs.sublist (List.take_sublist _ _),zM.2 ⟨fun q hq=>?_,hs.sublist (List.drop_sublist _ _)⟩,fun x hx y hy=>?_⟩
   . obtain ⟨j,hj,rfl⟩:=zp.1 hq;rw [y1] at hj;rw [List.getElem_drop];have h1:=a3 (by omega)
     have h2:cmpP p P[m]<=0:=by rw [xrz P[m] p];omega
     rcases Nat.eq_zero_or_pos j with rfl|O
     . exact h2
     . exact xFx.trans _ _ _ h2 (zB.1 hs m (m+j) (by omega) (by omega) (by omega))
   . obtain ⟨i,hi,rfl⟩:=List.mem_take_iff_getElem.1 hx;rcases zC.1 hy with rfl|hy
     . exact a2 i (by omega) (by omega)
     . obtain ⟨j,hj,rfl⟩:=zp.1 hy;rw [y1] at hj;rw [List.getElem_drop];exact zB.1 hs i (m+j) (by omega) (by omega) (by omega)
theorem xCz (l:List AV) (n:Int) (s:List Per) (hs:s.length<=1048576):∀ (d i:Nat) (out:List Per),i+d=s.length->Sorted cmpP out->out.length+d<=1099511627775->∃ q:List Per,Iter (xcF l n (s.map encP)) (out.map encP,(i:Int))=some (q.map encP)/\q.Perm (out++s.drop i)/\Sorted cmpP q
 | 0,i,out,h,ho,hl=>by
  obtain rfl:i=s.length:=by omega
  refine ⟨out,xaN ?_,by rw [zq (zd _),zD],ho⟩
  simp only [xcF,xiB,za,zy,zm,xah,sUF]
 | d+1,i,out,h,ho,hl=>by
  have hi:i<s.length:=by omega
  have i1:(i:Int)<(s.length:Int):=by omega
  have gf:(s.map encP).getD i .top=encP s[i]:=xaM _ _ _ hi;obtain ⟨P',e1,p1,s1⟩:=xGo out (by omega) s[i] ho
  have pl:=p1.length_eq;rw [zF] at pl;obtain ⟨q,e2,p2,s2⟩:=xCz l n s hs d (i+1) P' (by omega) s1 (by omega)
  refine ⟨q,(xaZ (s':=(P'.map encP,((i+1:Nat):Int))) ?_).trans e2,?_,s2⟩
  . simp only [xcF,xiB,sBU,i1,hi,gf,cP0,cP1,lP,sP,sP0,sP1,e1,xKi (n:=i) (by omega)]
  . refine p2.trans ((p1.append_right _).trans ?_);rw [xbf hi];exact List.perm_middle.symm
theorem xCy {S:List Per} (A:Nat->List Per) (C:Nat) (hC:C<=524289) (hA:∀ k,xe6 (S.map encP) ((k+1:Nat):Int)=some ((A k).map encP)/\(A k).length<=C) (H:Nat) (hH:H<=1048575) (hE:A H=[]):∀ (d k:Nat) (out:List Per),k+d=H->Sorted cmpP out->out.Perm ((List.range k).flatMap A) ->
  ∃ (K:Nat) (q:List Per),Iter (xcE (S.map encP)) (out.map encP,((k+1:Nat):Int))=some (true,(q.map encP,q.map encP),[])/\A K=[]/\K<=H/\q.Perm ((List.range K).flatMap A)/\Sorted cmpP q
 | d,k,out,h,ho,hp=>by
  obtain ⟨e1,l1⟩:=hA k;have n1:((k+1:Nat):Int)<=1048576:=by omega
  by_cases hk:A k=[]
  . refine ⟨k,out,xaN ?_,hk,by omega,hp,ho⟩
    rw [hk] at e1;simp only [xcE,xiA,n1,e1,zn,xam,zk,zh,zW,sUF];rfl
  . match d,h with
    | 0,h =>
     obtain rfl:k=H:=by omega
     exact absurd hE hk
    | d+1,h =>
     have ol:out.length<=C*k:=by
      rw [hp.length_eq];have:=xkM (g:=A) (List.range k) fun j _=>(hA j).2
      rwa [List.length_range] at this
     have J:C*k<=524289*1048575:=Nat.mul_le_mul hC (by omega)
     obtain ⟨q,e2,p2,s2⟩:=xCz (S.map encP) ((k+1:Nat):Int) (A k) (by omega) (A k).length 0 out (by omega) ho (by omega)
     obtain ⟨K,o2,e3,k1,k2,p3,s3⟩:=xCy A C hC hA H hH hE d (k+1) q (by omega) s2 (by
      rw [List.range_succ,List.flatMap_append];rw [zr] at p2;refine p2.trans ((hp.append_right _).trans ?_);simp)
     refine ⟨K,o2,(xaZ ?_).trans e3,k1,k2,p3,s3⟩;have ne:(((A k).length:Int)==0)=false:=by
      have:(A k).length≠0:=fun e=>hk (List.length_eq_zero_iff.1 e)
      simp;exact hk
     have e2:Iter (xcF (S.map encP) ((k+1:Nat):Int) ((A k).map encP)) (out.map encP,(0:Int))=_:=e2;simp only [xcE,xiA,n1,e1,zn,xam,xah,zk,zh,za,ne,e2,xKi (n:=k+1) (by omega),sUF]
theorem xDH {N:Int->Nat} {H:Nat} (hH:H<=1048575) (hN:∀ t,N t<=H) (h0:∀ t,t<0\/1099511627776<=t->N t=0) {S:List Per} (hS:StepI (fun t=>(N t:Int)) 1099511627776 S) (hl:S.length<=524289):∃ P,xeS (S.map encP)=some (P.map encP)/\IsLevs N P:=by
 have ha:=xIV h0 hS hl;have hA:=fun k=>Classical.choose_spec (ha k)
 obtain ⟨A,q⟩:∃ A:Nat->List Per,A=fun k=>Classical.choose (ha k):=⟨_,rfl⟩
 have hA:∀ k,xe6 (S.map encP) ((k+1:Nat):Int)=some ((A k).map encP)/\(IsSpan (A k)/\∀ t,inL (A k) t=decide (k<N t))/\(A k).length<=S.length:=fun k=>by rw [q];exact hA k
 have hE:A H=[]:=xsZ (hA H).2.1.1 fun t=>by rw [(hA H).2.1.2];have:=hN t;simp;omega
 obtain ⟨K,P,e,k1,k2,p1,s1⟩:=xCy A S.length hl (fun k=>⟨(hA k).1,(hA k).2.2⟩) H hH hE H 0 [] (by omega) List.Pairwise.nil (by simp)
 refine ⟨P,?_,s1,A,K,fun t=>?_,fun k=>(hA k).2.1,p1⟩
 . have e:Iter (xcE (S.map encP)) ([],(1:Int))=_:=e;unfold xeS xo2;simp only [xnU,xnV,e,zk,zh,xam,sUF]
 . have:=(hA K).2.1.2 t;rw [k1,xln] at this;have:=of_decide_eq_false this.symm;omega
def Tx (l:List Fc):Prop:=∀ f,f∈l->∀ v,v∈f.r->v.wf/\v.t.length<=1073741824
theorem xEV {r:Row} (h:∀ v,v∈r->v.wf/\v.t.length<=1073741824) (hl:r.length<=60):(keyOf r).length<=17592186044416:=by
 have:=xkM (g:=keyV) (c:=1073741890) r fun v hv=>by
  obtain ⟨h1,h2⟩:=h v hv;have:=xAn h1 (by omega);omega
 unfold keyOf;have h2:1073741890*r.length<=1073741890*60:=Nat.mul_le_mul_left _ hl;omega
theorem xA5 {l:List Fc} (hl:l.length<=1024) (hr:∀ f,f∈l->f.r.length<=60) (ht:Tx l):Bld l :=
 ⟨⟨⟨by omega,fun f hf=>by have:=hr f hf;omega⟩,fun f hf=>⟨fun v hv=>⟨(ht f hf v hv).1,by have:=(ht f hf v hv).2;omega⟩,xEV (ht f hf) (hr f hf)⟩⟩,hl⟩
theorem xKy.all {l B:List Fc} (h:xKy l B) {Q:Row->Prop} (hq:∀ f,f∈l->Q f.r):∀ f,f∈B->Q f.r:=fun f hf=>by
 obtain ⟨_,g,hg,e⟩:=h.valid hf;rw [<-e];exact hq g hg
theorem xKX.all {l B:List Fc} (h:xKX l B) {Q:Row->Prop} (hq:∀ f,f∈l->Q f.r):∀ f,f∈B->Q f.r:=fun f hf=>by
 obtain ⟨R,L,h1,h2,rfl⟩:=h;obtain ⟨a,b⟩:=xyw hf;obtain ⟨g,g1,g2,_⟩:=(h1.2 _).1 a;rw [<-g2];exact hq g g1
theorem xKX.len {l B:List Fc} (h:xKX l B):B.length<=l.length*l.length:=by
 obtain ⟨R,L,h1,h2,rfl⟩:=h;refine xtT (h1.1.nodup xqS) fun r hr=>?_
 obtain ⟨a,b⟩:=h2 r hr;have:=xCm (ps:=psOf l r) (k:=0) a fun t=>by rw [b,xws]
 exact Nat.le_trans this (Nat.le_mul_self _)
def dk (S:List Row):Nat->List Row
 | 0=>[]
 | k+1=>dk S k++(if k=0\/S[k - 1]?≠S[k]? then S[k]?.toList else [])
theorem xz8 (S:List Row):∀ k,(dk S k).length<=k
 | 0=>zd _
 | k+1=>by
  have:=xz8 S k;unfold dk;rw [z8];have:(if k=0\/S[k - 1]?≠S[k]? then S[k]?.toList else []).length<=1:=by
   split
   . cases S[k]?<;>simp
   . simp
  omega
theorem xHd (S:List Row) (hs:Sorted cmpR S):∀ k,k<=S.length->Strict cmpR (dk S k)/\∀ x,x∈dk S k↔x∈S.take k
 | 0,_=>⟨List.Pairwise.nil,fun x=>by simp [dk]⟩
 | k+1,hk=>by
  obtain ⟨h1,h2⟩:=xHd S hs k (by omega)
  have J:k<S.length:=by omega
  have tk:S.take (k+1)=S.take k++[S[k]]:=by rw [List.take_add_one,ze J];rfl
  unfold dk;rw [ze J,tk];by_cases hc:k=0\/S[k - 1]?≠some S[k]
  . rw [if_pos hc];refine ⟨List.pairwise_append.2 ⟨h1,List.pairwise_singleton _ _,fun x hx y hy=>?_⟩,fun x=>by rw [zG,zG,h2];rfl⟩
    simp at hy;subst hy;obtain ⟨i,hi,rfl⟩:=List.mem_take_iff_getElem.1 ((h2 x).1 hx);have O:k≠0:=by omega
    have q:k - 1<S.length:=by omega
    have hne:S[k - 1]≠S[k]:=fun e=>by
     rcases hc with hc|hc
     . exact O hc
     . exact hc (by rw [ze q,e])
    have c1:cmpR S[k - 1] S[k]<=0:=zB.1 hs _ _ q J (by omega)
    have c2:cmpR S[k - 1] S[k]<0:=by
     rcases Int.lt_or_eq_of_le c1 with c|c
     . exact c
     . exact absurd (xm8 c) hne
    rcases zJ i (k - 1) with Q|Q
    . have c3:cmpR S[i] S[k - 1]<=0:=zB.1 hs _ _ (by omega) q Q
      exact xqS.lt2 c3 c2
    . have:i=k - 1:=by omega
      subst this;exact c2
  . rw [if_neg hc,zD];refine ⟨h1,fun x=>?_⟩
    rw [h2,zG,zv];refine ⟨Or.inl,fun hh=>hh.elim id fun hx=>?_⟩
    have O:k≠0:=fun e=>hc (.inl e)
    have he:S[k - 1]?=some S[k]:=by
     by_cases e:S[k - 1]?=some S[k]
     . exact e
     . exact absurd (.inr e) hc
    have q:k - 1<S.length:=by omega
    rw [ze q,z6] at he;rw [hx,<-he];exact List.mem_take_iff_getElem.2 ⟨k - 1,by omega,rfl⟩
theorem xLs {n:Nat} (h:n<=1048576):(n+1)*24<=140737488355328/\n+1<=4611686018427387904:=by omega
theorem xBo (S:List Row) (hS:S.length<=1048576) (hr:∀ x,x∈S->x.length<=maxLen):Iter (xb9 (S.map encR)) ((0:Nat),(0:Int),[])=some ((dk S S.length).length,(dk S S.length).map encR):=by
 refine xkO (fun k=>(((dk S k).length,((k:Nat):Int),(dk S k).map encR):Nat×Int×List AV)) S.length _ (fun k hk=>?_) ?_ S.length 0 (by omega)
 . have i1:(k:Int)<(S.length:Int):=by omega
   have gf:(S.map encR).getD k .top=encR S[k]:=xaM _ _ _ hk;have dl:=xz8 S k;obtain ⟨m1,m2⟩:=xLs (n:=(dk S k).length) (by omega)
   cases k with
   | zero =>
    have:dk S (0+1)=[S[0]]:=by simp [dk,ze hk]
    rw [this];have i0:(((0:Nat):Int)==0)=true:=rfl;simp only [xb9,xfh,xeC,xgs,xgt,xgu,sBU,hk,i0,i1,gf,cR0,sR0,m1,m2,xKi (n:=0) (by omega)]
    rfl
   | succ j =>
    have hj:j<S.length:=by omega
    have i0:(((j+1:Nat):Int)==0)=false:=by simp;omega
    have i2:(j:Int)<(S.length:Int):=by omega
    have gj:(S.map encR).getD j .top=encR S[j]:=xaM _ _ _ hj;have ee:=xJo S[j] S[j+1] (hr _ (zo hj));have wj:IntKind.i64.wrap (((j+1:Nat):Int) - 1)=(j:Int):=by rw [xbE (by omega) (by omega)];omega
    have sd:dk S (j+1+1)=dk S (j+1)++(if S[j]=S[j+1] then [] else [S[j+1]]):=by
     show dk S (j+1)++_=_;congr 1;rw [show j+1 - 1=j by omega,ze hj,ze hk]
     by_cases e:S[j]=S[j+1]
     . simp [e]
     . simp [e]
    rw [sd];simp only [xb9,xfh,xeC,xgs,xgt,xgu,sBU,hk,hj,i0,i1,i2,gf,gj,cR0,sR0,ee,wj,cmp0,m1,m2,xKi (n:=j+1) (by omega)]
    by_cases e:S[j]=S[j+1]
    . simp [e,xah,sUF]
    . simp [e,xam,encR,sUF]
 . simp only [xb9,xfh,xeC,za,zy,zm,xah,sUF]
theorem xBp (l:List Row) (h:xKN l):∃ D,xpa (l.map encR)=some (D.map encR)/\Strict cmpR D/\(∀ x,x∈D↔x∈l)/\D.length<=l.length:=by
 obtain ⟨S,e1,p1,s1⟩:=xGG l h;have hS:=h.perm p1;obtain ⟨a1,a2⟩:=xHd S s1 S.length (zd _);have e2:=xBo S hS.1 (fun x hx=>by have:=hS.2 x hx;unfold maxLen;omega)
 refine ⟨dk S S.length,?_,a1,fun x=>by rw [a2,y4,p1.mem_iff],by rw [<-p1.length_eq];exact xz8 _ _⟩
 have tt:List.take (dk S S.length).length ((dk S S.length).map encR)=(dk S S.length).map encR:=zi (by simp)
 unfold xpa xm1;simp only [xlR,xlS,xlT,e1,e2,zk,zh,xam,zH,za,zd,zn,zS,zr,tt,sUF]
def cF (f g:Fc):Int:=cmpR f.r g.r
theorem xFZ:Cm cF:=xqS.on (e:=fun f:Fc=>f.r)
theorem xDc (a b:List Fc) (ha:a.length+b.length<=1048576) (Z:∀ x,x∈a->x.r.length<=1048576) (V:∀ x,x∈b->x.r.length<=1048576) (sa:Sorted cF a) (sb:Sorted cF b) :
  ∀ (n i k:Nat) (D:List Fc),(a.length - i)+(b.length - k)=n->i<=a.length->k<=b.length->D.length=i+k ->
   ∃ r,Iter (xbD (List.map encF a) (List.map encF b)) (D.length,(i:Int),(k:Int),List.map encF D)=some (a.length+b.length,List.map encF (D++r))/\r.Perm (a.drop i++b.drop k)/\Sorted cF r:=by
 intro n;induction n with
 | zero =>
  intro i k D hn hi hk hD;have h1:¬ (i:Int)<(a.length:Int):=by omega
  have h2:¬ (k:Int)<(b.length:Int):=by omega
  refine ⟨[],xaN ?_,?_,by simp [Sorted]⟩
  . simp only [xbD,xdY,xcW,xcX,xcY,xeE,xeF,xeG,xds,xdt,  za,xbo,h1,h2,zm,zT,if_false,zD,sUF];rw [show D.length=a.length+b.length by omega]
  . rw [zq (by omega),zq (by omega)];exact List.Perm.refl _
 | succ n ih =>
  intro i k D hn hi hk hD;have Y:(List.map encF D).length=D.length:=by simp
  have m1:(D.length+1)*40<=140737488355328:=by omega
  have m2:D.length+1<=4611686018427387904:=by omega
  have snoc:∀ x:Fc,List.map encF D++[AV.agg [AV.list 3 (x.r.map encV),AV.int .i64 x.p.1,AV.int .i64 x.p.2]]=List.map encF (D++[x]):=fun x=>by simp [encF]
  have wi:=xpo (n:=i) (show i+1<=maxLen by unfold maxLen;omega)
  have wk:=xpo (n:=k) (show k+1<=maxLen by unfold maxLen;omega)
  by_cases J:i<a.length
  . have i1:(i:Int)<(a.length:Int):=by omega
    have i2:((i:Int)==(a.length:Int))=false:=by simp;omega
    have hx:a[i]?=some a[i]:=by simp [J]
    by_cases q:k<b.length
    . have k1:(k:Int)<(b.length:Int):=by omega
      have hy:b[k]?=some b[k]:=by simp [q]
      have e:=xnh b[k].r a[i].r (by have:=V b[k] (zo q);unfold maxLen;omega)
      by_cases hc:cmpR b[k].r a[i].r<0
      . obtain ⟨r,h1,h2,h3⟩:=ih i (k+1) (D++[b[k]]) (by omega) hi (by omega) (by simp;omega)
        refine ⟨b[k]::r,?_,?_,?_⟩
        . refine xa4 (s':=((D++[b[k]]).length,(i:Int),((k+1:Nat):Int),List.map encF (D++[b[k]]))) ?_ (by rw [h1];simp)
          simp only [xbD,xdY,xcW,xcX,xcY,xeE,xeF,xeG,xds,xdt,  za,xbo,i1,i2,k1,J,q,zn,zT,if_false,if_true,zN,gR hx,gR hy,cF0,cF1,cF2,sF0,sF1,sF2,lF,sF12,sF02,e,zk,zh,hc,Int.natCast_nonneg,zS,beq_self_eq_true,m1,m2,snoc,wk,sUF];simp
        . rw [xbf q];exact (h2.cons _).trans List.perm_middle.symm
        . refine zM.2 ⟨fun z hz=>?_,h3⟩
          rcases zG.1 (h2.mem_iff.1 hz) with hz|hz
          . rw [xbf J] at hz;rcases zC.1 hz with rfl|hz
            . exact Int.le_of_lt hc
            . obtain ⟨j,hj,rfl⟩:=zp.1 hz;have Q:i+1+j<a.length:=by simp at hj;omega
              have:=xbt sa (i:=i) (j:=i+1+j) (by omega) Q
              rw [List.getElem_drop];exact xFZ.trans _ _ _ (Int.le_of_lt hc) this
          . obtain ⟨j,hj,rfl⟩:=zp.1 hz;have O:k+1+j<b.length:=by simp at hj;omega
            rw [List.getElem_drop];exact xbt sb (i:=k) (j:=k+1+j) (by omega) O
      . obtain ⟨r,h1,h2,h3⟩:=ih (i+1) k (D++[a[i]]) (by omega) (by omega) hk (by simp;omega)
        refine ⟨a[i]::r,?_,?_,?_⟩
        . refine xa4 (s':=((D++[a[i]]).length,((i+1:Nat):Int),(k:Int),List.map encF (D++[a[i]]))) ?_ (by rw [h1];simp)
          simp only [xbD,xdY,xcW,xcX,xcY,xeE,xeF,xeG,xds,xdt,  za,xbo,i1,i2,k1,J,q,zn,zT,if_false,if_true,zN,gR hx,gR hy,cF0,cF1,cF2,sF0,sF1,sF2,lF,sF12,sF02,e,zk,zh,hc,zm,Int.natCast_nonneg,zS,beq_self_eq_true,m1,m2,snoc,wi,sUF];simp
        . rw [xbf J];exact h2.cons _
        . refine zM.2 ⟨fun z hz=>?_,h3⟩
          have U:cF a[i] b[k]<=0:=xFZ.ord.le_of_not hc;rcases zG.1 (h2.mem_iff.1 hz) with hz|hz
          . obtain ⟨j,hj,rfl⟩:=zp.1 hz;have Q:i+1+j<a.length:=by simp at hj;omega
            rw [List.getElem_drop];exact xbt sa (i:=i) (j:=i+1+j) (by omega) Q
          . rw [xbf q] at hz;rcases zC.1 hz with rfl|hz
            . exact U
            . obtain ⟨j,hj,rfl⟩:=zp.1 hz;have O:k+1+j<b.length:=by simp at hj;omega
              rw [List.getElem_drop];exact xFZ.trans _ _ _ U (xbt sb (i:=k) (j:=k+1+j) (by omega) O)
    . have k1:¬ (k:Int)<(b.length:Int):=by omega
      obtain ⟨r,h1,h2,h3⟩:=ih (i+1) k (D++[a[i]]) (by omega) (by omega) hk (by simp;omega)
      refine ⟨a[i]::r,?_,?_,?_⟩
      . refine xa4 (s':=((D++[a[i]]).length,((i+1:Nat):Int),(k:Int),List.map encF (D++[a[i]]))) ?_ (by rw [h1];simp)
        simp only [xbD,xdY,xcW,xcX,xcY,xeE,xeF,xeG,xds,xdt,  za,xbo,i1,i2,k1,J,zn,zm,zT,if_false,if_true,zN,gR hx,cF0,cF1,cF2,sF0,sF1,sF2,lF,sF12,sF02,Int.natCast_nonneg,zS,beq_self_eq_true,m1,m2,snoc,wi,sUF];simp
      . rw [xbf J];exact h2.cons _
      . refine zM.2 ⟨fun z hz=>?_,h3⟩
        rw [zq (show b.length<=k by omega),zD] at h2
        obtain ⟨j,hj,rfl⟩:=zp.1 (h2.mem_iff.1 hz);have Q:i+1+j<a.length:=by simp at hj;omega
        rw [List.getElem_drop];exact xbt sa (i:=i) (j:=i+1+j) (by omega) Q
  . have i1:¬ (i:Int)<(a.length:Int):=by omega
    have q:k<b.length:=by omega
    have k1:(k:Int)<(b.length:Int):=by omega
    have i2:((i:Int)==(a.length:Int))=true:=by simp;omega
    have hy:b[k]?=some b[k]:=by simp [q]
    obtain ⟨r,h1,h2,h3⟩:=ih i (k+1) (D++[b[k]]) (by omega) hi (by omega) (by simp;omega)
    refine ⟨b[k]::r,?_,?_,?_⟩
    . refine xa4 (s':=((D++[b[k]]).length,(i:Int),((k+1:Nat):Int),List.map encF (D++[b[k]]))) ?_ (by rw [h1];simp)
      simp only [xbD,xdY,xcW,xcX,xcY,xeE,xeF,xeG,xds,xdt,  za,xbo,i1,i2,k1,q,zn,zm,zT,if_false,if_true,zN,gR hy,cF0,cF1,cF2,sF0,sF1,sF2,lF,sF12,sF02,Int.natCast_nonneg,zS,beq_self_eq_true,m1,m2,snoc,wk,sUF];simp
    . rw [xbf q];exact (h2.cons _).trans List.perm_middle.symm
    . refine zM.2 ⟨fun z hz=>?_,h3⟩
      rw [zq (show a.length<=i by omega),zU] at h2
      obtain ⟨j,hj,rfl⟩:=zp.1 (h2.mem_iff.1 hz);have O:k+1+j<b.length:=by simp at hj;omega
      rw [List.getElem_drop];exact xbt sb (i:=k) (j:=k+1+j) (by omega) O
theorem xDd (a b:List Fc) (ha:a.length+b.length<=1048576) (q:∀ x,x∈a->x.r.length<=1048576) (J:∀ x,x∈b->x.r.length<=1048576) (sa:Sorted cF a) (sb:Sorted cF b) :
  ∃ r,xro (a.map encF) (b.map encF)=some (r.map encF)/\r.Perm (a++b)/\Sorted cF r:=by
 obtain ⟨r,h1,h2,h3⟩:=xDc a b ha q J sa sb _ 0 0 [] rfl (zQ _) (zQ _) rfl;simp only [zr,zU] at h1 h2;have h1':Iter (xbD (a.map encF) (b.map encF)) (0,(0:Int),(0:Int),[])=some (r.length,r.map encF):=by
  rw [h2.length_eq,z8];exact h1
 refine ⟨r,?_,h2,h3⟩;unfold xro xpg;simp only [xoi,xoj,xok,xol,h1',sOO,sUF]
theorem xBr:∀ (f:Nat) (l:List Fc),l.length<=2 ^ f->Few l->∃ r,xb2 (f+1) (List.map encF l)=some (List.map encF r)/\r.Perm l/\Sorted cF r:=by
 intro f;induction f with
 | zero =>
  intro l hl hs;have h1:(l.length:Int)<2:=by simp at hl;omega
  refine ⟨l,?_,List.Perm.refl _,?_⟩
  . show xcL (xb2 0) (List.map encF l)=_;simp only [xcL,xfY,za,h1,zn,xam,sUF]
  . match l,hl with
    | [],_=>exact List.Pairwise.nil
    | [x],_=>exact List.pairwise_singleton _ _
 | succ f ih =>
  intro l hl hs;by_cases h2:l.length<=1
  . have h1:(l.length:Int)<2:=by omega
    refine ⟨l,?_,List.Perm.refl _,?_⟩
    . show xcL (xb2 (f+1)) (List.map encF l)=_;simp only [xcL,xfY,za,h1,zn,xam,sUF]
    . match l,h2 with
      | [],_=>exact List.Pairwise.nil
      | [x],_=>exact List.pairwise_singleton _ _
  . have hp:2 ^ (f+1)=2*2 ^ f:=by rw [Nat.pow_succ];omega
    have q:=hs.1;obtain ⟨m,hm⟩:∃ m,m=l.length / 2:=⟨_,rfl⟩;have st:Few (l.take m):=⟨by simp;omega,fun x hx=>hs.2 x (List.mem_of_mem_take hx)⟩
    have sd:Few (l.drop m):=⟨by simp;omega,fun x hx=>hs.2 x (List.mem_of_mem_drop hx)⟩
    obtain ⟨r1,e1,p1,s1⟩:=ih (l.take m) (by simp;omega) st
    obtain ⟨r2,e2,p2,s2⟩:=ih (l.drop m) (by simp;omega) sd
    have l1:=p1.length_eq;have l2:=p2.length_eq;simp only [zt,y1] at l1 l2;obtain ⟨r,a1,a3,a4⟩:=xDd r1 r2 (by omega) (fun x hx=>st.2 x (p1.mem_iff.1 hx)) (fun x hx=>sd.2 x (p2.mem_iff.1 hx)) s1 s2
    refine ⟨r,?_,a3.trans ((p1.append p2).trans (by rw [List.take_append_drop])),a4⟩
    have w:IntKind.i64.wrap ((l.length:Int).tdiv 2)=(m:Int):=by
     rw [Int.tdiv_eq_ediv_of_nonneg (by omega)]
     exact w64 (by omega) (by omega)
    have t1:List.take m (List.map encF l)=List.map encF (l.take m):=by simp
    have t2:List.take (l.length - m) (List.drop m (List.map encF l))=List.map encF (l.drop m):=by
     rw [zi (by simp)];simp
    have d0:¬ (l.length:Int)<2:=by omega
    have d2:(m:Int)<=(l.length:Int):=by omega
    show xcL (xb2 (f+1)) (List.map encF l)=_;simp only [xcL,xfY,xm3,xm4,xm5,  za,d0,xah,w,zN,Nat.sub_zero,zr,t1,t2,e1,e2,zk,zh,xam,d2,zn,zm,Int.natCast_nonneg,zS,a1,sUF]
theorem xGF (l:List Fc) (h:Few l):∃ D,xqK (l.map encF)=some (D.map encR)/\xKG l D:=by
 have e0:=xt3 l h.1;have hf:(l.flatMap fun f=>if pv f.p=true then [f.r] else []).length<=1*l.length:=xkM l fun f _=>by split<;>simp
 have hm:∀ x,x∈(l.flatMap fun f=>if pv f.p=true then [f.r] else [])↔∃ f,f∈l/\f.r=x/\pv f.p=true:=fun x=>by
  rw [y3];constructor
  . rintro ⟨f,hf,hx⟩;split at hx
    . simp at hx;exact ⟨f,hf,hx.symm,by assumption⟩
    . simp at hx
  . rintro ⟨f,hf,e,hv⟩;exact ⟨f,hf,by rw [if_pos hv];simp [e]⟩
 have q:xKN (l.flatMap fun f=>if pv f.p=true then [f.r] else []):=⟨by have:=h.1;omega,fun x hx=>by
  obtain ⟨f,hf,e,_⟩:=(hm x).1 hx;rw [<-e];exact h.2 f hf⟩
 obtain ⟨D,d1,d2,d3,d4⟩:=xBp _ q;refine ⟨D,?_,d2,fun r=>by rw [d3,hm]⟩
 generalize (l.flatMap fun f=>if pv f.p=true then [f.r] else [])=w at e0 d1
 have tt:List.take w.length (w.map encR)=w.map encR:=zi (by simp)
 unfold xqK xrn;simp only [xqk,xql,xqm,xqn,e0,zk,zh,xam,zH,za,zd,zn,zS,zr,tt,d1,sUF]
theorem xCB (S:List Fc) (hS:S.length<=1048576) (hr:∀ f,f∈S->f.r.length<=maxLen) (on i:Nat) (hi:i<S.length) (xs:List AV):∀ (d k:Nat),k+d=S.length->i<=k->∃ j:Nat,k<=j/\j<=S.length/\(∀ t (h:t<S.length),k<=t->t<j->S[t].r=S[i].r)/\(∀ h:j<S.length,S[j].r≠S[i].r) /\
  Iter (xb1 (S.map encF) on (i:Int)) ((k:Int),xs)=some ((j:Int),xs)
 | 0,k,h,hik=>by
  obtain rfl:k=S.length:=by omega
  refine ⟨S.length,zd _,zd _,fun t h1 h2 h3=>by omega,fun h=>by omega,xaN ?_⟩
  simp only [xb1,xgh,za,zy,zm,xah,sUF]
 | d+1,k,h,hik=>by
  have hk:k<S.length:=by omega
  have i1:(k:Int)<(S.length:Int):=by omega
  have i2:(i:Int)<(S.length:Int):=by omega
  have gk:(S.map encF).getD k .top=encF S[k]:=xaM _ _ _ hk;have gi:(S.map encF).getD i .top=encF S[i]:=xaM _ _ _ hi;have ec:=xnh S[k].r S[i].r (hr _ (zo hk));by_cases he:S[k].r=S[i].r
  . obtain ⟨j,a1,a2,a3,a4,a5⟩:=xCB S hS hr on i hi xs d (k+1) (by omega) (by omega)
    refine ⟨j,by omega,a2,fun t h1 h2 h3=>?_,a4,(xaZ (s':=(((k+1:Nat):Int),xs)) ?_).trans a5⟩
    . by_cases q:t=k
      . subst q;exact he
      . exact a3 t h1 (by omega) h3
    . have dd:decide (S[k].r=S[i].r)=true:=decide_eq_true he;simp only [xb1,xgh,sBU,i1,i2,hk,hi,gk,gi,cF0,cF1,cF2,sF0,sF1,sF2,lF,sF12,sF02,ec,cmp0,dd,xKi (n:=k) (by omega)]
  . refine ⟨k,zd _,by omega,fun t h1 h2 h3=>by omega,fun _=>he,xaN ?_⟩
    simp only [xb1,xgh,sBU,i1,i2,hk,hi,gk,gi,cF0,cF1,cF2,sF0,sF1,sF2,lF,sF12,sF02,ec,cmp0,he,zm]
structure RGI (S:List Fc) (i:Nat) (G:List Grp):Prop where
 st:Strict cmpR (G.map (·.1))
 mem:∀ r,r∈G.map (·.1)↔∃ f,f∈S.take i/\f.r=r/\pv f.p=true
 ps:∀ g,g∈G->StepI (fun t=>((cnt S g.1 t:Nat):Int)) 1099511627776 g.2/\g.2.length<=2*S.length+1
 len:G.length<=i
 bd:∀ a b (ha:a<S.length) (hb:b<S.length),a<i->i<=b->cmpR S[a].r S[b].r<0
theorem xLt {n:Nat} (h:n<=1048576):(n+1)*48<=140737488355328/\n+1<=4611686018427387904:=by omega
theorem xyF (S:List Fc) (hS:S.length<=262144) (hr:∀ f,f∈S->f.r.length<=1048576) (hs:Sorted cF S):∀ (c i:Nat) (G:List Grp),S.length - i<=c->i<=S.length->RGI S i G ->
  ∃ G',Iter (xdF (S.map encF)) (G.length,(i:Int),G.map encG)=some (G'.length,G'.map encG)/\RGI S S.length G'
 | c,i,G,hc,hi,hG=>by
  by_cases ae:i=S.length
  . subst ae;refine ⟨G,xaN ?_,hG⟩;simp only [xdF,xiF,za,zy,zm,xah,sUF]
  . have Q:i<S.length:=by omega
    obtain ⟨j,a1,a2,a3,a4,a5⟩:=xCB S (by omega) (fun f hf=>by have:=hr f hf;unfold maxLen;omega) G.length i Q (G.map encG) (S.length - i) i (by omega) (zd _)
    have ab:i<j:=by
     rcases zJ i j with h|h
     . exact h
     . obtain rfl:j=i:=by omega
       exact absurd rfl (a4 Q)
    have run_mem:∀ f,f∈(S.drop i).take (j - i)↔∃ t,∃ h:t<S.length,i<=t/\t<j/\S[t]=f:=fun f=>by
     rw [List.mem_take_iff_getElem];constructor
     . rintro ⟨m,hm,rfl⟩;rw [y1] at hm;exact ⟨i+m,by omega,by omega,by omega,by rw [List.getElem_drop]⟩
     . rintro ⟨t,h,h1,h2,rfl⟩;refine ⟨t - i,by rw [y1];omega,?_⟩
       rw [List.getElem_drop];congr 1;omega
    have run_row:∀ f,f∈(S.drop i).take (j - i)->f.r=S[i].r:=fun f hf=>by
     obtain ⟨t,h,h1,h2,rfl⟩:=(run_mem f).1 hf;exact a3 t h h1 h2
    have Z:S.take j=S.take i++(S.drop i).take (j - i):=by
     rw [show j=i+(j - i) by omega,List.take_add,Nat.add_sub_cancel_left]
    have O:S=S.take i++((S.drop i).take (j - i)++S.drop j):=by
     rw [<-zw,<-Z,List.take_append_drop]
    have rl:((S.drop i).take (j - i)).length=j - i:=by rw [zt,y1];omega
    have J:∀ f,f∈S.take i->cmpR f.r S[i].r<0:=fun f hf=>by
     obtain ⟨t,ht,rfl⟩:=List.mem_take_iff_getElem.1 hf;exact hG.bd t i (by omega) Q (by omega) (zd _)
    have q:∀ t (h:t<S.length),j<=t->cmpR S[i].r S[t].r<0:=fun t h ah=>by
     have hj:j<S.length:=by omega
     have c1:cmpR S[i].r S[j].r<=0:=zB.1 hs i j Q hj ab;have c2:cmpR S[i].r S[j].r<0:=by
      rcases Int.lt_or_eq_of_le c1 with c|c
      . exact c
      . exact absurd (xm8 c).symm (a4 hj)
     rcases zJ j t with h1|h1
     . have c3:cmpR S[j].r S[t].r<=0:=zB.1 hs j t hj h h1;exact xqS.lt1 c2 c3
     . obtain rfl:t=j:=by omega
       exact c2
    have no_other:∀ (l:List Fc) (ρ:Row) (t:Int),(∀ f,f∈l->f.r≠ρ)->cnt l ρ t=0:=fun l ρ t h=>by
     unfold cnt;rw [List.countP_eq_zero];intro f hf hh;simp only [zf,zl] at hh;exact h f hf hh.1
    have ne_of:∀ x y:Row,cmpR x y<0->x≠y:=fun x y h e=>by subst e;rw [xtG] at h;omega
    have Y:∀ t,cnt ((S.drop i).take (j - i)) S[i].r t=cnt S S[i].r t:=fun t=>by
     have e:cnt S S[i].r t=cnt (S.take i++((S.drop i).take (j - i)++S.drop j)) S[i].r t:=by rw [<-O]
     rw [e,xsC,xsC,no_other (S.take i) _ t (fun f hf=>ne_of _ _ (J f hf)),no_other (S.drop j) _ t (fun f hf=>by
      obtain ⟨m,hm,rfl⟩:=zp.1 hf;rw [y1] at hm;rw [List.getElem_drop];exact fun e=>ne_of _ _ (q (j+m) (by omega) (by omega)) e.symm)]
     omega
    have U:Few ((S.drop i).take (j - i)):=⟨by omega,fun f hf=>hr f (List.mem_of_mem_drop (List.mem_of_mem_take hf))⟩
    obtain ⟨D,d1,d2,d3⟩:=xGF _ U;obtain ⟨St,s1,s2,s3⟩:=xDw ((S.drop i).take (j - i)) S[i].r (fun f hf=>by have:=U.2 f hf;unfold maxLen;omega) (by omega)
    have s2:StepI (fun t=>((cnt S S[i].r t:Nat):Int)) 1099511627776 St:=by
     have e:(fun t=>((cnt ((S.drop i).take (j - i)) S[i].r t:Nat):Int))=fun t=>((cnt S S[i].r t:Nat):Int):=funext fun t=>by rw [Y]
     rwa [e] at s2
    have tS:List.take (j - i) (List.drop i (S.map encF))=((S.drop i).take (j - i)).map encF:=by rw [<-List.map_drop,<-List.map_take]
    have hD:D=[]\/D=[S[i].r]:=by
     match D,d2,d3 with
     | [],_,_=>exact .inl rfl
     | [x],_,h=>right;obtain ⟨f,hf,e,_⟩:=(h x).1 (by simp);rw [<-e,run_row f hf]
     | x::y::t,h1,h =>
      obtain ⟨f,hf,e,_⟩:=(h x).1 (by simp)
      obtain ⟨g,hg,e',_⟩:=(h y).1 (by simp)
      have:cmpR x y<0:=(zM.1 h1).1 y (by simp)
      rw [<-e,<-e',run_row f hf,run_row g hg,xtG] at this;omega
    have ag:=hG.len;obtain ⟨m1,m2⟩:=xLt (n:=G.length) (by omega)
    have nx:RGI S j (G++D.map fun ρ=>(ρ,St)):=by
     refine ⟨?_,fun r=>?_,fun g hg=>?_,?_,fun a b ha hb ac ad=>?_⟩
     . rw [zx];refine List.pairwise_append.2 ⟨hG.st,?_,fun x hx y hy=>?_⟩
       . rcases hD with rfl|rfl
         . exact List.Pairwise.nil
         . exact List.pairwise_singleton _ _
       . obtain ⟨f,hf,e,_⟩:=(hG.mem x).1 hx;rcases hD with rfl|rfl
         . simp at hy
         . simp at hy;subst hy;rw [<-e];exact J f hf
     . rw [zx,zG,hG.mem,Z];have e:r∈(D.map fun ρ=>(ρ,St)).map (·.1)↔r∈D:=by simp
       rw [e,d3];constructor
       . rintro (⟨f,hf,h⟩|⟨f,hf,h⟩)
         . exact ⟨f,zG.2 (.inl hf),h⟩
         . exact ⟨f,zG.2 (.inr hf),h⟩
       . rintro ⟨f,hf,h⟩;rcases zG.1 hf with hf|hf
         . exact .inl ⟨f,hf,h⟩
         . exact .inr ⟨f,hf,h⟩
     . rcases zG.1 hg with hg|hg
       . exact hG.ps g hg
       . obtain ⟨ρ,hρ,rfl⟩:=zK.1 hg;rcases hD with rfl|rfl
         . simp at hρ
         . simp at hρ;subst hρ;exact ⟨s2,by rw [rl] at s3;dsimp only;omega⟩
     . rw [z8,za];rcases hD with rfl|rfl<;>simp<;>omega
     . rcases zJ a i with V|V
       . exact hG.bd a b ha hb V (by omega)
       . rw [a3 a ha V ac];exact q b hb ad
    obtain ⟨G',e',af⟩:=xyF S hS hr hs (c - 1) j _ (by omega) a2 nx
    refine ⟨G',(xaZ ?_).trans e',af⟩;have i1:(i:Int)<(S.length:Int):=by omega
    have i2:(j:Int)<=(S.length:Int):=by omega
    have i3:(i:Int)<=(j:Int):=by omega
    have aa:Iter (xdG (S.map encF) (i:Int) (j:Int) (D.map encR)) (G.length,(0:Int),G.map encG)=some ((G++D.map fun ρ=>(ρ,St)).length,(G++D.map fun ρ=>(ρ,St)).map encG):=by
     rcases hD with rfl|rfl
     . refine xaN ?_;have z:¬ (0:Int)<(([]:List AV).length:Int):=by simp
       simp only [xdG,xgi,zW,z,zm,xah,zD,sUF]
     . have z0:(0:Int)<(1:Int):=by omega
       have g0:([S[i].r].map encR).getD 0 .top=encR S[i].r:=rfl;have w1:IntKind.i64.wrap ((0:Int)+1)=1:=rfl;refine (xaZ (s':=((G++[(S[i].r,St)]).length,(1:Int),(G++[(S[i].r,St)]).map encG)) ?_).trans (xaN ?_)
       . have l1:(([S[i].r]:List Row).length:Int)=1:=rfl;have z1:(0:Int)<=0:=by omega
         have z2:(0:Nat)<([S[i].r]:List Row).length:=by simp
         have z3:(0:Int).toNat=0:=rfl;simp only [xdG,xgi,sBU,l1,z0,z1,z2,z3,g0,cR0,sR0,i2,i3,tS,s1,m1,m2,w1];simp [encG]
       . have l1:¬ (1:Int)<(([encR S[i].r]:List AV).length:Int):=by simp
         simp only [xdG,xgi,zV,zW,l1,zm,xah,sUF]
    simp only [xdF,xiF,xk1,xk2,xcw,sBU,i1,i2,i3,a5,tS,d1,aa]
theorem xDG (l:List Fc) (h:Few l) (hl:l.length<=262144):∃ G:List Grp,xk0 (l.map encF)=some (G.map encG)/\xKG l (G.map (·.1))/\(∀ g,g∈G->StepI (fun t=>((cnt l g.1 t:Nat):Int)) 1099511627776 g.2/\g.2.length<=2*l.length+1)/\G.length<=l.length:=by
 obtain ⟨S,e1,p1,s1⟩:=xBr 99 l (Nat.le_trans h.1 (Nat.le_trans (show 1048576<=2 ^ 20 by omega) (Nat.pow_le_pow_right (by omega) (by omega)))) h
 have q:=p1.length_eq;obtain ⟨G,e2,hG⟩:=xyF S (by omega) (fun f hf=>h.2 f (p1.mem_iff.1 hf)) s1 S.length 0 [] (by omega) (by omega) ⟨List.Pairwise.nil,fun r=>by simp,fun g hg=>by simp at hg,zd _,fun a b ha hb h1 h2=>by omega⟩
 refine ⟨G,?_,⟨hG.st,fun r=>?_⟩,fun g hg=>?_,by rw [<-q];exact hG.len⟩
 . have e1:xb2 100 (l.map encF)=some (S.map encF):=e1;have e2:Iter (xdF (S.map encF)) ((0:Nat),(0:Int),[])=_:=e2;have tt:List.take G.length (G.map encG)=G.map encG:=zi (by simp)
   unfold xk0 xpf;simp only [xoe,xof,xog,xoh,e1,e2,zk,zh,xam,zH,za,zd,zn,zS,zr,tt,sUF]
 . rw [hG.mem,y4];constructor
   . rintro ⟨f,hf,e⟩;exact ⟨f,p1.mem_iff.1 hf,e⟩
   . rintro ⟨f,hf,e⟩;exact ⟨f,p1.mem_iff.2 hf,e⟩
 . obtain ⟨x1,x2⟩:=hG.ps g hg;have e:(fun t=>((cnt S g.1 t:Nat):Int))=fun t=>((cnt l g.1 t:Nat):Int):=funext fun t=>by rw [xF4 p1]
   rw [e] at x1;exact ⟨x1,by omega⟩
theorem xDy (q:Row) (P:List Per) (hP:P.length<=1048576):xkx (q.map encV) (P.map encP)=some ((mk q P).map encF):=by
 have e:=xsT q P hP;rw [xK1 (fun p:Per=>(⟨q,p⟩:Fc)) P] at e
 have e:Iter (xcG (q.map encV) (P.map encP)) ((0:Nat),(0:Int),[])=some ((mk q P).length,(mk q P).map encF):=e;generalize mk q P=D at e;have tt:List.take D.length (D.map encF)=D.map encF:=zi (by simp)
 unfold xkx xpe;simp only [xob,xoc,xod,e,zk,zh,xam,zH,za,zd,zn,zS,zr,tt,sUF]
theorem sG0 (g:Grp):xLw (Sh.list 3) ((encG g).cells.getD 0 .top)=true:=rfl
theorem sG1 (g:Grp):xLw (Sh.list 2) ((encG g).cells.getD 1 .top)=true:=rfl
theorem xLq {n m:Nat} (h:n<=1048576*1024) (hm:m<=1048576):(n+m)*40<=140737488355328/\n+m<=4611686018427387904:=by omega
theorem xGA (G:List Grp) (hG:G.length<=1024) (L:Row->List Per) (hL:∀ g,g∈G->xeS (g.2.map encP)=some ((L g.1).map encP)/\(L g.1).length<=1048576) :
  Iter (xex (G.map encG)) ((0:Nat),(0:Int),[])=some ((xKo (G.map (·.1)) L).length,(xKo (G.map (·.1)) L).map encF):=by
 rw [<-xva];refine xgU G (fun g=>mk g.1 (L g.1)) encF 1048576 (fun g hg=>by unfold mk;rw [za];exact (hL g hg).2) (fun n h D hD=>?_) (fun D=>?_)
 . have i1:(n:Int)<(G.length:Int):=by omega
   have gf:(G.map encG).getD n .top=encG G[n]:=xaM _ _ _ h;obtain ⟨e1,e2⟩:=hL _ (zo h);have ed:=xDy G[n].1 (L G[n].1) e2;have ml:(mk G[n].1 (L G[n].1)).length<=1048576:=by unfold mk;rw [za];exact e2
   have q:D.length<=1048576*1024:=Nat.le_trans hD (Nat.mul_le_mul_left _ (by omega))
   obtain ⟨m1,m2⟩:=xLq q ml;simp only [xex,xlD,xkv,sBU,h,i1,gf,cG0,cGs,sG0,sG1,e1,ed,m1,m2,xKi (n:=n) (by omega),z8,zx]
 . simp only [xex,xlD,za,zy,zm,xah,sUF]
theorem xIx (l:List Fc) (r:Row) (t:Int):cnt l r t<=l.length:=List.countP_le_length
theorem xHI (l:List Fc) (r:Row) (t:Int) (h:t<0\/1099511627776<=t):cnt l r t=0:=by rw [<-xws];exact xz4 _ t h
theorem xH4 (l:List Fc) (h:Few l) (hl:l.length<=1024):∃ B,xgL (l.map encF)=some (B.map encF)/\xKy l B:=by
 obtain ⟨G,e1,hR,hS,O⟩:=xDG l h (by omega)
 have lv:∀ g,g∈G->∃ P,xeS (g.2.map encP)=some (P.map encP)/\IsLevs (cnt l g.1) P:=fun g hg=>by
  obtain ⟨s1,s2⟩:=hS g hg;exact xDH (N:=cnt l g.1) (H:=l.length) (by omega) (xIx l g.1) (xHI l g.1) s1 (by omega)
 obtain ⟨L,hL⟩:=xyq (R:=G.map (·.1)) (Q:=fun r P=>(∀ g,g∈G->g.1=r->xeS (g.2.map encP)=some (P.map encP))/\IsLevs (cnt l r) P) fun r hr=>by
  obtain ⟨g,hg,rfl⟩:=zK.1 hr;obtain ⟨P,p1,p2⟩:=lv g hg;refine ⟨P,fun g' J e=>?_,p2⟩
  obtain ⟨P',q1,q2⟩:=lv g' J;rw [e] at q2;rw [q1,q2.unique p2]
 have hk:∀ g,g∈G->g.1∈G.map (·.1):=fun g hg=>zK.2 ⟨g,hg,rfl⟩
 have q:∀ g,g∈G->(L g.1).length<=1048576:=fun g hg=>by
  have a:=(hL g.1 (hk g hg)).2;rw [<-xFi] at a;have b:=xAI l g.1;exact Nat.le_trans a.len (Nat.mul_le_mul (Nat.le_trans b hl) (Nat.le_trans b hl))
 have e2:=xGA G (by omega) L fun g hg=>⟨(hL g.1 (hk g hg)).1 g hg rfl,q g hg⟩
 refine ⟨xKo (G.map (·.1)) L,?_,G.map (·.1),L,hR,fun r hr=>(hL r hr).2,rfl⟩
 generalize xKo (G.map (·.1)) L=F at e2;have tt:List.take F.length (F.map encF)=F.map encF:=zi (by simp)
 unfold xgL xrZ;simp only [xrj,xrk,xrl,e1,e2,zk,zh,xam,zH,za,zd,zn,zS,zr,tt,sUF]
theorem xu8 (l:List Fc) (h:Bld l):∃ B,xbm (l.map encF)=some (B.map encF)/\xgL (l.map encF)=some (B.map encF)/\xKy l B:=by
 obtain ⟨B,b1,b2⟩:=xIW l h;obtain ⟨B',c1,c2⟩:=xH4 l h.1.1 h.2;obtain rfl:B=B':=b2.unique c2 fun _ _=>rfl
 exact ⟨B,b1,c1,b2⟩
theorem xAS {B:List Fc} (h:B.length<=1048576) (hr:∀ f,f∈B->f.r.length<=60):xcx (B.map encF) (B.map encF)=some true:=by
 have:=xFs B B h (fun f hf=>by have:=hr f hf;unfold maxLen;omega)
 rwa [decide_eq_true rfl] at this
theorem xGO (p q:Bool):(some (p&&q):Option Bool)=br p (some q) (some false):=by cases p<;>rfl
theorem xJ8 (v w:Ve):decide (v=w)=(v.id==w.id&&(v.sc==w.sc&&((v.va.1==w.va.1&&(v.va.2==w.va.2&&true))&&((v.sy.1==w.sy.1&&(v.sy.2==w.sy.2&&true))&&(v.b==w.b&&(v.u==w.u&&decide (v.r=w.r))))))):=by
 obtain ⟨a,b,c,⟨d,e⟩,⟨f,g⟩,h,i⟩:=v;obtain ⟨a',b',c',⟨d',e'⟩,⟨f',g'⟩,h',i'⟩:=w;rw [Bool.eq_iff_iff];simp only [zl,Ve.mk.injEq,zb,zf,beq_iff_eq,and_true];constructor
 . rintro ⟨h1,h2,h3,⟨h4,h5⟩,⟨h6,h7⟩,h8,h9⟩;exact ⟨h1,h2,⟨h4,h5⟩,⟨h6,h7⟩,h8,h9,h3⟩
 . rintro ⟨h1,h2,⟨h4,h5⟩,⟨h6,h7⟩,h8,h9,h3⟩;exact ⟨h1,h2,h3,⟨h4,h5⟩,⟨h6,h7⟩,h8,h9⟩
theorem xGH (v w:Ve) (h:v.r.length<=maxLen):xlX v.id v.sc (v.r.map encV) v.va.1 v.va.2 v.sy.1 v.sy.2 v.b v.u w.id w.sc (w.r.map encV) w.va.1 w.va.2 w.sy.1 w.sy.2 w.b w.u=some (decide (v=w)):=by
 have hm:=xnh v.r w.r h;rw [xJ8];simp only [xlX,xkn,hm,zk,zh,xam,xGO,cmp0,sUF]
theorem xqp (a b:List Ve) (hl:a.length=b.length) (ha:a.length<=1048576) (hr:∀ f,f∈a->f.r.length<=maxLen):Iter (xbw (a.map encW) (b.map encW)) (0:Int)=some (if a=b then (false,false,()) else (true,false,())):=by
 refine xw8 a b hl (fun n h h2=>?_) ?_
 . have h1:(n:Int)<(a.length:Int):=by omega
   have h3:(n:Int)<(b.length:Int):=by omega
   have gf:(a.map encW).getD n .top=encW a[n]:=xaM _ _ _ h;have gg:(b.map encW).getD n .top=encW b[n]:=xaM _ _ _ h2;have hm:=xGH a[n] b[n] (hr _ (zo h));simp only [xbw,xfa,xeT,sBU,h,h1,h2,h3,gf,gg,cW0,cW1,cW2,cW3,cW4,cW5,cW6,cW7,cW8,lW,sW,sW0,sW2,sW34,sW56,hm,xKi (n:=n) (by omega)]
   by_cases he:a[n]=b[n]<;>simp [he,xam,xah,xbo,sUF]
 . simp only [xbw,xfa,xeT,za,zy,zm,xah,sUF]
theorem xH9 (a b:List Ve) (ha:a.length<=1048576) (hr:∀ v,v∈a->v.r.length<=maxLen):xk4 (a.map encW) (b.map encW)=some (decide (a=b)):=by
 unfold xk4 xjU;by_cases h:a.length=b.length
 . have e:=xqp a b h ha hr;simp only [za] at e |-;rw [e];have n1:(((a.length:Nat):Int) != ((b.length:Nat):Int))=false:=by simp [h]
   rw [n1];by_cases q:a=b<;>simp [q,xam,xah,sUF]
 . have n1:(((a.length:Nat):Int) != ((b.length:Nat):Int))=true:=by simpa [bne_iff_ne] using fun e:(a.length:Int)=b.length=>h (by omega)
   have n2:a≠b:=fun e=>h (by rw [e])
   simp [n1,n2,xam,sUF]
def xKJ (l:List Ve):Bool:=!((List.range l.length).any fun i=>(l.take i).any fun x=>(l.getD i default).id==x.id)
theorem xt4 (l:List Ve) (hl:l.length<=1048576) {i:Nat} (hi:i<l.length):Iter (xb3 (l.map encW) ((i:Nat):Int)) (0:Int)=some (br ((l.take i).any fun x=>(l.getD i default).id==x.id) (true,false,()) (false,false,())):=by
 have q:(l.take i).length=i:=by rw [zt];omega
 have:=xe1 (step:=xb3 (l.map encW) ((i:Nat):Int)) (l.take i) (fun k=>((k:Nat):Int)) (fun x=>br ((l.getD i default).id==x.id) (some (true,false,())) none) (false,false,()) (fun k h=>by
  rw [xnm h];rw [q] at h;have hk:k<l.length:=by omega
  have h1:(i:Int)<(l.length:Int):=by omega
  have h2:(k:Int)<(l.length:Int):=by omega
  have h3:(k:Int)<(i:Int):=by omega
  simp only [xb3,xiM,sBU,h,hi,hk,h1,h2,h3,gW hi,gW hk,cW0,cW1,cW2,cW3,cW4,cW5,cW6,cW7,cW8,lW,sW,sW0,sW2,sW34,sW56,xiR,xe4,xe3,xKi (n:=k) (by omega)]) (by
  simp only [q,xb3,xiM,zy,zm,xah,sUF]) (l.take i).length 0 (by simp)
 rw [zr,xmQ] at this;have e:((0:Nat):Int)=0:=rfl;rw [e] at this;rw [this];cases (l.take i).any fun x=>(l.getD i default).id==x.id<;>rfl
theorem xFF (l:List Ve) (hl:l.length<=1048576):xom (l.map encW)=some (xKJ l):=by
 have:=xe1 (step:=xcH (l.map encW)) (List.range l.length) (fun k=>((k:Nat):Int)) (fun i=>br ((l.take i).any fun x=>(l.getD i default).id==x.id) (some (true,false,())) none) (false,false,()) (fun k h=>by
  rw [List.getElem_range];rw [List.length_range] at h;have h1:(k:Int)<(l.length:Int):=by omega
  have e:=xt4 l hl h;simp only [xcH,xiL,sBU,h1,e,xKi (n:=k) (by omega)]
  cases (l.take k).any fun x=>(l.getD k default).id==x.id<;>rfl) (by
  simp only [List.length_range,xcH,xiL,za,zy,zm,xah,sUF]) l.length 0 (by simp)
 rw [zr,xmQ] at this;have e:((0:Nat):Int)=0:=rfl;rw [e] at this;unfold xom xpk xKJ;rw [this];cases (List.range l.length).any fun i=>(l.take i).any fun x=>(l.getD i default).id==x.id<;>rfl
theorem xyd (v:Ve):opV (encW v)=v.op:=by
 show xcZ v.id v.sc (v.r.map encV) v.va.1 v.va.2 v.sy.1 v.sy.2 v.b v.u=v.op;unfold xcZ Ve.op xKm;rw [xe5];cases pv v.sy<;>rfl
theorem xvt:∀ l:List Ve,(l.map encW).filter opV=(l.filter Ve.op).map encW
 | []=>rfl
 | v::l=>by
  rw [zV,List.filter_cons,List.filter_cons,xyd,xvt l];cases v.op<;>rfl
def xKv (l:List Ve):List Fc:=(l.filter Ve.op).map Ve.fc
theorem xE7 (l:List Ve):((l.map encW).filter opV).map factA=(xKv l).map encF:=by
 rw [xvt,List.map_map];unfold xKv;rw [List.map_map];rfl
theorem xE8 (l:List Ve):(xKv l).length<=l.length:=by
 unfold xKv;rw [za];exact List.length_filter_le _ _
theorem xvk (l:List Ve):(l.map encW).all isVb=true:=by
 rw [List.all_map,zI];intro v _;rfl
theorem xFf (l:List Ve) (hl:l.length<=1048576):xeK (l.map encW)=xbm ((xKv l).map encF):=by
 have r1:rfOk 40 (xaP (l.map encW)) []=true:=by
  unfold rfOk xaP;rw [xvk,Bool.true_and,zl];simp only [List.length_nil,za];omega
 unfold xeK xmb xoW;rw [r1];unfold xaP;rw [xE7];have t:List.take (([]:List AV)++(xKv l).map encF).length (List.drop 0 ([]++(xKv l).map encF))=(xKv l).map encF:=by
  rw [zU,zr];exact zi (zd _)
 rw [t];simp only [zU,zH,zd,zn,zS,xam,xvW,sUF]
def TxV (l:List Ve):Prop:=∀ v,v∈l->∀ x,x∈v.r->x.wf/\x.t.length<=1073741824
theorem xE6 {l:List Ve} (h1:l.length<=1024) (h2:∀ v,v∈l->v.r.length<=60) (ht:TxV l):Bld (xKv l):=by
 have hm:∀ f,f∈xKv l->∃ v,v∈l/\f=v.fc:=fun f hf=>by
  obtain ⟨v,hv,rfl⟩:=zK.1 hf;exact ⟨v,(List.mem_filter.1 hv).1,rfl⟩
 refine xA5 (Nat.le_trans (xE8 l) h1) (fun f hf=>?_) (fun f hf x hx=>?_)
 . obtain ⟨v,hv,rfl⟩:=hm f hf;exact h2 v hv
 . obtain ⟨v,hv,rfl⟩:=hm f hf;exact ht v hv x hx
end Go.Sim.M
end
noncomputable section
set_option maxRecDepth 10000
namespace Go.Sim
open Go.RowKit Go.Proofs Go.ChangeShapes Go.WideShapes Go.ChangeAt Go.Proofs.YtckgiglpmfpagaaGreatDoor
def tyW:List Ty:=[.int .i64,.int .i64,.slice tyV,.int .i64,.int .i64,.int .i64,.int .i64,.int .i64,.int .i64]
theorem xEK:flat Tryz.prog 9 22=some [.slice tyW]:=by kernel_rfl
def M.Ve.wf (v:M.Ve):Prop:=M.Row.wf v.r/\I64 v.id/\I64 v.sc/\I64 v.va.1/\I64 v.va.2/\I64 v.sy.1/\I64 v.sy.2/\I64 v.b/\I64 v.u
theorem xGY (x:AV) (hl:x.cells.length=tyW.length) (he:x=xL7 x.cells) (hx:∀ j,j<tyW.length->OfTy (tyW.getD j .bool) (x.cells.getD j .top)):∃ a,x=M.encW a/\M.Ve.wf a:=by
 generalize x.cells=cs at *;match cs,hl with
 | [c0,c1,c2,c3,c4,c5,c6,c7,c8],_ =>
  have h0:=hx 0 (by decide)
  have h1:=hx 1 (by decide)
  have h2:=hx 2 (by decide)
  have h3:=hx 3 (by decide)
  have h4:=hx 4 (by decide)
  have h5:=hx 5 (by decide)
  have h6:=hx 6 (by decide)
  have h7:=hx 7 (by decide)
  have h8:=hx 8 (by decide)
  change OfTy (.int .i64) c0 at h0;change OfTy (.int .i64) c1 at h1;change OfTy (.slice tyV) c2 at h2;change OfTy (.int .i64) c3 at h3;change OfTy (.int .i64) c4 at h4;change OfTy (.int .i64) c5 at h5;change OfTy (.int .i64) c6 at h6;change OfTy (.int .i64) c7 at h7;change OfTy (.int .i64) c8 at h8;obtain ⟨l,rfl,hw⟩:=xA7 h2;cases h0 with
  | int _ n0 w0=>cases h1 with
   | int _ n1 w1=>cases h3 with
    | int _ n3 w3=>cases h4 with
     | int _ n4 w4=>cases h5 with
      | int _ n5 w5=>cases h6 with
       | int _ n6 w6=>cases h7 with
        | int _ n7 w7=>cases h8 with
         | int _ n8 w8=>exact ⟨⟨n0,n1,l,(n3,n4),(n5,n6),n7,n8⟩,he,hw,w0,w1,w3,w4,w5,w6,w7,w8⟩
section
variable {H : Type} {enc : TypeId × Value -> H} {w : World} {base b : Nat} {sp : Nat -> Bool} {held : Bool} {v : Value} {d : DataW H} {ps : List MemPlace}
theorem xFa (q:Value.okWide Tryz.prog w .any base 22 v) (hd:DataW.Trod enc Tryz.prog w b sp held 22 v d ps):∃ l:List M.Ve,Rel w (fun _=>False) xLM v (.list 9 (l.map M.encW))/\(∀ μ:DataW H->Nat,Meas μ->(AV.list 9 (l.map M.encW)).wt<=μ d)/\∀ a,a∈l->M.Ve.wf a:=by
 obtain ⟨a,h,hT,hB⟩:=xCp Tryz.underlying22 xEK q hd;obtain ⟨l,rfl,_,hw⟩:=xue (es:=tyW) xGY hT;exact ⟨l,h,hB,hw⟩
end
theorem xsu:∀ {xs:List AV} {x:AV},x∈xs->AV.wt x<=AV.wts xs
 | y::xs,x,h=>by
  simp only [AV.wts];rcases zC.1 h with rfl|h
  . omega
  . have:=xsu h;omega
theorem xym:∀ {xs:List AV},(∀ x,x∈xs->1<=AV.wt x)->xs.length<=AV.wts xs
 | [],_=>zQ _
 | y::xs,h=>by
  have a:=h y (by simp)
  have b:=xym (xs:=xs) fun x hx=>h x (by simp [hx])
  simp only [AV.wts,zF];omega
theorem xFR (v:M.Ve):AV.wt (M.encW v)=1+(1+(AV.wts (v.r.map M.encV)+1+(1+(1+(1+(1+(1+(1+0)))))))):=rfl
theorem M.txv_wt {l:List M.Ve} (h:(AV.list 9 (l.map M.encW)).wt<=1048576) (hw:∀ y,y∈l->y.wf):M.TxV l/\l.length<=1048576:=by
 have e3:(AV.list 9 (l.map M.encW)).wt=AV.wts (l.map M.encW)+1:=rfl;refine ⟨fun f hf v hv=>⟨(hw f hf).1.2 v hv,?_⟩,?_⟩
 . have h1:AV.wt (M.encW f)<=AV.wts (l.map M.encW):=xsu (zK.2 ⟨f,hf,rfl⟩);have h2:AV.wt (M.encV v)<=AV.wts (f.r.map M.encV):=xsu (zK.2 ⟨v,hv,rfl⟩);have e1:=xFR f;have e2:AV.wt (M.encV v)=1+(1+(v.t.length+1+0)):=rfl;omega
 . have:=xym (xs:=l.map M.encW) fun x hx=>by
    obtain ⟨v,_,rfl⟩:=zK.1 hx;have:=xFR v;omega
   rw [za] at this;omega
theorem M.txf_wt {l:List M.Fc} (h:(AV.list 3 (l.map M.encF)).wt<=1048576) (hw:∀ y,y∈l->y.wf):M.Tx l/\l.length<=1048576:=by
 have e3:(AV.list 3 (l.map M.encF)).wt=AV.wts (l.map M.encF)+1:=rfl;have e1:∀ f:M.Fc,AV.wt (M.encF f)=AV.wts (f.r.map M.encV)+1+(1+(1+0)):=fun _=>rfl
 refine ⟨fun f hf v hv=>⟨(hw f hf).1.2 v hv,?_⟩,?_⟩
 . have h1:AV.wt (M.encF f)<=AV.wts (l.map M.encF):=xsu (zK.2 ⟨f,hf,rfl⟩);have h2:AV.wt (M.encV v)<=AV.wts (f.r.map M.encV):=xsu (zK.2 ⟨v,hv,rfl⟩);have e2:AV.wt (M.encV v)=1+(1+(v.t.length+1+0)):=rfl;have:=e1 f;omega
 . have:=xym (xs:=l.map M.encF) fun x hx=>by
    obtain ⟨v,_,rfl⟩:=zK.1 hx;have:=e1 v;omega
   rw [za] at this;omega
end Go.Sim
end
noncomputable section
set_option maxRecDepth 100000
namespace Go.Sim.M
open Go.RowKit Go.Sim.Srt
theorem gN {l:List Int} {k:Nat} (h:k<l.length):(l.map encN).getD k .top=encN (l.getD k 0):=by
 rw [xaM _ _ _ h,z7,ze h,zh]
def fid (id:Int) (v:Ve):Bool:=v.op&&v.id==id
theorem xyy (id:Int):∀ l:List Ve,findA id (l.map encW)=(l.find? (fid id)).map encW
 | []=>rfl
 | v::l=>by
  have ih:=xyy id l;unfold findA at ih |-;rw [zV,List.filter_cons,xyd,List.find?_cons];unfold fid at ih |-;cases ho:v.op with
  | false=>simpa only [Bool.false_and,zT,if_false] using ih
  | true =>
   have e:idA (encW v)=v.id:=rfl;rw [if_pos rfl,List.find?_cons,e,Bool.true_and];cases v.id==id with
   | true=>rfl
   | false=>exact ih
def xK8 (o:Option Ve):Int×Int×List AV×Int×Int×Int×Int×Int×Int×Bool:=match o with
 | some v=>(v.id,v.sc,v.r.map encV,v.va.1,v.va.2,v.sy.1,v.sy.2,v.b,v.u,true)
 | none=>(0,0,[],0,0,0,0,0,0,false)
theorem xAD (l:List Ve) (id:Int) (hl:l.length<=1048576):xbR (l.map encW) id=some (xK8 (l.find? (fid id))):=by
 unfold xbR xaY xnE xaP;rw [xvk,xyy];have h1:decide ((l.map encW).length<4611686018427387904)=true:=by rw [za,zl];omega
 rw [h1];cases l.find? (fid id)<;>rfl
def errF (l:List Ve) (tm id:Int):Option Int:=match l.find? (fid id) with
 | none=>some 11
 | some v=>br (decide (v.sy.1>=tm)) (some 6) none
def errA (l:List Ve) (tm:Int) (ids:List Int):Nat->Option Int
 | 0=>errF l tm (ids.getD 0 0)
 | k+1=>br (decide (ids.getD (k+1) 0<=ids.getD k 0)) (some 9) (errF l tm (ids.getD (k+1) 0))
theorem p0:decide (((0:Nat):Int)>0)=false:=rfl
theorem p1 (k:Nat):decide (((k+1:Nat):Int)>0)=true:=by rw [zl];omega
theorem xtp (l:List Ve) (ids:List Int) (F:List AV) (c0 tm c2 c3:Int) (hl:l.length<=1048576) (hi:ids.length<=1048576) :
  Iter (xcn (l.map encW) (ids.map encN) F (ids.map encN) ((ids.length:Nat):Int)) ((0:Int),c0,tm,c2,c3)=some ((((List.range ids.length).findSome? (errA l tm ids)).map fun x=>(true,x,())).getD (false,0,())):=by
 have:=xe1 (step:=xcn (l.map encW) (ids.map encN) F (ids.map encN) ((ids.length:Nat):Int)) (List.range ids.length) (fun k=>(((k:Nat):Int),c0,tm,c2,c3)) (fun k=>(errA l tm ids k).map fun x=>(true,x,())) (false,0,()) (fun k h=>by
  rw [List.getElem_range];rw [List.length_range] at h;cases k with
  | zero =>
   have h1:((0:Nat):Int)<(ids.length:Int):=by omega
   have hf:=xAD l (ids.getD 0 0) hl;simp only [xcn,xfG,xeQ,xkl,xha,sBU,h,h1,gN h,cN,sN,p0,hf,errA,errF,xKi (n:=0) (by omega)]
   cases l.find? (fid (ids.getD 0 0)) with
   | none=>rfl
   | some v =>
    simp only [xK8,Bool.not_true,xah,xq9,xiR,Option.map_some,Option.map_none,xe4,xe3,sUF];rfl
  | succ k =>
   have h0:k<ids.length:=by omega
   have h1:((k+1:Nat):Int)<(ids.length:Int):=by omega
   have h2:(k:Int)<(ids.length:Int):=by omega
   have hf:=xAD l (ids.getD (k+1) 0) hl;simp only [xcn,xfG,xeQ,xkl,xha,xLd (n:=k) (by omega),sBU,h,h0,h1,h2,gN h,gN h0,cN,sN,p1,hf,errA,errF,xKi (n:=k+1) (by omega)]
   cases l.find? (fid (ids.getD (k+1) 0)) with
   | none=>cases decide (ids.getD (k+1) 0<=ids.getD k 0)<;>rfl
   | some v =>
    simp only [xK8,Bool.not_true,xah,xq9,xiR,Option.map_some,Option.map_none,xe4,xe3,sUF];rfl) (by
  simp only [List.length_range,xcn,xfG,xeQ,za,zy,zm,xah,sUF]) ids.length 0 (by simp)
 rw [<-xq0];simpa using this
theorem xtq (F:List Fc) (hF:F.length<=1048576):Iter (xbO (F.map encF) ((F.length:Nat):Int)) (0:Int)=some (br (F.any fun f=>!pv f.p) (true,8,()) (false,0,())):=by
 have:=xe1 (step:=xbO (F.map encF) ((F.length:Nat):Int)) F (fun k=>((k:Nat):Int)) (fun f=>br (!pv f.p) (some (true,8,())) none) (false,0,()) (fun k h=>by
  have h1:(k:Int)<(F.length:Int):=by omega
  have gf:(F.map encF).getD k .top=encF F[k]:=xaM _ _ _ h;simp only [xbO,xhw,sBU,h,h1,gf,cF0,cF1,cF2,sF0,sF1,sF2,lF,sF12,sF02,xe5,xiR,xe4,xe3,xKi (n:=k) (by omega)]) (by
  simp only [xbO,xhw,zy,zm,xah,sUF]) F.length 0 (by simp)
 rw [zr,xmQ] at this;have e:((0:Nat):Int)=0:=rfl;rw [e] at this;rw [this];cases F.any fun f=>!pv f.p<;>rfl
def errV (l:List Ve) (ids:List Int) (F:List Fc) (tm:Int):Int:=br (decide (tm<0)) 6 (br (decide (tm>=1099511627776)) 6 (((List.range ids.length).findSome? (errA l tm ids)).getD (br (F.any fun f=>!pv f.p) 8 0)))
theorem xCZ (l:List Ve) (ids:List Int) (F:List Fc) (c0 tm c2 c3:Int) (hl:l.length<=1048576) (hi:ids.length<=1048576) (hF:F.length<=1048576):xjx (l.map encW) (ids.map encN) (F.map encF) c0 tm c2 c3=some (errV l ids F tm):=by
 unfold xjx xnC;simp only [xmN,xmO,za,sUF];rw [xtp l ids _ c0 tm c2 c3 hl hi,xtq F hF];unfold errV;cases decide (tm<0) with
 | true=>rfl
 | false =>
  cases decide (tm>=1099511627776) with
  | true=>rfl
  | false =>
   cases (List.range ids.length).findSome? (errA l tm ids) with
   | some x=>rfl
   | none=>cases F.any fun f=>!pv f.p<;>rfl
theorem sW5 (v:Ve):xLw (Sh.int .i64) ((encW v).cells.getD 5 .top)=true:=rfl
def clo (c0 tm:Int) (b:Bool) (v:Ve):Ve:=match b with
 | true=>⟨v.id,v.sc,v.r,v.va,(v.sy.1,tm),v.b,c0⟩
 | false=>v
def hit (ids:List Int) (v:Ve):Bool:=v.op&&ids.any (·==v.id)
theorem xzx (c0 tm:Int) (b:Bool) (v:Ve):(clo c0 tm b v).id=v.id:=by cases b<;>rfl
instance:Inhabited Fc:=⟨⟨[],(0,0)⟩⟩
theorem gF {l:List Fc} {k:Nat} (h:k<l.length):(l.map encF).getD k .top=encF (l.getD k default):=by
 rw [xaM _ _ _ h,z7,ze h,zh]
def opn1 (fs sc c0 tm:Int) (i:Nat) (f:Fc):Ve:=⟨IntKind.i64.wrap (fs+(i:Int)),sc,f.r,f.p,(tm,xKm),c0,0⟩
def opnV (fs sc c0 tm:Int) (F:List Fc) (k:Nat):List Ve:=(List.range k).map fun i=>opn1 fs sc c0 tm i (F.getD i default)
theorem xFb (fs sc c0 tm:Int) (F:List Fc) (k:Nat):opnV fs sc c0 tm F (k+1)=opnV fs sc c0 tm F k++[opn1 fs sc c0 tm k (F.getD k default)]:=by
 unfold opnV;rw [List.range_succ,zx];rfl
theorem xrd (fs sc c0 tm:Int) (F:List Fc) (k:Nat):(opnV fs sc c0 tm F k).length=k:=by unfold opnV;simp
theorem xLr {n k:Nat} (h:n<=1048576) (hk:k<=1048576):decide ((n+k+1)*88<=140737488355328)=true/\decide (n+k+1<=4611686018427387904)=true:=⟨decide_eq_true (by omega),decide_eq_true (by omega)⟩
theorem xut (F:List Fc) (D:List Ve) (c0 tm c2 c3 fs sc:Int) (hF:F.length<=1048576) (hD:D.length<=1048576) (hr:∀ f,f∈F->f.r.length<=1048576):Iter (xd1 fs sc c0 tm c2 c3 (F.map encF) ((F.length:Nat):Int)) (D.length,(0:Int),D.map encW)=some (D.length+F.length,(D++opnV fs sc c0 tm F F.length).map encW):=by
 have hd:∀ k,((D++opnV fs sc c0 tm F k).map encW).length=D.length+k:=fun k=>by rw [za,z8,xrd]
 have:=xkO (step:=xd1 fs sc c0 tm c2 c3 (F.map encF) ((F.length:Nat):Int)) (fun k=>(D.length+k,((k:Nat):Int),(D++opnV fs sc c0 tm F k).map encW)) F.length (D.length+F.length,(D++opnV fs sc c0 tm F F.length).map encW) (fun k h=>by
  have h1:(k:Int)<(F.length:Int):=by omega
  obtain ⟨m1,m2⟩:=xLr (n:=D.length) (k:=k) hD (by omega)
  have hm:=xKx (hr (F.getD k default) (by rw [z7,ze h];exact zo h))
  have q:=hd k;have hs:(D++opnV fs sc c0 tm F (k+1)).map encW=(D++opnV fs sc c0 tm F k).map encW++[encW (opn1 fs sc c0 tm k (F.getD k default))]:=by rw [xFb,<-zw,zx];rfl
  rw [hs];generalize (D++opnV fs sc c0 tm F k).map encW=E at q |-;simp only [xd1,xjF,xeY,sBU,h,h1,gF h,cF0,cF1,cF2,sF0,sF1,sF2,lF,sF12,sF02,hm.1,hm.2,zr,xK6,zd,q,m1,m2,xKi (n:=k) (by omega)]
  rfl) (by
  simp only [xd1,xjF,za,zy,zm,xah,sUF]) F.length 0 (by omega)
 have e0:opnV fs sc c0 tm F 0=[]:=rfl;simp only [e0,zD,Nat.add_zero] at this;exact this
theorem xCl (x y:Int):xsB x y=decide (x<y):=by
 unfold xsB xeu;simp [xah,sUF]
theorem half {i j:Nat} (h:i+j<=4611686018427387904):IntKind.i64.wrap ((IntKind.u64.wrap (IntKind.i64.wrap ((i:Int)+(j:Int)))).fdiv 2)=(((i+j) / 2:Nat):Int):=by
 have e1:IntKind.i64.wrap ((i:Int)+(j:Int))=((i+j:Nat):Int):=by rw [xbE (by omega) (by omega)];omega
 rw [e1];have e2:IntKind.u64.wrap ((i+j:Nat):Int)=((i+j:Nat):Int):=by
  unfold IntKind.wrap;simp [IntKind.bits,IntKind.signed];omega
 rw [e2];have e3:(((i+j:Nat):Int)).fdiv 2=(((i+j) / 2:Nat):Int):=by
  rw [Int.fdiv_eq_ediv_of_nonneg _ (by omega)];omega
 rw [e3,xbE (by omega) (by omega)]
def asc (ids:List Int):Prop:=∀ k,k+1<ids.length->ids.getD k 0<ids.getD (k+1) 0
theorem xvT {ids:List Int} (h:asc ids):∀ d i,i+d+1<ids.length->ids.getD i 0<ids.getD (i+d+1) 0
 | 0,i,hi=>h i hi
 | d+1,i,hi=>by
  have a:=xvT h d i (by omega)
  have b:=h (i+d+1) (by omega)
  rw [show i+(d+1)+1=i+d+1+1 by omega];omega
theorem xzS {ids:List Int} {x:Int}:ids.any (·==x)=true↔∃ k,k<ids.length/\ids.getD k 0=x:=by
 rw [List.any_eq_true];constructor
 . rintro ⟨y,hy,he⟩;obtain ⟨i,hi,rfl⟩:=List.getElem_of_mem hy;exact ⟨i,hi,by rw [z7,ze hi];simpa using he⟩
 . rintro ⟨k,hk,rfl⟩;refine ⟨ids.getD k 0,?_,by simp⟩
   rw [z7,ze hk];exact zo hk
theorem xHB (ids:List Int) (x:Int) (hn:ids.length<=1048576) (h:asc ids):∃ a:Nat,Iter (xba (ids.map encN) x ((ids.length:Nat):Int)) ((0:Int),((ids.length:Nat):Int))=some ((a:Nat):Int)/\a<=ids.length/\(∀ k,k<a->ids.getD k 0<x)/\∀ k,a<=k->k<ids.length->x<=ids.getD k 0:=by
 obtain ⟨r,h1,a,rfl,h2,h3,h4⟩:=xAm (step:=xba (ids.map encN) x ((ids.length:Nat):Int)) (fun s=>∃ a b:Nat,s=((a:Int),(b:Int))/\a<=b/\b<=ids.length/\(∀ k,k<a->ids.getD k 0<x)/\∀ k,b<=k->k<ids.length->x<=ids.getD k 0) (fun s=>(s.2 - s.1).toNat)
  (fun r=>∃ a:Nat,r=(a:Int)/\a<=ids.length/\(∀ k,k<a->ids.getD k 0<x)/\∀ k,a<=k->k<ids.length->x<=ids.getD k 0) (fun s hs=>by
   obtain ⟨a,b,rfl,V,hb,J,O⟩:=hs;by_cases U:a<b
   . left;have e:=half (i:=a) (j:=b) (by omega)
     have hm:(a+b) / 2<ids.length:=by omega
     have g1:(a:Int)<(b:Int):=by omega
     have g2:(((a+b) / 2:Nat):Int)<(ids.length:Int):=by omega
     have w:IntKind.i64.wrap ((((a+b) / 2:Nat):Int)+1)=(((a+b) / 2+1:Nat):Int):=xKi (by omega)
     cases hc:decide (ids.getD ((a+b) / 2) 0<x) with
     | true =>
      refine ⟨((((a+b) / 2+1:Nat):Int),(b:Int)),?_,⟨(a+b) / 2+1,b,rfl,by omega,hb,fun k hk=>?_,O⟩,by dsimp only;omega⟩
      . simp only [xba,xdu,xa7,e,sBU,g1,g2,hm,gN hm,cN,sN,xCl,hc,w]
      . have hc':=of_decide_eq_true hc;rcases zJ k ((a+b) / 2) with q|q
        . have:=xvT h ((a+b) / 2 - k - 1) k (by omega)
          rw [show k+((a+b) / 2 - k - 1)+1=(a+b) / 2 by omega] at this
          omega
        . rw [show k=(a+b) / 2 by omega];exact hc'
     | false =>
      refine ⟨((a:Int),(((a+b) / 2:Nat):Int)),?_,⟨a,(a+b) / 2,rfl,by omega,by omega,J,fun k hk Q=>?_⟩,by dsimp only;omega⟩
      . simp only [xba,xdu,xa7,e,sBU,g1,g2,hm,gN hm,cN,sN,xCl,hc,w]
      . have hc':=of_decide_eq_false hc;rcases zJ ((a+b) / 2) k with q|q
        . have:=xvT h (k - (a+b) / 2 - 1) ((a+b) / 2) (by omega)
          rw [show (a+b) / 2+(k - (a+b) / 2 - 1)+1=k by omega] at this
          omega
        . rw [show k=(a+b) / 2 by omega];omega
   . right;obtain rfl:a=b:=by omega
     refine ⟨(a:Int),?_,a,rfl,hb,J,O⟩;simp only [xba,xdu,zy,zm,xah,sUF]) ((0:Int),((ids.length:Nat):Int)) ⟨0,ids.length,rfl,by omega,by omega,fun k hk=>by omega,fun k hk Q=>by omega⟩
 exact ⟨a,h1,h2,h3,h4⟩
theorem xC2 (ids:List Int) (x:Int) (hn:ids.length<=1048576) (h:asc ids):∃ p,xeg (ids.map encN) x=some (p,ids.any (·==x)):=by
 obtain ⟨a,h1,h2,h3,h4⟩:=xHB ids x hn h;refine ⟨(a:Int),?_⟩;have O:∀ y:Int,xlb y=false:=fun y=>by unfold xlb;simp
 unfold xeg xja;simp only [xic,xid,xaW,za,h1,zk,zh,xam,O,xah,sUF];rcases zJ a ids.length with q|Q
 . have g1:(a:Int)<(ids.length:Int):=by omega
   simp only [sBU,g1,q,gN q,cN,sN];have:ids.any (·==x)=(ids.getD a 0==x):=by
    rw [Bool.eq_iff_iff,xzS,beq_iff_eq];constructor
    . rintro ⟨k,hk,rfl⟩;rcases Nat.lt_trichotomy k a with J|rfl|J
      . have:=h3 k J;omega
      . rfl
      . have b:=h4 a (zd _) q;have:=xvT h (k - a - 1) a (by omega)
        rw [show a+(k - a - 1)+1=k by omega] at this
        omega
    . exact fun e=>⟨a,q,e⟩
   rw [this];cases ids.getD a 0==x<;>rfl
 . have g1:¬ (a:Int)<(ids.length:Int):=by omega
   have:ids.any (·==x)=false:=by
    cases hc:ids.any (·==x) with
    | false=>rfl
    | true =>
     obtain ⟨k,hk,rfl⟩:=xzS.1 hc;have:=h3 k (by omega);omega
   simp only [g1,zm,xah,this,sUF]
theorem xGq (v:Ve):xcZ v.id v.sc (v.r.map encV) v.va.1 v.va.2 v.sy.1 v.sy.2 v.b v.u=v.op:=xyd v
theorem xtk (ids:List Int) (FA:List AV) (fs sc c0 tm c2 c3:Int) (pf:Int->Int) (hb:∀ x,xeg (ids.map encN) x=some (pf x,ids.any (·==x))) (l:List Ve) (hl:l.length<=1048576) (hr:∀ v,v∈l->v.r.length<=1048576):Iter (xfe (ids.map encN) FA fs sc c0 tm c2 c3 (l.map encW) ((l.length:Nat):Int)) ((0:Nat),(0:Int),[])=some ((l.flatMap (fun (f:Ve)=>[clo c0 tm (hit ids f) f])).length,(l.flatMap (fun (f:Ve)=>[clo c0 tm (hit ids f) f])).map encW):=by
 refine xgU l (fun (f:Ve)=>[clo c0 tm (hit ids f) f]) encW 1 (fun f hf=>?_) (fun n h D hD=>?_) (fun D=>?_)
 . cases q:(ids.any (·==(f).id))<;>cases J:((f).op)<;>simp [hit,clo,q,J]
 . have h1:(n:Int)<(l.length:Int):=by omega
   have m1:(D.length+1)*88<=140737488355328:=by omega
   have m2:D.length+1<=4611686018427387904:=by omega
   have gf:(l.map encW).getD n .top=encW l[n]:=xaM _ _ _ h;have hm:=xKx (hr _ (zo h));simp only [xfe,xjE,xht,xlK,xlL,xbQ,sBU,h,h1,gf,cW0,cW1,cW2,cW3,cW4,cW5,cW6,cW7,cW8,lW,sW,sW0,sW2,sW34,sW56,hb,xGq,hm.1,hm.2,zU,zr,xK6,zd,m1,m2,xKi (n:=n) (by omega)]
   cases q:(ids.any (·==(l[n]).id))<;>cases J:((l[n]).op)<;>simp [encW,xam,xah,encR,hit,clo,q,J,sUF]
 . simp only [xfe,xjE,xht,xlK,xlL,xbQ,za,zy,zm,xah,sUF]
def appV (l:List Ve) (ids:List Int) (F:List Fc) (c0 tm fs sc:Int):List Ve:=(l.map fun v=>clo c0 tm (hit ids v) v)++opnV fs sc c0 tm F F.length
theorem xHK {l:List Ve} {tm:Int} {ids:List Int} {k:Nat} {x:Int} (h:errA l tm ids k=some x):x≠0:=by
 have hF:∀ id,errF l tm id=some x->x≠0:=fun id h=>by
  unfold errF at h;split at h
  . simp at h;omega
  . rename_i v _;cases hc:decide (v.sy.1>=tm) with
    | true=>rw [hc] at h;simp [xam,sUF] at h;omega
    | false=>rw [hc] at h;simp [xah,sUF] at h
 cases k with
 | zero=>exact hF _ h
 | succ k =>
  simp only [errA] at h;cases hc:decide (ids.getD (k+1) 0<=ids.getD k 0) with
  | true=>rw [hc] at h;simp [xam,sUF] at h;omega
  | false=>rw [hc] at h;exact hF _ h
theorem xGa {l:List Ve} {tm:Int} {ids:List Int} (h:(List.range ids.length).findSome? (errA l tm ids)=none):asc ids:=fun k hk=>by
 have:=List.findSome?_eq_none_iff.1 h (k+1) (List.mem_range.2 hk);simp only [errA] at this;cases hc:decide (ids.getD (k+1) 0<=ids.getD k 0) with
 | true=>rw [hc] at this;simp [xam,sUF] at this
 | false=>have:=of_decide_eq_false hc;omega
def ansV (l:List Ve) (ids:List Int) (F:List Fc) (c0 tm fs sc:Int):List AV×Int:=br (errV l ids F tm==0) ((appV l ids F c0 tm fs sc).map encW,0) ([],errV l ids F tm)
theorem xFd (l:List Ve) (ids:List Int) (F:List Fc) (c0 tm c2 c3 fs sc:Int) (hl:l.length<=1048576) (hi:ids.length<=1048576) (hF:F.length<=1048576) (hr:∀ v,v∈l->v.r.length<=1048576) (O:∀ f,f∈F->f.r.length<=1048576) :
  xgJ (l.map encW) (ids.map encN) (F.map encF) c0 tm c2 c3 fs sc=some (ansV l ids F c0 tm fs sc):=by
 unfold xgJ xma ansV;rw [xCZ l ids F c0 tm c2 c3 hl hi hF];cases he:errV l ids F tm==0 with
 | false =>
  have:(errV l ids F tm != 0)=true:=by simp [bne,he]
  simp only [zk,zh,xam,xah,this,sUF]
 | true =>
  have h0:errV l ids F tm=0:=by simpa using he
  have J:(List.range ids.length).findSome? (errA l tm ids)=none:=by
   cases hf:(List.range ids.length).findSome? (errA l tm ids) with
   | none=>rfl
   | some x =>
    obtain ⟨k,_,hk⟩:=List.exists_of_findSome?_eq_some hf;have hx:=xHK hk;unfold errV at h0;rw [hf] at h0;cases h1:decide (tm<0) with
    | true=>rw [h1] at h0;simp [xam,sUF] at h0
    | false =>
     cases h2:decide (tm>=1099511627776) with
     | true=>rw [h1,h2] at h0;simp [xam,xah,sUF] at h0
     | false=>rw [h1,h2] at h0;exact absurd h0 hx
  have q:=xGa J;have hb:∀ x,xeg (ids.map encN) x=some (Classical.choose (xC2 ids x hi q),ids.any (·==x)):=fun x=>Classical.choose_spec (xC2 ids x hi q)
  have e0:=xtk ids (F.map encF) fs sc c0 tm c2 c3 (fun x=>Classical.choose (xC2 ids x hi q)) hb l hl hr
  rw [xK1] at e0;have e1:=xut F (l.map fun v=>clo c0 tm (hit ids v) v) c0 tm c2 c3 fs sc hF (by rw [za];exact hl) O
  have e2:(errV l ids F tm != 0)=false:=by simp [h0]
  have tt:List.take ((l.map fun v=>clo c0 tm (hit ids v) v).length+F.length) ((appV l ids F c0 tm fs sc).map encW)=(appV l ids F c0 tm fs sc).map encW:=zi (by unfold appV;rw [za,z8,xrd];exact zd _)
  have ll:((appV l ids F c0 tm fs sc).map encW).length=(l.map fun v=>clo c0 tm (hit ids v) v).length+F.length:=by unfold appV;rw [za,z8,xrd]
  change Iter _ _=some ((l.map fun v=>clo c0 tm (hit ids v) v).length+F.length,(appV l ids F c0 tm fs sc).map encW) at e1
  simp only [xoQ,xoR,xoS,xoT,xoU,xoV,sUF];simp only [za] at e0 e1 ll tt |-;simp only [e0,e1,e2,zk,zh,xam,xah,zH,zr,tt,sUF];simp [ll,xam,xah,sUF]
def xLa (v x:Ve):Bool:=v.op&&(x.op&&v.id==x.id)
def xKZ (l:List Ve):Bool:=!((List.range l.length).any fun i=>(l.take i).any (xLa (l.getD i default)))
theorem xEI {n:Nat} {l:List Fc} (h:fewF n l=true):l.length<=n/\∀ f,f∈l->f.r.length<=60:=by
 simp only [fewF,zf,zl,zI] at h;exact h
theorem xB6 (c0 tm:Int) (b:Bool) (v:Ve):(clo c0 tm b v).r=v.r:=by cases b<;>rfl
theorem xHr {l:List Ve} {ids:List Int} {F:List Fc} {c0 tm fs sc:Int} {B:Nat} (h1:∀ v,v∈l->v.r.length<=B) (h2:∀ f,f∈F->f.r.length<=B):∀ v,v∈appV l ids F c0 tm fs sc->v.r.length<=B:=fun v hv=>by
 unfold appV opnV at hv;rcases zG.1 hv with hv|hv
 . obtain ⟨x,hx,rfl⟩:=zK.1 hv;rw [xB6];exact h1 x hx
 . obtain ⟨i,hi,rfl⟩:=zK.1 hv;rw [List.mem_range] at hi;refine h2 _ ?_;rw [z7,ze hi];exact zo hi
def okEW (x:AV):Bool:=x.cells.length==(9:Nat)&&xLE [Sh.int .i64,Sh.int .i64,Sh.list 3,Sh.int .i64,Sh.int .i64,Sh.int .i64,Sh.int .i64,Sh.int .i64,Sh.int .i64] x.cells 0
def ldEW (x:AV):AV:=.agg [.int .i64 (x.cells.getD 0 .top).toInt,.int .i64 (x.cells.getD 1 .top).toInt,.list 3 (x.cells.getD 2 .top).toList,.int .i64 (x.cells.getD 3 .top).toInt,.int .i64 (x.cells.getD 4 .top).toInt,.int .i64 (x.cells.getD 5 .top).toInt,.int .i64 (x.cells.getD 6 .top).toInt,.int .i64 (x.cells.getD 7 .top).toInt,.int .i64 (x.cells.getD 8 .top).toInt]
def xLj (x y:AV):Bool:=true
def xLk (x y:AV):Int:=xtL (x.cells.getD 0 .top).toInt (x.cells.getD 1 .top).toInt (x.cells.getD 2 .top).toList (x.cells.getD 3 .top).toInt (x.cells.getD 4 .top).toInt (x.cells.getD 5 .top).toInt (x.cells.getD 6 .top).toInt (x.cells.getD 7 .top).toInt (x.cells.getD 8 .top).toInt (y.cells.getD 0 .top).toInt (y.cells.getD 1 .top).toInt (y.cells.getD 2 .top).toList (y.cells.getD 3 .top).toInt (y.cells.getD 4 .top).toInt (y.cells.getD 5 .top).toInt (y.cells.getD 6 .top).toInt (y.cells.getD 7 .top).toInt (y.cells.getD 8 .top).toInt
theorem heW (a:Ve):okEW (encW a)=true:=rfl
theorem hdW (a:Ve):ldEW (encW a)=encW a:=rfl
section
variable {N : Nat} (hN : N <= 2 ^ 60) {ok : Ve -> Prop} {c : Ve -> Ve -> Int} (hc : ∀ x y, ok x -> ok y -> xLj (encW x) (encW y) = true /\ xLk (encW x) (encW y) = c x y)
include hN
include hc
theorem xJZ (a b:Nat) (ha:a<=N) (hb:b<=N) {l r:List Ve} (hl:LOk N ok l) (hr:xKD c a b l=some r):xbz N a b (List.map encW l)=some (List.map encW r)/\LOk N ok r:=by
 obtain ⟨e1,e2⟩:=xAY (enc:=encW) hN (c:=c) (ok:=ok) a b hb (gi:=fun i=>xbV N a b i) (fun i l r hl hr=>xCE (okE:=okEW) (ldE:=ldEW) heW hdW hN (P:=xLj) (V:=xLk) hc a (fun j xs=>rfl) hl hr) (g:=xbU N a b) (fun i xs=>rfl) hl hr
 refine ⟨?_,e2⟩;unfold xbz xeI;rw [w64 (x:=(a:Int)+1) (n:=a+1) (by omega) (by omega),e1];rfl
theorem xGQ (q:N<20) {l r:List Ve} (hl:LOk N ok l) (hr:xKD c 0 N l=some r):xfE N N (List.map encW l)=some (List.map encW r)/\LOk N ok r:=by
 obtain ⟨e1,e2⟩:=xJZ hN hc 0 N (by omega) (zd _) hl hr
 have e1:xbz N 0 N (List.map encW l)=_:=e1;have q0:Iter (xb5 N N 20) ((0:Int),(20:Int),List.map encW l)=some ((0:Int),List.map encW l):=by
  refine xaN ?_;have h1:¬ (20:Int)<=(N:Int):=by omega
  simp only [xb5,xfK,h1,zm,xah,sUF]
 have q1:Iter (xc1 N N) ((20:Int),List.map encW r)=some (List.map encW r):=by
  refine xaN ?_;have h1:¬ (20:Int)<(N:Int):=by omega
  simp only [xc1,xfL,h1,zm,xah,sUF]
 refine ⟨?_,e2⟩;simp only [xfE,xg3,xgG,xgH,xgI,q0,e1,q1,zk,zh,xam,sUF]
end
end Go.Sim.M
end
noncomputable section
set_option maxRecDepth 100000
namespace Go.Sim.M
open Go.RowKit Go.Sim.Srt
def cmpW (x y:Ve):Int:=xa3 x.id y.id
theorem xoN (x y:Int):(xa3 x y<0↔x<y)/\(0<xa3 x y↔y<x):=by
 rw [xvX];by_cases h1:x<y
 . simp [h1];omega
 . by_cases h2:x>y
   . simp [h1,h2]
   . simp [h1,h2]
theorem ordW:Ord cmpW:=⟨fun x y=>by
 unfold cmpW;have a:=xoN x.id y.id;have b:=xoN y.id x.id;rw [a.2,b.1],fun x y z h1 h2=>by
 unfold cmpW at *;have a:=xoN x.id y.id;have b:=xoN y.id z.id;have c:=xoN x.id z.id;have h1':¬ y.id<x.id:=fun h=>by have:=a.2.2 h;omega
 have h2':¬ z.id<y.id:=fun h=>by have:=b.2.2 h;omega
 have:¬ z.id<x.id:=by omega
 have:¬ 0<xa3 x.id z.id:=fun h=>this (c.2.1 h)
 omega⟩
theorem xGZ (l:List Ve) (q:l.length<20):∃ r,xfb l.length (l.map encW)=some (r.map encW)/\r.Perm l/\Sorted cmpW r:=by
 obtain ⟨r,e,p,s⟩:=xq4 ordW [] l [];simp only [zU,zD,List.length_nil,zH] at e;obtain ⟨e1,_⟩:=xGQ (N:=l.length) (by omega) (ok:=fun _=>True) (c:=cmpW) (fun x y _ _=>⟨rfl,rfl⟩) q ⟨rfl,fun _ _=>trivial⟩ e
 refine ⟨r,?_,p,s⟩;unfold xfb xgy;rw [e1];rfl
def xKQ (B:List Fc) (lf:List Bool) (v:Ve) (k:Nat):Bool:=!(lf.getD k false)&&((((B.getD k default).p.1==v.va.1)&&(((B.getD k default).p.2==v.va.2)&&true))&&decide ((B.getD k default).r=v.r))
def xKW (B:List Fc) (lf:List Bool) (v:Ve):Option Nat:=(List.range B.length).findSome? fun k=>br (xKQ B lf v k) (some k) none
theorem xJu (a b:Row) (h:a.length<=maxLen):xpC (a.map encV) (b.map encV)=some (decide (a=b)):=by
 unfold xpC xqw;rw [xy8 a b h];simp only [zk,zh,xam,cmp0,sUF]
theorem gB {l:List Bool} {k:Nat} (h:k<l.length):(l.map AV.bool).getD k .top=.bool (l.getD k false):=by
 rw [xaM _ _ _ h,z7,ze h,zh]
theorem xGL (l:List Bool) (k:Nat):(l.map AV.bool).set k (.bool true)=(l.set k true).map AV.bool:=by rw [List.map_set]
def xLb (B:List Fc) (lf:List Bool) (v:Ve):Bool×List AV×Nat×List AV:=match xKW B lf v with
 | some i=>(true,B.map encF,B.length,(lf.set i true).map AV.bool)
 | none=>(false,B.map encF,B.length,lf.map AV.bool)
theorem xIn (B:List Fc) (lf:List Bool) (v:Ve) (hB:B.length<=1048576) (q:lf.length=B.length) (hr:∀ f,f∈B->f.r.length<=maxLen) :
  xsE v.id v.sc (v.r.map encV) v.va.1 v.va.2 v.sy.1 v.sy.2 v.b v.u (B.map encF) B.length (lf.map AV.bool)=some (xLb B lf v):=by
 have:=xe1 (step:=xfH (B.map encF) ((B.length:Nat):Int)) (List.range B.length) (fun k=>(((k:Nat):Int),B.map encF,B.length,lf.map AV.bool,v.id,v.sc,v.r.map encV,v.va.1,v.va.2,v.sy.1,v.sy.2,v.b,v.u)) (fun k=>(br (xKQ B lf v k) (some k) none).map fun i=>(true,(true,B.map encF,B.length,(lf.set i true).map AV.bool),(([],0,[]):List AV×Nat×List AV))) (false,(false,[],0,[]),(B.map encF,B.length,lf.map AV.bool)) (fun k h=>by
  rw [List.getElem_range];rw [List.length_range] at h;have h1:(k:Int)<(B.length:Int):=by omega
  have h2:k<lf.length:=by omega
  have hm:=xJu (B.getD k default).r v.r (hr _ (by rw [z7,ze h];exact zo h))
  have c0:(AV.bool (lf.getD k false)).cells.getD 0 .top=.bool (lf.getD k false):=rfl;have s0:xLw Sh.bool (.bool (lf.getD k false))=true:=rfl;have t0:(AV.bool (lf.getD k false)).toBool=lf.getD k false:=rfl;simp only [xfH,xkr,xmP,sBU,h,h1,h2,gF h,gB h2,c0,s0,t0,cF0,cF1,cF2,sF0,sF1,sF2,lF,sF12,sF02,hm,xGL,xKQ,xq9,xiR,Option.map_some,Option.map_none,xe4,xe3,xvV,xKi (n:=k) (by omega)]) (by
  simp only [List.length_range,xfH,xkr,zy,zm,xah,sUF]) B.length 0 (by simp)
 rw [zr,xq0] at this;have e:((0:Nat):Int)=0:=rfl;rw [e] at this;unfold xsE xqZ;simp only [xp5,xp6,xp7,xp8,xp9,xqa,xqb,xqc,za,this,sUF];unfold xLb xKW;cases (List.range B.length).findSome? fun k=>br (xKQ B lf v k) (some k) none<;>rfl
def xKw (B:List Fc) (s:List Int×List Bool) (v:Ve):List Int×List Bool:=match xKW B s.2 v with
 | some i=>(s.1,s.2.set i true)
 | none=>(s.1++[v.id],s.2)
theorem fit8 {n:Nat} (h:n<=1048576):decide ((n+1)*8<=140737488355328)=true/\decide (n+1<=4611686018427387904)=true:=⟨decide_eq_true (by omega),decide_eq_true (by omega)⟩
theorem xtm (A:List Ve) (B:List Fc) (q:List Bool) (hA:A.length<=1048576) (hB:B.length<=1048576) (h0:q.length=B.length) (hr:∀ f,f∈B->f.r.length<=maxLen) :
  Iter (xdb A.length ((A.length:Nat):Int)) ((0:Nat),(0:Int),B.map encF,B.length,[],A.map encW,q.map AV.bool)=some ((A.foldl (xKw B) ([],q)).1.length,B.map encF,B.length,(A.foldl (xKw B) ([],q)).1.map encN,(A.foldl (xKw B) ([],q)).2.map AV.bool):=by
 have:=xnb (step:=xdb A.length ((A.length:Nat):Int)) A (xKw B) (fun n s=>(s.1.length,((n:Nat):Int),B.map encF,B.length,s.1.map encN,A.map encW,s.2.map AV.bool)) (fun n s=>s.1.length<=n/\s.2.length=B.length) (r:=((A.foldl (xKw B) ([],q)).1.length,B.map encF,B.length,(A.foldl (xKw B) ([],q)).1.map encN,(A.foldl (xKw B) ([],q)).2.map AV.bool)) (fun n h s ⟨i1,i2⟩=>by
  have h1:(n:Int)<(A.length:Int):=by omega
  have ht:=xIn B s.2 A[n] hB i2 hr;have gf:(A.map encW).getD n .top=encW A[n]:=xaM _ _ _ h;obtain ⟨m1,m2⟩:=fit8 (n:=s.1.length) (by omega)
  constructor
  . simp only [xdb,xhu,xff,xg9,xkh,xki,xa2,sBU,h,h1,gf,cW0,cW1,cW2,cW3,cW4,cW5,cW6,cW7,cW8,lW,sW,sW0,sW2,sW34,sW56,ht,m1,m2,xKi (n:=n) (by omega)]
    unfold xLb xKw;cases xKW B s.2 A[n] with
    | some i=>rfl
    | none =>
     simp only [Bool.not_false,xam,z8,zx,sUF];rfl
  . unfold xKw;cases xKW B s.2 A[n] with
    | some i=>exact ⟨by dsimp only;omega,by simpa using i2⟩
    | none=>exact ⟨by simp;omega,i2⟩) A.length 0 ([],q) (by omega) ⟨zd _,h0⟩ (by
  rw [zr];simp only [xdb,xhu,zy,zm,xah,sUF])
 exact this
def xKV (B:List Fc) (lf:List Bool) (F:List Fc) (k:Nat):List Fc:=match lf.getD k false with
 | true=>F
 | false=>F++[B.getD k default]
def xKl (B:List Fc) (lf:List Bool):List Fc:=(List.range B.length).foldl (xKV B lf) []
theorem xtn (B:List Fc) (lf:List Bool) (n0:Nat) (ids:List AV) (hB:B.length<=1048576) (h0:lf.length=B.length) :
  Iter (xdc n0 (B.map encF) ((B.length:Nat):Int)) ((0:Nat),(0:Int),B.length,ids,[],lf.map AV.bool)=some ((xKl B lf).length,ids,(xKl B lf).map encF):=by
 have:=xnb (step:=xdc n0 (B.map encF) ((B.length:Nat):Int)) (List.range B.length) (xKV B lf) (fun n F=>(F.length,((n:Nat):Int),B.length,ids,F.map encF,lf.map AV.bool)) (fun n F=>F.length<=n) (r:=((xKl B lf).length,ids,(xKl B lf).map encF)) (fun n h F i1=>by
  rw [List.getElem_range];rw [List.length_range] at h;have h1:(n:Int)<(B.length:Int):=by omega
  have h2:n<lf.length:=by omega
  have c0:(AV.bool (lf.getD n false)).cells.getD 0 .top=.bool (lf.getD n false):=rfl;have s0:xLw Sh.bool (.bool (lf.getD n false))=true:=rfl;have t0:(AV.bool (lf.getD n false)).toBool=lf.getD n false:=rfl;have m1:decide ((F.length+1)*40<=140737488355328)=true:=decide_eq_true (by omega)
  have m2:decide (F.length+1<=4611686018427387904)=true:=decide_eq_true (by omega)
  constructor
  . simp only [xdc,xhv,sBU,h,h1,h2,gF h,gB h2,c0,s0,t0,cF0,cF1,cF2,sF0,sF1,sF2,lF,sF12,sF02,m1,m2,xKi (n:=n) (by omega)]
    unfold xKV;cases lf.getD n false with
    | true=>rfl
    | false =>
     simp only [Bool.not_false,xam,z8,zx,sUF];rfl
  . unfold xKV;cases lf.getD n false with
    | true=>dsimp only;omega
    | false=>dsimp only;rw [z8,zj];omega) B.length 0 [] (by simp) (zd _) (by
  rw [zr,List.length_range];simp only [xdc,xhv,zy,zm,xah,sUF];rfl)
 exact this
theorem xuU (p:Nat->Bool):∀ n:Nat,(∃ i,(List.range n).findSome? (fun k=>br (p k) (some k) none)=some i/\i<n/\p i=true/\∀ k,k<i->p k=false)\/((List.range n).findSome? (fun k=>br (p k) (some k) none)=none/\∀ k,k<n->p k=false)
 | 0=>.inr ⟨rfl,fun k h=>by omega⟩
 | n+1=>by
  rw [List.range_succ,List.findSome?_append];rcases xuU p n with ⟨i,h1,h2,h3,h4⟩|⟨h1,h2⟩
  . exact .inl ⟨i,by rw [h1];rfl,by omega,h3,h4⟩
  . rw [h1];cases hp:p n with
    | true=>exact .inl ⟨n,by simp [hp,xam,sUF],by omega,hp,fun k hk=>h2 k hk⟩
    | false =>
     refine .inr ⟨by simp [hp,xah,sUF],fun k hk=>?_⟩
     rcases zJ k n with h|h
     . exact h2 k h
     . rw [show k=n by omega];exact hp
def xKh (B:List Fc) (f:Fc):Nat:=B.countP fun g=>decide (g=f)
def occF (B:List Fc) (k:Nat):Nat:=xKh (B.take k) (B.getD k default)
theorem xoC {B:List Fc} {k:Nat} (f:Fc) (h:k<B.length):xKh (B.take (k+1)) f=xKh (B.take k) f+if B.getD k default=f then 1 else 0:=by
 unfold xKh;rw [List.take_add_one,List.countP_append,ze h,z7,ze h];simp [List.countP_cons]
theorem xs3 {B:List Fc} (f:Fc):∀ d k,k+d<=B.length->xKh (B.take k) f<=xKh (B.take (k+d)) f
 | 0,_,_=>zd _
 | d+1,k,h=>by
  have a:=xs3 (B:=B) f d k (by omega)
  have b:=xoC f (k:=k+d) (B:=B) (by omega)
  rw [<-Nat.add_assoc];omega
theorem xAy {B:List Fc} {f:Fc} {i k:Nat} (hi:B.getD i default=f) (hk:B.getD k default=f) (h:i<k) (hn:k<B.length):occF B i<occF B k:=by
 unfold occF;rw [hi,hk];have a:=xoC f (k:=i) (B:=B) (by omega)
 rw [if_pos hi] at a;have b:=xs3 (B:=B) f (k - (i+1)) (i+1) (by omega)
 rw [show i+1+(k - (i+1))=k by omega] at b
 omega
theorem xyQ {B:List Fc} {f:Fc} {i:Nat} (hi:B.getD i default=f) (hn:i<B.length):occF B i<xKh B f:=by
 unfold occF;rw [hi];have a:=xoC f (k:=i) (B:=B) hn;rw [if_pos hi] at a;have b:=xs3 (B:=B) f (B.length - (i+1)) (i+1) (by omega)
 rw [show i+1+(B.length - (i+1))=B.length by omega,y4] at b
 omega
theorem xwn {B:List Fc} {f:Fc} {c:Nat}:∀ n,n<=B.length->c<xKh (B.take n) f->∃ k,k<n/\B.getD k default=f/\occF B k=c
 | 0,_,h=>by simp [xKh] at h
 | n+1,hn,h=>by
  have a:=xoC f (k:=n) (B:=B) (by omega)
  by_cases hb:B.getD n default=f
  . rw [if_pos hb] at a;rcases zJ c (xKh (B.take n) f) with q|J
    . obtain ⟨k,h1,h2,h3⟩:=xwn (B:=B) (f:=f) (c:=c) n (by omega) q
      exact ⟨k,by omega,h2,h3⟩
    . exact ⟨n,by omega,hb,by unfold occF;rw [hb];omega⟩
  . rw [if_neg hb] at a;obtain ⟨k,h1,h2,h3⟩:=xwn (B:=B) (f:=f) (c:=c) n (by omega) (by omega)
    exact ⟨k,by omega,h2,h3⟩
def cntA (A:List Ve) (f:Fc):Nat:=A.countP fun v=>decide (v.fc=f)
theorem xtJ (A:List Ve) (v:Ve) (f:Fc):cntA (A++[v]) f=cntA A f+if v.fc=f then 1 else 0:=by
 unfold cntA;rw [List.countP_append];simp [List.countP_cons]
def InvB (B:List Fc) (lf:List Bool) (A:List Ve):Prop:=lf.length=B.length/\∀ k,k<B.length->lf.getD k false=decide (occF B k<cntA A (B.getD k default))
theorem xvb {B:List Fc} {lf:List Bool} {v:Ve} {k:Nat}:xKQ B lf v k=true↔lf.getD k false=false/\B.getD k default=v.fc:=by
 unfold xKQ;generalize B.getD k default=g;obtain ⟨gr,gp⟩:=g;obtain ⟨g1,g2⟩:=gp;simp only [zf,Bool.not_eq_true',beq_iff_eq,zl,and_true,Ve.fc,Fc.mk.injEq];constructor
 . rintro ⟨h1,⟨h2,h3⟩,h4⟩;exact ⟨h1,h4,Prod.ext h2 h3⟩
 . rintro ⟨h1,h4,h5⟩;exact ⟨h1,⟨congrArg Prod.fst h5,congrArg Prod.snd h5⟩,h4⟩
theorem xFM {B:List Fc} {lf:List Bool} {A:List Ve} (h:InvB B lf A) (v:Ve) :
  (∃ i,xKW B lf v=some i/\cntA A v.fc<xKh B v.fc/\InvB B (lf.set i true) (A++[v]))\/(xKW B lf v=none/\xKh B v.fc<=cntA A v.fc/\InvB B lf (A++[v])):=by
 obtain ⟨hl,hk⟩:=h;unfold xKW;rcases xuU (xKQ B lf v) B.length with ⟨i,h1,h2,h3,h4⟩|⟨h1,h2⟩
 . obtain ⟨f1,f2⟩:=xvb.1 h3;have e:=hk i h2;rw [f1,f2] at e;have e1:cntA A v.fc<=occF B i:=Nat.not_lt.1 (of_decide_eq_false e.symm);have e2:=xyQ f2 h2;obtain ⟨k0,g1,g2,g3⟩:=xwn (B:=B) (f:=v.fc) (c:=cntA A v.fc) B.length (zd _) (by rw [y4];omega)
   have q:xKQ B lf v k0=true:=xvb.2 ⟨by rw [hk k0 g1,g2,g3];simp,g2⟩
   have V:k0=i:=by
    rcases Nat.lt_trichotomy k0 i with O|Y|U
    . rw [h4 k0 O] at q;simp at q
    . exact Y
    . have:=xAy f2 g2 U g1;omega
   subst V;refine .inl ⟨k0,h1,by omega,by rw [y2];exact hl,fun k J=>?_⟩
   rw [xtJ];by_cases Q:k=k0
   . subst Q;rw [z7,zL (by omega),if_pos g2.symm,g2,g3]
     simp
   . rw [z7,zX (fun e=>Q e.symm),<-z7,hk k J]
     by_cases hb:v.fc=B.getD k default
     . rw [if_pos hb];have hne:occF B k≠cntA A (B.getD k default):=by
        rw [<-hb,<-g3];rcases zJ k k0 with O|aa
        . have:=xAy hb.symm g2 O g1;omega
        . have:=xAy g2 hb.symm (by omega) J;omega
       rw [decide_eq_decide];omega
     . rw [if_neg hb];rfl
 . have Z:xKh B v.fc<=cntA A v.fc:=by
    refine Nat.not_lt.1 fun O=>?_
    obtain ⟨k0,g1,g2,g3⟩:=xwn (B:=B) (f:=v.fc) (c:=cntA A v.fc) B.length (zd _) (by rw [y4];omega)
    have q:xKQ B lf v k0=true:=xvb.2 ⟨by rw [hk k0 g1,g2,g3];simp,g2⟩
    rw [h2 k0 g1] at q;simp at q
   refine .inr ⟨h1,Z,hl,fun k J=>?_⟩
   rw [xtJ,hk k J];by_cases hb:v.fc=B.getD k default
   . rw [if_pos hb];have:=xyQ hb.symm J;rw [<-hb,decide_eq_decide];omega
   . rw [if_neg hb];rfl
def xKk (B:List Fc):List Ve->List Ve->List Ve
 | _,[]=>[]
 | P,v::A=>match decide (xKh B v.fc<=cntA P v.fc) with
  | true=>v::xKk B (P++[v]) A
  | false=>xKk B (P++[v]) A
theorem xoo (B:List Fc) (P:List Ve) (v:Ve) (A:List Ve):xKk B P (v::A)=match decide (xKh B v.fc<=cntA P v.fc) with
 | true=>v::xKk B (P++[v]) A
 | false=>xKk B (P++[v]) A:=by rw [xKk]
theorem xtO {B:List Fc}:∀ (A P:List Ve) (ids:List Int) (lf:List Bool),InvB B lf P->(A.foldl (xKw B) (ids,lf)).1=ids++(xKk B P A).map Ve.id/\InvB B (A.foldl (xKw B) (ids,lf)).2 (P++A)
 | [],P,ids,lf,h=>⟨by simp [xKk],by simpa using h⟩
 | v::A,P,ids,lf,h=>by
  rw [List.foldl_cons];have ha:P++v::A=(P++[v])++A:=by simp
  rw [ha];rcases xFM h v with ⟨i,h1,h2,h3⟩|⟨h1,h2,h3⟩
  . have e:xKw B (ids,lf) v=(ids,lf.set i true):=by unfold xKw;rw [h1]
    have hd:decide (xKh B v.fc<=cntA P v.fc)=false:=decide_eq_false (by omega)
    rw [e];obtain ⟨a,b⟩:=xtO A (P++[v]) ids (lf.set i true) h3;refine ⟨?_,b⟩;rw [a,xoo,hd]
  . have e:xKw B (ids,lf) v=(ids++[v.id],lf):=by unfold xKw;rw [h1]
    have hd:decide (xKh B v.fc<=cntA P v.fc)=true:=decide_eq_true h2;rw [e];obtain ⟨a,b⟩:=xtO A (P++[v]) (ids++[v.id]) lf h3;refine ⟨?_,b⟩;rw [a,xoo,hd];simp
theorem xLv (B:List Fc):InvB B (List.replicate B.length false) []:=⟨by simp,fun k hk=>by
 rw [z7,List.getElem?_replicate,if_pos hk];simp [cntA]⟩
theorem xy0 (B:List Fc):∀ (A P:List Ve),(xKk B P A).length<=A.length
 | [],_=>by simp [xKk]
 | v::A,P=>by
  have ih:=xy0 B A (P++[v]);rw [xoo];cases decide (xKh B v.fc<=cntA P v.fc)<;>simp<;>omega
theorem xBA (l:List Ve) (to:List AV) (B:List Fc) (hB:xbm to=some (B.map encF)) (O:B.length<=1048576) (Q:∀ f,f∈B->f.r.length<=maxLen) (hl:l.length<20) :
  ∃ A lf,A.Perm (l.filter Ve.op)/\Sorted cmpW A/\InvB B lf A/\xcK (l.map encW) to=some (((xKk B [] A).map Ve.id).map encN,(xKl B lf).map encF):=by
 have U:(l.filter Ve.op).length<=l.length:=List.length_filter_le _ _;obtain ⟨A,a1,a2,a3⟩:=xGZ (l.filter Ve.op) (by omega)
 have J:A.length=(l.filter Ve.op).length:=a2.length_eq;obtain ⟨f1,f2⟩:=xtO A [] [] (List.replicate B.length false) (xLv B);have e0:=xtm A B (List.replicate B.length false) (by omega) O (by simp) Q
 generalize hs:A.foldl (xKw B) ([],List.replicate B.length false)=s at f1 f2 e0;obtain ⟨ids,lf⟩:=s;simp only [zU] at f1 f2;subst f1;have e1:=xtn B lf ((xKk B [] A).map Ve.id).length (((xKk B [] A).map Ve.id).map encN) O f2.1;refine ⟨A,lf,a2,a3,f2,?_⟩;have r1:rfOk 88 (l.map encW) []=true:=by
  unfold rfOk;rw [xvk,Bool.true_and,zl];simp only [List.length_nil,za];omega
 have n1:(((B.map encF).length:Nat):Int).toNat=B.length:=by rw [za];rfl
 have n2:decide ((1:Int)*(B.length:Int)<=281474976710656)=true:=decide_eq_true (by omega)
 have n3:decide ((B.length:Int)<=4611686018427387904)=true:=decide_eq_true (by omega)
 have rp:List.replicate B.length (AV.bool false)=(List.replicate B.length false).map AV.bool:=by rw [List.map_replicate]
 have q:((l.filter Ve.op).map encW).length=A.length:=by rw [za,J]
 rw [<-J] at a1;unfold xcK xkp xaP;simp only [xmE,xmF,xmG,xmH,xmI,xmJ,xjG,xmK,xmL,xmM,xlM,xlN,xlO,xaP,hB,xvt,zU,zk,zh,xam,n1,r1,q,a1,rp,sUF];simp only [za] at e0 e1 |-;simp only [e0,e1,zk,zh,xam,n2,n3,Int.le_refl,zn,zS,Bool.true_and,zH,za,zd,zr,sUF];have t1:List.take (xKk B [] A).length (((xKk B [] A).map Ve.id).map encN)=((xKk B [] A).map Ve.id).map encN:=zi (by simp)
 have t2:List.take (xKl B lf).length ((xKl B lf).map encF)=(xKl B lf).map encF:=zi (by simp)
 simp only [t1,t2]
def xLu (f:Fc) (x:Ve):Bool:=x.op&&decide (x.fc=f)
def xK2 (l:List Ve) (f:Fc):Nat:=l.countP (xLu f)
def opnS (l:List Ve) (B:List Fc) (F:List Fc) (k:Nat):List Fc:=br (decide (((xKh (B.take k) (B.getD k default):Nat):Int)>=((xK2 l (B.getD k default):Nat):Int))) (F++[B.getD k default]) F
theorem xv9 {α β:Type} {f g:β->α->β}:∀ (l:List α) (b:β),(∀ a,a∈l->∀ b,f b a=g b a)->l.foldl f b=l.foldl g b
 | [],b,_=>rfl
 | a::l,b,h=>by
  rw [List.foldl_cons,List.foldl_cons,h a (by simp)]
  exact xv9 l _ fun x hx=>h x (by simp [hx])
theorem xEw {l A:List Ve} (h:A.Perm (l.filter Ve.op)) (q:Ve->Bool):A.countP q=l.countP fun x=>x.op&&q x:=by
 rw [h.countP_eq,List.countP_filter];congr 1;funext x;exact Bool.and_comm _ _
theorem xHV {l A:List Ve} {B:List Fc} {lf:List Bool} (h:A.Perm (l.filter Ve.op)) (hi:InvB B lf A):xKl B lf=(List.range B.length).foldl (opnS l B) []:=by
 refine xv9 _ _ fun k hk F=>?_
 have e:=hi.2 k (List.mem_range.1 hk);have hc:cntA A (B.getD k default)=xK2 l (B.getD k default):=xEw h _;rw [hc] at e;unfold xKV opnS;rw [e];by_cases hd:occF B k<xK2 l (B.getD k default)
 . have:¬ ((xKh (B.take k) (B.getD k default):Nat):Int)>=((xK2 l (B.getD k default):Nat):Int):=by unfold occF at hd;omega
   rw [decide_eq_true hd,decide_eq_false this];rfl
 . have:((xKh (B.take k) (B.getD k default):Nat):Int)>=((xK2 l (B.getD k default):Nat):Int):=by unfold occF at hd;omega
   rw [decide_eq_false hd,decide_eq_true this];rfl
theorem xGp {l:List Ve} (h:xKZ l=true):(l.filter Ve.op).Pairwise fun a b=>a.id≠b.id:=by
 rw [List.pairwise_filter,zB];intro i j hi hj q ha hb e;unfold xKZ at h;rw [Bool.not_eq_true',<-Bool.not_eq_true,List.any_eq_true] at h;refine h ⟨j,List.mem_range.2 hj,List.any_eq_true.2 ⟨l[i],?_,?_⟩⟩
 . have hit:i<(l.take j).length:=by rw [zt];omega
   have:=zo hit;rwa [List.getElem_take] at this
 . rw [z7,ze hj,zh];unfold xLa;rw [hb,ha,e];simp
theorem xIU {l A:List Ve} (hp:A.Perm (l.filter Ve.op)) (hs:Sorted cmpW A) (h:xKZ l=true):A.Pairwise fun a b=>a.id<b.id:=by
 have h1:A.Pairwise fun a b=>a.id≠b.id:=(List.Perm.pairwise_iff (fun h e=>h e.symm) hp).2 (xGp h)
 unfold Sorted at hs;rw [zB] at h1 hs |-;intro i j hi hj q;have a:=h1 i j hi hj q;have b:=hs i j hi hj q;have c:=(xoN A[i].id A[j].id).2;unfold cmpW at b;have:¬ A[j].id<A[i].id:=fun h=>by have:=c.2 h;omega
 omega
theorem xrJ (B:List Fc):∀ (A P:List Ve),(xKk B P A).Sublist A
 | [],_=>by unfold xKk;exact List.Sublist.refl _
 | v::A,P=>by
  have ih:=xrJ B A (P++[v]);rw [xoo];cases decide (xKh B v.fc<=cntA P v.fc) with
  | true=>exact ih.cons_cons v
  | false=>exact ih.cons v
theorem xCq (l:List Ve) (B:List Fc):∀ (L:List Nat) (F:List Fc),(∀ k,k∈L->k<B.length)->(∀ f,f∈L.foldl (opnS l B) F->f∈F\/f∈B)/\(L.foldl (opnS l B) F).length<=F.length+L.length
 | [],F,_=>⟨fun f hf=>.inl hf,zd _⟩
 | k::L,F,h=>by
  rw [List.foldl_cons];obtain ⟨a,b⟩:=xCq l B L (opnS l B F k) fun j hj=>h j (by simp [hj])
  have hk:=h k (by simp)
  have q:B.getD k default∈B:=by rw [z7,ze hk];exact zo hk
  have hs:(∀ f,f∈opnS l B F k->f∈F\/f∈B)/\(opnS l B F k).length<=F.length+1:=by
   unfold opnS;cases decide (((xKh (B.take k) (B.getD k default):Nat):Int)>=((xK2 l (B.getD k default):Nat):Int)) with
   | true =>
    rw [xam];refine ⟨fun f hf=>?_,by simp⟩
    rcases zG.1 hf with hf|hf
    . exact .inl hf
    . rw [zv] at hf;subst hf;exact .inr q
   | false=>rw [xah];exact ⟨fun f hf=>.inl hf,by omega⟩
  refine ⟨fun f hf=>?_,by rw [zF];omega⟩
  rcases a f hf with hf|hf
  . exact hs.1 f hf
  . exact .inr hf
theorem xGn (p:Per) (t:Int):xhB p.1 p.2 t=hasP p t:=by
 unfold xhB hasP;rw [xe5];by_cases h1:p.1<=t<;>cases pv p<;>simp [h1,xbo,sUF]
def selP (at0:Int) (v:Ve):Bool:=pv v.sy&&hasP v.sy at0
theorem xtP {α:Type} (p:α->Bool):∀ (l D:List α),l.foldl (fun D x=>br (p x) (D++[x]) D) D=D++l.filter p
 | [],D=>by simp
 | x::l,D=>by
  rw [List.foldl_cons,xtP p l,List.filter_cons];cases p x<;>simp [xam,xah,sUF]
theorem xFz (l:List Ve) (at0:Int) (hl:l.length<=1048576) (hr:∀ v,v∈l->v.r.length<=1048576):xhl (l.map encW) at0=some ((l.filter (selP at0)).map encW):=by
 have:=xnb (step:=xdd (l.map encW) ((l.length:Nat):Int)) l (fun D x=>br (selP at0 x) (D++[x]) D) (fun n (D:List Ve)=>(D.length,((n:Nat):Int),(1:Int),at0,(0:Int),D.map encW)) (fun n D=>D.length<=n) (r:=((l.filter (selP at0)).length,(l.filter (selP at0)).map encW)) (fun n h D i1=>by
  have h1:(n:Int)<(l.length:Int):=by omega
  have hm:=xKx (hr l[n] (zo h));have gf:(l.map encW).getD n .top=encW l[n]:=xaM _ _ _ h;have m1:decide ((D.length+1)*88<=140737488355328)=true:=decide_eq_true (by omega)
  have m2:decide (D.length+1<=4611686018427387904)=true:=decide_eq_true (by omega)
  constructor
  . simp only [xdd,xhA,xfg,sBU,h,h1,gf,cW0,cW1,cW2,cW3,cW4,cW5,cW6,cW7,cW8,lW,sW,sW0,sW2,sW34,sW56,xe5,xrR,xGn,hm.1,hm.2,zU,zr,xK6,zd,m1,m2,xKi (n:=n) (by omega),selP]
    cases pv l[n].sy<;>cases hasP l[n].sy at0<;>simp [xam,xah,encW,sUF]
  . cases selP at0 l[n]<;>simp [xam,xah,sUF]<;>omega) l.length 0 [] (by omega) (zd _) (by
  rw [zr,xtP,zU];simp only [xdd,xhA,za,zy,zm,xah,sUF])
 have e:Iter (xdd (l.map encW) ((l.length:Nat):Int)) ((0:Nat),(0:Int),(1:Int),(xtZ at0).snd.fst,(0:Int),[])=some ((l.filter (selP at0)).length,(l.filter (selP at0)).map encW):=this;generalize l.filter (selP at0)=D at e |-;have tt:List.take D.length (D.map encW)=D.map encW:=zi (by simp)
 unfold xhl xnO;simp only [xmU,xmV,xmW,xmX,e,zk,zh,xam,zH,za,zd,zn,zS,zr,tt,sUF]
theorem xsM (l:List Ve) (hl:l.length<=1048576) (hr:∀ v,v∈l->v.r.length<=1048576):Iter (xcB (l.map encW) ((l.length:Nat):Int)) ((0:Nat),(0:Int),[])=some ((l.flatMap (fun (f:Ve)=>[Ve.fc f])).length,(l.flatMap (fun (f:Ve)=>[Ve.fc f])).map encF):=by
 refine xgU l (fun (f:Ve)=>[Ve.fc f]) encF 1 (fun f hf=>?_) (fun n h D hD=>?_) (fun D=>?_)
 . simp
 . have h1:(n:Int)<(l.length:Int):=by omega
   have m1:(D.length+1)*40<=140737488355328:=by omega
   have m2:D.length+1<=4611686018427387904:=by omega
   have gf:(l.map encW).getD n .top=encW l[n]:=xaM _ _ _ h;have hm:=xKx (hr _ (zo h));simp only [xcB,xiy,xdl,sBU,h,h1,gf,cW0,cW1,cW2,cW3,cW4,cW5,cW6,cW7,cW8,lW,sW,sW0,sW2,sW34,sW56,hm.1,hm.2,zU,zr,xK6,zd,m1,m2,xKi (n:=n) (by omega)]
   simp [encF]
 . simp only [xcB,xiy,xdl,za,zy,zm,xah,sUF]
theorem xE1 (l:List Ve) (hl:l.length<=1048576) (hr:∀ v,v∈l->v.r.length<=1048576):xkV (l.map encW)=some ((l.map Ve.fc).map encF):=by
 have e:=xsM l hl hr;rw [xK1] at e;have e':Iter (xcB (l.map encW) ((l.length:Nat):Int)) ((0:Nat),(0:Int),[])=some ((l.map Ve.fc).length,(l.map Ve.fc).map encF):=e;generalize l.map Ve.fc=D at e' |-;have tt:List.take D.length (D.map encF)=D.map encF:=zi (by simp)
 unfold xkV xox;simp only [xnL,xnM,xnN,e',zk,zh,xam,zH,za,zd,zn,zS,zr,tt,sUF]
def xKr (l:List Ve) (at0:Int):List Fc:=(l.filter (selP at0)).map Ve.fc
theorem xvG (l:List Ve) (at0:Int) (hl:l.length<=1048576) (hr:∀ v,v∈l->v.r.length<=1048576):xbZ (l.map encW) at0=xbm ((xKr l at0).map encF):=by
 have e1:=xFz l at0 hl hr;have e2:=xE1 (l.filter (selP at0)) (Nat.le_trans (List.length_filter_le _ _) hl) (fun v hv=>hr v (List.mem_filter.1 hv).1)
 unfold xbZ xo0 xKr;simp only [e1,e2,zk,zh,xam,xvW,sUF]
theorem sW6 (v:Ve):xLw (Sh.int .i64) ((encW v).cells.getD 6 .top)=true:=rfl
theorem sW7 (v:Ve):xLw (Sh.int .i64) ((encW v).cells.getD 7 .top)=true:=rfl
theorem sW8 (v:Ve):xLw (Sh.int .i64) ((encW v).cells.getD 8 .top)=true:=rfl
def mx (a b:Int):Int:=if a>b then a else b
def xKu (s:Int×Int×Int) (v:Ve):Int×Int×Int:=(br (decide (v.sy.2<1099511627776)) (mx v.sy.2 (mx v.sy.1 s.1)) (mx v.sy.1 s.1),mx (mx v.u v.b) s.2.1,mx v.id s.2.2)
theorem xHU (l:List Ve) (hl:l.length<=1048576):xgq (l.map encW)=some (l.foldl xKu (0,0,0)):=by
 have:=xnb (step:=xez (l.map encW)) l xKu (fun n (s:Int×Int×Int)=>(s.1,s.2.1,s.2.2,((n:Nat):Int))) (fun n s=>True) (r:=l.foldl xKu (0,0,0)) (fun n h s _=>by
  have h1:(n:Int)<(l.length:Int):=by omega
  have gf:(l.map encW).getD n .top=encW l[n]:=xaM _ _ _ h;refine ⟨?_,trivial⟩;simp only [xez,xks,xjN,xgV,xb7,sBU,h,h1,gf,cW0,cW1,cW2,cW3,cW4,cW5,cW6,cW7,cW8,lW,sW,sW0,sW2,sW34,sW56,sW5,sW6,sW7,sW8,xKi (n:=n) (by omega),xKu,mx]
  cases decide (l[n].sy.2<1099511627776)<;>rfl) l.length 0 (0,0,0) (by omega) trivial (by
  rw [zr];simp only [xez,xks,za,zy,zm,xah,sUF])
 have e:Iter (xez (l.map encW)) ((0:Int),(0:Int),(0:Int),(0:Int))=some (l.foldl xKu (0,0,0)):=this;unfold xgq xq7;simp only [xqd,xqe,xqf,e,zk,zh,xam,sUF]
theorem xAu (a b:Int):a<=mx a b:=by unfold mx;split<;>omega
theorem xAv (a b:Int):b<=mx a b:=by unfold mx;split<;>omega
def Bnd3 (s:Int×Int×Int) (v:Ve):Prop:=v.sy.1<=s.1/\(v.sy.2<1099511627776->v.sy.2<=s.1)/\v.b<=s.2.1/\v.u<=s.2.1/\v.id<=s.2.2
theorem xGg (s:Int×Int×Int) (v:Ve):s.1<=(xKu s v).1/\s.2.1<=(xKu s v).2.1/\s.2.2<=(xKu s v).2.2/\Bnd3 (xKu s v) v:=by
 have a1:=xAu v.sy.1 s.1;have a2:=xAv v.sy.1 s.1;have b1:=xAu v.sy.2 (mx v.sy.1 s.1);have b2:=xAv v.sy.2 (mx v.sy.1 s.1);have c1:=xAu v.u v.b;have c2:=xAv v.u v.b;have c3:=xAu (mx v.u v.b) s.2.1;have c4:=xAv (mx v.u v.b) s.2.1;have d1:=xAu v.id s.2.2;have d2:=xAv v.id s.2.2;unfold xKu Bnd3;by_cases h:v.sy.2<1099511627776
 . rw [decide_eq_true h,xam];refine ⟨?_,?_,?_,?_,?_,?_,?_,?_⟩<;>dsimp only<;>omega
 . rw [decide_eq_false h,xah];refine ⟨?_,?_,?_,?_,?_,?_,?_,?_⟩<;>dsimp only<;>omega
theorem xyJ:∀ (l:List Ve) (s:Int×Int×Int),s.1<=(l.foldl xKu s).1/\s.2.1<=(l.foldl xKu s).2.1/\s.2.2<=(l.foldl xKu s).2.2/\∀ v,v∈l->Bnd3 (l.foldl xKu s) v
 | [],s=>⟨Int.le_refl _,Int.le_refl _,Int.le_refl _,fun v hv=>by simp at hv⟩
 | w::l,s=>by
  rw [List.foldl_cons];obtain ⟨a1,a2,a3,a4⟩:=xGg s w;obtain ⟨b1,b2,b3,b4⟩:=xyJ l (xKu s w);refine ⟨by omega,by omega,by omega,fun v hv=>?_⟩
  rcases zC.1 hv with rfl|hv
  . obtain ⟨c1,c2,c3,c4,c5⟩:=a4;exact ⟨by omega,fun h=>by have:=c2 h;omega,by omega,by omega,by omega⟩
  . exact b4 v hv
theorem xGU {tx tm:Int} {v:Ve} {b:Bool} (hb:v.b<=tx) (hu:v.u<=tx) (ho:b=true->v.sy.2=xKm/\v.u=0):xKF (tx+1) (clo (tx+1) tm b v)=[v]:=by
 obtain ⟨id,sc,r,va,⟨s1,s2⟩,vb,u⟩:=v;dsimp only at hb hu;have h1:¬ vb>=tx+1:=by omega
 have h2:¬ u>=tx+1:=by omega
 cases b with
 | false=>unfold clo xKF;simp [h1,h2]
 | true =>
  obtain ⟨h3,h4⟩:=ho rfl;dsimp only at h3 h4;subst h3 h4;have h5:tx+1>=tx+1:=Int.le_refl _;unfold clo xKF;simp [h1,h5]
theorem xGV (fs sc tx tm:Int) (F:List Fc) (k:Nat):(opnV fs sc (tx+1) tm F k).flatMap (xKF (tx+1))=[]:=by
 unfold opnV;rw [List.flatMap_eq_nil_iff];intro v hv;obtain ⟨i,_,rfl⟩:=zK.1 hv;have:(opn1 fs sc (tx+1) tm i (F.getD i default)).b>=tx+1:=Int.le_refl _;unfold xKF;rw [decide_eq_true this];rfl
theorem xsz {v:Ve} (h:bad1 v=false):1<=v.id/\1<=v.b/\0<=v.sc/\0<=v.u/\pv v.va=true/\pv v.sy=true/\(v.u≠0->v.b<v.u/\v.sy.2≠xKm):=by
 unfold bad1 at h;simp only [Bool.or_eq_false_iff,decide_eq_false_iff_not,Bool.not_eq_false',Bool.and_eq_false_iff] at h;obtain ⟨h1,h2,h3,h4,h5,h6,h7⟩:=h;refine ⟨by omega,by omega,by omega,by omega,h5,h6,fun hu=>?_⟩
 rcases h7 with h7|h7
 . exact absurd (by simpa using h7) hu
 . exact ⟨by omega,by simpa using h7.2⟩
theorem xH2 {v:Ve} (h:v.op=true):pv v.sy=true/\v.sy.2=xKm:=by
 unfold Ve.op at h;rw [zf] at h;exact ⟨h.1,by simpa using h.2⟩
theorem xne {p:Per}:pv p=true↔0<=p.1/\p.1<p.2/\p.2<=1099511627776:=by
 unfold pv;simp
structure Hs (l:List Ve) (tm tx d:Int):Prop where
 ok:∀ v,v∈l->bad1 v=false
 bnd:∀ v,v∈l->Bnd3 (tm,tx,d) v
 t0:0<=tm
 t1:tm<1099511627775
theorem Hs.hit_open {l:List Ve} {tm tx d:Int} (h:Hs l tm tx d) {v:Ve} (hv:v∈l) {ids:List Int} (hh:hit ids v=true):v.sy.2=xKm/\v.u=0:=by
 unfold hit at hh;rw [zf] at hh;have e:=(xH2 hh.1).2;refine ⟨e,?_⟩;obtain ⟨_,_,_,_,_,_,g⟩:=xsz (h.ok v hv);by_cases hu:v.u=0
 . exact hu
 . exact absurd e (g hu).2
theorem xGT {l:List Ve} {tm tx d:Int} (h:Hs l tm tx d) (ids:List Int) (F:List Fc) (fs sc:Int):(appV l ids F (tx+1) (tm+1) fs sc).flatMap (xKF (tx+1))=l:=by
 unfold appV;rw [List.flatMap_append,xGV,zD];have:∀ L:List Ve,(∀ v,v∈L->v∈l)->(L.map fun v=>clo (tx+1) (tm+1) (hit ids v) v).flatMap (xKF (tx+1))=L:=by
  intro L;induction L with
  | nil=>intro _;rfl
  | cons v L ih =>
   intro hm;have hv:=hm v (by simp)
   obtain ⟨_,_,b3,b4,_⟩:=h.bnd v hv;rw [zV,zR,xGU b3 b4 (fun hh=>h.hit_open hv hh),ih fun w hw=>hm w (by simp [hw])]
   rfl
 exact this l fun v hv=>hv
theorem xEu (c0 tm:Int) (b:Bool) (v:Ve):(clo c0 tm b v).fc=v.fc:=by cases b<;>rfl
theorem xBJ {l:List Ve} {tm tx d:Int} (h:Hs l tm tx d) {v:Ve} (hv:v∈l) (ids:List Int) {at0:Int} (ha:at0<tm+1):selP at0 (clo (tx+1) (tm+1) (hit ids v) v)=selP at0 v:=by
 cases hh:hit ids v with
 | false=>rfl
 | true =>
  obtain ⟨e,_⟩:=h.hit_open hv hh;obtain ⟨_,_,_,_,_,g,_⟩:=xsz (h.ok v hv);obtain ⟨b1,_⟩:=h.bnd v hv;have t1:=h.t1;obtain ⟨g1,g2,g3⟩:=xne.1 g;unfold xKm at e;have p1:pv (v.sy.1,tm+1)=true:=xne.2 ⟨g1,by dsimp only at b1 |-;omega,by dsimp only;omega⟩
  unfold selP clo hasP;dsimp only;rw [p1,g];have q1:decide (at0<tm+1)=true:=decide_eq_true ha;have q2:decide (at0<v.sy.2)=true:=decide_eq_true (by omega)
  simp [q1,q2,ha,show at0<v.sy.2 by omega]
theorem xFH {l:List Ve} {tm tx d:Int} (h:Hs l tm tx d) (ids:List Int) (F:List Fc) (fs sc:Int) {at0:Int} (ha:at0<tm+1):xKr (appV l ids F (tx+1) (tm+1) fs sc) at0=xKr l at0:=by
 unfold xKr appV;rw [List.filter_append,zx];have z:(opnV fs sc (tx+1) (tm+1) F F.length).filter (selP at0)=[]:=by
  rw [List.filter_eq_nil_iff];intro v hv;unfold opnV at hv;obtain ⟨i,_,rfl⟩:=zK.1 hv;have:¬ tm+1<=at0:=by omega
  unfold selP hasP opn1;simp [this]
 rw [z,zW,zD];have:∀ L:List Ve,(∀ v,v∈L->v∈l)->((L.map fun v=>clo (tx+1) (tm+1) (hit ids v) v).filter (selP at0)).map Ve.fc=(L.filter (selP at0)).map Ve.fc:=by
  intro L;induction L with
  | nil=>intro _;rfl
  | cons v L ih =>
   intro hm;rw [zV,List.filter_cons,List.filter_cons,xBJ h (hm v (by simp)) ids ha]
   have i:=ih fun w hw=>hm w (by simp [hw])
   cases selP at0 v with
   | true=>simp only [if_true,zV,i,xEu]
   | false=>simpa using i
 exact this l fun v hv=>hv
theorem xIa {l:List Ve} {tm tx d:Int} (h:Hs l tm tx d) (ids:List Int) (F:List Fc) (fs sc:Int):∀ w,w∈appV l ids F (tx+1) (tm+1) fs sc->selP (tm+1) w=w.op:=fun w hw=>by
 have t0:=h.t0;have t1:=h.t1;unfold appV at hw;rcases zG.1 hw with hw|hw
 . obtain ⟨v,hv,rfl⟩:=zK.1 hw;obtain ⟨_,_,_,_,_,g,_⟩:=xsz (h.ok v hv);obtain ⟨b1,b2,_⟩:=h.bnd v hv;obtain ⟨g1,g2,g3⟩:=xne.1 g;cases hh:hit ids v with
   | true =>
    have e1:¬ tm+1=1099511627776:=by omega
    unfold selP clo hasP Ve.op xKm;simp [e1]
   | false =>
    show selP (tm+1) v=v.op;unfold selP hasP Ve.op xKm;rw [g];dsimp only at b1 b2;by_cases hf:v.sy.2=1099511627776
    . have a1:v.sy.1<=tm+1:=by omega
      have a2:tm+1<v.sy.2:=by omega
      simp [hf,a1];omega
    . have:=b2 (by omega)
      have a2:¬ tm+1<v.sy.2:=by omega
      simp [hf,a2]
 . unfold opnV at hw;obtain ⟨i,_,rfl⟩:=zK.1 hw;have p:pv (tm+1,1099511627776)=true:=xne.2 ⟨by dsimp only;omega,by dsimp only;omega,Int.le_refl _⟩
   unfold selP hasP Ve.op opn1 xKm;simp [p];omega
theorem xFG {l:List Ve} {tm tx d:Int} (h:Hs l tm tx d) (ids:List Int) (F:List Fc) (fs sc:Int):xKr (appV l ids F (tx+1) (tm+1) fs sc) (tm+1)=xKv (appV l ids F (tx+1) (tm+1) fs sc):=by
 unfold xKr xKv;rw [List.filter_congr (xIa h ids F fs sc)]
def takV (B:List Fc):List Ve->List Ve->List Ve
 | _,[]=>[]
 | P,v::A=>match decide (xKh B v.fc<=cntA P v.fc) with
  | true=>takV B (P++[v]) A
  | false=>v::takV B (P++[v]) A
theorem xy7 (B:List Fc) (P:List Ve) (v:Ve) (A:List Ve):takV B P (v::A)=match decide (xKh B v.fc<=cntA P v.fc) with
 | true=>takV B (P++[v]) A
 | false=>v::takV B (P++[v]) A:=by rw [takV]
theorem xtI (v:Ve) (A:List Ve) (f:Fc):cntA (v::A) f=cntA A f+if v.fc=f then 1 else 0:=by
 unfold cntA;simp [List.countP_cons]
theorem xA4 (B:List Fc) (f:Fc):∀ (A P:List Ve),cntA (takV B P A) f+min (xKh B f) (cntA P f)=min (xKh B f) (cntA P f+cntA A f)
 | [],P=>by simp [takV,cntA]
 | v::A,P=>by
  have ih:=xA4 B f A (P++[v]);rw [xtJ] at ih;rw [xy7,xtI];by_cases hf:v.fc=f
  . subst hf;rw [if_pos rfl] at ih |-;by_cases hd:xKh B v.fc<=cntA P v.fc
    . rw [decide_eq_true hd];dsimp only;omega
    . rw [decide_eq_false hd];dsimp only;rw [xtI,if_pos rfl];omega
  . rw [if_neg hf] at ih |-;by_cases hd:xKh B v.fc<=cntA P v.fc
    . rw [decide_eq_true hd];dsimp only;omega
    . rw [decide_eq_false hd];dsimp only;rw [xtI,if_neg hf];omega
theorem xwR (F:List Fc) (g f:Fc):xKh (F++[g]) f=xKh F f+if g=f then 1 else 0:=by
 unfold xKh;rw [List.countP_append];simp [List.countP_cons]
theorem xAo {B:List Fc} {lf:List Bool} {A:List Ve} (h:InvB B lf A) (f:Fc):∀ n,n<=B.length->xKh ((List.range n).foldl (xKV B lf) []) f+min (xKh (B.take n) f) (cntA A f)=xKh (B.take n) f
 | 0,_=>by simp [xKh]
 | n+1,hn=>by
  have ih:=xAo h f n (by omega)
  have e:=h.2 n (by omega)
  have tt:=xoC f (k:=n) (B:=B) (by omega)
  rw [List.range_succ,List.foldl_append,List.foldl_cons,List.foldl_nil,tt];generalize (List.range n).foldl (xKV B lf) []=F at ih |-;unfold xKV;rw [e];by_cases hf:B.getD n default=f
  . rw [if_pos hf];unfold occF;rw [hf];by_cases hd:xKh (B.take n) f<cntA A f
    . rw [decide_eq_true hd];dsimp only;omega
    . rw [decide_eq_false hd];dsimp only;rw [xwR,if_pos rfl];omega
  . rw [if_neg hf];by_cases hd:occF B n<cntA A (B.getD n default)
    . rw [decide_eq_true hd];dsimp only;omega
    . rw [decide_eq_false hd];dsimp only;rw [xwR,if_neg hf];omega
theorem xGl {B:List Fc} {lf:List Bool} {A:List Ve} (h:InvB B lf A) (f:Fc):cntA (takV B [] A) f+xKh (xKl B lf) f=xKh B f:=by
 have a:=xA4 B f A [];have b:=xAo h f B.length (zd _);rw [y4] at b;have z:cntA [] f=0:=rfl;rw [z] at a;change xKh (xKl B lf) f+_=_ at b;omega
theorem xFN (A:List Ve) (f:Fc):xKh (A.map Ve.fc) f=cntA A f:=by
 unfold xKh cntA;rw [List.countP_map];rfl
theorem xzt {F G:List Fc} (h:∀ f,xKh F f=xKh G f):F.Perm G:=by
 rw [List.perm_iff_count];intro f;have:=h f;unfold xKh at this;have e:∀ L:List Fc,L.count f=L.countP fun g=>decide (g=f):=fun L=>by
  unfold List.count;congr 1
 rw [e,e];exact this
theorem xE9 {B:List Fc} {lf:List Bool} {A:List Ve} (h:InvB B lf A):((takV B [] A).map Ve.fc++xKl B lf).Perm B:=xzt fun f=>by
 have:=xGl h f;have e:xKh ((takV B [] A).map Ve.fc++xKl B lf) f=xKh ((takV B [] A).map Ve.fc) f+xKh (xKl B lf) f:=by unfold xKh;rw [List.countP_append]
 rw [e,xFN];exact this
theorem xv7 (B:List Fc):∀ (A P:List Ve),(A.Pairwise fun a b=>a.id<b.id)->A.filter (fun v=>!((xKk B P A).any fun w=>w.id==v.id))=takV B P A
 | [],P,_=>by simp [takV]
 | v::A,P,h=>by
  obtain ⟨h1,h2⟩:=zM.1 h;have ih:=xv7 B A (P++[v]) h2;have hn:(xKk B (P++[v]) A).any (fun w=>w.id==v.id)=false:=by
   rw [<-Bool.not_eq_true,List.any_eq_true];rintro ⟨w,hw,e⟩;have:=h1 w ((xrJ B A (P++[v])).subset hw);have e':w.id=v.id:=by simpa using e
   omega
  rw [List.filter_cons,xoo,xy7];cases decide (xKh B v.fc<=cntA P v.fc) with
  | true =>
   dsimp only;have hv:(!((v::xKk B (P++[v]) A).any fun w=>w.id==v.id))=false:=by simp
   rw [hv,if_neg (by simp),<-ih]
   refine List.filter_congr fun x hx=>?_
   have:=h1 x hx;have e:(v.id==x.id)=false:=by simp;omega
   rw [List.any_cons,e,Bool.false_or]
  | false =>
   dsimp only;rw [hn,if_pos (by simp),ih]
theorem xJk (fs sc c0 tm:Int) (F:List Fc):(opnV fs sc c0 tm F F.length).map Ve.fc=F:=by
 unfold opnV;rw [List.map_map];refine List.ext_getElem (by simp) fun i h1 h2=>?_
 rw [List.getElem_map,List.getElem_range];show (F.getD i default)=F[i];rw [z7,ze h2,zh]
theorem xE5 {l:List Ve} {tm tx d:Int} (h:Hs l tm tx d) (ids:List Int) (F:List Fc) (fs sc:Int):xKv (appV l ids F (tx+1) (tm+1) fs sc)=(l.filter fun v=>v.op&&!hit ids v).map Ve.fc++F:=by
 have t0:=h.t0;have t1:=h.t1;unfold xKv appV;rw [List.filter_append,zx];have z:(opnV fs sc (tx+1) (tm+1) F F.length).filter Ve.op=opnV fs sc (tx+1) (tm+1) F F.length:=by
  rw [List.filter_eq_self];intro v hv;unfold opnV at hv;obtain ⟨i,_,rfl⟩:=zK.1 hv;have p:pv (tm+1,1099511627776)=true:=xne.2 ⟨by dsimp only;omega,by dsimp only;omega,Int.le_refl _⟩
  unfold Ve.op opn1 xKm;simp [p]
 rw [z,xJk];congr 1;have:∀ L:List Ve,((L.map fun v=>clo (tx+1) (tm+1) (hit ids v) v).filter Ve.op).map Ve.fc=(L.filter fun v=>v.op&&!hit ids v).map Ve.fc:=by
  intro L;induction L with
  | nil=>rfl
  | cons v L ih =>
   rw [zV,List.filter_cons,List.filter_cons];have e:(clo (tx+1) (tm+1) (hit ids v) v).op=(v.op&&!hit ids v):=by
    cases hh:hit ids v with
    | false=>simp [clo]
    | true =>
     have e1:¬ tm+1=1099511627776:=by omega
     unfold clo Ve.op xKm;simp [e1]
   rw [e];cases v.op&&!hit ids v with
   | true=>simp only [if_true,zV,ih,xEu]
   | false=>simpa using ih
 exact this l
theorem xDo {l A:List Ve} {B:List Fc} {lf:List Bool} {tm tx d:Int} (h:Hs l tm tx d) (hp:A.Perm (l.filter Ve.op)) (ha:A.Pairwise fun a b=>a.id<b.id) (hi:InvB B lf A) (fs sc:Int) :
  (xKv (appV l ((xKk B [] A).map Ve.id) (xKl B lf) (tx+1) (tm+1) fs sc)).Perm B:=by
 rw [xE5 h];refine List.Perm.trans (List.Perm.append_right _ ?_) (xE9 hi);refine List.Perm.map _ ?_;have e:(l.filter fun v=>v.op&&!hit ((xKk B [] A).map Ve.id) v)=(l.filter Ve.op).filter fun v=>!((xKk B [] A).any fun w=>w.id==v.id):=by
  rw [List.filter_filter];refine List.filter_congr fun v _=>?_
  unfold hit;rw [List.any_map];cases v.op with
  | false=>simp
  | true=>simp [Function.comp_def]
 rw [e,<-xv7 B A [] ha];exact (hp.filter _).symm
theorem xyv {l:List Ve} {tm tx d:Int} (h:Hs l tm tx d) {id:Int} (q:∃ v,v∈l/\v.op=true/\v.id=id):errF l (tm+1) id=none:=by
 unfold errF;cases hf:l.find? (fid id) with
 | none =>
  obtain ⟨v,hv,ho,e⟩:=q;have:=List.find?_eq_none.1 hf v hv;exact absurd (by unfold fid;simp [ho,e]) this
 | some v =>
  have hv:=List.mem_of_find?_eq_some hf;obtain ⟨b1,_⟩:=h.bnd v hv;have:¬ v.sy.1>=tm+1:=by dsimp only at b1;omega
  dsimp only;rw [decide_eq_false this];rfl
theorem xEH {l:List Ve} {tm tx d:Int} (h:Hs l tm tx d) {ids:List Int} {F:List Fc} (J:Asc ids) (O:∀ id,id∈ids->∃ v,v∈l/\v.op=true/\v.id=id) (hv:∀ f,f∈F->pv f.p=true):errV l ids F (tm+1)=0:=by
 have t0:=h.t0;have t1:=h.t1;have hm:∀ k,k<ids.length->ids.getD k 0∈ids:=fun k hk=>by
  rw [z7,ze hk,zh];exact zo hk
 have hn:(List.range ids.length).findSome? (errA l (tm+1) ids)=none:=List.findSome?_eq_none_iff.2 fun k hk=>by
  rw [List.mem_range] at hk;cases k with
  | zero=>exact xyv h (O _ (hm 0 hk))
  | succ k =>
   have Q:ids.getD k 0<ids.getD (k+1) 0:=by
    have:=zB.1 J k (k+1) (by omega) hk (by omega)
    rw [z7,ze (show k<ids.length by omega),z7,ze hk]
    exact this
   have:¬ ids.getD (k+1) 0<=ids.getD k 0:=by omega
   simp only [errA];rw [decide_eq_false this,xah];exact xyv h (O _ (hm (k+1) hk))
 have q:(F.any fun f=>!pv f.p)=false:=by
  rw [<-Bool.not_eq_true,List.any_eq_true];rintro ⟨f,hf,hp⟩;rw [hv f hf] at hp;simp at hp
 unfold errV;have d1:¬ tm+1<0:=by omega
 have d2:¬ tm+1>=1099511627776:=by omega
 rw [decide_eq_false d1,decide_eq_false d2,hn,q];rfl
theorem xFY {l:List Ve} (h:xKs l=0):∀ v,v∈l->bad1 v=false:=fun v hv=>by
 obtain ⟨i,hi,rfl⟩:=List.getElem_of_mem hv;have hn:(List.range l.length).findSome? (err1 l)=none:=by
  cases hf:(List.range l.length).findSome? (err1 l) with
  | none=>rfl
  | some x =>
   obtain ⟨k,_,hk⟩:=List.exists_of_findSome?_eq_some hf;have hx:x≠0:=by
    cases k with
    | zero =>
     simp only [err1] at hk;cases hb:bad1 (l.getD 0 default) with
     | true=>rw [hb] at hk;simp [xam,sUF] at hk;omega
     | false=>rw [hb] at hk;simp [xah,sUF] at hk
    | succ k =>
     simp only [err1] at hk;cases hb:bad1 (l.getD (k+1) default)<;>rw [hb] at hk
     . cases ha:xKC (l.getD k default) (l.getD (k+1) default)<;>rw [ha] at hk
       . simp [xam,xah,sUF] at hk;omega
       . cases hc:xKP (l.getD k default) (l.getD (k+1) default)<;>rw [hc] at hk
         . simp [xah,sUF] at hk
         . simp [xam,xah,sUF] at hk;omega
     . simp [xam,sUF] at hk;omega
   unfold xKs at h;rw [hf] at h;exact absurd h hx
 have:=List.findSome?_eq_none_iff.1 hn i (List.mem_range.2 hi);have eg:l.getD i default=l[i]:=by rw [z7,ze hi,zh]
 cases i with
 | zero =>
  simp only [err1,eg] at this;cases hb:bad1 l[0] with
  | false=>rfl
  | true=>rw [hb] at this;simp [xam,sUF] at this
 | succ k =>
  simp only [err1,eg] at this;cases hb:bad1 l[k+1] with
  | false=>rfl
  | true=>rw [hb] at this;simp [xam,sUF] at this
theorem xEt {m:List Ve} (hb:∀ v,v∈m->bad1 v=false) (hs:∀ k,k+1<m.length->(m.getD k default).id<(m.getD (k+1) default).id/\(m.getD k default).b<=(m.getD (k+1) default).b):xKs m=0:=by
 have hb':∀ k,k<m.length->bad1 (m.getD k default)=false:=fun k hk=>hb _ (xrE hk)
 have q:∀ d i,i+d+1<m.length->(m.getD i default).id<(m.getD (i+d+1) default).id:=by
  intro d;induction d with
  | zero=>intro i hi;exact (hs i hi).1
  | succ d ih =>
   intro i hi;have a:=ih i (by omega)
   have b:=(hs (i+d+1) (by omega)).1
   rw [show i+(d+1)+1=i+d+1+1 by omega];omega
 have h1:(List.range m.length).findSome? (err1 m)=none:=List.findSome?_eq_none_iff.2 fun k hk=>by
  rw [List.mem_range] at hk;cases k with
  | zero=>simp only [err1,hb' 0 hk,xah,sUF]
  | succ k =>
   obtain ⟨g1,g2⟩:=hs k hk;have e1:xKC (m.getD k default) (m.getD (k+1) default)=true:=by
    unfold xKC;have:((m.getD k default).id != (m.getD (k+1) default).id)=true:=bne_iff_ne.2 (by omega)
    rw [this,xam,decide_eq_true g1]
   have e2:xKP (m.getD k default) (m.getD (k+1) default)=false:=by
    unfold xKP;have a:decide ((m.getD k default).b>(m.getD (k+1) default).b)=false:=decide_eq_false (by omega)
    have b:((m.getD k default).id==(m.getD (k+1) default).id)=false:=beq_eq_false_iff_ne.2 (by omega)
    rw [a,b];rfl
   simp only [err1,hb' (k+1) hk,e1,e2,Bool.not_true,xah,sUF]
 have h2:((List.range m.length).any fun i=>(m.take i).any (xKq (m.getD i default)))=false:=by
  rw [<-Bool.not_eq_true,List.any_eq_true];rintro ⟨i,hi,ha⟩;obtain ⟨x,hx,hc⟩:=List.any_eq_true.1 ha;obtain ⟨k,hk,rfl⟩:=List.getElem_of_mem hx;rw [xnm hk] at hc;rw [List.mem_range] at hi;rw [zt] at hk;have:=q (i - k - 1) k (by omega)
  rw [show k+(i - k - 1)+1=i by omega] at this
  unfold xKq at hc;rw [zf] at hc;have e:(m.getD i default).id=(m.getD k default).id:=by simpa using hc.1
  omega
 unfold xKs;rw [h1,h2];rfl
theorem xC6 {l:List Ve} (h:xKs l=0):(List.range l.length).findSome? (err1 l)=none:=by
 cases hf:(List.range l.length).findSome? (err1 l) with
 | none=>rfl
 | some x =>
  obtain ⟨k,_,hk⟩:=List.exists_of_findSome?_eq_some hf;have hx:x≠0:=by
   cases k with
   | zero =>
    simp only [err1] at hk;cases hb:bad1 (l.getD 0 default) with
    | true=>rw [hb] at hk;simp [xam,sUF] at hk;omega
    | false=>rw [hb] at hk;simp [xah,sUF] at hk
   | succ k =>
    simp only [err1] at hk;cases hb:bad1 (l.getD (k+1) default)<;>rw [hb] at hk
    . cases ha:xKC (l.getD k default) (l.getD (k+1) default)<;>rw [ha] at hk
      . simp [xam,xah,sUF] at hk;omega
      . cases hc:xKP (l.getD k default) (l.getD (k+1) default)<;>rw [hc] at hk
        . simp [xah,sUF] at hk
        . simp [xam,xah,sUF] at hk;omega
    . simp [xam,sUF] at hk;omega
  unfold xKs at h;rw [hf] at h;exact absurd h hx
theorem xDP {l:List Ve} (h:xKs l=0) (hs:xKJ l=true):∀ k,k+1<l.length->(l.getD k default).id<(l.getD (k+1) default).id/\(l.getD k default).b<=(l.getD (k+1) default).b:=fun k hk=>by
 have hn:=xC6 h;have a:=xyz hn k hk;have hne:(l.getD k default).id≠(l.getD (k+1) default).id:=fun e=>by
  unfold xKJ at hs;rw [Bool.not_eq_true',<-Bool.not_eq_true,List.any_eq_true] at hs;refine hs ⟨k+1,List.mem_range.2 hk,List.any_eq_true.2 ⟨l.getD k default,?_,beq_iff_eq.2 e.symm⟩⟩;have hit:k<(l.take (k+1)).length:=by rw [zt];omega
  rw [<-xnm hit];exact zo _
 refine ⟨by omega,?_⟩
 have e:=List.findSome?_eq_none_iff.1 hn (k+1) (List.mem_range.2 hk);simp only [err1] at e;refine Int.not_lt.1 fun q=>?_
 have hc:xKP (l.getD k default) (l.getD (k+1) default)=true:=by
  unfold xKP;have:decide ((l.getD k default).b>(l.getD (k+1) default).b)=true:=decide_eq_true q;rw [this];rfl
 cases hb:bad1 (l.getD (k+1) default)<;>rw [hb] at e
 . cases ha:xKC (l.getD k default) (l.getD (k+1) default)<;>rw [ha,hc] at e<;>simp [xam,xah,sUF] at e
 . simp [xam,sUF] at e
theorem xvc {a b:List Ve} {k:Nat} (h:k<a.length):(a++b).getD k default=a.getD k default:=by
 rw [z7,zO h,<-z7]
theorem xvd {a b:List Ve} {k:Nat} (h:a.length<=k):(a++b).getD k default=b.getD (k - a.length) default:=by
 rw [z7,List.getElem?_append_right h,<-z7]
theorem xve {l:List Ve} (c0 tm:Int) (ids:List Int) {k:Nat} (h:k<l.length):(l.map fun v=>clo c0 tm (hit ids v) v).getD k default=clo c0 tm (hit ids (l.getD k default)) (l.getD k default):=by
 rw [z7,List.getElem?_map,ze h,z7,ze h];rfl
theorem xvf (fs sc c0 tm:Int) (F:List Fc) {k n:Nat} (h:k<n):(opnV fs sc c0 tm F n).getD k default=opn1 fs sc c0 tm k (F.getD k default):=by
 unfold opnV;rw [z7,List.getElem?_map,List.getElem?_range h];rfl
theorem xC7 (c0 tm:Int) (b:Bool) (v:Ve):(clo c0 tm b v).b=v.b:=by cases b<;>rfl
theorem xEl {l:List Ve} {tm tx d:Int} (h:Hs l tm tx d) (hc:xKs l=0) (hs:xKJ l=true) (ids:List Int) {F:List Fc} (hF:F.length<=1024) (hv:∀ f,f∈F->pv f.p=true) (x0:0<=tx) (d0:0<=d) (d1:d<1125899906842624) :
  xKs (appV l ids F (tx+1) (tm+1) (d+1) 0)=0:=by
 have t0:=h.t0;have t1:=h.t1;have Q:=xDP hc hs;have wr:∀ i:Nat,i<F.length->IntKind.i64.wrap (d+1+(i:Int))=d+1+(i:Int):=fun i hi=>xbE (by omega) (by omega)
 have q:(l.map fun v=>clo (tx+1) (tm+1) (hit ids v) v).length=l.length:=za _
 refine xEt (fun v J=>?_) (fun k hk=>?_)
 . unfold appV at J;rcases zG.1 J with J|J
   . obtain ⟨v,O,rfl⟩:=zK.1 J;have hb:=h.ok v O;cases hh:hit ids v with
     | false=>exact hb
     | true =>
      obtain ⟨e1,e2⟩:=h.hit_open O hh;obtain ⟨g1,g2,g3,g4,g5,g6,_⟩:=xsz hb;obtain ⟨b1,_,b3,_⟩:=h.bnd v O;obtain ⟨q1,q2,q3⟩:=xne.1 g6;have p1:pv (v.sy.1,tm+1)=true:=xne.2 ⟨q1,by dsimp only at b1 |-;omega,by dsimp only;omega⟩
      dsimp only at b3;unfold bad1 clo xKm;simp only [g5,p1];simp;refine ⟨by omega,by omega,by omega,by omega,fun _=>⟨by omega,by omega⟩⟩
   . unfold opnV at J;obtain ⟨i,hi,rfl⟩:=zK.1 J;rw [List.mem_range] at hi;have hp:pv (F.getD i default).p=true:=hv _ (by rw [z7,ze hi];exact zo hi)
     have p1:pv (tm+1,1099511627776)=true:=xne.2 ⟨by dsimp only;omega,by dsimp only;omega,Int.le_refl _⟩
     unfold bad1 opn1 xKm;rw [wr i hi];simp only [hp,p1];simp;omega
 . unfold appV at hk |-;rw [z8,q,xrd] at hk;rcases zJ (k+1) l.length with g|g
   . rw [xvc (by rw [q];omega),xvc (by rw [q];omega),xve _ _ _ (by omega),xve _ _ _ g,xzx,xzx,xC7,xC7]
     exact Q k g
   . rcases zJ k l.length with g2|g2
     . have e:k+1 - l.length=0:=by omega
       rw [xvc (by rw [q];omega),xvd (by rw [q];omega),xve _ _ _ g2,xzx,xC7,q,e,xvf _ _ _ _ _ (by omega)]
       obtain ⟨_,_,b3,_,b5⟩:=h.bnd _ (xrE g2);have w:=wr 0 (by omega)
       unfold opn1;dsimp only at b3 b5 |-;rw [w];exact ⟨by omega,by omega⟩
     . rw [xvd (by rw [q];omega),xvd (by rw [q];omega),q,show k+1 - l.length=k - l.length+1 by omega,xvf _ _ _ _ _ (by omega),xvf _ _ _ _ _ (by omega)]
       have w1:=wr (k - l.length) (by omega)
       have w2:=wr (k - l.length+1) (by omega)
       unfold opn1;dsimp only;rw [w1,w2];exact ⟨by omega,Int.le_refl _⟩
theorem xwq {l:List Ve} (h:xKJ l=true):xKZ l=true:=by
 unfold xKJ at h;unfold xKZ;rw [Bool.not_eq_true',<-Bool.not_eq_true,List.any_eq_true] at h |-;rintro ⟨i,hi,ha⟩;obtain ⟨x,hx,hp⟩:=List.any_eq_true.1 ha;refine h ⟨i,hi,List.any_eq_true.2 ⟨x,hx,?_⟩⟩;unfold xLa at hp;rw [zf,zf] at hp;exact hp.2.2
theorem xC1 {l:List Ve} {F:List Fc} (hl:l.length<=16) (hF:F.length<=16) (J:∀ f,f∈F->f.r.length<=60) (ht:Tx F) :
  ∃ (A:List Ve) (lf:List Bool) (B:List Fc),xgL (F.map encF)=some (B.map encF)/\xKy F B/\A.Perm (l.filter Ve.op)/\Sorted cmpW A/\InvB B lf A /\
   xcK (l.map encW) (F.map encF)=some (((xKk B [] A).map Ve.id).map encN,(xKl B lf).map encF)/\B.length<=256/\A.length<=16/\(xKl B lf).length<=256/\(∀ f,f∈xKl B lf->f∈B)/\∀ f,f∈B->f.r.length<=60:=by
 obtain ⟨B,b1,b2,b3⟩:=xu8 F (xA5 (by omega) J ht)
 have O:B.length<=256:=Nat.le_trans b3.len (by have:F.length*F.length<=16*16:=Nat.mul_le_mul hF hF;omega)
 have q:∀ f,f∈B->f.r.length<=60:=b3.all (Q:=fun r=>r.length<=60) J
 have hBr':∀ f,f∈B->f.r.length<=maxLen:=fun f hf=>by have:=q f hf;unfold maxLen;omega
 obtain ⟨A,lf,a1,a2,a3,a4⟩:=xBA l _ B b1 (by omega) hBr' (by omega)
 obtain ⟨o1,o2⟩:=xCq l B (List.range B.length) [] fun k hk=>List.mem_range.1 hk
 rw [<-xHV a1 a3] at o1 o2;rw [List.length_range] at o2;have hA:A.length<=16:=by rw [a1.length_eq];exact Nat.le_trans (List.length_filter_le _ _) hl
 refine ⟨A,lf,B,b2,b3,a1,a2,a3,a4,O,hA,by simp at o2;omega,fun f hf=>?_,q⟩
 rcases o1 f hf with h|h
 . simp at h
 . exact h
theorem xHs {l:List Ve} {ids:List Int} {F:List Fc} {c0 tm fs sc:Int} (h1:TxV l) (h2:Tx F):TxV (appV l ids F c0 tm fs sc):=fun v hv=>by
 unfold appV opnV at hv;rcases zG.1 hv with hv|hv
 . obtain ⟨x,hx,rfl⟩:=zK.1 hv;rw [xB6];exact h1 x hx
 . obtain ⟨i,hi,rfl⟩:=zK.1 hv;rw [List.mem_range] at hi;refine h2 (F.getD i default) ?_;rw [z7,ze hi];exact zo hi
theorem xwM {l:List Ve} {at0:Int} (h2:∀ v,v∈l->v.r.length<=60):∀ f,f∈xKr l at0->f.r.length<=60:=fun f hf=>by
 unfold xKr at hf;obtain ⟨v,hv,rfl⟩:=zK.1 hf;exact h2 v (List.mem_filter.1 hv).1
theorem xwL (l:List Ve) (at0:Int):(xKr l at0).length<=l.length:=by
 unfold xKr;rw [za];exact List.length_filter_le _ _
theorem xDM {l:List Ve} {at0:Int} (h1:l.length<=1024) (h2:∀ v,v∈l->v.r.length<=60) (ht:TxV l):Bld (xKr l at0):=by
 refine xA5 (Nat.le_trans (xwL l at0) h1) (xwM h2) (fun f hf x hx=>?_)
 unfold xKr at hf;obtain ⟨v,hv,rfl⟩:=zK.1 hf;exact ht v (List.mem_filter.1 hv).1 x hx
theorem xBv (l:List Ve) (F:List Fc) (at0:Int) (hl:l.length<=1048576) (hF:F.length<=1048576) (hv:TxV l) (ht:Tx F):xkP (l.map encW) (F.map encF) at0=some true:=by
 unfold xkP xjM xib;rw [xGb l (by omega)]
 cases hf:fewV l with
 | false=>rfl
 | true =>
  obtain ⟨h1,h2⟩:=xEJ hf;have Z:=xCw F (by omega) 16
  rw [show ((16:Nat):Int)=(16:Int) from rfl] at Z
  rw [Z];cases hg:fewF 16 F with
  | false=>rfl
  | true =>
   obtain ⟨h3,h4⟩:=xEI hg;have hr':∀ v,v∈l->v.r.length<=maxLen:=fun v hv=>by have:=h2 v hv;unfold maxLen;omega
   have hr:∀ v,v∈l->v.r.length<=1048576:=fun v hv=>by have:=h2 v hv;omega
   rw [xFl l hl hr'];by_cases hc:xKs l=0
   case neg =>
    have:(xKs l != 0)=true:=by simpa [bne_iff_ne] using hc
    simp only [zk,zh,xam,xah,Bool.not_true,this,sUF]
   rw [hc,xFF l hl];cases hs:xKJ l with
   | false=>rfl
   | true =>
    have L:=xHU l hl;obtain ⟨s1,s2,s3,s4⟩:=xyJ l (0,0,0);generalize l.foldl xKu (0,0,0)=s at L s1 s2 s3 s4;obtain ⟨tm,tx,d⟩:=s;dsimp only at s1 s2 s3;by_cases g1:tm>=1099511627775
    . simp only [L,zk,zh,xam,xah,Bool.not_true,decide_eq_true g1,sUF];rfl
    by_cases g2:tx>=1125899906842624
    . simp only [L,zk,zh,xam,xah,Bool.not_true,decide_eq_false g1,decide_eq_true g2,sUF];rfl
    by_cases g3:d>=1125899906842624
    . simp only [L,zk,zh,xam,xah,Bool.not_true,decide_eq_false g1,decide_eq_false g2,decide_eq_true g3,sUF];rfl
    have w1:IntKind.i64.wrap (tm+1)=tm+1:=xbE (by omega) (by omega)
    have w2:IntKind.i64.wrap (tx+1)=tx+1:=xbE (by omega) (by omega)
    have w3:IntKind.i64.wrap (d+1)=d+1:=xbE (by omega) (by omega)
    have hH:Hs l tm tx d:=⟨xFY hc,s4,s1,by omega⟩
    obtain ⟨A,lf,B,b2,b3,a1,a2,a3,a4,hB,hA,hO,V,ag⟩:=xC1 h1 h3 h4 ht;have hp:=xwq hs;have ha:=xIU a1 a2 hp;have q:=xDo hH a1 ha a3 (d+1) 0;have ab:Asc ((xKk B [] A).map Ve.id):=List.pairwise_map.2 (ha.sublist (xrJ B A []));have ak:∀ id,id∈(xKk B [] A).map Ve.id->∃ v,v∈l/\v.op=true/\v.id=id:=fun id al=>by
     obtain ⟨v,hv,rfl⟩:=zK.1 al;have:=(a1.mem_iff).1 ((xrJ B A []).subset hv);obtain ⟨q1,q2⟩:=List.mem_filter.1 this;exact ⟨v,q1,q2,rfl⟩
    have aa:∀ f,f∈xKl B lf->pv f.p=true:=fun f hf=>(b3.valid (V f hf)).1
    have am:((xKk B [] A).map Ve.id).length<=16:=by rw [za];exact Nat.le_trans (xy0 B A []) hA
    have aj:Tx (xKl B lf):=fun f hf=>by
     obtain ⟨g,hg,e⟩:=(b3.valid (V f hf)).2;rw [<-e];exact ht g hg
    have af:∀ f,f∈xKl B lf->f.r.length<=60:=fun f hf=>ag f (V f hf)
    have ah:=xEH hH ab ak aa;have ac:=xEl hH hc hs ((xKk B [] A).map Ve.id) (show (xKl B lf).length<=1024 by omega) aa s2 s3 (by omega)
    have ae:=xGT hH ((xKk B [] A).map Ve.id) (xKl B lf) (d+1) 0;have O:=xFG hH ((xKk B [] A).map Ve.id) (xKl B lf) (d+1) 0;have U:=fun h=>xFH hH ((xKk B [] A).map Ve.id) (xKl B lf) (d+1) 0 (at0:=at0) h
    have J:=xFd l ((xKk B [] A).map Ve.id) (xKl B lf) (tx+1) (tm+1) 0 0 (d+1) 0 hl (by omega) (by omega) hr (fun f hf=>by have:=af f hf;omega)
    unfold ansV at J;rw [ah] at J;have hml:(appV l ((xKk B [] A).map Ve.id) (xKl B lf) (tx+1) (tm+1) (d+1) 0).length<=272:=by unfold appV;rw [z8,xrd,za];omega
    have Y:∀ v,v∈appV l ((xKk B [] A).map Ve.id) (xKl B lf) (tx+1) (tm+1) (d+1) 0->v.r.length<=60:=xHr h2 af;have ad:TxV (appV l ((xKk B [] A).map Ve.id) (xKl B lf) (tx+1) (tm+1) (d+1) 0):=xHs hv aj;generalize appV l ((xKk B [] A).map Ve.id) (xKl B lf) (tx+1) (tm+1) (d+1) 0=m at J ac ae O U q hml Y ad;have hmr':∀ v,v∈m->v.r.length<=1048576:=fun v hv=>by have:=Y v hv;omega
    have e3:xco (l.map encW)=tm+1:=by unfold xco;rw [L];exact w1
    have e6:xfV (l.map encW)=tx+1:=by unfold xfV;rw [L];exact w2
    have e2:xfS (l.map encW) (F.map encF)=some (m.map encW,0):=by
     unfold xfS;rw [e3,e6,L,a4];simp only [zh,w3];exact J
    have e1:xfR (l.map encW) (F.map encF)=(m.map encW,0):=by unfold xfR;rw [e2];rfl
    have e0:xaV (l.map encW) (F.map encF)=m.map encW:=by unfold xaV;rw [e1]
    have e5:xfU (l.map encW) (F.map encF)=some (l.map encW):=by
     unfold xfU;rw [e0,e6,xGy m (tx+1) (by omega) hmr',ae]
    have e4:xfT (l.map encW) (F.map encF)=some true:=by
     unfold xfT;rw [e5];have:=xH9 l l hl hr';rwa [decide_eq_true rfl] at this
    have c1:xl1 (m.map encW)=some 0:=by rw [xFe m (by omega) hmr',ac]
    obtain ⟨B',q1,q2,q3⟩:=xu8 (xKv m) (xE6 (by omega) Y ad)
    have ai:B'=B:=q3.unique b3 fun r t=>by
     rw [<-b3.cntB r t];unfold cnt;exact q.countP_eq _
    subst ai;have c2:xeK (m.map encW)=some (B'.map encF):=by rw [xFf m (by omega),q1]
    have c3:xbZ (m.map encW) (tm+1)=some (B'.map encF):=by rw [xvG m (tm+1) (by omega) hmr',O,q1]
    have c4:=xAS (B:=B') (by omega) ag
    simp only [L,e0,e1,e2,e3,e4,e5,c1,c2,c3,b2,c4,a4,zk,zh,xam,xah,Bool.not_true,decide_eq_false g1,decide_eq_false g2,decide_eq_false g3,bne_self_eq_false,sUF];by_cases g4:at0>=tm+1
    . rw [decide_eq_true g4];rfl
    . obtain ⟨D,p1,p2,p3⟩:=xu8 (xKr l at0) (xDM (at0:=at0) (by omega) h2 hv)
      have c5:xbZ (l.map encW) at0=some (D.map encF):=by rw [xvG l at0 hl hr,p1]
      have c6:xbZ (m.map encW) at0=some (D.map encF):=by rw [xvG m at0 (by omega) hmr',U (by omega),p1]
      have hD:D.length<=1048576:=by
       have a:=p3.len;have b:=xwL l at0;have:(xKr l at0).length*(xKr l at0).length<=16*16:=Nat.mul_le_mul (by omega) (by omega)
       omega
      have c7:=xAS (B:=D) hD (p3.all (Q:=fun r=>r.length<=60) (xwM h2))
      rw [decide_eq_false g4];simp only [c5,c6,c7,zk,zh,xam,xah,sUF]
end Go.Sim.M
end
noncomputable section
set_option maxRecDepth 10000
namespace Go.Sim
open Go.RowKit Go.Proofs Go.ChangeShapes Go.WideShapes Go.ChangeAt Go.Proofs.YtckgiglpmfpagaaGreatDoor
theorem M.card_beliefs (l:List M.Ve) (F:List M.Fc) (at0:Int) (hw:∀ y,y∈l->y.wf) (hx:F.length<=maxLen/\∀ y,y∈F->y.wf) (_:I64 at0) (hb:(AV.list 9 (l.map M.encW)).wt+(AV.list 3 (F.map M.encF)).wt+(AV.int .i64 at0).wt<=1048576):M.xkP (l.map M.encW) (F.map M.encF) at0=some true :=
 have hb':=Nat.le_trans (Nat.le_add_right _ _) hb;have hf:=M.txf_wt (Nat.le_trans (Nat.le_add_left _ _) hb') hx.2;have hv:=M.txv_wt (Nat.le_trans (Nat.le_add_right _ _) hb') hw
 M.xBv l F at0 hv.2 hf.2 hv.1 hf.1
end Go.Sim
end
noncomputable section
set_option maxRecDepth 10000
namespace Go.Proofs.YtckgiglpmfpagaaGreatDoor.deltaBeliefs
open Go.ChangeShapes Go.WideShapes Go.ChangeAt Go.RowKit Go.Sim
theorem contract (H:Type) (enc:TypeId×Value->H) (W:World) (base:Nat) (args:Array Value) (ds gs:List (DataW H)) (before:List MemPlace)
  (hval:∀ (j:Nat) t v,Tryz.f8.params[j]?=some t->args[j]?=some v->Value.okWide Tryz.prog W .any base t v)
  (hW:DataW.Whole enc Tryz.prog Tryz.f8.params.toList Rows.deltaBeliefsSpec.vars false W args.toList ds gs before) (hL:laidMetH Tryz.prog Rows.deltaBeliefsUptoRow.laid W) (hsh:W.ShapedOpen Tryz.prog) (hbulk:Rows.uptoBulkAll (ds++gs)<=1048576) :
  Calls Tryz.prog 8 args W fun e W'=>∃ v,e=.returned v/\Rows.deltaBeliefsSpec.post enc Tryz.prog Tryz.f8 false true false false W args v W':=by
 have hW':=hW;obtain ⟨p,q,hA0,hV,rfl,hfz,hnd⟩:=hW;have hA:DataW.TrodAll enc Tryz.prog W 0 (fun _=>true) true Tryz.f8.params.toList args.toList ds p:=hA0
 have hAk:=hA;rw [Tryz.params8] at hA hval;obtain ⟨v0,vs0,d0,ds0,p0,q0,hargs,rfl,rfl,h0,r0⟩:=trodAll_cons hA;obtain ⟨v1,vs1,d1,ds1,p1,q1,rfl,rfl,rfl,h1,r1⟩:=trodAll_cons r0;obtain ⟨v2,vs2,d2,ds2,p2,q2,rfl,rfl,rfl,h2,r2⟩:=trodAll_cons r1;obtain ⟨rfl,rfl,rfl⟩:=trodAll_nil r2;obtain rfl:args=#[v0,v1,v2]:=by cases args;simp_all
 obtain ⟨rfl,rfl⟩:=trodVars_none hV;obtain ⟨a0,rr0,b0,w0⟩:=xFa (hval 0 22 v0 rfl rfl) h0;obtain ⟨a1,rr1,b1,w1⟩:=xDp (hval 1 26 v1 rfl rfl) h1;obtain ⟨a2,rr2,b2,w2⟩:=xGm (hval 2 3 v2 rfl rfl) h2;clear hA0;have hbulk:(.list 9 (a0.map M.encW):AV).wt+(.list 3 (a1.map M.encF):AV).wt+(.int .i64 a2:AV).wt<=1048576:=by
  rw [List.append_nil,xpq] at hbulk;simp only [List.map_cons,List.map_nil,List.sum_cons,List.sum_nil] at hbulk;have:=b0 _ xtY;have:=b1 _ xtY;have:=b2 _ xtY;omega
 have hI:xMf W:=xI6 rfl (by kernel_rfl) hL hsh
 have hpl:=M.card_beliefs a0 a1 a2 w0 w1 w2 hbulk;have hg:Sim.Good Tryz.prog xMf 8 [.list 9 (a0.map M.encW),.list 3 (a1.map M.encF),.int .i64 a2] (.bool true):=M.xsK _ _ (congrArg (fun x:Option Bool=>some (x.isSome,AV.bool (x.getD false))) hpl)
 have hrc:RC W (fun _=>False) xLM [v0,v1,v2] [.list 9 (a0.map M.encW),.list 3 (a1.map M.encF),.int .i64 a2]:=by
  refine ⟨rfl,fun i hi=>?_⟩
  match i,hi with
  | 0,_=>exact rr0
  | 1,_=>exact rr1
  | 2,_=>exact rr2
 refine (hg.2 W (fun _=>False) _ hI (fun _ h=>h.elim) hrc).mono fun e W' ⟨v,he,hb,hr⟩=>?_
 subst he;obtain rfl:=hr.bool_inv;exact ⟨_,rfl,xFg rfl hW' ⟨rfl,rfl,rfl⟩ rfl Tryz.underlying4 (by simpa using xs7 xLi hb (by kernel_rfl) hAk) hb⟩
noncomputable def wit:Array Value:=#[.slice none 0 0,.slice none 0 0,.int .i64 0]
theorem laid_met (os:Os):laidMet Tryz.prog Rows.deltaBeliefsUptoRow.laid ((xKY Tryz.prog Rows.deltaBeliefsUptoRow.laid os).forCall (fun _ _=>0) ⟨#[],wit,[]⟩).memory :=
 laidMet_of_run3 8 (by kernel_rfl) (by kernel_rfl) (by kernel_rfl)
theorem reads (os:Os) {H:Type} (enc:TypeId×Value->H):∃ places,DataW.whole enc Tryz.prog ((xKY Tryz.prog Rows.deltaBeliefsUptoRow.laid os).forCall (fun _ _=>0) ⟨#[],wit,[]⟩).memory Tryz.f8.params.toList Rows.deltaBeliefsSpec.vars false wit.toList 8=some ([.nil,.nil,.lit (.int .i64 0)],[],places) :=
 ⟨[],by kernel_rfl⟩
set_option maxRecDepth 100000 in
theorem lifted (os:Os) (started:os.Started) (H:Type) (enc:TypeId×Value->H) (F:Stop.Interp) :
  ReturnsInHanded {} Tryz.checked os 8 .any ((Rows.OpenSpec.upto Rows.deltaBeliefsSpec).preRow enc Tryz.prog Tryz.f8 Rows.deltaBeliefsUptoRow.domain false Rows.deltaBeliefsUptoRow.laid) (((Rows.OpenSpec.upto Rows.deltaBeliefsSpec).at F).post enc Tryz.prog Tryz.f8 false true false false):=by
 obtain ⟨places,hx⟩:=reads os enc;refine returnsInHanded_of_row (C:=Tryz.checked) (s:=Rows.OpenSpec.upto Rows.deltaBeliefsSpec) xLp started (by kernel_rfl) Tryz.func8
  (witness_row_at (enc:=enc) (C:=Tryz.checked) false (xKY Tryz.prog Rows.deltaBeliefsUptoRow.laid os) wit rfl (by kernel_rfl) (by kernel_rfl) (by kernel_rfl)
   (OpenSpec.preRow_of_cond 8 hx (by kernel_rfl) (fun k hk=>by cases hk;kernel_rfl) (by kernel_rfl) (laid_met os))) ?_
 intro W base args ds gs before hval hW _ hcond _ hL hsh _;exact contract H enc W base args ds gs before hval hW hL hsh (of_decide_eq_true (hcond _ rfl))
theorem said:Rows.DeltaBeliefsUptoSaid :=
 OpenClaim.holds_of_cond 8 Tryz.f8 rfl rfl rfl rfl rfl rfl rfl ⟨rfl,rfl,rfl,rfl,rfl⟩ rfl rfl rfl rfl rfl (by kernel_rfl) Tryz.func8 (by kernel_rfl)
  (of_decide_eq_true (by kernel_rfl)) (by unfold Func.isWrapper;first|(rw [if_pos (by decide +kernel)];kernel_rfl)|(rw [if_neg (by decide +kernel)];exact ⟨rfl,rfl⟩))
  (fun os started H enc _ F=>by rw [OpenClaim.pre_eq_preRow];exact lifted os started H enc F)
theorem plain (f:FuncId) (fn:Func) (hf:Tryz.pinned.checked.prog.funcNamed "bitemporal/bitemporallaw32.DeltaBeliefs" = some f) (hfn:Tryz.pinned.checked.prog.funcs[f]?=some fn) :
  false=Tryz.pinned.checked.prog.looks []/\∀ (j:Nat) t,fn.params[j]?=some t->Tryz.pinned.checked.prog.wantsStandIn t=false:=by
 obtain rfl:f=8:=Option.some.inj ((show Tryz.prog.funcNamed "bitemporal/bitemporallaw32.DeltaBeliefs" = some 8 by kernel_rfl).symm.trans hf) |>.symm
 obtain rfl:fn=Tryz.f8:=(Option.some.inj (Tryz.func8.symm.trans hfn)).symm;refine ⟨by kernel_rfl,fun j t ht=>?_⟩
 rw [Tryz.params8] at ht;have hm:=Array.mem_of_getElem? ht;have:([22,26,3]:List Nat).all (fun t=>!(Tryz.prog.wantsStandIn t))=true:=by kernel_rfl
 have:=List.all_eq_true.1 this t (by simpa using hm)
 show Tryz.prog.wantsStandIn t=false;simpa using this
theorem card:Rows.DeltaBeliefsUptoCardSaid :=
 Claim7.holds_tied_plain_at .later [] _ _ _ _ said (fun _ h=>by cases h) (by kernel_rfl) (fun _ h=>by cases h) deltaBeliefsUpto_row_tie rfl ⟨rfl,rfl⟩ (by kernel_rfl) rfl plain (by kernel_rfl)
end Go.Proofs.YtckgiglpmfpagaaGreatDoor.deltaBeliefs
end
