/- Part 17 of the proof of the law. -/
import Derived.Test.YtckgiglpmfpagaaGreatDoorQN16
import Derived.Lib.ItoaLen
set_option linter.unusedVariables false
set_option linter.unusedSimpArgs false
noncomputable section
set_option maxRecDepth 100000
namespace Go.Sim.M
open Go.RowKit Go.Sim.Srt
def rdD (l:List UInt8):Nat:=l.foldl (fun a c=>a*10+(c.toNat - 48)) 0
theorem xyS (u:Nat):∀ c,c∈Lib.decDigits u->48<=c.toNat/\c.toNat<=57:=by
 induction u using Nat.strongRecOn with
 | _ u ih =>
  intro c hc;rw [Lib.decDigits] at hc;split at hc
  . rw [zv] at hc;subst hc;rw [UInt8.toNat_ofNat'];omega
  . rw [zG,zv] at hc;rcases hc with hc|rfl
    . exact ih (u / 10) (by omega) c hc
    . rw [UInt8.toNat_ofNat'];omega
theorem xBJ (u:Nat):rdD (Lib.decDigits u)=u:=by
 induction u using Nat.strongRecOn with
 | _ u ih =>
  rw [Lib.decDigits];split
  . simp only [rdD,List.foldl_cons,List.foldl_nil,UInt8.toNat_ofNat'];omega
  . have:=ih (u / 10) (by omega)
    unfold rdD at this |-;rw [List.foldl_append,this];simp only [List.foldl_cons,List.foldl_nil,UInt8.toNat_ofNat'];omega
theorem xyT {u v:Nat} (h:Lib.decDigits u=Lib.decDigits v):u=v:=by rw [<-xBJ u,h,xBJ]
theorem xsJ {a b:Int} (h:Lib.itoa a=Lib.itoa b):a=b:=by
 unfold Lib.itoa at h;have k:∀ u v:Nat,45::Lib.decDigits u≠Lib.decDigits v:=fun u v e=>by
  have:=xyS v 45 (by rw [<-e];simp)
  have t:(45:UInt8).toNat=45:=rfl;omega
 split at h<;>split at h
 . have:=xyT (List.cons.inj h).2;omega
 . exact absurd h (k _ _)
 . exact absurd h.symm (k _ _)
 . have:=xyT h;omega
theorem xoS (a:Int):(32:UInt8)∉Lib.itoa a:=by
 have k:∀ v:Nat,(32:UInt8)∉Lib.decDigits v:=fun v e=>by
  have:=xyS v 32 e;have t:(32:UInt8).toNat=32:=rfl;omega
 unfold Lib.itoa;split
 . rw [zC];rintro (h|h)
   . simp at h
   . exact k _ h
 . exact k _
theorem xtf:∀ {a b x y:List UInt8},(32:UInt8)∉a->(32:UInt8)∉b->a++32::x=b++32::y->a=b/\x=y
 | [],[],x,y,_,_,h=>⟨rfl,(List.cons.inj h).2⟩
 | [],c::b,x,y,_,hb,h=>absurd (List.cons.inj h).1 fun e=>hb (by rw [e];simp)
 | c::a,[],x,y,ha,_,h=>absurd (List.cons.inj h).1 fun e=>ha (by rw [<-e];simp)
 | c::a,d::b,x,y,ha,hb,h=>by
  obtain ⟨e1,h⟩:=List.cons.inj h;obtain ⟨e2,e3⟩:=xtf (a:=a) (b:=b) (fun e=>ha (by simp [e])) (fun e=>hb (by simp [e])) h
  exact ⟨by rw [e1,e2],e3⟩
def keyV (v:Val):List UInt8:=Lib.itoa v.k++32::(Lib.itoa v.i++32::(Lib.itoa (v.t.length:Int)++32::v.t))
def keyOf (r:Row):List UInt8:=r.flatMap keyV
theorem xsL (v:Val) (s:List UInt8):keyV v++s=Lib.itoa v.k++32::(Lib.itoa v.i++32::(Lib.itoa (v.t.length:Int)++32::(v.t++s))):=by simp [keyV]
theorem xmi (v:Val) (r:Row):keyOf (v::r)=keyV v++keyOf r:=by simp [keyOf]
theorem xuh (v:Val) (s:List UInt8):keyV v++s≠[]:=by rw [xsL];simp
theorem xy1:∀ {r r':Row},keyOf r=keyOf r'->r=r'
 | [],[],_=>rfl
 | [],v::r',h=>by rw [xmi] at h;exact absurd h.symm (xuh _ _)
 | v::r,[],h=>by rw [xmi] at h;exact absurd h (xuh _ _)
 | v::r,v'::r',h=>by
  rw [xmi,xmi,xsL,xsL] at h;obtain ⟨h1,h⟩:=xtf (xoS _) (xoS _) h;obtain ⟨h2,h⟩:=xtf (xoS _) (xoS _) h;obtain ⟨h3,h⟩:=xtf (xoS _) (xoS _) h;have h3:=xsJ h3;obtain ⟨h4,h⟩:=List.append_inj h (by omega)
  obtain rfl:=xy1 h;have:v=v':=by
   obtain ⟨k,i,t⟩:=v;obtain ⟨k',i',t'⟩:=v';obtain rfl:=xsJ h1;obtain rfl:=xsJ h2;subst h4;rfl
  rw [this]
theorem xGq {n:Int} (h:(Lit.int .i64 n).wf=true):-9223372036854775808<=n/\n<=9223372036854775807:=by
 have h:(decide ((IntKind.i64).min<=n)&&decide (n<=(IntKind.i64).max))=true:=h;rw [zf,zl,zl] at h;exact h
theorem xwc {v:Val} (hw:v.wf) (ht:v.t.length<=1099511627776):(keyV v).length<=66+v.t.length:=by
 obtain ⟨w1,w2,_⟩:=hw;have a1:=Lib.itoa_length_le v.k (xGq w1).1 (xGq w1).2;have a2:=Lib.itoa_length_le v.i (xGq w2).1 (xGq w2).2;have a3:=Lib.itoa_length_le (v.t.length:Int) (by omega) (by omega)
 simp only [keyV,z8,zF];omega
theorem xur (s B:List UInt8) (h:(B++s).length<=140737488355328):xbo s B.length (byteAVs B)=some ((s.length:Int),(B++s).length,byteAVs (B++s)):=by
 rw [z8] at h;have h2:B.length+s.length<=4611686018427387904:=by omega
 unfold xbo xed;simp only [xke,beq_self_eq_true,Nat.mul_one,h,h2,zn,Bool.and_self,xaL,xqc,z8,sUF]
theorem xwU (B:List UInt8) (h:(B++[32]).length<=140737488355328):xff 32 B.length (byteAVs B)=some ((B++[32]).length,byteAVs (B++[32])):=by
 rw [z8,zj] at h;have h2:B.length+1<=4611686018427387904:=by omega
 unfold xff xeI;simp only [xke,beq_self_eq_true,Nat.mul_one,h,h2,zn,Bool.and_self,xaL,xqc,z8,zj,sUF];rfl
def numI (n:Int):List UInt8:=Lib.itoa n++[32]
theorem xzX (t8:List AV) (t9 q:Int) (xs:List AV) (hx:xs.length=3) (j:Nat) (hj:j<3) (n:Int) (hn:xs.getD j .top=.int .i64 n) (h1:-9223372036854775808<=n) (h2:n<=9223372036854775807) (v0 v1:Int) (v2 B:List UInt8) (hB:B.length<=70368744177664) :
  xbu t8 t9 q 3 3 ((j:Int),B.length,v0,v1,v2,xs,byteAVs B)=some (.inl (((j+1:Nat):Int),(B++numI n).length,v0,v1,v2,xs,byteAVs (B++numI n))):=by
 have hl:=Lib.itoa_length_le n h1 h2;have i1:(j:Int)<3:=by omega
 have i2:(j:Int)<((3:Nat):Int):=by omega
 have i3:j<xs.length:=by omega
 have e1:=xur (Lib.itoa n) B (by rw [z8];omega)
 have e2:=xwU (B++Lib.itoa n) (by rw [z8,z8,zj];omega)
 have hc:((AV.int IntKind.i64 n).cells.getD 0 .top).toInt=n:=rfl;have hs:xG1 (Sh.int IntKind.i64) ((AV.int IntKind.i64 n).cells.getD 0 .top)=true:=rfl;simp only [xbu,xhO,xjF,xjG,xjH,xfk,sBU,i1,i2,i3,hn,hc,hs,h1,h2,e1,e2,xF0 (n:=j) (by omega),numI,zw]
theorem xDO (t8:List AV) (t9 q:Int) (xs:List AV) (v0 v1:Int) (v2 B:List UInt8):xbu t8 t9 q 3 3 (((3:Nat):Int),B.length,v0,v1,v2,xs,byteAVs B)=some (.inr (B.length,v0,v1,v2,byteAVs B)):=by
 have i1:¬ ((3:Nat):Int)<3:=by omega
 simp only [xbu,xhO,i1,zm,xaK,sUF]
theorem xsM (v:Val):keyV v=numI v.k++(numI v.i++(numI (v.t.length:Int)++v.t)):=by simp [keyV,numI]
def KOk (v:Val):Prop:=v.wf/\v.t.length<=1099511627776
theorem KOk.len {v:Val} (h:KOk v):(keyV v).length<=1099511627842:=by have:=xwc h.1 h.2;have:=h.2;omega
theorem xy2 (t8:List AV) (t9 q:Int) (v:Val) (h:KOk v) (B:List UInt8) (hB:B.length<=35184372088832) :
  Iter (xbu t8 t9 q 3 3) ((1:Int),(B++numI v.k).length,v.k,v.i,v.t,[AV.int .i64 v.k,AV.int .i64 v.i,AV.int .i64 (v.t.length:Int)],byteAVs (B++numI v.k))=some ((B++numI v.k++numI v.i++numI (v.t.length:Int)).length,v.k,v.i,v.t,byteAVs (B++numI v.k++numI v.i++numI (v.t.length:Int))):=by
 have hl:=h.len;have ht:=h.2;rw [xsM,z8,z8,z8] at hl;have e1:=xzX t8 t9 q [AV.int .i64 v.k,AV.int .i64 v.i,AV.int .i64 (v.t.length:Int)] rfl 1 (by omega) v.i rfl (xGq h.1.2.1).1 (xGq h.1.2.1).2 v.k v.i v.t (B++numI v.k) (by rw [z8];omega)
 have e2:=xzX t8 t9 q [AV.int .i64 v.k,AV.int .i64 v.i,AV.int .i64 (v.t.length:Int)] rfl 2 (by omega) (v.t.length:Int) rfl (by omega) (by omega) v.k v.i v.t (B++numI v.k++numI v.i) (by rw [z8,z8];omega)
 exact (xaV e1).trans ((xaV e2).trans (xaN (xDO ..)))
theorem xEY (t8:List AV) (t9 q:Int) (v:Val) (h:KOk v) (B:List UInt8) (hB:B.length<=35184372088832) :
  Iter (xbu t8 t9 q 3 3) ((0:Int),B.length,v.k,v.i,v.t,[AV.int .i64 v.k,AV.int .i64 v.i,AV.int .i64 (v.t.length:Int)],byteAVs B)=some ((B++numI v.k++numI v.i++numI (v.t.length:Int)).length,v.k,v.i,v.t,byteAVs (B++numI v.k++numI v.i++numI (v.t.length:Int))):=by
 have e0:=xzX t8 t9 q [AV.int .i64 v.k,AV.int .i64 v.i,AV.int .i64 (v.t.length:Int)] rfl 0 (by omega) v.k rfl (xGq h.1.1).1 (xGq h.1.1).2 v.k v.i v.t B (by omega)
 exact (xaV e0).trans (xy2 t8 t9 q v h B hB)
theorem xBp (r:Row) (hr:r.length<=1048576) (h:∀ v,v∈r->KOk v) (hk:(keyOf r).length<=17592186044416):∀ d k:Nat,k+d=r.length->Iter (xdh (r.map encV) ((r.length:Nat):Int)) ((k:Int),(keyOf (r.take k)).length,byteAVs (keyOf (r.take k)))=some ((keyOf r).length,byteAVs (keyOf r))
 | 0,k,hkk=>by
  obtain rfl:k=r.length:=by omega
  rw [y4];refine xaN ?_;simp only [xdh,xhN,zy,zm,xaK,sUF]
 | d+1,k,hkk=>by
  have q:k<r.length:=by omega
  have hv:=h r[k] (zo q);have i1:(k:Int)<(r.length:Int):=by omega
  have gf:(r.map encV).getD k .top=encV r[k]:=xaM _ _ _ q;have tk:keyOf (r.take (k+1))=keyOf (r.take k)++keyV r[k]:=by
   unfold keyOf;rw [List.take_add_one,ze q,List.flatMap_append];simp
  have le:(keyOf (r.take (k+1))).length<=(keyOf r).length:=by
   conv=>rhs;rw [<-List.take_append_drop (k+1) r]
   unfold keyOf;rw [List.flatMap_append,z8];omega
  have hl:=hv.len;rw [tk,z8] at le;have e1:=xEY (r.map encV) (r.length:Int) (k:Int) r[k] hv (keyOf (r.take k)) (by omega)
  have kn:keyOf (r.take k)++keyV r[k]=keyOf (r.take k)++numI r[k].k++numI r[k].i++numI (r[k].t.length:Int)++r[k].t:=by rw [xsM];simp only [zw]
  have e2:=xur r[k].t (keyOf (r.take k)++numI r[k].k++numI r[k].i++numI (r[k].t.length:Int)) (by rw [<-kn,z8];omega)
  rw [xaV (s':=(((k+1:Nat):Int),(keyOf (r.take (k+1))).length,byteAVs (keyOf (r.take (k+1))))) ?_]
  . exact xBp r hr h hk d (k+1) (by omega)
  . rw [tk,kn];simp only [xdh,xhN,xjA,xjB,xjC,xjD,xjE,sBU,q,i1,gf,cV0,cV1,cV2,lV,sV,e1,e2,xF0 (n:=k) (by omega)]
theorem xEZ (r:Row) (hr:r.length<=1048576) (h:∀ v,v∈r->KOk v) (hk:(keyOf r).length<=17592186044416):xjz (r.map encV)=some (keyOf r):=by
 match r with
 | []=>rfl
 | v::t =>
  have hv:=h v (by simp)
  have hl:=hv.len;have i1:(0:Int)<((t.length+1:Nat):Int):=by omega
  have i2:0<t.length+1:=by omega
  obtain ⟨r1,r2⟩:=xGq hv.1.1;have q:=Lib.itoa_length_le v.k r1 r2;have gf:((v::t).map encV).getD 0 .top=encV v:=rfl;have e0:xb2 (Lib.itoa v.k)=some (((Lib.itoa v.k).length:Int),(Lib.itoa v.k).length,byteAVs (Lib.itoa v.k)):=by
   have m1:(Lib.itoa v.k).length<=140737488355328:=by omega
   have m2:(Lib.itoa v.k).length<=4611686018427387904:=by omega
   unfold xb2 xer;simp only [xke,Nat.mul_one,m1,m2,zn,Bool.and_self,xaL,sUF]
  have e1:xiF 32 (Lib.itoa v.k).length (byteAVs (Lib.itoa v.k))=some (([]++numI v.k).length,byteAVs ([]++numI v.k)):=xwU (Lib.itoa v.k) (by rw [z8,zj];omega)
  have e2:=xy2 ((v::t).map encV) ((t.length+1:Nat):Int) 0 v hv [] (by simp)
  have kn:keyV v=[]++numI v.k++numI v.i++numI (v.t.length:Int)++v.t:=by rw [xsM];simp
  have e3:=xur v.t ([]++numI v.k++numI v.i++numI (v.t.length:Int)) (by rw [<-kn];omega)
  rw [<-kn] at e3;have e4:=xBp (v::t) hr h hk t.length 1 (by rw [zF];omega)
  have tk:keyOf ((v::t).take 1)=keyV v:=by simp [keyOf]
  rw [tk,zF] at e4;have e4:Iter (xdh ((v::t).map encV) ((t.length+1:Nat):Int)) ((1:Int),(keyV v).length,byteAVs (keyV v))=_:=e4;have hne:(keyOf (v::t)).length≠0:=fun e=>xuh v (keyOf t) (by rw [<-xmi];exact List.length_eq_zero_iff.1 e)
  unfold xjz xnf xgZ xl4 xl5 xl6 xl7 xl8 xl9 xma xmb xmc xcY;simp only [za,zF,i1,i2,gf,cV0,cV1,cV2,lV,sV,r1,r2,e0,e1,e2,e3,e4,zn,xaL,Bool.and_self,beq_self_eq_true,zk,zh,xke,xts,xvt,ne_eq,hne,not_false_eq_true,sUF]
abbrev Grp:=Row×List Per
def encG (g:Grp):AV:=.agg [.list 3 (g.1.map encV),.list 2 (g.2.map encP)]
def okEG (x:AV):Bool:=x.cells.length==(2:Nat)&&xG8 [Sh.list (3:Nat),Sh.list (2:Nat)] x.cells (0:Nat)
def ldEG (x:AV):AV:=AV.agg [AV.list (3:Nat) (x.cells.getD (0:Nat) AV.top).toList,AV.list (2:Nat) (x.cells.getD (1:Nat) AV.top).toList]
def xGs (x y:AV):Bool:=(xdi (x.cells.getD 0 AV.top).toList (x.cells.getD 1 AV.top).toList (y.cells.getD 0 AV.top).toList (y.cells.getD 1 AV.top).toList).isSome
def xGt (x y:AV):Int:=(xdi (x.cells.getD 0 AV.top).toList (x.cells.getD 1 AV.top).toList (y.cells.getD 0 AV.top).toList (y.cells.getD 1 AV.top).toList).getD 0
theorem heG (a:Grp):okEG (encG a)=true:=rfl
theorem hdG (a:Grp):ldEG (encG a)=encG a:=rfl
section
variable {N : Nat} (hN : N <= 2 ^ 60) {ok : Grp -> Prop} {c : Grp -> Grp -> Int} (hc : ∀ x y, ok x -> ok y -> xGs (encG x) (encG y) = true /\ xGt (encG x) (encG y) = c x y)
include hN
theorem xDg (a b n:Nat) (l r:List Grp) (ha:a<=2 ^ 60) (hb:b<=2 ^ 60) (hn:n<=2 ^ 60) (hl:LOk N ok l) (hr:swr a b n l=some r):xbc N a b n (List.map encG l)=some (List.map encG r)/\LOk N ok r:=by
 obtain ⟨e1,e2⟩:=xD9 (okE:=okEG) (ldE:=ldEG) heG hdG hN a b n ha hb hn (g:=xcb N a b n) (fun i xs=>rfl) hl hr
 refine ⟨?_,e2⟩;unfold xbc xfq;rw [e1];rfl
theorem xFP (a m b:Nat) (l r:List Grp) (h1:a<=m) (h2:m<=b) (h3:b<=N) (hl:LOk N ok l) (hr:rot a m b l=some r):xbY N a m b (List.map encG l)=some (List.map encG r)/\LOk N ok r:=by
 unfold rot at hr;cases hi:Iter (xF8 m) (m - a,b - m,l) with
 | none=>rw [hi] at hr;simp at hr
 | some p =>
  obtain ⟨i,l'⟩:=p;rw [hi] at hr;obtain ⟨e1,e2,e3⟩:=xD8 (enc:=encG) hN (ok:=ok) (SW:=fun a b n xs=>xbc N a b n xs) (fun a b n l r ha hb hn hl hr=>xDg hN a b n l r ha hb hn hl hr) m (by omega) (g:=xeF N m) (fun i j xs=>rfl) (by omega) (by omega) hl hi
  obtain ⟨e4,e5⟩:=xDg hN (m - i) m i l' r (by omega) (by omega) (by omega) e3 hr
  refine ⟨?_,e5⟩;simp only [xbY,xgC,xgd,xge,xgf,xgg,w64 (x:=(m:Int) - (a:Int)) (n:=m - a) (by omega) (by omega),w64 (x:=(b:Int) - (m:Int)) (n:=b - m) (by omega) (by omega),e1,zh,zk,xaL,w64 (x:=(m:Int) - (i:Int)) (n:=m - i) (by omega) (by omega),e4,sUF]
include hc
theorem xDf (a b:Nat) (ha:a<=N) (hb:b<=N) {l r:List Grp} (hl:LOk N ok l) (hr:xGe c a b l=some r):xbr N a b (List.map encG l)=some (List.map encG r)/\LOk N ok r:=by
 obtain ⟨e1,e2⟩:=xwL (enc:=encG) hN (c:=c) (ok:=ok) a b hb (gi:=fun i=>xbI N a b i) (fun i l r hl hr=>xzl (okE:=okEG) (ldE:=ldEG) heG hdG hN (P:=xGs) (V:=xGt) hc a (fun j xs=>rfl) hl hr) (g:=xbH N a b) (fun i xs=>rfl) hl hr
 refine ⟨?_,e2⟩;unfold xbr xep;rw [w64 (x:=(a:Int)+1) (n:=a+1) (by omega) (by omega),e1];rfl
theorem xDh:∀ (f a m b:Nat) (l r:List Grp),a<m->m<b->b<=N->LOk N ok l->symM c f a m b l=some r->xaO f N a m b (List.map encG l)=some (List.map encG r)/\LOk N ok r:=by
 intro f;induction f with
 | zero=>intro a m b l r _ _ _ _ hr;simp [symM] at hr
 | succ f ih =>
  intro a m b l r af ag hb hl hr;unfold symM at hr;show xav (xaO f) N a m b (List.map encG l)=some (List.map encG r)/\LOk N ok r;have J:IntKind.i64.wrap ((m:Int) - (a:Int))=((m - a:Nat):Int):=w64 (by omega) (by omega)
  have O:IntKind.i64.wrap ((b:Int) - (m:Int))=((b - m:Nat):Int):=w64 (by omega) (by omega)
  by_cases h1:m - a=1
  . rw [if_pos h1] at hr;cases hi:Iter (xF6 fun h=>(get2 c l h a).map fun r=>decide (r<0)) (m,b) with
    | none=>rw [hi] at hr;simp at hr
    | some i =>
     rw [hi] at hr;obtain ⟨e0,b1,b2⟩:=xwK (okE:=okEG) heG hN (P:=xGs) (V:=xGt) hc (fun h=>h) (fun _=>a) (fun h=>h) (fun _=>(a:Int)) m b (by omega) (fun _ _ _=>rfl) (fun _ _ _=>rfl) (fun r=>decide (r<0)) (g:=xbC N a) (fun i j xs=>rfl) hl (zd _) (zd _) (by omega) hi
     obtain ⟨e1,e2⟩:=xFf (okE:=okEG) (ldE:=ldEG) heG hdG hN (ok:=ok) (i - 1) i (by omega) (by omega) (g:=xea N i) (fun k xs=>rfl) hl hr
     refine ⟨?_,e2⟩;simp only [xav,xaJ,xap,xaq,xar,xas,xat,xau,xal,xam,xad,xan,xao,xae,xab,xac,xaf,xag,xaw,xay,xaz,xaa,xaA,xaB,xaC,xaD,xaE,xaF,xaG,xaH,xaI,xah,xai,J,h1,e0,zh,zk,xaL,e1,Int.natCast_one,beq_self_eq_true,sUF]
  . rw [if_neg h1] at hr;have d1:(((m - a:Nat):Int)==1)=false:=by simp;omega
    by_cases h2:b - m=1
    . rw [if_pos h2] at hr;cases hi:Iter (xF6 fun h=>(get2 c l m h).map fun r=>!decide (r<0)) (a,m) with
      | none=>rw [hi] at hr;simp at hr
      | some i =>
       rw [hi] at hr;obtain ⟨e0,b1,b2⟩:=xwK (okE:=okEG) heG hN (P:=xGs) (V:=xGt) hc (fun _=>m) (fun h=>h) (fun _=>(m:Int)) (fun h=>h) a m (by omega) (fun _ _ _=>rfl) (fun _ _ _=>rfl) (fun r=>!decide (r<0)) (g:=xbD N m) (fun i j xs=>rfl) hl (zd _) (zd _) (by omega) hi
       obtain ⟨e1,e2⟩:=xCV (okE:=okEG) (ldE:=ldEG) heG hdG hN (ok:=ok) i (g:=xeb N i) (fun k xs=>rfl) hl hr
       refine ⟨?_,e2⟩;simp only [xav,xaJ,xap,xaq,xar,xas,xat,xau,xal,xam,xad,xan,xao,xae,xab,xac,xaf,xag,xaw,xay,xaz,xaa,xaA,xaB,xaC,xaD,xaE,xaF,xaG,xaH,xaI,xah,xai,J,O,d1,h2,e0,zh,zk,xaL,xaK,e1,Int.natCast_one,beq_self_eq_true,sUF]
    . rw [if_neg h2] at hr;have d2:(((b - m:Nat):Int)==1)=false:=by simp;omega
      have hh:IntKind.i64.wrap ((IntKind.u64.wrap (IntKind.i64.wrap ((a:Int)+(b:Int)))).fdiv 2)=(((a+b) / 2:Nat):Int):=xGL (by omega)
      obtain ⟨q,ac⟩:∃ q,q=(a+b) / 2:=⟨_,rfl⟩;rw [<-ac] at hr hh;have w2:IntKind.i64.wrap ((q:Int)+(m:Int))=((q+m:Nat):Int):=w64 (by omega) (by omega)
      have w3:IntKind.i64.wrap (((q+m:Nat):Int) - 1)=((q+m - 1:Nat):Int):=w64 (by omega) (by omega)
      obtain ⟨lo,hi,ad,g1,g2,g3,g4,ae⟩:∃ lo hi,(if q<m then (q+m - b,q) else (a,m))=(lo,hi)/\a<=lo/\lo<=hi/\hi<=m/\hi<=q/\((q<m/\lo=q+m - b/\hi=q)\/(¬ q<m/\lo=a/\hi=m)):=by
       by_cases h:q<m
       . exact ⟨_,_,if_pos h,by omega,by omega,by omega,by omega,.inl ⟨h,rfl,rfl⟩⟩
       . exact ⟨_,_,if_neg h,by omega,by omega,by omega,by omega,.inr ⟨h,rfl,rfl⟩⟩
      rw [ad] at hr;cases hs:Iter (xF6 fun h=>(get2 c l (q+m - 1 - h) h).map fun r=>!decide (r<0)) (lo,hi) with
      | none=>rw [hs] at hr;simp at hr
      | some s =>
       rw [hs] at hr;dsimp only at hr;obtain ⟨e0,b1,b2⟩:=xwK (okE:=okEG) heG hN (P:=xGs) (V:=xGt) hc (fun h=>q+m - 1 - h) (fun h=>h) (fun h=>IntKind.i64.wrap (((q+m - 1:Nat):Int) - h)) (fun h=>h) lo hi (by omega) (fun h _ _=>w64 (by omega) (by omega)) (fun _ _ _=>rfl) (fun r=>!decide (r<0)) (g:=xcp N a m b q ((q+m:Nat):Int) ((q+m - 1:Nat):Int)) (fun i j xs=>rfl) hl (zd _) (zd _) g2 hs
       have w5:IntKind.i64.wrap (((q+m:Nat):Int) - (s:Int))=((q+m - s:Nat):Int):=w64 (by omega) (by omega)
       obtain ⟨e,he⟩:∃ e,e=q+m - s:=⟨_,rfl⟩;rw [<-he] at hr w5;cases Q:(if s<m/\m<e then rot s m e l else some l) with
       | none=>rw [Q] at hr;simp at hr
       | some l1 =>
        rw [Q] at hr;dsimp only at hr;have k1:(s<m/\m<e/\xbY N s m e (List.map encG l)=some (List.map encG l1)/\LOk N ok l1)\/(¬ (s<m/\m<e)/\l1=l):=by
         by_cases h:s<m/\m<e
         . rw [if_pos h] at Q;obtain ⟨x1,x2⟩:=xFP hN s m e l l1 (by omega) (by omega) (by omega) hl Q
           exact .inl ⟨h.1,h.2,x1,x2⟩
         . rw [if_neg h] at Q;simp only [z6] at Q;exact .inr ⟨h,Q.symm⟩
        have Z:LOk N ok l1:=by
         rcases k1 with k|k
         . exact k.2.2.2
         . rw [k.2];exact hl
        cases U:(if a<s/\s<q then symM c f a s q l1 else some l1) with
        | none=>rw [U] at hr;simp at hr
        | some l2 =>
         rw [U] at hr;dsimp only at hr;have k2:(a<s/\s<q/\xaO f N a s q (List.map encG l1)=some (List.map encG l2)/\LOk N ok l2)\/(¬ (a<s/\s<q)/\l2=l1):=by
          by_cases h:a<s/\s<q
          . rw [if_pos h] at U;obtain ⟨x1,x2⟩:=ih a s q l1 l2 h.1 h.2 (by omega) Z U
            exact .inl ⟨h.1,h.2,x1,x2⟩
          . rw [if_neg h] at U;simp only [z6] at U;exact .inr ⟨h,U.symm⟩
         have ab:LOk N ok l2:=by
          rcases k2 with k|k
          . exact k.2.2.2
          . rw [k.2];exact Z
         have k3:(q<e/\e<b/\xaO f N q e b (List.map encG l2)=some (List.map encG r)/\LOk N ok r)\/(¬ (q<e/\e<b)/\r=l2):=by
          by_cases h:q<e/\e<b
          . rw [if_pos h] at hr;obtain ⟨x1,x2⟩:=ih q e b l2 r h.1 h.2 hb ab hr;exact .inl ⟨h.1,h.2,x1,x2⟩
          . rw [if_neg h] at hr;simp only [z6] at hr;exact .inr ⟨h,hr.symm⟩
         refine ⟨?_,?_⟩
         . clear ih hc hl Z ab hr U Q hs ad;rcases ae with ⟨hm,aa,Y⟩|⟨hm,aa,Y⟩
           . rw [aa,Y] at e0;have w4:IntKind.i64.wrap (((q+m:Nat):Int) - (b:Int))=((q+m - b:Nat):Int):=w64 (by omega) (by omega)
             have dm:decide ((m:Int)>(q:Int))=true:=by simp [hm]
             rcases k1 with ⟨p1,p2,p3,_⟩|⟨p1,rfl⟩<;>rcases k2 with ⟨q1,q2,q3,_⟩|⟨q1,rfl⟩<;>rcases k3 with ⟨r1,r2,r3,_⟩|⟨r1,rfl⟩ <;>
              (by_cases t1:s<m<;>by_cases t2:m<e<;>by_cases t3:a<s<;>by_cases t4:s<q<;>by_cases t5:q<e<;>by_cases t6:e<b<;>first|(exfalso;omega) |
               (simp only [xav,xaJ,xap,xaq,xar,xas,xat,xau,xal,xam,xad,xan,xao,xae,xab,xac,xaf,xag,xaw,xay,xaz,xaa,xaA,xaB,xaC,xaD,xaE,xaF,xaG,xaH,xaI,xah,xai,J,O,d1,d2,hh,w2,w3,w4,dm,e0,w5,zh,zk,xaL,xaK,Int.ofNat_lt,t1,t2,t3,t4,t5,t6,zn,zm,hm,p3,q3,r3,sUF]) |
               (simp only [xav,xaJ,xap,xaq,xar,xas,xat,xau,xal,xam,xad,xan,xao,xae,xab,xac,xaf,xag,xaw,xay,xaz,xaa,xaA,xaB,xaC,xaD,xaE,xaF,xaG,xaH,xaI,xah,xai,J,O,d1,d2,hh,w2,w3,w4,dm,e0,w5,zh,zk,xaL,xaK,Int.ofNat_lt,t1,t2,t3,t4,t5,t6,zn,zm,hm,p3,q3,sUF]) |
               (simp only [xav,xaJ,xap,xaq,xar,xas,xat,xau,xal,xam,xad,xan,xao,xae,xab,xac,xaf,xag,xaw,xay,xaz,xaa,xaA,xaB,xaC,xaD,xaE,xaF,xaG,xaH,xaI,xah,xai,J,O,d1,d2,hh,w2,w3,w4,dm,e0,w5,zh,zk,xaL,xaK,Int.ofNat_lt,t1,t2,t3,t4,t5,t6,zn,zm,hm,p3,r3,sUF]) |
               (simp only [xav,xaJ,xap,xaq,xar,xas,xat,xau,xal,xam,xad,xan,xao,xae,xab,xac,xaf,xag,xaw,xay,xaz,xaa,xaA,xaB,xaC,xaD,xaE,xaF,xaG,xaH,xaI,xah,xai,J,O,d1,d2,hh,w2,w3,w4,dm,e0,w5,zh,zk,xaL,xaK,Int.ofNat_lt,t1,t2,t3,t4,t5,t6,zn,zm,hm,q3,r3,sUF]) |
               (simp only [xav,xaJ,xap,xaq,xar,xas,xat,xau,xal,xam,xad,xan,xao,xae,xab,xac,xaf,xag,xaw,xay,xaz,xaa,xaA,xaB,xaC,xaD,xaE,xaF,xaG,xaH,xaI,xah,xai,J,O,d1,d2,hh,w2,w3,w4,dm,e0,w5,zh,zk,xaL,xaK,Int.ofNat_lt,t1,t2,t3,t4,t5,t6,zn,zm,hm,p3,sUF]) |
               (simp only [xav,xaJ,xap,xaq,xar,xas,xat,xau,xal,xam,xad,xan,xao,xae,xab,xac,xaf,xag,xaw,xay,xaz,xaa,xaA,xaB,xaC,xaD,xaE,xaF,xaG,xaH,xaI,xah,xai,J,O,d1,d2,hh,w2,w3,w4,dm,e0,w5,zh,zk,xaL,xaK,Int.ofNat_lt,t1,t2,t3,t4,t5,t6,zn,zm,hm,q3,sUF]) |
               (simp only [xav,xaJ,xap,xaq,xar,xas,xat,xau,xal,xam,xad,xan,xao,xae,xab,xac,xaf,xag,xaw,xay,xaz,xaa,xaA,xaB,xaC,xaD,xaE,xaF,xaG,xaH,xaI,xah,xai,J,O,d1,d2,hh,w2,w3,w4,dm,e0,w5,zh,zk,xaL,xaK,Int.ofNat_lt,t1,t2,t3,t4,t5,t6,zn,zm,hm,r3,sUF]) |
               (simp only [xav,xaJ,xap,xaq,xar,xas,xat,xau,xal,xam,xad,xan,xao,xae,xab,xac,xaf,xag,xaw,xay,xaz,xaa,xaA,xaB,xaC,xaD,xaE,xaF,xaG,xaH,xaI,xah,xai,J,O,d1,d2,hh,w2,w3,w4,dm,e0,w5,zh,zk,xaL,xaK,Int.ofNat_lt,t1,t2,t3,t4,t5,t6,zn,zm,hm,sUF]))
           . rw [aa,Y] at e0;have dm:decide ((m:Int)>(q:Int))=false:=by simp;omega
             rcases k1 with ⟨p1,p2,p3,_⟩|⟨p1,rfl⟩<;>rcases k2 with ⟨q1,q2,q3,_⟩|⟨q1,rfl⟩<;>rcases k3 with ⟨r1,r2,r3,_⟩|⟨r1,rfl⟩ <;>
              (by_cases t1:s<m<;>by_cases t2:m<e<;>by_cases t3:a<s<;>by_cases t4:s<q<;>by_cases t5:q<e<;>by_cases t6:e<b<;>first|(exfalso;omega) |
               (simp only [xav,xaJ,xap,xaq,xar,xas,xat,xau,xal,xam,xad,xan,xao,xae,xab,xac,xaf,xag,xaw,xay,xaz,xaa,xaA,xaB,xaC,xaD,xaE,xaF,xaG,xaH,xaI,xah,xai,J,O,d1,d2,hh,w2,w3,dm,e0,w5,zh,zk,xaL,xaK,Int.ofNat_lt,t1,t2,t3,t4,t5,t6,zn,zm,hm,p3,q3,r3,sUF]) |
               (simp only [xav,xaJ,xap,xaq,xar,xas,xat,xau,xal,xam,xad,xan,xao,xae,xab,xac,xaf,xag,xaw,xay,xaz,xaa,xaA,xaB,xaC,xaD,xaE,xaF,xaG,xaH,xaI,xah,xai,J,O,d1,d2,hh,w2,w3,dm,e0,w5,zh,zk,xaL,xaK,Int.ofNat_lt,t1,t2,t3,t4,t5,t6,zn,zm,hm,p3,q3,sUF]) |
               (simp only [xav,xaJ,xap,xaq,xar,xas,xat,xau,xal,xam,xad,xan,xao,xae,xab,xac,xaf,xag,xaw,xay,xaz,xaa,xaA,xaB,xaC,xaD,xaE,xaF,xaG,xaH,xaI,xah,xai,J,O,d1,d2,hh,w2,w3,dm,e0,w5,zh,zk,xaL,xaK,Int.ofNat_lt,t1,t2,t3,t4,t5,t6,zn,zm,hm,p3,r3,sUF]) |
               (simp only [xav,xaJ,xap,xaq,xar,xas,xat,xau,xal,xam,xad,xan,xao,xae,xab,xac,xaf,xag,xaw,xay,xaz,xaa,xaA,xaB,xaC,xaD,xaE,xaF,xaG,xaH,xaI,xah,xai,J,O,d1,d2,hh,w2,w3,dm,e0,w5,zh,zk,xaL,xaK,Int.ofNat_lt,t1,t2,t3,t4,t5,t6,zn,zm,hm,q3,r3,sUF]) |
               (simp only [xav,xaJ,xap,xaq,xar,xas,xat,xau,xal,xam,xad,xan,xao,xae,xab,xac,xaf,xag,xaw,xay,xaz,xaa,xaA,xaB,xaC,xaD,xaE,xaF,xaG,xaH,xaI,xah,xai,J,O,d1,d2,hh,w2,w3,dm,e0,w5,zh,zk,xaL,xaK,Int.ofNat_lt,t1,t2,t3,t4,t5,t6,zn,zm,hm,p3,sUF]) |
               (simp only [xav,xaJ,xap,xaq,xar,xas,xat,xau,xal,xam,xad,xan,xao,xae,xab,xac,xaf,xag,xaw,xay,xaz,xaa,xaA,xaB,xaC,xaD,xaE,xaF,xaG,xaH,xaI,xah,xai,J,O,d1,d2,hh,w2,w3,dm,e0,w5,zh,zk,xaL,xaK,Int.ofNat_lt,t1,t2,t3,t4,t5,t6,zn,zm,hm,q3,sUF]) |
               (simp only [xav,xaJ,xap,xaq,xar,xas,xat,xau,xal,xam,xad,xan,xao,xae,xab,xac,xaf,xag,xaw,xay,xaz,xaa,xaA,xaB,xaC,xaD,xaE,xaF,xaG,xaH,xaI,xah,xai,J,O,d1,d2,hh,w2,w3,dm,e0,w5,zh,zk,xaL,xaK,Int.ofNat_lt,t1,t2,t3,t4,t5,t6,zn,zm,hm,r3,sUF]) |
               (simp only [xav,xaJ,xap,xaq,xar,xas,xat,xau,xal,xam,xad,xan,xao,xae,xab,xac,xaf,xag,xaw,xay,xaz,xaa,xaA,xaB,xaC,xaD,xaE,xaF,xaG,xaH,xaI,xah,xai,J,O,d1,d2,hh,w2,w3,dm,e0,w5,zh,zk,xaL,xaK,Int.ofNat_lt,t1,t2,t3,t4,t5,t6,zn,zm,hm,sUF]))
         . rcases k3 with k|k
           . exact k.2.2.2
           . rw [k.2];exact ab
theorem xCW {l r:List Grp} (hl:LOk N ok l) (hr:xGA c 1000 N l=some r):xfi N N (List.map encG l)=some (List.map encG r)/\LOk N ok r:=by
 unfold xGA at hr;cases h1:Iter (xGo c N) (0,20,l) with
 | none=>rw [h1] at hr;simp at hr
 | some p =>
  obtain ⟨a,l1⟩:=p;rw [h1] at hr;dsimp only at hr;obtain ⟨e1,ha,_,O⟩:=xwM (enc:=encG) hN (ok:=ok) 20 (by omega) (p:=xGo c N) (F:=fun a b l=>xGe c a b l) (fun a b l l' h e=>by simp only [xGo,h,if_true,e]) (fun a b l h e=>by simp only [xGo,h,if_true,e]) (fun a b l h=>by simp only [xGo,h,if_false]) (G:=fun a b xs=>xbr N a b xs) (fun a b l r Q _ hb hl hr=>xDf hN hc a b (by omega) hb hl hr) (g:=xbU N N 20) (fun a b xs=>rfl) (a:=0) hl h1 (by omega)
  cases h2:xGe c a N l1 with
  | none=>rw [h2] at hr;simp at hr
  | some l2 =>
   rw [h2] at hr;dsimp only at hr;obtain ⟨e2,U⟩:=xDf hN hc a N ha (zd _) O h2;have e3:Iter (xa4 N N) (((20:Nat):Int),List.map encG l2)=some (List.map encG r)/\LOk N ok r:=by
    refine xg2 (I:=fun s=>1<=s.1/\LOk N ok s.2) (J:=LOk N ok) (e:=fun (s:Nat×List Grp)=>((s.1:Int),List.map encG s.2)) (f:=List.map encG) ?_ (s:=(20,l2)) ⟨by omega,U⟩ hr
    rintro ⟨bs,l⟩ ⟨hb,hl⟩;dsimp only at hb hl;by_cases h:bs<N
    . have wb:IntKind.i64.wrap (2*(bs:Int))=((2*bs:Nat):Int):=w64 (by omega) (by omega)
      have wb':IntKind.i64.wrap ((bs:Int)*2)=((bs*2:Nat):Int):=w64 (by omega) (by omega)
      cases h3:Iter (xGc c 1000 bs N) (0,2*bs,l) with
      | none=>exact xeJ (by simp [xGl,h,h3])
      | some p =>
       obtain ⟨a,l3⟩:=p;obtain ⟨f1,f2,f3,f4⟩:=xwM (enc:=encG) hN (ok:=ok) (2*bs) (by omega) (p:=xGc c 1000 bs N) (F:=fun a b l=>symM c 1000 a (a+bs) b l) (fun a b l l' h e=>by simp only [xGc,h,if_true,e]) (fun a b l h e=>by simp only [xGc,h,if_true,e]) (fun a b l h=>by simp only [xGc,h,if_false]) (G:=fun a b xs=>xaO 1000 N a (IntKind.i64.wrap (a+(bs:Int))) b xs) (fun a b l r Q Y V hl hr=>by
        have:=xDh hN hc 1000 a (a+bs) b l r (by omega) (by omega) V hl hr
        rw [w64 (x:=(a:Int)+(bs:Int)) (n:=a+bs) (by omega) (by omega)]
        exact this) (g:=xcJ N N bs) (fun a b xs=>by rw [<-wb];rfl) (a:=0) hl (by rw [zH];exact h3) (by omega)
       rw [zH,<-wb] at f1;have f1':Iter (xcJ N N bs) ((0:Int),IntKind.i64.wrap (2*(bs:Int)),List.map encG l)=some ((a:Int),List.map encG l3):=f1;have q:IntKind.i64.wrap ((a:Int)+(bs:Int))=((a+bs:Nat):Int):=w64 (by omega) (by omega)
       by_cases h4:a+bs<N
       . cases h5:symM c 1000 a (a+bs) N l3 with
         | none=>exact xeJ (by simp [xGl,h,h3,h4,h5])
         | some l4 =>
          obtain ⟨f5,f6⟩:=xDh hN hc 1000 a (a+bs) N l3 l4 (by omega) h4 (zd _) f4 h5
          refine xkZ (s0:=(bs*2,l4)) (by simp [xGl,h,h3,h4,h5]) ?_ ⟨by dsimp only;omega,f6⟩
          have q1:(bs:Int)<(N:Int):=by omega
          have q2:((a+bs:Nat):Int)<(N:Int):=by omega
          simp only [xa4,xch,xdv,xdw,xdy,xdz,xdA,xdB,f1',q1,q2,zn,xaL,zk,zh,q,f5,wb',sUF]
       . refine xkZ (s0:=(bs*2,l3)) (by simp [xGl,h,h3,h4]) ?_ ⟨by dsimp only;omega,f4⟩
         have q1:(bs:Int)<(N:Int):=by omega
         have q2:¬ ((a+bs:Nat):Int)<(N:Int):=by omega
         simp only [xa4,xch,xdv,xdw,xdy,xdz,xdA,xdB,f1',q1,q2,zn,zm,xaL,xaK,zk,zh,q,wb',sUF]
    . refine xkQ (r0:=l) (by simp [xGl,h]) ?_ hl
      have q1:¬ (bs:Int)<(N:Int):=by omega
      simp only [xa4,xch,q1,zm,xaK,sUF]
   have e1':Iter (xbU N N 20) ((0:Int),(20:Int),List.map encG l)=some ((a:Int),List.map encG l1):=e1;have e3':Iter (xa4 N N) ((20:Int),List.map encG l2)=some (List.map encG r):=e3.1;refine ⟨?_,e3.2⟩;simp only [xfi,xgD,xgh,xgi,xgj,e1',e2,e3',zk,zh,xaL,sUF]
end
theorem xFQ {N:Nat} (hN:N*48<=140737488355328) {ok:Grp->Prop} {c:Grp->Grp->Int} (hc:∀ x y:Grp,ok x->ok y->xGs (encG x) (encG y)=true/\xGt (encG x) (encG y)=c x y) (l r:List Grp) (hl:l.length=N) (ho:∀ x,x∈l->ok x) (hr:xGA c 1000 N l=some r) :
  xgR N (List.map encG l)=some (List.map encG r):=by
 obtain ⟨e1,e2⟩:=xCW (N:=N) (by omega) (ok:=ok) hc ⟨hl,ho⟩ hr
 simp only [xgR,xgb,e1,zk,zh,xaL,sUF]
end Go.Sim.M
end
noncomputable section
set_option maxRecDepth 100000
namespace Go.Sim.M
open Go.RowKit Go.Sim.Srt
def ents:Nat->List Row->List AV
 | _,[]=>[]
 | k,r::R=>.agg [.str (keyOf r),.int .i64 (k:Int)]::ents (k+1) R
theorem xyX:∀ (R:List Row) (k:Nat) (r:Row),mapIx (ents k R) (keyOf r)=R.findIdx? fun x=>decide (x=r)
 | [],_,_=>rfl
 | x::R,k,r=>by
  have hk:isKey (keyOf r) (((AV.agg [.str (keyOf x),.int .i64 (k:Int)]).cells).getD 0 .top)=decide (x=r):=by
   show (keyOf x==keyOf r)=_;by_cases h:x=r
   . subst h;simp
   . have:¬ keyOf x=keyOf r:=fun e=>h (xy1 e)
     simp [h,this]
  show (match isKey (keyOf r) (((AV.agg [.str (keyOf x),.int .i64 (k:Int)]).cells).getD 0 .top) with|true=>some 0|false=>(mapIx (ents (k+1) R) (keyOf r)).map (·+1))=_
  rw [hk,List.findIdx?_cons,xyX R (k+1) r];by_cases h:x=r<;>simp [h]
theorem xvZ:∀ (R:List Row) (k:Nat),(ents k R).length=R.length
 | [],_=>rfl
 | _::R,k=>by show (ents (k+1) R).length+1=_;rw [xvZ R];rfl
theorem xuA:∀ (R:List Row) (k:Nat) (r:Row),ents k (R++[r])=ents k R++[.agg [.str (keyOf r),.int .i64 ((k+R.length:Nat):Int)]]
 | [],_,_=>rfl
 | x::R,k,r=>by
  show _::ents (k+1) (R++[r])=_;rw [xuA R (k+1) r,zF,show k+1+R.length=k+(R.length+1) by omega];rfl
theorem xvY:∀ (R:List Row) (k j:Nat) (h:j<R.length),(ents k R).getD j .top=.agg [.str (keyOf R[j]),.int .i64 ((k+j:Nat):Int)]
 | x::R,k,0,h=>rfl
 | x::R,k,j+1,h=>by
  show (ents (k+1) R).getD j .top=_;rw [xvY R (k+1) j (by simpa using h),show k+1+j=k+(j+1) by omega];rfl
def upd (G:List Grp) (f:Fc):List Grp:=match (G.map (·.1)).findIdx? fun x=>decide (x=f.r) with
 | some j=>G.set j (f.r,(G.getD j ([],[])).2++[f.p])
 | none=>G++[(f.r,[f.p])]
structure GI (l:List Fc) (G:List Grp):Prop where
 nd:(G.map (·.1)).Nodup
 mem:∀ r,r∈G.map (·.1)↔∃ f,f∈l/\f.r=r/\pv f.p=true
 ps:∀ g,g∈G->g.2=psOf l g.1
 len:G.length<=l.length
theorem GI.nil:GI [] []:=⟨List.nodup_nil,fun r=>by simp,fun g hg=>by simp at hg,zd _⟩
theorem xqi (l:List Fc) (f:Fc) (r:Row):psOf (l++[f]) r=psOf l r++(if f.r=r/\pv f.p=true then [f.p] else []):=by
 unfold psOf;rw [List.filter_append,zx];congr 1;by_cases h1:f.r=r<;>by_cases h2:pv f.p=true<;>simp [h1,h2]
theorem GI.skip {l:List Fc} {G:List Grp} (h:GI l G) {f:Fc} (hf:pv f.p=false):GI (l++[f]) G :=
 ⟨h.nd,fun r=>by
  rw [h.mem];refine ⟨fun ⟨g,hg,e⟩=>⟨g,by simp [hg],e⟩,fun ⟨g,hg,e1,e2⟩=>⟨g,?_,e1,e2⟩⟩
  rcases zG.1 hg with hg|hg
  . exact hg
  . rw [zv] at hg;subst hg;rw [hf] at e2;simp at e2,fun g hg=>by rw [xqi,if_neg (by rw [hf];simp),zD];exact h.ps g hg,by rw [z8];have:=h.len;omega⟩
theorem xrp {R:List Row} {r:Row} {j:Nat} (h:R.findIdx? (fun x=>decide (x=r))=some j):∃ hj:j<R.length,R[j]=r:=by
 obtain ⟨hj,h1,_⟩:=List.findIdx?_eq_some_iff_getElem.1 h;exact ⟨hj,by simpa using h1⟩
theorem xv0 {R:List Row} {r:Row} (h:R.findIdx? (fun x=>decide (x=r))=none):r∉R:=fun hr=>by
 have:=List.findIdx?_eq_none_iff.1 h r hr;simp at this
theorem xun {G:List Grp} {j:Nat} (hj:j<G.length) {ps:List Per} {r:Row} (hr:G[j].1=r):(G.set j (r,ps)).map (·.1)=G.map (·.1):=by
 rw [List.map_set];show (G.map (·.1)).set j r=_;rw [<-hr];have:(G.map (·.1))[j]'(by simpa using hj)=G[j].1:=by simp
 rw [<-this];exact List.set_getElem_self _
theorem GI.upd {l:List Fc} {G:List Grp} (h:GI l G) {f:Fc} (hf:pv f.p=true):GI (l++[f]) (M.upd G f):=by
 unfold M.upd;cases hi:(G.map (·.1)).findIdx? fun x=>decide (x=f.r) with
 | some j =>
  obtain ⟨hj,hr⟩:=xrp hi;rw [za] at hj;rw [List.getElem_map] at hr;dsimp only;have gd:G.getD j ([],[])=G[j]:=by rw [z7,ze hj];rfl
  rw [gd];refine ⟨by rw [xun hj hr];exact h.nd,fun r=>?_,fun g hg=>?_,by rw [y2,z8];have:=h.len;omega⟩
  . rw [xun hj hr,h.mem];refine ⟨fun ⟨g,hg,e⟩=>⟨g,by simp [hg],e⟩,fun ⟨g,hg,e1,e2⟩=>?_⟩
    rcases zG.1 hg with hg|hg
    . exact ⟨g,hg,e1,e2⟩
    . rw [zv] at hg;subst hg;refine (h.mem r).1 ?_;rw [<-e1,<-hr];exact zK.2 ⟨G[j],zo hj,rfl⟩
  . obtain ⟨i,q,rfl⟩:=zp.1 hg;rw [y2] at q;rw [List.getElem_set];by_cases O:j=i
    . subst O;rw [if_pos rfl,xqi,if_pos ⟨rfl,hf⟩,h.ps _ (zo hj),hr]
    . rw [if_neg O,xqi,if_neg ?_,zD]
      . exact h.ps _ (zo q)
      . rintro ⟨e,_⟩;have hn:=zB.1 h.nd;have ei:(G.map (·.1))[i]'(by simpa using q)=G[i].1:=by simp
        have ej:(G.map (·.1))[j]'(by simpa using hj)=G[j].1:=by simp
        rcases Nat.lt_or_gt_of_ne O with J|J
        . exact hn j i (by simpa using hj) (by simpa using q) J (by rw [ei,ej,hr,e])
        . exact hn i j (by simpa using q) (by simpa using hj) J (by rw [ei,ej,hr,e])
 | none =>
  have hr:=xv0 hi;dsimp only;have hz:psOf l f.r=[]:=by
   unfold psOf;rw [List.map_eq_nil_iff,List.filter_eq_nil_iff];intro g hg he;simp only [zf,zl] at he;exact hr ((h.mem _).2 ⟨g,hg,he⟩)
  refine ⟨?_,fun r=>?_,fun g hg=>?_,by rw [z8,z8];have:=h.len;simp;omega⟩
  . rw [zx];refine List.nodup_append.2 ⟨h.nd,by simp,fun a ha b hb e=>?_⟩
    simp at hb;exact hr (by rw [<-hb,<-e];exact ha)
  . rw [zx,zG,h.mem];simp only [zV,zW,zv,zG];constructor
    . rintro (⟨g,hg,e⟩|rfl)
      . exact ⟨g,.inl hg,e⟩
      . exact ⟨f,.inr rfl,rfl,hf⟩
    . rintro ⟨g,hg|rfl,e⟩
      . exact .inl ⟨g,hg,e⟩
      . exact .inr e.1.symm
  . rcases zG.1 hg with hg|hg
    . rw [xqi,if_neg ?_,zD]
      . exact h.ps g hg
      . rintro ⟨e,_⟩;exact hr (by rw [e];exact zK.2 ⟨g,hg,rfl⟩)
    . rw [zv] at hg;subst hg;rw [xqi,if_pos ⟨rfl,hf⟩,hz];rfl
theorem cG0 (g:Grp):((encG g).cells.getD 0 .top).toList=g.1.map encV:=rfl
theorem xBg {α:Type} (l:List α) (x d:α):(l++[x]).getD l.length d=x:=by simp
theorem xCU {α:Type} (l:List α) (x y:α):(l++[x]).set l.length y=l++[y]:=by simp
theorem xGK (xs:List AV):(AV.agg xs).cells=xs:=rfl
theorem tolA (n:Nat) (xs:List AV):(AV.list n xs).toList=xs:=rfl
theorem xGN (k:IntKind) (n:Int):(AV.int k n).toInt=n:=rfl
theorem xGM (xs:List AV):xHJ 2 (.list 2 xs)=true:=rfl
theorem xGS (n m:Nat):xH5 (.int .i64 (n:Int)) m=decide (n<m):=rfl
theorem xGR:xH5 (.int .i64 0) 1=true:=rfl
theorem g2a (a b:AV):[a,b].getD 0 .top=a:=rfl
theorem g2b (a b:AV):[a,b].getD 1 .top=b:=rfl
theorem lt2 (a b:AV):([a,b].length==2)=true:=rfl
theorem tk1 (a b:AV):List.take 1 [a,b]=[a]:=rfl
theorem dp2 (a b:AV):List.drop 2 [a,b]=[]:=rfl
theorem xyV (g:Grp):encG g=.agg [.list 3 (g.1.map encV),.list 2 (g.2.map encP)]:=rfl
theorem xyW (p:Per):encP p=.agg [.int .i64 p.1,.int .i64 p.2]:=rfl
def Keyed (l:List Fc):Prop:=Few l/\∀ f,f∈l->(∀ v,v∈f.r->KOk v)/\(keyOf f.r).length<=17592186044416
theorem Keyed.key {l:List Fc} (h:Keyed l) {f:Fc} (hf:f∈l):xjz (f.r.map encV)=some (keyOf f.r):=xEZ f.r (h.1.2 f hf) (h.2 f hf).1 (h.2 f hf).2
theorem xBT (l:List Fc) (h:Keyed l) (k:Nat) (hk:k<l.length) (G:List Grp) (hG:GI (l.take k) G) :
  xbF (l.map encF) ((l.length:Nat):Int) (G.length,(k:Int),ents 0 (G.map (·.1)),G.map encG) =
   some (.inl ((if pv l[k].p=true then upd G l[k] else G).length,((k+1:Nat):Int),ents 0 ((if pv l[k].p=true then upd G l[k] else G).map (·.1)),(if pv l[k].p=true then upd G l[k] else G).map encG)):=by
 have hl:=h.1.1;have i1:(k:Int)<(l.length:Int):=by omega
 have gf:(l.map encF).getD k .top=encF l[k]:=xaM _ _ _ hk;have ek:=h.key (zo hk);have kl:=(h.2 _ (zo hk)).2;have O:=hG.len;rw [zt] at O;cases hv:pv l[k].p with
 | false =>
  simp only [xbF,xef,sBU,i1,hk,gf,cF0,cF1,cF2,sF0,sF1,sF2,lF,sF12,sF02,xnW,hv,xF0 (n:=k) (by omega)]
  rfl
 | true =>
  have k1:(keyOf l[k].r).length<=4611686018427387904:=by omega
  have hx:=xyX (G.map (·.1)) 0 l[k].r;have n1:(ents 0 (G.map (·.1))).length<4611686018427387904:=by rw [xvZ,za];omega
  have m1:(G.length+1)*48<=140737488355328:=by omega
  have m2:G.length+1<=4611686018427387904:=by omega
  simp only [if_true];cases hi:(G.map (·.1)).findIdx? fun x=>decide (x=l[k].r) with
  | none =>
   rw [hi] at hx;have hu:upd G l[k]=G++[(l[k].r,[l[k].p])]:=by unfold upd;rw [hi]
   have hh:xHy (ents 0 (G.map (·.1))) (keyOf l[k].r)=false:=by unfold xHy;rw [hx];rfl
   have hg:xHl (AV.int .i64 0) (ents 0 (G.map (·.1))) (keyOf l[k].r)=AV.int .i64 0:=by unfold xHl;rw [hx]
   have hp:xHj (ents 0 (G.map (·.1))) (keyOf l[k].r) (AV.int .i64 (G.length:Int))=ents 0 ((G++[(l[k].r,[l[k].p])]).map (·.1)):=by
    unfold xHj;rw [hx,zx];show _=ents 0 (G.map (·.1)++[l[k].r]);rw [xuA,za,zH]
   have i2:(G.length:Int)<((G.length+1:Nat):Int):=by omega
   have J:xG1 (Sh.int .i64) (AV.int .i64 0)=true:=rfl;have gl:∀ x:AV,(G.map encG++[x]).getD G.length .top=x:=fun x=>by have:=xBg (G.map encG) x .top;rwa [za] at this
   have sl:∀ x y:AV,(G.map encG++[x]).set G.length y=G.map encG++[y]:=fun x y=>by have:=xCU (G.map encG) x y;rwa [za] at this
   rw [hu];simp only [xbF,xef,xgF,xgG,xdN,xdO,xeV,xgH,xeW,xaX,xgI,xaY,xbd,xaR,xev,xf3,xf4,xbO,xf5,xew,xcj,sBU,i1,hk,gf,cF0,cF1,cF2,sF0,sF1,sF2,lF,sF12,sF02,xnW,hv,xF0 (n:=k) (by omega),ek,k1,hh,hg,hp,n1,m1,m2,i2,J,gl,sl,z8,zj,zx,zV,zW,xGK,tolA,xGN,xGM,xGS,g2a,g2b,lt2,tk1,dp2,y2,Nat.lt_succ_self,Bool.and_self,List.length_nil,zH,xyV,xyW,List.singleton_append,zU,zD,Int.natCast_zero]
   try simp [xaL,xGR,sUF]
  | some j =>
   obtain ⟨hj,hr⟩:=xrp hi;rw [hi] at hx;have q:j<G.length:=by simpa using hj
   rw [List.getElem_map] at hr;have gd:G.getD j ([],[])=G[j]:=by rw [z7,ze q];rfl
   have hu:upd G l[k]=G.set j (l[k].r,G[j].2++[l[k].p]):=by unfold upd;rw [hi];dsimp only;rw [gd]
   have hh:xHy (ents 0 (G.map (·.1))) (keyOf l[k].r)=true:=by unfold xHy;rw [hx];rfl
   have hg:xHl (AV.int .i64 0) (ents 0 (G.map (·.1))) (keyOf l[k].r)=AV.int .i64 (j:Int):=by
    unfold xHl;rw [hx];dsimp only;rw [xvY _ _ _ hj,zH];rfl
   have gj:(G.map encG).getD j .top=encG G[j]:=xaM _ _ _ q;have i2:(j:Int)<(G.length:Int):=by omega
   have J:xG1 (Sh.int .i64) (AV.int .i64 (j:Int))=true:=rfl;have pl:G[j].2.length<=k:=by
    rw [hG.ps _ (zo q)];have:=xwv (l.take k) G[j].1;rw [zt] at this;omega
   have m3:(G[j].2.length+1)*16<=140737488355328:=by omega
   have m4:G[j].2.length+1<=4611686018427387904:=by omega
   have gs:∀ x:AV,((G.map encG).set j x).getD j .top=x:=fun x=>by
    rw [z7,zL (by simpa using q)];rfl
   have ss:∀ x y:AV,((G.map encG).set j x).set j y=(G.map encG).set j y:=fun x y=>List.set_set ..
   have tj:(AV.int IntKind.i64 (j:Int)).toInt=(j:Int):=rfl;have cj:(encG G[j]).cells=[.list 3 (l[k].r.map encV),.list 2 (G[j].2.map encP)]:=by rw [<-hr];rfl
   rw [hu,xun q hr,y2,List.map_set];simp only [xbF,xef,xgF,xgG,xdN,xdO,xeV,xgH,xeW,xaX,xgI,xaY,xbd,xaR,xev,xf3,xf4,xbO,xf5,xew,xcj,sBU,i1,hk,gf,cF0,cF1,cF2,sF0,sF1,sF2,lF,sF12,sF02,xnW,hv,xF0 (n:=k) (by omega),ek,k1,hh,hg,i2,J,tj,gj,cj,q,y2,gs,ss,xGK,tolA,xGN,xGM,xGS,g2a,g2b,lt2,tk1,dp2,m3,m4,Bool.and_self,z8,zj,Nat.lt_succ_self,xyV,xyW,zx,zV,zW,List.singleton_append,zD]
   try simp [xaL,xGR,hr,sUF]
def grp (l:List Fc):List Grp:=l.foldl (fun G f=>if pv f.p=true then upd G f else G) []
theorem xv6 (l:List Fc) (f:Fc):grp (l++[f])=if pv f.p=true then upd (grp l) f else grp l:=by simp [grp]
theorem xBi:∀ l:List Fc,GI l.reverse (grp l.reverse)
 | []=>GI.nil
 | f::l=>by
  rw [List.reverse_cons,xv6];have ih:=xBi l;cases hv:pv f.p with
  | true=>rw [if_pos rfl];exact ih.upd hv
  | false=>rw [if_neg (by simp)];exact ih.skip hv
theorem xBj (l:List Fc):GI l (grp l):=by have:=xBi l.reverse;rwa [List.reverse_reverse] at this
theorem xBS (l:List Fc) (h:Keyed l):Iter (xbF (l.map encF) ((l.length:Nat):Int)) ((0:Nat),(0:Int),[],[])=some ((grp l).length,(grp l).map encG):=by
 refine xjK (fun k=>(((grp (l.take k)).length,((k:Nat):Int),ents 0 ((grp (l.take k)).map (·.1)),(grp (l.take k)).map encG):Nat×Int×List AV×List AV)) l.length _ (fun k hk=>?_) ?_ l.length 0 (by omega)
 . rw [xBT l h k hk (grp (l.take k)) (xBj _)];have tk:l.take (k+1)=l.take k++[l[k]]:=by rw [List.take_add_one,ze hk];rfl
   rw [tk,xv6]
 . simp only [xbF,xef,za,zy,zm,xaK,y4,sUF]
theorem xDD (x y:Grp) (hx:x.1.length<=4398046511104):xGs (encG x) (encG y)=true/\xGt (encG x) (encG y)=cmpR x.1 y.1:=by
 have e:xdi (x.1.map encV) (x.2.map encP) (y.1.map encV) (y.2.map encP)=some (cmpR x.1 y.1):=by
  unfold xdi xli;rw [xvc x.1 y.1 (by unfold maxLen;omega)];rfl
 have e2:xdi ((encG x).cells.getD 0 .top).toList ((encG x).cells.getD 1 .top).toList ((encG y).cells.getD 0 .top).toList ((encG y).cells.getD 1 .top).toList=some (cmpR x.1 y.1):=e;unfold xGs xGt;rw [e2];exact ⟨rfl,rfl⟩
theorem xD3 (l:List Fc) (h:Keyed l):∃ S:List Grp,xi2 (l.map encF)=some (S.map encG)/\xGg l (S.map (·.1))/\(∀ g,g∈S->g.2=psOf l g.1)/\S.length<=l.length:=by
 have hg:=xBj l;have O:=h.1.1;have J:=hg.len;have cG:Cm fun x y:Grp=>cmpR x.1 y.1:=xpH.on (e:=fun x:Grp=>x.1)
 obtain ⟨r,e,p,s⟩:=(fun F (hF:20<=F)=>xyt cG.ord F (grp l).length (xza (Nat.le_trans J O) hF) (grp l) rfl) 1000 (by decide)
 have es:=xFQ (N:=(grp l).length) (by omega) (ok:=fun g=>g.1.length<=1048576) (c:=fun x y:Grp=>cmpR x.1 y.1) (fun x y hx hy=>xDD x y (by omega)) (grp l) r rfl (fun g q=>by
  obtain ⟨f,hf,e,_⟩:=(hg.mem g.1).1 (zK.2 ⟨g,q,rfl⟩);rw [<-e];exact h.1.2 f hf) e
 have rl:=p.length_eq;refine ⟨r,?_,⟨?_,fun x=>?_⟩,fun g q=>hg.ps g (p.mem_iff.1 q),by rw [rl];exact J⟩
 . have el:=xBS l h;have ra:xHz 2 1 ((grp l).map encG)=true:=by
    unfold xHz;rw [zI];intro x hx;obtain ⟨g,_,rfl⟩:=zK.1 hx;rfl
   have ll:(grp l).length<=r.length:=by omega
   have tt:List.take (grp l).length (r.map encG)=r.map encG:=zi (by rw [za];omega)
   unfold xi2 xmd xlj xlk xiO xll xlm xln;simp only [za,el,zk,zh,xaL,ra,es,zH,ll,zn,zS,zr,tt,sUF]
 . refine xBZ (fun _ _=>xlO) ?_ ?_
   . exact List.pairwise_map.2 s
   . exact ((p.map (·.1)).nodup_iff).2 hg.nd
 . rw [(p.map (·.1)).mem_iff];exact hg.mem x
end Go.Sim.M
end
noncomputable section
set_option maxRecDepth 100000
namespace Go.Sim.M
open Go.RowKit Go.Sim.Srt Go.Sort
theorem xEe (E:List Per):(E.map encP).all isP=true/\∃ P:List Per,srtP (E.map encP)=P.map encP/\P.Perm E/\Sorted cmpP P:=by
 have e1:(E.map encP).map decP=E:=by
  rw [List.map_map];conv=>rhs;rw [<-List.map_id E]
  rfl
 refine ⟨?_,pdqL cmpP E,?_,(xnV cmpP swoP E).1,(xsj cmpP swoP E).imp fun {x y} h=>?_⟩
 . rw [zI];intro x hx;obtain ⟨e,he,rfl⟩:=zK.1 hx;rfl
 . unfold srtP;rw [e1];rfl
 . have:=xpu x y;omega
theorem xwf (S:List Per) (hS:S.length<=524289) (hN:∀ s,s∈S->0<=s.2/\s.2<=1048576):∀ (d k:Nat) (J ox:List Per),k+d=S.length->StOk J->(xF1 J).length<=1048576->ox.length<=k*1048576 ->
  ∃ q Q:List Per,Iter (xdF (S.map encP) ((S.length:Nat):Int)) ((k:Int),ox.length,J.length,((xF1 J).length:Int),ox.map encP,J.map encP)=some (Q.length,((xF1 q).length:Int),q.length,Q.map encP,q.map encP) /\
   StOk q/\(xF1 q,Q)=(S.drop k).foldl (fun x s=>setF x (s.1,s.2.toNat)) (xF1 J,ox)/\(xF1 q).length<=1048576/\Q.length<=S.length*1048576
 | 0,k,J,ox,h,h1,h2,h3=>by
  obtain rfl:k=S.length:=by omega
  refine ⟨J,ox,xaN ?_,h1,by rw [zq (zd _)];rfl,h2,h3⟩
  simp only [xdF,xh0,zy,zm,xaK,sUF]
 | d+1,k,J,ox,h,h1,h2,h3=>by
  have hk:k<S.length:=by omega
  obtain ⟨n1,n2⟩:=hN _ (zo hk);obtain ⟨m,hm⟩:∃ m:Nat,S[k].2=(m:Int):=⟨S[k].2.toNat,by omega⟩
  obtain ⟨O,e,a1,a2⟩:=xzk S[k].1 m (xF1 J).length J ox h1 rfl (by omega) h2 (by omega)
  have U:(xF1 O).length=m:=by rw [a2,z8,zt,List.length_replicate];omega
  obtain ⟨q,Q,e',b1,b2,b3,b4⟩:=xwf S hS hN d (k+1) O (ox++(((xF1 J).drop m).reverse.map fun f=>(f,S[k].1))) (by omega) a1 (by omega) (by
   rw [z8,za,List.length_reverse,y1];omega)
  refine ⟨q,Q,(xaV ?_).trans e',b1,?_,b3,b4⟩
  . have i1:(k:Int)<(S.length:Int):=by omega
    have gf:(S.map encP).getD k .top=encP S[k]:=xaM _ _ _ hk;have i2:¬ (0:Int)>(m:Int):=by omega
    have i3:¬ (1048576:Int)<(m:Int):=by omega
    have tk:List.take O.length (O.map encP)=O.map encP:=zi (by simp)
    rw [U];simp only [xdF,xh0,xj5,xj6,xj7,xj8,xj9,xka,xkb,sBU,hk,i1,gf,cP0,cP1,lP,sP,sP0,sP1,hm,i2,i3,if_false,e,tk,xF0 (n:=k) (by omega)]
  . rw [b2,xa7 hk,List.foldl_cons];congr 1;rw [hm,zN,a2];rfl
theorem xBr {N:Int->Nat} {H:Nat} (hb:H<=1048576) (hH:∀ t,N t<=H) (h0:∀ t,t<0\/1099511627776<=t->N t=0) {S:List Per} (hS:StepI (fun t=>(N t:Int)) 1099511627776 S) (hl:S.length<=524289):∃ P,xmW (S.map encP)=some (P.map encP)/\IsLevs N P:=by
 obtain ⟨q,ox,e,a1,a2,a3,a4⟩:=xwf S hl (fun s hs=>by
  obtain ⟨_,_,m3,_⟩:=(hS.mem s).1 hs;have:=hH s.1;omega) S.length 0 [] [] (by omega) (fun s hs=>by simp at hs) (by simp [xF1]) (by simp)
 obtain ⟨J,e2,c1,c2⟩:=xzk 1099511627776 0 (xF1 q).length q ox a1 rfl (by omega) a3 (by omega)
 obtain ⟨s1,P,s2,s3,s4⟩:=xEe (ox++(((xF1 q).drop 0).reverse.map fun f=>(f,(1099511627776:Int))))
 have m1:(ox++(((xF1 q).drop 0).reverse.map fun f=>(f,(1099511627776:Int)))).length<4611686018427387904:=by
  rw [z8,za,List.length_reverse,y1];omega
 refine ⟨P,?_,xCw hH h0 hS ?_ s4⟩
 . have pl:=s3.length_eq;have e:Iter (xdF (S.map encP) ((S.length:Nat):Int)) ((0:Int),(0:Nat),(0:Nat),(0:Int),[],[])=_:=e;have e2:set2 1099511627776 0 ((xF1 q).length:Int) q.length ox.length (q.map encP) (ox.map encP)=_:=e2;generalize (ox++(((xF1 q).drop 0).reverse.map fun f=>(f,(1099511627776:Int))))=O at s1 s2 e2 pl m1
   have bq:O.length.beq O.length=true:=by simp
   have m2:O.length<=P.length:=by omega
   have tt:List.take O.length (P.map encP)=P.map encP:=zi (by rw [za];omega)
   unfold xmW xnD;simp only [xhs,xht,xmX,xmY,xmZ,xmx,xm0,xm1,xm2,za,e,zk,zh,xaL,e2,bq,m1,s1,s2,zn,zS,zH,m2,zr,tt,sUF]
 . have a2:(xF1 q,ox)=S.foldl (fun x s=>setF x (s.1,s.2.toNat)) ([],[]):=a2
   rw [<-a2];exact s3
theorem xvU (ps:List Per) (t:Int) (ht:t<0\/1099511627776<=t):ps.countP (hasP · t)=0:=by
 rw [List.countP_eq_zero];intro p hp h;obtain ⟨h1,h2,h3⟩:=xfT.1 h;have:=xei.1 h1;omega
theorem xDv (ps:List Per) (hv:∀ p,p∈ps->pv p=true) (hl:ps.length<=262144):∃ P,xfS (ps.map encP)=some (P.map encP)/\IsLevs (fun t=>ps.countP (hasP · t)) P:=by
 unfold xfS xl3;by_cases h1:ps.length=1
 . obtain ⟨p,rfl⟩:=List.length_eq_one_iff.1 h1;refine ⟨[p],rfl,List.pairwise_singleton _ _,fun k=>if k=0 then [p] else [],1,fun t=>?_,fun k=>?_,?_⟩
   . have:=List.countP_le_length (p:=(hasP · t)) (l:=[p]);simpa using this
   . by_cases hk:k=0
     . subst hk;refine ⟨⟨fun q hq=>by simp at hq;subst hq;exact hv _ (by simp),List.pairwise_singleton _ _⟩,fun t=>?_⟩
       simp [inL];cases hasP p t<;>simp
     . refine ⟨by simp [hk,xoM],fun t=>?_⟩
       simp only [hk,if_false,xkg];have:=List.countP_le_length (p:=(hasP · t)) (l:=[p]);simp at this |-;omega
   . simp
 . obtain ⟨S,e1,e2,e3⟩:=xvi ps hl;obtain ⟨P,e4,e5⟩:=xBr (N:=fun t=>ps.countP (hasP · t)) (H:=ps.length) (by omega) (fun t=>List.countP_le_length) (xvU ps) e2 (by omega)
   refine ⟨P,?_,e5⟩;have i1:((ps.length:Int)==1)=false:=by simp;omega
   simp only [za,i1,xaK,e1,e4,zk,zh,xaL,sUF]
def mk (r:Row) (P:List Per):List Fc:=P.map fun p=>⟨r,p⟩
theorem xsC (L:Row->List Per):∀ S:List Grp,(S.flatMap fun g=>mk g.1 (L g.1))=xF7 (S.map (·.1)) L
 | []=>rfl
 | g::S=>by rw [zR,xsC L S];rfl
theorem xAW (O:List AV) (Q J:Int) (q:Row) (hr:q.length<=1048576) (g1:List AV) (P:List Per) (D:List Fc) (hb:D.length+P.length<=2199023255552) (hP:P.length<=1099511627776) :
  Iter (xb6 O Q J (P.map encP) ((P.length:Nat):Int)) (D.length,(0:Int),D.map encF,q.map encV,g1)=some ((D++mk q P).length,(D++mk q P).map encF):=by
 have key:=xjK (step:=xb6 O Q J (P.map encP) ((P.length:Nat):Int)) (fun k=>(((D++mk q (P.take k)).length,((k:Nat):Int),(D++mk q (P.take k)).map encF,q.map encV,g1):Nat×Int×List AV×List AV×List AV)) P.length
  ((D++mk q P).length,(D++mk q P).map encF) (fun k hk=>by
  have i1:(k:Int)<(P.length:Int):=by omega
  have gf:(P.map encP).getD k .top=encP P[k]:=xaM _ _ _ hk;have dl:(D++mk q (P.take k)).length=D.length+k:=by unfold mk;rw [z8,za,zt];omega
  have m1:(D.length+k+1)*40<=140737488355328:=by omega
  have m2:D.length+k+1<=4611686018427387904:=by omega
  have m3:q.length*32<=140737488355328:=by omega
  have m4:q.length<=4611686018427387904:=by omega
  have tk:List.take q.length (q.map encV)=q.map encV:=zi (by simp)
  have U:mk q (P.take (k+1))=mk q (P.take k)++[⟨q,P[k]⟩]:=by unfold mk;rw [List.take_add_one,ze hk,zx];rfl
  rw [U,<-zw];simp only [xb6,xft,sBU,hk,i1,gf,cP0,cP1,lP,sP,sP0,sP1,dl,m1,m2,m3,m4,zd,tk,zr,xF0 (n:=k) (by omega)]
  rw [z8,dl];simp [encF]) (by
  simp only [xb6,xft,zy,zm,xaK,y4,sUF]) P.length 0 (by omega)
 have e0:D++mk q (P.take 0)=D:=by simp [mk]
 rw [e0] at key;exact key
def Bld (l:List Fc):Prop:=Keyed l/\l.length<=1024
theorem cGs (g:Grp):((encG g).cells.getD 1 .top).toList=g.2.map encP:=rfl
theorem lG (g:Grp):((encG g).cells.length==2)=true:=rfl
theorem sG (g:Grp):xG8 [Sh.list 3,Sh.list 2] (encG g).cells 0=true:=rfl
theorem xAX (S:List Grp) (hS:S.length<=1024) (hr:∀ g,g∈S->g.1.length<=1048576) (L:Row->List Per) (hL:∀ g,g∈S->xfS (g.2.map encP)=some ((L g.1).map encP)/\(L g.1).length<=1048576) :
  Iter (xcX (S.map encG) ((S.length:Nat):Int)) ((0:Nat),(0:Int),[])=some ((xF7 (S.map (·.1)) L).length,(xF7 (S.map (·.1)) L).map encF):=by
 rw [<-xsC];refine xjL S (fun g=>mk g.1 (L g.1)) encF 1048576 (fun g hg=>by unfold mk;rw [za];exact (hL g hg).2) (fun n h D hD=>?_) (fun D=>?_)
 . have i1:(n:Int)<(S.length:Int):=by omega
   have gf:(S.map encG).getD n .top=encG S[n]:=xaM _ _ _ h;obtain ⟨e1,e2⟩:=hL _ (zo h);have q:=hr _ (zo h);have el:=xAW (S.map encG) (S.length:Int) (n:Int) S[n].1 q (S[n].2.map encP) (L S[n].1) D (by omega) (by omega)
   simp only [xcX,xfs,xhA,xhB,sBU,h,i1,gf,cG0,cGs,lG,sG,e1,el,xF0 (n:=n) (by omega)]
 . simp only [xcX,xfs,zy,zm,xaK,sUF]
theorem xuw {R:List Row} {Q:Row->List Per->Prop} (h:∀ r,r∈R->∃ P,Q r P):∃ L:Row->List Per,∀ r,r∈R->Q r (L r):=by
 refine ⟨fun r=>if hr:r∈R then Classical.choose (h r hr) else [],fun r hr=>?_⟩
 show Q r (if hr:r∈R then Classical.choose (h r hr) else [])
 rw [dif_pos hr];exact Classical.choose_spec (h r hr)
theorem xBG (l:List Fc) (r:Row):(fun t=>(psOf l r).countP (hasP · t))=cnt l r:=funext fun t=>xtH l r t
theorem xEG (l:List Fc) (h:Bld l):∃ B,xcq (l.map encF)=some (B.map encF)/\xGd l B:=by
 obtain ⟨S,e1,hR,J,O⟩:=xD3 l h.1;have hl:=h.2;obtain ⟨L,hL⟩:=xuw (R:=S.map (·.1)) (Q:=fun r P=>xfS ((psOf l r).map encP)=some (P.map encP)/\IsLevs (cnt l r) P/\P.length<=1048576) fun r hr=>by
  have q:=xwv l r;obtain ⟨P,a1,a2⟩:=xDv (psOf l r) xCH (by omega)
  have a3:=a2.len;rw [xBG] at a2;refine ⟨P,a1,a2,Nat.le_trans a3 (Nat.mul_le_mul (Nat.le_trans q hl) (Nat.le_trans q hl))⟩
 have hk:∀ g,g∈S->g.1∈S.map (·.1):=fun g hg=>zK.2 ⟨g,hg,rfl⟩
 have eb:=xAX S (by omega) (fun g hg=>by
  obtain ⟨f,hf,e,_⟩:=(hR.2 g.1).1 (hk g hg);rw [<-e];exact h.1.1.2 f hf) L (fun g hg=>by
  rw [J g hg];exact ⟨(hL _ (hk g hg)).1,(hL _ (hk g hg)).2.2⟩)
 refine ⟨xF7 (S.map (·.1)) L,?_,S.map (·.1),L,hR,fun r hr=>(hL r hr).2.1,rfl⟩
 have tt:∀ F:List Fc,List.take F.length (F.map encF)=F.map encF:=fun F=>zi (by simp)
 unfold xcq xne xlh xjw xjb xjc xjd xje;simp only [e1,zk,zh,xaL,za,eb,zH,zd,zn,zS,zr,tt,sUF]
end Go.Sim.M
end
noncomputable section
set_option maxRecDepth 100000
namespace Go.Sim.M
open Go.RowKit Go.Sim.Srt
def pos (S:List Per) (i:Nat):Int:=match S[i]? with
 | some s=>s.1
 | none=>1099511627776
theorem xqh {S:List Per} {i:Nat} (h:i<S.length):pos S i=S[i].1:=by unfold pos;rw [ze h]
theorem xwt {S:List Per} {i:Nat} (h:S.length<=i):pos S i=1099511627776:=by unfold pos;rw [zz h]
theorem xCE {N:Int->Nat} {S:List Per} (hS:StepI (fun t=>(N t:Int)) 1099511627776 S) {i:Nat} (hi:i<S.length):0<=pos S i/\pos S i<pos S (i+1)/\pos S (i+1)<=1099511627776/\S[i].2=(N S[i].1:Int)/\∀ t,pos S i<=t->t<pos S (i+1)->N t=N S[i].1:=by
 obtain ⟨m1,m2,m3,_⟩:=(hS.mem S[i]).1 (zo hi);rw [xqh hi];have hb:S[i].1<pos S (i+1)/\pos S (i+1)<=1099511627776:=by
  by_cases h:i+1<S.length
  . rw [xqh h];have:=zB.1 hS.asc i (i+1) hi h (by omega)
    have:=((hS.mem S[i+1]).1 (zo h)).2.1;omega
  . rw [xwt (by omega)];omega
 refine ⟨m1,hb.1,hb.2,m3,fun t h1 h2=>xpw (a:=S[i].1) (b:=pos S (i+1)) (fun u u1 u2=>?_) (t - S[i].1).toNat t (by omega) h2⟩
 by_cases e:N (u - 1)=N u
 . exact e
 . have hu:(u,(N u:Int))∈S:=(hS.mem _).2 ⟨by dsimp only;omega,by dsimp only;omega,rfl,.inr (by dsimp only;omega)⟩
   obtain ⟨k,hk,J⟩:=zp.1 hu;have O:S[k].1=u:=by rw [J]
   rcases zJ i k with q|q
   . have:i+1<S.length:=by omega
     rw [xqh this] at u2;rcases zJ (i+1) k with h3|h3
     . have:=zB.1 hS.asc (i+1) k this hk h3;omega
     . obtain rfl:k=i+1:=by omega
       omega
   . rcases zJ k i with h3|h3
     . have:=zB.1 hS.asc k i hk hi h3;omega
     . obtain rfl:k=i:=by omega
       omega
theorem xCF {N:Int->Nat} {S:List Per} (hS:StepI (fun t=>(N t:Int)) 1099511627776 S):pos S 0=0:=by
 have h0:((0:Int),(N 0:Int))∈S:=(hS.mem _).2 ⟨by simp,by simp,rfl,.inl rfl⟩
 obtain ⟨k,hk,J⟩:=zp.1 h0;have h:0<S.length:=by omega
 have p0:=((hS.mem S[0]).1 (zo h)).1;rw [xqh h];have q:S[k].1=0:=by rw [J]
 rcases zJ 0 k with h3|h3
 . have:=zB.1 hS.asc 0 k h hk h3;omega
 . obtain rfl:k=0:=by omega
   exact q
def xGb (out:List Per) (f t:Int):List Per:=match out.getLast? with
 | some p=>if p.2=f then out.dropLast++[(p.1,t)] else out++[(f,t)]
 | none=>out++[(f,t)]
theorem xGF {n:Nat} (h:n<=1099511627776):(n+1)*16<=140737488355328/\n+1<=4611686018427387904/\n*16<=140737488355328/\n<=4611686018427387904:=by omega
theorem xDN (out:List Per) (f t:Int) (O:f<t) (J:∀ p,p∈out->p.2<=f) (hl:out.length<=1048576):∃ q,xb4 out.length f t (out.map encP)=some q/\br q.1 q.2.1.1 q.2.2.1=(xGb out f t).length/\br q.1 q.2.1.2.2 q.2.2.2=(xGb out f t).map encP:=by
 rcases xoR out with rfl|⟨o,p,rfl⟩
 . refine ⟨_,rfl,rfl,rfl⟩
 . have hp:=J p (by simp)
   have L:(o++[p]).length=o.length+1:=by simp
   rw [L] at hl;have w1:IntKind.i64.wrap (((o.length+1:Nat):Int) - 1)=(o.length:Int):=xGU (by omega)
   have i1:((o.length+1:Nat):Int)>0:=by omega
   have i2:(o.length:Int)<((o.length+1:Nat):Int):=by omega
   have i3:(o.length:Int)<=((o.length+1:Nat):Int):=by omega
   have i4:o.length<o.length+1:=by omega
   have i5:o.length<=o.length+1:=by omega
   have gl:((o++[p]).map encP).getD o.length .top=encP p:=by
    rw [zx];have:=xv5 (o.map encP) (encP p) .top;rwa [za] at this
   have tl:List.take o.length ((o++[p]).map encP)=o.map encP:=by
    rw [zx];exact List.take_left' (by simp)
   obtain ⟨m1,m2,m3,m4⟩:=xGF (n:=o.length) (by omega)
   obtain ⟨m5,m6,_,_⟩:=xGF (n:=o.length+1) (by omega)
   have jn:xGb (o++[p]) f t=if p.2=f then o++[(p.1,t)] else o++[p]++[(f,t)]:=by
    unfold xGb;simp
   by_cases he:p.2=f
   . have c1:p.2>=f:=by omega
     have c2:t>p.2:=by omega
     rw [jn,if_pos he,L];refine ⟨(true,(o.length+1,(o++[p]).map encP,o.map encP++[encP (p.1,t)]),(0,[])),?_,by simp [xaL,sUF],by simp [xaL,sUF]⟩
     unfold xb4 xjV xh2 xi3 xd5 xla xlb xi4 xlc;simp only [sBU,L,w1,i1,i2,i3,i4,i5,gl,cP0,cP1,lP,sP,sP0,sP1,c1,c2,tl,zr,m1,m2,m3,m4,if_true,aggP]
   . have c1:¬ p.2>=f:=by omega
     rw [jn,if_neg he,L];refine ⟨(false,(0,[],[]),(o.length+1+1,(o++[p]).map encP++[encP (f,t)])),?_,by simp [xaK,sUF],by simp [xaK,sUF]⟩
     unfold xb4 xjV xh2 xi3 xd5 xla xlb xi4 xlc;simp only [sBU,L,w1,i1,i2,i3,i4,gl,cP0,cP1,lP,sP,sP0,sP1,c1,m5,m6,aggP]
theorem xBn {out:List Per} {f t:Int} {K:Int->Bool} (h:OutOk out f K) (h0:0<=f) (J:f<t) (hF:t<=1099511627776) (hK:∀ u,f<=u->u<t->K u=true):OutOk (xGb out f t) t K/\(xGb out f t).length<=out.length+1:=by
 rcases xoR out with rfl|⟨o,p,rfl⟩
 . exact ⟨h.add h0 J hF hK (fun p hp=>by simp at hp),by simp [xGb]⟩
 . have jn:xGb (o++[p]) f t=if p.2=f then o++[(p.1,t)] else o++[p]++[(f,t)]:=by unfold xGb;simp
   rw [jn];by_cases he:p.2=f
   . rw [if_pos he];exact ⟨h.ext he J hF hK,by simp⟩
   . rw [if_neg he];refine ⟨h.add h0 J hF hK (fun q hq e=>?_),by simp⟩
     rcases zG.1 hq with hq|hq
     . have:=(List.pairwise_append.1 h.span.2).2.2 q hq p (by simp)
       have hv:=xei.1 (h.span.1 p (by simp))
       have:=h.low p (by simp)
       omega
     . rw [zv] at hq;subst hq;exact he e
theorem xvJ {N:Int->Nat} {S:List Per} (hS:StepI (fun t=>(N t:Int)) 1099511627776 S) (hl:S.length<=524289) (n:Int):∀ (d i:Nat) (out:List Per),i+d=S.length->OutOk out (pos S i) (fun t=>decide (n<=(N t:Int)))->out.length<=i ->
  ∃ J:List Per,Iter (xbb (S.map encP) n) (out.length,(i:Int),out.map encP)=some (J.length,J.map encP)/\OutOk J 1099511627776 (fun t=>decide (n<=(N t:Int)))/\J.length<=S.length
 | 0,i,out,h,ho,hn=>by
  obtain rfl:i=S.length:=by omega
  rw [xwt (zd _)] at ho;refine ⟨out,xaN ?_,ho,hn⟩;simp only [xbb,xc6,za,zy,zm,xaK,sUF]
 | d+1,i,out,h,ho,hn=>by
  have hi:i<S.length:=by omega
  obtain ⟨p1,p2,p3,p4,p5⟩:=xCE hS hi;have i1:(i:Int)<(S.length:Int):=by omega
  have gf:(S.map encP).getD i .top=encP S[i]:=xaM _ _ _ hi;have wi:=xF0 (n:=i) (by omega)
  have pe:=xqh hi;by_cases Q:S[i].2>=n
  . have hK:∀ t,pos S i<=t->t<pos S (i+1)->(fun t=>decide (n<=(N t:Int))) t=true:=fun t t1 t2=>by
     dsimp only;rw [p5 t t1 t2,<-p4];exact decide_eq_true Q
    obtain ⟨j1,j2⟩:=xBn ho p1 p2 p3 hK;obtain ⟨q,q1,q2,q3⟩:=xDN out (pos S i) (pos S (i+1)) p2 ho.low (by omega)
    obtain ⟨J,e',x1,x2⟩:=xvJ hS hl n d (i+1) (xGb out (pos S i) (pos S (i+1))) (by omega) j1 (by omega)
    refine ⟨J,(xaV (s':=((xGb out (pos S i) (pos S (i+1))).length,((i+1:Nat):Int),(xGb out (pos S i) (pos S (i+1))).map encP)) ?_).trans e',x1,x2⟩;rw [<-q2,<-q3];by_cases O:i+1<S.length
    . have i2:((i+1:Nat):Int)<(S.length:Int):=by omega
      have gn:(S.map encP).getD (i+1) .top=encP S[i+1]:=xaM _ _ _ O;rw [xqh O,pe] at q1;simp only [xbb,xc6,xdQ,xdR,xdS,xdT,xdU,xdV,xdW,xdX,xdY,xdZ,xbR,xdj,xdk,xdl,sBU,i1,i2,hi,O,gf,gn,cP0,cP1,lP,sP,sP0,sP1,Q,wi,q1]
    . have i2:¬ ((i+1:Nat):Int)<(S.length:Int):=by omega
      rw [xwt (S:=S) (i:=i+1) (by omega),pe] at q1
      simp only [xbb,xc6,xdQ,xdR,xdS,xdT,xdU,xdV,xdW,xdX,xdY,xdZ,xbR,xdj,xdk,xdl,sBU,i1,i2,hi,gf,cP0,cP1,lP,sP,sP0,sP1,Q,wi,q1]
  . have hK:∀ t,pos S i<=t->t<pos S (i+1)->(fun t=>decide (n<=(N t:Int))) t=false:=fun t t1 t2=>by
     dsimp only;rw [p5 t t1 t2,<-p4];exact decide_eq_false (by omega)
    obtain ⟨J,e',x1,x2⟩:=xvJ hS hl n d (i+1) out (by omega) (ho.skip (by omega) hK) (by omega)
    refine ⟨J,(xaV (s':=(out.length,((i+1:Nat):Int),out.map encP)) ?_).trans e',x1,x2⟩;by_cases O:i+1<S.length
    . have i2:((i+1:Nat):Int)<(S.length:Int):=by omega
      have gn:(S.map encP).getD (i+1) .top=encP S[i+1]:=xaM _ _ _ O;simp only [xbb,xc6,xdQ,xdR,xdS,xdT,xdU,xdV,xdW,xdX,xdY,xdZ,xbR,xdj,xdk,xdl,sBU,i1,i2,hi,O,gf,gn,cP0,cP1,lP,sP,sP0,sP1,Q,wi]
    . have i2:¬ ((i+1:Nat):Int)<(S.length:Int):=by omega
      simp only [xbb,xc6,xdQ,xdR,xdS,xdT,xdU,xdV,xdW,xdX,xdY,xdZ,xbR,xdj,xdk,xdl,sBU,i1,i2,hi,gf,cP0,cP1,lP,sP,sP0,sP1,Q,wi]
theorem xEF {N:Int->Nat} (h0:∀ t,t<0\/1099511627776<=t->N t=0) {S:List Per} (hS:StepI (fun t=>(N t:Int)) 1099511627776 S) (hl:S.length<=524289) (k:Nat):∃ A:List Per,xeN (S.map encP) ((k+1:Nat):Int)=some (A.map encP)/\(IsSpan A/\∀ t,inL A t=decide (k<N t))/\A.length<=S.length:=by
 obtain ⟨A,e,a1,a2⟩:=xvJ hS hl ((k+1:Nat):Int) S.length 0 [] (by omega) (by rw [xCF hS];exact xBD _) (zd _)
 refine ⟨A,?_,⟨a1.span,fun t=>?_⟩,a2⟩
 . have e:Iter (xbb (S.map encP) ((k+1:Nat):Int)) ((0:Nat),(0:Int),[])=_:=e;have tt:List.take A.length (A.map encP)=A.map encP:=zi (by simp)
   unfold xeN xmo;simp only [xlE,xlF,xlG,e,zk,zh,xaL,zH,za,zd,zn,zS,zr,tt,sUF]
 . rw [a1.done];by_cases h1:0<=t
   . by_cases h2:t<1099511627776
     . simp only [h1,h2,zn,Bool.true_and];rw [Bool.eq_iff_iff,zl,zl];omega
     . have:=h0 t (.inr (by omega));simp [h2,this]
   . have:=h0 t (.inl (by omega));simp [h1,this]
theorem xBI (p q:Per):decide (xk9 p.1 p.2 q.1 q.2<=0)=decide (cmpP p q<=0):=by
 rw [Bool.eq_iff_iff,zl,zl,xqd];unfold xk9;simp only [xby,zS,sUF];by_cases h1:p.1=q.1
 . by_cases h2:p.2=q.2
   . simp [h1,h2]
   . by_cases h3:p.2<q.2
     . simp [h1,h2,h3];omega
     . simp [h1,h2,h3];omega
 . by_cases h3:p.1<q.1
   . simp [h1,h3]
   . simp [h1,h3]
theorem xwr (P:List Per) (hP:P.length<=1099511627775) (p:Per):∀ (d i:Nat),i+d=P.length->(∀ k (h:k<P.length),k<i->cmpP P[k] p<=0)->∃ m:Nat,m<=P.length/\(∀ k (h:k<P.length),k<m->cmpP P[k] p<=0)/\(∀ h:m<P.length,¬ cmpP P[m] p<=0) /\
  Iter (xcB (P.map encP)) (i,(i:Int),p.1,p.2,(P.take i).map encP)=some (m,(m:Int),p.1,p.2,(P.take m).map encP)
 | 0,i,h,hk=>by
  obtain rfl:i=P.length:=by omega
  refine ⟨P.length,zd _,hk,fun h=>by omega,xaN ?_⟩
  simp only [xcB,xgB,za,zy,zm,xaK,sUF]
 | d+1,i,h,hk=>by
  have hi:i<P.length:=by omega
  have i1:(i:Int)<(P.length:Int):=by omega
  have gf:(P.map encP).getD i .top=encP P[i]:=xaM _ _ _ hi;have tl:(P.take i).length=i:=by rw [zt];omega
  obtain ⟨m1,m2,_,_⟩:=xGF (n:=i) (by omega)
  have rc:=xBI P[i] p;by_cases hc:cmpP P[i] p<=0
  . rw [decide_eq_true hc] at rc;obtain ⟨m,a1,a2,a3,a4⟩:=xwr P hP p d (i+1) (by omega) (fun k h h1=>by
     by_cases e:k=i
     . subst e;exact hc
     . exact hk k h (by omega))
    refine ⟨m,a1,a2,a3,(xaV ?_).trans a4⟩;simp only [xcB,xgB,xhW,sBU,i1,hi,gf,cP0,cP1,lP,sP,sP0,sP1,rc,tl,m1,m2,xF0 (n:=i) (by omega),aggP]
    rw [List.take_add_one,ze hi,zx];rfl
  . rw [decide_eq_false hc] at rc;refine ⟨i,by omega,hk,fun _=>hc,xaN ?_⟩
    simp only [xcB,xgB,xhW,sBU,i1,hi,gf,cP0,cP1,lP,sP,sP0,sP1,rc]
theorem xCB (P:List Per) (hP:P.length<=1099511627775) (p:Per) (hs:Sorted cmpP P):∃ P':List Per,xnM (P.map encP) p.1 p.2=some (P'.map encP)/\P'.Perm (p::P)/\Sorted cmpP P':=by
 obtain ⟨m,a1,a2,a3,a4⟩:=xwr P hP p P.length 0 (by omega) (fun k h h1=>by omega)
 refine ⟨P.take m++p::P.drop m,?_,?_,?_⟩
 . have a4:Iter (xcB (P.map encP)) ((0:Nat),(0:Int),p.1,p.2,[])=_:=a4;have tl:(P.take m).length=m:=by rw [zt];omega
   obtain ⟨m1,m2,_,_⟩:=xGF (n:=m) (by omega)
   have i1:(m:Int)<=(P.length:Int):=by omega
   have t1:List.take (P.length - m) (List.drop m (P.map encP))=(P.drop m).map encP:=by rw [zi (by simp),List.map_drop]
   have dl:(P.drop m).length=P.length - m:=y1;have m3:(m+1+(P.length - m))*16<=140737488355328:=by omega
   have m4:m+1+(P.length - m)<=4611686018427387904:=by omega
   have J:(P.take m).map encP++[encP p]++(P.drop m).map encP=(P.take m++p::P.drop m).map encP:=by simp
   have fl:((P.take m++p::P.drop m).map encP).length=m+1+(P.length - m):=by simp;omega
   have tt:List.take (m+1+(P.length - m)) ((P.take m++p::P.drop m).map encP)=(P.take m++p::P.drop m).map encP:=zi (by rw [fl];exact zd _)
   have ag:AV.agg [.int .i64 p.1,.int .i64 p.2]=encP p:=rfl;unfold xnM xoo;simp only [xib,xnl,xnm,xic,xnn,xid,xno,xnp,xnq,xnr,xmr,xms,xmt,a4,sBU,ag,tl,t1,dl,m1,m2,m3,m4,i1,z8,zj,J,zd,zr];have l9:m+(p::P.drop m).length=m+1+(P.length - m):=by rw [zF,dl];omega
   simp only [za,l9,zd,zn,xaL,tt,sUF]
 . exact List.perm_middle.trans (by rw [List.take_append_drop])
 . refine List.pairwise_append.2 ⟨hs.sublist (List.take_sublist _ _),zM.2 ⟨fun q hq=>?_,hs.sublist (List.drop_sublist _ _)⟩,fun x hx y hy=>?_⟩
   . obtain ⟨j,hj,rfl⟩:=zp.1 hq;rw [y1] at hj;rw [List.getElem_drop];have h1:=a3 (by omega)
     have h2:cmpP p P[m]<=0:=by rw [xpu P[m] p];omega
     rcases Nat.eq_zero_or_pos j with rfl|O
     . exact h2
     . exact xCg.trans _ _ _ h2 (zB.1 hs m (m+j) (by omega) (by omega) (by omega))
   . obtain ⟨i,hi,rfl⟩:=List.mem_take_iff_getElem.1 hx;rcases zC.1 hy with rfl|hy
     . exact a2 i (by omega) (by omega)
     . obtain ⟨j,hj,rfl⟩:=zp.1 hy;rw [y1] at hj;rw [List.getElem_drop];exact zB.1 hs i (m+j) (by omega) (by omega) (by omega)
theorem xzg (l:List AV) (n:Int) (s:List Per) (hs:s.length<=1048576):∀ (d i:Nat) (out:List Per),i+d=s.length->Sorted cmpP out->out.length+d<=1099511627775->∃ q:List Per,Iter (xcn l n (s.map encP)) (out.map encP,(i:Int))=some (q.map encP)/\q.Perm (out++s.drop i)/\Sorted cmpP q
 | 0,i,out,h,ho,hl=>by
  obtain rfl:i=s.length:=by omega
  refine ⟨out,xaN ?_,by rw [zq (zd _),zD],ho⟩
  simp only [xcn,xhV,za,zy,zm,xaK,sUF]
 | d+1,i,out,h,ho,hl=>by
  have hi:i<s.length:=by omega
  have i1:(i:Int)<(s.length:Int):=by omega
  have gf:(s.map encP).getD i .top=encP s[i]:=xaM _ _ _ hi;obtain ⟨P',e1,p1,s1⟩:=xCB out (by omega) s[i] ho
  have pl:=p1.length_eq;rw [zF] at pl;obtain ⟨q,e2,p2,s2⟩:=xzg l n s hs d (i+1) P' (by omega) s1 (by omega)
  refine ⟨q,(xaV (s':=(P'.map encP,((i+1:Nat):Int))) ?_).trans e2,?_,s2⟩
  . simp only [xcn,xhV,sBU,i1,hi,gf,cP0,cP1,lP,sP,sP0,sP1,e1,xF0 (n:=i) (by omega)]
  . refine p2.trans ((p1.append_right _).trans ?_);rw [xa7 hi];exact List.perm_middle.symm
theorem xzf {S:List Per} (A:Nat->List Per) (C:Nat) (hC:C<=524289) (hA:∀ k,xeN (S.map encP) ((k+1:Nat):Int)=some ((A k).map encP)/\(A k).length<=C) (H:Nat) (hH:H<=1048575) (hE:A H=[]):∀ (d k:Nat) (out:List Per),k+d=H->Sorted cmpP out->out.Perm ((List.range k).flatMap A) ->
  ∃ (K:Nat) (q:List Per),Iter (xcm (S.map encP)) (out.map encP,((k+1:Nat):Int))=some (true,(q.map encP,q.map encP),[])/\A K=[]/\K<=H/\q.Perm ((List.range K).flatMap A)/\Sorted cmpP q
 | d,k,out,h,ho,hp=>by
  obtain ⟨e1,l1⟩:=hA k;have n1:((k+1:Nat):Int)<=1048576:=by omega
  by_cases hk:A k=[]
  . refine ⟨k,out,xaN ?_,hk,by omega,hp,ho⟩
    rw [hk] at e1;simp only [xcm,xhU,n1,e1,zn,xaL,zk,zh,zW,sUF];rfl
  . match d,h with
    | 0,h =>
     obtain rfl:k=H:=by omega
     exact absurd hE hk
    | d+1,h =>
     have ol:out.length<=C*k:=by
      rw [hp.length_eq];have:=xjI (g:=A) (List.range k) fun j _=>(hA j).2
      rwa [List.length_range] at this
     have J:C*k<=524289*1048575:=Nat.mul_le_mul hC (by omega)
     obtain ⟨q,e2,p2,s2⟩:=xzg (S.map encP) ((k+1:Nat):Int) (A k) (by omega) (A k).length 0 out (by omega) ho (by omega)
     obtain ⟨K,o2,e3,k1,k2,p3,s3⟩:=xzf A C hC hA H hH hE d (k+1) q (by omega) s2 (by
      rw [List.range_succ,List.flatMap_append];rw [zr] at p2;refine p2.trans ((hp.append_right _).trans ?_);simp)
     refine ⟨K,o2,(xaV ?_).trans e3,k1,k2,p3,s3⟩;have ne:(((A k).length:Int)==0)=false:=by
      have:(A k).length≠0:=fun e=>hk (List.length_eq_zero_iff.1 e)
      simp;exact hk
     have e2:Iter (xcn (S.map encP) ((k+1:Nat):Int) ((A k).map encP)) (out.map encP,(0:Int))=_:=e2;simp only [xcm,xhU,n1,e1,zn,xaL,xaK,zk,zh,za,ne,e2,xF0 (n:=k+1) (by omega),sUF]
theorem xAh {N:Int->Nat} {H:Nat} (hH:H<=1048575) (hN:∀ t,N t<=H) (h0:∀ t,t<0\/1099511627776<=t->N t=0) {S:List Per} (hS:StepI (fun t=>(N t:Int)) 1099511627776 S) (hl:S.length<=524289):∃ P,xeE (S.map encP)=some (P.map encP)/\IsLevs N P:=by
 have ha:=xEF h0 hS hl;have hA:=fun k=>Classical.choose_spec (ha k)
 obtain ⟨A,q⟩:∃ A:Nat->List Per,A=fun k=>Classical.choose (ha k):=⟨_,rfl⟩
 have hA:∀ k,xeN (S.map encP) ((k+1:Nat):Int)=some ((A k).map encP)/\(IsSpan (A k)/\∀ t,inL (A k) t=decide (k<N t))/\(A k).length<=S.length:=fun k=>by rw [q];exact hA k
 have hE:A H=[]:=xqN (hA H).2.1.1 fun t=>by rw [(hA H).2.1.2];have:=hN t;simp;omega
 obtain ⟨K,P,e,k1,k2,p1,s1⟩:=xzf A S.length hl (fun k=>⟨(hA k).1,(hA k).2.2⟩) H hH hE H 0 [] (by omega) List.Pairwise.nil (by simp)
 refine ⟨P,?_,s1,A,K,fun t=>?_,fun k=>(hA k).2.1,p1⟩
 . have e:Iter (xcm (S.map encP)) ([],(1:Int))=_:=e;unfold xeE xnk;simp only [xmp,xmq,e,zk,zh,xaL,sUF]
 . have:=(hA K).2.1.2 t;rw [k1,xkg] at this;have:=of_decide_eq_false this.symm;omega
def Tx (l:List Fc):Prop:=∀ f,f∈l->∀ v,v∈f.r->v.wf/\v.t.length<=1073741824
theorem xBo {r:Row} (h:∀ v,v∈r->v.wf/\v.t.length<=1073741824) (hl:r.length<=60):(keyOf r).length<=17592186044416:=by
 have:=xjI (g:=keyV) (c:=1073741890) r fun v hv=>by
  obtain ⟨h1,h2⟩:=h v hv;have:=xwc h1 (by omega);omega
 unfold keyOf;have h2:1073741890*r.length<=1073741890*60:=Nat.mul_le_mul_left _ hl;omega
theorem xB4 {l:List Fc} (hl:l.length<=1024) (hr:∀ f,f∈l->f.r.length<=60) (ht:Tx l):Bld l :=
 ⟨⟨⟨by omega,fun f hf=>by have:=hr f hf;omega⟩,fun f hf=>⟨fun v hv=>⟨(ht f hf v hv).1,by have:=(ht f hf v hv).2;omega⟩,xBo (ht f hf) (hr f hf)⟩⟩,hl⟩
theorem xGd.all {l B:List Fc} (h:xGd l B) {Q:Row->Prop} (hq:∀ f,f∈l->Q f.r):∀ f,f∈B->Q f.r:=fun f hf=>by
 obtain ⟨_,g,hg,e⟩:=h.valid hf;rw [<-e];exact hq g hg
theorem xGy.all {l B:List Fc} (h:xGy l B) {Q:Row->Prop} (hq:∀ f,f∈l->Q f.r):∀ f,f∈B->Q f.r:=fun f hf=>by
 obtain ⟨R,L,h1,h2,rfl⟩:=h;obtain ⟨a,b⟩:=xuB hf;obtain ⟨g,g1,g2,_⟩:=(h1.2 _).1 a;rw [<-g2];exact hq g g1
theorem xGy.len {l B:List Fc} (h:xGy l B):B.length<=l.length*l.length:=by
 obtain ⟨R,L,h1,h2,rfl⟩:=h;refine xru (h1.1.nodup xpH) fun r hr=>?_
 obtain ⟨a,b⟩:=h2 r hr;have:=xy3 (ps:=psOf l r) (k:=0) a fun t=>by rw [b,xtH]
 exact Nat.le_trans this (Nat.le_mul_self _)
def dk (S:List Row):Nat->List Row
 | 0=>[]
 | k+1=>dk S k++(if k=0\/S[k - 1]?≠S[k]? then S[k]?.toList else [])
theorem xvW (S:List Row):∀ k,(dk S k).length<=k
 | 0=>zd _
 | k+1=>by
  have:=xvW S k;unfold dk;rw [z8];have:(if k=0\/S[k - 1]?≠S[k]? then S[k]?.toList else []).length<=1:=by
   split
   . cases S[k]?<;>simp
   . simp
  omega
theorem xDe (S:List Row) (hs:Sorted cmpR S):∀ k,k<=S.length->Strict cmpR (dk S k)/\∀ x,x∈dk S k↔x∈S.take k
 | 0,_=>⟨List.Pairwise.nil,fun x=>by simp [dk]⟩
 | k+1,hk=>by
  obtain ⟨h1,h2⟩:=xDe S hs k (by omega)
  have J:k<S.length:=by omega
  have tk:S.take (k+1)=S.take k++[S[k]]:=by rw [List.take_add_one,ze J];rfl
  unfold dk;rw [ze J,tk];by_cases hc:k=0\/S[k - 1]?≠some S[k]
  . rw [if_pos hc];refine ⟨List.pairwise_append.2 ⟨h1,List.pairwise_singleton _ _,fun x hx y hy=>?_⟩,fun x=>by rw [zG,zG,h2];rfl⟩
    simp at hy;subst hy;obtain ⟨i,hi,rfl⟩:=List.mem_take_iff_getElem.1 ((h2 x).1 hx);have Q:k≠0:=by omega
    have q:k - 1<S.length:=by omega
    have hne:S[k - 1]≠S[k]:=fun e=>by
     rcases hc with hc|hc
     . exact Q hc
     . exact hc (by rw [ze q,e])
    have c1:cmpR S[k - 1] S[k]<=0:=zB.1 hs _ _ q J (by omega)
    have c2:cmpR S[k - 1] S[k]<0:=by
     rcases Int.lt_or_eq_of_le c1 with c|c
     . exact c
     . exact absurd (xlO c) hne
    rcases zJ i (k - 1) with O|O
    . have c3:cmpR S[i] S[k - 1]<=0:=zB.1 hs _ _ (by omega) q O
      exact xpH.lt2 c3 c2
    . have:i=k - 1:=by omega
      subst this;exact c2
  . rw [if_neg hc,zD];refine ⟨h1,fun x=>?_⟩
    rw [h2,zG,zv];refine ⟨Or.inl,fun hh=>hh.elim id fun hx=>?_⟩
    have Q:k≠0:=fun e=>hc (.inl e)
    have he:S[k - 1]?=some S[k]:=by
     by_cases e:S[k - 1]?=some S[k]
     . exact e
     . exact absurd (.inr e) hc
    have q:k - 1<S.length:=by omega
    rw [ze q,z6] at he;rw [hx,<-he];exact List.mem_take_iff_getElem.2 ⟨k - 1,by omega,rfl⟩
theorem xGY {n:Nat} (h:n<=1048576):(n+1)*24<=140737488355328/\n+1<=4611686018427387904:=by omega
theorem xw9 (S:List Row) (hS:S.length<=1048576) (hr:∀ x,x∈S->x.length<=maxLen):Iter (xbX (S.map encR)) ((0:Nat),(0:Int),[])=some ((dk S S.length).length,(dk S S.length).map encR):=by
 refine xjK (fun k=>(((dk S k).length,((k:Nat):Int),(dk S k).map encR):Nat×Int×List AV)) S.length _ (fun k hk=>?_) ?_ S.length 0 (by omega)
 . have i1:(k:Int)<(S.length:Int):=by omega
   have gf:(S.map encR).getD k .top=encR S[k]:=xaM _ _ _ hk;have dl:=xvW S k;obtain ⟨m1,m2⟩:=xGY (n:=(dk S k).length) (by omega)
   cases k with
   | zero =>
    have:dk S (0+1)=[S[0]]:=by simp [dk,ze hk]
    rw [this];have i0:(((0:Nat):Int)==0)=true:=rfl;simp only [xbX,xeY,xek,xf7,xf8,xf9,sBU,hk,i0,i1,gf,cR0,sR0,m1,m2,xF0 (n:=0) (by omega)]
    rfl
   | succ j =>
    have hj:j<S.length:=by omega
    have i0:(((j+1:Nat):Int)==0)=false:=by simp;omega
    have i2:(j:Int)<(S.length:Int):=by omega
    have gj:(S.map encR).getD j .top=encR S[j]:=xaM _ _ _ hj;have ee:=xFb S[j] S[j+1] (hr _ (zo hj));have wj:IntKind.i64.wrap (((j+1:Nat):Int) - 1)=(j:Int):=by rw [xde (by omega) (by omega)];omega
    have sd:dk S (j+1+1)=dk S (j+1)++(if S[j]=S[j+1] then [] else [S[j+1]]):=by
     show dk S (j+1)++_=_;congr 1;rw [show j+1 - 1=j by omega,ze hj,ze hk]
     by_cases e:S[j]=S[j+1]
     . simp [e]
     . simp [e]
    rw [sd];simp only [xbX,xeY,xek,xf7,xf8,xf9,sBU,hk,hj,i0,i1,i2,gf,gj,cR0,sR0,ee,wj,cmp0,m1,m2,xF0 (n:=j+1) (by omega)]
    by_cases e:S[j]=S[j+1]
    . simp [e,xaK,sUF]
    . simp [e,xaL,encR,sUF]
 . simp only [xbX,xeY,xek,za,zy,zm,xaK,sUF]
theorem xya (l:List Row) (h:xGn l):∃ D,xns (l.map encR)=some (D.map encR)/\Strict cmpR D/\(∀ x,x∈D↔x∈l)/\D.length<=l.length:=by
 obtain ⟨S,e1,p1,s1⟩:=xCP l h;have hS:=h.perm p1;obtain ⟨a1,a2⟩:=xDe S s1 S.length (zd _);have e2:=xw9 S hS.1 (fun x hx=>by have:=hS.2 x hx;unfold maxLen;omega)
 refine ⟨dk S S.length,?_,a1,fun x=>by rw [a2,y4,p1.mem_iff],by rw [<-p1.length_eq];exact xvW _ _⟩
 have tt:List.take (dk S S.length).length ((dk S S.length).map encR)=(dk S S.length).map encR:=zi (by simp)
 unfold xns xlH;simp only [xkH,xkI,xkJ,e1,e2,zk,zh,xaL,zH,za,zd,zn,zS,zr,tt,sUF]
def cF (f g:Fc):Int:=cmpR f.r g.r
theorem xCf:Cm cF:=xpH.on (e:=fun f:Fc=>f.r)
theorem xzR (a b:List Fc) (ha:a.length+b.length<=1048576) (Z:∀ x,x∈a->x.r.length<=1048576) (V:∀ x,x∈b->x.r.length<=1048576) (sa:Sorted cF a) (sb:Sorted cF b) :
  ∀ (n i k:Nat) (D:List Fc),(a.length - i)+(b.length - k)=n->i<=a.length->k<=b.length->D.length=i+k ->
   ∃ r,Iter (xbw (List.map encF a) (List.map encF b)) (D.length,(i:Int),(k:Int),List.map encF D)=some (a.length+b.length,List.map encF (D++r))/\r.Perm (a.drop i++b.drop k)/\Sorted cF r:=by
 intro n;induction n with
 | zero =>
  intro i k D hn hi hk hD;have h1:¬ (i:Int)<(a.length:Int):=by omega
  have h2:¬ (k:Int)<(b.length:Int):=by omega
  refine ⟨[],xaN ?_,?_,by simp [Sorted]⟩
  . simp only [xbw,xdL,xcF,xcG,xcH,xem,xen,xeo,xdc,xdd,  za,xby,h1,h2,zm,zT,if_false,zD,sUF];rw [show D.length=a.length+b.length by omega]
  . rw [zq (by omega),zq (by omega)];exact List.Perm.refl _
 | succ n ih =>
  intro i k D hn hi hk hD;have Y:(List.map encF D).length=D.length:=by simp
  have m1:(D.length+1)*40<=140737488355328:=by omega
  have m2:D.length+1<=4611686018427387904:=by omega
  have snoc:∀ x:Fc,List.map encF D++[AV.agg [AV.list 3 (x.r.map encV),AV.int .i64 x.p.1,AV.int .i64 x.p.2]]=List.map encF (D++[x]):=fun x=>by simp [encF]
  have wi:=xnF (n:=i) (show i+1<=maxLen by unfold maxLen;omega)
  have wk:=xnF (n:=k) (show k+1<=maxLen by unfold maxLen;omega)
  by_cases J:i<a.length
  . have i1:(i:Int)<(a.length:Int):=by omega
    have i2:((i:Int)==(a.length:Int))=false:=by simp;omega
    have hx:a[i]?=some a[i]:=by simp [J]
    by_cases q:k<b.length
    . have k1:(k:Int)<(b.length:Int):=by omega
      have hy:b[k]?=some b[k]:=by simp [q]
      have e:=xkz b[k].r a[i].r (by have:=V b[k] (zo q);unfold maxLen;omega)
      by_cases hc:cmpR b[k].r a[i].r<0
      . obtain ⟨r,h1,h2,h3⟩:=ih i (k+1) (D++[b[k]]) (by omega) hi (by omega) (by simp;omega)
        refine ⟨b[k]::r,?_,?_,?_⟩
        . refine xax (s':=((D++[b[k]]).length,(i:Int),((k+1:Nat):Int),List.map encF (D++[b[k]]))) ?_ (by rw [h1];simp)
          simp only [xbw,xdL,xcF,xcG,xcH,xem,xen,xeo,xdc,xdd,  za,xby,i1,i2,k1,J,q,zn,zT,if_false,if_true,zN,gR hx,gR hy,cF0,cF1,cF2,sF0,sF1,sF2,lF,sF12,sF02,e,zk,zh,hc,Int.natCast_nonneg,zS,beq_self_eq_true,m1,m2,snoc,wk,sUF];simp
        . rw [xa7 q];exact (h2.cons _).trans List.perm_middle.symm
        . refine zM.2 ⟨fun z hz=>?_,h3⟩
          rcases zG.1 (h2.mem_iff.1 hz) with hz|hz
          . rw [xa7 J] at hz;rcases zC.1 hz with rfl|hz
            . exact Int.le_of_lt hc
            . obtain ⟨j,hj,rfl⟩:=zp.1 hz;have Q:i+1+j<a.length:=by simp at hj;omega
              have:=xbm sa (i:=i) (j:=i+1+j) (by omega) Q
              rw [List.getElem_drop];exact xCf.trans _ _ _ (Int.le_of_lt hc) this
          . obtain ⟨j,hj,rfl⟩:=zp.1 hz;have O:k+1+j<b.length:=by simp at hj;omega
            rw [List.getElem_drop];exact xbm sb (i:=k) (j:=k+1+j) (by omega) O
      . obtain ⟨r,h1,h2,h3⟩:=ih (i+1) k (D++[a[i]]) (by omega) (by omega) hk (by simp;omega)
        refine ⟨a[i]::r,?_,?_,?_⟩
        . refine xax (s':=((D++[a[i]]).length,((i+1:Nat):Int),(k:Int),List.map encF (D++[a[i]]))) ?_ (by rw [h1];simp)
          simp only [xbw,xdL,xcF,xcG,xcH,xem,xen,xeo,xdc,xdd,  za,xby,i1,i2,k1,J,q,zn,zT,if_false,if_true,zN,gR hx,gR hy,cF0,cF1,cF2,sF0,sF1,sF2,lF,sF12,sF02,e,zk,zh,hc,zm,Int.natCast_nonneg,zS,beq_self_eq_true,m1,m2,snoc,wi,sUF];simp
        . rw [xa7 J];exact h2.cons _
        . refine zM.2 ⟨fun z hz=>?_,h3⟩
          have U:cF a[i] b[k]<=0:=xCf.ord.le_of_not hc;rcases zG.1 (h2.mem_iff.1 hz) with hz|hz
          . obtain ⟨j,hj,rfl⟩:=zp.1 hz;have Q:i+1+j<a.length:=by simp at hj;omega
            rw [List.getElem_drop];exact xbm sa (i:=i) (j:=i+1+j) (by omega) Q
          . rw [xa7 q] at hz;rcases zC.1 hz with rfl|hz
            . exact U
            . obtain ⟨j,hj,rfl⟩:=zp.1 hz;have O:k+1+j<b.length:=by simp at hj;omega
              rw [List.getElem_drop];exact xCf.trans _ _ _ U (xbm sb (i:=k) (j:=k+1+j) (by omega) O)
    . have k1:¬ (k:Int)<(b.length:Int):=by omega
      obtain ⟨r,h1,h2,h3⟩:=ih (i+1) k (D++[a[i]]) (by omega) (by omega) hk (by simp;omega)
      refine ⟨a[i]::r,?_,?_,?_⟩
      . refine xax (s':=((D++[a[i]]).length,((i+1:Nat):Int),(k:Int),List.map encF (D++[a[i]]))) ?_ (by rw [h1];simp)
        simp only [xbw,xdL,xcF,xcG,xcH,xem,xen,xeo,xdc,xdd,  za,xby,i1,i2,k1,J,zn,zm,zT,if_false,if_true,zN,gR hx,cF0,cF1,cF2,sF0,sF1,sF2,lF,sF12,sF02,Int.natCast_nonneg,zS,beq_self_eq_true,m1,m2,snoc,wi,sUF];simp
      . rw [xa7 J];exact h2.cons _
      . refine zM.2 ⟨fun z hz=>?_,h3⟩
        rw [zq (show b.length<=k by omega),zD] at h2
        obtain ⟨j,hj,rfl⟩:=zp.1 (h2.mem_iff.1 hz);have Q:i+1+j<a.length:=by simp at hj;omega
        rw [List.getElem_drop];exact xbm sa (i:=i) (j:=i+1+j) (by omega) Q
  . have i1:¬ (i:Int)<(a.length:Int):=by omega
    have q:k<b.length:=by omega
    have k1:(k:Int)<(b.length:Int):=by omega
    have i2:((i:Int)==(a.length:Int))=true:=by simp;omega
    have hy:b[k]?=some b[k]:=by simp [q]
    obtain ⟨r,h1,h2,h3⟩:=ih i (k+1) (D++[b[k]]) (by omega) hi (by omega) (by simp;omega)
    refine ⟨b[k]::r,?_,?_,?_⟩
    . refine xax (s':=((D++[b[k]]).length,(i:Int),((k+1:Nat):Int),List.map encF (D++[b[k]]))) ?_ (by rw [h1];simp)
      simp only [xbw,xdL,xcF,xcG,xcH,xem,xen,xeo,xdc,xdd,  za,xby,i1,i2,k1,q,zn,zm,zT,if_false,if_true,zN,gR hy,cF0,cF1,cF2,sF0,sF1,sF2,lF,sF12,sF02,Int.natCast_nonneg,zS,beq_self_eq_true,m1,m2,snoc,wk,sUF];simp
    . rw [xa7 q];exact (h2.cons _).trans List.perm_middle.symm
    . refine zM.2 ⟨fun z hz=>?_,h3⟩
      rw [zq (show a.length<=i by omega),zU] at h2
      obtain ⟨j,hj,rfl⟩:=zp.1 (h2.mem_iff.1 hz);have O:k+1+j<b.length:=by simp at hj;omega
      rw [List.getElem_drop];exact xbm sb (i:=k) (j:=k+1+j) (by omega) O
theorem xzS (a b:List Fc) (ha:a.length+b.length<=1048576) (q:∀ x,x∈a->x.r.length<=1048576) (J:∀ x,x∈b->x.r.length<=1048576) (sa:Sorted cF a) (sb:Sorted cF b) :
  ∃ r,xpk (a.map encF) (b.map encF)=some (r.map encF)/\r.Perm (a++b)/\Sorted cF r:=by
 obtain ⟨r,h1,h2,h3⟩:=xzR a b ha q J sa sb _ 0 0 [] rfl (zQ _) (zQ _) rfl;simp only [zr,zU] at h1 h2;have h1':Iter (xbw (a.map encF) (b.map encF)) (0,(0:Int),(0:Int),[])=some (r.length,r.map encF):=by
  rw [h2.length_eq,z8];exact h1
 refine ⟨r,?_,h2,h3⟩;unfold xpk xnz;simp only [xmP,xmQ,xmR,xmS,h1',sOO,sUF]
theorem xyc:∀ (f:Nat) (l:List Fc),l.length<=2 ^ f->Few l->∃ r,xbT (f+1) (List.map encF l)=some (List.map encF r)/\r.Perm l/\Sorted cF r:=by
 intro f;induction f with
 | zero =>
  intro l hl hs;have h1:(l.length:Int)<2:=by simp at hl;omega
  refine ⟨l,?_,List.Perm.refl _,?_⟩
  . show xcr (xbT 0) (List.map encF l)=_;simp only [xcr,xfF,za,h1,zn,xaL,sUF]
  . match l,hl with
    | [],_=>exact List.Pairwise.nil
    | [x],_=>exact List.pairwise_singleton _ _
 | succ f ih =>
  intro l hl hs;by_cases h2:l.length<=1
  . have h1:(l.length:Int)<2:=by omega
    refine ⟨l,?_,List.Perm.refl _,?_⟩
    . show xcr (xbT (f+1)) (List.map encF l)=_;simp only [xcr,xfF,za,h1,zn,xaL,sUF]
    . match l,h2 with
      | [],_=>exact List.Pairwise.nil
      | [x],_=>exact List.pairwise_singleton _ _
  . have hp:2 ^ (f+1)=2*2 ^ f:=by rw [Nat.pow_succ];omega
    have q:=hs.1;obtain ⟨m,hm⟩:∃ m,m=l.length / 2:=⟨_,rfl⟩;have st:Few (l.take m):=⟨by simp;omega,fun x hx=>hs.2 x (List.mem_of_mem_take hx)⟩
    have sd:Few (l.drop m):=⟨by simp;omega,fun x hx=>hs.2 x (List.mem_of_mem_drop hx)⟩
    obtain ⟨r1,e1,p1,s1⟩:=ih (l.take m) (by simp;omega) st
    obtain ⟨r2,e2,p2,s2⟩:=ih (l.drop m) (by simp;omega) sd
    have l1:=p1.length_eq;have l2:=p2.length_eq;simp only [zt,y1] at l1 l2;obtain ⟨r,a1,a3,a4⟩:=xzS r1 r2 (by omega) (fun x hx=>st.2 x (p1.mem_iff.1 hx)) (fun x hx=>sd.2 x (p2.mem_iff.1 hx)) s1 s2
    refine ⟨r,?_,a3.trans ((p1.append p2).trans (by rw [List.take_append_drop])),a4⟩
    have w:IntKind.i64.wrap ((l.length:Int).tdiv 2)=(m:Int):=by
     rw [Int.tdiv_eq_ediv_of_nonneg (by omega)]
     exact w64 (by omega) (by omega)
    have t1:List.take m (List.map encF l)=List.map encF (l.take m):=by simp
    have t2:List.take (l.length - m) (List.drop m (List.map encF l))=List.map encF (l.drop m):=by
     rw [zi (by simp)];simp
    have d0:¬ (l.length:Int)<2:=by omega
    have d2:(m:Int)<=(l.length:Int):=by omega
    show xcr (xbT (f+1)) (List.map encF l)=_;simp only [xcr,xfF,xlJ,xlK,xlL,  za,d0,xaK,w,zN,Nat.sub_zero,zr,t1,t2,e1,e2,zk,zh,xaL,d2,zn,zm,Int.natCast_nonneg,zS,a1,sUF]
theorem xCO (l:List Fc) (h:Few l):∃ D,xoO (l.map encF)=some (D.map encR)/\xGg l D:=by
 have e0:=xrG l h.1;have hf:(l.flatMap fun f=>if pv f.p=true then [f.r] else []).length<=1*l.length:=xjI l fun f _=>by split<;>simp
 have hm:∀ x,x∈(l.flatMap fun f=>if pv f.p=true then [f.r] else [])↔∃ f,f∈l/\f.r=x/\pv f.p=true:=fun x=>by
  rw [y3];constructor
  . rintro ⟨f,hf,hx⟩;split at hx
    . simp at hx;exact ⟨f,hf,hx.symm,by assumption⟩
    . simp at hx
  . rintro ⟨f,hf,e,hv⟩;exact ⟨f,hf,by rw [if_pos hv];simp [e]⟩
 have q:xGn (l.flatMap fun f=>if pv f.p=true then [f.r] else []):=⟨by have:=h.1;omega,fun x hx=>by
  obtain ⟨f,hf,e,_⟩:=(hm x).1 hx;rw [<-e];exact h.2 f hf⟩
 obtain ⟨D,d1,d2,d3,d4⟩:=xya _ q;refine ⟨D,?_,d2,fun r=>by rw [d3,hm]⟩
 generalize (l.flatMap fun f=>if pv f.p=true then [f.r] else [])=w at e0 d1
 have tt:List.take w.length (w.map encR)=w.map encR:=zi (by simp)
 unfold xoO xpi;simp only [xor,xos,xot,xou,e0,zk,zh,xaL,zH,za,zd,zn,zS,zr,tt,d1,sUF]
theorem xzi (S:List Fc) (hS:S.length<=1048576) (hr:∀ f,f∈S->f.r.length<=maxLen) (on i:Nat) (hi:i<S.length) (xs:List AV):∀ (d k:Nat),k+d=S.length->i<=k->∃ j:Nat,k<=j/\j<=S.length/\(∀ t (h:t<S.length),k<=t->t<j->S[t].r=S[i].r)/\(∀ h:j<S.length,S[j].r≠S[i].r) /\
  Iter (xbS (S.map encF) on (i:Int)) ((k:Int),xs)=some ((j:Int),xs)
 | 0,k,h,hik=>by
  obtain rfl:k=S.length:=by omega
  refine ⟨S.length,zd _,zd _,fun t h1 h2 h3=>by omega,fun h=>by omega,xaN ?_⟩
  simp only [xbS,xfY,za,zy,zm,xaK,sUF]
 | d+1,k,h,hik=>by
  have hk:k<S.length:=by omega
  have i1:(k:Int)<(S.length:Int):=by omega
  have i2:(i:Int)<(S.length:Int):=by omega
  have gk:(S.map encF).getD k .top=encF S[k]:=xaM _ _ _ hk;have gi:(S.map encF).getD i .top=encF S[i]:=xaM _ _ _ hi;have ec:=xkz S[k].r S[i].r (hr _ (zo hk));by_cases he:S[k].r=S[i].r
  . obtain ⟨j,a1,a2,a3,a4,a5⟩:=xzi S hS hr on i hi xs d (k+1) (by omega) (by omega)
    refine ⟨j,by omega,a2,fun t h1 h2 h3=>?_,a4,(xaV (s':=(((k+1:Nat):Int),xs)) ?_).trans a5⟩
    . by_cases q:t=k
      . subst q;exact he
      . exact a3 t h1 (by omega) h3
    . have dd:decide (S[k].r=S[i].r)=true:=decide_eq_true he;simp only [xbS,xfY,sBU,i1,i2,hk,hi,gk,gi,cF0,cF1,cF2,sF0,sF1,sF2,lF,sF12,sF02,ec,cmp0,dd,xF0 (n:=k) (by omega)]
  . refine ⟨k,zd _,by omega,fun t h1 h2 h3=>by omega,fun _=>he,xaN ?_⟩
    simp only [xbS,xfY,sBU,i1,i2,hk,hi,gk,gi,cF0,cF1,cF2,sF0,sF1,sF2,lF,sF12,sF02,ec,cmp0,he,zm]
structure RGI (S:List Fc) (i:Nat) (G:List Grp):Prop where
 st:Strict cmpR (G.map (·.1))
 mem:∀ r,r∈G.map (·.1)↔∃ f,f∈S.take i/\f.r=r/\pv f.p=true
 ps:∀ g,g∈G->StepI (fun t=>((cnt S g.1 t:Nat):Int)) 1099511627776 g.2/\g.2.length<=2*S.length+1
 len:G.length<=i
 bd:∀ a b (ha:a<S.length) (hb:b<S.length),a<i->i<=b->cmpR S[a].r S[b].r<0
theorem xGZ {n:Nat} (h:n<=1048576):(n+1)*48<=140737488355328/\n+1<=4611686018427387904:=by omega
theorem xuI (S:List Fc) (hS:S.length<=262144) (hr:∀ f,f∈S->f.r.length<=1048576) (hs:Sorted cF S):∀ (c i:Nat) (G:List Grp),S.length - i<=c->i<=S.length->RGI S i G ->
  ∃ G',Iter (xdo (S.map encF)) (G.length,(i:Int),G.map encG)=some (G'.length,G'.map encG)/\RGI S S.length G'
 | c,i,G,hc,hi,hG=>by
  by_cases af:i=S.length
  . subst af;refine ⟨G,xaN ?_,hG⟩;simp only [xdo,xhZ,za,zy,zm,xaK,sUF]
  . have O:i<S.length:=by omega
    obtain ⟨j,a1,a2,a3,a4,a5⟩:=xzi S (by omega) (fun f hf=>by have:=hr f hf;unfold maxLen;omega) G.length i O (G.map encG) (S.length - i) i (by omega) (zd _)
    have ac:i<j:=by
     rcases zJ i j with h|h
     . exact h
     . obtain rfl:j=i:=by omega
       exact absurd rfl (a4 O)
    have run_mem:∀ f,f∈(S.drop i).take (j - i)↔∃ t,∃ h:t<S.length,i<=t/\t<j/\S[t]=f:=fun f=>by
     rw [List.mem_take_iff_getElem];constructor
     . rintro ⟨m,hm,rfl⟩;rw [y1] at hm;exact ⟨i+m,by omega,by omega,by omega,by rw [List.getElem_drop]⟩
     . rintro ⟨t,h,h1,h2,rfl⟩;refine ⟨t - i,by rw [y1];omega,?_⟩
       rw [List.getElem_drop];congr 1;omega
    have run_row:∀ f,f∈(S.drop i).take (j - i)->f.r=S[i].r:=fun f hf=>by
     obtain ⟨t,h,h1,h2,rfl⟩:=(run_mem f).1 hf;exact a3 t h h1 h2
    have Z:S.take j=S.take i++(S.drop i).take (j - i):=by
     rw [show j=i+(j - i) by omega,List.take_add,Nat.add_sub_cancel_left]
    have Q:S=S.take i++((S.drop i).take (j - i)++S.drop j):=by
     rw [<-zw,<-Z,List.take_append_drop]
    have rl:((S.drop i).take (j - i)).length=j - i:=by rw [zt,y1];omega
    have q:∀ f,f∈S.take i->cmpR f.r S[i].r<0:=fun f hf=>by
     obtain ⟨t,ht,rfl⟩:=List.mem_take_iff_getElem.1 hf;exact hG.bd t i (by omega) O (by omega) (zd _)
    have J:∀ t (h:t<S.length),j<=t->cmpR S[i].r S[t].r<0:=fun t h ah=>by
     have hj:j<S.length:=by omega
     have c1:cmpR S[i].r S[j].r<=0:=zB.1 hs i j O hj ac;have c2:cmpR S[i].r S[j].r<0:=by
      rcases Int.lt_or_eq_of_le c1 with c|c
      . exact c
      . exact absurd (xlO c).symm (a4 hj)
     rcases zJ j t with h1|h1
     . have c3:cmpR S[j].r S[t].r<=0:=zB.1 hs j t hj h h1;exact xpH.lt1 c2 c3
     . obtain rfl:t=j:=by omega
       exact c2
    have no_other:∀ (l:List Fc) (ρ:Row) (t:Int),(∀ f,f∈l->f.r≠ρ)->cnt l ρ t=0:=fun l ρ t h=>by
     unfold cnt;rw [List.countP_eq_zero];intro f hf hh;simp only [zf,zl] at hh;exact h f hf hh.1
    have ne_of:∀ x y:Row,cmpR x y<0->x≠y:=fun x y h e=>by subst e;rw [xrl] at h;omega
    have Y:∀ t,cnt ((S.drop i).take (j - i)) S[i].r t=cnt S S[i].r t:=fun t=>by
     have e:cnt S S[i].r t=cnt (S.take i++((S.drop i).take (j - i)++S.drop j)) S[i].r t:=by rw [<-Q]
     rw [e,xte,xte,no_other (S.take i) _ t (fun f hf=>ne_of _ _ (q f hf)),no_other (S.drop j) _ t (fun f hf=>by
      obtain ⟨m,hm,rfl⟩:=zp.1 hf;rw [y1] at hm;rw [List.getElem_drop];exact fun e=>ne_of _ _ (J (j+m) (by omega) (by omega)) e.symm)]
     omega
    have U:Few ((S.drop i).take (j - i)):=⟨by omega,fun f hf=>hr f (List.mem_of_mem_drop (List.mem_of_mem_take hf))⟩
    obtain ⟨D,d1,d2,d3⟩:=xCO _ U;obtain ⟨St,s1,s2,s3⟩:=xz7 ((S.drop i).take (j - i)) S[i].r (fun f hf=>by have:=U.2 f hf;unfold maxLen;omega) (by omega)
    have s2:StepI (fun t=>((cnt S S[i].r t:Nat):Int)) 1099511627776 St:=by
     have e:(fun t=>((cnt ((S.drop i).take (j - i)) S[i].r t:Nat):Int))=fun t=>((cnt S S[i].r t:Nat):Int):=funext fun t=>by rw [Y]
     rwa [e] at s2
    have tS:List.take (j - i) (List.drop i (S.map encF))=((S.drop i).take (j - i)).map encF:=by rw [<-List.map_drop,<-List.map_take]
    have hD:D=[]\/D=[S[i].r]:=by
     match D,d2,d3 with
     | [],_,_=>exact .inl rfl
     | [x],_,h=>right;obtain ⟨f,hf,e,_⟩:=(h x).1 (by simp);rw [<-e,run_row f hf]
     | x::y::t,h1,h =>
      obtain ⟨f,hf,e,_⟩:=(h x).1 (by simp)
      obtain ⟨g,hg,e',_⟩:=(h y).1 (by simp)
      have:cmpR x y<0:=(zM.1 h1).1 y (by simp)
      rw [<-e,<-e',run_row f hf,run_row g hg,xrl] at this;omega
    have ag:=hG.len;obtain ⟨m1,m2⟩:=xGZ (n:=G.length) (by omega)
    have nx:RGI S j (G++D.map fun ρ=>(ρ,St)):=by
     refine ⟨?_,fun r=>?_,fun g hg=>?_,?_,fun a b ha hb ad ab=>?_⟩
     . rw [zx];refine List.pairwise_append.2 ⟨hG.st,?_,fun x hx y hy=>?_⟩
       . rcases hD with rfl|rfl
         . exact List.Pairwise.nil
         . exact List.pairwise_singleton _ _
       . obtain ⟨f,hf,e,_⟩:=(hG.mem x).1 hx;rcases hD with rfl|rfl
         . simp at hy
         . simp at hy;subst hy;rw [<-e];exact q f hf
     . rw [zx,zG,hG.mem,Z];have e:r∈(D.map fun ρ=>(ρ,St)).map (·.1)↔r∈D:=by simp
       rw [e,d3];constructor
       . rintro (⟨f,hf,h⟩|⟨f,hf,h⟩)
         . exact ⟨f,zG.2 (.inl hf),h⟩
         . exact ⟨f,zG.2 (.inr hf),h⟩
       . rintro ⟨f,hf,h⟩;rcases zG.1 hf with hf|hf
         . exact .inl ⟨f,hf,h⟩
         . exact .inr ⟨f,hf,h⟩
     . rcases zG.1 hg with hg|hg
       . exact hG.ps g hg
       . obtain ⟨ρ,hρ,rfl⟩:=zK.1 hg;rcases hD with rfl|rfl
         . simp at hρ
         . simp at hρ;subst hρ;exact ⟨s2,by rw [rl] at s3;dsimp only;omega⟩
     . rw [z8,za];rcases hD with rfl|rfl<;>simp<;>omega
     . rcases zJ a i with V|V
       . exact hG.bd a b ha hb V (by omega)
       . rw [a3 a ha V ad];exact J b hb ab
    obtain ⟨G',e',aa⟩:=xuI S hS hr hs (c - 1) j _ (by omega) a2 nx
    refine ⟨G',(xaV ?_).trans e',aa⟩;have i1:(i:Int)<(S.length:Int):=by omega
    have i2:(j:Int)<=(S.length:Int):=by omega
    have i3:(i:Int)<=(j:Int):=by omega
    have ae:Iter (xdp (S.map encF) (i:Int) (j:Int) (D.map encR)) (G.length,(0:Int),G.map encG)=some ((G++D.map fun ρ=>(ρ,St)).length,(G++D.map fun ρ=>(ρ,St)).map encG):=by
     rcases hD with rfl|rfl
     . refine xaN ?_;have z:¬ (0:Int)<(([]:List AV).length:Int):=by simp
       simp only [xdp,xfZ,zW,z,zm,xaK,zD,sUF]
     . have z0:(0:Int)<(1:Int):=by omega
       have g0:([S[i].r].map encR).getD 0 .top=encR S[i].r:=rfl;have w1:IntKind.i64.wrap ((0:Int)+1)=1:=rfl;refine (xaV (s':=((G++[(S[i].r,St)]).length,(1:Int),(G++[(S[i].r,St)]).map encG)) ?_).trans (xaN ?_)
       . have l1:(([S[i].r]:List Row).length:Int)=1:=rfl;have z1:(0:Int)<=0:=by omega
         have z2:(0:Nat)<([S[i].r]:List Row).length:=by simp
         have z3:(0:Int).toNat=0:=rfl;simp only [xdp,xfZ,sBU,l1,z0,z1,z2,z3,g0,cR0,sR0,i2,i3,tS,s1,m1,m2,w1];simp [encG]
       . have l1:¬ (1:Int)<(([encR S[i].r]:List AV).length:Int):=by simp
         simp only [xdp,xfZ,zV,zW,l1,zm,xaK,sUF]
    simp only [xdo,xhZ,xjZ,xjx,xcg,sBU,i1,i2,i3,a5,tS,d1,ae]
theorem xAg (l:List Fc) (h:Few l) (hl:l.length<=262144):∃ G:List Grp,xjY (l.map encF)=some (G.map encG)/\xGg l (G.map (·.1))/\(∀ g,g∈G->StepI (fun t=>((cnt l g.1 t:Nat):Int)) 1099511627776 g.2/\g.2.length<=2*l.length+1)/\G.length<=l.length:=by
 obtain ⟨S,e1,p1,s1⟩:=xyc 99 l (Nat.le_trans h.1 (Nat.le_trans (show 1048576<=2 ^ 20 by omega) (Nat.pow_le_pow_right (by omega) (by omega)))) h
 have q:=p1.length_eq;obtain ⟨G,e2,hG⟩:=xuI S (by omega) (fun f hf=>h.2 f (p1.mem_iff.1 hf)) s1 S.length 0 [] (by omega) (by omega) ⟨List.Pairwise.nil,fun r=>by simp,fun g hg=>by simp at hg,zd _,fun a b ha hb h1 h2=>by omega⟩
 refine ⟨G,?_,⟨hG.st,fun r=>?_⟩,fun g hg=>?_,by rw [<-q];exact hG.len⟩
 . have e1:xbT 100 (l.map encF)=some (S.map encF):=e1;have e2:Iter (xdo (S.map encF)) ((0:Nat),(0:Int),[])=_:=e2;have tt:List.take G.length (G.map encG)=G.map encG:=zi (by simp)
   unfold xjY xny;simp only [xmL,xmM,xmN,xmO,e1,e2,zk,zh,xaL,zH,za,zd,zn,zS,zr,tt,sUF]
 . rw [hG.mem,y4];constructor
   . rintro ⟨f,hf,e⟩;exact ⟨f,p1.mem_iff.1 hf,e⟩
   . rintro ⟨f,hf,e⟩;exact ⟨f,p1.mem_iff.2 hf,e⟩
 . obtain ⟨x1,x2⟩:=hG.ps g hg;have e:(fun t=>((cnt S g.1 t:Nat):Int))=fun t=>((cnt l g.1 t:Nat):Int):=funext fun t=>by rw [xCl p1]
   rw [e] at x1;exact ⟨x1,by omega⟩
theorem xz8 (q:Row) (P:List Per) (hP:P.length<=1048576):xjX (q.map encV) (P.map encP)=some ((mk q P).map encF):=by
 have e:=xqI q P hP;rw [xGG (fun p:Per=>(⟨q,p⟩:Fc)) P] at e
 have e:Iter (xco (q.map encV) (P.map encP)) ((0:Nat),(0:Int),[])=some ((mk q P).length,(mk q P).map encF):=e;generalize mk q P=D at e;have tt:List.take D.length (D.map encF)=D.map encF:=zi (by simp)
 unfold xjX xnw;simp only [xmI,xmJ,xmK,e,zk,zh,xaL,zH,za,zd,zn,zS,zr,tt,sUF]
theorem sG0 (g:Grp):xG1 (Sh.list 3) ((encG g).cells.getD 0 .top)=true:=rfl
theorem sG1 (g:Grp):xG1 (Sh.list 2) ((encG g).cells.getD 1 .top)=true:=rfl
theorem xGX {n m:Nat} (h:n<=1048576*1024) (hm:m<=1048576):(n+m)*40<=140737488355328/\n+m<=4611686018427387904:=by omega
theorem xCK (G:List Grp) (hG:G.length<=1024) (L:Row->List Per) (hL:∀ g,g∈G->xeE (g.2.map encP)=some ((L g.1).map encP)/\(L g.1).length<=1048576) :
  Iter (xeK (G.map encG)) ((0:Nat),(0:Int),[])=some ((xF7 (G.map (·.1)) L).length,(xF7 (G.map (·.1)) L).map encF):=by
 rw [<-xsC];refine xjL G (fun g=>mk g.1 (L g.1)) encF 1048576 (fun g hg=>by unfold mk;rw [za];exact (hL g hg).2) (fun n h D hD=>?_) (fun D=>?_)
 . have i1:(n:Int)<(G.length:Int):=by omega
   have gf:(G.map encG).getD n .top=encG G[n]:=xaM _ _ _ h;obtain ⟨e1,e2⟩:=hL _ (zo h);have ed:=xz8 G[n].1 (L G[n].1) e2;have ml:(mk G[n].1 (L G[n].1)).length<=1048576:=by unfold mk;rw [za];exact e2
   have q:D.length<=1048576*1024:=Nat.le_trans hD (Nat.mul_le_mul_left _ (by omega))
   obtain ⟨m1,m2⟩:=xGX q ml;simp only [xeK,xkv,xjr,sBU,h,i1,gf,cG0,cGs,sG0,sG1,e1,ed,m1,m2,xF0 (n:=n) (by omega),z8,zx]
 . simp only [xeK,xkv,za,zy,zm,xaK,sUF]
theorem xEJ (l:List Fc) (r:Row) (t:Int):cnt l r t<=l.length:=List.countP_le_length
theorem xDF (l:List Fc) (r:Row) (t:Int) (h:t<0\/1099511627776<=t):cnt l r t=0:=by rw [<-xtH];exact xvU _ t h
theorem xD0 (l:List Fc) (h:Few l) (hl:l.length<=1024):∃ B,xcf (l.map encF)=some (B.map encF)/\xGd l B:=by
 obtain ⟨G,e1,hR,hS,O⟩:=xAg l h (by omega)
 have lv:∀ g,g∈G->∃ P,xeE (g.2.map encP)=some (P.map encP)/\IsLevs (cnt l g.1) P:=fun g hg=>by
  obtain ⟨s1,s2⟩:=hS g hg;exact xAh (N:=cnt l g.1) (H:=l.length) (by omega) (xEJ l g.1) (xDF l g.1) s1 (by omega)
 obtain ⟨L,hL⟩:=xuw (R:=G.map (·.1)) (Q:=fun r P=>(∀ g,g∈G->g.1=r->xeE (g.2.map encP)=some (P.map encP))/\IsLevs (cnt l r) P) fun r hr=>by
  obtain ⟨g,hg,rfl⟩:=zK.1 hr;obtain ⟨P,p1,p2⟩:=lv g hg;refine ⟨P,fun g' J e=>?_,p2⟩
  obtain ⟨P',q1,q2⟩:=lv g' J;rw [e] at q2;rw [q1,q2.unique p2]
 have hk:∀ g,g∈G->g.1∈G.map (·.1):=fun g hg=>zK.2 ⟨g,hg,rfl⟩
 have q:∀ g,g∈G->(L g.1).length<=1048576:=fun g hg=>by
  have a:=(hL g.1 (hk g hg)).2;rw [<-xBG] at a;have b:=xwv l g.1;exact Nat.le_trans a.len (Nat.mul_le_mul (Nat.le_trans b hl) (Nat.le_trans b hl))
 have e2:=xCK G (by omega) L fun g hg=>⟨(hL g.1 (hk g hg)).1 g hg rfl,q g hg⟩
 refine ⟨xF7 (G.map (·.1)) L,?_,G.map (·.1),L,hR,fun r hr=>(hL r hr).2,rfl⟩
 generalize xF7 (G.map (·.1)) L=F at e2;have tt:List.take F.length (F.map encF)=F.map encF:=zi (by simp)
 unfold xcf xpV;simp only [xpe,xpf,xpg,e1,e2,zk,zh,xaL,zH,za,zd,zn,zS,zr,tt,sUF]
theorem xvK (l:List Fc) (h:Bld l):∃ B,xcq (l.map encF)=some (B.map encF)/\xcf (l.map encF)=some (B.map encF)/\xGd l B:=by
 obtain ⟨B,b1,b2⟩:=xEG l h;obtain ⟨B',c1,c2⟩:=xD0 l h.1.1 h.2;obtain rfl:B=B':=b2.unique c2 fun _ _=>rfl
 exact ⟨B,b1,c1,b2⟩
theorem xDx (v:Ve):opV (encW v)=v.op:=by
 show xd3 v.id v.sc (v.r.map encV) v.va.1 v.va.2 v.sy.1 v.sy.2 v.b v.u=v.op;unfold xd3 Ve.op xGB;rw [xnW];cases pv v.sy<;>rfl
theorem xwo:∀ l:List Ve,(l.map encW).filter opV=(l.filter Ve.op).map encW
 | []=>rfl
 | v::l=>by
  rw [zV,List.filter_cons,List.filter_cons,xDx,xwo l];cases v.op<;>rfl
def xF2 (l:List Ve):List Fc:=(l.filter Ve.op).map Ve.fc
theorem xuX (l:List Ve):(xF2 l).length<=l.length:=by
 unfold xF2;rw [za];exact List.length_filter_le _ _
theorem xCu (l:List Ve):(l.map encW).all isVb=true:=by
 rw [List.all_map,zI];intro v _;rfl
theorem xsZ (v:Ve):xky v.id v.sc (v.r.map encV) v.va.1 v.va.2 v.sy.1 v.sy.2 v.b v.u=v.op:=by
 unfold xky Ve.op xGB;rw [xpF];cases pv v.sy<;>rfl
def TxV (l:List Ve):Prop:=∀ v,v∈l->∀ x,x∈v.r->x.wf/\x.t.length<=1073741824
theorem xBA {l:List Ve} (h1:l.length<=1024) (h2:∀ v,v∈l->v.r.length<=60) (ht:TxV l):Bld (xF2 l):=by
 have hm:∀ f,f∈xF2 l->∃ v,v∈l/\f=v.fc:=fun f hf=>by
  obtain ⟨v,hv,rfl⟩:=zK.1 hf;exact ⟨v,(List.mem_filter.1 hv).1,rfl⟩
 refine xB4 (Nat.le_trans (xuX l) h1) (fun f hf=>?_) (fun f hf x hx=>?_)
 . obtain ⟨v,hv,rfl⟩:=hm f hf;exact h2 v hv
 . obtain ⟨v,hv,rfl⟩:=hm f hf;exact ht v hv x hx
end Go.Sim.M
end
noncomputable section
set_option maxRecDepth 10000
namespace Go.Sim
open Go.RowKit Go.Proofs Go.ChangeShapes Go.WideShapes Go.ChangeAt Go.Proofs.YtckgiglpmfpagaaGreatDoor
def tyW:List Ty:=[.int .i64,.int .i64,.slice tyV,.int .i64,.int .i64,.int .i64,.int .i64,.int .i64,.int .i64]
theorem xBd:flat Tryz.prog 9 22=some [.slice tyW]:=by kernel_rfl
def M.Ve.wf (v:M.Ve):Prop:=M.Row.wf v.r/\I64 v.id/\I64 v.sc/\I64 v.va.1/\I64 v.va.2/\I64 v.sy.1/\I64 v.sy.2/\I64 v.b/\I64 v.u
theorem xC1 (x:AV) (hl:x.cells.length=tyW.length) (he:x=xHD x.cells) (hx:∀ j,j<tyW.length->OfTy (tyW.getD j .bool) (x.cells.getD j .top)):∃ a,x=M.encW a/\M.Ve.wf a:=by
 generalize x.cells=cs at *;match cs,hl with
 | [c0,c1,c2,c3,c4,c5,c6,c7,c8],_ =>
  have h0:=hx 0 (by decide)
  have h1:=hx 1 (by decide)
  have h2:=hx 2 (by decide)
  have h3:=hx 3 (by decide)
  have h4:=hx 4 (by decide)
  have h5:=hx 5 (by decide)
  have h6:=hx 6 (by decide)
  have h7:=hx 7 (by decide)
  have h8:=hx 8 (by decide)
  change OfTy (.int .i64) c0 at h0;change OfTy (.int .i64) c1 at h1;change OfTy (.slice tyV) c2 at h2;change OfTy (.int .i64) c3 at h3;change OfTy (.int .i64) c4 at h4;change OfTy (.int .i64) c5 at h5;change OfTy (.int .i64) c6 at h6;change OfTy (.int .i64) c7 at h7;change OfTy (.int .i64) c8 at h8;obtain ⟨l,rfl,hw⟩:=xwT h2;cases h0 with
  | int _ n0 w0=>cases h1 with
   | int _ n1 w1=>cases h3 with
    | int _ n3 w3=>cases h4 with
     | int _ n4 w4=>cases h5 with
      | int _ n5 w5=>cases h6 with
       | int _ n6 w6=>cases h7 with
        | int _ n7 w7=>cases h8 with
         | int _ n8 w8=>exact ⟨⟨n0,n1,l,(n3,n4),(n5,n6),n7,n8⟩,he,hw,w0,w1,w3,w4,w5,w6,w7,w8⟩
section
variable {H : Type} {enc : TypeId × Value -> H} {w : World} {base b : Nat} {sp : Nat -> Bool} {held : Bool} {v : Value} {d : DataW H} {ps : List MemPlace}
theorem xBC (q:Value.okWide Tryz.prog w .any base 22 v) (hd:DataW.Trod enc Tryz.prog w b sp held 22 v d ps):∃ l:List M.Ve,Rel w (fun _=>False) xHg v (.list 9 (l.map M.encW))/\(∀ μ:DataW H->Nat,Meas μ->(AV.list 9 (l.map M.encW)).wt<=μ d)/\∀ a,a∈l->M.Ve.wf a:=by
 obtain ⟨a,h,hT,hB⟩:=xy6 Tryz.underlying22 xBd q hd;obtain ⟨l,rfl,_,hw⟩:=xrR (es:=tyW) xC1 hT;exact ⟨l,h,hB,hw⟩
end
theorem xqp:∀ {xs:List AV} {x:AV},x∈xs->AV.wt x<=AV.wts xs
 | y::xs,x,h=>by
  simp only [AV.wts];rcases zC.1 h with rfl|h
  . omega
  . have:=xqp h;omega
theorem xus:∀ {xs:List AV},(∀ x,x∈xs->1<=AV.wt x)->xs.length<=AV.wts xs
 | [],_=>zQ _
 | y::xs,h=>by
  have a:=h y (by simp)
  have b:=xus (xs:=xs) fun x hx=>h x (by simp [hx])
  simp only [AV.wts,zF];omega
theorem xB8 (v:M.Ve):AV.wt (M.encW v)=1+(1+(AV.wts (v.r.map M.encV)+1+(1+(1+(1+(1+(1+(1+0)))))))):=rfl
theorem M.txv_wt {l:List M.Ve} (h:(AV.list 9 (l.map M.encW)).wt<=1048576) (hw:∀ y,y∈l->y.wf):M.TxV l/\l.length<=1048576:=by
 have e3:(AV.list 9 (l.map M.encW)).wt=AV.wts (l.map M.encW)+1:=rfl;refine ⟨fun f hf v hv=>⟨(hw f hf).1.2 v hv,?_⟩,?_⟩
 . have h1:AV.wt (M.encW f)<=AV.wts (l.map M.encW):=xqp (zK.2 ⟨f,hf,rfl⟩);have h2:AV.wt (M.encV v)<=AV.wts (f.r.map M.encV):=xqp (zK.2 ⟨v,hv,rfl⟩);have e1:=xB8 f;have e2:AV.wt (M.encV v)=1+(1+(v.t.length+1+0)):=rfl;omega
 . have:=xus (xs:=l.map M.encW) fun x hx=>by
    obtain ⟨v,_,rfl⟩:=zK.1 hx;have:=xB8 v;omega
   rw [za] at this;omega
theorem M.txf_wt {l:List M.Fc} (h:(AV.list 3 (l.map M.encF)).wt<=1048576) (hw:∀ y,y∈l->y.wf):M.Tx l/\l.length<=1048576:=by
 have e3:(AV.list 3 (l.map M.encF)).wt=AV.wts (l.map M.encF)+1:=rfl;have e1:∀ f:M.Fc,AV.wt (M.encF f)=AV.wts (f.r.map M.encV)+1+(1+(1+0)):=fun _=>rfl
 refine ⟨fun f hf v hv=>⟨(hw f hf).1.2 v hv,?_⟩,?_⟩
 . have h1:AV.wt (M.encF f)<=AV.wts (l.map M.encF):=xqp (zK.2 ⟨f,hf,rfl⟩);have h2:AV.wt (M.encV v)<=AV.wts (f.r.map M.encV):=xqp (zK.2 ⟨v,hv,rfl⟩);have e2:AV.wt (M.encV v)=1+(1+(v.t.length+1+0)):=rfl;have:=e1 f;omega
 . have:=xus (xs:=l.map M.encF) fun x hx=>by
    obtain ⟨v,_,rfl⟩:=zK.1 hx;have:=e1 v;omega
   rw [za] at this;omega
end Go.Sim
end
noncomputable section
set_option maxRecDepth 100000
namespace Go.Sim.M
open Go.RowKit Go.Sim.Srt
theorem p0:decide (((0:Nat):Int)>0)=false:=rfl
theorem p1 (k:Nat):decide (((k+1:Nat):Int)>0)=true:=by rw [zl];omega
def clo (c0 tm:Int) (b:Bool) (v:Ve):Ve:=match b with
 | true=>⟨v.id,v.sc,v.r,v.va,(v.sy.1,tm),v.b,c0⟩
 | false=>v
def hit (ids:List Int) (v:Ve):Bool:=v.op&&ids.any (·==v.id)
instance:Inhabited Fc:=⟨⟨[],(0,0)⟩⟩
theorem gF {l:List Fc} {k:Nat} (h:k<l.length):(l.map encF).getD k .top=encF (l.getD k default):=by
 rw [xaM _ _ _ h,z7,ze h,zh]
def asc (ids:List Int):Prop:=∀ k,k+1<ids.length->ids.getD k 0<ids.getD (k+1) 0
def xGk (v x:Ve):Bool:=v.op&&(x.op&&v.id==x.id)
def xGw (l:List Ve):Bool:=!((List.range l.length).any fun i=>(l.take i).any (xGk (l.getD i default)))
theorem xr6 (l:List Ve) (hl:l.length<=1048576) {i:Nat} (hi:i<l.length):Iter (xb3 (l.map encW) ((i:Nat):Int)) (0:Int)=some (br ((l.take i).any (xGk (l.getD i default))) (true,false,()) (false,false,())):=by
 have q:(l.take i).length=i:=by rw [zt];omega
 have:=xpz (step:=xb3 (l.map encW) ((i:Nat):Int)) (l.take i) (fun k=>((k:Nat):Int)) (fun x=>br (xGk (l.getD i default) x) (some (true,false,())) none) (false,false,()) (fun k h=>by
  rw [xB1 h];rw [q] at h;have hk:k<l.length:=by omega
  have h1:(i:Int)<(l.length:Int):=by omega
  have h2:(k:Int)<(l.length:Int):=by omega
  have h3:(k:Int)<(i:Int):=by omega
  simp only [xb3,xix,sBU,h,hi,hk,h1,h2,h3,gW hi,gW hk,cW0,cW1,cW2,cW3,cW4,cW5,cW6,cW7,cW8,lW,sW,sW0,sW2,sW34,sW56,xsZ,xGk,xy8,xrD,xrC,xAU,xF0 (n:=k) (by omega)]) (by
  simp only [q,xb3,xix,zy,zm,xaK,sUF]) (l.take i).length 0 (by simp)
 rw [zr,xsD] at this;have e:((0:Nat):Int)=0:=rfl;rw [e] at this;rw [this];cases (l.take i).any (xGk (l.getD i default))<;>rfl
theorem xCC (l:List Ve) (hl:l.length<=1048576):xnN (l.map encW)=some (xGw l):=by
 have:=xpz (step:=xcI (l.map encW)) (List.range l.length) (fun k=>((k:Nat):Int)) (fun i=>br ((l.take i).any (xGk (l.getD i default))) (some (true,false,())) none) (false,false,()) (fun k h=>by
  rw [List.getElem_range];rw [List.length_range] at h;have h1:(k:Int)<(l.length:Int):=by omega
  have e:=xr6 l hl h;simp only [xcI,xiZ,sBU,h1,e,xF0 (n:=k) (by omega)]
  cases (l.take k).any (xGk (l.getD k default))<;>rfl) (by
  simp only [List.length_range,xcI,xiZ,za,zy,zm,xaK,sUF]) l.length 0 (by simp)
 rw [zr,xsD] at this;have e:((0:Nat):Int)=0:=rfl;rw [e] at this;unfold xnN xow xGw;rw [this];cases (List.range l.length).any fun i=>(l.take i).any (xGk (l.getD i default))<;>rfl
theorem xBb {n:Nat} {l:List Fc} (h:fewF n l=true):l.length<=n/\∀ f,f∈l->f.r.length<=60:=by
 simp only [fewF,zf,zl,zI] at h;exact h
def okEW (x:AV):Bool:=x.cells.length==(9:Nat)&&xG8 [Sh.int .i64,Sh.int .i64,Sh.list 3,Sh.int .i64,Sh.int .i64,Sh.int .i64,Sh.int .i64,Sh.int .i64,Sh.int .i64] x.cells 0
def ldEW (x:AV):AV:=.agg [.int .i64 (x.cells.getD 0 .top).toInt,.int .i64 (x.cells.getD 1 .top).toInt,.list 3 (x.cells.getD 2 .top).toList,.int .i64 (x.cells.getD 3 .top).toInt,.int .i64 (x.cells.getD 4 .top).toInt,.int .i64 (x.cells.getD 5 .top).toInt,.int .i64 (x.cells.getD 6 .top).toInt,.int .i64 (x.cells.getD 7 .top).toInt,.int .i64 (x.cells.getD 8 .top).toInt]
def xGP (x y:AV):Bool:=true
def xGQ (x y:AV):Int:=xro (x.cells.getD 0 .top).toInt (x.cells.getD 1 .top).toInt (x.cells.getD 2 .top).toList (x.cells.getD 3 .top).toInt (x.cells.getD 4 .top).toInt (x.cells.getD 5 .top).toInt (x.cells.getD 6 .top).toInt (x.cells.getD 7 .top).toInt (x.cells.getD 8 .top).toInt (y.cells.getD 0 .top).toInt (y.cells.getD 1 .top).toInt (y.cells.getD 2 .top).toList (y.cells.getD 3 .top).toInt (y.cells.getD 4 .top).toInt (y.cells.getD 5 .top).toInt (y.cells.getD 6 .top).toInt (y.cells.getD 7 .top).toInt (y.cells.getD 8 .top).toInt
theorem heW (a:Ve):okEW (encW a)=true:=rfl
theorem hdW (a:Ve):ldEW (encW a)=encW a:=rfl
section
variable {N : Nat} (hN : N <= 2 ^ 60) {ok : Ve -> Prop} {c : Ve -> Ve -> Int} (hc : ∀ x y, ok x -> ok y -> xGP (encW x) (encW y) = true /\ xGQ (encW x) (encW y) = c x y)
include hN
include hc
theorem xFI (a b:Nat) (ha:a<=N) (hb:b<=N) {l r:List Ve} (hl:LOk N ok l) (hr:xGe c a b l=some r):xbs N a b (List.map encW l)=some (List.map encW r)/\LOk N ok r:=by
 obtain ⟨e1,e2⟩:=xwL (enc:=encW) hN (c:=c) (ok:=ok) a b hb (gi:=fun i=>xbK N a b i) (fun i l r hl hr=>xzl (okE:=okEW) (ldE:=ldEW) heW hdW hN (P:=xGP) (V:=xGQ) hc a (fun j xs=>rfl) hl hr) (g:=xbJ N a b) (fun i xs=>rfl) hl hr
 refine ⟨?_,e2⟩;unfold xbs xeq;rw [w64 (x:=(a:Int)+1) (n:=a+1) (by omega) (by omega),e1];rfl
theorem xCX (q:N<20) {l r:List Ve} (hl:LOk N ok l) (hr:xGe c 0 N l=some r):xfj N N (List.map encW l)=some (List.map encW r)/\LOk N ok r:=by
 obtain ⟨e1,e2⟩:=xFI hN hc 0 N (by omega) (zd _) hl hr
 have e1:xbs N 0 N (List.map encW l)=_:=e1;have q0:Iter (xbV N N 20) ((0:Int),(20:Int),List.map encW l)=some ((0:Int),List.map encW l):=by
  refine xaN ?_;have h1:¬ (20:Int)<=(N:Int):=by omega
  simp only [xbV,xfo,h1,zm,xaK,sUF]
 have q1:Iter (xcK N N) ((20:Int),List.map encW r)=some (List.map encW r):=by
  refine xaN ?_;have h1:¬ (20:Int)<(N:Int):=by omega
  simp only [xcK,xfp,h1,zm,xaK,sUF]
 refine ⟨?_,e2⟩;simp only [xfj,xgE,xgk,xgl,xgm,q0,e1,q1,zk,zh,xaL,sUF]
end
end Go.Sim.M
end
noncomputable section
set_option maxRecDepth 100000
namespace Go.Sim.M
open Go.RowKit Go.Sim.Srt
def cmpW (x y:Ve):Int:=xcv x.id y.id
theorem xnd (x y:Int):(xcv x y<0↔x<y)/\(0<xcv x y↔y<x):=by
 rw [xzM];by_cases h1:x<y
 . simp [h1];omega
 . by_cases h2:x>y
   . simp [h1,h2]
   . simp [h1,h2]
theorem ordW:Ord cmpW:=⟨fun x y=>by
 unfold cmpW;have a:=xnd x.id y.id;have b:=xnd y.id x.id;rw [a.2,b.1],fun x y z h1 h2=>by
 unfold cmpW at *;have a:=xnd x.id y.id;have b:=xnd y.id z.id;have c:=xnd x.id z.id;have h1':¬ y.id<x.id:=fun h=>by have:=a.2.2 h;omega
 have h2':¬ z.id<y.id:=fun h=>by have:=b.2.2 h;omega
 have:¬ z.id<x.id:=by omega
 have:¬ 0<xcv x.id z.id:=fun h=>this (c.2.1 h)
 omega⟩
theorem xC2 (l:List Ve) (q:l.length<20):∃ r,xeU l.length (l.map encW)=some (r.map encW)/\r.Perm l/\Sorted cmpW r:=by
 obtain ⟨r,e,p,s⟩:=xo3 ordW [] l [];simp only [zU,zD,List.length_nil,zH] at e;obtain ⟨e1,_⟩:=xCX (N:=l.length) (by omega) (ok:=fun _=>True) (c:=cmpW) (fun x y _ _=>⟨rfl,rfl⟩) q ⟨rfl,fun _ _=>trivial⟩ e
 refine ⟨r,?_,p,s⟩;unfold xeU xgc;rw [e1];rfl
def xGp (B:List Fc) (lf:List Bool) (v:Ve) (k:Nat):Bool:=!(lf.getD k false)&&((((B.getD k default).p.1==v.va.1)&&(((B.getD k default).p.2==v.va.2)&&true))&&decide ((B.getD k default).r=v.r))
def xGv (B:List Fc) (lf:List Bool) (v:Ve):Option Nat:=(List.range B.length).findSome? fun k=>br (xGp B lf v k) (some k) none
theorem xFh (a b:Row) (h:a.length<=maxLen):xnR (a.map encV) (b.map encV)=some (decide (a=b)):=by
 unfold xnR xoD;rw [xvc a b h];simp only [zk,zh,xaL,cmp0,sUF]
theorem gB {l:List Bool} {k:Nat} (h:k<l.length):(l.map AV.bool).getD k .top=.bool (l.getD k false):=by
 rw [xaM _ _ _ h,z7,ze h,zh]
theorem xCT (l:List Bool) (k:Nat):(l.map AV.bool).set k (.bool true)=(l.set k true).map AV.bool:=by rw [List.map_set]
def xGI (B:List Fc) (lf:List Bool) (v:Ve):Bool×List AV×Nat×List AV:=match xGv B lf v with
 | some i=>(true,B.map encF,B.length,(lf.set i true).map AV.bool)
 | none=>(false,B.map encF,B.length,lf.map AV.bool)
theorem xEh (B:List Fc) (lf:List Bool) (v:Ve) (hB:B.length<=1048576) (q:lf.length=B.length) (hr:∀ f,f∈B->f.r.length<=maxLen) :
  xqu v.id v.sc (v.r.map encV) v.va.1 v.va.2 v.sy.1 v.sy.2 v.b v.u (B.map encF) B.length (lf.map AV.bool)=some (xGI B lf v):=by
 have:=xpz (step:=xfl (B.map encF) ((B.length:Nat):Int)) (List.range B.length) (fun k=>(((k:Nat):Int),B.map encF,B.length,lf.map AV.bool,v.id,v.sc,v.r.map encV,v.va.1,v.va.2,v.sy.1,v.sy.2,v.b,v.u)) (fun k=>(br (xGp B lf v k) (some k) none).map fun i=>(true,(true,B.map encF,B.length,(lf.set i true).map AV.bool),(([],0,[]):List AV×Nat×List AV))) (false,(false,[],0,[]),(B.map encF,B.length,lf.map AV.bool)) (fun k h=>by
  rw [List.getElem_range];rw [List.length_range] at h;have h1:(k:Int)<(B.length:Int):=by omega
  have h2:k<lf.length:=by omega
  have hm:=xFh (B.getD k default).r v.r (hr _ (by rw [z7,ze h];exact zo h))
  have c0:(AV.bool (lf.getD k false)).cells.getD 0 .top=.bool (lf.getD k false):=rfl;have s0:xG1 Sh.bool (.bool (lf.getD k false))=true:=rfl;have t0:(AV.bool (lf.getD k false)).toBool=lf.getD k false:=rfl;simp only [xfl,xjo,xly,sBU,h,h1,h2,gF h,gB h2,c0,s0,t0,cF0,cF1,cF2,sF0,sF1,sF2,lF,sF12,sF02,hm,xCT,xGp,xE1,xy8,Option.map_some,Option.map_none,xrD,xrC,xAU,xF0 (n:=k) (by omega)]) (by
  simp only [List.length_range,xfl,xjo,zy,zm,xaK,sUF]) B.length 0 (by simp)
 rw [zr,xv1] at this;have e:((0:Nat):Int)=0:=rfl;rw [e] at this;unfold xqu xoZ;simp only [xoe,xof,xog,xoh,xoi,xoj,xok,xol,za,this,sUF];unfold xGI xGv;cases (List.range B.length).findSome? fun k=>br (xGp B lf v k) (some k) none<;>rfl
def xF9 (B:List Fc) (s:List Int×List Bool) (v:Ve):List Int×List Bool:=match xGv B s.2 v with
 | some i=>(s.1,s.2.set i true)
 | none=>(s.1++[v.id],s.2)
theorem fit8 {n:Nat} (h:n<=1048576):decide ((n+1)*8<=140737488355328)=true/\decide (n+1<=4611686018427387904)=true:=⟨decide_eq_true (by omega),decide_eq_true (by omega)⟩
theorem xq7 (A:List Ve) (B:List Fc) (q:List Bool) (hA:A.length<=1048576) (hB:B.length<=1048576) (h0:q.length=B.length) (hr:∀ f,f∈B->f.r.length<=maxLen) :
  Iter (xcU A.length ((A.length:Nat):Int)) ((0:Nat),(0:Int),B.map encF,B.length,[],A.map encW,q.map AV.bool)=some ((A.foldl (xF9 B) ([],q)).1.length,B.map encF,B.length,(A.foldl (xF9 B) ([],q)).1.map encN,(A.foldl (xF9 B) ([],q)).2.map AV.bool):=by
 have:=xiI (step:=xcU A.length ((A.length:Nat):Int)) A (xF9 B) (fun n s=>(s.1.length,((n:Nat):Int),B.map encF,B.length,s.1.map encN,A.map encW,s.2.map AV.bool)) (fun n s=>s.1.length<=n/\s.2.length=B.length) (r:=((A.foldl (xF9 B) ([],q)).1.length,B.map encF,B.length,(A.foldl (xF9 B) ([],q)).1.map encN,(A.foldl (xF9 B) ([],q)).2.map AV.bool)) (fun n h s ⟨i1,i2⟩=>by
  have h1:(n:Int)<(A.length:Int):=by omega
  have ht:=xEh B s.2 A[n] hB i2 hr;have gf:(A.map encW).getD n .top=encW A[n]:=xaM _ _ _ h;obtain ⟨m1,m2⟩:=fit8 (n:=s.1.length) (by omega)
  constructor
  . simp only [xcU,xgx,xeX,xgK,xjj,xjk,xaZ,sBU,h,h1,gf,cW0,cW1,cW2,cW3,cW4,cW5,cW6,cW7,cW8,lW,sW,sW0,sW2,sW34,sW56,ht,m1,m2,xF0 (n:=n) (by omega)]
    unfold xGI xF9;cases xGv B s.2 A[n] with
    | some i=>rfl
    | none =>
     simp only [Bool.not_false,xaL,z8,zx,sUF];rfl
  . unfold xF9;cases xGv B s.2 A[n] with
    | some i=>exact ⟨by dsimp only;omega,by simpa using i2⟩
    | none=>exact ⟨by simp;omega,i2⟩) A.length 0 ([],q) (by omega) ⟨zd _,h0⟩ (by
  rw [zr];simp only [xcU,xgx,zy,zm,xaK,sUF])
 exact this
def xGu (B:List Fc) (lf:List Bool) (F:List Fc) (k:Nat):List Fc:=match lf.getD k false with
 | true=>F
 | false=>F++[B.getD k default]
def xF5 (B:List Fc) (lf:List Bool):List Fc:=(List.range B.length).foldl (xGu B lf) []
theorem xq8 (B:List Fc) (lf:List Bool) (n0:Nat) (ids:List AV) (hB:B.length<=1048576) (h0:lf.length=B.length) :
  Iter (xcV n0 (B.map encF) ((B.length:Nat):Int)) ((0:Nat),(0:Int),B.length,ids,[],lf.map AV.bool)=some ((xF5 B lf).length,ids,(xF5 B lf).map encF):=by
 have:=xiI (step:=xcV n0 (B.map encF) ((B.length:Nat):Int)) (List.range B.length) (xGu B lf) (fun n F=>(F.length,((n:Nat):Int),B.length,ids,F.map encF,lf.map AV.bool)) (fun n F=>F.length<=n) (r:=((xF5 B lf).length,ids,(xF5 B lf).map encF)) (fun n h F i1=>by
  rw [List.getElem_range];rw [List.length_range] at h;have h1:(n:Int)<(B.length:Int):=by omega
  have h2:n<lf.length:=by omega
  have c0:(AV.bool (lf.getD n false)).cells.getD 0 .top=.bool (lf.getD n false):=rfl;have s0:xG1 Sh.bool (.bool (lf.getD n false))=true:=rfl;have t0:(AV.bool (lf.getD n false)).toBool=lf.getD n false:=rfl;have m1:decide ((F.length+1)*40<=140737488355328)=true:=decide_eq_true (by omega)
  have m2:decide (F.length+1<=4611686018427387904)=true:=decide_eq_true (by omega)
  constructor
  . simp only [xcV,xg0,sBU,h,h1,h2,gF h,gB h2,c0,s0,t0,cF0,cF1,cF2,sF0,sF1,sF2,lF,sF12,sF02,m1,m2,xF0 (n:=n) (by omega)]
    unfold xGu;cases lf.getD n false with
    | true=>rfl
    | false =>
     simp only [Bool.not_false,xaL,z8,zx,sUF];rfl
  . unfold xGu;cases lf.getD n false with
    | true=>dsimp only;omega
    | false=>dsimp only;rw [z8,zj];omega) B.length 0 [] (by simp) (zd _) (by
  rw [zr,List.length_range];simp only [xcV,xg0,zy,zm,xaK,sUF];rfl)
 exact this
theorem xsm (p:Nat->Bool):∀ n:Nat,(∃ i,(List.range n).findSome? (fun k=>br (p k) (some k) none)=some i/\i<n/\p i=true/\∀ k,k<i->p k=false)\/((List.range n).findSome? (fun k=>br (p k) (some k) none)=none/\∀ k,k<n->p k=false)
 | 0=>.inr ⟨rfl,fun k h=>by omega⟩
 | n+1=>by
  rw [List.range_succ,List.findSome?_append];rcases xsm p n with ⟨i,h1,h2,h3,h4⟩|⟨h1,h2⟩
  . exact .inl ⟨i,by rw [h1];rfl,by omega,h3,h4⟩
  . rw [h1];cases hp:p n with
    | true=>exact .inl ⟨n,by simp [hp,xaL,sUF],by omega,hp,fun k hk=>h2 k hk⟩
    | false =>
     refine .inr ⟨by simp [hp,xaK,sUF],fun k hk=>?_⟩
     rcases zJ k n with h|h
     . exact h2 k h
     . rw [show k=n by omega];exact hp
def xFx (B:List Fc) (f:Fc):Nat:=B.countP fun g=>decide (g=f)
def occF (B:List Fc) (k:Nat):Nat:=xFx (B.take k) (B.getD k default)
theorem xm4 {B:List Fc} {k:Nat} (f:Fc) (h:k<B.length):xFx (B.take (k+1)) f=xFx (B.take k) f+if B.getD k default=f then 1 else 0:=by
 unfold xFx;rw [List.take_add_one,List.countP_append,ze h,z7,ze h];simp [List.countP_cons]
theorem xqR {B:List Fc} (f:Fc):∀ d k,k+d<=B.length->xFx (B.take k) f<=xFx (B.take (k+d)) f
 | 0,_,_=>zd _
 | d+1,k,h=>by
  have a:=xqR (B:=B) f d k (by omega)
  have b:=xm4 f (k:=k+d) (B:=B) (by omega)
  rw [<-Nat.add_assoc];omega
theorem xwk {B:List Fc} {f:Fc} {i k:Nat} (hi:B.getD i default=f) (hk:B.getD k default=f) (h:i<k) (hn:k<B.length):occF B i<occF B k:=by
 unfold occF;rw [hi,hk];have a:=xm4 f (k:=i) (B:=B) (by omega)
 rw [if_pos hi] at a;have b:=xqR (B:=B) f (k - (i+1)) (i+1) (by omega)
 rw [show i+1+(k - (i+1))=k by omega] at b
 omega
theorem xuU {B:List Fc} {f:Fc} {i:Nat} (hi:B.getD i default=f) (hn:i<B.length):occF B i<xFx B f:=by
 unfold occF;rw [hi];have a:=xm4 f (k:=i) (B:=B) hn;rw [if_pos hi] at a;have b:=xqR (B:=B) f (B.length - (i+1)) (i+1) (by omega)
 rw [show i+1+(B.length - (i+1))=B.length by omega,y4] at b
 omega
theorem xtD {B:List Fc} {f:Fc} {c:Nat}:∀ n,n<=B.length->c<xFx (B.take n) f->∃ k,k<n/\B.getD k default=f/\occF B k=c
 | 0,_,h=>by simp [xFx] at h
 | n+1,hn,h=>by
  have a:=xm4 f (k:=n) (B:=B) (by omega)
  by_cases hb:B.getD n default=f
  . rw [if_pos hb] at a;rcases zJ c (xFx (B.take n) f) with q|J
    . obtain ⟨k,h1,h2,h3⟩:=xtD (B:=B) (f:=f) (c:=c) n (by omega) q
      exact ⟨k,by omega,h2,h3⟩
    . exact ⟨n,by omega,hb,by unfold occF;rw [hb];omega⟩
  . rw [if_neg hb] at a;obtain ⟨k,h1,h2,h3⟩:=xtD (B:=B) (f:=f) (c:=c) n (by omega) (by omega)
    exact ⟨k,by omega,h2,h3⟩
def cntA (A:List Ve) (f:Fc):Nat:=A.countP fun v=>decide (v.fc=f)
theorem xrn (A:List Ve) (v:Ve) (f:Fc):cntA (A++[v]) f=cntA A f+if v.fc=f then 1 else 0:=by
 unfold cntA;rw [List.countP_append];simp [List.countP_cons]
def InvB (B:List Fc) (lf:List Bool) (A:List Ve):Prop:=lf.length=B.length/\∀ k,k<B.length->lf.getD k false=decide (occF B k<cntA A (B.getD k default))
theorem xsE {B:List Fc} {lf:List Bool} {v:Ve} {k:Nat}:xGp B lf v k=true↔lf.getD k false=false/\B.getD k default=v.fc:=by
 unfold xGp;generalize B.getD k default=g;obtain ⟨gr,gp⟩:=g;obtain ⟨g1,g2⟩:=gp;simp only [zf,Bool.not_eq_true',beq_iff_eq,zl,and_true,Ve.fc,Fc.mk.injEq];constructor
 . rintro ⟨h1,⟨h2,h3⟩,h4⟩;exact ⟨h1,h4,Prod.ext h2 h3⟩
 . rintro ⟨h1,h4,h5⟩;exact ⟨h1,⟨congrArg Prod.fst h5,congrArg Prod.snd h5⟩,h4⟩
theorem xB2 {B:List Fc} {lf:List Bool} {A:List Ve} (h:InvB B lf A) (v:Ve) :
  (∃ i,xGv B lf v=some i/\cntA A v.fc<xFx B v.fc/\InvB B (lf.set i true) (A++[v]))\/(xGv B lf v=none/\xFx B v.fc<=cntA A v.fc/\InvB B lf (A++[v])):=by
 obtain ⟨hl,hk⟩:=h;unfold xGv;rcases xsm (xGp B lf v) B.length with ⟨i,h1,h2,h3,h4⟩|⟨h1,h2⟩
 . obtain ⟨f1,f2⟩:=xsE.1 h3;have e:=hk i h2;rw [f1,f2] at e;have e1:cntA A v.fc<=occF B i:=Nat.not_lt.1 (of_decide_eq_false e.symm);have e2:=xuU f2 h2;obtain ⟨k0,g1,g2,g3⟩:=xtD (B:=B) (f:=v.fc) (c:=cntA A v.fc) B.length (zd _) (by rw [y4];omega)
   have q:xGp B lf v k0=true:=xsE.2 ⟨by rw [hk k0 g1,g2,g3];simp,g2⟩
   have Y:k0=i:=by
    rcases Nat.lt_trichotomy k0 i with O|U|Z
    . rw [h4 k0 O] at q;simp at q
    . exact U
    . have:=xwk f2 g2 Z g1;omega
   subst Y;refine .inl ⟨k0,h1,by omega,by rw [y2];exact hl,fun k J=>?_⟩
   rw [xrn];by_cases Q:k=k0
   . subst Q;rw [z7,zL (by omega),if_pos g2.symm,g2,g3]
     simp
   . rw [z7,zX (fun e=>Q e.symm),<-z7,hk k J]
     by_cases hb:v.fc=B.getD k default
     . rw [if_pos hb];have hne:occF B k≠cntA A (B.getD k default):=by
        rw [<-hb,<-g3];rcases zJ k k0 with O|aa
        . have:=xwk hb.symm g2 O g1;omega
        . have:=xwk g2 hb.symm (by omega) J;omega
       rw [decide_eq_decide];omega
     . rw [if_neg hb];rfl
 . have V:xFx B v.fc<=cntA A v.fc:=by
    refine Nat.not_lt.1 fun O=>?_
    obtain ⟨k0,g1,g2,g3⟩:=xtD (B:=B) (f:=v.fc) (c:=cntA A v.fc) B.length (zd _) (by rw [y4];omega)
    have q:xGp B lf v k0=true:=xsE.2 ⟨by rw [hk k0 g1,g2,g3];simp,g2⟩
    rw [h2 k0 g1] at q;simp at q
   refine .inr ⟨h1,V,hl,fun k J=>?_⟩
   rw [xrn,hk k J];by_cases hb:v.fc=B.getD k default
   . rw [if_pos hb];have:=xuU hb.symm J;rw [<-hb,decide_eq_decide];omega
   . rw [if_neg hb];rfl
def xF3 (B:List Fc):List Ve->List Ve->List Ve
 | _,[]=>[]
 | P,v::A=>match decide (xFx B v.fc<=cntA P v.fc) with
  | true=>v::xF3 B (P++[v]) A
  | false=>xF3 B (P++[v]) A
theorem xmU (B:List Fc) (P:List Ve) (v:Ve) (A:List Ve):xF3 B P (v::A)=match decide (xFx B v.fc<=cntA P v.fc) with
 | true=>v::xF3 B (P++[v]) A
 | false=>xF3 B (P++[v]) A:=by rw [xF3]
theorem xrq {B:List Fc}:∀ (A P:List Ve) (ids:List Int) (lf:List Bool),InvB B lf P->(A.foldl (xF9 B) (ids,lf)).1=ids++(xF3 B P A).map Ve.id/\InvB B (A.foldl (xF9 B) (ids,lf)).2 (P++A)
 | [],P,ids,lf,h=>⟨by simp [xF3],by simpa using h⟩
 | v::A,P,ids,lf,h=>by
  rw [List.foldl_cons];have ha:P++v::A=(P++[v])++A:=by simp
  rw [ha];rcases xB2 h v with ⟨i,h1,h2,h3⟩|⟨h1,h2,h3⟩
  . have e:xF9 B (ids,lf) v=(ids,lf.set i true):=by unfold xF9;rw [h1]
    have hd:decide (xFx B v.fc<=cntA P v.fc)=false:=decide_eq_false (by omega)
    rw [e];obtain ⟨a,b⟩:=xrq A (P++[v]) ids (lf.set i true) h3;refine ⟨?_,b⟩;rw [a,xmU,hd]
  . have e:xF9 B (ids,lf) v=(ids++[v.id],lf):=by unfold xF9;rw [h1]
    have hd:decide (xFx B v.fc<=cntA P v.fc)=true:=decide_eq_true h2;rw [e];obtain ⟨a,b⟩:=xrq A (P++[v]) (ids++[v.id]) lf h3;refine ⟨?_,b⟩;rw [a,xmU,hd];simp
theorem xG0 (B:List Fc):InvB B (List.replicate B.length false) []:=⟨by simp,fun k hk=>by
 rw [z7,List.getElem?_replicate,if_pos hk];simp [cntA]⟩
theorem xu4 (B:List Fc):∀ (A P:List Ve),(xF3 B P A).length<=A.length
 | [],_=>by simp [xF3]
 | v::A,P=>by
  have ih:=xu4 B A (P++[v]);rw [xmU];cases decide (xFx B v.fc<=cntA P v.fc)<;>simp<;>omega
theorem xyj (l:List Ve) (to:List AV) (B:List Fc) (hB:xcq to=some (B.map encF)) (J:B.length<=1048576) (Q:∀ f,f∈B->f.r.length<=maxLen) (hl:l.length<20) :
  ∃ A lf,A.Perm (l.filter Ve.op)/\Sorted cmpW A/\InvB B lf A/\xa0 (l.map encW) to=some (((xF3 B [] A).map Ve.id).map encN,(xF5 B lf).map encF):=by
 have U:(l.filter Ve.op).length<=l.length:=List.length_filter_le _ _;obtain ⟨A,a1,a2,a3⟩:=xC2 (l.filter Ve.op) (by omega)
 have q:A.length=(l.filter Ve.op).length:=a2.length_eq;obtain ⟨f1,f2⟩:=xrq A [] [] (List.replicate B.length false) (xG0 B);have e0:=xq7 A B (List.replicate B.length false) (by omega) J (by simp) Q
 generalize hs:A.foldl (xF9 B) ([],List.replicate B.length false)=s at f1 f2 e0;obtain ⟨ids,lf⟩:=s;simp only [zU] at f1 f2;subst f1;have e1:=xq8 B lf ((xF3 B [] A).map Ve.id).length (((xF3 B [] A).map Ve.id).map encN) J f2.1;refine ⟨A,lf,a2,a3,f2,?_⟩;have r1:rfOk 88 (l.map encW) []=true:=by
  unfold rfOk;rw [xCu,Bool.true_and,zl];simp only [List.length_nil,za];omega
 have n1:(((B.map encF).length:Nat):Int).toNat=B.length:=by rw [za];rfl
 have n2:decide ((1:Int)*(B.length:Int)<=281474976710656)=true:=decide_eq_true (by omega)
 have n3:decide ((B.length:Int)<=4611686018427387904)=true:=decide_eq_true (by omega)
 have rp:List.replicate B.length (AV.bool false)=(List.replicate B.length false).map AV.bool:=by rw [List.map_replicate]
 have O:((l.filter Ve.op).map encW).length=A.length:=by rw [za,q]
 rw [<-q] at a1;unfold xa0 xjn xd1;simp only [xlo,xlp,xlq,xlr,xls,xlt,xiP,xlu,xlv,xlw,xkE,xkF,xkG,xd1,hB,xwo,zU,zk,zh,xaL,n1,r1,O,a1,rp,sUF];simp only [za] at e0 e1 |-;simp only [e0,e1,zk,zh,xaL,n2,n3,Int.le_refl,zn,zS,Bool.true_and,zH,za,zd,zr,sUF];have t1:List.take (xF3 B [] A).length (((xF3 B [] A).map Ve.id).map encN)=((xF3 B [] A).map Ve.id).map encN:=zi (by simp)
 have t2:List.take (xF5 B lf).length ((xF5 B lf).map encF)=(xF5 B lf).map encF:=zi (by simp)
 simp only [t1,t2]
theorem xzP (a b:Fc):decide (a=b)=((a.p.1==b.p.1&&(a.p.2==b.p.2&&true))&&decide (a.r=b.r)):=by
 obtain ⟨ar,a1,a2⟩:=a;obtain ⟨q,b1,b2⟩:=b;rw [Bool.eq_iff_iff];simp only [zl,Fc.mk.injEq,zb,zf,beq_iff_eq,and_true];constructor
 . rintro ⟨h1,h2,h3⟩;exact ⟨⟨h2,h3⟩,h1⟩
 . rintro ⟨⟨h2,h3⟩,h1⟩;exact ⟨h1,h2,h3⟩
theorem xpJ {α:Type} (p:α->Bool):∀ (l:List α) (c:Nat),l.foldl (fun c x=>br (p x) (c+1) c) c=c+l.countP p
 | [],c=>rfl
 | x::l,c=>by
  rw [List.foldl_cons,xpJ p l,List.countP_cons];cases p x<;>simp [xaL,xaK,sUF];omega
theorem xGT {c:Nat} (h:c<=1048576):IntKind.i64.wrap ((c:Int)+1)=((c+1:Nat):Int):=xF0 (by omega)
def xGx (f:Fc) (x:Ve):Bool:=x.op&&decide (x.fc=f)
def xGC (l:List Ve) (f:Fc):Nat:=l.countP (xGx f)
def opnS (l:List Ve) (B:List Fc) (F:List Fc) (k:Nat):List Fc:=br (decide (((xFx (B.take k) (B.getD k default):Nat):Int)>=((xGC l (B.getD k default):Nat):Int))) (F++[B.getD k default]) F
theorem xto {α β:Type} {f g:β->α->β}:∀ (l:List α) (b:β),(∀ a,a∈l->∀ b,f b a=g b a)->l.foldl f b=l.foldl g b
 | [],b,_=>rfl
 | a::l,b,h=>by
  rw [List.foldl_cons,List.foldl_cons,h a (by simp)]
  exact xto l _ fun x hx=>h x (by simp [hx])
theorem xA1 {l A:List Ve} (h:A.Perm (l.filter Ve.op)) (q:Ve->Bool):A.countP q=l.countP fun x=>x.op&&q x:=by
 rw [h.countP_eq,List.countP_filter];congr 1;funext x;exact Bool.and_comm _ _
theorem xDQ {l A:List Ve} {B:List Fc} {lf:List Bool} (h:A.Perm (l.filter Ve.op)) (hi:InvB B lf A):xF5 B lf=(List.range B.length).foldl (opnS l B) []:=by
 refine xto _ _ fun k hk F=>?_
 have e:=hi.2 k (List.mem_range.1 hk);have hc:cntA A (B.getD k default)=xGC l (B.getD k default):=xA1 h _;rw [hc] at e;unfold xGu opnS;rw [e];by_cases hd:occF B k<xGC l (B.getD k default)
 . have:¬ ((xFx (B.take k) (B.getD k default):Nat):Int)>=((xGC l (B.getD k default):Nat):Int):=by unfold occF at hd;omega
   rw [decide_eq_true hd,decide_eq_false this];rfl
 . have:((xFx (B.take k) (B.getD k default):Nat):Int)>=((xGC l (B.getD k default):Nat):Int):=by unfold occF at hd;omega
   rw [decide_eq_false hd,decide_eq_true this];rfl
theorem xCD {l:List Ve} (h:xGw l=true):(l.filter Ve.op).Pairwise fun a b=>a.id≠b.id:=by
 rw [List.pairwise_filter,zB];intro i j hi hj q ha hb e;unfold xGw at h;rw [Bool.not_eq_true',<-Bool.not_eq_true,List.any_eq_true] at h;refine h ⟨j,List.mem_range.2 hj,List.any_eq_true.2 ⟨l[i],?_,?_⟩⟩
 . have hit:i<(l.take j).length:=by rw [zt];omega
   have:=zo hit;rwa [List.getElem_take] at this
 . rw [z7,ze hj,zh];unfold xGk;rw [hb,ha,e];simp
theorem xEE {l A:List Ve} (hp:A.Perm (l.filter Ve.op)) (hs:Sorted cmpW A) (h:xGw l=true):A.Pairwise fun a b=>a.id<b.id:=by
 have h1:A.Pairwise fun a b=>a.id≠b.id:=(List.Perm.pairwise_iff (fun h e=>h e.symm) hp).2 (xCD h)
 unfold Sorted at hs;rw [zB] at h1 hs |-;intro i j hi hj q;have a:=h1 i j hi hj q;have b:=hs i j hi hj q;have c:=(xnd A[i].id A[j].id).2;unfold cmpW at b;have:¬ A[j].id<A[i].id:=fun h=>by have:=c.2 h;omega
 omega
theorem xu5 (B:List Fc):∀ (A P:List Ve),(xF3 B P A).Sublist A
 | [],_=>by unfold xF3;exact List.Sublist.refl _
 | v::A,P=>by
  have ih:=xu5 B A (P++[v]);rw [xmU];cases decide (xFx B v.fc<=cntA P v.fc) with
  | true=>exact ih.cons_cons v
  | false=>exact ih.cons v
def befP (v x:Ve):Bool:=decide (x.fc=v.fc)&&decide (x.id<v.id)
theorem xrK (B:List Fc) (v:Ve):∀ (A P:List Ve),(A.Pairwise fun a b=>a.id<b.id)->(v∈xF3 B P A↔v∈A/\xFx B v.fc<=cntA P v.fc+A.countP (befP v))
 | [],P,_=>by simp [xF3]
 | w::A,P,h=>by
  obtain ⟨h1,h2⟩:=zM.1 h;have ih:=xrK B v A (P++[w]) h2;rw [xrn] at ih;have key:v∈xF3 B P (w::A)↔(v=w/\xFx B w.fc<=cntA P w.fc)\/v∈xF3 B (P++[w]) A:=by
   rw [xmU];by_cases hd:xFx B w.fc<=cntA P w.fc
   . rw [decide_eq_true hd];simp [hd]
   . rw [decide_eq_false hd];simp [hd]
  rw [key,ih,zC,List.countP_cons];constructor
  . rintro (⟨rfl,q⟩|⟨hv,q⟩)
    . exact ⟨.inl rfl,by omega⟩
    . refine ⟨.inr hv,?_⟩;have J:=h1 v hv;by_cases hf:w.fc=v.fc
      . have:befP v w=true:=by unfold befP;simp [hf,J]
        rw [if_pos hf] at q;rw [if_pos this];omega
      . rw [if_neg hf] at q;omega
  . rintro ⟨rfl|hv,q⟩
    . left;refine ⟨rfl,?_⟩;have z:A.countP (befP v)=0:=List.countP_eq_zero.2 fun x hx=>by
       have:=h1 x hx;unfold befP;simp;omega
      have z2:befP v v=false:=by unfold befP;simp
      rw [z,z2] at q;simpa using q
    . right;refine ⟨hv,?_⟩;have J:=h1 v hv;by_cases hf:w.fc=v.fc
      . have:befP v w=true:=by unfold befP;simp [hf,J]
        rw [if_pos hf];rw [if_pos this] at q;omega
      . have:befP v w=false:=by unfold befP;simp [hf]
        rw [if_neg hf];rw [this] at q;simpa using q
theorem xy7 (l:List Ve) (B:List Fc):∀ (L:List Nat) (F:List Fc),(∀ k,k∈L->k<B.length)->(∀ f,f∈L.foldl (opnS l B) F->f∈F\/f∈B)/\(L.foldl (opnS l B) F).length<=F.length+L.length
 | [],F,_=>⟨fun f hf=>.inl hf,zd _⟩
 | k::L,F,h=>by
  rw [List.foldl_cons];obtain ⟨a,b⟩:=xy7 l B L (opnS l B F k) fun j hj=>h j (by simp [hj])
  have hk:=h k (by simp)
  have q:B.getD k default∈B:=by rw [z7,ze hk];exact zo hk
  have hs:(∀ f,f∈opnS l B F k->f∈F\/f∈B)/\(opnS l B F k).length<=F.length+1:=by
   unfold opnS;cases decide (((xFx (B.take k) (B.getD k default):Nat):Int)>=((xGC l (B.getD k default):Nat):Int)) with
   | true =>
    rw [xaL];refine ⟨fun f hf=>?_,by simp⟩
    rcases zG.1 hf with hf|hf
    . exact .inl hf
    . rw [zv] at hf;subst hf;exact .inr q
   | false=>rw [xaK];exact ⟨fun f hf=>.inl hf,by omega⟩
  refine ⟨fun f hf=>?_,by rw [zF];omega⟩
  rcases a f hf with hf|hf
  . exact hs.1 f hf
  . exact .inr hf
def mx (a b:Int):Int:=if a>b then a else b
def Bnd3 (s:Int×Int×Int) (v:Ve):Prop:=v.sy.1<=s.1/\(v.sy.2<1099511627776->v.sy.2<=s.1)/\v.b<=s.2.1/\v.u<=s.2.1/\v.id<=s.2.2
structure Hs (l:List Ve) (tm tx d:Int):Prop where
 ok:∀ v,v∈l->bad1 v=false
 bnd:∀ v,v∈l->Bnd3 (tm,tx,d) v
 t0:0<=tm
 t1:tm<1099511627775
theorem xt0 (F:List Fc) (g f:Fc):xFx (F++[g]) f=xFx F f+if g=f then 1 else 0:=by
 unfold xFx;rw [List.countP_append];simp [List.countP_cons]
theorem xwd {B:List Fc} {lf:List Bool} {A:List Ve} (h:InvB B lf A) (f:Fc):∀ n,n<=B.length->xFx ((List.range n).foldl (xGu B lf) []) f+min (xFx (B.take n) f) (cntA A f)=xFx (B.take n) f
 | 0,_=>by simp [xFx]
 | n+1,hn=>by
  have ih:=xwd h f n (by omega)
  have e:=h.2 n (by omega)
  have tt:=xm4 f (k:=n) (B:=B) (by omega)
  rw [List.range_succ,List.foldl_append,List.foldl_cons,List.foldl_nil,tt];generalize (List.range n).foldl (xGu B lf) []=F at ih |-;unfold xGu;rw [e];by_cases hf:B.getD n default=f
  . rw [if_pos hf];unfold occF;rw [hf];by_cases hd:xFx (B.take n) f<cntA A f
    . rw [decide_eq_true hd];dsimp only;omega
    . rw [decide_eq_false hd];dsimp only;rw [xt0,if_pos rfl];omega
  . rw [if_neg hf];by_cases hd:occF B n<cntA A (B.getD n default)
    . rw [decide_eq_true hd];dsimp only;omega
    . rw [decide_eq_false hd];dsimp only;rw [xt0,if_neg hf];omega
theorem xB3 (A:List Ve) (f:Fc):xFx (A.map Ve.fc) f=cntA A f:=by
 unfold xFx cntA;rw [List.countP_map];rfl
theorem xvn {F G:List Fc} (h:∀ f,xFx F f=xFx G f):F.Perm G:=by
 rw [List.perm_iff_count];intro f;have:=h f;unfold xFx at this;have e:∀ L:List Fc,L.count f=L.countP fun g=>decide (g=f):=fun L=>by
  unfold List.count;congr 1
 rw [e,e];exact this
theorem xzI {l:List Ve} {F:List Fc} (hl:l.length<=16) (hF:F.length<=16) (q:∀ f,f∈F->f.r.length<=60) (ht:Tx F) :
  ∃ (A:List Ve) (lf:List Bool) (B:List Fc),xcf (F.map encF)=some (B.map encF)/\xGd F B/\A.Perm (l.filter Ve.op)/\Sorted cmpW A/\InvB B lf A /\
   xa0 (l.map encW) (F.map encF)=some (((xF3 B [] A).map Ve.id).map encN,(xF5 B lf).map encF)/\B.length<=256/\A.length<=16/\(xF5 B lf).length<=256/\(∀ f,f∈xF5 B lf->f∈B)/\∀ f,f∈B->f.r.length<=60:=by
 obtain ⟨B,b1,b2,b3⟩:=xvK F (xB4 (by omega) q ht)
 have O:B.length<=256:=Nat.le_trans b3.len (by have:F.length*F.length<=16*16:=Nat.mul_le_mul hF hF;omega)
 have J:∀ f,f∈B->f.r.length<=60:=b3.all (Q:=fun r=>r.length<=60) q
 have hBr':∀ f,f∈B->f.r.length<=maxLen:=fun f hf=>by have:=J f hf;unfold maxLen;omega
 obtain ⟨A,lf,a1,a2,a3,a4⟩:=xyj l _ B b1 (by omega) hBr' (by omega)
 obtain ⟨o1,o2⟩:=xy7 l B (List.range B.length) [] fun k hk=>List.mem_range.1 hk
 rw [<-xDQ a1 a3] at o1 o2;rw [List.length_range] at o2;have hA:A.length<=16:=by rw [a1.length_eq];exact Nat.le_trans (List.length_filter_le _ _) hl
 refine ⟨A,lf,B,b2,b3,a1,a2,a3,a4,O,hA,by simp at o2;omega,fun f hf=>?_,J⟩
 rcases o1 f hf with h|h
 . simp at h
 . exact h
theorem xE9 {A:List Ve} (h:A.Pairwise fun a b=>a.id<b.id) {v w:Ve} (hv:v∈A) (hw:w∈A) (e:v.id=w.id):v=w:=by
 obtain ⟨i,hi,rfl⟩:=List.getElem_of_mem hv;obtain ⟨j,hj,rfl⟩:=List.getElem_of_mem hw;rcases Nat.lt_trichotomy i j with g|g|g
 . have:=zB.1 h i j hi hj g;omega
 . subst g;rfl
 . have:=zB.1 h j i hj hi g;omega
theorem xAR {A:List Ve} {v:Ve} (hv:v∈A):A.countP (befP v)<cntA A v.fc:=by
 have m:∀ L:List Ve,L.countP (befP v)<=L.countP fun x=>decide (x.fc=v.fc):=fun L=>List.countP_mono_left fun x _ h=>by
  unfold befP at h;rw [zf] at h;exact h.1
 have z:befP v v=false:=by unfold befP;simp
 obtain ⟨a,b,rfl⟩:=List.append_of_mem hv;have m1:=m a;have m2:=m b;unfold cntA;rw [List.countP_append,List.countP_append,List.countP_cons,List.countP_cons,z];simp;omega
theorem xuN {l A:List Ve} {B:List Fc} {lf:List Bool} (hi:InvB B lf A) {f:Fc} (h:xFx B f<=cntA A f):∀ g,g∈xF5 B lf->g≠f:=by
 have hL:=xwd hi f B.length (zd _);rw [y4] at hL;change xFx (xF5 B lf) f+_=_ at hL;have h0:xFx (xF5 B lf) f=0:=by omega
 intro g hg e;unfold xFx at h0;exact List.countP_eq_zero.1 h0 g hg (decide_eq_true e)
theorem xDU {l A:List Ve} {B:List Fc} {lf:List Bool} (hp:A.Perm (l.filter Ve.op)) (ha:A.Pairwise fun a b=>a.id<b.id) (hi:InvB B lf A) {v:Ve} (hv:v∈l) (ho:v.op=true)
  (hc:((xF3 B [] A).map Ve.id).any (fun x=>x==v.id)=true):∀ f,f∈xF5 B lf->f≠v.fc:=by
 obtain ⟨x,hx,e⟩:=List.any_eq_true.1 hc;obtain ⟨w,hw,rfl⟩:=zK.1 hx;have q:v∈A:=hp.mem_iff.2 (List.mem_filter.2 ⟨hv,ho⟩);obtain rfl:w=v:=xE9 ha ((xu5 B A []).subset hw) q (by simpa using e)
 obtain ⟨_,J⟩:=(xrK B w A [] ha).1 hw;have O:=xAR q;have z:cntA [] w.fc=0:=rfl;rw [z] at J;exact xuN (l:=l) hi (by omega)
theorem xwq {F B:List Fc} (hl:F.length=B.length) (h:∀ f,f∈B->xFx F f=xFx B f):F.Perm B:=by
 have e:(F.filter fun f=>decide (f∈B)).Perm B:=xvn fun f=>by
  by_cases hf:f∈B
  . rw [<-h f hf];unfold xFx;rw [List.countP_filter];refine List.countP_congr fun g _=>?_
    rw [zf,zl,zl];exact ⟨fun h=>h.1,fun h=>⟨h,h▸hf⟩⟩
  . have z:xFx B f=0:=List.countP_eq_zero.2 fun g hg e=>hf ((of_decide_eq_true e)▸hg)
    rw [z];exact List.countP_eq_zero.2 fun g hg e=>hf (by
     have e2:=of_decide_eq_true e;subst e2;exact of_decide_eq_true (List.mem_filter.1 hg).2)
 have e2:(F.filter fun f=>decide (f∈B))=F:=List.filter_sublist.eq_of_length (by rw [e.length_eq,hl])
 rw [e2] at e;exact e
theorem xDV {l A:List Ve} {B:List Fc} {lf:List Bool} (hp:A.Perm (l.filter Ve.op)) (ha:A.Pairwise fun a b=>a.id<b.id) (hi:InvB B lf A) (h:(xF2 l).Perm B):xF3 B [] A=[]/\xF5 B lf=[]:=by
 have hc:∀ f,cntA A f=xFx B f:=fun f=>by
  rw [<-xB3];unfold xFx;exact ((hp.map Ve.fc).trans h).countP_eq _
 constructor
 . rw [List.eq_nil_iff_forall_not_mem];intro v hv;obtain ⟨h1,h2⟩:=(xrK B v A [] ha).1 hv;have:=xAR h1;have z:cntA [] v.fc=0:=rfl;rw [z] at h2;rw [hc] at this;omega
 . rw [List.eq_nil_iff_forall_not_mem];intro f hf;exact xuN (l:=l) hi (f:=f) (by rw [hc];exact zd _) f hf rfl
theorem xv3 {α:Type} (p:α->Bool):∀ (l:List α) (c:Bool),l.foldl (fun c x=>c || p x) c=(c || l.any p)
 | [],c=>by simp
 | x::l,c=>by rw [List.foldl_cons,xv3 p l,List.any_cons,Bool.or_assoc]
theorem xuD:∀ (l:List Ve) (D:List Fc),l.foldl (fun (D:List Fc) (v:Ve)=>br v.op (D++[v.fc]) D) D=D++xF2 l
 | [],D=>by simp [xF2]
 | v::l,D=>by
  rw [List.foldl_cons,xuD l];unfold xF2;rw [List.filter_cons];cases v.op<;>simp [xaL,xaK,sUF]
theorem xE3 (l:List Ve) (ids:List Int) (T O:List AV) (n0:Nat) (xs:List AV) (q:ids.length<=1048576) {i:Nat} (hi:i<l.length) :
  Iter (xbM (l.map encW) T (ids.map encN) O n0 ((i:Nat):Int)) (false,(0:Int),xs)=some (ids.any (fun x=>x==(l.getD i default).id),xs):=by
 have g1:(i:Int)<(l.length:Int):=by omega
 have:=xiI (step:=xbM (l.map encW) T (ids.map encN) O n0 ((i:Nat):Int)) ids (fun (c:Bool) x=>c || (x==(l.getD i default).id)) (fun n (c:Bool)=>(c,((n:Nat):Int),xs)) (fun n c=>True) (r:=(ids.any (fun x=>x==(l.getD i default).id),xs)) (fun n h c _=>by
  have h1:(n:Int)<(ids.length:Int):=by omega
  have gf:(ids.map encN).getD n .top=encN ids[n]:=xaM _ _ _ h;refine ⟨?_,trivial⟩;simp only [xbM,xeR,sBU,h,h1,hi,g1,gf,gW hi,cN,sN,cW0,cW1,cW2,cW3,cW4,cW5,cW6,cW7,cW8,lW,sW,sW0,sW2,sW34,sW56,xF0 (n:=n) (by omega)]
  cases c<;>rfl) ids.length 0 false (by omega) trivial (by
  rw [zr,xv3];simp only [xbM,xeR,za,zy,zm,xaK,Bool.false_or,sUF])
 exact this
theorem xE4 (l:List Ve) (O:List Fc) (T ids:List AV) (n0:Nat) (c:Bool) (xs:List AV) (hO:O.length<=1048576) (hr:∀ f,f∈O->f.r.length<=maxLen) {i:Nat} (hi:i<l.length) (hc:c=true->∀ f,f∈O->f≠(l.getD i default).fc) :
  Iter (xbq (l.map encW) T ids (O.map encF) n0 ((i:Nat):Int) c) ((0:Int),xs)=some (false,(false,[]),xs):=by
 have g1:(i:Int)<(l.length:Int):=by omega
 have:=xjK (step:=xbq (l.map encW) T ids (O.map encF) n0 ((i:Nat):Int) c) (fun k=>(((k:Nat):Int),xs)) O.length (false,(false,[]),xs) (fun k hk=>by
  have h1:(k:Int)<(O.length:Int):=by omega
  have hm:=xkz O[k].r (l.getD i default).r (hr _ (zo hk));have gf:(O.map encF).getD k .top=encF O[k]:=xaM _ _ _ hk;cases c with
  | false=>simp only [xbq,xdH,sBU,h1,xF0 (n:=k) (by omega)]
  | true =>
   have hd:decide (O[k]=(l.getD i default).fc)=false:=decide_eq_false (hc rfl O[k] (zo hk));rw [xzP] at hd;simp only [Ve.fc_r,Ve.fc_p] at hd;simp only [xbq,xdH,sBU,hk,h1,hi,g1,gf,gW hi,cF0,cF1,cF2,sF0,sF1,sF2,lF,sF12,sF02,cW0,cW1,cW2,cW3,cW4,cW5,cW6,cW7,cW8,lW,sW,sW0,sW2,sW34,sW56,hm,cmp0,xF0 (n:=k) (by omega)]
   revert hd;rcases Decidable.em (O[k].r=(l.getD i default).r) with hq|hq
   . simp only [decide_eq_true hq];cases (O[k].p.1==(l.getD i default).va.1)<;>cases (O[k].p.2==(l.getD i default).va.2)<;>intro hd<;>first|rfl|(simp only [Bool.true_and,zS] at hd;exact absurd hq (of_decide_eq_false hd))
   . simp only [decide_eq_false hq];cases (O[k].p.1==(l.getD i default).va.1)<;>cases (O[k].p.2==(l.getD i default).va.2)<;>intro hd<;>rfl) (by
  simp only [xbq,xdH,za,zy,zm,xaK,sUF]) O.length 0 (by omega)
 exact this
theorem xE2 (l:List Ve) (ids:List Int) (O:List Fc) (T:List AV) (hl:l.length<=1048576) (q:ids.length<=1048576) (hO:O.length<=1048576) (hr:∀ f,f∈O->f.r.length<=maxLen)
  (hc:∀ v,v∈l->v.op=true->ids.any (fun x=>x==v.id)=true->∀ f,f∈O->f≠v.fc) :
  Iter (xbp (l.map encW) T (ids.map encN) (O.map encF)) ((0:Nat),(0:Int),[])=some (false,(false,0,[]),((xF2 l).length,(xF2 l).map encF)):=by
 have:=xiI (step:=xbp (l.map encW) T (ids.map encN) (O.map encF)) l (fun (D:List Fc) (v:Ve)=>br v.op (D++[v.fc]) D) (fun n (D:List Fc)=>(D.length,((n:Nat):Int),D.map encF)) (fun n D=>D.length<=n) (r:=(false,(false,0,[]),((xF2 l).length,(xF2 l).map encF))) (fun n h D i1=>by
  have h1:(n:Int)<(l.length:Int):=by omega
  have eg:l.getD n default=l[n]:=by rw [z7,ze h,zh]
  have gf:(l.map encW).getD n .top=encW l[n]:=xaM _ _ _ h;have m1:decide ((D.length+1)*40<=140737488355328)=true:=decide_eq_true (by omega)
  have m2:decide (D.length+1<=4611686018427387904)=true:=decide_eq_true (by omega)
  have a1:=xE3 l ids T (O.map encF) (D.length+1) ((D++[l[n].fc]).map encF) q h;have a2:=fun hc=>xE4 l O T (ids.map encN) (D.length+1) (ids.any (fun x=>x==(l.getD n default).id)) ((D++[l[n].fc]).map encF) hO hr h hc
  rw [eg] at a1 a2;have e5:xeC (l.map encW) T (ids.map encN) (O.map encF) D.length ((n:Nat):Int) (D.map encF)=some (ids.any (fun x=>x==l[n].id),(D++[l[n].fc]).map encF):=by
   rw [<-a1];unfold xeC;simp only [sBU,h,gf,cW0,cW1,cW2,cW3,cW4,cW5,cW6,cW7,cW8,lW,sW,sW0,sW2,sW34,sW56,zx];rfl
  constructor
  . cases ho:l[n].op with
    | false =>
     simp only [xbp,xdG,xc2,sBU,h,h1,gf,cW0,cW1,cW2,cW3,cW4,cW5,cW6,cW7,cW8,lW,sW,sW0,sW2,sW34,sW56,xsZ,ho,xF0 (n:=n) (by omega)]
    | true =>
     have a3:=a2 (hc l[n] (zo h) ho);have e4:xeB (l.map encW) T (ids.map encN) (O.map encF) D.length ((n:Nat):Int) (D.map encF)=(ids.any (fun x=>x==l[n].id),(D++[l[n].fc]).map encF):=by unfold xeB;rw [e5];rfl
     have e3:xeA (l.map encW) T (ids.map encN) (O.map encF) D.length ((n:Nat):Int) (D.map encF)=some (false,(false,[]),(D++[l[n].fc]).map encF):=by unfold xeA;rw [e4];exact a3
     have e2:xez (l.map encW) T (ids.map encN) (O.map encF) D.length ((n:Nat):Int) (D.map encF)=(false,(false,[]),(D++[l[n].fc]).map encF):=by unfold xez;rw [e3];rfl
     simp only [xbp,xdG,xc2,xgt,e5,e3,e2,sBU,h,h1,gf,cW0,cW1,cW2,cW3,cW4,cW5,cW6,cW7,cW8,lW,sW,sW0,sW2,sW34,sW56,xsZ,ho,m1,m2,z8,xF0 (n:=n) (by omega)]
     rfl
  . cases l[n].op<;>simp [xaL,xaK,sUF]<;>omega) l.length 0 [] (by omega) (zd _) (by
  rw [zr,xuD,zU];simp only [xbp,xdG,za,zy,zm,xaK,sUF])
 exact this
theorem xE5 (Fb Bb:List Fc) (ids O:List AV) (hF:Fb.length<=1048576) (r1:∀ f,f∈Fb->f.r.length<=maxLen) {i:Nat} (hi:i<Bb.length):Iter (xa9 ids O (Fb.map encF) (Bb.map encF) ((i:Nat):Int)) ((0:Int),(0:Int))=some ((xFx Fb (Bb.getD i default):Nat):Int):=by
 have g1:(i:Int)<(Bb.length:Int):=by omega
 have:=xiI (step:=xa9 ids O (Fb.map encF) (Bb.map encF) ((i:Nat):Int)) Fb (fun c g=>br (decide (g=Bb.getD i default)) (c+1) c) (fun n (c:Nat)=>(((c:Nat):Int),((n:Nat):Int))) (fun n c=>c<=n) (r:=((xFx Fb (Bb.getD i default):Nat):Int)) (fun n h c i1=>by
  have h1:(n:Int)<(Fb.length:Int):=by omega
  have hm:=xkz Fb[n].r (Bb.getD i default).r (r1 _ (zo h));have gf:(Fb.map encF).getD n .top=encF Fb[n]:=xaM _ _ _ h;constructor
  . have hd:=xzP Fb[n] (Bb.getD i default);rw [hd];simp only [xa9,xeS,sBU,h,h1,hi,g1,gf,gF hi,cF0,cF1,cF2,sF0,sF1,sF2,lF,sF12,sF02,hm,cmp0,xGT (c:=c) (by omega),xF0 (n:=n) (by omega)]
    cases (Fb[n].p.1==(Bb.getD i default).p.1)<;>cases (Fb[n].p.2==(Bb.getD i default).p.2)<;>cases decide (Fb[n].r=(Bb.getD i default).r)<;>rfl
  . cases decide (Fb[n]=Bb.getD i default)<;>simp [xaL,xaK,sUF]<;>omega) Fb.length 0 0 (by omega) (zd _) (by
  rw [zr,xpJ,zH];simp only [xa9,xeS,za,zy,zm,xaK,sUF];rfl)
 exact this
theorem xE6 (Fb Bb:List Fc) (ids O:List AV) (n0:Int) (hB:Bb.length<=1048576) (r1:∀ f,f∈Bb->f.r.length<=maxLen) {i:Nat} (hi:i<Bb.length):Iter (xbN ids O (Fb.map encF) (Bb.map encF) ((i:Nat):Int) n0) ((0:Int),(0:Int))=some ((xFx Bb (Bb.getD i default):Nat):Int):=by
 have g1:(i:Int)<(Bb.length:Int):=by omega
 have:=xiI (step:=xbN ids O (Fb.map encF) (Bb.map encF) ((i:Nat):Int) n0) Bb (fun c g=>br (decide (g=Bb.getD i default)) (c+1) c) (fun n (c:Nat)=>(((c:Nat):Int),((n:Nat):Int))) (fun n c=>c<=n) (r:=((xFx Bb (Bb.getD i default):Nat):Int)) (fun n h c i1=>by
  have h1:(n:Int)<(Bb.length:Int):=by omega
  have hm:=xkz Bb[n].r (Bb.getD i default).r (r1 _ (zo h));have gf:(Bb.map encF).getD n .top=encF Bb[n]:=xaM _ _ _ h;constructor
  . have hd:=xzP Bb[n] (Bb.getD i default);rw [hd];simp only [xbN,xeT,sBU,h,h1,hi,g1,gf,gF hi,cF0,cF1,cF2,sF0,sF1,sF2,lF,sF12,sF02,hm,cmp0,xGT (c:=c) (by omega),xF0 (n:=n) (by omega)]
    cases (Bb[n].p.1==(Bb.getD i default).p.1)<;>cases (Bb[n].p.2==(Bb.getD i default).p.2)<;>cases decide (Bb[n].r=(Bb.getD i default).r)<;>rfl
  . cases decide (Bb[n]=Bb.getD i default)<;>simp [xaL,xaK,sUF]<;>omega) Bb.length 0 0 (by omega) (zd _) (by
  rw [zr,xpJ,zH];simp only [xbN,xeT,za,zy,zm,xaK,sUF];rfl)
 exact this
theorem xBv (Fb Bb:List Fc) (ids O:List AV) (hF:Fb.length<=1048576) (hB:Bb.length<=1048576) (r1:∀ f,f∈Fb->f.r.length<=maxLen) (r2:∀ f,f∈Bb->f.r.length<=maxLen) (s0:Bool) :
  ∃ r,Iter (xa8 ids O (Fb.map encF) (Bb.map encF)) (s0,(0:Int))=some r/\(r=true->s0=true/\∀ f,f∈Bb->xFx Fb f=xFx Bb f):=by
 refine xwb (step:=xa8 ids O (Fb.map encF) (Bb.map encF)) (fun s=>∃ k:Nat,s.2=(k:Int)/\k<=Bb.length/\(s.1=true->s0=true/\∀ j,j<k->xFx Fb (Bb.getD j default)=xFx Bb (Bb.getD j default))) (fun s=>Bb.length - s.2.toNat)
  (fun r=>r=true->s0=true/\∀ f,f∈Bb->xFx Fb f=xFx Bb f) ?_ (s0,0) ⟨0,rfl,zQ _,fun h=>⟨h,fun j hj=>absurd hj (Nat.not_lt_zero _)⟩⟩
 rintro ⟨s,i⟩ ⟨k,hk,J,hs⟩;dsimp only at hk hs;subst hk;by_cases q:k<Bb.length
 . have g1:(k:Int)<(Bb.length:Int):=by omega
   cases s with
   | false =>
    refine .inr ⟨false,?_,fun h=>by simp at h⟩
    simp only [xa8,xdI,za,g1,zn,xaL,xaK,sUF]
   | true =>
    have a4:=xE5 Fb Bb ids O hF r1 q;have a5:=xE6 Fb Bb ids O ((xFx Fb (Bb.getD k default):Nat):Int) hB r2 q;refine .inl ⟨(((xFx Fb (Bb.getD k default):Nat):Int)==((xFx Bb (Bb.getD k default):Nat):Int),((k+1:Nat):Int)),?_,⟨k+1,rfl,q,fun h=>⟨(hs rfl).1,fun j hj=>?_⟩⟩,by dsimp only;omega⟩
    . simp only [xa8,xdI,xgu,za,g1,zn,xaL,a4,a5,zk,zh,xF0 (n:=k) (by omega),sUF]
    . rcases zJ j k with g|g
      . exact (hs rfl).2 j g
      . obtain rfl:j=k:=by omega
        have:=beq_iff_eq.1 h;omega
 . obtain rfl:k=Bb.length:=by omega
   refine .inr ⟨s,?_,fun h=>⟨(hs h).1,fun f hf=>?_⟩⟩
   . simp only [xa8,xdI,za,zy,zm,xaK,sUF]
   . obtain ⟨j,hj,rfl⟩:=List.getElem_of_mem hf;have:=(hs h).2 j hj;rwa [z7,ze hj,zh] at this
theorem xyg (l:List Ve) (F:List Fc) (hl:l.length<=1048576) (hF:F.length<=1048576) (hv:TxV l) (ht:Tx F):xjM (l.map encW) (F.map encF)=some true:=by
 unfold xjM xiS xhC xhD;rw [xCq l (by omega)]
 cases hf:fewV l with
 | false=>rfl
 | true =>
  obtain ⟨h1,h2⟩:=xBc hf;have V:=xze F (by omega) 16
  rw [show ((16:Nat):Int)=(16:Int) from rfl] at V
  rw [V];cases hg:fewF 16 F with
  | false=>rfl
  | true =>
   obtain ⟨h3,h4⟩:=xBb hg;rw [xCC l hl];cases hp:xGw l with
   | false=>rfl
   | true =>
    obtain ⟨A,lf,B,b2,b3,a1,a2,a3,a4,hB,hA,hO,Y,Z⟩:=xzI h1 h3 h4 ht;have ha:=xEE a1 a2 hp;have hBr':∀ f,f∈B->f.r.length<=maxLen:=fun f hf=>by have:=Z f hf;unfold maxLen;omega
    have ab:((xF3 B [] A).map Ve.id).length<=16:=by rw [za];exact Nat.le_trans (xu4 B A []) hA
    have hz:=fun h=>xDV a1 ha a3 (l:=l) h
    have e8:xfB (l.map encW) (F.map encF)=some (false,(false,0,[]),((xF2 l).length,(xF2 l).map encF)):=by
     unfold xfB;rw [a4];exact xE2 l _ _ _ hl (by omega) (by omega) (fun f hf=>hBr' f (Y f hf)) fun v hv ho hc=>xDU a1 ha a3 hv ho hc
    have q:(xF3 B [] A).map Ve.id=[]/\xF5 B lf=[]->IntKind.i64.wrap (((((xF3 B [] A).map Ve.id).map encN).length:Nat)+((((xF5 B lf).map encF).length:Nat):Int):Int)=0:=fun h=>by rw [h.1,h.2];rfl
    have n1:¬ ((((((xF3 B [] A).map Ve.id).map encN).length:Nat):Int)>16):=by rw [za];omega
    have n2:¬ (((((xF5 B lf).map encF).length:Nat):Int)>256):=by rw [za];omega
    have hz':(xF2 l).Perm B->(xF3 B [] A).map Ve.id=[]/\xF5 B lf=[]:=fun h=>by
     obtain ⟨x,y⟩:=hz h;exact ⟨by rw [x];rfl,y⟩
    generalize (xF3 B [] A).map Ve.id=ids at a4 q n1 hz';generalize xF5 B lf=O at a4 q n2 hz';have e7:xeh (l.map encW) (F.map encF)=(false,(false,0,[]),((xF2 l).length,(xF2 l).map encF)):=by unfold xeh;rw [e8];rfl
    have e4:xfy (l.map encW) (F.map encF)=(xF2 l).map encF:=by unfold xfy xfz xfA;rw [e7]
    have e3:xfw (l.map encW) (F.map encF)=(xF2 l).length:=by unfold xfw xfz xfA;rw [e7]
    have e2:xaT (l.map encW) (F.map encF)=(xF2 l).map encF:=by
     unfold xaT;rw [e3,e4,zr];exact zi (by simp)
    have aa:=xuX l;have J:∀ f,f∈xF2 l->f.r.length<=60:=fun f hf=>by
     obtain ⟨v,hv,rfl⟩:=zK.1 hf;exact h2 v (List.mem_filter.1 hv).1
    obtain ⟨D,p1,p2,p3⟩:=xvK (xF2 l) (xBA (by omega) h2 hv)
    have hD:D.length<=1048576:=by
     have a:=p3.len;have:(xF2 l).length*(xF2 l).length<=16*16:=Nat.mul_le_mul (by omega) (by omega)
     omega
    have U:∀ f,f∈D->f.r.length<=maxLen:=fun f hf=>by
     have:=p3.all (Q:=fun r=>r.length<=60) J f hf
     unfold maxLen;omega
    have e1:xcW (l.map encW) (F.map encF)=true:=by unfold xcW;rw [e2,p2];rfl
    have hS:xoP ((xF2 l).map encF) (F.map encF)=some (decide (D=B)):=by
     have:=xBO D B hD U;unfold xoP xpj;simp only [p2,b2,this,zk,zh,xaL,sUF]
    obtain ⟨r0,q0,q1⟩:=xBv (xF2 l) D (ids.map encN) (O.map encF) (by omega) hD (fun f hf=>by have:=J f hf;unfold maxLen;omega) U (decide (D=B))
    obtain ⟨r9,q2,q3⟩:=xBv (xF2 l) D (ids.map encN) (O.map encF) (by omega) hD (fun f hf=>by have:=J f hf;unfold maxLen;omega) U false
    have e0:xfv (l.map encW) (F.map encF)=some r0:=by
     unfold xfv;rw [e2,a4,p2,hS];exact q0
    have e9:xfC (l.map encW) (F.map encF)=some r9:=by
     unfold xfC;rw [e2,a4,p2];exact q2
    obtain rfl:r9=false:=by cases r9 with|false=>rfl|true=>exact absurd (q3 rfl).1 (by simp)
    have e6:(xeh (l.map encW) (F.map encF)).fst=false:=by rw [e7]
    have lt:decide (0+(xF2 l).length<=((xF2 l).map encF).length)=true:=decide_eq_true (by simp)
    simp only [a4,e8,e6,e3,e4,e2,e1,e0,e9,p2,b2,hS,zk,zh,xaL,xaK,Bool.not_true,Bool.not_false,decide_eq_false n1,decide_eq_false n2,lt,zS,sUF];by_cases c1:(xF2 l).length=D.length
    case neg =>
     have:(((((xF2 l).map encF).length:Nat):Int)==(((D.map encF).length:Nat):Int))=false:=by rw [za,za];exact beq_eq_false_iff_ne.2 (by omega)
     rw [this];rfl
    have d1:(((((xF2 l).map encF).length:Nat):Int)==(((D.map encF).length:Nat):Int))=true:=by rw [za,za];exact beq_iff_eq.2 (by omega)
    rw [d1,xaL];by_cases c2:D.length=B.length
    case neg =>
     have:((((D.map encF).length:Nat):Int)==(((B.map encF).length:Nat):Int))=false:=by rw [za,za];exact beq_eq_false_iff_ne.2 (by omega)
     rw [this];rfl
    have d2:((((D.map encF).length:Nat):Int)==(((B.map encF).length:Nat):Int))=true:=by rw [za,za];exact beq_iff_eq.2 (by omega)
    rw [d2,xaL];cases r0 with
    | false=>rfl
    | true =>
     obtain ⟨g1,g2⟩:=q1 rfl;have g1:=of_decide_eq_true g1;subst g1;have:=q (hz' (xwq c1 g2));rw [this];rfl
end Go.Sim.M
end
noncomputable section
set_option maxRecDepth 10000
namespace Go.Sim
open Go.RowKit Go.Proofs Go.ChangeShapes Go.WideShapes Go.ChangeAt Go.Proofs.YtckgiglpmfpagaaGreatDoor
theorem M.card_minimal (l:List M.Ve) (F:List M.Fc) (hw:∀ y,y∈l->y.wf) (hx:F.length<=maxLen/\∀ y,y∈F->y.wf) (hb:(AV.list 9 (l.map M.encW)).wt+(AV.list 3 (F.map M.encF)).wt<=1048576):M.xjM (l.map M.encW) (F.map M.encF)=some true :=
 have hf:=M.txf_wt (Nat.le_trans (Nat.le_add_left _ _) hb) hx.2;have hv:=M.txv_wt (Nat.le_trans (Nat.le_add_right _ _) hb) hw
 M.xyg l F hv.2 hf.2 hv.1 hf.1
end Go.Sim
end
noncomputable section
set_option maxRecDepth 10000
namespace Go.Proofs.YtckgiglpmfpagaaGreatDoor.deltaMinimal
open Go.ChangeShapes Go.WideShapes Go.ChangeAt Go.RowKit Go.Sim
theorem contract (H:Type) (enc:TypeId×Value->H) (W:World) (base:Nat) (args:Array Value) (ds gs:List (DataW H)) (before:List MemPlace)
  (hval:∀ (j:Nat) t v,Tryz.f7.params[j]?=some t->args[j]?=some v->Value.okWide Tryz.prog W .any base t v)
  (hW:DataW.Whole enc Tryz.prog Tryz.f7.params.toList Rows.deltaMinimalSpec.vars false W args.toList ds gs before) (hL:laidMetH Tryz.prog Rows.deltaMinimalUptoRow.laid W) (hsh:W.ShapedOpen Tryz.prog) (hbulk:Rows.uptoBulkAll (ds++gs)<=1048576) :
  Calls Tryz.prog 7 args W fun e W'=>∃ v,e=.returned v/\Rows.deltaMinimalSpec.post enc Tryz.prog Tryz.f7 false true false false W args v W':=by
 have hW':=hW;obtain ⟨p,q,hA0,hV,rfl,hfz,hnd⟩:=hW;have hA:DataW.TrodAll enc Tryz.prog W 0 (fun _=>true) true Tryz.f7.params.toList args.toList ds p:=hA0
 have hAk:=hA;rw [Tryz.params7] at hA hval;obtain ⟨v0,vs0,d0,ds0,p0,q0,hargs,rfl,rfl,h0,r0⟩:=trodAll_cons hA;obtain ⟨v1,vs1,d1,ds1,p1,q1,rfl,rfl,rfl,h1,r1⟩:=trodAll_cons r0;obtain ⟨rfl,rfl,rfl⟩:=trodAll_nil r1;obtain rfl:args=#[v0,v1]:=by cases args;simp_all
 obtain ⟨rfl,rfl⟩:=trodVars_none hV;obtain ⟨a0,rr0,b0,w0⟩:=xBC (hval 0 22 v0 rfl rfl) h0;obtain ⟨a1,rr1,b1,w1⟩:=xz2 (hval 1 26 v1 rfl rfl) h1;clear hA0;have hbulk:(.list 9 (a0.map M.encW):AV).wt+(.list 3 (a1.map M.encF):AV).wt<=1048576:=by
  rw [List.append_nil,xnH] at hbulk;simp only [List.map_cons,List.map_nil,List.sum_cons,List.sum_nil] at hbulk;have:=b0 _ xuR;have:=b1 _ xuR;omega
 have hI:xHL W:=xEO rfl (by kernel_rfl) hL hsh
 have hpl:=M.card_minimal a0 a1 w0 w1 hbulk;have hg:Sim.Good Tryz.prog xHL 7 [.list 9 (a0.map M.encW),.list 3 (a1.map M.encF)] (.bool true):=M.xqA _ _ (congrArg (fun x:Option Bool=>some (x.isSome,AV.bool (x.getD false))) hpl)
 have hrc:RC W (fun _=>False) xHg [v0,v1] [.list 9 (a0.map M.encW),.list 3 (a1.map M.encF)]:=by
  refine ⟨rfl,fun i hi=>?_⟩
  match i,hi with
  | 0,_=>exact rr0
  | 1,_=>exact rr1
 refine (hg.2 W (fun _=>False) _ hI (fun _ h=>h.elim) hrc).mono fun e W' ⟨v,he,hb,hr⟩=>?_
 subst he;obtain rfl:=hr.bool_inv;exact ⟨_,rfl,xBE rfl hW' ⟨rfl,rfl,rfl⟩ rfl Tryz.underlying4 (by simpa using xqV xGO hb (by kernel_rfl) hAk) hb⟩
noncomputable def wit:Array Value:=#[.slice none 0 0,.slice none 0 0]
theorem laid_met (os:Os):laidMet Tryz.prog Rows.deltaMinimalUptoRow.laid ((xGz Tryz.prog Rows.deltaMinimalUptoRow.laid os).forCall (fun _ _=>0) ⟨#[],wit,[]⟩).memory :=
 laidMet_of_run3 8 (by kernel_rfl) (by kernel_rfl) (by kernel_rfl)
theorem reads (os:Os) {H:Type} (enc:TypeId×Value->H):∃ places,DataW.whole enc Tryz.prog ((xGz Tryz.prog Rows.deltaMinimalUptoRow.laid os).forCall (fun _ _=>0) ⟨#[],wit,[]⟩).memory Tryz.f7.params.toList Rows.deltaMinimalSpec.vars false wit.toList 8=some ([.nil,.nil],[],places) :=
 ⟨[],by kernel_rfl⟩
set_option maxRecDepth 100000 in
theorem lifted (os:Os) (started:os.Started) (H:Type) (enc:TypeId×Value->H) (F:Stop.Interp) :
  ReturnsInHanded {} Tryz.checked os 7 .any ((Rows.OpenSpec.upto Rows.deltaMinimalSpec).preRow enc Tryz.prog Tryz.f7 Rows.deltaMinimalUptoRow.domain false Rows.deltaMinimalUptoRow.laid) (((Rows.OpenSpec.upto Rows.deltaMinimalSpec).at F).post enc Tryz.prog Tryz.f7 false true false false):=by
 obtain ⟨places,hx⟩:=reads os enc;refine returnsInHanded_of_row (C:=Tryz.checked) (s:=Rows.OpenSpec.upto Rows.deltaMinimalSpec) xGW started (by kernel_rfl) Tryz.func7
  (witness_row_at (enc:=enc) (C:=Tryz.checked) false (xGz Tryz.prog Rows.deltaMinimalUptoRow.laid os) wit rfl (by kernel_rfl) (by kernel_rfl) (by kernel_rfl)
   (OpenSpec.preRow_of_cond 8 hx (by kernel_rfl) (fun k hk=>by cases hk;kernel_rfl) (by kernel_rfl) (laid_met os))) ?_
 intro W base args ds gs before hval hW _ hcond _ hL hsh _;exact contract H enc W base args ds gs before hval hW hL hsh (of_decide_eq_true (hcond _ rfl))
theorem said:Rows.DeltaMinimalUptoSaid :=
 OpenClaim.holds_of_cond 7 Tryz.f7 rfl rfl rfl rfl rfl rfl rfl ⟨rfl,rfl,rfl,rfl,rfl⟩ rfl rfl rfl rfl rfl (by kernel_rfl) Tryz.func7 (by kernel_rfl)
  (of_decide_eq_true (by kernel_rfl)) (by unfold Func.isWrapper;first|(rw [if_pos (by decide +kernel)];kernel_rfl)|(rw [if_neg (by decide +kernel)];exact ⟨rfl,rfl⟩))
  (fun os started H enc _ F=>by rw [OpenClaim.pre_eq_preRow];exact lifted os started H enc F)
theorem plain (f:FuncId) (fn:Func) (hf:Tryz.pinned.checked.prog.funcNamed "bitemporal/bitemporallaw32.DeltaMinimal" = some f) (hfn:Tryz.pinned.checked.prog.funcs[f]?=some fn) :
  false=Tryz.pinned.checked.prog.looks []/\∀ (j:Nat) t,fn.params[j]?=some t->Tryz.pinned.checked.prog.wantsStandIn t=false:=by
 obtain rfl:f=7:=Option.some.inj ((show Tryz.prog.funcNamed "bitemporal/bitemporallaw32.DeltaMinimal" = some 7 by kernel_rfl).symm.trans hf) |>.symm
 obtain rfl:fn=Tryz.f7:=(Option.some.inj (Tryz.func7.symm.trans hfn)).symm;refine ⟨by kernel_rfl,fun j t ht=>?_⟩
 rw [Tryz.params7] at ht;have hm:=Array.mem_of_getElem? ht;have:([22,26]:List Nat).all (fun t=>!(Tryz.prog.wantsStandIn t))=true:=by kernel_rfl
 have:=List.all_eq_true.1 this t (by simpa using hm)
 show Tryz.prog.wantsStandIn t=false;simpa using this
theorem card:Rows.DeltaMinimalUptoCardSaid :=
 Claim7.holds_tied_plain_at .later [] _ _ _ _ said (fun _ h=>by cases h) (by kernel_rfl) (fun _ h=>by cases h) deltaMinimalUpto_row_tie rfl ⟨rfl,rfl⟩ (by kernel_rfl) rfl plain (by kernel_rfl)
end Go.Proofs.YtckgiglpmfpagaaGreatDoor.deltaMinimal
end
