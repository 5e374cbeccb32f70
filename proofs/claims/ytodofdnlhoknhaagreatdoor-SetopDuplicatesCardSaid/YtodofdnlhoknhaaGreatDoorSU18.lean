/- Part 18 of the proof of the law. -/
import Derived.Test.YtodofdnlhoknhaaGreatDoorSU17
import Derived.Lib.ItoaLen
set_option linter.defProp false
set_option linter.unusedVariables false
set_option linter.unusedSimpArgs false
set_option linter.unusedSectionVars false
noncomputable section
set_option maxRecDepth 100000
namespace Go.Sim.M
open Go.RowKit Go.Sim.Srt
def rdD (l:List UInt8):Nat:=l.foldl (fun a c=>a*10+(c.toNat - 48)) 0
def xw7 (u:Nat):∀ c,c∈Lib.decDigits u->48<=c.toNat/\c.toNat<=57:=by
 induction u using Nat.strongRecOn with
 | _ u ih =>
  intro c hc;rw [Lib.decDigits] at hc;split at hc
  . rw [zv] at hc;subst hc;rw [UInt8.toNat_ofNat'];omega
  . rw [zG,zv] at hc;rcases hc with hc|rfl
    . exact ih (u / 10) (by omega) c hc
    . rw [UInt8.toNat_ofNat'];omega
def xBa (u:Nat):rdD (Lib.decDigits u)=u:=by
 induction u using Nat.strongRecOn with
 | _ u ih =>
  rw [Lib.decDigits];split
  . simp only [rdD,List.foldl_cons,List.foldl_nil,UInt8.toNat_ofNat'];omega
  . have:=ih (u / 10) (by omega)
    unfold rdD at this |-;rw [List.foldl_append,this];simp only [List.foldl_cons,List.foldl_nil,UInt8.toNat_ofNat'];omega
def xw8 {u v:Nat} (h:Lib.decDigits u=Lib.decDigits v):u=v:=by rw [<-xBa u,h,xBa]
def xrS {a b:Int} (h:Lib.itoa a=Lib.itoa b):a=b:=by
 unfold Lib.itoa at h;have k:∀ u v:Nat,45::Lib.decDigits u≠Lib.decDigits v:=fun u v e=>by
  have:=xw7 v 45 (by rw [<-e];simp)
  have t:(45:UInt8).toNat=45:=rfl;omega
 split at h<;>split at h
 . have:=xw8 (List.cons.inj h).2;omega
 . exact absurd h (k _ _)
 . exact absurd h.symm (k _ _)
 . have:=xw8 h;omega
def xnp (a:Int):(32:UInt8)∉Lib.itoa a:=by
 have k:∀ v:Nat,(32:UInt8)∉Lib.decDigits v:=fun v e=>by
  have:=xw7 v 32 e;have t:(32:UInt8).toNat=32:=rfl;omega
 unfold Lib.itoa;split
 . rw [zC];rintro (h|h)
   . simp at h
   . exact k _ h
 . exact k _
def xsr:∀ {a b x y:List UInt8},(32:UInt8)∉a->(32:UInt8)∉b->a++32::x=b++32::y->a=b/\x=y
 | [],[],x,y,_,_,h=>⟨rfl,(List.cons.inj h).2⟩
 | [],c::b,x,y,_,hb,h=>absurd (List.cons.inj h).1 fun e=>hb (by rw [e];simp)
 | c::a,[],x,y,ha,_,h=>absurd (List.cons.inj h).1 fun e=>ha (by rw [<-e];simp)
 | c::a,d::b,x,y,ha,hb,h=>by
  obtain ⟨e1,h⟩:=List.cons.inj h;obtain ⟨e2,e3⟩:=xsr (a:=a) (b:=b) (fun e=>ha (by simp [e])) (fun e=>hb (by simp [e])) h
  exact ⟨by rw [e1,e2],e3⟩
def keyV (v:Val):List UInt8:=Lib.itoa v.k++32::(Lib.itoa v.i++32::(Lib.itoa (v.t.length:Int)++32::v.t))
def keyOf (r:Row):List UInt8:=r.flatMap keyV
def xrV (v:Val) (s:List UInt8):keyV v++s=Lib.itoa v.k++32::(Lib.itoa v.i++32::(Lib.itoa (v.t.length:Int)++32::(v.t++s))):=by simp [keyV]
def xjy (v:Val) (r:Row):keyOf (v::r)=keyV v++keyOf r:=by simp [keyOf]
def xq4 (v:Val) (s:List UInt8):keyV v++s≠[]:=by rw [xrV];simp
def xo0:∀ {r r':Row},keyOf r=keyOf r'->r=r'
 | [],[],_=>rfl
 | [],v::r',h=>by rw [xjy] at h;exact absurd h.symm (xq4 _ _)
 | v::r,[],h=>by rw [xjy] at h;exact absurd h (xq4 _ _)
 | v::r,v'::r',h=>by
  rw [xjy,xjy,xrV,xrV] at h;obtain ⟨h1,h⟩:=xsr (xnp _) (xnp _) h;obtain ⟨h2,h⟩:=xsr (xnp _) (xnp _) h;obtain ⟨h3,h⟩:=xsr (xnp _) (xnp _) h;have h3:=xrS h3;obtain ⟨h4,h⟩:=List.append_inj h (by omega)
  obtain rfl:=xo0 h;have:v=v':=by
   obtain ⟨k,i,t⟩:=v;obtain ⟨k',i',t'⟩:=v';obtain rfl:=xrS h1;obtain rfl:=xrS h2;subst h4;rfl
  rw [this]
def xHp {n:Int} (h:(Lit.int .i64 n).wf=true):-9223372036854775808<=n/\n<=9223372036854775807:=by
 have h:(decide ((IntKind.i64).min<=n)&&decide (n<=(IntKind.i64).max))=true:=h;rw [zf,zl,zl] at h;exact h
def xvE {v:Val} (hw:v.wf) (ht:v.t.length<=1099511627776):(keyV v).length<=66+v.t.length:=by
 obtain ⟨w1,w2,_⟩:=hw;have a1:=Lib.itoa_length_le v.k (xHp w1).1 (xHp w1).2;have a2:=Lib.itoa_length_le v.i (xHp w2).1 (xHp w2).2;have a3:=Lib.itoa_length_le (v.t.length:Int) (by omega) (by omega)
 simp only [keyV,z8,zF];omega
def xnt (s B:List UInt8) (h:(B++s).length<=140737488355328):xaX s B.length (byteAVs B)=some ((s.length:Int),(B++s).length,byteAVs (B++s)):=by
 rw [z8] at h;have h2:B.length+s.length<=4611686018427387904:=by omega
 unfold xaX xdQ;simp only [xfS,beq_self_eq_true,Nat.mul_one,h,h2,zn,Bool.and_self,xaj,xoW,z8,sUF]
def xpN (B:List UInt8) (h:(B++[32]).length<=140737488355328):xdA 32 B.length (byteAVs B)=some ((B++[32]).length,byteAVs (B++[32])):=by
 rw [z8,zj] at h;have h2:B.length+1<=4611686018427387904:=by omega
 unfold xdA xen;simp only [xfS,beq_self_eq_true,Nat.mul_one,h,h2,zn,Bool.and_self,xaj,xoW,z8,zj,sUF];rfl
def numI (n:Int):List UInt8:=Lib.itoa n++[32]
def xzg (t8:List AV) (t9 q:Int) (xs:List AV) (hx:xs.length=3) (j:Nat) (hj:j<3) (n:Int) (hn:xs.getD j .top=.int .i64 n) (h1:-9223372036854775808<=n) (h2:n<=9223372036854775807) (v0 v1:Int) (v2 B:List UInt8) (hB:B.length<=70368744177664) :
  xbF t8 t9 q 3 3 ((j:Int),B.length,v0,v1,v2,xs,byteAVs B)=some (.inl (((j+1:Nat):Int),(B++numI n).length,v0,v1,v2,xs,byteAVs (B++numI n))):=by
 have hl:=Lib.itoa_length_le n h1 h2;have i1:(j:Int)<3:=by omega
 have i2:(j:Int)<((3:Nat):Int):=by omega
 have i3:j<xs.length:=by omega
 have e1:=xnt (Lib.itoa n) B (by rw [z8];omega)
 have e2:=xpN (B++Lib.itoa n) (by rw [z8,z8,zj];omega)
 have hc:((AV.int IntKind.i64 n).cells.getD 0 .top).toInt=n:=rfl;have hs:xH4 (Sh.int IntKind.i64) ((AV.int IntKind.i64 n).cells.getD 0 .top)=true:=rfl;simp only [xbF,xhe,xi2,xi3,xi4,xeU,sBU,i1,i2,i3,hn,hc,hs,h1,h2,e1,e2,xHc (n:=j) (by omega),numI,zw]
def xDC (t8:List AV) (t9 q:Int) (xs:List AV) (v0 v1:Int) (v2 B:List UInt8):xbF t8 t9 q 3 3 (((3:Nat):Int),B.length,v0,v1,v2,xs,byteAVs B)=some (.inr (B.length,v0,v1,v2,byteAVs B)):=by
 have i1:¬ ((3:Nat):Int)<3:=by omega
 simp only [xbF,xhe,i1,zm,xaH,sUF]
def xlx (v:Val):keyV v=numI v.k++(numI v.i++(numI (v.t.length:Int)++v.t)):=by simp [keyV,numI]
def KOk (v:Val):Prop:=v.wf/\v.t.length<=1099511627776
def KOk.len {v:Val} (h:KOk v):(keyV v).length<=1099511627842:=by have:=xvE h.1 h.2;have:=h.2;omega
def xyl (t8:List AV) (t9 q:Int) (v:Val) (h:KOk v) (B:List UInt8) (hB:B.length<=35184372088832) :
  Iter (xbF t8 t9 q 3 3) ((1:Int),(B++numI v.k).length,v.k,v.i,v.t,[AV.int .i64 v.k,AV.int .i64 v.i,AV.int .i64 (v.t.length:Int)],byteAVs (B++numI v.k))=some ((B++numI v.k++numI v.i++numI (v.t.length:Int)).length,v.k,v.i,v.t,byteAVs (B++numI v.k++numI v.i++numI (v.t.length:Int))):=by
 have hl:=h.len;have ht:=h.2;rw [xlx,z8,z8,z8] at hl;have e1:=xzg t8 t9 q [AV.int .i64 v.k,AV.int .i64 v.i,AV.int .i64 (v.t.length:Int)] rfl 1 (by omega) v.i rfl (xHp h.1.2.1).1 (xHp h.1.2.1).2 v.k v.i v.t (B++numI v.k) (by rw [z8];omega)
 have e2:=xzg t8 t9 q [AV.int .i64 v.k,AV.int .i64 v.i,AV.int .i64 (v.t.length:Int)] rfl 2 (by omega) (v.t.length:Int) rfl (by omega) (by omega) v.k v.i v.t (B++numI v.k++numI v.i) (by rw [z8,z8];omega)
 exact (xaT e1).trans ((xaT e2).trans (xaI (xDC ..)))
def xFu (t8:List AV) (t9 q:Int) (v:Val) (h:KOk v) (B:List UInt8) (hB:B.length<=35184372088832) :
  Iter (xbF t8 t9 q 3 3) ((0:Int),B.length,v.k,v.i,v.t,[AV.int .i64 v.k,AV.int .i64 v.i,AV.int .i64 (v.t.length:Int)],byteAVs B)=some ((B++numI v.k++numI v.i++numI (v.t.length:Int)).length,v.k,v.i,v.t,byteAVs (B++numI v.k++numI v.i++numI (v.t.length:Int))):=by
 have e0:=xzg t8 t9 q [AV.int .i64 v.k,AV.int .i64 v.i,AV.int .i64 (v.t.length:Int)] rfl 0 (by omega) v.k rfl (xHp h.1.1).1 (xHp h.1.1).2 v.k v.i v.t B (by omega)
 exact (xaT e0).trans (xyl t8 t9 q v h B hB)
def xAU (r:Row) (hr:r.length<=1048576) (h:∀ v,v∈r->KOk v) (hk:(keyOf r).length<=17592186044416):∀ d k:Nat,k+d=r.length->Iter (xdj (r.map encV) ((r.length:Nat):Int)) ((k:Int),(keyOf (r.take k)).length,byteAVs (keyOf (r.take k)))=some ((keyOf r).length,byteAVs (keyOf r))
 | 0,k,hkk=>by
  obtain rfl:k=r.length:=by omega
  rw [y6];refine xaI ?_;simp only [xdj,xhd,zy,zm,xaH,sUF]
 | d+1,k,hkk=>by
  have q:k<r.length:=by omega
  have hv:=h r[k] (zo q);have i1:(k:Int)<(r.length:Int):=by omega
  have gf:(r.map encV).getD k .top=encV r[k]:=xaK _ _ _ q;have tk:keyOf (r.take (k+1))=keyOf (r.take k)++keyV r[k]:=by
   unfold keyOf;rw [List.take_add_one,ze q,List.flatMap_append];simp
  have le:(keyOf (r.take (k+1))).length<=(keyOf r).length:=by
   conv=>rhs;rw [<-List.take_append_drop (k+1) r]
   unfold keyOf;rw [List.flatMap_append,z8];omega
  have hl:=hv.len;rw [tk,z8] at le;have e1:=xFu (r.map encV) (r.length:Int) (k:Int) r[k] hv (keyOf (r.take k)) (by omega)
  have kn:keyOf (r.take k)++keyV r[k]=keyOf (r.take k)++numI r[k].k++numI r[k].i++numI (r[k].t.length:Int)++r[k].t:=by rw [xlx];simp only [zw]
  have e2:=xnt r[k].t (keyOf (r.take k)++numI r[k].k++numI r[k].i++numI (r[k].t.length:Int)) (by rw [<-kn,z8];omega)
  rw [xaT (s':=(((k+1:Nat):Int),(keyOf (r.take (k+1))).length,byteAVs (keyOf (r.take (k+1))))) ?_]
  . exact xAU r hr h hk d (k+1) (by omega)
  . rw [tk,kn];simp only [xdj,xhd,xix,xi0,xgn,xi1,sBU,q,i1,gf,cV0,cV1,cV2,lV,sV,e1,e2,xHc (n:=k) (by omega)]
def xFv (r:Row) (hr:r.length<=1048576) (h:∀ v,v∈r->KOk v) (hk:(keyOf r).length<=17592186044416):xiZ (r.map encV)=some (keyOf r):=by
 match r with
 | []=>rfl
 | v::t =>
  have hv:=h v (by simp)
  have hl:=hv.len;have i1:(0:Int)<((t.length+1:Nat):Int):=by omega
  have i2:0<t.length+1:=by omega
  obtain ⟨r1,r2⟩:=xHp hv.1.1;have q:=Lib.itoa_length_le v.k r1 r2;have gf:((v::t).map encV).getD 0 .top=encV v:=rfl;have e0:xax (Lib.itoa v.k)=some (((Lib.itoa v.k).length:Int),(Lib.itoa v.k).length,byteAVs (Lib.itoa v.k)):=by
   have m1:(Lib.itoa v.k).length<=140737488355328:=by omega
   have m2:(Lib.itoa v.k).length<=4611686018427387904:=by omega
   unfold xax xcJ;simp only [xfS,Nat.mul_one,m1,m2,zn,Bool.and_self,xaj,sUF]
  have e1:xdz 32 (Lib.itoa v.k).length (byteAVs (Lib.itoa v.k))=some (([]++numI v.k).length,byteAVs ([]++numI v.k)):=xpN (Lib.itoa v.k) (by rw [z8,zj];omega)
  have e2:=xyl ((v::t).map encV) ((t.length+1:Nat):Int) 0 v hv [] (by simp)
  have kn:keyV v=[]++numI v.k++numI v.i++numI (v.t.length:Int)++v.t:=by rw [xlx];simp
  have e3:=xnt v.t ([]++numI v.k++numI v.i++numI (v.t.length:Int)) (by rw [<-kn];omega)
  rw [<-kn] at e3;have e4:=xAU (v::t) hr h hk t.length 1 (by rw [zF];omega)
  have tk:keyOf ((v::t).take 1)=keyV v:=by simp [keyOf]
  rw [tk,zF] at e4;have e4:Iter (xdj ((v::t).map encV) ((t.length+1:Nat):Int)) ((1:Int),(keyV v).length,byteAVs (keyV v))=_:=e4;have hne:(keyOf (v::t)).length≠0:=fun e=>xq4 v (keyOf t) (by rw [<-xjy];exact List.length_eq_zero_iff.1 e)
  unfold xiZ xlZ xfb xk6 xk7 xk8 xig xk9 xla xlb xc6;simp only [za,zF,i1,i2,gf,cV0,cV1,cV2,lV,sV,r1,r2,e0,e1,e2,e3,e4,zn,xaj,Bool.and_self,beq_self_eq_true,zk,zh,xfS,xoj,xp1,ne_eq,hne,not_false_eq_true,sUF]
abbrev Grp:=Row×List Per
def encG (g:Grp):AV:=.agg [.list 3 (g.1.map encV),.list 2 (g.2.map encP)]
def okEG (x:AV):Bool:=x.cells.length==(2:Nat)&&xIb [Sh.list (3:Nat),Sh.list (2:Nat)] x.cells (0:Nat)
def ldEG (x:AV):AV:=AV.agg [AV.list (3:Nat) (x.cells.getD (0:Nat) AV.top).toList,AV.list (2:Nat) (x.cells.getD (1:Nat) AV.top).toList]
def xHC (x y:AV):Bool:=(xdk (x.cells.getD 0 AV.top).toList (x.cells.getD 1 AV.top).toList (y.cells.getD 0 AV.top).toList (y.cells.getD 1 AV.top).toList).isSome
def xHD (x y:AV):Int:=(xdk (x.cells.getD 0 AV.top).toList (x.cells.getD 1 AV.top).toList (y.cells.getD 0 AV.top).toList (y.cells.getD 1 AV.top).toList).getD 0
theorem heG (a:Grp):okEG (encG a)=true:=rfl
theorem hdG (a:Grp):ldEG (encG a)=encG a:=rfl
section
variable {N : Nat} (hN : N <= 2 ^ 60) {ok : Grp -> Prop} {c : Grp -> Grp -> Int} (hc : ∀ x y, ok x -> ok y -> xHC (encG x) (encG y) = true /\ xHD (encG x) (encG y) = c x y)
include hN
theorem xCY (a b n:Nat) (l r:List Grp) (ha:a<=2 ^ 60) (hb:b<=2 ^ 60) (hn:n<=2 ^ 60) (hl:LOk N ok l) (hr:swr a b n l=some r):xbl N a b n (List.map encG l)=some (List.map encG r)/\LOk N ok r:=by
 obtain ⟨e1,e2⟩:=xDX (okE:=okEG) (ldE:=ldEG) heG hdG hN a b n ha hb hn (g:=xcr N a b n) (fun i xs=>rfl) hl hr
 refine ⟨?_,e2⟩;unfold xbl xeW;rw [e1];rfl
theorem xGJ (a m b:Nat) (l r:List Grp) (h1:a<=m) (h2:m<=b) (h3:b<=N) (hl:LOk N ok l) (hr:rot a m b l=some r):xb5 N a m b (List.map encG l)=some (List.map encG r)/\LOk N ok r:=by
 unfold rot at hr;cases hi:Iter (xHg m) (m - a,b - m,l) with
 | none=>rw [hi] at hr;simp at hr
 | some p =>
  obtain ⟨i,l'⟩:=p;rw [hi] at hr;obtain ⟨e1,e2,e3⟩:=xDW (enc:=encG) hN (ok:=ok) (SW:=fun a b n xs=>xbl N a b n xs) (fun a b n l r ha hb hn hl hr=>xCY hN a b n l r ha hb hn hl hr) m (by omega) (g:=xek N m) (fun i j xs=>rfl) (by omega) (by omega) hl hi
  obtain ⟨e4,e5⟩:=xCY hN (m - i) m i l' r (by omega) (by omega) (by omega) e3 hr
  refine ⟨?_,e5⟩;simp only [xb5,xf3,xfG,xcQ,w64 (x:=(m:Int) - (a:Int)) (n:=m - a) (by omega) (by omega),w64 (x:=(b:Int) - (m:Int)) (n:=b - m) (by omega) (by omega),e1,zh,zk,xaj,w64 (x:=(m:Int) - (i:Int)) (n:=m - i) (by omega) (by omega),e4,sUF]
include hc
theorem xCV (a b:Nat) (ha:a<=N) (hb:b<=N) {l r:List Grp} (hl:LOk N ok l) (hr:xHy c a b l=some r):xbD N a b (List.map encG l)=some (List.map encG r)/\LOk N ok r:=by
 obtain ⟨e1,e2⟩:=xCC (enc:=encG) hN (c:=c) (ok:=ok) a b hb (gi:=fun i=>xbV N a b i) (fun i l r hl hr=>xDV (okE:=okEG) (ldE:=ldEG) heG hdG hN (P:=xHC) (V:=xHD) hc a (fun j xs=>rfl) hl hr) (g:=xbU N a b) (fun i xs=>rfl) hl hr
 refine ⟨?_,e2⟩;unfold xbD xea;rw [w64 (x:=(a:Int)+1) (n:=a+1) (by omega) (by omega),e1];rfl
theorem xCZ:∀ (f a m b:Nat) (l r:List Grp),a<m->m<b->b<=N->LOk N ok l->symM c f a m b l=some r->xaV f N a m b (List.map encG l)=some (List.map encG r)/\LOk N ok r:=by
 intro f;induction f with
 | zero=>intro a m b l r _ _ _ _ hr;simp [symM] at hr
 | succ f ih =>
  intro a m b l r ag af hb hl hr;unfold symM at hr;show xaw (xaV f) N a m b (List.map encG l)=some (List.map encG r)/\LOk N ok r;have J:IntKind.i64.wrap ((m:Int) - (a:Int))=((m - a:Nat):Int):=w64 (by omega) (by omega)
  have O:IntKind.i64.wrap ((b:Int) - (m:Int))=((b - m:Nat):Int):=w64 (by omega) (by omega)
  by_cases h1:m - a=1
  . rw [if_pos h1] at hr;cases hi:Iter (xHf fun h=>(get2 c l h a).map fun r=>decide (r<0)) (m,b) with
    | none=>rw [hi] at hr;simp at hr
    | some i =>
     rw [hi] at hr;obtain ⟨e0,b1,b2⟩:=xv4 (okE:=okEG) heG hN (P:=xHC) (V:=xHD) hc (fun h=>h) (fun _=>a) (fun h=>h) (fun _=>(a:Int)) m b (by omega) (fun _ _ _=>rfl) (fun _ _ _=>rfl) (fun r=>decide (r<0)) (g:=xbL N a) (fun i j xs=>rfl) hl (zd _) (zd _) (by omega) hi
     obtain ⟨e1,e2⟩:=xFM (okE:=okEG) (ldE:=ldEG) heG hdG hN (ok:=ok) (i - 1) i (by omega) (by omega) (g:=xdN N i) (fun k xs=>rfl) hl hr
     refine ⟨?_,e2⟩;simp only [xaw,xaG,xao,xap,xaq,xar,xas,xat,xak,xal,xad,xam,xan,xae,xab,xac,xaf,xag,xay,xaz,xaA,xaa,xaB,xaC,xaD,xau,xav,xaE,xaF,xah,xai,J,h1,e0,zh,zk,xaj,e1,Int.natCast_one,beq_self_eq_true,sUF]
  . rw [if_neg h1] at hr;have d1:(((m - a:Nat):Int)==1)=false:=by simp;omega
    by_cases h2:b - m=1
    . rw [if_pos h2] at hr;cases hi:Iter (xHf fun h=>(get2 c l m h).map fun r=>!decide (r<0)) (a,m) with
      | none=>rw [hi] at hr;simp at hr
      | some i =>
       rw [hi] at hr;obtain ⟨e0,b1,b2⟩:=xv4 (okE:=okEG) heG hN (P:=xHC) (V:=xHD) hc (fun _=>m) (fun h=>h) (fun _=>(m:Int)) (fun h=>h) a m (by omega) (fun _ _ _=>rfl) (fun _ _ _=>rfl) (fun r=>!decide (r<0)) (g:=xbM N m) (fun i j xs=>rfl) hl (zd _) (zd _) (by omega) hi
       obtain ⟨e1,e2⟩:=xCB (okE:=okEG) (ldE:=ldEG) heG hdG hN (ok:=ok) i (g:=xdO N i) (fun k xs=>rfl) hl hr
       refine ⟨?_,e2⟩;simp only [xaw,xaG,xao,xap,xaq,xar,xas,xat,xak,xal,xad,xam,xan,xae,xab,xac,xaf,xag,xay,xaz,xaA,xaa,xaB,xaC,xaD,xau,xav,xaE,xaF,xah,xai,J,O,d1,h2,e0,zh,zk,xaj,xaH,e1,Int.natCast_one,beq_self_eq_true,sUF]
    . rw [if_neg h2] at hr;have d2:(((b - m:Nat):Int)==1)=false:=by simp;omega
      have hh:IntKind.i64.wrap ((IntKind.u64.wrap (IntKind.i64.wrap ((a:Int)+(b:Int)))).fdiv 2)=(((a+b) / 2:Nat):Int):=xHM (by omega)
      obtain ⟨q,ad⟩:∃ q,q=(a+b) / 2:=⟨_,rfl⟩;rw [<-ad] at hr hh;have w2:IntKind.i64.wrap ((q:Int)+(m:Int))=((q+m:Nat):Int):=w64 (by omega) (by omega)
      have w3:IntKind.i64.wrap (((q+m:Nat):Int) - 1)=((q+m - 1:Nat):Int):=w64 (by omega) (by omega)
      obtain ⟨lo,hi,ac,g1,g2,g3,g4,ae⟩:∃ lo hi,(if q<m then (q+m - b,q) else (a,m))=(lo,hi)/\a<=lo/\lo<=hi/\hi<=m/\hi<=q/\((q<m/\lo=q+m - b/\hi=q)\/(¬ q<m/\lo=a/\hi=m)):=by
       by_cases h:q<m
       . exact ⟨_,_,if_pos h,by omega,by omega,by omega,by omega,.inl ⟨h,rfl,rfl⟩⟩
       . exact ⟨_,_,if_neg h,by omega,by omega,by omega,by omega,.inr ⟨h,rfl,rfl⟩⟩
      rw [ac] at hr;cases hs:Iter (xHf fun h=>(get2 c l (q+m - 1 - h) h).map fun r=>!decide (r<0)) (lo,hi) with
      | none=>rw [hs] at hr;simp at hr
      | some s =>
       rw [hs] at hr;dsimp only at hr;obtain ⟨e0,b1,b2⟩:=xv4 (okE:=okEG) heG hN (P:=xHC) (V:=xHD) hc (fun h=>q+m - 1 - h) (fun h=>h) (fun h=>IntKind.i64.wrap (((q+m - 1:Nat):Int) - h)) (fun h=>h) lo hi (by omega) (fun h _ _=>w64 (by omega) (by omega)) (fun _ _ _=>rfl) (fun r=>!decide (r<0)) (g:=xcD N a m b q ((q+m:Nat):Int) ((q+m - 1:Nat):Int)) (fun i j xs=>rfl) hl (zd _) (zd _) g2 hs
       have w5:IntKind.i64.wrap (((q+m:Nat):Int) - (s:Int))=((q+m - s:Nat):Int):=w64 (by omega) (by omega)
       obtain ⟨e,he⟩:∃ e,e=q+m - s:=⟨_,rfl⟩;rw [<-he] at hr w5;cases Q:(if s<m/\m<e then rot s m e l else some l) with
       | none=>rw [Q] at hr;simp at hr
       | some l1 =>
        rw [Q] at hr;dsimp only at hr;have k1:(s<m/\m<e/\xb5 N s m e (List.map encG l)=some (List.map encG l1)/\LOk N ok l1)\/(¬ (s<m/\m<e)/\l1=l):=by
         by_cases h:s<m/\m<e
         . rw [if_pos h] at Q;obtain ⟨x1,x2⟩:=xGJ hN s m e l l1 (by omega) (by omega) (by omega) hl Q
           exact .inl ⟨h.1,h.2,x1,x2⟩
         . rw [if_neg h] at Q;simp only [z6] at Q;exact .inr ⟨h,Q.symm⟩
        have ab:LOk N ok l1:=by
         rcases k1 with k|k
         . exact k.2.2.2
         . rw [k.2];exact hl
        cases W:(if a<s/\s<q then symM c f a s q l1 else some l1) with
        | none=>rw [W] at hr;simp at hr
        | some l2 =>
         rw [W] at hr;dsimp only at hr;have k2:(a<s/\s<q/\xaV f N a s q (List.map encG l1)=some (List.map encG l2)/\LOk N ok l2)\/(¬ (a<s/\s<q)/\l2=l1):=by
          by_cases h:a<s/\s<q
          . rw [if_pos h] at W;obtain ⟨x1,x2⟩:=ih a s q l1 l2 h.1 h.2 (by omega) ab W
            exact .inl ⟨h.1,h.2,x1,x2⟩
          . rw [if_neg h] at W;simp only [z6] at W;exact .inr ⟨h,W.symm⟩
         have Z:LOk N ok l2:=by
          rcases k2 with k|k
          . exact k.2.2.2
          . rw [k.2];exact ab
         have k3:(q<e/\e<b/\xaV f N q e b (List.map encG l2)=some (List.map encG r)/\LOk N ok r)\/(¬ (q<e/\e<b)/\r=l2):=by
          by_cases h:q<e/\e<b
          . rw [if_pos h] at hr;obtain ⟨x1,x2⟩:=ih q e b l2 r h.1 h.2 hb Z hr;exact .inl ⟨h.1,h.2,x1,x2⟩
          . rw [if_neg h] at hr;simp only [z6] at hr;exact .inr ⟨h,hr.symm⟩
         refine ⟨?_,?_⟩
         . clear ih hc hl ab Z hr W Q hs ac;rcases ae with ⟨hm,Y,aa⟩|⟨hm,Y,aa⟩
           . rw [Y,aa] at e0;have w4:IntKind.i64.wrap (((q+m:Nat):Int) - (b:Int))=((q+m - b:Nat):Int):=w64 (by omega) (by omega)
             have dm:decide ((m:Int)>(q:Int))=true:=by simp [hm]
             rcases k1 with ⟨p1,p2,p3,_⟩|⟨p1,rfl⟩<;>rcases k2 with ⟨qe1,q2,q3,_⟩|⟨qe1,rfl⟩<;>rcases k3 with ⟨r1,r2,r3,_⟩|⟨r1,rfl⟩ <;>
              (by_cases t1:s<m<;>by_cases t2:m<e<;>by_cases t3:a<s<;>by_cases t4:s<q<;>by_cases t5:q<e<;>by_cases t6:e<b<;>first|(exfalso;omega) |
               (simp only [xaw,xaG,xao,xap,xaq,xar,xas,xat,xak,xal,xad,xam,xan,xae,xab,xac,xaf,xag,xay,xaz,xaA,xaa,xaB,xaC,xaD,xau,xav,xaE,xaF,xah,xai,J,O,d1,d2,hh,w2,w3,w4,dm,e0,w5,zh,zk,xaj,xaH,Int.ofNat_lt,t1,t2,t3,t4,t5,t6,zn,zm,hm,p3,q3,r3,sUF]) |
               (simp only [xaw,xaG,xao,xap,xaq,xar,xas,xat,xak,xal,xad,xam,xan,xae,xab,xac,xaf,xag,xay,xaz,xaA,xaa,xaB,xaC,xaD,xau,xav,xaE,xaF,xah,xai,J,O,d1,d2,hh,w2,w3,w4,dm,e0,w5,zh,zk,xaj,xaH,Int.ofNat_lt,t1,t2,t3,t4,t5,t6,zn,zm,hm,p3,q3,sUF]) |
               (simp only [xaw,xaG,xao,xap,xaq,xar,xas,xat,xak,xal,xad,xam,xan,xae,xab,xac,xaf,xag,xay,xaz,xaA,xaa,xaB,xaC,xaD,xau,xav,xaE,xaF,xah,xai,J,O,d1,d2,hh,w2,w3,w4,dm,e0,w5,zh,zk,xaj,xaH,Int.ofNat_lt,t1,t2,t3,t4,t5,t6,zn,zm,hm,p3,r3,sUF]) |
               (simp only [xaw,xaG,xao,xap,xaq,xar,xas,xat,xak,xal,xad,xam,xan,xae,xab,xac,xaf,xag,xay,xaz,xaA,xaa,xaB,xaC,xaD,xau,xav,xaE,xaF,xah,xai,J,O,d1,d2,hh,w2,w3,w4,dm,e0,w5,zh,zk,xaj,xaH,Int.ofNat_lt,t1,t2,t3,t4,t5,t6,zn,zm,hm,q3,r3,sUF]) |
               (simp only [xaw,xaG,xao,xap,xaq,xar,xas,xat,xak,xal,xad,xam,xan,xae,xab,xac,xaf,xag,xay,xaz,xaA,xaa,xaB,xaC,xaD,xau,xav,xaE,xaF,xah,xai,J,O,d1,d2,hh,w2,w3,w4,dm,e0,w5,zh,zk,xaj,xaH,Int.ofNat_lt,t1,t2,t3,t4,t5,t6,zn,zm,hm,p3,sUF]) |
               (simp only [xaw,xaG,xao,xap,xaq,xar,xas,xat,xak,xal,xad,xam,xan,xae,xab,xac,xaf,xag,xay,xaz,xaA,xaa,xaB,xaC,xaD,xau,xav,xaE,xaF,xah,xai,J,O,d1,d2,hh,w2,w3,w4,dm,e0,w5,zh,zk,xaj,xaH,Int.ofNat_lt,t1,t2,t3,t4,t5,t6,zn,zm,hm,q3,sUF]) |
               (simp only [xaw,xaG,xao,xap,xaq,xar,xas,xat,xak,xal,xad,xam,xan,xae,xab,xac,xaf,xag,xay,xaz,xaA,xaa,xaB,xaC,xaD,xau,xav,xaE,xaF,xah,xai,J,O,d1,d2,hh,w2,w3,w4,dm,e0,w5,zh,zk,xaj,xaH,Int.ofNat_lt,t1,t2,t3,t4,t5,t6,zn,zm,hm,r3,sUF]) |
               (simp only [xaw,xaG,xao,xap,xaq,xar,xas,xat,xak,xal,xad,xam,xan,xae,xab,xac,xaf,xag,xay,xaz,xaA,xaa,xaB,xaC,xaD,xau,xav,xaE,xaF,xah,xai,J,O,d1,d2,hh,w2,w3,w4,dm,e0,w5,zh,zk,xaj,xaH,Int.ofNat_lt,t1,t2,t3,t4,t5,t6,zn,zm,hm,sUF]))
           . rw [Y,aa] at e0;have dm:decide ((m:Int)>(q:Int))=false:=by simp;omega
             rcases k1 with ⟨p1,p2,p3,_⟩|⟨p1,rfl⟩<;>rcases k2 with ⟨qe1,q2,q3,_⟩|⟨qe1,rfl⟩<;>rcases k3 with ⟨r1,r2,r3,_⟩|⟨r1,rfl⟩ <;>
              (by_cases t1:s<m<;>by_cases t2:m<e<;>by_cases t3:a<s<;>by_cases t4:s<q<;>by_cases t5:q<e<;>by_cases t6:e<b<;>first|(exfalso;omega) |
               (simp only [xaw,xaG,xao,xap,xaq,xar,xas,xat,xak,xal,xad,xam,xan,xae,xab,xac,xaf,xag,xay,xaz,xaA,xaa,xaB,xaC,xaD,xau,xav,xaE,xaF,xah,xai,J,O,d1,d2,hh,w2,w3,dm,e0,w5,zh,zk,xaj,xaH,Int.ofNat_lt,t1,t2,t3,t4,t5,t6,zn,zm,hm,p3,q3,r3,sUF]) |
               (simp only [xaw,xaG,xao,xap,xaq,xar,xas,xat,xak,xal,xad,xam,xan,xae,xab,xac,xaf,xag,xay,xaz,xaA,xaa,xaB,xaC,xaD,xau,xav,xaE,xaF,xah,xai,J,O,d1,d2,hh,w2,w3,dm,e0,w5,zh,zk,xaj,xaH,Int.ofNat_lt,t1,t2,t3,t4,t5,t6,zn,zm,hm,p3,q3,sUF]) |
               (simp only [xaw,xaG,xao,xap,xaq,xar,xas,xat,xak,xal,xad,xam,xan,xae,xab,xac,xaf,xag,xay,xaz,xaA,xaa,xaB,xaC,xaD,xau,xav,xaE,xaF,xah,xai,J,O,d1,d2,hh,w2,w3,dm,e0,w5,zh,zk,xaj,xaH,Int.ofNat_lt,t1,t2,t3,t4,t5,t6,zn,zm,hm,p3,r3,sUF]) |
               (simp only [xaw,xaG,xao,xap,xaq,xar,xas,xat,xak,xal,xad,xam,xan,xae,xab,xac,xaf,xag,xay,xaz,xaA,xaa,xaB,xaC,xaD,xau,xav,xaE,xaF,xah,xai,J,O,d1,d2,hh,w2,w3,dm,e0,w5,zh,zk,xaj,xaH,Int.ofNat_lt,t1,t2,t3,t4,t5,t6,zn,zm,hm,q3,r3,sUF]) |
               (simp only [xaw,xaG,xao,xap,xaq,xar,xas,xat,xak,xal,xad,xam,xan,xae,xab,xac,xaf,xag,xay,xaz,xaA,xaa,xaB,xaC,xaD,xau,xav,xaE,xaF,xah,xai,J,O,d1,d2,hh,w2,w3,dm,e0,w5,zh,zk,xaj,xaH,Int.ofNat_lt,t1,t2,t3,t4,t5,t6,zn,zm,hm,p3,sUF]) |
               (simp only [xaw,xaG,xao,xap,xaq,xar,xas,xat,xak,xal,xad,xam,xan,xae,xab,xac,xaf,xag,xay,xaz,xaA,xaa,xaB,xaC,xaD,xau,xav,xaE,xaF,xah,xai,J,O,d1,d2,hh,w2,w3,dm,e0,w5,zh,zk,xaj,xaH,Int.ofNat_lt,t1,t2,t3,t4,t5,t6,zn,zm,hm,q3,sUF]) |
               (simp only [xaw,xaG,xao,xap,xaq,xar,xas,xat,xak,xal,xad,xam,xan,xae,xab,xac,xaf,xag,xay,xaz,xaA,xaa,xaB,xaC,xaD,xau,xav,xaE,xaF,xah,xai,J,O,d1,d2,hh,w2,w3,dm,e0,w5,zh,zk,xaj,xaH,Int.ofNat_lt,t1,t2,t3,t4,t5,t6,zn,zm,hm,r3,sUF]) |
               (simp only [xaw,xaG,xao,xap,xaq,xar,xas,xat,xak,xal,xad,xam,xan,xae,xab,xac,xaf,xag,xay,xaz,xaA,xaa,xaB,xaC,xaD,xau,xav,xaE,xaF,xah,xai,J,O,d1,d2,hh,w2,w3,dm,e0,w5,zh,zk,xaj,xaH,Int.ofNat_lt,t1,t2,t3,t4,t5,t6,zn,zm,hm,sUF]))
         . rcases k3 with k|k
           . exact k.2.2.2
           . rw [k.2];exact Z
theorem xCF {l r:List Grp} (hl:LOk N ok l) (hr:xHG c 1000 N l=some r):xeT N N (List.map encG l)=some (List.map encG r)/\LOk N ok r:=by
 unfold xHG at hr;cases h1:Iter (xHz c N) (0,20,l) with
 | none=>rw [h1] at hr;simp at hr
 | some p =>
  obtain ⟨a,l1⟩:=p;rw [h1] at hr;dsimp only at hr;obtain ⟨e1,ha,_,W⟩:=xv5 (enc:=encG) hN (ok:=ok) 20 (by omega) (p:=xHz c N) (F:=fun a b l=>xHy c a b l) (fun a b l l' h e=>by simp only [xHz,h,if_true,e]) (fun a b l h e=>by simp only [xHz,h,if_true,e]) (fun a b l h=>by simp only [xHz,h,if_false]) (G:=fun a b xs=>xbD N a b xs) (fun a b l r O _ hb hl hr=>xCV hN hc a b (by omega) hb hl hr) (g:=xb3 N N 20) (fun a b xs=>rfl) (a:=0) hl h1 (by omega)
  cases h2:xHy c a N l1 with
  | none=>rw [h2] at hr;simp at hr
  | some l2 =>
   rw [h2] at hr;dsimp only at hr;obtain ⟨e2,Q⟩:=xCV hN hc a N ha (zd _) W h2;have e3:Iter (xbf N N) (((20:Nat):Int),List.map encG l2)=some (List.map encG r)/\LOk N ok r:=by
    refine xgr (I:=fun s=>1<=s.1/\LOk N ok s.2) (J:=LOk N ok) (e:=fun (s:Nat×List Grp)=>((s.1:Int),List.map encG s.2)) (f:=List.map encG) ?_ (s:=(20,l2)) ⟨by omega,Q⟩ hr
    rintro ⟨bs,l⟩ ⟨hb,hl⟩;dsimp only at hb hl;by_cases h:bs<N
    . have wb:IntKind.i64.wrap (2*(bs:Int))=((2*bs:Nat):Int):=w64 (by omega) (by omega)
      have wb':IntKind.i64.wrap ((bs:Int)*2)=((bs*2:Nat):Int):=w64 (by omega) (by omega)
      cases h3:Iter (xHn c 1000 bs N) (0,2*bs,l) with
      | none=>exact xeo (by simp [xHv,h,h3])
      | some p =>
       obtain ⟨a,l3⟩:=p;obtain ⟨f1,f2,f3,f4⟩:=xv5 (enc:=encG) hN (ok:=ok) (2*bs) (by omega) (p:=xHn c 1000 bs N) (F:=fun a b l=>symM c 1000 a (a+bs) b l) (fun a b l l' h e=>by simp only [xHn,h,if_true,e]) (fun a b l h e=>by simp only [xHn,h,if_true,e]) (fun a b l h=>by simp only [xHn,h,if_false]) (G:=fun a b xs=>xaV 1000 N a (IntKind.i64.wrap (a+(bs:Int))) b xs) (fun a b l r O Y V hl hr=>by
        have:=xCZ hN hc 1000 a (a+bs) b l r (by omega) (by omega) V hl hr
        rw [w64 (x:=(a:Int)+(bs:Int)) (n:=a+bs) (by omega) (by omega)]
        exact this) (g:=xcR N N bs) (fun a b xs=>by rw [<-wb];rfl) (a:=0) hl (by rw [zH];exact h3) (by omega)
       rw [zH,<-wb] at f1;have f1':Iter (xcR N N bs) ((0:Int),IntKind.i64.wrap (2*(bs:Int)),List.map encG l)=some ((a:Int),List.map encG l3):=f1;have q:IntKind.i64.wrap ((a:Int)+(bs:Int))=((a+bs:Nat):Int):=w64 (by omega) (by omega)
       by_cases h4:a+bs<N
       . cases h5:symM c 1000 a (a+bs) N l3 with
         | none=>exact xeo (by simp [xHv,h,h3,h4,h5])
         | some l4 =>
          obtain ⟨f5,f6⟩:=xCZ hN hc 1000 a (a+bs) N l3 l4 (by omega) h4 (zd _) f4 h5
          refine xkh (s0:=(bs*2,l4)) (by simp [xHv,h,h3,h4,h5]) ?_ ⟨by dsimp only;omega,f6⟩
          have qe1:(bs:Int)<(N:Int):=by omega
          have q2:((a+bs:Nat):Int)<(N:Int):=by omega
          simp only [xbf,xct,xds,xdt,xbI,xdu,f1',qe1,q2,zn,xaj,zk,zh,q,f5,wb',sUF]
       . refine xkh (s0:=(bs*2,l3)) (by simp [xHv,h,h3,h4]) ?_ ⟨by dsimp only;omega,f4⟩
         have qe1:(bs:Int)<(N:Int):=by omega
         have q2:¬ ((a+bs:Nat):Int)<(N:Int):=by omega
         simp only [xbf,xct,xds,xdt,xbI,xdu,f1',qe1,q2,zn,zm,xaj,xaH,zk,zh,q,wb',sUF]
    . refine xj8 (r0:=l) (by simp [xHv,h]) ?_ hl
      have qe1:¬ (bs:Int)<(N:Int):=by omega
      simp only [xbf,xct,qe1,zm,xaH,sUF]
   have e1':Iter (xb3 N N 20) ((0:Int),(20:Int),List.map encG l)=some ((a:Int),List.map encG l1):=e1;have e3':Iter (xbf N N) ((20:Int),List.map encG l2)=some (List.map encG r):=e3.1;refine ⟨?_,e3.2⟩;simp only [xeT,xf4,xfH,xfI,xfJ,e1',e2,e3',zk,zh,xaj,sUF]
end
theorem xGK {N:Nat} (hN:N*48<=140737488355328) {ok:Grp->Prop} {c:Grp->Grp->Int} (hc:∀ x y:Grp,ok x->ok y->xHC (encG x) (encG y)=true/\xHD (encG x) (encG y)=c x y) (l r:List Grp) (hl:l.length=N) (ho:∀ x,x∈l->ok x) (hr:xHG c 1000 N l=some r) :
  xgh N (List.map encG l)=some (List.map encG r):=by
 obtain ⟨e1,e2⟩:=xCF (N:=N) (by omega) (ok:=ok) hc ⟨hl,ho⟩ hr
 simp only [xgh,xfF,e1,zk,zh,xaj,sUF]
def ents:Nat->List Row->List AV
 | _,[]=>[]
 | k,r::R=>.agg [.str (keyOf r),.int .i64 (k:Int)]::ents (k+1) R
def xyb:∀ (R:List Row) (k:Nat) (r:Row),mapIx (ents k R) (keyOf r)=R.findIdx? fun x=>decide (x=r)
 | [],_,_=>rfl
 | x::R,k,r=>by
  have hk:isKey (keyOf r) (((AV.agg [.str (keyOf x),.int .i64 (k:Int)]).cells).getD 0 .top)=decide (x=r):=by
   show (keyOf x==keyOf r)=_;by_cases h:x=r
   . subst h;simp
   . have:¬ keyOf x=keyOf r:=fun e=>h (xo0 e)
     simp [h,this]
  show (match isKey (keyOf r) (((AV.agg [.str (keyOf x),.int .i64 (k:Int)]).cells).getD 0 .top) with|true=>some 0|false=>(mapIx (ents (k+1) R) (keyOf r)).map (·+1))=_
  rw [hk,List.findIdx?_cons,xyb R (k+1) r];by_cases h:x=r<;>simp [h]
def xvq:∀ (R:List Row) (k:Nat),(ents k R).length=R.length
 | [],_=>rfl
 | _::R,k=>by show (ents (k+1) R).length+1=_;rw [xvq R];rfl
def xtX:∀ (R:List Row) (k:Nat) (r:Row),ents k (R++[r])=ents k R++[.agg [.str (keyOf r),.int .i64 ((k+R.length:Nat):Int)]]
 | [],_,_=>rfl
 | x::R,k,r=>by
  show _::ents (k+1) (R++[r])=_;rw [xtX R (k+1) r,zF,show k+1+R.length=k+(R.length+1) by omega];rfl
def xvp:∀ (R:List Row) (k j:Nat) (h:j<R.length),(ents k R).getD j .top=.agg [.str (keyOf R[j]),.int .i64 ((k+j:Nat):Int)]
 | x::R,k,0,h=>rfl
 | x::R,k,j+1,h=>by
  show (ents (k+1) R).getD j .top=_;rw [xvp R (k+1) j (by simpa using h),show k+1+j=k+(j+1) by omega];rfl
def upd (G:List Grp) (f:Fc):List Grp:=match (G.map (·.1)).findIdx? fun x=>decide (x=f.r) with
 | some j=>G.set j (f.r,(G.getD j ([],[])).2++[f.p])
 | none=>G++[(f.r,[f.p])]
structure GI (l:List Fc) (G:List Grp):Prop where
 nd:(G.map (·.1)).Nodup
 mem:∀ r,r∈G.map (·.1)↔∃ f,f∈l/\f.r=r/\pv f.p=true
 ps:∀ g,g∈G->g.2=psOf l g.1
 len:G.length<=l.length
def GI.nil:GI [] []:=⟨List.nodup_nil,fun r=>by simp,fun g hg=>by simp at hg,zd _⟩
def xo4 (l:List Fc) (f:Fc) (r:Row):psOf (l++[f]) r=psOf l r++(if f.r=r/\pv f.p=true then [f.p] else []):=by
 unfold psOf;rw [List.filter_append,zx];congr 1;by_cases h1:f.r=r<;>by_cases h2:pv f.p=true<;>simp [h1,h2]
def GI.skip {l:List Fc} {G:List Grp} (h:GI l G) {f:Fc} (hf:pv f.p=false):GI (l++[f]) G :=
 ⟨h.nd,fun r=>by
  rw [h.mem];refine ⟨fun ⟨g,hg,e⟩=>⟨g,by simp [hg],e⟩,fun ⟨g,hg,e1,e2⟩=>⟨g,?_,e1,e2⟩⟩
  rcases zG.1 hg with hg|hg
  . exact hg
  . rw [zv] at hg;subst hg;rw [hf] at e2;simp at e2,fun g hg=>by rw [xo4,if_neg (by rw [hf];simp),zD];exact h.ps g hg,by rw [z8];have:=h.len;omega⟩
def xqo {R:List Row} {r:Row} {j:Nat} (h:R.findIdx? (fun x=>decide (x=r))=some j):∃ hj:j<R.length,R[j]=r:=by
 obtain ⟨hj,h1,_⟩:=List.findIdx?_eq_some_iff_getElem.1 h;exact ⟨hj,by simpa using h1⟩
def xvt {R:List Row} {r:Row} (h:R.findIdx? (fun x=>decide (x=r))=none):r∉R:=fun hr=>by
 have:=List.findIdx?_eq_none_iff.1 h r hr;simp at this
def xtI {G:List Grp} {j:Nat} (hj:j<G.length) {ps:List Per} {r:Row} (hr:G[j].1=r):(G.set j (r,ps)).map (·.1)=G.map (·.1):=by
 rw [List.map_set];show (G.map (·.1)).set j r=_;rw [<-hr];have:(G.map (·.1))[j]'(by simpa using hj)=G[j].1:=by simp
 rw [<-this];exact List.set_getElem_self _
def GI.upd {l:List Fc} {G:List Grp} (h:GI l G) {f:Fc} (hf:pv f.p=true):GI (l++[f]) (M.upd G f):=by
 unfold M.upd;cases hi:(G.map (·.1)).findIdx? fun x=>decide (x=f.r) with
 | some j =>
  obtain ⟨hj,hr⟩:=xqo hi;rw [za] at hj;rw [List.getElem_map] at hr;dsimp only;have gd:G.getD j ([],[])=G[j]:=by rw [z7,ze hj];rfl
  rw [gd];refine ⟨by rw [xtI hj hr];exact h.nd,fun r=>?_,fun g hg=>?_,by rw [y4,z8];have:=h.len;omega⟩
  . rw [xtI hj hr,h.mem];refine ⟨fun ⟨g,hg,e⟩=>⟨g,by simp [hg],e⟩,fun ⟨g,hg,e1,e2⟩=>?_⟩
    rcases zG.1 hg with hg|hg
    . exact ⟨g,hg,e1,e2⟩
    . rw [zv] at hg;subst hg;refine (h.mem r).1 ?_;rw [<-e1,<-hr];exact zK.2 ⟨G[j],zo hj,rfl⟩
  . obtain ⟨i,q,rfl⟩:=zp.1 hg;rw [y4] at q;rw [List.getElem_set];by_cases O:j=i
    . subst O;rw [if_pos rfl,xo4,if_pos ⟨rfl,hf⟩,h.ps _ (zo hj),hr]
    . rw [if_neg O,xo4,if_neg ?_,zD]
      . exact h.ps _ (zo q)
      . rintro ⟨e,_⟩;have hn:=zB.1 h.nd;have ei:(G.map (·.1))[i]'(by simpa using q)=G[i].1:=by simp
        have ej:(G.map (·.1))[j]'(by simpa using hj)=G[j].1:=by simp
        rcases Nat.lt_or_gt_of_ne O with J|J
        . exact hn j i (by simpa using hj) (by simpa using q) J (by rw [ei,ej,hr,e])
        . exact hn i j (by simpa using q) (by simpa using hj) J (by rw [ei,ej,hr,e])
 | none =>
  have hr:=xvt hi;dsimp only;have hz:psOf l f.r=[]:=by
   unfold psOf;rw [List.map_eq_nil_iff,List.filter_eq_nil_iff];intro g hg he;simp only [zf,zl] at he;exact hr ((h.mem _).2 ⟨g,hg,he⟩)
  refine ⟨?_,fun r=>?_,fun g hg=>?_,by rw [z8,z8];have:=h.len;simp;omega⟩
  . rw [zx];refine List.nodup_append.2 ⟨h.nd,by simp,fun a ha b hb e=>?_⟩
    simp at hb;exact hr (by rw [<-hb,<-e];exact ha)
  . rw [zx,zG,h.mem];simp only [zV,zW,zv,zG];constructor
    . rintro (⟨g,hg,e⟩|rfl)
      . exact ⟨g,.inl hg,e⟩
      . exact ⟨f,.inr rfl,rfl,hf⟩
    . rintro ⟨g,hg|rfl,e⟩
      . exact .inl ⟨g,hg,e⟩
      . exact .inr e.1.symm
  . rcases zG.1 hg with hg|hg
    . rw [xo4,if_neg ?_,zD]
      . exact h.ps g hg
      . rintro ⟨e,_⟩;exact hr (by rw [e];exact zK.2 ⟨g,hg,rfl⟩)
    . rw [zv] at hg;subst hg;rw [xo4,if_pos ⟨rfl,hf⟩,hz];rfl
def cG0 (g:Grp):((encG g).cells.getD 0 .top).toList=g.1.map encV:=rfl
def xAK {α:Type} (l:List α) (x d:α):(l++[x]).getD l.length d=x:=by simp
def xCA {α:Type} (l:List α) (x y:α):(l++[x]).set l.length y=l++[y]:=by simp
def xHQ (xs:List AV):(AV.agg xs).cells=xs:=rfl
def tolA (n:Nat) (xs:List AV):(AV.list n xs).toList=xs:=rfl
def xHS (k:IntKind) (n:Int):(AV.int k n).toInt=n:=rfl
def xHR (xs:List AV):xIM 2 (.list 2 xs)=true:=rfl
def xHV (n m:Nat):xI8 (.int .i64 (n:Int)) m=decide (n<m):=rfl
def xHU:xI8 (.int .i64 0) 1=true:=rfl
def g2a (a b:AV):[a,b].getD 0 .top=a:=rfl
def g2b (a b:AV):[a,b].getD 1 .top=b:=rfl
def lt2 (a b:AV):([a,b].length==2)=true:=rfl
def tk1 (a b:AV):List.take 1 [a,b]=[a]:=rfl
def dp2 (a b:AV):List.drop 2 [a,b]=[]:=rfl
def xw9 (g:Grp):encG g=.agg [.list 3 (g.1.map encV),.list 2 (g.2.map encP)]:=rfl
def xya (p:Per):encP p=.agg [.int .i64 p.1,.int .i64 p.2]:=rfl
def Keyed (l:List Fc):Prop:=Few l/\∀ f,f∈l->(∀ v,v∈f.r->KOk v)/\(keyOf f.r).length<=17592186044416
def Keyed.key {l:List Fc} (h:Keyed l) {f:Fc} (hf:f∈l):xiZ (f.r.map encV)=some (keyOf f.r):=xFv f.r (h.1.2 f hf) (h.2 f hf).1 (h.2 f hf).2
def xBj (l:List Fc) (h:Keyed l) (k:Nat) (hk:k<l.length) (G:List Grp) (hG:GI (l.take k) G) :
  xbR (l.map encF) ((l.length:Nat):Int) (G.length,(k:Int),ents 0 (G.map (·.1)),G.map encG) =
   some (.inl ((if pv l[k].p=true then upd G l[k] else G).length,((k+1:Nat):Int),ents 0 ((if pv l[k].p=true then upd G l[k] else G).map (·.1)),(if pv l[k].p=true then upd G l[k] else G).map encG)):=by
 have hl:=h.1.1;have i1:(k:Int)<(l.length:Int):=by omega
 have gf:(l.map encF).getD k .top=encF l[k]:=xaK _ _ _ hk;have ek:=h.key (zo hk);have kl:=(h.2 _ (zo hk)).2;have O:=hG.len;rw [zt] at O;cases hv:pv l[k].p with
 | false =>
  simp only [xbR,xdR,sBU,i1,hk,gf,cF0,cF1,cF2,sF0,sF1,sF2,lF,sF12,sF02,xkO,hv,xHc (n:=k) (by omega)]
  rfl
 | true =>
  have k1:(keyOf l[k].r).length<=4611686018427387904:=by omega
  have hx:=xyb (G.map (·.1)) 0 l[k].r;have n1:(ents 0 (G.map (·.1))).length<4611686018427387904:=by rw [xvq,za];omega
  have m1:(G.length+1)*48<=140737488355328:=by omega
  have m2:G.length+1<=4611686018427387904:=by omega
  simp only [if_true];cases hi:(G.map (·.1)).findIdx? fun x=>decide (x=l[k].r) with
  | none =>
   rw [hi] at hx;have hu:upd G l[k]=G++[(l[k].r,[l[k].p])]:=by unfold upd;rw [hi]
   have hh:xIB (ents 0 (G.map (·.1))) (keyOf l[k].r)=false:=by unfold xIB;rw [hx];rfl
   have hg:xIo (AV.int .i64 0) (ents 0 (G.map (·.1))) (keyOf l[k].r)=AV.int .i64 0:=by unfold xIo;rw [hx]
   have hp:xIm (ents 0 (G.map (·.1))) (keyOf l[k].r) (AV.int .i64 (G.length:Int))=ents 0 ((G++[(l[k].r,[l[k].p])]).map (·.1)):=by
    unfold xIm;rw [hx,zx];show _=ents 0 (G.map (·.1)++[l[k].r]);rw [xtX,za,zH]
   have i2:(G.length:Int)<((G.length+1:Nat):Int):=by omega
   have J:xH4 (Sh.int .i64) (AV.int .i64 0)=true:=rfl;have gl:∀ x:AV,(G.map encG++[x]).getD G.length .top=x:=fun x=>by have:=xAK (G.map encG) x .top;rwa [za] at this
   have sl:∀ x y:AV,(G.map encG++[x]).set G.length y=G.map encG++[y]:=fun x y=>by have:=xCA (G.map encG) x y;rwa [za] at this
   rw [hu];simp only [xbR,xdR,xf6,xdE,xdF,xeC,xf7,xeD,xa4,xf8,xa5,xbn,xaZ,xed,xfy,xfz,xbZ,xfA,xee,xcC,sBU,i1,hk,gf,cF0,cF1,cF2,sF0,sF1,sF2,lF,sF12,sF02,xkO,hv,xHc (n:=k) (by omega),ek,k1,hh,hg,hp,n1,m1,m2,i2,J,gl,sl,z8,zj,zx,zV,zW,xHQ,tolA,xHS,xHR,xHV,g2a,g2b,lt2,tk1,dp2,y4,Nat.lt_succ_self,Bool.and_self,List.length_nil,zH,xw9,xya,List.singleton_append,zU,zD,Int.natCast_zero]
   try simp [xaj,xHU,sUF]
  | some j =>
   obtain ⟨hj,hr⟩:=xqo hi;rw [hi] at hx;have q:j<G.length:=by simpa using hj
   rw [List.getElem_map] at hr;have gd:G.getD j ([],[])=G[j]:=by rw [z7,ze q];rfl
   have hu:upd G l[k]=G.set j (l[k].r,G[j].2++[l[k].p]):=by unfold upd;rw [hi];dsimp only;rw [gd]
   have hh:xIB (ents 0 (G.map (·.1))) (keyOf l[k].r)=true:=by unfold xIB;rw [hx];rfl
   have hg:xIo (AV.int .i64 0) (ents 0 (G.map (·.1))) (keyOf l[k].r)=AV.int .i64 (j:Int):=by
    unfold xIo;rw [hx];dsimp only;rw [xvp _ _ _ hj,zH];rfl
   have gj:(G.map encG).getD j .top=encG G[j]:=xaK _ _ _ q;have i2:(j:Int)<(G.length:Int):=by omega
   have J:xH4 (Sh.int .i64) (AV.int .i64 (j:Int))=true:=rfl;have pl:G[j].2.length<=k:=by
    rw [hG.ps _ (zo q)];have:=xvX (l.take k) G[j].1;rw [zt] at this;omega
   have m3:(G[j].2.length+1)*16<=140737488355328:=by omega
   have m4:G[j].2.length+1<=4611686018427387904:=by omega
   have gs:∀ x:AV,((G.map encG).set j x).getD j .top=x:=fun x=>by
    rw [z7,zL (by simpa using q)];rfl
   have ss:∀ x y:AV,((G.map encG).set j x).set j y=(G.map encG).set j y:=fun x y=>List.set_set ..
   have tj:(AV.int IntKind.i64 (j:Int)).toInt=(j:Int):=rfl;have cj:(encG G[j]).cells=[.list 3 (l[k].r.map encV),.list 2 (G[j].2.map encP)]:=by rw [<-hr];rfl
   rw [hu,xtI q hr,y4,List.map_set];simp only [xbR,xdR,xf6,xdE,xdF,xeC,xf7,xeD,xa4,xf8,xa5,xbn,xaZ,xed,xfy,xfz,xbZ,xfA,xee,xcC,sBU,i1,hk,gf,cF0,cF1,cF2,sF0,sF1,sF2,lF,sF12,sF02,xkO,hv,xHc (n:=k) (by omega),ek,k1,hh,hg,i2,J,tj,gj,cj,q,y4,gs,ss,xHQ,tolA,xHS,xHR,xHV,g2a,g2b,lt2,tk1,dp2,m3,m4,Bool.and_self,z8,zj,Nat.lt_succ_self,xw9,xya,zx,zV,zW,List.singleton_append,zD]
   try simp [xaj,xHU,hr,sUF]
def grp (l:List Fc):List Grp:=l.foldl (fun G f=>if pv f.p=true then upd G f else G) []
def xvC (l:List Fc) (f:Fc):grp (l++[f])=if pv f.p=true then upd (grp l) f else grp l:=by simp [grp]
def xAO:∀ l:List Fc,GI l.reverse (grp l.reverse)
 | []=>GI.nil
 | f::l=>by
  rw [List.reverse_cons,xvC];have ih:=xAO l;cases hv:pv f.p with
  | true=>rw [if_pos rfl];exact ih.upd hv
  | false=>rw [if_neg (by simp)];exact ih.skip hv
def xAP (l:List Fc):GI l (grp l):=by have:=xAO l.reverse;rwa [List.reverse_reverse] at this
def xBi (l:List Fc) (h:Keyed l):Iter (xbR (l.map encF) ((l.length:Nat):Int)) ((0:Nat),(0:Int),[],[])=some ((grp l).length,(grp l).map encG):=by
 refine xnF (fun k=>(((grp (l.take k)).length,((k:Nat):Int),ents 0 ((grp (l.take k)).map (·.1)),(grp (l.take k)).map encG):Nat×Int×List AV×List AV)) l.length _ (fun k hk=>?_) ?_ l.length 0 (by omega)
 . rw [xBj l h k hk (grp (l.take k)) (xAP _)];have tk:l.take (k+1)=l.take k++[l[k]]:=by rw [List.take_add_one,ze hk];rfl
   rw [tk,xvC]
 . simp only [xbR,xdR,za,zy,zm,xaH,y6,sUF]
def xDm (x y:Grp) (hx:x.1.length<=4398046511104):xHC (encG x) (encG y)=true/\xHD (encG x) (encG y)=cmpR x.1 y.1:=by
 have e:xdk (x.1.map encV) (x.2.map encP) (y.1.map encV) (y.2.map encP)=some (cmpR x.1 y.1):=by
  unfold xdk xks;rw [xBv x.1 y.1 (by unfold maxLen;omega)];rfl
 have e2:xdk ((encG x).cells.getD 0 .top).toList ((encG x).cells.getD 1 .top).toList ((encG y).cells.getD 0 .top).toList ((encG y).cells.getD 1 .top).toList=some (cmpR x.1 y.1):=e;unfold xHC xHD;rw [e2];exact ⟨rfl,rfl⟩
def xyE (l:List Fc) (h:Keyed l):∃ S:List Grp,xer (l.map encF)=some (S.map encG)/\xHA l (S.map (·.1))/\(∀ g,g∈S->g.2=psOf l g.1)/\S.length<=l.length:=by
 have hg:=xAP l;have O:=h.1.1;have J:=hg.len;have cG:Cm fun x y:Grp=>cmpR x.1 y.1:=xpf.on (e:=fun x:Grp=>x.1)
 obtain ⟨r,e,p,s⟩:=(fun F (hF:20<=F)=>xwQ cG.ord F (grp l).length (xDN (Nat.le_trans J O) hF) (grp l) rfl) 1000 (by decide)
 have es:=xGK (N:=(grp l).length) (by omega) (ok:=fun g=>g.1.length<=1048576) (c:=fun x y:Grp=>cmpR x.1 y.1) (fun x y hx hy=>xDm x y (by omega)) (grp l) r rfl (fun g q=>by
  obtain ⟨f,hf,e,_⟩:=(hg.mem g.1).1 (zK.2 ⟨g,q,rfl⟩);rw [<-e];exact h.1.2 f hf) e
 have rl:=p.length_eq;refine ⟨r,?_,⟨?_,fun x=>?_⟩,fun g q=>hg.ps g (p.mem_iff.1 q),by rw [rl];exact J⟩
 . have el:=xBi l h;have ra:xIC 2 1 ((grp l).map encG)=true:=by
    unfold xIC;rw [zI];intro x hx;obtain ⟨g,_,rfl⟩:=zK.1 hx;rfl
   have ll:(grp l).length<=r.length:=by omega
   have tt:List.take (grp l).length (r.map encG)=r.map encG:=zi (by rw [za];omega)
   unfold xer xlc xhU xeH xkt;simp only [za,el,zk,zh,xaj,ra,es,zH,ll,zn,zS,zr,tt,sUF]
 . refine xBr (fun _ _=>xkF) ?_ ?_
   . exact List.pairwise_map.2 s
   . exact ((p.map (·.1)).nodup_iff).2 hg.nd
 . rw [(p.map (·.1)).mem_iff];exact hg.mem x
end Go.Sim.M
end
noncomputable section
set_option maxRecDepth 100000
namespace Go.Sim.M
open Go.RowKit Go.Lib
def xmI (l:List AV) (i:Int):Bool:=decide ((0:Int)<=i)&&decide (i<(↑l.length:Int))
def xpM {T:Type} (l:List AV) (out_n:Nat) (q:Int) (na:Int) (nb:Int) (i:Int) (out_xs:List AV) (δ:T) (κl:(Int×Int×Int×List AV)->T) (κr:(Int×Int×Int×List AV)->T):T:=br (decide (i<(↑l.length:Int))) (br (xmI l i) (br (decide (i.toNat<l.length)&&xH4 (Sh.int IntKind.i64) ((l.getD i.toNat AV.top).cells.getD (0:Nat) AV.top)) (br (((l.getD i.toNat AV.top).cells.getD (0:Nat) AV.top).toInt==q) (br (xmI l i) (br (decide (i.toNat<l.length)&&xH4 (Sh.int IntKind.i64) ((l.getD i.toNat AV.top).cells.getD (1:Nat) AV.top)) (br (xmI l i) (br (decide (i.toNat<l.length)&&xH4 (Sh.int IntKind.i64) ((l.getD i.toNat AV.top).cells.getD (2:Nat) AV.top)) (κl (IntKind.i64.wrap (na+((l.getD i.toNat AV.top).cells.getD (1:Nat) AV.top).toInt),IntKind.i64.wrap (nb+((l.getD i.toNat AV.top).cells.getD (2:Nat) AV.top).toInt),IntKind.i64.wrap (i+(1:Int)),out_xs)) (δ)) (δ)) (δ)) (δ)) (κr (na,nb,i,out_xs))) (δ)) (δ)) (κr (na,nb,i,out_xs))
def xg3 (l:List AV) (out_n:Nat) (q:Int):(Int×Int×Int×List AV)->Option ((Int×Int×Int×List AV)⊕(Int×Int×Int×List AV)):=fun (na,nb,i,out_xs)=>xpM l out_n q na nb i out_xs none (fun s=>some (.inl s)) (fun p=>some (.inr p))
def xkx (keep:Bool->Bool->Bool) (out_n:Nat):Bool:=decide ((0:Int)<=IntKind.i64.wrap ((↑out_n:Int) - (1:Int)))&&decide (IntKind.i64.wrap ((↑out_n:Int) - (1:Int))<(↑out_n:Int))
def xnn (keep:Bool->Bool->Bool) (l:List AV) (out_n:Nat) (na:Int) (nb:Int) (i:Int) (q:Int) (out_xs:List AV):Int×Int×Int×List AV:=(Iter (xg3 l out_n q) (na,nb,i,out_xs)).getD ((0:Int),(0:Int),(0:Int),[])
def xc2 (keep:Bool->Bool->Bool) (out_n:Nat):Nat:=(0:Nat)+(IntKind.i64.wrap ((↑out_n:Int) - (1:Int))).toNat
def xoA (keep:Bool->Bool->Bool) (l:List AV) (out_n:Nat) (na:Int) (nb:Int) (i:Int) (q:Int) (out_xs:List AV):Int×Int×List AV:=(xnn keep l out_n na nb i q out_xs).snd
def xe6 (keep:Bool->Bool->Bool) (l:List AV) (out_n:Nat) (na:Int) (nb:Int) (i:Int) (q:Int) (out_xs:List AV):Int:=(xnn keep l out_n na nb i q out_xs).fst
def xoz (keep:Bool->Bool->Bool) (l:List AV) (out_n:Nat) (na:Int) (nb:Int) (i:Int) (q:Int) (out_xs:List AV):Int×List AV:=(xoA keep l out_n na nb i q out_xs).snd
def xe5 (keep:Bool->Bool->Bool) (l:List AV) (out_n:Nat) (na:Int) (nb:Int) (i:Int) (q:Int) (out_xs:List AV):Int:=(xoA keep l out_n na nb i q out_xs).fst
def xbr (keep:Bool->Bool->Bool) (l:List AV) (out_n:Nat) (na:Int) (nb:Int) (i:Int) (q:Int) (out_xs:List AV):List AV:=(xoz keep l out_n na nb i q out_xs).snd
def xow (keep:Bool->Bool->Bool) (l:List AV) (out_n:Nat) (na:Int) (nb:Int) (i:Int) (q:Int) (out_xs:List AV):Bool:=keep (decide (xe6 keep l out_n na nb i q out_xs>(0:Int))) (decide (xe5 keep l out_n na nb i q out_xs>(0:Int)))
def xbG (keep:Bool->Bool->Bool) (l:List AV) (out_n:Nat) (na:Int) (nb:Int) (i:Int) (q:Int) (out_xs:List AV):Int:=(xoz keep l out_n na nb i q out_xs).fst
def xkZ (keep:Bool->Bool->Bool) (l:List AV) (out_n:Nat) (na:Int) (nb:Int) (i:Int) (q:Int) (out_xs:List AV):Bool:=decide (xc2 keep out_n<(xbr keep l out_n na nb i q out_xs).length)
def xoy (keep:Bool->Bool->Bool) (l:List AV) (out_n:Nat) (na:Int) (nb:Int) (i:Int) (q:Int) (out_xs:List AV):Bool:=decide (xbG keep l out_n na nb i q out_xs<(↑l.length:Int))
def xl7 {T:Type} (keep:Bool->Bool->Bool) (l:List AV) (out_n:Nat) (na:Int) (nb:Int) (i:Int) (q:Int) (out_xs:List AV) (δ:T) (κl:(Nat×Int×Int×Int×Int×List AV)->T) (κr:(Nat×List AV)->T):T:=br (decide (q<(1099511627776:Int))) (br ((Iter (xg3 l out_n q) (na,nb,i,out_xs)).isSome) (br (xoy keep l out_n na nb i q out_xs) (br (decide ((0:Int)<=xbG keep l out_n na nb i q out_xs)&&xoy keep l out_n na nb i q out_xs) (br (decide ((xbG keep l out_n na nb i q out_xs).toNat<l.length)&&xH4 (Sh.int IntKind.i64) ((l.getD (xbG keep l out_n na nb i q out_xs).toNat AV.top).cells.getD (0:Nat) AV.top)) (br (xow keep l out_n na nb i q out_xs) (br (decide ((↑out_n:Int)>(0:Int))) (br (xkx keep out_n) (br (xkZ keep l out_n na nb i q out_xs&&xH4 (Sh.int IntKind.i64) (((xbr keep l out_n na nb i q out_xs).getD (xc2 keep out_n) AV.top).cells.getD (1:Nat) AV.top)) (br ((((xbr keep l out_n na nb i q out_xs).getD (xc2 keep out_n) AV.top).cells.getD (1:Nat) AV.top).toInt==q) (br (xkx keep out_n) (br (xkZ keep l out_n na nb i q out_xs) (κl (out_n,xe6 keep l out_n na nb i q out_xs,xe5 keep l out_n na nb i q out_xs,xbG keep l out_n na nb i q out_xs,((l.getD (xbG keep l out_n na nb i q out_xs).toNat AV.top).cells.getD (0:Nat) AV.top).toInt,(xbr keep l out_n na nb i q out_xs).set (xc2 keep out_n) (AV.agg (List.take (1:Nat) ((xbr keep l out_n na nb i q out_xs).getD (xc2 keep out_n) AV.top).cells++[AV.int IntKind.i64 ((l.getD (xbG keep l out_n na nb i q out_xs).toNat AV.top).cells.getD (0:Nat) AV.top).toInt]++List.drop (2:Nat) ((xbr keep l out_n na nb i q out_xs).getD (xc2 keep out_n) AV.top).cells)))) (δ)) (δ)) (br (out_n==(xbr keep l out_n na nb i q out_xs).length&&(decide ((out_n+(1:Nat))*(16:Nat)<=(140737488355328:Nat))&&decide (out_n+(1:Nat)<=(4611686018427387904:Nat)))) (κl (out_n+(1:Nat),xe6 keep l out_n na nb i q out_xs,xe5 keep l out_n na nb i q out_xs,xbG keep l out_n na nb i q out_xs,((l.getD (xbG keep l out_n na nb i q out_xs).toNat AV.top).cells.getD (0:Nat) AV.top).toInt,xbr keep l out_n na nb i q out_xs++[AV.agg [AV.int IntKind.i64 q,AV.int IntKind.i64 ((l.getD (xbG keep l out_n na nb i q out_xs).toNat AV.top).cells.getD (0:Nat) AV.top).toInt]])) (δ))) (δ)) (δ)) (br (out_n==(xbr keep l out_n na nb i q out_xs).length&&(decide ((out_n+(1:Nat))*(16:Nat)<=(140737488355328:Nat))&&decide (out_n+(1:Nat)<=(4611686018427387904:Nat)))) (κl (out_n+(1:Nat),xe6 keep l out_n na nb i q out_xs,xe5 keep l out_n na nb i q out_xs,xbG keep l out_n na nb i q out_xs,((l.getD (xbG keep l out_n na nb i q out_xs).toNat AV.top).cells.getD (0:Nat) AV.top).toInt,xbr keep l out_n na nb i q out_xs++[AV.agg [AV.int IntKind.i64 q,AV.int IntKind.i64 ((l.getD (xbG keep l out_n na nb i q out_xs).toNat AV.top).cells.getD (0:Nat) AV.top).toInt]])) (δ))) (κl (out_n,xe6 keep l out_n na nb i q out_xs,xe5 keep l out_n na nb i q out_xs,xbG keep l out_n na nb i q out_xs,((l.getD (xbG keep l out_n na nb i q out_xs).toNat AV.top).cells.getD (0:Nat) AV.top).toInt,xbr keep l out_n na nb i q out_xs))) (δ)) (δ)) (br (xow keep l out_n na nb i q out_xs) (br (decide ((↑out_n:Int)>(0:Int))) (br (xkx keep out_n) (br (xkZ keep l out_n na nb i q out_xs&&xH4 (Sh.int IntKind.i64) (((xbr keep l out_n na nb i q out_xs).getD (xc2 keep out_n) AV.top).cells.getD (1:Nat) AV.top)) (br ((((xbr keep l out_n na nb i q out_xs).getD (xc2 keep out_n) AV.top).cells.getD (1:Nat) AV.top).toInt==q) (br (xkx keep out_n) (br (xkZ keep l out_n na nb i q out_xs) (κl (out_n,xe6 keep l out_n na nb i q out_xs,xe5 keep l out_n na nb i q out_xs,xbG keep l out_n na nb i q out_xs,(1099511627776:Int),(xbr keep l out_n na nb i q out_xs).set (xc2 keep out_n) (AV.agg (List.take (1:Nat) ((xbr keep l out_n na nb i q out_xs).getD (xc2 keep out_n) AV.top).cells++[AV.int IntKind.i64 (1099511627776:Int)]++List.drop (2:Nat) ((xbr keep l out_n na nb i q out_xs).getD (xc2 keep out_n) AV.top).cells)))) (δ)) (δ)) (br (out_n==(xbr keep l out_n na nb i q out_xs).length&&(decide ((out_n+(1:Nat))*(16:Nat)<=(140737488355328:Nat))&&decide (out_n+(1:Nat)<=(4611686018427387904:Nat)))) (κl (out_n+(1:Nat),xe6 keep l out_n na nb i q out_xs,xe5 keep l out_n na nb i q out_xs,xbG keep l out_n na nb i q out_xs,(1099511627776:Int),xbr keep l out_n na nb i q out_xs++[AV.agg [AV.int IntKind.i64 q,AV.int IntKind.i64 (1099511627776:Int)]])) (δ))) (δ)) (δ)) (br (out_n==(xbr keep l out_n na nb i q out_xs).length&&(decide ((out_n+(1:Nat))*(16:Nat)<=(140737488355328:Nat))&&decide (out_n+(1:Nat)<=(4611686018427387904:Nat)))) (κl (out_n+(1:Nat),xe6 keep l out_n na nb i q out_xs,xe5 keep l out_n na nb i q out_xs,xbG keep l out_n na nb i q out_xs,(1099511627776:Int),xbr keep l out_n na nb i q out_xs++[AV.agg [AV.int IntKind.i64 q,AV.int IntKind.i64 (1099511627776:Int)]])) (δ))) (κl (out_n,xe6 keep l out_n na nb i q out_xs,xe5 keep l out_n na nb i q out_xs,xbG keep l out_n na nb i q out_xs,(1099511627776:Int),xbr keep l out_n na nb i q out_xs)))) (δ)) (κr (out_n,out_xs))
def xfR (keep:Bool->Bool->Bool) (l:List AV):(Nat×Int×Int×Int×Int×List AV)->Option ((Nat×Int×Int×Int×Int×List AV)⊕(Nat×List AV)):=fun (out_n,na,nb,i,q,out_xs)=>xl7 keep l out_n na nb i q out_xs none (fun s=>some (.inl s)) (fun p=>some (.inr p))
def xtc (keep:Bool->Bool->Bool) (a:List AV) (b:List AV):Option (Nat×List AV):=Iter (xfR keep ((xgO a b).getD [])) ((0:Nat),(0:Int),(0:Int),(0:Int),(0:Int),[])
def xtb (keep:Bool->Bool->Bool) (a:List AV) (b:List AV):Nat×List AV:=(xtc keep a b).getD ((0:Nat),[])
def xs9 (keep:Bool->Bool->Bool) (a:List AV) (b:List AV):List AV:=(xtb keep a b).snd
def xta (keep:Bool->Bool->Bool) (a:List AV) (b:List AV):Nat:=(xtb keep a b).fst
def xCX {T:Type} (keep:Bool->Bool->Bool) (a:List AV) (b:List AV) (δ:T) (κ:List AV->T):T:=br ((xgO a b).isSome) (br ((xtc keep a b).isSome) (br (decide ((0:Nat)+xta keep a b<=(xs9 keep a b).length)&&true) (κ (List.take (xta keep a b) (List.drop (0:Nat) (xs9 keep a b)))) (δ)) (δ)) (δ)
def swG (keep:Bool->Bool->Bool) (a:List AV) (b:List AV):Option (List AV):=xCX keep a b none some
end Go.Sim.M
end
noncomputable section
set_option maxRecDepth 100000
namespace Go.Sim.M
open Go.RowKit Go.Lib Go.Sort
def xG9 (e:Edg):AV:=.agg [.int .i64 e.1,.int .i64 e.2.1,.int .i64 e.2.2]
theorem xrf (x y:Int):∀ a b,xG6 x y (a++b)=xG6 x y a++xG6 x y b
 | [],b=>rfl
 | p::a,b=>by
  simp only [List.cons_append,xG6,xrf x y a b];split<;>rfl
theorem xst (x y:Int) (l:List Per) (n:Nat) (h:n<l.length):xG6 x y (l.take (n+1))=xG6 x y (l.take n)++(if pv l[n]=true then [(l[n].1,x,y),(l[n].2,-x,-y)] else []):=by
 rw [List.take_add_one,ze h];show xG6 x y (l.take n++[l[n]])=_;rw [xrf];rfl
theorem xrd (B:List AV) (l:List Per) (hl:l.length<=1073741824):∀ (k n:Nat),n+k=l.length ->
  Iter (xcu B (l.map encP) ((l.length:Nat):Int)) ((xG6 1 0 (l.take n)).length,((n:Nat):Int),(xG6 1 0 (l.take n)).map xG9)=some ((xG6 1 0 l).length,(xG6 1 0 l).map xG9)
 | 0,n,hk=>by
  obtain rfl:n=l.length:=by omega
  rw [zi (zd _)];refine xaI ?_;unfold xcu;simp only;unfold xiM;rw [decide_eq_false (by omega:¬ ((l.length:Nat):Int)<((l.length:Nat):Int))]
  rfl
 | k+1,n,hk=>by
  have h1:n<l.length:=by omega
  have J:=xi5 1 0 (l.take n);have q:(l.take n).length<=n:=by rw [zt];omega
  have d1:((n:Nat):Int)<((l.length:Nat):Int):=by omega
  have d2:(0:Int)<=((n:Nat):Int):=by omega
  have d3:((xG6 1 0 (l.take n)).length+2)*24<=140737488355328:=by omega
  have d4:(xG6 1 0 (l.take n)).length+2<=4611686018427387904:=by omega
  have d5:((xG6 1 0 (l.take n)).length==(xG6 1 0 (l.take n)).length)=true:=by simp
  have gf:(l.map encP).getD n .top=encP l[n]:=xaK _ _ _ h1;have c0:((encP l[n]).cells.getD 0 .top).toInt=l[n].1:=rfl;have c1:((encP l[n]).cells.getD 1 .top).toInt=l[n].2:=rfl;have sh:((encP l[n]).cells.length==(2:Nat)&&xIb [Sh.int IntKind.i64,Sh.int IntKind.i64] (encP l[n]).cells (0:Nat))=true:=rfl;have st:xcu B (l.map encP) ((l.length:Nat):Int) ((xG6 1 0 (l.take n)).length,((n:Nat):Int),(xG6 1 0 (l.take n)).map xG9) =
    some (.inl ((xG6 1 0 (l.take (n+1))).length,((n+1:Nat):Int),(xG6 1 0 (l.take (n+1))).map xG9)):=by
   rw [xst 1 0 l n h1];unfold xcu;simp only;unfold xiM;rw [zN,gf,sh,c0,c1,xkO,za,za,decide_eq_true d1,decide_eq_true d2,decide_eq_true h1,decide_eq_true d3,decide_eq_true d4,d5,xn9 (show n+1<=maxLen by unfold maxLen;omega)]
   cases pv l[n] with
   | true=>simp only [if_true,z8,zx];rfl
   | false=>simp only [zT,if_false,zD];rfl
  rw [xaT st];exact xrd B l hl k (n+1) (by omega)
theorem xre (E0:List Edg) (l:List Per) (hl:l.length<=1073741824) (hE:E0.length<=2147483648):∀ (k n:Nat),n+k=l.length ->
  Iter (xd1 (l.map encP) ((l.length:Nat):Int)) ((E0++xG6 0 1 (l.take n)).length,((n:Nat):Int),(E0++xG6 0 1 (l.take n)).map xG9)=some ((E0++xG6 0 1 l).length,(E0++xG6 0 1 l).map xG9)
 | 0,n,hk=>by
  obtain rfl:n=l.length:=by omega
  rw [zi (zd _)];refine xaI ?_;unfold xd1;simp only;unfold xiN;rw [decide_eq_false (by omega:¬ ((l.length:Nat):Int)<((l.length:Nat):Int))]
  rfl
 | k+1,n,hk=>by
  have h1:n<l.length:=by omega
  have O:=xi5 0 1 (l.take n);have q:(l.take n).length<=n:=by rw [zt];omega
  have J:(E0++xG6 0 1 (l.take n)).length=E0.length+(xG6 0 1 (l.take n)).length:=z8;have d1:((n:Nat):Int)<((l.length:Nat):Int):=by omega
  have d2:(0:Int)<=((n:Nat):Int):=by omega
  have d3:((E0++xG6 0 1 (l.take n)).length+2)*24<=140737488355328:=by omega
  have d4:(E0++xG6 0 1 (l.take n)).length+2<=4611686018427387904:=by omega
  have d5:((E0++xG6 0 1 (l.take n)).length==(E0++xG6 0 1 (l.take n)).length)=true:=by simp
  have gf:(l.map encP).getD n .top=encP l[n]:=xaK _ _ _ h1;have c0:((encP l[n]).cells.getD 0 .top).toInt=l[n].1:=rfl;have c1:((encP l[n]).cells.getD 1 .top).toInt=l[n].2:=rfl;have sh:((encP l[n]).cells.length==(2:Nat)&&xIb [Sh.int IntKind.i64,Sh.int IntKind.i64] (encP l[n]).cells (0:Nat))=true:=rfl;have st:xd1 (l.map encP) ((l.length:Nat):Int) ((E0++xG6 0 1 (l.take n)).length,((n:Nat):Int),(E0++xG6 0 1 (l.take n)).map xG9) =
    some (.inl ((E0++xG6 0 1 (l.take (n+1))).length,((n+1:Nat):Int),(E0++xG6 0 1 (l.take (n+1))).map xG9)):=by
   rw [xst 0 1 l n h1,<-zw];unfold xd1;simp only;unfold xiN;rw [zN,gf,sh,c0,c1,xkO,za,za,decide_eq_true d1,decide_eq_true d2,decide_eq_true h1,decide_eq_true d3,decide_eq_true d4,d5,xn9 (show n+1<=maxLen by unfold maxLen;omega)]
   cases pv l[n] with
   | true=>rw [if_pos rfl,z8 (bs:=[(l[n].1,0,1),(l[n].2,-0,-1)]),zx (l₂:=[(l[n].1,0,1),(l[n].2,-0,-1)])];rfl
   | false=>rw [if_neg (by simp),zD];rfl
  rw [xaT st];exact xre E0 l hl hE k (n+1) (by omega)
def toE (e:Edg):TyE:=(Fin.ofNat 1099511627777 e.1.toNat,e.2.1,e.2.2)
def ofE (x:TyE):Edg:=((x.1.val:Int),x.2.1,x.2.2)
theorem xDG {e:Edg} (h1:0<=e.1) (h2:e.1<=1099511627776):ofE (toE e)=e:=by
 have:e.1.toNat % 1099511627777=e.1.toNat:=Nat.mod_eq_of_lt (by omega)
 simp only [ofE,toE,Fin.ofNat,this,Int.toNat_of_nonneg h1]
theorem xD3 (E:List Edg) (h:∀ e,e∈E->0<=e.1/\e.1<=1099511627776):(E.map xG9).all isE=true/\∃ S:List Edg,srtE (E.map xG9)=S.map xG9/\S.Perm E/\S.Pairwise fun x y=>x.1<=y.1:=by
 refine ⟨?_,(pdqL cmpE (E.map toE)).map ofE,?_,?_,?_⟩
 . rw [zI];intro x hx;obtain ⟨e,he,rfl⟩:=zK.1 hx;have:=h e he;show (decide _&&decide _)=true;rw [decide_eq_true this.1,decide_eq_true this.2];rfl
 . unfold srtE;have e1:(E.map xG9).map decE=E.map toE:=by rw [List.map_map];rfl
   rw [e1,List.map_map];rfl
 . have hp:=((xkN cmpE swoE (E.map toE)).1).map ofE;have e2:(E.map toE).map ofE=E:=by
    rw [List.map_map]
    conv=>rhs;rw [<-List.map_id E]
    refine List.map_congr_left fun e he=>?_
    exact xDG (h e he).1 (h e he).2
   rwa [e2] at hp
 . rw [List.pairwise_map];refine (xoH cmpE swoE (E.map toE)).imp fun {x y} q=>?_
   show ((x.1.val:Nat):Int)<=((y.1.val:Nat):Int);unfold cmpE at q;omega
theorem xBY (a b:List Per) (ha:a.length<=1073741824) (hb:b.length<=1073741824) :
  ∃ S:List Edg,xgO (a.map encP) (b.map encP)=some (S.map xG9)/\S.Perm (xG6 1 0 a++xG6 0 1 b)/\S.Pairwise fun x y=>x.1<=y.1:=by
 have l1:=xi5 1 0 a;have l2:=xi5 0 1 b;have O:(xG6 1 0 a++xG6 0 1 b).length=(xG6 1 0 a).length+(xG6 0 1 b).length:=z8;obtain ⟨J,S,hS,hp,hs⟩:=xD3 (xG6 1 0 a++xG6 0 1 b) (fun e he=>by
  rcases zG.1 he with he|he
  . exact xkH 1 0 a e he
  . exact xkH 0 1 b e he)
 refine ⟨S,?_,hp,hs⟩;have h0:=xrd (b.map encP) a ha a.length 0 (by omega)
 rw [List.take_zero] at h0;have h1:=xre (xG6 1 0 a) b hb (by omega) b.length 0 (by omega)
 rw [List.take_zero] at h1;have h0:Iter (xcu (b.map encP) (a.map encP) (((a.map encP).length:Nat):Int)) (0,0,[])=some ((xG6 1 0 a).length,(xG6 1 0 a).map xG9):=by rw [za];exact h0
 have v4:xkl (a.map encP) (b.map encP)=((xG6 1 0 a).length,(xG6 1 0 a).map xG9):=by unfold xkl;rw [h0];rfl
 have v3:xkk (a.map encP) (b.map encP)=some ((xG6 1 0 a++xG6 0 1 b).length,(xG6 1 0 a++xG6 0 1 b).map xG9):=by
  unfold xkk;rw [v4,za];have e:xG6 1 0 a++xG6 0 1 []=xG6 1 0 a:=zD _;rw [e] at h1;exact h1
 have v2:xkj (a.map encP) (b.map encP)=((xG6 1 0 a++xG6 0 1 b).length,(xG6 1 0 a++xG6 0 1 b).map xG9):=by unfold xkj;rw [v3];rfl
 have v0:xgl (a.map encP) (b.map encP)=(xG6 1 0 a++xG6 0 1 b).length:=by unfold xgl;rw [v2]
 have v1:xgm (a.map encP) (b.map encP)=(xG6 1 0 a++xG6 0 1 b).map xG9:=by unfold xgm;rw [v2]
 have q:S.length=(xG6 1 0 a++xG6 0 1 b).length:=hp.length_eq;have d1:(xG6 1 0 a++xG6 0 1 b).length<4611686018427387904:=by omega
 have d2:0+(xG6 1 0 a++xG6 0 1 b).length<=(S.map xG9).length:=by rw [za,q];omega
 have d3:(xG6 1 0 a++xG6 0 1 b).length.beq (xG6 1 0 a++xG6 0 1 b).length=true:=Nat.beq_refl _;have tk:List.take (xG6 1 0 a++xG6 0 1 b).length (List.drop 0 (S.map xG9))=S.map xG9:=by rw [zr,zi (by rw [za,q];exact zd _)]
 unfold xgO xn4;rw [h0,v3,v0,v1,J,hS,tk,za,d3,decide_eq_true d1,decide_eq_true d2];rfl
theorem xAV (out:List Per) (h:out≠[]):out=out.dropLast++[out[out.length - 1]'(by have:=List.length_pos_iff.2 h;omega)]:=by
 have:=List.dropLast_concat_getLast h;rw [List.getLast_eq_getElem] at this;exact this.symm
section
variable (S : List Edg) (hS1 : ∀ e, e ∈ S -> 0 <= e.1 /\ e.1 <= 1099511627776) (hS2 : ∀ e, e ∈ S -> (-1 <= e.2.1 /\ e.2.1 <= 1) /\ (-1 <= e.2.2 /\ e.2.2 <= 1)) (hS3 : S.Pairwise fun x y => x.1 <= y.1) (hS4 : S.length <= 8589934592)
theorem xtP (g:Edg->Int):∀ l:List Edg,(∀ e,e∈l->-1<=g e/\g e<=1)->-(l.length:Int)<=xG7 g l/\xG7 g l<=l.length
 | [],_=>by simp [xG7]
 | e::l,h=>by
  have:=xtP g l fun x hx=>h x (List.mem_cons_of_mem _ hx)
  have:=h e (List.mem_cons_self ..);simp only [xG7,zF];omega
theorem xwh (g:Edg->Int) (n:Nat) (h:n<S.length):xG7 g (S.take (n+1))=xG7 g (S.take n)+g S[n]:=by
 rw [List.take_add_one,ze h];show xG7 g (S.take n++[S[n]])=_;rw [xp3];simp [xG7]
include hS1 hS2 hS3 hS4
theorem xsB (on:Nat) (at':Int) (ox:List AV):∀ (k i:Nat),i+k=S.length->∃ j:Nat,i<=j/\j<=S.length /\
  Iter (xg3 (S.map xG9) on at') (xG7 (·.2.1) (S.take i),xG7 (·.2.2) (S.take i),((i:Nat):Int),ox)=some (xG7 (·.2.1) (S.take j),xG7 (·.2.2) (S.take j),((j:Nat):Int),ox) /\
  (∀ (m:Nat) (h:m<S.length),i<=m->m<j->S[m].1=at')/\∀ (h:j<S.length),S[j].1≠at'
 | 0,i,hk=>by
  obtain rfl:i=S.length:=by omega
  refine ⟨S.length,zd _,zd _,xaI ?_,fun m _ h1 h2=>by omega,fun h=>absurd h (Nat.lt_irrefl _)⟩
  unfold xg3;simp only;unfold xpM;rw [za,decide_eq_false (by omega:¬ ((S.length:Nat):Int)<((S.length:Nat):Int))]
  rfl
 | k+1,i,hk=>by
  have h1:i<S.length:=by omega
  have d1:((i:Nat):Int)<((S.length:Nat):Int):=by omega
  have d2:(0:Int)<=((i:Nat):Int):=by omega
  have gf:(S.map xG9).getD i .top=xG9 S[i]:=xaK _ _ _ h1;have c0:((xG9 S[i]).cells.getD 0 .top).toInt=S[i].1:=rfl;have c1:((xG9 S[i]).cells.getD 1 .top).toInt=S[i].2.1:=rfl;have c2:((xG9 S[i]).cells.getD 2 .top).toInt=S[i].2.2:=rfl;have s0:xH4 (Sh.int IntKind.i64) ((xG9 S[i]).cells.getD 0 .top)=true:=rfl;have s1:xH4 (Sh.int IntKind.i64) ((xG9 S[i]).cells.getD 1 .top)=true:=rfl;have s2:xH4 (Sh.int IntKind.i64) ((xG9 S[i]).cells.getD 2 .top)=true:=rfl;have v0:xmI (S.map xG9) ((i:Nat):Int)=true:=by unfold xmI;rw [za,decide_eq_true d1,decide_eq_true d2];rfl
  by_cases he:S[i].1=at'
  . have hb:=hS2 S[i] (zo h1);have b1:=xtP (·.2.1) (S.take i) fun e he=>(hS2 e (List.mem_of_mem_take he)).1
    have b2:=xtP (·.2.2) (S.take i) fun e he=>(hS2 e (List.mem_of_mem_take he)).2
    have hl:(S.take i).length=i:=by rw [zt];omega
    rw [hl] at b1 b2;have b3:=xwh S (·.2.1) i h1;have b4:=xwh S (·.2.2) i h1;have w1:IntKind.i64.wrap (xG7 (·.2.1) (S.take i)+S[i].2.1)=xG7 (·.2.1) (S.take (i+1)):=by rw [b3];exact xba (by omega) (by omega)
    have w2:IntKind.i64.wrap (xG7 (·.2.2) (S.take i)+S[i].2.2)=xG7 (·.2.2) (S.take (i+1)):=by rw [b4];exact xba (by omega) (by omega)
    have st:xg3 (S.map xG9) on at' (xG7 (·.2.1) (S.take i),xG7 (·.2.2) (S.take i),((i:Nat):Int),ox)=some (.inl (xG7 (·.2.1) (S.take (i+1)),xG7 (·.2.2) (S.take (i+1)),((i+1:Nat):Int),ox)):=by
     unfold xg3;simp only;unfold xpM;have e1:(S[i].1==at')=true:=by simp [he]
     rw [v0,zN,gf,s0,s1,s2,c0,c1,c2,za,decide_eq_true d1,decide_eq_true h1,e1,w1,w2,xn9 (show i+1<=maxLen by unfold maxLen;omega)]
     rfl
    obtain ⟨j,j1,j2,j3,j4,j5⟩:=xsB on at' ox k (i+1) (by omega)
    refine ⟨j,by omega,j2,by rw [xaT st];exact j3,fun m hm h2 h3=>?_,j5⟩
    rcases Nat.eq_or_lt_of_le h2 with rfl|h2
    . exact he
    . exact j4 m hm h2 h3
  . refine ⟨i,zd _,by omega,xaI ?_,fun m _ h2 h3=>by omega,fun _=>he⟩
    unfold xg3;simp only;unfold xpM;have e1:(S[i].1==at')=false:=by simp [he]
    rw [v0,zN,gf,s0,c0,za,decide_eq_true d1,decide_eq_true h1,e1];rfl
omit hS1 hS2 hS3 hS4
def SwI (K:Int->Bool) (s:Nat×Int×Int×Int×Int×List AV):Prop :=
 ∃ (out:List Per) (i:Nat) (at':Int),s=(out.length,xG7 (·.2.1) (S.take i),xG7 (·.2.2) (S.take i),((i:Nat):Int),at',out.map encP)/\0<=at'/\at'<=1099511627776/\i<=S.length /\
  (∀ (m:Nat) (h:m<S.length),m<i->S[m].1<at')/\(∀ (m:Nat) (h:m<S.length),i<=m->at'<=S[m].1)/\OutOk out at' K/\(out.length:Int)<=at'
include hS1 hS2 hS3 hS4
set_option maxHeartbeats 4000000 in
theorem xwX (keep:Bool->Bool->Bool) (a b:List Per) (hp:S.Perm (xG6 1 0 a++xG6 0 1 b)) (s:Nat×Int×Int×Int×Int×List AV) (hs:SwI S (fun t=>keep (inL a t) (inL b t)) s) :
  (∃ s',xfR keep (S.map xG9) s=some (.inl s')/\SwI S (fun t=>keep (inL a t) (inL b t)) s'/\(1099511627776 - s'.2.2.2.2.1).toNat<(1099511627776 - s.2.2.2.2.1).toNat) \/
  ∃ r,xfR keep (S.map xG9) s=some (.inr r)/\∃ out:List Per,r=(out.length,out.map encP)/\OutOk out 1099511627776 (fun t=>keep (inL a t) (inL b t)):=by
 obtain ⟨out,i,at',rfl,al,a0,hi,ax,ay,J,a1⟩:=hs;by_cases hF:at'<1099511627776
 . left;obtain ⟨j,j1,j2,j3,j4,j5⟩:=xsB S hS1 hS2 hS3 hS4 out.length at' (out.map encP) (S.length - i) i (by omega)
   have ag:∀ (m:Nat) (h:m<S.length),m<j->S[m].1<=at':=fun m h hm=>by
    by_cases aw:m<i
    . have:=ax m h aw;omega
    . have:=j4 m h (by omega) hm;omega
   have ap:∀ (m:Nat) (h:m<S.length),j<=m->at'<S[m].1:=fun m h hm=>by
    have hj:j<S.length:=by omega
    have h1:=ay j hj (by omega)
    have h2:=j5 hj;have h3:S[j].1<=S[m].1:=by
     rcases Nat.eq_or_lt_of_le hm with rfl|hm
     . exact Int.le_refl _
     . exact zB.1 hS3 j m hj h hm
    omega
   obtain ⟨nx,O⟩:∃ nx:Int,nx=if h:j<S.length then S[j].1 else 1099511627776:=⟨_,rfl⟩
   have aa:at'<nx:=by
    rw [O];split
    . rename_i h;exact ap j h (zd _)
    . exact hF
   have Q:nx<=1099511627776:=by
    rw [O];split
    . rename_i h;exact (hS1 _ (zo h)).2
    . exact Int.le_refl _
   have am:∀ (m:Nat) (h:m<S.length),j<=m->nx<=S[m].1:=fun m h hm=>by
    have hj:j<S.length:=by omega
    rw [O,dif_pos hj];rcases Nat.eq_or_lt_of_le hm with rfl|hm
    . exact Int.le_refl _
    . exact zB.1 hS3 j m hj h hm
   have ah:∀ (g:Edg->Int) (t:Int),at'<=t->t<nx->xG7 g (S.take j)=xHe g t S:=fun g t Y Z=>by
    conv=>rhs;rw [<-List.take_append_drop j S]
    rw [xlP,xuB,xs6]
    . omega
    . intro e he;obtain ⟨m,hm,rfl⟩:=zp.1 he;rw [List.getElem_drop];have:=am (j+m) (by rw [y3] at hm;omega) (by omega)
      omega
    . intro e he;obtain ⟨m,hm,rfl⟩:=zp.1 he;rw [List.getElem_take];rw [zt] at hm;have:=ag m (by omega) (by omega)
      omega
   have ak:∀ t,at'<=t->t<nx->decide (xG7 (·.2.1) (S.take j)>0)=inL a t/\decide (xG7 (·.2.2) (S.take j)>0)=inL b t:=fun t Y Z=>by
    rw [ah _ t Y Z,ah _ t Y Z,xs7 _ t hp,xs7 _ t hp,xlP,xlP,xpL,xrE,xs8,xrF,Int.add_zero,Int.zero_add,xvm,xvm];exact ⟨rfl,rfl⟩
   obtain ⟨kv,ar⟩:∃ kv:Bool,kv=keep (decide (xG7 (·.2.1) (S.take j)>0)) (decide (xG7 (·.2.2) (S.take j)>0)):=⟨_,rfl⟩;have hK:∀ t,at'<=t->t<nx->keep (inL a t) (inL b t)=kv:=fun t Y Z=>by
    rw [ar,(ak t Y Z).1,(ak t Y Z).2]
   have aq:xnn keep (S.map xG9) out.length (xG7 (·.2.1) (S.take i)) (xG7 (·.2.2) (S.take i)) ((i:Nat):Int) at' (out.map encP)=(xG7 (·.2.1) (S.take j),xG7 (·.2.2) (S.take j),((j:Nat):Int),out.map encP):=by unfold xnn;rw [j3];rfl
   have v8:xe6 keep (S.map xG9) out.length (xG7 (·.2.1) (S.take i)) (xG7 (·.2.2) (S.take i)) ((i:Nat):Int) at' (out.map encP)=xG7 (·.2.1) (S.take j):=by unfold xe6;rw [aq]
   have v9:xoA keep (S.map xG9) out.length (xG7 (·.2.1) (S.take i)) (xG7 (·.2.2) (S.take i)) ((i:Nat):Int) at' (out.map encP)=(xG7 (·.2.2) (S.take j),((j:Nat):Int),out.map encP):=by unfold xoA;rw [aq]
   have v7:xe5 keep (S.map xG9) out.length (xG7 (·.2.1) (S.take i)) (xG7 (·.2.2) (S.take i)) ((i:Nat):Int) at' (out.map encP)=xG7 (·.2.2) (S.take j):=by unfold xe5;rw [v9]
   have v6:xoz keep (S.map xG9) out.length (xG7 (·.2.1) (S.take i)) (xG7 (·.2.2) (S.take i)) ((i:Nat):Int) at' (out.map encP)=(((j:Nat):Int),out.map encP):=by unfold xoz;rw [v9]
   have v1:xbr keep (S.map xG9) out.length (xG7 (·.2.1) (S.take i)) (xG7 (·.2.2) (S.take i)) ((i:Nat):Int) at' (out.map encP)=out.map encP:=by unfold xbr;rw [v6]
   have v3:xbG keep (S.map xG9) out.length (xG7 (·.2.1) (S.take i)) (xG7 (·.2.2) (S.take i)) ((i:Nat):Int) at' (out.map encP)=((j:Nat):Int):=by unfold xbG;rw [v6]
   have v2:xow keep (S.map xG9) out.length (xG7 (·.2.1) (S.take i)) (xG7 (·.2.2) (S.take i)) ((i:Nat):Int) at' (out.map encP)=kv:=by unfold xow;rw [v8,v7,<-ar]
   have v0:xkZ keep (S.map xG9) out.length (xG7 (·.2.1) (S.take i)) (xG7 (·.2.2) (S.take i)) ((i:Nat):Int) at' (out.map encP)=decide (xc2 keep out.length<out.length):=by unfold xkZ;rw [v1,za]
   have v5:xoy keep (S.map xG9) out.length (xG7 (·.2.1) (S.take i)) (xG7 (·.2.2) (S.take i)) ((i:Nat):Int) at' (out.map encP)=decide (j<S.length):=by
    unfold xoy;rw [v3,za];by_cases h:j<S.length
    . rw [decide_eq_true h,decide_eq_true (by omega)]
    . rw [decide_eq_false h,decide_eq_false (by omega)]
   have aj:(out.length+1)*16<=140737488355328:=by omega
   have ai:out.length+1<=4611686018427387904:=by omega
   have e1:(out.length==out.length)=true:=by simp
   have dF:decide (at'<1099511627776)=true:=decide_eq_true hF;have dj:decide ((0:Int)<=((j:Nat):Int))=true:=decide_eq_true (by omega)
   have V:∀ h:j<S.length,(((S.map xG9).getD j .top).cells.getD 0 .top).toInt=nx:=fun h=>by
    rw [xaK _ _ _ h,O,dif_pos h];rfl
   have ae:∀ h:j<S.length,xH4 (Sh.int IntKind.i64) (((S.map xG9).getD j .top).cells.getD 0 .top)=true:=fun h=>by
    rw [xaK _ _ _ h];rfl
   have af:∀ q:List Per,OutOk q nx (fun t=>keep (inL a t) (inL b t))->(q.length:Int)<=nx->SwI S (fun t=>keep (inL a t) (inL b t)) (q.length,xG7 (·.2.1) (S.take j),xG7 (·.2.2) (S.take j),((j:Nat):Int),nx,q.map encP):=fun q ho hl =>
    ⟨q,j,nx,rfl,by omega,Q,j2,fun m h hm=>by have:=ag m h hm;omega,fun m h hm=>am m h hm,ho,hl⟩
   have mu:(1099511627776 - nx).toNat<(1099511627776 - at').toNat:=by omega
   cases kv with
   | false =>
    refine ⟨(out.length,xG7 (·.2.1) (S.take j),xG7 (·.2.2) (S.take j),((j:Nat):Int),nx,out.map encP),?_,af out (J.skip (by omega) hK) (by omega),mu⟩
    unfold xfR;simp only;unfold xl7;rw [v1,v2,v3,v5,v7,v8,j3,dF,dj,zN,za];by_cases hj:j<S.length
    . rw [decide_eq_true hj,ae hj,V hj];rfl
    . rw [decide_eq_false hj];have:nx=1099511627776:=by rw [O,dif_neg hj]
      rw [this];rfl
   | true =>
    by_cases hne:out=[]
    . have ab:=J.add al aa Q hK (fun p hp=>by rw [hne] at hp;cases hp)
      refine ⟨((out++[(at',nx)]).length,xG7 (·.2.1) (S.take j),xG7 (·.2.2) (S.take j),((j:Nat):Int),nx,(out++[(at',nx)]).map encP),?_,af _ ab (by rw [z8,zj];omega),mu⟩
      have dl:decide (((out.length:Nat):Int)>0)=false:=by rw [hne];rfl
      unfold xfR;simp only;unfold xl7;rw [v1,v2,v3,v5,v7,v8,j3,dF,dj,zN,za,za,dl,e1,decide_eq_true aj,decide_eq_true ai];by_cases hj:j<S.length
      . rw [decide_eq_true hj,ae hj,V hj,zx,z8];rfl
      . rw [decide_eq_false hj];have:nx=1099511627776:=by rw [O,dif_neg hj]
        rw [this,zx,z8];rfl
    . have az:=List.length_pos_iff.2 hne;have w1:IntKind.i64.wrap (((out.length:Nat):Int) - 1)=((out.length - 1:Nat):Int):=by rw [xba (by omega) (by omega)];omega
      have ao:xc2 keep out.length=out.length - 1:=by unfold xc2;rw [w1,zN];omega
      have v4:xkx keep out.length=true:=by
       unfold xkx;rw [w1,decide_eq_true (by omega),decide_eq_true (by omega)];rfl
      have dl:decide (((out.length:Nat):Int)>0)=true:=decide_eq_true (by omega)
      have dv:decide (out.length - 1<out.length)=true:=decide_eq_true (by omega)
      have an:out.length - 1<out.length:=by omega
      have gl:(out.map encP).getD (out.length - 1) .top=encP out[out.length - 1]:=xaK _ _ _ an;have cl:((encP out[out.length - 1]).cells.getD 1 .top).toInt=out[out.length - 1].2:=rfl;have sl:xH4 (Sh.int IntKind.i64) ((encP out[out.length - 1]).cells.getD 1 .top)=true:=rfl;have ad:=xAV out hne;by_cases hl:out[out.length - 1].2=at'
      . have au:=OutOk.ext (o:=out.dropLast) (p:=out[out.length - 1]) (by rw [<-ad];exact J) hl aa Q hK
        have W:(out.dropLast++[(out[out.length - 1].1,nx)]).length=out.length:=by rw [z8,List.length_dropLast,zj];omega
        have ac:(out.map encP).set (out.length - 1) (AV.agg (List.take 1 (encP out[out.length - 1]).cells++[AV.int IntKind.i64 nx]++List.drop 2 (encP out[out.length - 1]).cells))=(out.dropLast++[(out[out.length - 1].1,nx)]).map encP:=by
         have e2:AV.agg (List.take 1 (encP out[out.length - 1]).cells++[AV.int IntKind.i64 nx]++List.drop 2 (encP out[out.length - 1]).cells)=encP (out[out.length - 1].1,nx):=rfl;rw [e2,<-List.map_set];congr 1;have e3:out.set (out.length - 1) (out[out.length - 1].1,nx)=(out.dropLast++[out[out.length - 1]]).set (out.length - 1) (out[out.length - 1].1,nx):=congrArg (fun l=>List.set l (out.length - 1) (out[out.length - 1].1,nx)) ad
         rw [e3,List.set_append_right _ _ (by rw [List.length_dropLast];exact zd _),List.length_dropLast,Nat.sub_self];rfl
        refine ⟨((out.dropLast++[(out[out.length - 1].1,nx)]).length,xG7 (·.2.1) (S.take j),xG7 (·.2.2) (S.take j),((j:Nat):Int),nx,(out.dropLast++[(out[out.length - 1].1,nx)]).map encP),?_,af _ au (by rw [W];omega),mu⟩
        have e4:(out[out.length - 1].2==at')=true:=by simp [hl]
        unfold xfR;simp only;unfold xl7;rw [v0,v1,v2,v3,v4,v5,v7,v8,ao,j3,dF,dj,zN,za,gl,cl,sl,dl,dv,e4];by_cases hj:j<S.length
        . rw [decide_eq_true hj,ae hj,V hj,ac,W];rfl
        . rw [decide_eq_false hj];have:nx=1099511627776:=by rw [O,dif_neg hj]
          rw [this] at ac W |-;rw [ac,W];rfl
      . have ab:=J.add al aa Q hK (fun p hp=>by
         rw [ad] at hp;rcases zG.1 hp with hp|hp
         . have h1:=J.span.2;rw [ad] at h1;have:=(List.pairwise_append.1 h1).2.2 p hp _ (zv.2 rfl);have h2:=J.low _ (zo an);have h3:=xbT.1 (J.span.1 _ (zo an));omega
         . rw [zv.1 hp];exact hl)
        refine ⟨((out++[(at',nx)]).length,xG7 (·.2.1) (S.take j),xG7 (·.2.2) (S.take j),((j:Nat):Int),nx,(out++[(at',nx)]).map encP),?_,af _ ab (by rw [z8,zj];omega),mu⟩
        have e4:(out[out.length - 1].2==at')=false:=by simp [hl]
        unfold xfR;simp only;unfold xl7;rw [v0,v1,v2,v3,v4,v5,v7,v8,ao,j3,dF,dj,zN,za,za,gl,cl,sl,dl,dv,e4,e1,decide_eq_true aj,decide_eq_true ai];by_cases hj:j<S.length
        . rw [decide_eq_true hj,ae hj,V hj,zx,z8];rfl
        . rw [decide_eq_false hj];have:nx=1099511627776:=by rw [O,dif_neg hj]
          rw [this,zx,z8];rfl
 . right;have:at'=1099511627776:=by omega
   subst this;refine ⟨(out.length,out.map encP),?_,out,rfl,J⟩;unfold xfR;simp only;unfold xl7;rw [decide_eq_false hF];rfl
end
theorem xph:∀ (l:List Per) (e:Edg),e∈xG6 1 0 l->(-1<=e.2.1/\e.2.1<=1)/\(-1<=e.2.2/\e.2.2<=1)
 | [],e,h=>by cases h
 | p::l,e,h=>by
  unfold xG6 at h;split at h
  . rcases zC.1 h with rfl|h
    . simp
    . rcases zC.1 h with rfl|h
      . simp
      . exact xph l e h
  . exact xph l e h
theorem xpi:∀ (l:List Per) (e:Edg),e∈xG6 0 1 l->(-1<=e.2.1/\e.2.1<=1)/\(-1<=e.2.2/\e.2.2<=1)
 | [],e,h=>by cases h
 | p::l,e,h=>by
  unfold xG6 at h;split at h
  . rcases zC.1 h with rfl|h
    . simp
    . rcases zC.1 h with rfl|h
      . simp
      . exact xpi l e h
  . exact xpi l e h
theorem xBu (keep:Bool->Bool->Bool) (a b:List Per) (ha:a.length<=1073741824) (hb:b.length<=1073741824) :
  ∃ r:List Per,swG keep (a.map encP) (b.map encP)=some (r.map encP)/\IsSpan r/\∀ t,inL r t=(decide (0<=t)&&(decide (t<1099511627776)&&keep (inL a t) (inL b t))):=by
 obtain ⟨S,hS,hp,W⟩:=xBY a b ha hb;have l1:=xi5 1 0 a;have l2:=xi5 0 1 b;have Q:S.length=(xG6 1 0 a++xG6 0 1 b).length:=hp.length_eq;rw [z8] at Q;have q:∀ e,e∈S->e∈xG6 1 0 a\/e∈xG6 0 1 b:=fun e he=>zG.1 (hp.mem_iff.1 he)
 have O:∀ e,e∈S->0<=e.1/\e.1<=1099511627776:=fun e he=>(q e he).elim (xkH 1 0 a e) (xkH 0 1 b e)
 have V:∀ e,e∈S->(-1<=e.2.1/\e.2.1<=1)/\(-1<=e.2.2/\e.2.2<=1):=fun e he=>(q e he).elim (xph a e) (xpi b e)
 obtain ⟨r,hr,out,rfl,J⟩:=xpq (SwI S (fun t=>keep (inL a t) (inL b t))) (fun s=>(1099511627776 - s.2.2.2.2.1).toNat) (fun r=>∃ out:List Per,r=(out.length,out.map encP)/\OutOk out 1099511627776 (fun t=>keep (inL a t) (inL b t)))
  (xwX S O V W (by omega) keep a b hp) (0,0,0,0,0,[]) ⟨[],0,0,rfl,Int.le_refl _,by omega,zQ _,fun m _ h=>by omega,fun m h _=>(O _ (zo h)).1,xA4 _,by simp⟩
 refine ⟨out,?_,J.span,J.done⟩;have v3:xtc keep (a.map encP) (b.map encP)=some (out.length,out.map encP):=by unfold xtc;rw [hS];exact hr
 have v2:xtb keep (a.map encP) (b.map encP)=(out.length,out.map encP):=by unfold xtb;rw [v3];rfl
 have v0:xta keep (a.map encP) (b.map encP)=out.length:=by unfold xta;rw [v2]
 have v1:xs9 keep (a.map encP) (b.map encP)=out.map encP:=by unfold xs9;rw [v2]
 have d1:0+out.length<=out.length:=by omega
 unfold swG xCX;rw [hS,v3,v0,v1,za,decide_eq_true d1,zr,zi (by rw [za];exact zd _)]
 rfl
theorem xzL (a b:List AV):xn5 a b=swG xkU a b:=rfl
theorem xCW (a:List Per) (ha:a.length<=1073741824):∃ r:List Per,xib (a.map encP)=some (r.map encP)/\IsSpan r/\∀ t,inL r t=inL a t:=by
 obtain ⟨r,h1,h2,h3⟩:=xBu xkU a [] ha (by simp)
 refine ⟨r,?_,h2,fun t=>?_⟩
 . unfold xib xqQ;rw [xzL,show ([]:List AV)=([]:List Per).map encP from rfl,h1];rfl
 . rw [h3 t];cases hc:inL a t with
   | false=>simp [xkU,xbE,sUF]
   | true=>have:=xq1 hc;simp [xkU,xbE,this,sUF]
theorem xzM (a b:List AV):xn6 a b=swG xfm a b:=rfl
theorem xrC (a b:List Per) (ha:a.length<=1073741824) (hb:b.length<=1073741824) :
  ∃ r:List Per,xft (a.map encP) (b.map encP)=some (r.map encP)/\IsSpan r/\∀ t,inL r t=(inL a t&&!inL b t):=by
 obtain ⟨r,h1,h2,h3⟩:=xBu xfm a b ha hb;refine ⟨r,?_,h2,fun t=>?_⟩
 . unfold xft xlF;rw [xzM,h1];rfl
 . rw [h3 t];cases hc:inL a t with
   | false=>simp [xfm,xbE,sUF]
   | true=>have:=xq1 hc;simp [xfm,xbE,this,sUF]
end Go.Sim.M
end
noncomputable section
set_option maxRecDepth 100000
namespace Go.Sim.M
open Go.RowKit Go.Sim.Srt
def xuh {ps:List Per} (h:ps.length<=262144):Tame (ps.map fun p=>(p,(1:Int))):=⟨by simpa using h,fun c hc=>by
 obtain ⟨p,_,rfl⟩:=zK.1 hc;dsimp only;omega⟩
def xuN (ps:List Per) (h:ps.length<=262144):∃ S,xeG (ps.map encP)=some (S.map encP)/\StepI (fun t=>((ps.countP (hasP · t):Nat):Int)) 1099511627776 S/\S.length<=2*ps.length+1:=by
 obtain ⟨S,h1,h2,h3⟩:=xjf _ (xuh h);refine ⟨S,by rw [xy8 ps (by omega),h1],?_,by simpa using h3⟩
 rwa [show sumC (ps.map fun p=>(p,(1:Int)))=fun t=>((ps.countP (hasP · t):Nat):Int) from funext fun t=>xuD ps t] at h2
end Go.Sim.M
end
noncomputable section
set_option maxRecDepth 100000
namespace Go.Sim.M
open Go.RowKit Go.Sim.Srt Go.Sort
def xD4 (E:List Per):(E.map encP).all isP=true/\∃ P:List Per,srtP (E.map encP)=P.map encP/\P.Perm E/\Sorted cmpP P:=by
 have e1:(E.map encP).map decP=E:=by
  rw [List.map_map];conv=>rhs;rw [<-List.map_id E]
  rfl
 refine ⟨?_,pdqL cmpP E,?_,(xkN cmpP swoP E).1,(xoH cmpP swoP E).imp fun {x y} h=>?_⟩
 . rw [zI];intro x hx;obtain ⟨e,he,rfl⟩:=zK.1 hx;rfl
 . unfold srtP;rw [e1];rfl
 . have:=xqk x y;omega
def xvF (S:List Per) (hS:S.length<=524289) (hN:∀ s,s∈S->0<=s.2/\s.2<=1048576):∀ (d k:Nat) (J ox:List Per),k+d=S.length->StOk J->(xHb J).length<=1048576->ox.length<=k*1048576 ->
  ∃ q Q:List Per,Iter (xdw (S.map encP) ((S.length:Nat):Int)) ((k:Int),ox.length,J.length,((xHb J).length:Int),ox.map encP,J.map encP)=some (Q.length,((xHb q).length:Int),q.length,Q.map encP,q.map encP) /\
   StOk q/\(xHb q,Q)=(S.drop k).foldl (fun x s=>setF x (s.1,s.2.toNat)) (xHb J,ox)/\(xHb q).length<=1048576/\Q.length<=S.length*1048576
 | 0,k,J,ox,h,h1,h2,h3=>by
  obtain rfl:k=S.length:=by omega
  refine ⟨J,ox,xaI ?_,h1,by rw [zq (zd _)];rfl,h2,h3⟩
  simp only [xdw,xhj,zy,zm,xaH,sUF]
 | d+1,k,J,ox,h,h1,h2,h3=>by
  have hk:k<S.length:=by omega
  obtain ⟨n1,n2⟩:=hN _ (zo hk);obtain ⟨m,hm⟩:∃ m:Nat,S[k].2=(m:Int):=⟨S[k].2.toNat,by omega⟩
  obtain ⟨O,e,a1,a2⟩:=xyG S[k].1 m (xHb J).length J ox h1 rfl (by omega) h2 (by omega)
  have V:(xHb O).length=m:=by rw [a2,z8,zt,List.length_replicate];omega
  obtain ⟨q,Q,e',b1,b2,b3,b4⟩:=xvF S hS hN d (k+1) O (ox++(((xHb J).drop m).reverse.map fun f=>(f,S[k].1))) (by omega) a1 (by omega) (by
   rw [z8,za,List.length_reverse,y3];omega)
  refine ⟨q,Q,(xaT ?_).trans e',b1,?_,b3,b4⟩
  . have i1:(k:Int)<(S.length:Int):=by omega
    have gf:(S.map encP).getD k .top=encP S[k]:=xaK _ _ _ hk;have i2:¬ (0:Int)>(m:Int):=by omega
    have i3:¬ (1048576:Int)<(m:Int):=by omega
    have tk:List.take O.length (O.map encP)=O.map encP:=zi (by simp)
    rw [V];simp only [xdw,xhj,xdf,xjm,xjn,sBU,hk,i1,gf,cP0,cP1,lP,sP,sP0,sP1,hm,i2,i3,if_false,e,tk,xHc (n:=k) (by omega)]
  . rw [b2,xdS hk,List.foldl_cons];congr 1;rw [hm,zN,a2];rfl
def xt9 {N:Int->Nat} {H:Nat} (hb:H<=1048576) (hH:∀ t,N t<=H) (h0:∀ t,t<0\/1099511627776<=t->N t=0) {S:List Per} (hS:StepI (fun t=>(N t:Int)) 1099511627776 S) (hl:S.length<=524289):∃ P,xa2 (S.map encP)=some (P.map encP)/\IsLevs N P:=by
 obtain ⟨q,ox,e,a1,a2,a3,a4⟩:=xvF S hl (fun s hs=>by
  obtain ⟨_,_,m3,_⟩:=(hS.mem s).1 hs;have:=hH s.1;omega) S.length 0 [] [] (by omega) (fun s hs=>by simp at hs) (by simp [xHb]) (by simp)
 obtain ⟨J,e2,c1,c2⟩:=xyG 1099511627776 0 (xHb q).length q ox a1 rfl (by omega) a3 (by omega)
 obtain ⟨s1,P,s2,s3,s4⟩:=xD4 (ox++(((xHb q).drop 0).reverse.map fun f=>(f,(1099511627776:Int))))
 have m1:(ox++(((xHb q).drop 0).reverse.map fun f=>(f,(1099511627776:Int)))).length<4611686018427387904:=by
  rw [z8,za,List.length_reverse,y3];omega
 refine ⟨P,?_,xCd hH h0 hS ?_ s4⟩
 . have pl:=s3.length_eq;have e:Iter (xdw (S.map encP) ((S.length:Nat):Int)) ((0:Int),(0:Nat),(0:Nat),(0:Int),[],[])=_:=e;have e2:set2 1099511627776 0 ((xHb q).length:Int) q.length ox.length (q.map encP) (ox.map encP)=_:=e2;generalize (ox++(((xHb q).drop 0).reverse.map fun f=>(f,(1099511627776:Int))))=O at s1 s2 e2 pl m1
   have bq:O.length.beq O.length=true:=by simp
   have m2:O.length<=P.length:=by omega
   have tt:List.take O.length (P.map encP)=P.map encP:=zi (by rw [za];omega)
   unfold xa2 xl5;simp only [xc1,xlJ,xfn,xlK,za,e,zk,zh,xaj,e2,bq,m1,s1,s2,zn,zS,zH,m2,zr,tt,sUF]
 . have a2:(xHb q,ox)=S.foldl (fun x s=>setF x (s.1,s.2.toNat)) ([],[]):=a2
   rw [<-a2];exact s3
def xrN (ps:List Per) (t:Int) (ht:t<0\/1099511627776<=t):ps.countP (hasP · t)=0:=by
 rw [List.countP_eq_zero];intro p hp h;obtain ⟨h1,h2,h3⟩:=xbm.1 h;have:=xbT.1 h1;omega
def xC8 (ps:List Per) (hv:∀ p,p∈ps->pv p=true) (hl:ps.length<=262144):∃ P,xfp (ps.map encP)=some (P.map encP)/\IsLevs (fun t=>ps.countP (hasP · t)) P:=by
 unfold xfp xk5;by_cases h1:ps.length=1
 . obtain ⟨p,rfl⟩:=List.length_eq_one_iff.1 h1;refine ⟨[p],rfl,List.pairwise_singleton _ _,fun k=>if k=0 then [p] else [],1,fun t=>?_,fun k=>?_,?_⟩
   . have:=List.countP_le_length (p:=(hasP · t)) (l:=[p]);simpa using this
   . by_cases hk:k=0
     . subst hk;refine ⟨⟨fun q hq=>by simp at hq;subst hq;exact hv _ (by simp),List.pairwise_singleton _ _⟩,fun t=>?_⟩
       simp [inL];cases hasP p t<;>simp
     . refine ⟨by simp [hk,xfB],fun t=>?_⟩
       simp only [hk,if_false,xfc];have:=List.countP_le_length (p:=(hasP · t)) (l:=[p]);simp at this |-;omega
   . simp
 . obtain ⟨S,e1,e2,e3⟩:=xuN ps hl;obtain ⟨P,e4,e5⟩:=xt9 (N:=fun t=>ps.countP (hasP · t)) (H:=ps.length) (by omega) (fun t=>List.countP_le_length) (xrN ps) e2 (by omega)
   refine ⟨P,?_,e5⟩;have i1:((ps.length:Int)==1)=false:=by simp;omega
   simp only [za,i1,xaH,e1,e4,zk,zh,xaj,sUF]
def mk (r:Row) (P:List Per):List Fc:=P.map fun p=>⟨r,p⟩
def xvs (L:Row->List Per):∀ S:List Grp,(S.flatMap fun g=>mk g.1 (L g.1))=xG8 (S.map (·.1)) L
 | []=>rfl
 | g::S=>by rw [zR,xvs L S];rfl
def xtT (O:List AV) (q J:Int) (row:Row) (hr:row.length<=1048576) (g1:List AV) (P:List Per) (D:List Fc) (hb:D.length+P.length<=2199023255552) (hP:P.length<=1099511627776) :
  Iter (xce O q J (P.map encP) ((P.length:Nat):Int)) (D.length,(0:Int),D.map encF,row.map encV,g1)=some ((D++mk row P).length,(D++mk row P).map encF):=by
 have key:=xnF (step:=xce O q J (P.map encP) ((P.length:Nat):Int)) (fun k=>(((D++mk row (P.take k)).length,((k:Nat):Int),(D++mk row (P.take k)).map encF,row.map encV,g1):Nat×Int×List AV×List AV×List AV)) P.length
  ((D++mk row P).length,(D++mk row P).map encF) (fun k hk=>by
  have i1:(k:Int)<(P.length:Int):=by omega
  have gf:(P.map encP).getD k .top=encP P[k]:=xaK _ _ _ hk;have dl:(D++mk row (P.take k)).length=D.length+k:=by unfold mk;rw [z8,za,zt];omega
  have m1:(D.length+k+1)*40<=140737488355328:=by omega
  have m2:D.length+k+1<=4611686018427387904:=by omega
  have m3:row.length*32<=140737488355328:=by omega
  have m4:row.length<=4611686018427387904:=by omega
  have tk:List.take row.length (row.map encV)=row.map encV:=zi (by simp)
  have Q:mk row (P.take (k+1))=mk row (P.take k)++[⟨row,P[k]⟩]:=by unfold mk;rw [List.take_add_one,ze hk,zx];rfl
  rw [Q,<-zw];simp only [xce,xe8,sBU,hk,i1,gf,cP0,cP1,lP,sP,sP0,sP1,dl,m1,m2,m3,m4,zd,tk,zr,xHc (n:=k) (by omega)]
  rw [z8,dl];simp [encF]) (by
  simp only [xce,xe8,zy,zm,xaH,y6,sUF]) P.length 0 (by omega)
 have e0:D++mk row (P.take 0)=D:=by simp [mk]
 rw [e0] at key;exact key
def xAd (J:List AV) (q O:Int) (row:Row) (hr:row.length<=1048576) (g1:List AV) (P:List Per) (D:List Fc) (hb:D.length+P.length<=2199023255552) (hP:P.length<=1099511627776) :
  Iter (xfX J q O (P.map encP) ((P.length:Nat):Int)) (D.length,(0:Int),D.map encF,row.map encV,g1)=some ((D++mk row P).length,(D++mk row P).map encF) :=
 xtT J q O row hr g1 P D hb hP
def Bld (l:List Fc):Prop:=Keyed l/\l.length<=1024
def cGs (g:Grp):((encG g).cells.getD 1 .top).toList=g.2.map encP:=rfl
def lG (g:Grp):((encG g).cells.length==2)=true:=rfl
def sG (g:Grp):xIb [Sh.list 3,Sh.list 2] (encG g).cells 0=true:=rfl
def xtU {f:List AV->Option (List AV)} {step:List AV->Int->Nat×Int×List AV->Option ((Nat×Int×List AV)⊕(Nat×List AV))} (J:step=xc4/\f=xfp\/step=xc5/\f=xib) (S:List Grp) (hS:S.length<=1024) (hr:∀ g,g∈S->g.1.length<=1048576) (L:Row->List Per) (hL:∀ g,g∈S->f (g.2.map encP)=some ((L g.1).map encP)/\(L g.1).length<=1048576) :
  Iter (step (S.map encG) ((S.length:Nat):Int)) ((0:Nat),(0:Int),[])=some ((xG8 (S.map (·.1)) L).length,(xG8 (S.map (·.1)) L).map encF):=by
 rw [<-xvs];refine xrR S (fun g=>mk g.1 (L g.1)) encF 1048576 (fun g hg=>by unfold mk;rw [za];exact (hL g hg).2) (fun n h D hD=>?_) (fun D=>?_)
 . have i1:(n:Int)<(S.length:Int):=by omega
   have gf:(S.map encG).getD n .top=encG S[n]:=xaK _ _ _ h;obtain ⟨e1,e2⟩:=hL _ (zo h);have q:=hr _ (zo h);rcases J with ⟨rfl,rfl⟩|⟨rfl,rfl⟩
   . have el:=xtT (S.map encG) (S.length:Int) (n:Int) S[n].1 q (S[n].2.map encP) (L S[n].1) D (by omega) (by omega)
     simp only [xc4,xe7,xeP,sBU,h,i1,gf,cG0,cGs,lG,sG,e1,el,xHc (n:=n) (by omega)]
   . have el:=xAd (S.map encG) (S.length:Int) (n:Int) S[n].1 q (S[n].2.map encP) (L S[n].1) D (by omega) (by omega)
     simp only [xc5,xe9,xeR,sBU,h,i1,gf,cG0,cGs,lG,sG,e1,el,xHc (n:=n) (by omega)]
 . rcases J with ⟨rfl,rfl⟩|⟨rfl,rfl⟩
   . simp only [xc4,xe7,zy,zm,xaH,sUF]
   . simp only [xc5,xe9,zy,zm,xaH,sUF]
def xof {R:List Row} {Q:Row->List Per->Prop} (h:∀ r,r∈R->∃ P,Q r P):∃ L:Row->List Per,∀ r,r∈R->Q r (L r):=by
 refine ⟨fun r=>if hr:r∈R then Classical.choose (h r hr) else [],fun r hr=>?_⟩
 show Q r (if hr:r∈R then Classical.choose (h r hr) else [])
 rw [dif_pos hr];exact Classical.choose_spec (h r hr)
def xFE (l:List Fc) (r:Row):(fun t=>(psOf l r).countP (hasP · t))=cnt l r:=funext fun t=>xqI l r t
def xAa (l:List Fc) (h:Bld l):∃ B,xcd (l.map encF)=some (B.map encF)/\xHj l B:=by
 obtain ⟨S,e1,hR,J,O⟩:=xyE l h.1;have hl:=h.2;obtain ⟨L,hL⟩:=xof (R:=S.map (·.1)) (Q:=fun r P=>xfp ((psOf l r).map encP)=some (P.map encP)/\IsLevs (cnt l r) P/\P.length<=1048576) fun r hr=>by
  have q:=xvX l r;obtain ⟨P,a1,a2⟩:=xC8 (psOf l r) xCo (by omega)
  have a3:=a2.len;rw [xFE] at a2;refine ⟨P,a1,a2,Nat.le_trans a3 (Nat.mul_le_mul (Nat.le_trans q hl) (Nat.le_trans q hl))⟩
 have hk:∀ g,g∈S->g.1∈S.map (·.1):=fun g hg=>zK.2 ⟨g,hg,rfl⟩
 have eb:=xtU (.inl ⟨rfl,rfl⟩) S (by omega) (fun g hg=>by
  obtain ⟨f,hf,e,_⟩:=(hR.2 g.1).1 (hk g hg);rw [<-e];exact h.1.1.2 f hf) L (fun g hg=>by
  rw [J g hg];exact ⟨(hL _ (hk g hg)).1,(hL _ (hk g hg)).2.2⟩)
 refine ⟨xG8 (S.map (·.1)) L,?_,S.map (·.1),L,hR,fun r hr=>(hL r hr).2.1,rfl⟩
 have tt:∀ F:List Fc,List.take F.length (F.map encF)=F.map encF:=fun F=>zi (by simp)
 unfold xcd xlX xkq xiW xez xid;simp only [e1,zk,zh,xaj,za,eb,zH,zd,zn,zS,zr,tt,sUF]
def xFL (l:List Fc) (h:Bld l):∃ B,xhp (l.map encF)=some (B.map encF)/\xHo l B:=by
 obtain ⟨S,e1,hR,q,O⟩:=xyE l h.1;have hl:=h.2;obtain ⟨L,hL⟩:=xof (R:=S.map (·.1)) (Q:=fun r P=>xib ((psOf l r).map encP)=some (P.map encP)/\(IsSpan P/\∀ t,inL P t=decide (0<cnt l r t))/\P.length<=1048576) fun r hr=>by
  have J:=xvX l r;obtain ⟨P,a1,a2,a3⟩:=xCW (psOf l r) (by omega)
  have a4:∀ t,inL P t=decide (0<(psOf l r).countP (hasP · t)):=fun t=>by
   rw [a3,Bool.eq_iff_iff,zl,List.countP_pos_iff];unfold inL;rw [List.any_eq_true]
  refine ⟨P,a1,⟨a2,fun t=>by rw [a4,xqI]⟩,?_⟩
  have:=xtw (k:=0) a2 a4;omega
 have hk:∀ g,g∈S->g.1∈S.map (·.1):=fun g hg=>zK.2 ⟨g,hg,rfl⟩
 have eb:=xtU (.inr ⟨rfl,rfl⟩) S (by omega) (fun g hg=>by
  obtain ⟨f,hf,e,_⟩:=(hR.2 g.1).1 (hk g hg);rw [<-e];exact h.1.1.2 f hf) L (fun g hg=>by
  rw [q g hg];exact ⟨(hL _ (hk g hg)).1,(hL _ (hk g hg)).2.2⟩)
 refine ⟨xG8 (S.map (·.1)) L,?_,S.map (·.1),L,hR,fun r hr=>(hL r hr).2.1,rfl⟩
 have tt:∀ F:List Fc,List.take F.length (F.map encF)=F.map encF:=fun F=>zi (by simp)
 unfold xhp xlY xkr xiX xeA xie;simp only [e1,zk,zh,xaj,za,eb,zH,zd,zn,zS,zr,tt,sUF]
end Go.Sim.M
end
noncomputable section
set_option maxRecDepth 100000
namespace Go.Sim.M
open Go.RowKit Go.Sim.Srt
def xqs {r:Row} (h:∀ v,v∈r->v.wf/\v.t.length<=1073741824) (hl:r.length<=60):(keyOf r).length<=17592186044416:=by
 have:=xnC (g:=keyV) (c:=1073741890) r fun v hv=>by
  obtain ⟨h1,h2⟩:=h v hv;have:=xvE h1 (by omega);omega
 unfold keyOf;have h2:1073741890*r.length<=1073741890*60:=Nat.mul_le_mul_left _ hl;omega
def xHj.all {l B:List Fc} (h:xHj l B) {Q:Row->Prop} (hq:∀ f,f∈l->Q f.r):∀ f,f∈B->Q f.r:=fun f hf=>by
 obtain ⟨_,g,hg,e⟩:=h.valid hf;rw [<-e];exact hq g hg
def xHo.all {l B:List Fc} (h:xHo l B) {Q:Row->Prop} (hq:∀ f,f∈l->Q f.r):∀ f,f∈B->Q f.r:=fun f hf=>by
 obtain ⟨R,L,h1,h2,rfl⟩:=h;obtain ⟨a,b⟩:=xkI hf;obtain ⟨g,g1,g2,_⟩:=(h1.2 _).1 a;rw [<-g2];exact hq g g1
def xHo.len {l B:List Fc} (h:xHo l B):B.length<=l.length*l.length:=by
 obtain ⟨R,L,h1,h2,rfl⟩:=h;refine xqv (h1.1.nodup xpf) fun r hr=>?_
 obtain ⟨a,b⟩:=h2 r hr;have:=xtw (ps:=psOf l r) (k:=0) a fun t=>by rw [b,xqI]
 exact Nat.le_trans this (Nat.le_mul_self _)
def dk (S:List Row):Nat->List Row
 | 0=>[]
 | k+1=>dk S k++(if k=0\/S[k - 1]?≠S[k]? then S[k]?.toList else [])
structure RGI (S:List Fc) (i:Nat) (G:List Grp):Prop where
 st:Strict cmpR (G.map (·.1))
 mem:∀ r,r∈G.map (·.1)↔∃ f,f∈S.take i/\f.r=r/\pv f.p=true
 ps:∀ g,g∈G->StepI (fun t=>((cnt S g.1 t:Nat):Int)) 1099511627776 g.2/\g.2.length<=2*S.length+1
 len:G.length<=i
 bd:∀ a b (ha:a<S.length) (hb:b<S.length),a<i->i<=b->cmpR S[a].r S[b].r<0
def xCy {B:List Fc} (h:B.length<=1048576) (hr:∀ f,f∈B->f.r.length<=60):xb1 (B.map encF) (B.map encF)=some true:=by
 have:=xuv B B h (fun f hf=>by have:=hr f hf;unfold maxLen;omega)
 rwa [decide_eq_true rfl] at this
def StepI.at {N:Int->Int} {T:Int} {S:List Per} (h:StepI N T S) {i:Nat} (hi:i<S.length):∀ (d:Nat) (t:Int),t=S[i].1+d->t<T->(∀ j (hj:j<S.length),i<j->t<S[j].1)->N t=S[i].2
 | 0,t,ht,hT,_=>by
  have:=(h.mem S[i]).1 (zo hi);rw [ht,this.2.2.1];simp
 | d+1,t,ht,hT,hn=>by
  have ih:=h.at hi d (t - 1) (by omega) (by omega) (fun j hj q=>by have:=hn j hj q;omega)
  by_cases hc:N (t - 1)=N t
  . rw [<-hc,ih]
  . exfalso;have h0:=((h.mem S[i]).1 (zo hi)).1;have hm:(t,N t)∈S:=(h.mem (t,N t)).2 ⟨by simp only;omega,hT,rfl,.inr hc⟩
    obtain ⟨j,hj,J⟩:=List.getElem_of_mem hm;have e1:S[j].1=t:=by rw [J]
    have q:i<j:=by
     rcases zJ i j with h'|h'
     . exact h'
     . exfalso;rcases zJ j i with h2|h2
       . have:=zB.1 h.asc j i hj hi h2;omega
       . have:i=j:=by omega
         subst this;omega
    have:=hn j hj q;omega
def StepI.first {N:Int->Int} {S:List Per} (h:StepI N 1099511627776 S):∃ hp:0<S.length,S[0].1=0:=by
 have hm:((0:Int),N 0)∈S:=(h.mem (0,N 0)).2 ⟨by simp,by simp,rfl,.inl rfl⟩
 obtain ⟨j,hj,q⟩:=List.getElem_of_mem hm;have e1:S[j].1=0:=by rw [q]
 refine ⟨by omega,?_⟩
 have h0:=((h.mem S[0]).1 (zo (by omega))).1
 rcases Nat.eq_zero_or_pos j with rfl|hp
 . exact e1
 . have:=zB.1 h.asc 0 j (by omega) hj hp;omega
def nanC (y:Int):xfP y=false:=by unfold xfP;simp
def cmpC (x y:Int):decide (xdg x y<0)=decide (x<y)/\(xdg x y==0)=decide (x=y):=by
 unfold xdg;rw [nanC,nanC];simp only [xaH,sUF];by_cases h1:x<y
 . have h2:¬ x=y:=by omega
   simp [h1,h2,xaj,sUF]
 . by_cases h3:x>y
   . have h2:¬ x=y:=by omega
     have h3':y<x:=h3;simp [h1,h2,h3',xaj,xaH,sUF]
   . have h2:x=y:=by omega
     subst h2;simp [xaj,xaH,sUF]
def gS {S:List Per} {k:Nat} (h:k<S.length):(S.map encP).getD k .top=encP S[k]:=xaK _ _ _ h
def xBJ (S:List Per) (x:Int) (hn:S.length<=1048576) (h:S.Pairwise fun a b=>a.1<b.1):∃ a:Nat,Iter (xaU (S.map encP) x ((S.length:Nat):Int)) ((0:Int),((S.length:Nat):Int))=some ((a:Nat):Int)/\a<=S.length/\(∀ k (hk:k<S.length),k<a->S[k].1<x)/\∀ k (hk:k<S.length),a<=k->x<=S[k].1:=by
 have Q:=zB.1 h;obtain ⟨r,h1,a,rfl,h2,h3,h4⟩:=xpq (step:=xaU (S.map encP) x ((S.length:Nat):Int)) (fun s=>∃ a b:Nat,s=((a:Int),(b:Int))/\a<=b/\b<=S.length/\(∀ k (hk:k<S.length),k<a->S[k].1<x)/\∀ k (hk:k<S.length),b<=k->x<=S[k].1) (fun s=>(s.2 - s.1).toNat)
  (fun r=>∃ a:Nat,r=(a:Int)/\a<=S.length/\(∀ k (hk:k<S.length),k<a->S[k].1<x)/\∀ k (hk:k<S.length),a<=k->x<=S[k].1) (fun s hs=>by
   obtain ⟨a,b,rfl,Z,hb,O,V⟩:=hs;by_cases aa:a<b
   . left;have e:=xHM (i:=a) (j:=b) (by omega)
     have hm:(a+b) / 2<S.length:=by omega
     have g1:(a:Int)<(b:Int):=by omega
     have g2:(((a+b) / 2:Nat):Int)<(S.length:Int):=by omega
     have w:IntKind.i64.wrap ((((a+b) / 2:Nat):Int)+1)=(((a+b) / 2+1:Nat):Int):=xHc (by omega)
     have J:=(cmpC S[(a+b) / 2].1 x).1;cases hc:decide (S[(a+b) / 2].1<x) with
     | true =>
      rw [hc] at J;refine ⟨((((a+b) / 2+1:Nat):Int),(b:Int)),?_,⟨(a+b) / 2+1,b,rfl,by omega,hb,fun k hk W=>?_,V⟩,by dsimp only;omega⟩
      . simp only [xaU,xbH,xbC,xa7,xg2,e,sBU,g1,g2,hm,gS hm,cP0,cP1,lP,sP,sP0,sP1,J,w]
      . have hc':=of_decide_eq_true hc;rcases zJ k ((a+b) / 2) with q|q
        . have:=Q k _ hk hm q;omega
        . have:k=(a+b) / 2:=by omega
          subst this;exact hc'
     | false =>
      rw [hc] at J;refine ⟨((a:Int),(((a+b) / 2:Nat):Int)),?_,⟨a,(a+b) / 2,rfl,by omega,by omega,O,fun k hk Y=>?_⟩,by dsimp only;omega⟩
      . simp only [xaU,xbH,xbC,xa7,xg2,e,sBU,g1,g2,hm,gS hm,cP0,cP1,lP,sP,sP0,sP1,J,w]
      . have hc':=of_decide_eq_false hc;rcases zJ ((a+b) / 2) k with q|q
        . have:=Q _ k hm hk q;omega
        . have:k=(a+b) / 2:=by omega
          subst this;omega
   . right;obtain rfl:a=b:=by omega
     refine ⟨(a:Int),?_,a,rfl,hb,O,V⟩;simp only [xaU,xbH,zy,zm,xaH,sUF]) ((0:Int),((S.length:Nat):Int)) ⟨0,S.length,rfl,by omega,by omega,fun k hk W=>by omega,fun k hk Y=>by omega⟩
 exact ⟨a,h1,h2,h3,h4⟩
def xsj {N:Int->Int} {S:List Per} (h:StepI N 1099511627776 S) (hl:S.length<=1048576) {t:Int} (h0:0<=t) (h1:t<1099511627776):xb6 (S.map encP) t=some (N t):=by
 obtain ⟨a,e1,ha,Q,Y⟩:=xBJ S t hl h.asc;obtain ⟨hp,W⟩:=h.first
 have V:=zB.1 h.asc;have key:∃ i:Nat,∃ hi:i<S.length,xem (S.map encP) t=some (i:Int)/\S[i].1<=t/\∀ j (hj:j<S.length),i<j->t<S[j].1:=by
  unfold xem xlN;unfold xcv xd9;simp only [xbY,xa8,za,e1,zk,zh,xaj,zN,sUF];rcases zJ a S.length with q|ac
  . have g1:(a:Int)<(S.length:Int):=by omega
    have J:=(cmpC S[a].1 t).2;by_cases he:S[a].1=t
    . rw [decide_eq_true he] at J;refine ⟨a,q,?_,by omega,fun j hj O=>by have:=V a j q hj O;omega⟩
      simp only [g1,q,gS q,sBU,cP0,cP1,lP,sP,sP0,sP1,xg2,J]
    . rw [decide_eq_false he] at J;have aa:=Y a q (zd a);have ab:0<a:=by
       rcases Nat.eq_zero_or_pos a with rfl|h'
       . omega
       . exact h'
      obtain ⟨m,rfl⟩:∃ m,a=m+1:=⟨a - 1,by omega⟩
      refine ⟨m,by omega,?_,by have:=Q m (by omega) (by omega);omega,fun j hj O=>?_⟩
      . have w:IntKind.i64.wrap (((m+1:Nat):Int) - 1)=(m:Int):=by rw [xba (by omega) (by omega)];omega
        simp only [g1,q,gS q,sBU,cP0,cP1,lP,sP,sP0,sP1,xg2,J,w]
      . rcases zJ (m+1) j with h'|h'
        . have:=V (m+1) j q hj h';omega
        . have:j=m+1:=by omega
          subst this;omega
  . have g1:¬ (a:Int)<(S.length:Int):=by omega
    obtain ⟨m,rfl⟩:∃ m,a=m+1:=⟨a - 1,by omega⟩
    refine ⟨m,by omega,?_,by have:=Q m (by omega) (by omega);omega,fun j hj O=>by omega⟩
    have w:IntKind.i64.wrap (((m+1:Nat):Int) - 1)=(m:Int):=by rw [xba (by omega) (by omega)];omega
    simp only [g1,zm,xaH,zk,zh,xaj,w,sUF]
 obtain ⟨i,hi,e2,ad,Z⟩:=key;have hv:N t=S[i].2:=h.at hi (t - S[i].1).toNat t (by omega) h1 Z
 have g0:¬ t<0:=by omega
 have g1:¬ t>=1099511627776:=by omega
 have g2:¬ ((i:Nat):Int)<0:=by omega
 have g3:(i:Int)<(S.length:Int):=by omega
 unfold xb6 xnl;simp only [g0,g1,g2,g3,e2,gS hi,hi,sBU,cP0,cP1,lP,sP,sP0,sP1,hv]
def xHm (D:List Int) (n:Int):List Int:=match D.getLast? with
 | some d=>if d=n then D else D++[n]
 | none=>D++[n]
theorem xqJ (n:Int):xHm [] n=[n]:=rfl
theorem xpv (D:List Int) (d n:Int):xHm (D++[d]) n=if d=n then D++[d] else D++[d]++[n]:=by simp [xHm]
theorem xur (D:List Int) (n:Int):(xHm D n).length<=D.length+1:=by
 unfold xHm;split
 . split<;>simp
 . simp
theorem xoo {D:List Int} {n x:Int}:x∈xHm D n↔x∈D\/x=n:=by
 rcases List.eq_nil_or_concat D with rfl|⟨D',d,rfl⟩
 . simp [xqJ]
 . rw [List.concat_eq_append,xpv];split
   . rename_i h;subst h;simp
   . simp [or_assoc]
theorem xuq {D:List Int} {n:Int} (h:Asc D) (hn:∀ x,x∈D->x<=n):Asc (xHm D n):=by
 rcases List.eq_nil_or_concat D with rfl|⟨D',d,rfl⟩
 . simp [xqJ]
 . rw [List.concat_eq_append] at h hn |-;rw [xpv];split
   . exact h
   . rename_i hne;refine List.pairwise_append.2 ⟨h,by simp,fun x hx y hy=>?_⟩
     simp only [zv] at hy;subst hy;have hd:=hn d (by simp)
     rcases zG.1 hx with hx|hx
     . have:=(List.pairwise_append.1 h).2.2 x hx d (by simp)
       omega
     . simp only [zv] at hx;subst hx;omega
theorem gD {D:List Int} {d:Int}:((D++[d]).map encN).getD D.length .top=encN d:=by simp [z7]
theorem xyA {T:Type} {δ:T} (κ:Nat->List AV->T) (D:List Int) (hD:D.length<=1099511627776) (n:Int) :
  br ((↑D.length:Int)==(0:Int)) (br (D.length==(D.map encN).length&&(decide ((D.length+(1:Nat))*(8:Nat)<=(140737488355328:Nat))&&decide (D.length+(1:Nat)<=(4611686018427387904:Nat)))) (κ (D.length+1) (D.map encN++[AV.int IntKind.i64 n])) δ)
   (br (decide ((0:Int)<=IntKind.i64.wrap ((↑D.length:Int) - (1:Int)))&&decide (IntKind.i64.wrap ((↑D.length:Int) - (1:Int))<(↑D.length:Int))) (br (decide ((0:Nat)+(IntKind.i64.wrap ((↑D.length:Int) - (1:Int))).toNat<(D.map encN).length)&&xH4 (Sh.int IntKind.i64) (((D.map encN).getD ((0:Nat)+(IntKind.i64.wrap ((↑D.length:Int) - (1:Int))).toNat) AV.top).cells.getD (0:Nat) AV.top))
    (br ((((D.map encN).getD ((0:Nat)+(IntKind.i64.wrap ((↑D.length:Int) - (1:Int))).toNat) AV.top).cells.getD (0:Nat) AV.top).toInt != n) (br (D.length==(D.map encN).length&&(decide ((D.length+(1:Nat))*(8:Nat)<=(140737488355328:Nat))&&decide (D.length+(1:Nat)<=(4611686018427387904:Nat)))) (κ (D.length+1) (D.map encN++[AV.int IntKind.i64 n])) δ) (κ D.length (D.map encN))) δ) δ)=κ (xHm D n).length ((xHm D n).map encN):=by
 have c1:(D.length==(D.map encN).length&&(decide ((D.length+(1:Nat))*(8:Nat)<=(140737488355328:Nat))&&decide (D.length+(1:Nat)<=(4611686018427387904:Nat))))=true:=by
  simp only [za,beq_self_eq_true,Bool.true_and,zf,zl];omega
 rw [c1];rcases List.eq_nil_or_concat D with rfl|⟨D',d,rfl⟩
 . simp [xaj,xqJ,encN,sUF]
 . rw [List.concat_eq_append] at hD |-;have hl:(D'++[d]).length=D'.length+1:=by simp
   have w:IntKind.i64.wrap (((D'.length+1:Nat):Int) - 1)=(D'.length:Int):=by rw [xba (by omega) (by omega)];omega
   have h0:(((D'.length+1:Nat):Int)==0)=false:=by simp;omega
   have g1:(D'.length:Int)<((D'.length+1:Nat):Int):=by omega
   have hs:xH4 (Sh.int IntKind.i64) ((encN d).cells.getD 0 .top)=true:=rfl;have hi:((encN d).cells.getD 0 .top).toInt=d:=rfl;rw [xpv,hl,h0,w];simp only [zN,zH,gD,hs,hi,g1,za,hl,Int.natCast_nonneg,zn,zS,Bool.true_and,xaH,xaj,Nat.lt_succ_self,sUF];by_cases hd:d=n
   . subst hd;simp [xaH,sUF]
   . have:(d != n)=true:=by simpa using hd
     rw [this,if_neg hd];simp [xaj,encN,sUF]
section
variable {S T : List Per} {i k : Nat}
theorem mv7 (h:i<S.length):xhn (S.map encP) (i:Int)=true:=by
 unfold xhn;have:(i:Int)<(S.length:Int):=by omega
 simp [this,sUF]
theorem mv6 (h:i<S.length):xhm (S.map encP) (i:Int)=true:=by
 unfold xhm;have:(i:Int)<(S.length:Int):=by omega
 simp [this,sUF]
theorem mv3 (h:i<S.length):xhl (S.map encP) (i:Int)=true:=by
 unfold xhl;simp only [gS h,h,sBU,cP0,cP1,lP,sP,sP0,sP1]
theorem mv2 (h:i<S.length):xhk (S.map encP) (i:Int)=true:=by
 unfold xhk;simp only [gS h,h,sBU,cP0,cP1,lP,sP,sP0,sP1]
theorem mv11 (h:i<S.length):xe3 (S.map encP) (i:Int)=S[i].1:=by
 unfold xe3 xlO;simp only [gS h,sBU,cP0,cP1,lP,sP,sP0,sP1]
theorem mv10 (h:i<S.length):xe2 (S.map encP) (i:Int)=S[i].1:=by
 unfold xe2 xlO;simp only [gS h,sBU,cP0,cP1,lP,sP,sP0,sP1]
theorem xFN (hi:i<S.length) (hS:S.length<=1048576) (D:List Int) (hD:D.length<=1099511627776) (hk:k<=T.length) (h:∀ hk:k<T.length,S[i].1<=T[k].1) :
  xbP (S.map encP) (T.map encP) (D.length,(i:Int),(k:Int),D.map encN)=some (.inl ((xHm D S[i].1).length,((i+1:Nat):Int),(k:Int),(xHm D S[i].1).map encN)):=by
 have hw:IntKind.i64.wrap ((i:Int)+1)=((i+1:Nat):Int):=xHc (by omega)
 have hb:=xyA (T:=Option ((Nat×Int×Int×List AV)⊕(Nat×List AV))) (δ:=none) (fun m out=>some (.inl (m,((i+1:Nat):Int),(k:Int),out))) D hD S[i].1
 have c1:decide ((i:Int)<((S.map encP).length:Int))=true:=by simp;omega
 unfold xbP xf5 xeY xeZ xex xe0 xe1;dsimp only;rw [c1];simp only [xaj,sUF];rcases zJ k T.length with q|J
 . have c2:((k:Int)==((T.map encP).length:Int))=false:=by simp;omega
   have c8:xfw (S.map encP) (T.map encP) (i:Int) (k:Int)=true:=by
    unfold xfw;rw [mv11 hi,mv10 q];exact decide_eq_true (h q)
   rw [c2];simp only [xaj,xaH,sUF];rw [mv7 hi,mv3 hi,mv6 q,mv2 q,c8];simp only [xaj,sUF];unfold xj1;rw [mv11 hi,hw];exact hb
 . have c2:((k:Int)==((T.map encP).length:Int))=true:=by simp;omega
   rw [c2];simp only [xaj,sUF];rw [mv7 hi,mv3 hi];simp only [xaj,sUF];unfold xj1;rw [mv11 hi,hw];exact hb
theorem xFO (hk:k<T.length) (hT:T.length<=1048576) (D:List Int) (hD:D.length<=1099511627776) (hi:i<=S.length) (h:∀ hi:i<S.length,T[k].1<S[i].1) :
  xbP (S.map encP) (T.map encP) (D.length,(i:Int),(k:Int),D.map encN)=some (.inl ((xHm D T[k].1).length,(i:Int),((k+1:Nat):Int),(xHm D T[k].1).map encN)):=by
 have hw:IntKind.i64.wrap ((k:Int)+1)=((k+1:Nat):Int):=xHc (by omega)
 have hb:=xyA (T:=Option ((Nat×Int×Int×List AV)⊕(Nat×List AV))) (δ:=none) (fun m out=>some (.inl (m,(i:Int),((k+1:Nat):Int),out))) D hD T[k].1
 have c2:((k:Int)==((T.map encP).length:Int))=false:=by simp;omega
 have c3:decide ((k:Int)<((T.map encP).length:Int))=true:=by simp;omega
 unfold xbP xf5 xeY xeZ xex xe0 xe1;dsimp only;rcases zJ i S.length with q|J
 . have c1:decide ((i:Int)<((S.map encP).length:Int))=true:=by simp;omega
   have c8:xfw (S.map encP) (T.map encP) (i:Int) (k:Int)=false:=by
    unfold xfw;rw [mv11 q,mv10 hk];exact decide_eq_false (by have:=h q;omega)
   rw [c1,c2];simp only [xaj,xaH,sUF];rw [mv7 q,mv3 q,mv6 hk,mv2 hk,c8];simp only [xaj,xaH,sUF];unfold xj2;rw [mv10 hk,hw];exact hb
 . have c1:decide ((i:Int)<((S.map encP).length:Int))=false:=by simp;omega
   rw [c1];simp only [xaH,sUF];rw [c3];simp only [xaj,sUF]
   try rw [c2]
   try simp only [xaj,xaH,sUF]
   try rw [c1]
   try simp only [xaj,xaH,sUF]
   rw [mv6 hk,mv2 hk];simp only [xaj,sUF];unfold xj2;rw [mv10 hk,hw];exact hb
theorem xCG (D:List Int):xbP (S.map encP) (T.map encP) (D.length,(S.length:Int),(T.length:Int),D.map encN)=some (.inr (D.length,D.map encN)):=by
 have c1:decide ((S.length:Int)<((S.map encP).length:Int))=false:=by simp
 have c3:decide ((T.length:Int)<((T.map encP).length:Int))=false:=by simp
 unfold xbP xf5 xeY xeZ xex xe0 xe1;dsimp only;rw [c1];simp only [xaH,sUF];rw [c3];simp only [xaH,sUF]
end
theorem xCf (S T:List Per) (hS:S.length<=1048576) (hT:T.length<=1048576) (aS:S.Pairwise fun a b=>a.1<b.1) (aT:T.Pairwise fun a b=>a.1<b.1) :
  ∃ D:List Int,xb7 (S.map encP) (T.map encP)=some (D.map encN)/\Asc D/\(∀ x,x∈D↔(∃ s,s∈S/\s.1=x)\/∃ s,s∈T/\s.1=x)/\D.length<=S.length+T.length:=by
 have pS:=zB.1 aS;have pT:=zB.1 aT;obtain ⟨r,h1,D,rfl,h2,h3,h4⟩:=xpq (step:=xbP (S.map encP) (T.map encP)) (fun s=>∃ (i k:Nat) (D:List Int),s=(D.length,(i:Int),(k:Int),D.map encN)/\i<=S.length/\k<=T.length/\Asc D/\(∀ x,x∈D↔(∃ j,∃ hj:j<S.length,j<i/\S[j].1=x)\/∃ j,∃ hj:j<T.length,j<k/\T[j].1=x)/\(∀ x,x∈D->(∀ h:i<S.length,x<=S[i].1)/\∀ h:k<T.length,x<=T[k].1)/\D.length<=i+k) (fun s=>((S.length:Int) - s.2.1+((T.length:Int) - s.2.2.1)).toNat)
  (fun r=>∃ D:List Int,r=(D.length,D.map encN)/\Asc D/\(∀ x,x∈D↔(∃ s,s∈S/\s.1=x)\/∃ s,s∈T/\s.1=x)/\D.length<=S.length+T.length) (fun s hs=>by
   obtain ⟨i,k,D,rfl,hi,hk,hA,hm,Q,hl⟩:=hs;by_cases V:∃ h:i<S.length,∀ hk:k<T.length,S[i].1<=T[k].1
   . obtain ⟨O,q⟩:=V;left;refine ⟨_,xFN O hS D (by omega) hk q,⟨i+1,k,xHm D S[i].1,rfl,O,hk,xuq hA fun x hx=>(Q x hx).1 O,fun x=>?_,fun x hx=>?_,by have:=xur D S[i].1;omega⟩,by dsimp only;omega⟩
     . rw [xoo,hm];constructor
       . rintro ((⟨j,hj,W,e⟩|h)|rfl)
         . exact .inl ⟨j,hj,by omega,e⟩
         . exact .inr h
         . exact .inl ⟨i,O,by omega,rfl⟩
       . rintro (⟨j,hj,W,e⟩|h)
         . rcases zJ j i with h'|h'
           . exact .inl (.inl ⟨j,hj,h',e⟩)
           . have:j=i:=by omega
             subst this;exact .inr e.symm
         . exact .inl (.inr h)
     . have Y:x<=S[i].1:=by
        rcases xoo.1 hx with h|rfl
        . exact (Q x h).1 O
        . omega
       exact ⟨fun h=>by have:=pS i (i+1) O h (by omega);omega,fun h=>by have:=q h;omega⟩
   . by_cases J:k<T.length
     . left;have q:∀ hi:i<S.length,T[k].1<S[i].1:=fun h=>by
        rcases Int.lt_or_le T[k].1 S[i].1 with h'|h'
        . exact h'
        . exact absurd ⟨h,fun _=>h'⟩ V
       refine ⟨_,xFO J hT D (by omega) hi q,⟨i,k+1,xHm D T[k].1,rfl,hi,J,xuq hA fun x hx=>(Q x hx).2 J,fun x=>?_,fun x hx=>?_,by have:=xur D T[k].1;omega⟩,by dsimp only;omega⟩
       . rw [xoo,hm];constructor
         . rintro ((h|⟨j,hj,W,e⟩)|rfl)
           . exact .inl h
           . exact .inr ⟨j,hj,by omega,e⟩
           . exact .inr ⟨k,J,by omega,rfl⟩
         . rintro (h|⟨j,hj,W,e⟩)
           . exact .inl (.inl h)
           . rcases zJ j k with h'|h'
             . exact .inl (.inr ⟨j,hj,h',e⟩)
             . have:j=k:=by omega
               subst this;exact .inr e.symm
       . have Y:x<=T[k].1:=by
          rcases xoo.1 hx with h|rfl
          . exact (Q x h).2 J
          . omega
         exact ⟨fun h=>by have:=q h;omega,fun h=>by have:=pT k (k+1) J h (by omega);omega⟩
     . right;have aa:i=S.length:=by
        rcases zJ i S.length with h'|h'
        . exact absurd ⟨h',fun h=>absurd h J⟩ V
        . omega
       have Z:k=T.length:=by omega
       subst aa Z;refine ⟨_,xCG D,D,rfl,hA,fun x=>?_,hl⟩
       rw [hm];constructor
       . rintro (⟨j,hj,_,e⟩|⟨j,hj,_,e⟩)
         . exact .inl ⟨S[j],zo hj,e⟩
         . exact .inr ⟨T[j],zo hj,e⟩
       . rintro (⟨s,hs,e⟩|⟨s,hs,e⟩)
         . obtain ⟨j,hj,rfl⟩:=List.getElem_of_mem hs;exact .inl ⟨j,hj,hj,e⟩
         . obtain ⟨j,hj,rfl⟩:=List.getElem_of_mem hs;exact .inr ⟨j,hj,hj,e⟩) ((0:Nat),(0:Int),(0:Int),[]) ⟨0,0,[],rfl,zQ _,zQ _,List.Pairwise.nil,fun x=>by simp,fun x hx=>by simp at hx,zd _⟩
 refine ⟨D,?_,h2,h3,h4⟩;unfold xb7 xmZ xfV;rw [h1];simp [xaj,zi,sUF]
end Go.Sim.M
end
noncomputable section
set_option maxRecDepth 100000
namespace Go.Sim.M
open Go.RowKit Go.Sim.Srt
def xHh (N:Int->Int) (S:List Per):Prop:=StepI N 1099511627776 S\/(S=[]/\∀ t,N t=0)
def xHh.asc {N:Int->Int} {S:List Per} (h:xHh N S):S.Pairwise fun a b=>a.1<b.1:=by
 rcases h with h|⟨rfl,_⟩
 . exact h.asc
 . exact List.Pairwise.nil
def xEH (t:Int) (h0:0<=t) (h1:t<1099511627776):xb6 [] t=some 0:=by
 have e1:Iter (xaU [] t (([]:List AV).length:Int)) ((0:Int),(([]:List AV).length:Int))=some 0:=xaI (by
  simp [xaU,xbH,xaH,sUF])
 have e2:xem [] t=some (-1):=by
  unfold xem xlN xcv xd9;simp only [xbY,xa8,e1,sUF];simp [xaj,xaH,sUF];rw [xba (by omega) (by omega)]
 have g0:¬ t<0:=by omega
 have g1:¬ t>=1099511627776:=by omega
 unfold xb6 xnl;simp [g0,g1,e2,xaj,xaH,sUF]
def xHh.at {N:Int->Int} {S:List Per} (h:xHh N S) (hl:S.length<=1048576) {t:Int} (h0:0<=t) (h1:t<1099511627776):xb6 (S.map encP) t=some (N t):=by
 rcases h with h|⟨rfl,hz⟩
 . exact xsj h hl h0 h1
 . rw [hz];exact xEH t h0 h1
def xHh.chg {N:Int->Int} {S:List Per} (h:xHh N S) {t:Int} (h0:0<t) (h1:t<1099511627776) (hc:N (t - 1)≠N t):∃ s,s∈S/\s.1=t:=by
 rcases h with h|⟨rfl,hz⟩
 . exact ⟨(t,N t),(h.mem (t,N t)).2 ⟨by simp only;omega,h1,rfl,.inr hc⟩,rfl⟩
 . rw [hz,hz] at hc;exact absurd rfl hc
def xHh.rng {N:Int->Int} {S:List Per} (h:xHh N S) {s:Per} (hs:s∈S):0<=s.1/\s.1<1099511627776:=by
 rcases h with h|⟨rfl,_⟩
 . have:=(h.mem s).1 hs;exact ⟨this.1,this.2.1⟩
 . simp at hs
def xvw {F:Int->Int}:∀ (D:List Int),Asc D->∀ (T:Int) (S:List Per),StepI F T S->(0<T->∀ x,x∈D->T<=x)->0<=T->(T=0->(∃ x,D.head?=some x/\x=0)\/D=[])->(∀ x,x∈D->x<1099511627776)->(∀ t,T<=t->0<t->t<1099511627776->F (t - 1)≠F t->t∈D)->(D=[]->0<T)->T<=1099511627776 ->
  StepI F 1099511627776 (D.foldl (fun S x=>putS S x (F x)) S)
 | [],_,T,S,hS,_,_,_,_,hch,hne,hT=>by
  have q:=hne rfl;simp only [List.foldl_nil];rcases Int.lt_or_le T 1099511627776 with V|ac
  . have hc:∀ d:Nat,T+d<=1099511627776 - 1->F (T+d)=F (T - 1):=by
     intro d;induction d with
     | zero =>
      intro h;have h2:¬ F (T - 1)≠F T:=fun hx=>by have:=hch T (Int.le_refl T) q V hx;simp at this
      simp only [ne_eq,Decidable.not_not] at h2;simp [h2]
     | succ d ih =>
      intro h;have ih:=ih (by omega)
      have h2:¬ F (T+(d+1:Nat) - 1)≠F (T+(d+1:Nat)):=fun hx=>by have:=hch (T+(d+1:Nat)) (by omega) (by omega) (by omega) hx;simp at this
      simp only [ne_eq,Decidable.not_not] at h2;rw [<-h2,show T+((d+1:Nat):Int) - 1=T+d by omega,ih]
    have hF:∀ t,T - 1<=t->t<1099511627776->F t=F (T - 1):=fun t h1 h2=>by
     rcases Int.lt_or_le t T with h3|h3
     . rw [show t=T - 1 by omega]
     . have:=hc (t - T).toNat (by omega)
       rw [show T+((t - T).toNat:Int)=t by omega] at this
       exact this
    refine ⟨hS.asc,fun s=>?_,fun _=>?_⟩
    . rw [hS.mem];constructor
      . rintro ⟨a,b,c,d⟩;exact ⟨a,by omega,c,d⟩
      . rintro ⟨a,b,c,d⟩;refine ⟨a,?_,c,d⟩;rcases Int.lt_or_le s.1 T with h3|h3
        . exact h3
        . exfalso;rcases d with d|d
          . omega
          . have e1:=hF s.1 (by omega) b
            have e2:=hF (s.1 - 1) (by omega) (by omega)
            rw [c,e1] at d;exact d e2
    . obtain ⟨S',f,hf⟩:=hS.last q;refine ⟨S',f,?_⟩;rw [hF (1099511627776 - 1) (by omega) (by omega)]
      exact hf
  . have:T=1099511627776:=by omega
    rw [this] at hS;exact hS
 | x::D,hA,T,S,hS,hle,h0,hz,hx,hch,hne,hT=>by
  rw [List.foldl_cons];have Z:0<=x:=by
   rcases Int.lt_or_le 0 T with h|h
   . have:=hle h x (by simp);omega
   . have q:T=0:=by omega
     rcases hz q with ⟨y,hy,rfl⟩|h'
     . simp at hy;omega
     . cases h'
  have ab:T<=x:=by
   rcases Int.lt_or_le 0 T with h|h
   . exact hle h x (by simp)
   . omega
  have V:=hx x (by simp)
  have J:∀ t,T<=t->0<t->t<x->F (t - 1)=F t:=fun t h1 h2 h3=>by
   have h4:¬ F (t - 1)≠F t:=fun hc=>by
    have hm:=hch t h1 h2 (by omega) hc
    rcases zC.1 hm with rfl|hm
    . omega
    . have:=(zM.1 hA).1 t hm;omega
   simpa using h4
  have Y:StepI F x S\/(x=0/\T=0):=by
   rcases Int.lt_or_le 0 T with Q|aa
   . left;have hF:∀ d:Nat,T+d<=x->F (T+d - 1)=F (T - 1):=by
      intro d;induction d with
      | zero=>intro _;simp
      | succ d ih =>
       intro h;have ih:=ih (by omega)
       have:=J (T+d) (by omega) (by omega) (by omega)
       rw [show T+((d+1:Nat):Int) - 1=T+d by omega,<-this,ih]
     have O:∀ t,T - 1<=t->t<x->F t=F (T - 1):=fun t h1 h2=>by
      have:=hF (t+1 - T).toNat (by omega)
      rw [show T+((t+1 - T).toNat:Int) - 1=t by omega] at this
      exact this
     refine ⟨hS.asc,fun s=>?_,fun _=>?_⟩
     . rw [hS.mem];constructor
       . rintro ⟨a,b,c,d⟩;exact ⟨a,by omega,c,d⟩
       . rintro ⟨a,b,c,d⟩;refine ⟨a,?_,c,d⟩;rcases Int.lt_or_le s.1 T with h3|h3
         . exact h3
         . exfalso;rcases d with d|d
           . omega
           . have e1:=O s.1 (by omega) b
             have e2:=O (s.1 - 1) (by omega) (by omega)
             rw [c,e1] at d;exact d e2
     . obtain ⟨S',f,hf⟩:=hS.last Q;refine ⟨S',f,?_⟩;rw [O (x - 1) (by omega) (by omega)]
       exact hf
   . have q:T=0:=by omega
     rcases hz q with ⟨y,hy,rfl⟩|h'
     . simp at hy;exact .inr ⟨by omega,q⟩
     . cases h'
  have W:StepI F (x+1) (putS S x (F x)):=by
   rcases Y with h|⟨h,q⟩
   . exact h.put Z (by omega) fun t h1 h2=>by rw [show t=x by omega]
   . subst h;rw [q] at hS;exact hS.put (Int.le_refl 0) (by omega) fun t h1 h2=>by rw [show t=0 by omega]
  exact xvw D (zM.1 hA).2 (x+1) _ W (fun _ y hy=>by have:=(zM.1 hA).1 y hy;omega) (by omega) (fun h=>by omega) (fun y hy=>hx y (by simp [hy])) (fun t h1 h2 h3 hc=>by
   have hm:=hch t (by omega) h2 h3 hc
   rcases zC.1 hm with rfl|hm
   . omega
   . exact hm) (fun _=>by omega) (by omega)
def xi6 {F:Int->Int}:∀ (D:List Int) (S:List Per),(D.foldl (fun S x=>putS S x (F x)) S).length<=S.length+D.length
 | [],S=>by simp
 | x::D,S=>by
  rw [List.foldl_cons];have h1:=xi6 (F:=F) D (putS S x (F x));have h2:=xl1 S x (F x);rw [zF];omega
def xol {N M:Int->Int} {S T:List Per} (hS:StepI N 1099511627776 S) (hT:xHh M T) (lS:S.length<=1048576) (lT:T.length<=1048576) {F:Int->Int} (hF:∀ t,F (t - 1)≠F t->N (t - 1)≠N t\/M (t - 1)≠M t) :
  ∃ D:List Int,xb7 (S.map encP) (T.map encP)=some (D.map encN)/\D.length<=S.length+T.length/\(∀ x,x∈D->0<=x/\x<1099511627776)/\StepI F 1099511627776 (D.foldl (fun S x=>putS S x (F x)) []):=by
 obtain ⟨D,h1,h2,h3,h4⟩:=xCf S T lS lT hS.asc hT.asc;have hr:∀ x,x∈D->0<=x/\x<1099511627776:=fun x hx=>by
  rcases (h3 x).1 hx with ⟨s,hs,rfl⟩|⟨s,hs,rfl⟩
  . have:=(hS.mem s).1 hs;exact ⟨this.1,this.2.1⟩
  . exact hT.rng hs
 obtain ⟨hp,hf⟩:=hS.first
 have h0:(0:Int)∈D:=(h3 0).2 (.inl ⟨S[0],zo hp,hf⟩);refine ⟨D,h1,h4,hr,xvw D h2 0 [] (.nil F) (fun h=>by omega) (Int.le_refl 0) (fun _=>.inl ?_) (fun x hx=>(hr x hx).2) (fun t ht J q hc=>?_) (fun h=>by rw [h] at h0;simp at h0) (by omega)⟩
 . cases D with
   | nil=>simp at h0
   | cons x D =>
    refine ⟨x,rfl,?_⟩;rcases zC.1 h0 with h|h
    . exact h.symm
    . have:=(zM.1 h2).1 0 h;have:=(hr x (by simp)).1
      omega
 . rcases hF t hc with h|h
   . exact (h3 t).2 (.inl ⟨(t,N t),(hS.mem (t,N t)).2 ⟨by simp only;omega,q,rfl,.inr h⟩,rfl⟩)
   . obtain ⟨s,hs,e⟩:=hT.chg J q h;exact (h3 t).2 (.inr ⟨s,hs,e⟩)
def xyn {N M:Int->Int} {S T:List Per} (hS:StepI N 1099511627776 S) (hT:xHh M T) (lS:S.length<=1048576) (lT:T.length<=1048576) {F:Int->Int} (hF:∀ t,xlI (N t) (M t)=F t) (D:List Int) (hD:∀ x,x∈D->0<=x/\x<1099511627776) (hl:D.length<=2097152):∀ (d k:Nat) (out:List Per),k+d=D.length->out.length<=k ->
  Iter (xcy (S.map encP) (T.map encP) (D.map encN) ((D.length:Nat):Int)) (out.length,(k:Int),out.map encP)=some (((D.drop k).foldl (fun S x=>putS S x (F x)) out).length,((D.drop k).foldl (fun S x=>putS S x (F x)) out).map encP)
 | 0,k,out,hk,ho=>by
  have:k=D.length:=by omega
  subst this;refine xaI ?_;simp [xcy,xfK,xaH,sUF]
 | d+1,k,out,hk,ho=>by
  have q:k<D.length:=by omega
  obtain ⟨h0,h1⟩:=hD D[k] (zo q);have a1:=xsj hS lS h0 h1;have a2:=hT.at lT h0 h1;obtain ⟨p,p1,p2,p3⟩:=xo5 out D[k] (F D[k]) (by omega)
  have p1:xbB out.length D[k] (F D[k]) (out.map encP)=some p:=p1;have gf:(D.map encN).getD k .top=encN D[k]:=xaK _ _ _ q;have i1:(k:Int)<(D.length:Int):=by omega
  have e:D.drop k=D[k]::D.drop (k+1):=List.drop_eq_getElem_cons q;rw [e,List.foldl_cons,<-xyn hS hT lS lT hF D hD hl d (k+1) (putS out D[k] (F D[k])) (by omega) (by have:=xl1 out D[k] (F D[k]);omega)]
  refine xaT ?_;rw [<-p2,<-p3];simp only [xcy,xfK,xck,xhI,sBU,q,i1,gf,cN,sN,a1,a2,hF,p1,xHc (n:=k) (by omega)]
def xE9 {N M:Int->Int} {S T:List Per} (hS:StepI N 1099511627776 S) (hT:xHh M T) (lS:S.length<=1048576) (lT:T.length<=1048576) {F:Int->Int} (hF:∀ t,xlI (N t) (M t)=F t) :
  ∃ U:List Per,xiQ (S.map encP) (T.map encP)=some (U.map encP)/\StepI F 1099511627776 U/\U.length<=S.length+T.length:=by
 obtain ⟨D,h1,h2,h3,h4⟩:=xol hS hT lS lT (F:=F) (fun t h=>by
  by_cases hc:N (t - 1)=N t
  . right;intro h5;refine h ?_;rw [<-hF,<-hF,hc,h5]
  . exact .inl hc)
 refine ⟨_,?_,h4,by have:=xi6 (F:=F) D [];simp at this;omega⟩
 have q:=xyn hS hT lS lT hF D h3 (by omega) D.length 0 [] (by omega) (by simp)
 rw [zr] at q;have q:Iter (xcy (S.map encP) (T.map encP) (D.map encN) ((D.length:Nat):Int)) ((0:Nat),(0:Int),[])=_:=q;obtain ⟨hp,_⟩:=h4.first
 generalize D.foldl (fun S x=>putS S x (F x)) []=U at q hp
 have g0:(((U.length:Nat):Int)==0)=false:=by simp;intro h;rw [h] at hp;simp at hp
 unfold xiQ xjY xd3 xjo;simp only [h1,zk,zh,xaj,za,q,g0,xaH,sUF];simp [xaj,zi,sUF]
def xyq {N M:Int->Int} {S T:List Per} (hS:StepI N 1099511627776 S) (hT:xHh M T) (lS:S.length<=1048576) (lT:T.length<=1048576) {F:Int->Int} (hF:∀ t,xlM (N t) (M t)=F t) (D:List Int) (hD:∀ x,x∈D->0<=x/\x<1099511627776) (hl:D.length<=2097152):∀ (d k:Nat) (out:List Per),k+d=D.length->out.length<=k ->
  Iter (xcB (S.map encP) (T.map encP) (D.map encN) ((D.length:Nat):Int)) (out.length,(k:Int),out.map encP)=some (((D.drop k).foldl (fun S x=>putS S x (F x)) out).length,((D.drop k).foldl (fun S x=>putS S x (F x)) out).map encP)
 | 0,k,out,hk,ho=>by
  have:k=D.length:=by omega
  subst this;refine xaI ?_;simp [xcB,xfN,xaH,sUF]
 | d+1,k,out,hk,ho=>by
  have q:k<D.length:=by omega
  obtain ⟨h0,h1⟩:=hD D[k] (zo q);have a1:=xsj hS lS h0 h1;have a2:=hT.at lT h0 h1;obtain ⟨p,p1,p2,p3⟩:=xo5 out D[k] (F D[k]) (by omega)
  have p1:xbB out.length D[k] (F D[k]) (out.map encP)=some p:=p1;have gf:(D.map encN).getD k .top=encN D[k]:=xaK _ _ _ q;have i1:(k:Int)<(D.length:Int):=by omega
  have e:D.drop k=D[k]::D.drop (k+1):=List.drop_eq_getElem_cons q;rw [e,List.foldl_cons,<-xyq hS hT lS lT hF D hD hl d (k+1) (putS out D[k] (F D[k])) (by omega) (by have:=xl1 out D[k] (F D[k]);omega)]
  refine xaT ?_;rw [<-p2,<-p3];simp only [xcB,xfN,xcn,xhL,sBU,q,i1,gf,cN,sN,a1,a2,hF,p1,xHc (n:=k) (by omega)]
def xFc {N M:Int->Int} {S T:List Per} (hS:StepI N 1099511627776 S) (hT:xHh M T) (lS:S.length<=1048576) (lT:T.length<=1048576) {F:Int->Int} (hF:∀ t,xlM (N t) (M t)=F t) :
  ∃ U:List Per,xiS (S.map encP) (T.map encP)=some (U.map encP)/\StepI F 1099511627776 U/\U.length<=S.length+T.length:=by
 obtain ⟨D,h1,h2,h3,h4⟩:=xol hS hT lS lT (F:=F) (fun t h=>by
  by_cases hc:N (t - 1)=N t
  . right;intro h5;refine h ?_;rw [<-hF,<-hF,hc,h5]
  . exact .inl hc)
 refine ⟨_,?_,h4,by have:=xi6 (F:=F) D [];simp at this;omega⟩
 have q:=xyq hS hT lS lT hF D h3 (by omega) D.length 0 [] (by omega) (by simp)
 rw [zr] at q;have q:Iter (xcB (S.map encP) (T.map encP) (D.map encN) ((D.length:Nat):Int)) ((0:Nat),(0:Int),[])=_:=q;obtain ⟨hp,_⟩:=h4.first
 generalize D.foldl (fun S x=>putS S x (F x)) []=U at q hp
 have g0:(((U.length:Nat):Int)==0)=false:=by simp;intro h;rw [h] at hp;simp at hp
 unfold xiS xj0 xd6 xjr;simp only [h1,zk,zh,xaj,za,q,g0,xaH,sUF];simp [xaj,zi,sUF]
def xyp {N M:Int->Int} {S T:List Per} (hS:StepI N 1099511627776 S) (hT:xHh M T) (lS:S.length<=1048576) (lT:T.length<=1048576) {F:Int->Int} (hF:∀ t,xlL (N t) (M t)=F t) (D:List Int) (hD:∀ x,x∈D->0<=x/\x<1099511627776) (hl:D.length<=2097152):∀ (d k:Nat) (out:List Per),k+d=D.length->out.length<=k ->
  Iter (xcA (S.map encP) (T.map encP) (D.map encN) ((D.length:Nat):Int)) (out.length,(k:Int),out.map encP)=some (((D.drop k).foldl (fun S x=>putS S x (F x)) out).length,((D.drop k).foldl (fun S x=>putS S x (F x)) out).map encP)
 | 0,k,out,hk,ho=>by
  have:k=D.length:=by omega
  subst this;refine xaI ?_;simp [xcA,xfM,xaH,sUF]
 | d+1,k,out,hk,ho=>by
  have q:k<D.length:=by omega
  obtain ⟨h0,h1⟩:=hD D[k] (zo q);have a1:=xsj hS lS h0 h1;have a2:=hT.at lT h0 h1;obtain ⟨p,p1,p2,p3⟩:=xo5 out D[k] (F D[k]) (by omega)
  have p1:xbB out.length D[k] (F D[k]) (out.map encP)=some p:=p1;have gf:(D.map encN).getD k .top=encN D[k]:=xaK _ _ _ q;have i1:(k:Int)<(D.length:Int):=by omega
  have e:D.drop k=D[k]::D.drop (k+1):=List.drop_eq_getElem_cons q;rw [e,List.foldl_cons,<-xyp hS hT lS lT hF D hD hl d (k+1) (putS out D[k] (F D[k])) (by omega) (by have:=xl1 out D[k] (F D[k]);omega)]
  refine xaT ?_;rw [<-p2,<-p3];simp only [xcA,xfM,xcm,xhK,sBU,q,i1,gf,cN,sN,a1,a2,hF,p1,xHc (n:=k) (by omega)]
def xFb {N M:Int->Int} {S T:List Per} (hS:StepI N 1099511627776 S) (hT:xHh M T) (lS:S.length<=1048576) (lT:T.length<=1048576) {F:Int->Int} (hF:∀ t,xlL (N t) (M t)=F t) :
  ∃ U:List Per,xiR (S.map encP) (T.map encP)=some (U.map encP)/\StepI F 1099511627776 U/\U.length<=S.length+T.length:=by
 obtain ⟨D,h1,h2,h3,h4⟩:=xol hS hT lS lT (F:=F) (fun t h=>by
  by_cases hc:N (t - 1)=N t
  . right;intro h5;refine h ?_;rw [<-hF,<-hF,hc,h5]
  . exact .inl hc)
 refine ⟨_,?_,h4,by have:=xi6 (F:=F) D [];simp at this;omega⟩
 have q:=xyp hS hT lS lT hF D h3 (by omega) D.length 0 [] (by omega) (by simp)
 rw [zr] at q;have q:Iter (xcA (S.map encP) (T.map encP) (D.map encN) ((D.length:Nat):Int)) ((0:Nat),(0:Int),[])=_:=q;obtain ⟨hp,_⟩:=h4.first
 generalize D.foldl (fun S x=>putS S x (F x)) []=U at q hp
 have g0:(((U.length:Nat):Int)==0)=false:=by simp;intro h;rw [h] at hp;simp at hp
 unfold xiR xjx xd5 xjq;simp only [h1,zk,zh,xaj,za,q,g0,xaH,sUF];simp [xaj,zi,sUF]
def xyo {N M:Int->Int} {S T:List Per} (hS:StepI N 1099511627776 S) (hT:xHh M T) (lS:S.length<=1048576) (lT:T.length<=1048576) {F:Int->Int} (hF:∀ t,xkd (N t) (M t)=F t) (D:List Int) (hD:∀ x,x∈D->0<=x/\x<1099511627776) (hl:D.length<=2097152):∀ (d k:Nat) (out:List Per),k+d=D.length->out.length<=k ->
  Iter (xcz (S.map encP) (T.map encP) (D.map encN) ((D.length:Nat):Int)) (out.length,(k:Int),out.map encP)=some (((D.drop k).foldl (fun S x=>putS S x (F x)) out).length,((D.drop k).foldl (fun S x=>putS S x (F x)) out).map encP)
 | 0,k,out,hk,ho=>by
  have:k=D.length:=by omega
  subst this;refine xaI ?_;simp [xcz,xfL,xaH,sUF]
 | d+1,k,out,hk,ho=>by
  have q:k<D.length:=by omega
  obtain ⟨h0,h1⟩:=hD D[k] (zo q);have a1:=xsj hS lS h0 h1;have a2:=hT.at lT h0 h1;obtain ⟨p,p1,p2,p3⟩:=xo5 out D[k] (F D[k]) (by omega)
  have p1:xbB out.length D[k] (F D[k]) (out.map encP)=some p:=p1;have gf:(D.map encN).getD k .top=encN D[k]:=xaK _ _ _ q;have i1:(k:Int)<(D.length:Int):=by omega
  have e:D.drop k=D[k]::D.drop (k+1):=List.drop_eq_getElem_cons q;rw [e,List.foldl_cons,<-xyo hS hT lS lT hF D hD hl d (k+1) (putS out D[k] (F D[k])) (by omega) (by have:=xl1 out D[k] (F D[k]);omega)]
  refine xaT ?_;rw [<-p2,<-p3];simp only [xcz,xfL,xcl,xhJ,sBU,q,i1,gf,cN,sN,a1,a2,hF,p1,xHc (n:=k) (by omega)]
def xFa {N M:Int->Int} {S T:List Per} (hS:StepI N 1099511627776 S) (hT:xHh M T) (lS:S.length<=1048576) (lT:T.length<=1048576) {F:Int->Int} (hF:∀ t,xkd (N t) (M t)=F t) :
  ∃ U:List Per,xgX (S.map encP) (T.map encP)=some (U.map encP)/\StepI F 1099511627776 U/\U.length<=S.length+T.length:=by
 obtain ⟨D,h1,h2,h3,h4⟩:=xol hS hT lS lT (F:=F) (fun t h=>by
  by_cases hc:N (t - 1)=N t
  . right;intro h5;refine h ?_;rw [<-hF,<-hF,hc,h5]
  . exact .inl hc)
 refine ⟨_,?_,h4,by have:=xi6 (F:=F) D [];simp at this;omega⟩
 have q:=xyo hS hT lS lT hF D h3 (by omega) D.length 0 [] (by omega) (by simp)
 rw [zr] at q;have q:Iter (xcz (S.map encP) (T.map encP) (D.map encN) ((D.length:Nat):Int)) ((0:Nat),(0:Int),[])=_:=q;obtain ⟨hp,_⟩:=h4.first
 generalize D.foldl (fun S x=>putS S x (F x)) []=U at q hp
 have g0:(((U.length:Nat):Int)==0)=false:=by simp;intro h;rw [h] at hp;simp at hp
 unfold xgX xjZ xd4 xjp;simp only [h1,zk,zh,xaj,za,q,g0,xaH,sUF];simp [xaj,zi,sUF]
def xEG {N M:Int->Int} {S T:List Per} (hS:StepI N 1099511627776 S) (hT:StepI M 1099511627776 T) (lS:S.length<=1048576) (lT:T.length<=1048576) (hN:∀ t,0<=N t/\N t<=1048576) (hM:∀ t,0<=M t/\M t<=1048576) :
  ∃ U:List Per,xmE (S.map encP) (T.map encP)=some (U.map encP)/\StepI (fun t=>N t+M t) 1099511627776 U/\U.length<=S.length+T.length:=by
 obtain ⟨U,h1,h2,h3⟩:=xE9 hS (.inl hT) lS lT (F:=fun t=>N t+M t) (fun t=>by
  have:=hN t;have:=hM t;unfold xlI;rw [xba (by omega) (by omega)])
 refine ⟨U,?_,h2,h3⟩;unfold xmE xoO;simp only [h1,zk,zh,xaj,sUF]
def xFw {N M:Int->Int} {S T:List Per} (hS:StepI N 1099511627776 S) (hT:StepI M 1099511627776 T) (lS:S.length<=1048576) (lT:T.length<=1048576) :
  ∃ U:List Per,xmG (S.map encP) (T.map encP)=some (U.map encP)/\StepI (fun t=>min (N t) (M t)) 1099511627776 U/\U.length<=S.length+T.length:=by
 obtain ⟨U,h1,h2,h3⟩:=xFb hS (.inl hT) lS lT (F:=fun t=>min (N t) (M t)) (fun t=>by
  unfold xlL;split<;>omega)
 refine ⟨U,?_,h2,h3⟩;unfold xmG xoP;simp only [h1,zk,zh,xaj,sUF]
def xFi {N M:Int->Int} {S T:List Per} (hS:StepI N 1099511627776 S) (hT:StepI M 1099511627776 T) (lS:S.length<=262144) (lT:T.length<=262144) (hN:∀ t,0<=N t/\N t<=1048576) (hM:∀ t,0<=M t/\M t<=1048576) :
  ∃ U:List Per,xhz (S.map encP) (T.map encP)=some (U.map encP)/\StepI (fun t=>max (N t - M t) 0) 1099511627776 U/\U.length<=S.length+T.length:=by
 obtain ⟨U,h1,h2,h3⟩:=xFc hS (.inl hT) (by omega) (by omega) (F:=fun t=>N t - M t) (fun t=>by
  have:=hN t;have:=hM t;unfold xlM;rw [xba (by omega) (by omega)])
 obtain ⟨V,g1,g2,g3⟩:=xFa h2 (T:=[]) (M:=fun _=>0) (.inr ⟨rfl,fun _=>rfl⟩) (by omega) (by simp) (F:=fun t=>max (N t - M t) 0) (fun t=>by
  unfold xkd;split<;>omega)
 refine ⟨V,?_,g2,by simp at g3;omega⟩
 have g1:xgX (U.map encP) []=some (V.map encP):=g1;have e1:xmH (S.map encP) (T.map encP)=some (U.map encP):=by
  unfold xmH xoS;simp only [h1,zk,zh,xaj,sUF]
 have e2:xnm (U.map encP)=some (V.map encP):=by
  unfold xnm xn7;simp only [g1,zk,zh,xaj,sUF]
 unfold xhz xkA;simp only [e1,e2,zk,zh,xaj,sUF]
def xv7 (t8:List AV) (t9 q:Int) (xs:List AV) (hx:xs.length=3) (j:Nat) (hj:j<3) (n:Int) (hn:xs.getD j .top=.int .i64 n) (h1:-9223372036854775808<=n) (h2:n<=9223372036854775807) (v0 v1:Int) (v2 B:List UInt8) (hB:B.length<=70368744177664) :
  xcc t8 t9 q 3 3 ((j:Int),B.length,v0,v1,v2,xs,byteAVs B)=some (.inl (((j+1:Nat):Int),(B++numI n).length,v0,v1,v2,xs,byteAVs (B++numI n))):=by
 have hl:=Lib.itoa_length_le n h1 h2;have i1:(j:Int)<3:=by omega
 have i2:(j:Int)<((3:Nat):Int):=by omega
 have i3:j<xs.length:=by omega
 have e1:=xnt (Lib.itoa n) B (by rw [z8];omega)
 have e2:=xpN (B++Lib.itoa n) (by rw [z8,z8,zj];omega)
 have hc:((AV.int IntKind.i64 n).cells.getD 0 .top).toInt=n:=rfl;have hs:xH4 (Sh.int IntKind.i64) ((AV.int IntKind.i64 n).cells.getD 0 .top)=true:=rfl;simp only [xcc,xjP,xlA,xlB,xlC,xgC,sBU,i1,i2,i3,hn,hc,hs,h1,h2,e1,e2,xHc (n:=j) (by omega),numI,zw]
def xCD (t8:List AV) (t9 q:Int) (xs:List AV) (v0 v1:Int) (v2 B:List UInt8):xcc t8 t9 q 3 3 (((3:Nat):Int),B.length,v0,v1,v2,xs,byteAVs B)=some (.inr (B.length,v0,v1,v2,byteAVs B)):=by
 have i1:¬ ((3:Nat):Int)<3:=by omega
 simp only [xcc,xjP,i1,zm,xaH,sUF]
def xv6 (t8:List AV) (t9 q:Int) (v:Val) (h:KOk v) (B:List UInt8) (hB:B.length<=35184372088832) :
  Iter (xcc t8 t9 q 3 3) ((1:Int),(B++numI v.k).length,v.k,v.i,v.t,[AV.int .i64 v.k,AV.int .i64 v.i,AV.int .i64 (v.t.length:Int)],byteAVs (B++numI v.k))=some ((B++numI v.k++numI v.i++numI (v.t.length:Int)).length,v.k,v.i,v.t,byteAVs (B++numI v.k++numI v.i++numI (v.t.length:Int))):=by
 have hl:=h.len;have ht:=h.2;rw [xlx,z8,z8,z8] at hl;have e1:=xv7 t8 t9 q [AV.int .i64 v.k,AV.int .i64 v.i,AV.int .i64 (v.t.length:Int)] rfl 1 (by omega) v.i rfl (xHp h.1.2.1).1 (xHp h.1.2.1).2 v.k v.i v.t (B++numI v.k) (by rw [z8];omega)
 have e2:=xv7 t8 t9 q [AV.int .i64 v.k,AV.int .i64 v.i,AV.int .i64 (v.t.length:Int)] rfl 2 (by omega) (v.t.length:Int) rfl (by omega) (by omega) v.k v.i v.t (B++numI v.k++numI v.i) (by rw [z8,z8];omega)
 exact (xaT e1).trans ((xaT e2).trans (xaI (xCD ..)))
def xDY (t8:List AV) (t9 q:Int) (v:Val) (h:KOk v) (B:List UInt8) (hB:B.length<=35184372088832) :
  Iter (xcc t8 t9 q 3 3) ((0:Int),B.length,v.k,v.i,v.t,[AV.int .i64 v.k,AV.int .i64 v.i,AV.int .i64 (v.t.length:Int)],byteAVs B)=some ((B++numI v.k++numI v.i++numI (v.t.length:Int)).length,v.k,v.i,v.t,byteAVs (B++numI v.k++numI v.i++numI (v.t.length:Int))):=by
 have e0:=xv7 t8 t9 q [AV.int .i64 v.k,AV.int .i64 v.i,AV.int .i64 (v.t.length:Int)] rfl 0 (by omega) v.k rfl (xHp h.1.1).1 (xHp h.1.1).2 v.k v.i v.t B (by omega)
 exact (xaT e0).trans (xv6 t8 t9 q v h B hB)
def xyH (r:Row) (hr:r.length<=1048576) (h:∀ v,v∈r->KOk v) (hk:(keyOf r).length<=17592186044416):∀ d k:Nat,k+d=r.length->Iter (xeq (r.map encV) ((r.length:Nat):Int)) ((k:Int),(keyOf (r.take k)).length,byteAVs (keyOf (r.take k)))=some ((keyOf r).length,byteAVs (keyOf r))
 | 0,k,hkk=>by
  obtain rfl:k=r.length:=by omega
  rw [y6];refine xaI ?_;simp only [xeq,xjO,zy,zm,xaH,sUF]
 | d+1,k,hkk=>by
  have q:k<r.length:=by omega
  have hv:=h r[k] (zo q);have i1:(k:Int)<(r.length:Int):=by omega
  have gf:(r.map encV).getD k .top=encV r[k]:=xaK _ _ _ q;have tk:keyOf (r.take (k+1))=keyOf (r.take k)++keyV r[k]:=by
   unfold keyOf;rw [List.take_add_one,ze q,List.flatMap_append];simp
  have le:(keyOf (r.take (k+1))).length<=(keyOf r).length:=by
   conv=>rhs;rw [<-List.take_append_drop (k+1) r]
   unfold keyOf;rw [List.flatMap_append,z8];omega
  have hl:=hv.len;rw [tk,z8] at le;have e1:=xDY (r.map encV) (r.length:Int) (k:Int) r[k] hv (keyOf (r.take k)) (by omega)
  have kn:keyOf (r.take k)++keyV r[k]=keyOf (r.take k)++numI r[k].k++numI r[k].i++numI (r[k].t.length:Int)++r[k].t:=by rw [xlx];simp only [zw]
  have e2:=xnt r[k].t (keyOf (r.take k)++numI r[k].k++numI r[k].i++numI (r[k].t.length:Int)) (by rw [<-kn,z8];omega)
  rw [xaT (s':=(((k+1:Nat):Int),(keyOf (r.take (k+1))).length,byteAVs (keyOf (r.take (k+1))))) ?_]
  . exact xyH r hr h hk d (k+1) (by omega)
  . rw [tk,kn];simp only [xeq,xjO,xlw,xly,xiJ,xlz,sBU,q,i1,gf,cV0,cV1,cV2,lV,sV,e1,e2,xHc (n:=k) (by omega)]
def xtJ (r:Row) (hr:r.length<=1048576) (h:∀ v,v∈r->KOk v) (hk:(keyOf r).length<=17592186044416):xa0 (r.map encV)=some (keyOf r):=by
 match r with
 | []=>rfl
 | v::t =>
  have hv:=h v (by simp)
  have hl:=hv.len;have i1:(0:Int)<((t.length+1:Nat):Int):=by omega
  have i2:0<t.length+1:=by omega
  obtain ⟨r1,r2⟩:=xHp hv.1.1;have q:=Lib.itoa_length_le v.k r1 r2;have gf:((v::t).map encV).getD 0 .top=encV v:=rfl;have e0:xax (Lib.itoa v.k)=some (((Lib.itoa v.k).length:Int),(Lib.itoa v.k).length,byteAVs (Lib.itoa v.k)):=by
   have m1:(Lib.itoa v.k).length<=140737488355328:=by omega
   have m2:(Lib.itoa v.k).length<=4611686018427387904:=by omega
   unfold xax xcJ;simp only [xfS,Nat.mul_one,m1,m2,zn,Bool.and_self,xaj,sUF]
  have e1:xdz 32 (Lib.itoa v.k).length (byteAVs (Lib.itoa v.k))=some (([]++numI v.k).length,byteAVs ([]++numI v.k)):=xpN (Lib.itoa v.k) (by rw [z8,zj];omega)
  have e2:=xv6 ((v::t).map encV) ((t.length+1:Nat):Int) 0 v hv [] (by simp)
  have kn:keyV v=[]++numI v.k++numI v.i++numI (v.t.length:Int)++v.t:=by rw [xlx];simp
  have e3:=xnt v.t ([]++numI v.k++numI v.i++numI (v.t.length:Int)) (by rw [<-kn];omega)
  rw [<-kn] at e3;have e4:=xyH (v::t) hr h hk t.length 1 (by rw [zF];omega)
  have tk:keyOf ((v::t).take 1)=keyV v:=by simp [keyOf]
  rw [tk,zF] at e4;have e4:Iter (xeq ((v::t).map encV) ((t.length+1:Nat):Int)) ((1:Int),(keyV v).length,byteAVs (keyV v))=_:=e4;have hne:(keyOf (v::t)).length≠0:=fun e=>xq4 v (keyOf t) (by rw [<-xjy];exact List.length_eq_zero_iff.1 e)
  unfold xa0 xoN xhA xnX xnY xnZ xlD xnx xn0 xn1 xev;simp only [za,zF,i1,i2,gf,cV0,cV1,cV2,lV,sV,r1,r2,e0,e1,e2,e3,e4,zn,xaj,Bool.and_self,beq_self_eq_true,zk,zh,xfS,xoj,xp1,ne_eq,hne,not_false_eq_true,sUF]
def xqu:∀ (a b:List Int),(∀ t,a.count t<=b.count t)->a.length<=b.length
 | [],b,_=>by simp
 | x::a,b,h=>by
  have hx:x∈b:=List.count_pos_iff.1 (by have:=h x;rw [List.count_cons_self] at this;omega)
  have ih:=xqu a (b.erase x) fun t=>by
   have:=h t;by_cases e:x=t
   . subst e;rw [List.count_cons_self] at this;rw [List.count_erase_self];omega
   . rw [List.count_cons_of_ne e] at this;rw [List.count_erase_of_ne (fun c=>e c.symm)];exact this
  rw [List.length_erase_of_mem hx] at ih;have:0<b.length:=List.length_pos_iff.2 fun c=>by rw [c] at hx;simp at hx
  rw [zF];omega
def xgp (ps:List Per) (t:Int):ps.countP (hasP · t)<=ps.countP (hasP · (t - 1))+(ps.map (·.1)).count t:=by
 induction ps with
 | nil=>simp
 | cons p ps ih =>
  rw [List.countP_cons,List.countP_cons,zV,List.count_cons];have:(if hasP p t=true then 1 else 0)<=(if hasP p (t - 1)=true then 1 else 0)+(if (p.1==t)=true then 1 else 0):=by
   by_cases h1:hasP p t=true
   . obtain ⟨hv,a,b⟩:=xbm.1 h1;by_cases h2:p.1=t
     . have e:(p.1==t)=true:=by simpa using h2
       rw [if_pos h1,if_pos e];omega
     . have:hasP p (t - 1)=true:=xbm.2 ⟨hv,by omega,by omega⟩
       rw [if_pos h1,if_pos this];omega
   . rw [if_neg h1];omega
  omega
def xtQ (a b:Nat):∀ n:Nat,((List.range n).map fun k=>if a<=k/\k<b then 1 else 0).sum<=min n b - min n a
 | 0=>by simp
 | n+1=>by
  rw [List.range_succ,zx,List.sum_append];have:=xtQ a b n;simp only [zV,zW,List.sum_cons,List.sum_nil];split<;>omega
def IsLevs.len1 {ps P:List Per} (h:IsLevs (fun t=>ps.countP (hasP · t)) P):P.length<=ps.length:=by
 have:(P.map (·.1)).length<=(ps.map (·.1)).length:=by
  refine xqu _ _ fun t=>?_
  obtain ⟨A,H,h1,h2,h3⟩:=h.lev;have e1:(P.map (·.1)).count t=((List.range H).map fun k=>((A k).map (·.1)).count t).sum:=by
   rw [(h3.map (·.1)).count_eq,List.map_flatMap,List.count_flatMap];rfl
  have e2:∀ n,((List.range n).map fun k=>((A k).map (·.1)).count t).sum<=((List.range n).map fun k=>if ps.countP (hasP · (t - 1))<=k/\k<ps.countP (hasP · t) then 1 else 0).sum:=fun n=>by
   induction n with
   | zero=>simp
   | succ n ih =>
    rw [List.range_succ,zx,zx,List.sum_append,List.sum_append];simp only [zV,zW,List.sum_cons,List.sum_nil];have hn:((A n).map (·.1)).Nodup:=by
     unfold List.Nodup;rw [List.pairwise_map];refine List.Pairwise.imp_of_mem (fun {p q} hp hq h=>?_) (h2 n).1.2
     have:=xbT.1 ((h2 n).1.1 p hp);omega
    have J:((A n).map (·.1)).count t<=1:=List.nodup_iff_count.1 hn t;by_cases ht:t∈(A n).map (·.1)
    . obtain ⟨p,hp,rfl⟩:=zK.1 ht;obtain ⟨a,b,_⟩:=xty (N:=fun t=>ps.countP (hasP · t)) (h2 n).1 (h2 n).2 hp
      have hv:=xbT.1 ((h2 n).1.1 p hp);have:=a p.1 (Int.le_refl _) hv.2.1;rw [if_pos ⟨b,this⟩];omega
    . rw [List.count_eq_zero.2 ht];omega
  have e3:=e2 H;have e4:=xtQ (ps.countP (hasP · (t - 1))) (ps.countP (hasP · t)) H;have e5:=xgp ps t;have e6:=h1 t;omega
 simpa using this
def xsC {L:Row->List Per}:∀ {R:List Row} {l:List Fc},R.Nodup->(∀ r,r∈R->(L r).length<=(psOf l r).length)->(xG8 R L).length<=l.length
 | [],l,_,_=>by simp [xG8]
 | r::R,l,hn,h=>by
  obtain ⟨n1,n2⟩:=List.nodup_cons.1 hn;have e:xG8 (r::R) L=((L r).map fun p=>(⟨r,p⟩:Fc))++xG8 R L:=by simp [xG8]
  let l2:=l.filter fun f=>!decide (f.r=r)
  have J:∀ r',r'∈R->psOf l2 r'=psOf l r':=fun r' q=>by
   have hne:r'≠r:=fun e=>n1 (e▸q)
   unfold psOf;simp only [l2,List.filter_filter];congr 1;refine List.filter_congr fun f _=>?_
   by_cases hf:f.r=r'
   . have:¬ f.r=r:=fun e=>hne (hf▸e)
     simp [hf,hne]
   . simp [hf]
  have ih:=xsC (L:=L) (l:=l2) n2 fun r' q=>by rw [J r' q];exact h r' (by simp [q])
  have h1:=h r (by simp)
  have hl:(psOf l r).length+l2.length<=l.length:=by
   unfold psOf;rw [za];have:=List.length_eq_countP_add_countP (fun f:Fc=>decide (f.r=r)) (l:=l)
   have a1:(l.filter fun f=>decide (f.r=r)&&pv f.p).length<=l.countP fun f=>decide (f.r=r):=by
    rw [<-List.countP_eq_length_filter];exact List.countP_mono_left fun f _ hf=>by simp only [zf] at hf;exact hf.1
   have a2:l2.length=l.countP fun f=>¬ decide (f.r=r)=true:=by
    rw [List.countP_eq_length_filter];simp [l2]
   omega
  rw [e,z8,za];omega
def xHj.len1 {l B:List Fc} (h:xHj l B):B.length<=l.length:=by
 obtain ⟨R,L,h1,h2,rfl⟩:=h;refine xsC (h1.1.nodup xpf) fun r hr=>?_
 have:=h2 r hr;rw [show cnt l r=fun t=>(psOf l r).countP (hasP · t) from funext fun t=>(xqI l r t).symm] at this
 exact this.len1
abbrev TE:=Row×List Per×List Per
def defT:TE:=([],[],[])
def c1 (p:Per):AV:=encC (p,1)
def encE (e:TE):PE:=(keyOf e.1,e.1.map encV,e.2.1.map c1,e.2.2.map c1)
def ixTE (es:List TE) (r:Row):Option Nat:=es.findIdx? fun x=>decide (x.1=r)
def addT (es:List TE) (r:Row) (xa xb:List Per):List TE:=match ixTE es r with
 | some j=>es.set j ((es.getD j defT).1,(es.getD j defT).2.1++xa,(es.getD j defT).2.2++xb)
 | none=>es++[(r,xa,xb)]
def xvD (r:Row):∀ es:List TE,ixP (es.map encE) (keyOf r)=ixTE es r
 | []=>rfl
 | x::es=>by
  have ih:=xvD r es;unfold ixP ixTE at ih |-;rw [zV,List.findIdx?_cons,List.findIdx?_cons,ih];have:((encE x).1==keyOf r)=decide (x.1=r):=by
   by_cases h:x.1=r
   . subst h;simp [encE]
   . have h2:¬ keyOf x.1=keyOf r:=fun e=>h (xo0 e)
     simp [encE,h,h2]
  rw [this]
def xpo {es:List TE} {j:Nat} (h:j<es.length):(es.map encE).getD j defP=encE (es.getD j defT):=by
 simp [z7,h]
def xqr {es:List TE} {r:Row} {j:Nat} (h:ixTE es r=some j):∃ hj:j<es.length,es[j].1=r:=by
 obtain ⟨hj,h1,_⟩:=List.findIdx?_eq_some_iff_getElem.1 h;exact ⟨hj,by simpa using h1⟩
def xAS {es:List TE} {r:Row} (h:ixTE es r=none):r∉es.map (·.1):=fun hr=>by
 obtain ⟨e,he,rfl⟩:=zK.1 hr;have:=List.findIdx?_eq_none_iff.1 h e he;simp at this
def xCq (es:List TE) (r:Row) (p:Per):way (es.map encE) (keyOf r) (r.map encV) (c1 p)=(addT es r [p] []).map encE:=by
 unfold way addT;rw [xvD];cases h:ixTE es r with
 | none=>simp [encE]
 | some j =>
  obtain ⟨hj,_⟩:=xqr h;simp only [xpo hj,List.map_set];simp [encE]
def xCr (es:List TE) (r:Row) (p:Per):wax (es.map encE) (keyOf r) (r.map encV) (c1 p)=(addT es r [] [p]).map encE:=by
 unfold wax addT;rw [xvD];cases h:ixTE es r with
 | none=>simp [encE]
 | some j =>
  obtain ⟨hj,_⟩:=xqr h;simp only [xpo hj,List.map_set];simp [encE]
structure EI (R:Row->Prop) (A B:Row->List Per) (n:Nat) (es:List TE):Prop where
 nd:(es.map (·.1)).Nodup
 mem:∀ r,r∈es.map (·.1)↔R r
 pa:∀ e,e∈es->e.2.1=A e.1
 pb:∀ e,e∈es->e.2.2=B e.1
 zero:∀ r,¬ R r->A r=[]/\B r=[]
 len:es.length<=n
def EI.nil:EI (fun _=>False) (fun _=>[]) (fun _=>[]) 0 []:=⟨List.nodup_nil,fun r=>by simp,fun g hg=>by simp at hg,fun g hg=>by simp at hg,fun _ _=>⟨rfl,rfl⟩,zd _⟩
def EI.add {R:Row->Prop} {A B:Row->List Per} {n:Nat} {es:List TE} (h:EI R A B n es) (ρ:Row) (xa xb:List Per) :
  EI (fun r=>R r\/ρ=r) (fun r=>A r++if ρ=r then xa else []) (fun r=>B r++if ρ=r then xb else []) (n+1) (addT es ρ xa xb):=by
 unfold addT;cases hi:ixTE es ρ with
 | some j =>
  obtain ⟨hj,hr⟩:=xqr hi;have gd:es.getD j defT=es[j]:=by rw [z7,ze hj];rfl
  dsimp only;rw [gd];have fst:(es.set j (es[j].1,es[j].2.1++xa,es[j].2.2++xb)).map (·.1)=es.map (·.1):=by
   rw [List.map_set];have:(es.map (·.1))[j]'(by simpa using hj)=es[j].1:=by simp
   show (es.map (·.1)).set j es[j].1=_;rw [<-this];exact List.set_getElem_self _
  have hRρ:R ρ:=(h.mem ρ).1 (by rw [<-hr];exact zK.2 ⟨es[j],zo hj,rfl⟩)
  have hne:∀ i (q:i<es.length),j≠i->ρ≠es[i].1:=fun i q J e=>by
   have hn:=zB.1 h.nd;have ei:(es.map (·.1))[i]'(by simpa using q)=es[i].1:=by simp
   have ej:(es.map (·.1))[j]'(by simpa using hj)=es[j].1:=by simp
   rcases Nat.lt_or_gt_of_ne J with Q|Q
   . exact hn j i (by simpa using hj) (by simpa using q) Q (by rw [ei,ej,hr,e])
   . exact hn i j (by simpa using q) (by simpa using hj) Q (by rw [ei,ej,hr,e])
  refine ⟨by rw [fst];exact h.nd,fun r=>?_,fun g hg=>?_,fun g hg=>?_,fun r O=>?_,by rw [y4];have:=h.len;omega⟩
  . rw [fst,h.mem];refine ⟨.inl,?_⟩;rintro (h1|rfl)
    . exact h1
    . exact hRρ
  . obtain ⟨i,q,rfl⟩:=zp.1 hg;rw [y4] at q;rw [List.getElem_set];by_cases J:j=i
    . subst J;rw [if_pos rfl];show es[j].2.1++xa=A es[j].1++_;rw [if_pos hr.symm,h.pa _ (zo hj)]
    . rw [if_neg J,if_neg (hne i q J),zD];exact h.pa _ (zo q)
  . obtain ⟨i,q,rfl⟩:=zp.1 hg;rw [y4] at q;rw [List.getElem_set];by_cases J:j=i
    . subst J;rw [if_pos rfl];show es[j].2.2++xb=B es[j].1++_;rw [if_pos hr.symm,h.pb _ (zo hj)]
    . rw [if_neg J,if_neg (hne i q J),zD];exact h.pb _ (zo q)
  . have h1:¬ R r:=fun c=>O (.inl c)
    have h2:¬ ρ=r:=fun c=>O (.inr c)
    obtain ⟨z1,z2⟩:=h.zero r h1;rw [if_neg h2,if_neg h2,z1,z2];exact ⟨rfl,rfl⟩
 | none =>
  have hr:=xAS hi;dsimp only;have hρ:¬ R ρ:=fun c=>hr ((h.mem ρ).2 c)
  obtain ⟨z1,z2⟩:=h.zero ρ hρ;have hne:∀ g,g∈es->ρ≠g.1:=fun g hg e=>hr (by rw [e];exact zK.2 ⟨g,hg,rfl⟩)
  refine ⟨?_,fun r=>?_,fun g hg=>?_,fun g hg=>?_,fun r O=>?_,by rw [z8];have:=h.len;simp;omega⟩
  . rw [zx];refine List.nodup_append.2 ⟨h.nd,by simp,fun a ha b hb e=>?_⟩
    simp at hb;exact hr (by rw [<-hb,<-e];exact ha)
  . rw [zx,zG,h.mem];simp only [zV,zW,zv];exact ⟨fun c=>c.imp id Eq.symm,fun c=>c.imp id Eq.symm⟩
  . rcases zG.1 hg with hg|hg
    . rw [if_neg (hne g hg),zD];exact h.pa g hg
    . rw [zv] at hg;subst hg;rw [if_pos rfl,z1];rfl
  . rcases zG.1 hg with hg|hg
    . rw [if_neg (hne g hg),zD];exact h.pb g hg
    . rw [zv] at hg;subst hg;rw [if_pos rfl,z2];rfl
  . have h1:¬ R r:=fun c=>O (.inl c)
    have h2:¬ ρ=r:=fun c=>O (.inr c)
    obtain ⟨z1,z2⟩:=h.zero r h1;rw [if_neg h2,if_neg h2,z1,z2];exact ⟨rfl,rfl⟩
def xHa (l:List Fc) (r:Row):List Per:=(l.filter fun f=>decide (f.r=r)).map (·.p)
def xnr (l:List Fc) (r:Row) (t:Int):(xHa l r).countP (hasP · t)=cnt l r t:=by
 unfold xHa cnt;rw [List.countP_map,List.countP_filter];refine List.countP_congr fun f _=>?_
 simp [and_comm]
def xr1 (f:Fc) (l:List Fc) (r:Row):xHa (f::l) r=(if f.r=r then [f.p] else [])++xHa l r:=by
 unfold xHa;rw [List.filter_cons];by_cases h:f.r=r<;>simp [h]
def xyB (l:List Fc) (r:Row):(xHa l r).length<=l.length:=by
 unfold xHa;rw [za];exact List.length_filter_le _ _
def xAF:∀ (l:List Fc) (R:Row->Prop) (A B:Row->List Per) (n:Nat) (es:List TE),EI R A B n es->EI (fun r=>R r\/∃ f,f∈l/\f.r=r) (fun r=>A r++xHa l r) B (n+l.length) (l.foldl (fun es f=>addT es f.r [f.p] []) es)
 | [],R,A,B,n,es,h=>by
  have e1:(fun r=>R r\/∃ f,f∈([]:List Fc)/\f.r=r)=R:=funext fun r=>by simp
  have e2:(fun r=>A r++xHa [] r)=A:=funext fun r=>by simp [xHa]
  rw [e1,e2];exact h
 | f::l,R,A,B,n,es,h=>by
  have:=xAF l _ _ _ _ _ (h.add f.r [f.p] []);rw [List.foldl_cons];have e1:(fun r=>(R r\/f.r=r)\/∃ g,g∈l/\g.r=r)=fun r=>R r\/∃ g,g∈f::l/\g.r=r:=funext fun r=>by simp [or_assoc]
  have e2:(fun r=>(A r++if f.r=r then [f.p] else [])++xHa l r)=fun r=>A r++xHa (f::l) r:=funext fun r=>by rw [xr1,zw]
  have e3:(fun r=>B r++if f.r=r then [] else [])=B:=funext fun r=>by simp
  rw [e1,e2,e3] at this;rw [zF,show n+(l.length+1)=n+1+l.length by omega]
  exact this
def xAG:∀ (l:List Fc) (R:Row->Prop) (A B:Row->List Per) (n:Nat) (es:List TE),EI R A B n es->EI (fun r=>R r\/∃ f,f∈l/\f.r=r) A (fun r=>B r++xHa l r) (n+l.length) (l.foldl (fun es f=>addT es f.r [] [f.p]) es)
 | [],R,A,B,n,es,h=>by
  have e1:(fun r=>R r\/∃ f,f∈([]:List Fc)/\f.r=r)=R:=funext fun r=>by simp
  have e2:(fun r=>B r++xHa [] r)=B:=funext fun r=>by simp [xHa]
  rw [e1,e2];exact h
 | f::l,R,A,B,n,es,h=>by
  have:=xAG l _ _ _ _ _ (h.add f.r [] [f.p]);rw [List.foldl_cons];have e1:(fun r=>(R r\/f.r=r)\/∃ g,g∈l/\g.r=r)=fun r=>R r\/∃ g,g∈f::l/\g.r=r:=funext fun r=>by simp [or_assoc]
  have e2:(fun r=>(B r++if f.r=r then [f.p] else [])++xHa l r)=fun r=>B r++xHa (f::l) r:=funext fun r=>by rw [xr1,zw]
  have e3:(fun r=>A r++if f.r=r then [] else [])=A:=funext fun r=>by simp
  rw [e1,e2,e3] at this;rw [zF,show n+(l.length+1)=n+1+l.length by omega]
  exact this
def colT (a b:List Fc):List TE:=b.foldl (fun es f=>addT es f.r [] [f.p]) (a.foldl (fun es f=>addT es f.r [f.p] []) [])
def xDp (a b:List Fc):EI (fun r=>(∃ f,f∈a/\f.r=r)\/∃ f,f∈b/\f.r=r) (xHa a) (xHa b) (a.length+b.length) (colT a b):=by
 have h:=xAG b _ _ _ _ _ (xAF a _ _ _ _ _ EI.nil);have e1:(fun r=>(False\/∃ f,f∈a/\f.r=r)\/∃ f,f∈b/\f.r=r)=fun r=>(∃ f,f∈a/\f.r=r)\/∃ f,f∈b/\f.r=r:=funext fun r=>by simp
 have e2:(fun r=>([]:List Per)++xHa a r)=xHa a:=funext fun r=>rfl
 have e3:(fun r=>([]:List Per)++xHa b r)=xHa b:=funext fun r=>rfl
 rw [e1,e2,e3,show 0+a.length+b.length=a.length+b.length by omega] at h
 exact h
def Keyed.skey {l:List Fc} (h:Keyed l) {f:Fc} (hf:f∈l):xa0 (f.r.map encV)=some (keyOf f.r):=xtJ f.r (h.1.2 f hf) (h.2 f hf).1 (h.2 f hf).2
def xrU {f:Fc} (h:xa0 (f.r.map encV)=some (keyOf f.r)):keyF (encF f)=keyOf f.r:=by
 show (xa0 (f.r.map encV)).getD []=_;rw [h];rfl
def xtZ:∀ (l:List Fc) (es:List TE),(∀ f,f∈l->xa0 (f.r.map encV)=some (keyOf f.r))->(l.map encF).foldl waq (es.map encE)=(l.foldl (fun es f=>addT es f.r [f.p] []) es).map encE
 | [],es,_=>rfl
 | f::l,es,h=>by
  rw [zV,List.foldl_cons,List.foldl_cons];have e:waq (es.map encE) (encF f)=(addT es f.r [f.p] []).map encE:=by
   show way (es.map encE) (keyF (encF f)) (f.r.map encV) (c1 f.p)=_;rw [xrU (h f (by simp)),xCq]
  rw [e];exact xtZ l _ fun g hg=>h g (by simp [hg])
def xtx:∀ (l:List Fc) (es:List TE),(∀ f,f∈l->xa0 (f.r.map encV)=some (keyOf f.r))->(l.map encF).foldl wap (es.map encE)=(l.foldl (fun es f=>addT es f.r [] [f.p]) es).map encE
 | [],es,_=>rfl
 | f::l,es,h=>by
  rw [zV,List.foldl_cons,List.foldl_cons];have e:wap (es.map encE) (encF f)=(addT es f.r [] [f.p]).map encE:=by
   show wax (es.map encE) (keyF (encF f)) (f.r.map encV) (c1 f.p)=_;rw [xrU (h f (by simp)),xCr]
  rw [e];exact xtx l _ fun g hg=>h g (by simp [hg])
def xBS {a b:List Fc} (ha:Keyed a) (hb:Keyed b):colV (a.map encF) (b.map encF)=(colT a b).map encE:=by
 unfold colV colT;rw [show ([]:List PE)=([]:List TE).map encE from rfl,xtZ a [] fun f hf=>ha.skey hf,xtx b _ fun f hf=>hb.skey hf]
def xyu {l:List Fc} (h:Keyed l) {f:Fc} (hf:f∈l):okF (encF f)=true:=by
 have e1:=xrU (h.skey hf);have e2:xa0 (rowF (encF f))=some (keyOf f.r):=h.skey hf;have e3:=(h.2 f hf).2;unfold okF;rw [e1,e2];have m:(keyOf f.r).length<=4611686018427387904:=by omega
 have c1:Nat.beq (encF f).cells.length 3=true:=rfl;have c2:xIb [.list 3,.int .i64,.int .i64] (encF f).cells 0=true:=rfl;have c3:((encF f).one==false)=true:=rfl;rw [c1,c2,c3];simp [m]
def xAl {a b:List Fc} (ha:Keyed a) (hb:Keyed b):wau (a.map encF) (b.map encF)=true:=by
 unfold wau;have h1:=ha.1.1;have h2:=hb.1.1;simp only [zf,zI,List.mem_range,zl,za];refine ⟨fun i hi=>?_,fun i hi=>?_,by omega⟩
 . rw [xaK _ _ _ hi];exact xyu ha (zo hi)
 . rw [xaK _ _ _ hi];exact xyu hb (zo hi)
def xmw {N:Int->Nat} {P:List Per} (h:IsLevs N P) (E:List Int) (hE:∀ t,N t<=N (t - 1)+E.count t):P.length<=E.length:=by
 have:(P.map (·.1)).length<=E.length:=by
  refine xqu _ _ fun t=>?_
  obtain ⟨A,H,h1,h2,h3⟩:=h.lev;have e1:(P.map (·.1)).count t=((List.range H).map fun k=>((A k).map (·.1)).count t).sum:=by
   rw [(h3.map (·.1)).count_eq,List.map_flatMap,List.count_flatMap];rfl
  have e2:∀ n,((List.range n).map fun k=>((A k).map (·.1)).count t).sum<=((List.range n).map fun k=>if N (t - 1)<=k/\k<N t then 1 else 0).sum:=fun n=>by
   induction n with
   | zero=>simp
   | succ n ih =>
    rw [List.range_succ,zx,zx,List.sum_append,List.sum_append];simp only [zV,zW,List.sum_cons,List.sum_nil];have hn:((A n).map (·.1)).Nodup:=by
     unfold List.Nodup;rw [List.pairwise_map];refine List.Pairwise.imp_of_mem (fun {p q} hp hq h=>?_) (h2 n).1.2
     have:=xbT.1 ((h2 n).1.1 p hp);omega
    have J:((A n).map (·.1)).count t<=1:=List.nodup_iff_count.1 hn t;by_cases ht:t∈(A n).map (·.1)
    . obtain ⟨p,hp,rfl⟩:=zK.1 ht;obtain ⟨a,b,_⟩:=xty (N:=N) (h2 n).1 (h2 n).2 hp;have hv:=xbT.1 ((h2 n).1.1 p hp);have:=a p.1 (Int.le_refl _) hv.2.1;rw [if_pos ⟨b,this⟩];omega
    . rw [List.count_eq_zero.2 ht];omega
  have e3:=e2 H;have e4:=xtQ (N (t - 1)) (N t) H;have e5:=hE t;have e6:=h1 t;omega
 simpa using this
def xrc (ps:List Per) (t:Int):ps.countP (hasP · (t - 1))<=ps.countP (hasP · t)+(ps.map (·.2)).count t:=by
 induction ps with
 | nil=>simp
 | cons p ps ih =>
  rw [List.countP_cons,List.countP_cons,zV,List.count_cons];have:(if hasP p (t - 1)=true then 1 else 0)<=(if hasP p t=true then 1 else 0)+(if (p.2==t)=true then 1 else 0):=by
   by_cases h1:hasP p (t - 1)=true
   . obtain ⟨hv,a,b⟩:=xbm.1 h1;by_cases h2:p.2=t
     . have e:(p.2==t)=true:=by simpa using h2
       rw [if_pos h1,if_pos e];omega
     . have:hasP p t=true:=xbm.2 ⟨hv,by omega,by omega⟩
       rw [if_pos h1,if_pos this];omega
   . rw [if_neg h1];omega
  omega
structure OpOk (op:List AV->List AV->Option (List AV)) (g:Nat->Nat->Nat):Prop where
 run:∀ {N M:Int->Nat} {S T:List Per},StepI (fun t=>(N t:Int)) 1099511627776 S->StepI (fun t=>(M t:Int)) 1099511627776 T->S.length<=131072->T.length<=131072->(∀ t,N t<=1048576)->(∀ t,M t<=1048576) ->
  ∃ U:List Per,op (S.map encP) (T.map encP)=some (U.map encP)/\StepI (fun t=>((g (N t) (M t):Nat):Int)) 1099511627776 U/\U.length<=S.length+T.length
 zero:g 0 0=0
 le:∀ x y,g x y<=x+y
 inc:∀ a b:List Per,∃ E:List Int,E.length<=a.length+b.length/\∀ t,g (a.countP (hasP · t)) (b.countP (hasP · t))<=g (a.countP (hasP · (t - 1))) (b.countP (hasP · (t - 1)))+E.count t
def opA:OpOk xmE (fun x y=>x+y) where
 run:=fun {N M S T} hS hT lS lT hN hM=>by
  obtain ⟨U,h1,h2,h3⟩:=xEG hS hT (by omega) (by omega) (fun t=>by have:=hN t;omega) (fun t=>by have:=hM t;omega)
  refine ⟨U,h1,?_,h3⟩;rwa [show (fun t=>(N t:Int)+(M t:Int))=fun t=>(((N t+M t:Nat)):Int) from funext fun t=>by omega] at h2
 zero:=rfl
 le:=fun x y=>zd _
 inc:=fun a b=>⟨a.map (·.1)++b.map (·.1),by simp,fun t=>by
  have h1:=xgp a t;have h2:=xgp b t;rw [List.count_append];omega⟩
def opM:OpOk xmG (fun x y=>min x y) where
 run:=fun {N M S T} hS hT lS lT hN hM=>by
  obtain ⟨U,h1,h2,h3⟩:=xFw hS hT (by omega) (by omega)
  refine ⟨U,h1,?_,h3⟩;rwa [show (fun t=>min (N t:Int) (M t:Int))=fun t=>((min (N t) (M t):Nat):Int) from funext fun t=>by omega] at h2
 zero:=rfl
 le:=fun x y=>by omega
 inc:=fun a b=>⟨a.map (·.1)++b.map (·.1),by simp,fun t=>by
  have h1:=xgp a t;have h2:=xgp b t;rw [List.count_append];omega⟩
def opX:OpOk xhz (fun x y=>x - y) where
 run:=fun {N M S T} hS hT lS lT hN hM=>by
  obtain ⟨U,h1,h2,h3⟩:=xFi hS hT (by omega) (by omega) (fun t=>by have:=hN t;omega) (fun t=>by have:=hM t;omega)
  refine ⟨U,h1,?_,h3⟩;rwa [show (fun t=>max ((N t:Int) - (M t:Int)) 0)=fun t=>((N t - M t:Nat):Int) from funext fun t=>by omega] at h2
 zero:=rfl
 le:=fun x y=>by omega
 inc:=fun a b=>⟨a.map (·.1)++b.map (·.2),by simp,fun t=>by
  have h1:=xgp a t;have h2:=xrc b t;rw [List.count_append];omega⟩
def xEJ (ps:List Per):ps.map c1=(ps.map fun p=>(p,(1:Int))).map encC:=by rw [List.map_map];rfl
def xyt (ps:List Per) (h:ps.length<=32768):∃ S,xaL (ps.map c1)=some (S.map encP)/\StepI (fun t=>((ps.countP (hasP · t):Nat):Int)) 1099511627776 S/\S.length<=2*ps.length+1:=by
 obtain ⟨S,h1,h2,h3⟩:=xjf _ (xuh (ps:=ps) (by omega))
 refine ⟨S,by rw [xEJ,h1],?_,by simpa using h3⟩
 rwa [show sumC (ps.map fun p=>(p,(1:Int)))=fun t=>((ps.countP (hasP · t):Nat):Int) from funext fun t=>xuD ps t] at h2
def xBZ {op:List AV->List AV->Option (List AV)} {g:Nat->Nat->Nat} (h:OpOk op g) (r:Row) (pa pb:List Per) (ha:pa.length<=32768) (hb:pb.length<=32768) :
  ∃ P:List Per,lvOk op (encE (r,pa,pb))=true/\lvOf op (encE (r,pa,pb))=P.map encP/\IsLevs (fun t=>g (pa.countP (hasP · t)) (pb.countP (hasP · t))) P/\P.length<=pa.length+pb.length:=by
 obtain ⟨S,s1,s2,s3⟩:=xyt pa ha;obtain ⟨T,t1,t2,t3⟩:=xyt pb hb;have la:∀ t,pa.countP (hasP · t)<=pa.length:=fun t=>List.countP_le_length
 have lb:∀ t,pb.countP (hasP · t)<=pb.length:=fun t=>List.countP_le_length
 obtain ⟨U,u1,u2,u3⟩:=h.run s2 t2 (by omega) (by omega) (fun t=>by have:=la t;omega) (fun t=>by have:=lb t;omega)
 obtain ⟨P,p1,p2⟩:=xt9 (N:=fun t=>g (pa.countP (hasP · t)) (pb.countP (hasP · t))) (H:=pa.length+pb.length) (by omega) (fun t=>by
  have:=h.le (pa.countP (hasP · t)) (pb.countP (hasP · t));have:=la t;have:=lb t;omega) (fun t ht=>by
  rw [xrN pa t ht,xrN pb t ht];exact h.zero) u2 (by omega)
 obtain ⟨E,e1,e2⟩:=h.inc pa pb;have lv:lvOf op (encE (r,pa,pb))=P.map encP:=by
  show (xa2 ((op ((xaL (pa.map c1)).getD []) ((xaL (pb.map c1)).getD [])).getD [])).getD []=_;rw [s1,t1];show (xa2 ((op (S.map encP) (T.map encP)).getD [])).getD []=_;rw [u1];show (xa2 (U.map encP)).getD []=_;rw [p1];rfl
 refine ⟨P,?_,lv,p2,?_⟩
 . unfold lvOk;rw [lv];show ((xaL (pa.map c1)).isSome&&((xaL (pb.map c1)).isSome&&((op ((xaL (pa.map c1)).getD []) ((xaL (pb.map c1)).getD [])).isSome&&((xa2 ((op ((xaL (pa.map c1)).getD []) ((xaL (pb.map c1)).getD [])).getD [])).isSome&&_))))=true;rw [s1,t1];simp only [zh,zk,u1,p1,Bool.true_and,zI,List.mem_range,za];intro i hi;rw [xaK _ _ _ hi];rfl
 . have:=xmw p2 E e2;omega
def xwg (f:Fc) (l:List Fc):∀ R:List Row,(R.map fun r=>(xHa (f::l) r).length).sum=R.countP (fun r=>decide (f.r=r))+(R.map fun r=>(xHa l r).length).sum
 | []=>rfl
 | r::R=>by
  rw [zV,zV,List.sum_cons,List.sum_cons,xwg f l R,xr1,List.countP_cons];by_cases h:f.r=r<;>simp [h]<;>omega
def xAq {R:List Row} (hR:R.Nodup) (x:Row):R.countP (fun r=>decide (x=r))<=1:=by
 induction R with
 | nil=>simp
 | cons r R ih =>
  obtain ⟨n1,n2⟩:=List.nodup_cons.1 hR;rw [List.countP_cons];by_cases h:x=r
  . have:R.countP (fun r=>decide (x=r))=0:=List.countP_eq_zero.2 fun y hy=>by
     intro e;simp only [zl] at e;exact n1 (by rw [<-h,e];exact hy)
    rw [this];split<;>omega
  . have:=ih n2;simp [h];omega
def xpc:∀ (l:List Fc) (R:List Row),R.Nodup->(R.map fun r=>(xHa l r).length).sum<=l.length
 | [],R,_=>by
  have:∀ R:List Row,(R.map fun r=>(xHa [] r).length).sum=0:=fun R=>by
   induction R with
   | nil=>rfl
   | cons r R ih=>rw [zV,List.sum_cons,ih];rfl
  rw [this];exact zQ _
 | f::l,R,h=>by
  rw [xwg,zF];have:=xpc l R h;have:=xAq h f.r;omega
def xpj {L:Row->List Per} {a b:List Fc}:∀ (R:List Row),(∀ r,r∈R->(L r).length<=(xHa a r).length+(xHa b r).length)->(xG8 R L).length<=(R.map fun r=>(xHa a r).length).sum+(R.map fun r=>(xHa b r).length).sum
 | [],_=>by simp [xG8]
 | r::R,h=>by
  have ih:=xpj R fun x hx=>h x (by simp [hx])
  have h1:=h r (by simp)
  have e:xG8 (r::R) L=((L r).map fun p=>(⟨r,p⟩:Fc))++xG8 R L:=by simp [xG8]
  rw [e,z8,za,zV,zV,List.sum_cons,List.sum_cons];omega
def IsB (N:Row->Int->Nat) (B:List Fc):Prop:=∃ R L,Strict cmpR R/\(∀ r t,0<N r t->r∈R)/\(∀ r,r∈R->IsLevs (N r) (L r))/\B=xG8 R L
def xnA (L:Row->List Per):∀ R:List Row,xG8 R L=xG8 (R.filter fun r=>!(L r).isEmpty) L
 | []=>rfl
 | r::R=>by
  have ih:=xnA L R;have e:∀ R:List Row,xG8 (r::R) L=((L r).map fun p=>(⟨r,p⟩:Fc))++xG8 R L:=fun R=>by simp [xG8]
  rw [List.filter_cons];cases h:L r with
  | nil=>rw [e,h,ih];simp
  | cons p ps =>
   simp only [List.isEmpty_cons,Bool.not_false,if_true];rw [e,e,ih]
def IsLevs.pos {N:Int->Nat} {P:List Per} (h:IsLevs N P):P≠[]↔∃ t,0<N t:=by
 constructor
 . intro hp;obtain ⟨p,hp⟩:=List.exists_mem_of_ne_nil P hp;refine ⟨p.1,?_⟩;rw [<-h.count];exact List.countP_pos_iff.2 ⟨p,hp,xuG (h.valid p hp)⟩
 . rintro ⟨t,ht⟩ rfl;rw [<-h.count] at ht;simp at ht
def IsB.unique {N:Row->Int->Nat} {B B':List Fc} (h:IsB N B) (h':IsB N B'):B=B':=by
 obtain ⟨R,L,h1,h2,h3,rfl⟩:=h;obtain ⟨R',L',O,J,q,rfl⟩:=h';rw [xnA L R,xnA L' R'];have hm:∀ r,r∈R.filter (fun r=>!(L r).isEmpty)↔∃ t,0<N r t:=fun r=>by
  rw [List.mem_filter];constructor
  . rintro ⟨a,b⟩;exact (h3 r a).pos.1 (by simpa using b)
  . rintro ⟨t,ht⟩;have:=h2 r t ht;exact ⟨this,by have:=(h3 r this).pos.2 ⟨t,ht⟩;simpa using this⟩
 have hm':∀ r,r∈R'.filter (fun r=>!(L' r).isEmpty)↔∃ t,0<N r t:=fun r=>by
  rw [List.mem_filter];constructor
  . rintro ⟨a,b⟩;exact (q r a).pos.1 (by simpa using b)
  . rintro ⟨t,ht⟩;have:=J r t ht;exact ⟨this,by have:=(q r this).pos.2 ⟨t,ht⟩;simpa using this⟩
 have eR:R.filter (fun r=>!(L r).isEmpty)=R'.filter (fun r=>!(L' r).isEmpty) :=
  xm0 xpf (fun _ _=>xkF) (h1.sublist List.filter_sublist) (O.sublist List.filter_sublist) fun r=>by rw [hm,hm']
 rw [<-eR];refine xoD fun r hr=>?_
 have V:=(List.mem_filter.1 hr).1;have Q:=J r;obtain ⟨t,ht⟩:=(hm r).1 hr;exact (h3 r V).unique (q r (Q t ht))
def xHj.isB {l B:List Fc} (h:xHj l B):IsB (cnt l) B:=by
 obtain ⟨R,L,h1,h2,rfl⟩:=h;exact ⟨R,L,h1.1,fun r t ht=>(h1.2 r).2 (xnV.2 ⟨t,ht⟩),h2,rfl⟩
def IsB.cntB {N:Row->Int->Nat} {B:List Fc} (h:IsB N B) (r:Row) (t:Int):cnt B r t=N r t:=by
 obtain ⟨R,L,h1,h2,h3,rfl⟩:=h;rw [xmp L r t R (h1.nodup xpf)];split
 . rename_i hr;exact (h3 r hr).count t
 . rename_i hr;cases hc:N r t with
   | zero=>rfl
   | succ n=>exact absurd (h2 r t (by omega)) hr
def IsB.valid {N:Row->Int->Nat} {B:List Fc} (h:IsB N B) {f:Fc} (hf:f∈B):pv f.p=true:=by
 obtain ⟨R,L,h1,h2,h3,rfl⟩:=h;obtain ⟨a,b⟩:=xkI hf;exact (h3 _ a).valid _ b
def IsB.congr {N M:Row->Int->Nat} {B:List Fc} (h:IsB N B) (e:∀ r t,N r t=M r t):IsB M B:=by
 rwa [show N=M from funext fun r=>funext fun t=>e r t] at h
def xzt {α β:Type} (es:List α) (d:α) (f:α->List β):(List.range es.length).flatMap (fun k=>f (es.getD k d))=es.flatMap f:=by
 have:(List.range es.length).map (fun k=>es.getD k d)=es:=by
  refine List.ext_getElem (by simp) fun n h1 h2=>?_
  simp [z7,h2]
 conv=>rhs;rw [<-this,List.flatMap_map]
def xoY {α β:Type} {f g:α->List β}:∀ {l:List α},(∀ a,a∈l->f a=g a)->l.flatMap f=l.flatMap g
 | [],_=>rfl
 | a::l,h=>by rw [zR,zR,h a (by simp),xoY fun b hb=>h b (by simp [hb])]
def Bld.perm {l l':List Fc} (h:Bld l) (hp:l'.Perm l):Bld l' :=
 ⟨⟨⟨by rw [hp.length_eq];exact h.1.1.1,fun f hf=>h.1.1.2 f (hp.mem_iff.1 hf)⟩,fun f hf=>h.1.2 f (hp.mem_iff.1 hf)⟩,by rw [hp.length_eq];exact h.2⟩
def xtq {op:List AV->List AV->Option (List AV)} {g:Nat->Nat->Nat} (h:OpOk op g) {a b:List Fc} (ha:Keyed a) (hb:Keyed b) (hl:a.length+b.length<=1024) :
  ∃ B:List Fc,cmbV op (a.map encF) (b.map encF)=some (B.map encF)/\IsB (fun r t=>g (cnt a r t) (cnt b r t)) B/\B.length<=a.length+b.length/\∀ f,f∈B->(∃ x,x∈a/\x.r=f.r)\/∃ x,x∈b/\x.r=f.r:=by
 have hE:=xDp a b;generalize ac:colT a b=es at hE;have W:colV (a.map encF) (b.map encF)=es.map encE:=by rw [xBS ha hb,ac]
 obtain ⟨L,hL⟩:=xof (R:=es.map (·.1)) (Q:=fun r P=>lvOk op (encE (r,xHa a r,xHa b r))=true/\lvOf op (encE (r,xHa a r,xHa b r))=P.map encP/\IsLevs (fun t=>g (cnt a r t) (cnt b r t)) P/\P.length<=(xHa a r).length+(xHa b r).length) fun r hr=>by
  have l1:=xyB a r;have l2:=xyB b r;obtain ⟨P,p1,p2,p3,p4⟩:=xBZ h r (xHa a r) (xHa b r) (by omega) (by omega)
  refine ⟨P,p1,p2,?_,p4⟩;rwa [show (fun t=>g ((xHa a r).countP (hasP · t)) ((xHa b r).countP (hasP · t)))=fun t=>g (cnt a r t) (cnt b r t) from funext fun t=>by rw [xnr,xnr]] at p3
 have Z:∀ e,e∈es->e=(e.1,xHa a e.1,xHa b e.1):=fun e he=>by
  have h1:=hE.pa e he;have h2:=hE.pb e he;obtain ⟨x,y,z⟩:=e;simp only at h1 h2;rw [h1,h2]
 have ab:∀ e,e∈es->lvOk op (encE e)=true/\lvOf op (encE e)=(L e.1).map encP:=fun e he=>by
  have h1:=hL e.1 (zK.2 ⟨e,he,rfl⟩);rw [<-Z e he] at h1;exact ⟨h1.1,h1.2.1⟩
 have ae:∀ k,k<es.length->fkOf op (es.map encE) k=(mk (es.getD k defT).1 (L (es.getD k defT).1)).map encF:=fun k hk=>by
  have gd:es.getD k defT=es[k]:=by rw [z7,ze hk];rfl
  unfold fkOf;rw [xpo hk,gd,(ab _ (zo hk)).2];unfold mk;rw [List.map_map,List.map_map];rfl
 have V:∀ ord:List Nat,(∀ k,k∈ord->k<es.length)->ord.flatMap (fkOf op (es.map encE))=(ord.flatMap fun k=>mk (es.getD k defT).1 (L (es.getD k defT).1)).map encF:=fun ord ho=>by
  rw [List.map_flatMap];exact xoY fun k hk=>ae k (ho k hk)
 have hF:(List.range es.length).flatMap (fun k=>mk (es.getD k defT).1 (L (es.getD k defT).1))=xG8 (es.map (·.1)) L:=by
  rw [xzt es defT fun e=>mk e.1 (L e.1)]
  unfold xG8;rw [List.flatMap_map];rfl
 have q:wal op (es.map encE)=(xG8 (es.map (·.1)) L).map encF:=by
  unfold wal;rw [za,V _ fun k hk=>List.mem_range.1 hk,hF]
 have Y:(xG8 (es.map (·.1)) L).length<=a.length+b.length:=by
  have h1:=xpj (L:=L) (a:=a) (b:=b) (es.map (·.1)) fun r hr=>(hL r hr).2.2.2
  have h2:=xpc a _ hE.nd;have h3:=xpc b _ hE.nd;omega
 have J:∀ f,f∈xG8 (es.map (·.1)) L->(∃ x,x∈a/\x.r=f.r)\/∃ x,x∈b/\x.r=f.r:=fun f hf=>(hE.mem _).1 (xkI hf).1
 have O:Bld (xG8 (es.map (·.1)) L):=by
  refine ⟨⟨⟨by omega,fun f hf=>?_⟩,fun f hf=>?_⟩,by omega⟩
  . rcases J f hf with ⟨x,hx,e⟩|⟨x,hx,e⟩
    . rw [<-e];exact ha.1.2 x hx
    . rw [<-e];exact hb.1.2 x hx
  . rcases J f hf with ⟨x,hx,e⟩|⟨x,hx,e⟩
    . rw [<-e];exact ha.2 x hx
    . rw [<-e];exact hb.2 x hx
 obtain ⟨B,b1,b2⟩:=xAa _ O;have aa:∀ r t,cnt (xG8 (es.map (·.1)) L) r t=g (cnt a r t) (cnt b r t):=fun r t=>by
  rw [xmp L r t _ hE.nd];split
  . rename_i hr;exact (hL r hr).2.2.1.count t
  . rename_i hr;have:=hE.zero r fun c=>hr ((hE.mem r).2 c)
    rw [<-xnr a,<-xnr b,this.1,this.2];exact h.zero.symm
 refine ⟨B,?_,b2.isB.congr aa,Nat.le_trans b2.len1 Y,fun f hf=>?_⟩
 . have ad:wa2 op (a.map encF) (b.map encF)=true:=by
    unfold wa2;rw [W,xAl ha hb,q,b1];have c2:((List.range (es.map encE).length).all fun k=>lvOk op ((es.map encE).getD k defP))=true:=by
     simp only [zI,List.mem_range,za];intro k hk;have gd:es.getD k defT=es[k]:=by rw [z7,ze hk];rfl
     rw [xpo hk,gd];exact (ab _ (zo hk)).1
    have c3:((xG8 (es.map (·.1)) L).map encF).length<=1099511627776:=by rw [za];omega
    have c4:∀ ord:List Nat,ord.Perm (List.range (es.map encE).length)->xcd (ord.flatMap (fkOf op (es.map encE)))=some (B.map encF):=fun ord ho=>by
     rw [za] at ho;rw [V ord fun k hk=>List.mem_range.1 (ho.mem_iff.1 hk)]
     have hp:(ord.flatMap fun k=>mk (es.getD k defT).1 (L (es.getD k defT).1)).Perm (xG8 (es.map (·.1)) L):=by
      rw [<-hF];exact ho.flatMap_right _
     obtain ⟨B',qe1,q2⟩:=xAa _ (O.perm hp);rw [qe1,q2.unique b2 fun r t=>xBR hp r t]
    rw [c2,decide_eq_true c3];simp only [Bool.true_and,zf,zl,zk,and_true];exact c4
   unfold cmbV;rw [ad];show xcd (wal op (colV (a.map encF) (b.map encF)))=_;rw [W,q,b1]
 . obtain ⟨_,x,hx,e⟩:=b2.valid hf;rw [<-e];exact J x hx
def inRg (v:Val):Prop:=-1125899906842624<=v.i/\v.i<=1125899906842624
def TVal (v:Val):Prop:=v.wf/\v.t.length<=1073741824
def wf64 {n:Int} (h1:-9223372036854775808<=n) (h2:n<=9223372036854775807):(Lit.int .i64 n).wf=true:=by
 show (decide ((IntKind.i64).min<=n)&&decide (n<=(IntKind.i64).max))=true;rw [zf,zl,zl];exact ⟨h1,h2⟩
def sV0 (v:Val):xH4 (Sh.int .i64) ((encV v).cells.getD 0 .top)=true:=rfl
def xHu (v:Val):Prop:=TVal v/\inRg v
def xun (s:List UInt8) (hl:s.length<=200):∀ d k:Nat,k+d=s.length->∃ b,Iter (xbc s) (k:Int)=some (b,false,())
 | 0,k,h=>by
  have hk:k=s.length:=by omega
  subst hk;refine ⟨false,xaI ?_⟩;simp only [xbc,xdl,zy,zm,xaH,sUF]
 | d+1,k,h=>by
  have h1:(k:Int)<(s.length:Int):=by omega
  by_cases c1:(((s.getD k (0:UInt8)).toNat:Nat):Int)<32
  . refine ⟨true,xaI ?_⟩;simp only [xbc,xdl,sBU,h1,c1]
  . by_cases c2:(((s.getD k (0:UInt8)).toNat:Nat):Int)>126
    . refine ⟨true,xaI ?_⟩;simp only [xbc,xdl,sBU,h1,c1,c2]
    . obtain ⟨b,ih⟩:=xun s hl d (k+1) (by omega)
      refine ⟨b,?_⟩;rw [<-ih];refine xaT ?_;simp only [xbc,xdl,sBU,h1,c1,c2,xHc (n:=k) (by omega)]
def xCn (s:List UInt8) (hl:s.length<=200):∃ b,xiG s=some b:=by
 obtain ⟨b,e⟩:=xun s hl s.length 0 (by omega)
 have e:Iter (xbc s) (0:Int)=some (b,false,()):=e;unfold xiG xjU;rw [e];cases b with
 | true=>exact ⟨false,rfl⟩
 | false=>exact ⟨true,rfl⟩
def xDT (k i:Int) (t:List UInt8):∃ b,xoJ k i t=some b/\(b=true->xHu ⟨k,i,t⟩):=by
 have G:0<=k->k<=3->-1125899906842624<=i->i<=1125899906842624->t.length<=200->xHu ⟨k,i,t⟩:=fun h1 h2 h3 h4 h5 =>
  ⟨⟨⟨wf64 (show -9223372036854775808<=k by omega) (show k<=9223372036854775807 by omega),wf64 (show -9223372036854775808<=i by omega) (show i<=9223372036854775807 by omega),by show t.length<=maxLen;unfold maxLen;omega⟩,by show t.length<=_;omega⟩,⟨h3,h4⟩⟩
 unfold xoJ xmP;by_cases k0:k=0
 . by_cases i0:i=0
   . refine ⟨t==[],by simp [xbE,k0,i0,sUF],fun h=>?_⟩
     have:t=[]:=by simpa using h
     exact G (by omega) (by omega) (by omega) (by omega) (by rw [this];simp)
   . exact ⟨false,by simp [xbE,k0,i0,sUF],fun h=>by simp at h⟩
 . by_cases k1:k=1
   . by_cases t0:t=[]
     . by_cases i0:i>=-1125899906842624
       . refine ⟨decide (i<=1125899906842624),by simp [xbE,k1,t0,i0,sUF],fun h=>?_⟩
         have:i<=1125899906842624:=by simpa using h
         exact G (by omega) (by omega) (by omega) (by omega) (by rw [t0];simp)
       . exact ⟨false,by simp [xbE,k1,t0,i0,sUF],fun h=>by simp at h⟩
     . exact ⟨false,by simp [xbE,k1,t0,sUF],fun h=>by simp at h⟩
   . by_cases k2:k=2
     . by_cases i0:i=0
       . by_cases tl:(t.length:Int)<=200
         . obtain ⟨b,hb⟩:=xCn t (by omega)
           refine ⟨b,by simp [xbE,k2,i0,tl,hb,sUF],fun h=>?_⟩
           exact G (by omega) (by omega) (by omega) (by omega) (by omega)
         . exact ⟨false,by simp [xbE,k2,i0,tl,sUF],fun h=>by simp at h⟩
       . exact ⟨false,by simp [xbE,k2,i0,sUF],fun h=>by simp at h⟩
     . by_cases k3:k=3
       . by_cases t0:t=[]
         . by_cases i0:i=0
           . exact ⟨true,by simp [xbE,k3,t0,i0,sUF],fun h=>G (by omega) (by omega) (by omega) (by omega) (by rw [t0];simp)⟩
           . refine ⟨i==1,by simp [xbE,k3,t0,i0,sUF],fun h=>?_⟩
             have:i=1:=by simpa using h
             exact G (by omega) (by omega) (by omega) (by omega) (by rw [t0];simp)
         . exact ⟨false,by simp [xbE,k3,t0,sUF],fun h=>by simp at h⟩
       . exact ⟨false,by simp [xbE,k0,k1,k2,k3,sUF],fun h=>by simp at h⟩
def xtY (row:Row) (q:List Int) (hl:row.length=q.length) (hk:q.length<=48):∀ d n:Nat,n+d=row.length->∃ b,Iter (xbq (row.map encV) (q.map encN)) (n:Int)=some (!b,false,())/\(b=true->∀ v,v∈row.drop n->xHu v)
 | 0,n,h=>by
  have hn:n=row.length:=by omega
  subst hn;refine ⟨true,xaI ?_,fun _ v hv=>by rw [zq (zd _)] at hv;simp at hv⟩
  simp only [xbq,xei,za,zy,zm,xaH,Bool.not_true,sUF]
 | d+1,n,h=>by
  have hn:n<row.length:=by omega
  have J:n<q.length:=by omega
  have h1:(n:Int)<(row.length:Int):=by omega
  have h2:(n:Int)<(q.length:Int):=by omega
  have gf:(row.map encV).getD n .top=encV row[n]:=xaK _ _ _ hn;have gk:(q.map encN).getD n .top=encN q[n]:=xaK _ _ _ J;obtain ⟨b1,e1,g1⟩:=xDT row[n].k row[n].i row[n].t;cases b1 with
  | false =>
   refine ⟨false,xaI ?_,fun h=>by simp at h⟩
   simp only [xbq,xei,xeL,sBU,hn,h1,gf,cV0,cV1,cV2,lV,sV,e1]
  | true =>
   obtain ⟨b,ih,O⟩:=xtY row q hl hk d (n+1) (by omega)
   have hd:∀ c,c=true->b=c->∀ v,v∈row.drop n->xHu v:=fun c hc hb v hv=>by
    rw [xdS hn] at hv;rcases zC.1 hv with rfl|hv
    . exact g1 rfl
    . exact O (by rw [hb,hc]) v hv
   by_cases k0:row[n].k=0
   . refine ⟨b,?_,fun hb=>hd true rfl hb⟩
     rw [<-ih];refine xaT ?_;have k0':(row[n].k != 0)=false:=by simp [k0]
     simp only [xbq,xei,xeL,sBU,hn,h1,gf,cV0,cV1,cV2,lV,sV,sV0,e1,k0',xHc (n:=n) (by omega)]
   . have k0':(row[n].k != 0)=true:=by simp [k0]
     by_cases kk:row[n].k=q[n]
     . refine ⟨b,?_,fun hb=>hd true rfl hb⟩
       rw [<-ih];refine xaT ?_;have kk':(row[n].k != q[n])=false:=by simp [kk]
       simp only [xbq,xei,xeL,sBU,hn,J,h1,h2,gf,gk,cV0,cV1,cV2,lV,sV,cN,sN,sV0,e1,k0',kk',xHc (n:=n) (by omega)]
     . have kk':(row[n].k != q[n])=true:=by simp [kk]
       refine ⟨false,xaI ?_,fun h=>by simp at h⟩
       simp only [xbq,xei,xeL,sBU,hn,J,h1,h2,gf,gk,cV0,cV1,cV2,lV,sV,cN,sN,sV0,e1,k0',kk']
def xCw (row:Row) (q:List Int) (hk:q.length<=48):∃ b,xnj (row.map encV) (q.map encN)=some b/\(b=true->row.length=q.length/\∀ v,v∈row->xHu v):=by
 unfold xnj xnT;by_cases hl:row.length=q.length
 . obtain ⟨b,e,g⟩:=xtY row q hl hk row.length 0 (by omega)
   have e:Iter (xbq (row.map encV) (q.map encN)) (0:Int)=_:=e;refine ⟨b,?_,fun hb=>⟨hl,by simpa using g hb⟩⟩
   rw [e];simp only [sBU,hl,bne_self_eq_false];cases b<;>rfl
 . refine ⟨false,?_,fun h=>by simp at h⟩
   have:(((row.length:Nat):Int) != ((q.length:Nat):Int))=true:=by simp;omega
   simp only [za,this,xaj,sUF]
def xt8 (q:List Int) (hk:q.length<=48):∀ d n:Nat,n+d=q.length->∃ b,Iter (xbN (q.map encN)) (n:Int)=some (b,false,())
 | 0,n,h=>by
  have hn:n=q.length:=by omega
  subst hn;refine ⟨false,xaI ?_⟩;simp only [xbN,xf1,za,zy,zm,xaH,sUF]
 | d+1,n,h=>by
  have hn:n<q.length:=by omega
  have h1:(n:Int)<(q.length:Int):=by omega
  have gk:(q.map encN).getD n .top=encN q[n]:=xaK _ _ _ hn;cases c:xpy q[n] with
  | false =>
   refine ⟨true,xaI ?_⟩;simp only [xbN,xf1,sBU,hn,h1,gk,cN,sN,c]
  | true =>
   obtain ⟨b,ih⟩:=xt8 q hk d (n+1) (by omega)
   refine ⟨b,?_⟩;rw [<-ih];refine xaT ?_;simp only [xbN,xf1,sBU,hn,h1,gk,cN,sN,c,xHc (n:=n) (by omega)]
def xzA (q:List Int) (hk:q.length<=48):∃ b,xmj (q.map encN)=some b:=by
 obtain ⟨b,e⟩:=xt8 q hk q.length 0 (by omega)
 have e:Iter (xbN (q.map encN)) (0:Int)=some (b,false,()):=e;unfold xmj xmQ;rw [e];cases b with
 | true=>exact ⟨false,rfl⟩
 | false=>exact ⟨true,rfl⟩
def FactOk (q:List Int) (f:Fc):Prop:=pv f.p=true/\f.r.length=q.length/\∀ v,v∈f.r->xHu v
def xs3 (q:List Int) (hk:q.length<=48) (l:List Fc) (hl:l.length<=1024):∀ d n:Nat,n+d=l.length ->
  ∃ b,Iter xbO ((n:Int),q.map encN,l.map encF)=some (if b=true then (false,(false,[],[]),(q.map encN,l.map encF)) else (true,(false,q.map encN,l.map encF),([],[])))/\(b=true->∀ f,f∈l.drop n->FactOk q f)
 | 0,n,h=>by
  have hn:n=l.length:=by omega
  subst hn;refine ⟨true,xaI ?_,fun _ v hv=>by rw [zq (zd _)] at hv;simp at hv⟩
  simp only [xbO,xeM,za,zy,zm,xaH,if_true,sUF]
 | d+1,n,h=>by
  have hn:n<l.length:=by omega
  have h1:(n:Int)<(l.length:Int):=by omega
  have gf:(l.map encF).getD n .top=encF l[n]:=xaK _ _ _ hn;obtain ⟨b1,e1,g1⟩:=xCw l[n].r q hk;cases hv:pv l[n].p with
  | false =>
   refine ⟨false,xaI ?_,fun h=>by simp at h⟩
   simp only [xbO,xeM,sBU,hn,h1,gf,cF0,cF1,cF2,sF0,sF1,sF2,lF,sF12,sF02,xqM,hv,if_false];simp
  | true =>
   cases b1 with
   | false =>
    refine ⟨false,xaI ?_,fun h=>by simp at h⟩
    simp only [xbO,xeM,sBU,hn,h1,gf,cF0,cF1,cF2,sF0,sF1,sF2,lF,sF12,sF02,xqM,hv,e1];simp
   | true =>
    obtain ⟨b,ih,J⟩:=xs3 q hk l hl d (n+1) (by omega)
    refine ⟨b,?_,fun hb f hf=>?_⟩
    . rw [<-ih];refine xaT ?_;simp only [xbO,xeM,sBU,hn,h1,gf,cF0,cF1,cF2,sF0,sF1,sF2,lF,sF12,sF02,xqM,hv,e1,xHc (n:=n) (by omega)]
    . rw [xdS hn] at hf;rcases zC.1 hf with rfl|hf
      . exact ⟨hv,g1 rfl⟩
      . exact J hb f hf
def xCE (q:List Int) (hk:q.length<=48) (l:List Fc) (hl:l.length<=1024):∃ b,xmk (q.map encN) (l.map encF)=some b/\(b=true->∀ f,f∈l->FactOk q f):=by
 obtain ⟨b,e,g⟩:=xs3 q hk l hl l.length 0 (by omega)
 have e:Iter xbO ((0:Int),q.map encN,l.map encF)=_:=e;obtain ⟨bk,ek⟩:=xzA q hk;unfold xmk xmS;cases b with
 | false =>
  rw [if_neg (by simp)] at e
  refine ⟨false,?_,fun h=>by simp at h⟩
  simp only [xht,xd0,sBU,e]
 | true =>
  rw [if_pos rfl] at e;have h1:((q.length:Nat):Int)<=48:=by omega
  by_cases h0:((q.length:Nat):Int)>0
  . refine ⟨bk,?_,fun _ f hf=>g rfl f (by simpa using hf)⟩
    simp only [xht,xd0,sBU,e,h0,h1,ek]
  . refine ⟨false,?_,fun h=>by simp at h⟩
    simp only [xht,xd0,sBU,e,h0]
def xv1 (a b:List Int) (ha:a.length<=1048576):xff (a.map encN) (b.map encN)=some (decide (a=b)):=by
 unfold xff xjV;by_cases hl:a.length=b.length
 . have e:Iter (xbW (a.map encN) (b.map encN)) (0:Int)=some (if a=b then (false,false,()) else (true,false,())):=by
    refine xyj a b hl (fun n h h2=>?_) ?_
    . have h1:(n:Int)<(a.length:Int):=by omega
      have h3:(n:Int)<(b.length:Int):=by omega
      have gf:(a.map encN).getD n .top=encN a[n]:=xaK _ _ _ h;have gg:(b.map encN).getD n .top=encN b[n]:=xaK _ _ _ h2;simp only [xbW,xfD,sBU,h,h1,h2,h3,gf,gg,cN,sN,xHc (n:=n) (by omega)]
      by_cases he:a[n]=b[n]<;>simp [he,xaj,xaH,xbE,sUF]
    . simp only [xbW,xfD,za,zy,zm,xaH,sUF]
   have hne:(((a.length:Nat):Int) != ((b.length:Nat):Int))=false:=by simp [hl]
   simp only [za,hne,xaH,e,sUF];by_cases he:a=b<;>simp [he,xaj,xaH,sUF]
 . have hne:(((a.length:Nat):Int) != ((b.length:Nat):Int))=true:=by simp;omega
   have:a≠b:=fun e=>hl (by rw [e])
   simp only [za,hne,xaj,this,zm,sUF]
def xBE (ka kb:List Int) (a b:List Fc) (hk:ka.length<=1048576) (h:a.length<=1048576) (hr:∀ f,f∈a->f.r.length<=60):xia (ka.map encN) (a.map encF) (kb.map encN) (b.map encF)=some (decide (ka=kb)&&decide (a=b)):=by
 have e1:=xv1 ka kb hk;have e2:=xuv a b h (fun f hf=>by have:=hr f hf;unfold maxLen;omega)
 unfold xia xmR;simp only [e1,e2,zk,zh,xaj,sUF];cases decide (ka=kb)<;>simp [xaj,xaH,sUF]
structure SR1 (K:List Int) (l:List Fc):Prop where
 len:l.length<=16
 kl:K.length<=48
 fact:∀ f,f∈l->FactOk K f
def xAE (K:List Int) (l:List Fc):∃ b,xkM (K.map encN) (l.map encF)=some b/\(b=true->SR1 K l):=by
 unfold xkM xoF;simp only [za];by_cases h1:((l.length:Nat):Int)<=16
 . by_cases h2:((K.length:Nat):Int)<=48
   . obtain ⟨b,e,g⟩:=xCE K (by omega) l (by omega)
     refine ⟨b,?_,fun hb=>⟨by omega,by omega,g hb⟩⟩
     simp only [h1,h2,zn,xaj,e,zk,zh,sUF]
   . refine ⟨false,?_,fun h=>by simp at h⟩
     simp only [h1,h2,zn,zm,xaj,xaH,sUF]
 . refine ⟨false,?_,fun h=>by simp at h⟩
   simp only [h1,zm,xaH,sUF]
def xDL (Ka Kb:List Int) (a b:List Fc):∃ c,xng (Ka.map encN) (a.map encF) (Kb.map encN) (b.map encF)=some c/\(c=true->SR1 Ka a/\SR1 Kb b/\Ka=Kb):=by
 obtain ⟨x,x1,x2⟩:=xAE Ka a;obtain ⟨y,y1,y2⟩:=xAE Kb b;unfold xng xnK;cases x with
 | false=>exact ⟨false,by simp only [x1,zk,zh,xaj,xaH,sUF],fun h=>by simp at h⟩
 | true =>
  cases y with
  | false=>exact ⟨false,by simp only [x1,y1,zk,zh,xaj,xaH,sUF],fun h=>by simp at h⟩
  | true =>
   have e:=xv1 Ka Kb (by have:=(x2 rfl).kl;omega)
   refine ⟨decide (Ka=Kb),by simp only [x1,y1,e,zk,zh,xaj,sUF],fun h=>⟨x2 rfl,y2 rfl,by simpa using h⟩⟩
def Nice (l:List Fc):Prop:=∀ f,f∈l->f.r.length<=48/\∀ v,v∈f.r->xHu v
def SR1.nice {K:List Int} {l:List Fc} (h:SR1 K l):Nice l:=fun f hf=>by
 have h1:=(h.fact f hf).2.1;have h2:=h.kl;exact ⟨by omega,(h.fact f hf).2.2⟩
def Nice.keyed {l:List Fc} (h:Nice l) (hl:l.length<=1048576):Keyed l :=
 ⟨⟨hl,fun f hf=>by have:=(h f hf).1;omega⟩,fun f hf=>⟨fun v hv=>⟨((h f hf).2 v hv).1.1,by have:=((h f hf).2 v hv).1.2;omega⟩,xqs (fun v hv=>((h f hf).2 v hv).1) (by have:=(h f hf).1;omega)⟩⟩
def Nice.bld {l:List Fc} (h:Nice l) (hl:l.length<=1024):Bld l:=⟨h.keyed (by omega),hl⟩
def Nice.append {a b:List Fc} (ha:Nice a) (hb:Nice b):Nice (a++b):=fun f hf=>by
 rcases zG.1 hf with h|h
 . exact ha f h
 . exact hb f h
def Nice.of {a b l:List Fc} (ha:Nice a) (hb:Nice b) (h:∀ f,f∈l->(∃ x,x∈a/\x.r=f.r)\/∃ x,x∈b/\x.r=f.r):Nice l:=fun f hf=>by
 rcases h f hf with ⟨x,hx,e⟩|⟨x,hx,e⟩
 . rw [<-e];exact ha x hx
 . rw [<-e];exact hb x hx
structure RelB (N:Row->Int->Nat) (m:Nat) (B:List Fc):Prop where
 isB:IsB N B
 len:B.length<=m
 nice:Nice B
def xkD {N:Int->Nat} {P:List Per} (h:IsSpan P) (hP:∀ t,inL P t=decide (0<N t)):IsLevs (fun t=>if 0<N t then 1 else 0) P:=by
 refine ⟨List.Pairwise.imp_of_mem (fun {p q} hp hq J=>xlW.2 (.inl (by have:=xbT.1 (h.1 p hp);omega))) h.2,fun k=>if k=0 then P else [],1,fun t=>by split<;>omega,fun k=>?_,by simp⟩
 . by_cases hk:k=0
   . subst hk;refine ⟨by simpa using h,fun t=>?_⟩
     simp only [if_true,hP];by_cases h0:0<N t<;>simp [h0]
   . refine ⟨by simp [hk,xfB],fun t=>?_⟩
     simp only [hk,if_false,xfc];symm;rw [decide_eq_false_iff_not];split<;>omega
def xHo.isB {l B:List Fc} (h:xHo l B):IsB (fun r t=>if 0<cnt l r t then 1 else 0) B:=by
 obtain ⟨R,L,h1,h2,rfl⟩:=h;refine ⟨R,L,h1.1,fun r t ht=>(h1.2 r).2 (xnV.2 ⟨t,?_⟩),fun r hr=>xkD (h2 r hr).1 (h2 r hr).2,rfl⟩
 by_cases h0:0<cnt l r t
 . exact h0
 . simp [h0] at ht
def xHo.len1 {l B:List Fc} (h:xHo l B):B.length<=l.length:=by
 obtain ⟨R,L,h1,h2,rfl⟩:=h;have e:=xpj (L:=L) (a:=l) (b:=[]) R fun r hr=>by
  have:=xmw (xkD (h2 r hr).1 (h2 r hr).2) ((xHa l r).map (·.1)) fun t=>by
   have:=xgp (xHa l r) t;rw [xnr,xnr] at this;by_cases c1:0<cnt l r t
   . by_cases c2:0<cnt l r (t - 1)
     . simp only [c1,c2,if_true];omega
     . simp only [c1,c2,if_true,if_false];omega
   . simp only [c1,if_false];omega
  simp at this;omega
 have hn:=h1.1.nodup xpf;have e2:=xpc l R hn;have e3:=xpc [] R hn;rw [List.length_nil] at e3;omega
def xH2 (K:List Int):List.take K.length (K.map encN)=K.map encN:=zi (by simp)
def xqT (K:List Int) (kb:List AV) {a b:List Fc} (hK:K.length<=1048576) (ha:Nice a) (hb:Nice b) (hl:a.length+b.length<=1024) :
  ∃ B:List Fc,xfQ (K.map encN) (a.map encF) kb (b.map encF)=some (K.map encN,B.map encF)/\RelB (fun r t=>cnt a r t+cnt b r t) (a.length+b.length) B:=by
 obtain ⟨B,b1,b2,b3,b4⟩:=xtq opA (ha.keyed (by omega)) (hb.keyed (by omega)) hl
 refine ⟨B,?_,b2,b3,ha.of hb b4⟩;have b1:xpF (a.map encF) (b.map encF)=some (B.map encF):=b1;have m:K.length<=1099511627776:=by omega
 unfold xfQ xmT;simp only [za,m,b1,zk,zh,zn,Bool.and_self,xaj,sUF]
def xsZ (K:List Int) (kb:List AV) {a b:List Fc} (hK:K.length<=1048576) (ha:Nice a) (hb:Nice b) (hl:a.length+b.length<=1024) :
  ∃ B:List Fc,xhy (K.map encN) (a.map encF) kb (b.map encF)=some (K.map encN,B.map encF)/\RelB (fun r t=>cnt a r t - cnt b r t) (a.length+b.length) B:=by
 obtain ⟨B,b1,b2,b3,b4⟩:=xtq opX (ha.keyed (by omega)) (hb.keyed (by omega)) hl
 refine ⟨B,?_,b2,b3,ha.of hb b4⟩;have b1:xpH (a.map encF) (b.map encF)=some (B.map encF):=b1;have m:K.length<=1099511627776:=by omega
 unfold xhy xl4;simp only [za,m,b1,zk,zh,zn,Bool.and_self,xaj,sUF]
def xBo (K:List Int) (kb:List AV) {a b:List Fc} (hK:K.length<=1048576) (ha:Nice a) (hb:Nice b) (hl:a.length+b.length<=1024) :
  ∃ B:List Fc,xiI (K.map encN) (a.map encF) kb (b.map encF)=some (K.map encN,B.map encF)/\RelB (fun r t=>min (cnt a r t) (cnt b r t)) (a.length+b.length) B:=by
 obtain ⟨B,b1,b2,b3,b4⟩:=xtq opM (ha.keyed (by omega)) (hb.keyed (by omega)) hl
 refine ⟨B,?_,b2,b3,ha.of hb b4⟩;have b1:xpG (a.map encF) (b.map encF)=some (B.map encF):=b1;have m:K.length<=1099511627776:=by omega
 unfold xiI xjX;simp only [za,m,b1,zk,zh,zn,Bool.and_self,xaj,sUF]
def xyJ {a:List Fc} (ha:Nice a) (hl:a.length<=1024) :
  ∃ B:List Fc,xhp (a.map encF)=some (B.map encF)/\xHo a B/\RelB (fun r t=>if 0<cnt a r t then 1 else 0) a.length B:=by
 obtain ⟨B,b1,b2⟩:=xFL a (ha.bld hl);exact ⟨B,b1,b2,b2.isB,b2.len1,b2.all (Q:=fun r=>r.length<=48/\∀ v,v∈r->xHu v) ha⟩
def xhv (K:List Int) {a:List Fc} (hK:K.length<=1048576) (ha:Nice a) (hl:a.length<=1024) :
  ∃ B:List Fc,xbh (K.map encN) (a.map encF)=some (K.map encN,B.map encF)/\xHo a B/\RelB (fun r t=>if 0<cnt a r t then 1 else 0) a.length B:=by
 obtain ⟨B,b1,b2,b3⟩:=xyJ ha hl;refine ⟨B,?_,b2,b3⟩;have m1:K.length*8<=140737488355328:=by omega
 have m2:K.length<=4611686018427387904:=by omega
 unfold xbh xkz;simp only [za,m1,m2,b1,zk,zh,zn,Bool.and_self,zH,zd,xaj,zr,xH2,sUF]
def RelB.cnt {N:Row->Int->Nat} {m:Nat} {B:List Fc} (h:RelB N m B) (r:Row) (t:Int):cnt B r t=N r t:=h.isB.cntB r t
def Nice.short {l:List Fc} (h:Nice l):∀ f,f∈l->f.r.length<=60:=fun f hf=>by have:=(h f hf).1;omega
def xyT {K:List Int} {a b:List Fc} (hK:K.length<=1048576) (ha:a.length<=1048576) (hn:Nice a) (e:a=b):xia (K.map encN) (a.map encF) (K.map encN) (b.map encF)=some true:=by
 rw [xBE K K a b hK ha hn.short,e];simp
def sqG (ky:AV->List UInt8) (pt:AV->List AV) (s:List En×List AV) (f:AV):List En×List AV:=(addE s.1 (ky f) (perA f),match ixE s.1 (ky f) with
 | none=>s.2++[.list 3 (pt f)]
 | some _=>s.2)
def xBq (ky:AV->List UInt8) (pt:AV->List AV):∀ (l:List AV) (s:List En×List AV),(l.foldl (sqG ky pt) s).1=l.foldl (fun es x=>addE es (ky x) (perA x)) s.1
 | [],s=>rfl
 | x::l,s=>by rw [List.foldl_cons,List.foldl_cons,xBq ky pt l];rfl
def xAT (k s:List UInt8) (p:AV):∀ es:List En,(ixE (addE es k p) s).isNone=((ixE es s).isNone&&!(k==s))
 | []=>by
  simp only [addE,ixE];cases k==s<;>rfl
 | e::es=>by
  have ih:=xAT k s p es;rw [addE];cases he:e.1==k with
  | true =>
   have e1:e.1=k:=by simpa using he
   dsimp only;rw [ixE,ixE,e1];cases h:k==s with
   | true=>rfl
   | false=>simp
  | false =>
   dsimp only;rw [ixE,ixE];cases h:e.1==s with
   | true=>rfl
   | false =>
    dsimp only;rw [Option.isNone_map,Option.isNone_map,ih]
def byP (π:Row->Row) (l:List Fc) (ρ:Row):List Per:=(l.filter fun f=>decide (π f.r=ρ)).map (·.p)
def PtOk (π:Row->Row) (ky:AV->List UInt8) (pt:AV->List AV) (l:List Fc):Prop:=∀ f,f∈l->ky (encF f)=keyOf (π f.r)/\pt (encF f)=(π f.r).map encV
def xv8 {π:Row->Row} {ky:AV->List UInt8} {pt:AV->List AV}:∀ (l:List Fc) (h:PtOk π ky pt l) (es:List En) (R:List Row),R.Nodup->(∀ r,(ixE es (keyOf r)).isNone=decide (r∉R)) ->
  ∃ R':List Row,((l.map encF).foldl (sqG ky pt) (es,R.map encR)).2=R'.map encR/\R'.Nodup/\(∀ r,r∈R'↔r∈R\/∃ f,f∈l/\π f.r=r)/\R'.length<=R.length+l.length
 | [],h,es,R,hR,hi=>⟨R,rfl,hR,fun r=>by simp,by simp⟩
 | f::l,h,es,R,hR,hi=>by
  obtain ⟨h1,h2⟩:=h f (by simp)
  have hl:PtOk π ky pt l:=fun g hg=>h g (by simp [hg])
  have q:=hi (π f.r);rw [zV,List.foldl_cons];have J:∀ R2:List Row,(∀ r,r∈R2↔r∈R\/π f.r=r)->∀ r,(ixE (addE es (keyOf (π f.r)) (perA (encF f))) (keyOf r)).isNone=decide (r∉R2):=fun R2 h2 r=>by
   rw [xAT,hi];by_cases hr:π f.r=r
   . have:(keyOf (π f.r)==keyOf r)=true:=by simp [hr]
     rw [this];have hm:r∈R2:=(h2 r).2 (.inr hr);simp [hm]
   . have:(keyOf (π f.r)==keyOf r)=false:=by
      rw [beq_eq_false_iff_ne];exact fun e=>hr (xo0 e)
     rw [this];have:r∈R2↔r∈R:=by rw [h2];simp [hr]
     simp [this]
  cases hc:ixE es (keyOf (π f.r)) with
  | none =>
   rw [hc] at q;have hn:π f.r∉R:=by
    have:true=decide (π f.r∉R):=q;exact of_decide_eq_true this.symm
   have e:sqG ky pt (es,R.map encR) (encF f)=(addE es (keyOf (π f.r)) (perA (encF f)),(R++[π f.r]).map encR):=by
    unfold sqG;rw [h1,h2];dsimp only;rw [hc];simp [encR]
   rw [e];obtain ⟨R',r1,r2,r3,r4⟩:=xv8 l hl (addE es (keyOf (π f.r)) (perA (encF f))) (R++[π f.r]) (List.nodup_append.2 ⟨hR,by simp,fun a ha b hb e=>by
    simp at hb;exact hn (by rw [<-hb,<-e];exact ha)⟩) (J _ fun r=>by
     rw [zG,zv];exact ⟨fun c=>c.imp id Eq.symm,fun c=>c.imp id Eq.symm⟩)
   refine ⟨R',r1,r2,fun r=>?_,by rw [z8,zj] at r4;rw [zF];omega⟩
   rw [r3,zG,zv];constructor
   . rintro ((h|rfl)|⟨g,g1,g2⟩)
     . exact .inl h
     . exact .inr ⟨f,by simp,rfl⟩
     . exact .inr ⟨g,by simp [g1],g2⟩
   . rintro (h|⟨g,g1,g2⟩)
     . exact .inl (.inl h)
     . rcases zC.1 g1 with rfl|g1
       . exact .inl (.inr g2.symm)
       . exact .inr ⟨g,g1,g2⟩
  | some j =>
   rw [hc] at q;have hn:π f.r∈R:=by
    have:false=decide (π f.r∉R):=q;have:=of_decide_eq_false this.symm;simpa using this
   have e:sqG ky pt (es,R.map encR) (encF f)=(addE es (keyOf (π f.r)) (perA (encF f)),R.map encR):=by
    unfold sqG;rw [h1];dsimp only;rw [hc]
   rw [e];obtain ⟨R',r1,r2,r3,r4⟩:=xv8 l hl (addE es (keyOf (π f.r)) (perA (encF f))) R hR (J _ fun r=>⟨.inl,fun c=>c.elim id fun e=>e▸hn⟩)
   refine ⟨R',r1,r2,fun r=>?_,by rw [zF];omega⟩
   rw [r3];constructor
   . rintro (h|⟨g,g1,g2⟩)
     . exact .inl h
     . exact .inr ⟨g,by simp [g1],g2⟩
   . rintro (h|⟨g,g1,g2⟩)
     . exact .inl h
     . rcases zC.1 g1 with rfl|g1
       . exact .inl (g2▸hn)
       . exact .inr ⟨g,g1,g2⟩
def xAY (es:List En) (s:List UInt8):lookL (es.map waa) s=wak es s:=by
 unfold lookL;rw [xjc];cases h:ixE es s with
 | none=>exact (xsF h).symm
 | some i =>
  have hi:=xnH h;rw [xsG h];dsimp only;rw [show (es.map waa).getD i .top=waa (es.getD i default) by simp [z7,hi]]
  rfl
def xBh (es:List En) (s:List UInt8):(!xIB (es.map waa) s || xIM 2 (xIo AV.nils (es.map waa) s))=true:=by
 unfold xIo xIB;rw [xjc];cases h:ixE es s with
 | none=>rfl
 | some i =>
  have hi:=xnH h;dsimp only;rw [show (es.map waa).getD i .top=waa (es.getD i default) by simp [z7,hi]]
  rfl
def xDE {π:Row->Row} {ky:AV->List UInt8} {pt:AV->List AV} {l:List Fc} (h:PtOk π ky pt l) (ρ:Row):lookL ((((l.map encF).foldl (sqG ky pt) ([],[])).1).map waa) (keyOf ρ)=(byP π l ρ).map encP:=by
 rw [xAY,xBq,xuc];show []++_=_;rw [zU];unfold byP;rw [List.filter_map,List.map_map,List.map_map];have:l.filter ((fun x=>ky x==keyOf ρ)∘encF)=l.filter fun f=>decide (π f.r=ρ):=List.filter_congr fun f hf=>by
  show (ky (encF f)==keyOf ρ)=_;rw [(h f hf).1];by_cases hr:π f.r=ρ
  . simp [hr]
  . have:(keyOf (π f.r)==keyOf ρ)=false:=by
     rw [beq_eq_false_iff_ne];exact fun e=>hr (xo0 e)
    rw [this];simp [hr]
 rw [this];rfl
structure PerM (π:Row->Row) (l:List Fc) (ms rs:List AV) (R:List Row):Prop where
 look:∀ ρ,lookL ms (keyOf ρ)=(byP π l ρ).map encP
 row:∀ s,(!xIB ms s || xIM 2 (xIo AV.nils ms s))=true
 rows:rs=R.map encR
 nd:R.Nodup
 mem:∀ r,r∈R↔∃ f,f∈l/\π f.r=r
 len:R.length<=l.length
def xyy {π:Row->Row} {ky:AV->List UInt8} {pt:AV->List AV} {l:List Fc} (h:PtOk π ky pt l):∃ R,PerM π l ((((l.map encF).foldl (sqG ky pt) ([],[])).1).map waa) ((l.map encF).foldl (sqG ky pt) ([],[])).2 R:=by
 obtain ⟨R,r1,r2,r3,r4⟩:=xv8 l h [] [] List.nodup_nil fun r=>by simp [ixE]
 exact ⟨R,xDE h,xBh _,r1,r2,fun r=>by rw [r3];simp,by simpa using r4⟩
def xFG {l:List Fc} (h:Keyed l):PtOk id (fun f=>kyQ none (rowF f)) (fun f=>ptQ none (rowF f)) l:=fun f hf=>by
 refine ⟨?_,rfl⟩;show (xa0 (f.r.map encV)).getD []=keyOf f.r;rw [h.skey hf];rfl
def xvV {l:List Fc} (h:Keyed l):xnq (l.map encF)=true/\∃ R,PerM id l (xg0 (l.map encF)) (xqG (l.map encF)) R:=by
 refine ⟨?_,xyy (xFG h)⟩;have hl:=h.1.1;unfold xnq;simp only [zf,zl,zI,List.mem_range,za];refine ⟨by omega,fun i hi=>?_⟩
 rw [xaK _ _ _ hi];have hf:=zo hi;have e1:=h.skey hf;have e2:=(h.2 _ hf).2;have m:(keyOf l[i].r).length<=4611686018427387904:=by omega
 unfold foQ;have c1:((encF l[i]).cells.length==3)=true:=rfl;have c2:xIb [.list 3,.int .i64,.int .i64] (encF l[i]).cells 0=true:=rfl;have c3:okQ none (rowF (encF l[i]))=true:=rfl;have c4:xa0 (ptQ none (rowF (encF l[i])))=some (keyOf l[i].r):=e1;have c5:kyQ none (rowF (encF l[i]))=keyOf l[i].r:=by unfold kyQ;rw [c4];rfl
 rw [c1,c2,c3,c4,c5];simp [m]
def xyh (n:Nat) (r:Row) (hn:n<=r.length) (hr:r.length<=1048576):xgx (r.map encV) (n:Int)=some ((r.take n).map encV):=by
 have v:xhq (r.map encV) (n:Int)=(n:Int):=by
  unfold xhq;rw [za];split<;>omega
 have h1:(n:Int)<=(r.length:Int):=by omega
 unfold xgx xmK;rw [v];simp only [za,h1,Int.natCast_nonneg,zn,Bool.and_self,xaj,zN,Nat.sub_zero,zr,List.map_take,sUF]
def xwi {l:List Fc} (h:Nice l) {f:Fc} (hf:f∈l) (n:Nat):xa0 ((f.r.take n).map encV)=some (keyOf (f.r.take n))/\(keyOf (f.r.take n)).length<=4611686018427387904:=by
 obtain ⟨h1,h2⟩:=h f hf;have hl:(f.r.take n).length<=48:=by rw [zt];omega
 have hv:∀ v,v∈f.r.take n->xHu v:=fun v hv=>h2 v (List.mem_of_mem_take hv)
 have hk:=xqs (r:=f.r.take n) (fun v q=>(hv v q).1) (by omega)
 exact ⟨xtJ _ (by omega) (fun v q=>⟨(hv v q).1.1,by have:=(hv v q).1.2;omega⟩) hk,by omega⟩
def xFF {l:List Fc} (h:Nice l) (n:Nat) (hn:∀ f,f∈l->n<=f.r.length):PtOk (·.take n) (fun f=>kyQ (some (n:Int)) (rowF f)) (fun f=>ptQ (some (n:Int)) (rowF f)) l:=fun f hf=>by
 have e:ptQ (some (n:Int)) (rowF (encF f))=(f.r.take n).map encV:=by
  show (xgx (f.r.map encV) (n:Int)).getD []=_;rw [xyh n f.r (hn f hf) (by have:=(h f hf).1;omega)];rfl
 refine ⟨?_,e⟩;show (xa0 (ptQ (some (n:Int)) (rowF (encF f)))).getD []=keyOf (f.r.take n);rw [e,(xwi h hf n).1];rfl
def xCk {l:List Fc} (h:Nice l) (hl:l.length<=1048576) (n:Nat) (hn:∀ f,f∈l->n<=f.r.length):xo3 (l.map encF) (n:Int)=true/\∃ R,PerM (·.take n) l (xnP (l.map encF) (n:Int)) (xon (l.map encF) (n:Int)) R:=by
 refine ⟨?_,xyy (xFF h n hn)⟩;unfold xo3;simp only [zf,zl,zI,List.mem_range,za];refine ⟨by omega,fun i hi=>?_⟩
 rw [xaK _ _ _ hi];have hf:=zo hi;obtain ⟨e1,e2⟩:=xwi h hf n;have e3:=xyh n l[i].r (hn _ hf) (by have:=(h _ hf).1;omega)
 have c3:okQ (some (n:Int)) (rowF (encF l[i]))=true:=by
  show (xgx (l[i].r.map encV) (n:Int)).isSome=true;rw [e3];rfl
 have c6:ptQ (some (n:Int)) (rowF (encF l[i]))=(l[i].r.take n).map encV:=by
  show (xgx (l[i].r.map encV) (n:Int)).getD []=_;rw [e3];rfl
 have c5:kyQ (some (n:Int)) (rowF (encF l[i]))=keyOf (l[i].r.take n):=by unfold kyQ;rw [c6,e1];rfl
 unfold foQ;have c1:((encF l[i]).cells.length==3)=true:=rfl;have c2:xIb [.list 3,.int .i64,.int .i64] (encF l[i]).cells 0=true:=rfl;rw [c1,c2,c3,c5,c6,e1];simp [e2]
theorem xyi (X:List Per) (t:Int):inL X t=decide (0<X.countP (hasP · t)):=by
 rw [Bool.eq_iff_iff,zl,List.countP_pos_iff];unfold inL;rw [List.any_eq_true]
theorem xtO {X Y r:List Per} (h:IsSpan r) (hr:∀ t,inL r t=(inL X t&&!inL Y t)):r.length<=X.length+Y.length:=by
 have:=xmw (xkD (N:=fun t=>if 0<X.countP (hasP · t)/\¬ 0<Y.countP (hasP · t) then 1 else 0) h fun t=>by
  rw [hr,xyi,xyi];by_cases c1:0<X.countP (hasP · t)<;>by_cases c2:0<Y.countP (hasP · t)<;>simp [c1,c2]) (X.map (·.1)++Y.map (·.2)) fun t=>by
  have h1:=xgp X t;have h2:=xrc Y t;rw [List.count_append];by_cases c1:0<X.countP (hasP · t)
  . by_cases c2:0<Y.countP (hasP · t)
    . simp [c1,c2]
    . by_cases c3:0<X.countP (hasP · (t - 1))
      . by_cases c4:0<Y.countP (hasP · (t - 1))
        . simp [c1,c2,c3,c4];omega
        . simp [c1,c2,c3,c4]
      . simp [c1,c2,c3];omega
  . simp [c1]
 simpa using this
theorem xAo (h t:Row) (hl:h.length+t.length<=1048576):xjt (h.map encV) (t.map encV)=some ((h++t).map encV):=by
 have w0:IntKind.i64.wrap (0+(h.length:Int))=(h.length:Int):=by rw [xba (by omega) (by omega)];omega
 have w1:IntKind.i64.wrap ((h.length:Int)+(t.length:Int))=((h.length+t.length:Nat):Int):=by rw [xba (by omega) (by omega)];omega
 have n0:¬ (h.length:Int)<0:=by omega
 have n1:¬ ((h.length+t.length:Nat):Int)<0:=by omega
 have n2:((h.length+t.length:Nat):Int)<=4398046511104:=by omega
 have m1:h.length*32<=140737488355328:=by omega
 have m2:h.length<=4611686018427387904:=by omega
 have m3:(h.length+t.length)*32<=140737488355328:=by omega
 have m4:h.length+t.length<=4611686018427387904:=by omega
 have tt:List.take (h.length+t.length) (h.map encV++t.map encV)=h.map encV++t.map encV:=zi (by simp)
 have e:xew (h.map encV) (t.map encV)=some ((h++t).map encV):=by
  unfold xew xiL xh0 xf2;simp only [za,w0,w1,n0,n1,n2,m1,m2,m3,m4,Int.natCast_nonneg,zH,zU,z8,zd,zn,zm,Bool.and_self,zS,beq_self_eq_true,xaj,xaH,zr,tt,zx,sUF]
 unfold xjt xl8;simp only [e,zk,zh,xaj,sUF]
structure LkM (ms:List AV) (D:Row->List Per):Prop where
 look:∀ ρ,lookL ms (keyOf ρ)=(D ρ).map encP
 row:∀ s,(!xIB ms s || xIM 2 (xIo AV.nils ms s))=true
def TRow (r:Row):Prop:=r.length<=48/\∀ v,v∈r->xHu v
theorem TRow.key {r:Row} (h:TRow r):xa0 (r.map encV)=some (keyOf r)/\(keyOf r).length<=4611686018427387904:=by
 have hk:=xqs (r:=r) (fun v q=>(h.2 v q).1) (by have:=h.1;omega)
 exact ⟨xtJ _ (by have:=h.1;omega) (fun v q=>⟨(h.2 v q).1.1,by have:=(h.2 v q).1.2;omega⟩) hk,by omega⟩
theorem xAy (n:Int) (h:Row) {du dv:List AV} {Du Dv:Row->List Per} (hu:LkM du Du) (hv:LkM dv Dv) (lu:∀ r,(Du r).length<=64) (lv:∀ r,(Dv r).length<=64) (T:List Row) (hT:T.length<=64) (ht:∀ t,t∈T->TRow t/\TRow (h++t)) :
  ∀ (d k:Nat) (l:List Per),k+d=T.length->l.length<=64+128*k->IsSpan l ->
  ∃ l':List Per,(∀ (on:Nat) (O:List AV) (Q q:Int) (a0 a1 hs os:List AV),Iter (xdn n (T.map encR) on (h.map encV) O Q q (T.map encR) ((T.length:Nat):Int)) (l.map encP,(k:Int),a0,a1,du,hs,dv,os)=some (l'.map encP,a0,a1,du,hs,dv,os)) /\
   IsSpan l'/\∀ τ,inL l' τ=(inL l τ&&(T.drop k).all fun t=>!(inL (Dv t) τ&&!inL (Du (h++t)) τ))
 | 0,k,l,hk,hl,hs=>by
  have:k=T.length:=by omega
  subst this;refine ⟨l,fun on O Q q a0 a1 hs os=>xaI ?_,hs,fun τ=>by rw [zq (zd _)];simp⟩
  simp [xdn,xhh,xaH,sUF]
 | d+1,k,l,hk,hl,hs=>by
  have J:k<T.length:=by omega
  obtain ⟨t1,t2⟩:=ht T[k] (zo J);obtain ⟨k1,k2⟩:=t1.key;obtain ⟨k3,k4⟩:=t2.key;have c1:=xAo h T[k] (by have:=t2.1;rw [z8] at this;omega)
  have u1:=hu.look (h++T[k]);have u2:=hu.row (keyOf (h++T[k]));have v1:=hv.look T[k];have v2:=hv.row (keyOf T[k]);have V:=lu (h++T[k]);have W:=lv T[k];obtain ⟨s,s1,s2,s3⟩:=xrC (Dv T[k]) (Du (h++T[k])) (by omega) (by omega)
  have sl:=xtO s2 s3;obtain ⟨r,r1,r2,r3⟩:=xrC l s (by omega) (by omega)
  have rl:=xtO r2 r3;obtain ⟨l',e,b1,b2⟩:=xAy n h hu hv lu lv T hT ht d (k+1) r (by omega) (by omega) r2
  refine ⟨l',fun on O Q q a0 a1 hs os=>?_,b1,fun τ=>?_⟩
  . rw [<-e on O Q q a0 a1 hs os];refine xaT ?_;have i1:(k:Int)<(T.length:Int):=by omega
    have gf:(T.map encR).getD k .top=encR T[k]:=xaK _ _ _ J;simp only [xdn,xhh,xdc,xdd,sBU,J,i1,gf,cR0,sR0,k1,k2,k3,k4,c1,u1,u2,v1,v2,s1,r1,xHc (n:=k) (by omega)]
  . rw [b2,r3,s3,xdS J,List.all_cons,Bool.and_assoc]
theorem xAz (n:Int) (q:List AV) (h:Row) (hh:h.length<=1048576) (P:List Per) (hP:P.length<=1048576) (Q:List AV) (V O:Int) (a0 a1 du hs dv:List AV):∀ (d k:Nat) (D:List Fc),k+d=P.length->D.length+d<=1099511627776 ->
  Iter (xdo n q (h.map encV) Q V O (P.map encP) ((P.length:Nat):Int)) (D.length,(k:Int),a0,a1,du,hs,dv,D.map encF)=some ((D++mk h (P.drop k)).length,a0,a1,du,hs,dv,(D++mk h (P.drop k)).map encF)
 | 0,k,D,hk,hD=>by
  have:k=P.length:=by omega
  subst this;rw [zq (zd _)];refine xaI ?_;simp [xdo,xhi,xaH,mk,sUF]
 | d+1,k,D,hk,hD=>by
  have J:k<P.length:=by omega
  have i1:(k:Int)<(P.length:Int):=by omega
  have gf:(P.map encP).getD k .top=encP P[k]:=xaK _ _ _ J;have m1:(D.length+1)*40<=140737488355328:=by omega
  have m2:D.length+1<=4611686018427387904:=by omega
  have e:D++mk h (P.drop k)=(D++[(⟨h,P[k]⟩:Fc)])++mk h (P.drop (k+1)):=by rw [xdS J,zw];rfl
  rw [e,<-xAz n q h hh P hP Q V O a0 a1 du hs dv d (k+1) (D++[(⟨h,P[k]⟩:Fc)]) (by omega) (by rw [z8,zj];omega)]
  refine xaT ?_;simp only [xdo,xhi,sBU,J,i1,gf,cP0,cP1,lP,sP,sP0,sP1,m1,m2,xHc (n:=k) (by omega),z8,zj,zx,zV,zW]
  simp [encF]
def LvD (n:Int) (T:List Row) (du dv:List AV) (He:Row->List Per) (Du Dv:Row->List Per) (h:Row) (L:List Per):Prop :=
 (∃ l0:List Per,xib ((He h).map encP)=some (l0.map encP)/\∀ (on:Nat) (q:List AV) (t57 t58:Int) (a0 a1 hs os:List AV),Iter (xdn n (T.map encR) on (h.map encV) q t57 t58 (T.map encR) ((T.length:Nat):Int)) (l0.map encP,(0:Int),a0,a1,du,hs,dv,os)=some (L.map encP,a0,a1,du,hs,dv,os)) /\
  IsSpan L/\(∀ τ,inL L τ=(inL (He h) τ&&T.all fun t=>!(inL (Dv t) τ&&!inL (Du (h++t)) τ)))/\L.length<=1048576
theorem xAw (n:Int) (T:List Row) (a0 a1:List AV) {he du dv:List AV} {He Du Dv:Row->List Per} (hh:LkM he He) (H:List Row) (hH:H.length<=1024) (hr:∀ r,r∈H->TRow r) (L:Row->List Per) (hL:∀ r,r∈H->LvD n T du dv He Du Dv r (L r)):∀ (d k:Nat) (D:List Fc),k+d=H.length->D.length<=1048576*k ->
  Iter (xdm n (T.map encR) (H.map encR) ((H.length:Nat):Int)) (D.length,(k:Int),a0,a1,du,he,dv,D.map encF)=some ((D++xG8 (H.drop k) L).length,a0,a1,(D++xG8 (H.drop k) L).map encF)
 | 0,k,D,hk,hD=>by
  have:k=H.length:=by omega
  subst this;rw [zq (zd _)];refine xaI ?_;simp [xdm,xhg,xaH,xG8,sUF]
 | d+1,k,D,hk,hD=>by
  have q:k<H.length:=by omega
  have i1:(k:Int)<(H.length:Int):=by omega
  have gf:(H.map encR).getD k .top=encR H[k]:=xaK _ _ _ q;have t1:=hr H[k] (zo q);obtain ⟨k1,k2⟩:=t1.key;have v1:=hh.look H[k];have v2:=hh.row (keyOf H[k]);obtain ⟨⟨l0,qe1,q2⟩,_,_,q3⟩:=hL H[k] (zo q);have e1:=q2 D.length (H.map encR) ((H.length:Nat):Int) (k:Int) a0 a1 he (D.map encF);have e2:=xAz n (T.map encR) H[k] (by have:=t1.1;omega) (L H[k]) q3 (H.map encR) ((H.length:Nat):Int) (k:Int) a0 a1 du he dv (L H[k]).length 0 D (by omega) (by omega)
  rw [zr] at e2;have e2:Iter (xdo n (T.map encR) (H[k].map encV) (H.map encR) ((H.length:Nat):Int) (k:Int) ((L H[k]).map encP) (((L H[k]).length:Nat):Int)) (D.length,(0:Int),a0,a1,du,he,dv,D.map encF)=_:=e2;have ml:(mk H[k] (L H[k])).length<=1048576:=by unfold mk;rw [za];exact q3
  have e:D++xG8 (H.drop k) L=(D++mk H[k] (L H[k]))++xG8 (H.drop (k+1)) L:=by
   rw [xdS q,zw];rfl
  rw [e,<-xAw n T a0 a1 hh H hH hr L hL d (k+1) (D++mk H[k] (L H[k])) (by omega) (by rw [z8];omega)]
  refine xaT ?_;simp only [xdm,xhg,xb2,xbz,xdI,sBU,q,i1,gf,cR0,sR0,k1,k2,v1,v2,qe1,e1,e2,xHc (n:=k) (by omega)]
def DivB (n:Nat) (a b:List Fc) (h:Row) (τ:Int):Prop:=(∃ f,f∈a/\f.r.take n=h/\hasP f.p τ=true)/\∀ t,0<cnt b t τ->0<cnt a (h++t) τ
open Classical in
def DivN (n:Nat) (a b:List Fc) (h:Row) (τ:Int):Nat:=if DivB n a b h τ then 1 else 0
theorem xiT {n:Nat} {a b:List Fc} {h:Row} {τ:Int}:0<DivN n a b h τ↔DivB n a b h τ:=by
 unfold DivN;split<;>simp_all
theorem xju (n:Nat) (a b:List Fc) (h:Row) (τ:Int):DivN n a b h τ<=1:=by
 unfold DivN;split<;>simp
theorem xvc {π:Row->Row} {l:List Fc} {h:Row} {τ:Int}:inL (byP π l h) τ=true↔∃ f,f∈l/\π f.r=h/\hasP f.p τ=true:=by
 unfold inL byP;rw [List.any_eq_true];constructor
 . rintro ⟨p,hp,h1⟩;obtain ⟨f,hf,rfl⟩:=zK.1 hp;obtain ⟨f1,f2⟩:=List.mem_filter.1 hf;exact ⟨f,f1,by simpa using f2,h1⟩
 . rintro ⟨f,f1,f2,f3⟩;exact ⟨f.p,zK.2 ⟨f,List.mem_filter.2 ⟨f1,by simpa using f2⟩,rfl⟩,f3⟩
theorem xmo {l:List Fc} {h:Row} {τ:Int}:inL (byP id l h) τ=true↔0<cnt l h τ:=by
 rw [xvc,xfT];rfl
theorem xqZ (π:Row->Row) (l:List Fc) (h:Row):(byP π l h).length<=l.length:=by
 unfold byP;rw [za];exact List.length_filter_le _ _
structure Divs (Ka Kb:List Int) (a b:List Fc) (n:Nat):Prop where
 na:Nice a
 nb:Nice b
 la:a.length<=16
 lb:b.length<=16
 ka:Ka.length<=48
 kn:n+Kb.length=Ka.length
 n0:0<n
 ra:∀ f,f∈a->f.r.length=Ka.length
 rb:∀ f,f∈b->f.r.length=Kb.length
variable {Ka Kb : List Int} {a b : List Fc} {n : Nat}
theorem Divs.head (h:Divs Ka Kb a b n) {f:Fc} (hf:f∈a):(f.r.take n).length=n:=by
 have:=h.ra f hf;have:=h.kn;rw [zt];omega
theorem Divs.bound (h:Divs Ka Kb a b n) {h0:Row} (hn:h0.length=n) (τ:Int):DivN n a b h0 τ<=DivN n a b h0 (τ - 1)+((byP (·.take n) a h0).map (·.1)++b.map (·.p.2)).count τ:=by
 by_cases c:DivB n a b h0 τ
 . by_cases c':DivB n a b h0 (τ - 1)
   . have:=xiT.2 c';have:=xju n a b h0 τ;omega
   . have O:τ∈(byP (·.take n) a h0).map (·.1)++b.map (·.p.2):=by
      obtain ⟨⟨f,f1,f2,f3⟩,c2⟩:=c;by_cases hf:hasP f.p (τ - 1)=true
      . have:∃ t,0<cnt b t (τ - 1)/\¬ 0<cnt a (h0++t) (τ - 1):=by
         apply Classical.byContradiction;intro Q;exact c' ⟨⟨f,f1,f2,hf⟩,fun t ht=>Classical.byContradiction fun hx=>Q ⟨t,ht,hx⟩⟩
        obtain ⟨t,t1,t2⟩:=this;by_cases hb:0<cnt b t τ
        . obtain ⟨g,g1,g2,g3⟩:=xfT.1 (c2 t hb);have g4:¬ hasP g.p (τ - 1)=true:=fun hx=>t2 (xfT.2 ⟨g,g1,g2,hx⟩)
          obtain ⟨v1,v2,v3⟩:=xbm.1 g3;have:g.p.1=τ:=by
           rcases Int.lt_or_le g.p.1 τ with q|J
           . exact absurd (xbm.2 ⟨v1,by omega,by omega⟩) g4
           . omega
          refine zG.2 (.inl (zK.2 ⟨g.p,zK.2 ⟨g,List.mem_filter.2 ⟨g1,?_⟩,rfl⟩,this⟩));simp only [zl];rw [g2,List.take_append_of_le_length (by omega),<-hn,y6]
        . obtain ⟨g,g1,g2,g3⟩:=xfT.1 t1;have g4:¬ hasP g.p τ=true:=fun hx=>hb (xfT.2 ⟨g,g1,g2,hx⟩)
          obtain ⟨v1,v2,v3⟩:=xbm.1 g3;have:g.p.2=τ:=by
           rcases Int.lt_or_le τ g.p.2 with q|J
           . exact absurd (xbm.2 ⟨v1,by omega,by omega⟩) g4
           . omega
          exact zG.2 (.inr (zK.2 ⟨g,g1,this⟩))
      . obtain ⟨v1,v2,v3⟩:=xbm.1 f3;have:f.p.1=τ:=by
         rcases Int.lt_or_le f.p.1 τ with q|J
         . exact absurd (xbm.2 ⟨v1,by omega,by omega⟩) hf
         . omega
        exact zG.2 (.inl (zK.2 ⟨f.p,zK.2 ⟨f,List.mem_filter.2 ⟨f1,by simpa using f2⟩,rfl⟩,this⟩))
     have:=List.count_pos_iff.2 O;have:=xju n a b h0 τ;omega
 . have:DivN n a b h0 τ=0:=by
    cases hc:DivN n a b h0 τ with
    | zero=>rfl
    | succ k=>exact absurd (xiT.1 (by omega)) c
   omega
theorem xsv {L:Row->List Per} {g:Row->Nat}:∀ (R:List Row),(∀ r,r∈R->(L r).length<=g r)->(xG8 R L).length<=(R.map g).sum
 | [],_=>by simp [xG8]
 | r::R,h=>by
  have ih:=xsv R fun x hx=>h x (by simp [hx])
  have h1:=h r (by simp)
  have e:xG8 (r::R) L=((L r).map fun p=>(⟨r,p⟩:Fc))++xG8 R L:=by simp [xG8]
  rw [e,z8,za,zV,List.sum_cons];omega
theorem xuE (c:Nat):∀ R:List Row,(R.map fun _=>c).sum=c*R.length
 | []=>rfl
 | r::R=>by rw [zV,List.sum_cons,xuE c R,zF,Nat.mul_add,Nat.mul_one];omega
theorem xzC (h:Divs Ka Kb a b n):∃ B:List Fc,xlu (Ka.map encN) (a.map encF) (Kb.map encN) (b.map encF)=some ((Ka.take n).map encN,B.map encF)/\RelB (DivN n a b) 512 B/\∀ f,f∈B->∃ g,g∈a/\g.r.take n=f.r:=by
 have O:=h.na;have q:=h.nb;have aj:=h.la;have ai:=h.lb;have am:=h.ka;have ao:=h.kn;have al:=h.n0;obtain ⟨w1,Ra,wa⟩:=xvV (O.keyed (by omega))
 obtain ⟨w2,Rb,wb⟩:=xvV (q.keyed (by omega))
 obtain ⟨w3,H,wh⟩:=xCk O (by omega) n fun f hf=>by have:=h.ra f hf;omega
 have hH:∀ r,r∈H->TRow r/\r.length=n:=fun r hr=>by
  obtain ⟨f,f1,rfl⟩:=(wh.mem r).1 hr;have:=h.head f1;exact ⟨⟨by omega,fun v hv=>(O f f1).2 v (List.mem_of_mem_take hv)⟩,this⟩
 have hT:∀ r,r∈Rb->TRow r/\r.length=Kb.length:=fun r hr=>by
  obtain ⟨f,f1,rfl⟩:=(wb.mem r).1 hr;exact ⟨⟨(q f f1).1,(q f f1).2⟩,h.rb f f1⟩
 have ak:=wh.len;have an:=wb.len;obtain ⟨L,hL⟩:=xof (R:=H) (Q:=LvD (n:Int) Rb (xg0 (a.map encF)) (xg0 (b.map encF)) (byP (·.take n) a) (byP id a) (byP id b)) fun r hr=>by
  obtain ⟨ah,ab⟩:=hH r hr;have bl:=xqZ (·.take n) a r;obtain ⟨l0,l1,l2,l3⟩:=xCW (byP (·.take n) a r) (by omega)
  have ll:l0.length<=(byP (·.take n) a r).length+([]:List Per).length:=xtO (X:=byP (·.take n) a r) (Y:=[]) l2 fun t=>by rw [l3,xfc];simp
  obtain ⟨L,e1,e2,e3⟩:=xAy (n:Int) r (du:=xg0 (a.map encF)) (dv:=xg0 (b.map encF)) (Du:=byP id a) (Dv:=byP id b) ⟨wa.look,wa.row⟩ ⟨wb.look,wb.row⟩ (fun ρ=>by have:=xqZ id a ρ;omega) (fun ρ=>by have:=xqZ id b ρ;omega) Rb (by omega) (fun t ht=>by
   obtain ⟨t1,t2⟩:=hT t ht;exact ⟨t1,by rw [z8];omega,fun v hv=>by
    rcases zG.1 hv with hv|hv
    . exact ah.2 v hv
    . exact t1.2 v hv⟩) Rb.length 0 l0 (by omega) (by rw [List.length_nil] at ll;omega) l2
  rw [zr] at e3;have e4:∀ τ,inL L τ=(inL (byP (·.take n) a r) τ&&Rb.all fun t=>!(inL (byP id b t) τ&&!inL (byP id a (r++t)) τ)):=fun τ=>by rw [e3,l3]
  have dn:∀ τ,inL L τ=decide (0<DivN n a b r τ):=fun τ=>by
   rw [e4,Bool.eq_iff_iff,zl,xiT,zf,xvc,zI];constructor
   . rintro ⟨h1,h2⟩;refine ⟨h1,fun t ht=>?_⟩
     obtain ⟨g,g1,g2,g3⟩:=xfT.1 ht;have:=h2 t ((wb.mem t).2 ⟨g,g1,g2⟩);have hb:inL (byP id b t) τ=true:=xmo.2 ht;rw [hb] at this;exact xmo.1 (by simpa using this)
   . rintro ⟨h1,h2⟩;refine ⟨h1,fun t ht=>?_⟩
     by_cases hb:inL (byP id b t) τ=true
     . have:=xmo.2 (h2 t (xmo.1 hb));rw [this];simp
     . have:inL (byP id b t) τ=false:=by simpa using hb
       rw [this];simp
  have len:=xmw (xkD (N:=DivN n a b r) e2 dn) ((byP (·.take n) a r).map (·.1)++b.map (·.p.2)) fun τ=>by
   have:=h.bound ab τ;have h1:=xju n a b r τ;have h2:=xju n a b r (τ - 1);split<;>split<;>omega
  refine ⟨L,⟨l0,l1,fun on ae af ad a0 a1 hs os=>e1 on ae af ad a0 a1 hs os⟩,e2,e4,?_⟩
  rw [z8,za,za] at len;omega
 have dn:∀ r,r∈H->∀ τ,inL (L r) τ=decide (0<DivN n a b r τ):=fun r hr τ=>by
  obtain ⟨_,_,e4,_⟩:=hL r hr;rw [e4,Bool.eq_iff_iff,zl,xiT,zf,xvc,zI];constructor
  . rintro ⟨h1,h2⟩;refine ⟨h1,fun t ht=>?_⟩
    obtain ⟨g,g1,g2,g3⟩:=xfT.1 ht;have:=h2 t ((wb.mem t).2 ⟨g,g1,g2⟩);have hb:inL (byP id b t) τ=true:=xmo.2 ht;rw [hb] at this;exact xmo.1 (by simpa using this)
  . rintro ⟨h1,h2⟩;refine ⟨h1,fun t ht=>?_⟩
    by_cases hb:inL (byP id b t) τ=true
    . have:=xmo.2 (h2 t (xmo.1 hb));rw [this];simp
    . have:inL (byP id b t) τ=false:=by simpa using hb
      rw [this];simp
 have len:∀ r,r∈H->(L r).length<=32:=fun r hr=>by
  have len:=xmw (xkD (N:=DivN n a b r) (hL r hr).2.1 (dn r hr)) ((byP (·.take n) a r).map (·.1)++b.map (·.p.2)) fun τ=>by
   have:=h.bound (hH r hr).2 τ;have h1:=xju n a b r τ;have h2:=xju n a b r (τ - 1);split<;>split<;>omega
  have bl:=xqZ (·.take n) a r;rw [z8,za,za] at len;omega
 have hF:=xsv (L:=L) (g:=fun _=>32) H len
 rw [xuE] at hF;have Z:∀ r τ,cnt (xG8 H L) r τ=DivN n a b r τ:=fun r τ=>by
  rw [xmp L r τ H wh.nd];split
  . rename_i hr;rw [xpJ (hL r hr).2.1,dn r hr];have:=xju n a b r τ;by_cases c:0<DivN n a b r τ
    . simp [c];omega
    . simp [c];omega
  . rename_i hr;cases hc:DivN n a b r τ with
    | zero=>rfl
    | succ k =>
     obtain ⟨⟨f,f1,f2,_⟩,_⟩:=xiT.1 (show 0<DivN n a b r τ by omega)
     exact absurd ((wh.mem r).2 ⟨f,f1,f2⟩) hr
 have V:∀ f,f∈xG8 H L->∃ g,g∈a/\g.r.take n=f.r:=fun f hf=>(wh.mem _).1 (xkI hf).1
 have J:Nice (xG8 H L):=fun f hf=>(hH f.r (xkI hf).1).1
 obtain ⟨B,b1,b2,b3⟩:=xyJ J (by omega)
 have hB:RelB (DivN n a b) 512 B:=⟨b2.isB.congr fun r t=>by
  rw [Z];have:=xju n a b r t;split<;>omega,Nat.le_trans b3.len (by omega),b3.nice⟩
 refine ⟨B,?_,hB,b2.all (Q:=fun r=>∃ g,g∈a/\g.r.take n=r) V⟩
 have aa:xhZ (Ka.map encN) (Kb.map encN)=(n:Int):=by
  have w:IntKind.i64.wrap ((Ka.length:Int) - (Kb.length:Int))=(n:Int):=by rw [xba (by omega) (by omega)];omega
  unfold xhZ;rw [za,za,w];split<;>omega
 have v3:xcq (Ka.map encN) (Kb.map encN)=(n:Int):=by
  unfold xcq;rw [aa];split<;>omega
 have e0:=xAw (n:Int) Rb (Ka.map encN) (a.map encF) (he:=xnP (a.map encF) (n:Int)) ⟨wh.look,wh.row⟩ H (by omega) (fun r hr=>(hH r hr).1) L hL H.length 0 [] (by omega) (by simp)
 rw [zr,zU] at e0;have e0:Iter (xdm (n:Int) (Rb.map encR) (H.map encR) ((H.length:Nat):Int)) ((0:Nat),(0:Int),Ka.map encN,a.map encF,xg0 (a.map encF),xnP (a.map encF) (n:Int),xg0 (b.map encF),[])=some ((xG8 H L).length,Ka.map encN,a.map encF,(xG8 H L).map encF):=e0;generalize xG8 H L=F at e0 b1;have ac:xhY (Ka.map encN) (a.map encF) (Kb.map encN) (b.map encF)=some (F.length,Ka.map encN,a.map encF,F.map encF):=by
  unfold xhY;rw [v3,wh.rows,wb.rows,za,e0]
 have tF:List.take F.length (F.map encF)=F.map encF:=zi (by simp)
 have ag:n<=Ka.length:=by omega
 have W:(n:Int)<=(Ka.length:Int):=by omega
 have lt:((Ka.take n).map encN).length=n:=by rw [za,zt];omega
 have m1:n*8<=140737488355328:=by omega
 have m2:n<=4611686018427387904:=by omega
 have tk:List.take n (Ka.map encN)=(Ka.take n).map encN:=by rw [List.map_take]
 have t2:List.take n ((Ka.take n).map encN)=(Ka.take n).map encN:=zi (by omega)
 unfold xlu xl3;simp only [xgB,xlv,xiH,xej,v3,ac,w1,w2,w3,zk,zh,xaj,za,zH,zd,zn,zS,Bool.and_self,zr,tF,b1,W,Int.natCast_nonneg,zN,Nat.sub_zero,tk,zU,lt,zt,Nat.min_eq_left ag,m1,m2,t2,sUF]
end Go.Sim.M
end
noncomputable section
set_option maxRecDepth 100000
namespace Go.Sim.M
open Go.RowKit Go.Sim.Srt
def bnd (f:Fc):List Int:=if pv f.p=true then (if f.p.2<1099511627776 then [f.p.1,f.p.2] else [f.p.1]) else []
theorem xhr {a b t:Int} (ha:0<=a) (q:a<b) (hb:b<=1099511627776):hasP (a,b) t=decide (a<=t/\t<b):=by
 have:pv (a,b)=true:=xbT.2 ⟨ha,q,hb⟩;unfold hasP;rw [this];by_cases h1:a<=t<;>by_cases h2:t<b<;>simp [h1,h2]
section
variable {Ka Kb : List Int} {a b : List Fc} {n : Nat}
end
def iv (n:Int):Val:=⟨1,n,[]⟩
def xq3 {n:Int} (h0:0<=n) (h1:n<=100):xHu (iv n) :=
 ⟨⟨⟨wf64 (by show -9223372036854775808<=(1:Int);omega) (by show (1:Int)<=9223372036854775807;omega),wf64 (by show -9223372036854775808<=n;omega) (by show n<=9223372036854775807;omega),by show 0<=maxLen;omega⟩,by show 0<=_;omega⟩,⟨by show -1125899906842624<=n;omega,by show n<=1125899906842624;omega⟩⟩
def exA:List Fc:=[⟨[iv 1],(0,9)⟩,⟨[iv 1],(2,5)⟩]
def exB:List Fc:=[⟨[iv 1],(4,7)⟩]
def exX:List Fc:=[⟨[iv 1,iv 5],(0,6)⟩,⟨[iv 1,iv 6],(3,9)⟩,⟨[iv 2,iv 5],(0,9)⟩]
def exY:List Fc:=[⟨[iv 5],(1,9)⟩,⟨[iv 6],(4,8)⟩]
def xHL:Nice exA:=fun f hf=>by
 simp only [exA,zC,List.not_mem_nil,or_false] at hf;rcases hf with rfl|rfl;all_goals
  refine ⟨by simp,fun v hv=>?_⟩
  simp only [zC,List.not_mem_nil,or_false] at hv;subst hv;exact xq3 (by omega) (by omega)
def xHP:Nice exB:=fun f hf=>by
 simp only [exB,zC,List.not_mem_nil,or_false] at hf;subst hf;refine ⟨by simp,fun v hv=>?_⟩
 simp only [zC,List.not_mem_nil,or_false] at hv;subst hv;exact xq3 (by omega) (by omega)
def xH0:Nice exX:=fun f hf=>by
 simp only [exX,zC,List.not_mem_nil,or_false] at hf;rcases hf with rfl|rfl|rfl;all_goals
  refine ⟨by simp,fun v hv=>?_⟩
  simp only [zC,List.not_mem_nil,or_false] at hv;rcases hv with rfl|rfl<;>exact xq3 (by omega) (by omega)
def xH1:Nice exY:=fun f hf=>by
 simp only [exY,zC,List.not_mem_nil,or_false] at hf;rcases hf with rfl|rfl;all_goals
  refine ⟨by simp,fun v hv=>?_⟩
  simp only [zC,List.not_mem_nil,or_false] at hv;subst hv;exact xq3 (by omega) (by omega)
def xHx:Divs [1,1] [1] exX exY 1 where
 na:=xH0
 nb:=xH1
 la:=by simp [exX]
 lb:=by simp [exY]
 ka:=by simp
 kn:=by simp
 n0:=by omega
 ra:=fun f hf=>by
  simp only [exX,zC,List.not_mem_nil,or_false] at hf;rcases hf with rfl|rfl|rfl<;>rfl
 rb:=fun f hf=>by
  simp only [exY,zC,List.not_mem_nil,or_false] at hf;rcases hf with rfl|rfl<;>rfl
def xq2 {N:Row->Int->Nat} {ρ:Row} {P:List Per} (h:IsLevs (N ρ) P) (hz:∀ r,r≠ρ->∀ t,N r t=0):IsB N (mk ρ P) :=
 ⟨[ρ],fun _=>P,List.pairwise_singleton _ _,fun r t ht=>by
  by_cases hr:r=ρ
  . simp [hr]
  . rw [hz r hr t] at ht;omega,fun r hr=>by simp at hr;subst hr;exact h,by simp [xG8,mk]⟩
def xvn (f:Fc) (l:List Fc) (r:Row) (t:Int):cnt (f::l) r t=cnt l r t+if f.r=r/\hasP f.p t=true then 1 else 0:=by
 have e2:cnt (f::l) r t=cnt l r t+if (decide (f.r=r)&&hasP f.p t)=true then 1 else 0:=List.countP_cons
 rw [e2];simp only [zf,zl]
def cntA (r:Row) (t:Int):cnt exA r t=if r=[iv 1] then (if 0<=t/\t<9 then 1 else 0)+(if 2<=t/\t<5 then 1 else 0) else 0:=by
 have h1:=xhr (a:=0) (b:=9) (t:=t) (by omega) (by omega) (by omega)
 have h2:=xhr (a:=2) (b:=5) (t:=t) (by omega) (by omega) (by omega)
 simp only [exA,xvn,h1,h2,zl];show 0+_+_=_;by_cases hr:r=[iv 1]
 . subst hr;simp;omega
 . have:¬ [iv 1]=r:=fun e=>hr e.symm
   simp [hr,this]
def xHk (r:Row) (t:Int):cnt exB r t=if r=[iv 1] then (if 4<=t/\t<7 then 1 else 0) else 0:=by
 have h1:=xhr (a:=4) (b:=7) (t:=t) (by omega) (by omega) (by omega)
 simp only [exB,xvn,h1,zl];show 0+_=_;by_cases hr:r=[iv 1]
 . subst hr;simp
 . have:¬ [iv 1]=r:=fun e=>hr e.symm
   simp [hr,this]
def xHE {a b:Int} (h0:0<=a) (h1:a<b) (h2:b<=1099511627776):IsSpan [(a,b)]:=⟨fun p hp=>by simp at hp;subst hp;exact xbT.2 ⟨h0,h1,h2⟩,List.pairwise_singleton _ _⟩
def in1 {a b t:Int} (h0:0<=a) (h1:a<b) (h2:b<=1099511627776):inL [(a,b)] t=decide (a<=t/\t<b):=by
 unfold inL;rw [List.any_cons,List.any_nil,Bool.or_false,xhr h0 h1 h2]
def xHX {a b c d:Int} (h0:0<=a) (h1:a<b) (h2:b<c) (h3:c<d) (h4:d<=1099511627776):IsSpan [(a,b),(c,d)]:=⟨fun p hp=>by
 simp at hp;rcases hp with rfl|rfl
 . exact xbT.2 ⟨h0,h1,by dsimp only;omega⟩
 . exact xbT.2 ⟨by dsimp only;omega,h3,h4⟩,List.pairwise_pair.2 (by dsimp only;omega)⟩
def in2 {a b c d t:Int} (h0:0<=a) (h1:a<b) (h2:b<c) (h3:c<d) (h4:d<=1099511627776):inL [(a,b),(c,d)] t=decide ((a<=t/\t<b)\/(c<=t/\t<d)):=by
 unfold inL;rw [List.any_cons,List.any_cons,List.any_nil,Bool.or_false,xhr h0 h1 (by omega),xhr (by omega) h3 h4,Bool.eq_iff_iff]
 simp
def unP:List Per:=[(0,9),(2,7),(4,5)]
def exP:List Per:=[(0,5),(2,4),(7,9)]
def levU:IsLevs (fun t=>cnt exA [iv 1] t+cnt exB [iv 1] t) unP:=by
 refine ⟨?_,fun k=>match k with|0=>[(0,9)]|1=>[(2,7)]|2=>[(4,5)]|_=>[],3,fun t=>?_,fun k=>?_,List.Perm.refl _⟩
 . simp [Sorted,unP,xlW]
 . rw [cntA,xHk];simp only [if_true];split<;>split<;>split<;>omega
 . match k with
   | 0 =>
    refine ⟨xHE (by omega) (by omega) (by omega),fun t=>?_⟩
    show inL [(0,9)] t=_;rw [in1 (by omega) (by omega) (by omega),cntA,xHk,Bool.eq_iff_iff,zl,zl]
    simp only [if_true];split<;>split<;>split<;>omega
   | 1 =>
    refine ⟨xHE (by omega) (by omega) (by omega),fun t=>?_⟩
    show inL [(2,7)] t=_;rw [in1 (by omega) (by omega) (by omega),cntA,xHk,Bool.eq_iff_iff,zl,zl]
    simp only [if_true];split<;>split<;>split<;>omega
   | 2 =>
    refine ⟨xHE (by omega) (by omega) (by omega),fun t=>?_⟩
    show inL [(4,5)] t=_;rw [in1 (by omega) (by omega) (by omega),cntA,xHk,Bool.eq_iff_iff,zl,zl]
    simp only [if_true];split<;>split<;>split<;>omega
   | k+3 =>
    refine ⟨xfB,fun t=>?_⟩
    show inL [] t=_;rw [xfc,cntA,xHk];symm;rw [decide_eq_false_iff_not];simp only [if_true];split<;>split<;>split<;>omega
def levX:IsLevs (fun t=>cnt exA [iv 1] t - cnt exB [iv 1] t) exP:=by
 refine ⟨?_,fun k=>match k with|0=>[(0,5),(7,9)]|1=>[(2,4)]|_=>[],2,fun t=>?_,fun k=>?_,?_⟩
 . simp [Sorted,exP,xlW]
 . rw [cntA,xHk];simp only [if_true];split<;>split<;>split<;>omega
 . match k with
   | 0 =>
    refine ⟨xHX (by omega) (by omega) (by omega) (by omega) (by omega),fun t=>?_⟩
    show inL [(0,5),(7,9)] t=_;rw [in2 (by omega) (by omega) (by omega) (by omega) (by omega),cntA,xHk,Bool.eq_iff_iff,zl,zl]
    simp only [if_true];split<;>split<;>split<;>omega
   | 1 =>
    refine ⟨xHE (by omega) (by omega) (by omega),fun t=>?_⟩
    show inL [(2,4)] t=_;rw [in1 (by omega) (by omega) (by omega),cntA,xHk,Bool.eq_iff_iff,zl,zl]
    simp only [if_true];split<;>split<;>split<;>omega
   | k+2 =>
    refine ⟨xfB,fun t=>?_⟩
    show inL [] t=_;rw [xfc,cntA,xHk];symm;rw [decide_eq_false_iff_not];simp only [if_true];split<;>split<;>split<;>omega
 . exact List.Perm.cons _ (List.Perm.swap _ _ _)
def levM:IsLevs (fun t=>min (cnt exA [iv 1] t) (cnt exB [iv 1] t)) [(4,7)]:=by
 refine ⟨?_,fun k=>match k with|0=>[(4,7)]|_=>[],1,fun t=>?_,fun k=>?_,List.Perm.refl _⟩
 . simp [Sorted]
 . rw [cntA,xHk];simp only [if_true];split<;>split<;>split<;>omega
 . match k with
   | 0 =>
    refine ⟨xHE (by omega) (by omega) (by omega),fun t=>?_⟩
    show inL [(4,7)] t=_;rw [in1 (by omega) (by omega) (by omega),cntA,xHk,Bool.eq_iff_iff,zl,zl]
    simp only [if_true];split<;>split<;>split<;>omega
   | k+1 =>
    refine ⟨xfB,fun t=>?_⟩
    show inL [] t=_;rw [xfc,cntA,xHk];symm;rw [decide_eq_false_iff_not];simp only [if_true];split<;>split<;>split<;>omega
def levD:IsLevs (fun t=>if 0<cnt exA [iv 1] t then 1 else 0) [(0,9)]:=by
 refine ⟨?_,fun k=>match k with|0=>[(0,9)]|_=>[],1,fun t=>?_,fun k=>?_,List.Perm.refl _⟩
 . simp [Sorted]
 . split<;>omega
 . match k with
   | 0 =>
    refine ⟨xHE (by omega) (by omega) (by omega),fun t=>?_⟩
    show inL [(0,9)] t=_;rw [in1 (by omega) (by omega) (by omega),cntA,Bool.eq_iff_iff,zl,zl]
    simp only [if_true];split<;>split<;>split<;>omega
   | k+1 =>
    refine ⟨xfB,fun t=>?_⟩
    show inL [] t=_;rw [xfc];symm;rw [decide_eq_false_iff_not];split<;>omega
def isbU:IsB (fun r t=>cnt exA r t+cnt exB r t) (mk [iv 1] unP):=xq2 (N:=fun r t=>cnt exA r t+cnt exB r t) levU fun r hr t=>by rw [cntA,xHk,if_neg hr,if_neg hr]
def isbX:IsB (fun r t=>cnt exA r t - cnt exB r t) (mk [iv 1] exP):=xq2 (N:=fun r t=>cnt exA r t - cnt exB r t) levX fun r hr t=>by rw [cntA,xHk,if_neg hr,if_neg hr]
def isbM:IsB (fun r t=>min (cnt exA r t) (cnt exB r t)) (mk [iv 1] [(4,7)]):=xq2 (N:=fun r t=>min (cnt exA r t) (cnt exB r t)) levM fun r hr t=>by rw [cntA,xHk,if_neg hr,if_neg hr];rfl
def isbD:IsB (fun r t=>if 0<cnt exA r t then 1 else 0) (mk [iv 1] [(0,9)]):=xq2 (N:=fun r t=>if 0<cnt exA r t then 1 else 0) levD fun r hr t=>by rw [cntA,if_neg hr];rfl
def xux {n:Nat} {a b:List Fc} {h:Row} {τ:Int}:DivB n a b h τ↔(∃ f,f∈a/\f.r.take n=h/\hasP f.p τ=true)/\∀ g,g∈b->hasP g.p τ=true->∃ f,f∈a/\f.r=h++g.r/\hasP f.p τ=true:=by
 unfold DivB;constructor
 . rintro ⟨h1,h2⟩;exact ⟨h1,fun g g1 g2=>xfT.1 (h2 g.r (xfT.2 ⟨g,g1,rfl,g2⟩))⟩
 . rintro ⟨h1,h2⟩;refine ⟨h1,fun t ht=>?_⟩
   obtain ⟨g,g1,rfl,g2⟩:=xfT.1 ht;exact xfT.2 (h2 g g1 g2)
def divE (τ:Int):(DivB 1 exX exY [iv 1] τ↔0<=τ/\τ<6)/\(DivB 1 exX exY [iv 2] τ↔(0<=τ/\τ<4)\/(8<=τ/\τ<9))/\∀ h,DivB 1 exX exY h τ->h=[iv 1]\/h=[iv 2]:=by
 have h1:=xhr (a:=0) (b:=6) (t:=τ) (by omega) (by omega) (by omega)
 have h2:=xhr (a:=3) (b:=9) (t:=τ) (by omega) (by omega) (by omega)
 have h3:=xhr (a:=0) (b:=9) (t:=τ) (by omega) (by omega) (by omega)
 have h4:=xhr (a:=1) (b:=9) (t:=τ) (by omega) (by omega) (by omega)
 have h5:=xhr (a:=4) (b:=8) (t:=τ) (by omega) (by omega) (by omega)
 have O:¬ iv 1=iv 2:=by simp [iv]
 have q:¬ iv 2=iv 1:=by simp [iv]
 have J:¬ iv 5=iv 6:=by simp [iv]
 have Q:¬ iv 6=iv 5:=by simp [iv]
 refine ⟨?_,?_,fun h hh=>?_⟩
 . rw [xux];simp only [exX,exY,zC,List.not_mem_nil,or_false,exists_eq_or_imp,exists_eq_left,forall_eq_or_imp,forall_eq,h1,h2,h3,h4,h5,zl,List.take_succ_cons,List.take_zero,List.cons_append,zU,List.cons.injEq,and_true,true_and,O,q,J,Q,false_and,and_false,or_false,false_or,imp_false,not_and];omega
 . rw [xux];simp only [exX,exY,zC,List.not_mem_nil,or_false,exists_eq_or_imp,exists_eq_left,forall_eq_or_imp,forall_eq,h1,h2,h3,h4,h5,zl,List.take_succ_cons,List.take_zero,List.cons_append,zU,List.cons.injEq,and_true,true_and,O,q,J,Q,false_and,and_false,or_false,false_or,imp_false,not_and];omega
 . obtain ⟨f,hf,rfl,_⟩:=hh.1;simp only [exX,zC,List.not_mem_nil,or_false] at hf;rcases hf with rfl|rfl|rfl<;>simp
def dvR:Row->List Per:=fun r=>if r=[iv 1] then [(0,6)] else [(0,4),(8,9)]
def isbQ:IsB (DivN 1 exX exY) (mk [iv 1] [(0,6)]++mk [iv 2] [(0,4),(8,9)]):=by
 have q:¬ [iv 2]=[iv 1]:=by simp [iv]
 refine ⟨[[iv 1],[iv 2]],dvR,?_,fun r t ht=>?_,fun r hr=>?_,?_⟩
 . refine List.pairwise_pair.2 ?_;have e1:cmpR [iv 1] [iv 2]≠0:=fun e=>q (xkF e).symm
   have e2:cmpR [iv 1] [iv 2]=-1:=by decide +kernel
   omega
 . rcases (divE t).2.2 r (xiT.1 ht) with rfl|rfl<;>simp
 . have le:=xju 1 exX exY r;have e:DivN 1 exX exY r=fun t=>if 0<DivN 1 exX exY r t then 1 else 0:=funext fun t=>by have:=le t;split<;>omega
   rw [e];simp only [zC,List.not_mem_nil,or_false] at hr;rcases hr with rfl|rfl
   . have:dvR [iv 1]=[(0,6)]:=if_pos rfl;rw [this];refine xkD (xHE (by omega) (by omega) (by omega)) fun t=>?_
     rw [in1 (by omega) (by omega) (by omega),Bool.eq_iff_iff,zl,zl,xiT,(divE t).1]
   . have:dvR [iv 2]=[(0,4),(8,9)]:=if_neg q;rw [this];refine xkD (xHX (by omega) (by omega) (by omega) (by omega) (by omega)) fun t=>?_
     rw [in2 (by omega) (by omega) (by omega) (by omega) (by omega),Bool.eq_iff_iff,zl,zl,xiT,(divE t).2.1]
 . simp [xG8,mk,dvR,q]
def xyd (f t:Int) (row:List Int) (hl:row.length<=8):xaS f t (row.map encN)=some ((row.map iv).map encV,f,t):=by
 have key:=xnF (step:=xdY (row.map encN)) (fun k=>(((k:Nat):Int),(0:Int),(0:Int),f,t,((row.take k).map iv).length,((row.take k).map iv).map encV)) row.length ((0:Int),(0:Int),(row.map iv).length,f,t,(row.map iv).map encV) (fun k hk=>by
  have i1:(k:Int)<(row.length:Int):=by omega
  have gf:(row.map encN).getD k .top=encN row[k]:=xaK _ _ _ hk;have tl:((row.take k).map iv).length<=8:=by rw [za,zt];omega
  have m1:(((row.take k).map iv).length+1)*32<=140737488355328:=by omega
  have m2:((row.take k).map iv).length+1<=4611686018427387904:=by omega
  have tk:(row.take (k+1)).map iv=(row.take k).map iv++[iv row[k]]:=by rw [List.take_add_one,ze hk,zx];rfl
  rw [tk];generalize (row.take k).map iv=D at m1 m2;simp only [xdY,xiE,za,z8,zj,i1,hk,gf,cN,sN,m1,m2,zN,Int.natCast_nonneg,beq_self_eq_true,zn,Bool.and_self,zS,xaj,xHc (n:=k) (by omega),zx,zV,zW,sUF]
  simp [encV,iv]) (by
  simp only [xdY,xiE,za,zy,zm,xaH,y6,sUF]) row.length 0 (by omega)
 have key:Iter (xdY (row.map encN)) ((0:Int),(0:Int),(0:Int),f,t,(0:Nat),[])=some ((0:Int),(0:Int),(row.map iv).length,f,t,(row.map iv).map encV):=key;generalize row.map iv=D at key;have tt:List.take D.length (D.map encV)=D.map encV:=zi (by simp)
 unfold xaS xnJ;simp only [xfr,xmM,key,zk,zh,xaj,za,zH,zd,zn,Bool.and_self,zr,tt,sUF]
def xBe (c:Nat) (hc:c<=8) (l:List AV):xdZ (c:Int) l=some ((List.replicate c (1:Int)).map encN,l):=by
 have key:=xnF (step:=xcM (c:Int)) (fun k=>(((k:Nat):Int),l,(List.replicate k (1:Int)).length,(List.replicate k (1:Int)).map encN)) c ((List.replicate c (1:Int)).length,l,(List.replicate c (1:Int)).map encN) (fun k hk=>by
  have i1:(k:Int)<(c:Int):=by omega
  have tl:(List.replicate k (1:Int)).length<=8:=by rw [List.length_replicate];omega
  have m1:((List.replicate k (1:Int)).length+1)*8<=140737488355328:=by omega
  have m2:(List.replicate k (1:Int)).length+1<=4611686018427387904:=by omega
  have tk:List.replicate (k+1) (1:Int)=List.replicate k 1++[1]:=List.replicate_succ';rw [tk];generalize List.replicate k (1:Int)=D at m1 m2;simp only [xcM,xf9,za,z8,zj,i1,m1,m2,beq_self_eq_true,zn,Bool.and_self,xaj,xHc (n:=k) (by omega),zx,zV,zW,encN,sUF]) (by
  simp only [xcM,xf9,zy,zm,xaH,sUF]) c 0 (by omega)
 have key:Iter (xcM (c:Int)) ((0:Int),l,(0:Nat),[])=some ((List.replicate c (1:Int)).length,l,(List.replicate c (1:Int)).map encN):=key;generalize List.replicate c (1:Int)=D at key;have tt:List.take D.length (D.map encN)=D.map encN:=zi (by simp)
 unfold xdZ xkv;simp only [xep,xjT,key,zk,zh,xaj,za,zH,zd,zn,Bool.and_self,zr,tt,sUF]
def xHi (f t a:Int):xaS f t [AV.int .i64 a]=some ([encV (iv a)],f,t):=xyd f t [a] (by simp)
def xHK (f t a b:Int):xaS f t [AV.int .i64 a,AV.int .i64 b]=some ([encV (iv a),encV (iv b)],f,t):=xyd f t [a,b] (by simp)
def rel1 (l:List AV):xdZ 1 l=some (([1]:List Int).map encN,l):=xBe 1 (by omega) l
def rel2 (l:List AV):xdZ 2 l=some (([1,1]:List Int).map encN,l):=xBe 2 (by omega) l
def xBH:xfQ (([1]:List Int).map encN) (exA.map encF) (([1]:List Int).map encN) (exB.map encF)=some (([1]:List Int).map encN,(mk [iv 1] unP).map encF):=by
 obtain ⟨B,e,h⟩:=xqT [1] (([1]:List Int).map encN) (by simp) xHL xHP (by simp [exA,exB])
 rw [h.isB.unique isbU] at e;exact e
def xz9:xhy (([1]:List Int).map encN) (exA.map encF) (([1]:List Int).map encN) (exB.map encF)=some (([1]:List Int).map encN,(mk [iv 1] exP).map encF):=by
 obtain ⟨B,e,h⟩:=xsZ [1] (([1]:List Int).map encN) (by simp) xHL xHP (by simp [exA,exB])
 rw [h.isB.unique isbX] at e;exact e
def xBG:xiI (([1]:List Int).map encN) (exA.map encF) (([1]:List Int).map encN) (exB.map encF)=some (([1]:List Int).map encN,(mk [iv 1] [(4,7)]).map encF):=by
 obtain ⟨B,e,h⟩:=xBo [1] (([1]:List Int).map encN) (by simp) xHL xHP (by simp [exA,exB])
 rw [h.isB.unique isbM] at e;exact e
def xC7:xbh (([1]:List Int).map encN) (exA.map encF)=some (([1]:List Int).map encN,(mk [iv 1] [(0,9)]).map encF):=by
 obtain ⟨B,e,_,h⟩:=xhv [1] (by simp) xHL (by simp [exA])
 rw [h.isB.unique isbD] at e;exact e
def xEI:xlu (([1,1]:List Int).map encN) (exX.map encF) (([1]:List Int).map encN) (exY.map encF)=some (([1]:List Int).map encN,(mk [iv 1] [(0,6)]++mk [iv 2] [(0,4),(8,9)]).map encF):=by
 obtain ⟨B,e,h,_⟩:=xzC xHx;rw [h.isB.unique isbQ] at e;exact e
def xnW {l:List Fc} (hl:l.length<=8) (hr:∀ f,f∈l->f.r.length<=60):xb1 (l.map encF) (l.map encF)=some true:=xCy (by omega) hr
def xva:xh8=some true:=by
 have E40:xgu=true:=by unfold xgu;rw [xHi];rfl
 have E17:xik=some (([1]:List Int).map encN,exA.map encF):=by
  unfold xik xcP xeh xiB;rw [xHi,xHi,rel1];rfl
 have E20:xin=some (([1]:List Int).map encN,exB.map encF):=by
  unfold xin xiC;rw [xHi,rel1];rfl
 have E11:xih=some (([1,1]:List Int).map encN,exX.map encF):=by
  unfold xih xio xip xiq;rw [xHK,xHK,xHK,rel2];rfl
 have E16:xij=some (([1]:List Int).map encN,exY.map encF):=by
  unfold xij xiz xit;rw [xHi,xHi,rel1];rfl
 have F9:xdX=([1]:List Int).map encN:=by unfold xdX xii;rw [E17];rfl
 have F8:xdW=exA.map encF:=by unfold xdW xii;rw [E17];rfl
 have F13:xgt=([1]:List Int).map encN:=by unfold xgt xim;rw [E20];rfl
 have F12:xfd=exB.map encF:=by unfold xfd xim;rw [E20];rfl
 have E7:xjG=some (([1]:List Int).map encN,(mk [iv 1] unP).map encF):=by unfold xjG;rw [F9,F8,F13,F12];exact xBH
 have E5:xjE=some (([1]:List Int).map encN,(mk [iv 1] exP).map encF):=by unfold xjE;rw [F9,F8,F13,F12];exact xz9
 have E6:xjF=some (([1]:List Int).map encN,(mk [iv 1] [(4,7)]).map encF):=by unfold xjF;rw [F9,F8,F13,F12];exact xBG
 have ED:xbh xdX xdW=some (([1]:List Int).map encN,(mk [iv 1] [(0,9)]).map encF):=by rw [F9,F8];exact xC7
 have E1:xjA=some (([1]:List Int).map encN,(mk [iv 1] [(0,6)]++mk [iv 2] [(0,4),(8,9)]).map encF):=by
  unfold xjA xlg xlh;rw [E11,E16];exact xEI
 have E3:xjC=some true:=by
  unfold xjC xcP xeh xiy xiu;rw [E7,xHi,xHi,xHi];exact xnW (l:=mk [iv 1] unP) (by simp [mk,unP]) (fun f hf=>by
   obtain ⟨p,_,rfl⟩:=zK.1 hf;simp)
 have E2:xjB=some true:=by
  unfold xjB xiA xiD xir;rw [E5,xHi,xHi,xHi];exact xnW (l:=mk [iv 1] exP) (by simp [mk,exP]) (fun f hf=>by
   obtain ⟨p,_,rfl⟩:=zK.1 hf;simp)
 have E4:xjD=some true:=by
  unfold xjD;rw [E6,F12];exact xnW (l:=mk [iv 1] [(4,7)]) (by simp [mk]) (fun f hf=>by
   obtain ⟨p,_,rfl⟩:=zK.1 hf;simp)
 have E18:xil=some true:=by
  unfold xil xcP xeh;rw [ED,xHi];exact xnW (l:=mk [iv 1] [(0,9)]) (by simp [mk]) (fun f hf=>by
   obtain ⟨p,_,rfl⟩:=zK.1 hf;simp)
 have E0:xjz=some true:=by
  unfold xjz xiv xiw xis;rw [E1,xHi,xHi,xHi];exact xnW (l:=mk [iv 1] [(0,6)]++mk [iv 2] [(0,4),(8,9)]) (by simp [mk]) (fun f hf=>by
   rcases zG.1 hf with hf|hf;all_goals
    obtain ⟨p,_,rfl⟩:=zK.1 hf;simp)
 unfold xh8 xmL;simp only [xHi,xHK,E40,E17,E20,E11,E16,E7,E5,E6,ED,E1,E3,E2,E4,E18,E0,zk,zh,xaj,sUF]
def xw0 {K:List Int} {N:Row->Int->Nat} {m:Nat} {a b:List Fc} (hK:K.length<=48) (ha:RelB N m a) (hm:m<=1024) (hb:IsB N b):xia (K.map encN) (a.map encF) (K.map encN) (b.map encF)=some true :=
 xyT (by omega) (by have:=ha.len;omega) ha.nice (ha.isB.unique hb)
def xDA {N:Row->Int->Nat} {B:List Fc} (h:IsB N B) (hz:∀ r t,N r t=0):B=[]:=by
 have:IsB N []:=⟨[],fun _=>[],List.Pairwise.nil,fun r t ht=>by rw [hz] at ht;omega,fun r hr=>by simp at hr,rfl⟩
 exact h.unique this
def xtu (Ka Kb:List Int) (a b:List Fc):xhs (Ka.map encN) (a.map encF) (Kb.map encN) (b.map encF)=some true:=by
 obtain ⟨c,c1,c2⟩:=xDL Ka Kb a b;unfold xhs xgg;cases c with
 | false=>simp only [c1,xva,zk,zh,Bool.not_false,xaj,sUF]
 | true =>
  obtain ⟨ha,hb,rfl⟩:=c2 rfl;have hk:=ha.kl;have la:=ha.len;have lb:=hb.len;obtain ⟨D,d1,d2,d3⟩:=xhv Ka (by omega) ha.nice (by omega)
  have dl:=d3.len;obtain ⟨E,e1,e2,e3⟩:=xhv Ka (by omega) hb.nice (by omega)
  have el:=e3.len;obtain ⟨DD,f1,f2,f3⟩:=xhv Ka (a:=D) (by omega) d3.nice (by omega)
  obtain ⟨X,x1,x2⟩:=xsZ Ka (Ka.map encN) (by omega) d3.nice ha.nice (by omega)
  obtain ⟨U,u1,u2⟩:=xqT Ka (Ka.map encN) (by omega) ha.nice hb.nice (by omega)
  have ul:=u2.len;obtain ⟨V,v1,v2⟩:=xqT Ka (Ka.map encN) (by omega) d3.nice e3.nice (by omega)
  have vl:=v2.len;obtain ⟨DU,g1,g2,g3⟩:=xhv Ka (a:=U) (by omega) u2.nice (by omega)
  obtain ⟨DV,h1,h2,h3⟩:=xhv Ka (a:=V) (by omega) v2.nice (by omega)
  have w8:xbo (Ka.map encN) (a.map encF)=Ka.map encN:=by unfold xbo;rw [d1];rfl
  have w9:xbp (Ka.map encN) (a.map encF)=D.map encF:=by unfold xbp;rw [d1];rfl
  have q:xd8 (Ka.map encN) (a.map encF) (Ka.map encN) (b.map encF)=some (Ka.map encN,DU.map encF):=by
   unfold xd8;rw [u1];exact g1
  have w5:xc9 (Ka.map encN) (a.map encF) (Ka.map encN) (b.map encF)=some (Ka.map encN,V.map encF):=by
   unfold xc9;rw [w8,w9,e1];exact v1
  have w2:xc8 (Ka.map encN) (a.map encF) (Ka.map encN) (b.map encF)=some (Ka.map encN,DV.map encF):=by
   unfold xc8;rw [w5];exact h1
  have w3:xeg (Ka.map encN) (a.map encF)=some true:=by
   unfold xeg xfx;rw [w8,w9,f1];refine xw0 hk f3 (by omega) (d3.isB.congr fun r t=>?_)
   rw [d3.cnt];split<;>simp
  have w0:xef (Ka.map encN) (a.map encF) (Ka.map encN) (b.map encF)=some true:=by
   unfold xef xfZ;rw [q,w2];refine xw0 hk g3 (by omega) (h3.isB.congr fun r t=>?_)
   rw [v2.cnt,d3.cnt,e3.cnt,u2.cnt];by_cases c1:0<cnt a r t<;>by_cases c2:0<cnt b r t<;>simp [c1,c2]<;>omega
  have hX:X=[]:=xDA x2.isB fun r t=>by
   rw [d3.cnt];split<;>omega
  subst hX;have z:((([]:List AV).length:Int)==0)=true:=rfl;simp only [c1,xva,d1,w8,w9,f1,w3,x1,u1,q,e1,w5,w2,w0,zW,z,zk,zh,Bool.not_true,xaj,xaH,sUF]
end Go.Sim.M
end
noncomputable section
namespace Go.Sim.M
def xsl (x y:List Int×List Fc) {P Q:Prop} (_:P) (_:Q):xhs (x.1.map encN) (x.2.map encF) (y.1.map encN) (y.2.map encF)=some true:=xtu x.1 y.1 x.2 y.2
end Go.Sim.M
end
noncomputable section
set_option maxRecDepth 10000
namespace Go.Proofs.YtodofdnlhoknhaaGreatDoor.setopDuplicates
open Go.ChangeShapes Go.WideShapes Go.ChangeAt Go.RowKit Go.Sim
theorem contract (H:Type) (enc:TypeId×Value->H) (W:World) (base:Nat) (args:Array Value) (ds gs:List (DataW H)) (before:List MemPlace)
  (hval:∀ (j:Nat) t v,Tryz.f8.params[j]?=some t->args[j]?=some v->Value.okWide Tryz.prog W .any base t v)
  (hW:DataW.Whole enc Tryz.prog Tryz.f8.params.toList Rows.setopDuplicatesSpec.vars false W args.toList ds gs before) (hL:laidMetH Tryz.prog Rows.setopDuplicatesRow.laid W) (hsh:W.ShapedOpen Tryz.prog) :
  Calls Tryz.prog 8 args W fun e W'=>∃ v,e=.returned v/\Rows.setopDuplicatesSpec.post enc Tryz.prog Tryz.f8 false true false false W args v W':=by
 have hW':=hW;obtain ⟨p,q,hA0,hV,rfl,hfz,hnd⟩:=hW;have hA:DataW.TrodAll enc Tryz.prog W 0 (fun _=>true) true Tryz.f8.params.toList args.toList ds p:=hA0
 have hAk:=hA;rw [Tryz.params8] at hA hval;obtain ⟨v0,vs0,d0,ds0,p0,q0,hargs,rfl,rfl,h0,r0⟩:=trodAll_cons hA;obtain ⟨v1,vs1,d1,ds1,p1,qe1,rfl,rfl,rfl,h1,r1⟩:=trodAll_cons r0;obtain ⟨rfl,rfl,rfl⟩:=trodAll_nil r1;obtain rfl:args=#[v0,v1]:=by cases args;simp_all
 obtain ⟨rfl,rfl⟩:=trodVars_none hV;obtain ⟨a0,rr0,b0,w0⟩:=xvS (hval 0 25 v0 rfl rfl) h0;obtain ⟨a1,rr1,b1,w1⟩:=xvS (hval 1 25 v1 rfl rfl) h1;clear hA0;have hI:xIO W:=xFt rfl (by kernel_rfl) hL hsh
 have hpl:=M.xsl a0 a1 w0 w1;have hg:Sim.Good Tryz.prog xIO 8 [(.agg [.list 1 (a0.1.map M.encN),.list 3 (a0.2.map M.encF)]),(.agg [.list 1 (a1.1.map M.encN),.list 3 (a1.2.map M.encF)])] (.bool true):=M.xob _ _ (congrArg (fun x:Option Bool=>some (x.isSome,AV.bool (x.getD false))) hpl)
 have hrc:RC W (fun _=>False) xIj [v0,v1] [(.agg [.list 1 (a0.1.map M.encN),.list 3 (a0.2.map M.encF)]),(.agg [.list 1 (a1.1.map M.encN),.list 3 (a1.2.map M.encF)])]:=by
  refine ⟨rfl,fun i hi=>?_⟩
  match i,hi with
  | 0,_=>exact rr0
  | 1,_=>exact rr1
 refine (hg.2 W (fun _=>False) _ hI (fun _ h=>h.elim) hrc).mono fun e W' ⟨v,he,hb,hr⟩=>?_
 subst he;obtain rfl:=hr.bool_inv;exact ⟨_,rfl,xA7 rfl hW' ⟨rfl,rfl,rfl⟩ rfl Tryz.underlying4 (by simpa using xpR xHT hb (by kernel_rfl) hAk) hb⟩
def wit:Array Value:=#[.agg #[.slice none 0 0,.slice none 0 0],.agg #[.slice none 0 0,.slice none 0 0]]
theorem laid_met (os:Os):laidMet Tryz.prog Rows.setopDuplicatesRow.laid ((xHF Tryz.prog Rows.setopDuplicatesRow.laid os).forCall (fun _ _=>0) ⟨#[],wit,[]⟩).memory :=
 laidMet_of_run3 8 (by kernel_rfl) (by kernel_rfl) (by kernel_rfl)
theorem reads (os:Os) {H:Type} (enc:TypeId×Value->H):∃ places,DataW.whole enc Tryz.prog ((xHF Tryz.prog Rows.setopDuplicatesRow.laid os).forCall (fun _ _=>0) ⟨#[],wit,[]⟩).memory Tryz.f8.params.toList Rows.setopDuplicatesSpec.vars false wit.toList 8=some ([.agg [.nil,.nil],.agg [.nil,.nil]],[],places) :=
 ⟨[],by kernel_rfl⟩
set_option maxRecDepth 100000 in
theorem lifted (os:Os) (started:os.Started) (H:Type) (enc:TypeId×Value->H) (F:Stop.Interp) :
  ReturnsInHanded {} Tryz.checked os 8 .any ((OpenSpec.ofChange Rows.setopDuplicatesSpec).preRow enc Tryz.prog Tryz.f8 Rows.setopDuplicatesRow.domain false Rows.setopDuplicatesRow.laid) (((OpenSpec.ofChange Rows.setopDuplicatesSpec).at F).post enc Tryz.prog Tryz.f8 false true false false):=by
 obtain ⟨places,hx⟩:=reads os enc;refine returnsInHanded_of_row (C:=Tryz.checked) (s:=OpenSpec.ofChange Rows.setopDuplicatesSpec) xHZ started (by kernel_rfl) Tryz.func8
  (witness_row_at (enc:=enc) (C:=Tryz.checked) false (xHF Tryz.prog Rows.setopDuplicatesRow.laid os) wit rfl (by kernel_rfl) (by kernel_rfl) (by kernel_rfl)
   (OpenSpec.preRow_of_cond 8 hx (by kernel_rfl) (fun k hk=>by cases hk) (by kernel_rfl) (laid_met os))) ?_
 intro W base args ds gs before hval hW _ _ _ hL hsh _;exact contract H enc W base args ds gs before hval hW hL hsh
theorem said:Rows.SetopDuplicatesSaid :=
 OpenClaim.holds_of_cond 8 Tryz.f8 rfl rfl rfl rfl rfl rfl rfl ⟨rfl,rfl,rfl,rfl,rfl⟩ rfl rfl rfl rfl rfl (by kernel_rfl) Tryz.func8 (by kernel_rfl)
  (of_decide_eq_true (by kernel_rfl)) (by unfold Func.isWrapper;first|(rw [if_pos (by decide +kernel)];kernel_rfl)|(rw [if_neg (by decide +kernel)];exact ⟨rfl,rfl⟩))
  (fun os started H enc _ F=>by rw [OpenClaim.pre_eq_preRow];exact lifted os started H enc F)
theorem plain (f:FuncId) (fn:Func) (hf:Tryz.pinned.checked.prog.funcNamed "bitemporal/bitemporallaw25.SetopDuplicates" = some f) (hfn:Tryz.pinned.checked.prog.funcs[f]?=some fn) :
  false=Tryz.pinned.checked.prog.looks []/\∀ (j:Nat) t,fn.params[j]?=some t->Tryz.pinned.checked.prog.wantsStandIn t=false:=by
 obtain rfl:f=8:=Option.some.inj ((show Tryz.prog.funcNamed "bitemporal/bitemporallaw25.SetopDuplicates" = some 8 by kernel_rfl).symm.trans hf) |>.symm
 obtain rfl:fn=Tryz.f8:=(Option.some.inj (Tryz.func8.symm.trans hfn)).symm;refine ⟨by kernel_rfl,fun j t ht=>?_⟩
 rw [Tryz.params8] at ht;have hm:=Array.mem_of_getElem? ht;have:([25,25]:List Nat).all (fun t=>!(Tryz.prog.wantsStandIn t))=true:=by kernel_rfl
 have:=List.all_eq_true.1 this t (by simpa using hm)
 show Tryz.prog.wantsStandIn t=false;simpa using this
theorem card:Rows.SetopDuplicatesCardSaid :=
 Claim7.holds_tied_plain_at .later [] _ _ _ _ said (fun _ h=>by cases h) (by kernel_rfl) (fun _ h=>by cases h) setopDuplicates_row_tie rfl ⟨rfl,rfl⟩ (by kernel_rfl) rfl plain (by kernel_rfl)
end Go.Proofs.YtodofdnlhoknhaaGreatDoor.setopDuplicates
end
