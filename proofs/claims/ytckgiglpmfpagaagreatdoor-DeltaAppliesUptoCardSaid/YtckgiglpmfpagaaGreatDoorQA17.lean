/- Part 17 of the proof of the law. -/
import Derived.Test.YtckgiglpmfpagaaGreatDoorQA16
import Derived.Lib.ItoaLen
set_option linter.unusedVariables false
set_option linter.unusedSimpArgs false
noncomputable section
set_option maxRecDepth 100000
namespace Go.Sim.M
open Go.RowKit Go.Sim.Srt
def keyV (v:Val):List UInt8:=Lib.itoa v.k++32::(Lib.itoa v.i++32::(Lib.itoa (v.t.length:Int)++32::v.t))
def keyOf (r:Row):List UInt8:=r.flatMap keyV
theorem xoZ (v:Val) (s:List UInt8):keyV v++s=Lib.itoa v.k++32::(Lib.itoa v.i++32::(Lib.itoa (v.t.length:Int)++32::(v.t++s))):=by simp [keyV]
theorem xnd (v:Val) (r:Row):keyOf (v::r)=keyV v++keyOf r:=by simp [keyOf]
theorem xpU (v:Val) (s:List UInt8):keyV v++s≠[]:=by rw [xoZ];simp
theorem xrm {n:Int} (h:(Lit.int .i64 n).wf=true):-9223372036854775808<=n/\n<=9223372036854775807:=by
 have h:(decide ((IntKind.i64).min<=n)&&decide (n<=(IntKind.i64).max))=true:=h;rw [ze,zk,zk] at h;exact h
theorem xox {v:Val} (hw:v.wf) (ht:v.t.length<=1099511627776):(keyV v).length<=66+v.t.length:=by
 obtain ⟨w1,w2,_⟩:=hw;have a1:=Lib.itoa_length_le v.k (xrm w1).1 (xrm w1).2;have a2:=Lib.itoa_length_le v.i (xrm w2).1 (xrm w2).2;have a3:=Lib.itoa_length_le (v.t.length:Int) (by omega) (by omega)
 simp only [keyV,z7,zD];omega
theorem xj9 (s B:List UInt8) (h:(B++s).length<=140737488355328):xam s B.length (byteAVs B)=some ((s.length:Int),(B++s).length,byteAVs (B++s)):=by
 rw [z7] at h;have h2:B.length+s.length<=4611686018427387904:=by omega
 unfold xam xbT;simp only [xdm,beq_self_eq_true,Nat.mul_one,h,h2,zm,Bool.and_self,xaN,xgy,z7,sUF]
theorem xlS (B:List UInt8) (h:(B++[32]).length<=140737488355328):xbr 32 B.length (byteAVs B)=some ((B++[32]).length,byteAVs (B++[32])):=by
 rw [z7,zi] at h;have h2:B.length+1<=4611686018427387904:=by omega
 unfold xbr xb5;simp only [xdm,beq_self_eq_true,Nat.mul_one,h,h2,zm,Bool.and_self,xaN,xgy,z7,zi,sUF];rfl
def numI (n:Int):List UInt8:=Lib.itoa n++[32]
theorem xne (t8:List AV) (t9 q:Int) (xs:List AV) (hx:xs.length=3) (j:Nat) (hj:j<3) (n:Int) (hn:xs.getD j .top=.int .i64 n) (h1:-9223372036854775808<=n) (h2:n<=9223372036854775807) (v0 v1:Int) (v2 B:List UInt8) (hB:B.length<=70368744177664) :
  xay t8 t9 q 3 3 ((j:Int),B.length,v0,v1,v2,xs,byteAVs B)=some (.inl (((j+1:Nat):Int),(B++numI n).length,v0,v1,v2,xs,byteAVs (B++numI n))):=by
 have hl:=Lib.itoa_length_le n h1 h2;have i1:(j:Int)<3:=by omega
 have i2:(j:Int)<((3:Nat):Int):=by omega
 have i3:j<xs.length:=by omega
 have e1:=xj9 (Lib.itoa n) B (by rw [z7];omega)
 have e2:=xlS (B++Lib.itoa n) (by rw [z7,z7,zi];omega)
 have hc:((AV.int IntKind.i64 n).cells.getD 0 .top).toInt=n:=rfl;have hs:xrN (Sh.int IntKind.i64) ((AV.int IntKind.i64 n).cells.getD 0 .top)=true:=rfl;simp only [xay,xdu,xc0,xc1,xc2,xbs,sBU,i1,i2,i3,hn,hc,hs,h1,h2,e1,e2,xrj (n:=j) (by omega),numI,zv]
theorem xpV (t8:List AV) (t9 q:Int) (xs:List AV) (v0 v1:Int) (v2 B:List UInt8):xay t8 t9 q 3 3 (((3:Nat):Int),B.length,v0,v1,v2,xs,byteAVs B)=some (.inr (B.length,v0,v1,v2,byteAVs B)):=by
 have i1:¬ ((3:Nat):Int)<3:=by omega
 simp only [xay,xdu,i1,zl,xak,sUF]
theorem xiZ (v:Val):keyV v=numI v.k++(numI v.i++(numI (v.t.length:Int)++v.t)):=by simp [keyV,numI]
def KOk (v:Val):Prop:=v.wf/\v.t.length<=1099511627776
theorem KOk.len {v:Val} (h:KOk v):(keyV v).length<=1099511627842:=by have:=xox h.1 h.2;have:=h.2;omega
theorem xmB (t8:List AV) (t9 q:Int) (v:Val) (h:KOk v) (B:List UInt8) (hB:B.length<=35184372088832) :
  Iter (xay t8 t9 q 3 3) ((1:Int),(B++numI v.k).length,v.k,v.i,v.t,[AV.int .i64 v.k,AV.int .i64 v.i,AV.int .i64 (v.t.length:Int)],byteAVs (B++numI v.k))=some ((B++numI v.k++numI v.i++numI (v.t.length:Int)).length,v.k,v.i,v.t,byteAVs (B++numI v.k++numI v.i++numI (v.t.length:Int))):=by
 have hl:=h.len;have ht:=h.2;rw [xiZ,z7,z7,z7] at hl;have e1:=xne t8 t9 q [AV.int .i64 v.k,AV.int .i64 v.i,AV.int .i64 (v.t.length:Int)] rfl 1 (by omega) v.i rfl (xrm h.1.2.1).1 (xrm h.1.2.1).2 v.k v.i v.t (B++numI v.k) (by rw [z7];omega)
 have e2:=xne t8 t9 q [AV.int .i64 v.k,AV.int .i64 v.i,AV.int .i64 (v.t.length:Int)] rfl 2 (by omega) (v.t.length:Int) rfl (by omega) (by omega) v.k v.i v.t (B++numI v.k++numI v.i) (by rw [z7,z7];omega)
 exact (xbw e1).trans ((xbw e2).trans (xbg (xpV ..)))
theorem xqL (t8:List AV) (t9 q:Int) (v:Val) (h:KOk v) (B:List UInt8) (hB:B.length<=35184372088832) :
  Iter (xay t8 t9 q 3 3) ((0:Int),B.length,v.k,v.i,v.t,[AV.int .i64 v.k,AV.int .i64 v.i,AV.int .i64 (v.t.length:Int)],byteAVs B)=some ((B++numI v.k++numI v.i++numI (v.t.length:Int)).length,v.k,v.i,v.t,byteAVs (B++numI v.k++numI v.i++numI (v.t.length:Int))):=by
 have e0:=xne t8 t9 q [AV.int .i64 v.k,AV.int .i64 v.i,AV.int .i64 (v.t.length:Int)] rfl 0 (by omega) v.k rfl (xrm h.1.1).1 (xrm h.1.1).2 v.k v.i v.t B (by omega)
 exact (xbw e0).trans (xmB t8 t9 q v h B hB)
theorem xob (r:Row) (hr:r.length<=1048576) (h:∀ v,v∈r->KOk v) (hk:(keyOf r).length<=17592186044416):∀ d k:Nat,k+d=r.length->Iter (xbc (r.map encV) ((r.length:Nat):Int)) ((k:Int),(keyOf (r.take k)).length,byteAVs (keyOf (r.take k)))=some ((keyOf r).length,byteAVs (keyOf r))
 | 0,k,hkk=>by
  obtain rfl:k=r.length:=by omega
  rw [y3];refine xbg ?_;simp only [xbc,xdt,zx,zl,xak,sUF]
 | d+1,k,hkk=>by
  have q:k<r.length:=by omega
  have hv:=h r[k] (zn q);have i1:(k:Int)<(r.length:Int):=by omega
  have gf:(r.map encV).getD k .top=encV r[k]:=xbf _ _ _ q;have tk:keyOf (r.take (k+1))=keyOf (r.take k)++keyV r[k]:=by
   unfold keyOf;rw [List.take_add_one,zd q,List.flatMap_append];simp
  have le:(keyOf (r.take (k+1))).length<=(keyOf r).length:=by
   conv=>rhs;rw [<-List.take_append_drop (k+1) r]
   unfold keyOf;rw [List.flatMap_append,z7];omega
  have hl:=hv.len;rw [tk,z7] at le;have e1:=xqL (r.map encV) (r.length:Int) (k:Int) r[k] hv (keyOf (r.take k)) (by omega)
  have kn:keyOf (r.take k)++keyV r[k]=keyOf (r.take k)++numI r[k].k++numI r[k].i++numI (r[k].t.length:Int)++r[k].t:=by rw [xiZ];simp only [zv]
  have e2:=xj9 r[k].t (keyOf (r.take k)++numI r[k].k++numI r[k].i++numI (r[k].t.length:Int)) (by rw [<-kn,z7];omega)
  rw [xbw (s':=(((k+1:Nat):Int),(keyOf (r.take (k+1))).length,byteAVs (keyOf (r.take (k+1))))) ?_]
  . exact xob r hr h hk d (k+1) (by omega)
  . rw [tk,kn];simp only [xbc,xdt,xcW,xcX,xcY,xcZ,xcx,sBU,q,i1,gf,cV0,cV1,cV2,lV,sV,e1,e2,xrj (n:=k) (by omega)]
theorem xqM (r:Row) (hr:r.length<=1048576) (h:∀ v,v∈r->KOk v) (hk:(keyOf r).length<=17592186044416):xfR (r.map encV)=some (keyOf r):=by
 match r with
 | []=>rfl
 | v::t =>
  have hv:=h v (by simp)
  have hl:=hv.len;have i1:(0:Int)<((t.length+1:Nat):Int):=by omega
  have i2:0<t.length+1:=by omega
  obtain ⟨r1,r2⟩:=xrm hv.1.1;have q:=Lib.itoa_length_le v.k r1 r2;have gf:((v::t).map encV).getD 0 .top=encV v:=rfl;have e0:xaA (Lib.itoa v.k)=some (((Lib.itoa v.k).length:Int),(Lib.itoa v.k).length,byteAVs (Lib.itoa v.k)):=by
   have m1:(Lib.itoa v.k).length<=140737488355328:=by omega
   have m2:(Lib.itoa v.k).length<=4611686018427387904:=by omega
   unfold xaA xbV;simp only [xdm,Nat.mul_one,m1,m2,zm,Bool.and_self,xaN,sUF]
  have e1:xcl 32 (Lib.itoa v.k).length (byteAVs (Lib.itoa v.k))=some (([]++numI v.k).length,byteAVs ([]++numI v.k)):=xlS (Lib.itoa v.k) (by rw [z7,zi];omega)
  have e2:=xmB ((v::t).map encV) ((t.length+1:Nat):Int) 0 v hv [] (by simp)
  have kn:keyV v=[]++numI v.k++numI v.i++numI (v.t.length:Int)++v.t:=by rw [xiZ];simp
  have e3:=xj9 v.t ([]++numI v.k++numI v.i++numI (v.t.length:Int)) (by rw [<-kn];omega)
  rw [<-kn] at e3;have e4:=xob (v::t) hr h hk t.length 1 (by rw [zD];omega)
  have tk:keyOf ((v::t).take 1)=keyV v:=by simp [keyOf]
  rw [tk,zD] at e4;have e4:Iter (xbc ((v::t).map encV) ((t.length+1:Nat):Int)) ((1:Int),(keyV v).length,byteAVs (keyV v))=_:=e4;have hne:(keyOf (v::t)).length≠0:=fun e=>xpU v (keyOf t) (by rw [<-xnd];exact List.length_eq_zero_iff.1 e)
  unfold xfR xgz xbY xeg xeh xei xej xek xel xem xen xeo xaO;simp only [z8,zD,i1,i2,gf,cV0,cV1,cV2,lV,sV,r1,r2,e0,e1,e2,e3,e4,zm,xaN,Bool.and_self,beq_self_eq_true,zj,zg,xdm,xjq,xk3,ne_eq,hne,not_false_eq_true,sUF]
abbrev Grp:=Row×List Per
def encG (g:Grp):AV:=.agg [.list 3 (g.1.map encV),.list 2 (g.2.map encP)]
def xrK (x y:AV):Bool:=(xgA (x.cells.getD 0 AV.top).toList (x.cells.getD 1 AV.top).toList (y.cells.getD 0 AV.top).toList (y.cells.getD 1 AV.top).toList).isSome
def xrL (x y:AV):Int:=(xgA (x.cells.getD 0 AV.top).toList (x.cells.getD 1 AV.top).toList (y.cells.getD 0 AV.top).toList (y.cells.getD 1 AV.top).toList).getD 0
section
variable {N : Nat} (hN : N <= 2 ^ 60) {ok : Grp -> Prop} {c : Grp -> Grp -> Int} (hc : ∀ x y, ok x -> ok y -> xrK (encG x) (encG y) = true /\ xrL (encG x) (encG y) = c x y)
include hN
include hc
end
end Go.Sim.M
end
noncomputable section
set_option maxRecDepth 100000
namespace Go.Sim.M
open Go.RowKit Go.Sim.Srt
structure GI (l:List Fc) (G:List Grp):Prop where
 nd:(G.map (·.1)).Nodup
 mem:∀ r,r∈G.map (·.1)↔∃ f,f∈l/\f.r=r/\pv f.p=true
 ps:∀ g,g∈G->g.2=psOf l g.1
 len:G.length<=l.length
theorem GI.nil:GI [] []:=⟨List.nodup_nil,fun r=>by simp,fun g hg=>by simp at hg,zb _⟩
theorem xp2 (l:List Fc) (f:Fc) (r:Row):psOf (l++[f]) r=psOf l r++(if f.r=r/\pv f.p=true then [f.p] else []):=by
 unfold psOf;rw [List.filter_append,zw];congr 1;by_cases h1:f.r=r<;>by_cases h2:pv f.p=true<;>simp [h1,h2]
theorem GI.skip {l:List Fc} {G:List Grp} (h:GI l G) {f:Fc} (hf:pv f.p=false):GI (l++[f]) G :=
 ⟨h.nd,fun r=>by
  rw [h.mem];refine ⟨fun ⟨g,hg,e⟩=>⟨g,by simp [hg],e⟩,fun ⟨g,hg,e1,e2⟩=>⟨g,?_,e1,e2⟩⟩
  rcases zF.1 hg with hg|hg
  . exact hg
  . rw [zu] at hg;subst hg;rw [hf] at e2;simp at e2,fun g hg=>by rw [xp2,if_neg (by rw [hf];simp),zC];exact h.ps g hg,by rw [z7];have:=h.len;omega⟩
def Keyed (l:List Fc):Prop:=Few l/\∀ f,f∈l->(∀ v,v∈f.r->KOk v)/\(keyOf f.r).length<=17592186044416
theorem Keyed.key {l:List Fc} (h:Keyed l) {f:Fc} (hf:f∈l):xfR (f.r.map encV)=some (keyOf f.r):=xqM f.r (h.1.2 f hf) (h.2 f hf).1 (h.2 f hf).2
end Go.Sim.M
end
noncomputable section
set_option maxRecDepth 100000
namespace Go.Sim.M
open Go.RowKit Go.Sim.Srt Go.Sort
def mk (r:Row) (P:List Per):List Fc:=P.map fun p=>⟨r,p⟩
end Go.Sim.M
end
noncomputable section
set_option maxRecDepth 100000
namespace Go.Sim.M
open Go.RowKit Go.Sim.Srt
def Tx (l:List Fc):Prop:=∀ f,f∈l->∀ v,v∈f.r->v.wf/\v.t.length<=1073741824
theorem xrq.all {l B:List Fc} (h:xrq l B) {Q:Row->Prop} (hq:∀ f,f∈l->Q f.r):∀ f,f∈B->Q f.r:=fun f hf=>by
 obtain ⟨_,g,hg,e⟩:=h.valid hf;rw [<-e];exact hq g hg
theorem xru.all {l B:List Fc} (h:xru l B) {Q:Row->Prop} (hq:∀ f,f∈l->Q f.r):∀ f,f∈B->Q f.r:=fun f hf=>by
 obtain ⟨R,L,h1,h2,rfl⟩:=h;obtain ⟨a,b⟩:=xkg hf;obtain ⟨g,g1,g2,_⟩:=(h1.2 _).1 a;rw [<-g2];exact hq g g1
theorem xru.len {l B:List Fc} (h:xru l B):B.length<=l.length*l.length:=by
 obtain ⟨R,L,h1,h2,rfl⟩:=h;refine xhT (h1.1.nodup xqy) fun r hr=>?_
 obtain ⟨a,b⟩:=h2 r hr;have:=xmD (ps:=psOf l r) (k:=0) a fun t=>by rw [b,xon]
 exact Nat.le_trans this (Nat.le_mul_self _)
def dk (S:List Row):Nat->List Row
 | 0=>[]
 | k+1=>dk S k++(if k=0\/S[k - 1]?≠S[k]? then S[k]?.toList else [])
structure RGI (S:List Fc) (i:Nat) (G:List Grp):Prop where
 st:Strict cmpR (G.map (·.1))
 mem:∀ r,r∈G.map (·.1)↔∃ f,f∈S.take i/\f.r=r/\pv f.p=true
 ps:∀ g,g∈G->StepI (fun t=>((cnt S g.1 t:Nat):Int)) 1099511627776 g.2/\g.2.length<=2*S.length+1
 len:G.length<=i
 bd:∀ a b (ha:a<S.length) (hb:b<S.length),a<i->i<=b->cmpR S[a].r S[b].r<0
theorem xpd (p q:Bool):(some (p&&q):Option Bool)=br p (some q) (some false):=by cases p<;>rfl
theorem xra (v w:Ve):decide (v=w)=(v.id==w.id&&(v.sc==w.sc&&((v.va.1==w.va.1&&(v.va.2==w.va.2&&true))&&((v.sy.1==w.sy.1&&(v.sy.2==w.sy.2&&true))&&(v.b==w.b&&(v.u==w.u&&decide (v.r=w.r))))))):=by
 obtain ⟨a,b,c,⟨d,e⟩,⟨f,g⟩,h,i⟩:=v;obtain ⟨a',b',c',⟨d',e'⟩,⟨f',g'⟩,h',i'⟩:=w;rw [Bool.eq_iff_iff];simp only [zk,Ve.mk.injEq,za,ze,beq_iff_eq,and_true];constructor
 . rintro ⟨h1,h2,h3,⟨h4,h5⟩,⟨h6,h7⟩,h8,h9⟩;exact ⟨h1,h2,⟨h4,h5⟩,⟨h6,h7⟩,h8,h9,h3⟩
 . rintro ⟨h1,h2,⟨h4,h5⟩,⟨h6,h7⟩,h8,h9,h3⟩;exact ⟨h1,h2,h3,⟨h4,h5⟩,⟨h6,h7⟩,h8,h9⟩
theorem xo9 (v w:Ve) (h:v.r.length<=maxLen):xdC v.id v.sc (v.r.map encV) v.va.1 v.va.2 v.sy.1 v.sy.2 v.b v.u w.id w.sc (w.r.map encV) w.va.1 w.va.2 w.sy.1 w.sy.2 w.b w.u=some (decide (v=w)):=by
 have hm:=xp3 v.r w.r h;rw [xra];simp only [xdC,xcQ,hm,zj,zg,xaN,xpd,cmp0,sUF]
theorem xfu (a b:List Ve) (hl:a.length=b.length) (ha:a.length<=1048576) (hr:∀ f,f∈a->f.r.length<=maxLen):Iter (xan (a.map encW) (b.map encW)) (0:Int)=some (if a=b then (false,false,()) else (true,false,())):=by
 refine xpT a b hl (fun n h h2=>?_) ?_
 . have h1:(n:Int)<(a.length:Int):=by omega
   have h3:(n:Int)<(b.length:Int):=by omega
   have gf:(a.map encW).getD n .top=encW a[n]:=xbf _ _ _ h;have gg:(b.map encW).getD n .top=encW b[n]:=xbf _ _ _ h2;have hm:=xo9 a[n] b[n] (hr _ (zn h));simp only [xan,xbn,xbh,sBU,h,h1,h2,h3,gf,gg,cW0,cW1,cW2,cW3,cW4,cW5,cW6,cW7,cW8,lW,sW,sW0,sW2,sW34,sW56,hm,xrj (n:=n) (by omega)]
   by_cases he:a[n]=b[n]<;>simp [he,xaN,xak,xcS,sUF]
 . simp only [xan,xbn,xbh,z8,zx,zl,xak,sUF]
theorem xmM (a b:List Ve) (ha:a.length<=1048576) (hr:∀ v,v∈a->v.r.length<=maxLen):xb3 (a.map encW) (b.map encW)=some (decide (a=b)):=by
 unfold xb3 xcB;by_cases h:a.length=b.length
 . have e:=xfu a b h ha hr;simp only [z8] at e |-;rw [e];have n1:(((a.length:Nat):Int) != ((b.length:Nat):Int))=false:=by simp [h]
   rw [n1];by_cases q:a=b<;>simp [q,xaN,xak,sUF]
 . have n1:(((a.length:Nat):Int) != ((b.length:Nat):Int))=true:=by simpa [bne_iff_ne] using fun e:(a.length:Int)=b.length=>h (by omega)
   have n2:a≠b:=fun e=>h (by rw [e])
   simp [n1,n2,xaN,sUF]
theorem xmG (v:Ve):opV (encW v)=v.op:=by
 show xaM v.id v.sc (v.r.map encV) v.va.1 v.va.2 v.sy.1 v.sy.2 v.b v.u=v.op;unfold xaM Ve.op xrr;rw [xkD];cases pv v.sy<;>rfl
theorem xoW (l:List Ve):(l.map encW).all isVb=true:=by
 rw [List.all_map,zH];intro v _;rfl
theorem xi8 (v:Ve):xcF v.id v.sc (v.r.map encV) v.va.1 v.va.2 v.sy.1 v.sy.2 v.b v.u=v.op:=by
 unfold xcF Ve.op xrr;rw [xkJ];cases pv v.sy<;>rfl
def TxV (l:List Ve):Prop:=∀ v,v∈l->∀ x,x∈v.r->x.wf/\x.t.length<=1073741824
end Go.Sim.M
end
noncomputable section
set_option maxRecDepth 10000
namespace Go.Sim
open Go.RowKit Go.Proofs Go.ChangeShapes Go.WideShapes Go.ChangeAt Go.Proofs.YtckgiglpmfpagaaGreatDoor
def tyW:List Ty:=[.int .i64,.int .i64,.slice tyV,.int .i64,.int .i64,.int .i64,.int .i64,.int .i64,.int .i64]
theorem xn5:flat Tryz.prog 9 22=some [.slice tyW]:=by kernel_rfl
theorem xl6:flat Tryz.prog 9 38=some [.slice [.int .i64],.slice tyF,.int .i64,.int .i64,.int .i64,.int .i64]:=by kernel_rfl
theorem xpg (x:AV) (hl:x.cells.length=[Ty.int .i64].length) (he:x=xsn x.cells) (hx:∀ j,j<[Ty.int .i64].length->OfTy ([Ty.int .i64].getD j .bool) (x.cells.getD j .top)):∃ a,x=M.encN a/\I64 a:=by
 generalize x.cells=cs at *;match cs,hl with
 | [c0],_ =>
  have h0:=hx 0 (by decide)
  change OfTy (.int .i64) c0 at h0;cases h0 with
  | int _ k hk=>exact ⟨k,he,hk⟩
def M.Ve.wf (v:M.Ve):Prop:=M.Row.wf v.r/\I64 v.id/\I64 v.sc/\I64 v.va.1/\I64 v.va.2/\I64 v.sy.1/\I64 v.sy.2/\I64 v.b/\I64 v.u
theorem xpi (x:AV) (hl:x.cells.length=tyW.length) (he:x=xsn x.cells) (hx:∀ j,j<tyW.length->OfTy (tyW.getD j .bool) (x.cells.getD j .top)):∃ a,x=M.encW a/\M.Ve.wf a:=by
 generalize x.cells=cs at *;match cs,hl with
 | [c0,c1,c2,c3,c4,c5,c6,c7,c8],_ =>
  have h0:=hx 0 (by decide)
  have h1:=hx 1 (by decide)
  have h2:=hx 2 (by decide)
  have h3:=hx 3 (by decide)
  have h4:=hx 4 (by decide)
  have h5:=hx 5 (by decide)
  have h6:=hx 6 (by decide)
  have h7:=hx 7 (by decide)
  have h8:=hx 8 (by decide)
  change OfTy (.int .i64) c0 at h0;change OfTy (.int .i64) c1 at h1;change OfTy (.slice tyV) c2 at h2;change OfTy (.int .i64) c3 at h3;change OfTy (.int .i64) c4 at h4;change OfTy (.int .i64) c5 at h5;change OfTy (.int .i64) c6 at h6;change OfTy (.int .i64) c7 at h7;change OfTy (.int .i64) c8 at h8;obtain ⟨l,rfl,hw⟩:=xlR h2;cases h0 with
  | int _ n0 w0=>cases h1 with
   | int _ n1 w1=>cases h3 with
    | int _ n3 w3=>cases h4 with
     | int _ n4 w4=>cases h5 with
      | int _ n5 w5=>cases h6 with
       | int _ n6 w6=>cases h7 with
        | int _ n7 w7=>cases h8 with
         | int _ n8 w8=>exact ⟨⟨n0,n1,l,(n3,n4),(n5,n6),n7,n8⟩,he,hw,w0,w1,w3,w4,w5,w6,w7,w8⟩
section
variable {H : Type} {enc : TypeId × Value -> H} {w : World} {base b : Nat} {sp : Nat -> Bool} {held : Bool} {v : Value} {d : DataW H} {ps : List MemPlace}
theorem xoj (q:Value.okWide Tryz.prog w .any base 22 v) (hd:DataW.Trod enc Tryz.prog w b sp held 22 v d ps):∃ l:List M.Ve,Rel w (fun _=>False) xr1 v (.list 9 (l.map M.encW))/\(∀ μ:DataW H->Nat,Meas μ->(AV.list 9 (l.map M.encW)).wt<=μ d)/\∀ a,a∈l->M.Ve.wf a:=by
 obtain ⟨a,h,hT,hB⟩:=xp1 Tryz.underlying22 xn5 q hd;obtain ⟨l,rfl,_,hw⟩:=xgl (es:=tyW) xpi hT;exact ⟨l,h,hB,hw⟩
end
theorem xgP:∀ {xs:List AV} {x:AV},x∈xs->AV.wt x<=AV.wts xs
 | y::xs,x,h=>by
  simp only [AV.wts];rcases zB.1 h with rfl|h
  . omega
  . have:=xgP h;omega
theorem xih:∀ {xs:List AV},(∀ x,x∈xs->1<=AV.wt x)->xs.length<=AV.wts xs
 | [],_=>zP _
 | y::xs,h=>by
  have a:=h y (by simp)
  have b:=xih (xs:=xs) fun x hx=>h x (by simp [hx])
  simp only [AV.wts,zD];omega
theorem xoG (v:M.Ve):AV.wt (M.encW v)=1+(1+(AV.wts (v.r.map M.encV)+1+(1+(1+(1+(1+(1+(1+0)))))))):=rfl
theorem M.txv_wt {l:List M.Ve} (h:(AV.list 9 (l.map M.encW)).wt<=1048576) (hw:∀ y,y∈l->y.wf):M.TxV l/\l.length<=1048576:=by
 have e3:(AV.list 9 (l.map M.encW)).wt=AV.wts (l.map M.encW)+1:=rfl;refine ⟨fun f hf v hv=>⟨(hw f hf).1.2 v hv,?_⟩,?_⟩
 . have h1:AV.wt (M.encW f)<=AV.wts (l.map M.encW):=xgP (zJ.2 ⟨f,hf,rfl⟩);have h2:AV.wt (M.encV v)<=AV.wts (f.r.map M.encV):=xgP (zJ.2 ⟨v,hv,rfl⟩);have e1:=xoG f;have e2:AV.wt (M.encV v)=1+(1+(v.t.length+1+0)):=rfl;omega
 . have:=xih (xs:=l.map M.encW) fun x hx=>by
    obtain ⟨v,_,rfl⟩:=zJ.1 hx;have:=xoG v;omega
   rw [z8] at this;omega
theorem M.txf_wt {l:List M.Fc} (h:(AV.list 3 (l.map M.encF)).wt<=1048576) (hw:∀ y,y∈l->y.wf):M.Tx l/\l.length<=1048576:=by
 have e3:(AV.list 3 (l.map M.encF)).wt=AV.wts (l.map M.encF)+1:=rfl;have e1:∀ f:M.Fc,AV.wt (M.encF f)=AV.wts (f.r.map M.encV)+1+(1+(1+0)):=fun _=>rfl
 refine ⟨fun f hf v hv=>⟨(hw f hf).1.2 v hv,?_⟩,?_⟩
 . have h1:AV.wt (M.encF f)<=AV.wts (l.map M.encF):=xgP (zJ.2 ⟨f,hf,rfl⟩);have h2:AV.wt (M.encV v)<=AV.wts (f.r.map M.encV):=xgP (zJ.2 ⟨v,hv,rfl⟩);have e2:AV.wt (M.encV v)=1+(1+(v.t.length+1+0)):=rfl;have:=e1 f;omega
 . have:=xih (xs:=l.map M.encF) fun x hx=>by
    obtain ⟨v,_,rfl⟩:=zJ.1 hx;have:=e1 v;omega
   rw [z8] at this;omega
end Go.Sim
end
noncomputable section
set_option maxRecDepth 100000
namespace Go.Sim.M
open Go.RowKit Go.Sim.Srt
theorem gN {l:List Int} {k:Nat} (h:k<l.length):(l.map encN).getD k .top=encN (l.getD k 0):=by
 rw [xbf _ _ _ h,z6,zd h,zg]
def fid (id:Int) (v:Ve):Bool:=v.op&&v.id==id
theorem xkh (id:Int):∀ l:List Ve,findA id (l.map encW)=(l.find? (fid id)).map encW
 | []=>rfl
 | v::l=>by
  have ih:=xkh id l;unfold findA at ih |-;rw [zU,List.filter_cons,xmG,List.find?_cons];unfold fid at ih |-;cases ho:v.op with
  | false=>simpa only [Bool.false_and,zS,if_false] using ih
  | true =>
   have e:idA (encW v)=v.id:=rfl;rw [if_pos rfl,List.find?_cons,e,Bool.true_and];cases v.id==id with
   | true=>rfl
   | false=>exact ih
def xrw (o:Option Ve):Int×Int×List AV×Int×Int×Int×Int×Int×Int×Bool:=match o with
 | some v=>(v.id,v.sc,v.r.map encV,v.va.1,v.va.2,v.sy.1,v.sy.2,v.b,v.u,true)
 | none=>(0,0,[],0,0,0,0,0,0,false)
theorem xlF (l:List Ve) (id:Int) (hl:l.length<=1048576):xav (l.map encW) id=some (xrw (l.find? (fid id))):=by
 unfold xav xab xeq xaz;rw [xoW,xkh];have h1:decide ((l.map encW).length<4611686018427387904)=true:=by rw [z8,zk];omega
 rw [h1];cases l.find? (fid id)<;>rfl
def errF (l:List Ve) (tm id:Int):Option Int:=match l.find? (fid id) with
 | none=>some 11
 | some v=>br (decide (v.sy.1>=tm)) (some 6) none
def errA (l:List Ve) (tm:Int) (ids:List Int):Nat->Option Int
 | 0=>errF l tm (ids.getD 0 0)
 | k+1=>br (decide (ids.getD (k+1) 0<=ids.getD k 0)) (some 9) (errF l tm (ids.getD (k+1) 0))
theorem p0:decide (((0:Nat):Int)>0)=false:=rfl
theorem p1 (k:Nat):decide (((k+1:Nat):Int)>0)=true:=by rw [zk];omega
theorem xhB (l:List Ve) (ids:List Int) (F:List AV) (c0 tm c2 c3:Int) (hl:l.length<=1048576) (hi:ids.length<=1048576) :
  Iter (xaD (l.map encW) (ids.map encN) F (ids.map encN) ((ids.length:Nat):Int)) ((0:Int),c0,tm,c2,c3)=some ((((List.range ids.length).findSome? (errA l tm ids)).map fun x=>(true,x,())).getD (false,0,())):=by
 have:=xcm (step:=xaD (l.map encW) (ids.map encN) F (ids.map encN) ((ids.length:Nat):Int)) (List.range ids.length) (fun k=>(((k:Nat):Int),c0,tm,c2,c3)) (fun k=>(errA l tm ids k).map fun x=>(true,x,())) (false,0,()) (fun k h=>by
  rw [List.getElem_range];rw [List.length_range] at h;cases k with
  | zero =>
   have h1:((0:Nat):Int)<(ids.length:Int):=by omega
   have hf:=xlF l (ids.getD 0 0) hl;simp only [xaD,xbt,xbd,xcP,xbU,sBU,h,h1,gN h,cN,sN,p0,hf,errA,errF,xrj (n:=0) (by omega)]
   cases l.find? (fid (ids.getD 0 0)) with
   | none=>rfl
   | some v =>
    simp only [xrw,Bool.not_true,xak,xjz,xfN,Option.map_some,Option.map_none,xdb,xda,sUF];rfl
  | succ k =>
   have h0:k<ids.length:=by omega
   have h1:((k+1:Nat):Int)<(ids.length:Int):=by omega
   have h2:(k:Int)<(ids.length:Int):=by omega
   have hf:=xlF l (ids.getD (k+1) 0) hl;simp only [xaD,xbt,xbd,xcP,xbU,xrH (n:=k) (by omega),sBU,h,h0,h1,h2,gN h,gN h0,cN,sN,p1,hf,errA,errF,xrj (n:=k+1) (by omega)]
   cases l.find? (fid (ids.getD (k+1) 0)) with
   | none=>cases decide (ids.getD (k+1) 0<=ids.getD k 0)<;>rfl
   | some v =>
    simp only [xrw,Bool.not_true,xak,xjz,xfN,Option.map_some,Option.map_none,xdb,xda,sUF];rfl) (by
  simp only [List.length_range,xaD,xbt,xbd,z8,zx,zl,xak,sUF]) ids.length 0 (by simp)
 rw [<-xfU];simpa using this
theorem xhC (F:List Fc) (hF:F.length<=1048576):Iter (xas (F.map encF) ((F.length:Nat):Int)) (0:Int)=some (br (F.any fun f=>!pv f.p) (true,8,()) (false,0,())):=by
 have:=xcm (step:=xas (F.map encF) ((F.length:Nat):Int)) F (fun k=>((k:Nat):Int)) (fun f=>br (!pv f.p) (some (true,8,())) none) (false,0,()) (fun k h=>by
  have h1:(k:Int)<(F.length:Int):=by omega
  have gf:(F.map encF).getD k .top=encF F[k]:=xbf _ _ _ h;simp only [xas,xbx,sBU,h,h1,gf,cF0,cF1,cF2,sF0,sF1,sF2,lF,sF12,sF02,xkD,xfN,xdb,xda,xrj (n:=k) (by omega)]) (by
  simp only [xas,xbx,zx,zl,xak,sUF]) F.length 0 (by simp)
 rw [zq,xgU] at this;have e:((0:Nat):Int)=0:=rfl;rw [e] at this;rw [this];cases F.any fun f=>!pv f.p<;>rfl
def errV (l:List Ve) (ids:List Int) (F:List Fc) (tm:Int):Int:=br (decide (tm<0)) 6 (br (decide (tm>=1099511627776)) 6 (((List.range ids.length).findSome? (errA l tm ids)).getD (br (F.any fun f=>!pv f.p) 8 0)))
theorem xmx (l:List Ve) (ids:List Int) (F:List Fc) (c0 tm c2 c3:Int) (hl:l.length<=1048576) (hi:ids.length<=1048576) (hF:F.length<=1048576):xcI (l.map encW) (ids.map encN) (F.map encF) c0 tm c2 c3=some (errV l ids F tm):=by
 unfold xcI xep;simp only [xdx,xd0,z8,sUF];rw [xhB l ids _ c0 tm c2 c3 hl hi,xhC F hF];unfold errV;cases decide (tm<0) with
 | true=>rfl
 | false =>
  cases decide (tm>=1099511627776) with
  | true=>rfl
  | false =>
   cases (List.range ids.length).findSome? (errA l tm ids) with
   | some x=>rfl
   | none=>cases F.any fun f=>!pv f.p<;>rfl
theorem xjG (p:Ve->Bool):∀ l:List Ve,(∃ i,(List.range l.length).findSome? (fun i=>br (p (l.getD i default)) (some i) none)=some i/\i<l.length/\l.find? p=some (l.getD i default))\/((List.range l.length).findSome? (fun i=>br (p (l.getD i default)) (some i) none)=none/\l.find? p=none)
 | []=>.inr ⟨rfl,rfl⟩
 | v::l=>by
  have e:(List.range (v::l).length).findSome? (fun i=>br (p ((v::l).getD i default)) (some i) none)=br (p v) (some 0) (((List.range l.length).findSome? (fun i=>br (p (l.getD i default)) (some i) none)).map (·+1)):=by
   rw [zD,List.range_succ_eq_map,List.findSome?_cons,<-xfU,List.findSome?_map];rw [List.getD_cons_zero];cases p v with
   | true=>rfl
   | false =>
    simp only [xak,sUF];congr 1;funext i;simp only [Function.comp,List.getD_cons_succ,xjz,Option.map_some,Option.map_none]
  rw [e,List.find?_cons];cases hp:p v with
  | true=>exact .inl ⟨0,rfl,by simp,rfl⟩
  | false =>
   rcases xjG p l with ⟨i,h1,h2,h3⟩|⟨h1,h2⟩
   . exact .inl ⟨i+1,by rw [h1];rfl,by simpa using h2,h3⟩
   . exact .inr ⟨by rw [h1];rfl,h2⟩
theorem xk1 (l:List Ve) (id:Int) (hl:l.length<=1048576):xbi (l.map encW) id=some ((((List.range l.length).findSome? fun i=>br (fid id (l.getD i default)) (some i) none).map fun (i:Nat)=>(i:Int)).getD (-1)):=by
 have:=xcm (step:=xaR (l.map encW) id) (List.range l.length) (fun k=>((k:Nat):Int)) (fun k=>(br (fid id (l.getD k default)) (some k) none).map fun (i:Nat)=>(true,(i:Int),())) (false,0,()) (fun k h=>by
  rw [List.getElem_range];rw [List.length_range] at h;have h1:(k:Int)<(l.length:Int):=by omega
  simp only [xaR,xcT,sBU,h,h1,gW h,cW0,cW1,cW2,cW3,cW4,cW5,cW6,cW7,cW8,lW,sW,sW0,sW2,sW34,sW56,xi8,fid,xjz,xfN,Option.map_some,Option.map_none,xdb,xda,xnR,xrj (n:=k) (by omega)]) (by
  simp only [List.length_range,xaR,xcT,z8,zx,zl,xak,sUF]) l.length 0 (by simp)
 rw [zq,xfU] at this;have e:((0:Nat):Int)=0:=rfl;rw [e] at this;unfold xbi xf7;rw [this];cases (List.range l.length).findSome? fun i=>br (fid id (l.getD i default)) (some i) none<;>rfl
theorem sW5 (v:Ve):xrN (Sh.int .i64) ((encW v).cells.getD 5 .top)=true:=rfl
theorem ndec (i:Nat):decide ((i:Int)<0)=false:=by rw [decide_eq_false_iff_not];omega
theorem xio (l:List Ve) (ids:List Int) (F:List AV) (c0 tm c2 c3 fs sc:Int) (hl:l.length<=1048576) (hi:ids.length<=1048576) :
  Iter (xaK (l.map encW) (ids.map encN) F fs sc) ((0:Int),c0,tm,c2,c3)=some ((((List.range ids.length).findSome? (errA l tm ids)).map fun x=>(true,(x,c0,tm,c2,c3),(0,0,0,0))).getD (false,(0,0,0,0,0),(c0,tm,c2,c3))):=by
 have key:∀ (id:Int) {T:Type} (a:Int->T) (d:T) (κ:Int->T),br ((xbi (l.map encW) id).isSome) (br (decide ((xbi (l.map encW) id).getD 0<0)) (a 11) (br (decide (0<=(xbi (l.map encW) id).getD 0)&&decide ((xbi (l.map encW) id).getD 0<(l.length:Int))) (br (decide (((xbi (l.map encW) id).getD 0).toNat<l.length)&&xrN (Sh.int .i64) (((l.map encW).getD ((xbi (l.map encW) id).getD 0).toNat .top).cells.getD 5 .top)) (br (decide ((((l.map encW).getD ((xbi (l.map encW) id).getD 0).toNat .top).cells.getD 5 .top).toInt>=tm)) (a 6) (κ 0)) d) d)) d=match errF l tm id with|some x=>a x|none=>κ 0:=by
  intro id T a d κ;rw [xk1 l id hl];unfold errF;rcases xjG (fid id) l with ⟨i,h1,h2,h3⟩|⟨h1,h2⟩
  . have h4:(i:Int)<(l.length:Int):=by omega
    rw [h1,h3];simp only [Option.map_some,sBU,ndec,h2,h4,gW h2,sW5,cW5];cases hd:decide ((l.getD i default).sy.1>=tm)<;>rfl
  . rw [h1,h2];rfl
 have:=xcm (step:=xaK (l.map encW) (ids.map encN) F fs sc) (List.range ids.length) (fun k=>(((k:Nat):Int),c0,tm,c2,c3)) (fun k=>(errA l tm ids k).map fun x=>(true,(x,c0,tm,c2,c3),((0,0,0,0):Int×Int×Int×Int))) (false,(0,0,0,0,0),(c0,tm,c2,c3)) (fun k h=>by
  rw [List.getElem_range];rw [List.length_range] at h;cases k with
  | zero =>
   have h1:((0:Nat):Int)<(ids.length:Int):=by omega
   have hk:=key (ids.getD 0 0) (fun x=>(some (.inr (true,(x,c0,tm,c2,c3),(0,0,0,0))):Option ((Int×Int×Int×Int×Int)⊕(Bool×(Int×Int×Int×Int×Int)×(Int×Int×Int×Int))))) none (fun _=>some (.inl (((0+1:Nat):Int),c0,tm,c2,c3)))
   simp only [xaK,xbS,xby,xaJ,sBU,h,h1,gN h,cN,sN,p0,xrj (n:=0) (by omega)] at hk |-
   refine hk.trans ?_;simp only [errA];cases errF l tm (ids.getD 0 0)<;>rfl
  | succ k =>
   have h0:k<ids.length:=by omega
   have h1:((k+1:Nat):Int)<(ids.length:Int):=by omega
   have h2:(k:Int)<(ids.length:Int):=by omega
   have hk:=key (ids.getD (k+1) 0) (fun x=>(some (.inr (true,(x,c0,tm,c2,c3),(0,0,0,0))):Option ((Int×Int×Int×Int×Int)⊕(Bool×(Int×Int×Int×Int×Int)×(Int×Int×Int×Int))))) none (fun _=>some (.inl (((k+1+1:Nat):Int),c0,tm,c2,c3)))
   simp only [xaK,xbS,xby,xaJ,xrH (n:=k) (by omega),sBU,h,h0,h1,h2,gN h,gN h0,cN,sN,p1,xrj (n:=k+1) (by omega)] at hk |-
   simp only [errA];cases decide (ids.getD (k+1) 0<=ids.getD k 0) with
   | true=>rfl
   | false =>
    refine hk.trans ?_;simp only [xak,sUF];cases errF l tm (ids.getD (k+1) 0)<;>rfl) (by
  simp only [List.length_range,xaK,xbS,xby,z8,zx,zl,xak,sUF]) ids.length 0 (by simp)
 rw [<-xfU];simpa using this
def clo (c0 tm:Int) (b:Bool) (v:Ve):Ve:=match b with
 | true=>⟨v.id,v.sc,v.r,v.va,(v.sy.1,tm),v.b,c0⟩
 | false=>v
def hit (ids:List Int) (v:Ve):Bool:=v.op&&ids.any (·==v.id)
theorem xoJ {ids:List Int} {k:Nat} (p:Int->Bool) (h:k<ids.length):(ids.take (k+1)).any p=((ids.take k).any p || p (ids.getD k 0)):=by
 rw [List.take_add_one,List.any_append,zd h,z6,zd h];simp
theorem xqw (c0 tm:Int) (b:Bool) (v:Ve):(clo c0 tm b v).id=v.id:=by cases b<;>rfl
theorem xiq (l:List Ve) (ids:List Int) (F:List AV) (c0 tm c2 c3 fs sc:Int) (n:Nat) (out:List AV) (hl:l.length<=1048576) (hi:ids.length<=1048576) {i:Nat} (h:i<l.length) :
  Iter (xaZ (l.map encW) (ids.map encN) F fs sc n ((i:Nat):Int)) ((0:Int),c0,tm,c2,c3,out,(l.getD i default).id,(l.getD i default).sc,(l.getD i default).r.map encV,(l.getD i default).va.1,(l.getD i default).va.2,(l.getD i default).sy.1,(l.getD i default).sy.2,(l.getD i default).b,(l.getD i default).u)
   = some (c0,tm,c2,c3,out,(clo c0 tm (hit ids (l.getD i default)) (l.getD i default)).id,(clo c0 tm (hit ids (l.getD i default)) (l.getD i default)).sc,(clo c0 tm (hit ids (l.getD i default)) (l.getD i default)).r.map encV,(clo c0 tm (hit ids (l.getD i default)) (l.getD i default)).va.1,(clo c0 tm (hit ids (l.getD i default)) (l.getD i default)).va.2,(clo c0 tm (hit ids (l.getD i default)) (l.getD i default)).sy.1,(clo c0 tm (hit ids (l.getD i default)) (l.getD i default)).sy.2,(clo c0 tm (hit ids (l.getD i default)) (l.getD i default)).b,(clo c0 tm (hit ids (l.getD i default)) (l.getD i default)).u):=by
 have g1:(i:Int)<(l.length:Int):=by omega
 have:=xgY (step:=xaZ (l.map encW) (ids.map encN) F fs sc n ((i:Nat):Int))
  (fun k=>(((k:Nat):Int),c0,tm,c2,c3,out,(clo c0 tm (hit (ids.take k) (l.getD i default)) (l.getD i default)).id,(clo c0 tm (hit (ids.take k) (l.getD i default)) (l.getD i default)).sc,(clo c0 tm (hit (ids.take k) (l.getD i default)) (l.getD i default)).r.map encV,(clo c0 tm (hit (ids.take k) (l.getD i default)) (l.getD i default)).va.1,(clo c0 tm (hit (ids.take k) (l.getD i default)) (l.getD i default)).va.2,(clo c0 tm (hit (ids.take k) (l.getD i default)) (l.getD i default)).sy.1,(clo c0 tm (hit (ids.take k) (l.getD i default)) (l.getD i default)).sy.2,(clo c0 tm (hit (ids.take k) (l.getD i default)) (l.getD i default)).b,(clo c0 tm (hit (ids.take k) (l.getD i default)) (l.getD i default)).u)) ids.length
  (c0,tm,c2,c3,out,(clo c0 tm (hit ids (l.getD i default)) (l.getD i default)).id,(clo c0 tm (hit ids (l.getD i default)) (l.getD i default)).sc,(clo c0 tm (hit ids (l.getD i default)) (l.getD i default)).r.map encV,(clo c0 tm (hit ids (l.getD i default)) (l.getD i default)).va.1,(clo c0 tm (hit ids (l.getD i default)) (l.getD i default)).va.2,(clo c0 tm (hit ids (l.getD i default)) (l.getD i default)).sy.1,(clo c0 tm (hit ids (l.getD i default)) (l.getD i default)).sy.2,(clo c0 tm (hit ids (l.getD i default)) (l.getD i default)).b,(clo c0 tm (hit ids (l.getD i default)) (l.getD i default)).u) (fun k hk=>by
   have h1:(k:Int)<(ids.length:Int):=by omega
   have ht:hit (ids.take (k+1)) (l.getD i default)=((l.getD i default).op&&((ids.take k).any (·==(l.getD i default).id) || ids.getD k 0==(l.getD i default).id)):=by unfold hit;rw [xoJ _ hk]
   have hu:hit (ids.take k) (l.getD i default)=((l.getD i default).op&&(ids.take k).any (·==(l.getD i default).id)):=rfl;simp only [xaZ,xcD,sBU,h,hk,g1,h1,gW h,gN hk,cW0,cW1,cW2,cW3,cW4,cW5,cW6,cW7,cW8,lW,sW,sW0,sW2,sW34,sW56,cN,sN,xi8,ht,hu,xqw,xrj (n:=k) (by omega)]
   cases (l.getD i default).op<;>cases (ids.take k).any (·==(l.getD i default).id)<;>cases ids.getD k 0==(l.getD i default).id<;>rfl) (by
   simp only [xaZ,xcD,z8,zx,zl,xak,y3,sUF]) ids.length 0 (by omega)
 have e0:hit (ids.take 0) (l.getD i default)=false:=by unfold hit;simp
 rw [e0] at this;exact this
theorem xo1 {α β:Type} (f:α->β) {l:List α} {k:Nat} (h:k<l.length) (d:α):(l.take (k+1)).map f=(l.take k).map f++[f (l.getD k d)]:=by
 rw [List.take_add_one,zw,zd h,z6,zd h];rfl
theorem xrM {n:Nat} (h:n<=1048576):decide ((n+1)*88<=140737488355328)=true/\decide (n+1<=4611686018427387904)=true:=⟨decide_eq_true (by omega),decide_eq_true (by omega)⟩
theorem xip (l:List Ve) (ids:List Int) (F:List AV) (c0 tm c2 c3 fs sc:Int) (hl:l.length<=1048576) (hi:ids.length<=1048576) :
  Iter (xaY (l.map encW) (ids.map encN) F fs sc) ((0:Nat),(0:Int),c0,tm,c2,c3,[])=some (l.length,c0,tm,c2,c3,(l.map fun v=>clo c0 tm (hit ids v) v).map encW):=by
 have:=xgY (step:=xaY (l.map encW) (ids.map encN) F fs sc) (fun k=>(k,((k:Nat):Int),c0,tm,c2,c3,((l.take k).map fun v=>clo c0 tm (hit ids v) v).map encW)) l.length (l.length,c0,tm,c2,c3,(l.map fun v=>clo c0 tm (hit ids v) v).map encW) (fun k h=>by
  have h1:(k:Int)<(l.length:Int):=by omega
  have q:(((l.take k).map fun v=>clo c0 tm (hit ids v) v).map encW).length=k:=by simp;omega
  have e:=xiq l ids F c0 tm c2 c3 fs sc k (((l.take k).map fun v=>clo c0 tm (hit ids v) v).map encW) hl hi h
  obtain ⟨m1,m2⟩:=xrM (n:=k) (by omega)
  rw [xo1 _ h default];generalize ((l.take k).map fun v=>clo c0 tm (hit ids v) v)=D at e q |-
  rw [zw];simp only [xaY,xcC,xdE,xdF,xdG,xdH,xdI,xdJ,xdK,xdL,xdM,xdN,xdd,xde,xdf,xdg,xdh,sBU,h,h1,gW h,cW0,cW1,cW2,cW3,cW4,cW5,cW6,cW7,cW8,lW,sW,sW0,sW2,sW34,sW56,e,q,m1,m2,xrj (n:=k) (by omega)]
  first|rfl|skip) (by
  simp only [xaY,xcC,z8,zx,zl,xak,y3,sUF]) l.length 0 (by omega)
 simpa using this
instance:Inhabited Fc:=⟨⟨[],(0,0)⟩⟩
theorem gF {l:List Fc} {k:Nat} (h:k<l.length):(l.map encF).getD k .top=encF (l.getD k default):=by
 rw [xbf _ _ _ h,z6,zd h,zg]
def opn1 (fs sc c0 tm:Int) (i:Nat) (f:Fc):Ve:=⟨IntKind.i64.wrap (fs+(i:Int)),sc,f.r,f.p,(tm,xrr),c0,0⟩
def opnV (fs sc c0 tm:Int) (F:List Fc) (k:Nat):List Ve:=(List.range k).map fun i=>opn1 fs sc c0 tm i (F.getD i default)
theorem xky (fs sc c0 tm:Int) (F:List Fc) (k:Nat):opnV fs sc c0 tm F (k+1)=opnV fs sc c0 tm F k++[opn1 fs sc c0 tm k (F.getD k default)]:=by
 unfold opnV;rw [List.range_succ,zw];rfl
theorem xd6 (fs sc c0 tm:Int) (F:List Fc) (k:Nat):(opnV fs sc c0 tm F k).length=k:=by unfold opnV;simp
theorem xrB {n k:Nat} (h:n<=1048576) (hk:k<=1048576):decide ((n+k+1)*88<=140737488355328)=true/\decide (n+k+1<=4611686018427387904)=true:=⟨decide_eq_true (by omega),decide_eq_true (by omega)⟩
theorem xir (F:List Fc) (D:List Ve) (c0 tm c2 c3 fs sc:Int) (hF:F.length<=1048576) (hD:D.length<=1048576):∃ r,Iter (xax (F.map encF) fs sc) (D.length,(0:Int),c0,tm,c2,c3,D.map encW)=some r /\
  ((F.any fun f=>!pv f.p)=true->r.1=true/\r.2.1.1=8)/\((F.any fun f=>!pv f.p)=false->r=(false,(0,0,[]),(D.length+F.length,(D++opnV fs sc c0 tm F F.length).map encW))):=by
 have hd:∀ k,((D++opnV fs sc c0 tm F k).map encW).length=D.length+k:=fun k=>by rw [z8,z7,xd6]
 have:=xcm (step:=xax (F.map encF) fs sc) (List.range F.length) (fun k=>(D.length+k,((k:Nat):Int),c0,tm,c2,c3,(D++opnV fs sc c0 tm F k).map encW)) (fun k=>br (!pv (F.getD k default).p) (some (true,(8,D.length+k,(D++opnV fs sc c0 tm F k).map encW),(0,[]))) none) (false,(0,0,[]),(D.length+F.length,(D++opnV fs sc c0 tm F F.length).map encW)) (fun k h=>by
  rw [List.getElem_range];rw [List.length_range] at h;have h1:(k:Int)<(F.length:Int):=by omega
  obtain ⟨m1,m2⟩:=xrB (n:=D.length) (k:=k) hD (by omega)
  have J:=hd k;have hs:(D++opnV fs sc c0 tm F (k+1)).map encW=(D++opnV fs sc c0 tm F k).map encW++[encW (opn1 fs sc c0 tm k (F.getD k default))]:=by rw [xky,<-zv,zw];rfl
  rw [hs];generalize (D++opnV fs sc c0 tm F k).map encW=E at J |-;simp only [xax,xcE,xcc,xdO,sBU,h,h1,gF h,cF0,cF1,cF2,sF0,sF1,sF2,lF,sF12,sF02,xkJ,J,m1,m2,xfN,xdb,xda,xrj (n:=k) (by omega)]
  rfl) (by
  simp only [List.length_range,xax,xcE,z8,zx,zl,xak,sUF]) F.length 0 (by simp)
 have e0:opnV fs sc c0 tm F 0=[]:=rfl;simp only [zq,e0,zC,Nat.add_zero] at this;have q:(F.any fun f=>!pv f.p)=(List.range F.length).any fun k=>!pv (F.getD k default).p:=by
  rw [Bool.eq_iff_iff,List.any_eq_true,List.any_eq_true];constructor
  . rintro ⟨f,hf,hp⟩;obtain ⟨i,hi,rfl⟩:=List.getElem_of_mem hf;exact ⟨i,List.mem_range.2 hi,by rw [z6,zd hi];exact hp⟩
  . rintro ⟨i,hi,hp⟩;rw [List.mem_range] at hi;rw [z6,zd hi] at hp;exact ⟨F[i],zn hi,hp⟩
 refine ⟨_,this,fun ha=>?_,fun ha=>?_⟩
 . rw [q] at ha;obtain ⟨i,hi,hp⟩:=List.any_eq_true.1 ha;generalize hg:(fun k=>br (!pv (F.getD k default).p) (some (true,((8:Int),D.length+k,(D++opnV fs sc c0 tm F k).map encW),((0,[]):Nat×List AV))) none)=e
   cases hf:(List.range F.length).findSome? e with
   | none =>
    have:=List.findSome?_eq_none_iff.1 hf i hi;rw [<-hg] at this;dsimp only at this;rw [hp] at this;simp [xaN,sUF] at this
   | some x =>
    obtain ⟨j,hj,hx⟩:=List.exists_of_findSome?_eq_some hf;rw [<-hg] at hx;dsimp only at hx;cases hb:!pv (F.getD j default).p with
    | false=>rw [hb] at hx;simp [xak,sUF] at hx
    | true =>
     rw [hb] at hx;simp only [xaN,z1,sUF] at hx;subst hx;exact ⟨rfl,rfl⟩
 . rw [q] at ha;rw [List.findSome?_eq_none_iff.2 fun k hk=>?_]
   . rfl
   . have:(!pv (F.getD k default).p)=false:=by
      cases hb:!pv (F.getD k default).p with
      | false=>rfl
      | true=>rw [List.any_eq_true.2 ⟨k,hk,hb⟩] at ha;simp at ha
     rw [this];rfl
theorem xil (F:List Fc) (D:List Ve) (c0 tm c2 c3 fs sc:Int) (hF:F.length<=1048576) (hD:D.length<=1048576) (hr:∀ f,f∈F->f.r.length<=1048576):Iter (xaU fs sc c0 tm c2 c3 (F.map encF) ((F.length:Nat):Int)) (D.length,(0:Int),D.map encW)=some (D.length+F.length,(D++opnV fs sc c0 tm F F.length).map encW):=by
 have hd:∀ k,((D++opnV fs sc c0 tm F k).map encW).length=D.length+k:=fun k=>by rw [z8,z7,xd6]
 have:=xgY (step:=xaU fs sc c0 tm c2 c3 (F.map encF) ((F.length:Nat):Int)) (fun k=>(D.length+k,((k:Nat):Int),(D++opnV fs sc c0 tm F k).map encW)) F.length (D.length+F.length,(D++opnV fs sc c0 tm F F.length).map encW) (fun k h=>by
  have h1:(k:Int)<(F.length:Int):=by omega
  obtain ⟨m1,m2⟩:=xrB (n:=D.length) (k:=k) hD (by omega)
  have hm:=xrD (hr (F.getD k default) (by rw [z6,zd h];exact zn h))
  have q:=hd k;have hs:(D++opnV fs sc c0 tm F (k+1)).map encW=(D++opnV fs sc c0 tm F k).map encW++[encW (opn1 fs sc c0 tm k (F.getD k default))]:=by rw [xky,<-zv,zw];rfl
  rw [hs];generalize (D++opnV fs sc c0 tm F k).map encW=E at q |-;simp only [xaU,xcp,xbj,sBU,h,h1,gF h,cF0,cF1,cF2,sF0,sF1,sF2,lF,sF12,sF02,hm.1,hm.2,zq,xrG,zb,q,m1,m2,xrj (n:=k) (by omega)]
  rfl) (by
  simp only [xaU,xcp,z8,zx,zl,xak,sUF]) F.length 0 (by omega)
 have e0:opnV fs sc c0 tm F 0=[]:=rfl;simp only [e0,zC,Nat.add_zero] at this;exact this
theorem xmC (x y:Int):xgT x y=decide (x<y):=by
 unfold xgT xbG;simp [xak,sUF]
theorem half {i j:Nat} (h:i+j<=4611686018427387904):IntKind.i64.wrap ((IntKind.u64.wrap (IntKind.i64.wrap ((i:Int)+(j:Int)))).fdiv 2)=(((i+j) / 2:Nat):Int):=by
 have e1:IntKind.i64.wrap ((i:Int)+(j:Int))=((i+j:Nat):Int):=by rw [xd7 (by omega) (by omega)];omega
 rw [e1];have e2:IntKind.u64.wrap ((i+j:Nat):Int)=((i+j:Nat):Int):=by
  unfold IntKind.wrap;simp [IntKind.bits,IntKind.signed];omega
 rw [e2];have e3:(((i+j:Nat):Int)).fdiv 2=(((i+j) / 2:Nat):Int):=by
  rw [Int.fdiv_eq_ediv_of_nonneg _ (by omega)];omega
 rw [e3,xd7 (by omega) (by omega)]
def asc (ids:List Int):Prop:=∀ k,k+1<ids.length->ids.getD k 0<ids.getD (k+1) 0
theorem xje {ids:List Int} (h:asc ids):∀ d i,i+d+1<ids.length->ids.getD i 0<ids.getD (i+d+1) 0
 | 0,i,hi=>h i hi
 | d+1,i,hi=>by
  have a:=xje h d i (by omega)
  have b:=h (i+d+1) (by omega)
  rw [show i+(d+1)+1=i+d+1+1 by omega];omega
theorem xld {ids:List Int} {x:Int}:ids.any (·==x)=true↔∃ k,k<ids.length/\ids.getD k 0=x:=by
 rw [List.any_eq_true];constructor
 . rintro ⟨y,hy,he⟩;obtain ⟨i,hi,rfl⟩:=List.getElem_of_mem hy;exact ⟨i,hi,by rw [z6,zd hi];simpa using he⟩
 . rintro ⟨k,hk,rfl⟩;refine ⟨ids.getD k 0,?_,by simp⟩
   rw [z6,zd hk];exact zn hk
theorem xpI (ids:List Int) (x:Int) (hn:ids.length<=1048576) (h:asc ids):∃ a:Nat,Iter (xag (ids.map encN) x ((ids.length:Nat):Int)) ((0:Int),((ids.length:Nat):Int))=some ((a:Nat):Int)/\a<=ids.length/\(∀ k,k<a->ids.getD k 0<x)/\∀ k,a<=k->k<ids.length->x<=ids.getD k 0:=by
 obtain ⟨r,h1,a,rfl,h2,h3,h4⟩:=xoY (step:=xag (ids.map encN) x ((ids.length:Nat):Int)) (fun s=>∃ a b:Nat,s=((a:Int),(b:Int))/\a<=b/\b<=ids.length/\(∀ k,k<a->ids.getD k 0<x)/\∀ k,b<=k->k<ids.length->x<=ids.getD k 0) (fun s=>(s.2 - s.1).toNat)
  (fun r=>∃ a:Nat,r=(a:Int)/\a<=ids.length/\(∀ k,k<a->ids.getD k 0<x)/\∀ k,a<=k->k<ids.length->x<=ids.getD k 0) (fun s hs=>by
   obtain ⟨a,b,rfl,U,hb,J,O⟩:=hs;by_cases V:a<b
   . left;have e:=half (i:=a) (j:=b) (by omega)
     have hm:(a+b) / 2<ids.length:=by omega
     have g1:(a:Int)<(b:Int):=by omega
     have g2:(((a+b) / 2:Nat):Int)<(ids.length:Int):=by omega
     have w:IntKind.i64.wrap ((((a+b) / 2:Nat):Int)+1)=(((a+b) / 2+1:Nat):Int):=xrj (by omega)
     cases hc:decide (ids.getD ((a+b) / 2) 0<x) with
     | true =>
      refine ⟨((((a+b) / 2+1:Nat):Int),(b:Int)),?_,⟨(a+b) / 2+1,b,rfl,by omega,hb,fun k hk=>?_,O⟩,by dsimp only;omega⟩
      . simp only [xag,xaS,xaf,e,sBU,g1,g2,hm,gN hm,cN,sN,xmC,hc,w]
      . have hc':=of_decide_eq_true hc;rcases zI k ((a+b) / 2) with q|q
        . have:=xje h ((a+b) / 2 - k - 1) k (by omega)
          rw [show k+((a+b) / 2 - k - 1)+1=(a+b) / 2 by omega] at this
          omega
        . rw [show k=(a+b) / 2 by omega];exact hc'
     | false =>
      refine ⟨((a:Int),(((a+b) / 2:Nat):Int)),?_,⟨a,(a+b) / 2,rfl,by omega,by omega,J,fun k hk Q=>?_⟩,by dsimp only;omega⟩
      . simp only [xag,xaS,xaf,e,sBU,g1,g2,hm,gN hm,cN,sN,xmC,hc,w]
      . have hc':=of_decide_eq_false hc;rcases zI ((a+b) / 2) k with q|q
        . have:=xje h (k - (a+b) / 2 - 1) ((a+b) / 2) (by omega)
          rw [show (a+b) / 2+(k - (a+b) / 2 - 1)+1=k by omega] at this
          omega
        . rw [show k=(a+b) / 2 by omega];omega
   . right;obtain rfl:a=b:=by omega
     refine ⟨(a:Int),?_,a,rfl,hb,J,O⟩;simp only [xag,xaS,zx,zl,xak,sUF]) ((0:Int),((ids.length:Nat):Int)) ⟨0,ids.length,rfl,by omega,by omega,fun k hk=>by omega,fun k hk Q=>by omega⟩
 exact ⟨a,h1,h2,h3,h4⟩
theorem xm2 (ids:List Int) (x:Int) (hn:ids.length<=1048576) (h:asc ids):∃ p,xa0 (ids.map encN) x=some (p,ids.any (·==x)):=by
 obtain ⟨a,h1,h2,h3,h4⟩:=xpI ids x hn h;refine ⟨(a:Int),?_⟩;have O:∀ y:Int,xdl y=false:=fun y=>by unfold xdl;simp
 unfold xa0 xcj;simp only [xb8,xb9,xaa,z8,h1,zj,zg,xaN,O,xak,sUF];rcases zI a ids.length with q|Q
 . have g1:(a:Int)<(ids.length:Int):=by omega
   simp only [sBU,g1,q,gN q,cN,sN];have:ids.any (·==x)=(ids.getD a 0==x):=by
    rw [Bool.eq_iff_iff,xld,beq_iff_eq];constructor
    . rintro ⟨k,hk,rfl⟩;rcases Nat.lt_trichotomy k a with J|rfl|J
      . have:=h3 k J;omega
      . rfl
      . have b:=h4 a (zb _) q;have:=xje h (k - a - 1) a (by omega)
        rw [show a+(k - a - 1)+1=k by omega] at this
        omega
    . exact fun e=>⟨a,q,e⟩
   rw [this];cases ids.getD a 0==x<;>rfl
 . have g1:¬ (a:Int)<(ids.length:Int):=by omega
   have:ids.any (·==x)=false:=by
    cases hc:ids.any (·==x) with
    | false=>rfl
    | true =>
     obtain ⟨k,hk,rfl⟩:=xld.1 hc;have:=h3 k (by omega);omega
   simp only [g1,zl,xak,this,sUF]
theorem xo4 (v:Ve):xaM v.id v.sc (v.r.map encV) v.va.1 v.va.2 v.sy.1 v.sy.2 v.b v.u=v.op:=xmG v
theorem xhA (ids:List Int) (FA:List AV) (fs sc c0 tm c2 c3:Int) (pf:Int->Int) (hb:∀ x,xa0 (ids.map encN) x=some (pf x,ids.any (·==x))) (l:List Ve) (hl:l.length<=1048576) (hr:∀ v,v∈l->v.r.length<=1048576):Iter (xbo (ids.map encN) FA fs sc c0 tm c2 c3 (l.map encW) ((l.length:Nat):Int)) ((0:Nat),(0:Int),[])=some ((l.flatMap (fun (f:Ve)=>[clo c0 tm (hit ids f) f])).length,(l.flatMap (fun (f:Ve)=>[clo c0 tm (hit ids f) f])).map encW):=by
 refine xlv l (fun (f:Ve)=>[clo c0 tm (hit ids f) f]) encW 1 (fun f hf=>?_) (fun n h D hD=>?_) (fun D=>?_)
 . cases q:(ids.any (·==(f).id))<;>cases J:((f).op)<;>simp [hit,clo,q,J]
 . have h1:(n:Int)<(l.length:Int):=by omega
   have m1:(D.length+1)*88<=140737488355328:=by omega
   have m2:D.length+1<=4611686018427387904:=by omega
   have gf:(l.map encW).getD n .top=encW l[n]:=xbf _ _ _ h;have hm:=xrD (hr _ (zn h));simp only [xbo,xco,xbZ,xdw,xdy,xau,sBU,h,h1,gf,cW0,cW1,cW2,cW3,cW4,cW5,cW6,cW7,cW8,lW,sW,sW0,sW2,sW34,sW56,hb,xo4,hm.1,hm.2,zT,zq,xrG,zb,m1,m2,xrj (n:=n) (by omega)]
   cases q:(ids.any (·==(l[n]).id))<;>cases J:((l[n]).op)<;>simp [encW,xaN,xak,encR,hit,clo,q,J,sUF]
 . simp only [xbo,xco,xbZ,xdw,xdy,xau,z8,zx,zl,xak,sUF]
def appV (l:List Ve) (ids:List Int) (F:List Fc) (c0 tm fs sc:Int):List Ve:=(l.map fun v=>clo c0 tm (hit ids v) v)++opnV fs sc c0 tm F F.length
theorem xmw {l:List Ve} {tm:Int} {ids:List Int} {k:Nat} {x:Int} (h:errA l tm ids k=some x):x≠0:=by
 have hF:∀ id,errF l tm id=some x->x≠0:=fun id h=>by
  unfold errF at h;split at h
  . simp at h;omega
  . rename_i v _;cases hc:decide (v.sy.1>=tm) with
    | true=>rw [hc] at h;simp [xaN,sUF] at h;omega
    | false=>rw [hc] at h;simp [xak,sUF] at h
 cases k with
 | zero=>exact hF _ h
 | succ k =>
  simp only [errA] at h;cases hc:decide (ids.getD (k+1) 0<=ids.getD k 0) with
  | true=>rw [hc] at h;simp [xaN,sUF] at h;omega
  | false=>rw [hc] at h;exact hF _ h
theorem xoR {l:List Ve} {tm:Int} {ids:List Int} (h:(List.range ids.length).findSome? (errA l tm ids)=none):asc ids:=fun k hk=>by
 have:=List.findSome?_eq_none_iff.1 h (k+1) (List.mem_range.2 hk);simp only [errA] at this;cases hc:decide (ids.getD (k+1) 0<=ids.getD k 0) with
 | true=>rw [hc] at this;simp [xaN,sUF] at this
 | false=>have:=of_decide_eq_false hc;omega
def ansV (l:List Ve) (ids:List Int) (F:List Fc) (c0 tm fs sc:Int):List AV×Int:=br (errV l ids F tm==0) ((appV l ids F c0 tm fs sc).map encW,0) ([],errV l ids F tm)
theorem xok (l:List Ve) (ids:List Int) (F:List Fc) (c0 tm c2 c3 fs sc:Int) (hl:l.length<=1048576) (hi:ids.length<=1048576) (hF:F.length<=1048576) (hr:∀ v,v∈l->v.r.length<=1048576) (O:∀ f,f∈F->f.r.length<=1048576) :
  xa7 (l.map encW) (ids.map encN) (F.map encF) c0 tm c2 c3 fs sc=some (ansV l ids F c0 tm fs sc):=by
 unfold xa7 xdV ansV;rw [xmx l ids F c0 tm c2 c3 hl hi hF];cases he:errV l ids F tm==0 with
 | false =>
  have:(errV l ids F tm != 0)=true:=by simp [bne,he]
  simp only [zj,zg,xaN,xak,this,sUF]
 | true =>
  have h0:errV l ids F tm=0:=by simpa using he
  have J:(List.range ids.length).findSome? (errA l tm ids)=none:=by
   cases hf:(List.range ids.length).findSome? (errA l tm ids) with
   | none=>rfl
   | some x =>
    obtain ⟨k,_,hk⟩:=List.exists_of_findSome?_eq_some hf;have hx:=xmw hk;unfold errV at h0;rw [hf] at h0;cases h1:decide (tm<0) with
    | true=>rw [h1] at h0;simp [xaN,sUF] at h0
    | false =>
     cases h2:decide (tm>=1099511627776) with
     | true=>rw [h1,h2] at h0;simp [xaN,xak,sUF] at h0
     | false=>rw [h1,h2] at h0;exact absurd h0 hx
  have q:=xoR J;have hb:∀ x,xa0 (ids.map encN) x=some (Classical.choose (xm2 ids x hi q),ids.any (·==x)):=fun x=>Classical.choose_spec (xm2 ids x hi q)
  have e0:=xhA ids (F.map encF) fs sc c0 tm c2 c3 (fun x=>Classical.choose (xm2 ids x hi q)) hb l hl hr
  rw [xrA] at e0;have e1:=xil F (l.map fun v=>clo c0 tm (hit ids v) v) c0 tm c2 c3 fs sc hF (by rw [z8];exact hl) O
  have e2:(errV l ids F tm != 0)=false:=by simp [h0]
  have tt:List.take ((l.map fun v=>clo c0 tm (hit ids v) v).length+F.length) ((appV l ids F c0 tm fs sc).map encW)=(appV l ids F c0 tm fs sc).map encW:=zh (by unfold appV;rw [z8,z7,xd6];exact zb _)
  have ll:((appV l ids F c0 tm fs sc).map encW).length=(l.map fun v=>clo c0 tm (hit ids v) v).length+F.length:=by unfold appV;rw [z8,z7,xd6]
  change Iter _ _=some ((l.map fun v=>clo c0 tm (hit ids v) v).length+F.length,(appV l ids F c0 tm fs sc).map encW) at e1
  simp only [xeO,xeP,xeQ,xeR,xeS,xeT,sUF];simp only [z8] at e0 e1 ll tt |-;simp only [e0,e1,e2,zj,zg,xaN,xak,zG,zq,tt,sUF];simp [ll,xaN,xak,sUF]
theorem xoo (l:List Ve) (ids:List Int) (F:List Fc) (c0 tm c2 c3 fs sc:Int) (hl:l.length<=1048576) (hi:ids.length<=1048576) (hF:F.length<=1048576) :
  xba (l.map encW) (ids.map encN) (F.map encF) c0 tm c2 c3 fs sc=some (ansV l ids F c0 tm fs sc):=by
 unfold xba xdX ansV;have e0:=xio l ids (F.map encF) c0 tm c2 c3 fs sc hl hi;have e1:=xip l ids (F.map encF) c0 tm c2 c3 fs sc hl hi;obtain ⟨r,e2,r1,r2⟩:=xir F (l.map fun v=>clo c0 tm (hit ids v) v) c0 tm c2 c3 fs sc hF (by rw [z8];exact hl)
 rw [z8] at e2;simp only [xeZ,xex,xe0,xe1,xe2,xe3,xe4,xe5,xe6,xe7,xeA,xeB,xeC,xeD,xeE,xeF,xeG,xeH,e0,sUF];unfold errV;cases decide (tm<0) with
 | true=>rfl
 | false =>
  cases decide (tm>=1099511627776) with
  | true=>rfl
  | false =>
   cases hf:(List.range ids.length).findSome? (errA l tm ids) with
   | some x =>
    obtain ⟨k,_,hk⟩:=List.exists_of_findSome?_eq_some hf;have hx:(x==0)=false:=by simpa using xmw hk
    simp only [xak,Option.map_some,zg,hx,sUF];rfl
   | none =>
    simp only [xak,Option.map_none,Option.getD_none,zj,zg,xaN,e1,e2,sUF];cases ha:F.any fun f=>!pv f.p with
    | true =>
     obtain ⟨g1,g2⟩:=r1 ha;simp only [g1,g2,xaN,sUF];rfl
    | false =>
     have hr:=r2 ha;subst hr;have tt:List.take (l.length+F.length) ((appV l ids F c0 tm fs sc).map encW)=(appV l ids F c0 tm fs sc).map encW:=zh (by unfold appV;rw [z8,z7,xd6,z8];exact zb _)
     unfold appV at tt |-;simp only [xak,z8,z7,xd6,zG,zq,zb,zm,Bool.true_and,xaN,tt,sUF];rfl
def xrl (v x:Ve):Bool:=v.op&&(x.op&&v.id==x.id)
def xrC (l:List Ve):Bool:=!((List.range l.length).any fun i=>(l.take i).any (xrl (l.getD i default)))
theorem xis (l:List Ve) (hl:l.length<=1048576) {i:Nat} (hi:i<l.length):Iter (xaB (l.map encW) ((i:Nat):Int)) (0:Int)=some (br ((l.take i).any (xrl (l.getD i default))) (true,false,()) (false,false,())):=by
 have q:(l.take i).length=i:=by rw [zr];omega
 have:=xcm (step:=xaB (l.map encW) ((i:Nat):Int)) (l.take i) (fun k=>((k:Nat):Int)) (fun x=>br (xrl (l.getD i default) x) (some (true,false,())) none) (false,false,()) (fun k h=>by
  rw [xoC h];rw [q] at h;have hk:k<l.length:=by omega
  have h1:(i:Int)<(l.length:Int):=by omega
  have h2:(k:Int)<(l.length:Int):=by omega
  have h3:(k:Int)<(i:Int):=by omega
  simp only [xaB,xcH,sBU,h,hi,hk,h1,h2,h3,gW hi,gW hk,cW0,cW1,cW2,cW3,cW4,cW5,cW6,cW7,cW8,lW,sW,sW0,sW2,sW34,sW56,xi8,xrl,xfN,xdb,xda,xnR,xrj (n:=k) (by omega)]) (by
  simp only [q,xaB,xcH,zx,zl,xak,sUF]) (l.take i).length 0 (by simp)
 rw [zq,xgU] at this;have e:((0:Nat):Int)=0:=rfl;rw [e] at this;rw [this];cases (l.take i).any (xrl (l.getD i default))<;>rfl
theorem xo3 (l:List Ve) (hl:l.length<=1048576):xfg (l.map encW)=some (xrC l):=by
 have:=xcm (step:=xaL (l.map encW)) (List.range l.length) (fun k=>((k:Nat):Int)) (fun i=>br ((l.take i).any (xrl (l.getD i default))) (some (true,false,())) none) (false,false,()) (fun k h=>by
  rw [List.getElem_range];rw [List.length_range] at h;have h1:(k:Int)<(l.length:Int):=by omega
  have e:=xis l hl h;simp only [xaL,xcG,sBU,h1,e,xrj (n:=k) (by omega)]
  cases (l.take k).any (xrl (l.getD k default))<;>rfl) (by
  simp only [List.length_range,xaL,xcG,z8,zx,zl,xak,sUF]) l.length 0 (by simp)
 rw [zq,xgU] at this;have e:((0:Nat):Int)=0:=rfl;rw [e] at this;unfold xfg xfv xrC;rw [this];cases (List.range l.length).any fun i=>(l.take i).any (xrl (l.getD i default))<;>rfl
theorem xn3 {n:Nat} {l:List Fc} (h:fewF n l=true):l.length<=n/\∀ f,f∈l->f.r.length<=60:=by
 simp only [fewF,ze,zk,zH] at h;exact h
theorem xpL (c0 tm:Int) (b:Bool) (v:Ve):(clo c0 tm b v).r=v.r:=by cases b<;>rfl
theorem xpA {l:List Ve} {ids:List Int} {F:List Fc} {c0 tm fs sc:Int} {B:Nat} (h1:∀ v,v∈l->v.r.length<=B) (h2:∀ f,f∈F->f.r.length<=B):∀ v,v∈appV l ids F c0 tm fs sc->v.r.length<=B:=fun v hv=>by
 unfold appV opnV at hv;rcases zF.1 hv with hv|hv
 . obtain ⟨x,hx,rfl⟩:=zJ.1 hv;rw [xpL];exact h1 x hx
 . obtain ⟨i,hi,rfl⟩:=zJ.1 hv;rw [List.mem_range] at hi;refine h2 _ ?_;rw [z6,zd hi];exact zn hi
theorem xma (l:List Ve) (ids:List Int) (F:List Fc) (tm tx fs sc:Int) (hl:l.length<=1048576) (hi:ids.length<=1048576) (hF:F.length<=1048576):xc5 (l.map encW) (ids.map encN) (F.map encF) tm tx fs sc=some true:=by
 unfold xc5 xcr xce;rw [xoS l (by omega)]
 cases hf:fewV l with
 | false=>rfl
 | true =>
  obtain ⟨h1,h2⟩:=xn4 hf;have q:=xmK F (by omega) 16
  rw [show ((16:Nat):Int)=(16:Int) from rfl] at q
  rw [q];cases hg:fewF 16 F with
  | false=>rfl
  | true =>
   obtain ⟨h3,h4⟩:=xn3 hg;rw [xo3 l hl];have hr:∀ v,v∈l->v.r.length<=1048576:=fun v hv=>by have:=h2 v hv;omega
   have J:∀ f,f∈F->f.r.length<=1048576:=fun v hv=>by have:=h4 v hv;omega
   have ea:=xok l ids F tx tm 0 0 fs sc hl hi hF hr J;have eb:=xoo l ids F tx tm 0 0 fs sc hl hi hF;have es:xb3 (ansV l ids F tx tm fs sc).1 (ansV l ids F tx tm fs sc).1=some true:=by
    unfold ansV;cases errV l ids F tm==0 with
    | false =>
     have:=xmM [] [] (by simp) (by simp)
     rwa [decide_eq_true rfl] at this
    | true =>
     have:=xmM (appV l ids F tx tm fs sc) (appV l ids F tx tm fs sc) (by unfold appV;rw [z7,xd6,z8];omega) fun v hv=>by
      have:=xpA h2 h4 v hv;unfold maxLen;omega
     rw [decide_eq_true rfl] at this;exact this
   simp only [ea,eb,es,zj,zg,xaN,Bool.not_true,xak,xpH,beq_self_eq_true,sUF]
end Go.Sim.M
end
noncomputable section
set_option maxRecDepth 10000
namespace Go.Sim
open Go.RowKit Go.Proofs Go.ChangeShapes Go.WideShapes Go.ChangeAt Go.Proofs.YtckgiglpmfpagaaGreatDoor
abbrev M.Chg:=List Int×List M.Fc×Int×Int×Int×Int
def M.Chg.wf (x:M.Chg):Prop:=∀ a,a∈x.2.1->M.Fc.wf a
section
variable {H : Type} {enc : TypeId × Value -> H} {w : World} {base b : Nat} {sp : Nat -> Bool} {held : Bool} {v : Value} {d : DataW H} {ps : List MemPlace}
theorem xmc (q:Value.okWide Tryz.prog w .any base 38 v) (hd:DataW.Trod enc Tryz.prog w b sp held 38 v d ps):∃ x:M.Chg,Rel w (fun _=>False) xr1 v (.agg [.list 1 (x.1.map M.encN),.list 3 (x.2.1.map M.encF),.int .i64 x.2.2.1,.int .i64 x.2.2.2.1,.int .i64 x.2.2.2.2.1,.int .i64 x.2.2.2.2.2])/\(∀ μ:DataW H->Nat,Meas μ->(AV.agg [.list 1 (x.1.map M.encN),.list 3 (x.2.1.map M.encF),.int .i64 x.2.2.1,.int .i64 x.2.2.2.1,.int .i64 x.2.2.2.2.1,.int .i64 x.2.2.2.2.2]).wt<=μ d)/\M.Chg.wf x:=by
 obtain ⟨cs,h,hl,hx,hB⟩:=xoh Tryz.underlying38 xl6 q hd;match cs,hl with
 | [k0,k1,k2,k3,k4,k5],_ =>
  have h0:=hx 0 (by decide)
  have h1:=hx 1 (by decide)
  have h2:=hx 2 (by decide)
  have h3:=hx 3 (by decide)
  have h4:=hx 4 (by decide)
  have h5:=hx 5 (by decide)
  change OfTy (.slice [.int .i64]) k0 at h0;change OfTy (.slice tyF) k1 at h1;change OfTy (.int .i64) k2 at h2;change OfTy (.int .i64) k3 at h3;change OfTy (.int .i64) k4 at h4;change OfTy (.int .i64) k5 at h5;obtain ⟨l0,rfl,_,w0⟩:=xgl (es:=[.int .i64]) xpg h0;obtain ⟨l1,rfl,_,w1⟩:=xgl (es:=tyF) xpf h1;cases h2 with
  | int _ n2 _=>cases h3 with
   | int _ n3 _=>cases h4 with
    | int _ n4 _=>cases h5 with
     | int _ n5 _=>exact ⟨(l0,l1,n2,n3,n4,n5),h,fun μ hμ=>hB μ hμ,w1⟩
end
theorem M.card_applies (l:List M.Ve) (x:M.Chg) (hw:∀ y,y∈l->y.wf) (hx:M.Chg.wf x) (hb:(AV.list 9 (l.map M.encW)).wt+(AV.agg [.list 1 (x.1.map M.encN),.list 3 (x.2.1.map M.encF),.int .i64 x.2.2.1,.int .i64 x.2.2.2.1,.int .i64 x.2.2.2.2.1,.int .i64 x.2.2.2.2.2]).wt<=1048576) :
  M.xc5 (l.map M.encW) (x.1.map M.encN) (x.2.1.map M.encF) x.2.2.1 x.2.2.2.1 x.2.2.2.2.1 x.2.2.2.2.2=some true:=by
 have e:(AV.agg [.list 1 (x.1.map M.encN),.list 3 (x.2.1.map M.encF),.int .i64 x.2.2.1,.int .i64 x.2.2.2.1,.int .i64 x.2.2.2.2.1,.int .i64 x.2.2.2.2.2]).wt=AV.wts (x.1.map M.encN)+1+(AV.wts (x.2.1.map M.encF)+1+(1+(1+(1+(1+0))))):=rfl;have e1:(AV.list 3 (x.2.1.map M.encF)).wt=AV.wts (x.2.1.map M.encF)+1:=rfl;have h1:=xih (xs:=x.1.map M.encN) fun y hy=>by
  obtain ⟨n,_,rfl⟩:=zJ.1 hy;exact zb _
 rw [z8] at h1;exact M.xma l x.1 x.2.1 _ _ _ _ (M.txv_wt (Nat.le_trans (Nat.le_add_right _ _) hb) hw).2 (by omega) (M.txf_wt (l:=x.2.1) (by omega) hx).2
end Go.Sim
end
noncomputable section
set_option maxRecDepth 10000
namespace Go.Proofs.YtckgiglpmfpagaaGreatDoor.deltaApplies
open Go.ChangeShapes Go.WideShapes Go.ChangeAt Go.RowKit Go.Sim
theorem contract (H:Type) (enc:TypeId×Value->H) (W:World) (base:Nat) (args:Array Value) (ds gs:List (DataW H)) (before:List MemPlace)
  (hval:∀ (j:Nat) t v,Tryz.f5.params[j]?=some t->args[j]?=some v->Value.okWide Tryz.prog W .any base t v)
  (hW:DataW.Whole enc Tryz.prog Tryz.f5.params.toList Rows.deltaAppliesSpec.vars false W args.toList ds gs before) (hL:laidMetH Tryz.prog Rows.deltaAppliesUptoRow.laid W) (hsh:W.ShapedOpen Tryz.prog) (hbulk:Rows.uptoBulkAll (ds++gs)<=1048576) :
  Calls Tryz.prog 5 args W fun e W'=>∃ v,e=.returned v/\Rows.deltaAppliesSpec.post enc Tryz.prog Tryz.f5 false true false false W args v W':=by
 have hW':=hW;obtain ⟨p,q,hA0,hV,rfl,hfz,hnd⟩:=hW;have hA:DataW.TrodAll enc Tryz.prog W 0 (fun _=>true) true Tryz.f5.params.toList args.toList ds p:=hA0
 have hAk:=hA;rw [Tryz.params5] at hA hval;obtain ⟨v0,vs0,d0,ds0,p0,q0,hargs,rfl,rfl,h0,r0⟩:=trodAll_cons hA;obtain ⟨v1,vs1,d1,ds1,p1,q1,rfl,rfl,rfl,h1,r1⟩:=trodAll_cons r0;obtain ⟨rfl,rfl,rfl⟩:=trodAll_nil r1;obtain rfl:args=#[v0,v1]:=by cases args;simp_all
 obtain ⟨rfl,rfl⟩:=trodVars_none hV;obtain ⟨a0,rr0,b0,w0⟩:=xoj (hval 0 22 v0 rfl rfl) h0;obtain ⟨a1,rr1,b1,w1⟩:=xmc (hval 1 38 v1 rfl rfl) h1;clear hA0;have hbulk:(.list 9 (a0.map M.encW):AV).wt+((.agg [.list 1 (a1.1.map M.encN),.list 3 (a1.2.1.map M.encF),.int .i64 a1.2.2.1,.int .i64 a1.2.2.2.1,.int .i64 a1.2.2.2.2.1,.int .i64 a1.2.2.2.2.2]):AV).wt<=1048576:=by
  rw [List.append_nil,xfa] at hbulk;simp only [List.map_cons,List.map_nil,List.sum_cons,List.sum_nil] at hbulk;have:=b0 _ xkt;have:=b1 _ xkt;omega
 have hI:xsv W:=xqB rfl (by kernel_rfl) hL hsh
 have hpl:=M.card_applies a0 a1 w0 w1 hbulk;have hg:Sim.Good Tryz.prog xsv 5 [.list 9 (a0.map M.encW),(.agg [.list 1 (a1.1.map M.encN),.list 3 (a1.2.1.map M.encF),.int .i64 a1.2.2.1,.int .i64 a1.2.2.2.1,.int .i64 a1.2.2.2.2.1,.int .i64 a1.2.2.2.2.2])] (.bool true):=M.xgZ _ _ (congrArg (fun x:Option Bool=>some (x.isSome,AV.bool (x.getD false))) hpl)
 have hrc:RC W (fun _=>False) xr1 [v0,v1] [.list 9 (a0.map M.encW),(.agg [.list 1 (a1.1.map M.encN),.list 3 (a1.2.1.map M.encF),.int .i64 a1.2.2.1,.int .i64 a1.2.2.2.1,.int .i64 a1.2.2.2.2.1,.int .i64 a1.2.2.2.2.2])]:=by
  refine ⟨rfl,fun i hi=>?_⟩
  match i,hi with
  | 0,_=>exact rr0
  | 1,_=>exact rr1
 refine (hg.2 W (fun _=>False) _ hI (fun _ h=>h.elim) hrc).mono fun e W' ⟨v,he,hb,hr⟩=>?_
 subst he;obtain rfl:=hr.bool_inv;exact ⟨_,rfl,xol rfl hW' ⟨rfl,rfl,rfl⟩ rfl Tryz.underlying4 (by simpa using xhc xrE hb (by kernel_rfl) hAk) hb⟩
noncomputable def wit:Array Value:=#[.slice none 0 0,.agg #[.slice none 0 0,.slice none 0 0,.int .i64 0,.int .i64 0,.int .i64 0,.int .i64 0]]
theorem laid_met (os:Os):laidMet Tryz.prog Rows.deltaAppliesUptoRow.laid ((xrp Tryz.prog Rows.deltaAppliesUptoRow.laid os).forCall (fun _ _=>0) ⟨#[],wit,[]⟩).memory :=
 laidMet_of_run3 8 (by kernel_rfl) (by kernel_rfl) (by kernel_rfl)
theorem reads (os:Os) {H:Type} (enc:TypeId×Value->H):∃ places,DataW.whole enc Tryz.prog ((xrp Tryz.prog Rows.deltaAppliesUptoRow.laid os).forCall (fun _ _=>0) ⟨#[],wit,[]⟩).memory Tryz.f5.params.toList Rows.deltaAppliesSpec.vars false wit.toList 8=some ([.nil,.agg [.nil,.nil,.lit (.int .i64 0),.lit (.int .i64 0),.lit (.int .i64 0),.lit (.int .i64 0)]],[],places) :=
 ⟨[],by kernel_rfl⟩
set_option maxRecDepth 100000 in
theorem lifted (os:Os) (started:os.Started) (H:Type) (enc:TypeId×Value->H) (F:Stop.Interp) :
  ReturnsInHanded {} Tryz.checked os 5 .any ((Rows.OpenSpec.upto Rows.deltaAppliesSpec).preRow enc Tryz.prog Tryz.f5 Rows.deltaAppliesUptoRow.domain false Rows.deltaAppliesUptoRow.laid) (((Rows.OpenSpec.upto Rows.deltaAppliesSpec).at F).post enc Tryz.prog Tryz.f5 false true false false):=by
 obtain ⟨places,hx⟩:=reads os enc;refine returnsInHanded_of_row (C:=Tryz.checked) (s:=Rows.OpenSpec.upto Rows.deltaAppliesSpec) xrJ started (by kernel_rfl) Tryz.func5
  (witness_row_at (enc:=enc) (C:=Tryz.checked) false (xrp Tryz.prog Rows.deltaAppliesUptoRow.laid os) wit rfl (by kernel_rfl) (by kernel_rfl) (by kernel_rfl)
   (OpenSpec.preRow_of_cond 8 hx (by kernel_rfl) (fun k hk=>by cases hk;kernel_rfl) (by kernel_rfl) (laid_met os))) ?_
 intro W base args ds gs before hval hW _ hcond _ hL hsh _;exact contract H enc W base args ds gs before hval hW hL hsh (of_decide_eq_true (hcond _ rfl))
theorem said:Rows.DeltaAppliesUptoSaid :=
 OpenClaim.holds_of_cond 5 Tryz.f5 rfl rfl rfl rfl rfl rfl rfl ⟨rfl,rfl,rfl,rfl,rfl⟩ rfl rfl rfl rfl rfl (by kernel_rfl) Tryz.func5 (by kernel_rfl)
  (of_decide_eq_true (by kernel_rfl)) (by unfold Func.isWrapper;first|(rw [if_pos (by decide +kernel)];kernel_rfl)|(rw [if_neg (by decide +kernel)];exact ⟨rfl,rfl⟩))
  (fun os started H enc _ F=>by rw [OpenClaim.pre_eq_preRow];exact lifted os started H enc F)
theorem plain (f:FuncId) (fn:Func) (hf:Tryz.pinned.checked.prog.funcNamed "bitemporal/bitemporallaw32.DeltaApplies" = some f) (hfn:Tryz.pinned.checked.prog.funcs[f]?=some fn) :
  false=Tryz.pinned.checked.prog.looks []/\∀ (j:Nat) t,fn.params[j]?=some t->Tryz.pinned.checked.prog.wantsStandIn t=false:=by
 obtain rfl:f=5:=Option.some.inj ((show Tryz.prog.funcNamed "bitemporal/bitemporallaw32.DeltaApplies" = some 5 by kernel_rfl).symm.trans hf) |>.symm
 obtain rfl:fn=Tryz.f5:=(Option.some.inj (Tryz.func5.symm.trans hfn)).symm;refine ⟨by kernel_rfl,fun j t ht=>?_⟩
 rw [Tryz.params5] at ht;have hm:=Array.mem_of_getElem? ht;have:([22,38]:List Nat).all (fun t=>!(Tryz.prog.wantsStandIn t))=true:=by kernel_rfl
 have:=List.all_eq_true.1 this t (by simpa using hm)
 show Tryz.prog.wantsStandIn t=false;simpa using this
theorem card:Rows.DeltaAppliesUptoCardSaid :=
 Claim7.holds_tied_plain_at .later [] _ _ _ _ said (fun _ h=>by cases h) (by kernel_rfl) (fun _ h=>by cases h) deltaAppliesUpto_row_tie rfl ⟨rfl,rfl⟩ (by kernel_rfl) rfl plain (by kernel_rfl)
end Go.Proofs.YtckgiglpmfpagaaGreatDoor.deltaApplies
end
