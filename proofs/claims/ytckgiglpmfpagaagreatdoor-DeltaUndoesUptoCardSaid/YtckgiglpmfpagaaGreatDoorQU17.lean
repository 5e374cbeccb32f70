/- Part 17 of the proof of the law. -/
import Derived.Test.YtckgiglpmfpagaaGreatDoorQU16
import Derived.Lib.ItoaLen
set_option linter.unusedVariables false
set_option linter.unusedSimpArgs false
noncomputable section
set_option maxRecDepth 100000
namespace Go.Sim.M
open Go.RowKit Go.Sim.Srt
def keyV (v:Val):List UInt8:=Lib.itoa v.k++32::(Lib.itoa v.i++32::(Lib.itoa (v.t.length:Int)++32::v.t))
def keyOf (r:Row):List UInt8:=r.flatMap keyV
theorem xm2 (v:Val) (s:List UInt8):keyV v++s=Lib.itoa v.k++32::(Lib.itoa v.i++32::(Lib.itoa (v.t.length:Int)++32::(v.t++s))):=by simp [keyV]
theorem xln (v:Val) (r:Row):keyOf (v::r)=keyV v++keyOf r:=by simp [keyOf]
theorem xnY (v:Val) (s:List UInt8):keyV v++s≠[]:=by rw [xm2];simp
theorem xps {n:Int} (h:(Lit.int .i64 n).wf=true):-9223372036854775808<=n/\n<=9223372036854775807:=by
 have h:(decide ((IntKind.i64).min<=n)&&decide (n<=(IntKind.i64).max))=true:=h;rw [zf,zl,zl] at h;exact h
theorem xm3 {v:Val} (hw:v.wf) (ht:v.t.length<=1099511627776):(keyV v).length<=66+v.t.length:=by
 obtain ⟨w1,w2,_⟩:=hw;have a1:=Lib.itoa_length_le v.k (xps w1).1 (xps w1).2;have a2:=Lib.itoa_length_le v.i (xps w2).1 (xps w2).2;have a3:=Lib.itoa_length_le (v.t.length:Int) (by omega) (by omega)
 simp only [keyV,z8,zF];omega
theorem xiH (s B:List UInt8) (h:(B++s).length<=140737488355328):xai s B.length (byteAVs B)=some ((s.length:Int),(B++s).length,byteAVs (B++s)):=by
 rw [z8] at h;have h2:B.length+s.length<=4611686018427387904:=by omega
 unfold xai xbr;simp only [xcE,beq_self_eq_true,Nat.mul_one,h,h2,zn,Bool.and_self,xbY,xfg,z8,sUF]
theorem xkb (B:List UInt8) (h:(B++[32]).length<=140737488355328):xa6 32 B.length (byteAVs B)=some ((B++[32]).length,byteAVs (B++[32])):=by
 rw [z8,zj] at h;have h2:B.length+1<=4611686018427387904:=by omega
 unfold xa6 xbF;simp only [xcE,beq_self_eq_true,Nat.mul_one,h,h2,zn,Bool.and_self,xbY,xfg,z8,zj,sUF];rfl
def numI (n:Int):List UInt8:=Lib.itoa n++[32]
theorem xlo (t8:List AV) (t9 q:Int) (xs:List AV) (hx:xs.length=3) (j:Nat) (hj:j<3) (n:Int) (hn:xs.getD j .top=.int .i64 n) (h1:-9223372036854775808<=n) (h2:n<=9223372036854775807) (v0 v1:Int) (v2 B:List UInt8) (hB:B.length<=70368744177664) :
  xar t8 t9 q 3 3 ((j:Int),B.length,v0,v1,v2,xs,byteAVs B)=some (.inl (((j+1:Nat):Int),(B++numI n).length,v0,v1,v2,xs,byteAVs (B++numI n))):=by
 have hl:=Lib.itoa_length_le n h1 h2;have i1:(j:Int)<3:=by omega
 have i2:(j:Int)<((3:Nat):Int):=by omega
 have i3:j<xs.length:=by omega
 have e1:=xiH (Lib.itoa n) B (by rw [z8];omega)
 have e2:=xkb (B++Lib.itoa n) (by rw [z8,z8,zj];omega)
 have hc:((AV.int IntKind.i64 n).cells.getD 0 .top).toInt=n:=rfl;have hs:xpS (Sh.int IntKind.i64) ((AV.int IntKind.i64 n).cells.getD 0 .top)=true:=rfl;simp only [xar,xcM,xco,xcp,xcq,xa9,sBU,i1,i2,i3,hn,hc,hs,h1,h2,e1,e2,xpo (n:=j) (by omega),numI,zw]
theorem xnZ (t8:List AV) (t9 q:Int) (xs:List AV) (v0 v1:Int) (v2 B:List UInt8):xar t8 t9 q 3 3 (((3:Nat):Int),B.length,v0,v1,v2,xs,byteAVs B)=some (.inr (B.length,v0,v1,v2,byteAVs B)):=by
 have i1:¬ ((3:Nat):Int)<3:=by omega
 simp only [xar,xcM,i1,zm,xa7,sUF]
theorem xhv (v:Val):keyV v=numI v.k++(numI v.i++(numI (v.t.length:Int)++v.t)):=by simp [keyV,numI]
def KOk (v:Val):Prop:=v.wf/\v.t.length<=1099511627776
theorem KOk.len {v:Val} (h:KOk v):(keyV v).length<=1099511627842:=by have:=xm3 h.1 h.2;have:=h.2;omega
theorem xkQ (t8:List AV) (t9 q:Int) (v:Val) (h:KOk v) (B:List UInt8) (hB:B.length<=35184372088832) :
  Iter (xar t8 t9 q 3 3) ((1:Int),(B++numI v.k).length,v.k,v.i,v.t,[AV.int .i64 v.k,AV.int .i64 v.i,AV.int .i64 (v.t.length:Int)],byteAVs (B++numI v.k))=some ((B++numI v.k++numI v.i++numI (v.t.length:Int)).length,v.k,v.i,v.t,byteAVs (B++numI v.k++numI v.i++numI (v.t.length:Int))):=by
 have hl:=h.len;have ht:=h.2;rw [xhv,z8,z8,z8] at hl;have e1:=xlo t8 t9 q [AV.int .i64 v.k,AV.int .i64 v.i,AV.int .i64 (v.t.length:Int)] rfl 1 (by omega) v.i rfl (xps h.1.2.1).1 (xps h.1.2.1).2 v.k v.i v.t (B++numI v.k) (by rw [z8];omega)
 have e2:=xlo t8 t9 q [AV.int .i64 v.k,AV.int .i64 v.i,AV.int .i64 (v.t.length:Int)] rfl 2 (by omega) (v.t.length:Int) rfl (by omega) (by omega) v.k v.i v.t (B++numI v.k++numI v.i) (by rw [z8,z8];omega)
 exact (xby e1).trans ((xby e2).trans (xbe (xnZ ..)))
theorem xoP (t8:List AV) (t9 q:Int) (v:Val) (h:KOk v) (B:List UInt8) (hB:B.length<=35184372088832) :
  Iter (xar t8 t9 q 3 3) ((0:Int),B.length,v.k,v.i,v.t,[AV.int .i64 v.k,AV.int .i64 v.i,AV.int .i64 (v.t.length:Int)],byteAVs B)=some ((B++numI v.k++numI v.i++numI (v.t.length:Int)).length,v.k,v.i,v.t,byteAVs (B++numI v.k++numI v.i++numI (v.t.length:Int))):=by
 have e0:=xlo t8 t9 q [AV.int .i64 v.k,AV.int .i64 v.i,AV.int .i64 (v.t.length:Int)] rfl 0 (by omega) v.k rfl (xps h.1.1).1 (xps h.1.1).2 v.k v.i v.t B (by omega)
 exact (xby e0).trans (xkQ t8 t9 q v h B hB)
theorem xml (r:Row) (hr:r.length<=1048576) (h:∀ v,v∈r->KOk v) (hk:(keyOf r).length<=17592186044416):∀ d k:Nat,k+d=r.length->Iter (xaY (r.map encV) ((r.length:Nat):Int)) ((k:Int),(keyOf (r.take k)).length,byteAVs (keyOf (r.take k)))=some ((keyOf r).length,byteAVs (keyOf r))
 | 0,k,hkk=>by
  obtain rfl:k=r.length:=by omega
  rw [y4];refine xbe ?_;simp only [xaY,xcL,zy,zm,xa7,sUF]
 | d+1,k,hkk=>by
  have q:k<r.length:=by omega
  have hv:=h r[k] (zo q);have i1:(k:Int)<(r.length:Int):=by omega
  have gf:(r.map encV).getD k .top=encV r[k]:=xbd _ _ _ q;have tk:keyOf (r.take (k+1))=keyOf (r.take k)++keyV r[k]:=by
   unfold keyOf;rw [List.take_add_one,ze q,List.flatMap_append];simp
  have le:(keyOf (r.take (k+1))).length<=(keyOf r).length:=by
   conv=>rhs;rw [<-List.take_append_drop (k+1) r]
   unfold keyOf;rw [List.flatMap_append,z8];omega
  have hl:=hv.len;rw [tk,z8] at le;have e1:=xoP (r.map encV) (r.length:Int) (k:Int) r[k] hv (keyOf (r.take k)) (by omega)
  have kn:keyOf (r.take k)++keyV r[k]=keyOf (r.take k)++numI r[k].k++numI r[k].i++numI (r[k].t.length:Int)++r[k].t:=by rw [xhv];simp only [zw]
  have e2:=xiH r[k].t (keyOf (r.take k)++numI r[k].k++numI r[k].i++numI (r[k].t.length:Int)) (by rw [<-kn,z8];omega)
  rw [xby (s':=(((k+1:Nat):Int),(keyOf (r.take (k+1))).length,byteAVs (keyOf (r.take (k+1))))) ?_]
  . exact xml r hr h hk d (k+1) (by omega)
  . rw [tk,kn];simp only [xaY,xcL,xcj,xck,xcl,xcm,xcn,sBU,q,i1,gf,cV0,cV1,cV2,lV,sV,e1,e2,xpo (n:=k) (by omega)]
theorem xoQ (r:Row) (hr:r.length<=1048576) (h:∀ v,v∈r->KOk v) (hk:(keyOf r).length<=17592186044416):xet (r.map encV)=some (keyOf r):=by
 match r with
 | []=>rfl
 | v::t =>
  have hv:=h v (by simp)
  have hl:=hv.len;have i1:(0:Int)<((t.length+1:Nat):Int):=by omega
  have i2:0<t.length+1:=by omega
  obtain ⟨r1,r2⟩:=xps hv.1.1;have q:=Lib.itoa_length_le v.k r1 r2;have gf:((v::t).map encV).getD 0 .top=encV v:=rfl;have e0:xat (Lib.itoa v.k)=some (((Lib.itoa v.k).length:Int),(Lib.itoa v.k).length,byteAVs (Lib.itoa v.k)):=by
   have m1:(Lib.itoa v.k).length<=140737488355328:=by omega
   have m2:(Lib.itoa v.k).length<=4611686018427387904:=by omega
   unfold xat xbs;simp only [xcE,Nat.mul_one,m1,m2,zn,Bool.and_self,xbY,sUF]
  have e1:xbW 32 (Lib.itoa v.k).length (byteAVs (Lib.itoa v.k))=some (([]++numI v.k).length,byteAVs ([]++numI v.k)):=xkb (Lib.itoa v.k) (by rw [z8,zj];omega)
  have e2:=xkQ ((v::t).map encV) ((t.length+1:Nat):Int) 0 v hv [] (by simp)
  have kn:keyV v=[]++numI v.k++numI v.i++numI (v.t.length:Int)++v.t:=by rw [xhv];simp
  have e3:=xiH v.t ([]++numI v.k++numI v.i++numI (v.t.length:Int)) (by rw [<-kn];omega)
  rw [<-kn] at e3;have e4:=xml (v::t) hr h hk t.length 1 (by rw [zF];omega)
  have tk:keyOf ((v::t).take 1)=keyV v:=by simp [keyOf]
  rw [tk,zF] at e4;have e4:Iter (xaY ((v::t).map encV) ((t.length+1:Nat):Int)) ((1:Int),(keyV v).length,byteAVs (keyV v))=_:=e4;have hne:(keyOf (v::t)).length≠0:=fun e=>xnY v (keyOf t) (by rw [<-xln];exact List.length_eq_zero_iff.1 e)
  unfold xet xfh xbw xdb xdc xdd xde xdf xdg xdh xdi xdj xaE;simp only [za,zF,i1,i2,gf,cV0,cV1,cV2,lV,sV,r1,r2,e0,e1,e2,e3,e4,zn,xbY,Bool.and_self,beq_self_eq_true,zk,zh,xcE,xhY,xjs,ne_eq,hne,not_false_eq_true,sUF]
abbrev Grp:=Row×List Per
def encG (g:Grp):AV:=.agg [.list 3 (g.1.map encV),.list 2 (g.2.map encP)]
def xpO (x y:AV):Bool:=(xfi (x.cells.getD 0 AV.top).toList (x.cells.getD 1 AV.top).toList (y.cells.getD 0 AV.top).toList (y.cells.getD 1 AV.top).toList).isSome
def xpP (x y:AV):Int:=(xfi (x.cells.getD 0 AV.top).toList (x.cells.getD 1 AV.top).toList (y.cells.getD 0 AV.top).toList (y.cells.getD 1 AV.top).toList).getD 0
section
variable {N : Nat} (hN : N <= 2 ^ 60) {ok : Grp -> Prop} {c : Grp -> Grp -> Int} (hc : ∀ x y, ok x -> ok y -> xpO (encG x) (encG y) = true /\ xpP (encG x) (encG y) = c x y)
include hN
include hc
end
end Go.Sim.M
end
noncomputable section
set_option maxRecDepth 100000
namespace Go.Sim.M
open Go.RowKit Go.Sim.Srt
structure GI (l:List Fc) (G:List Grp):Prop where
 nd:(G.map (·.1)).Nodup
 mem:∀ r,r∈G.map (·.1)↔∃ f,f∈l/\f.r=r/\pv f.p=true
 ps:∀ g,g∈G->g.2=psOf l g.1
 len:G.length<=l.length
theorem GI.nil:GI [] []:=⟨List.nodup_nil,fun r=>by simp,fun g hg=>by simp at hg,zd _⟩
theorem xn7 (l:List Fc) (f:Fc) (r:Row):psOf (l++[f]) r=psOf l r++(if f.r=r/\pv f.p=true then [f.p] else []):=by
 unfold psOf;rw [List.filter_append,zx];congr 1;by_cases h1:f.r=r<;>by_cases h2:pv f.p=true<;>simp [h1,h2]
theorem GI.skip {l:List Fc} {G:List Grp} (h:GI l G) {f:Fc} (hf:pv f.p=false):GI (l++[f]) G :=
 ⟨h.nd,fun r=>by
  rw [h.mem];refine ⟨fun ⟨g,hg,e⟩=>⟨g,by simp [hg],e⟩,fun ⟨g,hg,e1,e2⟩=>⟨g,?_,e1,e2⟩⟩
  rcases zG.1 hg with hg|hg
  . exact hg
  . rw [zv] at hg;subst hg;rw [hf] at e2;simp at e2,fun g hg=>by rw [xn7,if_neg (by rw [hf];simp),zD];exact h.ps g hg,by rw [z8];have:=h.len;omega⟩
def Keyed (l:List Fc):Prop:=Few l/\∀ f,f∈l->(∀ v,v∈f.r->KOk v)/\(keyOf f.r).length<=17592186044416
theorem Keyed.key {l:List Fc} (h:Keyed l) {f:Fc} (hf:f∈l):xet (f.r.map encV)=some (keyOf f.r):=xoQ f.r (h.1.2 f hf) (h.2 f hf).1 (h.2 f hf).2
end Go.Sim.M
end
noncomputable section
set_option maxRecDepth 100000
namespace Go.Sim.M
open Go.RowKit Go.Sim.Srt Go.Sort
def mk (r:Row) (P:List Per):List Fc:=P.map fun p=>⟨r,p⟩
end Go.Sim.M
end
noncomputable section
set_option maxRecDepth 100000
namespace Go.Sim.M
open Go.RowKit Go.Sim.Srt
theorem xpw.all {l B:List Fc} (h:xpw l B) {Q:Row->Prop} (hq:∀ f,f∈l->Q f.r):∀ f,f∈B->Q f.r:=fun f hf=>by
 obtain ⟨_,g,hg,e⟩:=h.valid hf;rw [<-e];exact hq g hg
theorem xpA.all {l B:List Fc} (h:xpA l B) {Q:Row->Prop} (hq:∀ f,f∈l->Q f.r):∀ f,f∈B->Q f.r:=fun f hf=>by
 obtain ⟨R,L,h1,h2,rfl⟩:=h;obtain ⟨a,b⟩:=xiP hf;obtain ⟨g,g1,g2,_⟩:=(h1.2 _).1 a;rw [<-g2];exact hq g g1
theorem xpA.len {l B:List Fc} (h:xpA l B):B.length<=l.length*l.length:=by
 obtain ⟨R,L,h1,h2,rfl⟩:=h;refine xgq (h1.1.nodup xoC) fun r hr=>?_
 obtain ⟨a,b⟩:=h2 r hr;have:=xkR (ps:=psOf l r) (k:=0) a fun t=>by rw [b,xmv]
 exact Nat.le_trans this (Nat.le_mul_self _)
def dk (S:List Row):Nat->List Row
 | 0=>[]
 | k+1=>dk S k++(if k=0\/S[k - 1]?≠S[k]? then S[k]?.toList else [])
structure RGI (S:List Fc) (i:Nat) (G:List Grp):Prop where
 st:Strict cmpR (G.map (·.1))
 mem:∀ r,r∈G.map (·.1)↔∃ f,f∈S.take i/\f.r=r/\pv f.p=true
 ps:∀ g,g∈G->StepI (fun t=>((cnt S g.1 t:Nat):Int)) 1099511627776 g.2/\g.2.length<=2*S.length+1
 len:G.length<=i
 bd:∀ a b (ha:a<S.length) (hb:b<S.length),a<i->i<=b->cmpR S[a].r S[b].r<0
theorem xni (p q:Bool):(some (p&&q):Option Bool)=br p (some q) (some false):=by cases p<;>rfl
theorem xpe (v w:Ve):decide (v=w)=(v.id==w.id&&(v.sc==w.sc&&((v.va.1==w.va.1&&(v.va.2==w.va.2&&true))&&((v.sy.1==w.sy.1&&(v.sy.2==w.sy.2&&true))&&(v.b==w.b&&(v.u==w.u&&decide (v.r=w.r))))))):=by
 obtain ⟨a,b,c,⟨d,e⟩,⟨f,g⟩,h,i⟩:=v;obtain ⟨a',b',c',⟨d',e'⟩,⟨f',g'⟩,h',i'⟩:=w;rw [Bool.eq_iff_iff];simp only [zl,Ve.mk.injEq,zb,zf,beq_iff_eq,and_true];constructor
 . rintro ⟨h1,h2,h3,⟨h4,h5⟩,⟨h6,h7⟩,h8,h9⟩;exact ⟨h1,h2,⟨h4,h5⟩,⟨h6,h7⟩,h8,h9,h3⟩
 . rintro ⟨h1,h2,⟨h4,h5⟩,⟨h6,h7⟩,h8,h9,h3⟩;exact ⟨h1,h2,h3,⟨h4,h5⟩,⟨h6,h7⟩,h8,h9⟩
theorem xne (v w:Ve) (h:v.r.length<=maxLen):xcR v.id v.sc (v.r.map encV) v.va.1 v.va.2 v.sy.1 v.sy.2 v.b v.u w.id w.sc (w.r.map encV) w.va.1 w.va.2 w.sy.1 w.sy.2 w.b w.u=some (decide (v=w)):=by
 have hm:=xkY v.r w.r h;rw [xpe];simp only [xcR,xcf,hm,zk,zh,xbY,xni,cmp0,sUF]
theorem xd8 (a b:List Ve) (hl:a.length=b.length) (ha:a.length<=1048576) (hr:∀ f,f∈a->f.r.length<=maxLen):Iter (xaj (a.map encW) (b.map encW)) (0:Int)=some (if a=b then (false,false,()) else (true,false,())):=by
 refine xnX a b hl (fun n h h2=>?_) ?_
 . have h1:(n:Int)<(a.length:Int):=by omega
   have h3:(n:Int)<(b.length:Int):=by omega
   have gf:(a.map encW).getD n .top=encW a[n]:=xbd _ _ _ h;have gg:(b.map encW).getD n .top=encW b[n]:=xbd _ _ _ h2;have hm:=xne a[n] b[n] (hr _ (zo h));simp only [xaj,xa3,xax,sBU,h,h1,h2,h3,gf,gg,cW0,cW1,cW2,cW3,cW4,cW5,cW6,cW7,cW8,lW,sW,sW0,sW2,sW34,sW56,hm,xpo (n:=n) (by omega)]
   by_cases he:a[n]=b[n]<;>simp [he,xbY,xa7,xcD,sUF]
 . simp only [xaj,xa3,xax,za,zy,zm,xa7,sUF]
theorem xoc (a b:List Ve) (ha:a.length<=1048576) (hr:∀ v,v∈a->v.r.length<=maxLen):xbC (a.map encW) (b.map encW)=some (decide (a=b)):=by
 unfold xbC xb8;by_cases h:a.length=b.length
 . have e:=xd8 a b h ha hr;simp only [za] at e |-;rw [e];have n1:(((a.length:Nat):Int) != ((b.length:Nat):Int))=false:=by simp [h]
   rw [n1];by_cases q:a=b<;>simp [q,xbY,xa7,sUF]
 . have n1:(((a.length:Nat):Int) != ((b.length:Nat):Int))=true:=by simpa [bne_iff_ne] using fun e:(a.length:Int)=b.length=>h (by omega)
   have n2:a≠b:=fun e=>h (by rw [e])
   simp [n1,n2,xbY,sUF]
def xpE (l:List Ve):Bool:=!((List.range l.length).any fun i=>(l.take i).any fun x=>(l.getD i default).id==x.id)
theorem xgz (l:List Ve) (hl:l.length<=1048576) {i:Nat} (hi:i<l.length):Iter (xas (l.map encW) ((i:Nat):Int)) (0:Int)=some (br ((l.take i).any fun x=>(l.getD i default).id==x.id) (true,false,()) (false,false,())):=by
 have q:(l.take i).length=i:=by rw [zt];omega
 have:=xc5 (step:=xas (l.map encW) ((i:Nat):Int)) (l.take i) (fun k=>((k:Nat):Int)) (fun x=>br ((l.getD i default).id==x.id) (some (true,false,())) none) (false,false,()) (fun k h=>by
  rw [xjh h];rw [q] at h;have hk:k<l.length:=by omega
  have h1:(i:Int)<(l.length:Int):=by omega
  have h2:(k:Int)<(l.length:Int):=by omega
  have h3:(k:Int)<(i:Int):=by omega
  simp only [xas,xbQ,sBU,h,hi,hk,h1,h2,h3,gW hi,gW hk,cW0,cW1,cW2,cW3,cW4,cW5,cW6,cW7,cW8,lW,sW,sW0,sW2,sW34,sW56,xgR,xdW,xdV,xpo (n:=k) (by omega)]) (by
  simp only [q,xas,xbQ,zy,zm,xa7,sUF]) (l.take i).length 0 (by simp)
 rw [zr,xey] at this;have e:((0:Nat):Int)=0:=rfl;rw [e] at this;rw [this];cases (l.take i).any fun x=>(l.getD i default).id==x.id<;>rfl
theorem xmK (l:List Ve) (hl:l.length<=1048576):xdt (l.map encW)=some (xpE l):=by
 have:=xc5 (step:=xaB (l.map encW)) (List.range l.length) (fun k=>((k:Nat):Int)) (fun i=>br ((l.take i).any fun x=>(l.getD i default).id==x.id) (some (true,false,())) none) (false,false,()) (fun k h=>by
  rw [List.getElem_range];rw [List.length_range] at h;have h1:(k:Int)<(l.length:Int):=by omega
  have e:=xgz l hl h;simp only [xaB,xbP,sBU,h1,e,xpo (n:=k) (by omega)]
  cases (l.take k).any fun x=>(l.getD k default).id==x.id<;>rfl) (by
  simp only [List.length_range,xaB,xbP,za,zy,zm,xa7,sUF]) l.length 0 (by simp)
 rw [zr,xey] at this;have e:((0:Nat):Int)=0:=rfl;rw [e] at this;unfold xdt xdG xpE;rw [this];cases (List.range l.length).any fun i=>(l.take i).any fun x=>(l.getD i default).id==x.id<;>rfl
theorem xnl (tx:Int) (v:Ve):∀ w,w∈xpn tx v->w.r=v.r:=fun w hw=>by
 unfold xpn at hw;split at hw
 . simp at hw
 . split at hw
   . simp at hw;subst hw;rfl
   . simp at hw;subst hw;rfl
theorem xnk (tx:Int) (v:Ve):(xpn tx v).length<=1:=by unfold xpn;split<;>(try split)<;>simp
theorem xlp (l:List Ve) (tx:Int) (hl:l.length<=1048576):xcN (l.map encW) tx=some true:=by
 unfold xcN xce;rw [xmY l (by omega)]
 cases hf:fewV l with
 | false=>rfl
 | true =>
  obtain ⟨h1,h2⟩:=xmd hf;have hr:∀ v,v∈l->v.r.length<=1048576:=fun v hv=>by have:=h2 v hv;omega
  have hr':∀ v,v∈l->v.r.length<=maxLen:=fun v hv=>by have:=h2 v hv;unfold maxLen;omega
  have e1:=xmz l hl hr';have e2:=xmK l hl;have e3:=xm8 l tx hl hr;have e4:=xnd l tx hl;have q:=xfA (g:=xpn tx) l fun v _=>xnk tx v
  have e5:=xoc (l.flatMap (xpn tx)) (l.flatMap (xpn tx)) (by omega) fun v hv=>by
   obtain ⟨x,hx,hv⟩:=y3.1 hv;rw [xnl tx x v hv];exact hr' x hx
  rw [decide_eq_true rfl] at e5;simp only [e1,e2,e3,e4,e5,zk,zh,xbY,Bool.not_true,xa7,xnN,sUF]
def TxV (l:List Ve):Prop:=∀ v,v∈l->∀ x,x∈v.r->x.wf/\x.t.length<=1073741824
end Go.Sim.M
end
noncomputable section
set_option maxRecDepth 10000
namespace Go.Sim
open Go.RowKit Go.Proofs Go.ChangeShapes Go.WideShapes Go.ChangeAt Go.Proofs.YtckgiglpmfpagaaGreatDoor
def tyW:List Ty:=[.int .i64,.int .i64,.slice tyV,.int .i64,.int .i64,.int .i64,.int .i64,.int .i64,.int .i64]
theorem xme:flat Tryz.prog 9 22=some [.slice tyW]:=by kernel_rfl
def M.Ve.wf (v:M.Ve):Prop:=M.Row.wf v.r/\I64 v.id/\I64 v.sc/\I64 v.va.1/\I64 v.va.2/\I64 v.sy.1/\I64 v.sy.2/\I64 v.b/\I64 v.u
theorem xno (x:AV) (hl:x.cells.length=tyW.length) (he:x=xqs x.cells) (hx:∀ j,j<tyW.length->OfTy (tyW.getD j .bool) (x.cells.getD j .top)):∃ a,x=M.encW a/\M.Ve.wf a:=by
 generalize x.cells=cs at *;match cs,hl with
 | [c0,c1,c2,c3,c4,c5,c6,c7,c8],_ =>
  have h0:=hx 0 (by decide)
  have h1:=hx 1 (by decide)
  have h2:=hx 2 (by decide)
  have h3:=hx 3 (by decide)
  have h4:=hx 4 (by decide)
  have h5:=hx 5 (by decide)
  have h6:=hx 6 (by decide)
  have h7:=hx 7 (by decide)
  have h8:=hx 8 (by decide)
  change OfTy (.int .i64) c0 at h0;change OfTy (.int .i64) c1 at h1;change OfTy (.slice tyV) c2 at h2;change OfTy (.int .i64) c3 at h3;change OfTy (.int .i64) c4 at h4;change OfTy (.int .i64) c5 at h5;change OfTy (.int .i64) c6 at h6;change OfTy (.int .i64) c7 at h7;change OfTy (.int .i64) c8 at h8;obtain ⟨l,rfl,hw⟩:=xnm h2;cases h0 with
  | int _ n0 w0=>cases h1 with
   | int _ n1 w1=>cases h3 with
    | int _ n3 w3=>cases h4 with
     | int _ n4 w4=>cases h5 with
      | int _ n5 w5=>cases h6 with
       | int _ n6 w6=>cases h7 with
        | int _ n7 w7=>cases h8 with
         | int _ n8 w8=>exact ⟨⟨n0,n1,l,(n3,n4),(n5,n6),n7,n8⟩,he,hw,w0,w1,w3,w4,w5,w6,w7,w8⟩
section
variable {H : Type} {enc : TypeId × Value -> H} {w : World} {base b : Nat} {sp : Nat -> Bool} {held : Bool} {v : Value} {d : DataW H} {ps : List MemPlace}
theorem xms (q:Value.okWide Tryz.prog w .any base 22 v) (hd:DataW.Trod enc Tryz.prog w b sp held 22 v d ps):∃ l:List M.Ve,Rel w (fun _=>False) xp6 v (.list 9 (l.map M.encW))/\(∀ μ:DataW H->Nat,Meas μ->(AV.list 9 (l.map M.encW)).wt<=μ d)/\∀ a,a∈l->M.Ve.wf a:=by
 obtain ⟨a,h,hT,hB⟩:=xn6 Tryz.underlying22 xme q hd;obtain ⟨l,rfl,_,hw⟩:=xji (es:=tyW) xno hT;exact ⟨l,h,hB,hw⟩
end
theorem xiI:∀ {xs:List AV} {x:AV},x∈xs->AV.wt x<=AV.wts xs
 | y::xs,x,h=>by
  simp only [AV.wts];rcases zC.1 h with rfl|h
  . omega
  . have:=xiI h;omega
theorem xk2:∀ {xs:List AV},(∀ x,x∈xs->1<=AV.wt x)->xs.length<=AV.wts xs
 | [],_=>zQ _
 | y::xs,h=>by
  have a:=h y (by simp)
  have b:=xk2 (xs:=xs) fun x hx=>h x (by simp [hx])
  simp only [AV.wts,zF];omega
theorem xmO (v:M.Ve):AV.wt (M.encW v)=1+(1+(AV.wts (v.r.map M.encV)+1+(1+(1+(1+(1+(1+(1+0)))))))):=rfl
theorem M.txv_wt {l:List M.Ve} (h:(AV.list 9 (l.map M.encW)).wt<=1048576) (hw:∀ y,y∈l->y.wf):M.TxV l/\l.length<=1048576:=by
 have e3:(AV.list 9 (l.map M.encW)).wt=AV.wts (l.map M.encW)+1:=rfl;refine ⟨fun f hf v hv=>⟨(hw f hf).1.2 v hv,?_⟩,?_⟩
 . have h1:AV.wt (M.encW f)<=AV.wts (l.map M.encW):=xiI (zK.2 ⟨f,hf,rfl⟩);have h2:AV.wt (M.encV v)<=AV.wts (f.r.map M.encV):=xiI (zK.2 ⟨v,hv,rfl⟩);have e1:=xmO f;have e2:AV.wt (M.encV v)=1+(1+(v.t.length+1+0)):=rfl;omega
 . have:=xk2 (xs:=l.map M.encW) fun x hx=>by
    obtain ⟨v,_,rfl⟩:=zK.1 hx;have:=xmO v;omega
   rw [za] at this;omega
theorem M.card_undoes (l:List M.Ve) (tx:Int) (hw:∀ y,y∈l->y.wf) (_:I64 tx) (hb:(AV.list 9 (l.map M.encW)).wt+(AV.int .i64 tx).wt<=1048576):M.xcN (l.map M.encW) tx=some true :=
 M.xlp l tx (M.txv_wt (Nat.le_trans (Nat.le_add_right _ _) hb) hw).2
end Go.Sim
end
noncomputable section
set_option maxRecDepth 10000
namespace Go.Proofs.YtckgiglpmfpagaaGreatDoor.deltaUndoes
open Go.ChangeShapes Go.WideShapes Go.ChangeAt Go.RowKit Go.Sim
theorem contract (H:Type) (enc:TypeId×Value->H) (W:World) (base:Nat) (args:Array Value) (ds gs:List (DataW H)) (before:List MemPlace)
  (hval:∀ (j:Nat) t v,Tryz.f6.params[j]?=some t->args[j]?=some v->Value.okWide Tryz.prog W .any base t v)
  (hW:DataW.Whole enc Tryz.prog Tryz.f6.params.toList Rows.deltaUndoesSpec.vars false W args.toList ds gs before) (hL:laidMetH Tryz.prog Rows.deltaUndoesUptoRow.laid W) (hsh:W.ShapedOpen Tryz.prog) (hbulk:Rows.uptoBulkAll (ds++gs)<=1048576) :
  Calls Tryz.prog 6 args W fun e W'=>∃ v,e=.returned v/\Rows.deltaUndoesSpec.post enc Tryz.prog Tryz.f6 false true false false W args v W':=by
 have hW':=hW;obtain ⟨p,q,hA0,hV,rfl,hfz,hnd⟩:=hW;have hA:DataW.TrodAll enc Tryz.prog W 0 (fun _=>true) true Tryz.f6.params.toList args.toList ds p:=hA0
 have hAk:=hA;rw [Tryz.params6] at hA hval;obtain ⟨v0,vs0,d0,ds0,p0,q0,hargs,rfl,rfl,h0,r0⟩:=trodAll_cons hA;obtain ⟨v1,vs1,d1,ds1,p1,q1,rfl,rfl,rfl,h1,r1⟩:=trodAll_cons r0;obtain ⟨rfl,rfl,rfl⟩:=trodAll_nil r1;obtain rfl:args=#[v0,v1]:=by cases args;simp_all
 obtain ⟨rfl,rfl⟩:=trodVars_none hV;obtain ⟨a0,rr0,b0,w0⟩:=xms (hval 0 22 v0 rfl rfl) h0;obtain ⟨a1,rr1,b1,w1⟩:=xm6 (hval 1 3 v1 rfl rfl) h1;clear hA0;have hbulk:(.list 9 (a0.map M.encW):AV).wt+(.int .i64 a1:AV).wt<=1048576:=by
  rw [List.append_nil,xdJ] at hbulk;simp only [List.map_cons,List.map_nil,List.sum_cons,List.sum_nil] at hbulk;have:=b0 _ xi0;have:=b1 _ xi0;omega
 have hI:xqB W:=xoF rfl (by kernel_rfl) hL hsh
 have hpl:=M.card_undoes a0 a1 w0 w1 hbulk;have hg:Sim.Good Tryz.prog xqB 6 [.list 9 (a0.map M.encW),.int .i64 a1] (.bool true):=M.xga _ _ (congrArg (fun x:Option Bool=>some (x.isSome,AV.bool (x.getD false))) hpl)
 have hrc:RC W (fun _=>False) xp6 [v0,v1] [.list 9 (a0.map M.encW),.int .i64 a1]:=by
  refine ⟨rfl,fun i hi=>?_⟩
  match i,hi with
  | 0,_=>exact rr0
  | 1,_=>exact rr1
 refine (hg.2 W (fun _=>False) _ hI (fun _ h=>h.elim) hrc).mono fun e W' ⟨v,he,hb,hr⟩=>?_
 subst he;obtain rfl:=hr.bool_inv;exact ⟨_,rfl,xmt rfl hW' ⟨rfl,rfl,rfl⟩ rfl Tryz.underlying4 (by simpa using xfQ xpH hb (by kernel_rfl) hAk) hb⟩
noncomputable def wit:Array Value:=#[.slice none 0 0,.int .i64 0]
theorem laid_met (os:Os):laidMet Tryz.prog Rows.deltaUndoesUptoRow.laid ((xpv Tryz.prog Rows.deltaUndoesUptoRow.laid os).forCall (fun _ _=>0) ⟨#[],wit,[]⟩).memory :=
 laidMet_of_run3 8 (by kernel_rfl) (by kernel_rfl) (by kernel_rfl)
theorem reads (os:Os) {H:Type} (enc:TypeId×Value->H):∃ places,DataW.whole enc Tryz.prog ((xpv Tryz.prog Rows.deltaUndoesUptoRow.laid os).forCall (fun _ _=>0) ⟨#[],wit,[]⟩).memory Tryz.f6.params.toList Rows.deltaUndoesSpec.vars false wit.toList 8=some ([.nil,.lit (.int .i64 0)],[],places) :=
 ⟨[],by kernel_rfl⟩
set_option maxRecDepth 100000 in
theorem lifted (os:Os) (started:os.Started) (H:Type) (enc:TypeId×Value->H) (F:Stop.Interp) :
  ReturnsInHanded {} Tryz.checked os 6 .any ((Rows.OpenSpec.upto Rows.deltaUndoesSpec).preRow enc Tryz.prog Tryz.f6 Rows.deltaUndoesUptoRow.domain false Rows.deltaUndoesUptoRow.laid) (((Rows.OpenSpec.upto Rows.deltaUndoesSpec).at F).post enc Tryz.prog Tryz.f6 false true false false):=by
 obtain ⟨places,hx⟩:=reads os enc;refine returnsInHanded_of_row (C:=Tryz.checked) (s:=Rows.OpenSpec.upto Rows.deltaUndoesSpec) xpM started (by kernel_rfl) Tryz.func6
  (witness_row_at (enc:=enc) (C:=Tryz.checked) false (xpv Tryz.prog Rows.deltaUndoesUptoRow.laid os) wit rfl (by kernel_rfl) (by kernel_rfl) (by kernel_rfl)
   (OpenSpec.preRow_of_cond 8 hx (by kernel_rfl) (fun k hk=>by cases hk;kernel_rfl) (by kernel_rfl) (laid_met os))) ?_
 intro W base args ds gs before hval hW _ hcond _ hL hsh _;exact contract H enc W base args ds gs before hval hW hL hsh (of_decide_eq_true (hcond _ rfl))
theorem said:Rows.DeltaUndoesUptoSaid :=
 OpenClaim.holds_of_cond 6 Tryz.f6 rfl rfl rfl rfl rfl rfl rfl ⟨rfl,rfl,rfl,rfl,rfl⟩ rfl rfl rfl rfl rfl (by kernel_rfl) Tryz.func6 (by kernel_rfl)
  (of_decide_eq_true (by kernel_rfl)) (by unfold Func.isWrapper;first|(rw [if_pos (by decide +kernel)];kernel_rfl)|(rw [if_neg (by decide +kernel)];exact ⟨rfl,rfl⟩))
  (fun os started H enc _ F=>by rw [OpenClaim.pre_eq_preRow];exact lifted os started H enc F)
theorem plain (f:FuncId) (fn:Func) (hf:Tryz.pinned.checked.prog.funcNamed "bitemporal/bitemporallaw32.DeltaUndoes" = some f) (hfn:Tryz.pinned.checked.prog.funcs[f]?=some fn) :
  false=Tryz.pinned.checked.prog.looks []/\∀ (j:Nat) t,fn.params[j]?=some t->Tryz.pinned.checked.prog.wantsStandIn t=false:=by
 obtain rfl:f=6:=Option.some.inj ((show Tryz.prog.funcNamed "bitemporal/bitemporallaw32.DeltaUndoes" = some 6 by kernel_rfl).symm.trans hf) |>.symm
 obtain rfl:fn=Tryz.f6:=(Option.some.inj (Tryz.func6.symm.trans hfn)).symm;refine ⟨by kernel_rfl,fun j t ht=>?_⟩
 rw [Tryz.params6] at ht;have hm:=Array.mem_of_getElem? ht;have:([22,3]:List Nat).all (fun t=>!(Tryz.prog.wantsStandIn t))=true:=by kernel_rfl
 have:=List.all_eq_true.1 this t (by simpa using hm)
 show Tryz.prog.wantsStandIn t=false;simpa using this
theorem card:Rows.DeltaUndoesUptoCardSaid :=
 Claim7.holds_tied_plain_at .later [] _ _ _ _ said (fun _ h=>by cases h) (by kernel_rfl) (fun _ h=>by cases h) deltaUndoesUpto_row_tie rfl ⟨rfl,rfl⟩ (by kernel_rfl) rfl plain (by kernel_rfl)
end Go.Proofs.YtckgiglpmfpagaaGreatDoor.deltaUndoes
end
