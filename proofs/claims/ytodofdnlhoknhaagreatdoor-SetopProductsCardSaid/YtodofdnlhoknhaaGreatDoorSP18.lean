/- Part 18 of the proof of the law. -/
import Derived.Test.YtodofdnlhoknhaaGreatDoorSP17
import Derived.Lib.ItoaLen
set_option linter.defProp false
set_option linter.unusedVariables false
set_option linter.unusedSimpArgs false
set_option linter.unusedSectionVars false
noncomputable section
set_option maxRecDepth 100000
namespace Go.Sim.M
open Go.RowKit Go.Sim.Srt
def rdD (l:List UInt8):Nat:=l.foldl (fun a c=>a*10+(c.toNat - 48)) 0
def xw3 (u:Nat):∀ c,c∈Lib.decDigits u->48<=c.toNat/\c.toNat<=57:=by
 induction u using Nat.strongRecOn with
 | _ u ih =>
  intro c hc;rw [Lib.decDigits] at hc;split at hc
  . rw [zv] at hc;subst hc;rw [UInt8.toNat_ofNat'];omega
  . rw [zG,zv] at hc;rcases hc with hc|rfl
    . exact ih (u / 10) (by omega) c hc
    . rw [UInt8.toNat_ofNat'];omega
def xBe (u:Nat):rdD (Lib.decDigits u)=u:=by
 induction u using Nat.strongRecOn with
 | _ u ih =>
  rw [Lib.decDigits];split
  . simp only [rdD,List.foldl_cons,List.foldl_nil,UInt8.toNat_ofNat'];omega
  . have:=ih (u / 10) (by omega)
    unfold rdD at this |-;rw [List.foldl_append,this];simp only [List.foldl_cons,List.foldl_nil,UInt8.toNat_ofNat'];omega
def xw4 {u v:Nat} (h:Lib.decDigits u=Lib.decDigits v):u=v:=by rw [<-xBe u,h,xBe]
def xrs {a b:Int} (h:Lib.itoa a=Lib.itoa b):a=b:=by
 unfold Lib.itoa at h;have k:∀ u v:Nat,45::Lib.decDigits u≠Lib.decDigits v:=fun u v e=>by
  have:=xw3 v 45 (by rw [<-e];simp)
  have t:(45:UInt8).toNat=45:=rfl;omega
 split at h<;>split at h
 . have:=xw4 (List.cons.inj h).2;omega
 . exact absurd h (k _ _)
 . exact absurd h.symm (k _ _)
 . have:=xw4 h;omega
def xmM (a:Int):(32:UInt8)∉Lib.itoa a:=by
 have k:∀ v:Nat,(32:UInt8)∉Lib.decDigits v:=fun v e=>by
  have:=xw3 v 32 e;have t:(32:UInt8).toNat=32:=rfl;omega
 unfold Lib.itoa;split
 . rw [zC];rintro (h|h)
   . simp at h
   . exact k _ h
 . exact k _
def xr3:∀ {a b x y:List UInt8},(32:UInt8)∉a->(32:UInt8)∉b->a++32::x=b++32::y->a=b/\x=y
 | [],[],x,y,_,_,h=>⟨rfl,(List.cons.inj h).2⟩
 | [],c::b,x,y,_,hb,h=>absurd (List.cons.inj h).1 fun e=>hb (by rw [e];simp)
 | c::a,[],x,y,ha,_,h=>absurd (List.cons.inj h).1 fun e=>ha (by rw [<-e];simp)
 | c::a,d::b,x,y,ha,hb,h=>by
  obtain ⟨e1,h⟩:=List.cons.inj h;obtain ⟨e2,e3⟩:=xr3 (a:=a) (b:=b) (fun e=>ha (by simp [e])) (fun e=>hb (by simp [e])) h
  exact ⟨by rw [e1,e2],e3⟩
def keyV (v:Val):List UInt8:=Lib.itoa v.k++32::(Lib.itoa v.i++32::(Lib.itoa (v.t.length:Int)++32::v.t))
def keyOf (r:Row):List UInt8:=r.flatMap keyV
def xrv (v:Val) (s:List UInt8):keyV v++s=Lib.itoa v.k++32::(Lib.itoa v.i++32::(Lib.itoa (v.t.length:Int)++32::(v.t++s))):=by simp [keyV]
def xiJ (v:Val) (r:Row):keyOf (v::r)=keyV v++keyOf r:=by simp [keyOf]
def xqE (v:Val) (s:List UInt8):keyV v++s≠[]:=by rw [xrv];simp
def xot:∀ {r r':Row},keyOf r=keyOf r'->r=r'
 | [],[],_=>rfl
 | [],v::r',h=>by rw [xiJ] at h;exact absurd h.symm (xqE _ _)
 | v::r,[],h=>by rw [xiJ] at h;exact absurd h (xqE _ _)
 | v::r,v'::r',h=>by
  rw [xiJ,xiJ,xrv,xrv] at h;obtain ⟨h1,h⟩:=xr3 (xmM _) (xmM _) h;obtain ⟨h2,h⟩:=xr3 (xmM _) (xmM _) h;obtain ⟨h3,h⟩:=xr3 (xmM _) (xmM _) h;have h3:=xrs h3;obtain ⟨h4,h⟩:=List.append_inj h (by omega)
  obtain rfl:=xot h;have:v=v':=by
   obtain ⟨k,i,t⟩:=v;obtain ⟨k',i',t'⟩:=v';obtain rfl:=xrs h1;obtain rfl:=xrs h2;subst h4;rfl
  rw [this]
def xHk {n:Int} (h:(Lit.int .i64 n).wf=true):-9223372036854775808<=n/\n<=9223372036854775807:=by
 have h:(decide ((IntKind.i64).min<=n)&&decide (n<=(IntKind.i64).max))=true:=h;rw [zf,zl,zl] at h;exact h
def xvu {v:Val} (hw:v.wf) (ht:v.t.length<=1099511627776):(keyV v).length<=66+v.t.length:=by
 obtain ⟨w1,w2,_⟩:=hw;have a1:=Lib.itoa_length_le v.k (xHk w1).1 (xHk w1).2;have a2:=Lib.itoa_length_le v.i (xHk w2).1 (xHk w2).2;have a3:=Lib.itoa_length_le (v.t.length:Int) (by omega) (by omega)
 simp only [keyV,z8,zF];omega
def xmP (s B:List UInt8) (h:(B++s).length<=140737488355328):xaq s B.length (byteAVs B)=some ((s.length:Int),(B++s).length,byteAVs (B++s)):=by
 rw [z8] at h;have h2:B.length+s.length<=4611686018427387904:=by omega
 unfold xaq xc0;simp only [xfe,beq_self_eq_true,Nat.mul_one,h,h2,zn,Bool.and_self,xaa,xon,z8,sUF]
def xpl (B:List UInt8) (h:(B++[32]).length<=140737488355328):xcI 32 B.length (byteAVs B)=some ((B++[32]).length,byteAVs (B++[32])):=by
 rw [z8,zj] at h;have h2:B.length+1<=4611686018427387904:=by omega
 unfold xcI xdz;simp only [xfe,beq_self_eq_true,Nat.mul_one,h,h2,zn,Bool.and_self,xaa,xon,z8,zj,sUF];rfl
def numI (n:Int):List UInt8:=Lib.itoa n++[32]
def xzh (t8:List AV) (t9 q:Int) (xs:List AV) (hx:xs.length=3) (j:Nat) (hj:j<3) (n:Int) (hn:xs.getD j .top=.int .i64 n) (h1:-9223372036854775808<=n) (h2:n<=9223372036854775807) (v0 v1:Int) (v2 B:List UInt8) (hB:B.length<=70368744177664) :
  xa1 t8 t9 q 3 3 ((j:Int),B.length,v0,v1,v2,xs,byteAVs B)=some (.inl (((j+1:Nat):Int),(B++numI n).length,v0,v1,v2,xs,byteAVs (B++numI n))):=by
 have hl:=Lib.itoa_length_le n h1 h2;have i1:(j:Int)<3:=by omega
 have i2:(j:Int)<((3:Nat):Int):=by omega
 have i3:j<xs.length:=by omega
 have e1:=xmP (Lib.itoa n) B (by rw [z8];omega)
 have e2:=xpl (B++Lib.itoa n) (by rw [z8,z8,zj];omega)
 have hc:((AV.int IntKind.i64 n).cells.getD 0 .top).toInt=n:=rfl;have hs:xHV (Sh.int IntKind.i64) ((AV.int IntKind.i64 n).cells.getD 0 .top)=true:=rfl;simp only [xa1,xgm,xid,xie,xif,xeb,sBU,i1,i2,i3,hn,hc,hs,h1,h2,e1,e2,xG8 (n:=j) (by omega),numI,zw]
def xDB (t8:List AV) (t9 q:Int) (xs:List AV) (v0 v1:Int) (v2 B:List UInt8):xa1 t8 t9 q 3 3 (((3:Nat):Int),B.length,v0,v1,v2,xs,byteAVs B)=some (.inr (B.length,v0,v1,v2,byteAVs B)):=by
 have i1:¬ ((3:Nat):Int)<3:=by omega
 simp only [xa1,xgm,i1,zm,xad,sUF]
def xlf (v:Val):keyV v=numI v.k++(numI v.i++(numI (v.t.length:Int)++v.t)):=by simp [keyV,numI]
def KOk (v:Val):Prop:=v.wf/\v.t.length<=1099511627776
def KOk.len {v:Val} (h:KOk v):(keyV v).length<=1099511627842:=by have:=xvu h.1 h.2;have:=h.2;omega
def xyi (t8:List AV) (t9 q:Int) (v:Val) (h:KOk v) (B:List UInt8) (hB:B.length<=35184372088832) :
  Iter (xa1 t8 t9 q 3 3) ((1:Int),(B++numI v.k).length,v.k,v.i,v.t,[AV.int .i64 v.k,AV.int .i64 v.i,AV.int .i64 (v.t.length:Int)],byteAVs (B++numI v.k))=some ((B++numI v.k++numI v.i++numI (v.t.length:Int)).length,v.k,v.i,v.t,byteAVs (B++numI v.k++numI v.i++numI (v.t.length:Int))):=by
 have hl:=h.len;have ht:=h.2;rw [xlf,z8,z8,z8] at hl;have e1:=xzh t8 t9 q [AV.int .i64 v.k,AV.int .i64 v.i,AV.int .i64 (v.t.length:Int)] rfl 1 (by omega) v.i rfl (xHk h.1.2.1).1 (xHk h.1.2.1).2 v.k v.i v.t (B++numI v.k) (by rw [z8];omega)
 have e2:=xzh t8 t9 q [AV.int .i64 v.k,AV.int .i64 v.i,AV.int .i64 (v.t.length:Int)] rfl 2 (by omega) (v.t.length:Int) rfl (by omega) (by omega) v.k v.i v.t (B++numI v.k++numI v.i) (by rw [z8,z8];omega)
 exact (xal e1).trans ((xal e2).trans (xac (xDB ..)))
def xFu (t8:List AV) (t9 q:Int) (v:Val) (h:KOk v) (B:List UInt8) (hB:B.length<=35184372088832) :
  Iter (xa1 t8 t9 q 3 3) ((0:Int),B.length,v.k,v.i,v.t,[AV.int .i64 v.k,AV.int .i64 v.i,AV.int .i64 (v.t.length:Int)],byteAVs B)=some ((B++numI v.k++numI v.i++numI (v.t.length:Int)).length,v.k,v.i,v.t,byteAVs (B++numI v.k++numI v.i++numI (v.t.length:Int))):=by
 have e0:=xzh t8 t9 q [AV.int .i64 v.k,AV.int .i64 v.i,AV.int .i64 (v.t.length:Int)] rfl 0 (by omega) v.k rfl (xHk h.1.1).1 (xHk h.1.1).2 v.k v.i v.t B (by omega)
 exact (xal e0).trans (xyi t8 t9 q v h B hB)
def xAV (r:Row) (hr:r.length<=1048576) (h:∀ v,v∈r->KOk v) (hk:(keyOf r).length<=17592186044416):∀ d k:Nat,k+d=r.length->Iter (xct (r.map encV) ((r.length:Nat):Int)) ((k:Int),(keyOf (r.take k)).length,byteAVs (keyOf (r.take k)))=some ((keyOf r).length,byteAVs (keyOf r))
 | 0,k,hkk=>by
  obtain rfl:k=r.length:=by omega
  rw [y6];refine xac ?_;simp only [xct,xgl,zy,zm,xad,sUF]
 | d+1,k,hkk=>by
  have q:k<r.length:=by omega
  have hv:=h r[k] (zo q);have i1:(k:Int)<(r.length:Int):=by omega
  have gf:(r.map encV).getD k .top=encV r[k]:=xab _ _ _ q;have tk:keyOf (r.take (k+1))=keyOf (r.take k)++keyV r[k]:=by
   unfold keyOf;rw [List.take_add_one,ze q,List.flatMap_append];simp
  have le:(keyOf (r.take (k+1))).length<=(keyOf r).length:=by
   conv=>rhs;rw [<-List.take_append_drop (k+1) r]
   unfold keyOf;rw [List.flatMap_append,z8];omega
  have hl:=hv.len;rw [tk,z8] at le;have e1:=xFu (r.map encV) (r.length:Int) (k:Int) r[k] hv (keyOf (r.take k)) (by omega)
  have kn:keyOf (r.take k)++keyV r[k]=keyOf (r.take k)++numI r[k].k++numI r[k].i++numI (r[k].t.length:Int)++r[k].t:=by rw [xlf];simp only [zw]
  have e2:=xmP r[k].t (keyOf (r.take k)++numI r[k].k++numI r[k].i++numI (r[k].t.length:Int)) (by rw [<-kn,z8];omega)
  rw [xal (s':=(((k+1:Nat):Int),(keyOf (r.take (k+1))).length,byteAVs (keyOf (r.take (k+1))))) ?_]
  . exact xAV r hr h hk d (k+1) (by omega)
  . rw [tk,kn];simp only [xct,xgl,xia,xib,xfJ,xic,sBU,q,i1,gf,cV0,cV1,cV2,lV,sV,e1,e2,xG8 (n:=k) (by omega)]
def xFv (r:Row) (hr:r.length<=1048576) (h:∀ v,v∈r->KOk v) (hk:(keyOf r).length<=17592186044416):xh9 (r.map encV)=some (keyOf r):=by
 match r with
 | []=>rfl
 | v::t =>
  have hv:=h v (by simp)
  have hl:=hv.len;have i1:(0:Int)<((t.length+1:Nat):Int):=by omega
  have i2:0<t.length+1:=by omega
  obtain ⟨r1,r2⟩:=xHk hv.1.1;have q:=Lib.itoa_length_le v.k r1 r2;have gf:((v::t).map encV).getD 0 .top=encV v:=rfl;have e0:xat (Lib.itoa v.k)=some (((Lib.itoa v.k).length:Int),(Lib.itoa v.k).length,byteAVs (Lib.itoa v.k)):=by
   have m1:(Lib.itoa v.k).length<=140737488355328:=by omega
   have m2:(Lib.itoa v.k).length<=4611686018427387904:=by omega
   unfold xat xbZ;simp only [xfe,Nat.mul_one,m1,m2,zn,Bool.and_self,xaa,sUF]
  have e1:xcH 32 (Lib.itoa v.k).length (byteAVs (Lib.itoa v.k))=some (([]++numI v.k).length,byteAVs ([]++numI v.k)):=xpl (Lib.itoa v.k) (by rw [z8,zj];omega)
  have e2:=xyi ((v::t).map encV) ((t.length+1:Nat):Int) 0 v hv [] (by simp)
  have kn:keyV v=[]++numI v.k++numI v.i++numI (v.t.length:Int)++v.t:=by rw [xlf];simp
  have e3:=xmP v.t ([]++numI v.k++numI v.i++numI (v.t.length:Int)) (by rw [<-kn];omega)
  rw [<-kn] at e3;have e4:=xAV (v::t) hr h hk t.length 1 (by rw [zF];omega)
  have tk:keyOf ((v::t).take 1)=keyV v:=by simp [keyOf]
  rw [tk,zF] at e4;have e4:Iter (xct ((v::t).map encV) ((t.length+1:Nat):Int)) ((1:Int),(keyV v).length,byteAVs (keyV v))=_:=e4;have hne:(keyOf (v::t)).length≠0:=fun e=>xqE v (keyOf t) (by rw [<-xiJ];exact List.length_eq_zero_iff.1 e)
  unfold xh9 xlb xew xkj xkk xkl xhq xkm xkn xko xce;simp only [za,zF,i1,i2,gf,cV0,cV1,cV2,lV,sV,r1,r2,e0,e1,e2,e3,e4,zn,xaa,Bool.and_self,beq_self_eq_true,zk,zh,xfe,xnI,xpD,ne_eq,hne,not_false_eq_true,sUF]
abbrev Grp:=Row×List Per
def encG (g:Grp):AV:=.agg [.list 3 (g.1.map encV),.list 2 (g.2.map encP)]
def okEG (x:AV):Bool:=x.cells.length==(2:Nat)&&xH1 [Sh.list (3:Nat),Sh.list (2:Nat)] x.cells (0:Nat)
def ldEG (x:AV):AV:=AV.agg [AV.list (3:Nat) (x.cells.getD (0:Nat) AV.top).toList,AV.list (2:Nat) (x.cells.getD (1:Nat) AV.top).toList]
def xHw (x y:AV):Bool:=(xff (x.cells.getD 0 AV.top).toList (x.cells.getD 1 AV.top).toList (y.cells.getD 0 AV.top).toList (y.cells.getD 1 AV.top).toList).isSome
def xHy (x y:AV):Int:=(xff (x.cells.getD 0 AV.top).toList (x.cells.getD 1 AV.top).toList (y.cells.getD 0 AV.top).toList (y.cells.getD 1 AV.top).toList).getD 0
theorem heG (a:Grp):okEG (encG a)=true:=rfl
theorem hdG (a:Grp):ldEG (encG a)=encG a:=rfl
section
variable {N : Nat} (hN : N <= 2 ^ 60) {ok : Grp -> Prop} {c : Grp -> Grp -> Int} (hc : ∀ x y, ok x -> ok y -> xHw (encG x) (encG y) = true /\ xHy (encG x) (encG y) = c x y)
include hN
include hc
theorem xGH (a b:Nat) (ha:a<=N) (hb:b<=N) {l r:List Grp} (hl:LOk N ok l) (hr:xHs c a b l=some r):xa0 N a b (List.map encG l)=some (List.map encG r)/\LOk N ok r:=by
 obtain ⟨e1,e2⟩:=xCH (enc:=encG) hN (c:=c) (ok:=ok) a b hb (gi:=fun i=>xbe N a b i) (fun i l r hl hr=>xDV (okE:=okEG) (ldE:=ldEG) heG hdG hN (P:=xHw) (V:=xHy) hc a (fun j xs=>rfl) hl hr) (g:=xbd N a b) (fun i xs=>rfl) hl hr
 refine ⟨?_,e2⟩;unfold xa0 xdl;rw [w64 (x:=(a:Int)+1) (n:=a+1) (by omega) (by omega),e1];rfl
theorem xCJ (q:N<20) {l r:List Grp} (hl:LOk N ok l) (hr:xHs c 0 N l=some r):xea N N (List.map encG l)=some (List.map encG r)/\LOk N ok r:=by
 obtain ⟨e1,e2⟩:=xGH hN hc 0 N (by omega) (zd _) hl hr
 have e1:xa0 N 0 N (List.map encG l)=_:=e1;have q0:Iter (xbo N N 20) ((0:Int),(20:Int),List.map encG l)=some ((0:Int),List.map encG l):=by
  refine xac ?_;have h1:¬ (20:Int)<=(N:Int):=by omega
  simp only [xbo,xef,h1,zm,xad,sUF]
 have q1:Iter (xb8 N N) ((20:Int),List.map encG r)=some (List.map encG r):=by
  refine xac ?_;have h1:¬ (20:Int)<(N:Int):=by omega
  simp only [xb8,xeg,h1,zm,xad,sUF]
 refine ⟨?_,e2⟩;simp only [xea,xfq,xe3,xe4,xe5,q0,e1,q1,zk,zh,xaa,sUF]
end
theorem xGJ {N:Nat} (hN:N*48<=140737488355328) {ok:Grp->Prop} {c:Grp->Grp->Int} (hc:∀ x y:Grp,ok x->ok y->xHw (encG x) (encG y)=true/\xHy (encG x) (encG y)=c x y) (q:N<20) (l r:List Grp) (hl:l.length=N) (ho:∀ x,x∈l->ok x) (hr:xHs c 0 N l=some r) :
  xfB N (List.map encG l)=some (List.map encG r):=by
 obtain ⟨e1,e2⟩:=xCJ (N:=N) (by omega) (ok:=ok) hc q ⟨hl,ho⟩ hr
 simp only [xfB,xe2,e1,zk,zh,xaa,sUF]
end Go.Sim.M
end
noncomputable section
set_option maxRecDepth 100000
namespace Go.Sim.M
open Go.RowKit Go.Sim.Srt
def ents:Nat->List Row->List AV
 | _,[]=>[]
 | k,r::R=>.agg [.str (keyOf r),.int .i64 (k:Int)]::ents (k+1) R
def xw7:∀ (R:List Row) (k:Nat) (r:Row),mapIx (ents k R) (keyOf r)=R.findIdx? fun x=>decide (x=r)
 | [],_,_=>rfl
 | x::R,k,r=>by
  have hk:isKey (keyOf r) (((AV.agg [.str (keyOf x),.int .i64 (k:Int)]).cells).getD 0 .top)=decide (x=r):=by
   show (keyOf x==keyOf r)=_;by_cases h:x=r
   . subst h;simp
   . have:¬ keyOf x=keyOf r:=fun e=>h (xot e)
     simp [h,this]
  show (match isKey (keyOf r) (((AV.agg [.str (keyOf x),.int .i64 (k:Int)]).cells).getD 0 .top) with|true=>some 0|false=>(mapIx (ents (k+1) R) (keyOf r)).map (·+1))=_
  rw [hk,List.findIdx?_cons,xw7 R (k+1) r];by_cases h:x=r<;>simp [h]
def xve:∀ (R:List Row) (k:Nat),(ents k R).length=R.length
 | [],_=>rfl
 | _::R,k=>by show (ents (k+1) R).length+1=_;rw [xve R];rfl
def xtC:∀ (R:List Row) (k:Nat) (r:Row),ents k (R++[r])=ents k R++[.agg [.str (keyOf r),.int .i64 ((k+R.length:Nat):Int)]]
 | [],_,_=>rfl
 | x::R,k,r=>by
  show _::ents (k+1) (R++[r])=_;rw [xtC R (k+1) r,zF,show k+1+R.length=k+(R.length+1) by omega];rfl
def xvd:∀ (R:List Row) (k j:Nat) (h:j<R.length),(ents k R).getD j .top=.agg [.str (keyOf R[j]),.int .i64 ((k+j:Nat):Int)]
 | x::R,k,0,h=>rfl
 | x::R,k,j+1,h=>by
  show (ents (k+1) R).getD j .top=_;rw [xvd R (k+1) j (by simpa using h),show k+1+j=k+(j+1) by omega];rfl
def upd (G:List Grp) (f:Fc):List Grp:=match (G.map (·.1)).findIdx? fun x=>decide (x=f.r) with
 | some j=>G.set j (f.r,(G.getD j ([],[])).2++[f.p])
 | none=>G++[(f.r,[f.p])]
structure GI (l:List Fc) (G:List Grp):Prop where
 nd:(G.map (·.1)).Nodup
 mem:∀ r,r∈G.map (·.1)↔∃ f,f∈l/\f.r=r/\pv f.p=true
 ps:∀ g,g∈G->g.2=psOf l g.1
 len:G.length<=l.length
def GI.nil:GI [] []:=⟨List.nodup_nil,fun r=>by simp,fun g hg=>by simp at hg,zd _⟩
def xoz (l:List Fc) (f:Fc) (r:Row):psOf (l++[f]) r=psOf l r++(if f.r=r/\pv f.p=true then [f.p] else []):=by
 unfold psOf;rw [List.filter_append,zx];congr 1;by_cases h1:f.r=r<;>by_cases h2:pv f.p=true<;>simp [h1,h2]
def GI.skip {l:List Fc} {G:List Grp} (h:GI l G) {f:Fc} (hf:pv f.p=false):GI (l++[f]) G :=
 ⟨h.nd,fun r=>by
  rw [h.mem];refine ⟨fun ⟨g,hg,e⟩=>⟨g,by simp [hg],e⟩,fun ⟨g,hg,e1,e2⟩=>⟨g,?_,e1,e2⟩⟩
  rcases zG.1 hg with hg|hg
  . exact hg
  . rw [zv] at hg;subst hg;rw [hf] at e2;simp at e2,fun g hg=>by rw [xoz,if_neg (by rw [hf];simp),zD];exact h.ps g hg,by rw [z8];have:=h.len;omega⟩
def xpx {R:List Row} {r:Row} {j:Nat} (h:R.findIdx? (fun x=>decide (x=r))=some j):∃ hj:j<R.length,R[j]=r:=by
 obtain ⟨hj,h1,_⟩:=List.findIdx?_eq_some_iff_getElem.1 h;exact ⟨hj,by simpa using h1⟩
def xvh {R:List Row} {r:Row} (h:R.findIdx? (fun x=>decide (x=r))=none):r∉R:=fun hr=>by
 have:=List.findIdx?_eq_none_iff.1 h r hr;simp at this
def xtl {G:List Grp} {j:Nat} (hj:j<G.length) {ps:List Per} {r:Row} (hr:G[j].1=r):(G.set j (r,ps)).map (·.1)=G.map (·.1):=by
 rw [List.map_set];show (G.map (·.1)).set j r=_;rw [<-hr];have:(G.map (·.1))[j]'(by simpa using hj)=G[j].1:=by simp
 rw [<-this];exact List.set_getElem_self _
def GI.upd {l:List Fc} {G:List Grp} (h:GI l G) {f:Fc} (hf:pv f.p=true):GI (l++[f]) (M.upd G f):=by
 unfold M.upd;cases hi:(G.map (·.1)).findIdx? fun x=>decide (x=f.r) with
 | some j =>
  obtain ⟨hj,hr⟩:=xpx hi;rw [za] at hj;rw [List.getElem_map] at hr;dsimp only;have gd:G.getD j ([],[])=G[j]:=by rw [z7,ze hj];rfl
  rw [gd];refine ⟨by rw [xtl hj hr];exact h.nd,fun r=>?_,fun g hg=>?_,by rw [y4,z8];have:=h.len;omega⟩
  . rw [xtl hj hr,h.mem];refine ⟨fun ⟨g,hg,e⟩=>⟨g,by simp [hg],e⟩,fun ⟨g,hg,e1,e2⟩=>?_⟩
    rcases zG.1 hg with hg|hg
    . exact ⟨g,hg,e1,e2⟩
    . rw [zv] at hg;subst hg;refine (h.mem r).1 ?_;rw [<-e1,<-hr];exact zK.2 ⟨G[j],zo hj,rfl⟩
  . obtain ⟨i,q,rfl⟩:=zp.1 hg;rw [y4] at q;rw [List.getElem_set];by_cases J:j=i
    . subst J;rw [if_pos rfl,xoz,if_pos ⟨rfl,hf⟩,h.ps _ (zo hj),hr]
    . rw [if_neg J,xoz,if_neg ?_,zD]
      . exact h.ps _ (zo q)
      . rintro ⟨e,_⟩;have hn:=zB.1 h.nd;have ei:(G.map (·.1))[i]'(by simpa using q)=G[i].1:=by simp
        have ej:(G.map (·.1))[j]'(by simpa using hj)=G[j].1:=by simp
        rcases Nat.lt_or_gt_of_ne J with O|O
        . exact hn j i (by simpa using hj) (by simpa using q) O (by rw [ei,ej,hr,e])
        . exact hn i j (by simpa using q) (by simpa using hj) O (by rw [ei,ej,hr,e])
 | none =>
  have hr:=xvh hi;dsimp only;have hz:psOf l f.r=[]:=by
   unfold psOf;rw [List.map_eq_nil_iff,List.filter_eq_nil_iff];intro g hg he;simp only [zf,zl] at he;exact hr ((h.mem _).2 ⟨g,hg,he⟩)
  refine ⟨?_,fun r=>?_,fun g hg=>?_,by rw [z8,z8];have:=h.len;simp;omega⟩
  . rw [zx];refine List.nodup_append.2 ⟨h.nd,by simp,fun a ha b hb e=>?_⟩
    simp at hb;exact hr (by rw [<-hb,<-e];exact ha)
  . rw [zx,zG,h.mem];simp only [zV,zW,zv,zG];constructor
    . rintro (⟨g,hg,e⟩|rfl)
      . exact ⟨g,.inl hg,e⟩
      . exact ⟨f,.inr rfl,rfl,hf⟩
    . rintro ⟨g,hg|rfl,e⟩
      . exact .inl ⟨g,hg,e⟩
      . exact .inr e.1.symm
  . rcases zG.1 hg with hg|hg
    . rw [xoz,if_neg ?_,zD]
      . exact h.ps g hg
      . rintro ⟨e,_⟩;exact hr (by rw [e];exact zK.2 ⟨g,hg,rfl⟩)
    . rw [zv] at hg;subst hg;rw [xoz,if_pos ⟨rfl,hf⟩,hz];rfl
def cG0 (g:Grp):((encG g).cells.getD 0 .top).toList=g.1.map encV:=rfl
def xAM {α:Type} (l:List α) (x d:α):(l++[x]).getD l.length d=x:=by simp
def xCG {α:Type} (l:List α) (x y:α):(l++[x]).set l.length y=l++[y]:=by simp
def xHF (xs:List AV):(AV.agg xs).cells=xs:=rfl
def tolA (n:Nat) (xs:List AV):(AV.list n xs).toList=xs:=rfl
def xHH (k:IntKind) (n:Int):(AV.int k n).toInt=n:=rfl
def xHG (xs:List AV):xIC 2 (.list 2 xs)=true:=rfl
def xHK (n m:Nat):xIZ (.int .i64 (n:Int)) m=decide (n<m):=rfl
def xHJ:xIZ (.int .i64 0) 1=true:=rfl
def g2a (a b:AV):[a,b].getD 0 .top=a:=rfl
def g2b (a b:AV):[a,b].getD 1 .top=b:=rfl
def lt2 (a b:AV):([a,b].length==2)=true:=rfl
def tk1 (a b:AV):List.take 1 [a,b]=[a]:=rfl
def dp2 (a b:AV):List.drop 2 [a,b]=[]:=rfl
def xw5 (g:Grp):encG g=.agg [.list 3 (g.1.map encV),.list 2 (g.2.map encP)]:=rfl
def xw6 (p:Per):encP p=.agg [.int .i64 p.1,.int .i64 p.2]:=rfl
def R20 (l:List Fc):Prop:=∃ R:List Row,R.length<20/\∀ f,f∈l->f.r∈R
def R20.few {l:List Fc} (h:l.length<20):R20 l:=⟨l.map (·.r),by rw [za];exact h,fun f hf=>zK.2 ⟨f,hf,rfl⟩⟩
def R20.of {l m:List Fc} (h:R20 l) (hm:∀ f,f∈m->∃ g,g∈l/\f.r=g.r):R20 m:=by
 obtain ⟨R,h1,h2⟩:=h;exact ⟨R,h1,fun f hf=>by obtain ⟨g,g1,g2⟩:=hm f hf;rw [g2];exact h2 g g1⟩
def Keyed (l:List Fc):Prop:=Few l/\∀ f,f∈l->(∀ v,v∈f.r->KOk v)/\(keyOf f.r).length<=17592186044416
def Keyed.key {l:List Fc} (h:Keyed l) {f:Fc} (hf:f∈l):xh9 (f.r.map encV)=some (keyOf f.r):=xFv f.r (h.1.2 f hf) (h.2 f hf).1 (h.2 f hf).2
def xBo (l:List Fc) (h:Keyed l) (k:Nat) (hk:k<l.length) (G:List Grp) (hG:GI (l.take k) G) :
  xbb (l.map encF) ((l.length:Nat):Int) (G.length,(k:Int),ents 0 (G.map (·.1)),G.map encG) =
   some (.inl ((if pv l[k].p=true then upd G l[k] else G).length,((k+1:Nat):Int),ents 0 ((if pv l[k].p=true then upd G l[k] else G).map (·.1)),(if pv l[k].p=true then upd G l[k] else G).map encG)):=by
 have hl:=h.1.1;have i1:(k:Int)<(l.length:Int):=by omega
 have gf:(l.map encF).getD k .top=encF l[k]:=xab _ _ _ hk;have ek:=h.key (zo hk);have kl:=(h.2 _ (zo hk)).2;have O:=hG.len;rw [zt] at O;cases hv:pv l[k].p with
 | false =>
  simp only [xbb,xc1,sBU,i1,hk,gf,cF0,cF1,cF2,sF0,sF1,sF2,lF,sF12,sF02,xj0,hv,xG8 (n:=k) (by omega)]
  rfl
 | true =>
  have k1:(keyOf l[k].r).length<=4611686018427387904:=by omega
  have hx:=xw7 (G.map (·.1)) 0 l[k].r;have n1:(ents 0 (G.map (·.1))).length<4611686018427387904:=by rw [xve,za];omega
  have m1:(G.length+1)*48<=140737488355328:=by omega
  have m2:G.length+1<=4611686018427387904:=by omega
  simp only [if_true];cases hi:(G.map (·.1)).findIdx? fun x=>decide (x=l[k].r) with
  | none =>
   rw [hi] at hx;have hu:upd G l[k]=G++[(l[k].r,[l[k].p])]:=by unfold upd;rw [hi]
   have hh:xIq (ents 0 (G.map (·.1))) (keyOf l[k].r)=false:=by unfold xIq;rw [hx];rfl
   have hg:xIe (AV.int .i64 0) (ents 0 (G.map (·.1))) (keyOf l[k].r)=AV.int .i64 0:=by unfold xIe;rw [hx]
   have hp:xIc (ents 0 (G.map (·.1))) (keyOf l[k].r) (AV.int .i64 (G.length:Int))=ents 0 ((G++[(l[k].r,[l[k].p])]).map (·.1)):=by
    unfold xIc;rw [hx,zx];show _=ents 0 (G.map (·.1)++[l[k].r]);rw [xtC,za,zH]
   have i2:(G.length:Int)<((G.length+1:Nat):Int):=by omega
   have J:xHV (Sh.int .i64) (AV.int .i64 0)=true:=rfl;have gl:∀ x:AV,(G.map encG++[x]).getD G.length .top=x:=fun x=>by have:=xAM (G.map encG) x .top;rwa [za] at this
   have sl:∀ x y:AV,(G.map encG++[x]).set G.length y=G.map encG++[y]:=fun x y=>by have:=xCG (G.map encG) x y;rwa [za] at this
   rw [hu];simp only [xbb,xc1,xfs,xcN,xcO,xdO,xft,xdP,xaA,xfu,xaB,xaP,xas,xdp,xeV,xeW,xbj,xeX,xdq,xbW,sBU,i1,hk,gf,cF0,cF1,cF2,sF0,sF1,sF2,lF,sF12,sF02,xj0,hv,xG8 (n:=k) (by omega),ek,k1,hh,hg,hp,n1,m1,m2,i2,J,gl,sl,z8,zj,zx,zV,zW,xHF,tolA,xHH,xHG,xHK,g2a,g2b,lt2,tk1,dp2,y4,Nat.lt_succ_self,Bool.and_self,List.length_nil,zH,xw5,xw6,List.singleton_append,zU,zD,Int.natCast_zero]
   try simp [xaa,xHJ,sUF]
  | some j =>
   obtain ⟨hj,hr⟩:=xpx hi;rw [hi] at hx;have q:j<G.length:=by simpa using hj
   rw [List.getElem_map] at hr;have gd:G.getD j ([],[])=G[j]:=by rw [z7,ze q];rfl
   have hu:upd G l[k]=G.set j (l[k].r,G[j].2++[l[k].p]):=by unfold upd;rw [hi];dsimp only;rw [gd]
   have hh:xIq (ents 0 (G.map (·.1))) (keyOf l[k].r)=true:=by unfold xIq;rw [hx];rfl
   have hg:xIe (AV.int .i64 0) (ents 0 (G.map (·.1))) (keyOf l[k].r)=AV.int .i64 (j:Int):=by
    unfold xIe;rw [hx];dsimp only;rw [xvd _ _ _ hj,zH];rfl
   have gj:(G.map encG).getD j .top=encG G[j]:=xab _ _ _ q;have i2:(j:Int)<(G.length:Int):=by omega
   have J:xHV (Sh.int .i64) (AV.int .i64 (j:Int))=true:=rfl;have pl:G[j].2.length<=k:=by
    rw [hG.ps _ (zo q)];have:=xvP (l.take k) G[j].1;rw [zt] at this;omega
   have m3:(G[j].2.length+1)*16<=140737488355328:=by omega
   have m4:G[j].2.length+1<=4611686018427387904:=by omega
   have gs:∀ x:AV,((G.map encG).set j x).getD j .top=x:=fun x=>by
    rw [z7,zL (by simpa using q)];rfl
   have ss:∀ x y:AV,((G.map encG).set j x).set j y=(G.map encG).set j y:=fun x y=>List.set_set ..
   have tj:(AV.int IntKind.i64 (j:Int)).toInt=(j:Int):=rfl;have cj:(encG G[j]).cells=[.list 3 (l[k].r.map encV),.list 2 (G[j].2.map encP)]:=by rw [<-hr];rfl
   rw [hu,xtl q hr,y4,List.map_set];simp only [xbb,xc1,xfs,xcN,xcO,xdO,xft,xdP,xaA,xfu,xaB,xaP,xas,xdp,xeV,xeW,xbj,xeX,xdq,xbW,sBU,i1,hk,gf,cF0,cF1,cF2,sF0,sF1,sF2,lF,sF12,sF02,xj0,hv,xG8 (n:=k) (by omega),ek,k1,hh,hg,i2,J,tj,gj,cj,q,y4,gs,ss,xHF,tolA,xHH,xHG,xHK,g2a,g2b,lt2,tk1,dp2,m3,m4,Bool.and_self,z8,zj,Nat.lt_succ_self,xw5,xw6,zx,zV,zW,List.singleton_append,zD]
   try simp [xaa,xHJ,hr,sUF]
def grp (l:List Fc):List Grp:=l.foldl (fun G f=>if pv f.p=true then upd G f else G) []
def xvr (l:List Fc) (f:Fc):grp (l++[f])=if pv f.p=true then upd (grp l) f else grp l:=by simp [grp]
def xAP:∀ l:List Fc,GI l.reverse (grp l.reverse)
 | []=>GI.nil
 | f::l=>by
  rw [List.reverse_cons,xvr];have ih:=xAP l;cases hv:pv f.p with
  | true=>rw [if_pos rfl];exact ih.upd hv
  | false=>rw [if_neg (by simp)];exact ih.skip hv
def xAQ (l:List Fc):GI l (grp l):=by have:=xAP l.reverse;rwa [List.reverse_reverse] at this
def xBn (l:List Fc) (h:Keyed l):Iter (xbb (l.map encF) ((l.length:Nat):Int)) ((0:Nat),(0:Int),[],[])=some ((grp l).length,(grp l).map encG):=by
 refine xld (fun k=>(((grp (l.take k)).length,((k:Nat):Int),ents 0 ((grp (l.take k)).map (·.1)),(grp (l.take k)).map encG):Nat×Int×List AV×List AV)) l.length _ (fun k hk=>?_) ?_ l.length 0 (by omega)
 . rw [xBo l h k hk (grp (l.take k)) (xAQ _)];have tk:l.take (k+1)=l.take k++[l[k]]:=by rw [List.take_add_one,ze hk];rfl
   rw [tk,xvr]
 . simp only [xbb,xc1,za,zy,zm,xad,y6,sUF]
def xDm (x y:Grp) (hx:x.1.length<=4398046511104):xHw (encG x) (encG y)=true/\xHy (encG x) (encG y)=cmpR x.1 y.1:=by
 have e:xff (x.1.map encV) (x.2.map encP) (y.1.map encV) (y.2.map encP)=some (cmpR x.1 y.1):=by
  unfold xff xjI;rw [xBC x.1 y.1 (by unfold maxLen;omega)];rfl
 have e2:xff ((encG x).cells.getD 0 .top).toList ((encG x).cells.getD 1 .top).toList ((encG y).cells.getD 0 .top).toList ((encG y).cells.getD 1 .top).toList=some (cmpR x.1 y.1):=e;unfold xHw xHy;rw [e2];exact ⟨rfl,rfl⟩
def xyD (l:List Fc) (h:Keyed l) (J:R20 l):∃ S:List Grp,xdD (l.map encF)=some (S.map encG)/\xHq l (S.map (·.1))/\(∀ g,g∈S->g.2=psOf l g.1)/\S.length<=l.length:=by
 have hg:=xAQ l;have V:=h.1.1;have O:=hg.len;have cG:Cm fun x y:Grp=>cmpR x.1 y.1:=xkh.on (e:=fun x:Grp=>x.1)
 obtain ⟨R,J,hR⟩:=J;have Q:(grp l).length<20:=by
  have:=hg.nd.length_le_of_subset (l₂:=R) fun r hr=>by
   obtain ⟨f,hf,e,_⟩:=(hg.mem r).1 hr;rw [<-e];exact hR f hf
  rw [za] at this;omega
 obtain ⟨r,e,p,s⟩:=xvs cG.ord [] (grp l) [];simp only [zU,zD,List.length_nil,zH] at e;have es:=xGJ (N:=(grp l).length) (by omega) (ok:=fun g=>g.1.length<=1048576) (c:=fun x y:Grp=>cmpR x.1 y.1) (fun x y hx hy=>xDm x y (by omega)) Q (grp l) r rfl (fun g q=>by
  obtain ⟨f,hf,e,_⟩:=(hg.mem g.1).1 (zK.2 ⟨g,q,rfl⟩);rw [<-e];exact h.1.2 f hf) e
 have rl:=p.length_eq;refine ⟨r,?_,⟨?_,fun x=>?_⟩,fun g q=>hg.ps g (p.mem_iff.1 q),by rw [rl];exact O⟩
 . have el:=xBn l h;have ra:xIr 2 1 ((grp l).map encG)=true:=by
    unfold xIr;rw [zI];intro x hx;obtain ⟨g,_,rfl⟩:=zK.1 hx;rfl
   have ll:(grp l).length<=r.length:=by omega
   have tt:List.take (grp l).length (r.map encG)=r.map encG:=zi (by rw [za];omega)
   unfold xdD xkp xg3 xdU xjJ;simp only [za,el,zk,zh,xaa,ra,es,zH,ll,zn,zS,zr,tt,sUF]
 . refine xBw (fun _ _=>xgY) ?_ ?_
   . exact List.pairwise_map.2 s
   . exact ((p.map (·.1)).nodup_iff).2 hg.nd
 . rw [(p.map (·.1)).mem_iff];exact hg.mem x
end Go.Sim.M
end
noncomputable section
set_option maxRecDepth 100000
namespace Go.Sim.M
open Go.RowKit Go.Lib
def xl3 (l:List AV) (i:Int):Bool:=decide ((0:Int)<=i)&&decide (i<(↑l.length:Int))
def xpk {T:Type} (l:List AV) (out_n:Nat) (q:Int) (na:Int) (nb:Int) (i:Int) (out_xs:List AV) (δ:T) (κl:(Int×Int×Int×List AV)->T) (κr:(Int×Int×Int×List AV)->T):T:=br (decide (i<(↑l.length:Int))) (br (xl3 l i) (br (decide (i.toNat<l.length)&&xHV (Sh.int IntKind.i64) ((l.getD i.toNat AV.top).cells.getD (0:Nat) AV.top)) (br (((l.getD i.toNat AV.top).cells.getD (0:Nat) AV.top).toInt==q) (br (xl3 l i) (br (decide (i.toNat<l.length)&&xHV (Sh.int IntKind.i64) ((l.getD i.toNat AV.top).cells.getD (1:Nat) AV.top)) (br (xl3 l i) (br (decide (i.toNat<l.length)&&xHV (Sh.int IntKind.i64) ((l.getD i.toNat AV.top).cells.getD (2:Nat) AV.top)) (κl (IntKind.i64.wrap (na+((l.getD i.toNat AV.top).cells.getD (1:Nat) AV.top).toInt),IntKind.i64.wrap (nb+((l.getD i.toNat AV.top).cells.getD (2:Nat) AV.top).toInt),IntKind.i64.wrap (i+(1:Int)),out_xs)) (δ)) (δ)) (δ)) (δ)) (κr (na,nb,i,out_xs))) (δ)) (δ)) (κr (na,nb,i,out_xs))
def xgh (l:List AV) (out_n:Nat) (q:Int):(Int×Int×Int×List AV)->Option ((Int×Int×Int×List AV)⊕(Int×Int×Int×List AV)):=fun (na,nb,i,out_xs)=>xpk l out_n q na nb i out_xs none (fun s=>some (.inl s)) (fun p=>some (.inr p))
def xkb (keep:Bool->Bool->Bool) (out_n:Nat):Bool:=decide ((0:Int)<=IntKind.i64.wrap ((↑out_n:Int) - (1:Int)))&&decide (IntKind.i64.wrap ((↑out_n:Int) - (1:Int))<(↑out_n:Int))
def xmJ (keep:Bool->Bool->Bool) (l:List AV) (out_n:Nat) (na:Int) (nb:Int) (i:Int) (q:Int) (out_xs:List AV):Int×Int×Int×List AV:=(Iter (xgh l out_n q) (na,nb,i,out_xs)).getD ((0:Int),(0:Int),(0:Int),[])
def xca (keep:Bool->Bool->Bool) (out_n:Nat):Nat:=(0:Nat)+(IntKind.i64.wrap ((↑out_n:Int) - (1:Int))).toNat
def xnZ (keep:Bool->Bool->Bool) (l:List AV) (out_n:Nat) (na:Int) (nb:Int) (i:Int) (q:Int) (out_xs:List AV):Int×Int×List AV:=(xmJ keep l out_n na nb i q out_xs).snd
def xer (keep:Bool->Bool->Bool) (l:List AV) (out_n:Nat) (na:Int) (nb:Int) (i:Int) (q:Int) (out_xs:List AV):Int:=(xmJ keep l out_n na nb i q out_xs).fst
def xnY (keep:Bool->Bool->Bool) (l:List AV) (out_n:Nat) (na:Int) (nb:Int) (i:Int) (q:Int) (out_xs:List AV):Int×List AV:=(xnZ keep l out_n na nb i q out_xs).snd
def xeq (keep:Bool->Bool->Bool) (l:List AV) (out_n:Nat) (na:Int) (nb:Int) (i:Int) (q:Int) (out_xs:List AV):Int:=(xnZ keep l out_n na nb i q out_xs).fst
def xaT (keep:Bool->Bool->Bool) (l:List AV) (out_n:Nat) (na:Int) (nb:Int) (i:Int) (q:Int) (out_xs:List AV):List AV:=(xnY keep l out_n na nb i q out_xs).snd
def xnW (keep:Bool->Bool->Bool) (l:List AV) (out_n:Nat) (na:Int) (nb:Int) (i:Int) (q:Int) (out_xs:List AV):Bool:=keep (decide (xer keep l out_n na nb i q out_xs>(0:Int))) (decide (xeq keep l out_n na nb i q out_xs>(0:Int)))
def xa4 (keep:Bool->Bool->Bool) (l:List AV) (out_n:Nat) (na:Int) (nb:Int) (i:Int) (q:Int) (out_xs:List AV):Int:=(xnY keep l out_n na nb i q out_xs).fst
def xka (keep:Bool->Bool->Bool) (l:List AV) (out_n:Nat) (na:Int) (nb:Int) (i:Int) (q:Int) (out_xs:List AV):Bool:=decide (xca keep out_n<(xaT keep l out_n na nb i q out_xs).length)
def xnX (keep:Bool->Bool->Bool) (l:List AV) (out_n:Nat) (na:Int) (nb:Int) (i:Int) (q:Int) (out_xs:List AV):Bool:=decide (xa4 keep l out_n na nb i q out_xs<(↑l.length:Int))
def xlv {T:Type} (keep:Bool->Bool->Bool) (l:List AV) (out_n:Nat) (na:Int) (nb:Int) (i:Int) (q:Int) (out_xs:List AV) (δ:T) (κl:(Nat×Int×Int×Int×Int×List AV)->T) (κr:(Nat×List AV)->T):T:=br (decide (q<(1099511627776:Int))) (br ((Iter (xgh l out_n q) (na,nb,i,out_xs)).isSome) (br (xnX keep l out_n na nb i q out_xs) (br (decide ((0:Int)<=xa4 keep l out_n na nb i q out_xs)&&xnX keep l out_n na nb i q out_xs) (br (decide ((xa4 keep l out_n na nb i q out_xs).toNat<l.length)&&xHV (Sh.int IntKind.i64) ((l.getD (xa4 keep l out_n na nb i q out_xs).toNat AV.top).cells.getD (0:Nat) AV.top)) (br (xnW keep l out_n na nb i q out_xs) (br (decide ((↑out_n:Int)>(0:Int))) (br (xkb keep out_n) (br (xka keep l out_n na nb i q out_xs&&xHV (Sh.int IntKind.i64) (((xaT keep l out_n na nb i q out_xs).getD (xca keep out_n) AV.top).cells.getD (1:Nat) AV.top)) (br ((((xaT keep l out_n na nb i q out_xs).getD (xca keep out_n) AV.top).cells.getD (1:Nat) AV.top).toInt==q) (br (xkb keep out_n) (br (xka keep l out_n na nb i q out_xs) (κl (out_n,xer keep l out_n na nb i q out_xs,xeq keep l out_n na nb i q out_xs,xa4 keep l out_n na nb i q out_xs,((l.getD (xa4 keep l out_n na nb i q out_xs).toNat AV.top).cells.getD (0:Nat) AV.top).toInt,(xaT keep l out_n na nb i q out_xs).set (xca keep out_n) (AV.agg (List.take (1:Nat) ((xaT keep l out_n na nb i q out_xs).getD (xca keep out_n) AV.top).cells++[AV.int IntKind.i64 ((l.getD (xa4 keep l out_n na nb i q out_xs).toNat AV.top).cells.getD (0:Nat) AV.top).toInt]++List.drop (2:Nat) ((xaT keep l out_n na nb i q out_xs).getD (xca keep out_n) AV.top).cells)))) (δ)) (δ)) (br (out_n==(xaT keep l out_n na nb i q out_xs).length&&(decide ((out_n+(1:Nat))*(16:Nat)<=(140737488355328:Nat))&&decide (out_n+(1:Nat)<=(4611686018427387904:Nat)))) (κl (out_n+(1:Nat),xer keep l out_n na nb i q out_xs,xeq keep l out_n na nb i q out_xs,xa4 keep l out_n na nb i q out_xs,((l.getD (xa4 keep l out_n na nb i q out_xs).toNat AV.top).cells.getD (0:Nat) AV.top).toInt,xaT keep l out_n na nb i q out_xs++[AV.agg [AV.int IntKind.i64 q,AV.int IntKind.i64 ((l.getD (xa4 keep l out_n na nb i q out_xs).toNat AV.top).cells.getD (0:Nat) AV.top).toInt]])) (δ))) (δ)) (δ)) (br (out_n==(xaT keep l out_n na nb i q out_xs).length&&(decide ((out_n+(1:Nat))*(16:Nat)<=(140737488355328:Nat))&&decide (out_n+(1:Nat)<=(4611686018427387904:Nat)))) (κl (out_n+(1:Nat),xer keep l out_n na nb i q out_xs,xeq keep l out_n na nb i q out_xs,xa4 keep l out_n na nb i q out_xs,((l.getD (xa4 keep l out_n na nb i q out_xs).toNat AV.top).cells.getD (0:Nat) AV.top).toInt,xaT keep l out_n na nb i q out_xs++[AV.agg [AV.int IntKind.i64 q,AV.int IntKind.i64 ((l.getD (xa4 keep l out_n na nb i q out_xs).toNat AV.top).cells.getD (0:Nat) AV.top).toInt]])) (δ))) (κl (out_n,xer keep l out_n na nb i q out_xs,xeq keep l out_n na nb i q out_xs,xa4 keep l out_n na nb i q out_xs,((l.getD (xa4 keep l out_n na nb i q out_xs).toNat AV.top).cells.getD (0:Nat) AV.top).toInt,xaT keep l out_n na nb i q out_xs))) (δ)) (δ)) (br (xnW keep l out_n na nb i q out_xs) (br (decide ((↑out_n:Int)>(0:Int))) (br (xkb keep out_n) (br (xka keep l out_n na nb i q out_xs&&xHV (Sh.int IntKind.i64) (((xaT keep l out_n na nb i q out_xs).getD (xca keep out_n) AV.top).cells.getD (1:Nat) AV.top)) (br ((((xaT keep l out_n na nb i q out_xs).getD (xca keep out_n) AV.top).cells.getD (1:Nat) AV.top).toInt==q) (br (xkb keep out_n) (br (xka keep l out_n na nb i q out_xs) (κl (out_n,xer keep l out_n na nb i q out_xs,xeq keep l out_n na nb i q out_xs,xa4 keep l out_n na nb i q out_xs,(1099511627776:Int),(xaT keep l out_n na nb i q out_xs).set (xca keep out_n) (AV.agg (List.take (1:Nat) ((xaT keep l out_n na nb i q out_xs).getD (xca keep out_n) AV.top).cells++[AV.int IntKind.i64 (1099511627776:Int)]++List.drop (2:Nat) ((xaT keep l out_n na nb i q out_xs).getD (xca keep out_n) AV.top).cells)))) (δ)) (δ)) (br (out_n==(xaT keep l out_n na nb i q out_xs).length&&(decide ((out_n+(1:Nat))*(16:Nat)<=(140737488355328:Nat))&&decide (out_n+(1:Nat)<=(4611686018427387904:Nat)))) (κl (out_n+(1:Nat),xer keep l out_n na nb i q out_xs,xeq keep l out_n na nb i q out_xs,xa4 keep l out_n na nb i q out_xs,(1099511627776:Int),xaT keep l out_n na nb i q out_xs++[AV.agg [AV.int IntKind.i64 q,AV.int IntKind.i64 (1099511627776:Int)]])) (δ))) (δ)) (δ)) (br (out_n==(xaT keep l out_n na nb i q out_xs).length&&(decide ((out_n+(1:Nat))*(16:Nat)<=(140737488355328:Nat))&&decide (out_n+(1:Nat)<=(4611686018427387904:Nat)))) (κl (out_n+(1:Nat),xer keep l out_n na nb i q out_xs,xeq keep l out_n na nb i q out_xs,xa4 keep l out_n na nb i q out_xs,(1099511627776:Int),xaT keep l out_n na nb i q out_xs++[AV.agg [AV.int IntKind.i64 q,AV.int IntKind.i64 (1099511627776:Int)]])) (δ))) (κl (out_n,xer keep l out_n na nb i q out_xs,xeq keep l out_n na nb i q out_xs,xa4 keep l out_n na nb i q out_xs,(1099511627776:Int),xaT keep l out_n na nb i q out_xs)))) (δ)) (κr (out_n,out_xs))
def xfd (keep:Bool->Bool->Bool) (l:List AV):(Nat×Int×Int×Int×Int×List AV)->Option ((Nat×Int×Int×Int×Int×List AV)⊕(Nat×List AV)):=fun (out_n,na,nb,i,q,out_xs)=>xlv keep l out_n na nb i q out_xs none (fun s=>some (.inl s)) (fun p=>some (.inr p))
def xsQ (keep:Bool->Bool->Bool) (a:List AV) (b:List AV):Option (Nat×List AV):=Iter (xfd keep ((xf0 a b).getD [])) ((0:Nat),(0:Int),(0:Int),(0:Int),(0:Int),[])
def xsP (keep:Bool->Bool->Bool) (a:List AV) (b:List AV):Nat×List AV:=(xsQ keep a b).getD ((0:Nat),[])
def xsN (keep:Bool->Bool->Bool) (a:List AV) (b:List AV):List AV:=(xsP keep a b).snd
def xsO (keep:Bool->Bool->Bool) (a:List AV) (b:List AV):Nat:=(xsP keep a b).fst
def xCZ {T:Type} (keep:Bool->Bool->Bool) (a:List AV) (b:List AV) (δ:T) (κ:List AV->T):T:=br ((xf0 a b).isSome) (br ((xsQ keep a b).isSome) (br (decide ((0:Nat)+xsO keep a b<=(xsN keep a b).length)&&true) (κ (List.take (xsO keep a b) (List.drop (0:Nat) (xsN keep a b)))) (δ)) (δ)) (δ)
def swG (keep:Bool->Bool->Bool) (a:List AV) (b:List AV):Option (List AV):=xCZ keep a b none some
end Go.Sim.M
end
noncomputable section
set_option maxRecDepth 100000
namespace Go.Sim.M
open Go.RowKit Go.Lib Go.Sort
def xG9 (e:Edg):AV:=.agg [.int .i64 e.1,.int .i64 e.2.1,.int .i64 e.2.2]
theorem xqR (x y:Int):∀ a b,xG5 x y (a++b)=xG5 x y a++xG5 x y b
 | [],b=>rfl
 | p::a,b=>by
  simp only [List.cons_append,xG5,xqR x y a b];split<;>rfl
theorem xr5 (x y:Int) (l:List Per) (n:Nat) (h:n<l.length):xG5 x y (l.take (n+1))=xG5 x y (l.take n)++(if pv l[n]=true then [(l[n].1,x,y),(l[n].2,-x,-y)] else []):=by
 rw [List.take_add_one,ze h];show xG5 x y (l.take n++[l[n]])=_;rw [xqR];rfl
theorem xqP (B:List AV) (l:List Per) (hl:l.length<=1073741824):∀ (k n:Nat),n+k=l.length ->
  Iter (xbP B (l.map encP) ((l.length:Nat):Int)) ((xG5 1 0 (l.take n)).length,((n:Nat):Int),(xG5 1 0 (l.take n)).map xG9)=some ((xG5 1 0 l).length,(xG5 1 0 l).map xG9)
 | 0,n,hk=>by
  obtain rfl:n=l.length:=by omega
  rw [zi (zd _)];refine xac ?_;unfold xbP;simp only;unfold xhY;rw [decide_eq_false (by omega:¬ ((l.length:Nat):Int)<((l.length:Nat):Int))]
  rfl
 | k+1,n,hk=>by
  have h1:n<l.length:=by omega
  have q:=xig 1 0 (l.take n);have J:(l.take n).length<=n:=by rw [zt];omega
  have d1:((n:Nat):Int)<((l.length:Nat):Int):=by omega
  have d2:(0:Int)<=((n:Nat):Int):=by omega
  have d3:((xG5 1 0 (l.take n)).length+2)*24<=140737488355328:=by omega
  have d4:(xG5 1 0 (l.take n)).length+2<=4611686018427387904:=by omega
  have d5:((xG5 1 0 (l.take n)).length==(xG5 1 0 (l.take n)).length)=true:=by simp
  have gf:(l.map encP).getD n .top=encP l[n]:=xab _ _ _ h1;have c0:((encP l[n]).cells.getD 0 .top).toInt=l[n].1:=rfl;have c1:((encP l[n]).cells.getD 1 .top).toInt=l[n].2:=rfl;have sh:((encP l[n]).cells.length==(2:Nat)&&xH1 [Sh.int IntKind.i64,Sh.int IntKind.i64] (encP l[n]).cells (0:Nat))=true:=rfl;have st:xbP B (l.map encP) ((l.length:Nat):Int) ((xG5 1 0 (l.take n)).length,((n:Nat):Int),(xG5 1 0 (l.take n)).map xG9) =
    some (.inl ((xG5 1 0 (l.take (n+1))).length,((n+1:Nat):Int),(xG5 1 0 (l.take (n+1))).map xG9)):=by
   rw [xr5 1 0 l n h1];unfold xbP;simp only;unfold xhY;rw [zN,gf,sh,c0,c1,xj0,za,za,decide_eq_true d1,decide_eq_true d2,decide_eq_true h1,decide_eq_true d3,decide_eq_true d4,d5,xjT (show n+1<=maxLen by unfold maxLen;omega)]
   cases pv l[n] with
   | true=>simp only [if_true,z8,zx];rfl
   | false=>simp only [zT,if_false,zD];rfl
  rw [xal st];exact xqP B l hl k (n+1) (by omega)
theorem xqQ (E0:List Edg) (l:List Per) (hl:l.length<=1073741824) (hE:E0.length<=2147483648):∀ (k n:Nat),n+k=l.length ->
  Iter (xdc (l.map encP) ((l.length:Nat):Int)) ((E0++xG5 0 1 (l.take n)).length,((n:Nat):Int),(E0++xG5 0 1 (l.take n)).map xG9)=some ((E0++xG5 0 1 l).length,(E0++xG5 0 1 l).map xG9)
 | 0,n,hk=>by
  obtain rfl:n=l.length:=by omega
  rw [zi (zd _)];refine xac ?_;unfold xdc;simp only;unfold xhZ;rw [decide_eq_false (by omega:¬ ((l.length:Nat):Int)<((l.length:Nat):Int))]
  rfl
 | k+1,n,hk=>by
  have h1:n<l.length:=by omega
  have J:=xig 0 1 (l.take n);have O:(l.take n).length<=n:=by rw [zt];omega
  have q:(E0++xG5 0 1 (l.take n)).length=E0.length+(xG5 0 1 (l.take n)).length:=z8;have d1:((n:Nat):Int)<((l.length:Nat):Int):=by omega
  have d2:(0:Int)<=((n:Nat):Int):=by omega
  have d3:((E0++xG5 0 1 (l.take n)).length+2)*24<=140737488355328:=by omega
  have d4:(E0++xG5 0 1 (l.take n)).length+2<=4611686018427387904:=by omega
  have d5:((E0++xG5 0 1 (l.take n)).length==(E0++xG5 0 1 (l.take n)).length)=true:=by simp
  have gf:(l.map encP).getD n .top=encP l[n]:=xab _ _ _ h1;have c0:((encP l[n]).cells.getD 0 .top).toInt=l[n].1:=rfl;have c1:((encP l[n]).cells.getD 1 .top).toInt=l[n].2:=rfl;have sh:((encP l[n]).cells.length==(2:Nat)&&xH1 [Sh.int IntKind.i64,Sh.int IntKind.i64] (encP l[n]).cells (0:Nat))=true:=rfl;have st:xdc (l.map encP) ((l.length:Nat):Int) ((E0++xG5 0 1 (l.take n)).length,((n:Nat):Int),(E0++xG5 0 1 (l.take n)).map xG9) =
    some (.inl ((E0++xG5 0 1 (l.take (n+1))).length,((n+1:Nat):Int),(E0++xG5 0 1 (l.take (n+1))).map xG9)):=by
   rw [xr5 0 1 l n h1,<-zw];unfold xdc;simp only;unfold xhZ;rw [zN,gf,sh,c0,c1,xj0,za,za,decide_eq_true d1,decide_eq_true d2,decide_eq_true h1,decide_eq_true d3,decide_eq_true d4,d5,xjT (show n+1<=maxLen by unfold maxLen;omega)]
   cases pv l[n] with
   | true=>rw [if_pos rfl,z8 (bs:=[(l[n].1,0,1),(l[n].2,-0,-1)]),zx (l₂:=[(l[n].1,0,1),(l[n].2,-0,-1)])];rfl
   | false=>rw [if_neg (by simp),zD];rfl
  rw [xal st];exact xqQ E0 l hl hE k (n+1) (by omega)
def toE (e:Edg):TyE:=(Fin.ofNat 1099511627777 e.1.toNat,e.2.1,e.2.2)
def ofE (x:TyE):Edg:=((x.1.val:Int),x.2.1,x.2.2)
theorem xDF {e:Edg} (h1:0<=e.1) (h2:e.1<=1099511627776):ofE (toE e)=e:=by
 have:e.1.toNat % 1099511627777=e.1.toNat:=Nat.mod_eq_of_lt (by omega)
 simp only [ofE,toE,Fin.ofNat,this,Int.toNat_of_nonneg h1]
theorem xD2 (E:List Edg) (h:∀ e,e∈E->0<=e.1/\e.1<=1099511627776):(E.map xG9).all isE=true/\∃ S:List Edg,srtE (E.map xG9)=S.map xG9/\S.Perm E/\S.Pairwise fun x y=>x.1<=y.1:=by
 refine ⟨?_,(pdqL cmpE (E.map toE)).map ofE,?_,?_,?_⟩
 . rw [zI];intro x hx;obtain ⟨e,he,rfl⟩:=zK.1 hx;have:=h e he;show (decide _&&decide _)=true;rw [decide_eq_true this.1,decide_eq_true this.2];rfl
 . unfold srtE;have e1:(E.map xG9).map decE=E.map toE:=by rw [List.map_map];rfl
   rw [e1,List.map_map];rfl
 . have hp:=((xjx cmpE swoE (E.map toE)).1).map ofE;have e2:(E.map toE).map ofE=E:=by
    rw [List.map_map]
    conv=>rhs;rw [<-List.map_id E]
    refine List.map_congr_left fun e he=>?_
    exact xDF (h e he).1 (h e he).2
   rwa [e2] at hp
 . rw [List.pairwise_map];refine (xn5 cmpE swoE (E.map toE)).imp fun {x y} q=>?_
   show ((x.1.val:Nat):Int)<=((y.1.val:Nat):Int);unfold cmpE at q;omega
theorem xB1 (a b:List Per) (ha:a.length<=1073741824) (hb:b.length<=1073741824) :
  ∃ S:List Edg,xf0 (a.map encP) (b.map encP)=some (S.map xG9)/\S.Perm (xG5 1 0 a++xG5 0 1 b)/\S.Pairwise fun x y=>x.1<=y.1:=by
 have l1:=xig 1 0 a;have l2:=xig 0 1 b;have O:(xG5 1 0 a++xG5 0 1 b).length=(xG5 1 0 a).length+(xG5 0 1 b).length:=z8;obtain ⟨q,S,hS,hp,hs⟩:=xD2 (xG5 1 0 a++xG5 0 1 b) (fun e he=>by
  rcases zG.1 he with he|he
  . exact xjV 1 0 a e he
  . exact xjV 0 1 b e he)
 refine ⟨S,?_,hp,hs⟩;have h0:=xqP (b.map encP) a ha a.length 0 (by omega)
 rw [List.take_zero] at h0;have h1:=xqQ (xG5 1 0 a) b hb (by omega) b.length 0 (by omega)
 rw [List.take_zero] at h1;have h0:Iter (xbP (b.map encP) (a.map encP) (((a.map encP).length:Nat):Int)) (0,0,[])=some ((xG5 1 0 a).length,(xG5 1 0 a).map xG9):=by rw [za];exact h0
 have v4:xjB (a.map encP) (b.map encP)=((xG5 1 0 a).length,(xG5 1 0 a).map xG9):=by unfold xjB;rw [h0];rfl
 have v3:xjA (a.map encP) (b.map encP)=some ((xG5 1 0 a++xG5 0 1 b).length,(xG5 1 0 a++xG5 0 1 b).map xG9):=by
  unfold xjA;rw [v4,za];have e:xG5 1 0 a++xG5 0 1 []=xG5 1 0 a:=zD _;rw [e] at h1;exact h1
 have v2:xjz (a.map encP) (b.map encP)=((xG5 1 0 a++xG5 0 1 b).length,(xG5 1 0 a++xG5 0 1 b).map xG9):=by unfold xjz;rw [v3];rfl
 have v0:xfH (a.map encP) (b.map encP)=(xG5 1 0 a++xG5 0 1 b).length:=by unfold xfH;rw [v2]
 have v1:xfI (a.map encP) (b.map encP)=(xG5 1 0 a++xG5 0 1 b).map xG9:=by unfold xfI;rw [v2]
 have J:S.length=(xG5 1 0 a++xG5 0 1 b).length:=hp.length_eq;have d1:(xG5 1 0 a++xG5 0 1 b).length<4611686018427387904:=by omega
 have d2:0+(xG5 1 0 a++xG5 0 1 b).length<=(S.map xG9).length:=by rw [za,J];omega
 have d3:(xG5 1 0 a++xG5 0 1 b).length.beq (xG5 1 0 a++xG5 0 1 b).length=true:=Nat.beq_refl _;have tk:List.take (xG5 1 0 a++xG5 0 1 b).length (List.drop 0 (S.map xG9))=S.map xG9:=by rw [zr,zi (by rw [za,J];exact zd _)]
 unfold xf0 xnt;rw [h0,v3,v0,v1,q,hS,tk,za,d3,decide_eq_true d1,decide_eq_true d2];rfl
theorem xAW (out:List Per) (h:out≠[]):out=out.dropLast++[out[out.length - 1]'(by have:=List.length_pos_iff.2 h;omega)]:=by
 have:=List.dropLast_concat_getLast h;rw [List.getLast_eq_getElem] at this;exact this.symm
section
variable (S : List Edg) (hS1 : ∀ e, e ∈ S -> 0 <= e.1 /\ e.1 <= 1099511627776) (hS2 : ∀ e, e ∈ S -> (-1 <= e.2.1 /\ e.2.1 <= 1) /\ (-1 <= e.2.2 /\ e.2.2 <= 1)) (hS3 : S.Pairwise fun x y => x.1 <= y.1) (hS4 : S.length <= 8589934592)
theorem xts (g:Edg->Int):∀ l:List Edg,(∀ e,e∈l->-1<=g e/\g e<=1)->-(l.length:Int)<=xG6 g l/\xG6 g l<=l.length
 | [],_=>by simp [xG6]
 | e::l,h=>by
  have:=xts g l fun x hx=>h x (List.mem_cons_of_mem _ hx)
  have:=h e (List.mem_cons_self ..);simp only [xG6,zF];omega
theorem xv9 (g:Edg->Int) (n:Nat) (h:n<S.length):xG6 g (S.take (n+1))=xG6 g (S.take n)+g S[n]:=by
 rw [List.take_add_one,ze h];show xG6 g (S.take n++[S[n]])=_;rw [xpF];simp [xG6]
include hS1 hS2 hS3 hS4
theorem xsc (on:Nat) (at':Int) (ox:List AV):∀ (k i:Nat),i+k=S.length->∃ j:Nat,i<=j/\j<=S.length /\
  Iter (xgh (S.map xG9) on at') (xG6 (·.2.1) (S.take i),xG6 (·.2.2) (S.take i),((i:Nat):Int),ox)=some (xG6 (·.2.1) (S.take j),xG6 (·.2.2) (S.take j),((j:Nat):Int),ox) /\
  (∀ (m:Nat) (h:m<S.length),i<=m->m<j->S[m].1=at')/\∀ (h:j<S.length),S[j].1≠at'
 | 0,i,hk=>by
  obtain rfl:i=S.length:=by omega
  refine ⟨S.length,zd _,zd _,xac ?_,fun m _ h1 h2=>by omega,fun h=>absurd h (Nat.lt_irrefl _)⟩
  unfold xgh;simp only;unfold xpk;rw [za,decide_eq_false (by omega:¬ ((S.length:Nat):Int)<((S.length:Nat):Int))]
  rfl
 | k+1,i,hk=>by
  have h1:i<S.length:=by omega
  have d1:((i:Nat):Int)<((S.length:Nat):Int):=by omega
  have d2:(0:Int)<=((i:Nat):Int):=by omega
  have gf:(S.map xG9).getD i .top=xG9 S[i]:=xab _ _ _ h1;have c0:((xG9 S[i]).cells.getD 0 .top).toInt=S[i].1:=rfl;have c1:((xG9 S[i]).cells.getD 1 .top).toInt=S[i].2.1:=rfl;have c2:((xG9 S[i]).cells.getD 2 .top).toInt=S[i].2.2:=rfl;have s0:xHV (Sh.int IntKind.i64) ((xG9 S[i]).cells.getD 0 .top)=true:=rfl;have s1:xHV (Sh.int IntKind.i64) ((xG9 S[i]).cells.getD 1 .top)=true:=rfl;have s2:xHV (Sh.int IntKind.i64) ((xG9 S[i]).cells.getD 2 .top)=true:=rfl;have v0:xl3 (S.map xG9) ((i:Nat):Int)=true:=by unfold xl3;rw [za,decide_eq_true d1,decide_eq_true d2];rfl
  by_cases he:S[i].1=at'
  . have hb:=hS2 S[i] (zo h1);have b1:=xts (·.2.1) (S.take i) fun e he=>(hS2 e (List.mem_of_mem_take he)).1
    have b2:=xts (·.2.2) (S.take i) fun e he=>(hS2 e (List.mem_of_mem_take he)).2
    have hl:(S.take i).length=i:=by rw [zt];omega
    rw [hl] at b1 b2;have b3:=xv9 S (·.2.1) i h1;have b4:=xv9 S (·.2.2) i h1;have w1:IntKind.i64.wrap (xG6 (·.2.1) (S.take i)+S[i].2.1)=xG6 (·.2.1) (S.take (i+1)):=by rw [b3];exact xay (by omega) (by omega)
    have w2:IntKind.i64.wrap (xG6 (·.2.2) (S.take i)+S[i].2.2)=xG6 (·.2.2) (S.take (i+1)):=by rw [b4];exact xay (by omega) (by omega)
    have st:xgh (S.map xG9) on at' (xG6 (·.2.1) (S.take i),xG6 (·.2.2) (S.take i),((i:Nat):Int),ox)=some (.inl (xG6 (·.2.1) (S.take (i+1)),xG6 (·.2.2) (S.take (i+1)),((i+1:Nat):Int),ox)):=by
     unfold xgh;simp only;unfold xpk;have e1:(S[i].1==at')=true:=by simp [he]
     rw [v0,zN,gf,s0,s1,s2,c0,c1,c2,za,decide_eq_true d1,decide_eq_true h1,e1,w1,w2,xjT (show i+1<=maxLen by unfold maxLen;omega)]
     rfl
    obtain ⟨j,j1,j2,j3,j4,j5⟩:=xsc on at' ox k (i+1) (by omega)
    refine ⟨j,by omega,j2,by rw [xal st];exact j3,fun m hm h2 h3=>?_,j5⟩
    rcases Nat.eq_or_lt_of_le h2 with rfl|h2
    . exact he
    . exact j4 m hm h2 h3
  . refine ⟨i,zd _,by omega,xac ?_,fun m _ h2 h3=>by omega,fun _=>he⟩
    unfold xgh;simp only;unfold xpk;have e1:(S[i].1==at')=false:=by simp [he]
    rw [v0,zN,gf,s0,c0,za,decide_eq_true d1,decide_eq_true h1,e1];rfl
omit hS1 hS2 hS3 hS4
def SwI (K:Int->Bool) (s:Nat×Int×Int×Int×Int×List AV):Prop :=
 ∃ (out:List Per) (i:Nat) (at':Int),s=(out.length,xG6 (·.2.1) (S.take i),xG6 (·.2.2) (S.take i),((i:Nat):Int),at',out.map encP)/\0<=at'/\at'<=1099511627776/\i<=S.length /\
  (∀ (m:Nat) (h:m<S.length),m<i->S[m].1<at')/\(∀ (m:Nat) (h:m<S.length),i<=m->at'<=S[m].1)/\OutOk out at' K/\(out.length:Int)<=at'
include hS1 hS2 hS3 hS4
set_option maxHeartbeats 4000000 in
theorem xwQ (keep:Bool->Bool->Bool) (a b:List Per) (hp:S.Perm (xG5 1 0 a++xG5 0 1 b)) (s:Nat×Int×Int×Int×Int×List AV) (hs:SwI S (fun t=>keep (inL a t) (inL b t)) s) :
  (∃ s',xfd keep (S.map xG9) s=some (.inl s')/\SwI S (fun t=>keep (inL a t) (inL b t)) s'/\(1099511627776 - s'.2.2.2.2.1).toNat<(1099511627776 - s.2.2.2.2.1).toNat) \/
  ∃ r,xfd keep (S.map xG9) s=some (.inr r)/\∃ out:List Per,r=(out.length,out.map encP)/\OutOk out 1099511627776 (fun t=>keep (inL a t) (inL b t)):=by
 obtain ⟨out,i,at',rfl,ah,az,hi,aw,ay,J,a1⟩:=hs;by_cases hF:at'<1099511627776
 . left;obtain ⟨j,j1,j2,j3,j4,j5⟩:=xsc S hS1 hS2 hS3 hS4 out.length at' (out.map encP) (S.length - i) i (by omega)
   have ak:∀ (m:Nat) (h:m<S.length),m<j->S[m].1<=at':=fun m h hm=>by
    by_cases ax:m<i
    . have:=aw m h ax;omega
    . have:=j4 m h (by omega) hm;omega
   have ao:∀ (m:Nat) (h:m<S.length),j<=m->at'<S[m].1:=fun m h hm=>by
    have hj:j<S.length:=by omega
    have h1:=ay j hj (by omega)
    have h2:=j5 hj;have h3:S[j].1<=S[m].1:=by
     rcases Nat.eq_or_lt_of_le hm with rfl|hm
     . exact Int.le_refl _
     . exact zB.1 hS3 j m hj h hm
    omega
   obtain ⟨nx,O⟩:∃ nx:Int,nx=if h:j<S.length then S[j].1 else 1099511627776:=⟨_,rfl⟩
   have ac:at'<nx:=by
    rw [O];split
    . rename_i h;exact ao j h (zd _)
    . exact hF
   have Q:nx<=1099511627776:=by
    rw [O];split
    . rename_i h;exact (hS1 _ (zo h)).2
    . exact Int.le_refl _
   have al:∀ (m:Nat) (h:m<S.length),j<=m->nx<=S[m].1:=fun m h hm=>by
    have hj:j<S.length:=by omega
    rw [O,dif_pos hj];rcases Nat.eq_or_lt_of_le hm with rfl|hm
    . exact Int.le_refl _
    . exact zB.1 hS3 j m hj h hm
   have aj:∀ (g:Edg->Int) (t:Int),at'<=t->t<nx->xG6 g (S.take j)=xHd g t S:=fun g t Y Z=>by
    conv=>rhs;rw [<-List.take_append_drop j S]
    rw [xk1,xui,xsK]
    . omega
    . intro e he;obtain ⟨m,hm,rfl⟩:=zp.1 he;rw [List.getElem_drop];have:=al (j+m) (by rw [y3] at hm;omega) (by omega)
      omega
    . intro e he;obtain ⟨m,hm,rfl⟩:=zp.1 he;rw [List.getElem_take];rw [zt] at hm;have:=ak m (by omega) (by omega)
      omega
   have am:∀ t,at'<=t->t<nx->decide (xG6 (·.2.1) (S.take j)>0)=inL a t/\decide (xG6 (·.2.2) (S.take j)>0)=inL b t:=fun t Y Z=>by
    rw [aj _ t Y Z,aj _ t Y Z,xsL _ t hp,xsL _ t hp,xk1,xk1,xpj,xrf,xsM,xrg,Int.add_zero,Int.zero_add,xu8,xu8];exact ⟨rfl,rfl⟩
   obtain ⟨kv,ar⟩:∃ kv:Bool,kv=keep (decide (xG6 (·.2.1) (S.take j)>0)) (decide (xG6 (·.2.2) (S.take j)>0)):=⟨_,rfl⟩;have hK:∀ t,at'<=t->t<nx->keep (inL a t) (inL b t)=kv:=fun t Y Z=>by
    rw [ar,(am t Y Z).1,(am t Y Z).2]
   have au:xmJ keep (S.map xG9) out.length (xG6 (·.2.1) (S.take i)) (xG6 (·.2.2) (S.take i)) ((i:Nat):Int) at' (out.map encP)=(xG6 (·.2.1) (S.take j),xG6 (·.2.2) (S.take j),((j:Nat):Int),out.map encP):=by unfold xmJ;rw [j3];rfl
   have v8:xer keep (S.map xG9) out.length (xG6 (·.2.1) (S.take i)) (xG6 (·.2.2) (S.take i)) ((i:Nat):Int) at' (out.map encP)=xG6 (·.2.1) (S.take j):=by unfold xer;rw [au]
   have v9:xnZ keep (S.map xG9) out.length (xG6 (·.2.1) (S.take i)) (xG6 (·.2.2) (S.take i)) ((i:Nat):Int) at' (out.map encP)=(xG6 (·.2.2) (S.take j),((j:Nat):Int),out.map encP):=by unfold xnZ;rw [au]
   have v7:xeq keep (S.map xG9) out.length (xG6 (·.2.1) (S.take i)) (xG6 (·.2.2) (S.take i)) ((i:Nat):Int) at' (out.map encP)=xG6 (·.2.2) (S.take j):=by unfold xeq;rw [v9]
   have v6:xnY keep (S.map xG9) out.length (xG6 (·.2.1) (S.take i)) (xG6 (·.2.2) (S.take i)) ((i:Nat):Int) at' (out.map encP)=(((j:Nat):Int),out.map encP):=by unfold xnY;rw [v9]
   have v1:xaT keep (S.map xG9) out.length (xG6 (·.2.1) (S.take i)) (xG6 (·.2.2) (S.take i)) ((i:Nat):Int) at' (out.map encP)=out.map encP:=by unfold xaT;rw [v6]
   have v3:xa4 keep (S.map xG9) out.length (xG6 (·.2.1) (S.take i)) (xG6 (·.2.2) (S.take i)) ((i:Nat):Int) at' (out.map encP)=((j:Nat):Int):=by unfold xa4;rw [v6]
   have v2:xnW keep (S.map xG9) out.length (xG6 (·.2.1) (S.take i)) (xG6 (·.2.2) (S.take i)) ((i:Nat):Int) at' (out.map encP)=kv:=by unfold xnW;rw [v8,v7,<-ar]
   have v0:xka keep (S.map xG9) out.length (xG6 (·.2.1) (S.take i)) (xG6 (·.2.2) (S.take i)) ((i:Nat):Int) at' (out.map encP)=decide (xca keep out.length<out.length):=by unfold xka;rw [v1,za]
   have v5:xnX keep (S.map xG9) out.length (xG6 (·.2.1) (S.take i)) (xG6 (·.2.2) (S.take i)) ((i:Nat):Int) at' (out.map encP)=decide (j<S.length):=by
    unfold xnX;rw [v3,za];by_cases h:j<S.length
    . rw [decide_eq_true h,decide_eq_true (by omega)]
    . rw [decide_eq_false h,decide_eq_false (by omega)]
   have ag:(out.length+1)*16<=140737488355328:=by omega
   have ai:out.length+1<=4611686018427387904:=by omega
   have e1:(out.length==out.length)=true:=by simp
   have dF:decide (at'<1099511627776)=true:=decide_eq_true hF;have dj:decide ((0:Int)<=((j:Nat):Int))=true:=decide_eq_true (by omega)
   have V:∀ h:j<S.length,(((S.map xG9).getD j .top).cells.getD 0 .top).toInt=nx:=fun h=>by
    rw [xab _ _ _ h,O,dif_pos h];rfl
   have af:∀ h:j<S.length,xHV (Sh.int IntKind.i64) (((S.map xG9).getD j .top).cells.getD 0 .top)=true:=fun h=>by
    rw [xab _ _ _ h];rfl
   have ad:∀ q:List Per,OutOk q nx (fun t=>keep (inL a t) (inL b t))->(q.length:Int)<=nx->SwI S (fun t=>keep (inL a t) (inL b t)) (q.length,xG6 (·.2.1) (S.take j),xG6 (·.2.2) (S.take j),((j:Nat):Int),nx,q.map encP):=fun q ho hl =>
    ⟨q,j,nx,rfl,by omega,Q,j2,fun m h hm=>by have:=ak m h hm;omega,fun m h hm=>al m h hm,ho,hl⟩
   have mu:(1099511627776 - nx).toNat<(1099511627776 - at').toNat:=by omega
   cases kv with
   | false =>
    refine ⟨(out.length,xG6 (·.2.1) (S.take j),xG6 (·.2.2) (S.take j),((j:Nat):Int),nx,out.map encP),?_,ad out (J.skip (by omega) hK) (by omega),mu⟩
    unfold xfd;simp only;unfold xlv;rw [v1,v2,v3,v5,v7,v8,j3,dF,dj,zN,za];by_cases hj:j<S.length
    . rw [decide_eq_true hj,af hj,V hj];rfl
    . rw [decide_eq_false hj];have:nx=1099511627776:=by rw [O,dif_neg hj]
      rw [this];rfl
   | true =>
    by_cases hne:out=[]
    . have ab:=J.add ah ac Q hK (fun p hp=>by rw [hne] at hp;cases hp)
      refine ⟨((out++[(at',nx)]).length,xG6 (·.2.1) (S.take j),xG6 (·.2.2) (S.take j),((j:Nat):Int),nx,(out++[(at',nx)]).map encP),?_,ad _ ab (by rw [z8,zj];omega),mu⟩
      have dl:decide (((out.length:Nat):Int)>0)=false:=by rw [hne];rfl
      unfold xfd;simp only;unfold xlv;rw [v1,v2,v3,v5,v7,v8,j3,dF,dj,zN,za,za,dl,e1,decide_eq_true ag,decide_eq_true ai];by_cases hj:j<S.length
      . rw [decide_eq_true hj,af hj,V hj,zx,z8];rfl
      . rw [decide_eq_false hj];have:nx=1099511627776:=by rw [O,dif_neg hj]
        rw [this,zx,z8];rfl
    . have a0:=List.length_pos_iff.2 hne;have w1:IntKind.i64.wrap (((out.length:Nat):Int) - 1)=((out.length - 1:Nat):Int):=by rw [xay (by omega) (by omega)];omega
      have ap:xca keep out.length=out.length - 1:=by unfold xca;rw [w1,zN];omega
      have v4:xkb keep out.length=true:=by
       unfold xkb;rw [w1,decide_eq_true (by omega),decide_eq_true (by omega)];rfl
      have dl:decide (((out.length:Nat):Int)>0)=true:=decide_eq_true (by omega)
      have dv:decide (out.length - 1<out.length)=true:=decide_eq_true (by omega)
      have an:out.length - 1<out.length:=by omega
      have gl:(out.map encP).getD (out.length - 1) .top=encP out[out.length - 1]:=xab _ _ _ an;have cl:((encP out[out.length - 1]).cells.getD 1 .top).toInt=out[out.length - 1].2:=rfl;have sl:xHV (Sh.int IntKind.i64) ((encP out[out.length - 1]).cells.getD 1 .top)=true:=rfl;have ae:=xAW out hne;by_cases hl:out[out.length - 1].2=at'
      . have aq:=OutOk.ext (o:=out.dropLast) (p:=out[out.length - 1]) (by rw [<-ae];exact J) hl ac Q hK
        have W:(out.dropLast++[(out[out.length - 1].1,nx)]).length=out.length:=by rw [z8,List.length_dropLast,zj];omega
        have aa:(out.map encP).set (out.length - 1) (AV.agg (List.take 1 (encP out[out.length - 1]).cells++[AV.int IntKind.i64 nx]++List.drop 2 (encP out[out.length - 1]).cells))=(out.dropLast++[(out[out.length - 1].1,nx)]).map encP:=by
         have e2:AV.agg (List.take 1 (encP out[out.length - 1]).cells++[AV.int IntKind.i64 nx]++List.drop 2 (encP out[out.length - 1]).cells)=encP (out[out.length - 1].1,nx):=rfl;rw [e2,<-List.map_set];congr 1;have e3:out.set (out.length - 1) (out[out.length - 1].1,nx)=(out.dropLast++[out[out.length - 1]]).set (out.length - 1) (out[out.length - 1].1,nx):=congrArg (fun l=>List.set l (out.length - 1) (out[out.length - 1].1,nx)) ae
         rw [e3,List.set_append_right _ _ (by rw [List.length_dropLast];exact zd _),List.length_dropLast,Nat.sub_self];rfl
        refine ⟨((out.dropLast++[(out[out.length - 1].1,nx)]).length,xG6 (·.2.1) (S.take j),xG6 (·.2.2) (S.take j),((j:Nat):Int),nx,(out.dropLast++[(out[out.length - 1].1,nx)]).map encP),?_,ad _ aq (by rw [W];omega),mu⟩
        have e4:(out[out.length - 1].2==at')=true:=by simp [hl]
        unfold xfd;simp only;unfold xlv;rw [v0,v1,v2,v3,v4,v5,v7,v8,ap,j3,dF,dj,zN,za,gl,cl,sl,dl,dv,e4];by_cases hj:j<S.length
        . rw [decide_eq_true hj,af hj,V hj,aa,W];rfl
        . rw [decide_eq_false hj];have:nx=1099511627776:=by rw [O,dif_neg hj]
          rw [this] at aa W |-;rw [aa,W];rfl
      . have ab:=J.add ah ac Q hK (fun p hp=>by
         rw [ae] at hp;rcases zG.1 hp with hp|hp
         . have h1:=J.span.2;rw [ae] at h1;have:=(List.pairwise_append.1 h1).2.2 p hp _ (zv.2 rfl);have h2:=J.low _ (zo an);have h3:=xbc.1 (J.span.1 _ (zo an));omega
         . rw [zv.1 hp];exact hl)
        refine ⟨((out++[(at',nx)]).length,xG6 (·.2.1) (S.take j),xG6 (·.2.2) (S.take j),((j:Nat):Int),nx,(out++[(at',nx)]).map encP),?_,ad _ ab (by rw [z8,zj];omega),mu⟩
        have e4:(out[out.length - 1].2==at')=false:=by simp [hl]
        unfold xfd;simp only;unfold xlv;rw [v0,v1,v2,v3,v4,v5,v7,v8,ap,j3,dF,dj,zN,za,za,gl,cl,sl,dl,dv,e4,e1,decide_eq_true ag,decide_eq_true ai];by_cases hj:j<S.length
        . rw [decide_eq_true hj,af hj,V hj,zx,z8];rfl
        . rw [decide_eq_false hj];have:nx=1099511627776:=by rw [O,dif_neg hj]
          rw [this,zx,z8];rfl
 . right;have:at'=1099511627776:=by omega
   subst this;refine ⟨(out.length,out.map encP),?_,out,rfl,J⟩;unfold xfd;simp only;unfold xlv;rw [decide_eq_false hF];rfl
end
theorem xoN:∀ (l:List Per) (e:Edg),e∈xG5 1 0 l->(-1<=e.2.1/\e.2.1<=1)/\(-1<=e.2.2/\e.2.2<=1)
 | [],e,h=>by cases h
 | p::l,e,h=>by
  unfold xG5 at h;split at h
  . rcases zC.1 h with rfl|h
    . simp
    . rcases zC.1 h with rfl|h
      . simp
      . exact xoN l e h
  . exact xoN l e h
theorem xoO:∀ (l:List Per) (e:Edg),e∈xG5 0 1 l->(-1<=e.2.1/\e.2.1<=1)/\(-1<=e.2.2/\e.2.2<=1)
 | [],e,h=>by cases h
 | p::l,e,h=>by
  unfold xG5 at h;split at h
  . rcases zC.1 h with rfl|h
    . simp
    . rcases zC.1 h with rfl|h
      . simp
      . exact xoO l e h
  . exact xoO l e h
theorem xBB (keep:Bool->Bool->Bool) (a b:List Per) (ha:a.length<=1073741824) (hb:b.length<=1073741824) :
  ∃ r:List Per,swG keep (a.map encP) (b.map encP)=some (r.map encP)/\IsSpan r/\∀ t,inL r t=(decide (0<=t)&&(decide (t<1099511627776)&&keep (inL a t) (inL b t))):=by
 obtain ⟨S,hS,hp,Q⟩:=xB1 a b ha hb;have l1:=xig 1 0 a;have l2:=xig 0 1 b;have W:S.length=(xG5 1 0 a++xG5 0 1 b).length:=hp.length_eq;rw [z8] at W;have q:∀ e,e∈S->e∈xG5 1 0 a\/e∈xG5 0 1 b:=fun e he=>zG.1 (hp.mem_iff.1 he)
 have O:∀ e,e∈S->0<=e.1/\e.1<=1099511627776:=fun e he=>(q e he).elim (xjV 1 0 a e) (xjV 0 1 b e)
 have V:∀ e,e∈S->(-1<=e.2.1/\e.2.1<=1)/\(-1<=e.2.2/\e.2.2<=1):=fun e he=>(q e he).elim (xoN a e) (xoO b e)
 obtain ⟨r,hr,out,rfl,J⟩:=xoW (SwI S (fun t=>keep (inL a t) (inL b t))) (fun s=>(1099511627776 - s.2.2.2.2.1).toNat) (fun r=>∃ out:List Per,r=(out.length,out.map encP)/\OutOk out 1099511627776 (fun t=>keep (inL a t) (inL b t)))
  (xwQ S O V Q (by omega) keep a b hp) (0,0,0,0,0,[]) ⟨[],0,0,rfl,Int.le_refl _,by omega,zQ _,fun m _ h=>by omega,fun m h _=>(O _ (zo h)).1,xA8 _,by simp⟩
 refine ⟨out,?_,J.span,J.done⟩;have v3:xsQ keep (a.map encP) (b.map encP)=some (out.length,out.map encP):=by unfold xsQ;rw [hS];exact hr
 have v2:xsP keep (a.map encP) (b.map encP)=(out.length,out.map encP):=by unfold xsP;rw [v3];rfl
 have v0:xsO keep (a.map encP) (b.map encP)=out.length:=by unfold xsO;rw [v2]
 have v1:xsN keep (a.map encP) (b.map encP)=out.map encP:=by unfold xsN;rw [v2]
 have d1:0+out.length<=out.length:=by omega
 unfold swG xCZ;rw [hS,v3,v0,v1,za,decide_eq_true d1,zr,zi (by rw [za];exact zd _)]
 rfl
theorem xzM (a b:List AV):xnu a b=swG xj5 a b:=rfl
theorem xCY (a:List Per) (ha:a.length<=1073741824):∃ r:List Per,xhj (a.map encP)=some (r.map encP)/\IsSpan r/\∀ t,inL r t=inL a t:=by
 obtain ⟨r,h1,h2,h3⟩:=xBB xj5 a [] ha (by simp)
 refine ⟨r,?_,h2,fun t=>?_⟩
 . unfold xhj xqn;rw [xzM,show ([]:List AV)=([]:List Per).map encP from rfl,h1];rfl
 . rw [h3 t];cases hc:inL a t with
   | false=>simp [xj5,xaI,sUF]
   | true=>have:=xqB hc;simp [xj5,xaI,this,sUF]
theorem xzN (a b:List AV):xnv a b=swG xeI a b:=rfl
theorem xrd (a b:List Per) (ha:a.length<=1073741824) (hb:b.length<=1073741824) :
  ∃ r:List Per,xeP (a.map encP) (b.map encP)=some (r.map encP)/\IsSpan r/\∀ t,inL r t=(inL a t&&!inL b t):=by
 obtain ⟨r,h1,h2,h3⟩:=xBB xeI a b ha hb;refine ⟨r,?_,h2,fun t=>?_⟩
 . unfold xeP xkS;rw [xzN,h1];rfl
 . rw [h3 t];cases hc:inL a t with
   | false=>simp [xeI,xaI,sUF]
   | true=>have:=xqB hc;simp [xeI,xaI,this,sUF]
end Go.Sim.M
end
noncomputable section
set_option maxRecDepth 100000
namespace Go.Sim.M
open Go.RowKit Go.Sim.Srt
def xtx {ps:List Per} (h:ps.length<=262144):Tame (ps.map fun p=>(p,(1:Int))):=⟨by simpa using h,fun c hc=>by
 obtain ⟨p,_,rfl⟩:=zK.1 hc;dsimp only;omega⟩
def xuu (ps:List Per) (h:ps.length<=262144):∃ S,xdT (ps.map encP)=some (S.map encP)/\StepI (fun t=>((ps.countP (hasP · t):Nat):Int)) 1099511627776 S/\S.length<=2*ps.length+1:=by
 obtain ⟨S,h1,h2,h3⟩:=xip _ (xtx h);refine ⟨S,by rw [xy9 ps (by omega),h1],?_,by simpa using h3⟩
 rwa [show sumC (ps.map fun p=>(p,(1:Int)))=fun t=>((ps.countP (hasP · t):Nat):Int) from funext fun t=>xuk ps t] at h2
end Go.Sim.M
end
noncomputable section
set_option maxRecDepth 100000
namespace Go.Sim.M
open Go.RowKit Go.Sim.Srt Go.Sort
def xD3 (E:List Per):(E.map encP).all isP=true/\∃ P:List Per,srtP (E.map encP)=P.map encP/\P.Perm E/\Sorted cmpP P:=by
 have e1:(E.map encP).map decP=E:=by
  rw [List.map_map];conv=>rhs;rw [<-List.map_id E]
  rfl
 refine ⟨?_,pdqL cmpP E,?_,(xjx cmpP swoP E).1,(xn5 cmpP swoP E).imp fun {x y} h=>?_⟩
 . rw [zI];intro x hx;obtain ⟨e,he,rfl⟩:=zK.1 hx;rfl
 . unfold srtP;rw [e1];rfl
 . have:=xpW x y;omega
def xvw (S:List Per) (hS:S.length<=524289) (hN:∀ s,s∈S->0<=s.2/\s.2<=1048576):∀ (d k:Nat) (J ox:List Per),k+d=S.length->StOk J->(xHb J).length<=1048576->ox.length<=k*1048576 ->
  ∃ q Q:List Per,Iter (xcF (S.map encP) ((S.length:Nat):Int)) ((k:Int),ox.length,J.length,((xHb J).length:Int),ox.map encP,J.map encP)=some (Q.length,((xHb q).length:Int),q.length,Q.map encP,q.map encP) /\
   StOk q/\(xHb q,Q)=(S.drop k).foldl (fun x s=>setF x (s.1,s.2.toNat)) (xHb J,ox)/\(xHb q).length<=1048576/\Q.length<=S.length*1048576
 | 0,k,J,ox,h,h1,h2,h3=>by
  obtain rfl:k=S.length:=by omega
  refine ⟨J,ox,xac ?_,h1,by rw [zq (zd _)];rfl,h2,h3⟩
  simp only [xcF,xgs,zy,zm,xad,sUF]
 | d+1,k,J,ox,h,h1,h2,h3=>by
  have hk:k<S.length:=by omega
  obtain ⟨n1,n2⟩:=hN _ (zo hk);obtain ⟨m,hm⟩:∃ m:Nat,S[k].2=(m:Int):=⟨S[k].2.toNat,by omega⟩
  obtain ⟨O,e,a1,a2⟩:=xyF S[k].1 m (xHb J).length J ox h1 rfl (by omega) h2 (by omega)
  have V:(xHb O).length=m:=by rw [a2,z8,zt,List.length_replicate];omega
  obtain ⟨q,Q,e',b1,b2,b3,b4⟩:=xvw S hS hN d (k+1) O (ox++(((xHb J).drop m).reverse.map fun f=>(f,S[k].1))) (by omega) a1 (by omega) (by
   rw [z8,za,List.length_reverse,y3];omega)
  refine ⟨q,Q,(xal ?_).trans e',b1,?_,b3,b4⟩
  . have i1:(k:Int)<(S.length:Int):=by omega
    have gf:(S.map encP).getD k .top=encP S[k]:=xab _ _ _ hk;have i2:¬ (0:Int)>(m:Int):=by omega
    have i3:¬ (1048576:Int)<(m:Int):=by omega
    have tk:List.take O.length (O.map encP)=O.map encP:=zi (by simp)
    rw [V];simp only [xcF,xgs,xcn,xiz,xiA,sBU,hk,i1,gf,cP0,cP1,lP,sP,sP0,sP1,hm,i2,i3,if_false,e,tk,xG8 (n:=k) (by omega)]
  . rw [b2,xa3 hk,List.foldl_cons];congr 1;rw [hm,zN,a2];rfl
def xtR {N:Int->Nat} {H:Nat} (hb:H<=1048576) (hH:∀ t,N t<=H) (h0:∀ t,t<0\/1099511627776<=t->N t=0) {S:List Per} (hS:StepI (fun t=>(N t:Int)) 1099511627776 S) (hl:S.length<=524289):∃ P,xav (S.map encP)=some (P.map encP)/\IsLevs N P:=by
 obtain ⟨q,ox,e,a1,a2,a3,a4⟩:=xvw S hl (fun s hs=>by
  obtain ⟨_,_,m3,_⟩:=(hS.mem s).1 hs;have:=hH s.1;omega) S.length 0 [] [] (by omega) (fun s hs=>by simp at hs) (by simp [xHb]) (by simp)
 obtain ⟨J,e2,c1,c2⟩:=xyF 1099511627776 0 (xHb q).length q ox a1 rfl (by omega) a3 (by omega)
 obtain ⟨s1,P,s2,s3,s4⟩:=xD3 (ox++(((xHb q).drop 0).reverse.map fun f=>(f,(1099511627776:Int))))
 have m1:(ox++(((xHb q).drop 0).reverse.map fun f=>(f,(1099511627776:Int)))).length<4611686018427387904:=by
  rw [z8,za,List.length_reverse,y3];omega
 refine ⟨P,?_,xCh hH h0 hS ?_ s4⟩
 . have pl:=s3.length_eq;have e:Iter (xcF (S.map encP) ((S.length:Nat):Int)) ((0:Int),(0:Nat),(0:Nat),(0:Int),[],[])=_:=e;have e2:set2 1099511627776 0 ((xHb q).length:Int) q.length ox.length (q.map encP) (ox.map encP)=_:=e2;generalize (ox++(((xHb q).drop 0).reverse.map fun f=>(f,(1099511627776:Int))))=O at s1 s2 e2 pl m1
   have bq:O.length.beq O.length=true:=by simp
   have m2:O.length<=P.length:=by omega
   have tt:List.take O.length (P.map encP)=P.map encP:=zi (by rw [za];omega)
   unfold xav xlt;simp only [xb9,xkW,xeJ,xkX,za,e,zk,zh,xaa,e2,bq,m1,s1,s2,zn,zS,zH,m2,zr,tt,sUF]
 . have a2:(xHb q,ox)=S.foldl (fun x s=>setF x (s.1,s.2.toNat)) ([],[]):=a2
   rw [<-a2];exact s3
def xro (ps:List Per) (t:Int) (ht:t<0\/1099511627776<=t):ps.countP (hasP · t)=0:=by
 rw [List.countP_eq_zero];intro p hp h;obtain ⟨h1,h2,h3⟩:=xaO.1 h;have:=xbc.1 h1;omega
def xC9 (ps:List Per) (hv:∀ p,p∈ps->pv p=true) (hl:ps.length<=262144):∃ P,xeL (ps.map encP)=some (P.map encP)/\IsLevs (fun t=>ps.countP (hasP · t)) P:=by
 unfold xeL xki;by_cases h1:ps.length=1
 . obtain ⟨p,rfl⟩:=List.length_eq_one_iff.1 h1;refine ⟨[p],rfl,List.pairwise_singleton _ _,fun k=>if k=0 then [p] else [],1,fun t=>?_,fun k=>?_,?_⟩
   . have:=List.countP_le_length (p:=(hasP · t)) (l:=[p]);simpa using this
   . by_cases hk:k=0
     . subst hk;refine ⟨⟨fun q hq=>by simp at hq;subst hq;exact hv _ (by simp),List.pairwise_singleton _ _⟩,fun t=>?_⟩
       simp [inL];cases hasP p t<;>simp
     . refine ⟨by simp [hk,xeY],fun t=>?_⟩
       simp only [hk,if_false,xey];have:=List.countP_le_length (p:=(hasP · t)) (l:=[p]);simp at this |-;omega
   . simp
 . obtain ⟨S,e1,e2,e3⟩:=xuu ps hl;obtain ⟨P,e4,e5⟩:=xtR (N:=fun t=>ps.countP (hasP · t)) (H:=ps.length) (by omega) (fun t=>List.countP_le_length) (xro ps) e2 (by omega)
   refine ⟨P,?_,e5⟩;have i1:((ps.length:Int)==1)=false:=by simp;omega
   simp only [za,i1,xad,e1,e4,zk,zh,xaa,sUF]
def mk (r:Row) (P:List Per):List Fc:=P.map fun p=>⟨r,p⟩
def xvg (L:Row->List Per):∀ S:List Grp,(S.flatMap fun g=>mk g.1 (L g.1))=xG7 (S.map (·.1)) L
 | []=>rfl
 | g::S=>by rw [zR,xvg L S];rfl
def xty (J:List AV) (O q:Int) (row:Row) (hr:row.length<=1048576) (g1:List AV) (P:List Per) (D:List Fc) (hb:D.length+P.length<=2199023255552) (hP:P.length<=1099511627776) :
  Iter (xbA J O q (P.map encP) ((P.length:Nat):Int)) (D.length,(0:Int),D.map encF,row.map encV,g1)=some ((D++mk row P).length,(D++mk row P).map encF):=by
 have key:=xld (step:=xbA J O q (P.map encP) ((P.length:Nat):Int)) (fun k=>(((D++mk row (P.take k)).length,((k:Nat):Int),(D++mk row (P.take k)).map encF,row.map encV,g1):Nat×Int×List AV×List AV×List AV)) P.length
  ((D++mk row P).length,(D++mk row P).map encF) (fun k hk=>by
  have i1:(k:Int)<(P.length:Int):=by omega
  have gf:(P.map encP).getD k .top=encP P[k]:=xab _ _ _ hk;have dl:(D++mk row (P.take k)).length=D.length+k:=by unfold mk;rw [z8,za,zt];omega
  have m1:(D.length+k+1)*40<=140737488355328:=by omega
  have m2:D.length+k+1<=4611686018427387904:=by omega
  have m3:row.length*32<=140737488355328:=by omega
  have m4:row.length<=4611686018427387904:=by omega
  have tk:List.take row.length (row.map encV)=row.map encV:=zi (by simp)
  have Q:mk row (P.take (k+1))=mk row (P.take k)++[⟨row,P[k]⟩]:=by unfold mk;rw [List.take_add_one,ze hk,zx];rfl
  rw [Q,<-zw];simp only [xbA,xet,sBU,hk,i1,gf,cP0,cP1,lP,sP,sP0,sP1,dl,m1,m2,m3,m4,zd,tk,zr,xG8 (n:=k) (by omega)]
  rw [z8,dl];simp [encF]) (by
  simp only [xbA,xet,zy,zm,xad,y6,sUF]) P.length 0 (by omega)
 have e0:D++mk row (P.take 0)=D:=by simp [mk]
 rw [e0] at key;exact key
def xAg (O:List AV) (q J:Int) (row:Row) (hr:row.length<=1048576) (g1:List AV) (P:List Per) (D:List Fc) (hb:D.length+P.length<=2199023255552) (hP:P.length<=1099511627776) :
  Iter (xfk O q J (P.map encP) ((P.length:Nat):Int)) (D.length,(0:Int),D.map encF,row.map encV,g1)=some ((D++mk row P).length,(D++mk row P).map encF) :=
 xty O q J row hr g1 P D hb hP
def Bld (l:List Fc):Prop:=Keyed l/\l.length<=1024/\R20 l
def cGs (g:Grp):((encG g).cells.getD 1 .top).toList=g.2.map encP:=rfl
def lG (g:Grp):((encG g).cells.length==2)=true:=rfl
def sG (g:Grp):xH1 [Sh.list 3,Sh.list 2] (encG g).cells 0=true:=rfl
def xtz {f:List AV->Option (List AV)} {step:List AV->Int->Nat×Int×List AV->Option ((Nat×Int×List AV)⊕(Nat×List AV))} (J:step=xcc/\f=xeL\/step=xcd/\f=xhj) (S:List Grp) (hS:S.length<=1024) (hr:∀ g,g∈S->g.1.length<=1048576) (L:Row->List Per) (hL:∀ g,g∈S->f (g.2.map encP)=some ((L g.1).map encP)/\(L g.1).length<=1048576) :
  Iter (step (S.map encG) ((S.length:Nat):Int)) ((0:Nat),(0:Int),[])=some ((xG7 (S.map (·.1)) L).length,(xG7 (S.map (·.1)) L).map encF):=by
 rw [<-xvg];refine xle S (fun g=>mk g.1 (L g.1)) encF 1048576 (fun g hg=>by unfold mk;rw [za];exact (hL g hg).2) (fun n h D hD=>?_) (fun D=>?_)
 . have i1:(n:Int)<(S.length:Int):=by omega
   have gf:(S.map encG).getD n .top=encG S[n]:=xab _ _ _ h;obtain ⟨e1,e2⟩:=hL _ (zo h);have q:=hr _ (zo h);rcases J with ⟨rfl,rfl⟩|⟨rfl,rfl⟩
   . have el:=xty (S.map encG) (S.length:Int) (n:Int) S[n].1 q (S[n].2.map encP) (L S[n].1) D (by omega) (by omega)
     simp only [xcc,xes,xd5,sBU,h,i1,gf,cG0,cGs,lG,sG,e1,el,xG8 (n:=n) (by omega)]
   . have el:=xAg (S.map encG) (S.length:Int) (n:Int) S[n].1 q (S[n].2.map encP) (L S[n].1) D (by omega) (by omega)
     simp only [xcd,xeu,xd7,sBU,h,i1,gf,cG0,cGs,lG,sG,e1,el,xG8 (n:=n) (by omega)]
 . rcases J with ⟨rfl,rfl⟩|⟨rfl,rfl⟩
   . simp only [xcc,xes,zy,zm,xad,sUF]
   . simp only [xcd,xeu,zy,zm,xad,sUF]
def xnC {R:List Row} {Q:Row->List Per->Prop} (h:∀ r,r∈R->∃ P,Q r P):∃ L:Row->List Per,∀ r,r∈R->Q r (L r):=by
 refine ⟨fun r=>if hr:r∈R then Classical.choose (h r hr) else [],fun r hr=>?_⟩
 show Q r (if hr:r∈R then Classical.choose (h r hr) else [])
 rw [dif_pos hr];exact Classical.choose_spec (h r hr)
def xFE (l:List Fc) (r:Row):(fun t=>(psOf l r).countP (hasP · t))=cnt l r:=funext fun t=>xqg l r t
def xAc (l:List Fc) (h:Bld l):∃ B,xbz (l.map encF)=some (B.map encF)/\xHg l B:=by
 obtain ⟨S,e1,hR,J,O⟩:=xyD l h.1 h.2.2;have hl:=h.2.1;obtain ⟨L,hL⟩:=xnC (R:=S.map (·.1)) (Q:=fun r P=>xeL ((psOf l r).map encP)=some (P.map encP)/\IsLevs (cnt l r) P/\P.length<=1048576) fun r hr=>by
  have q:=xvP l r;obtain ⟨P,a1,a2⟩:=xC9 (psOf l r) xCt (by omega)
  have a3:=a2.len;rw [xFE] at a2;refine ⟨P,a1,a2,Nat.le_trans a3 (Nat.mul_le_mul (Nat.le_trans q hl) (Nat.le_trans q hl))⟩
 have hk:∀ g,g∈S->g.1∈S.map (·.1):=fun g hg=>zK.2 ⟨g,hg,rfl⟩
 have eb:=xtz (.inl ⟨rfl,rfl⟩) S (by omega) (fun g hg=>by
  obtain ⟨f,hf,e,_⟩:=(hR.2 g.1).1 (hk g hg);rw [<-e];exact h.1.1.2 f hf) L (fun g hg=>by
  rw [J g hg];exact ⟨(hL _ (hk g hg)).1,(hL _ (hk g hg)).2.2⟩)
 refine ⟨xG7 (S.map (·.1)) L,?_,S.map (·.1),L,hR,fun r hr=>(hL r hr).2.1,rfl⟩
 have tt:∀ F:List Fc,List.take F.length (F.map encF)=F.map encF:=fun F=>zi (by simp)
 unfold xbz xk9 xjG xh6 xdL xhl;simp only [e1,zk,zh,xaa,za,eb,zH,zd,zn,zS,zr,tt,sUF]
def xFM (l:List Fc) (h:Bld l):∃ B,xgz (l.map encF)=some (B.map encF)/\xHj l B:=by
 obtain ⟨S,e1,hR,q,O⟩:=xyD l h.1 h.2.2;have hl:=h.2.1;obtain ⟨L,hL⟩:=xnC (R:=S.map (·.1)) (Q:=fun r P=>xhj ((psOf l r).map encP)=some (P.map encP)/\(IsSpan P/\∀ t,inL P t=decide (0<cnt l r t))/\P.length<=1048576) fun r hr=>by
  have J:=xvP l r;obtain ⟨P,a1,a2,a3⟩:=xCY (psOf l r) (by omega)
  have a4:∀ t,inL P t=decide (0<(psOf l r).countP (hasP · t)):=fun t=>by
   rw [a3,Bool.eq_iff_iff,zl,List.countP_pos_iff];unfold inL;rw [List.any_eq_true]
  refine ⟨P,a1,⟨a2,fun t=>by rw [a4,xqg]⟩,?_⟩
  have:=xs9 (k:=0) a2 a4;omega
 have hk:∀ g,g∈S->g.1∈S.map (·.1):=fun g hg=>zK.2 ⟨g,hg,rfl⟩
 have eb:=xtz (.inr ⟨rfl,rfl⟩) S (by omega) (fun g hg=>by
  obtain ⟨f,hf,e,_⟩:=(hR.2 g.1).1 (hk g hg);rw [<-e];exact h.1.1.2 f hf) L (fun g hg=>by
  rw [q g hg];exact ⟨(hL _ (hk g hg)).1,(hL _ (hk g hg)).2.2⟩)
 refine ⟨xG7 (S.map (·.1)) L,?_,S.map (·.1),L,hR,fun r hr=>(hL r hr).2.1,rfl⟩
 have tt:∀ F:List Fc,List.take F.length (F.map encF)=F.map encF:=fun F=>zi (by simp)
 unfold xgz xla xjH xh7 xdM xhm;simp only [e1,zk,zh,xaa,za,eb,zH,zd,zn,zS,zr,tt,sUF]
end Go.Sim.M
end
noncomputable section
set_option maxRecDepth 100000
namespace Go.Sim.M
open Go.RowKit Go.Sim.Srt
def xp2 {r:Row} (h:∀ v,v∈r->v.wf/\v.t.length<=1073741824) (hl:r.length<=60):(keyOf r).length<=17592186044416:=by
 have:=xmY (g:=keyV) (c:=1073741890) r fun v hv=>by
  obtain ⟨h1,h2⟩:=h v hv;have:=xvu h1 (by omega);omega
 unfold keyOf;have h2:1073741890*r.length<=1073741890*60:=Nat.mul_le_mul_left _ hl;omega
def xHg.all {l B:List Fc} (h:xHg l B) {Q:Row->Prop} (hq:∀ f,f∈l->Q f.r):∀ f,f∈B->Q f.r:=fun f hf=>by
 obtain ⟨_,g,hg,e⟩:=h.valid hf;rw [<-e];exact hq g hg
def xHj.all {l B:List Fc} (h:xHj l B) {Q:Row->Prop} (hq:∀ f,f∈l->Q f.r):∀ f,f∈B->Q f.r:=fun f hf=>by
 obtain ⟨R,L,h1,h2,rfl⟩:=h;obtain ⟨a,b⟩:=xjW hf;obtain ⟨g,g1,g2,_⟩:=(h1.2 _).1 a;rw [<-g2];exact hq g g1
def xHj.len {l B:List Fc} (h:xHj l B):B.length<=l.length*l.length:=by
 obtain ⟨R,L,h1,h2,rfl⟩:=h;refine xp5 (h1.1.nodup xkh) fun r hr=>?_
 obtain ⟨a,b⟩:=h2 r hr;have:=xs9 (ps:=psOf l r) (k:=0) a fun t=>by rw [b,xqg]
 exact Nat.le_trans this (Nat.le_mul_self _)
def dk (S:List Row):Nat->List Row
 | 0=>[]
 | k+1=>dk S k++(if k=0\/S[k - 1]?≠S[k]? then S[k]?.toList else [])
def xvc (S:List Row):∀ k,(dk S k).length<=k
 | 0=>zd _
 | k+1=>by
  have:=xvc S k;unfold dk;rw [z8];have:(if k=0\/S[k - 1]?≠S[k]? then S[k]?.toList else []).length<=1:=by
   split
   . cases S[k]?<;>simp
   . simp
  omega
def xCW (S:List Row) (hs:Sorted cmpR S):∀ k,k<=S.length->Strict cmpR (dk S k)/\∀ x,x∈dk S k↔x∈S.take k
 | 0,_=>⟨List.Pairwise.nil,fun x=>by simp [dk]⟩
 | k+1,hk=>by
  obtain ⟨h1,h2⟩:=xCW S hs k (by omega)
  have J:k<S.length:=by omega
  have tk:S.take (k+1)=S.take k++[S[k]]:=by rw [List.take_add_one,ze J];rfl
  unfold dk;rw [ze J,tk];by_cases hc:k=0\/S[k - 1]?≠some S[k]
  . rw [if_pos hc];refine ⟨List.pairwise_append.2 ⟨h1,List.pairwise_singleton _ _,fun x hx y hy=>?_⟩,fun x=>by rw [zG,zG,h2];rfl⟩
    simp at hy;subst hy;obtain ⟨i,hi,rfl⟩:=List.mem_take_iff_getElem.1 ((h2 x).1 hx);have Q:k≠0:=by omega
    have q:k - 1<S.length:=by omega
    have hne:S[k - 1]≠S[k]:=fun e=>by
     rcases hc with hc|hc
     . exact Q hc
     . exact hc (by rw [ze q,e])
    have c1:cmpR S[k - 1] S[k]<=0:=zB.1 hs _ _ q J (by omega)
    have c2:cmpR S[k - 1] S[k]<0:=by
     rcases Int.lt_or_eq_of_le c1 with c|c
     . exact c
     . exact absurd (xgY c) hne
    rcases zJ i (k - 1) with O|O
    . have c3:cmpR S[i] S[k - 1]<=0:=zB.1 hs _ _ (by omega) q O
      exact xkh.lt2 c3 c2
    . have:i=k - 1:=by omega
      subst this;exact c2
  . rw [if_neg hc,zD];refine ⟨h1,fun x=>?_⟩
    rw [h2,zG,zv];refine ⟨Or.inl,fun hh=>hh.elim id fun hx=>?_⟩
    have Q:k≠0:=fun e=>hc (.inl e)
    have he:S[k - 1]?=some S[k]:=by
     by_cases e:S[k - 1]?=some S[k]
     . exact e
     . exact absurd (.inr e) hc
    have q:k - 1<S.length:=by omega
    rw [ze q,z6] at he;rw [hx,<-he];exact List.mem_take_iff_getElem.2 ⟨k - 1,by omega,rfl⟩
def xHQ {n:Nat} (h:n<=1048576):(n+1)*24<=140737488355328/\n+1<=4611686018427387904:=by omega
def xwo (S:List Row) (hS:S.length<=1048576) (hr:∀ x,x∈S->x.length<=maxLen):Iter (xb0 (S.map encR)) ((0:Nat),(0:Int),[])=some ((dk S S.length).length,(dk S S.length).map encR):=by
 refine xld (fun k=>(((dk S k).length,((k:Nat):Int),(dk S k).map encR):Nat×Int×List AV)) S.length _ (fun k hk=>?_) ?_ S.length 0 (by omega)
 . have i1:(k:Int)<(S.length:Int):=by omega
   have gf:(S.map encR).getD k .top=encR S[k]:=xab _ _ _ hk;have dl:=xvc S k;obtain ⟨m1,m2⟩:=xHQ (n:=(dk S k).length) (by omega)
   cases k with
   | zero =>
    have:dk S (0+1)=[S[0]]:=by simp [dk,ze hk]
    rw [this];have i0:(((0:Nat):Int)==0)=true:=rfl;simp only [xb0,xfw,xc9,xex,sBU,hk,i0,i1,gf,cR0,sR0,m1,m2,xG8 (n:=0) (by omega)]
    rfl
   | succ j =>
    have hj:j<S.length:=by omega
    have i0:(((j+1:Nat):Int)==0)=false:=by simp;omega
    have i2:(j:Int)<(S.length:Int):=by omega
    have gj:(S.map encR).getD j .top=encR S[j]:=xab _ _ _ hj;have ee:=xFJ S[j] S[j+1] (hr _ (zo hj));have wj:IntKind.i64.wrap (((j+1:Nat):Int) - 1)=(j:Int):=by rw [xay (by omega) (by omega)];omega
    have sd:dk S (j+1+1)=dk S (j+1)++(if S[j]=S[j+1] then [] else [S[j+1]]):=by
     show dk S (j+1)++_=_;congr 1;rw [show j+1 - 1=j by omega,ze hj,ze hk]
     by_cases e:S[j]=S[j+1]
     . simp [e]
     . simp [e]
    rw [sd];simp only [xb0,xfw,xc9,xex,sBU,hk,hj,i0,i1,i2,gf,gj,cR0,sR0,ee,wj,cmp0,m1,m2,xG8 (n:=j+1) (by omega)]
    by_cases e:S[j]=S[j+1]
    . simp [e,xad,sUF]
    . simp [e,xaa,encR,sUF]
 . simp only [xb0,xfw,xc9,za,zy,zm,xad,sUF]
def xwp (l:List Row) (h:xHp l):∃ D,xlm (l.map encR)=some (D.map encR)/\Strict cmpR D/\(∀ x,x∈D↔x∈l)/\D.length<=l.length:=by
 obtain ⟨S,e1,p1,s1⟩:=xvW l h;have hS:=h.perm p1;obtain ⟨a1,a2⟩:=xCW S s1 S.length (zd _);have e2:=xwo S hS.1 (fun x hx=>by have:=hS.2 x hx;unfold maxLen;omega)
 refine ⟨dk S S.length,?_,a1,fun x=>by rw [a2,y6,p1.mem_iff],by rw [<-p1.length_eq];exact xvc _ _⟩
 have tt:List.take (dk S S.length).length ((dk S S.length).map encR)=(dk S S.length).map encR:=zi (by simp)
 unfold xlm xna;simp only [xeQ,e1,e2,zk,zh,xaa,zH,za,zd,zn,zS,zr,tt,sUF]
structure RGI (S:List Fc) (i:Nat) (G:List Grp):Prop where
 st:Strict cmpR (G.map (·.1))
 mem:∀ r,r∈G.map (·.1)↔∃ f,f∈S.take i/\f.r=r/\pv f.p=true
 ps:∀ g,g∈G->StepI (fun t=>((cnt S g.1 t:Nat):Int)) 1099511627776 g.2/\g.2.length<=2*S.length+1
 len:G.length<=i
 bd:∀ a b (ha:a<S.length) (hb:b<S.length),a<i->i<=b->cmpR S[a].r S[b].r<0
def xCE {B:List Fc} (h:B.length<=1048576) (hr:∀ f,f∈B->f.r.length<=60):xbm (B.map encF) (B.map encF)=some true:=by
 have:=xud B B h (fun f hf=>by have:=hr f hf;unfold maxLen;omega)
 rwa [decide_eq_true rfl] at this
def StepI.at {N:Int->Int} {T:Int} {S:List Per} (h:StepI N T S) {i:Nat} (hi:i<S.length):∀ (d:Nat) (t:Int),t=S[i].1+d->t<T->(∀ j (hj:j<S.length),i<j->t<S[j].1)->N t=S[i].2
 | 0,t,ht,hT,_=>by
  have:=(h.mem S[i]).1 (zo hi);rw [ht,this.2.2.1];simp
 | d+1,t,ht,hT,hn=>by
  have ih:=h.at hi d (t - 1) (by omega) (by omega) (fun j hj q=>by have:=hn j hj q;omega)
  by_cases hc:N (t - 1)=N t
  . rw [<-hc,ih]
  . exfalso;have h0:=((h.mem S[i]).1 (zo hi)).1;have hm:(t,N t)∈S:=(h.mem (t,N t)).2 ⟨by simp only;omega,hT,rfl,.inr hc⟩
    obtain ⟨j,hj,J⟩:=List.getElem_of_mem hm;have e1:S[j].1=t:=by rw [J]
    have q:i<j:=by
     rcases zJ i j with h'|h'
     . exact h'
     . exfalso;rcases zJ j i with h2|h2
       . have:=zB.1 h.asc j i hj hi h2;omega
       . have:i=j:=by omega
         subst this;omega
    have:=hn j hj q;omega
def StepI.first {N:Int->Int} {S:List Per} (h:StepI N 1099511627776 S):∃ hp:0<S.length,S[0].1=0:=by
 have hm:((0:Int),N 0)∈S:=(h.mem (0,N 0)).2 ⟨by simp,by simp,rfl,.inl rfl⟩
 obtain ⟨j,hj,q⟩:=List.getElem_of_mem hm;have e1:S[j].1=0:=by rw [q]
 refine ⟨by omega,?_⟩
 have h0:=((h.mem S[0]).1 (zo (by omega))).1
 rcases Nat.eq_zero_or_pos j with rfl|hp
 . exact e1
 . have:=zB.1 h.asc 0 j (by omega) hj hp;omega
def nanC (y:Int):xfb y=false:=by unfold xfb;simp
def cmpC (x y:Int):decide (xco x y<0)=decide (x<y)/\(xco x y==0)=decide (x=y):=by
 unfold xco;rw [nanC,nanC];simp only [xad,sUF];by_cases h1:x<y
 . have h2:¬ x=y:=by omega
   simp [h1,h2,xaa,sUF]
 . by_cases h3:x>y
   . have h2:¬ x=y:=by omega
     have h3':y<x:=h3;simp [h1,h2,h3',xaa,xad,sUF]
   . have h2:x=y:=by omega
     subst h2;simp [xaa,xad,sUF]
def gS {S:List Per} {k:Nat} (h:k<S.length):(S.map encP).getD k .top=encP S[k]:=xab _ _ _ h
def xBN (S:List Per) (x:Int) (hn:S.length<=1048576) (h:S.Pairwise fun a b=>a.1<b.1):∃ a:Nat,Iter (xap (S.map encP) x ((S.length:Nat):Int)) ((0:Int),((S.length:Nat):Int))=some ((a:Nat):Int)/\a<=S.length/\(∀ k (hk:k<S.length),k<a->S[k].1<x)/\∀ k (hk:k<S.length),a<=k->x<=S[k].1:=by
 have O:=zB.1 h;obtain ⟨r,h1,a,rfl,h2,h3,h4⟩:=xoW (step:=xap (S.map encP) x ((S.length:Nat):Int)) (fun s=>∃ a b:Nat,s=((a:Int),(b:Int))/\a<=b/\b<=S.length/\(∀ k (hk:k<S.length),k<a->S[k].1<x)/\∀ k (hk:k<S.length),b<=k->x<=S[k].1) (fun s=>(s.2 - s.1).toNat)
  (fun r=>∃ a:Nat,r=(a:Int)/\a<=S.length/\(∀ k (hk:k<S.length),k<a->S[k].1<x)/\∀ k (hk:k<S.length),a<=k->x<=S[k].1) (fun s hs=>by
   obtain ⟨a,b,rfl,Z,hb,Q,V⟩:=hs;by_cases aa:a<b
   . left;have e:=xHP (i:=a) (j:=b) (by omega)
     have hm:(a+b) / 2<S.length:=by omega
     have g1:(a:Int)<(b:Int):=by omega
     have g2:(((a+b) / 2:Nat):Int)<(S.length:Int):=by omega
     have w:IntKind.i64.wrap ((((a+b) / 2:Nat):Int)+1)=(((a+b) / 2+1:Nat):Int):=xG8 (by omega)
     have J:=(cmpC S[(a+b) / 2].1 x).1;cases hc:decide (S[(a+b) / 2].1<x) with
     | true =>
      rw [hc] at J;refine ⟨((((a+b) / 2+1:Nat):Int),(b:Int)),?_,⟨(a+b) / 2+1,b,rfl,by omega,hb,fun k hk W=>?_,V⟩,by dsimp only;omega⟩
      . simp only [xap,xa5,xax,xaC,xgg,e,sBU,g1,g2,hm,gS hm,cP0,cP1,lP,sP,sP0,sP1,J,w]
      . have hc':=of_decide_eq_true hc;rcases zJ k ((a+b) / 2) with q|q
        . have:=O k _ hk hm q;omega
        . have:k=(a+b) / 2:=by omega
          subst this;exact hc'
     | false =>
      rw [hc] at J;refine ⟨((a:Int),(((a+b) / 2:Nat):Int)),?_,⟨a,(a+b) / 2,rfl,by omega,by omega,Q,fun k hk Y=>?_⟩,by dsimp only;omega⟩
      . simp only [xap,xa5,xax,xaC,xgg,e,sBU,g1,g2,hm,gS hm,cP0,cP1,lP,sP,sP0,sP1,J,w]
      . have hc':=of_decide_eq_false hc;rcases zJ ((a+b) / 2) k with q|q
        . have:=O _ k hm hk q;omega
        . have:k=(a+b) / 2:=by omega
          subst this;omega
   . right;obtain rfl:a=b:=by omega
     refine ⟨(a:Int),?_,a,rfl,hb,Q,V⟩;simp only [xap,xa5,zy,zm,xad,sUF]) ((0:Int),((S.length:Nat):Int)) ⟨0,S.length,rfl,by omega,by omega,fun k hk W=>by omega,fun k hk Y=>by omega⟩
 exact ⟨a,h1,h2,h3,h4⟩
def xrX {N:Int->Int} {S:List Per} (h:StepI N 1099511627776 S) (hl:S.length<=1048576) {t:Int} (h0:0<=t) (h1:t<1099511627776):xbq (S.map encP) t=some (N t):=by
 obtain ⟨a,e1,ha,V,Z⟩:=xBN S t hl h.asc;obtain ⟨hp,W⟩:=h.first
 have Q:=zB.1 h.asc;have key:∃ i:Nat,∃ hi:i<S.length,xdy (S.map encP) t=some (i:Int)/\S[i].1<=t/\∀ j (hj:j<S.length),i<j->t<S[j].1:=by
  unfold xdy xkx;unfold xbQ xdk;simp only [xbi,xaD,za,e1,zk,zh,xaa,zN,sUF];rcases zJ a S.length with q|ac
  . have g1:(a:Int)<(S.length:Int):=by omega
    have J:=(cmpC S[a].1 t).2;by_cases he:S[a].1=t
    . rw [decide_eq_true he] at J;refine ⟨a,q,?_,by omega,fun j hj O=>by have:=Q a j q hj O;omega⟩
      simp only [g1,q,gS q,sBU,cP0,cP1,lP,sP,sP0,sP1,xgg,J]
    . rw [decide_eq_false he] at J;have aa:=Z a q (zd a);have ab:0<a:=by
       rcases Nat.eq_zero_or_pos a with rfl|h'
       . omega
       . exact h'
      obtain ⟨m,rfl⟩:∃ m,a=m+1:=⟨a - 1,by omega⟩
      refine ⟨m,by omega,?_,by have:=V m (by omega) (by omega);omega,fun j hj O=>?_⟩
      . have w:IntKind.i64.wrap (((m+1:Nat):Int) - 1)=(m:Int):=by rw [xay (by omega) (by omega)];omega
        simp only [g1,q,gS q,sBU,cP0,cP1,lP,sP,sP0,sP1,xgg,J,w]
      . rcases zJ (m+1) j with h'|h'
        . have:=Q (m+1) j q hj h';omega
        . have:j=m+1:=by omega
          subst this;omega
  . have g1:¬ (a:Int)<(S.length:Int):=by omega
    obtain ⟨m,rfl⟩:∃ m,a=m+1:=⟨a - 1,by omega⟩
    refine ⟨m,by omega,?_,by have:=V m (by omega) (by omega);omega,fun j hj O=>by omega⟩
    have w:IntKind.i64.wrap (((m+1:Nat):Int) - 1)=(m:Int):=by rw [xay (by omega) (by omega)];omega
    simp only [g1,zm,xad,zk,zh,xaa,w,sUF]
 obtain ⟨i,hi,e2,ad,Y⟩:=key;have hv:N t=S[i].2:=h.at hi (t - S[i].1).toNat t (by omega) h1 Y
 have g0:¬ t<0:=by omega
 have g1:¬ t>=1099511627776:=by omega
 have g2:¬ ((i:Nat):Int)<0:=by omega
 have g3:(i:Int)<(S.length:Int):=by omega
 unfold xbq xmH;simp only [g0,g1,g2,g3,e2,gS hi,hi,sBU,cP0,cP1,lP,sP,sP0,sP1,hv]
def xHi (D:List Int) (n:Int):List Int:=match D.getLast? with
 | some d=>if d=n then D else D++[n]
 | none=>D++[n]
theorem xqh (n:Int):xHi [] n=[n]:=rfl
theorem xo0 (D:List Int) (d n:Int):xHi (D++[d]) n=if d=n then D++[d] else D++[d]++[n]:=by simp [xHi]
theorem xt9 (D:List Int) (n:Int):(xHi D n).length<=D.length+1:=by
 unfold xHi;split
 . split<;>simp
 . simp
theorem xnO {D:List Int} {n x:Int}:x∈xHi D n↔x∈D\/x=n:=by
 rcases List.eq_nil_or_concat D with rfl|⟨D',d,rfl⟩
 . simp [xqh]
 . rw [List.concat_eq_append,xo0];split
   . rename_i h;subst h;simp
   . simp [or_assoc]
theorem xt8 {D:List Int} {n:Int} (h:Asc D) (hn:∀ x,x∈D->x<=n):Asc (xHi D n):=by
 rcases List.eq_nil_or_concat D with rfl|⟨D',d,rfl⟩
 . simp [xqh]
 . rw [List.concat_eq_append] at h hn |-;rw [xo0];split
   . exact h
   . rename_i hne;refine List.pairwise_append.2 ⟨h,by simp,fun x hx y hy=>?_⟩
     simp only [zv] at hy;subst hy;have hd:=hn d (by simp)
     rcases zG.1 hx with hx|hx
     . have:=(List.pairwise_append.1 h).2.2 x hx d (by simp)
       omega
     . simp only [zv] at hx;subst hx;omega
theorem gD {D:List Int} {d:Int}:((D++[d]).map encN).getD D.length .top=encN d:=by simp [z7]
theorem xyz {T:Type} {δ:T} (κ:Nat->List AV->T) (D:List Int) (hD:D.length<=1099511627776) (n:Int) :
  br ((↑D.length:Int)==(0:Int)) (br (D.length==(D.map encN).length&&(decide ((D.length+(1:Nat))*(8:Nat)<=(140737488355328:Nat))&&decide (D.length+(1:Nat)<=(4611686018427387904:Nat)))) (κ (D.length+1) (D.map encN++[AV.int IntKind.i64 n])) δ)
   (br (decide ((0:Int)<=IntKind.i64.wrap ((↑D.length:Int) - (1:Int)))&&decide (IntKind.i64.wrap ((↑D.length:Int) - (1:Int))<(↑D.length:Int))) (br (decide ((0:Nat)+(IntKind.i64.wrap ((↑D.length:Int) - (1:Int))).toNat<(D.map encN).length)&&xHV (Sh.int IntKind.i64) (((D.map encN).getD ((0:Nat)+(IntKind.i64.wrap ((↑D.length:Int) - (1:Int))).toNat) AV.top).cells.getD (0:Nat) AV.top))
    (br ((((D.map encN).getD ((0:Nat)+(IntKind.i64.wrap ((↑D.length:Int) - (1:Int))).toNat) AV.top).cells.getD (0:Nat) AV.top).toInt != n) (br (D.length==(D.map encN).length&&(decide ((D.length+(1:Nat))*(8:Nat)<=(140737488355328:Nat))&&decide (D.length+(1:Nat)<=(4611686018427387904:Nat)))) (κ (D.length+1) (D.map encN++[AV.int IntKind.i64 n])) δ) (κ D.length (D.map encN))) δ) δ)=κ (xHi D n).length ((xHi D n).map encN):=by
 have c1:(D.length==(D.map encN).length&&(decide ((D.length+(1:Nat))*(8:Nat)<=(140737488355328:Nat))&&decide (D.length+(1:Nat)<=(4611686018427387904:Nat))))=true:=by
  simp only [za,beq_self_eq_true,Bool.true_and,zf,zl];omega
 rw [c1];rcases List.eq_nil_or_concat D with rfl|⟨D',d,rfl⟩
 . simp [xaa,xqh,encN,sUF]
 . rw [List.concat_eq_append] at hD |-;have hl:(D'++[d]).length=D'.length+1:=by simp
   have w:IntKind.i64.wrap (((D'.length+1:Nat):Int) - 1)=(D'.length:Int):=by rw [xay (by omega) (by omega)];omega
   have h0:(((D'.length+1:Nat):Int)==0)=false:=by simp;omega
   have g1:(D'.length:Int)<((D'.length+1:Nat):Int):=by omega
   have hs:xHV (Sh.int IntKind.i64) ((encN d).cells.getD 0 .top)=true:=rfl;have hi:((encN d).cells.getD 0 .top).toInt=d:=rfl;rw [xo0,hl,h0,w];simp only [zN,zH,gD,hs,hi,g1,za,hl,Int.natCast_nonneg,zn,zS,Bool.true_and,xad,xaa,Nat.lt_succ_self,sUF];by_cases hd:d=n
   . subst hd;simp [xad,sUF]
   . have:(d != n)=true:=by simpa using hd
     rw [this,if_neg hd];simp [xaa,encN,sUF]
section
variable {S T : List Per} {i k : Nat}
theorem mv7 (h:i<S.length):xgw (S.map encP) (i:Int)=true:=by
 unfold xgw;have:(i:Int)<(S.length:Int):=by omega
 simp [this,xaa,sUF]
theorem mv6 (h:i<S.length):xgv (S.map encP) (i:Int)=true:=by
 unfold xgv;have:(i:Int)<(S.length:Int):=by omega
 simp [this,xaa,sUF]
theorem mv3 (h:i<S.length):xgu (S.map encP) (i:Int)=true:=by
 unfold xgu;simp only [gS h,h,sBU,cP0,cP1,lP,sP,sP0,sP1]
theorem mv2 (h:i<S.length):xgt (S.map encP) (i:Int)=true:=by
 unfold xgt;simp only [gS h,h,sBU,cP0,cP1,lP,sP,sP0,sP1]
theorem mv11 (h:i<S.length):xeo (S.map encP) (i:Int)=S[i].1:=by
 unfold xeo xk0;simp only [gS h,sBU,cP0,cP1,lP,sP,sP0,sP1]
theorem mv10 (h:i<S.length):xen (S.map encP) (i:Int)=S[i].1:=by
 unfold xen xk0;simp only [gS h,sBU,cP0,cP1,lP,sP,sP0,sP1]
theorem xFN (hi:i<S.length) (hS:S.length<=1048576) (D:List Int) (hD:D.length<=1099511627776) (hk:k<=T.length) (h:∀ hk:k<T.length,S[i].1<=T[k].1) :
  xa9 (S.map encP) (T.map encP) (D.length,(i:Int),(k:Int),D.map encN)=some (.inl ((xHi D S[i].1).length,((i+1:Nat):Int),(k:Int),(xHi D S[i].1).map encN)):=by
 have hw:IntKind.i64.wrap ((i:Int)+1)=((i+1:Nat):Int):=xG8 (by omega)
 have hb:=xyz (T:=Option ((Nat×Int×Int×List AV)⊕(Nat×List AV))) (δ:=none) (fun m out=>some (.inl (m,((i+1:Nat):Int),(k:Int),out))) D hD S[i].1
 have c1:decide ((i:Int)<((S.map encP).length:Int))=true:=by simp;omega
 unfold xa9 xfr xei xej xek xel xem;dsimp only;rw [c1];simp only [xaa,sUF];rcases zJ k T.length with q|J
 . have c2:((k:Int)==((T.map encP).length:Int))=false:=by simp;omega
   have c8:xeU (S.map encP) (T.map encP) (i:Int) (k:Int)=true:=by
    unfold xeU;rw [mv11 hi,mv10 q];exact decide_eq_true (h q)
   rw [c2];simp only [xaa,xad,sUF];rw [mv7 hi,mv3 hi,mv6 q,mv2 q,c8];simp only [xaa,sUF];unfold xjh;rw [mv11 hi,hw];exact hb
 . have c2:((k:Int)==((T.map encP).length:Int))=true:=by simp;omega
   rw [c2];simp only [xaa,sUF];rw [mv7 hi,mv3 hi];simp only [xaa,sUF];unfold xjh;rw [mv11 hi,hw];exact hb
theorem xFO (hk:k<T.length) (hT:T.length<=1048576) (D:List Int) (hD:D.length<=1099511627776) (hi:i<=S.length) (h:∀ hi:i<S.length,T[k].1<S[i].1) :
  xa9 (S.map encP) (T.map encP) (D.length,(i:Int),(k:Int),D.map encN)=some (.inl ((xHi D T[k].1).length,(i:Int),((k+1:Nat):Int),(xHi D T[k].1).map encN)):=by
 have hw:IntKind.i64.wrap ((k:Int)+1)=((k+1:Nat):Int):=xG8 (by omega)
 have hb:=xyz (T:=Option ((Nat×Int×Int×List AV)⊕(Nat×List AV))) (δ:=none) (fun m out=>some (.inl (m,(i:Int),((k+1:Nat):Int),out))) D hD T[k].1
 have c2:((k:Int)==((T.map encP).length:Int))=false:=by simp;omega
 have c3:decide ((k:Int)<((T.map encP).length:Int))=true:=by simp;omega
 unfold xa9 xfr xei xej xek xel xem;dsimp only;rcases zJ i S.length with q|J
 . have c1:decide ((i:Int)<((S.map encP).length:Int))=true:=by simp;omega
   have c8:xeU (S.map encP) (T.map encP) (i:Int) (k:Int)=false:=by
    unfold xeU;rw [mv11 q,mv10 hk];exact decide_eq_false (by have:=h q;omega)
   rw [c1,c2];simp only [xaa,xad,sUF];rw [mv7 q,mv3 q,mv6 hk,mv2 hk,c8];simp only [xaa,xad,sUF];unfold xji;rw [mv10 hk,hw];exact hb
 . have c1:decide ((i:Int)<((S.map encP).length:Int))=false:=by simp;omega
   rw [c1];simp only [xad,sUF];rw [c3];simp only [xaa,sUF]
   try rw [c2]
   try simp only [xaa,xad,sUF]
   try rw [c1]
   try simp only [xaa,xad,sUF]
   rw [mv6 hk,mv2 hk];simp only [xaa,sUF];unfold xji;rw [mv10 hk,hw];exact hb
theorem xCK (D:List Int):xa9 (S.map encP) (T.map encP) (D.length,(S.length:Int),(T.length:Int),D.map encN)=some (.inr (D.length,D.map encN)):=by
 have c1:decide ((S.length:Int)<((S.map encP).length:Int))=false:=by simp
 have c3:decide ((T.length:Int)<((T.map encP).length:Int))=false:=by simp
 unfold xa9 xfr xei xej xek xel xem;dsimp only;rw [c1];simp only [xad,sUF];rw [c3];simp only [xad,sUF]
end
theorem xCj (S T:List Per) (hS:S.length<=1048576) (hT:T.length<=1048576) (aS:S.Pairwise fun a b=>a.1<b.1) (aT:T.Pairwise fun a b=>a.1<b.1) :
  ∃ D:List Int,xbr (S.map encP) (T.map encP)=some (D.map encN)/\Asc D/\(∀ x,x∈D↔(∃ s,s∈S/\s.1=x)\/∃ s,s∈T/\s.1=x)/\D.length<=S.length+T.length:=by
 have pS:=zB.1 aS;have pT:=zB.1 aT;obtain ⟨r,h1,D,rfl,h2,h3,h4⟩:=xoW (step:=xa9 (S.map encP) (T.map encP)) (fun s=>∃ (i k:Nat) (D:List Int),s=(D.length,(i:Int),(k:Int),D.map encN)/\i<=S.length/\k<=T.length/\Asc D/\(∀ x,x∈D↔(∃ j,∃ hj:j<S.length,j<i/\S[j].1=x)\/∃ j,∃ hj:j<T.length,j<k/\T[j].1=x)/\(∀ x,x∈D->(∀ h:i<S.length,x<=S[i].1)/\∀ h:k<T.length,x<=T[k].1)/\D.length<=i+k) (fun s=>((S.length:Int) - s.2.1+((T.length:Int) - s.2.2.1)).toNat)
  (fun r=>∃ D:List Int,r=(D.length,D.map encN)/\Asc D/\(∀ x,x∈D↔(∃ s,s∈S/\s.1=x)\/∃ s,s∈T/\s.1=x)/\D.length<=S.length+T.length) (fun s hs=>by
   obtain ⟨i,k,D,rfl,hi,hk,hA,hm,Q,hl⟩:=hs;by_cases W:∃ h:i<S.length,∀ hk:k<T.length,S[i].1<=T[k].1
   . obtain ⟨O,q⟩:=W;left;refine ⟨_,xFN O hS D (by omega) hk q,⟨i+1,k,xHi D S[i].1,rfl,O,hk,xt8 hA fun x hx=>(Q x hx).1 O,fun x=>?_,fun x hx=>?_,by have:=xt9 D S[i].1;omega⟩,by dsimp only;omega⟩
     . rw [xnO,hm];constructor
       . rintro ((⟨j,hj,V,e⟩|h)|rfl)
         . exact .inl ⟨j,hj,by omega,e⟩
         . exact .inr h
         . exact .inl ⟨i,O,by omega,rfl⟩
       . rintro (⟨j,hj,V,e⟩|h)
         . rcases zJ j i with h'|h'
           . exact .inl (.inl ⟨j,hj,h',e⟩)
           . have:j=i:=by omega
             subst this;exact .inr e.symm
         . exact .inl (.inr h)
     . have aa:x<=S[i].1:=by
        rcases xnO.1 hx with h|rfl
        . exact (Q x h).1 O
        . omega
       exact ⟨fun h=>by have:=pS i (i+1) O h (by omega);omega,fun h=>by have:=q h;omega⟩
   . by_cases J:k<T.length
     . left;have q:∀ hi:i<S.length,T[k].1<S[i].1:=fun h=>by
        rcases Int.lt_or_le T[k].1 S[i].1 with h'|h'
        . exact h'
        . exact absurd ⟨h,fun _=>h'⟩ W
       refine ⟨_,xFO J hT D (by omega) hi q,⟨i,k+1,xHi D T[k].1,rfl,hi,J,xt8 hA fun x hx=>(Q x hx).2 J,fun x=>?_,fun x hx=>?_,by have:=xt9 D T[k].1;omega⟩,by dsimp only;omega⟩
       . rw [xnO,hm];constructor
         . rintro ((h|⟨j,hj,V,e⟩)|rfl)
           . exact .inl h
           . exact .inr ⟨j,hj,by omega,e⟩
           . exact .inr ⟨k,J,by omega,rfl⟩
         . rintro (h|⟨j,hj,V,e⟩)
           . exact .inl (.inl h)
           . rcases zJ j k with h'|h'
             . exact .inl (.inr ⟨j,hj,h',e⟩)
             . have:j=k:=by omega
               subst this;exact .inr e.symm
       . have aa:x<=T[k].1:=by
          rcases xnO.1 hx with h|rfl
          . exact (Q x h).2 J
          . omega
         exact ⟨fun h=>by have:=q h;omega,fun h=>by have:=pT k (k+1) J h (by omega);omega⟩
     . right;have Y:i=S.length:=by
        rcases zJ i S.length with h'|h'
        . exact absurd ⟨h',fun h=>absurd h J⟩ W
        . omega
       have Z:k=T.length:=by omega
       subst Y Z;refine ⟨_,xCK D,D,rfl,hA,fun x=>?_,hl⟩
       rw [hm];constructor
       . rintro (⟨j,hj,_,e⟩|⟨j,hj,_,e⟩)
         . exact .inl ⟨S[j],zo hj,e⟩
         . exact .inr ⟨T[j],zo hj,e⟩
       . rintro (⟨s,hs,e⟩|⟨s,hs,e⟩)
         . obtain ⟨j,hj,rfl⟩:=List.getElem_of_mem hs;exact .inl ⟨j,hj,hj,e⟩
         . obtain ⟨j,hj,rfl⟩:=List.getElem_of_mem hs;exact .inr ⟨j,hj,hj,e⟩) ((0:Nat),(0:Int),(0:Int),[]) ⟨0,0,[],rfl,zQ _,zQ _,List.Pairwise.nil,fun x=>by simp,fun x hx=>by simp at hx,zd _⟩
 refine ⟨D,?_,h2,h3,h4⟩;unfold xbr xmj xfi;rw [h1];simp [xaa,zi,sUF]
end Go.Sim.M
end
noncomputable section
set_option maxRecDepth 100000
namespace Go.Sim.M
open Go.RowKit Go.Sim.Srt
def xHe (N:Int->Int) (S:List Per):Prop:=StepI N 1099511627776 S\/(S=[]/\∀ t,N t=0)
def xHe.asc {N:Int->Int} {S:List Per} (h:xHe N S):S.Pairwise fun a b=>a.1<b.1:=by
 rcases h with h|⟨rfl,_⟩
 . exact h.asc
 . exact List.Pairwise.nil
def xEH (t:Int) (h0:0<=t) (h1:t<1099511627776):xbq [] t=some 0:=by
 have e1:Iter (xap [] t (([]:List AV).length:Int)) ((0:Int),(([]:List AV).length:Int))=some 0:=xac (by
  simp [xap,xa5,xad,sUF])
 have e2:xdy [] t=some (-1):=by
  unfold xdy xkx xbQ xdk;simp only [xbi,xaD,e1,sUF];simp [xaa,xad,sUF];rw [xay (by omega) (by omega)]
 have g0:¬ t<0:=by omega
 have g1:¬ t>=1099511627776:=by omega
 unfold xbq xmH;simp [g0,g1,e2,xaa,xad,sUF]
def xHe.at {N:Int->Int} {S:List Per} (h:xHe N S) (hl:S.length<=1048576) {t:Int} (h0:0<=t) (h1:t<1099511627776):xbq (S.map encP) t=some (N t):=by
 rcases h with h|⟨rfl,hz⟩
 . exact xrX h hl h0 h1
 . rw [hz];exact xEH t h0 h1
def xHe.chg {N:Int->Int} {S:List Per} (h:xHe N S) {t:Int} (h0:0<t) (h1:t<1099511627776) (hc:N (t - 1)≠N t):∃ s,s∈S/\s.1=t:=by
 rcases h with h|⟨rfl,hz⟩
 . exact ⟨(t,N t),(h.mem (t,N t)).2 ⟨by simp only;omega,h1,rfl,.inr hc⟩,rfl⟩
 . rw [hz,hz] at hc;exact absurd rfl hc
def xHe.rng {N:Int->Int} {S:List Per} (h:xHe N S) {s:Per} (hs:s∈S):0<=s.1/\s.1<1099511627776:=by
 rcases h with h|⟨rfl,_⟩
 . have:=(h.mem s).1 hs;exact ⟨this.1,this.2.1⟩
 . simp at hs
def xvl {F:Int->Int}:∀ (D:List Int),Asc D->∀ (T:Int) (S:List Per),StepI F T S->(0<T->∀ x,x∈D->T<=x)->0<=T->(T=0->(∃ x,D.head?=some x/\x=0)\/D=[])->(∀ x,x∈D->x<1099511627776)->(∀ t,T<=t->0<t->t<1099511627776->F (t - 1)≠F t->t∈D)->(D=[]->0<T)->T<=1099511627776 ->
  StepI F 1099511627776 (D.foldl (fun S x=>putS S x (F x)) S)
 | [],_,T,S,hS,_,_,_,_,hch,hne,hT=>by
  have q:=hne rfl;simp only [List.foldl_nil];rcases Int.lt_or_le T 1099511627776 with Q|ab
  . have hc:∀ d:Nat,T+d<=1099511627776 - 1->F (T+d)=F (T - 1):=by
     intro d;induction d with
     | zero =>
      intro h;have h2:¬ F (T - 1)≠F T:=fun hx=>by have:=hch T (Int.le_refl T) q Q hx;simp at this
      simp only [ne_eq,Decidable.not_not] at h2;simp [h2]
     | succ d ih =>
      intro h;have ih:=ih (by omega)
      have h2:¬ F (T+(d+1:Nat) - 1)≠F (T+(d+1:Nat)):=fun hx=>by have:=hch (T+(d+1:Nat)) (by omega) (by omega) (by omega) hx;simp at this
      simp only [ne_eq,Decidable.not_not] at h2;rw [<-h2,show T+((d+1:Nat):Int) - 1=T+d by omega,ih]
    have hF:∀ t,T - 1<=t->t<1099511627776->F t=F (T - 1):=fun t h1 h2=>by
     rcases Int.lt_or_le t T with h3|h3
     . rw [show t=T - 1 by omega]
     . have:=hc (t - T).toNat (by omega)
       rw [show T+((t - T).toNat:Int)=t by omega] at this
       exact this
    refine ⟨hS.asc,fun s=>?_,fun _=>?_⟩
    . rw [hS.mem];constructor
      . rintro ⟨a,b,c,d⟩;exact ⟨a,by omega,c,d⟩
      . rintro ⟨a,b,c,d⟩;refine ⟨a,?_,c,d⟩;rcases Int.lt_or_le s.1 T with h3|h3
        . exact h3
        . exfalso;rcases d with d|d
          . omega
          . have e1:=hF s.1 (by omega) b
            have e2:=hF (s.1 - 1) (by omega) (by omega)
            rw [c,e1] at d;exact d e2
    . obtain ⟨S',f,hf⟩:=hS.last q;refine ⟨S',f,?_⟩;rw [hF (1099511627776 - 1) (by omega) (by omega)]
      exact hf
  . have:T=1099511627776:=by omega
    rw [this] at hS;exact hS
 | x::D,hA,T,S,hS,hle,h0,hz,hx,hch,hne,hT=>by
  rw [List.foldl_cons];have Y:0<=x:=by
   rcases Int.lt_or_le 0 T with h|h
   . have:=hle h x (by simp);omega
   . have q:T=0:=by omega
     rcases hz q with ⟨y,hy,rfl⟩|h'
     . simp at hy;omega
     . cases h'
  have ac:T<=x:=by
   rcases Int.lt_or_le 0 T with h|h
   . exact hle h x (by simp)
   . omega
  have Q:=hx x (by simp)
  have J:∀ t,T<=t->0<t->t<x->F (t - 1)=F t:=fun t h1 h2 h3=>by
   have h4:¬ F (t - 1)≠F t:=fun hc=>by
    have hm:=hch t h1 h2 (by omega) hc
    rcases zC.1 hm with rfl|hm
    . omega
    . have:=(zM.1 hA).1 t hm;omega
   simpa using h4
  have W:StepI F x S\/(x=0/\T=0):=by
   rcases Int.lt_or_le 0 T with V|aa
   . left;have hF:∀ d:Nat,T+d<=x->F (T+d - 1)=F (T - 1):=by
      intro d;induction d with
      | zero=>intro _;simp
      | succ d ih =>
       intro h;have ih:=ih (by omega)
       have:=J (T+d) (by omega) (by omega) (by omega)
       rw [show T+((d+1:Nat):Int) - 1=T+d by omega,<-this,ih]
     have O:∀ t,T - 1<=t->t<x->F t=F (T - 1):=fun t h1 h2=>by
      have:=hF (t+1 - T).toNat (by omega)
      rw [show T+((t+1 - T).toNat:Int) - 1=t by omega] at this
      exact this
     refine ⟨hS.asc,fun s=>?_,fun _=>?_⟩
     . rw [hS.mem];constructor
       . rintro ⟨a,b,c,d⟩;exact ⟨a,by omega,c,d⟩
       . rintro ⟨a,b,c,d⟩;refine ⟨a,?_,c,d⟩;rcases Int.lt_or_le s.1 T with h3|h3
         . exact h3
         . exfalso;rcases d with d|d
           . omega
           . have e1:=O s.1 (by omega) b
             have e2:=O (s.1 - 1) (by omega) (by omega)
             rw [c,e1] at d;exact d e2
     . obtain ⟨S',f,hf⟩:=hS.last V;refine ⟨S',f,?_⟩;rw [O (x - 1) (by omega) (by omega)]
       exact hf
   . have q:T=0:=by omega
     rcases hz q with ⟨y,hy,rfl⟩|h'
     . simp at hy;exact .inr ⟨by omega,q⟩
     . cases h'
  have Z:StepI F (x+1) (putS S x (F x)):=by
   rcases W with h|⟨h,q⟩
   . exact h.put Y (by omega) fun t h1 h2=>by rw [show t=x by omega]
   . subst h;rw [q] at hS;exact hS.put (Int.le_refl 0) (by omega) fun t h1 h2=>by rw [show t=0 by omega]
  exact xvl D (zM.1 hA).2 (x+1) _ Z (fun _ y hy=>by have:=(zM.1 hA).1 y hy;omega) (by omega) (fun h=>by omega) (fun y hy=>hx y (by simp [hy])) (fun t h1 h2 h3 hc=>by
   have hm:=hch t (by omega) h2 h3 hc
   rcases zC.1 hm with rfl|hm
   . omega
   . exact hm) (fun _=>by omega) (by omega)
def xih {F:Int->Int}:∀ (D:List Int) (S:List Per),(D.foldl (fun S x=>putS S x (F x)) S).length<=S.length+D.length
 | [],S=>by simp
 | x::D,S=>by
  rw [List.foldl_cons];have h1:=xih (F:=F) D (putS S x (F x));have h2:=xlk S x (F x);rw [zF];omega
def xnK {N M:Int->Int} {S T:List Per} (hS:StepI N 1099511627776 S) (hT:xHe M T) (lS:S.length<=1048576) (lT:T.length<=1048576) {F:Int->Int} (hF:∀ t,F (t - 1)≠F t->N (t - 1)≠N t\/M (t - 1)≠M t) :
  ∃ D:List Int,xbr (S.map encP) (T.map encP)=some (D.map encN)/\D.length<=S.length+T.length/\(∀ x,x∈D->0<=x/\x<1099511627776)/\StepI F 1099511627776 (D.foldl (fun S x=>putS S x (F x)) []):=by
 obtain ⟨D,h1,h2,h3,h4⟩:=xCj S T lS lT hS.asc hT.asc;have hr:∀ x,x∈D->0<=x/\x<1099511627776:=fun x hx=>by
  rcases (h3 x).1 hx with ⟨s,hs,rfl⟩|⟨s,hs,rfl⟩
  . have:=(hS.mem s).1 hs;exact ⟨this.1,this.2.1⟩
  . exact hT.rng hs
 obtain ⟨hp,hf⟩:=hS.first
 have h0:(0:Int)∈D:=(h3 0).2 (.inl ⟨S[0],zo hp,hf⟩);refine ⟨D,h1,h4,hr,xvl D h2 0 [] (.nil F) (fun h=>by omega) (Int.le_refl 0) (fun _=>.inl ?_) (fun x hx=>(hr x hx).2) (fun t ht J q hc=>?_) (fun h=>by rw [h] at h0;simp at h0) (by omega)⟩
 . cases D with
   | nil=>simp at h0
   | cons x D =>
    refine ⟨x,rfl,?_⟩;rcases zC.1 h0 with h|h
    . exact h.symm
    . have:=(zM.1 h2).1 0 h;have:=(hr x (by simp)).1
      omega
 . rcases hF t hc with h|h
   . exact (h3 t).2 (.inl ⟨(t,N t),(hS.mem (t,N t)).2 ⟨by simp only;omega,q,rfl,.inr h⟩,rfl⟩)
   . obtain ⟨s,hs,e⟩:=hT.chg J q h;exact (h3 t).2 (.inr ⟨s,hs,e⟩)
def xyk {N M:Int->Int} {S T:List Per} (hS:StepI N 1099511627776 S) (hT:xHe M T) (lS:S.length<=1048576) (lT:T.length<=1048576) {F:Int->Int} (hF:∀ t,xkV (N t) (M t)=F t) (D:List Int) (hD:∀ x,x∈D->0<=x/\x<1099511627776) (hl:D.length<=2097152):∀ (d k:Nat) (out:List Per),k+d=D.length->out.length<=k ->
  Iter (xbS (S.map encP) (T.map encP) (D.map encN) ((D.length:Nat):Int)) (out.length,(k:Int),out.map encP)=some (((D.drop k).foldl (fun S x=>putS S x (F x)) out).length,((D.drop k).foldl (fun S x=>putS S x (F x)) out).map encP)
 | 0,k,out,hk,ho=>by
  have:k=D.length:=by omega
  subst this;refine xac ?_;simp [xbS,xe6,xad,sUF]
 | d+1,k,out,hk,ho=>by
  have q:k<D.length:=by omega
  obtain ⟨h0,h1⟩:=hD D[k] (zo q);have a1:=xrX hS lS h0 h1;have a2:=hT.at lT h0 h1;obtain ⟨p,p1,p2,p3⟩:=xoA out D[k] (F D[k]) (by omega)
  have p1:xaZ out.length D[k] (F D[k]) (out.map encP)=some p:=p1;have gf:(D.map encN).getD k .top=encN D[k]:=xab _ _ _ q;have i1:(k:Int)<(D.length:Int):=by omega
  have e:D.drop k=D[k]::D.drop (k+1):=List.drop_eq_getElem_cons q;rw [e,List.foldl_cons,<-xyk hS hT lS lT hF D hD hl d (k+1) (putS out D[k] (F D[k])) (by omega) (by have:=xlk out D[k] (F D[k]);omega)]
  refine xal ?_;rw [<-p2,<-p3];simp only [xbS,xe6,xbF,xgT,sBU,q,i1,gf,cN,sN,a1,a2,hF,p1,xG8 (n:=k) (by omega)]
def xE9 {N M:Int->Int} {S T:List Per} (hS:StepI N 1099511627776 S) (hT:xHe M T) (lS:S.length<=1048576) (lT:T.length<=1048576) {F:Int->Int} (hF:∀ t,xkV (N t) (M t)=F t) :
  ∃ U:List Per,xh1 (S.map encP) (T.map encP)=some (U.map encP)/\StepI F 1099511627776 U/\U.length<=S.length+T.length:=by
 obtain ⟨D,h1,h2,h3,h4⟩:=xnK hS hT lS lT (F:=F) (fun t h=>by
  by_cases hc:N (t - 1)=N t
  . right;intro h5;refine h ?_;rw [<-hF,<-hF,hc,h5]
  . exact .inl hc)
 refine ⟨_,?_,h4,by have:=xih (F:=F) D [];simp at this;omega⟩
 have q:=xyk hS hT lS lT hF D h3 (by omega) D.length 0 [] (by omega) (by simp)
 rw [zr] at q;have q:Iter (xbS (S.map encP) (T.map encP) (D.map encN) ((D.length:Nat):Int)) ((0:Nat),(0:Int),[])=_:=q;obtain ⟨hp,_⟩:=h4.first
 generalize D.foldl (fun S x=>putS S x (F x)) []=U at q hp
 have g0:(((U.length:Nat):Int)==0)=false:=by simp;intro h;rw [h] at hp;simp at hp
 unfold xh1 xjd xde xiB;simp only [h1,zk,zh,xaa,za,q,g0,xad,sUF];simp [xaa,zi,sUF]
def xyn {N M:Int->Int} {S T:List Per} (hS:StepI N 1099511627776 S) (hT:xHe M T) (lS:S.length<=1048576) (lT:T.length<=1048576) {F:Int->Int} (hF:∀ t,xkZ (N t) (M t)=F t) (D:List Int) (hD:∀ x,x∈D->0<=x/\x<1099511627776) (hl:D.length<=2097152):∀ (d k:Nat) (out:List Per),k+d=D.length->out.length<=k ->
  Iter (xbV (S.map encP) (T.map encP) (D.map encN) ((D.length:Nat):Int)) (out.length,(k:Int),out.map encP)=some (((D.drop k).foldl (fun S x=>putS S x (F x)) out).length,((D.drop k).foldl (fun S x=>putS S x (F x)) out).map encP)
 | 0,k,out,hk,ho=>by
  have:k=D.length:=by omega
  subst this;refine xac ?_;simp [xbV,xe9,xad,sUF]
 | d+1,k,out,hk,ho=>by
  have q:k<D.length:=by omega
  obtain ⟨h0,h1⟩:=hD D[k] (zo q);have a1:=xrX hS lS h0 h1;have a2:=hT.at lT h0 h1;obtain ⟨p,p1,p2,p3⟩:=xoA out D[k] (F D[k]) (by omega)
  have p1:xaZ out.length D[k] (F D[k]) (out.map encP)=some p:=p1;have gf:(D.map encN).getD k .top=encN D[k]:=xab _ _ _ q;have i1:(k:Int)<(D.length:Int):=by omega
  have e:D.drop k=D[k]::D.drop (k+1):=List.drop_eq_getElem_cons q;rw [e,List.foldl_cons,<-xyn hS hT lS lT hF D hD hl d (k+1) (putS out D[k] (F D[k])) (by omega) (by have:=xlk out D[k] (F D[k]);omega)]
  refine xal ?_;rw [<-p2,<-p3];simp only [xbV,xe9,xbI,xgW,sBU,q,i1,gf,cN,sN,a1,a2,hF,p1,xG8 (n:=k) (by omega)]
def xFc {N M:Int->Int} {S T:List Per} (hS:StepI N 1099511627776 S) (hT:xHe M T) (lS:S.length<=1048576) (lT:T.length<=1048576) {F:Int->Int} (hF:∀ t,xkZ (N t) (M t)=F t) :
  ∃ U:List Per,xh3 (S.map encP) (T.map encP)=some (U.map encP)/\StepI F 1099511627776 U/\U.length<=S.length+T.length:=by
 obtain ⟨D,h1,h2,h3,h4⟩:=xnK hS hT lS lT (F:=F) (fun t h=>by
  by_cases hc:N (t - 1)=N t
  . right;intro h5;refine h ?_;rw [<-hF,<-hF,hc,h5]
  . exact .inl hc)
 refine ⟨_,?_,h4,by have:=xih (F:=F) D [];simp at this;omega⟩
 have q:=xyn hS hT lS lT hF D h3 (by omega) D.length 0 [] (by omega) (by simp)
 rw [zr] at q;have q:Iter (xbV (S.map encP) (T.map encP) (D.map encN) ((D.length:Nat):Int)) ((0:Nat),(0:Int),[])=_:=q;obtain ⟨hp,_⟩:=h4.first
 generalize D.foldl (fun S x=>putS S x (F x)) []=U at q hp
 have g0:(((U.length:Nat):Int)==0)=false:=by simp;intro h;rw [h] at hp;simp at hp
 unfold xh3 xjg xdh xiE;simp only [h1,zk,zh,xaa,za,q,g0,xad,sUF];simp [xaa,zi,sUF]
def xym {N M:Int->Int} {S T:List Per} (hS:StepI N 1099511627776 S) (hT:xHe M T) (lS:S.length<=1048576) (lT:T.length<=1048576) {F:Int->Int} (hF:∀ t,xkY (N t) (M t)=F t) (D:List Int) (hD:∀ x,x∈D->0<=x/\x<1099511627776) (hl:D.length<=2097152):∀ (d k:Nat) (out:List Per),k+d=D.length->out.length<=k ->
  Iter (xbU (S.map encP) (T.map encP) (D.map encN) ((D.length:Nat):Int)) (out.length,(k:Int),out.map encP)=some (((D.drop k).foldl (fun S x=>putS S x (F x)) out).length,((D.drop k).foldl (fun S x=>putS S x (F x)) out).map encP)
 | 0,k,out,hk,ho=>by
  have:k=D.length:=by omega
  subst this;refine xac ?_;simp [xbU,xe8,xad,sUF]
 | d+1,k,out,hk,ho=>by
  have q:k<D.length:=by omega
  obtain ⟨h0,h1⟩:=hD D[k] (zo q);have a1:=xrX hS lS h0 h1;have a2:=hT.at lT h0 h1;obtain ⟨p,p1,p2,p3⟩:=xoA out D[k] (F D[k]) (by omega)
  have p1:xaZ out.length D[k] (F D[k]) (out.map encP)=some p:=p1;have gf:(D.map encN).getD k .top=encN D[k]:=xab _ _ _ q;have i1:(k:Int)<(D.length:Int):=by omega
  have e:D.drop k=D[k]::D.drop (k+1):=List.drop_eq_getElem_cons q;rw [e,List.foldl_cons,<-xym hS hT lS lT hF D hD hl d (k+1) (putS out D[k] (F D[k])) (by omega) (by have:=xlk out D[k] (F D[k]);omega)]
  refine xal ?_;rw [<-p2,<-p3];simp only [xbU,xe8,xbH,xgV,sBU,q,i1,gf,cN,sN,a1,a2,hF,p1,xG8 (n:=k) (by omega)]
def xFb {N M:Int->Int} {S T:List Per} (hS:StepI N 1099511627776 S) (hT:xHe M T) (lS:S.length<=1048576) (lT:T.length<=1048576) {F:Int->Int} (hF:∀ t,xkY (N t) (M t)=F t) :
  ∃ U:List Per,xh2 (S.map encP) (T.map encP)=some (U.map encP)/\StepI F 1099511627776 U/\U.length<=S.length+T.length:=by
 obtain ⟨D,h1,h2,h3,h4⟩:=xnK hS hT lS lT (F:=F) (fun t h=>by
  by_cases hc:N (t - 1)=N t
  . right;intro h5;refine h ?_;rw [<-hF,<-hF,hc,h5]
  . exact .inl hc)
 refine ⟨_,?_,h4,by have:=xih (F:=F) D [];simp at this;omega⟩
 have q:=xym hS hT lS lT hF D h3 (by omega) D.length 0 [] (by omega) (by simp)
 rw [zr] at q;have q:Iter (xbU (S.map encP) (T.map encP) (D.map encN) ((D.length:Nat):Int)) ((0:Nat),(0:Int),[])=_:=q;obtain ⟨hp,_⟩:=h4.first
 generalize D.foldl (fun S x=>putS S x (F x)) []=U at q hp
 have g0:(((U.length:Nat):Int)==0)=false:=by simp;intro h;rw [h] at hp;simp at hp
 unfold xh2 xjf xdg xiD;simp only [h1,zk,zh,xaa,za,q,g0,xad,sUF];simp [xaa,zi,sUF]
def xyl {N M:Int->Int} {S T:List Per} (hS:StepI N 1099511627776 S) (hT:xHe M T) (lS:S.length<=1048576) (lT:T.length<=1048576) {F:Int->Int} (hF:∀ t,xjt (N t) (M t)=F t) (D:List Int) (hD:∀ x,x∈D->0<=x/\x<1099511627776) (hl:D.length<=2097152):∀ (d k:Nat) (out:List Per),k+d=D.length->out.length<=k ->
  Iter (xbT (S.map encP) (T.map encP) (D.map encN) ((D.length:Nat):Int)) (out.length,(k:Int),out.map encP)=some (((D.drop k).foldl (fun S x=>putS S x (F x)) out).length,((D.drop k).foldl (fun S x=>putS S x (F x)) out).map encP)
 | 0,k,out,hk,ho=>by
  have:k=D.length:=by omega
  subst this;refine xac ?_;simp [xbT,xe7,xad,sUF]
 | d+1,k,out,hk,ho=>by
  have q:k<D.length:=by omega
  obtain ⟨h0,h1⟩:=hD D[k] (zo q);have a1:=xrX hS lS h0 h1;have a2:=hT.at lT h0 h1;obtain ⟨p,p1,p2,p3⟩:=xoA out D[k] (F D[k]) (by omega)
  have p1:xaZ out.length D[k] (F D[k]) (out.map encP)=some p:=p1;have gf:(D.map encN).getD k .top=encN D[k]:=xab _ _ _ q;have i1:(k:Int)<(D.length:Int):=by omega
  have e:D.drop k=D[k]::D.drop (k+1):=List.drop_eq_getElem_cons q;rw [e,List.foldl_cons,<-xyl hS hT lS lT hF D hD hl d (k+1) (putS out D[k] (F D[k])) (by omega) (by have:=xlk out D[k] (F D[k]);omega)]
  refine xal ?_;rw [<-p2,<-p3];simp only [xbT,xe7,xbG,xgU,sBU,q,i1,gf,cN,sN,a1,a2,hF,p1,xG8 (n:=k) (by omega)]
def xFa {N M:Int->Int} {S T:List Per} (hS:StepI N 1099511627776 S) (hT:xHe M T) (lS:S.length<=1048576) (lT:T.length<=1048576) {F:Int->Int} (hF:∀ t,xjt (N t) (M t)=F t) :
  ∃ U:List Per,xf9 (S.map encP) (T.map encP)=some (U.map encP)/\StepI F 1099511627776 U/\U.length<=S.length+T.length:=by
 obtain ⟨D,h1,h2,h3,h4⟩:=xnK hS hT lS lT (F:=F) (fun t h=>by
  by_cases hc:N (t - 1)=N t
  . right;intro h5;refine h ?_;rw [<-hF,<-hF,hc,h5]
  . exact .inl hc)
 refine ⟨_,?_,h4,by have:=xih (F:=F) D [];simp at this;omega⟩
 have q:=xyl hS hT lS lT hF D h3 (by omega) D.length 0 [] (by omega) (by simp)
 rw [zr] at q;have q:Iter (xbT (S.map encP) (T.map encP) (D.map encN) ((D.length:Nat):Int)) ((0:Nat),(0:Int),[])=_:=q;obtain ⟨hp,_⟩:=h4.first
 generalize D.foldl (fun S x=>putS S x (F x)) []=U at q hp
 have g0:(((U.length:Nat):Int)==0)=false:=by simp;intro h;rw [h] at hp;simp at hp
 unfold xf9 xje xdf xiC;simp only [h1,zk,zh,xaa,za,q,g0,xad,sUF];simp [xaa,zi,sUF]
def xEG {N M:Int->Int} {S T:List Per} (hS:StepI N 1099511627776 S) (hT:StepI M 1099511627776 T) (lS:S.length<=1048576) (lT:T.length<=1048576) (hN:∀ t,0<=N t/\N t<=1048576) (hM:∀ t,0<=M t/\M t<=1048576) :
  ∃ U:List Per,xlx (S.map encP) (T.map encP)=some (U.map encP)/\StepI (fun t=>N t+M t) 1099511627776 U/\U.length<=S.length+T.length:=by
 obtain ⟨U,h1,h2,h3⟩:=xE9 hS (.inl hT) lS lT (F:=fun t=>N t+M t) (fun t=>by
  have:=hN t;have:=hM t;unfold xkV;rw [xay (by omega) (by omega)])
 refine ⟨U,?_,h2,h3⟩;unfold xlx xof;simp only [h1,zk,zh,xaa,sUF]
def xFw {N M:Int->Int} {S T:List Per} (hS:StepI N 1099511627776 S) (hT:StepI M 1099511627776 T) (lS:S.length<=1048576) (lT:T.length<=1048576) :
  ∃ U:List Per,xl1 (S.map encP) (T.map encP)=some (U.map encP)/\StepI (fun t=>min (N t) (M t)) 1099511627776 U/\U.length<=S.length+T.length:=by
 obtain ⟨U,h1,h2,h3⟩:=xFb hS (.inl hT) lS lT (F:=fun t=>min (N t) (M t)) (fun t=>by
  unfold xkY;split<;>omega)
 refine ⟨U,?_,h2,h3⟩;unfold xl1 xog;simp only [h1,zk,zh,xaa,sUF]
def xFi {N M:Int->Int} {S T:List Per} (hS:StepI N 1099511627776 S) (hT:StepI M 1099511627776 T) (lS:S.length<=262144) (lT:T.length<=262144) (hN:∀ t,0<=N t/\N t<=1048576) (hM:∀ t,0<=M t/\M t<=1048576) :
  ∃ U:List Per,xgK (S.map encP) (T.map encP)=some (U.map encP)/\StepI (fun t=>max (N t - M t) 0) 1099511627776 U/\U.length<=S.length+T.length:=by
 obtain ⟨U,h1,h2,h3⟩:=xFc hS (.inl hT) (by omega) (by omega) (F:=fun t=>N t - M t) (fun t=>by
  have:=hN t;have:=hM t;unfold xkZ;rw [xay (by omega) (by omega)])
 obtain ⟨V,g1,g2,g3⟩:=xFa h2 (T:=[]) (M:=fun _=>0) (.inr ⟨rfl,fun _=>rfl⟩) (by omega) (by simp) (F:=fun t=>max (N t - M t) 0) (fun t=>by
  unfold xjt;split<;>omega)
 refine ⟨V,?_,g2,by simp at g3;omega⟩
 have g1:xf9 (U.map encP) []=some (V.map encP):=g1;have e1:xl2 (S.map encP) (T.map encP)=some (U.map encP):=by
  unfold xl2 xoj;simp only [h1,zk,zh,xaa,sUF]
 have e2:xmI (U.map encP)=some (V.map encP):=by
  unfold xmI xnw;simp only [g1,zk,zh,xaa,sUF]
 unfold xgK xjP;simp only [e1,e2,zk,zh,xaa,sUF]
def xv0 (t8:List AV) (t9 q:Int) (xs:List AV) (hx:xs.length=3) (j:Nat) (hj:j<3) (n:Int) (hn:xs.getD j .top=.int .i64 n) (h1:-9223372036854775808<=n) (h2:n<=9223372036854775807) (v0 v1:Int) (v2 B:List UInt8) (hB:B.length<=70368744177664) :
  xbw t8 t9 q 3 3 ((j:Int),B.length,v0,v1,v2,xs,byteAVs B)=some (.inl (((j+1:Nat):Int),(B++numI n).length,v0,v1,v2,xs,byteAVs (B++numI n))):=by
 have hl:=Lib.itoa_length_le n h1 h2;have i1:(j:Int)<3:=by omega
 have i2:(j:Int)<((3:Nat):Int):=by omega
 have i3:j<xs.length:=by omega
 have e1:=xmP (Lib.itoa n) B (by rw [z8];omega)
 have e2:=xpl (B++Lib.itoa n) (by rw [z8,z8,zj];omega)
 have hc:((AV.int IntKind.i64 n).cells.getD 0 .top).toInt=n:=rfl;have hs:xHV (Sh.int IntKind.i64) ((AV.int IntKind.i64 n).cells.getD 0 .top)=true:=rfl;simp only [xbw,xi0,xkO,xkP,xkQ,xfZ,sBU,i1,i2,i3,hn,hc,hs,h1,h2,e1,e2,xG8 (n:=j) (by omega),numI,zw]
def xCI (t8:List AV) (t9 q:Int) (xs:List AV) (v0 v1:Int) (v2 B:List UInt8):xbw t8 t9 q 3 3 (((3:Nat):Int),B.length,v0,v1,v2,xs,byteAVs B)=some (.inr (B.length,v0,v1,v2,byteAVs B)):=by
 have i1:¬ ((3:Nat):Int)<3:=by omega
 simp only [xbw,xi0,i1,zm,xad,sUF]
def xvx (t8:List AV) (t9 q:Int) (v:Val) (h:KOk v) (B:List UInt8) (hB:B.length<=35184372088832) :
  Iter (xbw t8 t9 q 3 3) ((1:Int),(B++numI v.k).length,v.k,v.i,v.t,[AV.int .i64 v.k,AV.int .i64 v.i,AV.int .i64 (v.t.length:Int)],byteAVs (B++numI v.k))=some ((B++numI v.k++numI v.i++numI (v.t.length:Int)).length,v.k,v.i,v.t,byteAVs (B++numI v.k++numI v.i++numI (v.t.length:Int))):=by
 have hl:=h.len;have ht:=h.2;rw [xlf,z8,z8,z8] at hl;have e1:=xv0 t8 t9 q [AV.int .i64 v.k,AV.int .i64 v.i,AV.int .i64 (v.t.length:Int)] rfl 1 (by omega) v.i rfl (xHk h.1.2.1).1 (xHk h.1.2.1).2 v.k v.i v.t (B++numI v.k) (by rw [z8];omega)
 have e2:=xv0 t8 t9 q [AV.int .i64 v.k,AV.int .i64 v.i,AV.int .i64 (v.t.length:Int)] rfl 2 (by omega) (v.t.length:Int) rfl (by omega) (by omega) v.k v.i v.t (B++numI v.k++numI v.i) (by rw [z8,z8];omega)
 exact (xal e1).trans ((xal e2).trans (xac (xCI ..)))
def xDW (t8:List AV) (t9 q:Int) (v:Val) (h:KOk v) (B:List UInt8) (hB:B.length<=35184372088832) :
  Iter (xbw t8 t9 q 3 3) ((0:Int),B.length,v.k,v.i,v.t,[AV.int .i64 v.k,AV.int .i64 v.i,AV.int .i64 (v.t.length:Int)],byteAVs B)=some ((B++numI v.k++numI v.i++numI (v.t.length:Int)).length,v.k,v.i,v.t,byteAVs (B++numI v.k++numI v.i++numI (v.t.length:Int))):=by
 have e0:=xv0 t8 t9 q [AV.int .i64 v.k,AV.int .i64 v.i,AV.int .i64 (v.t.length:Int)] rfl 0 (by omega) v.k rfl (xHk h.1.1).1 (xHk h.1.1).2 v.k v.i v.t B (by omega)
 exact (xal e0).trans (xvx t8 t9 q v h B hB)
def xyH (r:Row) (hr:r.length<=1048576) (h:∀ v,v∈r->KOk v) (hk:(keyOf r).length<=17592186044416):∀ d k:Nat,k+d=r.length->Iter (xdC (r.map encV) ((r.length:Nat):Int)) ((k:Int),(keyOf (r.take k)).length,byteAVs (keyOf (r.take k)))=some ((keyOf r).length,byteAVs (keyOf r))
 | 0,k,hkk=>by
  obtain rfl:k=r.length:=by omega
  rw [y6];refine xac ?_;simp only [xdC,xix,zy,zm,xad,sUF]
 | d+1,k,hkk=>by
  have q:k<r.length:=by omega
  have hv:=h r[k] (zo q);have i1:(k:Int)<(r.length:Int):=by omega
  have gf:(r.map encV).getD k .top=encV r[k]:=xab _ _ _ q;have tk:keyOf (r.take (k+1))=keyOf (r.take k)++keyV r[k]:=by
   unfold keyOf;rw [List.take_add_one,ze q,List.flatMap_append];simp
  have le:(keyOf (r.take (k+1))).length<=(keyOf r).length:=by
   conv=>rhs;rw [<-List.take_append_drop (k+1) r]
   unfold keyOf;rw [List.flatMap_append,z8];omega
  have hl:=hv.len;rw [tk,z8] at le;have e1:=xDW (r.map encV) (r.length:Int) (k:Int) r[k] hv (keyOf (r.take k)) (by omega)
  have kn:keyOf (r.take k)++keyV r[k]=keyOf (r.take k)++numI r[k].k++numI r[k].i++numI (r[k].t.length:Int)++r[k].t:=by rw [xlf];simp only [zw]
  have e2:=xmP r[k].t (keyOf (r.take k)++numI r[k].k++numI r[k].i++numI (r[k].t.length:Int)) (by rw [<-kn,z8];omega)
  rw [xal (s':=(((k+1:Nat):Int),(keyOf (r.take (k+1))).length,byteAVs (keyOf (r.take (k+1))))) ?_]
  . exact xyH r hr h hk d (k+1) (by omega)
  . rw [tk,kn];simp only [xdC,xix,xkL,xkM,xhV,xkN,sBU,q,i1,gf,cV0,cV1,cV2,lV,sV,e1,e2,xG8 (n:=k) (by omega)]
def xtm (r:Row) (hr:r.length<=1048576) (h:∀ v,v∈r->KOk v) (hk:(keyOf r).length<=17592186044416):xau (r.map encV)=some (keyOf r):=by
 match r with
 | []=>rfl
 | v::t =>
  have hv:=h v (by simp)
  have hl:=hv.len;have i1:(0:Int)<((t.length+1:Nat):Int):=by omega
  have i2:0<t.length+1:=by omega
  obtain ⟨r1,r2⟩:=xHk hv.1.1;have q:=Lib.itoa_length_le v.k r1 r2;have gf:((v::t).map encV).getD 0 .top=encV v:=rfl;have e0:xat (Lib.itoa v.k)=some (((Lib.itoa v.k).length:Int),(Lib.itoa v.k).length,byteAVs (Lib.itoa v.k)):=by
   have m1:(Lib.itoa v.k).length<=140737488355328:=by omega
   have m2:(Lib.itoa v.k).length<=4611686018427387904:=by omega
   unfold xat xbZ;simp only [xfe,Nat.mul_one,m1,m2,zn,Bool.and_self,xaa,sUF]
  have e1:xcH 32 (Lib.itoa v.k).length (byteAVs (Lib.itoa v.k))=some (([]++numI v.k).length,byteAVs ([]++numI v.k)):=xpl (Lib.itoa v.k) (by rw [z8,zj];omega)
  have e2:=xvx ((v::t).map encV) ((t.length+1:Nat):Int) 0 v hv [] (by simp)
  have kn:keyV v=[]++numI v.k++numI v.i++numI (v.t.length:Int)++v.t:=by rw [xlf];simp
  have e3:=xmP v.t ([]++numI v.k++numI v.i++numI (v.t.length:Int)) (by rw [<-kn];omega)
  rw [<-kn] at e3;have e4:=xyH (v::t) hr h hk t.length 1 (by rw [zF];omega)
  have tk:keyOf ((v::t).take 1)=keyV v:=by simp [keyOf]
  rw [tk,zF] at e4;have e4:Iter (xdC ((v::t).map encV) ((t.length+1:Nat):Int)) ((1:Int),(keyV v).length,byteAVs (keyV v))=_:=e4;have hne:(keyOf (v::t)).length≠0:=fun e=>xqE v (keyOf t) (by rw [<-xiJ];exact List.length_eq_zero_iff.1 e)
  unfold xau xoe xgL xnl xnm xnn xkR xno xnp xnq xdI;simp only [za,zF,i1,i2,gf,cV0,cV1,cV2,lV,sV,r1,r2,e0,e1,e2,e3,e4,zn,xaa,Bool.and_self,beq_self_eq_true,zk,zh,xfe,xnI,xpD,ne_eq,hne,not_false_eq_true,sUF]
def xp4:∀ (a b:List Int),(∀ t,a.count t<=b.count t)->a.length<=b.length
 | [],b,_=>by simp
 | x::a,b,h=>by
  have hx:x∈b:=List.count_pos_iff.1 (by have:=h x;rw [List.count_cons_self] at this;omega)
  have ih:=xp4 a (b.erase x) fun t=>by
   have:=h t;by_cases e:x=t
   . subst e;rw [List.count_cons_self] at this;rw [List.count_erase_self];omega
   . rw [List.count_cons_of_ne e] at this;rw [List.count_erase_of_ne (fun c=>e c.symm)];exact this
  rw [List.length_erase_of_mem hx] at ih;have:0<b.length:=List.length_pos_iff.2 fun c=>by rw [c] at hx;simp at hx
  rw [zF];omega
def xfL (ps:List Per) (t:Int):ps.countP (hasP · t)<=ps.countP (hasP · (t - 1))+(ps.map (·.1)).count t:=by
 induction ps with
 | nil=>simp
 | cons p ps ih =>
  rw [List.countP_cons,List.countP_cons,zV,List.count_cons];have:(if hasP p t=true then 1 else 0)<=(if hasP p (t - 1)=true then 1 else 0)+(if (p.1==t)=true then 1 else 0):=by
   by_cases h1:hasP p t=true
   . obtain ⟨hv,a,b⟩:=xaO.1 h1;by_cases h2:p.1=t
     . have e:(p.1==t)=true:=by simpa using h2
       rw [if_pos h1,if_pos e];omega
     . have:hasP p (t - 1)=true:=xaO.2 ⟨hv,by omega,by omega⟩
       rw [if_pos h1,if_pos this];omega
   . rw [if_neg h1];omega
  omega
def xtt (a b:Nat):∀ n:Nat,((List.range n).map fun k=>if a<=k/\k<b then 1 else 0).sum<=min n b - min n a
 | 0=>by simp
 | n+1=>by
  rw [List.range_succ,zx,List.sum_append];have:=xtt a b n;simp only [zV,zW,List.sum_cons,List.sum_nil];split<;>omega
def IsLevs.len1 {ps P:List Per} (h:IsLevs (fun t=>ps.countP (hasP · t)) P):P.length<=ps.length:=by
 have:(P.map (·.1)).length<=(ps.map (·.1)).length:=by
  refine xp4 _ _ fun t=>?_
  obtain ⟨A,H,h1,h2,h3⟩:=h.lev;have e1:(P.map (·.1)).count t=((List.range H).map fun k=>((A k).map (·.1)).count t).sum:=by
   rw [(h3.map (·.1)).count_eq,List.map_flatMap,List.count_flatMap];rfl
  have e2:∀ n,((List.range n).map fun k=>((A k).map (·.1)).count t).sum<=((List.range n).map fun k=>if ps.countP (hasP · (t - 1))<=k/\k<ps.countP (hasP · t) then 1 else 0).sum:=fun n=>by
   induction n with
   | zero=>simp
   | succ n ih =>
    rw [List.range_succ,zx,zx,List.sum_append,List.sum_append];simp only [zV,zW,List.sum_cons,List.sum_nil];have hn:((A n).map (·.1)).Nodup:=by
     unfold List.Nodup;rw [List.pairwise_map];refine List.Pairwise.imp_of_mem (fun {p q} hp hq h=>?_) (h2 n).1.2
     have:=xbc.1 ((h2 n).1.1 p hp);omega
    have J:((A n).map (·.1)).count t<=1:=List.nodup_iff_count.1 hn t;by_cases ht:t∈(A n).map (·.1)
    . obtain ⟨p,hp,rfl⟩:=zK.1 ht;obtain ⟨a,b,_⟩:=xta (N:=fun t=>ps.countP (hasP · t)) (h2 n).1 (h2 n).2 hp
      have hv:=xbc.1 ((h2 n).1.1 p hp);have:=a p.1 (Int.le_refl _) hv.2.1;rw [if_pos ⟨b,this⟩];omega
    . rw [List.count_eq_zero.2 ht];omega
  have e3:=e2 H;have e4:=xtt (ps.countP (hasP · (t - 1))) (ps.countP (hasP · t)) H;have e5:=xfL ps t;have e6:=h1 t;omega
 simpa using this
def xsd {L:Row->List Per}:∀ {R:List Row} {l:List Fc},R.Nodup->(∀ r,r∈R->(L r).length<=(psOf l r).length)->(xG7 R L).length<=l.length
 | [],l,_,_=>by simp [xG7]
 | r::R,l,hn,h=>by
  obtain ⟨n1,n2⟩:=List.nodup_cons.1 hn;have e:xG7 (r::R) L=((L r).map fun p=>(⟨r,p⟩:Fc))++xG7 R L:=by simp [xG7]
  let l2:=l.filter fun f=>!decide (f.r=r)
  have J:∀ r',r'∈R->psOf l2 r'=psOf l r':=fun r' q=>by
   have hne:r'≠r:=fun e=>n1 (e▸q)
   unfold psOf;simp only [l2,List.filter_filter];congr 1;refine List.filter_congr fun f _=>?_
   by_cases hf:f.r=r'
   . have:¬ f.r=r:=fun e=>hne (hf▸e)
     simp [hf,hne]
   . simp [hf]
  have ih:=xsd (L:=L) (l:=l2) n2 fun r' q=>by rw [J r' q];exact h r' (by simp [q])
  have h1:=h r (by simp)
  have hl:(psOf l r).length+l2.length<=l.length:=by
   unfold psOf;rw [za];have:=List.length_eq_countP_add_countP (fun f:Fc=>decide (f.r=r)) (l:=l)
   have a1:(l.filter fun f=>decide (f.r=r)&&pv f.p).length<=l.countP fun f=>decide (f.r=r):=by
    rw [<-List.countP_eq_length_filter];exact List.countP_mono_left fun f _ hf=>by simp only [zf] at hf;exact hf.1
   have a2:l2.length=l.countP fun f=>¬ decide (f.r=r)=true:=by
    rw [List.countP_eq_length_filter];simp [l2]
   omega
  rw [e,z8,za];omega
def xHg.len1 {l B:List Fc} (h:xHg l B):B.length<=l.length:=by
 obtain ⟨R,L,h1,h2,rfl⟩:=h;refine xsd (h1.1.nodup xkh) fun r hr=>?_
 have:=h2 r hr;rw [show cnt l r=fun t=>(psOf l r).countP (hasP · t) from funext fun t=>(xqg l r t).symm] at this
 exact this.len1
abbrev TE:=Row×List Per×List Per
def defT:TE:=([],[],[])
def c1 (p:Per):AV:=encC (p,1)
def encE (e:TE):PE:=(keyOf e.1,e.1.map encV,e.2.1.map c1,e.2.2.map c1)
def ixTE (es:List TE) (r:Row):Option Nat:=es.findIdx? fun x=>decide (x.1=r)
def addT (es:List TE) (r:Row) (xa xb:List Per):List TE:=match ixTE es r with
 | some j=>es.set j ((es.getD j defT).1,(es.getD j defT).2.1++xa,(es.getD j defT).2.2++xb)
 | none=>es++[(r,xa,xb)]
def xvt (r:Row):∀ es:List TE,ixP (es.map encE) (keyOf r)=ixTE es r
 | []=>rfl
 | x::es=>by
  have ih:=xvt r es;unfold ixP ixTE at ih |-;rw [zV,List.findIdx?_cons,List.findIdx?_cons,ih];have:((encE x).1==keyOf r)=decide (x.1=r):=by
   by_cases h:x.1=r
   . subst h;simp [encE]
   . have h2:¬ keyOf x.1=keyOf r:=fun e=>h (xot e)
     simp [encE,h,h2]
  rw [this]
def xoU {es:List TE} {j:Nat} (h:j<es.length):(es.map encE).getD j defP=encE (es.getD j defT):=by
 simp [z7,h]
def xp1 {es:List TE} {r:Row} {j:Nat} (h:ixTE es r=some j):∃ hj:j<es.length,es[j].1=r:=by
 obtain ⟨hj,h1,_⟩:=List.findIdx?_eq_some_iff_getElem.1 h;exact ⟨hj,by simpa using h1⟩
def xAT {es:List TE} {r:Row} (h:ixTE es r=none):r∉es.map (·.1):=fun hr=>by
 obtain ⟨e,he,rfl⟩:=zK.1 hr;have:=List.findIdx?_eq_none_iff.1 h e he;simp at this
def xCv (es:List TE) (r:Row) (p:Per):putPA (es.map encE) (keyOf r) (r.map encV) (c1 p)=(addT es r [p] []).map encE:=by
 unfold putPA addT;rw [xvt];cases h:ixTE es r with
 | none=>simp [encE]
 | some j =>
  obtain ⟨hj,_⟩:=xp1 h;simp only [xoU hj,List.map_set];simp [encE]
def xCw (es:List TE) (r:Row) (p:Per):putPB (es.map encE) (keyOf r) (r.map encV) (c1 p)=(addT es r [] [p]).map encE:=by
 unfold putPB addT;rw [xvt];cases h:ixTE es r with
 | none=>simp [encE]
 | some j =>
  obtain ⟨hj,_⟩:=xp1 h;simp only [xoU hj,List.map_set];simp [encE]
structure EI (R:Row->Prop) (A B:Row->List Per) (n:Nat) (es:List TE):Prop where
 nd:(es.map (·.1)).Nodup
 mem:∀ r,r∈es.map (·.1)↔R r
 pa:∀ e,e∈es->e.2.1=A e.1
 pb:∀ e,e∈es->e.2.2=B e.1
 zero:∀ r,¬ R r->A r=[]/\B r=[]
 len:es.length<=n
def EI.nil:EI (fun _=>False) (fun _=>[]) (fun _=>[]) 0 []:=⟨List.nodup_nil,fun r=>by simp,fun g hg=>by simp at hg,fun g hg=>by simp at hg,fun _ _=>⟨rfl,rfl⟩,zd _⟩
def EI.add {R:Row->Prop} {A B:Row->List Per} {n:Nat} {es:List TE} (h:EI R A B n es) (ρ:Row) (xa xb:List Per) :
  EI (fun r=>R r\/ρ=r) (fun r=>A r++if ρ=r then xa else []) (fun r=>B r++if ρ=r then xb else []) (n+1) (addT es ρ xa xb):=by
 unfold addT;cases hi:ixTE es ρ with
 | some j =>
  obtain ⟨hj,hr⟩:=xp1 hi;have gd:es.getD j defT=es[j]:=by rw [z7,ze hj];rfl
  dsimp only;rw [gd];have fst:(es.set j (es[j].1,es[j].2.1++xa,es[j].2.2++xb)).map (·.1)=es.map (·.1):=by
   rw [List.map_set];have:(es.map (·.1))[j]'(by simpa using hj)=es[j].1:=by simp
   show (es.map (·.1)).set j es[j].1=_;rw [<-this];exact List.set_getElem_self _
  have hRρ:R ρ:=(h.mem ρ).1 (by rw [<-hr];exact zK.2 ⟨es[j],zo hj,rfl⟩)
  have hne:∀ i (q:i<es.length),j≠i->ρ≠es[i].1:=fun i q J e=>by
   have hn:=zB.1 h.nd;have ei:(es.map (·.1))[i]'(by simpa using q)=es[i].1:=by simp
   have ej:(es.map (·.1))[j]'(by simpa using hj)=es[j].1:=by simp
   rcases Nat.lt_or_gt_of_ne J with Q|Q
   . exact hn j i (by simpa using hj) (by simpa using q) Q (by rw [ei,ej,hr,e])
   . exact hn i j (by simpa using q) (by simpa using hj) Q (by rw [ei,ej,hr,e])
  refine ⟨by rw [fst];exact h.nd,fun r=>?_,fun g hg=>?_,fun g hg=>?_,fun r O=>?_,by rw [y4];have:=h.len;omega⟩
  . rw [fst,h.mem];refine ⟨.inl,?_⟩;rintro (h1|rfl)
    . exact h1
    . exact hRρ
  . obtain ⟨i,q,rfl⟩:=zp.1 hg;rw [y4] at q;rw [List.getElem_set];by_cases J:j=i
    . subst J;rw [if_pos rfl];show es[j].2.1++xa=A es[j].1++_;rw [if_pos hr.symm,h.pa _ (zo hj)]
    . rw [if_neg J,if_neg (hne i q J),zD];exact h.pa _ (zo q)
  . obtain ⟨i,q,rfl⟩:=zp.1 hg;rw [y4] at q;rw [List.getElem_set];by_cases J:j=i
    . subst J;rw [if_pos rfl];show es[j].2.2++xb=B es[j].1++_;rw [if_pos hr.symm,h.pb _ (zo hj)]
    . rw [if_neg J,if_neg (hne i q J),zD];exact h.pb _ (zo q)
  . have h1:¬ R r:=fun c=>O (.inl c)
    have h2:¬ ρ=r:=fun c=>O (.inr c)
    obtain ⟨z1,z2⟩:=h.zero r h1;rw [if_neg h2,if_neg h2,z1,z2];exact ⟨rfl,rfl⟩
 | none =>
  have hr:=xAT hi;dsimp only;have hρ:¬ R ρ:=fun c=>hr ((h.mem ρ).2 c)
  obtain ⟨z1,z2⟩:=h.zero ρ hρ;have hne:∀ g,g∈es->ρ≠g.1:=fun g hg e=>hr (by rw [e];exact zK.2 ⟨g,hg,rfl⟩)
  refine ⟨?_,fun r=>?_,fun g hg=>?_,fun g hg=>?_,fun r O=>?_,by rw [z8];have:=h.len;simp;omega⟩
  . rw [zx];refine List.nodup_append.2 ⟨h.nd,by simp,fun a ha b hb e=>?_⟩
    simp at hb;exact hr (by rw [<-hb,<-e];exact ha)
  . rw [zx,zG,h.mem];simp only [zV,zW,zv];exact ⟨fun c=>c.imp id Eq.symm,fun c=>c.imp id Eq.symm⟩
  . rcases zG.1 hg with hg|hg
    . rw [if_neg (hne g hg),zD];exact h.pa g hg
    . rw [zv] at hg;subst hg;rw [if_pos rfl,z1];rfl
  . rcases zG.1 hg with hg|hg
    . rw [if_neg (hne g hg),zD];exact h.pb g hg
    . rw [zv] at hg;subst hg;rw [if_pos rfl,z2];rfl
  . have h1:¬ R r:=fun c=>O (.inl c)
    have h2:¬ ρ=r:=fun c=>O (.inr c)
    obtain ⟨z1,z2⟩:=h.zero r h1;rw [if_neg h2,if_neg h2,z1,z2];exact ⟨rfl,rfl⟩
def xHa (l:List Fc) (r:Row):List Per:=(l.filter fun f=>decide (f.r=r)).map (·.p)
def xmO (l:List Fc) (r:Row) (t:Int):(xHa l r).countP (hasP · t)=cnt l r t:=by
 unfold xHa cnt;rw [List.countP_map,List.countP_filter];refine List.countP_congr fun f _=>?_
 simp [and_comm]
def xrD (f:Fc) (l:List Fc) (r:Row):xHa (f::l) r=(if f.r=r then [f.p] else [])++xHa l r:=by
 unfold xHa;rw [List.filter_cons];by_cases h:f.r=r<;>simp [h]
def xyA (l:List Fc) (r:Row):(xHa l r).length<=l.length:=by
 unfold xHa;rw [za];exact List.length_filter_le _ _
def xAH:∀ (l:List Fc) (R:Row->Prop) (A B:Row->List Per) (n:Nat) (es:List TE),EI R A B n es->EI (fun r=>R r\/∃ f,f∈l/\f.r=r) (fun r=>A r++xHa l r) B (n+l.length) (l.foldl (fun es f=>addT es f.r [f.p] []) es)
 | [],R,A,B,n,es,h=>by
  have e1:(fun r=>R r\/∃ f,f∈([]:List Fc)/\f.r=r)=R:=funext fun r=>by simp
  have e2:(fun r=>A r++xHa [] r)=A:=funext fun r=>by simp [xHa]
  rw [e1,e2];exact h
 | f::l,R,A,B,n,es,h=>by
  have:=xAH l _ _ _ _ _ (h.add f.r [f.p] []);rw [List.foldl_cons];have e1:(fun r=>(R r\/f.r=r)\/∃ g,g∈l/\g.r=r)=fun r=>R r\/∃ g,g∈f::l/\g.r=r:=funext fun r=>by simp [or_assoc]
  have e2:(fun r=>(A r++if f.r=r then [f.p] else [])++xHa l r)=fun r=>A r++xHa (f::l) r:=funext fun r=>by rw [xrD,zw]
  have e3:(fun r=>B r++if f.r=r then [] else [])=B:=funext fun r=>by simp
  rw [e1,e2,e3] at this;rw [zF,show n+(l.length+1)=n+1+l.length by omega]
  exact this
def xAI:∀ (l:List Fc) (R:Row->Prop) (A B:Row->List Per) (n:Nat) (es:List TE),EI R A B n es->EI (fun r=>R r\/∃ f,f∈l/\f.r=r) A (fun r=>B r++xHa l r) (n+l.length) (l.foldl (fun es f=>addT es f.r [] [f.p]) es)
 | [],R,A,B,n,es,h=>by
  have e1:(fun r=>R r\/∃ f,f∈([]:List Fc)/\f.r=r)=R:=funext fun r=>by simp
  have e2:(fun r=>B r++xHa [] r)=B:=funext fun r=>by simp [xHa]
  rw [e1,e2];exact h
 | f::l,R,A,B,n,es,h=>by
  have:=xAI l _ _ _ _ _ (h.add f.r [] [f.p]);rw [List.foldl_cons];have e1:(fun r=>(R r\/f.r=r)\/∃ g,g∈l/\g.r=r)=fun r=>R r\/∃ g,g∈f::l/\g.r=r:=funext fun r=>by simp [or_assoc]
  have e2:(fun r=>(B r++if f.r=r then [f.p] else [])++xHa l r)=fun r=>B r++xHa (f::l) r:=funext fun r=>by rw [xrD,zw]
  have e3:(fun r=>A r++if f.r=r then [] else [])=A:=funext fun r=>by simp
  rw [e1,e2,e3] at this;rw [zF,show n+(l.length+1)=n+1+l.length by omega]
  exact this
def colT (a b:List Fc):List TE:=b.foldl (fun es f=>addT es f.r [] [f.p]) (a.foldl (fun es f=>addT es f.r [f.p] []) [])
def xDo (a b:List Fc):EI (fun r=>(∃ f,f∈a/\f.r=r)\/∃ f,f∈b/\f.r=r) (xHa a) (xHa b) (a.length+b.length) (colT a b):=by
 have h:=xAI b _ _ _ _ _ (xAH a _ _ _ _ _ EI.nil);have e1:(fun r=>(False\/∃ f,f∈a/\f.r=r)\/∃ f,f∈b/\f.r=r)=fun r=>(∃ f,f∈a/\f.r=r)\/∃ f,f∈b/\f.r=r:=funext fun r=>by simp
 have e2:(fun r=>([]:List Per)++xHa a r)=xHa a:=funext fun r=>rfl
 have e3:(fun r=>([]:List Per)++xHa b r)=xHa b:=funext fun r=>rfl
 rw [e1,e2,e3,show 0+a.length+b.length=a.length+b.length by omega] at h
 exact h
def Keyed.skey {l:List Fc} (h:Keyed l) {f:Fc} (hf:f∈l):xau (f.r.map encV)=some (keyOf f.r):=xtm f.r (h.1.2 f hf) (h.2 f hf).1 (h.2 f hf).2
def xru {f:Fc} (h:xau (f.r.map encV)=some (keyOf f.r)):keyF (encF f)=keyOf f.r:=by
 show (xau (f.r.map encV)).getD []=_;rw [h];rfl
def xtE:∀ (l:List Fc) (es:List TE),(∀ f,f∈l->xau (f.r.map encV)=some (keyOf f.r))->(l.map encF).foldl stepPA (es.map encE)=(l.foldl (fun es f=>addT es f.r [f.p] []) es).map encE
 | [],es,_=>rfl
 | f::l,es,h=>by
  rw [zV,List.foldl_cons,List.foldl_cons];have e:stepPA (es.map encE) (encF f)=(addT es f.r [f.p] []).map encE:=by
   show putPA (es.map encE) (keyF (encF f)) (f.r.map encV) (c1 f.p)=_;rw [xru (h f (by simp)),xCv]
  rw [e];exact xtE l _ fun g hg=>h g (by simp [hg])
def xtF:∀ (l:List Fc) (es:List TE),(∀ f,f∈l->xau (f.r.map encV)=some (keyOf f.r))->(l.map encF).foldl stepPB (es.map encE)=(l.foldl (fun es f=>addT es f.r [] [f.p]) es).map encE
 | [],es,_=>rfl
 | f::l,es,h=>by
  rw [zV,List.foldl_cons,List.foldl_cons];have e:stepPB (es.map encE) (encF f)=(addT es f.r [] [f.p]).map encE:=by
   show putPB (es.map encE) (keyF (encF f)) (f.r.map encV) (c1 f.p)=_;rw [xru (h f (by simp)),xCw]
  rw [e];exact xtF l _ fun g hg=>h g (by simp [hg])
def xBW {a b:List Fc} (ha:Keyed a) (hb:Keyed b):colV (a.map encF) (b.map encF)=(colT a b).map encE:=by
 unfold colV colT;rw [show ([]:List PE)=([]:List TE).map encE from rfl,xtE a [] fun f hf=>ha.skey hf,xtF b _ fun f hf=>hb.skey hf]
def xyr {l:List Fc} (h:Keyed l) {f:Fc} (hf:f∈l):okF (encF f)=true:=by
 have e1:=xru (h.skey hf);have e2:xau (rowF (encF f))=some (keyOf f.r):=h.skey hf;have e3:=(h.2 f hf).2;unfold okF;rw [e1,e2];have m:(keyOf f.r).length<=4611686018427387904:=by omega
 have c1:Nat.beq (encF f).cells.length 3=true:=rfl;have c2:xH1 [.list 3,.int .i64,.int .i64] (encF f).cells 0=true:=rfl;have c3:((encF f).one==false)=true:=rfl;rw [c1,c2,c3];simp [m]
def xAo {a b:List Fc} (ha:Keyed a) (hb:Keyed b):colOk (a.map encF) (b.map encF)=true:=by
 unfold colOk;have h1:=ha.1.1;have h2:=hb.1.1;simp only [zf,zI,List.mem_range,zl,za];refine ⟨fun i hi=>?_,fun i hi=>?_,by omega⟩
 . rw [xab _ _ _ hi];exact xyr ha (zo hi)
 . rw [xab _ _ _ hi];exact xyr hb (zo hi)
def xlQ {N:Int->Nat} {P:List Per} (h:IsLevs N P) (E:List Int) (hE:∀ t,N t<=N (t - 1)+E.count t):P.length<=E.length:=by
 have:(P.map (·.1)).length<=E.length:=by
  refine xp4 _ _ fun t=>?_
  obtain ⟨A,H,h1,h2,h3⟩:=h.lev;have e1:(P.map (·.1)).count t=((List.range H).map fun k=>((A k).map (·.1)).count t).sum:=by
   rw [(h3.map (·.1)).count_eq,List.map_flatMap,List.count_flatMap];rfl
  have e2:∀ n,((List.range n).map fun k=>((A k).map (·.1)).count t).sum<=((List.range n).map fun k=>if N (t - 1)<=k/\k<N t then 1 else 0).sum:=fun n=>by
   induction n with
   | zero=>simp
   | succ n ih =>
    rw [List.range_succ,zx,zx,List.sum_append,List.sum_append];simp only [zV,zW,List.sum_cons,List.sum_nil];have hn:((A n).map (·.1)).Nodup:=by
     unfold List.Nodup;rw [List.pairwise_map];refine List.Pairwise.imp_of_mem (fun {p q} hp hq h=>?_) (h2 n).1.2
     have:=xbc.1 ((h2 n).1.1 p hp);omega
    have J:((A n).map (·.1)).count t<=1:=List.nodup_iff_count.1 hn t;by_cases ht:t∈(A n).map (·.1)
    . obtain ⟨p,hp,rfl⟩:=zK.1 ht;obtain ⟨a,b,_⟩:=xta (N:=N) (h2 n).1 (h2 n).2 hp;have hv:=xbc.1 ((h2 n).1.1 p hp);have:=a p.1 (Int.le_refl _) hv.2.1;rw [if_pos ⟨b,this⟩];omega
    . rw [List.count_eq_zero.2 ht];omega
  have e3:=e2 H;have e4:=xtt (N (t - 1)) (N t) H;have e5:=hE t;have e6:=h1 t;omega
 simpa using this
def xqO (ps:List Per) (t:Int):ps.countP (hasP · (t - 1))<=ps.countP (hasP · t)+(ps.map (·.2)).count t:=by
 induction ps with
 | nil=>simp
 | cons p ps ih =>
  rw [List.countP_cons,List.countP_cons,zV,List.count_cons];have:(if hasP p (t - 1)=true then 1 else 0)<=(if hasP p t=true then 1 else 0)+(if (p.2==t)=true then 1 else 0):=by
   by_cases h1:hasP p (t - 1)=true
   . obtain ⟨hv,a,b⟩:=xaO.1 h1;by_cases h2:p.2=t
     . have e:(p.2==t)=true:=by simpa using h2
       rw [if_pos h1,if_pos e];omega
     . have:hasP p t=true:=xaO.2 ⟨hv,by omega,by omega⟩
       rw [if_pos h1,if_pos this];omega
   . rw [if_neg h1];omega
  omega
structure OpOk (op:List AV->List AV->Option (List AV)) (g:Nat->Nat->Nat):Prop where
 run:∀ {N M:Int->Nat} {S T:List Per},StepI (fun t=>(N t:Int)) 1099511627776 S->StepI (fun t=>(M t:Int)) 1099511627776 T->S.length<=131072->T.length<=131072->(∀ t,N t<=1048576)->(∀ t,M t<=1048576) ->
  ∃ U:List Per,op (S.map encP) (T.map encP)=some (U.map encP)/\StepI (fun t=>((g (N t) (M t):Nat):Int)) 1099511627776 U/\U.length<=S.length+T.length
 zero:g 0 0=0
 le:∀ x y,g x y<=x+y
 inc:∀ a b:List Per,∃ E:List Int,E.length<=a.length+b.length/\∀ t,g (a.countP (hasP · t)) (b.countP (hasP · t))<=g (a.countP (hasP · (t - 1))) (b.countP (hasP · (t - 1)))+E.count t
def opA:OpOk xlx (fun x y=>x+y) where
 run:=fun {N M S T} hS hT lS lT hN hM=>by
  obtain ⟨U,h1,h2,h3⟩:=xEG hS hT (by omega) (by omega) (fun t=>by have:=hN t;omega) (fun t=>by have:=hM t;omega)
  refine ⟨U,h1,?_,h3⟩;rwa [show (fun t=>(N t:Int)+(M t:Int))=fun t=>(((N t+M t:Nat)):Int) from funext fun t=>by omega] at h2
 zero:=rfl
 le:=fun x y=>zd _
 inc:=fun a b=>⟨a.map (·.1)++b.map (·.1),by simp,fun t=>by
  have h1:=xfL a t;have h2:=xfL b t;rw [List.count_append];omega⟩
def opM:OpOk xl1 (fun x y=>min x y) where
 run:=fun {N M S T} hS hT lS lT hN hM=>by
  obtain ⟨U,h1,h2,h3⟩:=xFw hS hT (by omega) (by omega)
  refine ⟨U,h1,?_,h3⟩;rwa [show (fun t=>min (N t:Int) (M t:Int))=fun t=>((min (N t) (M t):Nat):Int) from funext fun t=>by omega] at h2
 zero:=rfl
 le:=fun x y=>by omega
 inc:=fun a b=>⟨a.map (·.1)++b.map (·.1),by simp,fun t=>by
  have h1:=xfL a t;have h2:=xfL b t;rw [List.count_append];omega⟩
def opX:OpOk xgK (fun x y=>x - y) where
 run:=fun {N M S T} hS hT lS lT hN hM=>by
  obtain ⟨U,h1,h2,h3⟩:=xFi hS hT (by omega) (by omega) (fun t=>by have:=hN t;omega) (fun t=>by have:=hM t;omega)
  refine ⟨U,h1,?_,h3⟩;rwa [show (fun t=>max ((N t:Int) - (M t:Int)) 0)=fun t=>((N t - M t:Nat):Int) from funext fun t=>by omega] at h2
 zero:=rfl
 le:=fun x y=>by omega
 inc:=fun a b=>⟨a.map (·.1)++b.map (·.2),by simp,fun t=>by
  have h1:=xfL a t;have h2:=xqO b t;rw [List.count_append];omega⟩
def xEJ (ps:List Per):ps.map c1=(ps.map fun p=>(p,(1:Int))).map encC:=by rw [List.map_map];rfl
def xyq (ps:List Per) (h:ps.length<=32768):∃ S,xag (ps.map c1)=some (S.map encP)/\StepI (fun t=>((ps.countP (hasP · t):Nat):Int)) 1099511627776 S/\S.length<=2*ps.length+1:=by
 obtain ⟨S,h1,h2,h3⟩:=xip _ (xtx (ps:=ps) (by omega))
 refine ⟨S,by rw [xEJ,h1],?_,by simpa using h3⟩
 rwa [show sumC (ps.map fun p=>(p,(1:Int)))=fun t=>((ps.countP (hasP · t):Nat):Int) from funext fun t=>xuk ps t] at h2
def xB2 {op:List AV->List AV->Option (List AV)} {g:Nat->Nat->Nat} (h:OpOk op g) (r:Row) (pa pb:List Per) (ha:pa.length<=32768) (hb:pb.length<=32768) :
  ∃ P:List Per,lvOk op (encE (r,pa,pb))=true/\lvOf op (encE (r,pa,pb))=P.map encP/\IsLevs (fun t=>g (pa.countP (hasP · t)) (pb.countP (hasP · t))) P/\P.length<=pa.length+pb.length:=by
 obtain ⟨S,s1,s2,s3⟩:=xyq pa ha;obtain ⟨T,t1,t2,t3⟩:=xyq pb hb;have la:∀ t,pa.countP (hasP · t)<=pa.length:=fun t=>List.countP_le_length
 have lb:∀ t,pb.countP (hasP · t)<=pb.length:=fun t=>List.countP_le_length
 obtain ⟨U,u1,u2,u3⟩:=h.run s2 t2 (by omega) (by omega) (fun t=>by have:=la t;omega) (fun t=>by have:=lb t;omega)
 obtain ⟨P,p1,p2⟩:=xtR (N:=fun t=>g (pa.countP (hasP · t)) (pb.countP (hasP · t))) (H:=pa.length+pb.length) (by omega) (fun t=>by
  have:=h.le (pa.countP (hasP · t)) (pb.countP (hasP · t));have:=la t;have:=lb t;omega) (fun t ht=>by
  rw [xro pa t ht,xro pb t ht];exact h.zero) u2 (by omega)
 obtain ⟨E,e1,e2⟩:=h.inc pa pb;have lv:lvOf op (encE (r,pa,pb))=P.map encP:=by
  show (xav ((op ((xag (pa.map c1)).getD []) ((xag (pb.map c1)).getD [])).getD [])).getD []=_;rw [s1,t1];show (xav ((op (S.map encP) (T.map encP)).getD [])).getD []=_;rw [u1];show (xav (U.map encP)).getD []=_;rw [p1];rfl
 refine ⟨P,?_,lv,p2,?_⟩
 . unfold lvOk;rw [lv];show ((xag (pa.map c1)).isSome&&((xag (pb.map c1)).isSome&&((op ((xag (pa.map c1)).getD []) ((xag (pb.map c1)).getD [])).isSome&&((xav ((op ((xag (pa.map c1)).getD []) ((xag (pb.map c1)).getD [])).getD [])).isSome&&_))))=true;rw [s1,t1];simp only [zh,zk,u1,p1,Bool.true_and,zI,List.mem_range,za];intro i hi;rw [xab _ _ _ hi];rfl
 . have:=xlQ p2 E e2;omega
def xv8 (f:Fc) (l:List Fc):∀ R:List Row,(R.map fun r=>(xHa (f::l) r).length).sum=R.countP (fun r=>decide (f.r=r))+(R.map fun r=>(xHa l r).length).sum
 | []=>rfl
 | r::R=>by
  rw [zV,zV,List.sum_cons,List.sum_cons,xv8 f l R,xrD,List.countP_cons];by_cases h:f.r=r<;>simp [h]<;>omega
def xAt {R:List Row} (hR:R.Nodup) (x:Row):R.countP (fun r=>decide (x=r))<=1:=by
 induction R with
 | nil=>simp
 | cons r R ih =>
  obtain ⟨n1,n2⟩:=List.nodup_cons.1 hR;rw [List.countP_cons];by_cases h:x=r
  . have:R.countP (fun r=>decide (x=r))=0:=List.countP_eq_zero.2 fun y hy=>by
     intro e;simp only [zl] at e;exact n1 (by rw [<-h,e];exact hy)
    rw [this];split<;>omega
  . have:=ih n2;simp [h];omega
def xoJ:∀ (l:List Fc) (R:List Row),R.Nodup->(R.map fun r=>(xHa l r).length).sum<=l.length
 | [],R,_=>by
  have:∀ R:List Row,(R.map fun r=>(xHa [] r).length).sum=0:=fun R=>by
   induction R with
   | nil=>rfl
   | cons r R ih=>rw [zV,List.sum_cons,ih];rfl
  rw [this];exact zQ _
 | f::l,R,h=>by
  rw [xv8,zF];have:=xoJ l R h;have:=xAt h f.r;omega
def xoP {L:Row->List Per} {a b:List Fc}:∀ (R:List Row),(∀ r,r∈R->(L r).length<=(xHa a r).length+(xHa b r).length)->(xG7 R L).length<=(R.map fun r=>(xHa a r).length).sum+(R.map fun r=>(xHa b r).length).sum
 | [],_=>by simp [xG7]
 | r::R,h=>by
  have ih:=xoP R fun x hx=>h x (by simp [hx])
  have h1:=h r (by simp)
  have e:xG7 (r::R) L=((L r).map fun p=>(⟨r,p⟩:Fc))++xG7 R L:=by simp [xG7]
  rw [e,z8,za,zV,zV,List.sum_cons,List.sum_cons];omega
def IsB (N:Row->Int->Nat) (B:List Fc):Prop:=∃ R L,Strict cmpR R/\(∀ r t,0<N r t->r∈R)/\(∀ r,r∈R->IsLevs (N r) (L r))/\B=xG7 R L
def xmW (L:Row->List Per):∀ R:List Row,xG7 R L=xG7 (R.filter fun r=>!(L r).isEmpty) L
 | []=>rfl
 | r::R=>by
  have ih:=xmW L R;have e:∀ R:List Row,xG7 (r::R) L=((L r).map fun p=>(⟨r,p⟩:Fc))++xG7 R L:=fun R=>by simp [xG7]
  rw [List.filter_cons];cases h:L r with
  | nil=>rw [e,h,ih];simp
  | cons p ps =>
   simp only [List.isEmpty_cons,Bool.not_false,if_true];rw [e,e,ih]
def IsLevs.pos {N:Int->Nat} {P:List Per} (h:IsLevs N P):P≠[]↔∃ t,0<N t:=by
 constructor
 . intro hp;obtain ⟨p,hp⟩:=List.exists_mem_of_ne_nil P hp;refine ⟨p.1,?_⟩;rw [<-h.count];exact List.countP_pos_iff.2 ⟨p,hp,xum (h.valid p hp)⟩
 . rintro ⟨t,ht⟩ rfl;rw [<-h.count] at ht;simp at ht
def IsB.unique {N:Row->Int->Nat} {B B':List Fc} (h:IsB N B) (h':IsB N B'):B=B':=by
 obtain ⟨R,L,h1,h2,h3,rfl⟩:=h;obtain ⟨R',L',Q,J,q,rfl⟩:=h';rw [xmW L R,xmW L' R'];have hm:∀ r,r∈R.filter (fun r=>!(L r).isEmpty)↔∃ t,0<N r t:=fun r=>by
  rw [List.mem_filter];constructor
  . rintro ⟨a,b⟩;exact (h3 r a).pos.1 (by simpa using b)
  . rintro ⟨t,ht⟩;have:=h2 r t ht;exact ⟨this,by have:=(h3 r this).pos.2 ⟨t,ht⟩;simpa using this⟩
 have hm':∀ r,r∈R'.filter (fun r=>!(L' r).isEmpty)↔∃ t,0<N r t:=fun r=>by
  rw [List.mem_filter];constructor
  . rintro ⟨a,b⟩;exact (q r a).pos.1 (by simpa using b)
  . rintro ⟨t,ht⟩;have:=J r t ht;exact ⟨this,by have:=(q r this).pos.2 ⟨t,ht⟩;simpa using this⟩
 have eR:R.filter (fun r=>!(L r).isEmpty)=R'.filter (fun r=>!(L' r).isEmpty) :=
  xml xkh (fun _ _=>xgY) (h1.sublist List.filter_sublist) (Q.sublist List.filter_sublist) fun r=>by rw [hm,hm']
 rw [<-eR];refine xn1 fun r hr=>?_
 have O:=(List.mem_filter.1 hr).1;have V:=J r;obtain ⟨t,ht⟩:=(hm r).1 hr;exact (h3 r O).unique (q r (V t ht))
def xHg.isB {l B:List Fc} (h:xHg l B):IsB (cnt l) B:=by
 obtain ⟨R,L,h1,h2,rfl⟩:=h;exact ⟨R,L,h1.1,fun r t ht=>(h1.2 r).2 (xni.2 ⟨t,ht⟩),h2,rfl⟩
def IsB.cntB {N:Row->Int->Nat} {B:List Fc} (h:IsB N B) (r:Row) (t:Int):cnt B r t=N r t:=by
 obtain ⟨R,L,h1,h2,h3,rfl⟩:=h;rw [xlL L r t R (h1.nodup xkh)];split
 . rename_i hr;exact (h3 r hr).count t
 . rename_i hr;cases hc:N r t with
   | zero=>rfl
   | succ n=>exact absurd (h2 r t (by omega)) hr
def IsB.valid {N:Row->Int->Nat} {B:List Fc} (h:IsB N B) {f:Fc} (hf:f∈B):pv f.p=true:=by
 obtain ⟨R,L,h1,h2,h3,rfl⟩:=h;obtain ⟨a,b⟩:=xjW hf;exact (h3 _ a).valid _ b
def IsB.congr {N M:Row->Int->Nat} {B:List Fc} (h:IsB N B) (e:∀ r t,N r t=M r t):IsB M B:=by
 rwa [show N=M from funext fun r=>funext fun t=>e r t] at h
def xzu {α β:Type} (es:List α) (d:α) (f:α->List β):(List.range es.length).flatMap (fun k=>f (es.getD k d))=es.flatMap f:=by
 have:(List.range es.length).map (fun k=>es.getD k d)=es:=by
  refine List.ext_getElem (by simp) fun n h1 h2=>?_
  simp [z7,h2]
 conv=>rhs;rw [<-this,List.flatMap_map]
def xoq {α β:Type} {f g:α->List β}:∀ {l:List α},(∀ a,a∈l->f a=g a)->l.flatMap f=l.flatMap g
 | [],_=>rfl
 | a::l,h=>by rw [zR,zR,h a (by simp),xoq fun b hb=>h b (by simp [hb])]
def Bld.perm {l l':List Fc} (h:Bld l) (hp:l'.Perm l):Bld l' :=
 ⟨⟨⟨by rw [hp.length_eq];exact h.1.1.1,fun f hf=>h.1.1.2 f (hp.mem_iff.1 hf)⟩,fun f hf=>h.1.2 f (hp.mem_iff.1 hf)⟩,by rw [hp.length_eq];exact h.2.1,h.2.2.of fun f hf=>⟨f,hp.mem_iff.1 hf,rfl⟩⟩
def xs3 {op:List AV->List AV->Option (List AV)} {g:Nat->Nat->Nat} (h:OpOk op g) {a b:List Fc} (ha:Keyed a) (hb:Keyed b) (hl:a.length+b.length<=1024) (ae:R20 (a++b)) :
  ∃ B:List Fc,cmbV op (a.map encF) (b.map encF)=some (B.map encF)/\IsB (fun r t=>g (cnt a r t) (cnt b r t)) B/\B.length<=a.length+b.length/\∀ f,f∈B->(∃ x,x∈a/\x.r=f.r)\/∃ x,x∈b/\x.r=f.r:=by
 have hE:=xDo a b;generalize af:colT a b=es at hE;have V:colV (a.map encF) (b.map encF)=es.map encE:=by rw [xBW ha hb,af]
 obtain ⟨L,hL⟩:=xnC (R:=es.map (·.1)) (Q:=fun r P=>lvOk op (encE (r,xHa a r,xHa b r))=true/\lvOf op (encE (r,xHa a r,xHa b r))=P.map encP/\IsLevs (fun t=>g (cnt a r t) (cnt b r t)) P/\P.length<=(xHa a r).length+(xHa b r).length) fun r hr=>by
  have l1:=xyA a r;have l2:=xyA b r;obtain ⟨P,p1,p2,p3,p4⟩:=xB2 h r (xHa a r) (xHa b r) (by omega) (by omega)
  refine ⟨P,p1,p2,?_,p4⟩;rwa [show (fun t=>g ((xHa a r).countP (hasP · t)) ((xHa b r).countP (hasP · t)))=fun t=>g (cnt a r t) (cnt b r t) from funext fun t=>by rw [xmO,xmO]] at p3
 have Y:∀ e,e∈es->e=(e.1,xHa a e.1,xHa b e.1):=fun e he=>by
  have h1:=hE.pa e he;have h2:=hE.pb e he;obtain ⟨x,y,z⟩:=e;simp only at h1 h2;rw [h1,h2]
 have Z:∀ e,e∈es->lvOk op (encE e)=true/\lvOf op (encE e)=(L e.1).map encP:=fun e he=>by
  have h1:=hL e.1 (zK.2 ⟨e,he,rfl⟩);rw [<-Y e he] at h1;exact ⟨h1.1,h1.2.1⟩
 have ac:∀ k,k<es.length->fkOf op (es.map encE) k=(mk (es.getD k defT).1 (L (es.getD k defT).1)).map encF:=fun k hk=>by
  have gd:es.getD k defT=es[k]:=by rw [z7,ze hk];rfl
  unfold fkOf;rw [xoU hk,gd,(Z _ (zo hk)).2];unfold mk;rw [List.map_map,List.map_map];rfl
 have W:∀ ord:List Nat,(∀ k,k∈ord->k<es.length)->ord.flatMap (fkOf op (es.map encE))=(ord.flatMap fun k=>mk (es.getD k defT).1 (L (es.getD k defT).1)).map encF:=fun ord ho=>by
  rw [List.map_flatMap];exact xoq fun k hk=>ac k (ho k hk)
 have hF:(List.range es.length).flatMap (fun k=>mk (es.getD k defT).1 (L (es.getD k defT).1))=xG7 (es.map (·.1)) L:=by
  rw [xzu es defT fun e=>mk e.1 (L e.1)]
  unfold xG7;rw [List.flatMap_map];rfl
 have J:flatOf op (es.map encE)=(xG7 (es.map (·.1)) L).map encF:=by
  unfold flatOf;rw [za,W _ fun k hk=>List.mem_range.1 hk,hF]
 have ab:(xG7 (es.map (·.1)) L).length<=a.length+b.length:=by
  have h1:=xoP (L:=L) (a:=a) (b:=b) (es.map (·.1)) fun r hr=>(hL r hr).2.2.2
  have h2:=xoJ a _ hE.nd;have h3:=xoJ b _ hE.nd;omega
 have q:∀ f,f∈xG7 (es.map (·.1)) L->(∃ x,x∈a/\x.r=f.r)\/∃ x,x∈b/\x.r=f.r:=fun f hf=>(hE.mem _).1 (xjW hf).1
 have O:Bld (xG7 (es.map (·.1)) L):=by
  refine ⟨⟨⟨by omega,fun f hf=>?_⟩,fun f hf=>?_⟩,by omega,ae.of fun f hf=>?_⟩
  . rcases q f hf with ⟨x,hx,e⟩|⟨x,hx,e⟩
    . rw [<-e];exact ha.1.2 x hx
    . rw [<-e];exact hb.1.2 x hx
  . rcases q f hf with ⟨x,hx,e⟩|⟨x,hx,e⟩
    . rw [<-e];exact ha.2 x hx
    . rw [<-e];exact hb.2 x hx
  . rcases q f hf with ⟨x,hx,e⟩|⟨x,hx,e⟩
    . exact ⟨x,zG.2 (.inl hx),e.symm⟩
    . exact ⟨x,zG.2 (.inr hx),e.symm⟩
 obtain ⟨B,b1,b2⟩:=xAc _ O;have aa:∀ r t,cnt (xG7 (es.map (·.1)) L) r t=g (cnt a r t) (cnt b r t):=fun r t=>by
  rw [xlL L r t _ hE.nd];split
  . rename_i hr;exact (hL r hr).2.2.1.count t
  . rename_i hr;have:=hE.zero r fun c=>hr ((hE.mem r).2 c)
    rw [<-xmO a,<-xmO b,this.1,this.2];exact h.zero.symm
 refine ⟨B,?_,b2.isB.congr aa,Nat.le_trans b2.len1 ab,fun f hf=>?_⟩
 . have ad:cmbOk op (a.map encF) (b.map encF)=true:=by
    unfold cmbOk;rw [V,xAo ha hb,J,b1];have c2:((List.range (es.map encE).length).all fun k=>lvOk op ((es.map encE).getD k defP))=true:=by
     simp only [zI,List.mem_range,za];intro k hk;have gd:es.getD k defT=es[k]:=by rw [z7,ze hk];rfl
     rw [xoU hk,gd];exact (Z _ (zo hk)).1
    have c3:((xG7 (es.map (·.1)) L).map encF).length<=1099511627776:=by rw [za];omega
    have c4:∀ ord:List Nat,ord.Perm (List.range (es.map encE).length)->xbz (ord.flatMap (fkOf op (es.map encE)))=some (B.map encF):=fun ord ho=>by
     rw [za] at ho;rw [W ord fun k hk=>List.mem_range.1 (ho.mem_iff.1 hk)]
     have hp:(ord.flatMap fun k=>mk (es.getD k defT).1 (L (es.getD k defT).1)).Perm (xG7 (es.map (·.1)) L):=by
      rw [<-hF];exact ho.flatMap_right _
     obtain ⟨B',q1,q2⟩:=xAc _ (O.perm hp);rw [q1,q2.unique b2 fun r t=>xBV hp r t]
    rw [c2,decide_eq_true c3];simp only [Bool.true_and,zf,zl,zk,and_true];exact c4
   unfold cmbV;rw [ad];show xbz (flatOf op (colV (a.map encF) (b.map encF)))=_;rw [V,J,b1]
 . obtain ⟨_,x,hx,e⟩:=b2.valid hf;rw [<-e];exact q x hx
def inRg (v:Val):Prop:=-1125899906842624<=v.i/\v.i<=1125899906842624
def TVal (v:Val):Prop:=v.wf/\v.t.length<=1073741824
def wf64 {n:Int} (h1:-9223372036854775808<=n) (h2:n<=9223372036854775807):(Lit.int .i64 n).wf=true:=by
 show (decide ((IntKind.i64).min<=n)&&decide (n<=(IntKind.i64).max))=true;rw [zf,zl,zl];exact ⟨h1,h2⟩
def sV0 (v:Val):xHV (Sh.int .i64) ((encV v).cells.getD 0 .top)=true:=rfl
def xHo (v:Val):Prop:=TVal v/\inRg v
def xt5 (s:List UInt8) (hl:s.length<=200):∀ d k:Nat,k+d=s.length->∃ b,Iter (xaH s) (k:Int)=some (b,false,())
 | 0,k,h=>by
  have hk:k=s.length:=by omega
  subst hk;refine ⟨false,xac ?_⟩;simp only [xaH,xcu,zy,zm,xad,sUF]
 | d+1,k,h=>by
  have h1:(k:Int)<(s.length:Int):=by omega
  by_cases c1:(((s.getD k (0:UInt8)).toNat:Nat):Int)<32
  . refine ⟨true,xac ?_⟩;simp only [xaH,xcu,sBU,h1,c1]
  . by_cases c2:(((s.getD k (0:UInt8)).toNat:Nat):Int)>126
    . refine ⟨true,xac ?_⟩;simp only [xaH,xcu,sBU,h1,c1,c2]
    . obtain ⟨b,ih⟩:=xt5 s hl d (k+1) (by omega)
      refine ⟨b,?_⟩;rw [<-ih];refine xal ?_;simp only [xaH,xcu,sBU,h1,c1,c2,xG8 (n:=k) (by omega)]
def xCs (s:List UInt8) (hl:s.length<=200):∃ b,xhR s=some b:=by
 obtain ⟨b,e⟩:=xt5 s hl s.length 0 (by omega)
 have e:Iter (xaH s) (0:Int)=some (b,false,()):=e;unfold xhR xi6;rw [e];cases b with
 | true=>exact ⟨false,rfl⟩
 | false=>exact ⟨true,rfl⟩
def xDT (k i:Int) (t:List UInt8):∃ b,xn8 k i t=some b/\(b=true->xHo ⟨k,i,t⟩):=by
 have G:0<=k->k<=3->-1125899906842624<=i->i<=1125899906842624->t.length<=200->xHo ⟨k,i,t⟩:=fun h1 h2 h3 h4 h5 =>
  ⟨⟨⟨wf64 (show -9223372036854775808<=k by omega) (show k<=9223372036854775807 by omega),wf64 (show -9223372036854775808<=i by omega) (show i<=9223372036854775807 by omega),by show t.length<=maxLen;unfold maxLen;omega⟩,by show t.length<=_;omega⟩,⟨h3,h4⟩⟩
 unfold xn8 xma;by_cases k0:k=0
 . by_cases i0:i=0
   . refine ⟨t==[],by simp [xaI,k0,i0,sUF],fun h=>?_⟩
     have:t=[]:=by simpa using h
     exact G (by omega) (by omega) (by omega) (by omega) (by rw [this];simp)
   . exact ⟨false,by simp [xaI,k0,i0,sUF],fun h=>by simp at h⟩
 . by_cases k1:k=1
   . by_cases t0:t=[]
     . by_cases i0:i>=-1125899906842624
       . refine ⟨decide (i<=1125899906842624),by simp [xaI,k1,t0,i0,sUF],fun h=>?_⟩
         have:i<=1125899906842624:=by simpa using h
         exact G (by omega) (by omega) (by omega) (by omega) (by rw [t0];simp)
       . exact ⟨false,by simp [xaI,k1,t0,i0,sUF],fun h=>by simp at h⟩
     . exact ⟨false,by simp [xaI,k1,t0,sUF],fun h=>by simp at h⟩
   . by_cases k2:k=2
     . by_cases i0:i=0
       . by_cases tl:(t.length:Int)<=200
         . obtain ⟨b,hb⟩:=xCs t (by omega)
           refine ⟨b,by simp [xaI,k2,i0,tl,hb,sUF],fun h=>?_⟩
           exact G (by omega) (by omega) (by omega) (by omega) (by omega)
         . exact ⟨false,by simp [xaI,k2,i0,tl,sUF],fun h=>by simp at h⟩
       . exact ⟨false,by simp [xaI,k2,i0,sUF],fun h=>by simp at h⟩
     . by_cases k3:k=3
       . by_cases t0:t=[]
         . by_cases i0:i=0
           . exact ⟨true,by simp [xaI,k3,t0,i0,sUF],fun h=>G (by omega) (by omega) (by omega) (by omega) (by rw [t0];simp)⟩
           . refine ⟨i==1,by simp [xaI,k3,t0,i0,sUF],fun h=>?_⟩
             have:i=1:=by simpa using h
             exact G (by omega) (by omega) (by omega) (by omega) (by rw [t0];simp)
         . exact ⟨false,by simp [xaI,k3,t0,sUF],fun h=>by simp at h⟩
       . exact ⟨false,by simp [xaI,k0,k1,k2,k3,sUF],fun h=>by simp at h⟩
def xtD (row:Row) (q:List Int) (hl:row.length=q.length) (hk:q.length<=48):∀ d n:Nat,n+d=row.length->∃ b,Iter (xaS (row.map encV) (q.map encN)) (n:Int)=some (!b,false,())/\(b=true->∀ v,v∈row.drop n->xHo v)
 | 0,n,h=>by
  have hn:n=row.length:=by omega
  subst hn;refine ⟨true,xac ?_,fun _ v hv=>by rw [zq (zd _)] at hv;simp at hv⟩
  simp only [xaS,xdv,za,zy,zm,xad,Bool.not_true,sUF]
 | d+1,n,h=>by
  have hn:n<row.length:=by omega
  have J:n<q.length:=by omega
  have h1:(n:Int)<(row.length:Int):=by omega
  have h2:(n:Int)<(q.length:Int):=by omega
  have gf:(row.map encV).getD n .top=encV row[n]:=xab _ _ _ hn;have gk:(q.map encN).getD n .top=encN q[n]:=xab _ _ _ J;obtain ⟨b1,e1,g1⟩:=xDT row[n].k row[n].i row[n].t;cases b1 with
  | false =>
   refine ⟨false,xac ?_,fun h=>by simp at h⟩
   simp only [xaS,xdv,xdY,sBU,hn,h1,gf,cV0,cV1,cV2,lV,sV,e1]
  | true =>
   obtain ⟨b,ih,O⟩:=xtD row q hl hk d (n+1) (by omega)
   have hd:∀ c,c=true->b=c->∀ v,v∈row.drop n->xHo v:=fun c hc hb v hv=>by
    rw [xa3 hn] at hv;rcases zC.1 hv with rfl|hv
    . exact g1 rfl
    . exact O (by rw [hb,hc]) v hv
   by_cases k0:row[n].k=0
   . refine ⟨b,?_,fun hb=>hd true rfl hb⟩
     rw [<-ih];refine xal ?_;have k0':(row[n].k != 0)=false:=by simp [k0]
     simp only [xaS,xdv,xdY,sBU,hn,h1,gf,cV0,cV1,cV2,lV,sV,sV0,e1,k0',xG8 (n:=n) (by omega)]
   . have k0':(row[n].k != 0)=true:=by simp [k0]
     by_cases kk:row[n].k=q[n]
     . refine ⟨b,?_,fun hb=>hd true rfl hb⟩
       rw [<-ih];refine xal ?_;have kk':(row[n].k != q[n])=false:=by simp [kk]
       simp only [xaS,xdv,xdY,sBU,hn,J,h1,h2,gf,gk,cV0,cV1,cV2,lV,sV,cN,sN,sV0,e1,k0',kk',xG8 (n:=n) (by omega)]
     . have kk':(row[n].k != q[n])=true:=by simp [kk]
       refine ⟨false,xac ?_,fun h=>by simp at h⟩
       simp only [xaS,xdv,xdY,sBU,hn,J,h1,h2,gf,gk,cV0,cV1,cV2,lV,sV,cN,sN,sV0,e1,k0',kk']
def xCD (row:Row) (q:List Int) (hk:q.length<=48):∃ b,xmF (row.map encV) (q.map encN)=some b/\(b=true->row.length=q.length/\∀ v,v∈row->xHo v):=by
 unfold xmF xnc;by_cases hl:row.length=q.length
 . obtain ⟨b,e,g⟩:=xtD row q hl hk row.length 0 (by omega)
   have e:Iter (xaS (row.map encV) (q.map encN)) (0:Int)=_:=e;refine ⟨b,?_,fun hb=>⟨hl,by simpa using g hb⟩⟩
   rw [e];simp only [sBU,hl,bne_self_eq_false];cases b<;>rfl
 . refine ⟨false,?_,fun h=>by simp at h⟩
   have:(((row.length:Nat):Int) != ((q.length:Nat):Int))=true:=by simp;omega
   simp only [za,this,xaa,sUF]
def xtQ (q:List Int) (hk:q.length<=48):∀ d n:Nat,n+d=q.length->∃ b,Iter (xa7 (q.map encN)) (n:Int)=some (b,false,())
 | 0,n,h=>by
  have hn:n=q.length:=by omega
  subst hn;refine ⟨false,xac ?_⟩;simp only [xa7,xfn,za,zy,zm,xad,sUF]
 | d+1,n,h=>by
  have hn:n<q.length:=by omega
  have h1:(n:Int)<(q.length:Int):=by omega
  have gk:(q.map encN).getD n .top=encN q[n]:=xab _ _ _ hn;cases c:xo4 q[n] with
  | false =>
   refine ⟨true,xac ?_⟩;simp only [xa7,xfn,sBU,hn,h1,gk,cN,sN,c]
  | true =>
   obtain ⟨b,ih⟩:=xtQ q hk d (n+1) (by omega)
   refine ⟨b,?_⟩;rw [<-ih];refine xal ?_;simp only [xa7,xfn,sBU,hn,h1,gk,cN,sN,c,xG8 (n:=n) (by omega)]
def xzC (q:List Int) (hk:q.length<=48):∃ b,xlF (q.map encN)=some b:=by
 obtain ⟨b,e⟩:=xtQ q hk q.length 0 (by omega)
 have e:Iter (xa7 (q.map encN)) (0:Int)=some (b,false,()):=e;unfold xlF xmb;rw [e];cases b with
 | true=>exact ⟨false,rfl⟩
 | false=>exact ⟨true,rfl⟩
def FactOk (q:List Int) (f:Fc):Prop:=pv f.p=true/\f.r.length=q.length/\∀ v,v∈f.r->xHo v
def xsH (q:List Int) (hk:q.length<=48) (l:List Fc) (hl:l.length<=1024):∀ d n:Nat,n+d=l.length ->
  ∃ b,Iter xa8 ((n:Int),q.map encN,l.map encF)=some (if b=true then (false,(false,[],[]),(q.map encN,l.map encF)) else (true,(false,q.map encN,l.map encF),([],[])))/\(b=true->∀ f,f∈l.drop n->FactOk q f)
 | 0,n,h=>by
  have hn:n=l.length:=by omega
  subst hn;refine ⟨true,xac ?_,fun _ v hv=>by rw [zq (zd _)] at hv;simp at hv⟩
  simp only [xa8,xd1,za,zy,zm,xad,if_true,sUF]
 | d+1,n,h=>by
  have hn:n<l.length:=by omega
  have h1:(n:Int)<(l.length:Int):=by omega
  have gf:(l.map encF).getD n .top=encF l[n]:=xab _ _ _ hn;obtain ⟨b1,e1,g1⟩:=xCD l[n].r q hk;cases hv:pv l[n].p with
  | false =>
   refine ⟨false,xac ?_,fun h=>by simp at h⟩
   simp only [xa8,xd1,sBU,hn,h1,gf,cF0,cF1,cF2,sF0,sF1,sF2,lF,sF12,sF02,xnR,hv,if_false];simp
  | true =>
   cases b1 with
   | false =>
    refine ⟨false,xac ?_,fun h=>by simp at h⟩
    simp only [xa8,xd1,sBU,hn,h1,gf,cF0,cF1,cF2,sF0,sF1,sF2,lF,sF12,sF02,xnR,hv,e1];simp
   | true =>
    obtain ⟨b,ih,J⟩:=xsH q hk l hl d (n+1) (by omega)
    refine ⟨b,?_,fun hb f hf=>?_⟩
    . rw [<-ih];refine xal ?_;simp only [xa8,xd1,sBU,hn,h1,gf,cF0,cF1,cF2,sF0,sF1,sF2,lF,sF12,sF02,xnR,hv,e1,xG8 (n:=n) (by omega)]
    . rw [xa3 hn] at hf;rcases zC.1 hf with rfl|hf
      . exact ⟨hv,g1 rfl⟩
      . exact J hb f hf
def xrM (q:List Int) (hk:q.length<=48) (l:List Fc) (hl:l.length<=1024):∃ b,xfc (q.map encN) (l.map encF)=some b/\(b=true->∀ f,f∈l->FactOk q f):=by
 obtain ⟨b,e,g⟩:=xsH q hk l hl l.length 0 (by omega)
 have e:Iter xa8 ((0:Int),q.map encN,l.map encF)=_:=e;obtain ⟨bk,ek⟩:=xzC q hk;unfold xfc xme;cases b with
 | false =>
  rw [if_neg (by simp)] at e
  refine ⟨false,?_,fun h=>by simp at h⟩
  simp only [xgH,xda,sBU,e]
 | true =>
  rw [if_pos rfl] at e;have h1:((q.length:Nat):Int)<=48:=by omega
  by_cases h0:((q.length:Nat):Int)>0
  . refine ⟨bk,?_,fun _ f hf=>g rfl f (by simpa using hf)⟩
    simp only [xgH,xda,sBU,e,h0,h1,ek]
  . refine ⟨false,?_,fun h=>by simp at h⟩
    simp only [xgH,xda,sBU,e,h0]
def xvX (a b:List Int) (ha:a.length<=1048576):xfU (a.map encN) (b.map encN)=some (decide (a=b)):=by
 unfold xfU xi8;by_cases hl:a.length=b.length
 . have e:Iter (xbg (a.map encN) (b.map encN)) (0:Int)=some (if a=b then (false,false,()) else (true,false,())):=by
    refine xyg a b hl (fun n h h2=>?_) ?_
    . have h1:(n:Int)<(a.length:Int):=by omega
      have h3:(n:Int)<(b.length:Int):=by omega
      have gf:(a.map encN).getD n .top=encN a[n]:=xab _ _ _ h;have gg:(b.map encN).getD n .top=encN b[n]:=xab _ _ _ h2;simp only [xbg,xe0,sBU,h,h1,h2,h3,gf,gg,cN,sN,xG8 (n:=n) (by omega)]
      by_cases he:a[n]=b[n]<;>simp [he,xaa,xad,xaI,sUF]
    . simp only [xbg,xe0,za,zy,zm,xad,sUF]
   have hne:(((a.length:Nat):Int) != ((b.length:Nat):Int))=false:=by simp [hl]
   simp only [za,hne,xad,e,sUF];by_cases he:a=b<;>simp [he,xaa,xad,sUF]
 . have hne:(((a.length:Nat):Int) != ((b.length:Nat):Int))=true:=by simp;omega
   have:a≠b:=fun e=>hl (by rw [e])
   simp only [za,hne,xaa,this,zm,sUF]
def xBJ (ka kb:List Int) (a b:List Fc) (hk:ka.length<=1048576) (h:a.length<=1048576) (hr:∀ f,f∈a->f.r.length<=60):xjr (ka.map encN) (a.map encF) (kb.map encN) (b.map encF)=some (decide (ka=kb)&&decide (a=b)):=by
 have e1:=xvX ka kb hk;have e2:=xud a b h (fun f hf=>by have:=hr f hf;unfold maxLen;omega)
 unfold xjr xmd;simp only [e1,e2,zk,zh,xaa,sUF];cases decide (ka=kb)<;>simp [xaa,xad,sUF]
structure SR1 (K:List Int) (l:List Fc):Prop where
 len:l.length<=16
 kl:K.length<=48
 fact:∀ f,f∈l->FactOk K f
def xAG (K:List Int) (l:List Fc):∃ b,xjZ (K.map encN) (l.map encF)=some b/\(b=true->SR1 K l):=by
 unfold xjZ xn3;simp only [za];by_cases h1:((l.length:Nat):Int)<=16
 . by_cases h2:((K.length:Nat):Int)<=48
   . obtain ⟨b,e,g⟩:=xrM K (by omega) l (by omega)
     refine ⟨b,?_,fun hb=>⟨by omega,by omega,g hb⟩⟩
     simp only [h1,h2,zn,xaa,e,zk,zh,sUF]
   . refine ⟨false,?_,fun h=>by simp at h⟩
     simp only [h1,h2,zn,zm,xaa,xad,sUF]
 . refine ⟨false,?_,fun h=>by simp at h⟩
   simp only [h1,zm,xad,sUF]
def Nice (l:List Fc):Prop:=∀ f,f∈l->f.r.length<=48/\∀ v,v∈f.r->xHo v
def SR1.nice {K:List Int} {l:List Fc} (h:SR1 K l):Nice l:=fun f hf=>by
 have h1:=(h.fact f hf).2.1;have h2:=h.kl;exact ⟨by omega,(h.fact f hf).2.2⟩
def Nice.keyed {l:List Fc} (h:Nice l) (hl:l.length<=1048576):Keyed l :=
 ⟨⟨hl,fun f hf=>by have:=(h f hf).1;omega⟩,fun f hf=>⟨fun v hv=>⟨((h f hf).2 v hv).1.1,by have:=((h f hf).2 v hv).1.2;omega⟩,xp2 (fun v hv=>((h f hf).2 v hv).1) (by have:=(h f hf).1;omega)⟩⟩
def Nice.few {l:List Fc} (h:Nice l) (hl:l.length<=1048576):Few l:=(h.keyed hl).1
def Nice.bld {l:List Fc} (h:Nice l) (hl:l.length<=1024) (q:R20 l):Bld l:=⟨h.keyed (by omega),hl,q⟩
def Nice.append {a b:List Fc} (ha:Nice a) (hb:Nice b):Nice (a++b):=fun f hf=>by
 rcases zG.1 hf with h|h
 . exact ha f h
 . exact hb f h
def Nice.of {a b l:List Fc} (ha:Nice a) (hb:Nice b) (h:∀ f,f∈l->(∃ x,x∈a/\x.r=f.r)\/∃ x,x∈b/\x.r=f.r):Nice l:=fun f hf=>by
 rcases h f hf with ⟨x,hx,e⟩|⟨x,hx,e⟩
 . rw [<-e];exact ha x hx
 . rw [<-e];exact hb x hx
def xpu:∀ (R l:List Row),R.Nodup->(∀ r,r∈R->r∈l)->R.length<=l.length
 | [],l,_,_=>by simp
 | r::R,l,h,hs=>by
  obtain ⟨n1,n2⟩:=List.nodup_cons.1 h;have h1:=xpu R (l.filter fun x=>!decide (x=r)) n2 fun x hx=>List.mem_filter.2 ⟨hs x (by simp [hx]),by
   have:x≠r:=fun e=>n1 (e▸hx)
   simp [this]⟩
  have h2:(l.filter fun x=>!decide (x=r)).length<l.length:=List.length_filter_lt_length_iff_exists.2 ⟨r,hs r (by simp),by simp⟩
  rw [zF];omega
structure RelB (N:Row->Int->Nat) (m:Nat) (B:List Fc):Prop where
 isB:IsB N B
 len:B.length<=m
 nice:Nice B
def xjR {N:Int->Nat} {P:List Per} (h:IsSpan P) (hP:∀ t,inL P t=decide (0<N t)):IsLevs (fun t=>if 0<N t then 1 else 0) P:=by
 refine ⟨List.Pairwise.imp_of_mem (fun {p q} hp hq J=>xk8.2 (.inl (by have:=xbc.1 (h.1 p hp);omega))) h.2,fun k=>if k=0 then P else [],1,fun t=>by split<;>omega,fun k=>?_,by simp⟩
 . by_cases hk:k=0
   . subst hk;refine ⟨by simpa using h,fun t=>?_⟩
     simp only [if_true,hP];by_cases h0:0<N t<;>simp [h0]
   . refine ⟨by simp [hk,xeY],fun t=>?_⟩
     simp only [hk,if_false,xey];symm;rw [decide_eq_false_iff_not];split<;>omega
def xHj.isB {l B:List Fc} (h:xHj l B):IsB (fun r t=>if 0<cnt l r t then 1 else 0) B:=by
 obtain ⟨R,L,h1,h2,rfl⟩:=h;refine ⟨R,L,h1.1,fun r t ht=>(h1.2 r).2 (xni.2 ⟨t,?_⟩),fun r hr=>xjR (h2 r hr).1 (h2 r hr).2,rfl⟩
 by_cases h0:0<cnt l r t
 . exact h0
 . simp [h0] at ht
def xHj.len1 {l B:List Fc} (h:xHj l B):B.length<=l.length:=by
 obtain ⟨R,L,h1,h2,rfl⟩:=h;have e:=xoP (L:=L) (a:=l) (b:=[]) R fun r hr=>by
  have:=xlQ (xjR (h2 r hr).1 (h2 r hr).2) ((xHa l r).map (·.1)) fun t=>by
   have:=xfL (xHa l r) t;rw [xmO,xmO] at this;by_cases c1:0<cnt l r t
   . by_cases c2:0<cnt l r (t - 1)
     . simp only [c1,c2,if_true];omega
     . simp only [c1,c2,if_true,if_false];omega
   . simp only [c1,if_false];omega
  simp at this;omega
 have hn:=h1.1.nodup xkh;have e2:=xoJ l R hn;have e3:=xoJ [] R hn;rw [List.length_nil] at e3;omega
def xHT (K:List Int):List.take K.length (K.map encN)=K.map encN:=zi (by simp)
def xBA (K:List Int) (kb:List AV) {a b:List Fc} (hK:K.length<=1048576) (ha:Nice a) (hb:Nice b) (hl:a.length+b.length<=1024) (q:R20 (a++b)) :
  ∃ B:List Fc,xlH (K.map encN) (a.map encF) kb (b.map encF)=some (K.map encN,B.map encF)/\RelB (fun r t=>cnt a r t+cnt b r t) (a.length+b.length) B:=by
 obtain ⟨B,b1,b2,b3,b4⟩:=xs3 opA (ha.keyed (by omega)) (hb.keyed (by omega)) hl q
 refine ⟨B,?_,b2,b3,ha.of hb b4⟩;have b1:xpd (a.map encF) (b.map encF)=some (B.map encF):=b1;have m:K.length<=1099511627776:=by omega
 unfold xlH xmf;simp only [za,m,b1,zk,zh,zn,Bool.and_self,xaa,sUF]
def xzG (K:List Int) (kb:List AV) {a b:List Fc} (hK:K.length<=1048576) (ha:Nice a) (hb:Nice b) (hl:a.length+b.length<=1024) (q:R20 (a++b)) :
  ∃ B:List Fc,xkK (K.map encN) (a.map encF) kb (b.map encF)=some (K.map encN,B.map encF)/\RelB (fun r t=>cnt a r t - cnt b r t) (a.length+b.length) B:=by
 obtain ⟨B,b1,b2,b3,b4⟩:=xs3 opX (ha.keyed (by omega)) (hb.keyed (by omega)) hl q
 refine ⟨B,?_,b2,b3,ha.of hb b4⟩;have b1:xpf (a.map encF) (b.map encF)=some (B.map encF):=b1;have m:K.length<=1099511627776:=by omega
 unfold xkK xls;simp only [za,m,b1,zk,zh,zn,Bool.and_self,xaa,sUF]
def xBt (K:List Int) (kb:List AV) {a b:List Fc} (hK:K.length<=1048576) (ha:Nice a) (hb:Nice b) (hl:a.length+b.length<=1024) (q:R20 (a++b)) :
  ∃ B:List Fc,xhU (K.map encN) (a.map encF) kb (b.map encF)=some (K.map encN,B.map encF)/\RelB (fun r t=>min (cnt a r t) (cnt b r t)) (a.length+b.length) B:=by
 obtain ⟨B,b1,b2,b3,b4⟩:=xs3 opM (ha.keyed (by omega)) (hb.keyed (by omega)) hl q
 refine ⟨B,?_,b2,b3,ha.of hb b4⟩;have b1:xpe (a.map encF) (b.map encF)=some (B.map encF):=b1;have m:K.length<=1099511627776:=by omega
 unfold xhU xjc;simp only [za,m,b1,zk,zh,zn,Bool.and_self,xaa,sUF]
def xyI {a:List Fc} (ha:Nice a) (hl:a.length<=1024) (q:R20 a) :
  ∃ B:List Fc,xgz (a.map encF)=some (B.map encF)/\xHj a B/\RelB (fun r t=>if 0<cnt a r t then 1 else 0) a.length B:=by
 obtain ⟨B,b1,b2⟩:=xFM a (ha.bld hl q);exact ⟨B,b1,b2,b2.isB,b2.len1,b2.all (Q:=fun r=>r.length<=48/\∀ v,v∈r->xHo v) ha⟩
def xnk (K:List Int) {a:List Fc} (hK:K.length<=1048576) (ha:Nice a) (hl:a.length<=1024) (q:R20 a) :
  ∃ B:List Fc,xdb (K.map encN) (a.map encF)=some (K.map encN,B.map encF)/\xHj a B/\RelB (fun r t=>if 0<cnt a r t then 1 else 0) a.length B:=by
 obtain ⟨B,b1,b2,b3⟩:=xyI ha hl q;refine ⟨B,?_,b2,b3⟩;have m1:K.length*8<=140737488355328:=by omega
 have m2:K.length<=4611686018427387904:=by omega
 unfold xdb xjO;simp only [za,m1,m2,b1,zk,zh,zn,Bool.and_self,zH,zd,xaa,zr,xHT,sUF]
def RelB.cnt {N:Row->Int->Nat} {m:Nat} {B:List Fc} (h:RelB N m B) (r:Row) (t:Int):cnt B r t=N r t:=h.isB.cntB r t
def Nice.short {l:List Fc} (h:Nice l):∀ f,f∈l->f.r.length<=60:=fun f hf=>by have:=(h f hf).1;omega
def xyU {K:List Int} {a b:List Fc} (hK:K.length<=1048576) (ha:a.length<=1048576) (hn:Nice a) (e:a=b):xjr (K.map encN) (a.map encF) (K.map encN) (b.map encF)=some true:=by
 rw [xBJ K K a b hK ha hn.short,e];simp
def xC7 {K:List Int} {N:Row->Int->Nat} {m:Nat} {a b:List Fc} (hK:K.length<=48) (ha:RelB N m a) (hm:m<=1024) (hb:IsB N b):xjr (K.map encN) (a.map encF) (K.map encN) (b.map encF)=some true :=
 xyU (by omega) (by have:=ha.len;omega) ha.nice (ha.isB.unique hb)
def sqG (ky:AV->List UInt8) (pt:AV->List AV) (s:List En×List AV) (f:AV):List En×List AV:=(addE s.1 (ky f) (perA f),match ixE s.1 (ky f) with
 | none=>s.2++[.list 3 (pt f)]
 | some _=>s.2)
def xBv (ky:AV->List UInt8) (pt:AV->List AV):∀ (l:List AV) (s:List En×List AV),(l.foldl (sqG ky pt) s).1=l.foldl (fun es x=>addE es (ky x) (perA x)) s.1
 | [],s=>rfl
 | x::l,s=>by rw [List.foldl_cons,List.foldl_cons,xBv ky pt l];rfl
def xAU (k s:List UInt8) (p:AV):∀ es:List En,(ixE (addE es k p) s).isNone=((ixE es s).isNone&&!(k==s))
 | []=>by
  simp only [addE,ixE];cases k==s<;>rfl
 | e::es=>by
  have ih:=xAU k s p es;rw [addE];cases he:e.1==k with
  | true =>
   have e1:e.1=k:=by simpa using he
   dsimp only;rw [ixE,ixE,e1];cases h:k==s with
   | true=>rfl
   | false=>simp
  | false =>
   dsimp only;rw [ixE,ixE];cases h:e.1==s with
   | true=>rfl
   | false =>
    dsimp only;rw [Option.isNone_map,Option.isNone_map,ih]
def byP (π:Row->Row) (l:List Fc) (ρ:Row):List Per:=(l.filter fun f=>decide (π f.r=ρ)).map (·.p)
def PtOk (π:Row->Row) (ky:AV->List UInt8) (pt:AV->List AV) (l:List Fc):Prop:=∀ f,f∈l->ky (encF f)=keyOf (π f.r)/\pt (encF f)=(π f.r).map encV
def xv1 {π:Row->Row} {ky:AV->List UInt8} {pt:AV->List AV}:∀ (l:List Fc) (h:PtOk π ky pt l) (es:List En) (R:List Row),R.Nodup->(∀ r,(ixE es (keyOf r)).isNone=decide (r∉R)) ->
  ∃ R':List Row,((l.map encF).foldl (sqG ky pt) (es,R.map encR)).2=R'.map encR/\R'.Nodup/\(∀ r,r∈R'↔r∈R\/∃ f,f∈l/\π f.r=r)/\R'.length<=R.length+l.length
 | [],h,es,R,hR,hi=>⟨R,rfl,hR,fun r=>by simp,by simp⟩
 | f::l,h,es,R,hR,hi=>by
  obtain ⟨h1,h2⟩:=h f (by simp)
  have hl:PtOk π ky pt l:=fun g hg=>h g (by simp [hg])
  have q:=hi (π f.r);rw [zV,List.foldl_cons];have J:∀ R2:List Row,(∀ r,r∈R2↔r∈R\/π f.r=r)->∀ r,(ixE (addE es (keyOf (π f.r)) (perA (encF f))) (keyOf r)).isNone=decide (r∉R2):=fun R2 h2 r=>by
   rw [xAU,hi];by_cases hr:π f.r=r
   . have:(keyOf (π f.r)==keyOf r)=true:=by simp [hr]
     rw [this];have hm:r∈R2:=(h2 r).2 (.inr hr);simp [hm]
   . have:(keyOf (π f.r)==keyOf r)=false:=by
      rw [beq_eq_false_iff_ne];exact fun e=>hr (xot e)
     rw [this];have:r∈R2↔r∈R:=by rw [h2];simp [hr]
     simp [this]
  cases hc:ixE es (keyOf (π f.r)) with
  | none =>
   rw [hc] at q;have hn:π f.r∉R:=by
    have:true=decide (π f.r∉R):=q;exact of_decide_eq_true this.symm
   have e:sqG ky pt (es,R.map encR) (encF f)=(addE es (keyOf (π f.r)) (perA (encF f)),(R++[π f.r]).map encR):=by
    unfold sqG;rw [h1,h2];dsimp only;rw [hc];simp [encR]
   rw [e];obtain ⟨R',r1,r2,r3,r4⟩:=xv1 l hl (addE es (keyOf (π f.r)) (perA (encF f))) (R++[π f.r]) (List.nodup_append.2 ⟨hR,by simp,fun a ha b hb e=>by
    simp at hb;exact hn (by rw [<-hb,<-e];exact ha)⟩) (J _ fun r=>by
     rw [zG,zv];exact ⟨fun c=>c.imp id Eq.symm,fun c=>c.imp id Eq.symm⟩)
   refine ⟨R',r1,r2,fun r=>?_,by rw [z8,zj] at r4;rw [zF];omega⟩
   rw [r3,zG,zv];constructor
   . rintro ((h|rfl)|⟨g,g1,g2⟩)
     . exact .inl h
     . exact .inr ⟨f,by simp,rfl⟩
     . exact .inr ⟨g,by simp [g1],g2⟩
   . rintro (h|⟨g,g1,g2⟩)
     . exact .inl (.inl h)
     . rcases zC.1 g1 with rfl|g1
       . exact .inl (.inr g2.symm)
       . exact .inr ⟨g,g1,g2⟩
  | some j =>
   rw [hc] at q;have hn:π f.r∈R:=by
    have:false=decide (π f.r∉R):=q;have:=of_decide_eq_false this.symm;simpa using this
   have e:sqG ky pt (es,R.map encR) (encF f)=(addE es (keyOf (π f.r)) (perA (encF f)),R.map encR):=by
    unfold sqG;rw [h1];dsimp only;rw [hc]
   rw [e];obtain ⟨R',r1,r2,r3,r4⟩:=xv1 l hl (addE es (keyOf (π f.r)) (perA (encF f))) R hR (J _ fun r=>⟨.inl,fun c=>c.elim id fun e=>e▸hn⟩)
   refine ⟨R',r1,r2,fun r=>?_,by rw [zF];omega⟩
   rw [r3];constructor
   . rintro (h|⟨g,g1,g2⟩)
     . exact .inl h
     . exact .inr ⟨g,by simp [g1],g2⟩
   . rintro (h|⟨g,g1,g2⟩)
     . exact .inl h
     . rcases zC.1 g1 with rfl|g1
       . exact .inl (g2▸hn)
       . exact .inr ⟨g,g1,g2⟩
def xAZ (es:List En) (s:List UInt8):lookL (es.map encEn) s=lookE es s:=by
 unfold lookL;rw [xim];cases h:ixE es s with
 | none=>exact (xsg h).symm
 | some i =>
  have hi:=xm0 h;rw [xsh h];dsimp only;rw [show (es.map encEn).getD i .top=encEn (es.getD i default) by simp [z7,hi]]
  rfl
def xBm (es:List En) (s:List UInt8):(!xIq (es.map encEn) s || xIC 2 (xIe AV.nils (es.map encEn) s))=true:=by
 unfold xIe xIq;rw [xim];cases h:ixE es s with
 | none=>rfl
 | some i =>
  have hi:=xm0 h;dsimp only;rw [show (es.map encEn).getD i .top=encEn (es.getD i default) by simp [z7,hi]]
  rfl
def xDD {π:Row->Row} {ky:AV->List UInt8} {pt:AV->List AV} {l:List Fc} (h:PtOk π ky pt l) (ρ:Row):lookL ((((l.map encF).foldl (sqG ky pt) ([],[])).1).map encEn) (keyOf ρ)=(byP π l ρ).map encP:=by
 rw [xAZ,xBv,xtU];show []++_=_;rw [zU];unfold byP;rw [List.filter_map,List.map_map,List.map_map];have:l.filter ((fun x=>ky x==keyOf ρ)∘encF)=l.filter fun f=>decide (π f.r=ρ):=List.filter_congr fun f hf=>by
  show (ky (encF f)==keyOf ρ)=_;rw [(h f hf).1];by_cases hr:π f.r=ρ
  . simp [hr]
  . have:(keyOf (π f.r)==keyOf ρ)=false:=by
     rw [beq_eq_false_iff_ne];exact fun e=>hr (xot e)
    rw [this];simp [hr]
 rw [this];rfl
structure PerM (π:Row->Row) (l:List Fc) (ms rs:List AV) (R:List Row):Prop where
 look:∀ ρ,lookL ms (keyOf ρ)=(byP π l ρ).map encP
 row:∀ s,(!xIq ms s || xIC 2 (xIe AV.nils ms s))=true
 rows:rs=R.map encR
 nd:R.Nodup
 mem:∀ r,r∈R↔∃ f,f∈l/\π f.r=r
 len:R.length<=l.length
def xyu {π:Row->Row} {ky:AV->List UInt8} {pt:AV->List AV} {l:List Fc} (h:PtOk π ky pt l):∃ R,PerM π l ((((l.map encF).foldl (sqG ky pt) ([],[])).1).map encEn) ((l.map encF).foldl (sqG ky pt) ([],[])).2 R:=by
 obtain ⟨R,r1,r2,r3,r4⟩:=xv1 l h [] [] List.nodup_nil fun r=>by simp [ixE]
 exact ⟨R,xDD h,xBm _,r1,r2,fun r=>by rw [r3];simp,by simpa using r4⟩
def xFG {l:List Fc} (h:Keyed l):PtOk id (fun f=>kyQ none (rowF f)) (fun f=>ptQ none (rowF f)) l:=fun f hf=>by
 refine ⟨?_,rfl⟩;show (xau (f.r.map encV)).getD []=keyOf f.r;rw [h.skey hf];rfl
def xvN {l:List Fc} (h:Keyed l):xmN (l.map encF)=true/\∃ R,PerM id l (xge (l.map encF)) (xqe (l.map encF)) R:=by
 refine ⟨?_,xyu (xFG h)⟩;have hl:=h.1.1;unfold xmN;simp only [zf,zl,zI,List.mem_range,za];refine ⟨by omega,fun i hi=>?_⟩
 rw [xab _ _ _ hi];have hf:=zo hi;have e1:=h.skey hf;have e2:=(h.2 _ hf).2;have m:(keyOf l[i].r).length<=4611686018427387904:=by omega
 unfold foQ;have c1:((encF l[i]).cells.length==3)=true:=rfl;have c2:xH1 [.list 3,.int .i64,.int .i64] (encF l[i]).cells 0=true:=rfl;have c3:okQ none (rowF (encF l[i]))=true:=rfl;have c4:xau (ptQ none (rowF (encF l[i])))=some (keyOf l[i].r):=e1;have c5:kyQ none (rowF (encF l[i]))=keyOf l[i].r:=by unfold kyQ;rw [c4];rfl
 rw [c1,c2,c3,c4,c5];simp [m]
def xye (n:Nat) (r:Row) (hn:n<=r.length) (hr:r.length<=1048576):xgc (r.map encV) (n:Int)=some ((r.take n).map encV):=by
 have v:xgA (r.map encV) (n:Int)=(n:Int):=by
  unfold xgA;rw [za];split<;>omega
 have h1:(n:Int)<=(r.length:Int):=by omega
 unfold xgc xl5;rw [v];simp only [za,h1,Int.natCast_nonneg,zn,Bool.and_self,xaa,zN,Nat.sub_zero,zr,List.map_take,sUF]
def xwa {l:List Fc} (h:Nice l) {f:Fc} (hf:f∈l) (n:Nat):xau ((f.r.take n).map encV)=some (keyOf (f.r.take n))/\(keyOf (f.r.take n)).length<=4611686018427387904:=by
 obtain ⟨h1,h2⟩:=h f hf;have hl:(f.r.take n).length<=48:=by rw [zt];omega
 have hv:∀ v,v∈f.r.take n->xHo v:=fun v hv=>h2 v (List.mem_of_mem_take hv)
 have hk:=xp2 (r:=f.r.take n) (fun v q=>(hv v q).1) (by omega)
 exact ⟨xtm _ (by omega) (fun v q=>⟨(hv v q).1.1,by have:=(hv v q).1.2;omega⟩) hk,by omega⟩
def xFF {l:List Fc} (h:Nice l) (n:Nat) (hn:∀ f,f∈l->n<=f.r.length):PtOk (·.take n) (fun f=>kyQ (some (n:Int)) (rowF f)) (fun f=>ptQ (some (n:Int)) (rowF f)) l:=fun f hf=>by
 have e:ptQ (some (n:Int)) (rowF (encF f))=(f.r.take n).map encV:=by
  show (xgc (f.r.map encV) (n:Int)).getD []=_;rw [xye n f.r (hn f hf) (by have:=(h f hf).1;omega)];rfl
 refine ⟨?_,e⟩;show (xau (ptQ (some (n:Int)) (rowF (encF f)))).getD []=keyOf (f.r.take n);rw [e,(xwa h hf n).1];rfl
def xCp {l:List Fc} (h:Nice l) (hl:l.length<=1048576) (n:Nat) (hn:∀ f,f∈l->n<=f.r.length):xoy (l.map encF) (n:Int)=true/\∃ R,PerM (·.take n) l (xm7 (l.map encF) (n:Int)) (xnN (l.map encF) (n:Int)) R:=by
 refine ⟨?_,xyu (xFF h n hn)⟩;unfold xoy;simp only [zf,zl,zI,List.mem_range,za];refine ⟨by omega,fun i hi=>?_⟩
 rw [xab _ _ _ hi];have hf:=zo hi;obtain ⟨e1,e2⟩:=xwa h hf n;have e3:=xye n l[i].r (hn _ hf) (by have:=(h _ hf).1;omega)
 have c3:okQ (some (n:Int)) (rowF (encF l[i]))=true:=by
  show (xgc (l[i].r.map encV) (n:Int)).isSome=true;rw [e3];rfl
 have c6:ptQ (some (n:Int)) (rowF (encF l[i]))=(l[i].r.take n).map encV:=by
  show (xgc (l[i].r.map encV) (n:Int)).getD []=_;rw [e3];rfl
 have c5:kyQ (some (n:Int)) (rowF (encF l[i]))=keyOf (l[i].r.take n):=by unfold kyQ;rw [c6,e1];rfl
 unfold foQ;have c1:((encF l[i]).cells.length==3)=true:=rfl;have c2:xH1 [.list 3,.int .i64,.int .i64] (encF l[i]).cells 0=true:=rfl;rw [c1,c2,c3,c5,c6,e1];simp [e2]
theorem xyf (X:List Per) (t:Int):inL X t=decide (0<X.countP (hasP · t)):=by
 rw [Bool.eq_iff_iff,zl,List.countP_pos_iff];unfold inL;rw [List.any_eq_true]
theorem xtr {X Y r:List Per} (h:IsSpan r) (hr:∀ t,inL r t=(inL X t&&!inL Y t)):r.length<=X.length+Y.length:=by
 have:=xlQ (xjR (N:=fun t=>if 0<X.countP (hasP · t)/\¬ 0<Y.countP (hasP · t) then 1 else 0) h fun t=>by
  rw [hr,xyf,xyf];by_cases c1:0<X.countP (hasP · t)<;>by_cases c2:0<Y.countP (hasP · t)<;>simp [c1,c2]) (X.map (·.1)++Y.map (·.2)) fun t=>by
  have h1:=xfL X t;have h2:=xqO Y t;rw [List.count_append];by_cases c1:0<X.countP (hasP · t)
  . by_cases c2:0<Y.countP (hasP · t)
    . simp [c1,c2]
    . by_cases c3:0<X.countP (hasP · (t - 1))
      . by_cases c4:0<Y.countP (hasP · (t - 1))
        . simp [c1,c2,c3,c4];omega
        . simp [c1,c2,c3,c4]
      . simp [c1,c2,c3];omega
  . simp [c1]
 simpa using this
theorem xAr (h t:Row) (hl:h.length+t.length<=1048576):xiG (h.map encV) (t.map encV)=some ((h++t).map encV):=by
 have w0:IntKind.i64.wrap (0+(h.length:Int))=(h.length:Int):=by rw [xay (by omega) (by omega)];omega
 have w1:IntKind.i64.wrap ((h.length:Int)+(t.length:Int))=((h.length+t.length:Nat):Int):=by rw [xay (by omega) (by omega)];omega
 have n0:¬ (h.length:Int)<0:=by omega
 have n1:¬ ((h.length+t.length:Nat):Int)<0:=by omega
 have n2:((h.length+t.length:Nat):Int)<=4398046511104:=by omega
 have m1:h.length*32<=140737488355328:=by omega
 have m2:h.length<=4611686018427387904:=by omega
 have m3:(h.length+t.length)*32<=140737488355328:=by omega
 have m4:h.length+t.length<=4611686018427387904:=by omega
 have tt:List.take (h.length+t.length) (h.map encV++t.map encV)=h.map encV++t.map encV:=zi (by simp)
 have e:xdJ (h.map encV) (t.map encV)=some ((h++t).map encV):=by
  unfold xdJ xhX xg9 xfp;simp only [za,w0,w1,n0,n1,n2,m1,m2,m3,m4,Int.natCast_nonneg,zH,zU,z8,zd,zn,zm,Bool.and_self,zS,beq_self_eq_true,xaa,xad,zr,tt,zx,sUF]
 unfold xiG xlw;simp only [e,zk,zh,xaa,sUF]
structure LkM (ms:List AV) (D:Row->List Per):Prop where
 look:∀ ρ,lookL ms (keyOf ρ)=(D ρ).map encP
 row:∀ s,(!xIq ms s || xIC 2 (xIe AV.nils ms s))=true
def TRow (r:Row):Prop:=r.length<=48/\∀ v,v∈r->xHo v
theorem TRow.key {r:Row} (h:TRow r):xau (r.map encV)=some (keyOf r)/\(keyOf r).length<=4611686018427387904:=by
 have hk:=xp2 (r:=r) (fun v q=>(h.2 v q).1) (by have:=h.1;omega)
 exact ⟨xtm _ (by have:=h.1;omega) (fun v q=>⟨(h.2 v q).1.1,by have:=(h.2 v q).1.2;omega⟩) hk,by omega⟩
theorem xAB (n:Int) (h:Row) {du dv:List AV} {Du Dv:Row->List Per} (hu:LkM du Du) (hv:LkM dv Dv) (lu:∀ r,(Du r).length<=64) (lv:∀ r,(Dv r).length<=64) (T:List Row) (hT:T.length<=64) (ht:∀ t,t∈T->TRow t/\TRow (h++t)) :
  ∀ (d k:Nat) (l:List Per),k+d=T.length->l.length<=64+128*k->IsSpan l ->
  ∃ l':List Per,(∀ (on:Nat) (q:List AV) (J Q:Int) (a0 a1 hs os:List AV),Iter (xcz n (T.map encR) on (h.map encV) q J Q (T.map encR) ((T.length:Nat):Int)) (l.map encP,(k:Int),a0,a1,du,hs,dv,os)=some (l'.map encP,a0,a1,du,hs,dv,os)) /\
   IsSpan l'/\∀ τ,inL l' τ=(inL l τ&&(T.drop k).all fun t=>!(inL (Dv t) τ&&!inL (Du (h++t)) τ))
 | 0,k,l,hk,hl,hs=>by
  have:k=T.length:=by omega
  subst this;refine ⟨l,fun on q J Q a0 a1 hs os=>xac ?_,hs,fun τ=>by rw [zq (zd _)];simp⟩
  simp [xcz,xgq,xad,sUF]
 | d+1,k,l,hk,hl,hs=>by
  have O:k<T.length:=by omega
  obtain ⟨t1,t2⟩:=ht T[k] (zo O);obtain ⟨k1,k2⟩:=t1.key;obtain ⟨k3,k4⟩:=t2.key;have c1:=xAr h T[k] (by have:=t2.1;rw [z8] at this;omega)
  have u1:=hu.look (h++T[k]);have u2:=hu.row (keyOf (h++T[k]));have v1:=hv.look T[k];have v2:=hv.row (keyOf T[k]);have V:=lu (h++T[k]);have W:=lv T[k];obtain ⟨s,s1,s2,s3⟩:=xrd (Dv T[k]) (Du (h++T[k])) (by omega) (by omega)
  have sl:=xtr s2 s3;obtain ⟨r,r1,r2,r3⟩:=xrd l s (by omega) (by omega)
  have rl:=xtr r2 r3;obtain ⟨l',e,b1,b2⟩:=xAB n h hu hv lu lv T hT ht d (k+1) r (by omega) (by omega) r2
  refine ⟨l',fun on q J Q a0 a1 hs os=>?_,b1,fun τ=>?_⟩
  . rw [<-e on q J Q a0 a1 hs os];refine xal ?_;have i1:(k:Int)<(T.length:Int):=by omega
    have gf:(T.map encR).getD k .top=encR T[k]:=xab _ _ _ O;simp only [xcz,xgq,xck,xcl,sBU,O,i1,gf,cR0,sR0,k1,k2,k3,k4,c1,u1,u2,v1,v2,s1,r1,xG8 (n:=k) (by omega)]
  . rw [b2,r3,s3,xa3 O,List.all_cons,Bool.and_assoc]
theorem xAC (n:Int) (q:List AV) (h:Row) (hh:h.length<=1048576) (P:List Per) (hP:P.length<=1048576) (O:List AV) (Q V:Int) (a0 a1 du hs dv:List AV):∀ (d k:Nat) (D:List Fc),k+d=P.length->D.length+d<=1099511627776 ->
  Iter (xcA n q (h.map encV) O Q V (P.map encP) ((P.length:Nat):Int)) (D.length,(k:Int),a0,a1,du,hs,dv,D.map encF)=some ((D++mk h (P.drop k)).length,a0,a1,du,hs,dv,(D++mk h (P.drop k)).map encF)
 | 0,k,D,hk,hD=>by
  have:k=P.length:=by omega
  subst this;rw [zq (zd _)];refine xac ?_;simp [xcA,xgr,xad,mk,sUF]
 | d+1,k,D,hk,hD=>by
  have J:k<P.length:=by omega
  have i1:(k:Int)<(P.length:Int):=by omega
  have gf:(P.map encP).getD k .top=encP P[k]:=xab _ _ _ J;have m1:(D.length+1)*40<=140737488355328:=by omega
  have m2:D.length+1<=4611686018427387904:=by omega
  have e:D++mk h (P.drop k)=(D++[(⟨h,P[k]⟩:Fc)])++mk h (P.drop (k+1)):=by rw [xa3 J,zw];rfl
  rw [e,<-xAC n q h hh P hP O Q V a0 a1 du hs dv d (k+1) (D++[(⟨h,P[k]⟩:Fc)]) (by omega) (by rw [z8,zj];omega)]
  refine xal ?_;simp only [xcA,xgr,sBU,J,i1,gf,cP0,cP1,lP,sP,sP0,sP1,m1,m2,xG8 (n:=k) (by omega),z8,zj,zx,zV,zW]
  simp [encF]
def LvD (n:Int) (T:List Row) (du dv:List AV) (He:Row->List Per) (Du Dv:Row->List Per) (h:Row) (L:List Per):Prop :=
 (∃ l0:List Per,xhj ((He h).map encP)=some (l0.map encP)/\∀ (on:Nat) (q:List AV) (t57 t58:Int) (a0 a1 hs os:List AV),Iter (xcz n (T.map encR) on (h.map encV) q t57 t58 (T.map encR) ((T.length:Nat):Int)) (l0.map encP,(0:Int),a0,a1,du,hs,dv,os)=some (L.map encP,a0,a1,du,hs,dv,os)) /\
  IsSpan L/\(∀ τ,inL L τ=(inL (He h) τ&&T.all fun t=>!(inL (Dv t) τ&&!inL (Du (h++t)) τ)))/\L.length<=1048576
theorem xAA (n:Int) (T:List Row) (a0 a1:List AV) {he du dv:List AV} {He Du Dv:Row->List Per} (hh:LkM he He) (H:List Row) (hH:H.length<=1024) (hr:∀ r,r∈H->TRow r) (L:Row->List Per) (hL:∀ r,r∈H->LvD n T du dv He Du Dv r (L r)):∀ (d k:Nat) (D:List Fc),k+d=H.length->D.length<=1048576*k ->
  Iter (xcy n (T.map encR) (H.map encR) ((H.length:Nat):Int)) (D.length,(k:Int),a0,a1,du,he,dv,D.map encF)=some ((D++xG7 (H.drop k) L).length,a0,a1,(D++xG7 (H.drop k) L).map encF)
 | 0,k,D,hk,hD=>by
  have:k=H.length:=by omega
  subst this;rw [zq (zd _)];refine xac ?_;simp [xcy,xgp,xad,xG7,sUF]
 | d+1,k,D,hk,hD=>by
  have q:k<H.length:=by omega
  have i1:(k:Int)<(H.length:Int):=by omega
  have gf:(H.map encR).getD k .top=encR H[k]:=xab _ _ _ q;have t1:=hr H[k] (zo q);obtain ⟨k1,k2⟩:=t1.key;have v1:=hh.look H[k];have v2:=hh.row (keyOf H[k]);obtain ⟨⟨l0,q1,q2⟩,_,_,q3⟩:=hL H[k] (zo q);have e1:=q2 D.length (H.map encR) ((H.length:Nat):Int) (k:Int) a0 a1 he (D.map encF);have e2:=xAC n (T.map encR) H[k] (by have:=t1.1;omega) (L H[k]) q3 (H.map encR) ((H.length:Nat):Int) (k:Int) a0 a1 du he dv (L H[k]).length 0 D (by omega) (by omega)
  rw [zr] at e2;have e2:Iter (xcA n (T.map encR) (H[k].map encV) (H.map encR) ((H.length:Nat):Int) (k:Int) ((L H[k]).map encP) (((L H[k]).length:Nat):Int)) (D.length,(0:Int),a0,a1,du,he,dv,D.map encF)=_:=e2;have ml:(mk H[k] (L H[k])).length<=1048576:=by unfold mk;rw [za];exact q3
  have e:D++xG7 (H.drop k) L=(D++mk H[k] (L H[k]))++xG7 (H.drop (k+1)) L:=by
   rw [xa3 q,zw];rfl
  rw [e,<-xAA n T a0 a1 hh H hH hr L hL d (k+1) (D++mk H[k] (L H[k])) (by omega) (by rw [z8];omega)]
  refine xal ?_;simp only [xcy,xgp,xbn,xaX,xcR,sBU,q,i1,gf,cR0,sR0,k1,k2,v1,v2,q1,e1,e2,xG8 (n:=k) (by omega)]
def DivB (n:Nat) (a b:List Fc) (h:Row) (τ:Int):Prop:=(∃ f,f∈a/\f.r.take n=h/\hasP f.p τ=true)/\∀ t,0<cnt b t τ->0<cnt a (h++t) τ
open Classical in
def DivN (n:Nat) (a b:List Fc) (h:Row) (τ:Int):Nat:=if DivB n a b h τ then 1 else 0
theorem xdR {n:Nat} {a b:List Fc} {h:Row} {τ:Int}:0<DivN n a b h τ↔DivB n a b h τ:=by
 unfold DivN;split<;>simp_all
theorem xfC (n:Nat) (a b:List Fc) (h:Row) (τ:Int):DivN n a b h τ<=1:=by
 unfold DivN;split<;>simp
theorem xuZ {π:Row->Row} {l:List Fc} {h:Row} {τ:Int}:inL (byP π l h) τ=true↔∃ f,f∈l/\π f.r=h/\hasP f.p τ=true:=by
 unfold inL byP;rw [List.any_eq_true];constructor
 . rintro ⟨p,hp,h1⟩;obtain ⟨f,hf,rfl⟩:=zK.1 hp;obtain ⟨f1,f2⟩:=List.mem_filter.1 hf;exact ⟨f,f1,by simpa using f2,h1⟩
 . rintro ⟨f,f1,f2,f3⟩;exact ⟨f.p,zK.2 ⟨f,List.mem_filter.2 ⟨f1,by simpa using f2⟩,rfl⟩,f3⟩
theorem xlK {l:List Fc} {h:Row} {τ:Int}:inL (byP id l h) τ=true↔0<cnt l h τ:=by
 rw [xuZ,xcM];rfl
theorem xqy (π:Row->Row) (l:List Fc) (h:Row):(byP π l h).length<=l.length:=by
 unfold byP;rw [za];exact List.length_filter_le _ _
structure Divs (Ka Kb:List Int) (a b:List Fc) (n:Nat):Prop where
 na:Nice a
 nb:Nice b
 la:a.length<=16
 lb:b.length<=16
 ka:Ka.length<=48
 kn:n+Kb.length=Ka.length
 n0:0<n
 ra:∀ f,f∈a->f.r.length=Ka.length
 rb:∀ f,f∈b->f.r.length=Kb.length
variable {Ka Kb : List Int} {a b : List Fc} {n : Nat}
theorem Divs.head (h:Divs Ka Kb a b n) {f:Fc} (hf:f∈a):(f.r.take n).length=n:=by
 have:=h.ra f hf;have:=h.kn;rw [zt];omega
theorem Divs.bound (h:Divs Ka Kb a b n) {h0:Row} (hn:h0.length=n) (τ:Int):DivN n a b h0 τ<=DivN n a b h0 (τ - 1)+((byP (·.take n) a h0).map (·.1)++b.map (·.p.2)).count τ:=by
 by_cases c:DivB n a b h0 τ
 . by_cases c':DivB n a b h0 (τ - 1)
   . have:=xdR.2 c';have:=xfC n a b h0 τ;omega
   . have O:τ∈(byP (·.take n) a h0).map (·.1)++b.map (·.p.2):=by
      obtain ⟨⟨f,f1,f2,f3⟩,c2⟩:=c;by_cases hf:hasP f.p (τ - 1)=true
      . have:∃ t,0<cnt b t (τ - 1)/\¬ 0<cnt a (h0++t) (τ - 1):=by
         apply Classical.byContradiction;intro Q;exact c' ⟨⟨f,f1,f2,hf⟩,fun t ht=>Classical.byContradiction fun hx=>Q ⟨t,ht,hx⟩⟩
        obtain ⟨t,t1,t2⟩:=this;by_cases hb:0<cnt b t τ
        . obtain ⟨g,g1,g2,g3⟩:=xcM.1 (c2 t hb);have g4:¬ hasP g.p (τ - 1)=true:=fun hx=>t2 (xcM.2 ⟨g,g1,g2,hx⟩)
          obtain ⟨v1,v2,v3⟩:=xaO.1 g3;have:g.p.1=τ:=by
           rcases Int.lt_or_le g.p.1 τ with J|q
           . exact absurd (xaO.2 ⟨v1,by omega,by omega⟩) g4
           . omega
          refine zG.2 (.inl (zK.2 ⟨g.p,zK.2 ⟨g,List.mem_filter.2 ⟨g1,?_⟩,rfl⟩,this⟩));simp only [zl];rw [g2,List.take_append_of_le_length (by omega),<-hn,y6]
        . obtain ⟨g,g1,g2,g3⟩:=xcM.1 t1;have g4:¬ hasP g.p τ=true:=fun hx=>hb (xcM.2 ⟨g,g1,g2,hx⟩)
          obtain ⟨v1,v2,v3⟩:=xaO.1 g3;have:g.p.2=τ:=by
           rcases Int.lt_or_le τ g.p.2 with J|q
           . exact absurd (xaO.2 ⟨v1,by omega,by omega⟩) g4
           . omega
          exact zG.2 (.inr (zK.2 ⟨g,g1,this⟩))
      . obtain ⟨v1,v2,v3⟩:=xaO.1 f3;have:f.p.1=τ:=by
         rcases Int.lt_or_le f.p.1 τ with J|q
         . exact absurd (xaO.2 ⟨v1,by omega,by omega⟩) hf
         . omega
        exact zG.2 (.inl (zK.2 ⟨f.p,zK.2 ⟨f,List.mem_filter.2 ⟨f1,by simpa using f2⟩,rfl⟩,this⟩))
     have:=List.count_pos_iff.2 O;have:=xfC n a b h0 τ;omega
 . have:DivN n a b h0 τ=0:=by
    cases hc:DivN n a b h0 τ with
    | zero=>rfl
    | succ k=>exact absurd (xdR.1 (by omega)) c
   omega
theorem xr7 {L:Row->List Per} {g:Row->Nat}:∀ (R:List Row),(∀ r,r∈R->(L r).length<=g r)->(xG7 R L).length<=(R.map g).sum
 | [],_=>by simp [xG7]
 | r::R,h=>by
  have ih:=xr7 R fun x hx=>h x (by simp [hx])
  have h1:=h r (by simp)
  have e:xG7 (r::R) L=((L r).map fun p=>(⟨r,p⟩:Fc))++xG7 R L:=by simp [xG7]
  rw [e,z8,za,zV,List.sum_cons];omega
theorem xul (c:Nat):∀ R:List Row,(R.map fun _=>c).sum=c*R.length
 | []=>rfl
 | r::R=>by rw [zV,List.sum_cons,xul c R,zF,Nat.mul_add,Nat.mul_one];omega
theorem xo8 (h:Divs Ka Kb a b n):∃ B:List Fc,xcj (Ka.map encN) (a.map encF) (Kb.map encN) (b.map encF)=some ((Ka.take n).map encN,B.map encF)/\RelB (DivN n a b) 512 B/\∀ f,f∈B->∃ g,g∈a/\g.r.take n=f.r:=by
 have J:=h.na;have O:=h.nb;have ak:=h.la;have aj:=h.lb;have am:=h.ka;have an:=h.kn;have al:=h.n0;obtain ⟨w1,Ra,wa⟩:=xvN (J.keyed (by omega))
 obtain ⟨w2,Rb,wb⟩:=xvN (O.keyed (by omega))
 obtain ⟨w3,H,wh⟩:=xCp J (by omega) n fun f hf=>by have:=h.ra f hf;omega
 have hH:∀ r,r∈H->TRow r/\r.length=n:=fun r hr=>by
  obtain ⟨f,f1,rfl⟩:=(wh.mem r).1 hr;have:=h.head f1;exact ⟨⟨by omega,fun v hv=>(J f f1).2 v (List.mem_of_mem_take hv)⟩,this⟩
 have hT:∀ r,r∈Rb->TRow r/\r.length=Kb.length:=fun r hr=>by
  obtain ⟨f,f1,rfl⟩:=(wb.mem r).1 hr;exact ⟨⟨(O f f1).1,(O f f1).2⟩,h.rb f f1⟩
 have ao:=wh.len;have ai:=wb.len;obtain ⟨L,hL⟩:=xnC (R:=H) (Q:=LvD (n:Int) Rb (xge (a.map encF)) (xge (b.map encF)) (byP (·.take n) a) (byP id a) (byP id b)) fun r hr=>by
  obtain ⟨ac,aa⟩:=hH r hr;have bl:=xqy (·.take n) a r;obtain ⟨l0,l1,l2,l3⟩:=xCY (byP (·.take n) a r) (by omega)
  have ll:l0.length<=(byP (·.take n) a r).length+([]:List Per).length:=xtr (X:=byP (·.take n) a r) (Y:=[]) l2 fun t=>by rw [l3,xey];simp
  obtain ⟨L,e1,e2,e3⟩:=xAB (n:Int) r (du:=xge (a.map encF)) (dv:=xge (b.map encF)) (Du:=byP id a) (Dv:=byP id b) ⟨wa.look,wa.row⟩ ⟨wb.look,wb.row⟩ (fun ρ=>by have:=xqy id a ρ;omega) (fun ρ=>by have:=xqy id b ρ;omega) Rb (by omega) (fun t ht=>by
   obtain ⟨t1,t2⟩:=hT t ht;exact ⟨t1,by rw [z8];omega,fun v hv=>by
    rcases zG.1 hv with hv|hv
    . exact ac.2 v hv
    . exact t1.2 v hv⟩) Rb.length 0 l0 (by omega) (by rw [List.length_nil] at ll;omega) l2
  rw [zr] at e3;have e4:∀ τ,inL L τ=(inL (byP (·.take n) a r) τ&&Rb.all fun t=>!(inL (byP id b t) τ&&!inL (byP id a (r++t)) τ)):=fun τ=>by rw [e3,l3]
  have dn:∀ τ,inL L τ=decide (0<DivN n a b r τ):=fun τ=>by
   rw [e4,Bool.eq_iff_iff,zl,xdR,zf,xuZ,zI];constructor
   . rintro ⟨h1,h2⟩;refine ⟨h1,fun t ht=>?_⟩
     obtain ⟨g,g1,g2,g3⟩:=xcM.1 ht;have:=h2 t ((wb.mem t).2 ⟨g,g1,g2⟩);have hb:inL (byP id b t) τ=true:=xlK.2 ht;rw [hb] at this;exact xlK.1 (by simpa using this)
   . rintro ⟨h1,h2⟩;refine ⟨h1,fun t ht=>?_⟩
     by_cases hb:inL (byP id b t) τ=true
     . have:=xlK.2 (h2 t (xlK.1 hb));rw [this];simp
     . have:inL (byP id b t) τ=false:=by simpa using hb
       rw [this];simp
  have len:=xlQ (xjR (N:=DivN n a b r) e2 dn) ((byP (·.take n) a r).map (·.1)++b.map (·.p.2)) fun τ=>by
   have:=h.bound aa τ;have h1:=xfC n a b r τ;have h2:=xfC n a b r (τ - 1);split<;>split<;>omega
  refine ⟨L,⟨l0,l1,fun on ab ag ae a0 a1 hs os=>e1 on ab ag ae a0 a1 hs os⟩,e2,e4,?_⟩
  rw [z8,za,za] at len;omega
 have dn:∀ r,r∈H->∀ τ,inL (L r) τ=decide (0<DivN n a b r τ):=fun r hr τ=>by
  obtain ⟨_,_,e4,_⟩:=hL r hr;rw [e4,Bool.eq_iff_iff,zl,xdR,zf,xuZ,zI];constructor
  . rintro ⟨h1,h2⟩;refine ⟨h1,fun t ht=>?_⟩
    obtain ⟨g,g1,g2,g3⟩:=xcM.1 ht;have:=h2 t ((wb.mem t).2 ⟨g,g1,g2⟩);have hb:inL (byP id b t) τ=true:=xlK.2 ht;rw [hb] at this;exact xlK.1 (by simpa using this)
  . rintro ⟨h1,h2⟩;refine ⟨h1,fun t ht=>?_⟩
    by_cases hb:inL (byP id b t) τ=true
    . have:=xlK.2 (h2 t (xlK.1 hb));rw [this];simp
    . have:inL (byP id b t) τ=false:=by simpa using hb
      rw [this];simp
 have len:∀ r,r∈H->(L r).length<=32:=fun r hr=>by
  have len:=xlQ (xjR (N:=DivN n a b r) (hL r hr).2.1 (dn r hr)) ((byP (·.take n) a r).map (·.1)++b.map (·.p.2)) fun τ=>by
   have:=h.bound (hH r hr).2 τ;have h1:=xfC n a b r τ;have h2:=xfC n a b r (τ - 1);split<;>split<;>omega
  have bl:=xqy (·.take n) a r;rw [z8,za,za] at len;omega
 have hF:=xr7 (L:=L) (g:=fun _=>32) H len
 rw [xul] at hF;have Z:∀ r τ,cnt (xG7 H L) r τ=DivN n a b r τ:=fun r τ=>by
  rw [xlL L r τ H wh.nd];split
  . rename_i hr;rw [xph (hL r hr).2.1,dn r hr];have:=xfC n a b r τ;by_cases c:0<DivN n a b r τ
    . simp [c];omega
    . simp [c];omega
  . rename_i hr;cases hc:DivN n a b r τ with
    | zero=>rfl
    | succ k =>
     obtain ⟨⟨f,f1,f2,_⟩,_⟩:=xdR.1 (show 0<DivN n a b r τ by omega)
     exact absurd ((wh.mem r).2 ⟨f,f1,f2⟩) hr
 have q:∀ f,f∈xG7 H L->∃ g,g∈a/\g.r.take n=f.r:=fun f hf=>(wh.mem _).1 (xjW hf).1
 have V:Nice (xG7 H L):=fun f hf=>(hH f.r (xjW hf).1).1
 obtain ⟨B,b1,b2,b3⟩:=xyI V (by omega) (R20.of (l:=a.map fun f=>⟨f.r.take n,f.p⟩) (R20.few (by rw [za];omega)) fun f hf=>by
  obtain ⟨g,g1,g2⟩:=q f hf;exact ⟨_,zK.2 ⟨g,g1,rfl⟩,g2.symm⟩)
 have hB:RelB (DivN n a b) 512 B:=⟨b2.isB.congr fun r t=>by
  rw [Z];have:=xfC n a b r t;split<;>omega,Nat.le_trans b3.len (by omega),b3.nice⟩
 refine ⟨B,?_,hB,b2.all (Q:=fun r=>∃ g,g∈a/\g.r.take n=r) q⟩
 have ad:xg7 (Ka.map encN) (Kb.map encN)=(n:Int):=by
  have w:IntKind.i64.wrap ((Ka.length:Int) - (Kb.length:Int))=(n:Int):=by rw [xay (by omega) (by omega)];omega
  unfold xg7;rw [za,za,w];split<;>omega
 have v3:xbL (Ka.map encN) (Kb.map encN)=(n:Int):=by
  unfold xbL;rw [ad];split<;>omega
 have e0:=xAA (n:Int) Rb (Ka.map encN) (a.map encF) (he:=xm7 (a.map encF) (n:Int)) ⟨wh.look,wh.row⟩ H (by omega) (fun r hr=>(hH r hr).1) L hL H.length 0 [] (by omega) (by simp)
 rw [zr,zU] at e0;have e0:Iter (xcy (n:Int) (Rb.map encR) (H.map encR) ((H.length:Nat):Int)) ((0:Nat),(0:Int),Ka.map encN,a.map encF,xge (a.map encF),xm7 (a.map encF) (n:Int),xge (b.map encF),[])=some ((xG7 H L).length,Ka.map encN,a.map encF,(xG7 H L).map encF):=e0;generalize xG7 H L=F at e0 b1;have ah:xg6 (Ka.map encN) (a.map encF) (Kb.map encN) (b.map encF)=some (F.length,Ka.map encN,a.map encF,F.map encF):=by
  unfold xg6;rw [v3,wh.rows,wb.rows,za,e0]
 have tF:List.take F.length (F.map encF)=F.map encF:=zi (by simp)
 have af:n<=Ka.length:=by omega
 have W:(n:Int)<=(Ka.length:Int):=by omega
 have lt:((Ka.take n).map encN).length=n:=by rw [za,zt];omega
 have m1:n*8<=140737488355328:=by omega
 have m2:n<=4611686018427387904:=by omega
 have tk:List.take n (Ka.map encN)=(Ka.take n).map encN:=by rw [List.map_take]
 have t2:List.take n ((Ka.take n).map encN)=(Ka.take n).map encN:=zi (by omega)
 unfold xcj xlr;simp only [xfY,xkJ,xhT,xdw,v3,ah,w1,w2,w3,zk,zh,xaa,za,zH,zd,zn,zS,Bool.and_self,zr,tF,b1,W,Int.natCast_nonneg,zN,Nat.sub_zero,tk,zU,lt,zt,Nat.min_eq_left af,m1,m2,t2,sUF]
end Go.Sim.M
end
noncomputable section
set_option maxRecDepth 100000
namespace Go.Sim.M
open Go.RowKit Go.Sim.Srt
def bnd (f:Fc):List Int:=if pv f.p=true then (if f.p.2<1099511627776 then [f.p.1,f.p.2] else [f.p.1]) else []
end Go.Sim.M
end
noncomputable section
set_option maxRecDepth 100000
namespace Go.Sim.M
open Go.RowKit
def xvi {α β:Type} (g:α->List β) (f:α->β) (p:α->Bool) (h:∀ a,g a=if p a=true then [f a] else []):∀ l:List α,l.flatMap g=(l.filter p).map f
 | []=>rfl
 | a::l=>by
  rw [zR,xvi g f p h l,h a,List.filter_cons];cases p a<;>simp
end Go.Sim.M
end
noncomputable section
set_option maxRecDepth 100000
namespace Go.Sim.M
open Go.RowKit Go.Sim.Srt
theorem xrH (t:Int) (l:List Fc) (hl:l.length<=1048576):Iter (xd0 (l.map encF) t) ((0:Nat),(0:Int),[])=some ((l.flatMap (fun (f:Fc)=>if hasP f.p t=true then [f.r] else [])).length,(l.flatMap (fun (f:Fc)=>if hasP f.p t=true then [f.r] else [])).map encR):=by
 refine xle l (fun (f:Fc)=>if hasP f.p t=true then [f.r] else []) encR 1 (fun f hf=>?_) (fun n h D hD=>?_) (fun D=>?_)
 . cases q:(hasP (f).p t)<;>simp [q]
 . have h1:(n:Int)<(l.length:Int):=by omega
   have m1:(D.length+1)*24<=140737488355328:=by omega
   have m2:D.length+1<=4611686018427387904:=by omega
   have gf:(l.map encF).getD n .top=encF l[n]:=xab _ _ _ h;simp only [xd0,xjy,sBU,h,h1,gf,cF0,cF1,cF2,sF0,sF1,sF2,lF,sF12,sF02,xCA,m1,m2,xG8 (n:=n) (by omega)]
   cases q:(hasP (l[n]).p t)<;>simp [encR,xaa,xad,encR,q,sUF]
 . simp only [xd0,xjy,za,zy,zm,xad,sUF]
theorem xvQ (l:List Fc) (t:Int) (h:Few l):∃ r,xdx (l.map encF) t=some (r.map encR)/\r.Perm (atL l t)/\Sorted cmpR r:=by
 obtain ⟨r,e,p,s⟩:=xvW (atL l t) (h.at t);refine ⟨r,?_,p,s⟩;have:=xrH t l h.1;unfold xdx xo5;simp only [xoa,xjs,this,sOO,sUF];rw [show (l.flatMap fun f=>if hasP f.p t=true then [f.r] else [])=atL l t from rfl,e]
 simp only [sOO]
theorem xmR {l:List Fc} {t:Int} {r:Row}:r∈atL l t↔0<cnt l r t:=by
 rw [<-xtv,List.count_pos_iff]
theorem xwb (R:List Row) (row:Row) (hR:R.length<=1048576) (hr:∀ x,x∈R->x.length<=maxLen):xhi (R.map encR) (row.map encV)=some ((R.count row:Nat):Int):=by
 have key:=xtO (step:=xbv (R.map encR) (row.map encV)) (r:=((R.count row:Nat):Int)) R (fun (c:Nat) x=>c+if x=row then 1 else 0) (fun k c=>((c:Int),(k:Int))) (fun k c=>c<=k) (fun n h c hc=>by
  have i1:(n:Int)<(R.length:Int):=by omega
  have gf:(R.map encR).getD n .top=encR R[n]:=xab _ _ _ h;have e:=xqH R[n] row (hr _ (zo h));by_cases hx:R[n]=row
  . rw [if_pos hx];refine ⟨?_,by omega⟩
    have d:decide (R[n]=row)=true:=decide_eq_true hx;simp only [xbv,xfo,sBU,h,i1,gf,cR0,sR0,e,cmp0,d,xG8 (n:=n) (by omega),xG8 (n:=c) (by omega)]
  . rw [if_neg hx];refine ⟨?_,by omega⟩
    have d:decide (R[n]=row)=false:=decide_eq_false hx;simp only [xbv,xfo,sBU,h,i1,gf,cR0,sR0,e,cmp0,d,xG8 (n:=n) (by omega),Nat.add_zero]) R.length 0 0 (by omega) (zd 0) (by
  have hc:∀ (l:List Row) (c:Nat),l.foldl (fun (c:Nat) x=>c+if x=row then 1 else 0) c=c+l.count row:=fun l=>by
   induction l with
   | nil=>intro c;simp
   | cons x l ih =>
    intro c;rw [List.foldl_cons,ih,List.count_cons];by_cases hx:x=row<;>simp [hx]<;>omega
  rw [zr,hc,zH];simp only [xbv,xfo,za,zy,zm,xad,sUF])
 have key:Iter (xbv (R.map encR) (row.map encV)) ((0:Int),(0:Int))=some ((R.count row:Nat):Int):=key;unfold xhi xmc;simp only [key,zk,zh,xaa,sUF]
theorem xst (h t:Row) (hl:h.length+t.length<=1048576):xed (h.map encV) (t.map encV)=some ((h++t).map encV):=by
 have m1:h.length*32<=140737488355328:=by omega
 have m2:h.length<=4611686018427387904:=by omega
 have m3:(h.length+t.length)*32<=140737488355328:=by omega
 have m4:h.length+t.length<=4611686018427387904:=by omega
 have tt:List.take (h.length+t.length) (h.map encV++t.map encV)=h.map encV++t.map encV:=zi (by simp)
 unfold xed xll xfT;simp only [za,m1,m2,m3,m4,zH,zU,z8,zd,zn,Bool.and_self,zS,beq_self_eq_true,xaa,zr,tt,zx,sUF]
theorem xDN (A B:List Row) (n:Nat) (hA:A.length<=1048576) (hn:∀ x,x∈A->n<=x.length):Iter (xcW (A.map encR) (B.map encR) (n:Int)) ((0:Nat),(0:Int),[])=some ((A.flatMap fun x=>[x.take n]).length,(A.flatMap fun x=>[x.take n]).map encR):=by
 refine xle A (fun x=>[x.take n]) encR 1 (fun x _=>by simp) (fun k h D hD=>?_) (fun D=>?_)
 . have i1:(k:Int)<(A.length:Int):=by omega
   have gf:(A.map encR).getD k .top=encR A[k]:=xab _ _ _ h;have hl:=hn _ (zo h);have i2:(n:Int)<=(A[k].length:Int):=by omega
   have m1:(D.length+1)*24<=140737488355328:=by omega
   have m2:D.length+1<=4611686018427387904:=by omega
   simp only [xcW,xhp,sBU,h,i1,i2,gf,cR0,sR0,m1,m2,xG8 (n:=k) (by omega),z8,zj,zx,zV,zW,zr]
   simp [encR,List.map_take]
 . simp only [xcW,xhp,za,zy,zm,xad,sUF]
theorem xth (A B H:List Row) (hA:A.length<=1048576) (hB:B.length<=1048576) (hr:∀ x,x∈A->x.length<=maxLen) (on i:Nat) (hi:i<H.length) (hc:∀ t,t∈B->H[i].length+t.length<=1048576) (os:List AV):∀ (d k:Nat) (all:Bool),k+d=B.length ->
  Iter (xbp (A.map encR) (B.map encR) (H.map encR) on (i:Int)) (all,(k:Int),os)=some (all&&(B.drop k).all (fun t=>decide (0<A.count (H[i]++t))),os)
 | 0,k,all,hk=>by
  have:k=B.length:=by omega
  subst this;rw [zq (zd _)];refine xac ?_;simp [xbp,xfz,xad,sUF]
 | d+1,k,all,hk=>by
  have q:k<B.length:=by omega
  have i1:(k:Int)<(B.length:Int):=by omega
  have i2:(i:Int)<(H.length:Int):=by omega
  have gf:(B.map encR).getD k .top=encR B[k]:=xab _ _ _ q;have gh:(H.map encR).getD i .top=encR H[i]:=xab _ _ _ hi;have e1:=xst H[i] B[k] (hc _ (zo q));have e2:=xwb A (H[i]++B[k]) hA hr;have e:(B.drop k).all (fun t=>decide (0<A.count (H[i]++t)))=(decide (0<A.count (H[i]++B[k]))&&(B.drop (k+1)).all (fun t=>decide (0<A.count (H[i]++t)))):=by
   rw [xa3 q,List.all_cons]
  rw [e];cases all with
  | false =>
   rw [Bool.false_and];have ih:=xth A B H hA hB hr on i hi hc os d (k+1) false (by omega)
   rw [Bool.false_and] at ih;rw [<-ih];refine xal ?_;simp only [xbp,xfz,sBU,i1,xG8 (n:=k) (by omega)]
  | true =>
   rw [Bool.true_and];have ih:=xth A B H hA hB hr on i hi hc os d (k+1) (decide (0<A.count (H[i]++B[k]))) (by omega)
   rw [<-ih];refine xal ?_;have d2:decide (((A.count (H[i]++B[k]):Nat):Int)>0)=decide (0<A.count (H[i]++B[k])):=by
    rw [Bool.eq_iff_iff,zl,zl];omega
   simp only [xbp,xfz,sBU,q,hi,i1,i2,gf,gh,cR0,sR0,e1,e2,d2,xG8 (n:=k) (by omega)]
theorem xDO (A B H:List Row) (hA:A.length<=1048576) (hB:B.length<=1048576) (hH:H.length<=1048576) (hr:∀ x,x∈A->x.length<=maxLen) (hc:∀ h,h∈H->∀ t,t∈B->h.length+t.length<=1048576) :
  Iter (xcX (A.map encR) (B.map encR) (H.map encR)) ((0:Nat),(0:Int),[])=some ((H.flatMap fun h=>if (B.all fun t=>decide (0<A.count (h++t)))=true then [h] else []).length,(H.flatMap fun h=>if (B.all fun t=>decide (0<A.count (h++t)))=true then [h] else []).map encR):=by
 refine xle H (fun h=>if (B.all fun t=>decide (0<A.count (h++t)))=true then [h] else []) encR 1 (fun x _=>by split<;>simp) (fun k h D hD=>?_) (fun D=>?_)
 . have i1:(k:Int)<(H.length:Int):=by omega
   have gf:(H.map encR).getD k .top=encR H[k]:=xab _ _ _ h;have e:=xth A B H hA hB hr D.length k h (hc _ (zo h)) (D.map encR) B.length 0 true (by omega)
   rw [zr,Bool.true_and] at e;have e:Iter (xbp (A.map encR) (B.map encR) (H.map encR) D.length (k:Int)) (true,(0:Int),D.map encR)=_:=e;have m1:(D.length+1)*24<=140737488355328:=by omega
   have m2:D.length+1<=4611686018427387904:=by omega
   cases hq:(B.all fun t=>decide (0<A.count (H[k]++t))) with
   | true =>
    rw [hq] at e;rw [if_pos rfl];simp only [xcX,xfy,xcw,sBU,h,i1,gf,cR0,sR0,e,m1,m2,xG8 (n:=k) (by omega),z8,zj,zx,zV,zW]
    simp [encR]
   | false =>
    rw [hq] at e;rw [if_neg (by simp)]
    simp only [xcX,xfy,xcw,sBU,h,i1,gf,cR0,sR0,e,xG8 (n:=k) (by omega),zD]
 . simp only [xcX,xfy,za,zy,zm,xad,sUF]
theorem xCF (A B:List Row) (n:Nat) (hA:A.length<=1048576) (hB:B.length<=1048576) (hn:∀ x,x∈A->n<=x.length/\x.length<=1024) (ht:∀ t,t∈B->t.length<=1024) :
  ∃ Q:List Row,xlp (A.map encR) (B.map encR) (n:Int)=some (Q.map encR)/\Strict cmpR Q/\(∀ r,r∈Q↔(∃ x,x∈A/\x.take n=r)/\∀ t,t∈B->r++t∈A)/\Q.length<=A.length:=by
 have e0:=xDN A B n hA fun x hx=>(hn x hx).1
 rw [xHD (fun x:Row=>x.take n) A] at e0
 have hS:xHp (A.map fun x=>x.take n):=⟨by rw [za];exact hA,fun x hx=>by
  obtain ⟨y,hy,rfl⟩:=zK.1 hx;have:=(hn y hy).2;rw [zt];omega⟩
 obtain ⟨H,h1,h2,h3,h4⟩:=xwp (A.map fun x=>x.take n) hS
 rw [za] at h4;have J:∀ r,r∈H↔∃ x,x∈A/\x.take n=r:=fun r=>by rw [h3,zK]
 have e1:=xDO A B H hA hB (by omega) (fun x hx=>by have:=(hn x hx).2;unfold maxLen;omega) (fun h hh t q=>by
  obtain ⟨x,hx,rfl⟩:=(J h).1 hh;have:=(hn x hx).2;have:=ht t q;rw [zt];omega)
 rw [xvi _ (fun h:Row=>h) (fun h=>B.all fun t=>decide (0<A.count (h++t))) (fun h=>rfl) H] at e1
 rw [List.map_id' (H.filter _)] at e1;refine ⟨H.filter fun h=>B.all fun t=>decide (0<A.count (h++t)),?_,h2.sublist List.filter_sublist,fun r=>?_,Nat.le_trans (List.length_filter_le _ _) h4⟩
 . generalize (H.filter fun h=>B.all fun t=>decide (0<A.count (h++t)))=Q at e1
   generalize (A.map fun x=>x.take n)=Z at e0 h1
   have tZ:List.take Z.length (Z.map encR)=Z.map encR:=zi (by simp)
   have tQ:List.take Q.length (Q.map encR)=Q.map encR:=zi (by simp)
   unfold xlp xng;simp only [xdB,xjb,xeR,e0,zk,zh,xaa,zH,za,zd,zn,zS,zr,tZ,h1,e1,tQ,sUF]
 . rw [List.mem_filter,J,zI];constructor
   . rintro ⟨a1,a2⟩;refine ⟨a1,fun t q=>?_⟩
     have:=a2 t q;rw [zl] at this;exact List.count_pos_iff.1 this
   . rintro ⟨a1,a2⟩;refine ⟨a1,fun t q=>?_⟩
     rw [zl];exact List.count_pos_iff.2 (a2 t q)
theorem xgB {a b t:Int} (ha:0<=a) (q:a<b) (hb:b<=1099511627776):hasP (a,b) t=decide (a<=t/\t<b):=by
 have:pv (a,b)=true:=xbc.2 ⟨ha,q,hb⟩;unfold hasP;rw [this];by_cases h1:a<=t<;>by_cases h2:t<b<;>simp [h1,h2]
section
variable {Ka Kb : List Int} {a b : List Fc} {n : Nat}
theorem Divs.snap (h:Divs Ka Kb a b n) (x:Int):∃ Q R T:List Row,(xdx (a.map encF) x=some (R.map encR)/\xdx (b.map encF) x=some (T.map encR)/\xlp (R.map encR) (T.map encR) (n:Int)=some (Q.map encR))/\(R.Perm (atL a x)/\T.Perm (atL b x))/\Strict cmpR Q/\(∀ r,r∈Q↔DivB n a b r x)/\Q.length<=16:=by
 have J:=h.la;have q:=h.lb;have O:=h.ka;have V:=h.kn;obtain ⟨R,r1,r2,r3⟩:=xvQ a x (h.na.few (by omega))
 obtain ⟨T,t1,t2,t3⟩:=xvQ b x (h.nb.few (by omega))
 have lR:=r2.length_eq;have lT:=t2.length_eq;have la:=xmL a x;have lb:=xmL b x;obtain ⟨Q,q1,q2,q3,q4⟩:=xCF R T n (by omega) (by omega) (fun y hy=>by
  obtain ⟨f,f1,rfl,_⟩:=xqw (r2.mem_iff.1 hy);have:=h.ra f f1;omega) (fun y hy=>by
  obtain ⟨f,f1,rfl,_⟩:=xqw (t2.mem_iff.1 hy);have:=h.rb f f1;omega)
 refine ⟨Q,R,T,⟨r1,t1,q1⟩,⟨r2,t2⟩,q2,fun r=>?_,by omega⟩
 rw [q3];unfold DivB;constructor
 . rintro ⟨⟨y,y1,y2⟩,h2⟩;obtain ⟨f,f1,f2,f3⟩:=xqw (r2.mem_iff.1 y1);refine ⟨⟨f,f1,by rw [f2];exact y2,f3⟩,fun t ht=>?_⟩
   exact xmR.1 (r2.mem_iff.1 (h2 t (t2.mem_iff.2 (xmR.2 ht))))
 . rintro ⟨⟨f,f1,f2,f3⟩,h2⟩;refine ⟨⟨f.r,r2.mem_iff.2 (xmR.2 (xcM.2 ⟨f,f1,rfl,f3⟩)),f2⟩,fun t ht=>?_⟩
   exact r2.mem_iff.2 (xmR.2 (h2 t (xmR.1 (t2.mem_iff.1 ht))))
end
end Go.Sim.M
end
noncomputable section
set_option maxRecDepth 100000
namespace Go.Sim.M
open Go.RowKit Go.Sim.Srt
def iv (n:Int):Val:=⟨1,n,[]⟩
def xqD {n:Int} (h0:0<=n) (h1:n<=100):xHo (iv n) :=
 ⟨⟨⟨wf64 (by show -9223372036854775808<=(1:Int);omega) (by show (1:Int)<=9223372036854775807;omega),wf64 (by show -9223372036854775808<=n;omega) (by show n<=9223372036854775807;omega),by show 0<=maxLen;omega⟩,by show 0<=_;omega⟩,⟨by show -1125899906842624<=n;omega,by show n<=1125899906842624;omega⟩⟩
def exA:List Fc:=[⟨[iv 1],(0,9)⟩,⟨[iv 1],(2,5)⟩]
def exB:List Fc:=[⟨[iv 1],(4,7)⟩]
def exX:List Fc:=[⟨[iv 1,iv 5],(0,6)⟩,⟨[iv 1,iv 6],(3,9)⟩,⟨[iv 2,iv 5],(0,9)⟩]
def exY:List Fc:=[⟨[iv 5],(1,9)⟩,⟨[iv 6],(4,8)⟩]
def xHA:Nice exA:=fun f hf=>by
 simp only [exA,zC,List.not_mem_nil,or_false] at hf;rcases hf with rfl|rfl;all_goals
  refine ⟨by simp,fun v hv=>?_⟩
  simp only [zC,List.not_mem_nil,or_false] at hv;subst hv;exact xqD (by omega) (by omega)
def xHE:Nice exB:=fun f hf=>by
 simp only [exB,zC,List.not_mem_nil,or_false] at hf;subst hf;refine ⟨by simp,fun v hv=>?_⟩
 simp only [zC,List.not_mem_nil,or_false] at hv;subst hv;exact xqD (by omega) (by omega)
def xHR:Nice exX:=fun f hf=>by
 simp only [exX,zC,List.not_mem_nil,or_false] at hf;rcases hf with rfl|rfl|rfl;all_goals
  refine ⟨by simp,fun v hv=>?_⟩
  simp only [zC,List.not_mem_nil,or_false] at hv;rcases hv with rfl|rfl<;>exact xqD (by omega) (by omega)
def xHS:Nice exY:=fun f hf=>by
 simp only [exY,zC,List.not_mem_nil,or_false] at hf;rcases hf with rfl|rfl;all_goals
  refine ⟨by simp,fun v hv=>?_⟩
  simp only [zC,List.not_mem_nil,or_false] at hv;subst hv;exact xqD (by omega) (by omega)
def xHO:Divs [1,1] [1] exX exY 1 where
 na:=xHR
 nb:=xHS
 la:=by simp [exX]
 lb:=by simp [exY]
 ka:=by simp
 kn:=by simp
 n0:=by omega
 ra:=fun f hf=>by
  simp only [exX,zC,List.not_mem_nil,or_false] at hf;rcases hf with rfl|rfl|rfl<;>rfl
 rb:=fun f hf=>by
  simp only [exY,zC,List.not_mem_nil,or_false] at hf;rcases hf with rfl|rfl<;>rfl
def xqC {N:Row->Int->Nat} {ρ:Row} {P:List Per} (h:IsLevs (N ρ) P) (hz:∀ r,r≠ρ->∀ t,N r t=0):IsB N (mk ρ P) :=
 ⟨[ρ],fun _=>P,List.pairwise_singleton _ _,fun r t ht=>by
  by_cases hr:r=ρ
  . simp [hr]
  . rw [hz r hr t] at ht;omega,fun r hr=>by simp at hr;subst hr;exact h,by simp [xG7,mk]⟩
def xu9 (f:Fc) (l:List Fc) (r:Row) (t:Int):cnt (f::l) r t=cnt l r t+if f.r=r/\hasP f.p t=true then 1 else 0:=by
 have e2:cnt (f::l) r t=cnt l r t+if (decide (f.r=r)&&hasP f.p t)=true then 1 else 0:=List.countP_cons
 rw [e2];simp only [zf,zl]
def cntA (r:Row) (t:Int):cnt exA r t=if r=[iv 1] then (if 0<=t/\t<9 then 1 else 0)+(if 2<=t/\t<5 then 1 else 0) else 0:=by
 have h1:=xgB (a:=0) (b:=9) (t:=t) (by omega) (by omega) (by omega)
 have h2:=xgB (a:=2) (b:=5) (t:=t) (by omega) (by omega) (by omega)
 simp only [exA,xu9,h1,h2,zl];show 0+_+_=_;by_cases hr:r=[iv 1]
 . subst hr;simp;omega
 . have:¬ [iv 1]=r:=fun e=>hr e.symm
   simp [hr,this]
def xHh (r:Row) (t:Int):cnt exB r t=if r=[iv 1] then (if 4<=t/\t<7 then 1 else 0) else 0:=by
 have h1:=xgB (a:=4) (b:=7) (t:=t) (by omega) (by omega) (by omega)
 simp only [exB,xu9,h1,zl];show 0+_=_;by_cases hr:r=[iv 1]
 . subst hr;simp
 . have:¬ [iv 1]=r:=fun e=>hr e.symm
   simp [hr,this]
def xHt {a b:Int} (h0:0<=a) (h1:a<b) (h2:b<=1099511627776):IsSpan [(a,b)]:=⟨fun p hp=>by simp at hp;subst hp;exact xbc.2 ⟨h0,h1,h2⟩,List.pairwise_singleton _ _⟩
def in1 {a b t:Int} (h0:0<=a) (h1:a<b) (h2:b<=1099511627776):inL [(a,b)] t=decide (a<=t/\t<b):=by
 unfold inL;rw [List.any_cons,List.any_nil,Bool.or_false,xgB h0 h1 h2]
def xHL {a b c d:Int} (h0:0<=a) (h1:a<b) (h2:b<c) (h3:c<d) (h4:d<=1099511627776):IsSpan [(a,b),(c,d)]:=⟨fun p hp=>by
 simp at hp;rcases hp with rfl|rfl
 . exact xbc.2 ⟨h0,h1,by dsimp only;omega⟩
 . exact xbc.2 ⟨by dsimp only;omega,h3,h4⟩,List.pairwise_pair.2 (by dsimp only;omega)⟩
def in2 {a b c d t:Int} (h0:0<=a) (h1:a<b) (h2:b<c) (h3:c<d) (h4:d<=1099511627776):inL [(a,b),(c,d)] t=decide ((a<=t/\t<b)\/(c<=t/\t<d)):=by
 unfold inL;rw [List.any_cons,List.any_cons,List.any_nil,Bool.or_false,xgB h0 h1 (by omega),xgB (by omega) h3 h4,Bool.eq_iff_iff]
 simp
def unP:List Per:=[(0,9),(2,7),(4,5)]
def exP:List Per:=[(0,5),(2,4),(7,9)]
def levU:IsLevs (fun t=>cnt exA [iv 1] t+cnt exB [iv 1] t) unP:=by
 refine ⟨?_,fun k=>match k with|0=>[(0,9)]|1=>[(2,7)]|2=>[(4,5)]|_=>[],3,fun t=>?_,fun k=>?_,List.Perm.refl _⟩
 . simp [Sorted,unP,xk8]
 . rw [cntA,xHh];simp only [if_true];split<;>split<;>split<;>omega
 . match k with
   | 0 =>
    refine ⟨xHt (by omega) (by omega) (by omega),fun t=>?_⟩
    show inL [(0,9)] t=_;rw [in1 (by omega) (by omega) (by omega),cntA,xHh,Bool.eq_iff_iff,zl,zl]
    simp only [if_true];split<;>split<;>split<;>omega
   | 1 =>
    refine ⟨xHt (by omega) (by omega) (by omega),fun t=>?_⟩
    show inL [(2,7)] t=_;rw [in1 (by omega) (by omega) (by omega),cntA,xHh,Bool.eq_iff_iff,zl,zl]
    simp only [if_true];split<;>split<;>split<;>omega
   | 2 =>
    refine ⟨xHt (by omega) (by omega) (by omega),fun t=>?_⟩
    show inL [(4,5)] t=_;rw [in1 (by omega) (by omega) (by omega),cntA,xHh,Bool.eq_iff_iff,zl,zl]
    simp only [if_true];split<;>split<;>split<;>omega
   | k+3 =>
    refine ⟨xeY,fun t=>?_⟩
    show inL [] t=_;rw [xey,cntA,xHh];symm;rw [decide_eq_false_iff_not];simp only [if_true];split<;>split<;>split<;>omega
def levX:IsLevs (fun t=>cnt exA [iv 1] t - cnt exB [iv 1] t) exP:=by
 refine ⟨?_,fun k=>match k with|0=>[(0,5),(7,9)]|1=>[(2,4)]|_=>[],2,fun t=>?_,fun k=>?_,?_⟩
 . simp [Sorted,exP,xk8]
 . rw [cntA,xHh];simp only [if_true];split<;>split<;>split<;>omega
 . match k with
   | 0 =>
    refine ⟨xHL (by omega) (by omega) (by omega) (by omega) (by omega),fun t=>?_⟩
    show inL [(0,5),(7,9)] t=_;rw [in2 (by omega) (by omega) (by omega) (by omega) (by omega),cntA,xHh,Bool.eq_iff_iff,zl,zl]
    simp only [if_true];split<;>split<;>split<;>omega
   | 1 =>
    refine ⟨xHt (by omega) (by omega) (by omega),fun t=>?_⟩
    show inL [(2,4)] t=_;rw [in1 (by omega) (by omega) (by omega),cntA,xHh,Bool.eq_iff_iff,zl,zl]
    simp only [if_true];split<;>split<;>split<;>omega
   | k+2 =>
    refine ⟨xeY,fun t=>?_⟩
    show inL [] t=_;rw [xey,cntA,xHh];symm;rw [decide_eq_false_iff_not];simp only [if_true];split<;>split<;>split<;>omega
 . exact List.Perm.cons _ (List.Perm.swap _ _ _)
def levM:IsLevs (fun t=>min (cnt exA [iv 1] t) (cnt exB [iv 1] t)) [(4,7)]:=by
 refine ⟨?_,fun k=>match k with|0=>[(4,7)]|_=>[],1,fun t=>?_,fun k=>?_,List.Perm.refl _⟩
 . simp [Sorted]
 . rw [cntA,xHh];simp only [if_true];split<;>split<;>split<;>omega
 . match k with
   | 0 =>
    refine ⟨xHt (by omega) (by omega) (by omega),fun t=>?_⟩
    show inL [(4,7)] t=_;rw [in1 (by omega) (by omega) (by omega),cntA,xHh,Bool.eq_iff_iff,zl,zl]
    simp only [if_true];split<;>split<;>split<;>omega
   | k+1 =>
    refine ⟨xeY,fun t=>?_⟩
    show inL [] t=_;rw [xey,cntA,xHh];symm;rw [decide_eq_false_iff_not];simp only [if_true];split<;>split<;>split<;>omega
def levD:IsLevs (fun t=>if 0<cnt exA [iv 1] t then 1 else 0) [(0,9)]:=by
 refine ⟨?_,fun k=>match k with|0=>[(0,9)]|_=>[],1,fun t=>?_,fun k=>?_,List.Perm.refl _⟩
 . simp [Sorted]
 . split<;>omega
 . match k with
   | 0 =>
    refine ⟨xHt (by omega) (by omega) (by omega),fun t=>?_⟩
    show inL [(0,9)] t=_;rw [in1 (by omega) (by omega) (by omega),cntA,Bool.eq_iff_iff,zl,zl]
    simp only [if_true];split<;>split<;>split<;>omega
   | k+1 =>
    refine ⟨xeY,fun t=>?_⟩
    show inL [] t=_;rw [xey];symm;rw [decide_eq_false_iff_not];split<;>omega
def isbU:IsB (fun r t=>cnt exA r t+cnt exB r t) (mk [iv 1] unP):=xqC (N:=fun r t=>cnt exA r t+cnt exB r t) levU fun r hr t=>by rw [cntA,xHh,if_neg hr,if_neg hr]
def isbX:IsB (fun r t=>cnt exA r t - cnt exB r t) (mk [iv 1] exP):=xqC (N:=fun r t=>cnt exA r t - cnt exB r t) levX fun r hr t=>by rw [cntA,xHh,if_neg hr,if_neg hr]
def isbM:IsB (fun r t=>min (cnt exA r t) (cnt exB r t)) (mk [iv 1] [(4,7)]):=xqC (N:=fun r t=>min (cnt exA r t) (cnt exB r t)) levM fun r hr t=>by rw [cntA,xHh,if_neg hr,if_neg hr];rfl
def isbD:IsB (fun r t=>if 0<cnt exA r t then 1 else 0) (mk [iv 1] [(0,9)]):=xqC (N:=fun r t=>if 0<cnt exA r t then 1 else 0) levD fun r hr t=>by rw [cntA,if_neg hr];rfl
def xuN {n:Nat} {a b:List Fc} {h:Row} {τ:Int}:DivB n a b h τ↔(∃ f,f∈a/\f.r.take n=h/\hasP f.p τ=true)/\∀ g,g∈b->hasP g.p τ=true->∃ f,f∈a/\f.r=h++g.r/\hasP f.p τ=true:=by
 unfold DivB;constructor
 . rintro ⟨h1,h2⟩;exact ⟨h1,fun g g1 g2=>xcM.1 (h2 g.r (xcM.2 ⟨g,g1,rfl,g2⟩))⟩
 . rintro ⟨h1,h2⟩;refine ⟨h1,fun t ht=>?_⟩
   obtain ⟨g,g1,rfl,g2⟩:=xcM.1 ht;exact xcM.2 (h2 g g1 g2)
def divE (τ:Int):(DivB 1 exX exY [iv 1] τ↔0<=τ/\τ<6)/\(DivB 1 exX exY [iv 2] τ↔(0<=τ/\τ<4)\/(8<=τ/\τ<9))/\∀ h,DivB 1 exX exY h τ->h=[iv 1]\/h=[iv 2]:=by
 have h1:=xgB (a:=0) (b:=6) (t:=τ) (by omega) (by omega) (by omega)
 have h2:=xgB (a:=3) (b:=9) (t:=τ) (by omega) (by omega) (by omega)
 have h3:=xgB (a:=0) (b:=9) (t:=τ) (by omega) (by omega) (by omega)
 have h4:=xgB (a:=1) (b:=9) (t:=τ) (by omega) (by omega) (by omega)
 have h5:=xgB (a:=4) (b:=8) (t:=τ) (by omega) (by omega) (by omega)
 have O:¬ iv 1=iv 2:=by simp [iv]
 have Q:¬ iv 2=iv 1:=by simp [iv]
 have J:¬ iv 5=iv 6:=by simp [iv]
 have q:¬ iv 6=iv 5:=by simp [iv]
 refine ⟨?_,?_,fun h hh=>?_⟩
 . rw [xuN];simp only [exX,exY,zC,List.not_mem_nil,or_false,exists_eq_or_imp,exists_eq_left,forall_eq_or_imp,forall_eq,h1,h2,h3,h4,h5,zl,List.take_succ_cons,List.take_zero,List.cons_append,zU,List.cons.injEq,and_true,true_and,O,Q,J,q,false_and,and_false,or_false,false_or,imp_false,not_and];omega
 . rw [xuN];simp only [exX,exY,zC,List.not_mem_nil,or_false,exists_eq_or_imp,exists_eq_left,forall_eq_or_imp,forall_eq,h1,h2,h3,h4,h5,zl,List.take_succ_cons,List.take_zero,List.cons_append,zU,List.cons.injEq,and_true,true_and,O,Q,J,q,false_and,and_false,or_false,false_or,imp_false,not_and];omega
 . obtain ⟨f,hf,rfl,_⟩:=hh.1;simp only [exX,zC,List.not_mem_nil,or_false] at hf;rcases hf with rfl|rfl|rfl<;>simp
def dvR:Row->List Per:=fun r=>if r=[iv 1] then [(0,6)] else [(0,4),(8,9)]
def isbQ:IsB (DivN 1 exX exY) (mk [iv 1] [(0,6)]++mk [iv 2] [(0,4),(8,9)]):=by
 have q:¬ [iv 2]=[iv 1]:=by simp [iv]
 refine ⟨[[iv 1],[iv 2]],dvR,?_,fun r t ht=>?_,fun r hr=>?_,?_⟩
 . refine List.pairwise_pair.2 ?_;have e1:cmpR [iv 1] [iv 2]≠0:=fun e=>q (xgY e).symm
   have e2:cmpR [iv 1] [iv 2]=-1:=by decide +kernel
   omega
 . rcases (divE t).2.2 r (xdR.1 ht) with rfl|rfl<;>simp
 . have le:=xfC 1 exX exY r;have e:DivN 1 exX exY r=fun t=>if 0<DivN 1 exX exY r t then 1 else 0:=funext fun t=>by have:=le t;split<;>omega
   rw [e];simp only [zC,List.not_mem_nil,or_false] at hr;rcases hr with rfl|rfl
   . have:dvR [iv 1]=[(0,6)]:=if_pos rfl;rw [this];refine xjR (xHt (by omega) (by omega) (by omega)) fun t=>?_
     rw [in1 (by omega) (by omega) (by omega),Bool.eq_iff_iff,zl,zl,xdR,(divE t).1]
   . have:dvR [iv 2]=[(0,4),(8,9)]:=if_neg q;rw [this];refine xjR (xHL (by omega) (by omega) (by omega) (by omega) (by omega)) fun t=>?_
     rw [in2 (by omega) (by omega) (by omega) (by omega) (by omega),Bool.eq_iff_iff,zl,zl,xdR,(divE t).2.1]
 . simp [xG7,mk,dvR,q]
def xw9 (f t:Int) (row:List Int) (hl:row.length<=8):xao f t (row.map encN)=some ((row.map iv).map encV,f,t):=by
 have key:=xld (step:=xc6 (row.map encN)) (fun k=>(((k:Nat):Int),(0:Int),(0:Int),f,t,((row.take k).map iv).length,((row.take k).map iv).map encV)) row.length ((0:Int),(0:Int),(row.map iv).length,f,t,(row.map iv).map encV) (fun k hk=>by
  have i1:(k:Int)<(row.length:Int):=by omega
  have gf:(row.map encN).getD k .top=encN row[k]:=xab _ _ _ hk;have tl:((row.take k).map iv).length<=8:=by rw [za,zt];omega
  have m1:(((row.take k).map iv).length+1)*32<=140737488355328:=by omega
  have m2:((row.take k).map iv).length+1<=4611686018427387904:=by omega
  have tk:(row.take (k+1)).map iv=(row.take k).map iv++[iv row[k]]:=by rw [List.take_add_one,ze hk,zx];rfl
  rw [tk];generalize (row.take k).map iv=D at m1 m2;simp only [xc6,xhP,za,z8,zj,i1,hk,gf,cN,sN,m1,m2,zN,Int.natCast_nonneg,beq_self_eq_true,zn,Bool.and_self,zS,xaa,xG8 (n:=k) (by omega),zx,zV,zW,sUF]
  simp [encV,iv]) (by
  simp only [xc6,xhP,za,zy,zm,xad,y6,sUF]) row.length 0 (by omega)
 have key:Iter (xc6 (row.map encN)) ((0:Int),(0:Int),(0:Int),f,t,(0:Nat),[])=some ((0:Int),(0:Int),(row.map iv).length,f,t,(row.map iv).map encV):=key;generalize row.map iv=D at key;have tt:List.take D.length (D.map encV)=D.map encV:=zi (by simp)
 unfold xao xm2;simp only [xeN,xl7,key,zk,zh,xaa,za,zH,zd,zn,Bool.and_self,zr,tt,sUF]
def xBi (c:Nat) (hc:c<=8) (l:List AV):xc7 (c:Int) l=some ((List.replicate c (1:Int)).map encN,l):=by
 have key:=xld (step:=xbx (c:Int)) (fun k=>(((k:Nat):Int),l,(List.replicate k (1:Int)).length,(List.replicate k (1:Int)).map encN)) c ((List.replicate c (1:Int)).length,l,(List.replicate c (1:Int)).map encN) (fun k hk=>by
  have i1:(k:Int)<(c:Int):=by omega
  have tl:(List.replicate k (1:Int)).length<=8:=by rw [List.length_replicate];omega
  have m1:((List.replicate k (1:Int)).length+1)*8<=140737488355328:=by omega
  have m2:(List.replicate k (1:Int)).length+1<=4611686018427387904:=by omega
  have tk:List.replicate (k+1) (1:Int)=List.replicate k 1++[1]:=List.replicate_succ';rw [tk];generalize List.replicate k (1:Int)=D at m1 m2;simp only [xbx,xfv,za,z8,zj,i1,m1,m2,beq_self_eq_true,zn,Bool.and_self,xaa,xG8 (n:=k) (by omega),zx,zV,zW,encN,sUF]) (by
  simp only [xbx,xfv,zy,zm,xad,sUF]) c 0 (by omega)
 have key:Iter (xbx (c:Int)) ((0:Int),l,(0:Nat),[])=some ((List.replicate c (1:Int)).length,l,(List.replicate c (1:Int)).map encN):=key;generalize List.replicate c (1:Int)=D at key;have tt:List.take D.length (D.map encN)=D.map encN:=zi (by simp)
 unfold xc7 xjL;simp only [xdA,xi5,key,zk,zh,xaa,za,zH,zd,zn,Bool.and_self,zr,tt,sUF]
def xHf (f t a:Int):xao f t [AV.int .i64 a]=some ([encV (iv a)],f,t):=xw9 f t [a] (by simp)
def xHz (f t a b:Int):xao f t [AV.int .i64 a,AV.int .i64 b]=some ([encV (iv a),encV (iv b)],f,t):=xw9 f t [a,b] (by simp)
def rel1 (l:List AV):xc7 1 l=some (([1]:List Int).map encN,l):=xBi 1 (by omega) l
def rel2 (l:List AV):xc7 2 l=some (([1,1]:List Int).map encN,l):=xBi 2 (by omega) l
def xBM:xlH (([1]:List Int).map encN) (exA.map encF) (([1]:List Int).map encN) (exB.map encF)=some (([1]:List Int).map encN,(mk [iv 1] unP).map encF):=by
 obtain ⟨B,e,h⟩:=xBA [1] (([1]:List Int).map encN) (by simp) xHA xHE (by simp [exA,exB]) (R20.few (by simp [exA,exB]))
 rw [h.isB.unique isbU] at e;exact e
def xAb:xkK (([1]:List Int).map encN) (exA.map encF) (([1]:List Int).map encN) (exB.map encF)=some (([1]:List Int).map encN,(mk [iv 1] exP).map encF):=by
 obtain ⟨B,e,h⟩:=xzG [1] (([1]:List Int).map encN) (by simp) xHA xHE (by simp [exA,exB]) (R20.few (by simp [exA,exB]))
 rw [h.isB.unique isbX] at e;exact e
def xBL:xhU (([1]:List Int).map encN) (exA.map encF) (([1]:List Int).map encN) (exB.map encF)=some (([1]:List Int).map encN,(mk [iv 1] [(4,7)]).map encF):=by
 obtain ⟨B,e,h⟩:=xBt [1] (([1]:List Int).map encN) (by simp) xHA xHE (by simp [exA,exB]) (R20.few (by simp [exA,exB]))
 rw [h.isB.unique isbM] at e;exact e
def xC8:xdb (([1]:List Int).map encN) (exA.map encF)=some (([1]:List Int).map encN,(mk [iv 1] [(0,9)]).map encF):=by
 obtain ⟨B,e,_,h⟩:=xnk [1] (by simp) xHA (by simp [exA]) (R20.few (by simp [exA]))
 rw [h.isB.unique isbD] at e;exact e
def xEI:xcj (([1,1]:List Int).map encN) (exX.map encF) (([1]:List Int).map encN) (exY.map encF)=some (([1]:List Int).map encN,(mk [iv 1] [(0,6)]++mk [iv 2] [(0,4),(8,9)]).map encF):=by
 obtain ⟨B,e,h,_⟩:=xo8 xHO;rw [h.isB.unique isbQ] at e;exact e
def xnj {l:List Fc} (hl:l.length<=8) (hr:∀ f,f∈l->f.r.length<=60):xbm (l.map encF) (l.map encF)=some true:=xCE (by omega) hr
def xoL:xdn=some true:=by
 have E40:xfP=true:=by unfold xfP;rw [xHf];rfl
 have E17:xhv=some (([1]:List Int).map encN,exA.map encF):=by
  unfold xhv xb7 xdu xhM;rw [xHf,xHf,rel1];rfl
 have E20:xhz=some (([1]:List Int).map encN,exB.map encF):=by
  unfold xhz xhN;rw [xHf,rel1];rfl
 have E11:xhs=some (([1,1]:List Int).map encN,exX.map encF):=by
  unfold xhs xhA xhB xhC;rw [xHz,xHz,xHz,rel2];rfl
 have E16:xhu=some (([1]:List Int).map encN,exY.map encF):=by
  unfold xhu xhK xhF;rw [xHf,xHf,rel1];rfl
 have F9:xc5=([1]:List Int).map encN:=by unfold xc5 xht;rw [E17];rfl
 have F8:xc4=exA.map encF:=by unfold xc4 xht;rw [E17];rfl
 have F13:xfO=([1]:List Int).map encN:=by unfold xfO xhy;rw [E20];rfl
 have F12:xez=exB.map encF:=by unfold xez xhy;rw [E20];rfl
 have E7:xiR=some (([1]:List Int).map encN,(mk [iv 1] unP).map encF):=by unfold xiR;rw [F9,F8,F13,F12];exact xBM
 have E5:xiP=some (([1]:List Int).map encN,(mk [iv 1] exP).map encF):=by unfold xiP;rw [F9,F8,F13,F12];exact xAb
 have E6:xiQ=some (([1]:List Int).map encN,(mk [iv 1] [(4,7)]).map encF):=by unfold xiQ;rw [F9,F8,F13,F12];exact xBL
 have ED:xdb xc5 xc4=some (([1]:List Int).map encN,(mk [iv 1] [(0,9)]).map encF):=by rw [F9,F8];exact xC8
 have E1:xiL=some (([1]:List Int).map encN,(mk [iv 1] [(0,6)]++mk [iv 2] [(0,4),(8,9)]).map encF):=by
  unfold xiL xkt xku;rw [E11,E16];exact xEI
 have E3:xiN=some true:=by
  unfold xiN xb7 xdu xhJ xhG;rw [E7,xHf,xHf,xHf];exact xnj (l:=mk [iv 1] unP) (by simp [mk,unP]) (fun f hf=>by
   obtain ⟨p,_,rfl⟩:=zK.1 hf;simp)
 have E2:xiM=some true:=by
  unfold xiM xhL xhO xhD;rw [E5,xHf,xHf,xHf];exact xnj (l:=mk [iv 1] exP) (by simp [mk,exP]) (fun f hf=>by
   obtain ⟨p,_,rfl⟩:=zK.1 hf;simp)
 have E4:xiO=some true:=by
  unfold xiO;rw [E6,F12];exact xnj (l:=mk [iv 1] [(4,7)]) (by simp [mk]) (fun f hf=>by
   obtain ⟨p,_,rfl⟩:=zK.1 hf;simp)
 have E18:xhw=some true:=by
  unfold xhw xb7 xdu;rw [ED,xHf];exact xnj (l:=mk [iv 1] [(0,9)]) (by simp [mk]) (fun f hf=>by
   obtain ⟨p,_,rfl⟩:=zK.1 hf;simp)
 have E0:xiK=some true:=by
  unfold xiK xhH xhI xhE;rw [E1,xHf,xHf,xHf];exact xnj (l:=mk [iv 1] [(0,6)]++mk [iv 2] [(0,4),(8,9)]) (by simp [mk]) (fun f hf=>by
   rcases zG.1 hf with hf|hf;all_goals
    obtain ⟨p,_,rfl⟩:=zK.1 hf;simp)
 unfold xdn xl6;simp only [xHf,xHz,E40,E17,E20,E11,E16,E7,E5,E6,ED,E1,E3,E2,E4,E18,E0,zk,zh,xaa,sUF]
def xvb {Ka Kb:List Int} {a b:List Fc} (ha:SR1 Ka a) (hb:SR1 Kb b):∃ c,xhS (Ka.map encN) (a.map encF) (Kb.map encN) (b.map encF)=some c/\(c=true->Kb.length<Ka.length):=by
 have ka:=ha.kl;have kb:=hb.kl;have la:=ha.len;have lb:=hb.len;obtain ⟨x,x1,_⟩:=xrM Ka (by omega) a (by omega)
 obtain ⟨y,y1,_⟩:=xrM Kb (by omega) b (by omega)
 have v1:xci (Ka.map encN) (Kb.map encN)=(Ka.length:Int) - (Kb.length:Int):=by
  unfold xci;rw [za,za,xay (by omega) (by omega)]
 unfold xhS xja;by_cases h:(Ka.length:Int) - (Kb.length:Int)>0
 . have h0:(0:Int)<=(Ka.length:Int) - (Kb.length:Int):=by omega
   have h1:(Ka.length:Int) - (Kb.length:Int)<=(Ka.length:Int):=by omega
   have e:=xvX ((Ka.drop ((Ka.length:Int) - (Kb.length:Int)).toNat).take (Ka.length - ((Ka.length:Int) - (Kb.length:Int)).toNat)) Kb (by rw [zt,y3];omega)
   have v0:xfV (Ka.map encN) (Kb.map encN)=some (decide ((Ka.drop ((Ka.length:Int) - (Kb.length:Int)).toNat).take (Ka.length - ((Ka.length:Int) - (Kb.length:Int)).toNat)=Kb)):=by
    unfold xfV;rw [v1,za,<-e,List.map_take,List.map_drop]
   cases x with
   | false=>exact ⟨false,by simp only [v1,h,x1,zn,zk,zh,xaa,xad,sUF],fun h=>by simp at h⟩
   | true =>
    cases y with
    | false=>exact ⟨false,by simp only [v1,h,x1,y1,zn,zk,zh,xaa,xad,sUF],fun h=>by simp at h⟩
    | true=>exact ⟨_,by simp only [v1,v0,h,h0,h1,x1,y1,za,zn,Bool.and_self,zk,zh,xaa,sUF];rfl,fun _=>by omega⟩
 . exact ⟨false,by simp only [v1,h,zm,xad,sUF],fun h=>by simp at h⟩
def xDp {Ka Kb:List Int} {a b:List Fc} (ha:SR1 Ka a) (hb:SR1 Kb b) (h:Kb.length<Ka.length):Divs Ka Kb a b (Ka.length - Kb.length) where
 na:=ha.nice
 nb:=hb.nice
 la:=ha.len
 lb:=hb.len
 ka:=ha.kl
 kn:=by omega
 n0:=by omega
 ra:=fun f hf=>(ha.fact f hf).2.1
 rb:=fun f hf=>(hb.fact f hf).2.1
def xzH {H:List Row} (h1:Sorted cmpR H) (h2:H.Nodup):Strict cmpR H :=
 (List.Pairwise.and h1 h2).imp fun {x y} h=>by
  obtain ⟨h,hne⟩:=h;have:cmpR x y≠0:=fun e=>hne (xgY e)
  omega
def xFK {N:Row->Int->Nat} {m:Nat} {B:List Fc} (h:RelB N m B) (hm:m<=1024) (hN:∀ r t,N r t<=1) (t:Int):∃ H:List Row,xdx (B.map encF) t=some (H.map encR)/\Strict cmpR H/\(∀ r,r∈H↔0<N r t)/\H.length<=1024:=by
 have hl:=h.len;obtain ⟨H,h1,h2,h3⟩:=xvQ B t (h.nice.few (by omega))
 have hc:∀ r,H.count r=N r t:=fun r=>by rw [h2.count_eq,xtv,h.cnt]
 refine ⟨H,h1,xzH h3 (List.nodup_iff_count.2 fun r=>by rw [hc];exact hN r t),fun r=>by rw [<-hc,List.count_pos_iff],?_⟩
 have:=h2.length_eq;have:=xmL B t;omega
def xyy (H T R:List Row) (i:Nat) (hi:i<H.length) (hT:T.length<=1048576) (hR:R.length<=1048576) (hr:∀ x,x∈R->x.length<=maxLen) (hc:∀ t,t∈T->H[i].length+t.length<=1048576) (hm:∀ t,t∈T->H[i]++t∈R) (a0 a1 b0 b1 q0 q1:List AV):∀ d k:Nat,k+d=T.length ->
  Iter (xaR (H.map encR) (T.map encR) (R.map encR) (i:Int)) ((k:Int),a0,a1,b0,b1,q0,q1)=some (false,(false,[],[],[],[],[],[]),(a0,a1,b0,b1,q0,q1))
 | 0,k,hk=>by
  have:k=T.length:=by omega
  subst this;refine xac ?_;simp [xaR,xdt,xad,sUF]
 | d+1,k,hk=>by
  have q:k<T.length:=by omega
  have i1:(k:Int)<(T.length:Int):=by omega
  have i2:(i:Int)<(H.length:Int):=by omega
  have gf:(T.map encR).getD k .top=encR T[k]:=xab _ _ _ q;have gh:(H.map encR).getD i .top=encR H[i]:=xab _ _ _ hi;have e1:=xst H[i] T[k] (hc _ (zo q));have e2:=xwb R (H[i]++T[k]) hR hr;have hp:=List.count_pos_iff.2 (hm _ (zo q));have ne:(((R.count (H[i]++T[k]):Nat):Int)==0)=false:=by
   rw [beq_eq_false_iff_ne];omega
  rw [<-xyy H T R i hi hT hR hr hc hm a0 a1 b0 b1 q0 q1 d (k+1) (by omega)]
  refine xal ?_;simp only [xaR,xdt,sBU,q,hi,i1,i2,gf,gh,cR0,sR0,e1,e2,ne,xG8 (n:=k) (by omega)]
def xyw (H T R:List Row) (hH:H.length<=1048576) (hT:T.length<=1048576) (hR:R.length<=1048576) (hr:∀ x,x∈R->x.length<=maxLen) (hc:∀ h,h∈H->∀ t,t∈T->h.length+t.length<=1048576) (hm:∀ h,h∈H->∀ t,t∈T->h++t∈R) (a0 a1 b0 b1 q0 q1:List AV):∀ d k:Nat,k+d=H.length ->
  Iter (xaQ (H.map encR) (T.map encR) (R.map encR)) ((k:Int),a0,a1,b0,b1,q0,q1)=some (false,(false,[],[],[],[],[],[]),(a0,a1,b0,b1,q0,q1))
 | 0,k,hk=>by
  have:k=H.length:=by omega
  subst this;refine xac ?_;simp [xaQ,xds,xad,sUF]
 | d+1,k,hk=>by
  have q:k<H.length:=by omega
  have i1:(k:Int)<(H.length:Int):=by omega
  have e1:=xyy H T R k q hT hR hr (hc _ (zo q)) (hm _ (zo q)) a0 a1 b0 b1 q0 q1 T.length 0 (by omega)
  have e1:Iter (xaR (H.map encR) (T.map encR) (R.map encR) (k:Int)) ((0:Int),a0,a1,b0,b1,q0,q1)=_:=e1;rw [<-xyw H T R hH hT hR hr hc hm a0 a1 b0 b1 q0 q1 d (k+1) (by omega)]
  refine xal ?_;simp only [xaQ,xds,xaf,sBU,i1,e1,xG8 (n:=k) (by omega)]
def xuM {n:Nat} {a b:List Fc} {h:Row} {τ:Int}:DivB n a b h τ↔(∃ r,r.take n=h/\0<cnt a r τ)/\∀ t,0<cnt b t τ->0<cnt a (h++t) τ:=by
 unfold DivB;refine and_congr_left fun _=>⟨?_,?_⟩
 . rintro ⟨f,f1,f2,f3⟩;exact ⟨f.r,f2,xcM.2 ⟨f,f1,rfl,f3⟩⟩
 . rintro ⟨r,r1,r2⟩;obtain ⟨f,f1,rfl,f3⟩:=xcM.1 r2;exact ⟨f,f1,r1,f3⟩
def xyM {n:Nat} {a b a' b':List Fc} (ha:∀ r t,0<cnt a r t↔0<cnt a' r t) (hb:∀ r t,0<cnt b r t↔0<cnt b' r t) (h:Row) (τ:Int):DivN n a b h τ=DivN n a' b' h τ:=by
 have e:DivB n a b h τ↔DivB n a' b' h τ:=by
  rw [xuM,xuM];simp only [ha,hb]
 have h1:=xfC n a b h τ;have h2:=xfC n a' b' h τ;have h3:=xdR (n:=n) (a:=a) (b:=b) (h:=h) (τ:=τ);have h4:=xdR (n:=n) (a:=a') (b:=b') (h:=h) (τ:=τ);rw [e,<-h4] at h3;omega
def xvv (Ka Kb:List Int) (a b:List Fc) (t:Int):xho (Ka.map encN) (a.map encF) (Kb.map encN) (b.map encF) t=some true:=by
 obtain ⟨x,x1,x2⟩:=xAG Ka a;obtain ⟨y,y1,y2⟩:=xAG Kb b;unfold xho xgD;cases x with
 | false=>simp only [x1,xoL,zk,zh,Bool.not_false,xaa,sUF]
 | true =>
  cases y with
  | false=>simp only [x1,y1,xoL,zk,zh,Bool.not_false,Bool.not_true,xaa,xad,sUF]
  | true =>
   obtain ⟨c,c1,c2⟩:=xvb (x2 rfl) (y2 rfl);cases c with
   | false=>simp only [x1,y1,c1,xoL,zk,zh,Bool.not_false,Bool.not_true,xaa,xad,sUF]
   | true =>
    have h:=xDp (x2 rfl) (y2 rfl) (c2 rfl);have af:=(y2 rfl).kl;have ae:=h.ka;have kn:=h.kn;have ab:=h.la;have aa:=h.lb;obtain ⟨B,b1,b2,b3⟩:=xo8 h;obtain ⟨H,h1,h2,h3,h4⟩:=xFK b2 (by omega) (xfC _ a b) t
    obtain ⟨Q,R,T,⟨q1,q2,q3⟩,⟨p1,p2⟩,q4,q5,q6⟩:=h.snap t;have ac:H.length<=16:=by
     have:H.length<=(a.map fun f=>f.r.take (Ka.length - Kb.length)).length:=xpu H _ (h2.nodup xkh) fun r hr=>by
      obtain ⟨⟨f,f1,f2,_⟩,_⟩:=xdR.1 ((h3 r).1 hr);exact zK.2 ⟨f,f1,f2⟩
     rw [za] at this;omega
    have O:∀ r,r∈T↔0<cnt b r t:=fun r=>by rw [p2.mem_iff,xmR]
    have J:∀ r,r∈R↔0<cnt a r t:=fun r=>by rw [p1.mem_iff,xmR]
    have lR:=p1.length_eq;have lT:=p2.length_eq;have ad:=xmL a t;have Y:=xmL b t;have e0:=xyw H T R (by omega) (by omega) (by omega) (fun r hr=>by
     obtain ⟨f,f1,rfl,_⟩:=xcM.1 ((J r).1 hr);have:=h.ra f f1;unfold maxLen;omega) (fun r hr s hs=>by
     obtain ⟨⟨f,f1,f2,_⟩,_⟩:=xdR.1 ((h3 r).1 hr);have:=h.head f1;rw [f2] at this;obtain ⟨g,g1,rfl,_⟩:=xcM.1 ((O s).1 hs);have:=h.rb g g1;omega) (fun r hr s hs=>(J _).2 ((xdR.1 ((h3 r).1 hr)).2 s ((O s).1 hs))) (Ka.map encN) (a.map encF) (Kb.map encN) (b.map encF) ((Ka.take (Ka.length - Kb.length)).map encN) (B.map encF) H.length 0 (by omega)
    have e0:Iter (xaQ (H.map encR) (T.map encR) (R.map encR)) ((0:Int),Ka.map encN,a.map encF,Kb.map encN,b.map encF,(Ka.take (Ka.length - Kb.length)).map encN,B.map encF)=_:=e0;obtain ⟨D,d1,d2,d3⟩:=xnk Ka (by omega) h.na (by omega) (R20.few (by omega))
    obtain ⟨E,e1,e2,e3⟩:=xnk Kb (by omega) h.nb (by omega) (R20.few (by omega))
    have hD:Divs Ka Kb D E (Ka.length - Kb.length):={
     na:=d3.nice
     nb:=e3.nice
     la:=by have:=d3.len;omega
     lb:=by have:=e3.len;omega
     ka:=h.ka
     kn:=h.kn
     n0:=h.n0
     ra:=d2.all (Q:=fun r=>r.length=Ka.length) h.ra
     rb:=e2.all (Q:=fun r=>r.length=Kb.length) h.rb }
    obtain ⟨Z,z1,z2,_⟩:=xo8 hD;have q:xdK (Ka.map encN) (a.map encF) (Kb.map encN) (b.map encF) t=some (false,(false,[],[],[],[],[],[]),(Ka.map encN,a.map encF,Kb.map encN,b.map encF,(Ka.take (Ka.length - Kb.length)).map encN,B.map encF)):=by
     unfold xdK;rw [b1,q1,q2];show Iter (xaQ ((xdx (B.map encF) t).getD []) (T.map encR) (R.map encR)) ((0:Int),Ka.map encN,a.map encF,Kb.map encN,b.map encF,(Ka.take (Ka.length - Kb.length)).map encN,B.map encF)=_;rw [h1];exact e0
    have v6:xcV (Ka.map encN) (a.map encF) (Kb.map encN) (b.map encF) t=some (Ka.map encN,D.map encF):=by
     unfold xcV xar;rw [q];exact d1
    have v4:xcU (Ka.map encN) (a.map encF) (Kb.map encN) (b.map encF) t=some (Kb.map encN,E.map encF):=by
     unfold xcU xar;rw [q];exact e1
    have v2:xcT (Ka.map encN) (a.map encF) (Kb.map encN) (b.map encF) t=some ((Ka.take (Ka.length - Kb.length)).map encN,Z.map encF):=by
     unfold xcT;rw [v4,v6];exact z1
    have v0:xd9 (Ka.map encN) (a.map encF) (Kb.map encN) (b.map encF) t=some true:=by
     unfold xd9 xar;rw [q,v2];refine xC7 (by rw [zt];omega) z2 (by omega) (b2.isB.congr fun r t=>?_)
     refine xyM (fun r t=>?_) (fun r t=>?_) r t
     . rw [d3.cnt];split<;>omega
     . rw [e3.cnt];split<;>omega
    have V:(xar (Ka.map encN) (a.map encF) (Kb.map encN) (b.map encF) t).fst=false:=by
     unfold xar;rw [q];rfl
    have W:¬ ((H.length:Nat):Int)>16:=by omega
    simp only [x1,y1,c1,b1,h1,q1,q2,q,V,v6,v4,v2,v0,W,za,xoL,zk,zh,Bool.not_true,zm,xaa,xad,sUF]
end Go.Sim.M
end
noncomputable section
namespace Go.Sim.M
def xus (x y:List Int×List Fc) (t:Int) {P Q R:Prop} (_:P) (_:Q) (_:R):xho (x.1.map encN) (x.2.map encF) (y.1.map encN) (y.2.map encF) t=some true:=xvv x.1 y.1 x.2 y.2 t
end Go.Sim.M
end
noncomputable section
set_option maxRecDepth 10000
namespace Go.Proofs.YtodofdnlhoknhaaGreatDoor.setopProducts
open Go.ChangeShapes Go.WideShapes Go.ChangeAt Go.RowKit Go.Sim
theorem contract (H:Type) (enc:TypeId×Value->H) (W:World) (base:Nat) (args:Array Value) (ds gs:List (DataW H)) (before:List MemPlace)
  (hval:∀ (j:Nat) t v,Tryz.f9.params[j]?=some t->args[j]?=some v->Value.okWide Tryz.prog W .any base t v)
  (hW:DataW.Whole enc Tryz.prog Tryz.f9.params.toList Rows.setopProductsSpec.vars false W args.toList ds gs before) (hL:laidMetH Tryz.prog Rows.setopProductsRow.laid W) (hsh:W.ShapedOpen Tryz.prog) :
  Calls Tryz.prog 9 args W fun e W'=>∃ v,e=.returned v/\Rows.setopProductsSpec.post enc Tryz.prog Tryz.f9 false true false false W args v W':=by
 have hW':=hW;obtain ⟨p,q,hA0,hV,rfl,hfz,hnd⟩:=hW;have hA:DataW.TrodAll enc Tryz.prog W 0 (fun _=>true) true Tryz.f9.params.toList args.toList ds p:=hA0
 have hAk:=hA;rw [Tryz.params9] at hA hval;obtain ⟨v0,vs0,d0,ds0,p0,q0,hargs,rfl,rfl,h0,r0⟩:=trodAll_cons hA;obtain ⟨v1,vs1,d1,ds1,p1,q1,rfl,rfl,rfl,h1,r1⟩:=trodAll_cons r0;obtain ⟨v2,vs2,d2,ds2,p2,q2,rfl,rfl,rfl,h2,r2⟩:=trodAll_cons r1;obtain ⟨rfl,rfl,rfl⟩:=trodAll_nil r2;obtain rfl:args=#[v0,v1,v2]:=by cases args;simp_all
 obtain ⟨rfl,rfl⟩:=trodVars_none hV;obtain ⟨a0,rr0,b0,w0⟩:=xvK (hval 0 25 v0 rfl rfl) h0;obtain ⟨a1,rr1,b1,w1⟩:=xvK (hval 1 25 v1 rfl rfl) h1;obtain ⟨a2,rr2,b2,w2⟩:=xCn (hval 2 3 v2 rfl rfl) h2;clear hA0;have hI:xIE W:=xFt rfl (by kernel_rfl) hL hsh
 have hpl:=M.xus a0 a1 a2 w0 w1 w2;have hg:Sim.Good Tryz.prog xIE 9 [(.agg [.list 1 (a0.1.map M.encN),.list 3 (a0.2.map M.encF)]),(.agg [.list 1 (a1.1.map M.encN),.list 3 (a1.2.map M.encF)]),.int .i64 a2] (.bool true):=M.xou _ _ (congrArg (fun x:Option Bool=>some (x.isSome,AV.bool (x.getD false))) hpl)
 have hrc:RC W (fun _=>False) xH9 [v0,v1,v2] [(.agg [.list 1 (a0.1.map M.encN),.list 3 (a0.2.map M.encF)]),(.agg [.list 1 (a1.1.map M.encN),.list 3 (a1.2.map M.encF)]),.int .i64 a2]:=by
  refine ⟨rfl,fun i hi=>?_⟩
  match i,hi with
  | 0,_=>exact rr0
  | 1,_=>exact rr1
  | 2,_=>exact rr2
 refine (hg.2 W (fun _=>False) _ hI (fun _ h=>h.elim) hrc).mono fun e W' ⟨v,he,hb,hr⟩=>?_
 subst he;obtain rfl:=hr.bool_inv;exact ⟨_,rfl,xBb rfl hW' ⟨rfl,rfl,rfl⟩ rfl Tryz.underlying4 (by simpa using xpp xHI hb (by kernel_rfl) hAk) hb⟩
noncomputable def wit:Array Value:=#[.agg #[.slice none 0 0,.slice none 0 0],.agg #[.slice none 0 0,.slice none 0 0],.int .i64 0]
theorem laid_met (os:Os):laidMet Tryz.prog Rows.setopProductsRow.laid ((xHu Tryz.prog Rows.setopProductsRow.laid os).forCall (fun _ _=>0) ⟨#[],wit,[]⟩).memory :=
 laidMet_of_run3 8 (by kernel_rfl) (by kernel_rfl) (by kernel_rfl)
theorem reads (os:Os) {H:Type} (enc:TypeId×Value->H):∃ places,DataW.whole enc Tryz.prog ((xHu Tryz.prog Rows.setopProductsRow.laid os).forCall (fun _ _=>0) ⟨#[],wit,[]⟩).memory Tryz.f9.params.toList Rows.setopProductsSpec.vars false wit.toList 8=some ([.agg [.nil,.nil],.agg [.nil,.nil],.lit (.int .i64 0)],[],places) :=
 ⟨[],by kernel_rfl⟩
set_option maxRecDepth 100000 in
theorem lifted (os:Os) (started:os.Started) (H:Type) (enc:TypeId×Value->H) (F:Stop.Interp) :
  ReturnsInHanded {} Tryz.checked os 9 .any ((OpenSpec.ofChange Rows.setopProductsSpec).preRow enc Tryz.prog Tryz.f9 Rows.setopProductsRow.domain false Rows.setopProductsRow.laid) (((OpenSpec.ofChange Rows.setopProductsSpec).at F).post enc Tryz.prog Tryz.f9 false true false false):=by
 obtain ⟨places,hx⟩:=reads os enc;refine returnsInHanded_of_row (C:=Tryz.checked) (s:=OpenSpec.ofChange Rows.setopProductsSpec) xHN started (by kernel_rfl) Tryz.func9
  (witness_row_at (enc:=enc) (C:=Tryz.checked) false (xHu Tryz.prog Rows.setopProductsRow.laid os) wit rfl (by kernel_rfl) (by kernel_rfl) (by kernel_rfl)
   (OpenSpec.preRow_of_cond 8 hx (by kernel_rfl) (fun k hk=>by cases hk) (by kernel_rfl) (laid_met os))) ?_
 intro W base args ds gs before hval hW _ _ _ hL hsh _;exact contract H enc W base args ds gs before hval hW hL hsh
theorem said:Rows.SetopProductsSaid :=
 OpenClaim.holds_of_cond 9 Tryz.f9 rfl rfl rfl rfl rfl rfl rfl ⟨rfl,rfl,rfl,rfl,rfl⟩ rfl rfl rfl rfl rfl (by kernel_rfl) Tryz.func9 (by kernel_rfl)
  (of_decide_eq_true (by kernel_rfl)) (by unfold Func.isWrapper;first|(rw [if_pos (by decide +kernel)];kernel_rfl)|(rw [if_neg (by decide +kernel)];exact ⟨rfl,rfl⟩))
  (fun os started H enc _ F=>by rw [OpenClaim.pre_eq_preRow];exact lifted os started H enc F)
theorem plain (f:FuncId) (fn:Func) (hf:Tryz.pinned.checked.prog.funcNamed "bitemporal/bitemporallaw25.SetopProducts" = some f) (hfn:Tryz.pinned.checked.prog.funcs[f]?=some fn) :
  false=Tryz.pinned.checked.prog.looks []/\∀ (j:Nat) t,fn.params[j]?=some t->Tryz.pinned.checked.prog.wantsStandIn t=false:=by
 obtain rfl:f=9:=Option.some.inj ((show Tryz.prog.funcNamed "bitemporal/bitemporallaw25.SetopProducts" = some 9 by kernel_rfl).symm.trans hf) |>.symm
 obtain rfl:fn=Tryz.f9:=(Option.some.inj (Tryz.func9.symm.trans hfn)).symm;refine ⟨by kernel_rfl,fun j t ht=>?_⟩
 rw [Tryz.params9] at ht;have hm:=Array.mem_of_getElem? ht;have:([25,25,3]:List Nat).all (fun t=>!(Tryz.prog.wantsStandIn t))=true:=by kernel_rfl
 have:=List.all_eq_true.1 this t (by simpa using hm)
 show Tryz.prog.wantsStandIn t=false;simpa using this
theorem card:Rows.SetopProductsCardSaid :=
 Claim7.holds_tied_plain_at .later [] _ _ _ _ said (fun _ h=>by cases h) (by kernel_rfl) (fun _ h=>by cases h) setopProducts_row_tie rfl ⟨rfl,rfl⟩ (by kernel_rfl) rfl plain (by kernel_rfl)
end Go.Proofs.YtodofdnlhoknhaaGreatDoor.setopProducts
end
