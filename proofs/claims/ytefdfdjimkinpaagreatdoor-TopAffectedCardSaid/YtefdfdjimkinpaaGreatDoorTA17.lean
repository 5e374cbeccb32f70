/- Part 17 of the proof of the law. -/
import Derived.Test.YtefdfdjimkinpaaGreatDoorTA16
import Derived.Lib.ItoaLen
set_option linter.defProp false
set_option linter.unusedVariables false
set_option linter.unusedSimpArgs false
set_option maxRecDepth 100000
set_option maxRecDepth 10000
noncomputable section
namespace Go.Sim.M
open Go.RowKit Go.Sim.Srt
def rdD (l:List UInt8):Nat:=l.foldl (fun a c=>a*10+(c.toNat - 48)) 0
def xyi (u:Nat):∀ c,c∈Lib.decDigits u->48<=c.toNat/\c.toNat<=57:=by
 induction u using Nat.strongRecOn with
 | _ u ih =>
  intro c hc;rw [Lib.decDigits] at hc;split at hc
  . rw [zw] at hc;subst hc;rw [UInt8.toNat_ofNat'];omega
  . rw [zH,zw] at hc;rcases hc with hc|rfl
    . exact ih (u / 10) (by omega) c hc
    . rw [UInt8.toNat_ofNat'];omega
def xBc (u:Nat):rdD (Lib.decDigits u)=u:=by
 induction u using Nat.strongRecOn with
 | _ u ih =>
  rw [Lib.decDigits];split
  . simp only [rdD,List.foldl_cons,List.foldl_nil,UInt8.toNat_ofNat'];omega
  . have:=ih (u / 10) (by omega)
    unfold rdD at this |-;rw [List.foldl_append,this];simp only [List.foldl_cons,List.foldl_nil,UInt8.toNat_ofNat'];omega
def xyj {u v:Nat} (h:Lib.decDigits u=Lib.decDigits v):u=v:=by rw [<-xBc u,h,xBc]
def xrN {a b:Int} (h:Lib.itoa a=Lib.itoa b):a=b:=by
 unfold Lib.itoa at h;have k:∀ u v:Nat,45::Lib.decDigits u≠Lib.decDigits v:=fun u v e=>by
  have:=xyi v 45 (by rw [<-e];simp)
  have t:(45:UInt8).toNat=45:=rfl;omega
 split at h<;>split at h
 . have:=xyj (List.cons.inj h).2;omega
 . exact absurd h (k _ _)
 . exact absurd h.symm (k _ _)
 . have:=xyj h;omega
def xmR (a:Int):(32:UInt8)∉Lib.itoa a:=by
 have k:∀ v:Nat,(32:UInt8)∉Lib.decDigits v:=fun v e=>by
  have:=xyi v 32 e;have t:(32:UInt8).toNat=32:=rfl;omega
 unfold Lib.itoa;split
 . rw [zD];rintro (h|h)
   . simp at h
   . exact k _ h
 . exact k _
def xsm:∀ {a b x y:List UInt8},(32:UInt8)∉a->(32:UInt8)∉b->a++32::x=b++32::y->a=b/\x=y
 | [],[],x,y,_,_,h=>⟨rfl,(List.cons.inj h).2⟩
 | [],c::b,x,y,_,hb,h=>absurd (List.cons.inj h).1 fun e=>hb (by rw [e];simp)
 | c::a,[],x,y,ha,_,h=>absurd (List.cons.inj h).1 fun e=>ha (by rw [<-e];simp)
 | c::a,d::b,x,y,ha,hb,h=>by
  obtain ⟨e1,h⟩:=List.cons.inj h;obtain ⟨e2,e3⟩:=xsm (a:=a) (b:=b) (fun e=>ha (by simp [e])) (fun e=>hb (by simp [e])) h
  exact ⟨by rw [e1,e2],e3⟩
def keyV (v:Val):List UInt8:=Lib.itoa v.k++32::(Lib.itoa v.i++32::(Lib.itoa (v.t.length:Int)++32::v.t))
def keyOf (r:Row):List UInt8:=r.flatMap keyV
def xrQ (v:Val) (s:List UInt8):keyV v++s=Lib.itoa v.k++32::(Lib.itoa v.i++32::(Lib.itoa (v.t.length:Int)++32::(v.t++s))):=by simp [keyV]
def xiD (v:Val) (r:Row):keyOf (v::r)=keyV v++keyOf r:=by simp [keyOf]
def xqL (v:Val) (s:List UInt8):keyV v++s≠[]:=by rw [xrQ];simp
def xtm:∀ {r r':Row},keyOf r=keyOf r'->r=r'
 | [],[],_=>rfl
 | [],v::r',h=>by rw [xiD] at h;exact absurd h.symm (xqL _ _)
 | v::r,[],h=>by rw [xiD] at h;exact absurd h (xqL _ _)
 | v::r,v'::r',h=>by
  rw [xiD,xiD,xrQ,xrQ] at h;obtain ⟨h1,h⟩:=xsm (xmR _) (xmR _) h;obtain ⟨h2,h⟩:=xsm (xmR _) (xmR _) h;obtain ⟨h3,h⟩:=xsm (xmR _) (xmR _) h;have h3:=xrN h3;obtain ⟨h4,h⟩:=List.append_inj h (by omega)
  obtain rfl:=xtm h;have:v=v':=by
   obtain ⟨k,i,t⟩:=v;obtain ⟨k',i',t'⟩:=v';obtain rfl:=xrN h1;obtain rfl:=xrN h2;subst h4;rfl
  rw [this]
def xHw {n:Int} (h:(Lit.int .i64 n).wf=true):-9223372036854775808<=n/\n<=9223372036854775807:=by
 have h:(decide ((IntKind.i64).min<=n)&&decide (n<=(IntKind.i64).max))=true:=h;rw [zg,zm,zm] at h;exact h
def xvO {v:Val} (hw:v.wf) (ht:v.t.length<=1099511627776):(keyV v).length<=66+v.t.length:=by
 obtain ⟨w1,w2,_⟩:=hw;have a1:=Lib.itoa_length_le v.k (xHw w1).1 (xHw w1).2;have a2:=Lib.itoa_length_le v.i (xHw w2).1 (xHw w2).2;have a3:=Lib.itoa_length_le (v.t.length:Int) (by omega) (by omega)
 simp only [keyV,z8,zG];omega
def xmU (s B:List UInt8) (h:(B++s).length<=140737488355328):xal s B.length (byteAVs B)=some ((s.length:Int),(B++s).length,byteAVs (B++s)):=by
 rw [z8] at h;have h2:B.length+s.length<=4611686018427387904:=by omega
 unfold xal xc1;simp only [xff,beq_self_eq_true,Nat.mul_one,h,h2,zo,Bool.and_self,xaa,xoA,z8,sUF]
def xpq (B:List UInt8) (h:(B++[32]).length<=140737488355328):xcs 32 B.length (byteAVs B)=some ((B++[32]).length,byteAVs (B++[32])):=by
 rw [z8,zk] at h;have h2:B.length+1<=4611686018427387904:=by omega
 unfold xcs xdz;simp only [xff,beq_self_eq_true,Nat.mul_one,h,h2,zo,Bool.and_self,xaa,xoA,z8,zk,sUF];rfl
def numI (n:Int):List UInt8:=Lib.itoa n++[32]
def xzl (t8:List AV) (t9 q:Int) (xs:List AV) (hx:xs.length=3) (j:Nat) (hj:j<3) (n:Int) (hn:xs.getD j .top=.int .i64 n) (h1:-9223372036854775808<=n) (h2:n<=9223372036854775807) (v0 v1:Int) (v2 B:List UInt8) (hB:B.length<=70368744177664) :
  xa0 t8 t9 q 3 3 ((j:Int),B.length,v0,v1,v2,xs,byteAVs B)=some (.inl (((j+1:Nat):Int),(B++numI n).length,v0,v1,v2,xs,byteAVs (B++numI n))):=by
 have hl:=Lib.itoa_length_le n h1 h2;have i1:(j:Int)<3:=by omega
 have i2:(j:Int)<((3:Nat):Int):=by omega
 have i3:j<xs.length:=by omega
 have e1:=xmU (Lib.itoa n) B (by rw [z8];omega)
 have e2:=xpq (B++Lib.itoa n) (by rw [z8,z8,zk];omega)
 have hc:((AV.int IntKind.i64 n).cells.getD 0 .top).toInt=n:=rfl;have hs:xH6 (Sh.int IntKind.i64) ((AV.int IntKind.i64 n).cells.getD 0 .top)=true:=rfl;simp only [xa0,xgn,xh4,xh5,xh6,xec,sBU,i1,i2,i3,hn,hc,hs,h1,h2,e1,e2,xHp (n:=j) (by omega),numI,zx]
def xDW (t8:List AV) (t9 q:Int) (xs:List AV) (v0 v1:Int) (v2 B:List UInt8):xa0 t8 t9 q 3 3 (((3:Nat):Int),B.length,v0,v1,v2,xs,byteAVs B)=some (.inr (B.length,v0,v1,v2,byteAVs B)):=by
 have i1:¬ ((3:Nat):Int)<3:=by omega
 simp only [xa0,xgn,i1,zn,xad,sUF]
def xls (v:Val):keyV v=numI v.k++(numI v.i++(numI (v.t.length:Int)++v.t)):=by simp [keyV,numI]
def KOk (v:Val):Prop:=v.wf/\v.t.length<=1099511627776
def KOk.len {v:Val} (h:KOk v):(keyV v).length<=1099511627842:=by have:=xvO h.1 h.2;have:=h.2;omega
def xyr (t8:List AV) (t9 q:Int) (v:Val) (h:KOk v) (B:List UInt8) (hB:B.length<=35184372088832) :
  Iter (xa0 t8 t9 q 3 3) ((1:Int),(B++numI v.k).length,v.k,v.i,v.t,[AV.int .i64 v.k,AV.int .i64 v.i,AV.int .i64 (v.t.length:Int)],byteAVs (B++numI v.k))=some ((B++numI v.k++numI v.i++numI (v.t.length:Int)).length,v.k,v.i,v.t,byteAVs (B++numI v.k++numI v.i++numI (v.t.length:Int))):=by
 have hl:=h.len;have ht:=h.2;rw [xls,z8,z8,z8] at hl;have e1:=xzl t8 t9 q [AV.int .i64 v.k,AV.int .i64 v.i,AV.int .i64 (v.t.length:Int)] rfl 1 (by omega) v.i rfl (xHw h.1.2.1).1 (xHw h.1.2.1).2 v.k v.i v.t (B++numI v.k) (by rw [z8];omega)
 have e2:=xzl t8 t9 q [AV.int .i64 v.k,AV.int .i64 v.i,AV.int .i64 (v.t.length:Int)] rfl 2 (by omega) (v.t.length:Int) rfl (by omega) (by omega) v.k v.i v.t (B++numI v.k++numI v.i) (by rw [z8,z8];omega)
 exact (xaq e1).trans ((xaq e2).trans (xah (xDW ..)))
def xFU (t8:List AV) (t9 q:Int) (v:Val) (h:KOk v) (B:List UInt8) (hB:B.length<=35184372088832) :
  Iter (xa0 t8 t9 q 3 3) ((0:Int),B.length,v.k,v.i,v.t,[AV.int .i64 v.k,AV.int .i64 v.i,AV.int .i64 (v.t.length:Int)],byteAVs B)=some ((B++numI v.k++numI v.i++numI (v.t.length:Int)).length,v.k,v.i,v.t,byteAVs (B++numI v.k++numI v.i++numI (v.t.length:Int))):=by
 have e0:=xzl t8 t9 q [AV.int .i64 v.k,AV.int .i64 v.i,AV.int .i64 (v.t.length:Int)] rfl 0 (by omega) v.k rfl (xHw h.1.1).1 (xHw h.1.1).2 v.k v.i v.t B (by omega)
 exact (xaq e0).trans (xyr t8 t9 q v h B hB)
def xA0 (r:Row) (hr:r.length<=1048576) (h:∀ v,v∈r->KOk v) (hk:(keyOf r).length<=17592186044416):∀ d k:Nat,k+d=r.length->Iter (xcg (r.map encV) ((r.length:Nat):Int)) ((k:Int),(keyOf (r.take k)).length,byteAVs (keyOf (r.take k)))=some ((keyOf r).length,byteAVs (keyOf r))
 | 0,k,hkk=>by
  obtain rfl:k=r.length:=by omega
  rw [ya];refine xah ?_;simp only [xcg,xgm,zz,zn,xad,sUF]
 | d+1,k,hkk=>by
  have q:k<r.length:=by omega
  have hv:=h r[k] (zp q);have i1:(k:Int)<(r.length:Int):=by omega
  have gf:(r.map encV).getD k .top=encV r[k]:=xac _ _ _ q;have tk:keyOf (r.take (k+1))=keyOf (r.take k)++keyV r[k]:=by
   unfold keyOf;rw [List.take_add_one,zf q,List.flatMap_append];simp
  have le:(keyOf (r.take (k+1))).length<=(keyOf r).length:=by
   conv=>rhs;rw [<-List.take_append_drop (k+1) r]
   unfold keyOf;rw [List.flatMap_append,z8];omega
  have hl:=hv.len;rw [tk,z8] at le;have e1:=xFU (r.map encV) (r.length:Int) (k:Int) r[k] hv (keyOf (r.take k)) (by omega)
  have kn:keyOf (r.take k)++keyV r[k]=keyOf (r.take k)++numI r[k].k++numI r[k].i++numI (r[k].t.length:Int)++r[k].t:=by rw [xls];simp only [zx]
  have e2:=xmU r[k].t (keyOf (r.take k)++numI r[k].k++numI r[k].i++numI (r[k].t.length:Int)) (by rw [<-kn,z8];omega)
  rw [xaq (s':=(((k+1:Nat):Int),(keyOf (r.take (k+1))).length,byteAVs (keyOf (r.take (k+1))))) ?_]
  . exact xA0 r hr h hk d (k+1) (by omega)
  . rw [tk,kn];simp only [xcg,xgm,xh1,xh2,xfQ,xh3,sBU,q,i1,gf,cV0,cV1,cV2,lV,sV,e1,e2,xHp (n:=k) (by omega)]
def xFV (r:Row) (hr:r.length<=1048576) (h:∀ v,v∈r->KOk v) (hk:(keyOf r).length<=17592186044416):xh0 (r.map encV)=some (keyOf r):=by
 match r with
 | []=>rfl
 | v::t =>
  have hv:=h v (by simp)
  have hl:=hv.len;have i1:(0:Int)<((t.length+1:Nat):Int):=by omega
  have i2:0<t.length+1:=by omega
  obtain ⟨r1,r2⟩:=xHw hv.1.1;have q:=Lib.itoa_length_le v.k r1 r2;have gf:((v::t).map encV).getD 0 .top=encV v:=rfl;have e0:xao (Lib.itoa v.k)=some (((Lib.itoa v.k).length:Int),(Lib.itoa v.k).length,byteAVs (Lib.itoa v.k)):=by
   have m1:(Lib.itoa v.k).length<=140737488355328:=by omega
   have m2:(Lib.itoa v.k).length<=4611686018427387904:=by omega
   unfold xao xbP;simp only [xff,Nat.mul_one,m1,m2,zo,Bool.and_self,xaa,sUF]
  have e1:xcr 32 (Lib.itoa v.k).length (byteAVs (Lib.itoa v.k))=some (([]++numI v.k).length,byteAVs ([]++numI v.k)):=xpq (Lib.itoa v.k) (by rw [z8,zk];omega)
  have e2:=xyr ((v::t).map encV) ((t.length+1:Nat):Int) 0 v hv [] (by simp)
  have kn:keyV v=[]++numI v.k++numI v.i++numI (v.t.length:Int)++v.t:=by rw [xls];simp
  have e3:=xmU v.t ([]++numI v.k++numI v.i++numI (v.t.length:Int)) (by rw [<-kn];omega)
  rw [<-kn] at e3;have e4:=xA0 (v::t) hr h hk t.length 1 (by rw [zG];omega)
  have tk:keyOf ((v::t).take 1)=keyV v:=by simp [keyOf]
  rw [tk,zG] at e4;have e4:Iter (xcg ((v::t).map encV) ((t.length+1:Nat):Int)) ((1:Int),(keyV v).length,byteAVs (keyV v))=_:=e4;have hne:(keyOf (v::t)).length≠0:=fun e=>xqL v (keyOf t) (by rw [<-xiD];exact List.length_eq_zero_iff.1 e)
  unfold xh0 xln xeC xkd xke xkf xhG xkg xkh xki xb0;simp only [za,zG,i1,i2,gf,cV0,cV1,cV2,lV,sV,r1,r2,e0,e1,e2,e3,e4,zo,xaa,Bool.and_self,beq_self_eq_true,zl,zi,xff,xnS,xpG,ne_eq,hne,not_false_eq_true,sUF]
abbrev Grp:=Row×List Per
def encG (g:Grp):AV:=.agg [.list 3 (g.1.map encV),.list 2 (g.2.map encP)]
def okEG (x:AV):Bool:=x.cells.length==(2:Nat)&&xId [Sh.list (3:Nat),Sh.list (2:Nat)] x.cells (0:Nat)
def ldEG (x:AV):AV:=AV.agg [AV.list (3:Nat) (x.cells.getD (0:Nat) AV.top).toList,AV.list (2:Nat) (x.cells.getD (1:Nat) AV.top).toList]
def xHM (x y:AV):Bool:=(xfg (x.cells.getD 0 AV.top).toList (x.cells.getD 1 AV.top).toList (y.cells.getD 0 AV.top).toList (y.cells.getD 1 AV.top).toList).isSome
def xHN (x y:AV):Int:=(xfg (x.cells.getD 0 AV.top).toList (x.cells.getD 1 AV.top).toList (y.cells.getD 0 AV.top).toList (y.cells.getD 1 AV.top).toList).getD 0
theorem heG (a:Grp):okEG (encG a)=true:=rfl
theorem hdG (a:Grp):ldEG (encG a)=encG a:=rfl
section
variable {N : Nat} (hN : N <= 2 ^ 60) {ok : Grp -> Prop} {c : Grp -> Grp -> Int} (hc : ∀ x y, ok x -> ok y -> xHM (encG x) (encG y) = true /\ xHN (encG x) (encG y) = c x y)
include hN
include hc
theorem xGx (a b:Nat) (ha:a<=N) (hb:b<=N) {l r:List Grp} (hl:LOk N ok l) (hr:xHI c a b l=some r):xaZ N a b (List.map encG l)=some (List.map encG r)/\LOk N ok r:=by
 obtain ⟨e1,e2⟩:=xCP (enc:=encG) hN (c:=c) (ok:=ok) a b hb (gi:=fun i=>xbg N a b i) (fun i l r hl hr=>xEg (okE:=okEG) (ldE:=ldEG) heG hdG hN (P:=xHM) (V:=xHN) hc a (fun j xs=>rfl) hl hr) (g:=xbf N a b) (fun i xs=>rfl) hl hr
 refine ⟨?_,e2⟩;unfold xaZ xdk;rw [w64 (x:=(a:Int)+1) (n:=a+1) (by omega) (by omega),e1];rfl
theorem xCT (q:N<20) {l r:List Grp} (hl:LOk N ok l) (hr:xHI c 0 N l=some r):xea N N (List.map encG l)=some (List.map encG r)/\LOk N ok r:=by
 obtain ⟨e1,e2⟩:=xGx hN hc 0 N (by omega) (zd _) hl hr
 have e1:xaZ N 0 N (List.map encG l)=_:=e1;have q0:Iter (xbn N N 20) ((0:Int),(20:Int),List.map encG l)=some ((0:Int),List.map encG l):=by
  refine xah ?_;have h1:¬ (20:Int)<=(N:Int):=by omega
  simp only [xbn,xem,h1,zn,xad,sUF]
 have q1:Iter (xbV N N) ((20:Int),List.map encG r)=some (List.map encG r):=by
  refine xah ?_;have h1:¬ (20:Int)<(N:Int):=by omega
  simp only [xbV,xen,h1,zn,xad,sUF]
 refine ⟨?_,e2⟩;simp only [xea,xfz,xe4,xe5,xe6,q0,e1,q1,zl,zi,xaa,sUF]
end
theorem xG0 {N:Nat} (hN:N*48<=140737488355328) {ok:Grp->Prop} {c:Grp->Grp->Int} (hc:∀ x y:Grp,ok x->ok y->xHM (encG x) (encG y)=true/\xHN (encG x) (encG y)=c x y) (q:N<20) (l r:List Grp) (hl:l.length=N) (ho:∀ x,x∈l->ok x) (hr:xHI c 0 N l=some r) :
  xfJ N (List.map encG l)=some (List.map encG r):=by
 obtain ⟨e1,e2⟩:=xCT (N:=N) (by omega) (ok:=ok) hc q ⟨hl,ho⟩ hr
 simp only [xfJ,xe3,e1,zl,zi,xaa,sUF]
def ents:Nat->List Row->List AV
 | _,[]=>[]
 | k,r::R=>.agg [.str (keyOf r),.int .i64 (k:Int)]::ents (k+1) R
def xym:∀ (R:List Row) (k:Nat) (r:Row),mapIx (ents k R) (keyOf r)=R.findIdx? fun x=>decide (x=r)
 | [],_,_=>rfl
 | x::R,k,r=>by
  have hk:isKey (keyOf r) (((AV.agg [.str (keyOf x),.int .i64 (k:Int)]).cells).getD 0 .top)=decide (x=r):=by
   show (keyOf x==keyOf r)=_;by_cases h:x=r
   . subst h;simp
   . have:¬ keyOf x=keyOf r:=fun e=>h (xtm e)
     simp [h,this]
  show (match isKey (keyOf r) (((AV.agg [.str (keyOf x),.int .i64 (k:Int)]).cells).getD 0 .top) with|true=>some 0|false=>(mapIx (ents (k+1) R) (keyOf r)).map (·+1))=_
  rw [hk,List.findIdx?_cons,xym R (k+1) r];by_cases h:x=r<;>simp [h]
def xvs:∀ (R:List Row) (k:Nat),(ents k R).length=R.length
 | [],_=>rfl
 | _::R,k=>by show (ents (k+1) R).length+1=_;rw [xvs R];rfl
def xtS:∀ (R:List Row) (k:Nat) (r:Row),ents k (R++[r])=ents k R++[.agg [.str (keyOf r),.int .i64 ((k+R.length:Nat):Int)]]
 | [],_,_=>rfl
 | x::R,k,r=>by
  show _::ents (k+1) (R++[r])=_;rw [xtS R (k+1) r,zG,show k+1+R.length=k+(R.length+1) by omega];rfl
def xvr:∀ (R:List Row) (k j:Nat) (h:j<R.length),(ents k R).getD j .top=.agg [.str (keyOf R[j]),.int .i64 ((k+j:Nat):Int)]
 | x::R,k,0,h=>rfl
 | x::R,k,j+1,h=>by
  show (ents (k+1) R).getD j .top=_;rw [xvr R (k+1) j (by simpa using h),show k+1+j=k+(j+1) by omega];rfl
def upd (G:List Grp) (f:Fc):List Grp:=match (G.map (·.1)).findIdx? fun x=>decide (x=f.r) with
 | some j=>G.set j (f.r,(G.getD j ([],[])).2++[f.p])
 | none=>G++[(f.r,[f.p])]
structure GI (l:List Fc) (G:List Grp):Prop where
 nd:(G.map (·.1)).Nodup
 mem:∀ r,r∈G.map (·.1)↔∃ f,f∈l/\f.r=r/\pv f.p=true
 ps:∀ g,g∈G->g.2=psOf l g.1
 len:G.length<=l.length
def GI.nil:GI [] []:=⟨List.nodup_nil,fun r=>by simp,fun g hg=>by simp at hg,zd _⟩
def xoK (l:List Fc) (f:Fc) (r:Row):psOf (l++[f]) r=psOf l r++(if f.r=r/\pv f.p=true then [f.p] else []):=by
 unfold psOf;rw [List.filter_append,zy];congr 1;by_cases h1:f.r=r<;>by_cases h2:pv f.p=true<;>simp [h1,h2]
def GI.skip {l:List Fc} {G:List Grp} (h:GI l G) {f:Fc} (hf:pv f.p=false):GI (l++[f]) G :=
 ⟨h.nd,fun r=>by
  rw [h.mem];refine ⟨fun ⟨g,hg,e⟩=>⟨g,by simp [hg],e⟩,fun ⟨g,hg,e1,e2⟩=>⟨g,?_,e1,e2⟩⟩
  rcases zH.1 hg with hg|hg
  . exact hg
  . rw [zw] at hg;subst hg;rw [hf] at e2;simp at e2,fun g hg=>by rw [xoK,if_neg (by rw [hf];simp),zF];exact h.ps g hg,by rw [z8];have:=h.len;omega⟩
def xp8 {R:List Row} {r:Row} {j:Nat} (h:R.findIdx? (fun x=>decide (x=r))=some j):∃ hj:j<R.length,R[j]=r:=by
 obtain ⟨hj,h1,_⟩:=List.findIdx?_eq_some_iff_getElem.1 h;exact ⟨hj,by simpa using h1⟩
def xvz {R:List Row} {r:Row} (h:R.findIdx? (fun x=>decide (x=r))=none):r∉R:=fun hr=>by
 have:=List.findIdx?_eq_none_iff.1 h r hr;simp at this
def xtB {G:List Grp} {j:Nat} (hj:j<G.length) {ps:List Per} {r:Row} (hr:G[j].1=r):(G.set j (r,ps)).map (·.1)=G.map (·.1):=by
 rw [List.map_set];show (G.map (·.1)).set j r=_;rw [<-hr];have:(G.map (·.1))[j]'(by simpa using hj)=G[j].1:=by simp
 rw [<-this];exact List.set_getElem_self _
def GI.upd {l:List Fc} {G:List Grp} (h:GI l G) {f:Fc} (hf:pv f.p=true):GI (l++[f]) (M.upd G f):=by
 unfold M.upd;cases hi:(G.map (·.1)).findIdx? fun x=>decide (x=f.r) with
 | some j =>
  obtain ⟨hj,hr⟩:=xp8 hi;rw [za] at hj;rw [List.getElem_map] at hr;dsimp only;have gd:G.getD j ([],[])=G[j]:=by rw [z7,zf hj];rfl
  rw [gd];refine ⟨by rw [xtB hj hr];exact h.nd,fun r=>?_,fun g hg=>?_,by rw [y8,z8];have:=h.len;omega⟩
  . rw [xtB hj hr,h.mem];refine ⟨fun ⟨g,hg,e⟩=>⟨g,by simp [hg],e⟩,fun ⟨g,hg,e1,e2⟩=>?_⟩
    rcases zH.1 hg with hg|hg
    . exact ⟨g,hg,e1,e2⟩
    . rw [zw] at hg;subst hg;refine (h.mem r).1 ?_;rw [<-e1,<-hr];exact zL.2 ⟨G[j],zp hj,rfl⟩
  . obtain ⟨i,q,rfl⟩:=zq.1 hg;rw [y8] at q;rw [List.getElem_set];by_cases J:j=i
    . subst J;rw [if_pos rfl,xoK,if_pos ⟨rfl,hf⟩,h.ps _ (zp hj),hr]
    . rw [if_neg J,xoK,if_neg ?_,zF]
      . exact h.ps _ (zp q)
      . rintro ⟨e,_⟩;have hn:=zC.1 h.nd;have ei:(G.map (·.1))[i]'(by simpa using q)=G[i].1:=by simp
        have ej:(G.map (·.1))[j]'(by simpa using hj)=G[j].1:=by simp
        rcases Nat.lt_or_gt_of_ne J with D|D
        . exact hn j i (by simpa using hj) (by simpa using q) D (by rw [ei,ej,hr,e])
        . exact hn i j (by simpa using q) (by simpa using hj) D (by rw [ei,ej,hr,e])
 | none =>
  have hr:=xvz hi;dsimp only;have hz:psOf l f.r=[]:=by
   unfold psOf;rw [List.map_eq_nil_iff,List.filter_eq_nil_iff];intro g hg he;simp only [zg,zm] at he;exact hr ((h.mem _).2 ⟨g,hg,he⟩)
  refine ⟨?_,fun r=>?_,fun g hg=>?_,by rw [z8,z8];have:=h.len;simp;omega⟩
  . rw [zy];refine List.nodup_append.2 ⟨h.nd,by simp,fun a ha b hb e=>?_⟩
    simp at hb;exact hr (by rw [<-hb,<-e];exact ha)
  . rw [zy,zH,h.mem];simp only [zW,zX,zw,zH];constructor
    . rintro (⟨g,hg,e⟩|rfl)
      . exact ⟨g,.inl hg,e⟩
      . exact ⟨f,.inr rfl,rfl,hf⟩
    . rintro ⟨g,hg|rfl,e⟩
      . exact .inl ⟨g,hg,e⟩
      . exact .inr e.1.symm
  . rcases zH.1 hg with hg|hg
    . rw [xoK,if_neg ?_,zF]
      . exact h.ps g hg
      . rintro ⟨e,_⟩;exact hr (by rw [e];exact zL.2 ⟨g,hg,rfl⟩)
    . rw [zw] at hg;subst hg;rw [xoK,if_pos ⟨rfl,hf⟩,hz];rfl
def cG0 (g:Grp):((encG g).cells.getD 0 .top).toList=g.1.map encV:=rfl
def xAN {α:Type} (l:List α) (x d:α):(l++[x]).getD l.length d=x:=by simp
def xCO {α:Type} (l:List α) (x y:α):(l++[x]).set l.length y=l++[y]:=by simp
def xHT (xs:List AV):(AV.agg xs).cells=xs:=rfl
def tolA (n:Nat) (xs:List AV):(AV.list n xs).toList=xs:=rfl
def xHV (k:IntKind) (n:Int):(AV.int k n).toInt=n:=rfl
def xHU (xs:List AV):xIO 2 (.list 2 xs)=true:=rfl
def xHY (n m:Nat):xJa (.int .i64 (n:Int)) m=decide (n<m):=rfl
def xHX:xJa (.int .i64 0) 1=true:=rfl
def g2a (a b:AV):[a,b].getD 0 .top=a:=rfl
def g2b (a b:AV):[a,b].getD 1 .top=b:=rfl
def lt2 (a b:AV):([a,b].length==2)=true:=rfl
def tk1 (a b:AV):List.take 1 [a,b]=[a]:=rfl
def dp2 (a b:AV):List.drop 2 [a,b]=[]:=rfl
def xyk (g:Grp):encG g=.agg [.list 3 (g.1.map encV),.list 2 (g.2.map encP)]:=rfl
def xyl (p:Per):encP p=.agg [.int .i64 p.1,.int .i64 p.2]:=rfl
def R20 (l:List Fc):Prop:=∃ R:List Row,R.length<20/\∀ f,f∈l->f.r∈R
def R20.few {l:List Fc} (h:l.length<20):R20 l:=⟨l.map (·.r),by rw [za];exact h,fun f hf=>zL.2 ⟨f,hf,rfl⟩⟩
def R20.of {l m:List Fc} (h:R20 l) (hm:∀ f,f∈m->∃ g,g∈l/\f.r=g.r):R20 m:=by
 obtain ⟨R,h1,h2⟩:=h;exact ⟨R,h1,fun f hf=>by obtain ⟨g,g1,g2⟩:=hm f hf;rw [g2];exact h2 g g1⟩
def Keyed (l:List Fc):Prop:=Few l/\∀ f,f∈l->(∀ v,v∈f.r->KOk v)/\(keyOf f.r).length<=17592186044416
def Keyed.key {l:List Fc} (h:Keyed l) {f:Fc} (hf:f∈l):xh0 (f.r.map encV)=some (keyOf f.r):=xFV f.r (h.1.2 f hf) (h.2 f hf).1 (h.2 f hf).2
def xBk (l:List Fc) (h:Keyed l) (k:Nat) (hk:k<l.length) (G:List Grp) (hG:GI (l.take k) G) :
  xba (l.map encF) ((l.length:Nat):Int) (G.length,(k:Int),ents 0 (G.map (·.1)),G.map encG) =
   some (.inl ((if pv l[k].p=true then upd G l[k] else G).length,((k+1:Nat):Int),ents 0 ((if pv l[k].p=true then upd G l[k] else G).map (·.1)),(if pv l[k].p=true then upd G l[k] else G).map encG)):=by
 have hl:=h.1.1;have i1:(k:Int)<(l.length:Int):=by omega
 have gf:(l.map encF).getD k .top=encF l[k]:=xac _ _ _ hk;have ek:=h.key (zp hk);have kl:=(h.2 _ (zp hk)).2;have J:=hG.len;rw [zu] at J;cases hv:pv l[k].p with
 | false =>
  simp only [xba,xc2,sBU,i1,hk,gf,cF0,cF1,cF2,sF0,sF1,sF2,lF,sF12,sF02,xf4,hv,xHp (n:=k) (by omega)]
  rfl
 | true =>
  have k1:(keyOf l[k].r).length<=4611686018427387904:=by omega
  have hx:=xym (G.map (·.1)) 0 l[k].r;have n1:(ents 0 (G.map (·.1))).length<4611686018427387904:=by rw [xvs,za];omega
  have m1:(G.length+1)*48<=140737488355328:=by omega
  have m2:G.length+1<=4611686018427387904:=by omega
  simp only [if_true];cases hi:(G.map (·.1)).findIdx? fun x=>decide (x=l[k].r) with
  | none =>
   rw [hi] at hx;have hu:upd G l[k]=G++[(l[k].r,[l[k].p])]:=by unfold upd;rw [hi]
   have hh:xID (ents 0 (G.map (·.1))) (keyOf l[k].r)=false:=by unfold xID;rw [hx];rfl
   have hg:xIq (AV.int .i64 0) (ents 0 (G.map (·.1))) (keyOf l[k].r)=AV.int .i64 0:=by unfold xIq;rw [hx]
   have hp:xIo (ents 0 (G.map (·.1))) (keyOf l[k].r) (AV.int .i64 (G.length:Int))=ents 0 ((G++[(l[k].r,[l[k].p])]).map (·.1)):=by
    unfold xIo;rw [hx,zy];show _=ents 0 (G.map (·.1)++[l[k].r]);rw [xtS,za,zI]
   have i2:(G.length:Int)<((G.length+1:Nat):Int):=by omega
   have D:xH6 (Sh.int .i64) (AV.int .i64 0)=true:=rfl;have gl:∀ x:AV,(G.map encG++[x]).getD G.length .top=x:=fun x=>by have:=xAN (G.map encG) x .top;rwa [za] at this
   have sl:∀ x y:AV,(G.map encG++[x]).set G.length y=G.map encG++[y]:=fun x y=>by have:=xCO (G.map encG) x y;rwa [za] at this
   rw [hu];simp only [xba,xc2,xfB,xcG,xcH,xdN,xfC,xdO,xat,xfD,xau,xaM,xam,xdp,xeY,xeZ,xbk,xex,xdq,xbN,sBU,i1,hk,gf,cF0,cF1,cF2,sF0,sF1,sF2,lF,sF12,sF02,xf4,hv,xHp (n:=k) (by omega),ek,k1,hh,hg,hp,n1,m1,m2,i2,D,gl,sl,z8,zk,zy,zW,zX,xHT,tolA,xHV,xHU,xHY,g2a,g2b,lt2,tk1,dp2,y8,Nat.lt_succ_self,Bool.and_self,List.length_nil,zI,xyk,xyl,List.singleton_append,zV,zF,Int.natCast_zero]
   try simp [xaa,xHX,sUF]
  | some j =>
   obtain ⟨hj,hr⟩:=xp8 hi;rw [hi] at hx;have q:j<G.length:=by simpa using hj
   rw [List.getElem_map] at hr;have gd:G.getD j ([],[])=G[j]:=by rw [z7,zf q];rfl
   have hu:upd G l[k]=G.set j (l[k].r,G[j].2++[l[k].p]):=by unfold upd;rw [hi];dsimp only;rw [gd]
   have hh:xID (ents 0 (G.map (·.1))) (keyOf l[k].r)=true:=by unfold xID;rw [hx];rfl
   have hg:xIq (AV.int .i64 0) (ents 0 (G.map (·.1))) (keyOf l[k].r)=AV.int .i64 (j:Int):=by
    unfold xIq;rw [hx];dsimp only;rw [xvr _ _ _ hj,zI];rfl
   have gj:(G.map encG).getD j .top=encG G[j]:=xac _ _ _ q;have i2:(j:Int)<(G.length:Int):=by omega
   have D:xH6 (Sh.int .i64) (AV.int .i64 (j:Int))=true:=rfl;have pl:G[j].2.length<=k:=by
    rw [hG.ps _ (zp q)];have:=xA9 (l.take k) G[j].1;rw [zu] at this;omega
   have m3:(G[j].2.length+1)*16<=140737488355328:=by omega
   have m4:G[j].2.length+1<=4611686018427387904:=by omega
   have gs:∀ x:AV,((G.map encG).set j x).getD j .top=x:=fun x=>by
    rw [z7,zM (by simpa using q)];rfl
   have ss:∀ x y:AV,((G.map encG).set j x).set j y=(G.map encG).set j y:=fun x y=>List.set_set ..
   have tj:(AV.int IntKind.i64 (j:Int)).toInt=(j:Int):=rfl;have cj:(encG G[j]).cells=[.list 3 (l[k].r.map encV),.list 2 (G[j].2.map encP)]:=by rw [<-hr];rfl
   rw [hu,xtB q hr,y8,List.map_set];simp only [xba,xc2,xfB,xcG,xcH,xdN,xfC,xdO,xat,xfD,xau,xaM,xam,xdp,xeY,xeZ,xbk,xex,xdq,xbN,sBU,i1,hk,gf,cF0,cF1,cF2,sF0,sF1,sF2,lF,sF12,sF02,xf4,hv,xHp (n:=k) (by omega),ek,k1,hh,hg,i2,D,tj,gj,cj,q,y8,gs,ss,xHT,tolA,xHV,xHU,xHY,g2a,g2b,lt2,tk1,dp2,m3,m4,Bool.and_self,z8,zk,Nat.lt_succ_self,xyk,xyl,zy,zW,zX,List.singleton_append,zF]
   try simp [xaa,xHX,hr,sUF]
def grp (l:List Fc):List Grp:=l.foldl (fun G f=>if pv f.p=true then upd G f else G) []
def xvJ (l:List Fc) (f:Fc):grp (l++[f])=if pv f.p=true then upd (grp l) f else grp l:=by simp [grp]
def xAS:∀ l:List Fc,GI l.reverse (grp l.reverse)
 | []=>GI.nil
 | f::l=>by
  rw [List.reverse_cons,xvJ];have ih:=xAS l;cases hv:pv f.p with
  | true=>rw [if_pos rfl];exact ih.upd hv
  | false=>rw [if_neg (by simp)];exact ih.skip hv
def xAT (l:List Fc):GI l (grp l):=by have:=xAS l.reverse;rwa [List.reverse_reverse] at this
def xBj (l:List Fc) (h:Keyed l):Iter (xba (l.map encF) ((l.length:Nat):Int)) ((0:Nat),(0:Int),[],[])=some ((grp l).length,(grp l).map encG):=by
 refine xrL (fun k=>(((grp (l.take k)).length,((k:Nat):Int),ents 0 ((grp (l.take k)).map (·.1)),(grp (l.take k)).map encG):Nat×Int×List AV×List AV)) l.length _ (fun k hk=>?_) ?_ l.length 0 (by omega)
 . rw [xBk l h k hk (grp (l.take k)) (xAT _)];have tk:l.take (k+1)=l.take k++[l[k]]:=by rw [List.take_add_one,zf hk];rfl
   rw [tk,xvJ]
 . simp only [xba,xc2,za,zz,zn,xad,ya,sUF]
def xDH (x y:Grp) (hx:x.1.length<=4398046511104):xHM (encG x) (encG y)=true/\xHN (encG x) (encG y)=cmpR x.1 y.1:=by
 have e:xfg (x.1.map encV) (x.2.map encP) (y.1.map encV) (y.2.map encP)=some (cmpR x.1 y.1):=by
  unfold xfg xjH;rw [xBz x.1 y.1 (by unfold maxLen;omega)];rfl
 have e2:xfg ((encG x).cells.getD 0 .top).toList ((encG x).cells.getD 1 .top).toList ((encG y).cells.getD 0 .top).toList ((encG y).cells.getD 1 .top).toList=some (cmpR x.1 y.1):=e;unfold xHM xHN;rw [e2];exact ⟨rfl,rfl⟩
def xEb (l:List Fc) (h:Keyed l) (D:R20 l):∃ S:List Grp,xhd (l.map encF)=some (S.map encG)/\xHF l (S.map (·.1))/\(∀ g,g∈S->g.2=psOf l g.1)/\S.length<=l.length:=by
 have hg:=xAT l;have Q:=h.1.1;have O:=hg.len;have cG:Cm fun x y:Grp=>cmpR x.1 y.1:=xoV.on (e:=fun x:Grp=>x.1)
 obtain ⟨R,D,hR⟩:=D;have J:(grp l).length<20:=by
  have:=hg.nd.length_le_of_subset (l₂:=R) fun r hr=>by
   obtain ⟨f,hf,e,_⟩:=(hg.mem r).1 hr;rw [<-e];exact hR f hf
  rw [za] at this;omega
 obtain ⟨r,e,p,s⟩:=xvK cG.ord [] (grp l) [];simp only [zV,zF,List.length_nil,zI] at e;have es:=xG0 (N:=(grp l).length) (by omega) (ok:=fun g=>g.1.length<=1048576) (c:=fun x y:Grp=>cmpR x.1 y.1) (fun x y hx hy=>xDH x y (by omega)) J (grp l) r rfl (fun g q=>by
  obtain ⟨f,hf,e,_⟩:=(hg.mem g.1).1 (zL.2 ⟨g,q,rfl⟩);rw [<-e];exact h.1.2 f hf) e
 have rl:=p.length_eq;refine ⟨r,?_,⟨?_,fun x=>?_⟩,fun g q=>hg.ps g (p.mem_iff.1 q),by rw [rl];exact O⟩
 . have el:=xBj l h;have ra:xIE 2 1 ((grp l).map encG)=true:=by
    unfold xIE;rw [zJ];intro x hx;obtain ⟨g,_,rfl⟩:=zL.1 hx;rfl
   have ll:(grp l).length<=r.length:=by omega
   have tt:List.take (grp l).length (r.map encG)=r.map encG:=zj (by rw [za];omega)
   unfold xhd xkj xg0 xdS xjI;simp only [za,el,zl,zi,xaa,ra,es,zI,ll,zo,zT,zt,tt,sUF]
 . refine xBs (fun _ _=>xlW) ?_ ?_
   . exact List.pairwise_map.2 s
   . exact ((p.map (·.1)).nodup_iff).2 hg.nd
 . rw [(p.map (·.1)).mem_iff];exact hg.mem x
def xuh {ps:List Per} (h:ps.length<=262144):Tame (ps.map fun p=>(p,(1:Int))):=⟨by simpa using h,fun c hc=>by
 obtain ⟨p,_,rfl⟩:=zL.1 hc;dsimp only;omega⟩
def xuI (ps:List Per) (h:ps.length<=262144):∃ S,xdR (ps.map encP)=some (S.map encP)/\StepI (fun t=>((ps.countP (hasP · t):Nat):Int)) 1099511627776 S/\S.length<=2*ps.length+1:=by
 obtain ⟨S,h1,h2,h3⟩:=xij _ (xuh h);refine ⟨S,by rw [xzb ps (by omega),h1],?_,by simpa using h3⟩
 rwa [show sumC (ps.map fun p=>(p,(1:Int)))=fun t=>((ps.countP (hasP · t):Nat):Int) from funext fun t=>xuA ps t] at h2
open Go.Sort
def xEo (E:List Per):(E.map encP).all isP=true/\∃ P:List Per,srtP (E.map encP)=P.map encP/\P.Perm E/\Sorted cmpP P:=by
 have e1:(E.map encP).map decP=E:=by
  rw [List.map_map];conv=>rhs;rw [<-List.map_id E]
  rfl
 refine ⟨?_,pdqL cmpP E,?_,(xl1 cmpP swoP E).1,(xrj cmpP swoP E).imp fun {x y} h=>?_⟩
 . rw [zJ];intro x hx;obtain ⟨e,he,rfl⟩:=zL.1 hx;rfl
 . unfold srtP;rw [e1];rfl
 . have:=xp4 x y;omega
def xvP (S:List Per) (hS:S.length<=524289) (hN:∀ s,s∈S->0<=s.2/\s.2<=1048576):∀ (d k:Nat) (D ox:List Per),k+d=S.length->StOk D->(xHq D).length<=1048576->ox.length<=k*1048576 ->
  ∃ q O:List Per,Iter (xcp (S.map encP) ((S.length:Nat):Int)) ((k:Int),ox.length,D.length,((xHq D).length:Int),ox.map encP,D.map encP)=some (O.length,((xHq q).length:Int),q.length,O.map encP,q.map encP) /\
   StOk q/\(xHq q,O)=(S.drop k).foldl (fun x s=>setF x (s.1,s.2.toNat)) (xHq D,ox)/\(xHq q).length<=1048576/\O.length<=S.length*1048576
 | 0,k,D,ox,h,h1,h2,h3=>by
  obtain rfl:k=S.length:=by omega
  refine ⟨D,ox,xah ?_,h1,by rw [zr (zd _)];rfl,h2,h3⟩
  simp only [xcp,xgs,zz,zn,xad,sUF]
 | d+1,k,D,ox,h,h1,h2,h3=>by
  have hk:k<S.length:=by omega
  obtain ⟨n1,n2⟩:=hN _ (zp hk);obtain ⟨m,hm⟩:∃ m:Nat,S[k].2=(m:Int):=⟨S[k].2.toNat,by omega⟩
  obtain ⟨J,e,a1,a2⟩:=xyL S[k].1 m (xHq D).length D ox h1 rfl (by omega) h2 (by omega)
  have Q:(xHq J).length=m:=by rw [a2,z8,zu,List.length_replicate];omega
  obtain ⟨q,O,e',b1,b2,b3,b4⟩:=xvP S hS hN d (k+1) J (ox++(((xHq D).drop m).reverse.map fun f=>(f,S[k].1))) (by omega) a1 (by omega) (by
   rw [z8,za,List.length_reverse,y7];omega)
  refine ⟨q,O,(xaq ?_).trans e',b1,?_,b3,b4⟩
  . have i1:(k:Int)<(S.length:Int):=by omega
    have gf:(S.map encP).getD k .top=encP S[k]:=xac _ _ _ hk;have i2:¬ (0:Int)>(m:Int):=by omega
    have i3:¬ (1048576:Int)<(m:Int):=by omega
    have tk:List.take J.length (J.map encP)=J.map encP:=zj (by simp)
    rw [Q];simp only [xcp,xgs,xb9,xit,xiu,sBU,hk,i1,gf,cP0,cP1,lP,sP,sP0,sP1,hm,i2,i3,if_false,e,tk,xHp (n:=k) (by omega)]
  . rw [b2,xed hk,List.foldl_cons];congr 1;rw [hm,zO,a2];rfl
def xt7 {N:Int->Nat} {H:Nat} (hb:H<=1048576) (hH:∀ t,N t<=H) (h0:∀ t,t<0\/1099511627776<=t->N t=0) {S:List Per} (hS:StepI (fun t=>(N t:Int)) 1099511627776 S) (hl:S.length<=524289):∃ P,xas (S.map encP)=some (P.map encP)/\IsLevs N P:=by
 obtain ⟨q,ox,e,a1,a2,a3,a4⟩:=xvP S hl (fun s hs=>by
  obtain ⟨_,_,m3,_⟩:=(hS.mem s).1 hs;have:=hH s.1;omega) S.length 0 [] [] (by omega) (fun s hs=>by simp at hs) (by simp [xHq]) (by simp)
 obtain ⟨D,e2,c1,c2⟩:=xyL 1099511627776 0 (xHq q).length q ox a1 rfl (by omega) a3 (by omega)
 obtain ⟨s1,P,s2,s3,s4⟩:=xEo (ox++(((xHq q).drop 0).reverse.map fun f=>(f,(1099511627776:Int))))
 have m1:(ox++(((xHq q).drop 0).reverse.map fun f=>(f,(1099511627776:Int)))).length<4611686018427387904:=by
  rw [z8,za,List.length_reverse,y7];omega
 refine ⟨P,?_,xCl hH h0 hS ?_ s4⟩
 . have pl:=s3.length_eq;have e:Iter (xcp (S.map encP) ((S.length:Nat):Int)) ((0:Int),(0:Nat),(0:Nat),(0:Int),[],[])=_:=e;have e2:set2 1099511627776 0 ((xHq q).length:Int) q.length ox.length (q.map encP) (ox.map encP)=_:=e2;generalize (ox++(((xHq q).drop 0).reverse.map fun f=>(f,(1099511627776:Int))))=O at s1 s2 e2 pl m1
   have bq:O.length.beq O.length=true:=by simp
   have m2:O.length<=P.length:=by omega
   have tt:List.take O.length (P.map encP)=P.map encP:=zj (by rw [za];omega)
   unfold xas xlB;simp only [xbW,xk5,xeM,xk6,za,e,zl,zi,xaa,e2,bq,m1,s1,s2,zo,zT,zI,m2,zt,tt,sUF]
 . have a2:(xHq q,ox)=S.foldl (fun x s=>setF x (s.1,s.2.toNat)) ([],[]):=a2
   rw [<-a2];exact s3
def xrE (ps:List Per) (t:Int) (ht:t<0\/1099511627776<=t):ps.countP (hasP · t)=0:=by
 rw [List.countP_eq_zero];intro p hp h;obtain ⟨h1,h2,h3⟩:=xcw.1 h;have:=xb5.1 h1;omega
def xDv (ps:List Per) (hv:∀ p,p∈ps->pv p=true) (hl:ps.length<=262144):∃ P,xeO (ps.map encP)=some (P.map encP)/\IsLevs (fun t=>ps.countP (hasP · t)) P:=by
 unfold xeO xkc;by_cases h1:ps.length=1
 . obtain ⟨p,rfl⟩:=List.length_eq_one_iff.1 h1;refine ⟨[p],rfl,List.pairwise_singleton _ _,fun k=>if k=0 then [p] else [],1,fun t=>?_,fun k=>?_,?_⟩
   . have:=List.countP_le_length (p:=(hasP · t)) (l:=[p]);simpa using this
   . by_cases hk:k=0
     . subst hk;refine ⟨⟨fun q hq=>by simp at hq;subst hq;exact hv _ (by simp),List.pairwise_singleton _ _⟩,fun t=>?_⟩
       simp [inL];cases hasP p t<;>simp
     . refine ⟨by simp [hk,xmI],fun t=>?_⟩
       simp only [hk,if_false,xiC];have:=List.countP_le_length (p:=(hasP · t)) (l:=[p]);simp at this |-;omega
   . simp
 . obtain ⟨S,e1,e2,e3⟩:=xuI ps hl;obtain ⟨P,e4,e5⟩:=xt7 (N:=fun t=>ps.countP (hasP · t)) (H:=ps.length) (by omega) (fun t=>List.countP_le_length) (xrE ps) e2 (by omega)
   refine ⟨P,?_,e5⟩;have i1:((ps.length:Int)==1)=false:=by simp;omega
   simp only [za,i1,xad,e1,e4,zl,zi,xaa,sUF]
def mk (r:Row) (P:List Per):List Fc:=P.map fun p=>⟨r,p⟩
def xvy (L:Row->List Per):∀ S:List Grp,(S.flatMap fun g=>mk g.1 (L g.1))=xHn (S.map (·.1)) L
 | []=>rfl
 | g::S=>by rw [zS,xvy L S];rfl
def xAl (O:List AV) (J q:Int) (row:Row) (hr:row.length<=1048576) (g1:List AV) (P:List Per) (D:List Fc) (hb:D.length+P.length<=2199023255552) (hP:P.length<=1099511627776) :
  Iter (xbv O J q (P.map encP) ((P.length:Nat):Int)) (D.length,(0:Int),D.map encF,row.map encV,g1)=some ((D++mk row P).length,(D++mk row P).map encF):=by
 have key:=xrL (step:=xbv O J q (P.map encP) ((P.length:Nat):Int)) (fun k=>(((D++mk row (P.take k)).length,((k:Nat):Int),(D++mk row (P.take k)).map encF,row.map encV,g1):Nat×Int×List AV×List AV×List AV)) P.length
  ((D++mk row P).length,(D++mk row P).map encF) (fun k hk=>by
  have i1:(k:Int)<(P.length:Int):=by omega
  have gf:(P.map encP).getD k .top=encP P[k]:=xac _ _ _ hk;have dl:(D++mk row (P.take k)).length=D.length+k:=by unfold mk;rw [z8,za,zu];omega
  have m1:(D.length+k+1)*40<=140737488355328:=by omega
  have m2:D.length+k+1<=4611686018427387904:=by omega
  have m3:row.length*32<=140737488355328:=by omega
  have m4:row.length<=4611686018427387904:=by omega
  have tk:List.take row.length (row.map encV)=row.map encV:=zj (by simp)
  have Q:mk row (P.take (k+1))=mk row (P.take k)++[⟨row,P[k]⟩]:=by unfold mk;rw [List.take_add_one,zf hk,zy];rfl
  rw [Q,<-zx];simp only [xbv,xeA,sBU,hk,i1,gf,cP0,cP1,lP,sP,sP0,sP1,dl,m1,m2,m3,m4,zd,tk,zt,xHp (n:=k) (by omega)]
  rw [z8,dl];simp [encF]) (by
  simp only [xbv,xeA,zz,zn,xad,ya,sUF]) P.length 0 (by omega)
 have e0:D++mk row (P.take 0)=D:=by simp [mk]
 rw [e0] at key;exact key
def Bld (l:List Fc):Prop:=Keyed l/\l.length<=1024/\R20 l
def cGs (g:Grp):((encG g).cells.getD 1 .top).toList=g.2.map encP:=rfl
def lG (g:Grp):((encG g).cells.length==2)=true:=rfl
def sG (g:Grp):xId [Sh.list 3,Sh.list 2] (encG g).cells 0=true:=rfl
def xAm {f:List AV->Option (List AV)} {step:List AV->Int->Nat×Int×List AV->Option ((Nat×Int×List AV)⊕(Nat×List AV))} (q:step=xbx/\f=xeO) (S:List Grp) (hS:S.length<=1024) (hr:∀ g,g∈S->g.1.length<=1048576) (L:Row->List Per) (hL:∀ g,g∈S->f (g.2.map encP)=some ((L g.1).map encP)/\(L g.1).length<=1048576) :
  Iter (step (S.map encG) ((S.length:Nat):Int)) ((0:Nat),(0:Int),[])=some ((xHn (S.map (·.1)) L).length,(xHn (S.map (·.1)) L).map encF):=by
 rw [<-xvy];refine xg2 S (fun g=>mk g.1 (L g.1)) encF 1048576 (fun g hg=>by unfold mk;rw [za];exact (hL g hg).2) (fun n h D hD=>?_) (fun D=>?_)
 . have i1:(n:Int)<(S.length:Int):=by omega
   have gf:(S.map encG).getD n .top=encG S[n]:=xac _ _ _ h;obtain ⟨e1,e2⟩:=hL _ (zp h);have J:=hr _ (zp h);obtain ⟨rfl,rfl⟩:=q
   . have el:=xAl (S.map encG) (S.length:Int) (n:Int) S[n].1 J (S[n].2.map encP) (L S[n].1) D (by omega) (by omega)
     simp only [xbx,xez,xd8,sBU,h,i1,gf,cG0,cGs,lG,sG,e1,el,xHp (n:=n) (by omega)]
 . obtain ⟨rfl,rfl⟩:=q
   . simp only [xbx,xez,zz,zn,xad,sUF]
def xtN {R:List Row} {Q:Row->List Per->Prop} (h:∀ r,r∈R->∃ P,Q r P):∃ L:Row->List Per,∀ r,r∈R->Q r (L r):=by
 refine ⟨fun r=>if hr:r∈R then Classical.choose (h r hr) else [],fun r hr=>?_⟩
 show Q r (if hr:r∈R then Classical.choose (h r hr) else [])
 rw [dif_pos hr];exact Classical.choose_spec (h r hr)
def xFx (l:List Fc) (r:Row):(fun t=>(psOf l r).countP (hasP · t))=cnt l r:=funext fun t=>xsL l r t
def xlT (l:List Fc) (h:Bld l):∃ B,xak (l.map encF)=some (B.map encF)/\xHu l B:=by
 obtain ⟨S,e1,hR,D,J⟩:=xEb l h.1 h.2.2;have hl:=h.2.1;obtain ⟨L,hL⟩:=xtN (R:=S.map (·.1)) (Q:=fun r P=>xeO ((psOf l r).map encP)=some (P.map encP)/\IsLevs (cnt l r) P/\P.length<=1048576) fun r hr=>by
  have q:=xA9 l r;obtain ⟨P,a1,a2⟩:=xDv (psOf l r) xCz (by omega)
  have a3:=a2.len;rw [xFx] at a2;refine ⟨P,a1,a2,Nat.le_trans a3 (Nat.mul_le_mul (Nat.le_trans q hl) (Nat.le_trans q hl))⟩
 have hk:∀ g,g∈S->g.1∈S.map (·.1):=fun g hg=>zL.2 ⟨g,hg,rfl⟩
 have eb:=xAm (⟨rfl,rfl⟩) S (by omega) (fun g hg=>by
  obtain ⟨f,hf,e,_⟩:=(hR.2 g.1).1 (hk g hg);rw [<-e];exact h.1.1.2 f hf) L (fun g hg=>by
  rw [D g hg];exact ⟨(hL _ (hk g hg)).1,(hL _ (hk g hg)).2.2⟩)
 refine ⟨xHn (S.map (·.1)) L,?_,S.map (·.1),L,hR,fun r hr=>(hL r hr).2.1,rfl⟩
 have tt:∀ F:List Fc,List.take F.length (F.map encF)=F.map encF:=fun F=>zj (by simp)
 unfold xak xlm xjG xhZ xdL xhD;simp only [e1,zl,zi,xaa,za,eb,zI,zd,zo,zT,zt,tt,sUF]
end Go.Sim.M
namespace Go.Sim.M
open Go.RowKit Go.Sim.Srt
def xAx {r:Row} (h:∀ v,v∈r->v.wf/\v.t.length<=1073741824) (hl:r.length<=60):(keyOf r).length<=17592186044416:=by
 have:=xib (g:=keyV) (c:=1073741890) r fun v hv=>by
  obtain ⟨h1,h2⟩:=h v hv;have:=xvO h1 (by omega);omega
 unfold keyOf;have h2:1073741890*r.length<=1073741890*60:=Nat.mul_le_mul_left _ hl;omega
def xHu.all {l B:List Fc} (h:xHu l B) {Q:Row->Prop} (hq:∀ f,f∈l->Q f.r):∀ f,f∈B->Q f.r:=fun f hf=>by
 obtain ⟨_,g,hg,e⟩:=h.valid hf;rw [<-e];exact hq g hg
def xHC.all {l B:List Fc} (h:xHC l B) {Q:Row->Prop} (hq:∀ f,f∈l->Q f.r):∀ f,f∈B->Q f.r:=fun f hf=>by
 obtain ⟨R,L,h1,h2,rfl⟩:=h;obtain ⟨a,b⟩:=xnO hf;obtain ⟨g,g1,g2,_⟩:=(h1.2 _).1 a;rw [<-g2];exact hq g g1
def xHC.len {l B:List Fc} (h:xHC l B):B.length<=l.length*l.length:=by
 obtain ⟨R,L,h1,h2,rfl⟩:=h;refine xqg (h1.1.nodup xoV) fun r hr=>?_
 obtain ⟨a,b⟩:=h2 r hr;have:=xys (ps:=psOf l r) (k:=0) a fun t=>by rw [b,xsL]
 exact Nat.le_trans this (Nat.le_mul_self _)
def xCJ {B:List Fc} (h:B.length<=1048576) (hr:∀ f,f∈B->f.r.length<=60):xeF (B.map encF) (B.map encF)=some true:=by
 have:=xBh B B h (fun f hf=>by have:=hr f hf;unfold maxLen;omega)
 rwa [decide_eq_true rfl] at this
def StepI.at {N:Int->Int} {T:Int} {S:List Per} (h:StepI N T S) {i:Nat} (hi:i<S.length):∀ (d:Nat) (t:Int),t=S[i].1+d->t<T->(∀ j (hj:j<S.length),i<j->t<S[j].1)->N t=S[i].2
 | 0,t,ht,hT,_=>by
  have:=(h.mem S[i]).1 (zp hi);rw [ht,this.2.2.1];simp
 | d+1,t,ht,hT,hn=>by
  have ih:=h.at hi d (t - 1) (by omega) (by omega) (fun j hj q=>by have:=hn j hj q;omega)
  by_cases hc:N (t - 1)=N t
  . rw [<-hc,ih]
  . exfalso;have h0:=((h.mem S[i]).1 (zp hi)).1;have hm:(t,N t)∈S:=(h.mem (t,N t)).2 ⟨by simp only;omega,hT,rfl,.inr hc⟩
    obtain ⟨j,hj,D⟩:=List.getElem_of_mem hm;have e1:S[j].1=t:=by rw [D]
    have q:i<j:=by
     rcases zK i j with h'|h'
     . exact h'
     . exfalso;rcases zK j i with h2|h2
       . have:=zC.1 h.asc j i hj hi h2;omega
       . have:i=j:=by omega
         subst this;omega
    have:=hn j hj q;omega
def StepI.first {N:Int->Int} {S:List Per} (h:StepI N 1099511627776 S):∃ hp:0<S.length,S[0].1=0:=by
 have hm:((0:Int),N 0)∈S:=(h.mem (0,N 0)).2 ⟨by simp,by simp,rfl,.inl rfl⟩
 obtain ⟨j,hj,q⟩:=List.getElem_of_mem hm;have e1:S[j].1=0:=by rw [q]
 refine ⟨by omega,?_⟩
 have h0:=((h.mem S[0]).1 (zp (by omega))).1
 rcases Nat.eq_zero_or_pos j with rfl|hp
 . exact e1
 . have:=zC.1 h.asc 0 j (by omega) hj hp;omega
def nanC (y:Int):xfa y=false:=by unfold xfa;simp
def cmpC (x y:Int):decide (xcb x y<0)=decide (x<y)/\(xcb x y==0)=decide (x=y):=by
 unfold xcb;rw [nanC,nanC];simp only [xad,sUF];by_cases h1:x<y
 . have h2:¬ x=y:=by omega
   simp [h1,h2,xaa,sUF]
 . by_cases h3:x>y
   . have h2:¬ x=y:=by omega
     have h3':y<x:=h3;simp [h1,h2,h3',xaa,xad,sUF]
   . have h2:x=y:=by omega
     subst h2;simp [xaa,xad,sUF]
def gS {S:List Per} {k:Nat} (h:k<S.length):(S.map encP).getD k .top=encP S[k]:=xac _ _ _ h
def xBM (S:List Per) (x:Int) (hn:S.length<=1048576) (h:S.Pairwise fun a b=>a.1<b.1):∃ a:Nat,Iter (xaj (S.map encP) x ((S.length:Nat):Int)) ((0:Int),((S.length:Nat):Int))=some ((a:Nat):Int)/\a<=S.length/\(∀ k (hk:k<S.length),k<a->S[k].1<x)/\∀ k (hk:k<S.length),a<=k->x<=S[k].1:=by
 have J:=zC.1 h;obtain ⟨r,h1,a,rfl,h2,h3,h4⟩:=xrM (step:=xaj (S.map encP) x ((S.length:Nat):Int)) (fun s=>∃ a b:Nat,s=((a:Int),(b:Int))/\a<=b/\b<=S.length/\(∀ k (hk:k<S.length),k<a->S[k].1<x)/\∀ k (hk:k<S.length),b<=k->x<=S[k].1) (fun s=>(s.2 - s.1).toNat)
  (fun r=>∃ a:Nat,r=(a:Int)/\a<=S.length/\(∀ k (hk:k<S.length),k<a->S[k].1<x)/\∀ k (hk:k<S.length),a<=k->x<=S[k].1) (fun s hs=>by
   obtain ⟨a,b,rfl,Z,hb,Q,O⟩:=hs;by_cases Y:a<b
   . left;have e:=xH2 (i:=a) (j:=b) (by omega)
     have hm:(a+b) / 2<S.length:=by omega
     have g1:(a:Int)<(b:Int):=by omega
     have g2:(((a+b) / 2:Nat):Int)<(S.length:Int):=by omega
     have w:IntKind.i64.wrap ((((a+b) / 2:Nat):Int)+1)=(((a+b) / 2+1:Nat):Int):=xHp (by omega)
     have D:=(cmpC S[(a+b) / 2].1 x).1;cases hc:decide (S[(a+b) / 2].1<x) with
     | true =>
      rw [hc] at D;refine ⟨((((a+b) / 2+1:Nat):Int),(b:Int)),?_,⟨(a+b) / 2+1,b,rfl,by omega,hb,fun k hk W=>?_,O⟩,by dsimp only;omega⟩
      . simp only [xaj,xa4,xaY,xav,xgh,e,sBU,g1,g2,hm,gS hm,cP0,cP1,lP,sP,sP0,sP1,D,w]
      . have hc':=of_decide_eq_true hc;rcases zK k ((a+b) / 2) with q|q
        . have:=J k _ hk hm q;omega
        . have:k=(a+b) / 2:=by omega
          subst this;exact hc'
     | false =>
      rw [hc] at D;refine ⟨((a:Int),(((a+b) / 2:Nat):Int)),?_,⟨a,(a+b) / 2,rfl,by omega,by omega,Q,fun k hk V=>?_⟩,by dsimp only;omega⟩
      . simp only [xaj,xa4,xaY,xav,xgh,e,sBU,g1,g2,hm,gS hm,cP0,cP1,lP,sP,sP0,sP1,D,w]
      . have hc':=of_decide_eq_false hc;rcases zK ((a+b) / 2) k with q|q
        . have:=J _ k hm hk q;omega
        . have:k=(a+b) / 2:=by omega
          subst this;omega
   . right;obtain rfl:a=b:=by omega
     refine ⟨(a:Int),?_,a,rfl,hb,Q,O⟩;simp only [xaj,xa4,zz,zn,xad,sUF]) ((0:Int),((S.length:Nat):Int)) ⟨0,S.length,rfl,by omega,by omega,fun k hk W=>by omega,fun k hk V=>by omega⟩
 exact ⟨a,h1,h2,h3,h4⟩
def xC7 {N:Int->Int} {S:List Per} (h:StepI N 1099511627776 S) (hl:S.length<=1048576) {t:Int} (h0:0<=t) (h1:t<1099511627776):xha (S.map encP) t=some (N t):=by
 obtain ⟨a,e1,ha,Q,W⟩:=xBM S t hl h.asc;obtain ⟨hp,V⟩:=h.first
 have O:=zC.1 h.asc;have key:∃ i:Nat,∃ hi:i<S.length,xdy (S.map encP) t=some (i:Int)/\S[i].1<=t/\∀ j (hj:j<S.length),i<j->t<S[j].1:=by
  unfold xdy xk7;unfold xbK xdj;simp only [xbj,xay,za,e1,zl,zi,xaa,zO,sUF];rcases zK a S.length with q|ab
  . have g1:(a:Int)<(S.length:Int):=by omega
    have D:=(cmpC S[a].1 t).2;by_cases he:S[a].1=t
    . rw [decide_eq_true he] at D;refine ⟨a,q,?_,by omega,fun j hj J=>by have:=O a j q hj J;omega⟩
      simp only [g1,q,gS q,sBU,cP0,cP1,lP,sP,sP0,sP1,xgh,D]
    . rw [decide_eq_false he] at D;have Z:=W a q (zd a);have aa:0<a:=by
       rcases Nat.eq_zero_or_pos a with rfl|h'
       . omega
       . exact h'
      obtain ⟨m,rfl⟩:∃ m,a=m+1:=⟨a - 1,by omega⟩
      refine ⟨m,by omega,?_,by have:=Q m (by omega) (by omega);omega,fun j hj J=>?_⟩
      . have w:IntKind.i64.wrap (((m+1:Nat):Int) - 1)=(m:Int):=by rw [xaK (by omega) (by omega)];omega
        simp only [g1,q,gS q,sBU,cP0,cP1,lP,sP,sP0,sP1,xgh,D,w]
      . rcases zK (m+1) j with h'|h'
        . have:=O (m+1) j q hj h';omega
        . have:j=m+1:=by omega
          subst this;omega
  . have g1:¬ (a:Int)<(S.length:Int):=by omega
    obtain ⟨m,rfl⟩:∃ m,a=m+1:=⟨a - 1,by omega⟩
    refine ⟨m,by omega,?_,by have:=Q m (by omega) (by omega);omega,fun j hj J=>by omega⟩
    have w:IntKind.i64.wrap (((m+1:Nat):Int) - 1)=(m:Int):=by rw [xaK (by omega) (by omega)];omega
    simp only [g1,zn,xad,zl,zi,xaa,w,sUF]
 obtain ⟨i,hi,e2,ac,Y⟩:=key;have hv:N t=S[i].2:=h.at hi (t - S[i].1).toNat t (by omega) h1 Y
 have g0:¬ t<0:=by omega
 have g1:¬ t>=1099511627776:=by omega
 have g2:¬ ((i:Nat):Int)<0:=by omega
 have g3:(i:Int)<(S.length:Int):=by omega
 unfold xha xmO;simp only [g0,g1,g2,g3,e2,gS hi,hi,sBU,cP0,cP1,lP,sP,sP0,sP1,hv]
def xHv (D:List Int) (n:Int):List Int:=match D.getLast? with
 | some d=>if d=n then D else D++[n]
 | none=>D++[n]
theorem xqr (n:Int):xHv [] n=[n]:=rfl
theorem xo9 (D:List Int) (d n:Int):xHv (D++[d]) n=if d=n then D++[d] else D++[d]++[n]:=by simp [xHv]
theorem xup (D:List Int) (n:Int):(xHv D n).length<=D.length+1:=by
 unfold xHv;split
 . split<;>simp
 . simp
theorem xnX {D:List Int} {n x:Int}:x∈xHv D n↔x∈D\/x=n:=by
 rcases List.eq_nil_or_concat D with rfl|⟨D',d,rfl⟩
 . simp [xqr]
 . rw [List.concat_eq_append,xo9];split
   . rename_i h;subst h;simp
   . simp [or_assoc]
theorem xuo {D:List Int} {n:Int} (h:Asc D) (hn:∀ x,x∈D->x<=n):Asc (xHv D n):=by
 rcases List.eq_nil_or_concat D with rfl|⟨D',d,rfl⟩
 . simp [xqr]
 . rw [List.concat_eq_append] at h hn |-;rw [xo9];split
   . exact h
   . rename_i hne;refine List.pairwise_append.2 ⟨h,by simp,fun x hx y hy=>?_⟩
     simp only [zw] at hy;subst hy;have hd:=hn d (by simp)
     rcases zH.1 hx with hx|hx
     . have:=(List.pairwise_append.1 h).2.2 x hx d (by simp)
       omega
     . simp only [zw] at hx;subst hx;omega
theorem gD {D:List Int} {d:Int}:((D++[d]).map encN).getD D.length .top=encN d:=by simp [z7]
theorem xyD {T:Type} {δ:T} (κ:Nat->List AV->T) (D:List Int) (hD:D.length<=1099511627776) (n:Int) :
  br ((↑D.length:Int)==(0:Int)) (br (D.length==(D.map encN).length&&(decide ((D.length+(1:Nat))*(8:Nat)<=(140737488355328:Nat))&&decide (D.length+(1:Nat)<=(4611686018427387904:Nat)))) (κ (D.length+1) (D.map encN++[AV.int IntKind.i64 n])) δ)
   (br (decide ((0:Int)<=IntKind.i64.wrap ((↑D.length:Int) - (1:Int)))&&decide (IntKind.i64.wrap ((↑D.length:Int) - (1:Int))<(↑D.length:Int))) (br (decide ((0:Nat)+(IntKind.i64.wrap ((↑D.length:Int) - (1:Int))).toNat<(D.map encN).length)&&xH6 (Sh.int IntKind.i64) (((D.map encN).getD ((0:Nat)+(IntKind.i64.wrap ((↑D.length:Int) - (1:Int))).toNat) AV.top).cells.getD (0:Nat) AV.top))
    (br ((((D.map encN).getD ((0:Nat)+(IntKind.i64.wrap ((↑D.length:Int) - (1:Int))).toNat) AV.top).cells.getD (0:Nat) AV.top).toInt != n) (br (D.length==(D.map encN).length&&(decide ((D.length+(1:Nat))*(8:Nat)<=(140737488355328:Nat))&&decide (D.length+(1:Nat)<=(4611686018427387904:Nat)))) (κ (D.length+1) (D.map encN++[AV.int IntKind.i64 n])) δ) (κ D.length (D.map encN))) δ) δ)=κ (xHv D n).length ((xHv D n).map encN):=by
 have c1:(D.length==(D.map encN).length&&(decide ((D.length+(1:Nat))*(8:Nat)<=(140737488355328:Nat))&&decide (D.length+(1:Nat)<=(4611686018427387904:Nat))))=true:=by
  simp only [za,beq_self_eq_true,Bool.true_and,zg,zm];omega
 rw [c1];rcases List.eq_nil_or_concat D with rfl|⟨D',d,rfl⟩
 . simp [xaa,xqr,encN,sUF]
 . rw [List.concat_eq_append] at hD |-;have hl:(D'++[d]).length=D'.length+1:=by simp
   have w:IntKind.i64.wrap (((D'.length+1:Nat):Int) - 1)=(D'.length:Int):=by rw [xaK (by omega) (by omega)];omega
   have h0:(((D'.length+1:Nat):Int)==0)=false:=by simp;omega
   have g1:(D'.length:Int)<((D'.length+1:Nat):Int):=by omega
   have hs:xH6 (Sh.int IntKind.i64) ((encN d).cells.getD 0 .top)=true:=rfl;have hi:((encN d).cells.getD 0 .top).toInt=d:=rfl;rw [xo9,hl,h0,w];simp only [zO,zI,gD,hs,hi,g1,za,hl,Int.natCast_nonneg,zo,zT,Bool.true_and,xad,xaa,Nat.lt_succ_self,sUF];by_cases hd:d=n
   . subst hd;simp [xad,sUF]
   . have:(d != n)=true:=by simpa using hd
     rw [this,if_neg hd];simp [xaa,encN,sUF]
section
variable {S T : List Per} {i k : Nat}
theorem mv7 (h:i<S.length):xgw (S.map encP) (i:Int)=true:=by
 unfold xgw;have:(i:Int)<(S.length:Int):=by omega
 simp [this,xaa,sUF]
theorem mv6 (h:i<S.length):xgv (S.map encP) (i:Int)=true:=by
 unfold xgv;have:(i:Int)<(S.length:Int):=by omega
 simp [this,xaa,sUF]
theorem mv3 (h:i<S.length):xgu (S.map encP) (i:Int)=true:=by
 unfold xgu;simp only [gS h,h,sBU,cP0,cP1,lP,sP,sP0,sP1]
theorem mv2 (h:i<S.length):xgt (S.map encP) (i:Int)=true:=by
 unfold xgt;simp only [gS h,h,sBU,cP0,cP1,lP,sP,sP0,sP1]
theorem mv11 (h:i<S.length):xev (S.map encP) (i:Int)=S[i].1:=by
 unfold xev xk8;simp only [gS h,sBU,cP0,cP1,lP,sP,sP0,sP1]
theorem mv10 (h:i<S.length):xeu (S.map encP) (i:Int)=S[i].1:=by
 unfold xeu xk8;simp only [gS h,sBU,cP0,cP1,lP,sP,sP0,sP1]
theorem xF3 (hi:i<S.length) (hS:S.length<=1048576) (D:List Int) (hD:D.length<=1099511627776) (hk:k<=T.length) (h:∀ hk:k<T.length,S[i].1<=T[k].1) :
  xa9 (S.map encP) (T.map encP) (D.length,(i:Int),(k:Int),D.map encN)=some (.inl ((xHv D S[i].1).length,((i+1:Nat):Int),(k:Int),(xHv D S[i].1).map encN)):=by
 have hw:IntKind.i64.wrap ((i:Int)+1)=((i+1:Nat):Int):=xHp (by omega)
 have hb:=xyD (T:=Option ((Nat×Int×Int×List AV)⊕(Nat×List AV))) (δ:=none) (fun m out=>some (.inl (m,((i+1:Nat):Int),(k:Int),out))) D hD S[i].1
 have c1:decide ((i:Int)<((S.map encP).length:Int))=true:=by simp;omega
 unfold xa9 xfA xep xeq xer xes xet;dsimp only;rw [c1];simp only [xaa,sUF];rcases zK k T.length with q|J
 . have c2:((k:Int)==((T.map encP).length:Int))=false:=by simp;omega
   have c8:xeX (S.map encP) (T.map encP) (i:Int) (k:Int)=true:=by
    unfold xeX;rw [mv11 hi,mv10 q];exact decide_eq_true (h q)
   rw [c2];simp only [xaa,xad,sUF];rw [mv7 hi,mv3 hi,mv6 q,mv2 q,c8];simp only [xaa,sUF];unfold xi4;rw [mv11 hi,hw];exact hb
 . have c2:((k:Int)==((T.map encP).length:Int))=true:=by simp;omega
   rw [c2];simp only [xaa,sUF];rw [mv7 hi,mv3 hi];simp only [xaa,sUF];unfold xi4;rw [mv11 hi,hw];exact hb
theorem xF4 (hk:k<T.length) (hT:T.length<=1048576) (D:List Int) (hD:D.length<=1099511627776) (hi:i<=S.length) (h:∀ hi:i<S.length,T[k].1<S[i].1) :
  xa9 (S.map encP) (T.map encP) (D.length,(i:Int),(k:Int),D.map encN)=some (.inl ((xHv D T[k].1).length,(i:Int),((k+1:Nat):Int),(xHv D T[k].1).map encN)):=by
 have hw:IntKind.i64.wrap ((k:Int)+1)=((k+1:Nat):Int):=xHp (by omega)
 have hb:=xyD (T:=Option ((Nat×Int×Int×List AV)⊕(Nat×List AV))) (δ:=none) (fun m out=>some (.inl (m,(i:Int),((k+1:Nat):Int),out))) D hD T[k].1
 have c2:((k:Int)==((T.map encP).length:Int))=false:=by simp;omega
 have c3:decide ((k:Int)<((T.map encP).length:Int))=true:=by simp;omega
 unfold xa9 xfA xep xeq xer xes xet;dsimp only;rcases zK i S.length with q|J
 . have c1:decide ((i:Int)<((S.map encP).length:Int))=true:=by simp;omega
   have c8:xeX (S.map encP) (T.map encP) (i:Int) (k:Int)=false:=by
    unfold xeX;rw [mv11 q,mv10 hk];exact decide_eq_false (by have:=h q;omega)
   rw [c1,c2];simp only [xaa,xad,sUF];rw [mv7 q,mv3 q,mv6 hk,mv2 hk,c8];simp only [xaa,xad,sUF];unfold xi5;rw [mv10 hk,hw];exact hb
 . have c1:decide ((i:Int)<((S.map encP).length:Int))=false:=by simp;omega
   rw [c1];simp only [xad,sUF];rw [c3];simp only [xaa,sUF]
   try rw [c2]
   try simp only [xaa,xad,sUF]
   try rw [c1]
   try simp only [xaa,xad,sUF]
   rw [mv6 hk,mv2 hk];simp only [xaa,sUF];unfold xi5;rw [mv10 hk,hw];exact hb
theorem xCU (D:List Int):xa9 (S.map encP) (T.map encP) (D.length,(S.length:Int),(T.length:Int),D.map encN)=some (.inr (D.length,D.map encN)):=by
 have c1:decide ((S.length:Int)<((S.map encP).length:Int))=false:=by simp
 have c3:decide ((T.length:Int)<((T.map encP).length:Int))=false:=by simp
 unfold xa9 xfA xep xeq xer xes xet;dsimp only;rw [c1];simp only [xad,sUF];rw [c3];simp only [xad,sUF]
end
theorem xCo (S T:List Per) (hS:S.length<=1048576) (hT:T.length<=1048576) (aS:S.Pairwise fun a b=>a.1<b.1) (aT:T.Pairwise fun a b=>a.1<b.1) :
  ∃ D:List Int,xhA (S.map encP) (T.map encP)=some (D.map encN)/\Asc D/\(∀ x,x∈D↔(∃ s,s∈S/\s.1=x)\/∃ s,s∈T/\s.1=x)/\D.length<=S.length+T.length:=by
 have pS:=zC.1 aS;have pT:=zC.1 aT;obtain ⟨r,h1,D,rfl,h2,h3,h4⟩:=xrM (step:=xa9 (S.map encP) (T.map encP)) (fun s=>∃ (i k:Nat) (D:List Int),s=(D.length,(i:Int),(k:Int),D.map encN)/\i<=S.length/\k<=T.length/\Asc D/\(∀ x,x∈D↔(∃ j,∃ hj:j<S.length,j<i/\S[j].1=x)\/∃ j,∃ hj:j<T.length,j<k/\T[j].1=x)/\(∀ x,x∈D->(∀ h:i<S.length,x<=S[i].1)/\∀ h:k<T.length,x<=T[k].1)/\D.length<=i+k) (fun s=>((S.length:Int) - s.2.1+((T.length:Int) - s.2.2.1)).toNat)
  (fun r=>∃ D:List Int,r=(D.length,D.map encN)/\Asc D/\(∀ x,x∈D↔(∃ s,s∈S/\s.1=x)\/∃ s,s∈T/\s.1=x)/\D.length<=S.length+T.length) (fun s hs=>by
   obtain ⟨i,k,D,rfl,hi,hk,hA,hm,Q,hl⟩:=hs;by_cases V:∃ h:i<S.length,∀ hk:k<T.length,S[i].1<=T[k].1
   . obtain ⟨O,q⟩:=V;left;refine ⟨_,xF3 O hS D (by omega) hk q,⟨i+1,k,xHv D S[i].1,rfl,O,hk,xuo hA fun x hx=>(Q x hx).1 O,fun x=>?_,fun x hx=>?_,by have:=xup D S[i].1;omega⟩,by dsimp only;omega⟩
     . rw [xnX,hm];constructor
       . rintro ((⟨j,hj,W,e⟩|h)|rfl)
         . exact .inl ⟨j,hj,by omega,e⟩
         . exact .inr h
         . exact .inl ⟨i,O,by omega,rfl⟩
       . rintro (⟨j,hj,W,e⟩|h)
         . rcases zK j i with h'|h'
           . exact .inl (.inl ⟨j,hj,h',e⟩)
           . have:j=i:=by omega
             subst this;exact .inr e.symm
         . exact .inl (.inr h)
     . have Y:x<=S[i].1:=by
        rcases xnX.1 hx with h|rfl
        . exact (Q x h).1 O
        . omega
       exact ⟨fun h=>by have:=pS i (i+1) O h (by omega);omega,fun h=>by have:=q h;omega⟩
   . by_cases J:k<T.length
     . left;have q:∀ hi:i<S.length,T[k].1<S[i].1:=fun h=>by
        rcases Int.lt_or_le T[k].1 S[i].1 with h'|h'
        . exact h'
        . exact absurd ⟨h,fun _=>h'⟩ V
       refine ⟨_,xF4 J hT D (by omega) hi q,⟨i,k+1,xHv D T[k].1,rfl,hi,J,xuo hA fun x hx=>(Q x hx).2 J,fun x=>?_,fun x hx=>?_,by have:=xup D T[k].1;omega⟩,by dsimp only;omega⟩
       . rw [xnX,hm];constructor
         . rintro ((h|⟨j,hj,W,e⟩)|rfl)
           . exact .inl h
           . exact .inr ⟨j,hj,by omega,e⟩
           . exact .inr ⟨k,J,by omega,rfl⟩
         . rintro (h|⟨j,hj,W,e⟩)
           . exact .inl (.inl h)
           . rcases zK j k with h'|h'
             . exact .inl (.inr ⟨j,hj,h',e⟩)
             . have:j=k:=by omega
               subst this;exact .inr e.symm
       . have Y:x<=T[k].1:=by
          rcases xnX.1 hx with h|rfl
          . exact (Q x h).2 J
          . omega
         exact ⟨fun h=>by have:=q h;omega,fun h=>by have:=pT k (k+1) J h (by omega);omega⟩
     . right;have aa:i=S.length:=by
        rcases zK i S.length with h'|h'
        . exact absurd ⟨h',fun h=>absurd h J⟩ V
        . omega
       have Z:k=T.length:=by omega
       subst aa Z;refine ⟨_,xCU D,D,rfl,hA,fun x=>?_,hl⟩
       rw [hm];constructor
       . rintro (⟨j,hj,_,e⟩|⟨j,hj,_,e⟩)
         . exact .inl ⟨S[j],zp hj,e⟩
         . exact .inr ⟨T[j],zp hj,e⟩
       . rintro (⟨s,hs,e⟩|⟨s,hs,e⟩)
         . obtain ⟨j,hj,rfl⟩:=List.getElem_of_mem hs;exact .inl ⟨j,hj,hj,e⟩
         . obtain ⟨j,hj,rfl⟩:=List.getElem_of_mem hs;exact .inr ⟨j,hj,hj,e⟩) ((0:Nat),(0:Int),(0:Int),[]) ⟨0,0,[],rfl,zR _,zR _,List.Pairwise.nil,fun x=>by simp,fun x hx=>by simp at hx,zd _⟩
 refine ⟨D,?_,h2,h3,h4⟩;unfold xhA xmm xfk;rw [h1];simp [xaa,zj,sUF]
def xHD (N:Int->Int) (S:List Per):Prop:=StepI N 1099511627776 S\/(S=[]/\∀ t,N t=0)
def xHD.asc {N:Int->Int} {S:List Per} (h:xHD N S):S.Pairwise fun a b=>a.1<b.1:=by
 rcases h with h|⟨rfl,_⟩
 . exact h.asc
 . exact List.Pairwise.nil
def xFb (t:Int) (h0:0<=t) (h1:t<1099511627776):xha [] t=some 0:=by
 have e1:Iter (xaj [] t (([]:List AV).length:Int)) ((0:Int),(([]:List AV).length:Int))=some 0:=xah (by
  simp [xaj,xa4,xad,sUF])
 have e2:xdy [] t=some (-1):=by
  unfold xdy xk7 xbK xdj;simp only [xbj,xay,e1,sUF];simp [xaa,xad,sUF];rw [xaK (by omega) (by omega)]
 have g0:¬ t<0:=by omega
 have g1:¬ t>=1099511627776:=by omega
 unfold xha xmO;simp [g0,g1,e2,xaa,xad,sUF]
def xHD.at {N:Int->Int} {S:List Per} (h:xHD N S) (hl:S.length<=1048576) {t:Int} (h0:0<=t) (h1:t<1099511627776):xha (S.map encP) t=some (N t):=by
 rcases h with h|⟨rfl,hz⟩
 . exact xC7 h hl h0 h1
 . rw [hz];exact xFb t h0 h1
def xHD.chg {N:Int->Int} {S:List Per} (h:xHD N S) {t:Int} (h0:0<t) (h1:t<1099511627776) (hc:N (t - 1)≠N t):∃ s,s∈S/\s.1=t:=by
 rcases h with h|⟨rfl,hz⟩
 . exact ⟨(t,N t),(h.mem (t,N t)).2 ⟨by simp only;omega,h1,rfl,.inr hc⟩,rfl⟩
 . rw [hz,hz] at hc;exact absurd rfl hc
def xHD.rng {N:Int->Int} {S:List Per} (h:xHD N S) {s:Per} (hs:s∈S):0<=s.1/\s.1<1099511627776:=by
 rcases h with h|⟨rfl,_⟩
 . have:=(h.mem s).1 hs;exact ⟨this.1,this.2.1⟩
 . simp at hs
def xvC {F:Int->Int}:∀ (D:List Int),Asc D->∀ (T:Int) (S:List Per),StepI F T S->(0<T->∀ x,x∈D->T<=x)->0<=T->(T=0->(∃ x,D.head?=some x/\x=0)\/D=[])->(∀ x,x∈D->x<1099511627776)->(∀ t,T<=t->0<t->t<1099511627776->F (t - 1)≠F t->t∈D)->(D=[]->0<T)->T<=1099511627776 ->
  StepI F 1099511627776 (D.foldl (fun S x=>putS S x (F x)) S)
 | [],_,T,S,hS,_,_,_,_,hch,hne,hT=>by
  have q:=hne rfl;simp only [List.foldl_nil];rcases Int.lt_or_le T 1099511627776 with Q|ab
  . have hc:∀ d:Nat,T+d<=1099511627776 - 1->F (T+d)=F (T - 1):=by
     intro d;induction d with
     | zero =>
      intro h;have h2:¬ F (T - 1)≠F T:=fun hx=>by have:=hch T (Int.le_refl T) q Q hx;simp at this
      simp only [ne_eq,Decidable.not_not] at h2;simp [h2]
     | succ d ih =>
      intro h;have ih:=ih (by omega)
      have h2:¬ F (T+(d+1:Nat) - 1)≠F (T+(d+1:Nat)):=fun hx=>by have:=hch (T+(d+1:Nat)) (by omega) (by omega) (by omega) hx;simp at this
      simp only [ne_eq,Decidable.not_not] at h2;rw [<-h2,show T+((d+1:Nat):Int) - 1=T+d by omega,ih]
    have hF:∀ t,T - 1<=t->t<1099511627776->F t=F (T - 1):=fun t h1 h2=>by
     rcases Int.lt_or_le t T with h3|h3
     . rw [show t=T - 1 by omega]
     . have:=hc (t - T).toNat (by omega)
       rw [show T+((t - T).toNat:Int)=t by omega] at this
       exact this
    refine ⟨hS.asc,fun s=>?_,fun _=>?_⟩
    . rw [hS.mem];constructor
      . rintro ⟨a,b,c,d⟩;exact ⟨a,by omega,c,d⟩
      . rintro ⟨a,b,c,d⟩;refine ⟨a,?_,c,d⟩;rcases Int.lt_or_le s.1 T with h3|h3
        . exact h3
        . exfalso;rcases d with d|d
          . omega
          . have e1:=hF s.1 (by omega) b
            have e2:=hF (s.1 - 1) (by omega) (by omega)
            rw [c,e1] at d;exact d e2
    . obtain ⟨S',f,hf⟩:=hS.last q;refine ⟨S',f,?_⟩;rw [hF (1099511627776 - 1) (by omega) (by omega)]
      exact hf
  . have:T=1099511627776:=by omega
    rw [this] at hS;exact hS
 | x::D,hA,T,S,hS,hle,h0,hz,hx,hch,hne,hT=>by
  rw [List.foldl_cons];have Z:0<=x:=by
   rcases Int.lt_or_le 0 T with h|h
   . have:=hle h x (by simp);omega
   . have q:T=0:=by omega
     rcases hz q with ⟨y,hy,rfl⟩|h'
     . simp at hy;omega
     . cases h'
  have ac:T<=x:=by
   rcases Int.lt_or_le 0 T with h|h
   . exact hle h x (by simp)
   . omega
  have Q:=hx x (by simp)
  have J:∀ t,T<=t->0<t->t<x->F (t - 1)=F t:=fun t h1 h2 h3=>by
   have h4:¬ F (t - 1)≠F t:=fun hc=>by
    have hm:=hch t h1 h2 (by omega) hc
    rcases zD.1 hm with rfl|hm
    . omega
    . have:=(zN.1 hA).1 t hm;omega
   simpa using h4
  have Y:StepI F x S\/(x=0/\T=0):=by
   rcases Int.lt_or_le 0 T with V|aa
   . left;have hF:∀ d:Nat,T+d<=x->F (T+d - 1)=F (T - 1):=by
      intro d;induction d with
      | zero=>intro _;simp
      | succ d ih =>
       intro h;have ih:=ih (by omega)
       have:=J (T+d) (by omega) (by omega) (by omega)
       rw [show T+((d+1:Nat):Int) - 1=T+d by omega,<-this,ih]
     have O:∀ t,T - 1<=t->t<x->F t=F (T - 1):=fun t h1 h2=>by
      have:=hF (t+1 - T).toNat (by omega)
      rw [show T+((t+1 - T).toNat:Int) - 1=t by omega] at this
      exact this
     refine ⟨hS.asc,fun s=>?_,fun _=>?_⟩
     . rw [hS.mem];constructor
       . rintro ⟨a,b,c,d⟩;exact ⟨a,by omega,c,d⟩
       . rintro ⟨a,b,c,d⟩;refine ⟨a,?_,c,d⟩;rcases Int.lt_or_le s.1 T with h3|h3
         . exact h3
         . exfalso;rcases d with d|d
           . omega
           . have e1:=O s.1 (by omega) b
             have e2:=O (s.1 - 1) (by omega) (by omega)
             rw [c,e1] at d;exact d e2
     . obtain ⟨S',f,hf⟩:=hS.last V;refine ⟨S',f,?_⟩;rw [O (x - 1) (by omega) (by omega)]
       exact hf
   . have q:T=0:=by omega
     rcases hz q with ⟨y,hy,rfl⟩|h'
     . simp at hy;exact .inr ⟨by omega,q⟩
     . cases h'
  have W:StepI F (x+1) (putS S x (F x)):=by
   rcases Y with h|⟨h,q⟩
   . exact h.put Z (by omega) fun t h1 h2=>by rw [show t=x by omega]
   . subst h;rw [q] at hS;exact hS.put (Int.le_refl 0) (by omega) fun t h1 h2=>by rw [show t=0 by omega]
  exact xvC D (zN.1 hA).2 (x+1) _ W (fun _ y hy=>by have:=(zN.1 hA).1 y hy;omega) (by omega) (fun h=>by omega) (fun y hy=>hx y (by simp [hy])) (fun t h1 h2 h3 hc=>by
   have hm:=hch t (by omega) h2 h3 hc
   rcases zD.1 hm with rfl|hm
   . omega
   . exact hm) (fun _=>by omega) (by omega)
def xp9 {F:Int->Int}:∀ (D:List Int) (S:List Per),(D.foldl (fun S x=>putS S x (F x)) S).length<=S.length+D.length
 | [],S=>by simp
 | x::D,S=>by
  rw [List.foldl_cons];have h1:=xp9 (F:=F) D (putS S x (F x));have h2:=xrY S x (F x);rw [zG];omega
def xA4 {N M:Int->Int} {S T:List Per} (hS:StepI N 1099511627776 S) (hT:xHD M T) (lS:S.length<=1048576) (lT:T.length<=1048576) {F:Int->Int} (hF:∀ t,F (t - 1)≠F t->N (t - 1)≠N t\/M (t - 1)≠M t) :
  ∃ D:List Int,xhA (S.map encP) (T.map encP)=some (D.map encN)/\D.length<=S.length+T.length/\(∀ x,x∈D->0<=x/\x<1099511627776)/\StepI F 1099511627776 (D.foldl (fun S x=>putS S x (F x)) []):=by
 obtain ⟨D,h1,h2,h3,h4⟩:=xCo S T lS lT hS.asc hT.asc;have hr:∀ x,x∈D->0<=x/\x<1099511627776:=fun x hx=>by
  rcases (h3 x).1 hx with ⟨s,hs,rfl⟩|⟨s,hs,rfl⟩
  . have:=(hS.mem s).1 hs;exact ⟨this.1,this.2.1⟩
  . exact hT.rng hs
 obtain ⟨hp,hf⟩:=hS.first
 have h0:(0:Int)∈D:=(h3 0).2 (.inl ⟨S[0],zp hp,hf⟩);refine ⟨D,h1,h4,hr,xvC D h2 0 [] (.nil F) (fun h=>by omega) (Int.le_refl 0) (fun _=>.inl ?_) (fun x hx=>(hr x hx).2) (fun t ht J q hc=>?_) (fun h=>by rw [h] at h0;simp at h0) (by omega)⟩
 . cases D with
   | nil=>simp at h0
   | cons x D =>
    refine ⟨x,rfl,?_⟩;rcases zD.1 h0 with h|h
    . exact h.symm
    . have:=(zN.1 h2).1 0 h;have:=(hr x (by simp)).1
      omega
 . rcases hF t hc with h|h
   . exact (h3 t).2 (.inl ⟨(t,N t),(hS.mem (t,N t)).2 ⟨by simp only;omega,q,rfl,.inr h⟩,rfl⟩)
   . obtain ⟨s,hs,e⟩:=hT.chg J q h;exact (h3 t).2 (.inr ⟨s,hs,e⟩)
def xyu {N M:Int->Int} {S T:List Per} (hS:StepI N 1099511627776 S) (hT:xHD M T) (lS:S.length<=1048576) (lT:T.length<=1048576) {F:Int->Int} (hF:∀ t,xk4 (N t) (M t)=F t) (D:List Int) (hD:∀ x,x∈D->0<=x/\x<1099511627776) (hl:D.length<=2097152):∀ (d k:Nat) (out:List Per),k+d=D.length->out.length<=k ->
  Iter (xbM (S.map encP) (T.map encP) (D.map encN) ((D.length:Nat):Int)) (out.length,(k:Int),out.map encP)=some (((D.drop k).foldl (fun S x=>putS S x (F x)) out).length,((D.drop k).foldl (fun S x=>putS S x (F x)) out).map encP)
 | 0,k,out,hk,ho=>by
  have:k=D.length:=by omega
  subst this;refine xah ?_;simp [xbM,xe7,xad,sUF]
 | d+1,k,out,hk,ho=>by
  have q:k<D.length:=by omega
  obtain ⟨h0,h1⟩:=hD D[k] (zp q);have a1:=xC7 hS lS h0 h1;have a2:=hT.at lT h0 h1;obtain ⟨p,p1,p2,p3⟩:=xyE out D[k] (F D[k]) (by omega)
  have p1:xbc out.length D[k] (F D[k]) (out.map encP)=some p:=p1;have gf:(D.map encN).getD k .top=encN D[k]:=xac _ _ _ q;have i1:(k:Int)<(D.length:Int):=by omega
  have e:D.drop k=D[k]::D.drop (k+1):=List.drop_eq_getElem_cons q;rw [e,List.foldl_cons,<-xyu hS hT lS lT hF D hD hl d (k+1) (putS out D[k] (F D[k])) (by omega) (by have:=xrY out D[k] (F D[k]);omega)]
  refine xaq ?_;rw [<-p2,<-p3];simp only [xbM,xe7,xbC,xgU,sBU,q,i1,gf,cN,sN,a1,a2,hF,p1,xHp (n:=k) (by omega)]
def xFE {N M:Int->Int} {S T:List Per} (hS:StepI N 1099511627776 S) (hT:xHD M T) (lS:S.length<=1048576) (lT:T.length<=1048576) {F:Int->Int} (hF:∀ t,xk4 (N t) (M t)=F t) :
  ∃ U:List Per,xhV (S.map encP) (T.map encP)=some (U.map encP)/\StepI F 1099511627776 U/\U.length<=S.length+T.length:=by
 obtain ⟨D,h1,h2,h3,h4⟩:=xA4 hS hT lS lT (F:=F) (fun t h=>by
  by_cases hc:N (t - 1)=N t
  . right;intro h5;refine h ?_;rw [<-hF,<-hF,hc,h5]
  . exact .inl hc)
 refine ⟨_,?_,h4,by have:=xp9 (F:=F) D [];simp at this;omega⟩
 have q:=xyu hS hT lS lT hF D h3 (by omega) D.length 0 [] (by omega) (by simp)
 rw [zt] at q;have q:Iter (xbM (S.map encP) (T.map encP) (D.map encN) ((D.length:Nat):Int)) ((0:Nat),(0:Int),[])=_:=q;obtain ⟨hp,_⟩:=h4.first
 generalize D.foldl (fun S x=>putS S x (F x)) []=U at q hp
 have g0:(((U.length:Nat):Int)==0)=false:=by simp;intro h;rw [h] at hp;simp at hp
 unfold xhV xi3 xdg xiv;simp only [h1,zl,zi,xaa,za,q,g0,xad,sUF];simp [xaa,zj,sUF]
def xE9 {N M:Int->Int} {S T:List Per} (hS:StepI N 1099511627776 S) (hT:StepI M 1099511627776 T) (lS:S.length<=1048576) (lT:T.length<=1048576) (hN:∀ t,0<=N t/\N t<=1048576) (hM:∀ t,0<=M t/\M t<=1048576) :
  ∃ U:List Per,xl2 (S.map encP) (T.map encP)=some (U.map encP)/\StepI (fun t=>N t+M t) 1099511627776 U/\U.length<=S.length+T.length:=by
 obtain ⟨U,h1,h2,h3⟩:=xFE hS (.inl hT) lS lT (F:=fun t=>N t+M t) (fun t=>by
  have:=hN t;have:=hM t;unfold xk4;rw [xaK (by omega) (by omega)])
 refine ⟨U,?_,h2,h3⟩;unfold xl2 xon;simp only [h1,zl,zi,xaa,sUF]
def xwa (t8:List AV) (t9 q:Int) (xs:List AV) (hx:xs.length=3) (j:Nat) (hj:j<3) (n:Int) (hn:xs.getD j .top=.int .i64 n) (h1:-9223372036854775808<=n) (h2:n<=9223372036854775807) (v0 v1:Int) (v2 B:List UInt8) (hB:B.length<=70368744177664) :
  xbt t8 t9 q 3 3 ((j:Int),B.length,v0,v1,v2,xs,byteAVs B)=some (.inl (((j+1:Nat):Int),(B++numI n).length,v0,v1,v2,xs,byteAVs (B++numI n))):=by
 have hl:=Lib.itoa_length_le n h1 h2;have i1:(j:Int)<3:=by omega
 have i2:(j:Int)<((3:Nat):Int):=by omega
 have i3:j<xs.length:=by omega
 have e1:=xmU (Lib.itoa n) B (by rw [z8];omega)
 have e2:=xpq (B++Lib.itoa n) (by rw [z8,z8,zk];omega)
 have hc:((AV.int IntKind.i64 n).cells.getD 0 .top).toInt=n:=rfl;have hs:xH6 (Sh.int IntKind.i64) ((AV.int IntKind.i64 n).cells.getD 0 .top)=true:=rfl;simp only [xbt,xiN,xk0,xk1,xk2,xf7,sBU,i1,i2,i3,hn,hc,hs,h1,h2,e1,e2,xHp (n:=j) (by omega),numI,zx]
def xCQ (t8:List AV) (t9 q:Int) (xs:List AV) (v0 v1:Int) (v2 B:List UInt8):xbt t8 t9 q 3 3 (((3:Nat):Int),B.length,v0,v1,v2,xs,byteAVs B)=some (.inr (B.length,v0,v1,v2,byteAVs B)):=by
 have i1:¬ ((3:Nat):Int)<3:=by omega
 simp only [xbt,xiN,i1,zn,xad,sUF]
def xv9 (t8:List AV) (t9 q:Int) (v:Val) (h:KOk v) (B:List UInt8) (hB:B.length<=35184372088832) :
  Iter (xbt t8 t9 q 3 3) ((1:Int),(B++numI v.k).length,v.k,v.i,v.t,[AV.int .i64 v.k,AV.int .i64 v.i,AV.int .i64 (v.t.length:Int)],byteAVs (B++numI v.k))=some ((B++numI v.k++numI v.i++numI (v.t.length:Int)).length,v.k,v.i,v.t,byteAVs (B++numI v.k++numI v.i++numI (v.t.length:Int))):=by
 have hl:=h.len;have ht:=h.2;rw [xls,z8,z8,z8] at hl;have e1:=xwa t8 t9 q [AV.int .i64 v.k,AV.int .i64 v.i,AV.int .i64 (v.t.length:Int)] rfl 1 (by omega) v.i rfl (xHw h.1.2.1).1 (xHw h.1.2.1).2 v.k v.i v.t (B++numI v.k) (by rw [z8];omega)
 have e2:=xwa t8 t9 q [AV.int .i64 v.k,AV.int .i64 v.i,AV.int .i64 (v.t.length:Int)] rfl 2 (by omega) (v.t.length:Int) rfl (by omega) (by omega) v.k v.i v.t (B++numI v.k++numI v.i) (by rw [z8,z8];omega)
 exact (xaq e1).trans ((xaq e2).trans (xah (xCQ ..)))
def xEh (t8:List AV) (t9 q:Int) (v:Val) (h:KOk v) (B:List UInt8) (hB:B.length<=35184372088832) :
  Iter (xbt t8 t9 q 3 3) ((0:Int),B.length,v.k,v.i,v.t,[AV.int .i64 v.k,AV.int .i64 v.i,AV.int .i64 (v.t.length:Int)],byteAVs B)=some ((B++numI v.k++numI v.i++numI (v.t.length:Int)).length,v.k,v.i,v.t,byteAVs (B++numI v.k++numI v.i++numI (v.t.length:Int))):=by
 have e0:=xwa t8 t9 q [AV.int .i64 v.k,AV.int .i64 v.i,AV.int .i64 (v.t.length:Int)] rfl 0 (by omega) v.k rfl (xHw h.1.1).1 (xHw h.1.1).2 v.k v.i v.t B (by omega)
 exact (xaq e0).trans (xv9 t8 t9 q v h B hB)
def xyN (r:Row) (hr:r.length<=1048576) (h:∀ v,v∈r->KOk v) (hk:(keyOf r).length<=17592186044416):∀ d k:Nat,k+d=r.length->Iter (xdF (r.map encV) ((r.length:Nat):Int)) ((k:Int),(keyOf (r.take k)).length,byteAVs (keyOf (r.take k)))=some ((keyOf r).length,byteAVs (keyOf r))
 | 0,k,hkk=>by
  obtain rfl:k=r.length:=by omega
  rw [ya];refine xah ?_;simp only [xdF,xiM,zz,zn,xad,sUF]
 | d+1,k,hkk=>by
  have q:k<r.length:=by omega
  have hv:=h r[k] (zp q);have i1:(k:Int)<(r.length:Int):=by omega
  have gf:(r.map encV).getD k .top=encV r[k]:=xac _ _ _ q;have tk:keyOf (r.take (k+1))=keyOf (r.take k)++keyV r[k]:=by
   unfold keyOf;rw [List.take_add_one,zf q,List.flatMap_append];simp
  have le:(keyOf (r.take (k+1))).length<=(keyOf r).length:=by
   conv=>rhs;rw [<-List.take_append_drop (k+1) r]
   unfold keyOf;rw [List.flatMap_append,z8];omega
  have hl:=hv.len;rw [tk,z8] at le;have e1:=xEh (r.map encV) (r.length:Int) (k:Int) r[k] hv (keyOf (r.take k)) (by omega)
  have kn:keyOf (r.take k)++keyV r[k]=keyOf (r.take k)++numI r[k].k++numI r[k].i++numI (r[k].t.length:Int)++r[k].t:=by rw [xls];simp only [zx]
  have e2:=xmU r[k].t (keyOf (r.take k)++numI r[k].k++numI r[k].i++numI (r[k].t.length:Int)) (by rw [<-kn,z8];omega)
  rw [xaq (s':=(((k+1:Nat):Int),(keyOf (r.take (k+1))).length,byteAVs (keyOf (r.take (k+1))))) ?_]
  . exact xyN r hr h hk d (k+1) (by omega)
  . rw [tk,kn];simp only [xdF,xiM,xkY,xkZ,xhT,xkx,sBU,q,i1,gf,cV0,cV1,cV2,lV,sV,e1,e2,xHp (n:=k) (by omega)]
def xEi (r:Row) (hr:r.length<=1048576) (h:∀ v,v∈r->KOk v) (hk:(keyOf r).length<=17592186044416):xb8 (r.map encV)=some (keyOf r):=by
 match r with
 | []=>rfl
 | v::t =>
  have hv:=h v (by simp)
  have hl:=hv.len;have i1:(0:Int)<((t.length+1:Nat):Int):=by omega
  have i2:0<t.length+1:=by omega
  obtain ⟨r1,r2⟩:=xHw hv.1.1;have q:=Lib.itoa_length_le v.k r1 r2;have gf:((v::t).map encV).getD 0 .top=encV v:=rfl;have e0:xao (Lib.itoa v.k)=some (((Lib.itoa v.k).length:Int),(Lib.itoa v.k).length,byteAVs (Lib.itoa v.k)):=by
   have m1:(Lib.itoa v.k).length<=140737488355328:=by omega
   have m2:(Lib.itoa v.k).length<=4611686018427387904:=by omega
   unfold xao xbP;simp only [xff,Nat.mul_one,m1,m2,zo,Bool.and_self,xaa,sUF]
  have e1:xcr 32 (Lib.itoa v.k).length (byteAVs (Lib.itoa v.k))=some (([]++numI v.k).length,byteAVs ([]++numI v.k)):=xpq (Lib.itoa v.k) (by rw [z8,zk];omega)
  have e2:=xv9 ((v::t).map encV) ((t.length+1:Nat):Int) 0 v hv [] (by simp)
  have kn:keyV v=[]++numI v.k++numI v.i++numI (v.t.length:Int)++v.t:=by rw [xls];simp
  have e3:=xmU v.t ([]++numI v.k++numI v.i++numI (v.t.length:Int)) (by rw [<-kn];omega)
  rw [<-kn] at e3;have e4:=xyN (v::t) hr h hk t.length 1 (by rw [zG];omega)
  have tk:keyOf ((v::t).take 1)=keyV v:=by simp [keyOf]
  rw [tk,zG] at e4;have e4:Iter (xdF ((v::t).map encV) ((t.length+1:Nat):Int)) ((1:Int),(keyV v).length,byteAVs (keyV v))=_:=e4;have hne:(keyOf (v::t)).length≠0:=fun e=>xqL v (keyOf t) (by rw [<-xiD];exact List.length_eq_zero_iff.1 e)
  unfold xb8 xom xgM xno xnp xnq xk3 xnr xns xnt xdI;simp only [za,zG,i1,i2,gf,cV0,cV1,cV2,lV,sV,r1,r2,e0,e1,e2,e3,e4,zo,xaa,Bool.and_self,beq_self_eq_true,zl,zi,xff,xnS,xpG,ne_eq,hne,not_false_eq_true,sUF]
def xqf:∀ (a b:List Int),(∀ t,a.count t<=b.count t)->a.length<=b.length
 | [],b,_=>by simp
 | x::a,b,h=>by
  have hx:x∈b:=List.count_pos_iff.1 (by have:=h x;rw [List.count_cons_self] at this;omega)
  have ih:=xqf a (b.erase x) fun t=>by
   have:=h t;by_cases e:x=t
   . subst e;rw [List.count_cons_self] at this;rw [List.count_erase_self];omega
   . rw [List.count_cons_of_ne e] at this;rw [List.count_erase_of_ne (fun c=>e c.symm)];exact this
  rw [List.length_erase_of_mem hx] at ih;have:0<b.length:=List.length_pos_iff.2 fun c=>by rw [c] at hx;simp at hx
  rw [zG];omega
def xmE (ps:List Per) (t:Int):ps.countP (hasP · t)<=ps.countP (hasP · (t - 1))+(ps.map (·.1)).count t:=by
 induction ps with
 | nil=>simp
 | cons p ps ih =>
  rw [List.countP_cons,List.countP_cons,zW,List.count_cons];have:(if hasP p t=true then 1 else 0)<=(if hasP p (t - 1)=true then 1 else 0)+(if (p.1==t)=true then 1 else 0):=by
   by_cases h1:hasP p t=true
   . obtain ⟨hv,a,b⟩:=xcw.1 h1;by_cases h2:p.1=t
     . have e:(p.1==t)=true:=by simpa using h2
       rw [if_pos h1,if_pos e];omega
     . have:hasP p (t - 1)=true:=xcw.2 ⟨hv,by omega,by omega⟩
       rw [if_pos h1,if_pos this];omega
   . rw [if_neg h1];omega
  omega
def xtF (a b:Nat):∀ n:Nat,((List.range n).map fun k=>if a<=k/\k<b then 1 else 0).sum<=min n b - min n a
 | 0=>by simp
 | n+1=>by
  rw [List.range_succ,zy,List.sum_append];have:=xtF a b n;simp only [zW,zX,List.sum_cons,List.sum_nil];split<;>omega
def IsLevs.len1 {ps P:List Per} (h:IsLevs (fun t=>ps.countP (hasP · t)) P):P.length<=ps.length:=by
 have:(P.map (·.1)).length<=(ps.map (·.1)).length:=by
  refine xqf _ _ fun t=>?_
  obtain ⟨A,H,h1,h2,h3⟩:=h.lev;have e1:(P.map (·.1)).count t=((List.range H).map fun k=>((A k).map (·.1)).count t).sum:=by
   rw [(h3.map (·.1)).count_eq,List.map_flatMap,List.count_flatMap];rfl
  have e2:∀ n,((List.range n).map fun k=>((A k).map (·.1)).count t).sum<=((List.range n).map fun k=>if ps.countP (hasP · (t - 1))<=k/\k<ps.countP (hasP · t) then 1 else 0).sum:=fun n=>by
   induction n with
   | zero=>simp
   | succ n ih =>
    rw [List.range_succ,zy,zy,List.sum_append,List.sum_append];simp only [zW,zX,List.sum_cons,List.sum_nil];have hn:((A n).map (·.1)).Nodup:=by
     unfold List.Nodup;rw [List.pairwise_map];refine List.Pairwise.imp_of_mem (fun {p q} hp hq h=>?_) (h2 n).1.2
     have:=xb5.1 ((h2 n).1.1 p hp);omega
    have D:((A n).map (·.1)).count t<=1:=List.nodup_iff_count.1 hn t;by_cases ht:t∈(A n).map (·.1)
    . obtain ⟨p,hp,rfl⟩:=zL.1 ht;obtain ⟨a,b,_⟩:=xto (N:=fun t=>ps.countP (hasP · t)) (h2 n).1 (h2 n).2 hp
      have hv:=xb5.1 ((h2 n).1.1 p hp);have:=a p.1 (Int.le_refl _) hv.2.1;rw [if_pos ⟨b,this⟩];omega
    . rw [List.count_eq_zero.2 ht];omega
  have e3:=e2 H;have e4:=xtF (ps.countP (hasP · (t - 1))) (ps.countP (hasP · t)) H;have e5:=xmE ps t;have e6:=h1 t;omega
 simpa using this
def xsz {L:Row->List Per}:∀ {R:List Row} {l:List Fc},R.Nodup->(∀ r,r∈R->(L r).length<=(psOf l r).length)->(xHn R L).length<=l.length
 | [],l,_,_=>by simp [xHn]
 | r::R,l,hn,h=>by
  obtain ⟨n1,n2⟩:=List.nodup_cons.1 hn;have e:xHn (r::R) L=((L r).map fun p=>(⟨r,p⟩:Fc))++xHn R L:=by simp [xHn]
  let l2:=l.filter fun f=>!decide (f.r=r)
  have D:∀ r',r'∈R->psOf l2 r'=psOf l r':=fun r' q=>by
   have hne:r'≠r:=fun e=>n1 (e▸q)
   unfold psOf;simp only [l2,List.filter_filter];congr 1;refine List.filter_congr fun f _=>?_
   by_cases hf:f.r=r'
   . have:¬ f.r=r:=fun e=>hne (hf▸e)
     simp [hf,hne]
   . simp [hf]
  have ih:=xsz (L:=L) (l:=l2) n2 fun r' q=>by rw [D r' q];exact h r' (by simp [q])
  have h1:=h r (by simp)
  have hl:(psOf l r).length+l2.length<=l.length:=by
   unfold psOf;rw [za];have:=List.length_eq_countP_add_countP (fun f:Fc=>decide (f.r=r)) (l:=l)
   have a1:(l.filter fun f=>decide (f.r=r)&&pv f.p).length<=l.countP fun f=>decide (f.r=r):=by
    rw [<-List.countP_eq_length_filter];exact List.countP_mono_left fun f _ hf=>by simp only [zg] at hf;exact hf.1
   have a2:l2.length=l.countP fun f=>¬ decide (f.r=r)=true:=by
    rw [List.countP_eq_length_filter];simp [l2]
   omega
  rw [e,z8,za];omega
def xHu.len1 {l B:List Fc} (h:xHu l B):B.length<=l.length:=by
 obtain ⟨R,L,h1,h2,rfl⟩:=h;refine xsz (h1.1.nodup xoV) fun r hr=>?_
 have:=h2 r hr;rw [show cnt l r=fun t=>(psOf l r).countP (hasP · t) from funext fun t=>(xsL l r t).symm] at this
 exact this.len1
abbrev TE:=Row×List Per×List Per
def defT:TE:=([],[],[])
def c1 (p:Per):AV:=encC (p,1)
def encE (e:TE):PE:=(keyOf e.1,e.1.map encV,e.2.1.map c1,e.2.2.map c1)
def ixTE (es:List TE) (r:Row):Option Nat:=es.findIdx? fun x=>decide (x.1=r)
def addT (es:List TE) (r:Row) (xa xb:List Per):List TE:=match ixTE es r with
 | some j=>es.set j ((es.getD j defT).1,(es.getD j defT).2.1++xa,(es.getD j defT).2.2++xb)
 | none=>es++[(r,xa,xb)]
def xvM (r:Row):∀ es:List TE,ixP (es.map encE) (keyOf r)=ixTE es r
 | []=>rfl
 | x::es=>by
  have ih:=xvM r es;unfold ixP ixTE at ih |-;rw [zW,List.findIdx?_cons,List.findIdx?_cons,ih];have:((encE x).1==keyOf r)=decide (x.1=r):=by
   by_cases h:x.1=r
   . subst h;simp [encE]
   . have h2:¬ keyOf x.1=keyOf r:=fun e=>h (xtm e)
     simp [encE,h,h2]
  rw [this]
def xox {es:List TE} {j:Nat} (h:j<es.length):(es.map encE).getD j defP=encE (es.getD j defT):=by
 simp [z7,h]
def xqd {es:List TE} {r:Row} {j:Nat} (h:ixTE es r=some j):∃ hj:j<es.length,es[j].1=r:=by
 obtain ⟨hj,h1,_⟩:=List.findIdx?_eq_some_iff_getElem.1 h;exact ⟨hj,by simpa using h1⟩
def xAZ {es:List TE} {r:Row} (h:ixTE es r=none):r∉es.map (·.1):=fun hr=>by
 obtain ⟨e,he,rfl⟩:=zL.1 hr;have:=List.findIdx?_eq_none_iff.1 h e he;simp at this
def xCB (es:List TE) (r:Row) (p:Per):putP false (es.map encE) (keyOf r) (r.map encV) (c1 p)=(addT es r [p] []).map encE:=by
 unfold putP addT;rw [xvM];cases h:ixTE es r with
 | none=>simp [encE]
 | some j =>
  obtain ⟨hj,_⟩:=xqd h;simp only [xox hj,List.map_set];simp [encE]
def xCC (es:List TE) (r:Row) (p:Per):putP true (es.map encE) (keyOf r) (r.map encV) (c1 p)=(addT es r [] [p]).map encE:=by
 unfold putP addT;rw [xvM];cases h:ixTE es r with
 | none=>simp [encE]
 | some j =>
  obtain ⟨hj,_⟩:=xqd h;simp only [xox hj,List.map_set];simp [encE]
structure EI (R:Row->Prop) (A B:Row->List Per) (n:Nat) (es:List TE):Prop where
 nd:(es.map (·.1)).Nodup
 mem:∀ r,r∈es.map (·.1)↔R r
 pa:∀ e,e∈es->e.2.1=A e.1
 pb:∀ e,e∈es->e.2.2=B e.1
 zero:∀ r,¬ R r->A r=[]/\B r=[]
 len:es.length<=n
def EI.nil:EI (fun _=>False) (fun _=>[]) (fun _=>[]) 0 []:=⟨List.nodup_nil,fun r=>by simp,fun g hg=>by simp at hg,fun g hg=>by simp at hg,fun _ _=>⟨rfl,rfl⟩,zd _⟩
def EI.add {R:Row->Prop} {A B:Row->List Per} {n:Nat} {es:List TE} (h:EI R A B n es) (ρ:Row) (xa xb:List Per) :
  EI (fun r=>R r\/ρ=r) (fun r=>A r++if ρ=r then xa else []) (fun r=>B r++if ρ=r then xb else []) (n+1) (addT es ρ xa xb):=by
 unfold addT;cases hi:ixTE es ρ with
 | some j =>
  obtain ⟨hj,hr⟩:=xqd hi;have gd:es.getD j defT=es[j]:=by rw [z7,zf hj];rfl
  dsimp only;rw [gd];have fst:(es.set j (es[j].1,es[j].2.1++xa,es[j].2.2++xb)).map (·.1)=es.map (·.1):=by
   rw [List.map_set];have:(es.map (·.1))[j]'(by simpa using hj)=es[j].1:=by simp
   show (es.map (·.1)).set j es[j].1=_;rw [<-this];exact List.set_getElem_self _
  have hRρ:R ρ:=(h.mem ρ).1 (by rw [<-hr];exact zL.2 ⟨es[j],zp hj,rfl⟩)
  have hne:∀ i (q:i<es.length),j≠i->ρ≠es[i].1:=fun i q D e=>by
   have hn:=zC.1 h.nd;have ei:(es.map (·.1))[i]'(by simpa using q)=es[i].1:=by simp
   have ej:(es.map (·.1))[j]'(by simpa using hj)=es[j].1:=by simp
   rcases Nat.lt_or_gt_of_ne D with O|O
   . exact hn j i (by simpa using hj) (by simpa using q) O (by rw [ei,ej,hr,e])
   . exact hn i j (by simpa using q) (by simpa using hj) O (by rw [ei,ej,hr,e])
  refine ⟨by rw [fst];exact h.nd,fun r=>?_,fun g hg=>?_,fun g hg=>?_,fun r J=>?_,by rw [y8];have:=h.len;omega⟩
  . rw [fst,h.mem];refine ⟨.inl,?_⟩;rintro (h1|rfl)
    . exact h1
    . exact hRρ
  . obtain ⟨i,q,rfl⟩:=zq.1 hg;rw [y8] at q;rw [List.getElem_set];by_cases D:j=i
    . subst D;rw [if_pos rfl];show es[j].2.1++xa=A es[j].1++_;rw [if_pos hr.symm,h.pa _ (zp hj)]
    . rw [if_neg D,if_neg (hne i q D),zF];exact h.pa _ (zp q)
  . obtain ⟨i,q,rfl⟩:=zq.1 hg;rw [y8] at q;rw [List.getElem_set];by_cases D:j=i
    . subst D;rw [if_pos rfl];show es[j].2.2++xb=B es[j].1++_;rw [if_pos hr.symm,h.pb _ (zp hj)]
    . rw [if_neg D,if_neg (hne i q D),zF];exact h.pb _ (zp q)
  . have h1:¬ R r:=fun c=>J (.inl c)
    have h2:¬ ρ=r:=fun c=>J (.inr c)
    obtain ⟨z1,z2⟩:=h.zero r h1;rw [if_neg h2,if_neg h2,z1,z2];exact ⟨rfl,rfl⟩
 | none =>
  have hr:=xAZ hi;dsimp only;have hρ:¬ R ρ:=fun c=>hr ((h.mem ρ).2 c)
  obtain ⟨z1,z2⟩:=h.zero ρ hρ;have hne:∀ g,g∈es->ρ≠g.1:=fun g hg e=>hr (by rw [e];exact zL.2 ⟨g,hg,rfl⟩)
  refine ⟨?_,fun r=>?_,fun g hg=>?_,fun g hg=>?_,fun r J=>?_,by rw [z8];have:=h.len;simp;omega⟩
  . rw [zy];refine List.nodup_append.2 ⟨h.nd,by simp,fun a ha b hb e=>?_⟩
    simp at hb;exact hr (by rw [<-hb,<-e];exact ha)
  . rw [zy,zH,h.mem];simp only [zW,zX,zw];exact ⟨fun c=>c.imp id Eq.symm,fun c=>c.imp id Eq.symm⟩
  . rcases zH.1 hg with hg|hg
    . rw [if_neg (hne g hg),zF];exact h.pa g hg
    . rw [zw] at hg;subst hg;rw [if_pos rfl,z1];rfl
  . rcases zH.1 hg with hg|hg
    . rw [if_neg (hne g hg),zF];exact h.pb g hg
    . rw [zw] at hg;subst hg;rw [if_pos rfl,z2];rfl
  . have h1:¬ R r:=fun c=>J (.inl c)
    have h2:¬ ρ=r:=fun c=>J (.inr c)
    obtain ⟨z1,z2⟩:=h.zero r h1;rw [if_neg h2,if_neg h2,z1,z2];exact ⟨rfl,rfl⟩
def xHo (l:List Fc) (r:Row):List Per:=(l.filter fun f=>decide (f.r=r)).map (·.p)
def xmT (l:List Fc) (r:Row) (t:Int):(xHo l r).countP (hasP · t)=cnt l r t:=by
 unfold xHo cnt;rw [List.countP_map,List.countP_filter];refine List.countP_congr fun f _=>?_
 simp [and_comm]
def xrZ (f:Fc) (l:List Fc) (r:Row):xHo (f::l) r=(if f.r=r then [f.p] else [])++xHo l r:=by
 unfold xHo;rw [List.filter_cons];by_cases h:f.r=r<;>simp [h]
def xyF (l:List Fc) (r:Row):(xHo l r).length<=l.length:=by
 unfold xHo;rw [za];exact List.length_filter_le _ _
def xAH:∀ (l:List Fc) (R:Row->Prop) (A B:Row->List Per) (n:Nat) (es:List TE),EI R A B n es->EI (fun r=>R r\/∃ f,f∈l/\f.r=r) (fun r=>A r++xHo l r) B (n+l.length) (l.foldl (fun es f=>addT es f.r [f.p] []) es)
 | [],R,A,B,n,es,h=>by
  have e1:(fun r=>R r\/∃ f,f∈([]:List Fc)/\f.r=r)=R:=funext fun r=>by simp
  have e2:(fun r=>A r++xHo [] r)=A:=funext fun r=>by simp [xHo]
  rw [e1,e2];exact h
 | f::l,R,A,B,n,es,h=>by
  have:=xAH l _ _ _ _ _ (h.add f.r [f.p] []);rw [List.foldl_cons];have e1:(fun r=>(R r\/f.r=r)\/∃ g,g∈l/\g.r=r)=fun r=>R r\/∃ g,g∈f::l/\g.r=r:=funext fun r=>by simp [or_assoc]
  have e2:(fun r=>(A r++if f.r=r then [f.p] else [])++xHo l r)=fun r=>A r++xHo (f::l) r:=funext fun r=>by rw [xrZ,zx]
  have e3:(fun r=>B r++if f.r=r then [] else [])=B:=funext fun r=>by simp
  rw [e1,e2,e3] at this;rw [zG,show n+(l.length+1)=n+1+l.length by omega]
  exact this
def xAI:∀ (l:List Fc) (R:Row->Prop) (A B:Row->List Per) (n:Nat) (es:List TE),EI R A B n es->EI (fun r=>R r\/∃ f,f∈l/\f.r=r) A (fun r=>B r++xHo l r) (n+l.length) (l.foldl (fun es f=>addT es f.r [] [f.p]) es)
 | [],R,A,B,n,es,h=>by
  have e1:(fun r=>R r\/∃ f,f∈([]:List Fc)/\f.r=r)=R:=funext fun r=>by simp
  have e2:(fun r=>B r++xHo [] r)=B:=funext fun r=>by simp [xHo]
  rw [e1,e2];exact h
 | f::l,R,A,B,n,es,h=>by
  have:=xAI l _ _ _ _ _ (h.add f.r [] [f.p]);rw [List.foldl_cons];have e1:(fun r=>(R r\/f.r=r)\/∃ g,g∈l/\g.r=r)=fun r=>R r\/∃ g,g∈f::l/\g.r=r:=funext fun r=>by simp [or_assoc]
  have e2:(fun r=>(B r++if f.r=r then [f.p] else [])++xHo l r)=fun r=>B r++xHo (f::l) r:=funext fun r=>by rw [xrZ,zx]
  have e3:(fun r=>A r++if f.r=r then [] else [])=A:=funext fun r=>by simp
  rw [e1,e2,e3] at this;rw [zG,show n+(l.length+1)=n+1+l.length by omega]
  exact this
def colT (a b:List Fc):List TE:=b.foldl (fun es f=>addT es f.r [] [f.p]) (a.foldl (fun es f=>addT es f.r [f.p] []) [])
def xDI (a b:List Fc):EI (fun r=>(∃ f,f∈a/\f.r=r)\/∃ f,f∈b/\f.r=r) (xHo a) (xHo b) (a.length+b.length) (colT a b):=by
 have h:=xAI b _ _ _ _ _ (xAH a _ _ _ _ _ EI.nil);have e1:(fun r=>(False\/∃ f,f∈a/\f.r=r)\/∃ f,f∈b/\f.r=r)=fun r=>(∃ f,f∈a/\f.r=r)\/∃ f,f∈b/\f.r=r:=funext fun r=>by simp
 have e2:(fun r=>([]:List Per)++xHo a r)=xHo a:=funext fun r=>rfl
 have e3:(fun r=>([]:List Per)++xHo b r)=xHo b:=funext fun r=>rfl
 rw [e1,e2,e3,show 0+a.length+b.length=a.length+b.length by omega] at h
 exact h
def Keyed.skey {l:List Fc} (h:Keyed l) {f:Fc} (hf:f∈l):xb8 (f.r.map encV)=some (keyOf f.r):=xEi f.r (h.1.2 f hf) (h.2 f hf).1 (h.2 f hf).2
def xrP {f:Fc} (h:xb8 (f.r.map encV)=some (keyOf f.r)):keyF (encF f)=keyOf f.r:=by
 show (xb8 (f.r.map encV)).getD []=_;rw [h];rfl
def xtV:∀ (l:List Fc) (es:List TE),(∀ f,f∈l->xb8 (f.r.map encV)=some (keyOf f.r))->(l.map encF).foldl (stepP false) (es.map encE)=(l.foldl (fun es f=>addT es f.r [f.p] []) es).map encE
 | [],es,_=>rfl
 | f::l,es,h=>by
  rw [zW,List.foldl_cons,List.foldl_cons];have e:(stepP false) (es.map encE) (encF f)=(addT es f.r [f.p] []).map encE:=by
   show putP false (es.map encE) (keyF (encF f)) (f.r.map encV) (c1 f.p)=_;rw [xrP (h f (by simp)),xCB]
  rw [e];exact xtV l _ fun g hg=>h g (by simp [hg])
def xtW:∀ (l:List Fc) (es:List TE),(∀ f,f∈l->xb8 (f.r.map encV)=some (keyOf f.r))->(l.map encF).foldl (stepP true) (es.map encE)=(l.foldl (fun es f=>addT es f.r [] [f.p]) es).map encE
 | [],es,_=>rfl
 | f::l,es,h=>by
  rw [zW,List.foldl_cons,List.foldl_cons];have e:(stepP true) (es.map encE) (encF f)=(addT es f.r [] [f.p]).map encE:=by
   show putP true (es.map encE) (keyF (encF f)) (f.r.map encV) (c1 f.p)=_;rw [xrP (h f (by simp)),xCC]
  rw [e];exact xtW l _ fun g hg=>h g (by simp [hg])
def xBW {a b:List Fc} (ha:Keyed a) (hb:Keyed b):colV (a.map encF) (b.map encF)=(colT a b).map encE:=by
 unfold colV colT;rw [show ([]:List PE)=([]:List TE).map encE from rfl,xtV a [] fun f hf=>ha.skey hf,xtW b _ fun f hf=>hb.skey hf]
def xyz {l:List Fc} (h:Keyed l) {f:Fc} (hf:f∈l):okF (encF f)=true:=by
 have e1:=xrP (h.skey hf);have e2:xb8 (rowF (encF f))=some (keyOf f.r):=h.skey hf;have e3:=(h.2 f hf).2;unfold okF;rw [e1,e2];have m:(keyOf f.r).length<=4611686018427387904:=by omega
 have c1:Nat.beq (encF f).cells.length 3=true:=rfl;have c2:xId [.list 3,.int .i64,.int .i64] (encF f).cells 0=true:=rfl;have c3:((encF f).one==false)=true:=rfl;rw [c1,c2,c3];simp [m]
def xAu {a b:List Fc} (ha:Keyed a) (hb:Keyed b):colOk (a.map encF) (b.map encF)=true:=by
 unfold colOk;have h1:=ha.1.1;have h2:=hb.1.1;simp only [zg,zJ,List.mem_range,zm,za];refine ⟨fun i hi=>?_,fun i hi=>?_,by omega⟩
 . rw [xac _ _ _ hi];exact xyz ha (zp hi)
 . rw [xac _ _ _ hi];exact xyz hb (zp hi)
def xt8 {N:Int->Nat} {P:List Per} (h:IsLevs N P) (E:List Int) (hE:∀ t,N t<=N (t - 1)+E.count t):P.length<=E.length:=by
 have:(P.map (·.1)).length<=E.length:=by
  refine xqf _ _ fun t=>?_
  obtain ⟨A,H,h1,h2,h3⟩:=h.lev;have e1:(P.map (·.1)).count t=((List.range H).map fun k=>((A k).map (·.1)).count t).sum:=by
   rw [(h3.map (·.1)).count_eq,List.map_flatMap,List.count_flatMap];rfl
  have e2:∀ n,((List.range n).map fun k=>((A k).map (·.1)).count t).sum<=((List.range n).map fun k=>if N (t - 1)<=k/\k<N t then 1 else 0).sum:=fun n=>by
   induction n with
   | zero=>simp
   | succ n ih =>
    rw [List.range_succ,zy,zy,List.sum_append,List.sum_append];simp only [zW,zX,List.sum_cons,List.sum_nil];have hn:((A n).map (·.1)).Nodup:=by
     unfold List.Nodup;rw [List.pairwise_map];refine List.Pairwise.imp_of_mem (fun {p q} hp hq h=>?_) (h2 n).1.2
     have:=xb5.1 ((h2 n).1.1 p hp);omega
    have D:((A n).map (·.1)).count t<=1:=List.nodup_iff_count.1 hn t;by_cases ht:t∈(A n).map (·.1)
    . obtain ⟨p,hp,rfl⟩:=zL.1 ht;obtain ⟨a,b,_⟩:=xto (N:=N) (h2 n).1 (h2 n).2 hp;have hv:=xb5.1 ((h2 n).1.1 p hp);have:=a p.1 (Int.le_refl _) hv.2.1;rw [if_pos ⟨b,this⟩];omega
    . rw [List.count_eq_zero.2 ht];omega
  have e3:=e2 H;have e4:=xtF (N (t - 1)) (N t) H;have e5:=hE t;have e6:=h1 t;omega
 simpa using this
structure OpOk (op:List AV->List AV->Option (List AV)) (g:Nat->Nat->Nat):Prop where
 run:∀ {N M:Int->Nat} {S T:List Per},StepI (fun t=>(N t:Int)) 1099511627776 S->StepI (fun t=>(M t:Int)) 1099511627776 T->S.length<=131072->T.length<=131072->(∀ t,N t<=1048576)->(∀ t,M t<=1048576) ->
  ∃ U:List Per,op (S.map encP) (T.map encP)=some (U.map encP)/\StepI (fun t=>((g (N t) (M t):Nat):Int)) 1099511627776 U/\U.length<=S.length+T.length
 zero:g 0 0=0
 le:∀ x y,g x y<=x+y
 inc:∀ a b:List Per,∃ E:List Int,E.length<=a.length+b.length/\∀ t,g (a.countP (hasP · t)) (b.countP (hasP · t))<=g (a.countP (hasP · (t - 1))) (b.countP (hasP · (t - 1)))+E.count t
def opA:OpOk xl2 (fun x y=>x+y) where
 run:=fun {N M S T} hS hT lS lT hN hM=>by
  obtain ⟨U,h1,h2,h3⟩:=xE9 hS hT (by omega) (by omega) (fun t=>by have:=hN t;omega) (fun t=>by have:=hM t;omega)
  refine ⟨U,h1,?_,h3⟩;rwa [show (fun t=>(N t:Int)+(M t:Int))=fun t=>(((N t+M t:Nat)):Int) from funext fun t=>by omega] at h2
 zero:=rfl
 le:=fun x y=>zd _
 inc:=fun a b=>⟨a.map (·.1)++b.map (·.1),by simp,fun t=>by
  have h1:=xmE a t;have h2:=xmE b t;rw [List.count_append];omega⟩
def xFc (ps:List Per):ps.map c1=(ps.map fun p=>(p,(1:Int))).map encC:=by rw [List.map_map];rfl
def xyy (ps:List Per) (h:ps.length<=32768):∃ S,xaf (ps.map c1)=some (S.map encP)/\StepI (fun t=>((ps.countP (hasP · t):Nat):Int)) 1099511627776 S/\S.length<=2*ps.length+1:=by
 obtain ⟨S,h1,h2,h3⟩:=xij _ (xuh (ps:=ps) (by omega))
 refine ⟨S,by rw [xFc,h1],?_,by simpa using h3⟩
 rwa [show sumC (ps.map fun p=>(p,(1:Int)))=fun t=>((ps.countP (hasP · t):Nat):Int) from funext fun t=>xuA ps t] at h2
def xB2 {op:List AV->List AV->Option (List AV)} {g:Nat->Nat->Nat} (h:OpOk op g) (r:Row) (pa pb:List Per) (ha:pa.length<=32768) (hb:pb.length<=32768) :
  ∃ P:List Per,lvOk op (encE (r,pa,pb))=true/\lvOf op (encE (r,pa,pb))=P.map encP/\IsLevs (fun t=>g (pa.countP (hasP · t)) (pb.countP (hasP · t))) P/\P.length<=pa.length+pb.length:=by
 obtain ⟨S,s1,s2,s3⟩:=xyy pa ha;obtain ⟨T,t1,t2,t3⟩:=xyy pb hb;have la:∀ t,pa.countP (hasP · t)<=pa.length:=fun t=>List.countP_le_length
 have lb:∀ t,pb.countP (hasP · t)<=pb.length:=fun t=>List.countP_le_length
 obtain ⟨U,u1,u2,u3⟩:=h.run s2 t2 (by omega) (by omega) (fun t=>by have:=la t;omega) (fun t=>by have:=lb t;omega)
 obtain ⟨P,p1,p2⟩:=xt7 (N:=fun t=>g (pa.countP (hasP · t)) (pb.countP (hasP · t))) (H:=pa.length+pb.length) (by omega) (fun t=>by
  have:=h.le (pa.countP (hasP · t)) (pb.countP (hasP · t));have:=la t;have:=lb t;omega) (fun t ht=>by
  rw [xrE pa t ht,xrE pb t ht];exact h.zero) u2 (by omega)
 obtain ⟨E,e1,e2⟩:=h.inc pa pb;have lv:lvOf op (encE (r,pa,pb))=P.map encP:=by
  show (xas ((op ((xaf (pa.map c1)).getD []) ((xaf (pb.map c1)).getD [])).getD [])).getD []=_;rw [s1,t1];show (xas ((op (S.map encP) (T.map encP)).getD [])).getD []=_;rw [u1];show (xas (U.map encP)).getD []=_;rw [p1];rfl
 refine ⟨P,?_,lv,p2,?_⟩
 . unfold lvOk;rw [lv];show ((xaf (pa.map c1)).isSome&&((xaf (pb.map c1)).isSome&&((op ((xaf (pa.map c1)).getD []) ((xaf (pb.map c1)).getD [])).isSome&&((xas ((op ((xaf (pa.map c1)).getD []) ((xaf (pb.map c1)).getD [])).getD [])).isSome&&_))))=true;rw [s1,t1];simp only [zi,zl,u1,p1,Bool.true_and,zJ,List.mem_range,za];intro i hi;rw [xac _ _ _ hi];rfl
 . have:=xt8 p2 E e2;omega
def xwg (f:Fc) (l:List Fc):∀ R:List Row,(R.map fun r=>(xHo (f::l) r).length).sum=R.countP (fun r=>decide (f.r=r))+(R.map fun r=>(xHo l r).length).sum
 | []=>rfl
 | r::R=>by
  rw [zW,zW,List.sum_cons,List.sum_cons,xwg f l R,xrZ,List.countP_cons];by_cases h:f.r=r<;>simp [h]<;>omega
def xAA {R:List Row} (hR:R.Nodup) (x:Row):R.countP (fun r=>decide (x=r))<=1:=by
 induction R with
 | nil=>simp
 | cons r R ih =>
  obtain ⟨n1,n2⟩:=List.nodup_cons.1 hR;rw [List.countP_cons];by_cases h:x=r
  . have:R.countP (fun r=>decide (x=r))=0:=List.countP_eq_zero.2 fun y hy=>by
     intro e;simp only [zm] at e;exact n1 (by rw [<-h,e];exact hy)
    rw [this];split<;>omega
  . have:=ih n2;simp [h];omega
def xoR:∀ (l:List Fc) (R:List Row),R.Nodup->(R.map fun r=>(xHo l r).length).sum<=l.length
 | [],R,_=>by
  have:∀ R:List Row,(R.map fun r=>(xHo [] r).length).sum=0:=fun R=>by
   induction R with
   | nil=>rfl
   | cons r R ih=>rw [zW,List.sum_cons,ih];rfl
  rw [this];exact zR _
 | f::l,R,h=>by
  rw [xwg,zG];have:=xoR l R h;have:=xAA h f.r;omega
def xoW {L:Row->List Per} {a b:List Fc}:∀ (R:List Row),(∀ r,r∈R->(L r).length<=(xHo a r).length+(xHo b r).length)->(xHn R L).length<=(R.map fun r=>(xHo a r).length).sum+(R.map fun r=>(xHo b r).length).sum
 | [],_=>by simp [xHn]
 | r::R,h=>by
  have ih:=xoW R fun x hx=>h x (by simp [hx])
  have h1:=h r (by simp)
  have e:xHn (r::R) L=((L r).map fun p=>(⟨r,p⟩:Fc))++xHn R L:=by simp [xHn]
  rw [e,z8,za,zW,zW,List.sum_cons,List.sum_cons];omega
def IsB (N:Row->Int->Nat) (B:List Fc):Prop:=∃ R L,xHE cmpR R/\(∀ r t,0<N r t->r∈R)/\(∀ r,r∈R->IsLevs (N r) (L r))/\B=xHn R L
def xm4 (L:Row->List Per):∀ R:List Row,xHn R L=xHn (R.filter fun r=>!(L r).isEmpty) L
 | []=>rfl
 | r::R=>by
  have ih:=xm4 L R;have e:∀ R:List Row,xHn (r::R) L=((L r).map fun p=>(⟨r,p⟩:Fc))++xHn R L:=fun R=>by simp [xHn]
  rw [List.filter_cons];cases h:L r with
  | nil=>rw [e,h,ih];simp
  | cons p ps =>
   simp only [List.isEmpty_cons,Bool.not_false,if_true];rw [e,e,ih]
def IsLevs.pos {N:Int->Nat} {P:List Per} (h:IsLevs N P):P≠[]↔∃ t,0<N t:=by
 constructor
 . intro hp;obtain ⟨p,hp⟩:=List.exists_mem_of_ne_nil P hp;refine ⟨p.1,?_⟩;rw [<-h.count];exact List.countP_pos_iff.2 ⟨p,hp,xn4 (h.valid p hp)⟩
 . rintro ⟨t,ht⟩ rfl;rw [<-h.count] at ht;simp at ht
def IsB.unique {N:Row->Int->Nat} {B B':List Fc} (h:IsB N B) (h':IsB N B'):B=B':=by
 obtain ⟨R,L,h1,h2,h3,rfl⟩:=h;obtain ⟨R',L',O,D,q,rfl⟩:=h';rw [xm4 L R,xm4 L' R'];have hm:∀ r,r∈R.filter (fun r=>!(L r).isEmpty)↔∃ t,0<N r t:=fun r=>by
  rw [List.mem_filter];constructor
  . rintro ⟨a,b⟩;exact (h3 r a).pos.1 (by simpa using b)
  . rintro ⟨t,ht⟩;have:=h2 r t ht;exact ⟨this,by have:=(h3 r this).pos.2 ⟨t,ht⟩;simpa using this⟩
 have hm':∀ r,r∈R'.filter (fun r=>!(L' r).isEmpty)↔∃ t,0<N r t:=fun r=>by
  rw [List.mem_filter];constructor
  . rintro ⟨a,b⟩;exact (q r a).pos.1 (by simpa using b)
  . rintro ⟨t,ht⟩;have:=D r t ht;exact ⟨this,by have:=(q r this).pos.2 ⟨t,ht⟩;simpa using this⟩
 have eR:R.filter (fun r=>!(L r).isEmpty)=R'.filter (fun r=>!(L' r).isEmpty) :=
  xmn xoV (fun _ _=>xlW) (h1.sublist List.filter_sublist) (O.sublist List.filter_sublist) fun r=>by rw [hm,hm']
 rw [<-eR];refine xn8 fun r hr=>?_
 have Q:=(List.mem_filter.1 hr).1;have J:=D r;obtain ⟨t,ht⟩:=(hm r).1 hr;exact (h3 r Q).unique (q r (J t ht))
def xHu.isB {l B:List Fc} (h:xHu l B):IsB (cnt l) B:=by
 obtain ⟨R,L,h1,h2,rfl⟩:=h;exact ⟨R,L,h1.1,fun r t ht=>(h1.2 r).2 (xnn.2 ⟨t,ht⟩),h2,rfl⟩
def IsB.cntB {N:Row->Int->Nat} {B:List Fc} (h:IsB N B) (r:Row) (t:Int):cnt B r t=N r t:=by
 obtain ⟨R,L,h1,h2,h3,rfl⟩:=h;rw [xnJ L r t R (h1.nodup xoV)];split
 . rename_i hr;exact (h3 r hr).count t
 . rename_i hr;cases hc:N r t with
   | zero=>rfl
   | succ n=>exact absurd (h2 r t (by omega)) hr
def IsB.valid {N:Row->Int->Nat} {B:List Fc} (h:IsB N B) {f:Fc} (hf:f∈B):pv f.p=true:=by
 obtain ⟨R,L,h1,h2,h3,rfl⟩:=h;obtain ⟨a,b⟩:=xnO hf;exact (h3 _ a).valid _ b
def IsB.congr {N M:Row->Int->Nat} {B:List Fc} (h:IsB N B) (e:∀ r t,N r t=M r t):IsB M B:=by
 rwa [show N=M from funext fun r=>funext fun t=>e r t] at h
def xzz {α β:Type} (es:List α) (d:α) (f:α->List β):(List.range es.length).flatMap (fun k=>f (es.getD k d))=es.flatMap f:=by
 have:(List.range es.length).map (fun k=>es.getD k d)=es:=by
  refine List.ext_getElem (by simp) fun n h1 h2=>?_
  simp [z7,h2]
 conv=>rhs;rw [<-this,List.flatMap_map]
def xoG {α β:Type} {f g:α->List β}:∀ {l:List α},(∀ a,a∈l->f a=g a)->l.flatMap f=l.flatMap g
 | [],_=>rfl
 | a::l,h=>by rw [zS,zS,h a (by simp),xoG fun b hb=>h b (by simp [hb])]
def Bld.perm {l l':List Fc} (h:Bld l) (hp:l'.Perm l):Bld l' :=
 ⟨⟨⟨by rw [hp.length_eq];exact h.1.1.1,fun f hf=>h.1.1.2 f (hp.mem_iff.1 hf)⟩,fun f hf=>h.1.2 f (hp.mem_iff.1 hf)⟩,by rw [hp.length_eq];exact h.2.1,h.2.2.of fun f hf=>⟨f,hp.mem_iff.1 hf,rfl⟩⟩
def xDJ {op:List AV->List AV->Option (List AV)} {g:Nat->Nat->Nat} (h:OpOk op g) {a b:List Fc} (ha:Keyed a) (hb:Keyed b) (hl:a.length+b.length<=1024) (ab:R20 (a++b)) :
  ∃ B:List Fc,cmbV op (a.map encF) (b.map encF)=some (B.map encF)/\IsB (fun r t=>g (cnt a r t) (cnt b r t)) B/\B.length<=a.length+b.length/\∀ f,f∈B->(∃ x,x∈a/\x.r=f.r)\/∃ x,x∈b/\x.r=f.r:=by
 have hE:=xDI a b;generalize ae:colT a b=es at hE;have J:colV (a.map encF) (b.map encF)=es.map encE:=by rw [xBW ha hb,ae]
 obtain ⟨L,hL⟩:=xtN (R:=es.map (·.1)) (Q:=fun r P=>lvOk op (encE (r,xHo a r,xHo b r))=true/\lvOf op (encE (r,xHo a r,xHo b r))=P.map encP/\IsLevs (fun t=>g (cnt a r t) (cnt b r t)) P/\P.length<=(xHo a r).length+(xHo b r).length) fun r hr=>by
  have l1:=xyF a r;have l2:=xyF b r;obtain ⟨P,p1,p2,p3,p4⟩:=xB2 h r (xHo a r) (xHo b r) (by omega) (by omega)
  refine ⟨P,p1,p2,?_,p4⟩;rwa [show (fun t=>g ((xHo a r).countP (hasP · t)) ((xHo b r).countP (hasP · t)))=fun t=>g (cnt a r t) (cnt b r t) from funext fun t=>by rw [xmT,xmT]] at p3
 have Y:∀ e,e∈es->e=(e.1,xHo a e.1,xHo b e.1):=fun e he=>by
  have h1:=hE.pa e he;have h2:=hE.pb e he;obtain ⟨x,y,z⟩:=e;simp only at h1 h2;rw [h1,h2]
 have aa:∀ e,e∈es->lvOk op (encE e)=true/\lvOf op (encE e)=(L e.1).map encP:=fun e he=>by
  have h1:=hL e.1 (zL.2 ⟨e,he,rfl⟩);rw [<-Y e he] at h1;exact ⟨h1.1,h1.2.1⟩
 have ad:∀ k,k<es.length->fkOf op (es.map encE) k=(mk (es.getD k defT).1 (L (es.getD k defT).1)).map encF:=fun k hk=>by
  have gd:es.getD k defT=es[k]:=by rw [z7,zf hk];rfl
  unfold fkOf;rw [xox hk,gd,(aa _ (zp hk)).2];unfold mk;rw [List.map_map,List.map_map];rfl
 have O:∀ ord:List Nat,(∀ k,k∈ord->k<es.length)->ord.flatMap (fkOf op (es.map encE))=(ord.flatMap fun k=>mk (es.getD k defT).1 (L (es.getD k defT).1)).map encF:=fun ord ho=>by
  rw [List.map_flatMap];exact xoG fun k hk=>ad k (ho k hk)
 have hF:(List.range es.length).flatMap (fun k=>mk (es.getD k defT).1 (L (es.getD k defT).1))=xHn (es.map (·.1)) L:=by
  rw [xzz es defT fun e=>mk e.1 (L e.1)]
  unfold xHn;rw [List.flatMap_map];rfl
 have D:flatOf op (es.map encE)=(xHn (es.map (·.1)) L).map encF:=by
  unfold flatOf;rw [za,O _ fun k hk=>List.mem_range.1 hk,hF]
 have Z:(xHn (es.map (·.1)) L).length<=a.length+b.length:=by
  have h1:=xoW (L:=L) (a:=a) (b:=b) (es.map (·.1)) fun r hr=>(hL r hr).2.2.2
  have h2:=xoR a _ hE.nd;have h3:=xoR b _ hE.nd;omega
 have q:∀ f,f∈xHn (es.map (·.1)) L->(∃ x,x∈a/\x.r=f.r)\/∃ x,x∈b/\x.r=f.r:=fun f hf=>(hE.mem _).1 (xnO hf).1
 have V:Bld (xHn (es.map (·.1)) L):=by
  refine ⟨⟨⟨by omega,fun f hf=>?_⟩,fun f hf=>?_⟩,by omega,ab.of fun f hf=>?_⟩
  . rcases q f hf with ⟨x,hx,e⟩|⟨x,hx,e⟩
    . rw [<-e];exact ha.1.2 x hx
    . rw [<-e];exact hb.1.2 x hx
  . rcases q f hf with ⟨x,hx,e⟩|⟨x,hx,e⟩
    . rw [<-e];exact ha.2 x hx
    . rw [<-e];exact hb.2 x hx
  . rcases q f hf with ⟨x,hx,e⟩|⟨x,hx,e⟩
    . exact ⟨x,zH.2 (.inl hx),e.symm⟩
    . exact ⟨x,zH.2 (.inr hx),e.symm⟩
 obtain ⟨B,b1,b2⟩:=xlT _ V;have W:∀ r t,cnt (xHn (es.map (·.1)) L) r t=g (cnt a r t) (cnt b r t):=fun r t=>by
  rw [xnJ L r t _ hE.nd];split
  . rename_i hr;exact (hL r hr).2.2.1.count t
  . rename_i hr;have:=hE.zero r fun c=>hr ((hE.mem r).2 c)
    rw [<-xmT a,<-xmT b,this.1,this.2];exact h.zero.symm
 refine ⟨B,?_,b2.isB.congr W,Nat.le_trans b2.len1 Z,fun f hf=>?_⟩
 . have ac:cmbOk op (a.map encF) (b.map encF)=true:=by
    unfold cmbOk;rw [J,xAu ha hb,D,b1];have c2:((List.range (es.map encE).length).all fun k=>lvOk op ((es.map encE).getD k defP))=true:=by
     simp only [zJ,List.mem_range,za];intro k hk;have gd:es.getD k defT=es[k]:=by rw [z7,zf hk];rfl
     rw [xox hk,gd];exact (aa _ (zp hk)).1
    have c3:((xHn (es.map (·.1)) L).map encF).length<=1099511627776:=by rw [za];omega
    have c4:∀ ord:List Nat,ord.Perm (List.range (es.map encE).length)->xak (ord.flatMap (fkOf op (es.map encE)))=some (B.map encF):=fun ord ho=>by
     rw [za] at ho;rw [O ord fun k hk=>List.mem_range.1 (ho.mem_iff.1 hk)]
     have hp:(ord.flatMap fun k=>mk (es.getD k defT).1 (L (es.getD k defT).1)).Perm (xHn (es.map (·.1)) L):=by
      rw [<-hF];exact ho.flatMap_right _
     obtain ⟨B',q1,q2⟩:=xlT _ (V.perm hp);rw [q1,q2.unique b2 fun r t=>xBV hp r t]
    rw [c2,decide_eq_true c3];simp only [Bool.true_and,zg,zm,zl,and_true];exact c4
   unfold cmbV;rw [ac];show xak (flatOf op (colV (a.map encF) (b.map encF)))=_;rw [J,D,b1]
 . obtain ⟨_,x,hx,e⟩:=b2.valid hf;rw [<-e];exact q x hx
end Go.Sim.M
namespace Go.Sim.M
open Go.RowKit
def pB (c:UInt8):Bool:=decide (32<=c.toNat)&&decide (c.toNat<=126)
def vOk (k i:Int) (t:List UInt8):Bool:=if k=0 then i==0&&t==[] else if k=1 then t==[]&&(decide (-1125899906842624<=i)&&decide (i<=1125899906842624)) else if k=2 then i==0&&(decide (t.length<=200)&&t.all pB) else if k=3 then t==[]&&(i==0 || i==1) else false
def xtv {step:Int->Option (Int⊕(Bool×Bool×Unit))} (s:List UInt8)
  (hs:∀ k (h:k<s.length),step (k:Int)=if pB s[k]=true then some (.inl ((k+1:Nat):Int)) else some (.inr (true,false,()))) (he:step (s.length:Int)=some (.inr (false,false,()))) :
  ∀ d k:Nat,k+d=s.length->Iter step (k:Int)=some (!((s.drop k).all pB),false,())
 | 0,k,h=>by
  have hk:k=s.length:=by omega
  subst hk;rw [xah he];simp
 | d+1,k,h=>by
  have hk:k<s.length:=by omega
  have h1:=hs k hk;rw [xed hk,List.all_cons];cases c:pB s[k] with
  | true =>
   rw [c,if_pos rfl] at h1;rw [xaq h1,xtv s hs he d (k+1) (by omega)];simp
  | false =>
   rw [c,if_neg (by simp)] at h1
   rw [xah h1];simp
def xqP {s:List UInt8} {k:Nat} (h:k<s.length):(s.getD k (0:UInt8))=s[k]:=by rw [z7,zf h];rfl
def xBl (s:List UInt8) (hl:s.length<=1048576):xhP s=some (s.all pB):=by
 have e:=xtv (step:=xaC s) s (fun k h=>by
  have h1:(k:Int)<(s.length:Int):=by omega
  by_cases c1:((s[k].toNat:Nat):Int)<32
  . have:pB s[k]=false:=by unfold pB;simp;omega
    simp only [xaC,xck,sBU,h1,xqP h,c1,this];simp
  . by_cases c2:((s[k].toNat:Nat):Int)>126
    . have:pB s[k]=false:=by unfold pB;simp;omega
      simp only [xaC,xck,sBU,h1,xqP h,c1,c2,this];simp
    . have:pB s[k]=true:=by unfold pB;simp;omega
      simp only [xaC,xck,sBU,h1,xqP h,c1,c2,this,xHp (n:=k) (by omega)];simp) (by simp only [xaC,xck,zz,zn,xad,sUF]) s.length 0 (by omega)
 have e:Iter (xaC s) (0:Int)=_:=e;unfold xhP xiX;rw [e,zt];cases s.all pB<;>rfl
def xyJ (k i:Int) (t:List UInt8):xhw k i t=some (vOk k i t):=by
 unfold xhw xmf vOk;by_cases k0:k=0
 . by_cases i0:i=0<;>simp [xaR,k0,i0,sUF]
 by_cases k1:k=1
 . by_cases t0:t=[]<;>by_cases i0:i>=-1125899906842624<;>simp [xaR,k1,t0,i0,sUF]
 by_cases k2:k=2
 . by_cases i0:i=0<;>by_cases tl:t.length<=200
   . have tl':(t.length:Int)<=200:=by omega
     simp [xaR,k2,i0,tl,tl',xBl t (by omega),sUF]
   . have tl':¬(t.length:Int)<=200:=by omega
     simp [xaR,k2,i0,tl,tl',sUF]
   . simp [xaR,k2,i0,sUF]
   . simp [xaR,k2,i0,sUF]
 by_cases k3:k=3
 . by_cases t0:t=[]<;>by_cases i0:i=0<;>simp [xaR,k3,t0,i0,sUF]
 simp [xaR,k0,k1,k2,k3,sUF]
def VT (x:Int×Int×List UInt8):Prop:=x.2.2.length<=200/\-1125899906842624<=x.2.1/\x.2.1<=1125899906842624
def vt0:VT (0,0,[]):=by unfold VT;simp
def xs0 {k i:Int} {t:List UInt8} (h:vOk k i t=true):VT (k,i,t):=by
 unfold vOk at h;unfold VT;dsimp only;split at h
 . simp only [zg,beq_iff_eq] at h;rw [h.1,h.2];simp
 split at h
 . simp only [zg,beq_iff_eq,zm] at h;rw [h.1];exact ⟨by simp,h.2.1,h.2.2⟩
 split at h
 . simp only [zg,beq_iff_eq,zm] at h;rw [h.1];exact ⟨h.2.1,by omega,by omega⟩
 split at h
 . simp only [zg,Bool.or_eq_true,beq_iff_eq] at h;rw [h.1];exact ⟨by simp,by omega,by omega⟩
 . simp at h
open Go.Sim.Srt
def inRg (v:Val):Prop:=vOk v.k v.i v.t=true
def TVal (v:Val):Prop:=v.wf/\v.t.length<=1073741824
def wf64 {n:Int} (h1:-9223372036854775808<=n) (h2:n<=9223372036854775807):(Lit.int .i64 n).wf=true:=by
 show (decide ((IntKind.i64).min<=n)&&decide (n<=(IntKind.i64).max))=true;rw [zg,zm,zm];exact ⟨h1,h2⟩
def sV0 (v:Val):xH6 (Sh.int .i64) ((encV v).cells.getD 0 .top)=true:=rfl
def xHJ (v:Val):Prop:=TVal v/\inRg v
def xEd (k i:Int) (t:List UInt8):∃ b,xhw k i t=some b/\(b=true->xHJ ⟨k,i,t⟩):=by
 refine ⟨vOk k i t,xyJ k i t,fun h=>?_⟩
 have h1:t.length<=200/\-1125899906842624<=i/\i<=1125899906842624:=xs0 h;have h2:0<=k/\k<=3:=by
  unfold vOk at h;repeat' split at h
  all_goals first|omega|simp at h
 exact ⟨⟨⟨wf64 (show -9223372036854775808<=k by omega) (show k<=9223372036854775807 by omega),wf64 (show -9223372036854775808<=i by omega) (show i<=9223372036854775807 by omega),by show t.length<=maxLen;unfold maxLen;omega⟩,by show t.length<=_;omega⟩,h⟩
def xtU (row:Row) (q:List Int) (hl:row.length=q.length) (hk:q.length<=48):∀ d n:Nat,n+d=row.length->∃ b,Iter (xaP (row.map encV) (q.map encN)) (n:Int)=some (!b,false,())/\(b=true->∀ v,v∈row.drop n->xHJ v)
 | 0,n,h=>by
  have hn:n=row.length:=by omega
  subst hn;refine ⟨true,xah ?_,fun _ v hv=>by rw [zr (zd _)] at hv;simp at hv⟩
  simp only [xaP,xds,za,zz,zn,xad,Bool.not_true,sUF]
 | d+1,n,h=>by
  have hn:n<row.length:=by omega
  have D:n<q.length:=by omega
  have h1:(n:Int)<(row.length:Int):=by omega
  have h2:(n:Int)<(q.length:Int):=by omega
  have gf:(row.map encV).getD n .top=encV row[n]:=xac _ _ _ hn;have gk:(q.map encN).getD n .top=encN q[n]:=xac _ _ _ D;obtain ⟨b1,e1,g1⟩:=xEd row[n].k row[n].i row[n].t;cases b1 with
  | false =>
   refine ⟨false,xah ?_,fun h=>by simp at h⟩
   simp only [xaP,xds,xdZ,sBU,hn,h1,gf,cV0,cV1,cV2,lV,sV,e1]
  | true =>
   obtain ⟨b,ih,J⟩:=xtU row q hl hk d (n+1) (by omega)
   have hd:∀ c,c=true->b=c->∀ v,v∈row.drop n->xHJ v:=fun c hc hb v hv=>by
    rw [xed hn] at hv;rcases zD.1 hv with rfl|hv
    . exact g1 rfl
    . exact J (by rw [hb,hc]) v hv
   by_cases k0:row[n].k=0
   . refine ⟨b,?_,fun hb=>hd true rfl hb⟩
     rw [<-ih];refine xaq ?_;have k0':(row[n].k != 0)=false:=by simp [k0]
     simp only [xaP,xds,xdZ,sBU,hn,h1,gf,cV0,cV1,cV2,lV,sV,sV0,e1,k0',xHp (n:=n) (by omega)]
   . have k0':(row[n].k != 0)=true:=by simp [k0]
     by_cases kk:row[n].k=q[n]
     . refine ⟨b,?_,fun hb=>hd true rfl hb⟩
       rw [<-ih];refine xaq ?_;have kk':(row[n].k != q[n])=false:=by simp [kk]
       simp only [xaP,xds,xdZ,sBU,hn,D,h1,h2,gf,gk,cV0,cV1,cV2,lV,sV,cN,sN,sV0,e1,k0',kk',xHp (n:=n) (by omega)]
     . have kk':(row[n].k != q[n])=true:=by simp [kk]
       refine ⟨false,xah ?_,fun h=>by simp at h⟩
       simp only [xaP,xds,xdZ,sBU,hn,D,h1,h2,gf,gk,cV0,cV1,cV2,lV,sV,cN,sN,sV0,e1,k0',kk']
def xCI (row:Row) (q:List Int) (hk:q.length<=48):∃ b,xmM (row.map encV) (q.map encN)=some b/\(b=true->row.length=q.length/\∀ v,v∈row->xHJ v):=by
 unfold xmM xne;by_cases hl:row.length=q.length
 . obtain ⟨b,e,g⟩:=xtU row q hl hk row.length 0 (by omega)
   have e:Iter (xaP (row.map encV) (q.map encN)) (0:Int)=_:=e;refine ⟨b,?_,fun hb=>⟨hl,by simpa using g hb⟩⟩
   rw [e];simp only [sBU,hl,bne_self_eq_false];cases b<;>rfl
 . refine ⟨false,?_,fun h=>by simp at h⟩
   have:(((row.length:Nat):Int) != ((q.length:Nat):Int))=true:=by simp;omega
   simp only [za,this,xaa,sUF]
def xt4 (q:List Int) (hk:q.length<=48):∀ d n:Nat,n+d=q.length->∃ b,Iter (xa7 (q.map encN)) (n:Int)=some (b,false,())
 | 0,n,h=>by
  have hn:n=q.length:=by omega
  subst hn;refine ⟨false,xah ?_⟩;simp only [xa7,xfy,za,zz,zn,xad,sUF]
 | d+1,n,h=>by
  have hn:n<q.length:=by omega
  have h1:(n:Int)<(q.length:Int):=by omega
  have gk:(q.map encN).getD n .top=encN q[n]:=xac _ _ _ hn;cases c:xpd q[n] with
  | false =>
   refine ⟨true,xah ?_⟩;simp only [xa7,xfy,sBU,hn,h1,gk,cN,sN,c]
  | true =>
   obtain ⟨b,ih⟩:=xt4 q hk d (n+1) (by omega)
   refine ⟨b,?_⟩;rw [<-ih];refine xaq ?_;simp only [xa7,xfy,sBU,hn,h1,gk,cN,sN,c,xHp (n:=n) (by omega)]
def xzH (q:List Int) (hk:q.length<=48):∃ b,xlK (q.map encN)=some b:=by
 obtain ⟨b,e⟩:=xt4 q hk q.length 0 (by omega)
 have e:Iter (xa7 (q.map encN)) (0:Int)=some (b,false,()):=e;unfold xlK xmh;rw [e];cases b with
 | true=>exact ⟨false,rfl⟩
 | false=>exact ⟨true,rfl⟩
def FactOk (q:List Int) (f:Fc):Prop:=pv f.p=true/\f.r.length=q.length/\∀ v,v∈f.r->xHJ v
def xsX (q:List Int) (hk:q.length<=48) (l:List Fc) (hl:l.length<=1024):∀ d n:Nat,n+d=l.length ->
  ∃ b,Iter xa8 ((n:Int),q.map encN,l.map encF)=some (if b=true then (false,(false,[],[]),(q.map encN,l.map encF)) else (true,(false,q.map encN,l.map encF),([],[])))/\(b=true->∀ f,f∈l.drop n->FactOk q f)
 | 0,n,h=>by
  have hn:n=l.length:=by omega
  subst hn;refine ⟨true,xah ?_,fun _ v hv=>by rw [zr (zd _)] at hv;simp at hv⟩
  simp only [xa8,xd4,za,zz,zn,xad,if_true,sUF]
 | d+1,n,h=>by
  have hn:n<l.length:=by omega
  have h1:(n:Int)<(l.length:Int):=by omega
  have gf:(l.map encF).getD n .top=encF l[n]:=xac _ _ _ hn;obtain ⟨b1,e1,g1⟩:=xCI l[n].r q hk;cases hv:pv l[n].p with
  | false =>
   refine ⟨false,xah ?_,fun h=>by simp at h⟩
   simp only [xa8,xd4,sBU,hn,h1,gf,cF0,cF1,cF2,sF0,sF1,sF2,lF,sF12,sF02,xn1,hv,if_false];simp
  | true =>
   cases b1 with
   | false =>
    refine ⟨false,xah ?_,fun h=>by simp at h⟩
    simp only [xa8,xd4,sBU,hn,h1,gf,cF0,cF1,cF2,sF0,sF1,sF2,lF,sF12,sF02,xn1,hv,e1];simp
   | true =>
    obtain ⟨b,ih,D⟩:=xsX q hk l hl d (n+1) (by omega)
    refine ⟨b,?_,fun hb f hf=>?_⟩
    . rw [<-ih];refine xaq ?_;simp only [xa8,xd4,sBU,hn,h1,gf,cF0,cF1,cF2,sF0,sF1,sF2,lF,sF12,sF02,xn1,hv,e1,xHp (n:=n) (by omega)]
    . rw [xed hn] at hf;rcases zD.1 hf with rfl|hf
      . exact ⟨hv,g1 rfl⟩
      . exact D hb f hf
def xCS (q:List Int) (hk:q.length<=48) (l:List Fc) (hl:l.length<=1024):∃ b,xlL (q.map encN) (l.map encF)=some b/\(b=true->∀ f,f∈l->FactOk q f):=by
 obtain ⟨b,e,g⟩:=xsX q hk l hl l.length 0 (by omega)
 have e:Iter xa8 ((0:Int),q.map encN,l.map encF)=_:=e;obtain ⟨bk,ek⟩:=xzH q hk;unfold xlL xmj;cases b with
 | false =>
  rw [if_neg (by simp)] at e
  refine ⟨false,?_,fun h=>by simp at h⟩
  simp only [xgK,xde,sBU,e]
 | true =>
  rw [if_pos rfl] at e;have h1:((q.length:Nat):Int)<=48:=by omega
  by_cases h0:((q.length:Nat):Int)>0
  . refine ⟨bk,?_,fun _ f hf=>g rfl f (by simpa using hf)⟩
    simp only [xgK,xde,sBU,e,h0,h1,ek]
  . refine ⟨false,?_,fun h=>by simp at h⟩
    simp only [xgK,xde,sBU,e,h0]
structure SR1 (K:List Int) (l:List Fc):Prop where
 len:l.length<=16
 kl:K.length<=48
 fact:∀ f,f∈l->FactOk K f
def Nice (l:List Fc):Prop:=∀ f,f∈l->f.r.length<=48/\∀ v,v∈f.r->xHJ v
def Nice.keyed {l:List Fc} (h:Nice l) (hl:l.length<=1048576):Keyed l :=
 ⟨⟨hl,fun f hf=>by have:=(h f hf).1;omega⟩,fun f hf=>⟨fun v hv=>⟨((h f hf).2 v hv).1.1,by have:=((h f hf).2 v hv).1.2;omega⟩,xAx (fun v hv=>((h f hf).2 v hv).1) (by have:=(h f hf).1;omega)⟩⟩
def Nice.few {l:List Fc} (h:Nice l) (hl:l.length<=1048576):Few l:=(h.keyed hl).1
def Nice.append {a b:List Fc} (ha:Nice a) (hb:Nice b):Nice (a++b):=fun f hf=>by
 rcases zH.1 hf with h|h
 . exact ha f h
 . exact hb f h
def Nice.of {a b l:List Fc} (ha:Nice a) (hb:Nice b) (h:∀ f,f∈l->(∃ x,x∈a/\x.r=f.r)\/∃ x,x∈b/\x.r=f.r):Nice l:=fun f hf=>by
 rcases h f hf with ⟨x,hx,e⟩|⟨x,hx,e⟩
 . rw [<-e];exact ha x hx
 . rw [<-e];exact hb x hx
end Go.Sim.M
namespace Go.Sim.M
open Go.RowKit
def xBC (s:List UInt8) (hl:s.length<=1048576):xhW s=some (s.all pB):=by
 have e:=xtv (step:=xaD s (s.length:Int)) s (fun k h=>by
  have h1:(k:Int)<(s.length:Int):=by omega
  by_cases c1:((s[k].toNat:Nat):Int)<32
  . have:pB s[k]=false:=by unfold pB;simp;omega
    simp only [xaD,xcu,sBU,h1,xqP h,c1,this];simp
  . by_cases c2:((s[k].toNat:Nat):Int)>126
    . have:pB s[k]=false:=by unfold pB;simp;omega
      simp only [xaD,xcu,sBU,h1,xqP h,c1,c2,this];simp
    . have:pB s[k]=true:=by unfold pB;simp;omega
      simp only [xaD,xcu,sBU,h1,xqP h,c1,c2,this,xHp (n:=k) (by omega)];simp) (by simp only [xaD,xcu,zz,zn,xad,sUF]) s.length 0 (by omega)
 have e:Iter (xaD s (s.length:Int)) (0:Int)=_:=e;unfold xhW xi7;rw [e,zt];cases s.all pB<;>rfl
def xtI (k i:Int) (t:List UInt8):xgi k i t=some (vOk k i t):=by
 unfold xgi xmp vOk;by_cases k0:k=0
 . by_cases i0:i=0<;>simp [xaR,k0,i0,sUF]
 by_cases k1:k=1
 . by_cases t0:t=[]<;>by_cases i0:i>=-1125899906842624<;>simp [xaR,k1,t0,i0,sUF]
 by_cases k2:k=2
 . by_cases i0:i=0<;>by_cases tl:t.length<=200
   . have tl':(t.length:Int)<=200:=by omega
     simp [xaR,k2,i0,tl,tl',xBC t (by omega),sUF]
   . have tl':¬(t.length:Int)<=200:=by omega
     simp [xaR,k2,i0,tl,tl',sUF]
   . simp [xaR,k2,i0,sUF]
   . simp [xaR,k2,i0,sUF]
 by_cases k3:k=3
 . by_cases t0:t=[]<;>by_cases i0:i=0<;>simp [xaR,k3,t0,i0,sUF]
 simp [xaR,k0,k1,k2,k3,sUF]
def xsH (k i:Int) (t:List UInt8):Ans VT (xdA k i t):=by
 unfold xdA xlD;rw [xtI];simp only [zl,zi,xaa,sUF];refine Ans.br (fun _=>Ans.some vt0) (fun h=>Ans.some ?_)
 exact xs0 (by simpa using h)
def xjU (n:Int):Ans VT (xaQ n):=by
 obtain ⟨r,e,h⟩:=xsH 1 n [];unfold xaQ xos;rw [e];exact Ans.some h
def xBD (s:List UInt8):Ans VT (xmP s):=by
 obtain ⟨r,e,h⟩:=xsH 2 0 s;unfold xmP xnA xmo;rw [e];exact Ans.some h
def xsb (b:Bool):VT (xct b):=by cases b<;>simp [VT,xct,br,sUF]
def xBB (t:Int):VT (xjT t):=by
 unfold xjT;rw [xaR];split
 . exact vt0
 . exact xsb _
def xt5 (a b:Int):Ans (fun _=>True) (xhC [.int .i64 a,.int .i64 b]):=by
 obtain ⟨r,e,_⟩:=xdV (step:=xfH [.int .i64 a,.int .i64 b] (([AV.int .i64 a,AV.int .i64 b].length:Nat):Int)) (fun k s=>s.2=(k:Int)) 2 (fun _=>True) (fun k s hk hi=>by
  obtain ⟨x,i⟩:=s;dsimp only at hi;subst hi;have hh:k=0\/k=1:=by omega
  rcases hh with rfl|rfl
  . exact Stp.inl rfl
  . exact Stp.inl rfl) (fun s hi=>by
  obtain ⟨x,i⟩:=s;dsimp only at hi;subst hi;exact Stp.inr trivial) 2 0 ((2:Int),(0:Int)) rfl rfl
 unfold xhC xmq;rw [e];exact Ans.some trivial
def xDs (a b:Int):Ans (fun _=>True) (xqC a b):=by
 obtain ⟨r,e,_⟩:=xt5 a b;unfold xqC xor;rw [e];exact Ans.some trivial
def xFY (a b:Int):Ans (fun _=>True) (xsa a b):=by
 obtain ⟨r,e,_⟩:=xt5 (xca a) (xca b);unfold xsa xpp;rw [e];exact Ans.some trivial
def Sv (vs:List Val):Prop:=∀ v,v∈vs->VT (v.k,v.i,v.t)
def Sv.get {vs:List Val} (h:Sv vs) {k:Nat} (hk:k<vs.length):VT (vs[k].k,vs[k].i,vs[k].t):=h _ (zp hk)
def Sv.of {vs ws:List Val} (h:Sv vs) (hs:∀ v,v∈ws->v∈vs):Sv ws:=fun v hv=>h v (hs v hv)
def xF5 (row:Row) (i:Int) (hl:row.length<=1048576):Ans (fun x=>∀ k:Nat,i=(k:Int)->∀ h:k<row.length,x=(row[k].k,row[k].i,row[k].t)) (xpn (row.map encV) i):=by
 unfold xpn xpo;by_cases h0:i<0
 . simp only [h0,zo,xaa,sUF];exact Ans.some fun k hk=>by omega
 . obtain ⟨k,rfl⟩:∃ k:Nat,i=(k:Int):=⟨i.toNat,by omega⟩
   by_cases h1:k<row.length
   . have h2:¬((k:Int)>=(row.length:Int)):=by omega
     have h3:(k:Int)<(row.length:Int):=by omega
     have gf:(row.map encV).getD k .top=encV row[k]:=xac _ _ _ h1;simp only [h0,h2,h3,h1,gf,zn,xad,sBU,cV0,cV1,cV2,lV,sV];exact Ans.some fun k' q h=>by
      obtain rfl:k=k':=by omega
      rfl
   . have h2:(k:Int)>=(row.length:Int):=by omega
     simp only [h0,h2,zn,xad,sBU];exact Ans.some fun k' q h=>by omega
def xD6 (row:Row) (i:Int) (hl:row.length<=1048576):Ans (fun l=>∃ v:Val,l=[encV v]/\∀ k:Nat,i=(k:Int)->∀ h:k<row.length,v=row[k]) (xiQ (row.map encV) [.int .i64 i]):=by
 obtain ⟨x,e,hx⟩:=xF5 row i hl;have e1:xdh (row.map encV) [.int .i64 i] (([AV.int .i64 i].length:Nat):Int) ((0:Nat),(0:Int),[])=some (.inl (1,1,[encV ⟨x.1,x.2.1,x.2.2⟩])):=by
  simp only [xdh,xla,xhc,sUF];have:([AV.int .i64 i].getD (0:Int).toNat AV.top).cells.getD 0 .top=.int .i64 i:=rfl;simp only [this,toIE,e];rfl
 have e2:xdh (row.map encV) [.int .i64 i] (([AV.int .i64 i].length:Nat):Int) ((1:Nat),(1:Int),[encV ⟨x.1,x.2.1,x.2.2⟩])=some (.inr (1,[encV ⟨x.1,x.2.1,x.2.2⟩])):=rfl;have e3:=(xaq e1).trans (xah e2);refine ⟨[encV ⟨x.1,x.2.1,x.2.2⟩],?_,⟨x.1,x.2.1,x.2.2⟩,rfl,fun k hk h=>by rw [hx k hk h]⟩
 unfold xiQ xnz;simp only [xhq,e3,sUF];rfl
def xtP (row:Row) (i:Int) (hl:row.length<=1048576):Ans (fun x=>VT x/\∀ k:Nat,i=(k:Int)->∀ h:k<row.length,vOk row[k].k row[k].i row[k].t=true->x=(row[k].k,row[k].i,row[k].t)) (xhs (row.map encV) i):=by
 obtain ⟨l,e,v,rfl,hv⟩:=xD6 row i hl;unfold xhs xl7;have c:([encV v].getD 0 AV.top)=encV v:=rfl;simp only [xlo,xch,e,c,cV0,cV1,cV2,lV,sV,xtI,zl,zi,xaa,sUF];cases hb:vOk v.k v.i v.t with
 | false =>
  refine ⟨_,rfl,vt0,fun k hk h ho=>?_⟩
  rw [<-hv k hk h,hb] at ho;simp at ho
 | true =>
  refine ⟨_,rfl,xs0 hb,fun k hk h ho=>?_⟩
  rw [<-hv k hk h]
def xAB {op n:Int} (h:(xht op n).1=true):(op=1\/op=2\/1<=n)/\(op=22->n=3)/\(op=24->n=4)/\(op=1\/op=2\/op=4\/op=18\/op=20\/op=21\/op=23\/2<=n):=by
 unfold xht at h;simp only [xaR,apply_ite Prod.fst,beq_iff_eq,sUF] at h;by_cases e:op=1
 . rw [if_pos e] at h;simp only [beq_iff_eq,zm] at h;omega
 rw [if_neg e] at h;clear e;by_cases e:op=2
 . rw [if_pos e] at h;simp only [beq_iff_eq,zm] at h;omega
 rw [if_neg e] at h;clear e;by_cases e:op=4
 . rw [if_pos e] at h;simp only [beq_iff_eq,zm] at h;omega
 rw [if_neg e] at h;clear e;by_cases e:op=18
 . rw [if_pos e] at h;simp only [beq_iff_eq,zm] at h;omega
 rw [if_neg e] at h;clear e;by_cases e:op=20
 . rw [if_pos e] at h;simp only [beq_iff_eq,zm] at h;omega
 rw [if_neg e] at h;clear e;by_cases e:op=21
 . rw [if_pos e] at h;simp only [beq_iff_eq,zm] at h;omega
 rw [if_neg e] at h;clear e;by_cases e:op=7
 . rw [if_pos e] at h;simp only [beq_iff_eq,zm] at h;omega
 rw [if_neg e] at h;clear e;by_cases e:op=8
 . rw [if_pos e] at h;simp only [beq_iff_eq,zm] at h;omega
 rw [if_neg e] at h;clear e;by_cases e:op=9
 . rw [if_pos e] at h;simp only [beq_iff_eq,zm] at h;omega
 rw [if_neg e] at h;clear e;by_cases e:op=10
 . rw [if_pos e] at h;simp only [beq_iff_eq,zm] at h;omega
 rw [if_neg e] at h;clear e;by_cases e:op=11
 . rw [if_pos e] at h;simp only [beq_iff_eq,zm] at h;omega
 rw [if_neg e] at h;clear e;by_cases e:op=12
 . rw [if_pos e] at h;simp only [beq_iff_eq,zm] at h;omega
 rw [if_neg e] at h;clear e;by_cases e:op=13
 . rw [if_pos e] at h;simp only [beq_iff_eq,zm] at h;omega
 rw [if_neg e] at h;clear e;by_cases e:op=14
 . rw [if_pos e] at h;simp only [beq_iff_eq,zm] at h;omega
 rw [if_neg e] at h;clear e;by_cases e:op=15
 . rw [if_pos e] at h;simp only [beq_iff_eq,zm] at h;omega
 rw [if_neg e] at h;clear e;by_cases e:op=16
 . rw [if_pos e] at h;simp only [beq_iff_eq,zm] at h;omega
 rw [if_neg e] at h;clear e;by_cases e:op=17
 . rw [if_pos e] at h;simp only [beq_iff_eq,zm] at h;omega
 rw [if_neg e] at h;clear e;by_cases e:op=19
 . rw [if_pos e] at h;simp only [beq_iff_eq,zm] at h;omega
 rw [if_neg e] at h;clear e;by_cases e:op=5
 . rw [if_pos e] at h;simp only [beq_iff_eq,zm] at h;omega
 rw [if_neg e] at h;clear e;by_cases e:op=6
 . rw [if_pos e] at h;simp only [beq_iff_eq,zm] at h;omega
 rw [if_neg e] at h;clear e;by_cases e:op=22
 . rw [if_pos e] at h;simp only [beq_iff_eq,zm] at h;omega
 rw [if_neg e] at h;clear e;by_cases e:op=23
 . rw [if_pos e] at h;simp only [beq_iff_eq,zm] at h;omega
 rw [if_neg e] at h;clear e;by_cases e:op=24
 . rw [if_pos e] at h;simp only [beq_iff_eq,zm] at h;omega
 rw [if_neg e] at h;clear e;simp at h
def xzc (op i vk vi:Int) (vt nm:List UInt8) (ar:List AV):Ans (fun b=>b=true->(xht op ar.length).1=true/\(op=1->VT (vk,vi,vt))) (xjb op i vk vi vt nm ar):=by
 unfold xjb xl8;simp only [xtI,zl,zi,xaa,sUF];refine Ans.br (fun _=>Ans.some (by simp)) (fun h=>?_)
 have h:(xht op ar.length).1=true:=by simpa using h
 refine Ans.br (fun _=>Ans.some (by simp)) (fun _=>Ans.br (fun _=>Ans.br (fun _=>Ans.some fun hv=>⟨h,fun _=>xs0 hv⟩) (fun _=>Ans.some (by simp))) (fun h1=>?_))
 have h1:op≠1:=by simpa using h1
 repeat' (first|exact Ans.some (fun _=>⟨h,fun ho=>absurd ho h1⟩)|refine Ans.br (fun _=>?_) (fun _=>?_))
def xzD (rel:Int) (vs:List Val) (h:vs.length=4):Ans VT (xgG rel (vs.map encV)):=by
 match vs,h with
 | [a,b,c,d],_ =>
  have g0:([encV a,encV b,encV c,encV d].getD 0 AV.top)=encV a:=rfl;have g1:([encV a,encV b,encV c,encV d].getD 1 AV.top)=encV b:=rfl;have g2:([encV a,encV b,encV c,encV d].getD 2 AV.top)=encV c:=rfl;have g3:([encV a,encV b,encV c,encV d].getD 3 AV.top)=encV d:=rfl;unfold xgG xlq;simp only [zW,zX,g0,g1,g2,g3,xhL,xkt,xhM,xhN,cV0,cV1,cV2,lV,sV,sUF];refine Ans.br (fun _=>?_) (fun h=>by simp at h)
  refine Ans.br (fun _=>?_) (fun h=>by simp at h)
  refine Ans.br (fun _=>?_) (fun h=>by simp at h)
  refine Ans.br (fun _=>?_) (fun h=>by simp at h)
  refine Ans.br (fun _=>?_) (fun h=>by simp at h)
  refine Ans.br (fun _=>?_) (fun h=>by simp at h)
  refine Ans.br (fun _=>?_) (fun h=>by simp at h)
  refine Ans.br (fun _=>?_) (fun h=>by simp at h)
  refine Ans.br (fun _=>Ans.some (vt0)) (fun _=>?_)
  refine Ans.br (fun _=>Ans.some (vt0)) (fun _=>?_)
  exact Ans.br (fun _=>Ans.some (vt0)) (fun _=>Ans.some (xsb _))
def xH3 (vs:List Val) (hl:vs.length<=1048576) (t:Int):Ans (fun _=>True) (Iter (xeg (vs.map encV) (((vs.map encV).length:Nat):Int)) (t,(0:Int),(0:Int),(0:Int),[])):=by
 refine xdV (fun k s=>∃ t,s=(t,(k:Int),0,0,[])) vs.length _ (fun k s hk hi=>?_) (fun s hi=>?_) vs.length 0 _ (by omega) ⟨t,rfl⟩
 . obtain ⟨t,rfl⟩:=hi;have h1:(k:Int)<(vs.length:Int):=by omega
   have gf:(vs.map encV).getD k .top=encV vs[k]:=xac _ _ _ hk;obtain ⟨r,e,_⟩:=xDs t (xdm vs[k].k vs[k].i vs[k].t);simp only [xeg,xhJ,xjL,sBU,h1,hk,gf,cV0,cV1,cV2,lV,sV,e,xHp (n:=k) (by omega)]
   exact Stp.inl ⟨_,rfl⟩
 . obtain ⟨t,rfl⟩:=hi;simp only [xeg,xhJ,za,zz,zn,xad,sUF];exact Stp.inr trivial
def xH4 (vs:List Val) (hl:vs.length<=1048576) (t:Int):Ans (fun _=>True) (Iter (xeh (vs.map encV) (((vs.map encV).length:Nat):Int)) (t,(0:Int),(0:Int),(0:Int),[])):=by
 refine xdV (fun k s=>∃ t,s=(t,(k:Int),0,0,[])) vs.length _ (fun k s hk hi=>?_) (fun s hi=>?_) vs.length 0 _ (by omega) ⟨t,rfl⟩
 . obtain ⟨t,rfl⟩:=hi;have h1:(k:Int)<(vs.length:Int):=by omega
   have gf:(vs.map encV).getD k .top=encV vs[k]:=xac _ _ _ hk;obtain ⟨r,e,_⟩:=xFY t (xdm vs[k].k vs[k].i vs[k].t);simp only [xeh,xhK,xjM,sBU,h1,hk,gf,cV0,cV1,cV2,lV,sV,e,xHp (n:=k) (by omega)]
   exact Stp.inl ⟨_,rfl⟩
 . obtain ⟨t,rfl⟩:=hi;simp only [xeh,xhK,za,zz,zn,xad,sUF];exact Stp.inr trivial
def xCm (op:Int) (vs:List Val) (h0:1<=vs.length) (hl:vs.length<=1048576):Ans VT (xkq op (vs.map encV)):=by
 have gf:(vs.map encV).getD 0 .top=encV vs[0]:=xac _ _ _ h0;have tt:List.take ((vs.map encV).length - 1) (List.drop 1 (vs.map encV))=((vs.drop 1).take (vs.length - 1)).map encV:=by simp
 obtain ⟨r0,e0,_⟩:=xH3 ((vs.drop 1).take (vs.length - 1)) (by simp;omega) (xdm vs[0].k vs[0].i vs[0].t)
 obtain ⟨r1,e1,_⟩:=xH4 ((vs.drop 1).take (vs.length - 1)) (by simp;omega) (xdm vs[0].k vs[0].i vs[0].t)
 have p0:(0:Int)<(vs.length:Int):=by omega
 have p1:(1:Int)<=(vs.length:Int):=by omega
 have p2:0<vs.length:=h0;unfold xkq xm3;simp only [xjs,xjt,xl9,xma,xju,xjv,tt,gf,cV0,cV1,cV2,lV,sV,sUF];simp only [e0,e1];simp only [za,p0,p1,p2,zo,zT,Bool.true_and,zl,xaa,sUF];repeat' (first|exact Ans.some (xBB _)|refine Ans.br (fun _=>?_) (fun _=>?_))
def xB6 (op:Int) (vs:List Val) (hs:Sv vs) (hl:vs.length<=1048576):Ans VT (xlY op (vs.map encV)):=by
 obtain ⟨r,e,hr⟩:=xdV (step:=xeS op (vs.map encV) (((vs.map encV).length:Nat):Int)) (fun k s=>∃ n t,t.length<=200*k/\s=(n,t,(k:Int),0,0,[])) vs.length (fun r=>VT r.2.1.2.2) (fun k s hk hi=>by
  obtain ⟨n,t,ht,rfl⟩:=hi;have h1:(k:Int)<(vs.length:Int):=by omega
  have gf:(vs.map encV).getD k .top=encV vs[k]:=xac _ _ _ hk;have hv:vs[k].t.length<=200:=(hs.get hk).1;have m:t.length+vs[k].t.length<=4611686018427387904:=by omega
  simp only [xeS,xiB,sBU,h1,hk,gf,cV0,cV1,cV2,lV,sV,m,xHp (n:=k) (by omega)]
  refine Stp.br (fun _=>Stp.inr (vt0)) (fun _=>Stp.inl ⟨_,_,?_,rfl⟩)
  rw [z8];omega) (fun s hi=>by
  obtain ⟨n,t,ht,rfl⟩:=hi;simp only [xeS,xiB,za,zz,zn,xad,sUF];exact Stp.inr vt0) vs.length 0 ((0:Int),[],(0:Int),(0:Int),(0:Int),[]) (by omega) ⟨0,[],by simp,rfl⟩
 obtain ⟨ri,ei,hi⟩:=xjU r.2.2.1;obtain ⟨rt,et,ht⟩:=xBD r.2.2.2.1;unfold xlY xn7;simp only [xku,xkv,xcS,xmb,e,ei,et,zl,zi,xaa,sUF];repeat' (first|exact Ans.some hr|exact Ans.some hi|exact Ans.some ht|refine Ans.br (fun _=>?_) (fun _=>?_))
def xzt (a b:Int) (ha:-1125899906842624<=a) (q:a<=1125899906842624):Ans VT (xgF a b):=by
 obtain ⟨r,e,h⟩:=xjU (IntKind.i64.wrap (a*b));unfold xgF xlp xjN;simp only [xkr,xks,e,zl,zi,xaa,sUF];refine Ans.br (fun h0=>?_) (fun _=>Ans.some h)
 have h0:a≠0:=by simpa using h0
 have hw:IntKind.i64.wrap (0 - a)=0 - a:=xaK (by omega) (by omega)
 refine Ans.br (fun _=>?_) (fun hz=>?_)
 . exact Ans.br (fun _=>Ans.some (vt0)) (fun _=>Ans.some h)
 . exfalso;rw [hw] at hz;by_cases hc:0 - a>a
   . rw [if_pos hc] at hz;simp at hz;omega
   . rw [if_neg hc] at hz;simp at hz;omega
def xyZ (op:Int) (vs:List Val) (hl:vs.length<=1048576):Ans (fun r=>VT r.2.1) (Iter (xcv op (vs.map encV) (vs.map encV) ((vs.length:Nat):Int)) ((0:Int),(0:Int),(0:Int),[])):=by
 refine xdV (fun k s=>s=((k:Int),0,0,[])) vs.length _ (fun k s hk hi=>?_) (fun s hi=>?_) vs.length 0 _ (by omega) rfl
 . subst hi;have h1:(k:Int)<(vs.length:Int):=by omega
   have gf:(vs.map encV).getD k .top=encV vs[k]:=xac _ _ _ hk;simp only [xcv,xe0,sBU,h1,hk,gf,cV0,cV1,cV2,lV,sV,xHp (n:=k) (by omega)]
   exact Stp.br (fun _=>Stp.inr vt0) (fun _=>Stp.inl rfl)
 . subst hi;simp only [xcv,xe0,za,zz,zn,xad,sUF];exact Stp.inr vt0
def xBH (op:Int) (vs:List Val) (hs:Sv vs) (h0:1<=vs.length) (hl:vs.length<=1048576):Ans VT (xfS op (vs.map encV)):=by
 obtain ⟨r,e,hr⟩:=xyZ op vs hl;have gf:(vs.map encV).getD 0 .top=encV vs[0]:=xac _ _ _ h0;have hw:IntKind.i64.wrap ((vs.length:Int) - 1)=((vs.length - 1:Nat):Int):=by rw [xaK (by omega) (by omega)];omega
 have hk:vs.length - 1<vs.length:=by omega
 have gg:(vs.map encV).getD (vs.length - 1) .top=encV vs[vs.length - 1]:=xac _ _ _ hk;have p0:(0:Int)<(vs.length:Int):=by omega
 have p1:((vs.length - 1:Nat):Int)<(vs.length:Int):=by omega
 have p2:0<vs.length:=h0;have va:=hs.get p2;have s1:∀ v:Val,xH6 (Sh.int .i64) ((encV v).cells.getD 1 .top)=true:=fun _=>rfl
 obtain ⟨q1,e1,w1⟩:=xjU (IntKind.i64.wrap (vs[0].i+vs[vs.length - 1].i));obtain ⟨q2,e2,w2⟩:=xjU (IntKind.i64.wrap (vs[0].i - vs[vs.length - 1].i));obtain ⟨q3,e3,w3⟩:=xzt vs[0].i vs[vs.length - 1].i va.2.1 va.2.2;obtain ⟨q4,e4,w4⟩:=xjU (IntKind.i64.wrap ((0:Int) - vs[0].i));obtain ⟨q5,e5,w5⟩:=xjU (IntKind.i64.wrap (vs[0].i.tdiv vs[vs.length - 1].i));obtain ⟨q6,e6,w6⟩:=xjU (vs[0].i.tmod vs[vs.length - 1].i);unfold xfS xiR;simp only [xef,xae,xag,xh8,xh9,xia,xfT,e,gf,za,hw,zO,gg,cV0,cV1,cV2,lV,sV,s1,e1,e2,e3,e4,e5,e6,p0,p1,p2,hk,Int.natCast_nonneg,zo,zT,Bool.true_and,zl,zi,xaa,sUF];refine Ans.br (fun _=>Ans.some hr) (fun _=>?_)
 refine Ans.br (fun _=>Ans.some w1) (fun _=>?_)
 refine Ans.br (fun _=>Ans.some w2) (fun _=>?_)
 refine Ans.br (fun _=>Ans.some w3) (fun _=>?_)
 refine Ans.br (fun _=>Ans.some w4) (fun _=>?_)
 refine Ans.br (fun _=>Ans.some vt0) (fun hz=>?_)
 simp only [hz,Bool.not_false,xaa,sUF];exact Ans.br (fun _=>Ans.some w5) (fun _=>Ans.some w6)
def shE (op i vk vi:Int) (vt nm:List UInt8) (args:List AV):xId [Sh.int IntKind.i64,Sh.int IntKind.i64,Sh.int IntKind.i64,Sh.int IntKind.i64,Sh.str,Sh.str,Sh.list 7] [AV.int .i64 op,.int .i64 i,.int .i64 vk,.int .i64 vi,.str vt,.str nm,.list 7 args] 0=true:=rfl
def xH1 (R:Int->Int->Int->Int->List UInt8->List UInt8->List AV->List AV->Option (Int×Int×List UInt8)) (vs:List Val) (hs:Sv vs) (hl:vs.length<=1048576):Ans (fun r=>VT r.2.1) (Iter (xbS R vs.length ((vs.length:Nat):Int)) ((0:Int),(0:Int),(0:Int),[],vs.map encV)):=by
 refine xdV (fun k s=>s=((k:Int),0,0,[],vs.map encV)) vs.length _ (fun k s hk hi=>?_) (fun s hi=>?_) vs.length 0 _ (by omega) rfl
 . subst hi;have h1:(k:Int)<(vs.length:Int):=by omega
   have gf:(vs.map encV).getD k .top=encV vs[k]:=xac _ _ _ hk;simp only [xbS,xgD,xdr,sBU,h1,hk,gf,cV0,cV1,cV2,lV,sV,xHp (n:=k) (by omega)]
   exact Stp.br (fun _=>Stp.inr (hs.get hk)) (fun _=>Stp.inl rfl)
 . subst hi;simp only [xbS,xgD,zz,zn,xad,sUF];exact Stp.inr vt0
def xvt (row:Row) (Y:row.length<=1048576):∀ (n:Nat) (op ei vk vi:Int) (vt nm:List UInt8) (ar:List AV),(∀ x,x∈ar->IsEx x)->AV.nds ar<=1048576->AV.nds ar<n->Ans VT (xbd n op ei vk vi vt nm ar (row.map encV))
 | 0,op,ei,vk,vi,vt,nm,ar,hx,hm,hn=>absurd hn (Nat.not_lt_zero _)
 | n+1,op,ei,vk,vi,vt,nm,ar,hx,hm,hn=>by
  have hl:=xoT hx;have q:∀ k (hk:k<ar.length),∃ (J i' O W:Int) (Q D:List UInt8) (V:List AV),ar.getD k .top=.agg [.int .i64 J,.int .i64 i',.int .i64 O,.int .i64 W,.str Q,.str D,.list 7 V]/\Ans VT (xbd n J i' O W Q D V (row.map encV)):=fun k hk=>by
   have h1:=hx ar[k] (zp hk);have h2:=xqO (zp hk);have gf:ar.getD k .top=ar[k]:=by rw [z7,zf hk];rfl
   obtain ⟨J,i',O,W,Q,D,V,ex,h'⟩:=h1.get;rw [ex,xo5] at h2;exact ⟨J,i',O,W,Q,D,V,by rw [gf,ex],xvt row Y n J i' O W Q D V h' (by omega) (by omega)⟩
  obtain ⟨b,fe,fq⟩:=xzc op ei vk vi vt nm ar;have lp:Ans (fun r=>∃ vs:List Val,vs.length=ar.length/\Sv vs/\r=((0:Int),(0:Int),[],vs.map encV)) (Iter (xbR (xbd n) (row.map encV) op ei vk vi vt nm ar ar.length ar ((ar.length:Nat):Int)) ((0:Int),(0:Int),(0:Int),[],List.replicate ar.length (encV ⟨0,0,[]⟩))):=by
   refine xdV (fun k s=>∃ vs:List Val,vs.length=ar.length/\Sv vs/\s=((k:Int),0,0,[],vs.map encV)) ar.length _ (fun k s hk hi=>?_) (fun s hi=>?_) ar.length 0 _ (by omega) ⟨List.replicate ar.length ⟨0,0,[]⟩,by simp,fun v hv=>by rw [List.eq_of_mem_replicate hv];exact vt0,by rw [List.map_replicate];rfl⟩
   . obtain ⟨vs,hv,hs,rfl⟩:=hi;have h1:(k:Int)<(ar.length:Int):=by omega
     have hk':k<vs.length:=by omega
     obtain ⟨J,i',O,W,Q,D,V,gf,⟨x1,x2,x3⟩,ex,ab⟩:=q k hk;simp only [xbR,xgC,xhI,xkm,sBU,h1,hk,hk',gf,xHG,shE,cE0,cE1,cE2,cE3,cE4,cE5,cE6,lE,toIE,toSE,toLE,ex,xHp (n:=k) (by omega)]
     refine Stp.inl ⟨vs.set k ⟨x1,x2,x3⟩,by simp [hv],fun v hv=>?_,by rw [List.map_set];rfl⟩
     rcases List.mem_or_eq_of_mem_set hv with h|rfl
     . exact hs v h
     . exact ab
   . obtain ⟨vs,hv,hs,rfl⟩:=hi;simp only [xbR,xgC,zz,zn,xad,sUF];exact Stp.inr ⟨vs,hv,hs,rfl⟩
  have c0:List.replicate ar.length (AV.agg [AV.int IntKind.i64 0,AV.int IntKind.i64 0,AV.str []])=List.replicate ar.length (encV ⟨0,0,[]⟩):=rfl;obtain ⟨r,e,vs,hv,hs,rfl⟩:=lp;show Ans VT (xdG (xbd n) op ei vk vi vt nm ar (row.map encV));unfold xdG xja xcR xfK xhe;rw [fe];simp only [zl,zi,xaa,sUF];cases b with
  | false=>exact Ans.some vt0
  | true =>
   obtain ⟨q1,q2⟩:=fq rfl;obtain ⟨k1,aa,Z,k2⟩:=xAB q1;simp only [Bool.not_true,xad,sUF];refine Ans.br (fun h=>Ans.some (q2 (by simpa using h))) (fun o1=>?_)
   have o1:op≠1:=by simpa using o1
   refine Ans.br (fun h=>?_) (fun o2=>?_)
   . obtain ⟨x,ex,hx,_⟩:=xtP row ei Y;rw [ex];exact Ans.some hx
   have o2:op≠2:=by simpa using o2
   refine Ans.br (fun h=>?_) (fun ag=>?_)
   . have h3:ar.length=3:=by have:=aa (by simpa using h);omega
     obtain ⟨a1,a2,a3,a4,a5,a6,a7,g0,x0,e0,w0⟩:=q 0 (by omega)
     obtain ⟨b1,b2,b3,b4,b5,b6,b7,g1,x1,e1,w1⟩:=q 1 (by omega)
     obtain ⟨c1,c2,c3,c4,c5,c6,c7,g2,x2,e2,w2⟩:=q 2 (by omega)
     have p0:(0:Int)<(ar.length:Int):=by omega
     have p1:(1:Int)<(ar.length:Int):=by omega
     have p2:(2:Int)<(ar.length:Int):=by omega
     have m0:0<ar.length:=by omega
     have m1:1<ar.length:=by omega
     have m2:2<ar.length:=by omega
     simp only [xgE,xh7,xfm,xfn,xbO,xhf,xhg,xjm,xjn,xjo,xa5,xaX,xjp,xjq,xjr,xiA,xkp,g0,g1,g2,p0,p1,p2,m0,m1,m2,xHG,shE,cE0,cE1,cE2,cE3,cE4,cE5,cE6,lE,toIE,toSE,toLE,e0,e1,e2,zo,zT,Bool.true_and,zl,zi,xaa,sUF];exact Ans.br (fun _=>Ans.some w1) (fun _=>Ans.some w2)
   have L:1<=vs.length:=by omega
   have L':vs.length<=1048576:=by omega
   obtain ⟨y1,f1,w1⟩:=xCm op vs L L';obtain ⟨y2,f2,w2⟩:=xB6 op vs hs L';obtain ⟨y3,f3,w3⟩:=xBH op vs hs L L';obtain ⟨y4,f4,w4⟩:=xH1 (xbd n) vs hs L';have g0:(vs.map encV).getD 0 .top=encV vs[0]:=xac _ _ _ L;have m1:(32:Int)*(ar.length:Int)<=281474976710656:=by omega
   have m2:(ar.length:Int)<=4611686018427387904:=by omega
   have m3:(0:Int)<(ar.length:Int):=by omega
   have tt:List.take ar.length (List.drop 0 (vs.map encV))=vs.map encV:=by rw [zt,zj (by simp;omega)]
   have m4:0<ar.length:=by omega
   rw [hv] at f4;simp only [xgE,xh7,xfm,xfn,xbO,xhf,xhg,xjm,xjn,xjo,xa5,xaX,xjp,xjq,xjr,zO,c0,e,tt,g0,f1,f2,f3,f4,cV0,cV1,cV2,lV,sV,za,hv,m1,m2,m3,m4,Int.le_refl,zd,zI,zo,zT,Bool.true_and,zl,zi,xaa,sUF];repeat' first
    | exact Ans.some w1|exact Ans.some w2|exact Ans.some w3|exact Ans.some w4|exact Ans.some vt0|exact Ans.some (xsb _)
    | (have h4:=Z (beq_iff_eq.1 ‹(op==24)=true›);obtain ⟨y5,f5,w5⟩:=xzD ei vs (by omega);rw [f5];exact Ans.some w5)
    | (
     have n4:op≠4:=by simpa using ‹(op==4)=false›
     have ac:op≠18:=by simpa using ‹(op==18)=false›
     have af:op≠20:=by simpa using ‹(op==20)=false›
     have ae:op≠21:=by simpa using ‹(op==21)=false›
     have ad:op≠23:=by simpa using ‹(op==23)=false›
     have h2:1<vs.length:=by omega
     have g1:(vs.map encV).getD 1 .top=encV vs[1]:=xac _ _ _ h2;have m5:(1:Int)<(ar.length:Int):=by omega
     have m6:1<ar.length:=by omega
     simp only [m5,m6,g1,cV0,cV1,cV2,lV,sV,zo,zT,Bool.true_and,xaa,sUF];exact Ans.some (xBB _))
    | refine Ans.br (fun _=>?_) (fun _=>?_)
open Go.Sim.Srt
def ovP (p q:Per):Bool:=pv p&&(pv q&&(decide (p.1<q.2)&&decide (q.1<p.2)))
def inP (p q:Per):Per:=(if p.1<=q.1 then q.1 else p.1,if p.2<=q.2 then p.2 else q.2)
def cutP (p q:Per):List Per:=[(p.1,(inP p q).1),((inP p q).2,p.2)].filter pv
def xyq {p q:Per} (h:ovP p q=true) (t:Int):hasP (inP p q) t=(hasP p t&&hasP q t):=by
 simp only [ovP,pv,zg,zm] at h;rw [Bool.eq_iff_iff];by_cases h1:p.1<=q.1<;>by_cases h2:p.2<=q.2<;>simp only [hasP,pv,inP,h1,h2,if_true,if_false,zg,zm]<;>constructor<;>intro h3<;>omega
def xFS {p q:Per} (h:ovP p q=true):pv (inP p q)=true:=by
 simp only [ovP,pv,zg,zm] at h;by_cases h1:p.1<=q.1<;>by_cases h2:p.2<=q.2<;>simp only [pv,inP,h1,h2,if_true,if_false,zg,zm]<;>omega
def xAU {p q:Per} (h:ovP p q=true):ovP p (inP p q)=true/\inP p (inP p q)=inP p q:=by
 simp only [ovP,pv,zg,zm] at h;by_cases h1:p.1<=q.1<;>by_cases h2:p.2<=q.2<;>simp [ovP,pv,inP,h1,h2,zb]<;>omega
def xmx (p q:Per):(cutP p q).length<=2:=List.length_filter_le _ _
def xuH (l:List Per) (t:Int):(l.filter pv).countP (hasP · t)=l.countP (hasP · t):=by
 rw [List.countP_filter];congr 1;funext x;cases h:pv x<;>simp [hasP,h]
def xsl {p q:Per} (h:ovP p q=true) (t:Int):(cutP p q).countP (hasP · t)+(if hasP (inP p q) t=true then 1 else 0)=if hasP p t=true then 1 else 0:=by
 unfold cutP;rw [xuH];simp only [List.countP_cons,List.countP_nil];simp only [ovP,pv,zg,zm] at h;by_cases h1:p.1<=q.1<;>by_cases h2:p.2<=q.2<;>simp only [hasP,pv,inP,h1,h2,if_true,if_false,zg,zm]<;>(repeat' split)<;>omega
def xAC {p q:Per} (h:ovP p q=true) {t:Int} (ht:hasP q t=true):(cutP p q).countP (hasP · t)=0:=by
 have h1:=xsl h t;rw [xyq h,ht,zT] at h1;split at h1<;>omega
def xvq (f:Fc) (l:List Fc) (r:Row) (t:Int):cnt (f::l) r t=cnt [f] r t+cnt l r t:=xgx [f] l r t
def xqI (f:Fc) (r:Row) (t:Int):cnt [f] r t=if f.r=r then (if hasP f.p t=true then 1 else 0) else 0:=by
 unfold cnt;by_cases h:f.r=r<;>by_cases h2:hasP f.p t=true<;>simp [h,h2]
def xyg (r':Row) (P:List Per) (r:Row) (t:Int):cnt (P.map fun p=>(⟨r',p⟩:Fc)) r t=if r'=r then P.countP (hasP · t) else 0:=xyh r' P r t
def xHt (b:Row->Bool) (w:Per) (f:Fc):List Fc:=if (ovP f.p w&&b f.r)=true then (cutP f.p w).map fun p=>⟨f.r,p⟩ else [f]
def xHs (b:Row->Bool) (w:Per) (f:Fc):List Fc:=if (ovP f.p w&&b f.r)=true then [⟨f.r,inP f.p w⟩] else []
def xHy (b:Row->Bool) (w:Per) (f:Fc):List Fc:=if (ovP f.p w&&b f.r)=true then (cutP f.p w).map (fun p=>(⟨f.r,p⟩:Fc))++[⟨f.r,inP f.p w⟩] else [f]
def xvf (b:Row->Bool) (w:Per) (f:Fc) (r:Row) (t:Int):cnt (xHt b w f) r t+cnt (xHs b w f) r t=cnt [f] r t:=by
 unfold xHt xHs;split
 . rename_i h;have h:=(zg _ _▸h:_/\_).1;have h1:=xsl h t;rw [xyg,xqI,xqI];split
   . simpa using h1
   . rfl
 . simp [cnt]
def xCK (b:Row->Bool) (w:Per) (f:Fc) (r:Row) (t:Int):cnt (xHy b w f) r t=cnt [f] r t:=by
 rw [<-xvf b w f r t];unfold xHy xHt xHs;split
 . rw [xgx]
 . simp [cnt]
def xve (b:Row->Bool) (w:Per) (r:Row) (t:Int):∀ l:List Fc,cnt (l.flatMap (xHt b w)) r t+cnt (l.flatMap (xHs b w)) r t=cnt l r t
 | []=>rfl
 | f::l=>by
  have ih:=xve b w r t l;have h1:=xvf b w f r t;rw [zS,zS,xgx,xgx,xvq];omega
def xv8 (b:Row->Bool) (w:Per) (r:Row) (t:Int):∀ l:List Fc,cnt (l.flatMap (xHy b w)) r t=cnt l r t
 | []=>rfl
 | f::l=>by
  have ih:=xv8 b w r t l;have h1:=xCK b w f r t;rw [zS,xgx,xvq];omega
def xt6 (b:Row->Bool) (w:Per) (r:Row) (t:Int) (hb:b r=true) (ht:hasP w t=true):∀ l:List Fc,cnt (l.flatMap (xHt b w)) r t=0
 | []=>rfl
 | f::l=>by
  have ih:=xt6 b w r t hb ht l;rw [zS,xgx,ih,Nat.add_zero];unfold xHt;split
  . rename_i h;have h:=(zg _ _▸h:_/\_).1;rw [xyg];split
    . exact xAC h ht
    . rfl
  . rename_i h;rw [xqI];split
    . rename_i e;split
      . rename_i h2;exfalso;apply h;rw [e,hb,zT];have h3:=xcw.1 h2;have h4:=xcw.1 ht;simp only [ovP,h3.1,h4.1,Bool.true_and,zg,zm];omega
      . rfl
    . rfl
def xCi (b:Row->Bool) (w:Per) {l B:List Fc} (h:xHu (l.flatMap (xHt b w)) B):B.flatMap (xHs b w)=[]:=by
 rw [List.flatMap_eq_nil_iff];intro f hf;unfold xHs;split
 . rename_i hc;exfalso;obtain ⟨h1,h2⟩:_/\_:=zg _ _▸hc;have hp:=xn4 (xFS h1);rw [xyq h1,zg] at hp;have:=xt6 b w f.r _ h2 hp.2 l;rw [<-h.cntB] at this;have:0<cnt B f.r (inP f.p w).1:=xth.2 ⟨f,hf,rfl,hp.1⟩;omega
 . rfl
def xA1 {b:Row->Bool} {w:Per} {f g:Fc} (h:g∈xHt b w f):g.r=f.r:=by
 unfold xHt at h;split at h
 . obtain ⟨p,_,rfl⟩:=zL.1 h;rfl
 . rw [zw.1 h]
def xAR {b:Row->Bool} {w:Per} {f g:Fc} (h:g∈xHs b w f):g.r=f.r:=by
 unfold xHs at h;split at h
 . rw [zw.1 h]
 . cases h
def xBm {b:Row->Bool} {w:Per} {f g:Fc} (h:g∈xHy b w f):g.r=f.r:=by
 unfold xHy at h;split at h
 . rcases zH.1 h with h|h
   . obtain ⟨p,_,rfl⟩:=zL.1 h;rfl
   . rw [zw.1 h]
 . rw [zw.1 h]
def xnU (b:Row->Bool) (w:Per) (f:Fc):(xHt b w f).length<=2:=by
 unfold xHt;split
 . simpa using xmx f.p w
 . simp
def xnP (b:Row->Bool) (w:Per) (f:Fc):(xHs b w f).length<=1:=by
 unfold xHs;split<;>simp
def xqz (b:Row->Bool) (w:Per) (f:Fc):(xHy b w f).length<=3:=by
 unfold xHy;split
 . have:=xmx f.p w;simp;omega
 . simp
def xoX {F:Fc->List Fc} (hF:∀ f g,g∈F f->g.r=f.r) {l:List Fc} {g:Fc} (h:g∈l.flatMap F):∃ f,f∈l/\g.r=f.r:=by
 obtain ⟨f,hf,hg⟩:=y9.1 h;exact ⟨f,hf,hF f g hg⟩
structure RelB (N:Row->Int->Nat) (m:Nat) (B:List Fc):Prop where
 isB:IsB N B
 len:B.length<=m
 nice:Nice B
def xwb {N:Int->Nat} {P:List Per} (h:IsSpan P) (hP:∀ t,inL P t=decide (0<N t)):IsLevs (fun t=>if 0<N t then 1 else 0) P:=by
 refine ⟨List.Pairwise.imp_of_mem (fun {p q} hp hq D=>xoC.2 (.inl (by have:=xb5.1 (h.1 p hp);omega))) h.2,fun k=>if k=0 then P else [],1,fun t=>by split<;>omega,fun k=>?_,by simp⟩
 . by_cases hk:k=0
   . subst hk;refine ⟨by simpa using h,fun t=>?_⟩
     simp only [if_true,hP];by_cases h0:0<N t<;>simp [h0]
   . refine ⟨by simp [hk,xmI],fun t=>?_⟩
     simp only [hk,if_false,xiC];symm;rw [decide_eq_false_iff_not];split<;>omega
def xHC.isB {l B:List Fc} (h:xHC l B):IsB (fun r t=>if 0<cnt l r t then 1 else 0) B:=by
 obtain ⟨R,L,h1,h2,rfl⟩:=h;refine ⟨R,L,h1.1,fun r t ht=>(h1.2 r).2 (xnn.2 ⟨t,?_⟩),fun r hr=>xwb (h2 r hr).1 (h2 r hr).2,rfl⟩
 by_cases h0:0<cnt l r t
 . exact h0
 . simp [h0] at ht
def xHC.len1 {l B:List Fc} (h:xHC l B):B.length<=l.length:=by
 obtain ⟨R,L,h1,h2,rfl⟩:=h;have e:=xoW (L:=L) (a:=l) (b:=[]) R fun r hr=>by
  have:=xt8 (xwb (h2 r hr).1 (h2 r hr).2) ((xHo l r).map (·.1)) fun t=>by
   have:=xmE (xHo l r) t;rw [xmT,xmT] at this;by_cases c1:0<cnt l r t
   . by_cases c2:0<cnt l r (t - 1)
     . simp only [c1,c2,if_true];omega
     . simp only [c1,c2,if_true,if_false];omega
   . simp only [c1,if_false];omega
  simp at this;omega
 have hn:=h1.1.nodup xoV;have e2:=xoR l R hn;have e3:=xoR [] R hn;rw [List.length_nil] at e3;omega
def xBy (K:List Int) (kb:List AV) {a b:List Fc} (hK:K.length<=1048576) (ha:Nice a) (hb:Nice b) (hl:a.length+b.length<=1024) (q:R20 (a++b)) :
  ∃ B:List Fc,xlN (K.map encN) (a.map encF) kb (b.map encF)=some (K.map encN,B.map encF)/\RelB (fun r t=>cnt a r t+cnt b r t) (a.length+b.length) B:=by
 obtain ⟨B,b1,b2,b3,b4⟩:=xDJ opA (ha.keyed (by omega)) (hb.keyed (by omega)) hl q
 refine ⟨B,?_,b2,b3,ha.of hb b4⟩;have b1:xpk (a.map encF) (b.map encF)=some (B.map encF):=b1;have m:K.length<=1099511627776:=by omega
 unfold xlN xmk;simp only [za,m,b1,zl,zi,zo,Bool.and_self,xaa,sUF]
def RelB.cnt {N:Row->Int->Nat} {m:Nat} {B:List Fc} (h:RelB N m B) (r:Row) (t:Int):cnt B r t=N r t:=h.isB.cntB r t
theorem xD5 (p q:Per):xf2 p.1 p.2 q.1 q.2=ovP p q:=by
 unfold xf2 ovP;rw [xf4,xf4];cases pv p<;>cases pv q<;>simp [xaR,sUF]
theorem xvL (p q:Per):xan p.1 p.2 q.1 q.2=if ovP p q=true then ((inP p q).1,(inP p q).2,true) else (0,0,false):=by
 unfold xan;rw [xD5];cases ovP p q with
 | false=>rfl
 | true =>
  simp only [Bool.not_true,xad,if_true,inP,zb,and_true,sUF];constructor<;>(repeat' split)<;>omega
theorem xyO {p q:Per} (h:ovP p q=true):xcE p.1 p.2 q.1 q.2=some ((cutP p q).map encP):=by
 have hp:pv p=true:=by unfold ovP at h;simp only [zg] at h;exact h.1
 have z:∀ a:Per,pv a=true->(!(a.1==0&&(a.2==0&&true)))=true:=fun a ha=>by
  simp only [pv,zg,zm] at ha;simp only [Bool.not_eq_true',Bool.and_eq_false_iff,beq_eq_false_iff_ne];omega
 have v1:=xf4 (p.1,(inP p q).1);have v2:=xf4 ((inP p q).2,p.2);dsimp only at v1 v2;unfold xcE xgp xfG cutP;simp only [xim,xvL,h,if_true,xf4,hp,Bool.not_true,xad,v1,v2,List.filter_cons,List.filter_nil,sUF];cases c1:pv (p.1,(inP p q).1)<;>cases c2:pv ((inP p q).2,p.2)
 . cases (!(p.1==0&&((inP p q).1==0&&true)))<;>cases (!((inP p q).2==0&&(p.2==0&&true)))<;>rfl
 . rw [z _ c2];cases (!(p.1==0&&((inP p q).1==0&&true)))<;>rfl
 . rw [z _ c1];cases (!((inP p q).2==0&&(p.2==0&&true)))<;>rfl
 . rw [z _ c1,z _ c2];rfl
theorem xj1 (r:Row) (l:List Per) (hl:l.length<=1048576):Iter (xbY (r.map encV) (l.map encP) ((l.length:Nat):Int)) ((0:Nat),(0:Int),[])=some ((l.flatMap (fun (f:Per)=>[(⟨r,f⟩:Fc)])).length,(l.flatMap (fun (f:Per)=>[(⟨r,f⟩:Fc)])).map encF):=by
 refine xg2 l (fun (f:Per)=>[(⟨r,f⟩:Fc)]) encF 1 (fun f hf=>?_) (fun n h D hD=>?_) (fun D=>?_)
 . simp
 . have h1:(n:Int)<(l.length:Int):=by omega
   have m1:(D.length+1)*40<=140737488355328:=by omega
   have m2:D.length+1<=4611686018427387904:=by omega
   have gf:(l.map encP).getD n .top=encP l[n]:=xac _ _ _ h;simp only [xbY,xf1,sBU,h,h1,gf,cP0,cP1,lP,sP,sP0,sP1,m1,m2,xHp (n:=n) (by omega)]
   simp [encF]
 . simp only [xbY,xf1,za,zz,zn,xad,sUF]
theorem xnW (r:Row) (ps:List Per) (hl:ps.length<=1048576):xbu (r.map encV) (ps.map encP)=some ((ps.map fun p=>(⟨r,p⟩:Fc)).map encF):=by
 have e:=xj1 r ps hl;rw [xHO] at e;unfold xbu xkO;simp only [xfu,za,e,sOO,sUF]
section
variable {op ei vk vi : Int} {vt nm : List UInt8} {ar : List AV} {tr : Row -> Int} {w : Per}
def trB (tr:Row->Int) (r:Row):Bool:=tr r==2
theorem xqb (hT:∀ row:Row,row.length<=1048576->xbe op ei vk vi vt nm ar (row.map encV)=some (tr row)) (f:Fc) (hr:f.r.length<=1048576) :
  xaL (f.r.map encV) f.p.1 f.p.2 op ei vk vi vt nm ar w.1 w.2=some (if ovP f.p w=true then ((inP f.p w).1,(inP f.p w).2,trB tr f.r) else (0,0,false)):=by
 unfold xaL xkM;rw [xvL,hT f.r hr];cases ovP f.p w<;>rfl
theorem xDK (hT:∀ row:Row,row.length<=1048576->xbe op ei vk vi vt nm ar (row.map encV)=some (tr row)) (f:Fc) (hr:f.r.length<=1048576) :
  xkC (f.r.map encV) f.p.1 f.p.2 op ei vk vi vt nm ar w.1 w.2=some ((xHt (trB tr) w f).map encF):=by
 have p1:=xnW f.r [f.p] (by simp)
 have p2:=xnW f.r (cutP f.p w) (by have:=xmx f.p w;omega)
 have p1':xbu (f.r.map encV) [AV.agg [AV.int .i64 f.p.1,AV.int .i64 f.p.2]]=some [encF f]:=p1;unfold xkC xiT xHt;simp only [xfW,xqb hT f hr,p1',zl,zi,xaa,sUF];cases ho:ovP f.p w with
 | false=>rfl
 | true =>
  cases hb:trB tr f.r with
  | false=>rfl
  | true =>
   have h2:=xAU ho;have hc:cutP f.p (inP f.p w)=cutP f.p w:=by unfold cutP;rw [h2.2]
   have hs:=xyO h2.1;rw [hc] at hs;simp only [if_true,Bool.not_true,xad,hs,p2,zl,zi,xaa,Bool.and_self,sUF]
theorem xDr (hT:∀ row:Row,row.length<=1048576->xbe op ei vk vi vt nm ar (row.map encV)=some (tr row)) (f:Fc) (hr:f.r.length<=1048576) :
  xcz (f.r.map encV) f.p.1 f.p.2 op ei vk vi vt nm ar w.1 w.2=some ((xHs (trB tr) w f).map encF):=by
 have p1:=xnW f.r [inP f.p w] (by simp)
 have p1':xbu (f.r.map encV) [AV.agg [AV.int .i64 (inP f.p w).1,AV.int .i64 (inP f.p w).2]]=some [encF ⟨f.r,inP f.p w⟩]:=p1;unfold xcz xfE xHs;simp only [xg5,xqb hT f hr,zl,zi,xaa,sUF];cases ho:ovP f.p w with
 | false=>rfl
 | true =>
  cases hb:trB tr f.r with
  | false=>rfl
  | true =>
   simp only [if_true,Bool.not_true,xad,p1',zl,zi,xaa,Bool.and_self,sUF];rfl
theorem xFG (hT:∀ row:Row,row.length<=1048576->xbe op ei vk vi vt nm ar (row.map encV)=some (tr row)) (l:List Fc) (hl:l.length<=1048576) (hr:∀ f,f∈l->f.r.length<=1048576) :
  xhj (l.map encF) op ei vk vi vt nm ar w.1 w.2=some ((l.flatMap (xHt (trB tr) w)).map encF):=by
 have e:Iter (xaT op ei vk vi vt nm ar w.1 w.2 (l.map encF) ((l.length:Nat):Int)) ((0:Nat),(0:Int),[])=_:=xg2 l (xHt (trB tr) w) encF 2 (fun f _=>xnU _ _ f) (fun n h D hD=>by
  have h1:(n:Int)<(l.length:Int):=by omega
  have gf:(l.map encF).getD n .top=encF l[n]:=xac _ _ _ h;have hd:=xDK (w:=w) hT l[n] (hr _ (zp h));have hc:=xnU (trB tr) w l[n];have m1:(D.length+(xHt (trB tr) w l[n]).length)*40<=140737488355328:=by omega
  have m2:D.length+(xHt (trB tr) w l[n]).length<=4611686018427387904:=by omega
  simp only [xaT,xfZ,xcJ,sBU,h,h1,gf,cF0,cF1,cF2,sF0,sF1,sF2,lF,sF12,sF02,hd,m1,m2,xHp (n:=n) (by omega)]
  simp) (fun D=>by simp only [xaT,xfZ,za,zz,zn,xad,sUF])
 unfold xhj xkI;simp only [za,e,sOO]
theorem xFa (hT:∀ row:Row,row.length<=1048576->xbe op ei vk vi vt nm ar (row.map encV)=some (tr row)) (l:List Fc) (hl:l.length<=1048576) (hr:∀ f,f∈l->f.r.length<=1048576) :
  xhi (l.map encF) op ei vk vi vt nm ar w.1 w.2=some ((l.flatMap (xHs (trB tr) w)).map encF):=by
 have e:Iter (xaS op ei vk vi vt nm ar w.1 w.2 (l.map encF) ((l.length:Nat):Int)) ((0:Nat),(0:Int),[])=_:=xg2 l (xHs (trB tr) w) encF 1 (fun f _=>xnP _ _ f) (fun n h D hD=>by
  have h1:(n:Int)<(l.length:Int):=by omega
  have gf:(l.map encF).getD n .top=encF l[n]:=xac _ _ _ h;have hd:=xDr (w:=w) hT l[n] (hr _ (zp h));have hc:=xnP (trB tr) w l[n];have m1:(D.length+(xHs (trB tr) w l[n]).length)*40<=140737488355328:=by omega
  have m2:D.length+(xHs (trB tr) w l[n]).length<=4611686018427387904:=by omega
  simp only [xaS,xfY,xcI,sBU,h,h1,gf,cF0,cF1,cF2,sF0,sF1,sF2,lF,sF12,sF02,hd,m1,m2,xHp (n:=n) (by omega)]
  simp) (fun D=>by simp only [xaS,xfY,za,zz,zn,xad,sUF])
 unfold xhi xkH;simp only [za,e,sOO]
end
def colE (k:Nat):AV:=.agg [.int .i64 2,.int .i64 k,.int .i64 0,.int .i64 0,.str [],.str [],.list 7 []]
def RowV (r:Row):Prop:=∀ v,v∈r->vOk v.k v.i v.t=true
theorem xtT (R:Int->Int->Int->Int->List UInt8->List UInt8->List AV->List AV->Option (Int×Int×List UInt8)) (row:Row) (hl:row.length<=1048576) (hv:RowV row) (k:Nat) (hk:k<row.length):xdG R 2 k 0 0 [] [] [] (row.map encV)=some (row[k].k,row[k].i,row[k].t):=by
 obtain ⟨x,e,_,hx⟩:=xtP row k hl;rw [hx k rfl hk (hv _ (zp hk))] at e;have f:xjb 2 k 0 0 [] [] []=some true:=rfl;unfold xdG xja xcR xfK xhe;rw [f,e];rfl
theorem xB7 (row:Row) (hl:row.length<=1048576) (hv:RowV row) (k:Nat) (hk:k<row.length):xbE 2 k 0 0 [] [] [] (row.map encV)=some (row[k].k,row[k].i,row[k].t):=by
 have h1:(xbE 2 k 0 0 [] [] [] (row.map encV)).isSome=true:=xje (R:=fun n=>xbd n 2 k 0 0 [] [] [] (row.map encV)) (n:=1) (by
  show (xdG (xbd 0) 2 k 0 0 [] [] [] (row.map encV)).isSome=true;rw [xtT _ row hl hv k hk];rfl)
 obtain ⟨n,hn⟩:=xjx (R:=fun n=>xbd n 2 k 0 0 [] [] [] (row.map encV)) h1
 have h2:xbE 2 k 0 0 [] [] [] (row.map encV)=xbd n 2 k 0 0 [] [] [] (row.map encV):=hn;cases n with
 | zero=>rw [h2] at h1;simp [xbd,sUF] at h1
 | succ n=>rw [h2];exact xtT _ row hl hv k hk
theorem xCZ (row:Row) (hl:row.length<=1048576) (hv:RowV row) (f t:Int) (k:Nat) (hk:k<row.length):xjR 2 k 0 0 [] [] [] (row.map encV) f t=some [encV row[k]]:=by
 unfold xjR xig;rw [xB7 row hl hv k hk];rfl
theorem xBa (r:Row):((List.range r.length).flatMap fun k=>[r.getD k ⟨0,0,[]⟩])=r:=by
 rw [xHO];refine List.ext_getElem (by simp) fun i h1 h2=>?_
 simp [z7,h2]
theorem xB1 (row:Row) (hl:row.length<=1048576) (hv:RowV row) (f t:Int):xjy ((List.range row.length).map colE) (row.map encV) f t=some (row.map encV):=by
 have e:Iter (xbA (row.map encV) f t ((List.range row.length).map colE) ((row.length:Nat):Int)) ((0:Nat),(0:Int),[])=some (((List.range row.length).flatMap fun k=>[row.getD k ⟨0,0,[]⟩]).length,((List.range row.length).flatMap fun k=>[row.getD k ⟨0,0,[]⟩]).map encV):=by
  have:=xg2 (step:=xbA (row.map encV) f t ((List.range row.length).map colE) ((row.length:Nat):Int)) (List.range row.length) (fun k=>[row.getD k ⟨0,0,[]⟩]) encV 1 (fun _ _=>by simp) (fun n h D hD=>by
   have hn:n<row.length:=by simpa using h
   have h1:(n:Int)<(row.length:Int):=by omega
   have gf:((List.range row.length).map colE).getD n .top=colE n:=by rw [xac _ _ _ h];simp
   have hg:row.getD n ⟨0,0,[]⟩=row[n]:=by simp [z7,hn]
   have hu:=xCZ row hl hv f t n hn;have m1:(D.length+1)*32<=140737488355328:=by omega
   have m2:D.length+1<=4611686018427387904:=by omega
   simp only [xbA,xf0,xcL,sBU,List.length_range,hn,h1,gf,colE,xHG,shE,cE0,cE1,cE2,cE3,cE4,cE5,cE6,lE,toIE,toSE,toLE,hu,zk,m1,m2,xHp (n:=n) (by omega)]
   simp [hn]) (fun D=>by simp only [xbA,xf0,List.length_range,zz,zn,xad,sUF])
  exact this
 rw [xBa] at e;unfold xjy xkL;simp only [xft,za,List.length_range,e,sOO,sUF]
theorem xo8 (r:Row) (ps:List Per) (hl:ps.length<=1048576):xaB (r.map encV) (ps.map encP)=some (ps.length,(ps.map fun p=>(⟨r,p⟩:Fc)).map encF):=by
 have e:Iter (xdJ (r.map encV) (ps.map encP) ((ps.length:Nat):Int)) ((0:Nat),(0:Int),[])=_:=xj1 r ps hl;rw [xHO] at e;unfold xaB xiW;simp only [xii,za,e,zl,zi,xaa,sUF]
section
variable {op ei vk vi : Int} {vt nm : List UInt8} {ar : List AV} {tr : Row -> Int} {w : Per}
theorem xEr (hT:∀ row:Row,row.length<=1048576->xbe op ei vk vi vt nm ar (row.map encV)=some (tr row)) (f:Fc) (hr:f.r.length<=1048576) (hv:RowV f.r) :
  xkF (f.r.map encV) f.p.1 f.p.2 op ei vk vi vt nm ar w.1 w.2 ((List.range f.r.length).map colE)=some ((xHy (trB tr) w f).map encF):=by
 have p1:=xo8 f.r [f.p] (by simp)
 have p2:=xo8 f.r (cutP f.p w) (by have:=xmx f.p w;omega)
 have p1':xaB (f.r.map encV) [AV.agg [AV.int .i64 f.p.1,AV.int .i64 f.p.2]]=some (1,[encF f]):=p1;have p3:xaB (f.r.map encV) [AV.agg [AV.int .i64 (inP f.p w).1,AV.int .i64 (inP f.p w).2]]=some (1,[encF ⟨f.r,inP f.p w⟩]):=xo8 f.r [inP f.p w] (by simp)
 have hE:=xB1 f.r hr hv f.p.1 f.p.2;unfold xkF xiV xHy;simp only [xej,xa3,xbq,xqb hT f hr,p1',hE,zl,zi,xaa,sUF];cases ho:ovP f.p w with
 | false=>rfl
 | true =>
  cases hb:trB tr f.r with
  | false=>rfl
  | true =>
   have h2:=xAU ho;have hc:cutP f.p (inP f.p w)=cutP f.p w:=by unfold cutP;rw [h2.2]
   have hs:=xyO h2.1;rw [hc] at hs;have hl:=xmx f.p w;have m1:((cutP f.p w).length+1)*40<=140737488355328:=by omega
   have m2:(cutP f.p w).length+1<=4611686018427387904:=by omega
   have m4:(cutP f.p w).length<=4611686018427387903:=by omega
   have m3:List.take 1 (List.drop 0 [encF ⟨f.r,inP f.p w⟩])=[encF ⟨f.r,inP f.p w⟩]:=rfl;simp only [if_true,Bool.not_true,xad,hs,p2,p3,m3,zk,z8,za,m1,m2,m4,zI,zd,beq_self_eq_true,zo,zT,zl,zi,xaa,Bool.and_self,zt,sUF];rw [zj (by simp)]
   simp [m1,m4,xaa,sUF];exact zj (by simp)
theorem xF6 (hT:∀ row:Row,row.length<=1048576->xbe op ei vk vi vt nm ar (row.map encV)=some (tr row)) (l:List Fc) (hl:l.length<=1048576) (n:Nat) (hn:n<=1048576) (hr:∀ f,f∈l->f.r.length=n) (hv:∀ f,f∈l->RowV f.r) :
  xhk (l.map encF) op ei vk vi vt nm ar w.1 w.2 ((List.range n).map colE)=some ((l.flatMap (xHy (trB tr) w)).map encF):=by
 have e:Iter (xaU op ei vk vi vt nm ar w.1 w.2 ((List.range n).map colE) (l.map encF) ((l.length:Nat):Int)) ((0:Nat),(0:Int),[])=_:=xg2 l (xHy (trB tr) w) encF 3 (fun f _=>xqz _ _ f) (fun k h D hD=>by
  have h1:(k:Int)<(l.length:Int):=by omega
  have gf:(l.map encF).getD k .top=encF l[k]:=xac _ _ _ h;have hk:=hr _ (zp h);have hd:=xEr (w:=w) hT l[k] (by omega) (hv _ (zp h))
  rw [hk] at hd;have hc:=xqz (trB tr) w l[k];have m1:(D.length+(xHy (trB tr) w l[k]).length)*40<=140737488355328:=by omega
  have m2:D.length+(xHy (trB tr) w l[k]).length<=4611686018427387904:=by omega
  simp only [xaU,xfx,xcK,sBU,h,h1,gf,cF0,cF1,cF2,sF0,sF1,sF2,lF,sF12,sF02,hd,m1,m2,xHp (n:=k) (by omega)]
  simp) (fun D=>by simp only [xaU,xfx,za,zz,zn,xad,sUF])
 unfold xhk xkK;simp only [za,e,sOO]
end
theorem xBK (n:Nat) (hn:n<=1048576):beginS n=some ((List.range n).map colE):=by
 have key:∀ d k:Nat,k+d=n->Iter (xaN n) (k,(k:Int),(List.range k).map fun (k:Nat)=>AV.agg [AV.int .i64 2,.int .i64 (k:Int),.int .i64 0,.int .i64 0,.str [],.str [],.nils])=some (n,(List.range n).map fun (k:Nat)=>AV.agg [AV.int .i64 2,.int .i64 (k:Int),.int .i64 0,.int .i64 0,.str [],.str [],.nils]):=fun d=>by
  induction d with
  | zero =>
   intro k h;obtain rfl:k=n:=by omega
   refine xah ?_;simp only [xaN,xdo,zz,zn,xad,sUF]
  | succ d ih =>
   intro k h;rw [<-ih (k+1) (by omega)]
   refine xaq ?_;have h1:(k:Int)<(n:Int):=by omega
   have m1:(k+1)*88<=140737488355328:=by omega
   have m2:k+1<=4611686018427387904:=by omega
   simp only [xaN,xdo,sBU,List.length_range,h1,m1,m2,xHp (n:=k) (by omega),List.range_succ,zy,zW,zX]
 have e:=key n 0 (by omega)
 have e:Iter (xaN n) ((0:Nat),(0:Int),[])=_:=e;unfold beginS xdK xgz;simp only [xcO,e,zl,zi,xaa,zI,za,List.length_range,zd,zo,zT,zt,sUF];rw [zj (by simp)]
 simp [normE,colE]
end Go.Sim.M
namespace Go.Sim.M
open Go.RowKit
def xwR (op i vk vi:Int) (vt nm:List UInt8) (args:List AV):Ans (fun b=>b=true->op=22->1<=args.length) (xkW op i vk vi vt nm args):=by
 unfold xkW xlu;simp only [xyJ,zl,zi,xaa,sUF];refine Ans.br (fun _=>Ans.some (by simp)) (fun _=>Ans.br (fun _=>Ans.some (by simp)) (fun h=>?_))
 have hh:op=22->1<=args.length:=fun ho=>by
  subst ho;have ha:(xhy 22).fst=3:=by rfl
  rw [ha] at h;simp only [decide_eq_false_iff_not] at h;omega
 repeat' (first|exact Ans.some (fun _=>hh)|refine Ans.br (fun _=>?_) (fun _=>?_))
def xqH (ks:List Int) (q:Int) (hk:ks.length<=16777216):Ans (fun _=>True) (xcF (ks.map encN) q):=by
 obtain ⟨r,e,_⟩:=xdV (step:=xcA (ks.map encN) q) (fun k i=>i=(k:Int)) ks.length (fun _=>True) (fun k i D hi=>by
  subst hi;have h1:(k:Int)<(ks.length:Int):=by omega
  have gf:(ks.map encN).getD k .top=encN ks[k]:=xac _ _ _ D;simp only [xcA,xiJ,sBU,h1,D,gf,cN,sN,xHp (n:=k) (by omega)]
  repeat' (first|exact Stp.inl rfl|exact Stp.inr trivial|refine Stp.br (fun _=>?_) (fun _=>?_))) (fun i hi=>by
  subst hi;simp only [xcA,xiJ,za,zz,zn,xad,sUF];exact Stp.inr trivial) ks.length 0 (0:Int) (by omega) rfl
 unfold xcF xof;simp only [e,zl,zi,xaa,sUF];repeat' (first|exact Ans.some trivial|refine Ans.br (fun _=>?_) (fun _=>?_))
def xvN (ks:List Int) (hk:ks.length<=16777216):Ans (fun _=>True) (xdt (ks.map encN)):=by
 obtain ⟨r,e,_⟩:=xdV (step:=xc9 (ks.map encN)) (fun k s=>s.2=(k:Int)) ks.length (fun _=>True) (fun k s q hi=>by
  obtain ⟨a,i⟩:=s;dsimp only at hi;subst hi;have h1:(k:Int)<(ks.length:Int):=by omega
  have gf:(ks.map encN).getD k .top=encN ks[k]:=xac _ _ _ q;simp only [xc9,xhQ,xgq,sBU,h1,q,gf,cN,sN,xHp (n:=k) (by omega)]
  repeat' (first|exact Stp.inl rfl|exact Stp.inr trivial|refine Stp.br (fun _=>?_) (fun _=>?_))) (fun s hi=>by
  obtain ⟨a,i⟩:=s;dsimp only at hi;subst hi;simp only [xc9,xhQ,xgq,za,zz,zn,xad,sUF];exact Stp.inr trivial) ks.length 0 ((0:Int),(0:Int)) (by omega) rfl
 unfold xdt xng;simp only [xhm,e,zl,zi,xaa,sUF];repeat' (first|exact Ans.some trivial|refine Ans.br (fun _=>?_) (fun _=>?_))
def xzG (op i vk vi:Int) (vt nm:List UInt8) (args:List AV) (ks kn:List Int) (hk:ks.length<=16777216) (h2:op=2->0<=i/\i<(kn.length:Int)) (q:op=22->1<=ks.length):Ans (fun _=>True) (xgI op i vk vi vt nm args (ks.map encN) (kn.map encN)):=by
 obtain ⟨r1,e1,_⟩:=xqH ks 1 hk;obtain ⟨r2,e2,_⟩:=xqH ks 2 hk;obtain ⟨r3,e3,_⟩:=xqH ks 3 hk;obtain ⟨r4,e4,_⟩:=xvN ks hk;obtain ⟨r5,e5,_⟩:=xvN ((ks.drop 1).take (ks.length - 1)) (by rw [zu];omega)
 obtain ⟨r6,e6,_⟩:=xqH (ks.take 1) 3 (by rw [zu];omega)
 rw [List.map_take,List.map_drop] at e5;rw [List.map_take] at e6;unfold xgI xlz xcX xcY xg7;simp only [za,e1,e2,e3,e4,e5,e6,zt,zl,zi,xaa,sUF];refine Ans.br (fun _=>Ans.some trivial) (fun _=>Ans.br (fun h=>?_) (fun _=>?_))
 . obtain ⟨a,b⟩:=h2 (by simpa using h)
   have c:i.toNat<kn.length:=by omega
   have gf:(kn.map encN).getD i.toNat .top=encN kn[i.toNat]:=xac _ _ _ c;simp only [a,b,c,gf,cN,sN,zo,zT,xaa,sUF];exact Ans.some trivial
 . by_cases h:op=22
   . have:=q h;have c:(1:Int)<=(ks.length:Int):=by omega
     simp only [c,zo,zT,xaa,sUF];repeat' (first|exact Ans.some trivial|refine Ans.br (fun _=>?_) (fun _=>?_))
   . have hb:(op==22)=false:=by simpa using h
     simp only [hb,xad,sUF];repeat' (first|exact Ans.some trivial|refine Ans.br (fun _=>?_) (fun _=>?_))
def xtQ:∀ (n:Nat) (op i vk vi:Int) (vt nm:List UInt8) (args:List AV),(∀ x,x∈args->IsEx x)->AV.nds args<=1048576->AV.nds args<n->Ans (fun _=>True) (xcU n op i vk vi vt nm args)
 | 0,op,i,vk,vi,vt,nm,args,h,hm,hd=>absurd hd (Nat.not_lt_zero _)
 | n+1,op,i,vk,vi,vt,nm,args,h,hm,hd=>by
  have hl:=xoT h;obtain ⟨r,e,_⟩:=xdV (step:=xa6 (xcU n) op i vk vi vt nm args) (fun k s=>∃ m:Int,s=(m,(k:Int))) args.length (fun _=>True) (fun k s hk hi=>by
   obtain ⟨m,rfl⟩:=hi;have h1:(k:Int)<(args.length:Int):=by omega
   have hx:=h args[k] (zp hk);have hp:=xqO (zp hk);have gf:args.getD k .top=args[k]:=by rw [z7,zf hk];rfl
   obtain ⟨q,i',J,D,O,Q,ar,ex,h'⟩:=hx.get;rw [ex] at gf hp;rw [xo5] at hp;obtain ⟨r',e',_⟩:=xtQ n q i' J D O Q ar h' (by omega) (by omega)
   simp only [xa6,xfw,xeU,sBU,h1,hk,gf,xHG,shE,cE0,cE1,cE2,cE3,cE4,cE5,cE6,lE,toIE,toSE,toLE,e',xHp (n:=k) (by omega)]
   exact Stp.inl ⟨_,rfl⟩) (fun s hi=>by
   obtain ⟨m,rfl⟩:=hi;simp only [xa6,xfw,xeU,zz,zn,xad,sUF];exact Stp.inr trivial) args.length 0 ((0:Int),(0:Int)) (by omega) ⟨0,rfl⟩
  show Ans _ (xgf (xcU n) op i vk vi vt nm args);unfold xgf xjB;simp only [e,zl,zi,xaa,sUF];exact Ans.some trivial
def xtM (kn:List Int):∀ (n:Nat) (op i vk vi:Int) (vt nm:List UInt8) (args:List AV),(∀ x,x∈args->IsEx x)->AV.nds args<=1048576->AV.nds args<n->Ans (fun _=>True) (xcT n op i vk vi vt nm args (kn.map encN))
 | 0,op,i,vk,vi,vt,nm,args,h,hm,hd=>absurd hd (Nat.not_lt_zero _)
 | n+1,op,i,vk,vi,vt,nm,args,h,hm,hd=>by
  have hl:=xoT h;obtain ⟨b,fe,fq⟩:=xwR op i vk vi vt nm args;obtain ⟨r,e,hq⟩:=xdV (step:=xbr (xcT n) (kn.map encN) op i vk vi vt nm args) (fun k s=>∃ ks:List Int,ks.length=k/\s=(ks.length,(k:Int),ks.map encN)) args.length (fun r=>r.1=false->∃ ks:List Int,ks.length=args.length/\r.2.2=(ks.length,ks.map encN)) (fun k s hk hi=>by
   obtain ⟨ks,q,rfl⟩:=hi;have h1:(k:Int)<(args.length:Int):=by omega
   have hx:=h args[k] (zp hk);have hp:=xqO (zp hk);have gf:args.getD k .top=args[k]:=by rw [z7,zf hk];rfl
   obtain ⟨J,i',Q,O,V,W,ar,ex,h'⟩:=hx.get;rw [ex] at gf hp;rw [xo5] at hp;have m1:(ks.length+1)*8<=140737488355328:=by omega
   have m2:ks.length+1<=4611686018427387904:=by omega
   obtain ⟨⟨r1,r2⟩,e',_⟩:=xtM kn n J i' Q O V W ar h' (by omega) (by omega)
   simp only [xbr,xfv,xeT,xgr,sBU,h1,hk,gf,xHG,shE,cE0,cE1,cE2,cE3,cE4,cE5,cE6,lE,toIE,toSE,toLE,e',m1,m2,xHp (n:=k) (by omega)]
   refine Stp.br (fun _=>Stp.inr (by simp)) (fun _=>Stp.inl ⟨ks++[r1],by simp [q],?_⟩)
   simp [encN]) (fun s hi=>by
   obtain ⟨ks,q,rfl⟩:=hi;simp only [xbr,xfv,xeT,xgr,zz,zn,xad,sUF];exact Stp.inr fun _=>⟨ks,q,rfl⟩) args.length 0 ((0:Nat),(0:Int),[]) (by omega) ⟨[],rfl,rfl⟩
  obtain ⟨r1,r2,r3⟩:=r;show Ans _ (xfc (xcT n) op i vk vi vt nm args (kn.map encN));unfold xfc xjA xhR;simp only [xlv,xlw,xdb,xly,e,fe,za,zl,zi,xaa,sUF];cases b with
  | false=>simp only [Bool.not_false,xaa,sUF];repeat' (first|exact Ans.some trivial|refine Ans.br (fun _=>?_) (fun _=>?_))
  | true =>
   have D:∀ r1:Bool,(r1=false->∃ ks:List Int,ks.length=args.length/\r3=(ks.length,ks.map encN))->(op=2->0<=i/\i<(kn.length:Int))->∀ x:Int×Int,Ans (fun _=>True) (br r1 (some x) (br (decide (r3.1<=r3.2.length)&&true) (br ((xgI op i vk vi vt nm args (List.take r3.1 (List.drop 0 r3.2)) (kn.map encN)).isSome) (br (!((xgI op i vk vi vt nm args (List.take r3.1 (List.drop 0 r3.2)) (kn.map encN)).getD ((0:Int),false)).2) (some ((0:Int),(7:Int))) (some (((xgI op i vk vi vt nm args (List.take r3.1 (List.drop 0 r3.2)) (kn.map encN)).getD ((0:Int),false)).1,(0:Int)))) none) none)):=fun r1 hr h2 x=>by
    cases r1 with
    | true=>exact Ans.some trivial
    | false =>
     obtain ⟨ks,q,rfl⟩:=hr rfl;obtain ⟨y,ye,_⟩:=xzG op i vk vi vt nm args ks kn (by omega) h2 (fun ho=>by rw [q];exact fq rfl ho)
     have tt:List.take ks.length (ks.map encN)=ks.map encN:=zj (by simp)
     simp only [xad,za,zd,zo,zT,xaa,zt,tt,ye,zl,zi,sUF];repeat' (first|exact Ans.some trivial|refine Ans.br (fun _=>?_) (fun _=>?_))
   simp only [Bool.not_true,xad,zI,sUF];refine Ans.br (fun _=>Ans.some trivial) (fun _=>Ans.br (fun ho=>?_) (fun ho=>?_))
   . refine Ans.br (fun _=>Ans.some trivial) (fun a1=>Ans.br (fun _=>Ans.some trivial) (fun a2=>?_))
     simp only [decide_eq_false_iff_not] at a1 a2;exact D r1 hq (fun _=>⟨by omega,by omega⟩) _
   . exact D r1 hq (fun h=>by simp [h] at ho) _
def xCy (kn:List Int) (op i vk vi:Int) (vt nm:List UInt8) (args:List AV) (h:∀ x,x∈args->IsEx x) (hm:AV.nds args<=1048576):Ans (fun _=>True) (xhS op i vk vi vt nm args (kn.map encN)):=by
 obtain ⟨d,de,_⟩:=xtQ (AV.nds args+1) op i vk vi vt nm args h hm (Nat.lt_succ_self _);obtain ⟨c,ce,_⟩:=xtM kn (AV.nds args+1) op i vk vi vt nm args h hm (Nat.lt_succ_self _);have h1:(xhn op i vk vi vt nm args).isSome=true:=xje (R:=fun n=>xcU n op i vk vi vt nm args) (by rw [de];rfl)
 have h2:(xfO op i vk vi vt nm args (kn.map encN)).isSome=true:=xje (R:=fun n=>xcT n op i vk vi vt nm args (kn.map encN)) (by rw [ce];rfl)
 have h3:Ans (fun _=>True) (xge op i vk vi vt nm args (kn.map encN)):=by
  unfold xge xmg;rw [h1,h2];simp only [xaa,sUF];repeat' (first|exact Ans.some trivial|refine Ans.br (fun _=>?_) (fun _=>?_))
 obtain ⟨x,e,_⟩:=h3;unfold xhS xi1;simp only [e,zl,zi,xaa,sUF];repeat' (first|exact Ans.some trivial|refine Ans.br (fun _=>?_) (fun _=>?_))
def xt3 {σ ρ:Type} {step:σ->Option (σ⊕ρ)} (I:Nat->σ->Prop) (Q:ρ->Prop) (hs:∀ k s,I k s->Stp (fun s'=>I (k+1) s') Q (step s)) (N:Nat) (hN:∀ s,¬ I N s):∀ (d k:Nat) (s:σ),k+d=N->I k s->Ans Q (Iter step s)
 | 0,k,s,h,hi=>absurd hi (by
  obtain rfl:k=N:=by omega
  exact hN s)
 | d+1,k,s,h,hi=>by
  rcases hs k s hi with ⟨s',e,q⟩|⟨r,e,hq⟩
  . obtain ⟨x,ex,hx⟩:=xt3 I Q hs N hN d (k+1) s' (by omega) q
    exact ⟨x,(xaq e).trans ex,hx⟩
  . exact ⟨r,xah e,hq⟩
def xs2:∀ (n:Nat) (op i vk vi:Int) (vt nm:List UInt8) (args:List AV) (m:Nat),(∀ x,x∈args->IsEx x)->1<=m->m<=1000->m<=n->Ans (fun r=>r=((min (AV.nds args+1) m:Nat):Int)) (xap n op i vk vi vt nm args m)
 | 0,op,i,vk,vi,vt,nm,args,m,h,h1,h2,h3=>by omega
 | n+1,op,i,vk,vi,vt,nm,args,m,h,h1,h2,h3=>by
  obtain ⟨r,e,hr⟩:=xt3 (step:=xai (xap n) m op i vk vi vt nm args) (fun k s=>k<=args.length/\k+1<=min (AV.nds (args.take k)+1) m+0/\s=(((min (AV.nds (args.take k)+1) m:Nat):Int),(k:Int))) (fun r=>r=((min (AV.nds args+1) m:Nat):Int)) (fun k s hi=>by
   obtain ⟨hk,aa,rfl⟩:=hi;by_cases q:k<args.length
   . have c1:(k:Int)<(args.length:Int):=by omega
     have hx:=h args[k] (zp q);have hp:=xrT k args q;have gf:args.getD k .top=args[k]:=by rw [z7,zf q];rfl
     have D:=xvX hx;obtain ⟨O,i',V,Q,W,Z,ar,ex,h'⟩:=hx.get;rw [ex] at gf hp D;rw [xo5] at hp D;by_cases hn:min (AV.nds (args.take k)+1) m<m
     . have c2:((min (AV.nds (args.take k)+1) m:Nat):Int)<(m:Int):=by omega
       have ew:IntKind.i64.wrap ((m:Int) - ((min (AV.nds (args.take k)+1) m:Nat):Int))=((m - min (AV.nds (args.take k)+1) m:Nat):Int):=by rw [xaK (by omega) (by omega)];omega
       obtain ⟨r',e',J⟩:=xs2 n O i' V Q W Z ar (m - min (AV.nds (args.take k)+1) m) h' (by omega) (by omega) (by omega)
       subst J;have Y:IntKind.i64.wrap (((min (AV.nds (args.take k)+1) m:Nat):Int)+((min (AV.nds ar+1) (m - min (AV.nds (args.take k)+1) m):Nat):Int))=((min (AV.nds (args.take (k+1))+1) m:Nat):Int):=by rw [xaK (by omega) (by omega)];omega
       simp only [xai,xbs,xbI,sBU,c1,c2,q,gf,xHG,shE,cE0,cE1,cE2,cE3,cE4,cE5,cE6,lE,toIE,toSE,toLE,ew,e',Y,xHp (n:=k) (by omega)]
       exact Stp.inl ⟨by omega,by omega,rfl⟩
     . have c2:¬ ((min (AV.nds (args.take k)+1) m:Nat):Int)<(m:Int):=by omega
       simp only [xai,xbs,xbI,sBU,c1,c2];have:=xoc k args;exact Stp.inr (by omega)
   . have c1:¬ (k:Int)<(args.length:Int):=by omega
     have:args.take k=args:=zj (by omega)
     simp only [xai,xbs,xbI,c1,zn,xad,this,sUF];exact Stp.inr rfl) (m+1) (fun s hi=>by omega) (m+1) 0 (((1:Nat):Int),(0:Int)) (by omega) ⟨by omega,by simp [AV.nds];omega,by simp [AV.nds];omega⟩
  show Ans _ (xdu (xap n) op i vk vi vt nm args m);have e:Iter (xai (xap n) m op i vk vi vt nm args) ((1:Int),(0:Int))=some r:=e;unfold xdu xgJ;simp only [e,zl,zi,xaa,sUF];exact Ans.some hr
def xAX {σ ρ:Type} {step:σ->Option (σ⊕ρ)} (I:σ->Prop) (Q:ρ->Prop) (hs:∀ s s',I s->step s=some (.inl s')->I s') (he:∀ s r,I s->step s=some (.inr r)->Q r) {s:σ} {r:ρ} (hi:I s) (h:Iter step s=some r):Q r:=by
 obtain ⟨n,hn⟩:=xlr.1 h;clear h;induction n generalizing s with
 | zero=>simp [iterN] at hn
 | succ n ih =>
  unfold iterN at hn;split at hn
  . rename_i s' e;exact ih (hs _ _ hi e) hn
  . rename_i r' e;cases hn;exact he _ _ hi e
  . simp at hn
def xs3:∀ (n:Nat) (op i vk vi:Int) (vt nm:List UInt8) (args:List AV) (m:Nat) (r:Int),(∀ x,x∈args->IsEx x)->1<=m->m<=1000->xap n op i vk vi vt nm args m=some r->r=((min (AV.nds args+1) m:Nat):Int)
 | 0,op,i,vk,vi,vt,nm,args,m,r,h,h1,h2,e=>by simp [xap,sUF] at e
 | n+1,op,i,vk,vi,vt,nm,args,m,r,h,h1,h2,e=>by
  have e:xdu (xap n) op i vk vi vt nm args m=some r:=e;unfold xdu xgJ at e;simp only [xvg] at e;have q:∀ k:Nat,k<=args.length->k+1<=min (AV.nds (args.take k)+1) m->xai (xap n) m op i vk vi vt nm args (((min (AV.nds (args.take k)+1) m:Nat):Int),(k:Int))=none \/
    (k+1<=args.length/\k+1+1<=min (AV.nds (args.take (k+1))+1) m/\xai (xap n) m op i vk vi vt nm args (((min (AV.nds (args.take k)+1) m:Nat):Int),(k:Int))=some (.inl (((min (AV.nds (args.take (k+1))+1) m:Nat):Int),((k+1:Nat):Int)))) \/
    xai (xap n) m op i vk vi vt nm args (((min (AV.nds (args.take k)+1) m:Nat):Int),(k:Int))=some (.inr ((min (AV.nds args+1) m:Nat):Int)):=fun k hk J=>by
   by_cases D:k<args.length
   . have c1:(k:Int)<(args.length:Int):=by omega
     have hx:=h args[k] (zp D);have hp:=xrT k args D;have gf:args.getD k .top=args[k]:=by rw [z7,zf D];rfl
     have O:=xvX hx;obtain ⟨Q,i',W,V,Y,Z,ar,ex,h'⟩:=hx.get;rw [ex] at gf hp O;rw [xo5] at hp O;by_cases hn:min (AV.nds (args.take k)+1) m<m
     . have c2:((min (AV.nds (args.take k)+1) m:Nat):Int)<(m:Int):=by omega
       have ew:IntKind.i64.wrap ((m:Int) - ((min (AV.nds (args.take k)+1) m:Nat):Int))=((m - min (AV.nds (args.take k)+1) m:Nat):Int):=by rw [xaK (by omega) (by omega)];omega
       simp only [xai,xbs,xbI,sBU,c1,c2,D,gf,xHG,shE,cE0,cE1,cE2,cE3,cE4,cE5,cE6,lE,toIE,toSE,toLE,ew,xHp (n:=k) (by omega)]
       cases e':xap n Q i' W V Y Z ar (m - min (AV.nds (args.take k)+1) m:Nat) with
       | none=>exact .inl rfl
       | some r' =>
        have hr':=xs3 n Q i' W V Y Z ar (m - min (AV.nds (args.take k)+1) m) r' h' (by omega) (by omega) e'
        subst hr';have aa:IntKind.i64.wrap (((min (AV.nds (args.take k)+1) m:Nat):Int)+((min (AV.nds ar+1) (m - min (AV.nds (args.take k)+1) m):Nat):Int))=((min (AV.nds (args.take (k+1))+1) m:Nat):Int):=by rw [xaK (by omega) (by omega)];omega
        simp only [zl,zi,xaa,aa,sUF];exact .inr (.inl ⟨by omega,by omega,by first|rfl|trivial⟩)
     . have c2:¬ ((min (AV.nds (args.take k)+1) m:Nat):Int)<(m:Int):=by omega
       simp only [xai,xbs,xbI,sBU,c1,c2,zn];have:=xoc k args;refine .inr (.inr ?_);rw [show min (AV.nds (args.take k)+1) m=min (AV.nds args+1) m by omega]
   . have c1:¬ (k:Int)<(args.length:Int):=by omega
     have:args.take k=args:=zj (by omega)
     simp only [xai,xbs,xbI,c1,zn,xad,this,sUF];exact .inr (.inr (by first|rfl|trivial))
  refine xAX (fun s=>∃ k:Nat,k<=args.length/\k+1<=min (AV.nds (args.take k)+1) m/\s=(((min (AV.nds (args.take k)+1) m:Nat):Int),(k:Int))) (fun r=>r=((min (AV.nds args+1) m:Nat):Int)) (fun s s' hi hq=>?_) (fun s r hi hq=>?_) (s:=((1:Int),(0:Int))) ⟨0,by omega,by simp [AV.nds];omega,by simp [AV.nds];omega⟩ e
  . obtain ⟨k,hk,J,rfl⟩:=hi;rcases q k hk J with h0|⟨g1,g2,h0⟩|h0
    . rw [h0] at hq;simp at hq
    . rw [h0] at hq;simp only [z6,Sum.inl.injEq] at hq;exact ⟨k+1,g1,g2,hq.symm⟩
    . rw [h0] at hq;simp at hq
  . obtain ⟨k,hk,J,rfl⟩:=hi;rcases q k hk J with h0|⟨g1,g2,h0⟩|h0
    . rw [h0] at hq;simp at hq
    . rw [h0] at hq;simp at hq
    . rw [h0] at hq;simp only [z6,Sum.inr.injEq] at hq;exact hq.symm
def xCR (x:AV) (hx:IsEx x):xog [x] 40=some (decide (AV.nd x<=40)):=by
 have hw:∀ r:Int,r=((min (AV.nds [x]+1) 42:Nat):Int)->decide (r<=41)=decide (AV.nd x<=40):=fun r hr=>by
  subst hr;have:AV.nds [x]=AV.nd x:=by simp [AV.nds]
  rw [this];congr 1;rw [eq_iff_iff];omega
 obtain ⟨r,e,hr⟩:=xs2 42 0 0 0 0 [] [] [x] 42 (fun y hy=>by rw [zw.1 hy];exact hx) (by decide) (by decide) (by decide)
 have h1:(xd3 0 0 0 0 [] [] [x] 42).isSome=true:=xje (R:=fun n=>xap n 0 0 0 0 [] [] [x] 42) (n:=42) (by
  show (xap 42 0 0 0 0 [] [] [x] ((42:Nat):Int)).isSome=true;rw [e];rfl)
 obtain ⟨n,hn⟩:=xjx (R:=fun n=>xap n 0 0 0 0 [] [] [x] 42) h1
 have h2:xd3 0 0 0 0 [] [] [x] 42=some r:=by
  have h3:xd3 0 0 0 0 [] [] [x] 42=xap n 0 0 0 0 [] [] [x] 42:=hn;rw [h3] at h1 |-;cases e':xap n 0 0 0 0 [] [] [x] 42 with
  | none=>rw [e'] at h1;simp at h1
  | some r'=>rw [hr,xs3 n 0 0 0 0 [] [] [x] 42 r' (fun y hy=>by rw [zw.1 hy];exact hx) (by decide) (by decide) e']
 unfold xog xmi;have w1:IntKind.i64.wrap (40+2)=42:=rfl;have w2:IntKind.i64.wrap (40+1)=41:=rfl;rw [w1,w2,h2];simp only [zl,zi,xaa,hw r hr,sUF]
open Go.Sim.Srt
theorem xEa (l:List Fc):Ans (fun b=>b=true->l.length<=8) (xnZ (l.map encF) 8):=by
 unfold xnZ xoi;rw [za];refine Ans.br (fun _=>Ans.some (by simp)) (fun h=>?_)
 have hl:l.length<=8:=by simp only [decide_eq_false_iff_not] at h;omega
 obtain ⟨r,e,_⟩:=xdV (step:=xcB (l.map encF)) (fun k s=>s=(k:Int)) l.length (fun _=>True) (fun k s hk hi=>by
  subst hi;have h1:(k:Int)<(l.length:Int):=by omega
  have gf:(l.map encF).getD k .top=encF l[k]:=xac _ _ _ hk;simp only [xcB,xiK,sBU,h1,hk,gf,cF0,cF1,cF2,sF0,sF1,sF2,lF,sF12,sF02,xHp (n:=k) (by omega)]
  repeat' (first|exact Stp.inl rfl|exact Stp.inr trivial|refine Stp.br (fun _=>?_) (fun _=>?_))) (fun s hi=>by
  subst hi;simp only [xcB,xiK,za,zz,zn,xad,sUF];exact Stp.inr trivial) l.length 0 (0:Int) (by omega) rfl
 simp only [e,zl,zi,xaa,sUF];repeat' (first|exact Ans.some (fun _=>hl)|refine Ans.br (fun _=>?_) (fun _=>?_))
theorem xB0 (r:Row) (w:Per):xfN [encR r] w.1 w.2=some [encF ⟨r,w⟩]:=by
 have hp:xfX (r.map encV) w.1 w.2=some [encF ⟨r,w⟩]:=by
  have p1:xbu (r.map encV) [AV.agg [AV.int .i64 w.1,AV.int .i64 w.2]]=some [encF ⟨r,w⟩]:=xnW r [w] (by simp)
  unfold xfX xiU;rw [p1];rfl
 have e:Iter (xbX w.1 w.2 ([r].map encR) ((([r]:List Row).length:Nat):Int)) ((0:Nat),(0:Int),[])=_:=xg2 [r] (fun r=>[(⟨r,w⟩:Fc)]) encF 1 (fun _ _=>by simp) (fun n h D hD=>by
  obtain rfl:n=0:=by simpa using h
  obtain rfl:D=[]:=by simpa using hD
  have gf:([r].map encR).getD ((0:Nat):Int).toNat .top=encR r:=rfl;have g0:((encR r).cells.getD 0 .top).toList=r.map encV:=rfl;simp only [xbX,xih,xfF,gf,g0,hp,sUF];rfl) (fun D=>rfl)
 have e:Iter (xbX w.1 w.2 [encR r] ((([encR r]:List AV).length:Nat):Int)) ((0:Nat),(0:Int),[])=some (1,[encF ⟨r,w⟩]):=e;unfold xfN xkJ;simp only [xfs,e,sUF];rfl
theorem xAV (r:Row) (w:Per) (hn:Nice [⟨r,w⟩]) (hw:pv w=true):∃ f:Fc,xme [] [encR r] w.1 w.2=some [encF f]:=by
 obtain ⟨B,b1,b2⟩:=xlT [⟨r,w⟩] ⟨hn.keyed (by simp),by simp,R20.few (by simp)⟩
 have hB:B.length=1:=by
  have h1:=b2.len1;have h2:=b2.cntB r w.1;rw [xqI] at h2;have h3:hasP w w.1=true:=xn4 hw;simp only [h3,if_true] at h2;cases B with
  | nil=>simp [cnt] at h2
  | cons f B=>simp at h1 |-;simpa using h1
 match B,hB with
 | [f],_ =>
  refine ⟨f,?_⟩;have b1:xak [encF ⟨r,w⟩]=some [encF f]:=b1;have t:List.take 1 (List.drop 0 ([]++[]++[encF (⟨r,w⟩:Fc)]))=[encF ⟨r,w⟩]:=rfl;unfold xme xkE;simp only [xfr,xjQ,xB0,zl,zi,List.length_nil,zk,zI,sUF];rw [t,b1];rfl
section
variable {op ei vk vi : Int} {vt nm : List UInt8} {ar : List AV}
theorem xCY (hx:∀ x,x∈ar->IsEx x) (hm:AV.nds ar<=1048576) (row:Row) (hl:row.length<=1048576):xbe op ei vk vi vt nm ar (row.map encV)=some ((xbe op ei vk vi vt nm ar (row.map encV)).getD 0):=by
 obtain ⟨r,e,_⟩:=xvt row hl (AV.nds ar+1) op ei vk vi vt nm ar hx hm (Nat.lt_succ_self _);have h1:(xbE op ei vk vi vt nm ar (row.map encV)).isSome=true:=xje (R:=fun n=>xbd n op ei vk vi vt nm ar (row.map encV)) (by rw [e];rfl)
 have h2:(xbe op ei vk vi vt nm ar (row.map encV)).isSome=true:=by
  unfold xbe xl6;rw [h1];rfl
 obtain ⟨y,hy⟩:=Option.isSome_iff_exists.1 h2;rw [hy];rfl
variable {K : List Int} {l : List Fc} {tr : Row -> Int} {w : Per}
theorem xqm {F:Fc->List Fc} (hF:∀ f g,g∈F f->g.r=f.r) (hn:Nice l):Nice (l.flatMap F):=fun f hf=>by
 obtain ⟨g,h1,h2⟩:=xoX hF hf;rw [h2];exact hn g h1
theorem xCF {F:Fc->List Fc} (hF:∀ f g,g∈F f->g.r=f.r) (hl:l.length<=8):R20 (l.flatMap F):=(R20.few (l:=l) (by omega)).of fun f hf=>by
 obtain ⟨g,h1,h2⟩:=xoX hF hf;exact ⟨g,h1,h2⟩
theorem xrC {F:Fc->List Fc} (hF:∀ f g,g∈F f->g.r=f.r) (hc:∀ f,(F f).length<=3) (hn:Nice l) (hl:l.length<=8):Bld (l.flatMap F):=by
 have:=xib (g:=F) (c:=3) l fun f _=>hc f
 exact ⟨(xqm hF hn).keyed (by omega),by omega,xCF hF hl⟩
end
theorem xrU {l B:List Fc} (h:xHu l B) (hn:Nice l):Nice B:=h.all (Q:=fun r=>r.length<=48/\∀ v,v∈r->xHJ v) hn
theorem xDY (K:List Int) (l:List Fc) (op ei vk vi:Int) (vt nm:List UInt8) (ar:List AV) (hx:∀ x,x∈ar->IsEx x) (w:Per) :
  xdi (K.map encN) (l.map encF) op ei vk vi vt nm ar w.1 w.2=some true:=by
 obtain ⟨f0,i0⟩:=xAV [⟨1,1,[]⟩] (0,2) (fun f hf=>by
  rw [zw.1 hf];refine ⟨by simp,fun v hv=>?_⟩
  rw [zw.1 hv];exact ⟨⟨⟨rfl,rfl,by simp⟩,by simp⟩,rfl⟩) rfl
 have i1:xce=some [encF f0]:=i0;have hE:IsEx (.agg [.int .i64 op,.int .i64 ei,.int .i64 vk,.int .i64 vi,.str vt,.str nm,.list 7 ar]):=.mk op ei vk vi vt nm ar hx;have J:xcf op ei vk vi vt nm ar=some (decide (AV.nds ar+1<=40)):=by
  have:=xCR _ hE;rwa [xo5] at this
 obtain ⟨bf,f1,f2⟩:=xEa l;have A:Ans (fun b=>b=true) (xdi (K.map encN) (l.map encF) op ei vk vi vt nm ar w.1 w.2):=by
  unfold xdi xeb;simp only [i1,J,f1,xn1,za,zl,zi,zk,xaa,sUF];refine Ans.br (fun h=>by simp at h) (fun _=>?_)
  refine Ans.br (fun _=>Ans.some rfl) (fun hk=>?_)
  have hk:K.length<=8:=by simp only [decide_eq_false_iff_not] at hk;omega
  refine Ans.br (fun _=>Ans.some rfl) (fun hf=>?_)
  have hl:l.length<=8:=f2 (by simpa using hf)
  obtain ⟨bs,s1,s2⟩:=xCS K (by omega) l (by omega)
  simp only [s1,zl,zi,xaa,sUF];refine Ans.br (fun _=>Ans.some rfl) (fun hs=>?_)
  have hs:∀ f,f∈l->FactOk K f:=s2 (by simpa using hs)
  refine Ans.br (fun _=>Ans.some rfl) (fun hm=>?_)
  have hm:AV.nds ar<=39:=by simp only [Bool.not_eq_false',zm] at hm;omega
  obtain ⟨pr,p1,_⟩:=xCy K op ei vk vi vt nm ar hx (by omega)
  simp only [p1,zl,zi,xaa,sUF];refine Ans.br (fun _=>Ans.some rfl) (fun _=>Ans.br (fun _=>Ans.some rfl) (fun hw=>?_))
  have hn:Nice l:=fun f hf=>⟨by have:=(hs f hf).2.1;omega,(hs f hf).2.2⟩
  have q:∀ f,f∈l->f.r.length<=1048576:=fun f hf=>by have:=(hs f hf).2.1;omega
  have hv:∀ f,f∈l->RowV f.r:=fun f hf v Y=>((hs f hf).2.2 v Y).2
  have hT:∀ row:Row,row.length<=1048576->xbe op ei vk vi vt nm ar (row.map encV)=some ((fun row:Row=>(xbe op ei vk vi vt nm ar (row.map encV)).getD 0) row):=fun row hr=>xCY hx (by omega) row hr
  generalize (fun row:Row=>(xbe op ei vk vi vt nm ar (row.map encV)).getD 0)=tr at hT
  have lF:∀ f g:Fc,g∈xHt (trB tr) w f->g.r=f.r:=fun f g h=>xA1 h
  have gF:∀ f g:Fc,g∈xHs (trB tr) w f->g.r=f.r:=fun f g h=>xAR h
  have sF:∀ f g:Fc,g∈xHy (trB tr) w f->g.r=f.r:=fun f g h=>xBm h
  obtain ⟨D,d1,d2⟩:=xlT _ (xrC lF (fun f=>by have:=xnU (trB tr) w f;omega) hn hl)
  obtain ⟨G,g1,g2⟩:=xlT _ (xrC gF (fun f=>by have:=xnP (trB tr) w f;omega) hn hl)
  obtain ⟨S,q1,q2⟩:=xlT _ (xrC sF (fun f=>xqz (trB tr) w f) hn hl)
  obtain ⟨B,b1,b2⟩:=xlT l ⟨hn.keyed (by omega),by omega,R20.few (by omega)⟩
  have ld:=d2.len1;have lg:=g2.len1;have lb:=b2.len1;have Z:=xib (g:=xHt (trB tr) w) (c:=2) l fun f _=>xnU _ _ f
  have aa:=xib (g:=xHs (trB tr) w) (c:=1) l fun f _=>xnP _ _ f
  have nD:Nice D:=xrU d2 (xqm lF hn);have nG:Nice G:=xrU g2 (xqm gF hn);have nB:Nice B:=xrU b2 hn;have W:R20 (D++G):=by
   obtain ⟨R,r1,r2⟩:=R20.few (l:=l) (by omega)
   refine ⟨R,r1,fun f hf=>?_⟩
   rcases zH.1 hf with h|h
   . exact d2.all (Q:=fun r=>r∈R) (fun f hf=>by obtain ⟨g,e1,e2⟩:=xoX lF hf;rw [e2];exact r2 g e1) f h
   . exact g2.all (Q:=fun r=>r∈R) (fun f hf=>by obtain ⟨g,e1,e2⟩:=xoX gF hf;rw [e2];exact r2 g e1) f h
  obtain ⟨U,u1,u2⟩:=xBy K (K.map encN) (by omega) nD nG (by omega) W
  have hD:xeR (l.map encF) op ei vk vi vt nm ar w.1 w.2=some (D.map encF):=by
   unfold xeR xkD;rw [xFG hT l (by omega) q]
   simp only [zl,zi,xaa,d1,sUF]
  have hA:∀ (l G:List Fc),l.length<=1048576->(∀ f,f∈l->f.r.length<=1048576)->xak ((l.flatMap (xHs (trB tr) w)).map encF)=some (G.map encF)->xcD (l.map encF) op ei vk vi vt nm ar w.1 w.2=some (G.map encF):=fun l G hl hr hg=>by
   unfold xcD xiS;rw [xFa hT l hl hr];simp only [zl,zi,xaa,hg,sUF]
  have hG:=hA l G (by omega) q g1
  have hU:U=B:=by
   refine u2.isB.unique (b2.isB.congr fun r t=>?_)
   rw [d2.cntB,g2.cntB,xve]
  have hS:S=B:=q2.unique b2 fun r t=>xv8 _ _ r t l
  subst hS;subst hU;have hI:=xCJ (B:=U) (by omega) fun f hf=>by have:=(nB f hf).1;omega
  have O:xhh (l.map encF) op ei vk vi vt nm ar ((List.range K.length).map colE) w.1 w.2=some (U.map encF):=by
   unfold xhh xkG;rw [xF6 hT l (by omega) K.length (by omega) (fun f hf=>(hs f hf).2.1) hv]
   simp only [zl,zi,xaa,q1,sUF]
  have hN:D.flatMap (xHs (trB tr) w)=[]:=xCi _ _ d2;have V:xcD (D.map encF) op ei vk vi vt nm ar w.1 w.2=some []:=by
   obtain ⟨E,e1,e2⟩:=xlT [] ⟨Nice.keyed (fun f hf=>by cases hf) (by simp),by simp,R20.few (by simp)⟩
   have:E=[]:=by have:=e2.len1;simpa using this
   subst this;exact hA D [] (by omega) (fun f hf=>by have:=(nD f hf).1;omega) (by rw [hN];exact e1)
  simp only [xdQ,xce,xcf,hD,hG,u1,b1,xBK K.length (by omega),O,hI,V,zl,zi,xaa,Bool.not_true,xad,List.length_nil,sUF]
  exact Ans.some rfl
 obtain ⟨b,e,rfl⟩:=A;exact e
end Go.Sim.M
namespace Go.Sim.M
open Go.RowKit
def xBN (r:List Int×List Fc) (e:Exr) (w:Per) {P Q:Prop} (_:P) (hx:∀ x,x∈e.ar->IsEx x) (_:Q):xdi (r.1.map encN) (r.2.map encF) e.op e.ei e.vk e.vi e.vt e.nm e.ar w.1 w.2=some true:=xDY r.1 r.2 e.op e.ei e.vk e.vi e.vt e.nm e.ar hx w
end Go.Sim.M
namespace Go.Proofs.YtefdfdjimkinpaaGreatDoor.topAffected
open Go.ChangeShapes Go.WideShapes Go.ChangeAt Go.RowKit Go.Sim
theorem contract (H:Type) (enc:TypeId×Value->H) (W:World) (base:Nat) (args:Array Value) (ds gs:List (DataW H)) (before:List MemPlace)
  (hval:∀ (j:Nat) t v,Tryz.f3.params[j]?=some t->args[j]?=some v->Value.okWide Tryz.prog W .any base t v)
  (hW:DataW.Whole enc Tryz.prog Tryz.f3.params.toList Rows.topAffectedSpec.vars false W args.toList ds gs before) (hL:laidMetH Tryz.prog Rows.topAffectedRow.laid W) (hsh:W.ShapedOpen Tryz.prog) :
  Calls Tryz.prog 3 args W fun e W'=>∃ v,e=.returned v/\Rows.topAffectedSpec.post enc Tryz.prog Tryz.f3 false true false false W args v W':=by
 have hW':=hW;obtain ⟨p,q,hA0,hV,rfl,hfz,hnd⟩:=hW;have hA:DataW.TrodAll enc Tryz.prog W 0 (fun _=>true) true Tryz.f3.params.toList args.toList ds p:=hA0
 have hAk:=hA;rw [Tryz.params3] at hA hval;obtain ⟨v0,vs0,d0,ds0,p0,q0,hargs,rfl,rfl,h0,r0⟩:=trodAll_cons hA;obtain ⟨v1,vs1,d1,ds1,p1,q1,rfl,rfl,rfl,h1,r1⟩:=trodAll_cons r0;obtain ⟨v2,vs2,d2,ds2,p2,q2,rfl,rfl,rfl,h2,r2⟩:=trodAll_cons r1;obtain ⟨rfl,rfl,rfl⟩:=trodAll_nil r2;obtain rfl:args=#[v0,v1,v2]:=by cases args;simp_all
 obtain ⟨rfl,rfl⟩:=trodVars_none hV;obtain ⟨a0,rr0,b0,w0⟩:=xCu (hval 0 25 v0 rfl rfl) h0;obtain ⟨a1,rr1,b1,w1⟩:=xD4 (hval 1 30 v1 rfl rfl) h1;obtain ⟨a2,rr2,b2,w2⟩:=xCt (hval 2 32 v2 rfl rfl) h2;clear hA0;have hI:xIQ W:=xFT rfl (by kernel_rfl) hL hsh
 have hpl:=M.xBN a0 a1 a2 w0 w1 w2;have hg:Sim.Good Tryz.prog xIQ 3 [(.agg [.list 1 (a0.1.map M.encN),.list 3 (a0.2.map M.encF)]),(.agg [.int .i64 a1.op,.int .i64 a1.ei,.int .i64 a1.vk,.int .i64 a1.vi,.str a1.vt,.str a1.nm,.list 7 a1.ar]),(.agg [.int .i64 a2.1,.int .i64 a2.2])] (.bool true):=M.xlU _ _ (congrArg (fun x:Option Bool=>some (x.isSome,AV.bool (x.getD false))) hpl)
 have hrc:RC W (fun _=>False) xIl [v0,v1,v2] [(.agg [.list 1 (a0.1.map M.encN),.list 3 (a0.2.map M.encF)]),(.agg [.int .i64 a1.op,.int .i64 a1.ei,.int .i64 a1.vk,.int .i64 a1.vi,.str a1.vt,.str a1.nm,.list 7 a1.ar]),(.agg [.int .i64 a2.1,.int .i64 a2.2])]:=by
  refine ⟨rfl,fun i hi=>?_⟩
  match i,hi with
  | 0,_=>exact rr0
  | 1,_=>exact rr1
  | 2,_=>exact rr2
 refine (hg.2 W (fun _=>False) _ hI (fun _ h=>h.elim) hrc).mono fun e W' ⟨v,he,hb,hr⟩=>?_
 subst he;obtain rfl:=hr.bool_inv;exact ⟨_,rfl,xA7 rfl hW' ⟨rfl,rfl,rfl⟩ rfl Tryz.underlying4 (by simpa using xpt xHW hb (by kernel_rfl) hAk) hb⟩
noncomputable def wit:Array Value:=#[.agg #[.slice none 0 0,.slice none 0 0],.agg #[.int .i64 0,.int .i64 0,.int .i64 0,.int .i64 0,.string ⟨#[]⟩,.string ⟨#[]⟩,.slice none 0 0],.agg #[.int .i64 0,.int .i64 0]]
theorem laid_met (os:Os):laidMet Tryz.prog Rows.topAffectedRow.laid ((xHK Tryz.prog Rows.topAffectedRow.laid os).forCall (fun _ _=>0) ⟨#[],wit,[]⟩).memory :=
 laidMet_of_run3 8 (by kernel_rfl) (by kernel_rfl) (by kernel_rfl)
theorem reads (os:Os) {H:Type} (enc:TypeId×Value->H):∃ places,DataW.whole enc Tryz.prog ((xHK Tryz.prog Rows.topAffectedRow.laid os).forCall (fun _ _=>0) ⟨#[],wit,[]⟩).memory Tryz.f3.params.toList Rows.topAffectedSpec.vars false wit.toList 8=some ([.agg [.nil,.nil],.agg [.lit (.int .i64 0),.lit (.int .i64 0),.agg [.lit (.int .i64 0),.lit (.int .i64 0),.lit (.string [])],.lit (.string []),.nil],.agg [.lit (.int .i64 0),.lit (.int .i64 0)]],[],places) :=
 ⟨[],by kernel_rfl⟩
set_option maxRecDepth 100000 in
theorem lifted (os:Os) (started:os.Started) (H:Type) (enc:TypeId×Value->H) (F:Stop.Interp) :
  ReturnsInHanded {} Tryz.checked os 3 .any ((OpenSpec.ofChange Rows.topAffectedSpec).preRow enc Tryz.prog Tryz.f3 Rows.topAffectedRow.domain false Rows.topAffectedRow.laid) (((OpenSpec.ofChange Rows.topAffectedSpec).at F).post enc Tryz.prog Tryz.f3 false true false false):=by
 obtain ⟨places,hx⟩:=reads os enc;refine returnsInHanded_of_row (C:=Tryz.checked) (s:=OpenSpec.ofChange Rows.topAffectedSpec) xH0 started (by kernel_rfl) Tryz.func3
  (witness_row_at (enc:=enc) (C:=Tryz.checked) false (xHK Tryz.prog Rows.topAffectedRow.laid os) wit rfl (by kernel_rfl) (by kernel_rfl) (by kernel_rfl)
   (OpenSpec.preRow_of_cond 8 hx (by kernel_rfl) (fun k hk=>by cases hk) (by kernel_rfl) (laid_met os))) ?_
 intro W base args ds gs before hval hW _ _ _ hL hsh _;exact contract H enc W base args ds gs before hval hW hL hsh
theorem said:Rows.TopAffectedSaid :=
 OpenClaim.holds_of_cond 3 Tryz.f3 rfl rfl rfl rfl rfl rfl rfl ⟨rfl,rfl,rfl,rfl,rfl⟩ rfl rfl rfl rfl rfl (by kernel_rfl) Tryz.func3 (by kernel_rfl)
  (of_decide_eq_true (by kernel_rfl)) (by unfold Func.isWrapper;first|(rw [if_pos (by decide +kernel)];kernel_rfl)|(rw [if_neg (by decide +kernel)];exact ⟨rfl,rfl⟩))
  (fun os started H enc _ F=>by rw [OpenClaim.pre_eq_preRow];exact lifted os started H enc F)
theorem plain (f:FuncId) (fn:Func) (hf:Tryz.pinned.checked.prog.funcNamed "bitemporal/bitemporaltop.TopAffected" = some f) (hfn:Tryz.pinned.checked.prog.funcs[f]?=some fn) :
  false=Tryz.pinned.checked.prog.looks []/\∀ (j:Nat) t,fn.params[j]?=some t->Tryz.pinned.checked.prog.wantsStandIn t=false:=by
 obtain rfl:f=3:=Option.some.inj ((show Tryz.prog.funcNamed "bitemporal/bitemporaltop.TopAffected" = some 3 by kernel_rfl).symm.trans hf) |>.symm
 obtain rfl:fn=Tryz.f3:=(Option.some.inj (Tryz.func3.symm.trans hfn)).symm;refine ⟨by kernel_rfl,fun j t ht=>?_⟩
 rw [Tryz.params3] at ht;have hm:=Array.mem_of_getElem? ht;have:([25,30,32]:List Nat).all (fun t=>!(Tryz.prog.wantsStandIn t))=true:=by kernel_rfl
 have:=List.all_eq_true.1 this t (by simpa using hm)
 show Tryz.prog.wantsStandIn t=false;simpa using this
theorem card:Rows.TopAffectedCardSaid :=
 Claim7.holds_tied_plain_at .later [] _ _ _ _ said (fun _ h=>by cases h) (by kernel_rfl) (fun _ h=>by cases h) topAffected_row_tie rfl ⟨rfl,rfl⟩ (by kernel_rfl) rfl plain (by kernel_rfl)
end Go.Proofs.YtefdfdjimkinpaaGreatDoor.topAffected
