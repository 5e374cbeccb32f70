/- Part 17 of the proof: PlK, SrG, PlR, PlA, PlB, PlD, PlTx, PlJ, PlN, PlM, PlG, PlZS, CardSame. -/
import Derived.Test.YtefloaolddjnhaaGreatDoorQS16
import Derived.Lib.ItoaLen
set_option linter.unusedVariables false
set_option linter.unusedSimpArgs false
set_option linter.unnecessarySimpa false
set_option linter.unusedSectionVars false
noncomputable section
set_option maxRecDepth 100000
namespace Go.Sim.M
open Go.RowKit Go.Sim.Srt
def rdD (l:List UInt8):Nat:=l.foldl (fun a c=>a*10+(c.toNat - 48)) 0
theorem xJT (u:Nat):∀ c,c∈Lib.decDigits u→48≤c.toNat∧c.toNat≤57:=by
 induction u using Nat.strongRecOn with
 | _ u ih =>
  intro c hc
  rw [Lib.decDigits] at hc
  split at hc
  · rw [List.mem_singleton] at hc
    subst hc
    rw [UInt8.toNat_ofNat'];omega
  · rw [List.mem_append,List.mem_singleton] at hc
    rcases hc with hc|rfl
    · exact ih (u / 10) (by omega) c hc
    · rw [UInt8.toNat_ofNat'];omega
theorem xL8 (u:Nat):rdD (Lib.decDigits u)=u:=by
 induction u using Nat.strongRecOn with
 | _ u ih =>
  rw [Lib.decDigits]
  split
  · simp only [rdD,List.foldl_cons,List.foldl_nil,UInt8.toNat_ofNat'];omega
  · have:=ih (u / 10) (by omega)
    unfold rdD at this ⊢
    rw [List.foldl_append,this]
    simp only [List.foldl_cons,List.foldl_nil,UInt8.toNat_ofNat'];omega
theorem xJX {u v:Nat} (h:Lib.decDigits u=Lib.decDigits v):u=v:=by rw [←xL8 u,h,xL8]
theorem xCI {a b:Int} (h:Lib.itoa a=Lib.itoa b):a=b:=by
 unfold Lib.itoa at h
 have k:∀ u v:Nat,45::Lib.decDigits u≠Lib.decDigits v:=fun u v e=>by
  have:=xJT v 45 (by rw [←e];simp)
  have t:(45:UInt8).toNat=45:=rfl
  omega
 split at h<;>split at h
 · have:=xJX (List.cons.inj h).2;omega
 · exact absurd h (k _ _)
 · exact absurd h.symm (k _ _)
 · have:=xJX h;omega
theorem xsK (a:Int):(32:UInt8)∉Lib.itoa a:=by
 have k:∀ v:Nat,(32:UInt8)∉Lib.decDigits v:=fun v e=>by
  have:=xJT v 32 e
  have t:(32:UInt8).toNat=32:=rfl
  omega
 unfold Lib.itoa
 split
 · rw [List.mem_cons]
   rintro (h|h)
   · simp at h
   · exact k _ h
 · exact k _
theorem xDU:∀ {a b x y:List UInt8},(32:UInt8)∉a→(32:UInt8)∉b→a++32::x=b++32::y→a=b∧x=y
 | [],[],x,y,_,_,h=>⟨rfl,(List.cons.inj h).2⟩
 | [],c::b,x,y,_,hb,h=>absurd (List.cons.inj h).1 fun e=>hb (by rw [e];simp)
 | c::a,[],x,y,ha,_,h=>absurd (List.cons.inj h).1 fun e=>ha (by rw [←e];simp)
 | c::a,d::b,x,y,ha,hb,h=>by
  obtain ⟨e1,h⟩:=List.cons.inj h
  obtain ⟨e2,e3⟩:=xDU (a:=a) (b:=b) (fun e=>ha (by simp [e])) (fun e=>hb (by simp [e])) h
  exact ⟨by rw [e1,e2],e3⟩
def keyV (v:Val):List UInt8:=Lib.itoa v.k++32::(Lib.itoa v.i++32::(Lib.itoa (v.t.length:Int)++32::v.t))
def keyOf (r:Row):List UInt8:=r.flatMap keyV
theorem xCy (v:Val) (s:List UInt8):keyV v++s=Lib.itoa v.k++32::(Lib.itoa v.i++32::(Lib.itoa (v.t.length:Int)++32::(v.t++s))):=by simp [keyV]
theorem xqr (v:Val) (r:Row):keyOf (v::r)=keyV v++keyOf r:=by simp [keyOf]
theorem xFb (v:Val) (s:List UInt8):keyV v++s≠[]:=by rw [xCy];simp
theorem xJM:∀ {r r':Row},keyOf r=keyOf r'→r=r'
 | [],[],_=>rfl
 | [],v::r',h=>by rw [xqr] at h;exact absurd h.symm (xFb _ _)
 | v::r,[],h=>by rw [xqr] at h;exact absurd h (xFb _ _)
 | v::r,v'::r',h=>by
  rw [xqr,xqr,xCy,xCy] at h
  obtain ⟨h1,h⟩:=xDU (xsK _) (xsK _) h
  obtain ⟨h2,h⟩:=xDU (xsK _) (xsK _) h
  obtain ⟨h3,h⟩:=xDU (xsK _) (xsK _) h
  have h3:=xCI h3
  obtain ⟨h4,h⟩:=List.append_inj h (by omega)
  obtain rfl:=xJM h
  have:v=v':=by
   obtain ⟨k,i,t⟩:=v;obtain ⟨k',i',t'⟩:=v'
   obtain rfl:=xCI h1;obtain rfl:=xCI h2;subst h4;rfl
  rw [this]
theorem rng64 {n:Int} (h:(Lit.int .i64 n).wf=true):-9223372036854775808≤n∧n≤9223372036854775807:=by
 have h:(decide ((IntKind.i64).min≤n)&&decide (n≤(IntKind.i64).max))=true:=h
 rw [Bool.and_eq_true,decide_eq_true_eq,decide_eq_true_eq] at h
 exact h
theorem xIj {v:Val} (hw:v.wf) (ht:v.t.length≤1099511627776):(keyV v).length≤66+v.t.length:=by
 obtain ⟨w1,w2,_⟩:=hw
 have a1:=Lib.itoa_length_le v.k (rng64 w1).1 (rng64 w1).2
 have a2:=Lib.itoa_length_le v.i (rng64 w2).1 (rng64 w2).2
 have a3:=Lib.itoa_length_le (v.t.length:Int) (by omega) (by omega)
 simp only [keyV,List.length_append,List.length_cons]
 omega
theorem xFB (s B:List UInt8) (h:(B++s).length≤140737488355328):xaM s B.length (byteAVs B)=some ((s.length:Int),(B++s).length,byteAVs (B++s)):=by
 rw [List.length_append] at h
 have h2:B.length+s.length≤4611686018427387904:=by omega
 unfold xaM xdG
 simp only [xnd,beq_self_eq_true,Nat.mul_one,h,h2,decide_true,Bool.and_self,xak,xvS,List.length_append]
theorem xIm (B:List UInt8) (h:(B++[32]).length≤140737488355328):xbm 32 B.length (byteAVs B)=some ((B++[32]).length,byteAVs (B++[32])):=by
 rw [List.length_append,List.length_singleton] at h
 have h2:B.length+1≤4611686018427387904:=by omega
 unfold xbm xd7
 simp only [xnd,beq_self_eq_true,Nat.mul_one,h,h2,decide_true,Bool.and_self,xak,xvS,List.length_append,List.length_singleton]
 rfl
def numI (n:Int):List UInt8:=Lib.itoa n++[32]
theorem xKx (t8:List AV) (t9 t10:Int) (xs:List AV) (hx:xs.length=3) (j:Nat) (hj:j<3) (n:Int) (hn:xs.getD j .top=.int .i64 n) (h1:-9223372036854775808≤n) (h2:n≤9223372036854775807) (v0 v1:Int) (v2 B:List UInt8) (hB:B.length≤70368744177664) :
  xbi t8 t9 t10 3 3 ((j:Int),B.length,v0,v1,v2,xs,byteAVs B)=some (.inl (((j+1:Nat):Int),(B++numI n).length,v0,v1,v2,xs,byteAVs (B++numI n))):=by
 have hl:=Lib.itoa_length_le n h1 h2
 have i1:(j:Int)<3:=by omega
 have i2:(j:Int)<((3:Nat):Int):=by omega
 have i3:j<xs.length:=by omega
 have e1:=xFB (Lib.itoa n) B (by rw [List.length_append];omega)
 have e2:=xIm (B++Lib.itoa n) (by rw [List.length_append,List.length_append,List.length_singleton];omega)
 have hc:((AV.int IntKind.i64 n).cells.getD 0 .top).toInt=n:=rfl
 have hs:hasSh1 (Sh.int IntKind.i64) ((AV.int IntKind.i64 n).cells.getD 0 .top)=true:=rfl
 simp only [xbi,xih,xmQ,xmF,xmL,xhr,List.length_map,xak,xal,decide_true,decide_false,Bool.and_true,Bool.true_and,Bool.not_true,Bool.not_false,Int.toNat_natCast,Int.natCast_nonneg,Option.isSome_some,Option.getD_some,beq_self_eq_true,Nat.zero_add,Nat.sub_zero,i1,i2,i3,hn,hc,hs,h1,h2,e1,e2,wrapS (n:=j) (by omega),numI,List.append_assoc]
theorem xOV (t8:List AV) (t9 t10:Int) (xs:List AV) (v0 v1:Int) (v2 B:List UInt8):xbi t8 t9 t10 3 3 (((3:Nat):Int),B.length,v0,v1,v2,xs,byteAVs B)=some (.inr (B.length,v0,v1,v2,byteAVs B)):=by
 have i1:¬ ((3:Nat):Int)<3:=by omega
 simp only [xbi,xih,i1,decide_false,xal]
theorem xCh (v:Val):keyV v=numI v.k++(numI v.i++(numI (v.t.length:Int)++v.t)):=by simp [keyV,numI]
def KOk (v:Val):Prop:=v.wf∧v.t.length≤1099511627776
theorem KOk.len {v:Val} (h:KOk v):(keyV v).length≤1099511627842:=by have:=xIj h.1 h.2;have:=h.2;omega
theorem xJN (t8:List AV) (t9 t10:Int) (v:Val) (h:KOk v) (B:List UInt8) (hB:B.length≤35184372088832) :
  Iter (xbi t8 t9 t10 3 3) ((1:Int),(B++numI v.k).length,v.k,v.i,v.t,[AV.int .i64 v.k,AV.int .i64 v.i,AV.int .i64 (v.t.length:Int)],byteAVs (B++numI v.k))=some ((B++numI v.k++numI v.i++numI (v.t.length:Int)).length,v.k,v.i,v.t,byteAVs (B++numI v.k++numI v.i++numI (v.t.length:Int))):=by
 have hl:=h.len
 have ht:=h.2
 rw [xCh,List.length_append,List.length_append,List.length_append] at hl
 have e1:=xKx t8 t9 t10 [AV.int .i64 v.k,AV.int .i64 v.i,AV.int .i64 (v.t.length:Int)] rfl 1 (by omega) v.i rfl (rng64 h.1.2.1).1 (rng64 h.1.2.1).2 v.k v.i v.t (B++numI v.k) (by rw [List.length_append];omega)
 have e2:=xKx t8 t9 t10 [AV.int .i64 v.k,AV.int .i64 v.i,AV.int .i64 (v.t.length:Int)] rfl 2 (by omega) (v.t.length:Int) rfl (by omega) (by omega) v.k v.i v.t (B++numI v.k++numI v.i) (by rw [List.length_append,List.length_append];omega)
 exact (xbf e1).trans ((xbf e2).trans (xaI (xOV ..)))
theorem xP2 (t8:List AV) (t9 t10:Int) (v:Val) (h:KOk v) (B:List UInt8) (hB:B.length≤35184372088832) :
  Iter (xbi t8 t9 t10 3 3) ((0:Int),B.length,v.k,v.i,v.t,[AV.int .i64 v.k,AV.int .i64 v.i,AV.int .i64 (v.t.length:Int)],byteAVs B)=some ((B++numI v.k++numI v.i++numI (v.t.length:Int)).length,v.k,v.i,v.t,byteAVs (B++numI v.k++numI v.i++numI (v.t.length:Int))):=by
 have e0:=xKx t8 t9 t10 [AV.int .i64 v.k,AV.int .i64 v.i,AV.int .i64 (v.t.length:Int)] rfl 0 (by omega) v.k rfl (rng64 h.1.1).1 (rng64 h.1.1).2 v.k v.i v.t B (by omega)
 exact (xbf e0).trans (xJN t8 t9 t10 v h B hB)
theorem xLh (r:Row) (hr:r.length≤1048576) (h:∀ v,v∈r→KOk v) (hk:(keyOf r).length≤17592186044416):∀ d k:Nat,k+d=r.length→Iter (xcy (r.map encV) ((r.length:Nat):Int)) ((k:Int),(keyOf (r.take k)).length,byteAVs (keyOf (r.take k)))=some ((keyOf r).length,byteAVs (keyOf r))
 | 0,k,hkk=>by
  obtain rfl:k=r.length:=by omega
  rw [List.take_length]
  refine xaI ?_
  simp only [xcy,xia,Int.lt_irrefl,decide_false,xal]
 | d+1,k,hkk=>by
  have hlt:k<r.length:=by omega
  have hv:=h r[k] (List.getElem_mem hlt)
  have i1:(k:Int)<(r.length:Int):=by omega
  have gf:(r.map encV).getD k .top=encV r[k]:=xaJ _ _ _ hlt
  have tk:keyOf (r.take (k+1))=keyOf (r.take k)++keyV r[k]:=by
   unfold keyOf;rw [List.take_add_one,List.getElem?_eq_getElem hlt,List.flatMap_append];simp
  have le:(keyOf (r.take (k+1))).length≤(keyOf r).length:=by
   conv=>rhs;rw [←List.take_append_drop (k+1) r]
   unfold keyOf
   rw [List.flatMap_append,List.length_append];omega
  have hl:=hv.len
  rw [tk,List.length_append] at le
  have e1:=xP2 (r.map encV) (r.length:Int) (k:Int) r[k] hv (keyOf (r.take k)) (by omega)
  have kn:keyOf (r.take k)++keyV r[k]=keyOf (r.take k)++numI r[k].k++numI r[k].i++numI (r[k].t.length:Int)++r[k].t:=by rw [xCh];simp only [List.append_assoc]
  have e2:=xFB r[k].t (keyOf (r.take k)++numI r[k].k++numI r[k].i++numI (r[k].t.length:Int)) (by rw [←kn,List.length_append];omega)
  rw [xbf (s':=(((k+1:Nat):Int),(keyOf (r.take (k+1))).length,byteAVs (keyOf (r.take (k+1))))) ?_]
  · exact xLh r hr h hk d (k+1) (by omega)
  · rw [tk,kn]
    simp only [xcy,xia,xmu,xmh,xmJ,xmV,xmT,List.length_map,xak,xal,decide_true,decide_false,Bool.and_true,Bool.true_and,Bool.not_true,Bool.not_false,Int.toNat_natCast,Int.natCast_nonneg,Option.isSome_some,Option.getD_some,beq_self_eq_true,Nat.zero_add,Nat.sub_zero,hlt,i1,gf,cV0,cV1,cV2,lV,sV,e1,e2,wrapS (n:=k) (by omega)]
theorem xP8 (r:Row) (hr:r.length≤1048576) (h:∀ v,v∈r→KOk v) (hk:(keyOf r).length≤17592186044416):xga (r.map encV)=some (keyOf r):=by
 match r with
 | []=>rfl
 | v::t =>
  have hv:=h v (by simp)
  have hl:=hv.len
  have i1:(0:Int)<((t.length+1:Nat):Int):=by omega
  have i2:0<t.length+1:=by omega
  obtain ⟨r1,r2⟩:=rng64 hv.1.1
  have hln:=Lib.itoa_length_le v.k r1 r2
  have gf:((v::t).map encV).getD 0 .top=encV v:=rfl
  have e0:xaQ (Lib.itoa v.k)=some (((Lib.itoa v.k).length:Int),(Lib.itoa v.k).length,byteAVs (Lib.itoa v.k)):=by
   have m1:(Lib.itoa v.k).length≤140737488355328:=by omega
   have m2:(Lib.itoa v.k).length≤4611686018427387904:=by omega
   unfold xaQ xdL
   simp only [xnd,Nat.mul_one,m1,m2,decide_true,Bool.and_self,xak]
  have e1:xbF 32 (Lib.itoa v.k).length (byteAVs (Lib.itoa v.k))=some (([]++numI v.k).length,byteAVs ([]++numI v.k)):=xIm (Lib.itoa v.k) (by rw [List.length_append,List.length_singleton];omega)
  have e2:=xJN ((v::t).map encV) ((t.length+1:Nat):Int) 0 v hv [] (by simp)
  have kn:keyV v=[]++numI v.k++numI v.i++numI (v.t.length:Int)++v.t:=by rw [xCh];simp
  have e3:=xFB v.t ([]++numI v.k++numI v.i++numI (v.t.length:Int)) (by rw [←kn];omega)
  rw [←kn] at e3
  have e4:=xLh (v::t) hr h hk t.length 1 (by rw [List.length_cons];omega)
  have tk:keyOf ((v::t).take 1)=keyV v:=by simp [keyOf]
  rw [tk,List.length_cons] at e4
  have e4:Iter (xcy ((v::t).map encV) ((t.length+1:Nat):Int)) ((1:Int),(keyV v).length,byteAVs (keyV v))=_:=e4
  have hne:(keyOf (v::t)).length≠0:=fun e=>xFb v (keyOf t) (by rw [←xqr];exact List.length_eq_zero_iff.1 e)
  unfold xga xnn xjW xpR xpG xpU xpP xpu xpD xp8 xp9 xqf xer
  simp only [List.length_map,List.length_cons,i1,i2,gf,cV0,cV1,cV2,lV,sV,r1,r2,e0,e1,e2,e3,e4,decide_true,xak,Bool.and_self,beq_self_eq_true,Option.isSome_some,Option.getD_some,xnd,xEe,xGG,ne_eq,hne,not_false_eq_true]
end Go.Sim.M
end
noncomputable section
set_option maxRecDepth 100000
namespace Go.Sim.M
open Go.RowKit Go.Sim.Srt
abbrev Grp:=Row×List Per
def encG (g:Grp):AV:=.agg [.list 3 (g.1.map encV),.list 2 (g.2.map encP)]
def okEG (x:AV):Bool:=x.cells.length==(2:Nat)&&hasShs [Sh.list (3:Nat),Sh.list (2:Nat)] x.cells (0:Nat)
def ldEG (x:AV):AV:=AV.agg [AV.list (3:Nat) (x.cells.getD (0:Nat) AV.top).toList,AV.list (2:Nat) (x.cells.getD (1:Nat) AV.top).toList]
noncomputable def cmpPG (x y:AV):Bool:=(xcF (x.cells.getD 0 AV.top).toList (x.cells.getD 1 AV.top).toList (y.cells.getD 0 AV.top).toList (y.cells.getD 1 AV.top).toList).isSome
noncomputable def cmpVG (x y:AV):Int:=(xcF (x.cells.getD 0 AV.top).toList (x.cells.getD 1 AV.top).toList (y.cells.getD 0 AV.top).toList (y.cells.getD 1 AV.top).toList).getD 0
theorem heG (a:Grp):okEG (encG a)=true:=rfl
theorem hdG (a:Grp):ldEG (encG a)=encG a:=rfl
section
variable {N : Nat} (hN : N ≤ 2 ^ 60) {ok : Grp → Prop} {c : Grp → Grp → Int} (hc : ∀ x y, ok x → ok y → cmpPG (encG x) (encG y) = true ∧ cmpVG (encG x) (encG y) = c x y)
include hN
theorem xOB (a b n:Nat) (l r:List Grp) (ha:a≤2 ^ 60) (hb:b≤2 ^ 60) (hn:n≤2 ^ 60) (hl:LOk N ok l) (hr:swr a b n l=some r):xaV N a b n (List.map encG l)=some (List.map encG r)∧LOk N ok r:=by
 obtain ⟨e1,e2⟩:=xPc (okE:=okEG) (ldE:=ldEG) heG hdG hN a b n ha hb hn (g:=xbb N a b n) (fun i xs=>rfl) hl hr
 refine ⟨?_,e2⟩
 unfold xaV xeU
 rw [e1];rfl
theorem xQl (a m b:Nat) (l r:List Grp) (h1:a≤m) (h2:m≤b) (h3:b≤N) (hl:LOk N ok l) (hr:rot a m b l=some r):xbc N a m b (List.map encG l)=some (List.map encG r)∧LOk N ok r:=by
 unfold rot at hr
 cases hi:Iter (rotStep m) (m - a,b - m,l) with
 | none=>rw [hi] at hr;simp at hr
 | some p =>
  obtain ⟨i,l'⟩:=p
  rw [hi] at hr
  obtain ⟨e1,e2,e3⟩:=xPi (enc:=encG) hN (ok:=ok) (SW:=fun a b n xs=>xaV N a b n xs) (fun a b n l r ha hb hn hl hr=>xOB hN a b n l r ha hb hn hl hr) m (by omega) (g:=xb6 N m) (fun i j xs=>rfl) (by omega) (by omega) hl hi
  obtain ⟨e4,e5⟩:=xOB hN (m - i) m i l' r (by omega) (by omega) (by omega) e3 hr
  refine ⟨?_,e5⟩
  simp only [xbc,xf9,xiz,xip,xin,xiw,w64 (x:=(m:Int) - (a:Int)) (n:=m - a) (by omega) (by omega),w64 (x:=(b:Int) - (m:Int)) (n:=b - m) (by omega) (by omega),e1,Option.getD_some,Option.isSome_some,xak,w64 (x:=(m:Int) - (i:Int)) (n:=m - i) (by omega) (by omega),e4]
include hc
theorem xOF (a b:Nat) (ha:a≤N) (hb:b≤N) {l r:List Grp} (hl:LOk N ok l) (hr:insSort c a b l=some r):xaX N a b (List.map encG l)=some (List.map encG r)∧LOk N ok r:=by
 obtain ⟨e1,e2⟩:=xOa (enc:=encG) hN (c:=c) (ok:=ok) a b hb (gi:=fun i=>xa0 N a b i) (fun i l r hl hr=>xO6 (okE:=okEG) (ldE:=ldEG) heG hdG hN (P:=cmpPG) (V:=cmpVG) hc a (fun j xs=>rfl) hl hr) (g:=xa1 N a b) (fun i xs=>rfl) hl hr
 refine ⟨?_,e2⟩
 unfold xaX xdO
 rw [w64 (x:=(a:Int)+1) (n:=a+1) (by omega) (by omega),e1];rfl
theorem xOn:∀ (f a m b:Nat) (l r:List Grp),a<m→m<b→b≤N→LOk N ok l→symM c f a m b l=some r→xaR f N a m b (List.map encG l)=some (List.map encG r)∧LOk N ok r:=by
 intro f
 induction f with
 | zero=>intro a m b l r _ _ _ _ hr;simp [symM] at hr
 | succ f ih =>
  intro a m b l r ham hmb hb hl hr
  unfold symM at hr
  show xav (xaR f) N a m b (List.map encG l)=some (List.map encG r)∧LOk N ok r
  have wma:IntKind.i64.wrap ((m:Int) - (a:Int))=((m - a:Nat):Int):=w64 (by omega) (by omega)
  have wbm:IntKind.i64.wrap ((b:Int) - (m:Int))=((b - m:Nat):Int):=w64 (by omega) (by omega)
  by_cases h1:m - a=1
  · rw [if_pos h1] at hr
    cases hi:Iter (bsStep fun h=>(get2 c l h a).map fun r=>decide (r<0)) (m,b) with
    | none=>rw [hi] at hr;simp at hr
    | some i =>
     rw [hi] at hr
     obtain ⟨e0,b1,b2⟩:=xHZ (okE:=okEG) heG hN (P:=cmpPG) (V:=cmpVG) hc (fun h=>h) (fun _=>a) (fun h=>h) (fun _=>(a:Int)) m b (by omega) (fun _ _ _=>rfl) (fun _ _ _=>rfl) (fun r=>decide (r<0)) (g:=xa4 N a) (fun i j xs=>rfl) hl (Nat.le_refl _) (Nat.le_refl _) (by omega) hi
     obtain ⟨e1,e2⟩:=xPQ (okE:=okEG) (ldE:=ldEG) heG hdG hN (ok:=ok) (i - 1) i (by omega) (by omega) (g:=xbL N i) (fun k xs=>rfl) hl hr
     refine ⟨?_,e2⟩
     simp only [xav,xaF,xan,xao,xae,xap,xam,xaf,xag,xah,xac,xad,xas,xau,xar,xaa,xat,xaE,xaD,xaB,xaz,xaC,xay,xaw,xaA,xai,xaj,wma,h1,e0,Option.getD_some,Option.isSome_some,xak,e1,Int.natCast_one,beq_self_eq_true]
  · rw [if_neg h1] at hr
    have d1:(((m - a:Nat):Int)==1)=false:=by simp;omega
    by_cases h2:b - m=1
    · rw [if_pos h2] at hr
      cases hi:Iter (bsStep fun h=>(get2 c l m h).map fun r=>!decide (r<0)) (a,m) with
      | none=>rw [hi] at hr;simp at hr
      | some i =>
       rw [hi] at hr
       obtain ⟨e0,b1,b2⟩:=xHZ (okE:=okEG) heG hN (P:=cmpPG) (V:=cmpVG) hc (fun _=>m) (fun h=>h) (fun _=>(m:Int)) (fun h=>h) a m (by omega) (fun _ _ _=>rfl) (fun _ _ _=>rfl) (fun r=>!decide (r<0)) (g:=xa3 N m) (fun i j xs=>rfl) hl (Nat.le_refl _) (Nat.le_refl _) (by omega) hi
       obtain ⟨e1,e2⟩:=xNl (okE:=okEG) (ldE:=ldEG) heG hdG hN (ok:=ok) i (g:=xbI N i) (fun k xs=>rfl) hl hr
       refine ⟨?_,e2⟩
       simp only [xav,xaF,xan,xao,xae,xap,xam,xaf,xag,xah,xac,xad,xas,xau,xar,xaa,xat,xaE,xaD,xaB,xaz,xaC,xay,xaw,xaA,xai,xaj,wma,wbm,d1,h2,e0,Option.getD_some,Option.isSome_some,xak,xal,e1,Int.natCast_one,beq_self_eq_true]
    · rw [if_neg h2] at hr
      have d2:(((b - m:Nat):Int)==1)=false:=by simp;omega
      have hh:IntKind.i64.wrap ((IntKind.u64.wrap (IntKind.i64.wrap ((a:Int)+(b:Int)))).fdiv 2)=(((a+b) / 2:Nat):Int):=half64 (by omega)
      obtain ⟨mid,hmid⟩:∃ mid,mid=(a+b) / 2:=⟨_,rfl⟩
      rw [←hmid] at hr hh
      have w2:IntKind.i64.wrap ((mid:Int)+(m:Int))=((mid+m:Nat):Int):=w64 (by omega) (by omega)
      have w3:IntKind.i64.wrap (((mid+m:Nat):Int) - 1)=((mid+m - 1:Nat):Int):=w64 (by omega) (by omega)
      obtain ⟨lo,hi,hlh,g1,g2,g3,g4,hst⟩:∃ lo hi,(if mid<m then (mid+m - b,mid) else (a,m))=(lo,hi)∧a≤lo∧lo≤hi∧hi≤m∧hi≤mid∧((mid<m∧lo=mid+m - b∧hi=mid)∨(¬ mid<m∧lo=a∧hi=m)):=by
       by_cases h:mid<m
       · exact ⟨_,_,if_pos h,by omega,by omega,by omega,by omega,.inl ⟨h,rfl,rfl⟩⟩
       · exact ⟨_,_,if_neg h,by omega,by omega,by omega,by omega,.inr ⟨h,rfl,rfl⟩⟩
      rw [hlh] at hr
      cases hs:Iter (bsStep fun h=>(get2 c l (mid+m - 1 - h) h).map fun r=>!decide (r<0)) (lo,hi) with
      | none=>rw [hs] at hr;simp at hr
      | some s =>
       rw [hs] at hr
       dsimp only at hr
       obtain ⟨e0,b1,b2⟩:=xHZ (okE:=okEG) heG hN (P:=cmpPG) (V:=cmpVG) hc (fun h=>mid+m - 1 - h) (fun h=>h) (fun h=>IntKind.i64.wrap (((mid+m - 1:Nat):Int) - h)) (fun h=>h) lo hi (by omega) (fun h _ _=>w64 (by omega) (by omega)) (fun _ _ _=>rfl) (fun r=>!decide (r<0)) (g:=xbk N a m b mid ((mid+m:Nat):Int) ((mid+m - 1:Nat):Int)) (fun i j xs=>rfl) hl (Nat.le_refl _) (Nat.le_refl _) g2 hs
       have w5:IntKind.i64.wrap (((mid+m:Nat):Int) - (s:Int))=((mid+m - s:Nat):Int):=w64 (by omega) (by omega)
       obtain ⟨e,he⟩:∃ e,e=mid+m - s:=⟨_,rfl⟩
       rw [←he] at hr w5
       cases hrot:(if s<m∧m<e then rot s m e l else some l) with
       | none=>rw [hrot] at hr;simp at hr
       | some l1 =>
        rw [hrot] at hr
        dsimp only at hr
        have k1:(s<m∧m<e∧xbc N s m e (List.map encG l)=some (List.map encG l1)∧LOk N ok l1)∨(¬ (s<m∧m<e)∧l1=l):=by
         by_cases h:s<m∧m<e
         · rw [if_pos h] at hrot
           obtain ⟨x1,x2⟩:=xQl hN s m e l l1 (by omega) (by omega) (by omega) hl hrot
           exact .inl ⟨h.1,h.2,x1,x2⟩
         · rw [if_neg h] at hrot
           simp only [Option.some.injEq] at hrot
           exact .inr ⟨h,hrot.symm⟩
        have hl1:LOk N ok l1:=by
         rcases k1 with k|k
         · exact k.2.2.2
         · rw [k.2];exact hl
        cases hlf:(if a<s∧s<mid then symM c f a s mid l1 else some l1) with
        | none=>rw [hlf] at hr;simp at hr
        | some l2 =>
         rw [hlf] at hr
         dsimp only at hr
         have k2:(a<s∧s<mid∧xaR f N a s mid (List.map encG l1)=some (List.map encG l2)∧LOk N ok l2)∨(¬ (a<s∧s<mid)∧l2=l1):=by
          by_cases h:a<s∧s<mid
          · rw [if_pos h] at hlf
            obtain ⟨x1,x2⟩:=ih a s mid l1 l2 h.1 h.2 (by omega) hl1 hlf
            exact .inl ⟨h.1,h.2,x1,x2⟩
          · rw [if_neg h] at hlf
            simp only [Option.some.injEq] at hlf
            exact .inr ⟨h,hlf.symm⟩
         have hl2:LOk N ok l2:=by
          rcases k2 with k|k
          · exact k.2.2.2
          · rw [k.2];exact hl1
         have k3:(mid<e∧e<b∧xaR f N mid e b (List.map encG l2)=some (List.map encG r)∧LOk N ok r)∨(¬ (mid<e∧e<b)∧r=l2):=by
          by_cases h:mid<e∧e<b
          · rw [if_pos h] at hr
            obtain ⟨x1,x2⟩:=ih mid e b l2 r h.1 h.2 hb hl2 hr
            exact .inl ⟨h.1,h.2,x1,x2⟩
          · rw [if_neg h] at hr
            simp only [Option.some.injEq] at hr
            exact .inr ⟨h,hr.symm⟩
         refine ⟨?_,?_⟩
         · clear ih hc hl hl1 hl2 hr hlf hrot hs hlh
           rcases hst with ⟨hm,hlo,hhi⟩|⟨hm,hlo,hhi⟩
           · rw [hlo,hhi] at e0
             have w4:IntKind.i64.wrap (((mid+m:Nat):Int) - (b:Int))=((mid+m - b:Nat):Int):=w64 (by omega) (by omega)
             have dm:decide ((m:Int)>(mid:Int))=true:=by simp [hm]
             rcases k1 with ⟨p1,p2,p3,_⟩|⟨p1,rfl⟩<;>rcases k2 with ⟨q1,q2,q3,_⟩|⟨q1,rfl⟩<;>rcases k3 with ⟨r1,r2,r3,_⟩|⟨r1,rfl⟩ <;>
              (by_cases t1:s<m<;>by_cases t2:m<e<;>by_cases t3:a<s<;>by_cases t4:s<mid<;>by_cases t5:mid<e<;>by_cases t6:e<b<;>first|(exfalso;omega) |
               (simp only [xav,xaF,xan,xao,xae,xap,xam,xaf,xag,xah,xac,xad,xas,xau,xar,xaa,xat,xaE,xaD,xaB,xaz,xaC,xay,xaw,xaA,xai,xaj,wma,wbm,d1,d2,hh,w2,w3,w4,dm,e0,w5,Option.getD_some,Option.isSome_some,xak,xal,Int.ofNat_lt,t1,t2,t3,t4,t5,t6,decide_true,decide_false,hm,p3,q3,r3]) |
               (simp only [xav,xaF,xan,xao,xae,xap,xam,xaf,xag,xah,xac,xad,xas,xau,xar,xaa,xat,xaE,xaD,xaB,xaz,xaC,xay,xaw,xaA,xai,xaj,wma,wbm,d1,d2,hh,w2,w3,w4,dm,e0,w5,Option.getD_some,Option.isSome_some,xak,xal,Int.ofNat_lt,t1,t2,t3,t4,t5,t6,decide_true,decide_false,hm,p3,q3]) |
               (simp only [xav,xaF,xan,xao,xae,xap,xam,xaf,xag,xah,xac,xad,xas,xau,xar,xaa,xat,xaE,xaD,xaB,xaz,xaC,xay,xaw,xaA,xai,xaj,wma,wbm,d1,d2,hh,w2,w3,w4,dm,e0,w5,Option.getD_some,Option.isSome_some,xak,xal,Int.ofNat_lt,t1,t2,t3,t4,t5,t6,decide_true,decide_false,hm,p3,r3]) |
               (simp only [xav,xaF,xan,xao,xae,xap,xam,xaf,xag,xah,xac,xad,xas,xau,xar,xaa,xat,xaE,xaD,xaB,xaz,xaC,xay,xaw,xaA,xai,xaj,wma,wbm,d1,d2,hh,w2,w3,w4,dm,e0,w5,Option.getD_some,Option.isSome_some,xak,xal,Int.ofNat_lt,t1,t2,t3,t4,t5,t6,decide_true,decide_false,hm,q3,r3]) |
               (simp only [xav,xaF,xan,xao,xae,xap,xam,xaf,xag,xah,xac,xad,xas,xau,xar,xaa,xat,xaE,xaD,xaB,xaz,xaC,xay,xaw,xaA,xai,xaj,wma,wbm,d1,d2,hh,w2,w3,w4,dm,e0,w5,Option.getD_some,Option.isSome_some,xak,xal,Int.ofNat_lt,t1,t2,t3,t4,t5,t6,decide_true,decide_false,hm,p3]) |
               (simp only [xav,xaF,xan,xao,xae,xap,xam,xaf,xag,xah,xac,xad,xas,xau,xar,xaa,xat,xaE,xaD,xaB,xaz,xaC,xay,xaw,xaA,xai,xaj,wma,wbm,d1,d2,hh,w2,w3,w4,dm,e0,w5,Option.getD_some,Option.isSome_some,xak,xal,Int.ofNat_lt,t1,t2,t3,t4,t5,t6,decide_true,decide_false,hm,q3]) |
               (simp only [xav,xaF,xan,xao,xae,xap,xam,xaf,xag,xah,xac,xad,xas,xau,xar,xaa,xat,xaE,xaD,xaB,xaz,xaC,xay,xaw,xaA,xai,xaj,wma,wbm,d1,d2,hh,w2,w3,w4,dm,e0,w5,Option.getD_some,Option.isSome_some,xak,xal,Int.ofNat_lt,t1,t2,t3,t4,t5,t6,decide_true,decide_false,hm,r3]) |
               (simp only [xav,xaF,xan,xao,xae,xap,xam,xaf,xag,xah,xac,xad,xas,xau,xar,xaa,xat,xaE,xaD,xaB,xaz,xaC,xay,xaw,xaA,xai,xaj,wma,wbm,d1,d2,hh,w2,w3,w4,dm,e0,w5,Option.getD_some,Option.isSome_some,xak,xal,Int.ofNat_lt,t1,t2,t3,t4,t5,t6,decide_true,decide_false,hm]))
           · rw [hlo,hhi] at e0
             have dm:decide ((m:Int)>(mid:Int))=false:=by simp;omega
             rcases k1 with ⟨p1,p2,p3,_⟩|⟨p1,rfl⟩<;>rcases k2 with ⟨q1,q2,q3,_⟩|⟨q1,rfl⟩<;>rcases k3 with ⟨r1,r2,r3,_⟩|⟨r1,rfl⟩ <;>
              (by_cases t1:s<m<;>by_cases t2:m<e<;>by_cases t3:a<s<;>by_cases t4:s<mid<;>by_cases t5:mid<e<;>by_cases t6:e<b<;>first|(exfalso;omega) |
               (simp only [xav,xaF,xan,xao,xae,xap,xam,xaf,xag,xah,xac,xad,xas,xau,xar,xaa,xat,xaE,xaD,xaB,xaz,xaC,xay,xaw,xaA,xai,xaj,wma,wbm,d1,d2,hh,w2,w3,dm,e0,w5,Option.getD_some,Option.isSome_some,xak,xal,Int.ofNat_lt,t1,t2,t3,t4,t5,t6,decide_true,decide_false,hm,p3,q3,r3]) |
               (simp only [xav,xaF,xan,xao,xae,xap,xam,xaf,xag,xah,xac,xad,xas,xau,xar,xaa,xat,xaE,xaD,xaB,xaz,xaC,xay,xaw,xaA,xai,xaj,wma,wbm,d1,d2,hh,w2,w3,dm,e0,w5,Option.getD_some,Option.isSome_some,xak,xal,Int.ofNat_lt,t1,t2,t3,t4,t5,t6,decide_true,decide_false,hm,p3,q3]) |
               (simp only [xav,xaF,xan,xao,xae,xap,xam,xaf,xag,xah,xac,xad,xas,xau,xar,xaa,xat,xaE,xaD,xaB,xaz,xaC,xay,xaw,xaA,xai,xaj,wma,wbm,d1,d2,hh,w2,w3,dm,e0,w5,Option.getD_some,Option.isSome_some,xak,xal,Int.ofNat_lt,t1,t2,t3,t4,t5,t6,decide_true,decide_false,hm,p3,r3]) |
               (simp only [xav,xaF,xan,xao,xae,xap,xam,xaf,xag,xah,xac,xad,xas,xau,xar,xaa,xat,xaE,xaD,xaB,xaz,xaC,xay,xaw,xaA,xai,xaj,wma,wbm,d1,d2,hh,w2,w3,dm,e0,w5,Option.getD_some,Option.isSome_some,xak,xal,Int.ofNat_lt,t1,t2,t3,t4,t5,t6,decide_true,decide_false,hm,q3,r3]) |
               (simp only [xav,xaF,xan,xao,xae,xap,xam,xaf,xag,xah,xac,xad,xas,xau,xar,xaa,xat,xaE,xaD,xaB,xaz,xaC,xay,xaw,xaA,xai,xaj,wma,wbm,d1,d2,hh,w2,w3,dm,e0,w5,Option.getD_some,Option.isSome_some,xak,xal,Int.ofNat_lt,t1,t2,t3,t4,t5,t6,decide_true,decide_false,hm,p3]) |
               (simp only [xav,xaF,xan,xao,xae,xap,xam,xaf,xag,xah,xac,xad,xas,xau,xar,xaa,xat,xaE,xaD,xaB,xaz,xaC,xay,xaw,xaA,xai,xaj,wma,wbm,d1,d2,hh,w2,w3,dm,e0,w5,Option.getD_some,Option.isSome_some,xak,xal,Int.ofNat_lt,t1,t2,t3,t4,t5,t6,decide_true,decide_false,hm,q3]) |
               (simp only [xav,xaF,xan,xao,xae,xap,xam,xaf,xag,xah,xac,xad,xas,xau,xar,xaa,xat,xaE,xaD,xaB,xaz,xaC,xay,xaw,xaA,xai,xaj,wma,wbm,d1,d2,hh,w2,w3,dm,e0,w5,Option.getD_some,Option.isSome_some,xak,xal,Int.ofNat_lt,t1,t2,t3,t4,t5,t6,decide_true,decide_false,hm,r3]) |
               (simp only [xav,xaF,xan,xao,xae,xap,xam,xaf,xag,xah,xac,xad,xas,xau,xar,xaa,xat,xaE,xaD,xaB,xaz,xaC,xay,xaw,xaA,xai,xaj,wma,wbm,d1,d2,hh,w2,w3,dm,e0,w5,Option.getD_some,Option.isSome_some,xak,xal,Int.ofNat_lt,t1,t2,t3,t4,t5,t6,decide_true,decide_false,hm]))
         · rcases k3 with k|k
           · exact k.2.2.2
           · rw [k.2];exact hl2
theorem xOk {l r:List Grp} (hl:LOk N ok l) (hr:stable c 1000 N l=some r):xcA N N (List.map encG l)=some (List.map encG r)∧LOk N ok r:=by
 unfold stable at hr
 cases h1:Iter (stIns c N) (0,20,l) with
 | none=>rw [h1] at hr;simp at hr
 | some p =>
  obtain ⟨a,l1⟩:=p
  rw [h1] at hr
  dsimp only at hr
  obtain ⟨e1,ha,_,hl1⟩:=xHt (enc:=encG) hN (ok:=ok) 20 (by omega) (p:=stIns c N) (F:=fun a b l=>insSort c a b l) (fun a b l l' h e=>by simp only [stIns,h,if_true,e]) (fun a b l h e=>by simp only [stIns,h,if_true,e]) (fun a b l h=>by simp only [stIns,h,if_false]) (G:=fun a b xs=>xaX N a b xs) (fun a b l r hab _ hb hl hr=>xOF hN hc a b (by omega) hb hl hr) (g:=xa8 N N 20) (fun a b xs=>rfl) (a:=0) hl h1 (by omega)
  cases h2:insSort c a N l1 with
  | none=>rw [h2] at hr;simp at hr
  | some l2 =>
   rw [h2] at hr
   dsimp only at hr
   obtain ⟨e2,hl2⟩:=xOF hN hc a N ha (Nat.le_refl _) hl1 h2
   have e3:Iter (xaT N N) (((20:Nat):Int),List.map encG l2)=some (List.map encG r)∧LOk N ok r:=by
    refine xjV (I:=fun s=>1≤s.1∧LOk N ok s.2) (J:=LOk N ok) (e:=fun (s:Nat×List Grp)=>((s.1:Int),List.map encG s.2)) (f:=List.map encG) ?_ (s:=(20,l2)) ⟨by omega,hl2⟩ hr
    rintro ⟨bs,l⟩ ⟨hb,hl⟩
    dsimp only at hb hl
    by_cases h:bs<N
    · have wb:IntKind.i64.wrap (2*(bs:Int))=((2*bs:Nat):Int):=w64 (by omega) (by omega)
      have wb':IntKind.i64.wrap ((bs:Int)*2)=((bs*2:Nat):Int):=w64 (by omega) (by omega)
      cases h3:Iter (stMrgIn c 1000 bs N) (0,2*bs,l) with
      | none=>exact xgk (by simp [stMrg,h,h3])
      | some p =>
       obtain ⟨a,l3⟩:=p
       obtain ⟨f1,f2,f3,f4⟩:=xHt (enc:=encG) hN (ok:=ok) (2*bs) (by omega) (p:=stMrgIn c 1000 bs N) (F:=fun a b l=>symM c 1000 a (a+bs) b l) (fun a b l l' h e=>by simp only [stMrgIn,h,if_true,e]) (fun a b l h e=>by simp only [stMrgIn,h,if_true,e]) (fun a b l h=>by simp only [stMrgIn,h,if_false]) (G:=fun a b xs=>xaR 1000 N a (IntKind.i64.wrap (a+(bs:Int))) b xs) (fun a b l r hab hb2 hbN hl hr=>by
        have:=xOn hN hc 1000 a (a+bs) b l r (by omega) (by omega) hbN hl hr
        rw [w64 (x:=(a:Int)+(bs:Int)) (n:=a+bs) (by omega) (by omega)]
        exact this) (g:=xbu N N bs) (fun a b xs=>by rw [←wb];rfl) (a:=0) hl (by rw [Nat.zero_add];exact h3) (by omega)
       rw [Nat.zero_add,←wb] at f1
       have f1':Iter (xbu N N bs) ((0:Int),IntKind.i64.wrap (2*(bs:Int)),List.map encG l)=some ((a:Int),List.map encG l3):=f1
       have wab:IntKind.i64.wrap ((a:Int)+(bs:Int))=((a+bs:Nat):Int):=w64 (by omega) (by omega)
       by_cases h4:a+bs<N
       · cases h5:symM c 1000 a (a+bs) N l3 with
         | none=>exact xgk (by simp [stMrg,h,h3,h4,h5])
         | some l4 =>
          obtain ⟨f5,f6⟩:=xOn hN hc 1000 a (a+bs) N l3 l4 (by omega) h4 (Nat.le_refl _) f4 h5
          refine xoq (s0:=(bs*2,l4)) (by simp [stMrg,h,h3,h4,h5]) ?_ ⟨by dsimp only;omega,f6⟩
          have q1:(bs:Int)<(N:Int):=by omega
          have q2:((a+bs:Nat):Int)<(N:Int):=by omega
          simp only [xaT,xcS,xeN,xeJ,xeA,xeK,xew,xeM,f1',q1,q2,decide_true,xak,Option.isSome_some,Option.getD_some,wab,f5,wb']
       · refine xoq (s0:=(bs*2,l3)) (by simp [stMrg,h,h3,h4]) ?_ ⟨by dsimp only;omega,f4⟩
         have q1:(bs:Int)<(N:Int):=by omega
         have q2:¬ ((a+bs:Nat):Int)<(N:Int):=by omega
         simp only [xaT,xcS,xeN,xeJ,xeA,xeK,xew,xeM,f1',q1,q2,decide_true,decide_false,xak,xal,Option.isSome_some,Option.getD_some,wab,wb']
    · refine xn5 (r0:=l) (by simp [stMrg,h]) ?_ hl
      have q1:¬ (bs:Int)<(N:Int):=by omega
      simp only [xaT,xcS,q1,decide_false,xal]
   have e1':Iter (xa8 N N 20) ((0:Int),(20:Int),List.map encG l)=some ((a:Int),List.map encG l1):=e1
   have e3':Iter (xaT N N) ((20:Int),List.map encG l2)=some (List.map encG r):=e3.1
   refine ⟨?_,e3.2⟩
   simp only [xcA,xf4,xiu,xis,xiv,e1',e2,e3',Option.isSome_some,Option.getD_some,xak]
end
theorem xQk {N:Nat} (hN:N*48≤140737488355328) {ok:Grp→Prop} {c:Grp→Grp→Int} (hc:∀ x y:Grp,ok x→ok y→cmpPG (encG x) (encG y)=true∧cmpVG (encG x) (encG y)=c x y) (l r:List Grp) (hl:l.length=N) (ho:∀ x,x∈l→ok x) (hr:stable c 1000 N l=some r) :
  xcY N (List.map encG l)=some (List.map encG r):=by
 obtain ⟨e1,e2⟩:=xOk (N:=N) (by omega) (ok:=ok) hc ⟨hl,ho⟩ hr
 simp only [xcY,xfW,e1,Option.isSome_some,Option.getD_some,xak]
end Go.Sim.M
end
noncomputable section
set_option maxRecDepth 100000
namespace Go.Sim.M
open Go.RowKit Go.Sim.Srt
def ents:Nat→List Row→List AV
 | _,[]=>[]
 | k,r::R=>.agg [.str (keyOf r),.int .i64 (k:Int)]::ents (k+1) R
theorem xJL:∀ (R:List Row) (k:Nat) (r:Row),mapIx (ents k R) (keyOf r)=R.findIdx? fun x=>decide (x=r)
 | [],_,_=>rfl
 | x::R,k,r=>by
  have hk:isKey (keyOf r) (((AV.agg [.str (keyOf x),.int .i64 (k:Int)]).cells).getD 0 .top)=decide (x=r):=by
   show (keyOf x==keyOf r)=_
   by_cases h:x=r
   · subst h;simp
   · have:¬ keyOf x=keyOf r:=fun e=>h (xJM e)
     simp [h,this]
  show (match isKey (keyOf r) (((AV.agg [.str (keyOf x),.int .i64 (k:Int)]).cells).getD 0 .top) with|true=>some 0|false=>(mapIx (ents (k+1) R) (keyOf r)).map (·+1))=_
  rw [hk,List.findIdx?_cons,xJL R (k+1) r]
  by_cases h:x=r<;>simp [h]
theorem xHf:∀ (R:List Row) (k:Nat),(ents k R).length=R.length
 | [],_=>rfl
 | _::R,k=>by show (ents (k+1) R).length+1=_;rw [xHf R];rfl
theorem xFX:∀ (R:List Row) (k:Nat) (r:Row),ents k (R++[r])=ents k R++[.agg [.str (keyOf r),.int .i64 ((k+R.length:Nat):Int)]]
 | [],_,_=>rfl
 | x::R,k,r=>by
  show _::ents (k+1) (R++[r])=_
  rw [xFX R (k+1) r,List.length_cons,show k+1+R.length=k+(R.length+1) by omega];rfl
theorem xHP:∀ (R:List Row) (k j:Nat) (h:j<R.length),(ents k R).getD j .top=.agg [.str (keyOf R[j]),.int .i64 ((k+j:Nat):Int)]
 | x::R,k,0,h=>rfl
 | x::R,k,j+1,h=>by
  show (ents (k+1) R).getD j .top=_
  rw [xHP R (k+1) j (by simpa using h),show k+1+j=k+(j+1) by omega];rfl
def upd (G:List Grp) (f:Fc):List Grp:=match (G.map (·.1)).findIdx? fun x=>decide (x=f.r) with
 | some j=>G.set j (f.r,(G.getD j ([],[])).2++[f.p])
 | none=>G++[(f.r,[f.p])]
structure GI (l:List Fc) (G:List Grp):Prop where
 nd:(G.map (·.1)).Nodup
 mem:∀ r,r∈G.map (·.1)↔∃ f,f∈l∧f.r=r∧pv f.p=true
 ps:∀ g,g∈G→g.2=psOf l g.1
 len:G.length≤l.length
theorem GI.nil:GI [] []:=⟨List.nodup_nil,fun r=>by simp,fun g hg=>by simp at hg,Nat.le_refl _⟩
theorem xu7 (l:List Fc) (f:Fc) (r:Row):psOf (l++[f]) r=psOf l r++(if f.r=r∧pv f.p=true then [f.p] else []):=by
 unfold psOf
 rw [List.filter_append,List.map_append]
 congr 1
 by_cases h1:f.r=r<;>by_cases h2:pv f.p=true<;>simp [h1,h2]
theorem GI.skip {l:List Fc} {G:List Grp} (h:GI l G) {f:Fc} (hf:pv f.p=false):GI (l++[f]) G :=
 ⟨h.nd,fun r=>by
  rw [h.mem]
  refine ⟨fun ⟨g,hg,e⟩=>⟨g,by simp [hg],e⟩,fun ⟨g,hg,e1,e2⟩=>⟨g,?_,e1,e2⟩⟩
  rcases List.mem_append.1 hg with hg|hg
  · exact hg
  · rw [List.mem_singleton] at hg;subst hg;rw [hf] at e2;simp at e2,fun g hg=>by rw [xu7,if_neg (by rw [hf];simp),List.append_nil];exact h.ps g hg,by rw [List.length_append];have:=h.len;omega⟩
theorem xAa {R:List Row} {r:Row} {j:Nat} (h:R.findIdx? (fun x=>decide (x=r))=some j):∃ hj:j<R.length,R[j]=r:=by
 obtain ⟨hj,h1,_⟩:=List.findIdx?_eq_some_iff_getElem.1 h
 exact ⟨hj,by simpa using h1⟩
theorem xIy {R:List Row} {r:Row} (h:R.findIdx? (fun x=>decide (x=r))=none):r∉R:=fun hr=>by
 have:=List.findIdx?_eq_none_iff.1 h r hr
 simp at this
theorem xFs {G:List Grp} {j:Nat} (hj:j<G.length) {ps:List Per} {r:Row} (hr:G[j].1=r):(G.set j (r,ps)).map (·.1)=G.map (·.1):=by
 rw [List.map_set]
 show (G.map (·.1)).set j r=_
 rw [←hr]
 have:(G.map (·.1))[j]'(by simpa using hj)=G[j].1:=by simp
 rw [←this]
 exact List.set_getElem_self _
theorem GI.upd {l:List Fc} {G:List Grp} (h:GI l G) {f:Fc} (hf:pv f.p=true):GI (l++[f]) (M.upd G f):=by
 unfold M.upd
 cases hi:(G.map (·.1)).findIdx? fun x=>decide (x=f.r) with
 | some j =>
  obtain ⟨hj,hr⟩:=xAa hi
  rw [List.length_map] at hj
  rw [List.getElem_map] at hr
  dsimp only
  have gd:G.getD j ([],[])=G[j]:=by rw [List.getD_eq_getElem?_getD,List.getElem?_eq_getElem hj];rfl
  rw [gd]
  refine ⟨by rw [xFs hj hr];exact h.nd,fun r=>?_,fun g hg=>?_,by rw [List.length_set,List.length_append];have:=h.len;omega⟩
  · rw [xFs hj hr,h.mem]
    refine ⟨fun ⟨g,hg,e⟩=>⟨g,by simp [hg],e⟩,fun ⟨g,hg,e1,e2⟩=>?_⟩
    rcases List.mem_append.1 hg with hg|hg
    · exact ⟨g,hg,e1,e2⟩
    · rw [List.mem_singleton] at hg;subst hg
      refine (h.mem r).1 ?_
      rw [←e1,←hr]
      exact List.mem_map.2 ⟨G[j],List.getElem_mem hj,rfl⟩
  · obtain ⟨i,hi2,rfl⟩:=List.mem_iff_getElem.1 hg
    rw [List.length_set] at hi2
    rw [List.getElem_set]
    by_cases hij:j=i
    · subst hij
      rw [if_pos rfl,xu7,if_pos ⟨rfl,hf⟩,h.ps _ (List.getElem_mem hj),hr]
    · rw [if_neg hij,xu7,if_neg ?_,List.append_nil]
      · exact h.ps _ (List.getElem_mem hi2)
      · rintro ⟨e,_⟩
        have hn:=List.pairwise_iff_getElem.1 h.nd
        have ei:(G.map (·.1))[i]'(by simpa using hi2)=G[i].1:=by simp
        have ej:(G.map (·.1))[j]'(by simpa using hj)=G[j].1:=by simp
        rcases Nat.lt_or_gt_of_ne hij with hlt|hlt
        · exact hn j i (by simpa using hj) (by simpa using hi2) hlt (by rw [ei,ej,hr,e])
        · exact hn i j (by simpa using hi2) (by simpa using hj) hlt (by rw [ei,ej,hr,e])
 | none =>
  have hr:=xIy hi
  dsimp only
  have hz:psOf l f.r=[]:=by
   unfold psOf
   rw [List.map_eq_nil_iff,List.filter_eq_nil_iff]
   intro g hg he
   simp only [Bool.and_eq_true,decide_eq_true_eq] at he
   exact hr ((h.mem _).2 ⟨g,hg,he⟩)
  refine ⟨?_,fun r=>?_,fun g hg=>?_,by rw [List.length_append,List.length_append];have:=h.len;simp;omega⟩
  · rw [List.map_append]
    refine List.nodup_append.2 ⟨h.nd,by simp,fun a ha b hb e=>?_⟩
    simp at hb
    exact hr (by rw [←hb,←e];exact ha)
  · rw [List.map_append,List.mem_append,h.mem]
    simp only [List.map_cons,List.map_nil,List.mem_singleton,List.mem_append]
    constructor
    · rintro (⟨g,hg,e⟩|rfl)
      · exact ⟨g,.inl hg,e⟩
      · exact ⟨f,.inr rfl,rfl,hf⟩
    · rintro ⟨g,hg|rfl,e⟩
      · exact .inl ⟨g,hg,e⟩
      · exact .inr e.1.symm
  · rcases List.mem_append.1 hg with hg|hg
    · rw [xu7,if_neg ?_,List.append_nil]
      · exact h.ps g hg
      · rintro ⟨e,_⟩
        exact hr (by rw [e];exact List.mem_map.2 ⟨g,hg,rfl⟩)
    · rw [List.mem_singleton] at hg
      subst hg
      rw [xu7,if_pos ⟨rfl,hf⟩,hz];rfl
theorem cG0 (g:Grp):((encG g).cells.getD 0 .top).toList=g.1.map encV:=rfl
theorem xLI {α:Type} (l:List α) (x d:α):(l++[x]).getD l.length d=x:=by simp
theorem xN1 {α:Type} (l:List α) (x y:α):(l++[x]).set l.length y=l++[y]:=by simp
theorem cellsA (xs:List AV):(AV.agg xs).cells=xs:=rfl
theorem tolA (n:Nat) (xs:List AV):(AV.list n xs).toList=xs:=rfl
theorem tointA (k:IntKind) (n:Int):(AV.int k n).toInt=n:=rfl
theorem isRowA (xs:List AV):isRow 2 (.list 2 xs)=true:=rfl
theorem deadA (n m:Nat):deadLt (.int .i64 (n:Int)) m=decide (n<m):=rfl
theorem dead0:deadLt (.int .i64 0) 1=true:=rfl
theorem g2a (a b:AV):[a,b].getD 0 .top=a:=rfl
theorem g2b (a b:AV):[a,b].getD 1 .top=b:=rfl
theorem lt2 (a b:AV):([a,b].length==2)=true:=rfl
theorem tk1 (a b:AV):List.take 1 [a,b]=[a]:=rfl
theorem dp2 (a b:AV):List.drop 2 [a,b]=[]:=rfl
theorem xJZ (g:Grp):encG g=.agg [.list 3 (g.1.map encV),.list 2 (g.2.map encP)]:=rfl
theorem xJ4 (p:Per):encP p=.agg [.int .i64 p.1,.int .i64 p.2]:=rfl
def Keyed (l:List Fc):Prop:=Few l∧∀ f,f∈l→(∀ v,v∈f.r→KOk v)∧(keyOf f.r).length≤17592186044416
theorem Keyed.key {l:List Fc} (h:Keyed l) {f:Fc} (hf:f∈l):xga (f.r.map encV)=some (keyOf f.r):=xP8 f.r (h.1.2 f hf) (h.2 f hf).1 (h.2 f hf).2
theorem xLT (l:List Fc) (h:Keyed l) (k:Nat) (hk:k<l.length) (G:List Grp) (hG:GI (l.take k) G) :
  xbo (l.map encF) ((l.length:Nat):Int) (G.length,(k:Int),ents 0 (G.map (·.1)),G.map encG) =
   some (.inl ((if pv l[k].p=true then upd G l[k] else G).length,((k+1:Nat):Int),ents 0 ((if pv l[k].p=true then upd G l[k] else G).map (·.1)),(if pv l[k].p=true then upd G l[k] else G).map encG)):=by
 have hl:=h.1.1
 have i1:(k:Int)<(l.length:Int):=by omega
 have gf:(l.map encF).getD k .top=encF l[k]:=xaJ _ _ _ hk
 have ek:=h.key (List.getElem_mem hk)
 have kl:=(h.2 _ (List.getElem_mem hk)).2
 have hGl:=hG.len
 rw [List.length_take] at hGl
 cases hv:pv l[k].p with
 | false =>
  simp only [xbo,xeq,List.length_map,xak,xal,decide_true,decide_false,Bool.and_true,Bool.true_and,Bool.not_true,Bool.not_false,Int.toNat_natCast,Int.natCast_nonneg,Option.isSome_some,Option.getD_some,beq_self_eq_true,Nat.zero_add,Nat.sub_zero,i1,hk,gf,cF0,cF1,cF2,sF0,sF1,sF2,lF,sF12,sF02,xtT,hv,wrapS (n:=k) (by omega)]
  rfl
 | true =>
  have k1:(keyOf l[k].r).length≤4611686018427387904:=by omega
  have hx:=xJL (G.map (·.1)) 0 l[k].r
  have n1:(ents 0 (G.map (·.1))).length<4611686018427387904:=by rw [xHf,List.length_map];omega
  have m1:(G.length+1)*48≤140737488355328:=by omega
  have m2:G.length+1≤4611686018427387904:=by omega
  simp only [if_true]
  cases hi:(G.map (·.1)).findIdx? fun x=>decide (x=l[k].r) with
  | none =>
   rw [hi] at hx
   have hu:upd G l[k]=G++[(l[k].r,[l[k].p])]:=by unfold upd;rw [hi]
   have hh:mapHas (ents 0 (G.map (·.1))) (keyOf l[k].r)=false:=by unfold mapHas;rw [hx];rfl
   have hg:mapGet (AV.int .i64 0) (ents 0 (G.map (·.1))) (keyOf l[k].r)=AV.int .i64 0:=by unfold mapGet;rw [hx]
   have hp:mapPut (ents 0 (G.map (·.1))) (keyOf l[k].r) (AV.int .i64 (G.length:Int))=ents 0 ((G++[(l[k].r,[l[k].p])]).map (·.1)):=by
    unfold mapPut;rw [hx,List.map_append]
    show _=ents 0 (G.map (·.1)++[l[k].r])
    rw [xFX,List.length_map,Nat.zero_add]
   have i2:(G.length:Int)<((G.length+1:Nat):Int):=by omega
   have hs0:hasSh1 (Sh.int .i64) (AV.int .i64 0)=true:=rfl
   have gl:∀ x:AV,(G.map encG++[x]).getD G.length .top=x:=fun x=>by have:=xLI (G.map encG) x .top;rwa [List.length_map] at this
   have sl:∀ x y:AV,(G.map encG++[x]).set G.length y=G.map encG++[y]:=fun x y=>by have:=xN1 (G.map encG) x y;rwa [List.length_map] at this
   rw [hu]
   simp only [xbo,xeq,xi7,xi8,xe6,xeY,xgQ,xi6,xgR,xba,xi9,xa9,xbT,xaW,xfZ,xio,xim,xcx,xiA,xgb,xdA,List.length_map,xak,xal,decide_true,decide_false,Bool.and_true,Bool.true_and,Bool.not_true,Bool.not_false,Int.toNat_natCast,Int.natCast_nonneg,Option.isSome_some,Option.getD_some,beq_self_eq_true,Nat.zero_add,Nat.sub_zero,i1,hk,gf,cF0,cF1,cF2,sF0,sF1,sF2,lF,sF12,sF02,xtT,hv,wrapS (n:=k) (by omega),ek,k1,hh,hg,hp,n1,m1,m2,i2,hs0,gl,sl,List.length_append,List.length_singleton,List.map_append,List.map_cons,List.map_nil,cellsA,tolA,tointA,isRowA,deadA,g2a,g2b,lt2,tk1,dp2,List.length_set,Nat.lt_succ_self,Bool.and_self,List.length_nil,Nat.zero_add,xJZ,xJ4,List.singleton_append,List.nil_append,List.append_nil,Int.natCast_zero]
   try simp [xak,dead0]
  | some j =>
   obtain ⟨hj,hr⟩:=xAa hi
   rw [hi] at hx
   have hj2:j<G.length:=by simpa using hj
   rw [List.getElem_map] at hr
   have gd:G.getD j ([],[])=G[j]:=by rw [List.getD_eq_getElem?_getD,List.getElem?_eq_getElem hj2];rfl
   have hu:upd G l[k]=G.set j (l[k].r,G[j].2++[l[k].p]):=by unfold upd;rw [hi];dsimp only;rw [gd]
   have hh:mapHas (ents 0 (G.map (·.1))) (keyOf l[k].r)=true:=by unfold mapHas;rw [hx];rfl
   have hg:mapGet (AV.int .i64 0) (ents 0 (G.map (·.1))) (keyOf l[k].r)=AV.int .i64 (j:Int):=by
    unfold mapGet;rw [hx];dsimp only
    rw [xHP _ _ _ hj,Nat.zero_add];rfl
   have gj:(G.map encG).getD j .top=encG G[j]:=xaJ _ _ _ hj2
   have i2:(j:Int)<(G.length:Int):=by omega
   have hs0:hasSh1 (Sh.int .i64) (AV.int .i64 (j:Int))=true:=rfl
   have pl:G[j].2.length≤k:=by
    rw [hG.ps _ (List.getElem_mem hj2)]
    have:=xHd (l.take k) G[j].1
    rw [List.length_take] at this;omega
   have m3:(G[j].2.length+1)*16≤140737488355328:=by omega
   have m4:G[j].2.length+1≤4611686018427387904:=by omega
   have gs:∀ x:AV,((G.map encG).set j x).getD j .top=x:=fun x=>by
    rw [List.getD_eq_getElem?_getD,List.getElem?_set_self (by simpa using hj2)];rfl
   have ss:∀ x y:AV,((G.map encG).set j x).set j y=(G.map encG).set j y:=fun x y=>List.set_set ..
   have tj:(AV.int IntKind.i64 (j:Int)).toInt=(j:Int):=rfl
   have cj:(encG G[j]).cells=[.list 3 (l[k].r.map encV),.list 2 (G[j].2.map encP)]:=by rw [←hr];rfl
   rw [hu,xFs hj2 hr,List.length_set,List.map_set]
   simp only [xbo,xeq,xi7,xi8,xe6,xeY,xgQ,xi6,xgR,xba,xi9,xa9,xbT,xaW,xfZ,xio,xim,xcx,xiA,xgb,xdA,List.length_map,xak,xal,decide_true,decide_false,Bool.and_true,Bool.true_and,Bool.not_true,Bool.not_false,Int.toNat_natCast,Int.natCast_nonneg,Option.isSome_some,Option.getD_some,beq_self_eq_true,Nat.zero_add,Nat.sub_zero,i1,hk,gf,cF0,cF1,cF2,sF0,sF1,sF2,lF,sF12,sF02,xtT,hv,wrapS (n:=k) (by omega),ek,k1,hh,hg,i2,hs0,tj,gj,cj,hj2,List.length_set,gs,ss,cellsA,tolA,tointA,isRowA,deadA,g2a,g2b,lt2,tk1,dp2,m3,m4,Bool.and_self,List.length_append,List.length_singleton,Nat.lt_succ_self,xJZ,xJ4,List.map_append,List.map_cons,List.map_nil,List.singleton_append,List.append_nil]
   try simp [xak,dead0,hr]
def grp (l:List Fc):List Grp:=l.foldl (fun G f=>if pv f.p=true then upd G f else G) []
theorem xIk (l:List Fc) (f:Fc):grp (l++[f])=if pv f.p=true then upd (grp l) f else grp l:=by simp [grp]
theorem xMr:∀ l:List Fc,GI l.reverse (grp l.reverse)
 | []=>GI.nil
 | f::l=>by
  rw [List.reverse_cons,xIk]
  have ih:=xMr l
  cases hv:pv f.p with
  | true=>rw [if_pos rfl];exact ih.upd hv
  | false=>rw [if_neg (by simp)];exact ih.skip hv
theorem xLB (l:List Fc):GI l (grp l):=by have:=xMr l.reverse;rwa [List.reverse_reverse] at this
theorem xM7 (l:List Fc) (h:Keyed l):Iter (xbo (l.map encF) ((l.length:Nat):Int)) ((0:Nat),(0:Int),[],[])=some ((grp l).length,(grp l).map encG):=by
 refine xoQ (fun k=>(((grp (l.take k)).length,((k:Nat):Int),ents 0 ((grp (l.take k)).map (·.1)),(grp (l.take k)).map encG):Nat×Int×List AV×List AV)) l.length _ (fun k hk=>?_) ?_ l.length 0 (by omega)
 · rw [xLT l h k hk (grp (l.take k)) (xLB _)]
   have tk:l.take (k+1)=l.take k++[l[k]]:=by rw [List.take_add_one,List.getElem?_eq_getElem hk];rfl
   rw [tk,xIk]
 · simp only [xbo,xeq,List.length_map,Int.lt_irrefl,decide_false,xal,List.take_length]
theorem xOx (x y:Grp) (hx:x.1.length≤4398046511104):cmpPG (encG x) (encG y)=true∧cmpVG (encG x) (encG y)=cmpR x.1 y.1:=by
 have e:xcF (x.1.map encV) (x.2.map encP) (y.1.map encV) (y.2.map encP)=some (cmpR x.1 y.1):=by
  unfold xcF xlo
  rw [xLt x.1 y.1 (by unfold maxLen;omega)];rfl
 have e2:xcF ((encG x).cells.getD 0 .top).toList ((encG x).cells.getD 1 .top).toList ((encG y).cells.getD 0 .top).toList ((encG y).cells.getD 1 .top).toList=some (cmpR x.1 y.1):=e
 unfold cmpPG cmpVG
 rw [e2]
 exact ⟨rfl,rfl⟩
theorem xPA (l:List Fc) (h:Keyed l):∃ S:List Grp,xfA (l.map encF)=some (S.map encG)∧IsRows l (S.map (·.1))∧(∀ g,g∈S→g.2=psOf l g.1)∧S.length≤l.length:=by
 have hg:=xLB l
 have hll:=h.1.1
 have hgl:=hg.len
 have cG:Cm fun x y:Grp=>cmpR x.1 y.1:=xtq.on (e:=fun x:Grp=>x.1)
 obtain ⟨r,e,p,s⟩:=(fun F (hF:20≤F)=>xIP cG.ord F (grp l).length (xJY (Nat.le_trans hgl hll) hF) (grp l) rfl) 1000 (by decide)
 have es:=xQk (N:=(grp l).length) (by omega) (ok:=fun g=>g.1.length≤1048576) (c:=fun x y:Grp=>cmpR x.1 y.1) (fun x y hx hy=>xOx x y (by omega)) (grp l) r rfl (fun g hgm=>by
  obtain ⟨f,hf,e,_⟩:=(hg.mem g.1).1 (List.mem_map.2 ⟨g,hgm,rfl⟩)
  rw [←e];exact h.1.2 f hf) e
 have rl:=p.length_eq
 refine ⟨r,?_,⟨?_,fun x=>?_⟩,fun g hgm=>hg.ps g (p.mem_iff.1 hgm),by rw [rl];exact hgl⟩
 · have el:=xM7 l h
   have ra:rowsAll 2 1 ((grp l).map encG)=true:=by
    unfold rowsAll
    rw [List.all_eq_true]
    intro x hx
    obtain ⟨g,_,rfl⟩:=List.mem_map.1 hx
    rfl
   have ll:(grp l).length≤r.length:=by omega
   have tt:List.take (grp l).length (r.map encG)=r.map encG:=List.take_of_length_le (by rw [List.length_map];omega)
   unfold xfA xmb xoT xoH xlp xoJ xoX xoZ
   simp only [List.length_map,el,Option.isSome_some,Option.getD_some,xak,ra,es,Nat.zero_add,ll,decide_true,Bool.and_true,List.drop_zero,tt]
 · refine xLg (fun _ _=>xo1) ?_ ?_
   · exact List.pairwise_map.2 s
   · exact ((p.map (·.1)).nodup_iff).2 hg.nd
 · rw [(p.map (·.1)).mem_iff];exact hg.mem x
end Go.Sim.M
end
noncomputable section
set_option maxRecDepth 100000
namespace Go.Sim.M
open Go.RowKit Go.Sim.Srt
theorem xHp {α:Type} {step:Int→Option (Int⊕(Bool×Bool×Unit))} (l:List α) (p:α→Bool)
  (hs:∀ (k:Nat) (h:k<l.length),step (k:Int)=if p l[k]=true then some (.inl ((k+1:Nat):Int)) else some (.inr (true,false,())))
  (he:step (l.length:Int)=some (.inr (false,false,()))):∀ d k:Nat,k+d=l.length→Iter step (k:Int)=some (if (l.drop k).all p=true then (false,false,()) else (true,false,()))
 | 0,k,h=>by
  have:k=l.length:=by omega
  subst this
  rw [List.drop_eq_nil_of_le (Nat.le_refl _),List.all_nil,if_pos rfl]
  exact xaI he
 | d+1,k,h=>by
  have hk:k<l.length:=by omega
  have:=hs k hk
  have e:(l.drop k).all p=(p l[k]&&(l.drop (k+1)).all p):=by rw [xbE hk];rfl
  rw [e]
  cases hc:p l[k] with
  | true =>
   rw [if_pos hc] at this
   rw [xbf this,xHp l p hs he d (k+1) (by omega),Bool.true_and]
  | false =>
   rw [if_neg (by rw [hc];simp)] at this
   rw [xaI this];simp
def few (l:List Fc):Bool:=decide (l.length≤24)&&l.all fun f=>decide (f.r.length≤60)
theorem xPL (l:List Fc):xiB (l.map encF)=some (few l):=by
 have key:xlm (l.map encF) 24=some (few l):=by
  unfold xlm xrl
  by_cases h:(l.length:Int)>24
  · simp only [List.length_map,h,decide_true,xak]
    have:¬ l.length≤24:=by omega
    simp [few,this]
  · have e:=xHp (step:=xci (l.map encF)) l (fun f=>decide (f.r.length≤60)) (fun k hk=>by
     have hl:l.length≤24:=by omega
     have i1:(k:Int)<(l.length:Int):=by omega
     have gf:(l.map encF).getD k .top=encF l[k]:=xaJ _ _ _ hk
     simp only [xci,xkO,List.length_map,xak,xal,decide_true,decide_false,Bool.and_true,Bool.true_and,Bool.not_true,Bool.not_false,Int.toNat_natCast,Int.natCast_nonneg,Option.isSome_some,Option.getD_some,beq_self_eq_true,Nat.zero_add,Nat.sub_zero,hk,i1,gf,cF0,cF1,cF2,sF0,sF1,sF2,lF,sF12,sF02,wrapS (n:=k) (by omega)]
     by_cases h60:l[k].r.length≤60
     · have:¬ (l[k].r.length:Int)>60:=by omega
       simp [h60,this,xal]
     · have:(l[k].r.length:Int)>60:=by omega
       simp [h60,this,xak]) (by
     simp only [xci,xkO,List.length_map,Int.lt_irrefl,decide_false,xal]) l.length 0 (by omega)
    have e:Iter (xci (l.map encF)) (0:Int)=_:=e
    rw [List.drop_zero] at e
    simp only [List.length_map,h,decide_false,xal,e]
    have hl:l.length≤24:=by omega
    cases ha:l.all (fun f=>decide (f.r.length≤60))<;>simp [few,hl,ha,xak,xal]
 unfold xiB xrh
 simp only [key,xIi]
theorem xB8 {l:List Fc} (h:few l=true):l.length≤24∧∀ f,f∈l→f.r.length≤60:=by
 simp only [few,Bool.and_eq_true,decide_eq_true_eq,List.all_eq_true] at h
 exact h
theorem xFO {ps:List Per} (h:ps.length≤262144):Tame (ps.map fun p=>(p,(1:Int))):=⟨by simpa using h,fun c hc=>by
 obtain ⟨p,_,rfl⟩:=List.mem_map.1 hc
 dsimp only;omega⟩
theorem xGD (ps:List Per) (h:ps.length≤262144):∃ S,xc9 (ps.map encP)=some (S.map encP)∧StepI (fun t=>((ps.countP (hasP · t):Nat):Int)) 1099511627776 S∧S.length≤2*ps.length+1:=by
 obtain ⟨S,h1,h2,h3⟩:=xwE _ (xFO h)
 refine ⟨S,by rw [xKY ps (by omega),h1],?_,by simpa using h3⟩
 rwa [show sumC (ps.map fun p=>(p,(1:Int)))=fun t=>((ps.countP (hasP · t):Nat):Int) from funext fun t=>xGg ps t] at h2
theorem xN5 (l:List Fc) (row:Row) (t:Int) (g:Fc→List Per) (hg:∀ f,(g f).countP (hasP · t)=if f.r=row∧hasP f.p t=true then 1 else 0):(l.flatMap g).countP (hasP · t)=cnt l row t:=by
 induction l with
 | nil=>rfl
 | cons f l ih =>
  rw [List.flatMap_cons,List.countP_append,ih,hg]
  have e2:cnt (f::l) row t=cnt l row t+if (decide (f.r=row)&&hasP f.p t)=true then 1 else 0:=List.countP_cons
  rw [e2]
  by_cases h:f.r=row∧hasP f.p t=true
  · rw [if_pos h,if_pos (by simp [h.1,h.2])];omega
  · rw [if_neg h,if_neg (by simpa using h)];omega
theorem xKX (l:List Fc) (row:Row) (hr:∀ f,f∈l→f.r.length≤maxLen) (hl:l.length≤262144):∃ S,xhp (l.map encF) (row.map encV)=some (S.map encP)∧StepI (fun t=>((cnt l row t:Nat):Int)) 1099511627776 S∧S.length≤2*l.length+1:=by
 have e:=xwF row l (by omega) hr
 have hps:(l.flatMap fun f=>if cmpR f.r row==0 then [(f.p,(1:Int))] else [])=(l.flatMap fun f=>if cmpR f.r row==0 then [f.p] else []).map fun p=>(p,(1:Int)):=by
  rw [List.map_flatMap];congr 1;funext f;split<;>simp
 rw [hps] at e
 generalize hq:(l.flatMap fun f=>if cmpR f.r row==0 then [f.p] else [])=ps at e
 have hlen:ps.length≤l.length:=by
  rw [←hq]
  have:=xmK (c:=1) (g:=fun f:Fc=>if cmpR f.r row==0 then [f.p] else []) l fun f _=>by split<;>simp
  omega
 obtain ⟨S,h1,h2,h3⟩:=xP3 _ (xFO (ps:=ps) (by omega))
 refine ⟨S,?_,?_,by rw [List.length_map] at h3;omega⟩
 · unfold xhp xnK
   simp only [xqh,xpp,xpC,xqi,e,List.drop_zero,List.take_of_length_le,Nat.zero_add,List.length_map,Nat.le_refl,decide_true,Bool.and_true,xak,Option.isSome_some,Option.getD_some]
   simp only [h1,List.drop_zero,List.take_of_length_le,Nat.zero_add,List.length_map,Nat.le_refl,decide_true,Bool.and_true,xak,Option.isSome_some,Option.getD_some]
 · rwa [show sumC (ps.map fun p=>(p,(1:Int)))=fun t=>((cnt l row t:Nat):Int) from funext fun t=>by
    rw [xGg,←hq,xN5 l row t _ fun f=>?_]
    rw [cmp0]
    by_cases hr:f.r=row<;>cases hh:hasP f.p t<;>simp [hr,hh]] at h2
end Go.Sim.M
end
noncomputable section
set_option maxRecDepth 100000
namespace Go.Sim.M
open Go.RowKit Go.Sim.Srt Go.Sort
theorem xPG (E:List Per):(E.map encP).all isP=true∧∃ P:List Per,srtP (E.map encP)=P.map encP∧P.Perm E∧Sorted cmpP P:=by
 have e1:(E.map encP).map decP=E:=by
  rw [List.map_map];conv=>rhs;rw [←List.map_id E]
  rfl
 refine ⟨?_,pdqL cmpP E,?_,(xmP cmpP swoP E).1,(xBM cmpP swoP E).imp fun {x y} h=>?_⟩
 · rw [List.all_eq_true]
   intro x hx
   obtain ⟨e,he,rfl⟩:=List.mem_map.1 hx
   rfl
 · unfold srtP;rw [e1];rfl
 · have:=xtV x y;omega
theorem xHo (S:List Per) (hS:S.length≤524289) (hN:∀ s,s∈S→0≤s.2∧s.2≤1048576):∀ (d k:Nat) (stk ox:List Per),k+d=S.length→StOk stk→(flatS stk).length≤1048576→ox.length≤k*1048576 →
  ∃ stk' ox':List Per,Iter (xcv (S.map encP) ((S.length:Nat):Int)) ((k:Int),ox.length,stk.length,((flatS stk).length:Int),ox.map encP,stk.map encP)=some (ox'.length,((flatS stk').length:Int),stk'.length,ox'.map encP,stk'.map encP) ∧
   StOk stk'∧(flatS stk',ox')=(S.drop k).foldl (fun x s=>setF x (s.1,s.2.toNat)) (flatS stk,ox)∧(flatS stk').length≤1048576∧ox'.length≤S.length*1048576
 | 0,k,stk,ox,h,h1,h2,h3=>by
  obtain rfl:k=S.length:=by omega
  refine ⟨stk,ox,xaI ?_,h1,by rw [List.drop_eq_nil_of_le (Nat.le_refl _)];rfl,h2,h3⟩
  simp only [xcv,xh8,Int.lt_irrefl,decide_false,xal]
 | d+1,k,stk,ox,h,h1,h2,h3=>by
  have hk:k<S.length:=by omega
  obtain ⟨n1,n2⟩:=hN _ (List.getElem_mem hk)
  obtain ⟨m,hm⟩:∃ m:Nat,S[k].2=(m:Int):=⟨S[k].2.toNat,by omega⟩
  obtain ⟨stk2,e,a1,a2⟩:=xJI S[k].1 m (flatS stk).length stk ox h1 rfl (by omega) h2 (by omega)
  have hl2:(flatS stk2).length=m:=by rw [a2,List.length_append,List.length_take,List.length_replicate];omega
  obtain ⟨stk',ox',e',b1,b2,b3,b4⟩:=xHo S hS hN d (k+1) stk2 (ox++(((flatS stk).drop m).reverse.map fun f=>(f,S[k].1))) (by omega) a1 (by omega) (by
   rw [List.length_append,List.length_map,List.length_reverse,List.length_drop];omega)
  refine ⟨stk',ox',(xbf ?_).trans e',b1,?_,b3,b4⟩
  · have i1:(k:Int)<(S.length:Int):=by omega
    have gf:(S.map encP).getD k .top=encP S[k]:=xaJ _ _ _ hk
    have i2:¬ (0:Int)>(m:Int):=by omega
    have i3:¬ (1048576:Int)<(m:Int):=by omega
    have tk:List.take stk2.length (stk2.map encP)=stk2.map encP:=List.take_of_length_le (by simp)
    rw [hl2]
    simp only [xcv,xh8,xmA,xmx,xmp,xmX,xmY,xmG,xmD,List.length_map,xak,xal,decide_true,decide_false,Bool.and_true,Bool.true_and,Bool.not_true,Bool.not_false,Int.toNat_natCast,Int.natCast_nonneg,Option.isSome_some,Option.getD_some,beq_self_eq_true,Nat.zero_add,Nat.sub_zero,hk,i1,gf,cP0,cP1,lP,sP,sP0,sP1,hm,i2,i3,if_false,e,tk,wrapS (n:=k) (by omega)]
  · rw [b2,xbE hk,List.foldl_cons]
    congr 1
    rw [hm,Int.toNat_natCast,a2];rfl
theorem xMb {N:Int→Nat} {H:Nat} (hb:H≤1048576) (hH:∀ t,N t≤H) (h0:∀ t,t<0∨1099511627776≤t→N t=0) {S:List Per} (hS:StepI (fun t=>(N t:Int)) 1099511627776 S) (hl:S.length≤524289):∃ P,xhm (S.map encP)=some (P.map encP)∧IsLevs N P:=by
 obtain ⟨stk,ox,e,a1,a2,a3,a4⟩:=xHo S hl (fun s hs=>by
  obtain ⟨_,_,m3,_⟩:=(hS.mem s).1 hs
  have:=hH s.1;omega) S.length 0 [] [] (by omega) (fun s hs=>by simp at hs) (by simp [flatS]) (by simp)
 obtain ⟨stk2,e2,c1,c2⟩:=xJI 1099511627776 0 (flatS stk).length stk ox a1 rfl (by omega) a3 (by omega)
 obtain ⟨s1,P,s2,s3,s4⟩:=xPG (ox++(((flatS stk).drop 0).reverse.map fun f=>(f,(1099511627776:Int))))
 have m1:(ox++(((flatS stk).drop 0).reverse.map fun f=>(f,(1099511627776:Int)))).length<4611686018427387904:=by
  rw [List.length_append,List.length_map,List.length_reverse,List.length_drop];omega
 refine ⟨P,?_,xNC hH h0 hS ?_ s4⟩
 · have pl:=s3.length_eq
   have e:Iter (xcv (S.map encP) ((S.length:Nat):Int)) ((0:Int),(0:Nat),(0:Nat),(0:Int),[],[])=_:=e
   have e2:set2 1099511627776 0 ((flatS stk).length:Int) stk.length ox.length (stk.map encP) (ox.map encP)=_:=e2
   generalize (ox++(((flatS stk).drop 0).reverse.map fun f=>(f,(1099511627776:Int))))=O at s1 s2 e2 pl m1
   have bq:O.length.beq O.length=true:=by simp
   have m2:O.length≤P.length:=by omega
   have tt:List.take O.length (P.map encP)=P.map encP:=List.take_of_length_le (by rw [List.length_map];omega)
   unfold xhm xnF
   simp only [xkc,xkg,xpI,xp3,xpO,xpo,xpz,xpB,xqm,List.length_map,e,Option.isSome_some,Option.getD_some,xak,e2,bq,m1,s1,s2,decide_true,Bool.and_true,Nat.zero_add,m2,List.drop_zero,tt]
 · have a2:(flatS stk,ox)=S.foldl (fun x s=>setF x (s.1,s.2.toNat)) ([],[]):=a2
   rw [←a2]
   exact s3
theorem xIq (ps:List Per) (t:Int) (ht:t<0∨1099511627776≤t):ps.countP (hasP · t)=0:=by
 rw [List.countP_eq_zero]
 intro p hp h
 obtain ⟨h1,h2,h3⟩:=xh5.1 h
 have:=xfM.1 h1;omega
theorem xPt (ps:List Per) (hv:∀ p,p∈ps→pv p=true) (hl:ps.length≤262144):∃ P,xdJ (ps.map encP)=some (P.map encP)∧IsLevs (fun t=>ps.countP (hasP · t)) P:=by
 unfold xdJ xl7
 by_cases h1:ps.length=1
 · obtain ⟨p,rfl⟩:=List.length_eq_one_iff.1 h1
   refine ⟨[p],rfl,List.pairwise_singleton _ _,fun k=>if k=0 then [p] else [],1,fun t=>?_,fun k=>?_,?_⟩
   · have:=List.countP_le_length (p:=(hasP · t)) (l:=[p]);simpa using this
   · by_cases hk:k=0
     · subst hk
       refine ⟨⟨fun q hq=>by simp at hq;subst hq;exact hv _ (by simp),List.pairwise_singleton _ _⟩,fun t=>?_⟩
       simp [inL]
       cases hasP p t<;>simp
     · refine ⟨by simp [hk,xsw],fun t=>?_⟩
       simp only [hk,if_false,xnp]
       have:=List.countP_le_length (p:=(hasP · t)) (l:=[p])
       simp at this ⊢;omega
   · simp
 · obtain ⟨S,e1,e2,e3⟩:=xGD ps hl
   obtain ⟨P,e4,e5⟩:=xMb (N:=fun t=>ps.countP (hasP · t)) (H:=ps.length) (by omega) (fun t=>List.countP_le_length) (xIq ps) e2 (by omega)
   refine ⟨P,?_,e5⟩
   have i1:((ps.length:Int)==1)=false:=by simp;omega
   simp only [List.length_map,i1,xal,e1,e4,Option.isSome_some,Option.getD_some,xak]
def mk (r:Row) (P:List Per):List Fc:=P.map fun p=>⟨r,p⟩
theorem xCB (L:Row→List Per):∀ S:List Grp,(S.flatMap fun g=>mk g.1 (L g.1))=facts (S.map (·.1)) L
 | []=>rfl
 | g::S=>by rw [List.flatMap_cons,xCB L S];rfl
theorem xFC (t11:List AV) (t12 t13:Int) (row:Row) (hr:row.length≤1048576) (g1:List AV) (P:List Per) (D:List Fc) (hb:D.length+P.length≤2199023255552) (hP:P.length≤1099511627776) :
  Iter (xbv t11 t12 t13 (P.map encP) ((P.length:Nat):Int)) (D.length,(0:Int),D.map encF,row.map encV,g1)=some ((D++mk row P).length,(D++mk row P).map encF):=by
 have key:=xoQ (step:=xbv t11 t12 t13 (P.map encP) ((P.length:Nat):Int)) (fun k=>(((D++mk row (P.take k)).length,((k:Nat):Int),(D++mk row (P.take k)).map encF,row.map encV,g1):Nat×Int×List AV×List AV×List AV)) P.length
  ((D++mk row P).length,(D++mk row P).map encF) (fun k hk=>by
  have i1:(k:Int)<(P.length:Int):=by omega
  have gf:(P.map encP).getD k .top=encP P[k]:=xaJ _ _ _ hk
  have dl:(D++mk row (P.take k)).length=D.length+k:=by unfold mk;rw [List.length_append,List.length_map,List.length_take];omega
  have m1:(D.length+k+1)*40≤140737488355328:=by omega
  have m2:D.length+k+1≤4611686018427387904:=by omega
  have m3:row.length*32≤140737488355328:=by omega
  have m4:row.length≤4611686018427387904:=by omega
  have tk:List.take row.length (row.map encV)=row.map encV:=List.take_of_length_le (by simp)
  have tk2:mk row (P.take (k+1))=mk row (P.take k)++[⟨row,P[k]⟩]:=by unfold mk;rw [List.take_add_one,List.getElem?_eq_getElem hk,List.map_append];rfl
  rw [tk2,←List.append_assoc]
  simp only [xbv,xfN,List.length_map,xak,xal,decide_true,decide_false,Bool.and_true,Bool.true_and,Bool.not_true,Bool.not_false,Int.toNat_natCast,Int.natCast_nonneg,Option.isSome_some,Option.getD_some,beq_self_eq_true,Nat.zero_add,Nat.sub_zero,hk,i1,gf,cP0,cP1,lP,sP,sP0,sP1,dl,m1,m2,m3,m4,Nat.le_refl,tk,List.drop_zero,wrapS (n:=k) (by omega)]
  rw [List.length_append,dl]
  simp [encF]) (by
  simp only [xbv,xfN,Int.lt_irrefl,decide_false,xal,List.take_length]) P.length 0 (by omega)
 have e0:D++mk row (P.take 0)=D:=by simp [mk]
 rw [e0] at key
 exact key
theorem xL9 (t11:List AV) (t12 t13:Int) (row:Row) (hr:row.length≤1048576) (g1:List AV) (P:List Per) (D:List Fc) (hb:D.length+P.length≤2199023255552) (hP:P.length≤1099511627776) :
  Iter (xmq t11 t12 t13 (P.map encP) ((P.length:Nat):Int)) (D.length,(0:Int),D.map encF,row.map encV,g1)=some ((D++mk row P).length,(D++mk row P).map encF) :=
 xFC t11 t12 t13 row hr g1 P D hb hP
def Bld (l:List Fc):Prop:=Keyed l∧l.length≤1024
theorem cGs (g:Grp):((encG g).cells.getD 1 .top).toList=g.2.map encP:=rfl
theorem lG (g:Grp):((encG g).cells.length==2)=true:=rfl
theorem sG (g:Grp):hasShs [Sh.list 3,Sh.list 2] (encG g).cells 0=true:=rfl
theorem xMK {f:List AV→Option (List AV)} {step:List AV→Int→Nat×Int×List AV→Option ((Nat×Int×List AV)⊕(Nat×List AV))} (hst:step=xb5∧f=xdJ∨step=xi0∧f=xAw) (S:List Grp) (hS:S.length≤1024) (hr:∀ g,g∈S→g.1.length≤1048576) (L:Row→List Per) (hL:∀ g,g∈S→f (g.2.map encP)=some ((L g.1).map encP)∧(L g.1).length≤1048576) :
  Iter (step (S.map encG) ((S.length:Nat):Int)) ((0:Nat),(0:Int),[])=some ((facts (S.map (·.1)) L).length,(facts (S.map (·.1)) L).map encF):=by
 rw [←xCB]
 refine xoO S (fun g=>mk g.1 (L g.1)) encF 1048576 (fun g hg=>by unfold mk;rw [List.length_map];exact (hL g hg).2) (fun n h D hD=>?_) (fun D=>?_)
 · have i1:(n:Int)<(S.length:Int):=by omega
   have gf:(S.map encG).getD n .top=encG S[n]:=xaJ _ _ _ h
   obtain ⟨e1,e2⟩:=hL _ (List.getElem_mem h)
   have hrow:=hr _ (List.getElem_mem h)
   rcases hst with ⟨rfl,rfl⟩|⟨rfl,rfl⟩
   · have el:=xFC (S.map encG) (S.length:Int) (n:Int) S[n].1 hrow (S[n].2.map encP) (L S[n].1) D (by omega) (by omega)
     simp only [xb5,xfT,xku,xkp,List.length_map,xak,xal,decide_true,decide_false,Bool.and_true,Bool.true_and,Bool.not_true,Bool.not_false,Int.toNat_natCast,Int.natCast_nonneg,Option.isSome_some,Option.getD_some,beq_self_eq_true,Nat.zero_add,Nat.sub_zero,h,i1,gf,cG0,cGs,lG,sG,e1,el,wrapS (n:=n) (by omega)]
   · have el:=xL9 (S.map encG) (S.length:Int) (n:Int) S[n].1 hrow (S[n].2.map encP) (L S[n].1) D (by omega) (by omega)
     simp only [xi0,xk0,xkn,xko,List.length_map,xak,xal,decide_true,decide_false,Bool.and_true,Bool.true_and,Bool.not_true,Bool.not_false,Int.toNat_natCast,Int.natCast_nonneg,Option.isSome_some,Option.getD_some,beq_self_eq_true,Nat.zero_add,Nat.sub_zero,h,i1,gf,cG0,cGs,lG,sG,e1,el,wrapS (n:=n) (by omega)]
 · rcases hst with ⟨rfl,rfl⟩|⟨rfl,rfl⟩
   · simp only [xb5,xfT,Int.lt_irrefl,decide_false,xal]
   · simp only [xi0,xk0,Int.lt_irrefl,decide_false,xal]
theorem xFH {R:List Row} {Q:Row→List Per→Prop} (h:∀ r,r∈R→∃ P,Q r P):∃ L:Row→List Per,∀ r,r∈R→Q r (L r):=by
 refine ⟨fun r=>if hr:r∈R then Classical.choose (h r hr) else [],fun r hr=>?_⟩
 show Q r (if hr:r∈R then Classical.choose (h r hr) else [])
 rw [dif_pos hr]
 exact Classical.choose_spec (h r hr)
theorem xMD (l:List Fc) (r:Row):(fun t=>(psOf l r).countP (hasP · t))=cnt l r:=funext fun t=>xC6 l r t
theorem xLs (l:List Fc) (h:Bld l):∃ B,xa6 (l.map encF)=some (B.map encF)∧IsBag l B:=by
 obtain ⟨S,e1,hR,hps,hSl⟩:=xPA l h.1
 have hl:=h.2
 obtain ⟨L,hL⟩:=xFH (R:=S.map (·.1)) (Q:=fun r P=>xdJ ((psOf l r).map encP)=some (P.map encP)∧IsLevs (cnt l r) P∧P.length≤1048576) fun r hr=>by
  have hlen:=xHd l r
  obtain ⟨P,a1,a2⟩:=xPt (psOf l r) xND (by omega)
  have a3:=a2.len
  rw [xMD] at a2
  refine ⟨P,a1,a2,Nat.le_trans a3 (Nat.mul_le_mul (Nat.le_trans hlen hl) (Nat.le_trans hlen hl))⟩
 have hk:∀ g,g∈S→g.1∈S.map (·.1):=fun g hg=>List.mem_map.2 ⟨g,hg,rfl⟩
 have eb:=xMK (.inl ⟨rfl,rfl⟩) S (by omega) (fun g hg=>by
  obtain ⟨f,hf,e,_⟩:=(hR.2 g.1).1 (hk g hg)
  rw [←e];exact h.1.1.2 f hf) L (fun g hg=>by
  rw [hps g hg];exact ⟨(hL _ (hk g hg)).1,(hL _ (hk g hg)).2.2⟩)
 refine ⟨facts (S.map (·.1)) L,?_,S.map (·.1),L,hR,fun r hr=>(hL r hr).2.1,rfl⟩
 have tt:∀ F:List Fc,List.take F.length (F.map encF)=F.map encF:=fun F=>List.take_of_length_le (by simp)
 unfold xa6 xnm xfD xjG xl2 xlZ xl0 xlW
 simp only [e1,Option.isSome_some,Option.getD_some,xak,List.length_map,eb,Nat.zero_add,Nat.le_refl,decide_true,Bool.and_true,List.drop_zero,tt]
end Go.Sim.M
end
noncomputable section
set_option maxRecDepth 100000
namespace Go.Sim.M
open Go.RowKit Go.Sim.Srt
def Tx (l:List Fc):Prop:=∀ f,f∈l→∀ v,v∈f.r→v.wf∧v.t.length≤1073741824
theorem xMh {r:Row} (h:∀ v,v∈r→v.wf∧v.t.length≤1073741824) (hl:r.length≤60):(keyOf r).length≤17592186044416:=by
 have:=xmK (g:=keyV) (c:=1073741890) r fun v hv=>by
  obtain ⟨h1,h2⟩:=h v hv
  have:=xIj h1 (by omega);omega
 unfold keyOf
 have h2:1073741890*r.length≤1073741890*60:=Nat.mul_le_mul_left _ hl
 omega
theorem xLE {l:List Fc} (hl:l.length≤1024) (hr:∀ f,f∈l→f.r.length≤60) (ht:Tx l):Bld l :=
 ⟨⟨⟨by omega,fun f hf=>by have:=hr f hf;omega⟩,fun f hf=>⟨fun v hv=>⟨(ht f hf v hv).1,by have:=(ht f hf v hv).2;omega⟩,xMh (ht f hf) (hr f hf)⟩⟩,hl⟩
theorem xJH {l:List Fc} (h:few l=true) (ht:Tx l):Bld l:=by
 obtain ⟨h1,h2⟩:=xB8 h
 exact xLE (by omega) h2 ht
theorem IsBag.all {l B:List Fc} (h:IsBag l B) {Q:Row→Prop} (hq:∀ f,f∈l→Q f.r):∀ f,f∈B→Q f.r:=fun f hf=>by
 obtain ⟨_,g,hg,e⟩:=h.valid hf
 rw [←e];exact hq g hg
theorem IsSet.all {l B:List Fc} (h:IsSet l B) {Q:Row→Prop} (hq:∀ f,f∈l→Q f.r):∀ f,f∈B→Q f.r:=fun f hf=>by
 obtain ⟨R,L,h1,h2,rfl⟩:=h
 obtain ⟨a,b⟩:=xFG hf
 obtain ⟨g,g1,g2,_⟩:=(h1.2 _).1 a
 rw [←g2];exact hq g g1
theorem IsSet.len {l B:List Fc} (h:IsSet l B):B.length≤l.length*l.length:=by
 obtain ⟨R,L,h1,h2,rfl⟩:=h
 refine xzw (h1.1.nodup xtq) fun r hr=>?_
 obtain ⟨a,b⟩:=h2 r hr
 have:=xJE (ps:=psOf l r) (k:=0) a fun t=>by rw [b,xC6]
 exact Nat.le_trans this (Nat.le_mul_self _)
theorem xOW {l B:List Fc} (hl:l.length≤24) (h:B.length≤l.length*l.length):B.length≤576:=Nat.le_trans h (Nat.mul_le_mul hl hl)
theorem xOR {l B B':List Fc} (h:IsBag l B) (h':IsBag B B'):B=B':=h.unique h' fun r t=>(h.cntB r t).symm
def split (t:Int) (f:Fc):List Fc:=if hasP f.p t=true then (if f.p.1<t then [⟨f.r,(t,f.p.2)⟩,⟨f.r,(f.p.1,t)⟩] else [f]) else [f]
end Go.Sim.M
end
noncomputable section
namespace Go.Sim
theorem xE4:∀ {xs:List AV} {x:AV},x∈xs→AV.wt x≤AV.wts xs
 | y::xs,x,h=>by
  simp only [AV.wts]
  rcases List.mem_cons.1 h with rfl|h
  · omega
  · have:=xE4 h;omega
theorem M.tx_wt {l:List M.Fc} (h:(AV.list 3 (l.map M.encF)).wt≤1048576) (hw:∀ y,y∈l→y.wf):M.Tx l:=fun f hf v hv=>by
 refine ⟨(hw f hf).1.2 v hv,?_⟩
 have h1:AV.wt (M.encF f)≤AV.wts (l.map M.encF):=xE4 (List.mem_map.2 ⟨f,hf,rfl⟩)
 have h2:AV.wt (M.encV v)≤AV.wts (f.r.map M.encV):=xE4 (List.mem_map.2 ⟨v,hv,rfl⟩)
 have e1:AV.wt (M.encF f)=AV.wts (f.r.map M.encV)+1+(1+(1+0)):=rfl
 have e2:AV.wt (M.encV v)=1+(1+(v.t.length+1+0)):=rfl
 have e3:(AV.list 3 (l.map M.encF)).wt=AV.wts (l.map M.encF)+1:=rfl
 omega
end Go.Sim
end
noncomputable section
set_option maxRecDepth 100000
namespace Go.Sim.M
open Go.RowKit Go.Sim.Srt
def pos (S:List Per) (i:Nat):Int:=match S[i]? with
 | some s=>s.1
 | none=>1099511627776
theorem xvL {S:List Per} {i:Nat} (h:i<S.length):pos S i=S[i].1:=by unfold pos;rw [List.getElem?_eq_getElem h]
theorem xG7 {S:List Per} {i:Nat} (h:S.length≤i):pos S i=1099511627776:=by unfold pos;rw [List.getElem?_eq_none h]
theorem xNo {N:Int→Nat} {S:List Per} (hS:StepI (fun t=>(N t:Int)) 1099511627776 S) {i:Nat} (hi:i<S.length):0≤pos S i∧pos S i<pos S (i+1)∧pos S (i+1)≤1099511627776∧S[i].2=(N S[i].1:Int)∧∀ t,pos S i≤t→t<pos S (i+1)→N t=N S[i].1:=by
 obtain ⟨m1,m2,m3,_⟩:=(hS.mem S[i]).1 (List.getElem_mem hi)
 rw [xvL hi]
 have hb:S[i].1<pos S (i+1)∧pos S (i+1)≤1099511627776:=by
  by_cases h:i+1<S.length
  · rw [xvL h]
    have:=List.pairwise_iff_getElem.1 hS.asc i (i+1) hi h (by omega)
    have:=((hS.mem S[i+1]).1 (List.getElem_mem h)).2.1
    omega
  · rw [xG7 (by omega)];omega
 refine ⟨m1,hb.1,hb.2,m3,fun t h1 h2=>xuf (a:=S[i].1) (b:=pos S (i+1)) (fun u u1 u2=>?_) (t - S[i].1).toNat t (by omega) h2⟩
 by_cases e:N (u - 1)=N u
 · exact e
 · have hu:(u,(N u:Int))∈S:=(hS.mem _).2 ⟨by dsimp only;omega,by dsimp only;omega,rfl,.inr (by dsimp only;omega)⟩
   obtain ⟨k,hk,hke⟩:=List.mem_iff_getElem.1 hu
   have hk1:S[k].1=u:=by rw [hke]
   rcases Nat.lt_or_ge i k with hik|hik
   · have:i+1<S.length:=by omega
     rw [xvL this] at u2
     rcases Nat.lt_or_ge (i+1) k with h3|h3
     · have:=List.pairwise_iff_getElem.1 hS.asc (i+1) k this hk h3;omega
     · obtain rfl:k=i+1:=by omega
       omega
   · rcases Nat.lt_or_ge k i with h3|h3
     · have:=List.pairwise_iff_getElem.1 hS.asc k i hk hi h3;omega
     · obtain rfl:k=i:=by omega
       omega
theorem xOh {N:Int→Nat} {S:List Per} (hS:StepI (fun t=>(N t:Int)) 1099511627776 S):pos S 0=0:=by
 have h0:((0:Int),(N 0:Int))∈S:=(hS.mem _).2 ⟨by simp,by simp,rfl,.inl rfl⟩
 obtain ⟨k,hk,hke⟩:=List.mem_iff_getElem.1 h0
 have h:0<S.length:=by omega
 have p0:=((hS.mem S[0]).1 (List.getElem_mem h)).1
 rw [xvL h]
 have hk1:S[k].1=0:=by rw [hke]
 rcases Nat.lt_or_ge 0 k with h3|h3
 · have:=List.pairwise_iff_getElem.1 hS.asc 0 k h hk h3;omega
 · obtain rfl:k=0:=by omega
   exact hk1
def joined (out:List Per) (f t:Int):List Per:=match out.getLast? with
 | some p=>if p.2=f then out.dropLast++[(p.1,t)] else out++[(f,t)]
 | none=>out++[(f,t)]
theorem room16 {n:Nat} (h:n≤1099511627776):(n+1)*16≤140737488355328∧n+1≤4611686018427387904∧n*16≤140737488355328∧n≤4611686018427387904:=by omega
theorem xPj (out:List Per) (f t:Int) (hft:f<t) (hlow:∀ p,p∈out→p.2≤f) (hl:out.length≤1048576):∃ q,xdh out.length f t (out.map encP)=some q∧br q.1 q.2.1.1 q.2.2.1=(joined out f t).length∧br q.1 q.2.1.2.2 q.2.2.2=(joined out f t).map encP:=by
 rcases xsB out with rfl|⟨o,p,rfl⟩
 · refine ⟨_,rfl,rfl,rfl⟩
 · have hp:=hlow p (by simp)
   have L:(o++[p]).length=o.length+1:=by simp
   rw [L] at hl
   have w1:IntKind.i64.wrap (((o.length+1:Nat):Int) - 1)=(o.length:Int):=wrapQ (by omega)
   have i1:((o.length+1:Nat):Int)>0:=by omega
   have i2:(o.length:Int)<((o.length+1:Nat):Int):=by omega
   have i3:(o.length:Int)≤((o.length+1:Nat):Int):=by omega
   have i4:o.length<o.length+1:=by omega
   have i5:o.length≤o.length+1:=by omega
   have gl:((o++[p]).map encP).getD o.length .top=encP p:=by
    rw [List.map_append];have:=xIl (o.map encP) (encP p) .top;rwa [List.length_map] at this
   have tl:List.take o.length ((o++[p]).map encP)=o.map encP:=by
    rw [List.map_append];exact List.take_left' (by simp)
   obtain ⟨m1,m2,m3,m4⟩:=room16 (n:=o.length) (by omega)
   obtain ⟨m5,m6,_,_⟩:=room16 (n:=o.length+1) (by omega)
   have jn:joined (o++[p]) f t=if p.2=f then o++[(p.1,t)] else o++[p]++[(f,t)]:=by
    unfold joined;simp
   by_cases he:p.2=f
   · have c1:p.2≥f:=by omega
     have c2:t>p.2:=by omega
     rw [jn,if_pos he,L]
     refine ⟨(true,(o.length+1,(o++[p]).map encP,o.map encP++[encP (p.1,t)]),(0,[])),?_,by simp [xak],by simp [xak]⟩
     unfold xdh xmW xlz xfB xoh xos xlD xok
     simp only [List.length_map,xak,xal,decide_true,decide_false,Bool.and_true,Bool.true_and,Bool.not_true,Bool.not_false,Int.toNat_natCast,Int.natCast_nonneg,Option.isSome_some,Option.getD_some,beq_self_eq_true,Nat.zero_add,Nat.sub_zero,L,w1,i1,i2,i3,i4,i5,gl,cP0,cP1,lP,sP,sP0,sP1,c1,c2,tl,List.drop_zero,m1,m2,m3,m4,if_true,aggP]
   · have c1:¬ p.2≥f:=by omega
     rw [jn,if_neg he,L]
     refine ⟨(false,(0,[],[]),(o.length+1+1,(o++[p]).map encP++[encP (f,t)])),?_,by simp [xal],by simp [xal]⟩
     unfold xdh xmW xlz xfB xoh xos xlD xok
     simp only [List.length_map,xak,xal,decide_true,decide_false,Bool.and_true,Bool.true_and,Bool.not_true,Bool.not_false,Int.toNat_natCast,Int.natCast_nonneg,Option.isSome_some,Option.getD_some,beq_self_eq_true,Nat.zero_add,Nat.sub_zero,L,w1,i1,i2,i3,i4,gl,cP0,cP1,lP,sP,sP0,sP1,c1,m5,m6,aggP]
theorem xMm {out:List Per} {f t:Int} {K:Int→Bool} (h:OutOk out f K) (h0:0≤f) (hlt:f<t) (hF:t≤1099511627776) (hK:∀ u,f≤u→u<t→K u=true):OutOk (joined out f t) t K∧(joined out f t).length≤out.length+1:=by
 rcases xsB out with rfl|⟨o,p,rfl⟩
 · exact ⟨h.add h0 hlt hF hK (fun p hp=>by simp at hp),by simp [joined]⟩
 · have jn:joined (o++[p]) f t=if p.2=f then o++[(p.1,t)] else o++[p]++[(f,t)]:=by unfold joined;simp
   rw [jn]
   by_cases he:p.2=f
   · rw [if_pos he]
     exact ⟨h.ext he hlt hF hK,by simp⟩
   · rw [if_neg he]
     refine ⟨h.add h0 hlt hF hK (fun q hq e=>?_),by simp⟩
     rcases List.mem_append.1 hq with hq|hq
     · have:=(List.pairwise_append.1 h.span.2).2.2 q hq p (by simp)
       have hv:=xfM.1 (h.span.1 p (by simp))
       have:=h.low p (by simp)
       omega
     · rw [List.mem_singleton] at hq;subst hq;exact he e
theorem xHO {N:Int→Nat} {S:List Per} (hS:StepI (fun t=>(N t:Int)) 1099511627776 S) (hl:S.length≤524289) (n:Int):∀ (d i:Nat) (out:List Per),i+d=S.length→OutOk out (pos S i) (fun t=>decide (n≤(N t:Int)))→out.length≤i →
  ∃ out':List Per,Iter (xa2 (S.map encP) n) (out.length,(i:Int),out.map encP)=some (out'.length,out'.map encP)∧OutOk out' 1099511627776 (fun t=>decide (n≤(N t:Int)))∧out'.length≤S.length
 | 0,i,out,h,ho,hn=>by
  obtain rfl:i=S.length:=by omega
  rw [xG7 (Nat.le_refl _)] at ho
  refine ⟨out,xaI ?_,ho,hn⟩
  simp only [xa2,xdr,List.length_map,Int.lt_irrefl,decide_false,xal]
 | d+1,i,out,h,ho,hn=>by
  have hi:i<S.length:=by omega
  obtain ⟨p1,p2,p3,p4,p5⟩:=xNo hS hi
  have i1:(i:Int)<(S.length:Int):=by omega
  have gf:(S.map encP).getD i .top=encP S[i]:=xaJ _ _ _ hi
  have wi:=wrapS (n:=i) (by omega)
  have pe:=xvL hi
  by_cases hge:S[i].2≥n
  · have hK:∀ t,pos S i≤t→t<pos S (i+1)→(fun t=>decide (n≤(N t:Int))) t=true:=fun t t1 t2=>by
     dsimp only;rw [p5 t t1 t2,←p4];exact decide_eq_true hge
    obtain ⟨j1,j2⟩:=xMm ho p1 p2 p3 hK
    obtain ⟨q,q1,q2,q3⟩:=xPj out (pos S i) (pos S (i+1)) p2 ho.low (by omega)
    obtain ⟨out',e',x1,x2⟩:=xHO hS hl n d (i+1) (joined out (pos S i) (pos S (i+1))) (by omega) j1 (by omega)
    refine ⟨out',(xbf (s':=((joined out (pos S i) (pos S (i+1))).length,((i+1:Nat):Int),(joined out (pos S i) (pos S (i+1))).map encP)) ?_).trans e',x1,x2⟩
    rw [←q2,←q3]
    by_cases hn1:i+1<S.length
    · have i2:((i+1:Nat):Int)<(S.length:Int):=by omega
      have gn:(S.map encP).getD (i+1) .top=encP S[i+1]:=xaJ _ _ _ hn1
      rw [xvL hn1,pe] at q1
      simp only [xa2,xdr,xe3,xe4,xe2,xfe,xex,xfg,xfj,xe9,xe0,xfo,xc2,xeH,xeB,xey,List.length_map,xak,xal,decide_true,decide_false,Bool.and_true,Bool.true_and,Bool.not_true,Bool.not_false,Int.toNat_natCast,Int.natCast_nonneg,Option.isSome_some,Option.getD_some,beq_self_eq_true,Nat.zero_add,Nat.sub_zero,i1,i2,hi,hn1,gf,gn,cP0,cP1,lP,sP,sP0,sP1,hge,wi,q1]
    · have i2:¬ ((i+1:Nat):Int)<(S.length:Int):=by omega
      rw [xG7 (S:=S) (i:=i+1) (by omega),pe] at q1
      simp only [xa2,xdr,xe3,xe4,xe2,xfe,xex,xfg,xfj,xe9,xe0,xfo,xc2,xeH,xeB,xey,List.length_map,xak,xal,decide_true,decide_false,Bool.and_true,Bool.true_and,Bool.not_true,Bool.not_false,Int.toNat_natCast,Int.natCast_nonneg,Option.isSome_some,Option.getD_some,beq_self_eq_true,Nat.zero_add,Nat.sub_zero,i1,i2,hi,gf,cP0,cP1,lP,sP,sP0,sP1,hge,wi,q1]
  · have hK:∀ t,pos S i≤t→t<pos S (i+1)→(fun t=>decide (n≤(N t:Int))) t=false:=fun t t1 t2=>by
     dsimp only;rw [p5 t t1 t2,←p4];exact decide_eq_false (by omega)
    obtain ⟨out',e',x1,x2⟩:=xHO hS hl n d (i+1) out (by omega) (ho.skip (by omega) hK) (by omega)
    refine ⟨out',(xbf (s':=(out.length,((i+1:Nat):Int),out.map encP)) ?_).trans e',x1,x2⟩
    by_cases hn1:i+1<S.length
    · have i2:((i+1:Nat):Int)<(S.length:Int):=by omega
      have gn:(S.map encP).getD (i+1) .top=encP S[i+1]:=xaJ _ _ _ hn1
      simp only [xa2,xdr,xe3,xe4,xe2,xfe,xex,xfg,xfj,xe9,xe0,xfo,xc2,xeH,xeB,xey,List.length_map,xak,xal,decide_true,decide_false,Bool.and_true,Bool.true_and,Bool.not_true,Bool.not_false,Int.toNat_natCast,Int.natCast_nonneg,Option.isSome_some,Option.getD_some,beq_self_eq_true,Nat.zero_add,Nat.sub_zero,i1,i2,hi,hn1,gf,gn,cP0,cP1,lP,sP,sP0,sP1,hge,wi]
    · have i2:¬ ((i+1:Nat):Int)<(S.length:Int):=by omega
      simp only [xa2,xdr,xe3,xe4,xe2,xfe,xex,xfg,xfj,xe9,xe0,xfo,xc2,xeH,xeB,xey,List.length_map,xak,xal,decide_true,decide_false,Bool.and_true,Bool.true_and,Bool.not_true,Bool.not_false,Int.toNat_natCast,Int.natCast_nonneg,Option.isSome_some,Option.getD_some,beq_self_eq_true,Nat.zero_add,Nat.sub_zero,i1,i2,hi,gf,cP0,cP1,lP,sP,sP0,sP1,hge,wi]
theorem xPS {N:Int→Nat} (h0:∀ t,t<0∨1099511627776≤t→N t=0) {S:List Per} (hS:StepI (fun t=>(N t:Int)) 1099511627776 S) (hl:S.length≤524289) (k:Nat):∃ A:List Per,xdi (S.map encP) ((k+1:Nat):Int)=some (A.map encP)∧(IsSpan A∧∀ t,inL A t=decide (k<N t))∧A.length≤S.length:=by
 obtain ⟨A,e,a1,a2⟩:=xHO hS hl ((k+1:Nat):Int) S.length 0 [] (by omega) (by rw [xOh hS];exact xLO _) (Nat.le_refl _)
 refine ⟨A,?_,⟨a1.span,fun t=>?_⟩,a2⟩
 · have e:Iter (xa2 (S.map encP) ((k+1:Nat):Int)) ((0:Nat),(0:Int),[])=_:=e
   have tt:List.take A.length (A.map encP)=A.map encP:=List.take_of_length_le (by simp)
   unfold xdi xl9
   simp only [xoG,xoV,xoC,e,Option.isSome_some,Option.getD_some,xak,Nat.zero_add,List.length_map,Nat.le_refl,decide_true,Bool.and_true,List.drop_zero,tt]
 · rw [a1.done]
   by_cases h1:0≤t
   · by_cases h2:t<1099511627776
     · simp only [h1,h2,decide_true,Bool.true_and]
       rw [Bool.eq_iff_iff,decide_eq_true_eq,decide_eq_true_eq];omega
     · have:=h0 t (.inr (by omega));simp [h2,this]
   · have:=h0 t (.inl (by omega));simp [h1,this]
theorem xM2 (p q:Per):decide (xjp p.1 p.2 q.1 q.2≤0)=decide (cmpP p q≤0):=by
 rw [Bool.eq_iff_iff,decide_eq_true_eq,decide_eq_true_eq,xvE]
 unfold xjp
 simp only [xch,Bool.and_true]
 by_cases h1:p.1=q.1
 · by_cases h2:p.2=q.2
   · simp [h1,h2]
   · by_cases h3:p.2<q.2
     · simp [h1,h2,h3];omega
     · simp [h1,h2,h3];omega
 · by_cases h3:p.1<q.1
   · simp [h1,h3]
   · simp [h1,h3]
theorem xIE (P:List Per) (hP:P.length≤1099511627775) (p:Per):∀ (d i:Nat),i+d=P.length→(∀ k (h:k<P.length),k<i→cmpP P[k] p≤0)→∃ m:Nat,m≤P.length∧(∀ k (h:k<P.length),k<m→cmpP P[k] p≤0)∧(∀ h:m<P.length,¬ cmpP P[m] p≤0) ∧
  Iter (xce (P.map encP)) (i,(i:Int),p.1,p.2,(P.take i).map encP)=some (m,(m:Int),p.1,p.2,(P.take m).map encP)
 | 0,i,h,hk=>by
  obtain rfl:i=P.length:=by omega
  refine ⟨P.length,Nat.le_refl _,hk,fun h=>by omega,xaI ?_⟩
  simp only [xce,xha,List.length_map,Int.lt_irrefl,decide_false,xal]
 | d+1,i,h,hk=>by
  have hi:i<P.length:=by omega
  have i1:(i:Int)<(P.length:Int):=by omega
  have gf:(P.map encP).getD i .top=encP P[i]:=xaJ _ _ _ hi
  have tl:(P.take i).length=i:=by rw [List.length_take];omega
  obtain ⟨m1,m2,_,_⟩:=room16 (n:=i) (by omega)
  have rc:=xM2 P[i] p
  by_cases hc:cmpP P[i] p≤0
  · rw [decide_eq_true hc] at rc
    obtain ⟨m,a1,a2,a3,a4⟩:=xIE P hP p d (i+1) (by omega) (fun k h h1=>by
     by_cases e:k=i
     · subst e;exact hc
     · exact hk k h (by omega))
    refine ⟨m,a1,a2,a3,(xbf ?_).trans a4⟩
    simp only [xce,xha,xkE,List.length_map,xak,xal,decide_true,decide_false,Bool.and_true,Bool.true_and,Bool.not_true,Bool.not_false,Int.toNat_natCast,Int.natCast_nonneg,Option.isSome_some,Option.getD_some,beq_self_eq_true,Nat.zero_add,Nat.sub_zero,i1,hi,gf,cP0,cP1,lP,sP,sP0,sP1,rc,tl,m1,m2,wrapS (n:=i) (by omega),aggP]
    rw [List.take_add_one,List.getElem?_eq_getElem hi,List.map_append]
    rfl
  · rw [decide_eq_false hc] at rc
    refine ⟨i,by omega,hk,fun _=>hc,xaI ?_⟩
    simp only [xce,xha,xkE,List.length_map,xak,xal,decide_true,decide_false,Bool.and_true,Bool.true_and,Bool.not_true,Bool.not_false,Int.toNat_natCast,Int.natCast_nonneg,Option.isSome_some,Option.getD_some,beq_self_eq_true,Nat.zero_add,Nat.sub_zero,i1,hi,gf,cP0,cP1,lP,sP,sP0,sP1,rc]
theorem xNJ (P:List Per) (hP:P.length≤1099511627775) (p:Per) (hs:Sorted cmpP P):∃ P':List Per,xiD (P.map encP) p.1 p.2=some (P'.map encP)∧P'.Perm (p::P)∧Sorted cmpP P':=by
 obtain ⟨m,a1,a2,a3,a4⟩:=xIE P hP p P.length 0 (by omega) (fun k h h1=>by omega)
 refine ⟨P.take m++p::P.drop m,?_,?_,?_⟩
 · have a4:Iter (xce (P.map encP)) ((0:Nat),(0:Int),p.1,p.2,[])=_:=a4
   have tl:(P.take m).length=m:=by rw [List.length_take];omega
   obtain ⟨m1,m2,_,_⟩:=room16 (n:=m) (by omega)
   have i1:(m:Int)≤(P.length:Int):=by omega
   have t1:List.take (P.length - m) (List.drop m (P.map encP))=(P.drop m).map encP:=by rw [List.take_of_length_le (by simp),List.map_drop]
   have dl:(P.drop m).length=P.length - m:=List.length_drop
   have m3:(m+1+(P.length - m))*16≤140737488355328:=by omega
   have m4:m+1+(P.length - m)≤4611686018427387904:=by omega
   have fin:(P.take m).map encP++[encP p]++(P.drop m).map encP=(P.take m++p::P.drop m).map encP:=by simp
   have fl:((P.take m++p::P.drop m).map encP).length=m+1+(P.length - m):=by simp;omega
   have tt:List.take (m+1+(P.length - m)) ((P.take m++p::P.drop m).map encP)=(P.take m++p::P.drop m).map encP:=List.take_of_length_le (by rw [fl];exact Nat.le_refl _)
   have ag:AV.agg [.int .i64 p.1,.int .i64 p.2]=encP p:=rfl
   unfold xiD xoj
   simp only [xk3,xqx,xq8,xla,xq9,xkZ,xq1,xqY,xqV,xrb,xqe,xpQ,xpM,a4,List.length_map,xak,xal,decide_true,decide_false,Bool.and_true,Bool.true_and,Bool.not_true,Bool.not_false,Int.toNat_natCast,Int.natCast_nonneg,Option.isSome_some,Option.getD_some,beq_self_eq_true,Nat.zero_add,Nat.sub_zero,ag,tl,t1,dl,m1,m2,m3,m4,i1,List.length_append,List.length_singleton,fin,Nat.le_refl,List.drop_zero]
   have l9:m+(p::P.drop m).length=m+1+(P.length - m):=by rw [List.length_cons,dl];omega
   simp only [List.length_map,l9,Nat.le_refl,decide_true,xak,tt]
 · exact List.perm_middle.trans (by rw [List.take_append_drop])
 · refine List.pairwise_append.2 ⟨hs.sublist (List.take_sublist _ _),List.pairwise_cons.2 ⟨fun q hq=>?_,hs.sublist (List.drop_sublist _ _)⟩,fun x hx y hy=>?_⟩
   · obtain ⟨j,hj,rfl⟩:=List.mem_iff_getElem.1 hq
     rw [List.length_drop] at hj
     rw [List.getElem_drop]
     have h1:=a3 (by omega)
     have h2:cmpP p P[m]≤0:=by rw [xtV P[m] p];omega
     rcases Nat.eq_zero_or_pos j with rfl|hj0
     · exact h2
     · exact xNA.trans _ _ _ h2 (List.pairwise_iff_getElem.1 hs m (m+j) (by omega) (by omega) (by omega))
   · obtain ⟨i,hi,rfl⟩:=List.mem_take_iff_getElem.1 hx
     rcases List.mem_cons.1 hy with rfl|hy
     · exact a2 i (by omega) (by omega)
     · obtain ⟨j,hj,rfl⟩:=List.mem_iff_getElem.1 hy
       rw [List.length_drop] at hj
       rw [List.getElem_drop]
       exact List.pairwise_iff_getElem.1 hs i (m+j) (by omega) (by omega) (by omega)
theorem xJv (l:List AV) (n:Int) (s:List Per) (hs:s.length≤1048576):∀ (d i:Nat) (out:List Per),i+d=s.length→Sorted cmpP out→out.length+d≤1099511627775→∃ out':List Per,Iter (xbP l n (s.map encP)) (out.map encP,(i:Int))=some (out'.map encP)∧out'.Perm (out++s.drop i)∧Sorted cmpP out'
 | 0,i,out,h,ho,hl=>by
  obtain rfl:i=s.length:=by omega
  refine ⟨out,xaI ?_,by rw [List.drop_eq_nil_of_le (Nat.le_refl _),List.append_nil],ho⟩
  simp only [xbP,xie,List.length_map,Int.lt_irrefl,decide_false,xal]
 | d+1,i,out,h,ho,hl=>by
  have hi:i<s.length:=by omega
  have i1:(i:Int)<(s.length:Int):=by omega
  have gf:(s.map encP).getD i .top=encP s[i]:=xaJ _ _ _ hi
  obtain ⟨P',e1,p1,s1⟩:=xNJ out (by omega) s[i] ho
  have pl:=p1.length_eq
  rw [List.length_cons] at pl
  obtain ⟨out',e2,p2,s2⟩:=xJv l n s hs d (i+1) P' (by omega) s1 (by omega)
  refine ⟨out',(xbf (s':=(P'.map encP,((i+1:Nat):Int))) ?_).trans e2,?_,s2⟩
  · simp only [xbP,xie,List.length_map,xak,xal,decide_true,decide_false,Bool.and_true,Bool.true_and,Bool.not_true,Bool.not_false,Int.toNat_natCast,Int.natCast_nonneg,Option.isSome_some,Option.getD_some,beq_self_eq_true,Nat.zero_add,Nat.sub_zero,i1,hi,gf,cP0,cP1,lP,sP,sP0,sP1,e1,wrapS (n:=i) (by omega)]
  · refine p2.trans ((p1.append_right _).trans ?_)
    rw [xbE hi]
    exact List.perm_middle.symm
theorem xJG {S:List Per} (A:Nat→List Per) (C:Nat) (hC:C≤524289) (hA:∀ k,xdi (S.map encP) ((k+1:Nat):Int)=some ((A k).map encP)∧(A k).length≤C) (H:Nat) (hH:H≤1048575) (hE:A H=[]):∀ (d k:Nat) (out:List Per),k+d=H→Sorted cmpP out→out.Perm ((List.range k).flatMap A) →
  ∃ (K:Nat) (out':List Per),Iter (xbR (S.map encP)) (out.map encP,((k+1:Nat):Int))=some (true,(out'.map encP,out'.map encP),[])∧A K=[]∧K≤H∧out'.Perm ((List.range K).flatMap A)∧Sorted cmpP out'
 | d,k,out,h,ho,hp=>by
  obtain ⟨e1,l1⟩:=hA k
  have n1:((k+1:Nat):Int)≤1048576:=by omega
  by_cases hk:A k=[]
  · refine ⟨k,out,xaI ?_,hk,by omega,hp,ho⟩
    rw [hk] at e1
    simp only [xbR,xh9,n1,e1,decide_true,xak,Option.isSome_some,Option.getD_some,List.map_nil]
    rfl
  · match d,h with
    | 0,h =>
     obtain rfl:k=H:=by omega
     exact absurd hE hk
    | d+1,h =>
     have ol:out.length≤C*k:=by
      rw [hp.length_eq]
      have:=xmK (g:=A) (List.range k) fun j _=>(hA j).2
      rwa [List.length_range] at this
     have ol2:C*k≤524289*1048575:=Nat.mul_le_mul hC (by omega)
     obtain ⟨out',e2,p2,s2⟩:=xJv (S.map encP) ((k+1:Nat):Int) (A k) (by omega) (A k).length 0 out (by omega) ho (by omega)
     obtain ⟨K,o2,e3,k1,k2,p3,s3⟩:=xJG A C hC hA H hH hE d (k+1) out' (by omega) s2 (by
      rw [List.range_succ,List.flatMap_append]
      rw [List.drop_zero] at p2
      refine p2.trans ((hp.append_right _).trans ?_)
      simp)
     refine ⟨K,o2,(xbf ?_).trans e3,k1,k2,p3,s3⟩
     have ne:(((A k).length:Int)==0)=false:=by
      have:(A k).length≠0:=fun e=>hk (List.length_eq_zero_iff.1 e)
      simp;exact hk
     have e2:Iter (xbP (S.map encP) ((k+1:Nat):Int) ((A k).map encP)) (out.map encP,(0:Int))=_:=e2
     simp only [xbR,xh9,n1,e1,decide_true,xak,xal,Option.isSome_some,Option.getD_some,List.length_map,ne,e2,wrapS (n:=k+1) (by omega)]
theorem xK3 {N:Int→Nat} {H:Nat} (hH:H≤1048575) (hN:∀ t,N t≤H) (h0:∀ t,t<0∨1099511627776≤t→N t=0) {S:List Per} (hS:StepI (fun t=>(N t:Int)) 1099511627776 S) (hl:S.length≤524289):∃ P,xdk (S.map encP)=some (P.map encP)∧IsLevs N P:=by
 have ha:=xPS h0 hS hl
 have hA:=fun k=>Classical.choose_spec (ha k)
 obtain ⟨A,hAe⟩:∃ A:Nat→List Per,A=fun k=>Classical.choose (ha k):=⟨_,rfl⟩
 have hA:∀ k,xdi (S.map encP) ((k+1:Nat):Int)=some ((A k).map encP)∧(IsSpan (A k)∧∀ t,inL (A k) t=decide (k<N t))∧(A k).length≤S.length:=fun k=>by rw [hAe];exact hA k
 have hE:A H=[]:=xws (hA H).2.1.1 fun t=>by rw [(hA H).2.1.2];have:=hN t;simp;omega
 obtain ⟨K,P,e,k1,k2,p1,s1⟩:=xJG A S.length hl (fun k=>⟨(hA k).1,(hA k).2.2⟩) H hH hE H 0 [] (by omega) List.Pairwise.nil (by simp)
 refine ⟨P,?_,s1,A,K,fun t=>?_,fun k=>(hA k).2.1,p1⟩
 · have e:Iter (xbR (S.map encP)) ([],(1:Int))=_:=e
   unfold xdk xnA
   simp only [xp7,xpS,e,Option.isSome_some,Option.getD_some,xak]
 · have:=(hA K).2.1.2 t
   rw [k1,xnp] at this
   have:=of_decide_eq_false this.symm
   omega
end Go.Sim.M
end
noncomputable section
set_option maxRecDepth 100000
namespace Go.Sim.M
open Go.RowKit Go.Sim.Srt
def dk (S:List Row):Nat→List Row
 | 0=>[]
 | k+1=>dk S k++(if k=0∨S[k - 1]?≠S[k]? then S[k]?.toList else [])
theorem xHj (S:List Row):∀ k,(dk S k).length≤k
 | 0=>Nat.le_refl _
 | k+1=>by
  have:=xHj S k
  unfold dk
  rw [List.length_append]
  have:(if k=0∨S[k - 1]?≠S[k]? then S[k]?.toList else []).length≤1:=by
   split
   · cases S[k]?<;>simp
   · simp
  omega
theorem xOz (S:List Row) (hs:Sorted cmpR S):∀ k,k≤S.length→Strict cmpR (dk S k)∧∀ x,x∈dk S k↔x∈S.take k
 | 0,_=>⟨List.Pairwise.nil,fun x=>by simp [dk]⟩
 | k+1,hk=>by
  obtain ⟨h1,h2⟩:=xOz S hs k (by omega)
  have hlt:k<S.length:=by omega
  have tk:S.take (k+1)=S.take k++[S[k]]:=by rw [List.take_add_one,List.getElem?_eq_getElem hlt];rfl
  unfold dk
  rw [List.getElem?_eq_getElem hlt,tk]
  by_cases hc:k=0∨S[k - 1]?≠some S[k]
  · rw [if_pos hc]
    refine ⟨List.pairwise_append.2 ⟨h1,List.pairwise_singleton _ _,fun x hx y hy=>?_⟩,fun x=>by rw [List.mem_append,List.mem_append,h2];rfl⟩
    simp at hy;subst hy
    obtain ⟨i,hi,rfl⟩:=List.mem_take_iff_getElem.1 ((h2 x).1 hx)
    have hk0:k≠0:=by omega
    have hk1:k - 1<S.length:=by omega
    have hne:S[k - 1]≠S[k]:=fun e=>by
     rcases hc with hc|hc
     · exact hk0 hc
     · exact hc (by rw [List.getElem?_eq_getElem hk1,e])
    have c1:cmpR S[k - 1] S[k]≤0:=List.pairwise_iff_getElem.1 hs _ _ hk1 hlt (by omega)
    have c2:cmpR S[k - 1] S[k]<0:=by
     rcases Int.lt_or_eq_of_le c1 with c|c
     · exact c
     · exact absurd (xo1 c) hne
    rcases Nat.lt_or_ge i (k - 1) with hik|hik
    · have c3:cmpR S[i] S[k - 1]≤0:=List.pairwise_iff_getElem.1 hs _ _ (by omega) hk1 hik
      exact xtq.lt2 c3 c2
    · have:i=k - 1:=by omega
      subst this;exact c2
  · rw [if_neg hc,List.append_nil]
    refine ⟨h1,fun x=>?_⟩
    rw [h2,List.mem_append,List.mem_singleton]
    refine ⟨Or.inl,fun hh=>hh.elim id fun hx=>?_⟩
    have hk0:k≠0:=fun e=>hc (.inl e)
    have he:S[k - 1]?=some S[k]:=by
     by_cases e:S[k - 1]?=some S[k]
     · exact e
     · exact absurd (.inr e) hc
    have hk1:k - 1<S.length:=by omega
    rw [List.getElem?_eq_getElem hk1,Option.some.injEq] at he
    rw [hx,←he]
    exact List.mem_take_iff_getElem.2 ⟨k - 1,by omega,rfl⟩
theorem room24 {n:Nat} (h:n≤1048576):(n+1)*24≤140737488355328∧n+1≤4611686018427387904:=by omega
theorem xIM (S:List Row) (hS:S.length≤1048576) (hr:∀ x,x∈S→x.length≤maxLen):Iter (xbr (S.map encR)) ((0:Nat),(0:Int),[])=some ((dk S S.length).length,(dk S S.length).map encR):=by
 refine xoQ (fun k=>(((dk S k).length,((k:Nat):Int),(dk S k).map encR):Nat×Int×List AV)) S.length _ (fun k hk=>?_) ?_ S.length 0 (by omega)
 · have i1:(k:Int)<(S.length:Int):=by omega
   have gf:(S.map encR).getD k .top=encR S[k]:=xaJ _ _ _ hk
   have dl:=xHj S k
   obtain ⟨m1,m2⟩:=room24 (n:=(dk S k).length) (by omega)
   cases k with
   | zero =>
    have:dk S (0+1)=[S[0]]:=by simp [dk,List.getElem?_eq_getElem hk]
    rw [this]
    have i0:(((0:Nat):Int)==0)=true:=rfl
    simp only [xbr,xeZ,xfx,xf1,xir,List.length_map,xak,xal,decide_true,decide_false,Bool.and_true,Bool.true_and,Bool.not_true,Bool.not_false,Int.toNat_natCast,Int.natCast_nonneg,Option.isSome_some,Option.getD_some,beq_self_eq_true,Nat.zero_add,Nat.sub_zero,hk,i0,i1,gf,cR0,sR0,m1,m2,wrapS (n:=0) (by omega)]
    rfl
   | succ j =>
    have hj:j<S.length:=by omega
    have i0:(((j+1:Nat):Int)==0)=false:=by simp;omega
    have i2:(j:Int)<(S.length:Int):=by omega
    have gj:(S.map encR).getD j .top=encR S[j]:=xaJ _ _ _ hj
    have ee:=xP5 S[j] S[j+1] (hr _ (List.getElem_mem hj))
    have wj:IntKind.i64.wrap (((j+1:Nat):Int) - 1)=(j:Int):=by rw [xek (by omega) (by omega)];omega
    have sd:dk S (j+1+1)=dk S (j+1)++(if S[j]=S[j+1] then [] else [S[j+1]]):=by
     show dk S (j+1)++_=_
     congr 1
     rw [show j+1 - 1=j by omega,List.getElem?_eq_getElem hj,List.getElem?_eq_getElem hk]
     by_cases e:S[j]=S[j+1]
     · simp [e]
     · simp [e]
    rw [sd]
    simp only [xbr,xeZ,xfx,xf1,xir,List.length_map,xak,xal,decide_true,decide_false,Bool.and_true,Bool.true_and,Bool.not_true,Bool.not_false,Int.toNat_natCast,Int.natCast_nonneg,Option.isSome_some,Option.getD_some,beq_self_eq_true,Nat.zero_add,Nat.sub_zero,hk,hj,i0,i1,i2,gf,gj,cR0,sR0,ee,wj,cmp0,m1,m2,wrapS (n:=j+1) (by omega)]
    by_cases e:S[j]=S[j+1]
    · simp [e,xal]
    · simp [e,xak,encR]
 · simp only [xbr,xeZ,List.length_map,Int.lt_irrefl,decide_false,xal]
theorem xJp (l:List Row) (h:Short l):∃ D,xg5 (l.map encR)=some (D.map encR)∧Strict cmpR D∧(∀ x,x∈D↔x∈l)∧D.length≤l.length:=by
 obtain ⟨S,e1,p1,s1⟩:=xNq l h
 have hS:=h.perm p1
 obtain ⟨a1,a2⟩:=xOz S s1 S.length (Nat.le_refl _)
 have e2:=xIM S hS.1 (fun x hx=>by have:=hS.2 x hx;unfold maxLen;omega)
 refine ⟨dk S S.length,?_,a1,fun x=>by rw [a2,List.take_length,p1.mem_iff],by rw [←p1.length_eq];exact xHj _ _⟩
 have tt:List.take (dk S S.length).length ((dk S S.length).map encR)=(dk S S.length).map encR:=List.take_of_length_le (by simp)
 unfold xg5 xln
 simp only [xnT,xnU,xnO,e1,e2,Option.isSome_some,Option.getD_some,xak,Nat.zero_add,List.length_map,Nat.le_refl,decide_true,Bool.and_true,List.drop_zero,tt]
end Go.Sim.M
end
noncomputable section
set_option maxRecDepth 100000
namespace Go.Sim.M
open Go.RowKit Go.Sim.Srt
noncomputable def cF (f g:Fc):Int:=cmpR f.r g.r
theorem xOm:Cm cF:=xtq.on (e:=fun f:Fc=>f.r)
theorem xKZ (a b:List Fc) (ha:a.length+b.length≤1048576) (hra:∀ x,x∈a→x.r.length≤1048576) (hrb:∀ x,x∈b→x.r.length≤1048576) (sa:Sorted cF a) (sb:Sorted cF b) :
  ∀ (n i k:Nat) (D:List Fc),(a.length - i)+(b.length - k)=n→i≤a.length→k≤b.length→D.length=i+k →
   ∃ r,Iter (xbj (List.map encF a) (List.map encF b)) (D.length,(i:Int),(k:Int),List.map encF D)=some (a.length+b.length,List.map encF (D++r))∧r.Perm (a.drop i++b.drop k)∧Sorted cF r:=by
 intro n
 induction n with
 | zero =>
  intro i k D hn hi hk hD
  have h1:¬ (i:Int)<(a.length:Int):=by omega
  have h2:¬ (k:Int)<(b.length:Int):=by omega
  refine ⟨[],xaI ?_,?_,by simp [Sorted]⟩
  · simp only [xbj,xdU,xel,xc7,xc3,xb4,xbZ,  List.length_map,xch,h1,h2,decide_false,Bool.false_eq_true,if_false,List.append_nil]
    rw [show D.length=a.length+b.length by omega]
  · rw [List.drop_eq_nil_of_le (by omega),List.drop_eq_nil_of_le (by omega)];exact List.Perm.refl _
 | succ n ih =>
  intro i k D hn hi hk hD
  have hlen:(List.map encF D).length=D.length:=by simp
  have m1:(D.length+1)*40≤140737488355328:=by omega
  have m2:D.length+1≤4611686018427387904:=by omega
  have snoc:∀ x:Fc,List.map encF D++[AV.agg [AV.list 3 (x.r.map encV),AV.int .i64 x.p.1,AV.int .i64 x.p.2]]=List.map encF (D++[x]):=fun x=>by simp [encF]
  have wi:=xqZ (n:=i) (show i+1≤maxLen by unfold maxLen;omega)
  have wk:=xqZ (n:=k) (show k+1≤maxLen by unfold maxLen;omega)
  by_cases hia:i<a.length
  · have i1:(i:Int)<(a.length:Int):=by omega
    have i2:((i:Int)==(a.length:Int))=false:=by simp;omega
    have hx:a[i]?=some a[i]:=by simp [hia]
    by_cases hkb:k<b.length
    · have k1:(k:Int)<(b.length:Int):=by omega
      have hy:b[k]?=some b[k]:=by simp [hkb]
      have e:=xsL b[k].r a[i].r (by have:=hrb b[k] (List.getElem_mem hkb);unfold maxLen;omega)
      by_cases hc:cmpR b[k].r a[i].r<0
      · obtain ⟨r,h1,h2,h3⟩:=ih i (k+1) (D++[b[k]]) (by omega) hi (by omega) (by simp;omega)
        refine ⟨b[k]::r,?_,?_,?_⟩
        · refine xbd (s':=((D++[b[k]]).length,(i:Int),((k+1:Nat):Int),List.map encF (D++[b[k]]))) ?_ (by rw [h1];simp)
          simp only [xbj,xdU,xel,xc7,xc3,xb4,xbZ,  List.length_map,xch,i1,i2,k1,hia,hkb,decide_true,Bool.false_eq_true,if_false,if_true,Int.toNat_natCast,gR hx,gR hy,cF0,cF1,cF2,sF0,sF1,sF2,lF,sF12,sF02,e,Option.isSome_some,Option.getD_some,hc,Int.natCast_nonneg,Bool.and_true,beq_self_eq_true,m1,m2,snoc,wk]
          simp
        · rw [xbE hkb]
          exact (h2.cons _).trans List.perm_middle.symm
        · refine List.pairwise_cons.2 ⟨fun z hz=>?_,h3⟩
          rcases List.mem_append.1 (h2.mem_iff.1 hz) with hz|hz
          · rw [xbE hia] at hz
            rcases List.mem_cons.1 hz with rfl|hz
            · exact Int.le_of_lt hc
            · obtain ⟨j,hj,rfl⟩:=List.mem_iff_getElem.1 hz
              have hja:i+1+j<a.length:=by simp at hj;omega
              have:=xb7 sa (i:=i) (j:=i+1+j) (by omega) hja
              rw [List.getElem_drop]
              exact xOm.trans _ _ _ (Int.le_of_lt hc) this
          · obtain ⟨j,hj,rfl⟩:=List.mem_iff_getElem.1 hz
            have hjb:k+1+j<b.length:=by simp at hj;omega
            rw [List.getElem_drop]
            exact xb7 sb (i:=k) (j:=k+1+j) (by omega) hjb
      · obtain ⟨r,h1,h2,h3⟩:=ih (i+1) k (D++[a[i]]) (by omega) (by omega) hk (by simp;omega)
        refine ⟨a[i]::r,?_,?_,?_⟩
        · refine xbd (s':=((D++[a[i]]).length,((i+1:Nat):Int),(k:Int),List.map encF (D++[a[i]]))) ?_ (by rw [h1];simp)
          simp only [xbj,xdU,xel,xc7,xc3,xb4,xbZ,  List.length_map,xch,i1,i2,k1,hia,hkb,decide_true,Bool.false_eq_true,if_false,if_true,Int.toNat_natCast,gR hx,gR hy,cF0,cF1,cF2,sF0,sF1,sF2,lF,sF12,sF02,e,Option.isSome_some,Option.getD_some,hc,decide_false,Int.natCast_nonneg,Bool.and_true,beq_self_eq_true,m1,m2,snoc,wi]
          simp
        · rw [xbE hia]
          exact h2.cons _
        · refine List.pairwise_cons.2 ⟨fun z hz=>?_,h3⟩
          have hab:cF a[i] b[k]≤0:=xOm.ord.le_of_not hc
          rcases List.mem_append.1 (h2.mem_iff.1 hz) with hz|hz
          · obtain ⟨j,hj,rfl⟩:=List.mem_iff_getElem.1 hz
            have hja:i+1+j<a.length:=by simp at hj;omega
            rw [List.getElem_drop]
            exact xb7 sa (i:=i) (j:=i+1+j) (by omega) hja
          · rw [xbE hkb] at hz
            rcases List.mem_cons.1 hz with rfl|hz
            · exact hab
            · obtain ⟨j,hj,rfl⟩:=List.mem_iff_getElem.1 hz
              have hjb:k+1+j<b.length:=by simp at hj;omega
              rw [List.getElem_drop]
              exact xOm.trans _ _ _ hab (xb7 sb (i:=k) (j:=k+1+j) (by omega) hjb)
    · have k1:¬ (k:Int)<(b.length:Int):=by omega
      obtain ⟨r,h1,h2,h3⟩:=ih (i+1) k (D++[a[i]]) (by omega) (by omega) hk (by simp;omega)
      refine ⟨a[i]::r,?_,?_,?_⟩
      · refine xbd (s':=((D++[a[i]]).length,((i+1:Nat):Int),(k:Int),List.map encF (D++[a[i]]))) ?_ (by rw [h1];simp)
        simp only [xbj,xdU,xel,xc7,xc3,xb4,xbZ,  List.length_map,xch,i1,i2,k1,hia,decide_true,decide_false,Bool.false_eq_true,if_false,if_true,Int.toNat_natCast,gR hx,cF0,cF1,cF2,sF0,sF1,sF2,lF,sF12,sF02,Int.natCast_nonneg,Bool.and_true,beq_self_eq_true,m1,m2,snoc,wi]
        simp
      · rw [xbE hia]
        exact h2.cons _
      · refine List.pairwise_cons.2 ⟨fun z hz=>?_,h3⟩
        rw [List.drop_eq_nil_of_le (show b.length≤k by omega),List.append_nil] at h2
        obtain ⟨j,hj,rfl⟩:=List.mem_iff_getElem.1 (h2.mem_iff.1 hz)
        have hja:i+1+j<a.length:=by simp at hj;omega
        rw [List.getElem_drop]
        exact xb7 sa (i:=i) (j:=i+1+j) (by omega) hja
  · have i1:¬ (i:Int)<(a.length:Int):=by omega
    have hkb:k<b.length:=by omega
    have k1:(k:Int)<(b.length:Int):=by omega
    have i2:((i:Int)==(a.length:Int))=true:=by simp;omega
    have hy:b[k]?=some b[k]:=by simp [hkb]
    obtain ⟨r,h1,h2,h3⟩:=ih i (k+1) (D++[b[k]]) (by omega) hi (by omega) (by simp;omega)
    refine ⟨b[k]::r,?_,?_,?_⟩
    · refine xbd (s':=((D++[b[k]]).length,(i:Int),((k+1:Nat):Int),List.map encF (D++[b[k]]))) ?_ (by rw [h1];simp)
      simp only [xbj,xdU,xel,xc7,xc3,xb4,xbZ,  List.length_map,xch,i1,i2,k1,hkb,decide_true,decide_false,Bool.false_eq_true,if_false,if_true,Int.toNat_natCast,gR hy,cF0,cF1,cF2,sF0,sF1,sF2,lF,sF12,sF02,Int.natCast_nonneg,Bool.and_true,beq_self_eq_true,m1,m2,snoc,wk]
      simp
    · rw [xbE hkb]
      exact (h2.cons _).trans List.perm_middle.symm
    · refine List.pairwise_cons.2 ⟨fun z hz=>?_,h3⟩
      rw [List.drop_eq_nil_of_le (show a.length≤i by omega),List.nil_append] at h2
      obtain ⟨j,hj,rfl⟩:=List.mem_iff_getElem.1 (h2.mem_iff.1 hz)
      have hjb:k+1+j<b.length:=by simp at hj;omega
      rw [List.getElem_drop]
      exact xb7 sb (i:=k) (j:=k+1+j) (by omega) hjb
theorem xKB (a b:List Fc) (ha:a.length+b.length≤1048576) (hra:∀ x,x∈a→x.r.length≤1048576) (hrb:∀ x,x∈b→x.r.length≤1048576) (sa:Sorted cF a) (sb:Sorted cF b) :
  ∃ r,xiU (a.map encF) (b.map encF)=some (r.map encF)∧r.Perm (a++b)∧Sorted cF r:=by
 obtain ⟨r,h1,h2,h3⟩:=xKZ a b ha hra hrb sa sb _ 0 0 [] rfl (Nat.zero_le _) (Nat.zero_le _) rfl
 simp only [List.drop_zero,List.nil_append] at h1 h2
 have h1':Iter (xbj (a.map encF) (b.map encF)) (0,(0:Int),(0:Int),[])=some (r.length,r.map encF):=by
  rw [h2.length_eq,List.length_append];exact h1
 refine ⟨r,?_,h2,h3⟩
 unfold xiU xnJ
 simp only [xp4,xqo,xpT,xqb,h1',List.drop_zero,List.take_of_length_le,Nat.zero_add,List.length_map,Nat.le_refl,decide_true,Bool.and_true,xak,Option.isSome_some,Option.getD_some]
theorem xJi:∀ (f:Nat) (l:List Fc),l.length≤2 ^ f→Few l→∃ r,xc1 (f+1) (List.map encF l)=some (List.map encF r)∧r.Perm l∧Sorted cF r:=by
 intro f
 induction f with
 | zero =>
  intro l hl hs
  have h1:(l.length:Int)<2:=by simp at hl;omega
  refine ⟨l,?_,List.Perm.refl _,?_⟩
  · show xdI (xc1 0) (List.map encF l)=_
    simp only [xdI,xhA,List.length_map,h1,decide_true,xak]
  · match l,hl with
    | [],_=>exact List.Pairwise.nil
    | [x],_=>exact List.pairwise_singleton _ _
 | succ f ih =>
  intro l hl hs
  by_cases h2:l.length≤1
  · have h1:(l.length:Int)<2:=by omega
    refine ⟨l,?_,List.Perm.refl _,?_⟩
    · show xdI (xc1 (f+1)) (List.map encF l)=_
      simp only [xdI,xhA,List.length_map,h1,decide_true,xak]
    · match l,h2 with
      | [],_=>exact List.Pairwise.nil
      | [x],_=>exact List.pairwise_singleton _ _
  · have hp:2 ^ (f+1)=2*2 ^ f:=by rw [Nat.pow_succ];omega
    have hs1:=hs.1
    obtain ⟨m,hm⟩:∃ m,m=l.length / 2:=⟨_,rfl⟩
    have st:Few (l.take m):=⟨by simp;omega,fun x hx=>hs.2 x (List.mem_of_mem_take hx)⟩
    have sd:Few (l.drop m):=⟨by simp;omega,fun x hx=>hs.2 x (List.mem_of_mem_drop hx)⟩
    obtain ⟨r1,e1,p1,s1⟩:=ih (l.take m) (by simp;omega) st
    obtain ⟨r2,e2,p2,s2⟩:=ih (l.drop m) (by simp;omega) sd
    have l1:=p1.length_eq
    have l2:=p2.length_eq
    simp only [List.length_take,List.length_drop] at l1 l2
    obtain ⟨r,a1,a3,a4⟩:=xKB r1 r2 (by omega) (fun x hx=>st.2 x (p1.mem_iff.1 hx)) (fun x hx=>sd.2 x (p2.mem_iff.1 hx)) s1 s2
    refine ⟨r,?_,a3.trans ((p1.append p2).trans (by rw [List.take_append_drop])),a4⟩
    have w:IntKind.i64.wrap ((l.length:Int).tdiv 2)=(m:Int):=by
     rw [Int.tdiv_eq_ediv_of_nonneg (by omega)]
     exact w64 (by omega) (by omega)
    have t1:List.take m (List.map encF l)=List.map encF (l.take m):=by simp
    have t2:List.take (l.length - m) (List.drop m (List.map encF l))=List.map encF (l.drop m):=by
     rw [List.take_of_length_le (by simp)];simp
    have d0:¬ (l.length:Int)<2:=by omega
    have d2:(m:Int)≤(l.length:Int):=by omega
    show xdI (xc1 (f+1)) (List.map encF l)=_
    simp only [xdI,xhA,xoA,xoF,xoE,  List.length_map,d0,xal,w,Int.toNat_natCast,Nat.sub_zero,List.drop_zero,t1,t2,e1,e2,Option.isSome_some,Option.getD_some,xak,d2,decide_true,decide_false,Int.natCast_nonneg,Bool.and_true,a1]
theorem xNZ (l:List Fc) (h:Few l):∃ D,xke (l.map encF)=some (D.map encR)∧IsRows l D:=by
 have e0:=xzF l h.1
 have hf:(l.flatMap fun f=>if pv f.p=true then [f.r] else []).length≤1*l.length:=xmK l fun f _=>by split<;>simp
 have hm:∀ x,x∈(l.flatMap fun f=>if pv f.p=true then [f.r] else [])↔∃ f,f∈l∧f.r=x∧pv f.p=true:=fun x=>by
  rw [List.mem_flatMap]
  constructor
  · rintro ⟨f,hf,hx⟩
    split at hx
    · simp at hx;exact ⟨f,hf,hx.symm,by assumption⟩
    · simp at hx
  · rintro ⟨f,hf,e,hv⟩
    exact ⟨f,hf,by rw [if_pos hv];simp [e]⟩
 have hsh:Short (l.flatMap fun f=>if pv f.p=true then [f.r] else []):=⟨by have:=h.1;omega,fun x hx=>by
  obtain ⟨f,hf,e,_⟩:=(hm x).1 hx
  rw [←e];exact h.2 f hf⟩
 obtain ⟨D,d1,d2,d3,d4⟩:=xJp _ hsh
 refine ⟨D,?_,d2,fun r=>by rw [d3,hm]⟩
 generalize (l.flatMap fun f=>if pv f.p=true then [f.r] else [])=w at e0 d1
 have tt:List.take w.length (w.map encR)=w.map encR:=List.take_of_length_le (by simp)
 unfold xke xp2
 simp only [xsc,xsh,xsb,xsa,e0,Option.isSome_some,Option.getD_some,xak,Nat.zero_add,List.length_map,Nat.le_refl,decide_true,Bool.and_true,List.drop_zero,tt,d1]
theorem xJS (S:List Fc) (hS:S.length≤1048576) (hr:∀ f,f∈S→f.r.length≤maxLen) (on i:Nat) (hi:i<S.length) (xs:List AV):∀ (d k:Nat),k+d=S.length→i≤k→∃ j:Nat,k≤j∧j≤S.length∧(∀ t (h:t<S.length),k≤t→t<j→S[t].r=S[i].r)∧(∀ h:j<S.length,S[j].r≠S[i].r) ∧
  Iter (xbs (S.map encF) on (i:Int)) ((k:Int),xs)=some ((j:Int),xs)
 | 0,k,h,hik=>by
  obtain rfl:k=S.length:=by omega
  refine ⟨S.length,Nat.le_refl _,Nat.le_refl _,fun t h1 h2 h3=>by omega,fun h=>by omega,xaI ?_⟩
  simp only [xbs,xgj,List.length_map,Int.lt_irrefl,decide_false,xal]
 | d+1,k,h,hik=>by
  have hk:k<S.length:=by omega
  have i1:(k:Int)<(S.length:Int):=by omega
  have i2:(i:Int)<(S.length:Int):=by omega
  have gk:(S.map encF).getD k .top=encF S[k]:=xaJ _ _ _ hk
  have gi:(S.map encF).getD i .top=encF S[i]:=xaJ _ _ _ hi
  have ec:=xsL S[k].r S[i].r (hr _ (List.getElem_mem hk))
  by_cases he:S[k].r=S[i].r
  · obtain ⟨j,a1,a2,a3,a4,a5⟩:=xJS S hS hr on i hi xs d (k+1) (by omega) (by omega)
    refine ⟨j,by omega,a2,fun t h1 h2 h3=>?_,a4,(xbf (s':=(((k+1:Nat):Int),xs)) ?_).trans a5⟩
    · by_cases hkt:t=k
      · subst hkt;exact he
      · exact a3 t h1 (by omega) h3
    · have dd:decide (S[k].r=S[i].r)=true:=decide_eq_true he
      simp only [xbs,xgj,List.length_map,xak,xal,decide_true,decide_false,Bool.and_true,Bool.true_and,Bool.not_true,Bool.not_false,Int.toNat_natCast,Int.natCast_nonneg,Option.isSome_some,Option.getD_some,beq_self_eq_true,Nat.zero_add,Nat.sub_zero,i1,i2,hk,hi,gk,gi,cF0,cF1,cF2,sF0,sF1,sF2,lF,sF12,sF02,ec,cmp0,dd,wrapS (n:=k) (by omega)]
  · refine ⟨k,Nat.le_refl _,by omega,fun t h1 h2 h3=>by omega,fun _=>he,xaI ?_⟩
    simp only [xbs,xgj,List.length_map,xak,xal,decide_true,decide_false,Bool.and_true,Bool.true_and,Bool.not_true,Bool.not_false,Int.toNat_natCast,Int.natCast_nonneg,Option.isSome_some,Option.getD_some,beq_self_eq_true,Nat.zero_add,Nat.sub_zero,i1,i2,hk,hi,gk,gi,cF0,cF1,cF2,sF0,sF1,sF2,lF,sF12,sF02,ec,cmp0,he,decide_false]
structure RGI (S:List Fc) (i:Nat) (G:List Grp):Prop where
 st:Strict cmpR (G.map (·.1))
 mem:∀ r,r∈G.map (·.1)↔∃ f,f∈S.take i∧f.r=r∧pv f.p=true
 ps:∀ g,g∈G→StepI (fun t=>((cnt S g.1 t:Nat):Int)) 1099511627776 g.2∧g.2.length≤2*S.length+1
 len:G.length≤i
 bd:∀ a b (ha:a<S.length) (hb:b<S.length),a<i→i≤b→cmpR S[a].r S[b].r<0
theorem room48 {n:Nat} (h:n≤1048576):(n+1)*48≤140737488355328∧n+1≤4611686018427387904:=by omega
theorem xF3 (S:List Fc) (hS:S.length≤262144) (hr:∀ f,f∈S→f.r.length≤1048576) (hs:Sorted cF S):∀ (c i:Nat) (G:List Grp),S.length - i≤c→i≤S.length→RGI S i G →
  ∃ G',Iter (xcw (S.map encF)) (G.length,(i:Int),G.map encG)=some (G'.length,G'.map encG)∧RGI S S.length G'
 | c,i,G,hc,hi,hG=>by
  by_cases hil:i=S.length
  · subst hil
    refine ⟨G,xaI ?_,hG⟩
    simp only [xcw,xic,List.length_map,Int.lt_irrefl,decide_false,xal]
  · have hlt:i<S.length:=by omega
    obtain ⟨j,a1,a2,a3,a4,a5⟩:=xJS S (by omega) (fun f hf=>by have:=hr f hf;unfold maxLen;omega) G.length i hlt (G.map encG) (S.length - i) i (by omega) (Nat.le_refl _)
    have hij:i<j:=by
     rcases Nat.lt_or_ge i j with h|h
     · exact h
     · obtain rfl:j=i:=by omega
       exact absurd rfl (a4 hlt)
    have run_mem:∀ f,f∈(S.drop i).take (j - i)↔∃ t,∃ h:t<S.length,i≤t∧t<j∧S[t]=f:=fun f=>by
     rw [List.mem_take_iff_getElem]
     constructor
     · rintro ⟨m,hm,rfl⟩
       rw [List.length_drop] at hm
       exact ⟨i+m,by omega,by omega,by omega,by rw [List.getElem_drop]⟩
     · rintro ⟨t,h,h1,h2,rfl⟩
       refine ⟨t - i,by rw [List.length_drop];omega,?_⟩
       rw [List.getElem_drop]
       congr 1;omega
    have run_row:∀ f,f∈(S.drop i).take (j - i)→f.r=S[i].r:=fun f hf=>by
     obtain ⟨t,h,h1,h2,rfl⟩:=(run_mem f).1 hf
     exact a3 t h h1 h2
    have tkj:S.take j=S.take i++(S.drop i).take (j - i):=by
     rw [show j=i+(j - i) by omega,List.take_add,Nat.add_sub_cancel_left]
    have split3:S=S.take i++((S.drop i).take (j - i)++S.drop j):=by
     rw [←List.append_assoc,←tkj,List.take_append_drop]
    have rl:((S.drop i).take (j - i)).length=j - i:=by rw [List.length_take,List.length_drop];omega
    have before:∀ f,f∈S.take i→cmpR f.r S[i].r<0:=fun f hf=>by
     obtain ⟨t,ht,rfl⟩:=List.mem_take_iff_getElem.1 hf
     exact hG.bd t i (by omega) hlt (by omega) (Nat.le_refl _)
    have behind:∀ t (h:t<S.length),j≤t→cmpR S[i].r S[t].r<0:=fun t h hjt=>by
     have hj:j<S.length:=by omega
     have c1:cmpR S[i].r S[j].r≤0:=List.pairwise_iff_getElem.1 hs i j hlt hj hij
     have c2:cmpR S[i].r S[j].r<0:=by
      rcases Int.lt_or_eq_of_le c1 with c|c
      · exact c
      · exact absurd (xo1 c).symm (a4 hj)
     rcases Nat.lt_or_ge j t with h1|h1
     · have c3:cmpR S[j].r S[t].r≤0:=List.pairwise_iff_getElem.1 hs j t hj h h1
       exact xtq.lt1 c2 c3
     · obtain rfl:t=j:=by omega
       exact c2
    have no_other:∀ (l:List Fc) (ρ:Row) (t:Int),(∀ f,f∈l→f.r≠ρ)→cnt l ρ t=0:=fun l ρ t h=>by
     unfold cnt
     rw [List.countP_eq_zero]
     intro f hf hh
     simp only [Bool.and_eq_true,decide_eq_true_eq] at hh
     exact h f hf hh.1
    have ne_of:∀ x y:Row,cmpR x y<0→x≠y:=fun x y h e=>by subst e;rw [xyZ] at h;omega
    have cntr:∀ t,cnt ((S.drop i).take (j - i)) S[i].r t=cnt S S[i].r t:=fun t=>by
     have e:cnt S S[i].r t=cnt (S.take i++((S.drop i).take (j - i)++S.drop j)) S[i].r t:=by rw [←split3]
     rw [e,xv7,xv7,no_other (S.take i) _ t (fun f hf=>ne_of _ _ (before f hf)),no_other (S.drop j) _ t (fun f hf=>by
      obtain ⟨m,hm,rfl⟩:=List.mem_iff_getElem.1 hf
      rw [List.length_drop] at hm
      rw [List.getElem_drop]
      exact fun e=>ne_of _ _ (behind (j+m) (by omega) (by omega)) e.symm)]
     omega
    have hrun:Few ((S.drop i).take (j - i)):=⟨by omega,fun f hf=>hr f (List.mem_of_mem_drop (List.mem_of_mem_take hf))⟩
    obtain ⟨D,d1,d2,d3⟩:=xNZ _ hrun
    obtain ⟨St,s1,s2,s3⟩:=xKX ((S.drop i).take (j - i)) S[i].r (fun f hf=>by have:=hrun.2 f hf;unfold maxLen;omega) (by omega)
    have s2:StepI (fun t=>((cnt S S[i].r t:Nat):Int)) 1099511627776 St:=by
     have e:(fun t=>((cnt ((S.drop i).take (j - i)) S[i].r t:Nat):Int))=fun t=>((cnt S S[i].r t:Nat):Int):=funext fun t=>by rw [cntr]
     rwa [e] at s2
    have tS:List.take (j - i) (List.drop i (S.map encF))=((S.drop i).take (j - i)).map encF:=by rw [←List.map_drop,←List.map_take]
    have hD:D=[]∨D=[S[i].r]:=by
     match D,d2,d3 with
     | [],_,_=>exact .inl rfl
     | [x],_,h=>right;obtain ⟨f,hf,e,_⟩:=(h x).1 (by simp);rw [←e,run_row f hf]
     | x::y::t,h1,h =>
      obtain ⟨f,hf,e,_⟩:=(h x).1 (by simp)
      obtain ⟨g,hg,e',_⟩:=(h y).1 (by simp)
      have:cmpR x y<0:=(List.pairwise_cons.1 h1).1 y (by simp)
      rw [←e,←e',run_row f hf,run_row g hg,xyZ] at this
      omega
    have hgl:=hG.len
    obtain ⟨m1,m2⟩:=room48 (n:=G.length) (by omega)
    have nx:RGI S j (G++D.map fun ρ=>(ρ,St)):=by
     refine ⟨?_,fun r=>?_,fun g hg=>?_,?_,fun a b ha hb haj hjb=>?_⟩
     · rw [List.map_append]
       refine List.pairwise_append.2 ⟨hG.st,?_,fun x hx y hy=>?_⟩
       · rcases hD with rfl|rfl
         · exact List.Pairwise.nil
         · exact List.pairwise_singleton _ _
       · obtain ⟨f,hf,e,_⟩:=(hG.mem x).1 hx
         rcases hD with rfl|rfl
         · simp at hy
         · simp at hy;subst hy;rw [←e];exact before f hf
     · rw [List.map_append,List.mem_append,hG.mem,tkj]
       have e:r∈(D.map fun ρ=>(ρ,St)).map (·.1)↔r∈D:=by simp
       rw [e,d3]
       constructor
       · rintro (⟨f,hf,h⟩|⟨f,hf,h⟩)
         · exact ⟨f,List.mem_append.2 (.inl hf),h⟩
         · exact ⟨f,List.mem_append.2 (.inr hf),h⟩
       · rintro ⟨f,hf,h⟩
         rcases List.mem_append.1 hf with hf|hf
         · exact .inl ⟨f,hf,h⟩
         · exact .inr ⟨f,hf,h⟩
     · rcases List.mem_append.1 hg with hg|hg
       · exact hG.ps g hg
       · obtain ⟨ρ,hρ,rfl⟩:=List.mem_map.1 hg
         rcases hD with rfl|rfl
         · simp at hρ
         · simp at hρ;subst hρ;exact ⟨s2,by rw [rl] at s3;dsimp only;omega⟩
     · rw [List.length_append,List.length_map]
       rcases hD with rfl|rfl<;>simp<;>omega
     · rcases Nat.lt_or_ge a i with hai|hai
       · exact hG.bd a b ha hb hai (by omega)
       · rw [a3 a ha hai haj];exact behind b hb hjb
    obtain ⟨G',e',hG'⟩:=xF3 S hS hr hs (c - 1) j _ (by omega) a2 nx
    refine ⟨G',(xbf ?_).trans e',hG'⟩
    have i1:(i:Int)<(S.length:Int):=by omega
    have i2:(j:Int)≤(S.length:Int):=by omega
    have i3:(i:Int)≤(j:Int):=by omega
    have el2:Iter (xct (S.map encF) (i:Int) (j:Int) (D.map encR)) (G.length,(0:Int),G.map encG)=some ((G++D.map fun ρ=>(ρ,St)).length,(G++D.map fun ρ=>(ρ,St)).map encG):=by
     rcases hD with rfl|rfl
     · refine xaI ?_
       have z:¬ (0:Int)<(([]:List AV).length:Int):=by simp
       simp only [xct,xgm,List.map_nil,z,decide_false,xal,List.append_nil]
     · have z0:(0:Int)<(1:Int):=by omega
       have g0:([S[i].r].map encR).getD 0 .top=encR S[i].r:=rfl
       have w1:IntKind.i64.wrap ((0:Int)+1)=1:=rfl
       refine (xbf (s':=((G++[(S[i].r,St)]).length,(1:Int),(G++[(S[i].r,St)]).map encG)) ?_).trans (xaI ?_)
       · have l1:(([S[i].r]:List Row).length:Int)=1:=rfl
         have z1:(0:Int)≤0:=by omega
         have z2:(0:Nat)<([S[i].r]:List Row).length:=by simp
         have z3:(0:Int).toNat=0:=rfl
         simp only [xct,xgm,List.length_map,xak,xal,decide_true,decide_false,Bool.and_true,Bool.true_and,Bool.not_true,Bool.not_false,Int.toNat_natCast,Int.natCast_nonneg,Option.isSome_some,Option.getD_some,beq_self_eq_true,Nat.zero_add,Nat.sub_zero,l1,z0,z1,z2,z3,g0,cR0,sR0,i2,i3,tS,s1,m1,m2,w1]
         simp [encG]
       · have l1:¬ (1:Int)<(([encR S[i].r]:List AV).length:Int):=by simp
         simp only [xct,xgm,List.map_cons,List.map_nil,l1,decide_false,xal]
    simp only [xcw,xic,xmN,xml,xds,List.length_map,xak,xal,decide_true,decide_false,Bool.and_true,Bool.true_and,Bool.not_true,Bool.not_false,Int.toNat_natCast,Int.natCast_nonneg,Option.isSome_some,Option.getD_some,beq_self_eq_true,Nat.zero_add,Nat.sub_zero,i1,i2,i3,a5,tS,d1,el2]
theorem xLe (l:List Fc) (h:Few l) (hl:l.length≤262144):∃ G:List Grp,xfY (l.map encF)=some (G.map encG)∧IsRows l (G.map (·.1))∧(∀ g,g∈G→StepI (fun t=>((cnt l g.1 t:Nat):Int)) 1099511627776 g.2∧g.2.length≤2*l.length+1)∧G.length≤l.length:=by
 obtain ⟨S,e1,p1,s1⟩:=xJi 99 l (Nat.le_trans h.1 (Nat.le_trans (show 1048576≤2 ^ 20 by omega) (Nat.pow_le_pow_right (by omega) (by omega)))) h
 have hSl:=p1.length_eq
 obtain ⟨G,e2,hG⟩:=xF3 S (by omega) (fun f hf=>h.2 f (p1.mem_iff.1 hf)) s1 S.length 0 [] (by omega) (by omega) ⟨List.Pairwise.nil,fun r=>by simp,fun g hg=>by simp at hg,Nat.le_refl _,fun a b ha hb h1 h2=>by omega⟩
 refine ⟨G,?_,⟨hG.st,fun r=>?_⟩,fun g hg=>?_,by rw [←hSl];exact hG.len⟩
 · have e1:xc1 100 (l.map encF)=some (S.map encF):=e1
   have e2:Iter (xcw (S.map encF)) ((0:Nat),(0:Int),[])=_:=e2
   have tt:List.take G.length (G.map encG)=G.map encG:=List.take_of_length_le (by simp)
   unfold xfY xnv
   simp only [xpt,xpJ,xqs,xqc,e1,e2,Option.isSome_some,Option.getD_some,xak,Nat.zero_add,List.length_map,Nat.le_refl,decide_true,Bool.and_true,List.drop_zero,tt]
 · rw [hG.mem,List.take_length]
   constructor
   · rintro ⟨f,hf,e⟩;exact ⟨f,p1.mem_iff.1 hf,e⟩
   · rintro ⟨f,hf,e⟩;exact ⟨f,p1.mem_iff.2 hf,e⟩
 · obtain ⟨x1,x2⟩:=hG.ps g hg
   have e:(fun t=>((cnt S g.1 t:Nat):Int))=fun t=>((cnt l g.1 t:Nat):Int):=funext fun t=>by rw [xNW p1]
   rw [e] at x1
   exact ⟨x1,by omega⟩
end Go.Sim.M
end
noncomputable section
set_option maxRecDepth 100000
namespace Go.Sim.M
open Go.RowKit Go.Sim.Srt
theorem xK5 (row:Row) (P:List Per) (hP:P.length≤1048576):xf8 (row.map encV) (P.map encP)=some ((mk row P).map encF):=by
 have e:=xwm row P hP
 rw [flat1 (fun p:Per=>(⟨row,p⟩:Fc)) P] at e
 have e:Iter (xbS (row.map encV) (P.map encP)) ((0:Nat),(0:Int),[])=some ((mk row P).length,(mk row P).map encF):=e
 generalize mk row P=D at e
 have tt:List.take D.length (D.map encF)=D.map encF:=List.take_of_length_le (by simp)
 unfold xf8 xm8
 simp only [xp5,xpX,xpx,e,Option.isSome_some,Option.getD_some,xak,Nat.zero_add,List.length_map,Nat.le_refl,decide_true,Bool.and_true,List.drop_zero,tt]
theorem sG0 (g:Grp):hasSh1 (Sh.list 3) ((encG g).cells.getD 0 .top)=true:=rfl
theorem sG1 (g:Grp):hasSh1 (Sh.list 2) ((encG g).cells.getD 1 .top)=true:=rfl
theorem room40b {n m:Nat} (h:n≤1048576*1024) (hm:m≤1048576):(n+m)*40≤140737488355328∧n+m≤4611686018427387904:=by omega
theorem xN7 (G:List Grp) (hG:G.length≤1024) (L:Row→List Per) (hL:∀ g,g∈G→xdk (g.2.map encP)=some ((L g.1).map encP)∧(L g.1).length≤1048576) :
  Iter (xdg (G.map encG)) ((0:Nat),(0:Int),[])=some ((facts (G.map (·.1)) L).length,(facts (G.map (·.1)) L).map encF):=by
 rw [←xCB]
 refine xoO G (fun g=>mk g.1 (L g.1)) encF 1048576 (fun g hg=>by unfold mk;rw [List.length_map];exact (hL g hg).2) (fun n h D hD=>?_) (fun D=>?_)
 · have i1:(n:Int)<(G.length:Int):=by omega
   have gf:(G.map encG).getD n .top=encG G[n]:=xaJ _ _ _ h
   obtain ⟨e1,e2⟩:=hL _ (List.getElem_mem h)
   have ed:=xK5 G[n].1 (L G[n].1) e2
   have ml:(mk G[n].1 (L G[n].1)).length≤1048576:=by unfold mk;rw [List.length_map];exact e2
   have hD2:D.length≤1048576*1024:=Nat.le_trans hD (Nat.mul_le_mul_left _ (by omega))
   obtain ⟨m1,m2⟩:=room40b hD2 ml
   simp only [xdg,xkM,xma,List.length_map,xak,xal,decide_true,decide_false,Bool.and_true,Bool.true_and,Bool.not_true,Bool.not_false,Int.toNat_natCast,Int.natCast_nonneg,Option.isSome_some,Option.getD_some,beq_self_eq_true,Nat.zero_add,Nat.sub_zero,h,i1,gf,cG0,cGs,sG0,sG1,e1,ed,m1,m2,wrapS (n:=n) (by omega),List.length_append,List.map_append]
 · simp only [xdg,xkM,List.length_map,Int.lt_irrefl,decide_false,xal]
theorem xQc (l:List Fc) (r:Row) (t:Int):cnt l r t≤l.length:=List.countP_le_length
theorem xPm (l:List Fc) (r:Row) (t:Int) (h:t<0∨1099511627776≤t):cnt l r t=0:=by rw [←xC6];exact xIq _ t h
theorem xO7 (l:List Fc) (h:Few l) (hl:l.length≤1024):∃ B,xfV (l.map encF)=some (B.map encF)∧IsBag l B:=by
 obtain ⟨G,e1,hR,hS,hGl⟩:=xLe l h (by omega)
 have lv:∀ g,g∈G→∃ P,xdk (g.2.map encP)=some (P.map encP)∧IsLevs (cnt l g.1) P:=fun g hg=>by
  obtain ⟨s1,s2⟩:=hS g hg
  exact xK3 (N:=cnt l g.1) (H:=l.length) (by omega) (xQc l g.1) (xPm l g.1) s1 (by omega)
 obtain ⟨L,hL⟩:=xFH (R:=G.map (·.1)) (Q:=fun r P=>(∀ g,g∈G→g.1=r→xdk (g.2.map encP)=some (P.map encP))∧IsLevs (cnt l r) P) fun r hr=>by
  obtain ⟨g,hg,rfl⟩:=List.mem_map.1 hr
  obtain ⟨P,p1,p2⟩:=lv g hg
  refine ⟨P,fun g' hg' e=>?_,p2⟩
  obtain ⟨P',q1,q2⟩:=lv g' hg'
  rw [e] at q2
  rw [q1,q2.unique p2]
 have hk:∀ g,g∈G→g.1∈G.map (·.1):=fun g hg=>List.mem_map.2 ⟨g,hg,rfl⟩
 have hlen:∀ g,g∈G→(L g.1).length≤1048576:=fun g hg=>by
  have a:=(hL g.1 (hk g hg)).2
  rw [←xMD] at a
  have b:=xHd l g.1
  exact Nat.le_trans a.len (Nat.mul_le_mul (Nat.le_trans b hl) (Nat.le_trans b hl))
 have e2:=xN7 G (by omega) L fun g hg=>⟨(hL g.1 (hk g hg)).1 g hg rfl,hlen g hg⟩
 refine ⟨facts (G.map (·.1)) L,?_,G.map (·.1),L,hR,fun r hr=>(hL r hr).2,rfl⟩
 generalize facts (G.map (·.1)) L=F at e2
 have tt:List.take F.length (F.map encF)=F.map encF:=List.take_of_length_le (by simp)
 unfold xfV xrk
 simp only [xsR,xs7,xsQ,e1,e2,Option.isSome_some,Option.getD_some,xak,Nat.zero_add,List.length_map,Nat.le_refl,decide_true,Bool.and_true,List.drop_zero,tt]
theorem xHX (l:List Fc) (h:Bld l):∃ B,xa6 (l.map encF)=some (B.map encF)∧xfV (l.map encF)=some (B.map encF)∧IsBag l B:=by
 obtain ⟨B,b1,b2⟩:=xLs l h
 obtain ⟨B',c1,c2⟩:=xO7 l h.1.1 h.2
 obtain rfl:B=B':=b2.unique c2 fun _ _=>rfl
 exact ⟨B,b1,c1,b2⟩
theorem xNQ (a b:List Fc) (ha:few a=true→Tx a) (hb:few b=true→Tx b):xei (a.map encF) (b.map encF)=some true:=by
 unfold xei xit
 simp only [xPL,Option.isSome_some,Option.getD_some,xak]
 cases hfa:few a with
 | false=>rfl
 | true =>
  simp only [Bool.not_true,xal]
  cases hfb:few b with
  | false=>rfl
  | true =>
   simp only [Bool.not_true,xal]
   obtain ⟨f1,f2⟩:=xB8 hfa
   obtain ⟨g1,g2⟩:=xB8 hfb
   obtain ⟨A,a1,a2,a3⟩:=xHX a (xJH hfa (ha hfa))
   obtain ⟨B,b1,b2,b3⟩:=xHX b (xJH hfb (hb hfb))
   have lA:=xOW f1 a3.len
   have rA:=a3.all (Q:=fun r=>r.length≤60) f2
   obtain ⟨A',c1,c2⟩:=xLs A (xLE (by omega) rA (a3.all (Q:=fun r=>∀ v,v∈r→v.wf∧v.t.length≤1073741824) (ha hfa)))
   obtain rfl:A=A':=xOR a3 c2
   have i1:=xHk A B (by omega) (fun f hf=>by have:=rA f hf;omega)
   have i2:=xLU A B (by omega) (fun f hf=>by have:=rA f hf;unfold maxLen;omega)
   have i3:=xHk A A (by omega) (fun f hf=>by have:=rA f hf;omega)
   rw [decide_eq_true rfl] at i3
   have s1:xcH (a.map encF) (b.map encF)=some (decide (A=B)):=by
    unfold xcH xjR
    simp only [a1,b1,i1,Option.isSome_some,Option.getD_some,xak]
   have s2:xjT (a.map encF) (b.map encF)=some (decide (A=B)):=by
    unfold xjT xqu
    simp only [a2,b2,i2,Option.isSome_some,Option.getD_some,xak]
   have s3:xcH (a.map encF) (A.map encF)=some true:=by
    unfold xcH xjR
    simp only [a1,c1,i3,Option.isSome_some,Option.getD_some,xak]
   simp only [s1,s2,s3,a1,b1,i2,beq_self_eq_true,Option.isSome_some,Option.getD_some,xak]
end Go.Sim.M
end
noncomputable section
namespace Go.Sim
theorem M.card_same (l m:List M.Fc) (w0:l.length≤maxLen∧∀ y,y∈l→y.wf) (w1:m.length≤maxLen∧∀ y,y∈m→y.wf) (hb:(AV.list 3 (l.map M.encF)).wt+(AV.list 3 (m.map M.encF)).wt≤1048576):M.xei (l.map M.encF) (m.map M.encF)=some true:=M.xNQ l m (fun _=>M.tx_wt (by omega) w0.2) fun _=>M.tx_wt (by omega) w1.2
end Go.Sim
end
noncomputable section
set_option maxRecDepth 10000
namespace Go.Proofs.YtefloaolddjnhaaGreatDoor.coalesceSame
open Go.ChangeShapes Go.WideShapes Go.ChangeAt Go.RowKit Go.Sim
theorem contract (H:Type) (enc:TypeId×Value→H) (W:World) (base:Nat) (args:Array Value) (ds gs:List (DataW H)) (before:List MemPlace)
  (hval:∀ (j:Nat) t v,Tryz.f9.params[j]?=some t→args[j]?=some v→Value.okWide Tryz.prog W .any base t v)
  (hW:DataW.Whole enc Tryz.prog Tryz.f9.params.toList Rows.coalesceSameSpec.vars false W args.toList ds gs before) (hL:laidMetH Tryz.prog Rows.coalesceSameUptoRow.laid W) (hsh:W.ShapedOpen Tryz.prog) (hbulk:Rows.uptoBulkAll (ds++gs)≤1048576) :
  Calls Tryz.prog 9 args W fun e W'=>∃ v,e=.returned v∧Rows.coalesceSameSpec.post enc Tryz.prog Tryz.f9 false true false false W args v W':=by
 have hW':=hW
 obtain ⟨p,q,hA0,hV,rfl,hfz,hnd⟩:=hW
 have hA:DataW.TrodAll enc Tryz.prog W 0 (fun _=>true) true Tryz.f9.params.toList args.toList ds p:=hA0
 have hAk:=hA
 rw [Tryz.params9] at hA hval
 obtain ⟨v0,vs0,d0,ds0,p0,q0,hargs,rfl,rfl,h0,r0⟩:=trodAll_cons hA
 obtain ⟨v1,vs1,d1,ds1,p1,q1,rfl,rfl,rfl,h1,r1⟩:=trodAll_cons r0
 obtain ⟨rfl,rfl,rfl⟩:=trodAll_nil r1
 obtain rfl:args=#[v0,v1]:=by cases args;simp_all
 obtain ⟨rfl,rfl⟩:=trodVars_none hV
 obtain ⟨a0,rr0,b0,w0⟩:=xEg (hval 0 22 v0 rfl rfl) h0
 obtain ⟨a1,rr1,b1,w1⟩:=xEg (hval 1 22 v1 rfl rfl) h1
 clear hA0
 have hbulk:(.list 3 (a0.map M.encF):AV).wt+(.list 3 (a1.map M.encF):AV).wt≤1048576:=by
  rw [List.append_nil,xrf] at hbulk
  simp only [List.map_cons,List.map_nil,List.sum_cons,List.sum_nil] at hbulk
  have:=b0 _ xFM
  have:=b1 _ xFM
  omega
 have hI:ITryz W:=xQe rfl (by kernel_rfl) hL hsh
 have hpl:=M.card_same a0 a1 w0 w1 hbulk
 have hg:Sim.Good Tryz.prog ITryz 9 [.list 3 (a0.map M.encF),.list 3 (a1.map M.encF)] (.bool true):=M.xwa _ _ (by
  show some (_,AV.bool _)=_
  rw [hpl];rfl)
 have hrc:RC W (fun _=>False) noBox [v0,v1] [.list 3 (a0.map M.encF),.list 3 (a1.map M.encF)]:=by
  refine ⟨rfl,fun i hi=>?_⟩
  match i,hi with
  | 0,_=>exact rr0
  | 1,_=>exact rr1
 refine (hg.2 W (fun _=>False) _ hI (fun _ h=>h.elim) hrc).mono fun e W' ⟨v,he,hb,hr⟩=>?_
 subst he
 obtain rfl:=hr.bool_inv
 exact ⟨_,rfl,xMS rfl hW' ⟨rfl,rfl,rfl⟩ rfl Tryz.underlying4 (by simpa using xw4 laidTryz hb (by kernel_rfl) hAk) hb⟩
noncomputable def wit:Array Value:=#[.slice none 0 0,.slice none 0 0]
theorem laid_met (os:Os):laidMet Tryz.prog Rows.coalesceSameUptoRow.laid ((laidWorld Tryz.prog Rows.coalesceSameUptoRow.laid os).forCall (fun _ _=>0) ⟨#[],wit,[]⟩).memory :=
 laidMet_of_run3 8 (by kernel_rfl) (by kernel_rfl) (by kernel_rfl)
theorem reads (os:Os) {H:Type} (enc:TypeId×Value→H):∃ places,DataW.whole enc Tryz.prog ((laidWorld Tryz.prog Rows.coalesceSameUptoRow.laid os).forCall (fun _ _=>0) ⟨#[],wit,[]⟩).memory Tryz.f9.params.toList Rows.coalesceSameSpec.vars false wit.toList 8=some ([.nil,.nil],[],places) :=
 ⟨[],by kernel_rfl⟩
set_option maxRecDepth 100000 in
theorem lifted (os:Os) (started:os.Started) (H:Type) (enc:TypeId×Value→H) (F:Stop.Interp) :
  ReturnsInHanded {} Tryz.checked os 9 .any ((Rows.OpenSpec.upto Rows.coalesceSameSpec).preRow enc Tryz.prog Tryz.f9 Rows.coalesceSameUptoRow.domain false Rows.coalesceSameUptoRow.laid) (((Rows.OpenSpec.upto Rows.coalesceSameSpec).at F).post enc Tryz.prog Tryz.f9 false true false false):=by
 obtain ⟨places,hx⟩:=reads os enc
 refine returnsInHanded_of_row (C:=Tryz.checked) (s:=Rows.OpenSpec.upto Rows.coalesceSameSpec) ownTryz started (by kernel_rfl) Tryz.func9
  (witness_row_at (enc:=enc) (C:=Tryz.checked) false (laidWorld Tryz.prog Rows.coalesceSameUptoRow.laid os) wit rfl (by kernel_rfl) (by kernel_rfl) (by kernel_rfl)
   (OpenSpec.preRow_of_cond 8 hx (by kernel_rfl) (fun k hk=>by cases hk;kernel_rfl) (by kernel_rfl) (laid_met os))) ?_
 intro W base args ds gs before hval hW _ hcond _ hL hsh _
 exact contract H enc W base args ds gs before hval hW hL hsh (of_decide_eq_true (hcond _ rfl))
theorem said:Rows.CoalesceSameUptoSaid :=
 OpenClaim.holds_of_cond 9 Tryz.f9 rfl rfl rfl rfl rfl rfl rfl ⟨rfl,rfl,rfl,rfl,rfl⟩ rfl rfl rfl rfl rfl (by kernel_rfl) Tryz.func9 (by kernel_rfl)
  (of_decide_eq_true (by kernel_rfl)) (by unfold Func.isWrapper;first|(rw [if_pos (by decide +kernel)];kernel_rfl)|(rw [if_neg (by decide +kernel)];exact ⟨rfl,rfl⟩))
  (fun os started H enc _ F=>by rw [OpenClaim.pre_eq_preRow];exact lifted os started H enc F)
theorem plain (f:FuncId) (fn:Func) (hf:Tryz.pinned.checked.prog.funcNamed "bitemporal/bitemporallaw22.CoalesceSame" = some f) (hfn:Tryz.pinned.checked.prog.funcs[f]?=some fn) :
  false=Tryz.pinned.checked.prog.looks []∧∀ (j:Nat) t,fn.params[j]?=some t→Tryz.pinned.checked.prog.wantsStandIn t=false:=by
 obtain rfl:f=9:=Option.some.inj ((show Tryz.prog.funcNamed "bitemporal/bitemporallaw22.CoalesceSame" = some 9 by kernel_rfl).symm.trans hf) |>.symm
 obtain rfl:fn=Tryz.f9:=(Option.some.inj (Tryz.func9.symm.trans hfn)).symm
 refine ⟨by kernel_rfl,fun j t ht=>?_⟩
 rw [Tryz.params9] at ht
 have hm:=Array.mem_of_getElem? ht
 have:([22,22]:List Nat).all (fun t=>!(Tryz.prog.wantsStandIn t))=true:=by kernel_rfl
 have:=List.all_eq_true.1 this t (by simpa using hm)
 show Tryz.prog.wantsStandIn t=false
 simpa using this
theorem card:Rows.CoalesceSameUptoCardSaid :=
 Claim7.holds_tied_plain_at .later [] _ _ _ _ said (fun _ h=>by cases h) (by kernel_rfl) (fun _ h=>by cases h) coalesceSameUpto_row_tie rfl ⟨rfl,rfl⟩ (by kernel_rfl) rfl plain (by kernel_rfl)
end Go.Proofs.YtefloaolddjnhaaGreatDoor.coalesceSame
end
