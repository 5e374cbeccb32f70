/- Part 17 of the proof of the law. -/
import Derived.Test.YtefloaolddjnhaaGreatDoorQF16
import Derived.Lib.ItoaLen
set_option linter.unusedVariables false
set_option linter.unusedSimpArgs false
set_option linter.unusedSectionVars false
noncomputable section
set_option maxRecDepth 100000
namespace Go.Sim.M
open Go.RowKit Go.Sim.Srt
def rdD (l:List UInt8):Nat:=l.foldl (fun a c=>a*10+(c.toNat - 48)) 0
theorem xOA (u:Nat):∀ c,c∈Lib.decDigits u→48≤c.toNat∧c.toNat≤57:=by
 induction u using Nat.strongRecOn with
 | _ u ih =>
  intro c hc
  rw [Lib.decDigits] at hc
  split at hc
  · rw [List.mem_singleton] at hc
    subst hc
    rw [UInt8.toNat_ofNat'];omega
  · rw [List.mem_append,List.mem_singleton] at hc
    rcases hc with hc|rfl
    · exact ih (u / 10) (by omega) c hc
    · rw [UInt8.toNat_ofNat'];omega
theorem xRK (u:Nat):rdD (Lib.decDigits u)=u:=by
 induction u using Nat.strongRecOn with
 | _ u ih =>
  rw [Lib.decDigits]
  split
  · simp only [rdD,List.foldl_cons,List.foldl_nil,UInt8.toNat_ofNat'];omega
  · have:=ih (u / 10) (by omega)
    unfold rdD at this ⊢
    rw [List.foldl_append,this]
    simp only [List.foldl_cons,List.foldl_nil,UInt8.toNat_ofNat'];omega
theorem xOB {u v:Nat} (h:Lib.decDigits u=Lib.decDigits v):u=v:=by rw [←xRK u,h,xRK]
theorem xGh {a b:Int} (h:Lib.itoa a=Lib.itoa b):a=b:=by
 unfold Lib.itoa at h
 have k:∀ u v:Nat,45::Lib.decDigits u≠Lib.decDigits v:=fun u v e=>by
  have:=xOA v 45 (by rw [←e];simp)
  have t:(45:UInt8).toNat=45:=rfl
  omega
 split at h<;>split at h
 · have:=xOB (List.cons.inj h).2;omega
 · exact absurd h (k _ _)
 · exact absurd h.symm (k _ _)
 · have:=xOB h;omega
theorem xvk (a:Int):(32:UInt8)∉Lib.itoa a:=by
 have k:∀ v:Nat,(32:UInt8)∉Lib.decDigits v:=fun v e=>by
  have:=xOA v 32 e
  have t:(32:UInt8).toNat=32:=rfl
  omega
 unfold Lib.itoa
 split
 · rw [List.mem_cons]
   rintro (h|h)
   · simp at h
   · exact k _ h
 · exact k _
theorem xHr:∀ {a b x y:List UInt8},(32:UInt8)∉a→(32:UInt8)∉b→a++32::x=b++32::y→a=b∧x=y
 | [],[],x,y,_,_,h=>⟨rfl,(List.cons.inj h).2⟩
 | [],c::b,x,y,_,hb,h=>absurd (List.cons.inj h).1 fun e=>hb (by rw [e];simp)
 | c::a,[],x,y,ha,_,h=>absurd (List.cons.inj h).1 fun e=>ha (by rw [←e];simp)
 | c::a,d::b,x,y,ha,hb,h=>by
  obtain ⟨e1,h⟩:=List.cons.inj h
  obtain ⟨e2,e3⟩:=xHr (a:=a) (b:=b) (fun e=>ha (by simp [e])) (fun e=>hb (by simp [e])) h
  exact ⟨by rw [e1,e2],e3⟩
def keyV (v:Val):List UInt8:=Lib.itoa v.k++32::(Lib.itoa v.i++32::(Lib.itoa (v.t.length:Int)++32::v.t))
def keyOf (r:Row):List UInt8:=r.flatMap keyV
theorem xGj (v:Val) (s:List UInt8):keyV v++s=Lib.itoa v.k++32::(Lib.itoa v.i++32::(Lib.itoa (v.t.length:Int)++32::(v.t++s))):=by simp [keyV]
theorem xrS (v:Val) (r:Row):keyOf (v::r)=keyV v++keyOf r:=by simp [keyOf]
theorem xJd (v:Val) (s:List UInt8):keyV v++s≠[]:=by rw [xGj];simp
theorem xOH:∀ {r r':Row},keyOf r=keyOf r'→r=r'
 | [],[],_=>rfl
 | [],v::r',h=>by rw [xrS] at h;exact absurd h.symm (xJd _ _)
 | v::r,[],h=>by rw [xrS] at h;exact absurd h (xJd _ _)
 | v::r,v'::r',h=>by
  rw [xrS,xrS,xGj,xGj] at h
  obtain ⟨h1,h⟩:=xHr (xvk _) (xvk _) h
  obtain ⟨h2,h⟩:=xHr (xvk _) (xvk _) h
  obtain ⟨h3,h⟩:=xHr (xvk _) (xvk _) h
  have h3:=xGh h3
  obtain ⟨h4,h⟩:=List.append_inj h (by omega)
  obtain rfl:=xOH h
  have:v=v':=by
   obtain ⟨k,i,t⟩:=v;obtain ⟨k',i',t'⟩:=v'
   obtain rfl:=xGh h1;obtain rfl:=xGh h2;subst h4;rfl
  rw [this]
theorem xVE {n:Int} (h:(Lit.int .i64 n).wf=true):-9223372036854775808≤n∧n≤9223372036854775807:=by
 have h:(decide ((IntKind.i64).min≤n)&&decide (n≤(IntKind.i64).max))=true:=h
 rw [Bool.and_eq_true,decide_eq_true_eq,decide_eq_true_eq] at h
 exact h
theorem xMP {v:Val} (hw:v.wf) (ht:v.t.length≤1099511627776):(keyV v).length≤66+v.t.length:=by
 obtain ⟨w1,w2,_⟩:=hw
 have a1:=Lib.itoa_length_le v.k (xVE w1).1 (xVE w1).2
 have a2:=Lib.itoa_length_le v.i (xVE w2).1 (xVE w2).2
 have a3:=Lib.itoa_length_le (v.t.length:Int) (by omega) (by omega)
 simp only [keyV,List.length_append,List.length_cons]
 omega
theorem xKb (s B:List UInt8) (h:(B++s).length≤140737488355328):xaO s B.length (byteAVs B)=some ((s.length:Int),(B++s).length,byteAVs (B++s)):=by
 rw [List.length_append] at h
 have h2:B.length+s.length≤4611686018427387904:=by omega
 unfold xaO xdY
 simp only [xo4,beq_self_eq_true,Nat.mul_one,h,h2,decide_true,Bool.and_self,xai,xze,List.length_append]
theorem xNt (B:List UInt8) (h:(B++[32]).length≤140737488355328):xbq 32 B.length (byteAVs B)=some ((B++[32]).length,byteAVs (B++[32])):=by
 rw [List.length_append,List.length_singleton] at h
 have h2:B.length+1≤4611686018427387904:=by omega
 unfold xbq xes
 simp only [xo4,beq_self_eq_true,Nat.mul_one,h,h2,decide_true,Bool.and_self,xai,xze,List.length_append,List.length_singleton]
 rfl
def numI (n:Int):List UInt8:=Lib.itoa n++[32]
theorem xPJ (t8:List AV) (t9 t10:Int) (xs:List AV) (hx:xs.length=3) (j:Nat) (hj:j<3) (n:Int) (hn:xs.getD j .top=.int .i64 n) (h1:-9223372036854775808≤n) (h2:n≤9223372036854775807) (v0 v1:Int) (v2 B:List UInt8) (hB:B.length≤70368744177664) :
  xbg t8 t9 t10 3 3 ((j:Int),B.length,v0,v1,v2,xs,byteAVs B)=some (.inl (((j+1:Nat):Int),(B++numI n).length,v0,v1,v2,xs,byteAVs (B++numI n))):=by
 have hl:=Lib.itoa_length_le n h1 h2
 have i1:(j:Int)<3:=by omega
 have i2:(j:Int)<((3:Nat):Int):=by omega
 have i3:j<xs.length:=by omega
 have e1:=xKb (Lib.itoa n) B (by rw [List.length_append];omega)
 have e2:=xNt (B++Lib.itoa n) (by rw [List.length_append,List.length_append,List.length_singleton];omega)
 have hc:((AV.int IntKind.i64 n).cells.getD 0 .top).toInt=n:=rfl
 have hs:hasSh1 (Sh.int IntKind.i64) ((AV.int IntKind.i64 n).cells.getD 0 .top)=true:=rfl
 simp only [xbg,xjf,xoi,xoj,xok,xij,List.length_map,xai,xaj,decide_true,decide_false,Bool.and_true,Bool.true_and,Bool.not_true,Bool.not_false,Int.toNat_natCast,Int.natCast_nonneg,Option.isSome_some,Option.getD_some,beq_self_eq_true,Nat.zero_add,Nat.sub_zero,i1,i2,i3,hn,hc,hs,h1,h2,e1,e2,xVi (n:=j) (by omega),numI,List.append_assoc]
theorem xTV (t8:List AV) (t9 t10:Int) (xs:List AV) (v0 v1:Int) (v2 B:List UInt8):xbg t8 t9 t10 3 3 (((3:Nat):Int),B.length,v0,v1,v2,xs,byteAVs B)=some (.inr (B.length,v0,v1,v2,byteAVs B)):=by
 have i1:¬ ((3:Nat):Int)<3:=by omega
 simp only [xbg,xjf,i1,decide_false,xaj]
theorem xGk (v:Val):keyV v=numI v.k++(numI v.i++(numI (v.t.length:Int)++v.t)):=by simp [keyV,numI]
def KOk (v:Val):Prop:=v.wf∧v.t.length≤1099511627776
theorem KOk.len {v:Val} (h:KOk v):(keyV v).length≤1099511627842:=by have:=xMP h.1 h.2;have:=h.2;omega
theorem xOI (t8:List AV) (t9 t10:Int) (v:Val) (h:KOk v) (B:List UInt8) (hB:B.length≤35184372088832) :
  Iter (xbg t8 t9 t10 3 3) ((1:Int),(B++numI v.k).length,v.k,v.i,v.t,[AV.int .i64 v.k,AV.int .i64 v.i,AV.int .i64 (v.t.length:Int)],byteAVs (B++numI v.k))=some ((B++numI v.k++numI v.i++numI (v.t.length:Int)).length,v.k,v.i,v.t,byteAVs (B++numI v.k++numI v.i++numI (v.t.length:Int))):=by
 have hl:=h.len
 have ht:=h.2
 rw [xGk,List.length_append,List.length_append,List.length_append] at hl
 have e1:=xPJ t8 t9 t10 [AV.int .i64 v.k,AV.int .i64 v.i,AV.int .i64 (v.t.length:Int)] rfl 1 (by omega) v.i rfl (xVE h.1.2.1).1 (xVE h.1.2.1).2 v.k v.i v.t (B++numI v.k) (by rw [List.length_append];omega)
 have e2:=xPJ t8 t9 t10 [AV.int .i64 v.k,AV.int .i64 v.i,AV.int .i64 (v.t.length:Int)] rfl 2 (by omega) (v.t.length:Int) rfl (by omega) (by omega) v.k v.i v.t (B++numI v.k++numI v.i) (by rw [List.length_append,List.length_append];omega)
 exact (xaZ e1).trans ((xaZ e2).trans (xaJ (xTV ..)))
theorem xUJ (t8:List AV) (t9 t10:Int) (v:Val) (h:KOk v) (B:List UInt8) (hB:B.length≤35184372088832) :
  Iter (xbg t8 t9 t10 3 3) ((0:Int),B.length,v.k,v.i,v.t,[AV.int .i64 v.k,AV.int .i64 v.i,AV.int .i64 (v.t.length:Int)],byteAVs B)=some ((B++numI v.k++numI v.i++numI (v.t.length:Int)).length,v.k,v.i,v.t,byteAVs (B++numI v.k++numI v.i++numI (v.t.length:Int))):=by
 have e0:=xPJ t8 t9 t10 [AV.int .i64 v.k,AV.int .i64 v.i,AV.int .i64 (v.t.length:Int)] rfl 0 (by omega) v.k rfl (xVE h.1.1).1 (xVE h.1.1).2 v.k v.i v.t B (by omega)
 exact (xaZ e0).trans (xOI t8 t9 t10 v h B hB)
theorem xRp (r:Row) (hr:r.length≤1048576) (h:∀ v,v∈r→KOk v) (hk:(keyOf r).length≤17592186044416):∀ d k:Nat,k+d=r.length→Iter (xcC (r.map encV) ((r.length:Nat):Int)) ((k:Int),(keyOf (r.take k)).length,byteAVs (keyOf (r.take k)))=some ((keyOf r).length,byteAVs (keyOf r))
 | 0,k,hkk=>by
  obtain rfl:k=r.length:=by omega
  rw [List.take_length]
  refine xaJ ?_
  simp only [xcC,xje,Int.lt_irrefl,decide_false,xaj]
 | d+1,k,hkk=>by
  have hlt:k<r.length:=by omega
  have hv:=h r[k] (List.getElem_mem hlt)
  have i1:(k:Int)<(r.length:Int):=by omega
  have gf:(r.map encV).getD k .top=encV r[k]:=xaH _ _ _ hlt
  have tk:keyOf (r.take (k+1))=keyOf (r.take k)++keyV r[k]:=by
   unfold keyOf;rw [List.take_add_one,List.getElem?_eq_getElem hlt,List.flatMap_append];simp
  have le:(keyOf (r.take (k+1))).length≤(keyOf r).length:=by
   conv=>rhs;rw [←List.take_append_drop (k+1) r]
   unfold keyOf
   rw [List.flatMap_append,List.length_append];omega
  have hl:=hv.len
  rw [tk,List.length_append] at le
  have e1:=xUJ (r.map encV) (r.length:Int) (k:Int) r[k] hv (keyOf (r.take k)) (by omega)
  have kn:keyOf (r.take k)++keyV r[k]=keyOf (r.take k)++numI r[k].k++numI r[k].i++numI (r[k].t.length:Int)++r[k].t:=by rw [xGk];simp only [List.append_assoc]
  have e2:=xKb r[k].t (keyOf (r.take k)++numI r[k].k++numI r[k].i++numI (r[k].t.length:Int)) (by rw [←kn,List.length_append];omega)
  rw [xaZ (s':=(((k+1:Nat):Int),(keyOf (r.take (k+1))).length,byteAVs (keyOf (r.take (k+1))))) ?_]
  · exact xRp r hr h hk d (k+1) (by omega)
  · rw [tk,kn]
    simp only [xcC,xje,xoc,xod,xoe,xof,xog,List.length_map,xai,xaj,decide_true,decide_false,Bool.and_true,Bool.true_and,Bool.not_true,Bool.not_false,Int.toNat_natCast,Int.natCast_nonneg,Option.isSome_some,Option.getD_some,beq_self_eq_true,Nat.zero_add,Nat.sub_zero,hlt,i1,gf,cV0,cV1,cV2,lV,sV,e1,e2,xVi (n:=k) (by omega)]
theorem xUK (r:Row) (hr:r.length≤1048576) (h:∀ v,v∈r→KOk v) (hk:(keyOf r).length≤17592186044416):xgM (r.map encV)=some (keyOf r):=by
 match r with
 | []=>rfl
 | v::t =>
  have hv:=h v (by simp)
  have hl:=hv.len
  have i1:(0:Int)<((t.length+1:Nat):Int):=by omega
  have i2:0<t.length+1:=by omega
  obtain ⟨r1,r2⟩:=xVE hv.1.1
  have hln:=Lib.itoa_length_le v.k r1 r2
  have gf:((v::t).map encV).getD 0 .top=encV v:=rfl
  have e0:xaR (Lib.itoa v.k)=some (((Lib.itoa v.k).length:Int),(Lib.itoa v.k).length,byteAVs (Lib.itoa v.k)):=by
   have m1:(Lib.itoa v.k).length≤140737488355328:=by omega
   have m2:(Lib.itoa v.k).length≤4611686018427387904:=by omega
   unfold xaR xd7
   simp only [xo4,Nat.mul_one,m1,m2,decide_true,Bool.and_self,xai]
  have e1:xbP 32 (Lib.itoa v.k).length (byteAVs (Lib.itoa v.k))=some (([]++numI v.k).length,byteAVs ([]++numI v.k)):=xNt (Lib.itoa v.k) (by rw [List.length_append,List.length_singleton];omega)
  have e2:=xOI ((v::t).map encV) ((t.length+1:Nat):Int) 0 v hv [] (by simp)
  have kn:keyV v=[]++numI v.k++numI v.i++numI (v.t.length:Int)++v.t:=by rw [xGk];simp
  have e3:=xKb v.t ([]++numI v.k++numI v.i++numI (v.t.length:Int)) (by rw [←kn];omega)
  rw [←kn] at e3
  have e4:=xRp (v::t) hr h hk t.length 1 (by rw [List.length_cons];omega)
  have tk:keyOf ((v::t).take 1)=keyV v:=by simp [keyOf]
  rw [tk,List.length_cons] at e4
  have e4:Iter (xcC ((v::t).map encV) ((t.length+1:Nat):Int)) ((1:Int),(keyV v).length,byteAVs (keyV v))=_:=e4
  have hne:(keyOf (v::t)).length≠0:=fun e=>xJd v (keyOf t) (by rw [←xrS];exact List.length_eq_zero_iff.1 e)
  unfold xgM xo7 xkZ xrG xrH xrI xrJ xrK xrL xrM xrN xrO xeG
  simp only [List.length_map,List.length_cons,i1,i2,gf,cV0,cV1,cV2,lV,sV,r1,r2,e0,e1,e2,e3,e4,decide_true,xai,Bool.and_self,beq_self_eq_true,Option.isSome_some,Option.getD_some,xo4,xHC,xLG,ne_eq,hne,not_false_eq_true]
end Go.Sim.M
end
noncomputable section
set_option maxRecDepth 100000
namespace Go.Sim.M
open Go.RowKit Go.Sim.Srt
abbrev Grp:=Row×List Per
def encG (g:Grp):AV:=.agg [.list 3 (g.1.map encV),.list 2 (g.2.map encP)]
def okEG (x:AV):Bool:=x.cells.length==(2:Nat)&&hasShs [Sh.list (3:Nat),Sh.list (2:Nat)] x.cells (0:Nat)
def ldEG (x:AV):AV:=AV.agg [AV.list (3:Nat) (x.cells.getD (0:Nat) AV.top).toList,AV.list (2:Nat) (x.cells.getD (1:Nat) AV.top).toList]
noncomputable def xVG (x y:AV):Bool:=(xcQ (x.cells.getD 0 AV.top).toList (x.cells.getD 1 AV.top).toList (y.cells.getD 0 AV.top).toList (y.cells.getD 1 AV.top).toList).isSome
noncomputable def xVH (x y:AV):Int:=(xcQ (x.cells.getD 0 AV.top).toList (x.cells.getD 1 AV.top).toList (y.cells.getD 0 AV.top).toList (y.cells.getD 1 AV.top).toList).getD 0
theorem heG (a:Grp):okEG (encG a)=true:=rfl
theorem hdG (a:Grp):ldEG (encG a)=encG a:=rfl
section
variable {N : Nat} (hN : N ≤ 2 ^ 60) {ok : Grp → Prop} {c : Grp → Grp → Int} (hc : ∀ x y, ok x → ok y → xVG (encG x) (encG y) = true ∧ xVH (encG x) (encG y) = c x y)
include hN
theorem xTz (a b n:Nat) (l r:List Grp) (ha:a≤2 ^ 60) (hb:b≤2 ^ 60) (hn:n≤2 ^ 60) (hl:LOk N ok l) (hr:swr a b n l=some r):xaW N a b n (List.map encG l)=some (List.map encG r)∧LOk N ok r:=by
 obtain ⟨e1,e2⟩:=xUf (okE:=okEG) (ldE:=ldEG) heG hdG hN a b n ha hb hn (g:=xbf N a b n) (fun i xs=>rfl) hl hr
 refine ⟨?_,e2⟩
 unfold xaW xfo
 rw [e1];rfl
theorem xU7 (a m b:Nat) (l r:List Grp) (h1:a≤m) (h2:m≤b) (h3:b≤N) (hl:LOk N ok l) (hr:rot a m b l=some r):xbe N a m b (List.map encG l)=some (List.map encG r)∧LOk N ok r:=by
 unfold rot at hr
 cases hi:Iter (xVn m) (m - a,b - m,l) with
 | none=>rw [hi] at hr;simp at hr
 | some p =>
  obtain ⟨i,l'⟩:=p
  rw [hi] at hr
  obtain ⟨e1,e2,e3⟩:=xUe (enc:=encG) hN (ok:=ok) (SW:=fun a b n xs=>xaW N a b n xs) (fun a b n l r ha hb hn hl hr=>xTz hN a b n l r ha hb hn hl hr) m (by omega) (g:=xcg N m) (fun i j xs=>rfl) (by omega) (by omega) hl hi
  obtain ⟨e4,e5⟩:=xTz hN (m - i) m i l' r (by omega) (by omega) (by omega) e3 hr
  refine ⟨?_,e5⟩
  simp only [xbe,xgW,xjI,xjJ,xjK,xjL,w64 (x:=(m:Int) - (a:Int)) (n:=m - a) (by omega) (by omega),w64 (x:=(b:Int) - (m:Int)) (n:=b - m) (by omega) (by omega),e1,Option.getD_some,Option.isSome_some,xai,w64 (x:=(m:Int) - (i:Int)) (n:=m - i) (by omega) (by omega),e4]
include hc
theorem xTw (a b:Nat) (ha:a≤N) (hb:b≤N) {l r:List Grp} (hl:LOk N ok l) (hr:xVA c a b l=some r):xaY N a b (List.map encG l)=some (List.map encG r)∧LOk N ok r:=by
 obtain ⟨e1,e2⟩:=xS4 (enc:=encG) hN (c:=c) (ok:=ok) a b hb (gi:=fun i=>xa3 N a b i) (fun i l r hl hr=>xUd (okE:=okEG) (ldE:=ldEG) heG hdG hN (P:=xVG) (V:=xVH) hc a (fun j xs=>rfl) hl hr) (g:=xa2 N a b) (fun i xs=>rfl) hl hr
 refine ⟨?_,e2⟩
 unfold xaY xd3
 rw [w64 (x:=(a:Int)+1) (n:=a+1) (by omega) (by omega),e1];rfl
theorem xTA:∀ (f a m b:Nat) (l r:List Grp),a<m→m<b→b≤N→LOk N ok l→symM c f a m b l=some r→xaT f N a m b (List.map encG l)=some (List.map encG r)∧LOk N ok r:=by
 intro f
 induction f with
 | zero=>intro a m b l r _ _ _ _ hr;simp [symM] at hr
 | succ f ih =>
  intro a m b l r ham hmb hb hl hr
  unfold symM at hr
  show xaw (xaT f) N a m b (List.map encG l)=some (List.map encG r)∧LOk N ok r
  have wma:IntKind.i64.wrap ((m:Int) - (a:Int))=((m - a:Nat):Int):=w64 (by omega) (by omega)
  have wbm:IntKind.i64.wrap ((b:Int) - (m:Int))=((b - m:Nat):Int):=w64 (by omega) (by omega)
  by_cases h1:m - a=1
  · rw [if_pos h1] at hr
    cases hi:Iter (xVm fun h=>(get2 c l h a).map fun r=>decide (r<0)) (m,b) with
    | none=>rw [hi] at hr;simp at hr
    | some i =>
     rw [hi] at hr
     obtain ⟨e0,b1,b2⟩:=xNi (okE:=okEG) heG hN (P:=xVG) (V:=xVH) hc (fun h=>h) (fun _=>a) (fun h=>h) (fun _=>(a:Int)) m b (by omega) (fun _ _ _=>rfl) (fun _ _ _=>rfl) (fun r=>decide (r<0)) (g:=xa5 N a) (fun i j xs=>rfl) hl (Nat.le_refl _) (Nat.le_refl _) (by omega) hi
     obtain ⟨e1,e2⟩:=xUX (okE:=okEG) (ldE:=ldEG) heG hdG hN (ok:=ok) (i - 1) i (by omega) (by omega) (g:=xbN N i) (fun k xs=>rfl) hl hr
     refine ⟨?_,e2⟩
     simp only [xaw,xaG,xam,xan,xae,xao,xap,xaf,xag,xah,xac,xad,xas,xat,xau,xaa,xav,xay,xaz,xaA,xaB,xaC,xaD,xaE,xaF,xak,xal,wma,h1,e0,Option.getD_some,Option.isSome_some,xai,e1,Int.natCast_one,beq_self_eq_true]
  · rw [if_neg h1] at hr
    have d1:(((m - a:Nat):Int)==1)=false:=by simp;omega
    by_cases h2:b - m=1
    · rw [if_pos h2] at hr
      cases hi:Iter (xVm fun h=>(get2 c l m h).map fun r=>!decide (r<0)) (a,m) with
      | none=>rw [hi] at hr;simp at hr
      | some i =>
       rw [hi] at hr
       obtain ⟨e0,b1,b2⟩:=xNi (okE:=okEG) heG hN (P:=xVG) (V:=xVH) hc (fun _=>m) (fun h=>h) (fun _=>(m:Int)) (fun h=>h) a m (by omega) (fun _ _ _=>rfl) (fun _ _ _=>rfl) (fun r=>!decide (r<0)) (g:=xa6 N m) (fun i j xs=>rfl) hl (Nat.le_refl _) (Nat.le_refl _) (by omega) hi
       obtain ⟨e1,e2⟩:=xS3 (okE:=okEG) (ldE:=ldEG) heG hdG hN (ok:=ok) i (g:=xbO N i) (fun k xs=>rfl) hl hr
       refine ⟨?_,e2⟩
       simp only [xaw,xaG,xam,xan,xae,xao,xap,xaf,xag,xah,xac,xad,xas,xat,xau,xaa,xav,xay,xaz,xaA,xaB,xaC,xaD,xaE,xaF,xak,xal,wma,wbm,d1,h2,e0,Option.getD_some,Option.isSome_some,xai,xaj,e1,Int.natCast_one,beq_self_eq_true]
    · rw [if_neg h2] at hr
      have d2:(((b - m:Nat):Int)==1)=false:=by simp;omega
      have hh:IntKind.i64.wrap ((IntKind.u64.wrap (IntKind.i64.wrap ((a:Int)+(b:Int)))).fdiv 2)=(((a+b) / 2:Nat):Int):=xVT (by omega)
      obtain ⟨mid,hmid⟩:∃ mid,mid=(a+b) / 2:=⟨_,rfl⟩
      rw [←hmid] at hr hh
      have w2:IntKind.i64.wrap ((mid:Int)+(m:Int))=((mid+m:Nat):Int):=w64 (by omega) (by omega)
      have w3:IntKind.i64.wrap (((mid+m:Nat):Int) - 1)=((mid+m - 1:Nat):Int):=w64 (by omega) (by omega)
      obtain ⟨lo,hi,hlh,g1,g2,g3,g4,hst⟩:∃ lo hi,(if mid<m then (mid+m - b,mid) else (a,m))=(lo,hi)∧a≤lo∧lo≤hi∧hi≤m∧hi≤mid∧((mid<m∧lo=mid+m - b∧hi=mid)∨(¬ mid<m∧lo=a∧hi=m)):=by
       by_cases h:mid<m
       · exact ⟨_,_,if_pos h,by omega,by omega,by omega,by omega,.inl ⟨h,rfl,rfl⟩⟩
       · exact ⟨_,_,if_neg h,by omega,by omega,by omega,by omega,.inr ⟨h,rfl,rfl⟩⟩
      rw [hlh] at hr
      cases hs:Iter (xVm fun h=>(get2 c l (mid+m - 1 - h) h).map fun r=>!decide (r<0)) (lo,hi) with
      | none=>rw [hs] at hr;simp at hr
      | some s =>
       rw [hs] at hr
       dsimp only at hr
       obtain ⟨e0,b1,b2⟩:=xNi (okE:=okEG) heG hN (P:=xVG) (V:=xVH) hc (fun h=>mid+m - 1 - h) (fun h=>h) (fun h=>IntKind.i64.wrap (((mid+m - 1:Nat):Int) - h)) (fun h=>h) lo hi (by omega) (fun h _ _=>w64 (by omega) (by omega)) (fun _ _ _=>rfl) (fun r=>!decide (r<0)) (g:=xbk N a m b mid ((mid+m:Nat):Int) ((mid+m - 1:Nat):Int)) (fun i j xs=>rfl) hl (Nat.le_refl _) (Nat.le_refl _) g2 hs
       have w5:IntKind.i64.wrap (((mid+m:Nat):Int) - (s:Int))=((mid+m - s:Nat):Int):=w64 (by omega) (by omega)
       obtain ⟨e,he⟩:∃ e,e=mid+m - s:=⟨_,rfl⟩
       rw [←he] at hr w5
       cases hrot:(if s<m∧m<e then rot s m e l else some l) with
       | none=>rw [hrot] at hr;simp at hr
       | some l1 =>
        rw [hrot] at hr
        dsimp only at hr
        have k1:(s<m∧m<e∧xbe N s m e (List.map encG l)=some (List.map encG l1)∧LOk N ok l1)∨(¬ (s<m∧m<e)∧l1=l):=by
         by_cases h:s<m∧m<e
         · rw [if_pos h] at hrot
           obtain ⟨x1,x2⟩:=xU7 hN s m e l l1 (by omega) (by omega) (by omega) hl hrot
           exact .inl ⟨h.1,h.2,x1,x2⟩
         · rw [if_neg h] at hrot
           simp only [Option.some.injEq] at hrot
           exact .inr ⟨h,hrot.symm⟩
        have hl1:LOk N ok l1:=by
         rcases k1 with k|k
         · exact k.2.2.2
         · rw [k.2];exact hl
        cases hlf:(if a<s∧s<mid then symM c f a s mid l1 else some l1) with
        | none=>rw [hlf] at hr;simp at hr
        | some l2 =>
         rw [hlf] at hr
         dsimp only at hr
         have k2:(a<s∧s<mid∧xaT f N a s mid (List.map encG l1)=some (List.map encG l2)∧LOk N ok l2)∨(¬ (a<s∧s<mid)∧l2=l1):=by
          by_cases h:a<s∧s<mid
          · rw [if_pos h] at hlf
            obtain ⟨x1,x2⟩:=ih a s mid l1 l2 h.1 h.2 (by omega) hl1 hlf
            exact .inl ⟨h.1,h.2,x1,x2⟩
          · rw [if_neg h] at hlf
            simp only [Option.some.injEq] at hlf
            exact .inr ⟨h,hlf.symm⟩
         have hl2:LOk N ok l2:=by
          rcases k2 with k|k
          · exact k.2.2.2
          · rw [k.2];exact hl1
         have k3:(mid<e∧e<b∧xaT f N mid e b (List.map encG l2)=some (List.map encG r)∧LOk N ok r)∨(¬ (mid<e∧e<b)∧r=l2):=by
          by_cases h:mid<e∧e<b
          · rw [if_pos h] at hr
            obtain ⟨x1,x2⟩:=ih mid e b l2 r h.1 h.2 hb hl2 hr
            exact .inl ⟨h.1,h.2,x1,x2⟩
          · rw [if_neg h] at hr
            simp only [Option.some.injEq] at hr
            exact .inr ⟨h,hr.symm⟩
         refine ⟨?_,?_⟩
         · clear ih hc hl hl1 hl2 hr hlf hrot hs hlh
           rcases hst with ⟨hm,hlo,hhi⟩|⟨hm,hlo,hhi⟩
           · rw [hlo,hhi] at e0
             have w4:IntKind.i64.wrap (((mid+m:Nat):Int) - (b:Int))=((mid+m - b:Nat):Int):=w64 (by omega) (by omega)
             have dm:decide ((m:Int)>(mid:Int))=true:=by simp [hm]
             rcases k1 with ⟨p1,p2,p3,_⟩|⟨p1,rfl⟩<;>rcases k2 with ⟨q1,q2,q3,_⟩|⟨q1,rfl⟩<;>rcases k3 with ⟨r1,r2,r3,_⟩|⟨r1,rfl⟩ <;>
              (by_cases t1:s<m<;>by_cases t2:m<e<;>by_cases t3:a<s<;>by_cases t4:s<mid<;>by_cases t5:mid<e<;>by_cases t6:e<b<;>first|(exfalso;omega) |
               (simp only [xaw,xaG,xam,xan,xae,xao,xap,xaf,xag,xah,xac,xad,xas,xat,xau,xaa,xav,xay,xaz,xaA,xaB,xaC,xaD,xaE,xaF,xak,xal,wma,wbm,d1,d2,hh,w2,w3,w4,dm,e0,w5,Option.getD_some,Option.isSome_some,xai,xaj,Int.ofNat_lt,t1,t2,t3,t4,t5,t6,decide_true,decide_false,hm,p3,q3,r3]) |
               (simp only [xaw,xaG,xam,xan,xae,xao,xap,xaf,xag,xah,xac,xad,xas,xat,xau,xaa,xav,xay,xaz,xaA,xaB,xaC,xaD,xaE,xaF,xak,xal,wma,wbm,d1,d2,hh,w2,w3,w4,dm,e0,w5,Option.getD_some,Option.isSome_some,xai,xaj,Int.ofNat_lt,t1,t2,t3,t4,t5,t6,decide_true,decide_false,hm,p3,q3]) |
               (simp only [xaw,xaG,xam,xan,xae,xao,xap,xaf,xag,xah,xac,xad,xas,xat,xau,xaa,xav,xay,xaz,xaA,xaB,xaC,xaD,xaE,xaF,xak,xal,wma,wbm,d1,d2,hh,w2,w3,w4,dm,e0,w5,Option.getD_some,Option.isSome_some,xai,xaj,Int.ofNat_lt,t1,t2,t3,t4,t5,t6,decide_true,decide_false,hm,p3,r3]) |
               (simp only [xaw,xaG,xam,xan,xae,xao,xap,xaf,xag,xah,xac,xad,xas,xat,xau,xaa,xav,xay,xaz,xaA,xaB,xaC,xaD,xaE,xaF,xak,xal,wma,wbm,d1,d2,hh,w2,w3,w4,dm,e0,w5,Option.getD_some,Option.isSome_some,xai,xaj,Int.ofNat_lt,t1,t2,t3,t4,t5,t6,decide_true,decide_false,hm,q3,r3]) |
               (simp only [xaw,xaG,xam,xan,xae,xao,xap,xaf,xag,xah,xac,xad,xas,xat,xau,xaa,xav,xay,xaz,xaA,xaB,xaC,xaD,xaE,xaF,xak,xal,wma,wbm,d1,d2,hh,w2,w3,w4,dm,e0,w5,Option.getD_some,Option.isSome_some,xai,xaj,Int.ofNat_lt,t1,t2,t3,t4,t5,t6,decide_true,decide_false,hm,p3]) |
               (simp only [xaw,xaG,xam,xan,xae,xao,xap,xaf,xag,xah,xac,xad,xas,xat,xau,xaa,xav,xay,xaz,xaA,xaB,xaC,xaD,xaE,xaF,xak,xal,wma,wbm,d1,d2,hh,w2,w3,w4,dm,e0,w5,Option.getD_some,Option.isSome_some,xai,xaj,Int.ofNat_lt,t1,t2,t3,t4,t5,t6,decide_true,decide_false,hm,q3]) |
               (simp only [xaw,xaG,xam,xan,xae,xao,xap,xaf,xag,xah,xac,xad,xas,xat,xau,xaa,xav,xay,xaz,xaA,xaB,xaC,xaD,xaE,xaF,xak,xal,wma,wbm,d1,d2,hh,w2,w3,w4,dm,e0,w5,Option.getD_some,Option.isSome_some,xai,xaj,Int.ofNat_lt,t1,t2,t3,t4,t5,t6,decide_true,decide_false,hm,r3]) |
               (simp only [xaw,xaG,xam,xan,xae,xao,xap,xaf,xag,xah,xac,xad,xas,xat,xau,xaa,xav,xay,xaz,xaA,xaB,xaC,xaD,xaE,xaF,xak,xal,wma,wbm,d1,d2,hh,w2,w3,w4,dm,e0,w5,Option.getD_some,Option.isSome_some,xai,xaj,Int.ofNat_lt,t1,t2,t3,t4,t5,t6,decide_true,decide_false,hm]))
           · rw [hlo,hhi] at e0
             have dm:decide ((m:Int)>(mid:Int))=false:=by simp;omega
             rcases k1 with ⟨p1,p2,p3,_⟩|⟨p1,rfl⟩<;>rcases k2 with ⟨q1,q2,q3,_⟩|⟨q1,rfl⟩<;>rcases k3 with ⟨r1,r2,r3,_⟩|⟨r1,rfl⟩ <;>
              (by_cases t1:s<m<;>by_cases t2:m<e<;>by_cases t3:a<s<;>by_cases t4:s<mid<;>by_cases t5:mid<e<;>by_cases t6:e<b<;>first|(exfalso;omega) |
               (simp only [xaw,xaG,xam,xan,xae,xao,xap,xaf,xag,xah,xac,xad,xas,xat,xau,xaa,xav,xay,xaz,xaA,xaB,xaC,xaD,xaE,xaF,xak,xal,wma,wbm,d1,d2,hh,w2,w3,dm,e0,w5,Option.getD_some,Option.isSome_some,xai,xaj,Int.ofNat_lt,t1,t2,t3,t4,t5,t6,decide_true,decide_false,hm,p3,q3,r3]) |
               (simp only [xaw,xaG,xam,xan,xae,xao,xap,xaf,xag,xah,xac,xad,xas,xat,xau,xaa,xav,xay,xaz,xaA,xaB,xaC,xaD,xaE,xaF,xak,xal,wma,wbm,d1,d2,hh,w2,w3,dm,e0,w5,Option.getD_some,Option.isSome_some,xai,xaj,Int.ofNat_lt,t1,t2,t3,t4,t5,t6,decide_true,decide_false,hm,p3,q3]) |
               (simp only [xaw,xaG,xam,xan,xae,xao,xap,xaf,xag,xah,xac,xad,xas,xat,xau,xaa,xav,xay,xaz,xaA,xaB,xaC,xaD,xaE,xaF,xak,xal,wma,wbm,d1,d2,hh,w2,w3,dm,e0,w5,Option.getD_some,Option.isSome_some,xai,xaj,Int.ofNat_lt,t1,t2,t3,t4,t5,t6,decide_true,decide_false,hm,p3,r3]) |
               (simp only [xaw,xaG,xam,xan,xae,xao,xap,xaf,xag,xah,xac,xad,xas,xat,xau,xaa,xav,xay,xaz,xaA,xaB,xaC,xaD,xaE,xaF,xak,xal,wma,wbm,d1,d2,hh,w2,w3,dm,e0,w5,Option.getD_some,Option.isSome_some,xai,xaj,Int.ofNat_lt,t1,t2,t3,t4,t5,t6,decide_true,decide_false,hm,q3,r3]) |
               (simp only [xaw,xaG,xam,xan,xae,xao,xap,xaf,xag,xah,xac,xad,xas,xat,xau,xaa,xav,xay,xaz,xaA,xaB,xaC,xaD,xaE,xaF,xak,xal,wma,wbm,d1,d2,hh,w2,w3,dm,e0,w5,Option.getD_some,Option.isSome_some,xai,xaj,Int.ofNat_lt,t1,t2,t3,t4,t5,t6,decide_true,decide_false,hm,p3]) |
               (simp only [xaw,xaG,xam,xan,xae,xao,xap,xaf,xag,xah,xac,xad,xas,xat,xau,xaa,xav,xay,xaz,xaA,xaB,xaC,xaD,xaE,xaF,xak,xal,wma,wbm,d1,d2,hh,w2,w3,dm,e0,w5,Option.getD_some,Option.isSome_some,xai,xaj,Int.ofNat_lt,t1,t2,t3,t4,t5,t6,decide_true,decide_false,hm,q3]) |
               (simp only [xaw,xaG,xam,xan,xae,xao,xap,xaf,xag,xah,xac,xad,xas,xat,xau,xaa,xav,xay,xaz,xaA,xaB,xaC,xaD,xaE,xaF,xak,xal,wma,wbm,d1,d2,hh,w2,w3,dm,e0,w5,Option.getD_some,Option.isSome_some,xai,xaj,Int.ofNat_lt,t1,t2,t3,t4,t5,t6,decide_true,decide_false,hm,r3]) |
               (simp only [xaw,xaG,xam,xan,xae,xao,xap,xaf,xag,xah,xac,xad,xas,xat,xau,xaa,xav,xay,xaz,xaA,xaB,xaC,xaD,xaE,xaF,xak,xal,wma,wbm,d1,d2,hh,w2,w3,dm,e0,w5,Option.getD_some,Option.isSome_some,xai,xaj,Int.ofNat_lt,t1,t2,t3,t4,t5,t6,decide_true,decide_false,hm]))
         · rcases k3 with k|k
           · exact k.2.2.2
           · rw [k.2];exact hl2
theorem xS5 {l r:List Grp} (hl:LOk N ok l) (hr:xVJ c 1000 N l=some r):xcM N N (List.map encG l)=some (List.map encG r)∧LOk N ok r:=by
 unfold xVJ at hr
 cases h1:Iter (xVC c N) (0,20,l) with
 | none=>rw [h1] at hr;simp at hr
 | some p =>
  obtain ⟨a,l1⟩:=p
  rw [h1] at hr
  dsimp only at hr
  obtain ⟨e1,ha,_,hl1⟩:=xNj (enc:=encG) hN (ok:=ok) 20 (by omega) (p:=xVC c N) (F:=fun a b l=>xVA c a b l) (fun a b l l' h e=>by simp only [xVC,h,if_true,e]) (fun a b l h e=>by simp only [xVC,h,if_true,e]) (fun a b l h=>by simp only [xVC,h,if_false]) (G:=fun a b xs=>xaY N a b xs) (fun a b l r hab _ hb hl hr=>xTw hN hc a b (by omega) hb hl hr) (g:=xa9 N N 20) (fun a b xs=>rfl) (a:=0) hl h1 (by omega)
  cases h2:xVA c a N l1 with
  | none=>rw [h2] at hr;simp at hr
  | some l2 =>
   rw [h2] at hr
   dsimp only at hr
   obtain ⟨e2,hl2⟩:=xTw hN hc a N ha (Nat.le_refl _) hl1 h2
   have e3:Iter (xaU N N) (((20:Nat):Int),List.map encG l2)=some (List.map encG r)∧LOk N ok r:=by
    refine xkx (I:=fun s=>1≤s.1∧LOk N ok s.2) (J:=LOk N ok) (e:=fun (s:Nat×List Grp)=>((s.1:Int),List.map encG s.2)) (f:=List.map encG) ?_ (s:=(20,l2)) ⟨by omega,hl2⟩ hr
    rintro ⟨bs,l⟩ ⟨hb,hl⟩
    dsimp only at hb hl
    by_cases h:bs<N
    · have wb:IntKind.i64.wrap (2*(bs:Int))=((2*bs:Nat):Int):=w64 (by omega) (by omega)
      have wb':IntKind.i64.wrap ((bs:Int)*2)=((bs*2:Nat):Int):=w64 (by omega) (by omega)
      cases h3:Iter (xVq c 1000 bs N) (0,2*bs,l) with
      | none=>exact xg4 (by simp [xVy,h,h3])
      | some p =>
       obtain ⟨a,l3⟩:=p
       obtain ⟨f1,f2,f3,f4⟩:=xNj (enc:=encG) hN (ok:=ok) (2*bs) (by omega) (p:=xVq c 1000 bs N) (F:=fun a b l=>symM c 1000 a (a+bs) b l) (fun a b l l' h e=>by simp only [xVq,h,if_true,e]) (fun a b l h e=>by simp only [xVq,h,if_true,e]) (fun a b l h=>by simp only [xVq,h,if_false]) (G:=fun a b xs=>xaT 1000 N a (IntKind.i64.wrap (a+(bs:Int))) b xs) (fun a b l r hab hb2 hbN hl hr=>by
        have:=xTA hN hc 1000 a (a+bs) b l r (by omega) (by omega) hbN hl hr
        rw [w64 (x:=(a:Int)+(bs:Int)) (n:=a+bs) (by omega) (by omega)]
        exact this) (g:=xbA N N bs) (fun a b xs=>by rw [←wb];rfl) (a:=0) hl (by rw [Nat.zero_add];exact h3) (by omega)
       rw [Nat.zero_add,←wb] at f1
       have f1':Iter (xbA N N bs) ((0:Int),IntKind.i64.wrap (2*(bs:Int)),List.map encG l)=some ((a:Int),List.map encG l3):=f1
       have wab:IntKind.i64.wrap ((a:Int)+(bs:Int))=((a+bs:Nat):Int):=w64 (by omega) (by omega)
       by_cases h4:a+bs<N
       · cases h5:symM c 1000 a (a+bs) N l3 with
         | none=>exact xg4 (by simp [xVy,h,h3,h4,h5])
         | some l4 =>
          obtain ⟨f5,f6⟩:=xTA hN hc 1000 a (a+bs) N l3 l4 (by omega) h4 (Nat.le_refl _) f4 h5
          refine xqo (s0:=(bs*2,l4)) (by simp [xVy,h,h3,h4,h5]) ?_ ⟨by dsimp only;omega,f6⟩
          have q1:(bs:Int)<(N:Int):=by omega
          have q2:((a+bs:Nat):Int)<(N:Int):=by omega
          simp only [xaU,xcY,xfa,xfb,xfc,xfd,xfe,xff,f1',q1,q2,decide_true,xai,Option.isSome_some,Option.getD_some,wab,f5,wb']
       · refine xqo (s0:=(bs*2,l3)) (by simp [xVy,h,h3,h4]) ?_ ⟨by dsimp only;omega,f4⟩
         have q1:(bs:Int)<(N:Int):=by omega
         have q2:¬ ((a+bs:Nat):Int)<(N:Int):=by omega
         simp only [xaU,xcY,xfa,xfb,xfc,xfd,xfe,xff,f1',q1,q2,decide_true,decide_false,xai,xaj,Option.isSome_some,Option.getD_some,wab,wb']
    · refine xp8 (r0:=l) (by simp [xVy,h]) ?_ hl
      have q1:¬ (bs:Int)<(N:Int):=by omega
      simp only [xaU,xcY,q1,decide_false,xaj]
   have e1':Iter (xa9 N N 20) ((0:Int),(20:Int),List.map encG l)=some ((a:Int),List.map encG l1):=e1
   have e3':Iter (xaU N N) ((20:Int),List.map encG l2)=some (List.map encG r):=e3.1
   refine ⟨?_,e3.2⟩
   simp only [xcM,xgX,xjM,xjN,xjO,e1',e2,e3',Option.isSome_some,Option.getD_some,xai]
end
theorem xU8 {N:Nat} (hN:N*48≤140737488355328) {ok:Grp→Prop} {c:Grp→Grp→Int} (hc:∀ x y:Grp,ok x→ok y→xVG (encG x) (encG y)=true∧xVH (encG x) (encG y)=c x y) (l r:List Grp) (hl:l.length=N) (ho:∀ x,x∈l→ok x) (hr:xVJ c 1000 N l=some r) :
  xc7 N (List.map encG l)=some (List.map encG r):=by
 obtain ⟨e1,e2⟩:=xS5 (N:=N) (by omega) (ok:=ok) hc ⟨hl,ho⟩ hr
 simp only [xc7,xgH,e1,Option.isSome_some,Option.getD_some,xai]
end Go.Sim.M
end
noncomputable section
set_option maxRecDepth 100000
namespace Go.Sim.M
open Go.RowKit Go.Sim.Srt
def ents:Nat→List Row→List AV
 | _,[]=>[]
 | k,r::R=>.agg [.str (keyOf r),.int .i64 (k:Int)]::ents (k+1) R
theorem xOF:∀ (R:List Row) (k:Nat) (r:Row),mapIx (ents k R) (keyOf r)=R.findIdx? fun x=>decide (x=r)
 | [],_,_=>rfl
 | x::R,k,r=>by
  have hk:isKey (keyOf r) (((AV.agg [.str (keyOf x),.int .i64 (k:Int)]).cells).getD 0 .top)=decide (x=r):=by
   show (keyOf x==keyOf r)=_
   by_cases h:x=r
   · subst h;simp
   · have:¬ keyOf x=keyOf r:=fun e=>h (xOH e)
     simp [h,this]
  show (match isKey (keyOf r) (((AV.agg [.str (keyOf x),.int .i64 (k:Int)]).cells).getD 0 .top) with|true=>some 0|false=>(mapIx (ents (k+1) R) (keyOf r)).map (·+1))=_
  rw [hk,List.findIdx?_cons,xOF R (k+1) r]
  by_cases h:x=r<;>simp [h]
theorem xMD:∀ (R:List Row) (k:Nat),(ents k R).length=R.length
 | [],_=>rfl
 | _::R,k=>by show (ents (k+1) R).length+1=_;rw [xMD R];rfl
theorem xKw:∀ (R:List Row) (k:Nat) (r:Row),ents k (R++[r])=ents k R++[.agg [.str (keyOf r),.int .i64 ((k+R.length:Nat):Int)]]
 | [],_,_=>rfl
 | x::R,k,r=>by
  show _::ents (k+1) (R++[r])=_
  rw [xKw R (k+1) r,List.length_cons,show k+1+R.length=k+(R.length+1) by omega];rfl
theorem xMC:∀ (R:List Row) (k j:Nat) (h:j<R.length),(ents k R).getD j .top=.agg [.str (keyOf R[j]),.int .i64 ((k+j:Nat):Int)]
 | x::R,k,0,h=>rfl
 | x::R,k,j+1,h=>by
  show (ents (k+1) R).getD j .top=_
  rw [xMC R (k+1) j (by simpa using h),show k+1+j=k+(j+1) by omega];rfl
def upd (G:List Grp) (f:Fc):List Grp:=match (G.map (·.1)).findIdx? fun x=>decide (x=f.r) with
 | some j=>G.set j (f.r,(G.getD j ([],[])).2++[f.p])
 | none=>G++[(f.r,[f.p])]
structure GI (l:List Fc) (G:List Grp):Prop where
 nd:(G.map (·.1)).Nodup
 mem:∀ r,r∈G.map (·.1)↔∃ f,f∈l∧f.r=r∧pv f.p=true
 ps:∀ g,g∈G→g.2=psOf l g.1
 len:G.length≤l.length
theorem GI.nil:GI [] []:=⟨List.nodup_nil,fun r=>by simp,fun g hg=>by simp at hg,Nat.le_refl _⟩
theorem xzH (l:List Fc) (f:Fc) (r:Row):psOf (l++[f]) r=psOf l r++(if f.r=r∧pv f.p=true then [f.p] else []):=by
 unfold psOf
 rw [List.filter_append,List.map_append]
 congr 1
 by_cases h1:f.r=r<;>by_cases h2:pv f.p=true<;>simp [h1,h2]
theorem GI.skip {l:List Fc} {G:List Grp} (h:GI l G) {f:Fc} (hf:pv f.p=false):GI (l++[f]) G :=
 ⟨h.nd,fun r=>by
  rw [h.mem]
  refine ⟨fun ⟨g,hg,e⟩=>⟨g,by simp [hg],e⟩,fun ⟨g,hg,e1,e2⟩=>⟨g,?_,e1,e2⟩⟩
  rcases List.mem_append.1 hg with hg|hg
  · exact hg
  · rw [List.mem_singleton] at hg;subst hg;rw [hf] at e2;simp at e2,fun g hg=>by rw [xzH,if_neg (by rw [hf];simp),List.append_nil];exact h.ps g hg,by rw [List.length_append];have:=h.len;omega⟩
theorem xCW {R:List Row} {r:Row} {j:Nat} (h:R.findIdx? (fun x=>decide (x=r))=some j):∃ hj:j<R.length,R[j]=r:=by
 obtain ⟨hj,h1,_⟩:=List.findIdx?_eq_some_iff_getElem.1 h
 exact ⟨hj,by simpa using h1⟩
theorem xMG {R:List Row} {r:Row} (h:R.findIdx? (fun x=>decide (x=r))=none):r∉R:=fun hr=>by
 have:=List.findIdx?_eq_none_iff.1 h r hr
 simp at this
theorem xJR {G:List Grp} {j:Nat} (hj:j<G.length) {ps:List Per} {r:Row} (hr:G[j].1=r):(G.set j (r,ps)).map (·.1)=G.map (·.1):=by
 rw [List.map_set]
 show (G.map (·.1)).set j r=_
 rw [←hr]
 have:(G.map (·.1))[j]'(by simpa using hj)=G[j].1:=by simp
 rw [←this]
 exact List.set_getElem_self _
theorem GI.upd {l:List Fc} {G:List Grp} (h:GI l G) {f:Fc} (hf:pv f.p=true):GI (l++[f]) (M.upd G f):=by
 unfold M.upd
 cases hi:(G.map (·.1)).findIdx? fun x=>decide (x=f.r) with
 | some j =>
  obtain ⟨hj,hr⟩:=xCW hi
  rw [List.length_map] at hj
  rw [List.getElem_map] at hr
  dsimp only
  have gd:G.getD j ([],[])=G[j]:=by rw [List.getD_eq_getElem?_getD,List.getElem?_eq_getElem hj];rfl
  rw [gd]
  refine ⟨by rw [xJR hj hr];exact h.nd,fun r=>?_,fun g hg=>?_,by rw [List.length_set,List.length_append];have:=h.len;omega⟩
  · rw [xJR hj hr,h.mem]
    refine ⟨fun ⟨g,hg,e⟩=>⟨g,by simp [hg],e⟩,fun ⟨g,hg,e1,e2⟩=>?_⟩
    rcases List.mem_append.1 hg with hg|hg
    · exact ⟨g,hg,e1,e2⟩
    · rw [List.mem_singleton] at hg;subst hg
      refine (h.mem r).1 ?_
      rw [←e1,←hr]
      exact List.mem_map.2 ⟨G[j],List.getElem_mem hj,rfl⟩
  · obtain ⟨i,hi2,rfl⟩:=List.mem_iff_getElem.1 hg
    rw [List.length_set] at hi2
    rw [List.getElem_set]
    by_cases hij:j=i
    · subst hij
      rw [if_pos rfl,xzH,if_pos ⟨rfl,hf⟩,h.ps _ (List.getElem_mem hj),hr]
    · rw [if_neg hij,xzH,if_neg ?_,List.append_nil]
      · exact h.ps _ (List.getElem_mem hi2)
      · rintro ⟨e,_⟩
        have hn:=List.pairwise_iff_getElem.1 h.nd
        have ei:(G.map (·.1))[i]'(by simpa using hi2)=G[i].1:=by simp
        have ej:(G.map (·.1))[j]'(by simpa using hj)=G[j].1:=by simp
        rcases Nat.lt_or_gt_of_ne hij with hlt|hlt
        · exact hn j i (by simpa using hj) (by simpa using hi2) hlt (by rw [ei,ej,hr,e])
        · exact hn i j (by simpa using hi2) (by simpa using hj) hlt (by rw [ei,ej,hr,e])
 | none =>
  have hr:=xMG hi
  dsimp only
  have hz:psOf l f.r=[]:=by
   unfold psOf
   rw [List.map_eq_nil_iff,List.filter_eq_nil_iff]
   intro g hg he
   simp only [Bool.and_eq_true,decide_eq_true_eq] at he
   exact hr ((h.mem _).2 ⟨g,hg,he⟩)
  refine ⟨?_,fun r=>?_,fun g hg=>?_,by rw [List.length_append,List.length_append];have:=h.len;simp;omega⟩
  · rw [List.map_append]
    refine List.nodup_append.2 ⟨h.nd,by simp,fun a ha b hb e=>?_⟩
    simp at hb
    exact hr (by rw [←hb,←e];exact ha)
  · rw [List.map_append,List.mem_append,h.mem]
    simp only [List.map_cons,List.map_nil,List.mem_singleton,List.mem_append]
    constructor
    · rintro (⟨g,hg,e⟩|rfl)
      · exact ⟨g,.inl hg,e⟩
      · exact ⟨f,.inr rfl,rfl,hf⟩
    · rintro ⟨g,hg|rfl,e⟩
      · exact .inl ⟨g,hg,e⟩
      · exact .inr e.1.symm
  · rcases List.mem_append.1 hg with hg|hg
    · rw [xzH,if_neg ?_,List.append_nil]
      · exact h.ps g hg
      · rintro ⟨e,_⟩
        exact hr (by rw [e];exact List.mem_map.2 ⟨g,hg,rfl⟩)
    · rw [List.mem_singleton] at hg
      subst hg
      rw [xzH,if_pos ⟨rfl,hf⟩,hz];rfl
theorem cG0 (g:Grp):((encG g).cells.getD 0 .top).toList=g.1.map encV:=rfl
theorem xRh {α:Type} (l:List α) (x d:α):(l++[x]).getD l.length d=x:=by simp
theorem xS1 {α:Type} (l:List α) (x y:α):(l++[x]).set l.length y=l++[y]:=by simp
theorem xVS (xs:List AV):(AV.agg xs).cells=xs:=rfl
theorem tolA (n:Nat) (xs:List AV):(AV.list n xs).toList=xs:=rfl
theorem xVV (k:IntKind) (n:Int):(AV.int k n).toInt=n:=rfl
theorem xVU (xs:List AV):isRow 2 (.list 2 xs)=true:=rfl
theorem xVY (n m:Nat):deadLt (.int .i64 (n:Int)) m=decide (n<m):=rfl
theorem xVX:deadLt (.int .i64 0) 1=true:=rfl
theorem g2a (a b:AV):[a,b].getD 0 .top=a:=rfl
theorem g2b (a b:AV):[a,b].getD 1 .top=b:=rfl
theorem lt2 (a b:AV):([a,b].length==2)=true:=rfl
theorem tk1 (a b:AV):List.take 1 [a,b]=[a]:=rfl
theorem dp2 (a b:AV):List.drop 2 [a,b]=[]:=rfl
theorem xOD (g:Grp):encG g=.agg [.list 3 (g.1.map encV),.list 2 (g.2.map encP)]:=rfl
theorem xOE (p:Per):encP p=.agg [.int .i64 p.1,.int .i64 p.2]:=rfl
def Keyed (l:List Fc):Prop:=Few l∧∀ f,f∈l→(∀ v,v∈f.r→KOk v)∧(keyOf f.r).length≤17592186044416
theorem Keyed.key {l:List Fc} (h:Keyed l) {f:Fc} (hf:f∈l):xgM (f.r.map encV)=some (keyOf f.r):=xUK f.r (h.1.2 f hf) (h.2 f hf).1 (h.2 f hf).2
theorem xRR (l:List Fc) (h:Keyed l) (k:Nat) (hk:k<l.length) (G:List Grp) (hG:GI (l.take k) G) :
  xbn (l.map encF) ((l.length:Nat):Int) (G.length,(k:Int),ents 0 (G.map (·.1)),G.map encG) =
   some (.inl ((if pv l[k].p=true then upd G l[k] else G).length,((k+1:Nat):Int),ents 0 ((if pv l[k].p=true then upd G l[k] else G).map (·.1)),(if pv l[k].p=true then upd G l[k] else G).map encG)):=by
 have hl:=h.1.1
 have i1:(k:Int)<(l.length:Int):=by omega
 have gf:(l.map encF).getD k .top=encF l[k]:=xaH _ _ _ hk
 have ek:=h.key (List.getElem_mem hk)
 have kl:=(h.2 _ (List.getElem_mem hk)).2
 have hGl:=hG.len
 rw [List.length_take] at hGl
 cases hv:pv l[k].p with
 | false =>
  simp only [xbn,xeH,List.length_map,xai,xaj,decide_true,decide_false,Bool.and_true,Bool.true_and,Bool.not_true,Bool.not_false,Int.toNat_natCast,Int.natCast_nonneg,Option.isSome_some,Option.getD_some,beq_self_eq_true,Nat.zero_add,Nat.sub_zero,i1,hk,gf,cF0,cF1,cF2,sF0,sF1,sF2,lF,sF12,sF02,xov,hv,xVi (n:=k) (by omega)]
  rfl
 | true =>
  have k1:(keyOf l[k].r).length≤4611686018427387904:=by omega
  have hx:=xOF (G.map (·.1)) 0 l[k].r
  have n1:(ents 0 (G.map (·.1))).length<4611686018427387904:=by rw [xMD,List.length_map];omega
  have m1:(G.length+1)*48≤140737488355328:=by omega
  have m2:G.length+1≤4611686018427387904:=by omega
  simp only [if_true]
  cases hi:(G.map (·.1)).findIdx? fun x=>decide (x=l[k].r) with
  | none =>
   rw [hi] at hx
   have hu:upd G l[k]=G++[(l[k].r,[l[k].p])]:=by unfold upd;rw [hi]
   have hh:mapHas (ents 0 (G.map (·.1))) (keyOf l[k].r)=false:=by unfold mapHas;rw [hx];rfl
   have hg:mapGet (AV.int .i64 0) (ents 0 (G.map (·.1))) (keyOf l[k].r)=AV.int .i64 0:=by unfold mapGet;rw [hx]
   have hp:mapPut (ents 0 (G.map (·.1))) (keyOf l[k].r) (AV.int .i64 (G.length:Int))=ents 0 ((G++[(l[k].r,[l[k].p])]).map (·.1)):=by
    unfold mapPut;rw [hx,List.map_append]
    show _=ents 0 (G.map (·.1)++[l[k].r])
    rw [xKw,List.length_map,Nat.zero_add]
   have i2:(G.length:Int)<((G.length+1:Nat):Int):=by omega
   have hs0:hasSh1 (Sh.int .i64) (AV.int .i64 0)=true:=rfl
   have gl:∀ x:AV,(G.map encG++[x]).getD G.length .top=x:=fun x=>by have:=xRh (G.map encG) x .top;rwa [List.length_map] at this
   have sl:∀ x y:AV,(G.map encG++[x]).set G.length y=G.map encG++[y]:=fun x y=>by have:=xS1 (G.map encG) x y;rwa [List.length_map] at this
   rw [hu]
   simp only [xbn,xeH,xkk,xkl,xfy,xfz,xhO,xkm,xhP,xba,xkn,xbb,xbS,xaX,xgN,xjz,xjA,xc8,xjB,xgO,xdS,List.length_map,xai,xaj,decide_true,decide_false,Bool.and_true,Bool.true_and,Bool.not_true,Bool.not_false,Int.toNat_natCast,Int.natCast_nonneg,Option.isSome_some,Option.getD_some,beq_self_eq_true,Nat.zero_add,Nat.sub_zero,i1,hk,gf,cF0,cF1,cF2,sF0,sF1,sF2,lF,sF12,sF02,xov,hv,xVi (n:=k) (by omega),ek,k1,hh,hg,hp,n1,m1,m2,i2,hs0,gl,sl,List.length_append,List.length_singleton,List.map_append,List.map_cons,List.map_nil,xVS,tolA,xVV,xVU,xVY,g2a,g2b,lt2,tk1,dp2,List.length_set,Nat.lt_succ_self,Bool.and_self,List.length_nil,Nat.zero_add,xOD,xOE,List.singleton_append,List.nil_append,List.append_nil,Int.natCast_zero]
   try simp [xai,xVX]
  | some j =>
   obtain ⟨hj,hr⟩:=xCW hi
   rw [hi] at hx
   have hj2:j<G.length:=by simpa using hj
   rw [List.getElem_map] at hr
   have gd:G.getD j ([],[])=G[j]:=by rw [List.getD_eq_getElem?_getD,List.getElem?_eq_getElem hj2];rfl
   have hu:upd G l[k]=G.set j (l[k].r,G[j].2++[l[k].p]):=by unfold upd;rw [hi];dsimp only;rw [gd]
   have hh:mapHas (ents 0 (G.map (·.1))) (keyOf l[k].r)=true:=by unfold mapHas;rw [hx];rfl
   have hg:mapGet (AV.int .i64 0) (ents 0 (G.map (·.1))) (keyOf l[k].r)=AV.int .i64 (j:Int):=by
    unfold mapGet;rw [hx];dsimp only
    rw [xMC _ _ _ hj,Nat.zero_add];rfl
   have gj:(G.map encG).getD j .top=encG G[j]:=xaH _ _ _ hj2
   have i2:(j:Int)<(G.length:Int):=by omega
   have hs0:hasSh1 (Sh.int .i64) (AV.int .i64 (j:Int))=true:=rfl
   have pl:G[j].2.length≤k:=by
    rw [hG.ps _ (List.getElem_mem hj2)]
    have:=xHT (l.take k) G[j].1
    rw [List.length_take] at this;omega
   have m3:(G[j].2.length+1)*16≤140737488355328:=by omega
   have m4:G[j].2.length+1≤4611686018427387904:=by omega
   have gs:∀ x:AV,((G.map encG).set j x).getD j .top=x:=fun x=>by
    rw [List.getD_eq_getElem?_getD,List.getElem?_set_self (by simpa using hj2)];rfl
   have ss:∀ x y:AV,((G.map encG).set j x).set j y=(G.map encG).set j y:=fun x y=>List.set_set ..
   have tj:(AV.int IntKind.i64 (j:Int)).toInt=(j:Int):=rfl
   have cj:(encG G[j]).cells=[.list 3 (l[k].r.map encV),.list 2 (G[j].2.map encP)]:=by rw [←hr];rfl
   rw [hu,xJR hj2 hr,List.length_set,List.map_set]
   simp only [xbn,xeH,xkk,xkl,xfy,xfz,xhO,xkm,xhP,xba,xkn,xbb,xbS,xaX,xgN,xjz,xjA,xc8,xjB,xgO,xdS,List.length_map,xai,xaj,decide_true,decide_false,Bool.and_true,Bool.true_and,Bool.not_true,Bool.not_false,Int.toNat_natCast,Int.natCast_nonneg,Option.isSome_some,Option.getD_some,beq_self_eq_true,Nat.zero_add,Nat.sub_zero,i1,hk,gf,cF0,cF1,cF2,sF0,sF1,sF2,lF,sF12,sF02,xov,hv,xVi (n:=k) (by omega),ek,k1,hh,hg,i2,hs0,tj,gj,cj,hj2,List.length_set,gs,ss,xVS,tolA,xVV,xVU,xVY,g2a,g2b,lt2,tk1,dp2,m3,m4,Bool.and_self,List.length_append,List.length_singleton,Nat.lt_succ_self,xOD,xOE,List.map_append,List.map_cons,List.map_nil,List.singleton_append,List.append_nil]
   try simp [xai,xVX,hr]
def grp (l:List Fc):List Grp:=l.foldl (fun G f=>if pv f.p=true then upd G f else G) []
theorem xMK (l:List Fc) (f:Fc):grp (l++[f])=if pv f.p=true then upd (grp l) f else grp l:=by simp [grp]
theorem xRj:∀ l:List Fc,GI l.reverse (grp l.reverse)
 | []=>GI.nil
 | f::l=>by
  rw [List.reverse_cons,xMK]
  have ih:=xRj l
  cases hv:pv f.p with
  | true=>rw [if_pos rfl];exact ih.upd hv
  | false=>rw [if_neg (by simp)];exact ih.skip hv
theorem xRk (l:List Fc):GI l (grp l):=by have:=xRj l.reverse;rwa [List.reverse_reverse] at this
theorem xRQ (l:List Fc) (h:Keyed l):Iter (xbn (l.map encF) ((l.length:Nat):Int)) ((0:Nat),(0:Int),[],[])=some ((grp l).length,(grp l).map encG):=by
 refine xm1 (fun k=>(((grp (l.take k)).length,((k:Nat):Int),ents 0 ((grp (l.take k)).map (·.1)),(grp (l.take k)).map encG):Nat×Int×List AV×List AV)) l.length _ (fun k hk=>?_) ?_ l.length 0 (by omega)
 · rw [xRR l h k hk (grp (l.take k)) (xRk _)]
   have tk:l.take (k+1)=l.take k++[l[k]]:=by rw [List.take_add_one,List.getElem?_eq_getElem hk];rfl
   rw [tk,xMK]
 · simp only [xbn,xeH,List.length_map,Int.lt_irrefl,decide_false,xaj,List.take_length]
theorem xTO (x y:Grp) (hx:x.1.length≤4398046511104):xVG (encG x) (encG y)=true∧xVH (encG x) (encG y)=cmpR x.1 y.1:=by
 have e:xcQ (x.1.map encV) (x.2.map encP) (y.1.map encV) (y.2.map encP)=some (cmpR x.1 y.1):=by
  unfold xcQ xmZ
  rw [xR0 x.1 y.1 (by unfold maxLen;omega)];rfl
 have e2:xcQ ((encG x).cells.getD 0 .top).toList ((encG x).cells.getD 1 .top).toList ((encG y).cells.getD 0 .top).toList ((encG y).cells.getD 1 .top).toList=some (cmpR x.1 y.1):=e
 unfold xVG xVH
 rw [e2]
 exact ⟨rfl,rfl⟩
theorem xOW (l:List Fc) (h:Keyed l):∃ S:List Grp,xdv (l.map encF)=some (S.map encG)∧xVs l (S.map (·.1))∧(∀ g,g∈S→g.2=psOf l g.1)∧S.length≤l.length:=by
 have hg:=xRk l
 have hll:=h.1.1
 have hgl:=hg.len
 have cG:Cm fun x y:Grp=>cmpR x.1 y.1:=xyc.on (e:=fun x:Grp=>x.1)
 obtain ⟨r,e,p,s⟩:=(fun F (hF:20≤F)=>xOc cG.ord F (grp l).length (xOO (Nat.le_trans hgl hll) hF) (grp l) rfl) 1000 (by decide)
 have es:=xU8 (N:=(grp l).length) (by omega) (ok:=fun g=>g.1.length≤1048576) (c:=fun x y:Grp=>cmpR x.1 y.1) (fun x y hx hy=>xTO x y (by omega)) (grp l) r rfl (fun g hgm=>by
  obtain ⟨f,hf,e,_⟩:=(hg.mem g.1).1 (List.mem_map.2 ⟨g,hgm,rfl⟩)
  rw [←e];exact h.1.2 f hf) e
 have rl:=p.length_eq
 refine ⟨r,?_,⟨?_,fun x=>?_⟩,fun g hgm=>hg.ps g (p.mem_iff.1 hgm),by rw [rl];exact hgl⟩
 · have el:=xRQ l h
   have ra:rowsAll 2 1 ((grp l).map encG)=true:=by
    unfold rowsAll
    rw [List.all_eq_true]
    intro x hx
    obtain ⟨g,_,rfl⟩:=List.mem_map.1 hx
    rfl
   have ll:(grp l).length≤r.length:=by omega
   have tt:List.take (grp l).length (r.map encG)=r.map encG:=List.take_of_length_le (by rw [List.length_map];omega)
   unfold xdv xnV xqK xqL xmx xqM xqN xqO
   simp only [List.length_map,el,Option.isSome_some,Option.getD_some,xai,ra,es,Nat.zero_add,ll,decide_true,Bool.and_true,List.drop_zero,tt]
 · refine xRZ (fun _ _=>xq9) ?_ ?_
   · exact List.pairwise_map.2 s
   · exact ((p.map (·.1)).nodup_iff).2 hg.nd
 · rw [(p.map (·.1)).mem_iff];exact hg.mem x
end Go.Sim.M
end
noncomputable section
set_option maxRecDepth 100000
namespace Go.Sim.M
open Go.RowKit Go.Lib
noncomputable def xuv (l:List AV) (i:Int):Bool:=decide ((0:Int)≤i)&&decide (i<(↑l.length:Int))
noncomputable def xBl {T:Type} (l:List AV) (out_n:Nat) (at0:Int) (na:Int) (nb:Int) (i:Int) (out_xs:List AV) (δ:T) (κl:(Int×Int×Int×List AV)→T) (κr:(Int×Int×Int×List AV)→T):T:=br (decide (i<(↑l.length:Int))) (br (xuv l i) (br (decide (i.toNat<l.length)&&hasSh1 (Sh.int IntKind.i64) ((l.getD i.toNat AV.top).cells.getD (0:Nat) AV.top)) (br (((l.getD i.toNat AV.top).cells.getD (0:Nat) AV.top).toInt==at0) (br (xuv l i) (br (decide (i.toNat<l.length)&&hasSh1 (Sh.int IntKind.i64) ((l.getD i.toNat AV.top).cells.getD (1:Nat) AV.top)) (br (xuv l i) (br (decide (i.toNat<l.length)&&hasSh1 (Sh.int IntKind.i64) ((l.getD i.toNat AV.top).cells.getD (2:Nat) AV.top)) (κl (IntKind.i64.wrap (na+((l.getD i.toNat AV.top).cells.getD (1:Nat) AV.top).toInt),IntKind.i64.wrap (nb+((l.getD i.toNat AV.top).cells.getD (2:Nat) AV.top).toInt),IntKind.i64.wrap (i+(1:Int)),out_xs)) (δ)) (δ)) (δ)) (δ)) (κr (na,nb,i,out_xs))) (δ)) (δ)) (κr (na,nb,i,out_xs))
noncomputable def xlZ (l:List AV) (out_n:Nat) (at0:Int):(Int×Int×Int×List AV)→Option ((Int×Int×Int×List AV)⊕(Int×Int×Int×List AV)):=fun (na,nb,i,out_xs)=>xBl l out_n at0 na nb i out_xs none (fun s=>some (.inl s)) (fun p=>some (.inr p))
noncomputable def xrl (keep:Bool→Bool→Bool) (out_n:Nat):Bool:=decide ((0:Int)≤IntKind.i64.wrap ((↑out_n:Int) - (1:Int)))&&decide (IntKind.i64.wrap ((↑out_n:Int) - (1:Int))<(↑out_n:Int))
noncomputable def xvj (keep:Bool→Bool→Bool) (l:List AV) (out_n:Nat) (na:Int) (nb:Int) (i:Int) (at0:Int) (out_xs:List AV):Int×Int×Int×List AV:=(Iter (xlZ l out_n at0) (na,nb,i,out_xs)).getD ((0:Int),(0:Int),(0:Int),[])
noncomputable def xet (keep:Bool→Bool→Bool) (out_n:Nat):Nat:=(0:Nat)+(IntKind.i64.wrap ((↑out_n:Int) - (1:Int))).toNat
noncomputable def xw8 (keep:Bool→Bool→Bool) (l:List AV) (out_n:Nat) (na:Int) (nb:Int) (i:Int) (at0:Int) (out_xs:List AV):Int×Int×List AV:=(xvj keep l out_n na nb i at0 out_xs).snd
noncomputable def xiw (keep:Bool→Bool→Bool) (l:List AV) (out_n:Nat) (na:Int) (nb:Int) (i:Int) (at0:Int) (out_xs:List AV):Int:=(xvj keep l out_n na nb i at0 out_xs).fst
noncomputable def xw7 (keep:Bool→Bool→Bool) (l:List AV) (out_n:Nat) (na:Int) (nb:Int) (i:Int) (at0:Int) (out_xs:List AV):Int×List AV:=(xw8 keep l out_n na nb i at0 out_xs).snd
noncomputable def xiv (keep:Bool→Bool→Bool) (l:List AV) (out_n:Nat) (na:Int) (nb:Int) (i:Int) (at0:Int) (out_xs:List AV):Int:=(xw8 keep l out_n na nb i at0 out_xs).fst
noncomputable def xce (keep:Bool→Bool→Bool) (l:List AV) (out_n:Nat) (na:Int) (nb:Int) (i:Int) (at0:Int) (out_xs:List AV):List AV:=(xw7 keep l out_n na nb i at0 out_xs).snd
noncomputable def xw5 (keep:Bool→Bool→Bool) (l:List AV) (out_n:Nat) (na:Int) (nb:Int) (i:Int) (at0:Int) (out_xs:List AV):Bool:=keep (decide (xiw keep l out_n na nb i at0 out_xs>(0:Int))) (decide (xiv keep l out_n na nb i at0 out_xs>(0:Int)))
noncomputable def xcP (keep:Bool→Bool→Bool) (l:List AV) (out_n:Nat) (na:Int) (nb:Int) (i:Int) (at0:Int) (out_xs:List AV):Int:=(xw7 keep l out_n na nb i at0 out_xs).fst
noncomputable def xrk (keep:Bool→Bool→Bool) (l:List AV) (out_n:Nat) (na:Int) (nb:Int) (i:Int) (at0:Int) (out_xs:List AV):Bool:=decide (xet keep out_n<(xce keep l out_n na nb i at0 out_xs).length)
noncomputable def xw6 (keep:Bool→Bool→Bool) (l:List AV) (out_n:Nat) (na:Int) (nb:Int) (i:Int) (at0:Int) (out_xs:List AV):Bool:=decide (xcP keep l out_n na nb i at0 out_xs<(↑l.length:Int))
noncomputable def xtE {T:Type} (keep:Bool→Bool→Bool) (l:List AV) (out_n:Nat) (na:Int) (nb:Int) (i:Int) (at0:Int) (out_xs:List AV) (δ:T) (κl:(Nat×Int×Int×Int×Int×List AV)→T) (κr:(Nat×List AV)→T):T:=br (decide (at0<(1099511627776:Int))) (br ((Iter (xlZ l out_n at0) (na,nb,i,out_xs)).isSome) (br (xw6 keep l out_n na nb i at0 out_xs) (br (decide ((0:Int)≤xcP keep l out_n na nb i at0 out_xs)&&xw6 keep l out_n na nb i at0 out_xs) (br (decide ((xcP keep l out_n na nb i at0 out_xs).toNat<l.length)&&hasSh1 (Sh.int IntKind.i64) ((l.getD (xcP keep l out_n na nb i at0 out_xs).toNat AV.top).cells.getD (0:Nat) AV.top)) (br (xw5 keep l out_n na nb i at0 out_xs) (br (decide ((↑out_n:Int)>(0:Int))) (br (xrl keep out_n) (br (xrk keep l out_n na nb i at0 out_xs&&hasSh1 (Sh.int IntKind.i64) (((xce keep l out_n na nb i at0 out_xs).getD (xet keep out_n) AV.top).cells.getD (1:Nat) AV.top)) (br ((((xce keep l out_n na nb i at0 out_xs).getD (xet keep out_n) AV.top).cells.getD (1:Nat) AV.top).toInt==at0) (br (xrl keep out_n) (br (xrk keep l out_n na nb i at0 out_xs) (κl (out_n,xiw keep l out_n na nb i at0 out_xs,xiv keep l out_n na nb i at0 out_xs,xcP keep l out_n na nb i at0 out_xs,((l.getD (xcP keep l out_n na nb i at0 out_xs).toNat AV.top).cells.getD (0:Nat) AV.top).toInt,(xce keep l out_n na nb i at0 out_xs).set (xet keep out_n) (AV.agg (List.take (1:Nat) ((xce keep l out_n na nb i at0 out_xs).getD (xet keep out_n) AV.top).cells++[AV.int IntKind.i64 ((l.getD (xcP keep l out_n na nb i at0 out_xs).toNat AV.top).cells.getD (0:Nat) AV.top).toInt]++List.drop (2:Nat) ((xce keep l out_n na nb i at0 out_xs).getD (xet keep out_n) AV.top).cells)))) (δ)) (δ)) (br (out_n==(xce keep l out_n na nb i at0 out_xs).length&&(decide ((out_n+(1:Nat))*(16:Nat)≤(140737488355328:Nat))&&decide (out_n+(1:Nat)≤(4611686018427387904:Nat)))) (κl (out_n+(1:Nat),xiw keep l out_n na nb i at0 out_xs,xiv keep l out_n na nb i at0 out_xs,xcP keep l out_n na nb i at0 out_xs,((l.getD (xcP keep l out_n na nb i at0 out_xs).toNat AV.top).cells.getD (0:Nat) AV.top).toInt,xce keep l out_n na nb i at0 out_xs++[AV.agg [AV.int IntKind.i64 at0,AV.int IntKind.i64 ((l.getD (xcP keep l out_n na nb i at0 out_xs).toNat AV.top).cells.getD (0:Nat) AV.top).toInt]])) (δ))) (δ)) (δ)) (br (out_n==(xce keep l out_n na nb i at0 out_xs).length&&(decide ((out_n+(1:Nat))*(16:Nat)≤(140737488355328:Nat))&&decide (out_n+(1:Nat)≤(4611686018427387904:Nat)))) (κl (out_n+(1:Nat),xiw keep l out_n na nb i at0 out_xs,xiv keep l out_n na nb i at0 out_xs,xcP keep l out_n na nb i at0 out_xs,((l.getD (xcP keep l out_n na nb i at0 out_xs).toNat AV.top).cells.getD (0:Nat) AV.top).toInt,xce keep l out_n na nb i at0 out_xs++[AV.agg [AV.int IntKind.i64 at0,AV.int IntKind.i64 ((l.getD (xcP keep l out_n na nb i at0 out_xs).toNat AV.top).cells.getD (0:Nat) AV.top).toInt]])) (δ))) (κl (out_n,xiw keep l out_n na nb i at0 out_xs,xiv keep l out_n na nb i at0 out_xs,xcP keep l out_n na nb i at0 out_xs,((l.getD (xcP keep l out_n na nb i at0 out_xs).toNat AV.top).cells.getD (0:Nat) AV.top).toInt,xce keep l out_n na nb i at0 out_xs))) (δ)) (δ)) (br (xw5 keep l out_n na nb i at0 out_xs) (br (decide ((↑out_n:Int)>(0:Int))) (br (xrl keep out_n) (br (xrk keep l out_n na nb i at0 out_xs&&hasSh1 (Sh.int IntKind.i64) (((xce keep l out_n na nb i at0 out_xs).getD (xet keep out_n) AV.top).cells.getD (1:Nat) AV.top)) (br ((((xce keep l out_n na nb i at0 out_xs).getD (xet keep out_n) AV.top).cells.getD (1:Nat) AV.top).toInt==at0) (br (xrl keep out_n) (br (xrk keep l out_n na nb i at0 out_xs) (κl (out_n,xiw keep l out_n na nb i at0 out_xs,xiv keep l out_n na nb i at0 out_xs,xcP keep l out_n na nb i at0 out_xs,(1099511627776:Int),(xce keep l out_n na nb i at0 out_xs).set (xet keep out_n) (AV.agg (List.take (1:Nat) ((xce keep l out_n na nb i at0 out_xs).getD (xet keep out_n) AV.top).cells++[AV.int IntKind.i64 (1099511627776:Int)]++List.drop (2:Nat) ((xce keep l out_n na nb i at0 out_xs).getD (xet keep out_n) AV.top).cells)))) (δ)) (δ)) (br (out_n==(xce keep l out_n na nb i at0 out_xs).length&&(decide ((out_n+(1:Nat))*(16:Nat)≤(140737488355328:Nat))&&decide (out_n+(1:Nat)≤(4611686018427387904:Nat)))) (κl (out_n+(1:Nat),xiw keep l out_n na nb i at0 out_xs,xiv keep l out_n na nb i at0 out_xs,xcP keep l out_n na nb i at0 out_xs,(1099511627776:Int),xce keep l out_n na nb i at0 out_xs++[AV.agg [AV.int IntKind.i64 at0,AV.int IntKind.i64 (1099511627776:Int)]])) (δ))) (δ)) (δ)) (br (out_n==(xce keep l out_n na nb i at0 out_xs).length&&(decide ((out_n+(1:Nat))*(16:Nat)≤(140737488355328:Nat))&&decide (out_n+(1:Nat)≤(4611686018427387904:Nat)))) (κl (out_n+(1:Nat),xiw keep l out_n na nb i at0 out_xs,xiv keep l out_n na nb i at0 out_xs,xcP keep l out_n na nb i at0 out_xs,(1099511627776:Int),xce keep l out_n na nb i at0 out_xs++[AV.agg [AV.int IntKind.i64 at0,AV.int IntKind.i64 (1099511627776:Int)]])) (δ))) (κl (out_n,xiw keep l out_n na nb i at0 out_xs,xiv keep l out_n na nb i at0 out_xs,xcP keep l out_n na nb i at0 out_xs,(1099511627776:Int),xce keep l out_n na nb i at0 out_xs)))) (δ)) (κr (out_n,out_xs))
noncomputable def xjT (keep:Bool→Bool→Bool) (l:List AV):(Nat×Int×Int×Int×Int×List AV)→Option ((Nat×Int×Int×Int×Int×List AV)⊕(Nat×List AV)):=fun (out_n,na,nb,i,at0,out_xs)=>xtE keep l out_n na nb i at0 out_xs none (fun s=>some (.inl s)) (fun p=>some (.inr p))
noncomputable def xIL (keep:Bool→Bool→Bool) (a:List AV) (b:List AV):Option (Nat×List AV):=Iter (xjT keep ((xih a b).getD [])) ((0:Nat),(0:Int),(0:Int),(0:Int),(0:Int),[])
noncomputable def xIK (keep:Bool→Bool→Bool) (a:List AV) (b:List AV):Nat×List AV:=(xIL keep a b).getD ((0:Nat),[])
noncomputable def xII (keep:Bool→Bool→Bool) (a:List AV) (b:List AV):List AV:=(xIK keep a b).snd
noncomputable def xIJ (keep:Bool→Bool→Bool) (a:List AV) (b:List AV):Nat:=(xIK keep a b).fst
noncomputable def xTy {T:Type} (keep:Bool→Bool→Bool) (a:List AV) (b:List AV) (δ:T) (κ:List AV→T):T:=br ((xih a b).isSome) (br ((xIL keep a b).isSome) (br (decide ((0:Nat)+xIJ keep a b≤(xII keep a b).length)&&true) (κ (List.take (xIJ keep a b) (List.drop (0:Nat) (xII keep a b)))) (δ)) (δ)) (δ)
noncomputable def swG (keep:Bool→Bool→Bool) (a:List AV) (b:List AV):Option (List AV):=xTy keep a b none some
end Go.Sim.M
end
noncomputable section
set_option maxRecDepth 100000
namespace Go.Sim.M
open Go.RowKit Go.Lib Go.Sort
def xVg (e:Edg):AV:=.agg [.int .i64 e.1,.int .i64 e.2.1,.int .i64 e.2.2]
theorem xFA (x y:Int):∀ a b,xVe x y (a++b)=xVe x y a++xVe x y b
 | [],b=>rfl
 | p::a,b=>by
  simp only [List.cons_append,xVe,xFA x y a b]
  split<;>rfl
theorem xHt (x y:Int) (l:List Per) (n:Nat) (h:n<l.length):xVe x y (l.take (n+1))=xVe x y (l.take n)++(if pv l[n]=true then [(l[n].1,x,y),(l[n].2,-x,-y)] else []):=by
 rw [List.take_add_one,List.getElem?_eq_getElem h]
 show xVe x y (l.take n++[l[n]])=_
 rw [xFA]
 rfl
theorem xFy (B:List AV) (l:List Per) (hl:l.length≤1073741824):∀ (k n:Nat),n+k=l.length →
  Iter (xcd B (l.map encP) ((l.length:Nat):Int)) ((xVe 1 0 (l.take n)).length,((n:Nat):Int),(xVe 1 0 (l.take n)).map xVg)=some ((xVe 1 0 l).length,(xVe 1 0 l).map xVg)
 | 0,n,hk=>by
  obtain rfl:n=l.length:=by omega
  rw [List.take_of_length_le (Nat.le_refl _)]
  refine xaJ ?_
  unfold xcd
  simp only
  unfold xlB
  rw [decide_eq_false (by omega:¬ ((l.length:Nat):Int)<((l.length:Nat):Int))]
  rfl
 | k+1,n,hk=>by
  have h1:n<l.length:=by omega
  have hle:=xol 1 0 (l.take n)
  have htl:(l.take n).length≤n:=by rw [List.length_take];omega
  have d1:((n:Nat):Int)<((l.length:Nat):Int):=by omega
  have d2:(0:Int)≤((n:Nat):Int):=by omega
  have d3:((xVe 1 0 (l.take n)).length+2)*24≤140737488355328:=by omega
  have d4:(xVe 1 0 (l.take n)).length+2≤4611686018427387904:=by omega
  have d5:((xVe 1 0 (l.take n)).length==(xVe 1 0 (l.take n)).length)=true:=by simp
  have gf:(l.map encP).getD n .top=encP l[n]:=xaH _ _ _ h1
  have c0:((encP l[n]).cells.getD 0 .top).toInt=l[n].1:=rfl
  have c1:((encP l[n]).cells.getD 1 .top).toInt=l[n].2:=rfl
  have sh:((encP l[n]).cells.length==(2:Nat)&&hasShs [Sh.int IntKind.i64,Sh.int IntKind.i64] (encP l[n]).cells (0:Nat))=true:=rfl
  have st:xcd B (l.map encP) ((l.length:Nat):Int) ((xVe 1 0 (l.take n)).length,((n:Nat):Int),(xVe 1 0 (l.take n)).map xVg) =
    some (.inl ((xVe 1 0 (l.take (n+1))).length,((n+1:Nat):Int),(xVe 1 0 (l.take (n+1))).map xVg)):=by
   rw [xHt 1 0 l n h1]
   unfold xcd
   simp only
   unfold xlB
   rw [Int.toNat_natCast,gf,sh,c0,c1,xov,List.length_map,List.length_map,decide_eq_true d1,decide_eq_true d2,decide_eq_true h1,decide_eq_true d3,decide_eq_true d4,d5,xnf (show n+1≤maxLen by unfold maxLen;omega)]
   cases pv l[n] with
   | true=>simp only [if_true,List.length_append,List.map_append];rfl
   | false=>simp only [Bool.false_eq_true,if_false,List.append_nil];rfl
  rw [xaZ st]
  exact xFy B l hl k (n+1) (by omega)
theorem xFz (E0:List Edg) (l:List Per) (hl:l.length≤1073741824) (hE:E0.length≤2147483648):∀ (k n:Nat),n+k=l.length →
  Iter (xdg (l.map encP) ((l.length:Nat):Int)) ((E0++xVe 0 1 (l.take n)).length,((n:Nat):Int),(E0++xVe 0 1 (l.take n)).map xVg)=some ((E0++xVe 0 1 l).length,(E0++xVe 0 1 l).map xVg)
 | 0,n,hk=>by
  obtain rfl:n=l.length:=by omega
  rw [List.take_of_length_le (Nat.le_refl _)]
  refine xaJ ?_
  unfold xdg
  simp only
  unfold xlC
  rw [decide_eq_false (by omega:¬ ((l.length:Nat):Int)<((l.length:Nat):Int))]
  rfl
 | k+1,n,hk=>by
  have h1:n<l.length:=by omega
  have hle:=xol 0 1 (l.take n)
  have htl:(l.take n).length≤n:=by rw [List.length_take];omega
  have hll:(E0++xVe 0 1 (l.take n)).length=E0.length+(xVe 0 1 (l.take n)).length:=List.length_append
  have d1:((n:Nat):Int)<((l.length:Nat):Int):=by omega
  have d2:(0:Int)≤((n:Nat):Int):=by omega
  have d3:((E0++xVe 0 1 (l.take n)).length+2)*24≤140737488355328:=by omega
  have d4:(E0++xVe 0 1 (l.take n)).length+2≤4611686018427387904:=by omega
  have d5:((E0++xVe 0 1 (l.take n)).length==(E0++xVe 0 1 (l.take n)).length)=true:=by simp
  have gf:(l.map encP).getD n .top=encP l[n]:=xaH _ _ _ h1
  have c0:((encP l[n]).cells.getD 0 .top).toInt=l[n].1:=rfl
  have c1:((encP l[n]).cells.getD 1 .top).toInt=l[n].2:=rfl
  have sh:((encP l[n]).cells.length==(2:Nat)&&hasShs [Sh.int IntKind.i64,Sh.int IntKind.i64] (encP l[n]).cells (0:Nat))=true:=rfl
  have st:xdg (l.map encP) ((l.length:Nat):Int) ((E0++xVe 0 1 (l.take n)).length,((n:Nat):Int),(E0++xVe 0 1 (l.take n)).map xVg) =
    some (.inl ((E0++xVe 0 1 (l.take (n+1))).length,((n+1:Nat):Int),(E0++xVe 0 1 (l.take (n+1))).map xVg)):=by
   rw [xHt 0 1 l n h1,←List.append_assoc]
   unfold xdg
   simp only
   unfold xlC
   rw [Int.toNat_natCast,gf,sh,c0,c1,xov,List.length_map,List.length_map,decide_eq_true d1,decide_eq_true d2,decide_eq_true h1,decide_eq_true d3,decide_eq_true d4,d5,xnf (show n+1≤maxLen by unfold maxLen;omega)]
   cases pv l[n] with
   | true=>rw [if_pos rfl,List.length_append (bs:=[(l[n].1,0,1),(l[n].2,-0,-1)]),List.map_append (l₂:=[(l[n].1,0,1),(l[n].2,-0,-1)])];rfl
   | false=>rw [if_neg (by simp),List.append_nil];rfl
  rw [xaZ st]
  exact xFz E0 l hl hE k (n+1) (by omega)
def toE (e:Edg):TyE:=(Fin.ofNat 1099511627777 e.1.toNat,e.2.1,e.2.2)
def ofE (x:TyE):Edg:=((x.1.val:Int),x.2.1,x.2.2)
theorem xTx {e:Edg} (h1:0≤e.1) (h2:e.1≤1099511627776):ofE (toE e)=e:=by
 have:e.1.toNat % 1099511627777=e.1.toNat:=Nat.mod_eq_of_lt (by omega)
 simp only [ofE,toE,Fin.ofNat,this,Int.toNat_of_nonneg h1]
theorem xUk (E:List Edg) (h:∀ e,e∈E→0≤e.1∧e.1≤1099511627776):(E.map xVg).all isE=true∧∃ S:List Edg,srtE (E.map xVg)=S.map xVg∧S.Perm E∧S.Pairwise fun x y=>x.1≤y.1:=by
 refine ⟨?_,(pdqL cmpE (E.map toE)).map ofE,?_,?_,?_⟩
 · rw [List.all_eq_true]
   intro x hx
   obtain ⟨e,he,rfl⟩:=List.mem_map.1 hx
   have:=h e he
   show (decide _&&decide _)=true
   rw [decide_eq_true this.1,decide_eq_true this.2];rfl
 · unfold srtE
   have e1:(E.map xVg).map decE=E.map toE:=by rw [List.map_map];rfl
   rw [e1,List.map_map];rfl
 · have hp:=((xk1 cmpE swoE (E.map toE)).1).map ofE
   have e2:(E.map toE).map ofE=E:=by
    rw [List.map_map]
    conv=>rhs;rw [←List.map_id E]
    refine List.map_congr_left fun e he=>?_
    exact xTx (h e he).1 (h e he).2
   rwa [e2] at hp
 · rw [List.pairwise_map]
   refine (xtJ cmpE swoE (E.map toE)).imp fun {x y} hxy=>?_
   show ((x.1.val:Nat):Int)≤((y.1.val:Nat):Int)
   unfold cmpE at hxy
   omega
theorem xSz (a b:List Per) (ha:a.length≤1073741824) (hb:b.length≤1073741824) :
  ∃ S:List Edg,xih (a.map encP) (b.map encP)=some (S.map xVg)∧S.Perm (xVe 1 0 a++xVe 0 1 b)∧S.Pairwise fun x y=>x.1≤y.1:=by
 have l1:=xol 1 0 a
 have l2:=xol 0 1 b
 have hll:(xVe 1 0 a++xVe 0 1 b).length=(xVe 1 0 a).length+(xVe 0 1 b).length:=List.length_append
 obtain ⟨hall,S,hS,hp,hs⟩:=xUk (xVe 1 0 a++xVe 0 1 b) (fun e he=>by
  rcases List.mem_append.1 he with he|he
  · exact xrc 1 0 a e he
  · exact xrc 0 1 b e he)
 refine ⟨S,?_,hp,hs⟩
 have h0:=xFy (b.map encP) a ha a.length 0 (by omega)
 rw [List.take_zero] at h0
 have h1:=xFz (xVe 1 0 a) b hb (by omega) b.length 0 (by omega)
 rw [List.take_zero] at h1
 have h0:Iter (xcd (b.map encP) (a.map encP) (((a.map encP).length:Nat):Int)) (0,0,[])=some ((xVe 1 0 a).length,(xVe 1 0 a).map xVg):=by rw [List.length_map];exact h0
 have v4:xqH (a.map encP) (b.map encP)=((xVe 1 0 a).length,(xVe 1 0 a).map xVg):=by unfold xqH;rw [h0];rfl
 have v3:xqG (a.map encP) (b.map encP)=some ((xVe 1 0 a++xVe 0 1 b).length,(xVe 1 0 a++xVe 0 1 b).map xVg):=by
  unfold xqG;rw [v4,List.length_map]
  have e:xVe 1 0 a++xVe 0 1 []=xVe 1 0 a:=List.append_nil _
  rw [e] at h1
  exact h1
 have v2:xqF (a.map encP) (b.map encP)=((xVe 1 0 a++xVe 0 1 b).length,(xVe 1 0 a++xVe 0 1 b).map xVg):=by unfold xqF;rw [v3];rfl
 have v0:xkJ (a.map encP) (b.map encP)=(xVe 1 0 a++xVe 0 1 b).length:=by unfold xkJ;rw [v2]
 have v1:xkK (a.map encP) (b.map encP)=(xVe 1 0 a++xVe 0 1 b).map xVg:=by unfold xkK;rw [v2]
 have hSl:S.length=(xVe 1 0 a++xVe 0 1 b).length:=hp.length_eq
 have d1:(xVe 1 0 a++xVe 0 1 b).length<4611686018427387904:=by omega
 have d2:0+(xVe 1 0 a++xVe 0 1 b).length≤(S.map xVg).length:=by rw [List.length_map,hSl];omega
 have d3:(xVe 1 0 a++xVe 0 1 b).length.beq (xVe 1 0 a++xVe 0 1 b).length=true:=Nat.beq_refl _
 have tk:List.take (xVe 1 0 a++xVe 0 1 b).length (List.drop 0 (S.map xVg))=S.map xVg:=by rw [List.drop_zero,List.take_of_length_le (by rw [List.length_map,hSl];exact Nat.le_refl _)]
 unfold xih xsB
 rw [h0,v3,v0,v1,hall,hS,tk,List.length_map,d3,decide_eq_true d1,decide_eq_true d2]
 rfl
theorem xRq (out:List Per) (h:out≠[]):out=out.dropLast++[out[out.length - 1]'(by have:=List.length_pos_iff.2 h;omega)]:=by
 have:=List.dropLast_concat_getLast h
 rw [List.getLast_eq_getElem] at this
 exact this.symm
section
variable (S : List Edg) (hS1 : ∀ e, e ∈ S → 0 ≤ e.1 ∧ e.1 ≤ 1099511627776) (hS2 : ∀ e, e ∈ S → (-1 ≤ e.2.1 ∧ e.2.1 ≤ 1) ∧ (-1 ≤ e.2.2 ∧ e.2.2 ≤ 1)) (hS3 : S.Pairwise fun x y => x.1 ≤ y.1) (hS4 : S.length ≤ 8589934592)
theorem xKa (g:Edg→Int):∀ l:List Edg,(∀ e,e∈l→-1≤g e∧g e≤1)→-(l.length:Int)≤xVf g l∧xVf g l≤l.length
 | [],_=>by simp [xVf]
 | e::l,h=>by
  have:=xKa g l fun x hx=>h x (List.mem_cons_of_mem _ hx)
  have:=h e (List.mem_cons_self ..)
  simp only [xVf,List.length_cons];omega
theorem xNr (g:Edg→Int) (n:Nat) (h:n<S.length):xVf g (S.take (n+1))=xVf g (S.take n)+g S[n]:=by
 rw [List.take_add_one,List.getElem?_eq_getElem h]
 show xVf g (S.take n++[S[n]])=_
 rw [xBD];simp [xVf]
include hS1 hS2 hS3 hS4
theorem xHB (on:Nat) (at':Int) (ox:List AV):∀ (k i:Nat),i+k=S.length→∃ j:Nat,i≤j∧j≤S.length ∧
  Iter (xlZ (S.map xVg) on at') (xVf (·.2.1) (S.take i),xVf (·.2.2) (S.take i),((i:Nat):Int),ox)=some (xVf (·.2.1) (S.take j),xVf (·.2.2) (S.take j),((j:Nat):Int),ox) ∧
  (∀ (m:Nat) (h:m<S.length),i≤m→m<j→S[m].1=at')∧∀ (h:j<S.length),S[j].1≠at'
 | 0,i,hk=>by
  obtain rfl:i=S.length:=by omega
  refine ⟨S.length,Nat.le_refl _,Nat.le_refl _,xaJ ?_,fun m _ h1 h2=>by omega,fun h=>absurd h (Nat.lt_irrefl _)⟩
  unfold xlZ
  simp only
  unfold xBl
  rw [List.length_map,decide_eq_false (by omega:¬ ((S.length:Nat):Int)<((S.length:Nat):Int))]
  rfl
 | k+1,i,hk=>by
  have h1:i<S.length:=by omega
  have d1:((i:Nat):Int)<((S.length:Nat):Int):=by omega
  have d2:(0:Int)≤((i:Nat):Int):=by omega
  have gf:(S.map xVg).getD i .top=xVg S[i]:=xaH _ _ _ h1
  have c0:((xVg S[i]).cells.getD 0 .top).toInt=S[i].1:=rfl
  have c1:((xVg S[i]).cells.getD 1 .top).toInt=S[i].2.1:=rfl
  have c2:((xVg S[i]).cells.getD 2 .top).toInt=S[i].2.2:=rfl
  have s0:hasSh1 (Sh.int IntKind.i64) ((xVg S[i]).cells.getD 0 .top)=true:=rfl
  have s1:hasSh1 (Sh.int IntKind.i64) ((xVg S[i]).cells.getD 1 .top)=true:=rfl
  have s2:hasSh1 (Sh.int IntKind.i64) ((xVg S[i]).cells.getD 2 .top)=true:=rfl
  have v0:xuv (S.map xVg) ((i:Nat):Int)=true:=by unfold xuv;rw [List.length_map,decide_eq_true d1,decide_eq_true d2];rfl
  by_cases he:S[i].1=at'
  · have hb:=hS2 S[i] (List.getElem_mem h1)
    have b1:=xKa (·.2.1) (S.take i) fun e he=>(hS2 e (List.mem_of_mem_take he)).1
    have b2:=xKa (·.2.2) (S.take i) fun e he=>(hS2 e (List.mem_of_mem_take he)).2
    have hl:(S.take i).length=i:=by rw [List.length_take];omega
    rw [hl] at b1 b2
    have b3:=xNr S (·.2.1) i h1
    have b4:=xNr S (·.2.2) i h1
    have w1:IntKind.i64.wrap (xVf (·.2.1) (S.take i)+S[i].2.1)=xVf (·.2.1) (S.take (i+1)):=by rw [b3];exact xdD (by omega) (by omega)
    have w2:IntKind.i64.wrap (xVf (·.2.2) (S.take i)+S[i].2.2)=xVf (·.2.2) (S.take (i+1)):=by rw [b4];exact xdD (by omega) (by omega)
    have st:xlZ (S.map xVg) on at' (xVf (·.2.1) (S.take i),xVf (·.2.2) (S.take i),((i:Nat):Int),ox)=some (.inl (xVf (·.2.1) (S.take (i+1)),xVf (·.2.2) (S.take (i+1)),((i+1:Nat):Int),ox)):=by
     unfold xlZ
     simp only
     unfold xBl
     have e1:(S[i].1==at')=true:=by simp [he]
     rw [v0,Int.toNat_natCast,gf,s0,s1,s2,c0,c1,c2,List.length_map,decide_eq_true d1,decide_eq_true h1,e1,w1,w2,xnf (show i+1≤maxLen by unfold maxLen;omega)]
     rfl
    obtain ⟨j,j1,j2,j3,j4,j5⟩:=xHB on at' ox k (i+1) (by omega)
    refine ⟨j,by omega,j2,by rw [xaZ st];exact j3,fun m hm h2 h3=>?_,j5⟩
    rcases Nat.eq_or_lt_of_le h2 with rfl|h2
    · exact he
    · exact j4 m hm h2 h3
  · refine ⟨i,Nat.le_refl _,by omega,xaJ ?_,fun m _ h2 h3=>by omega,fun _=>he⟩
    unfold xlZ
    simp only
    unfold xBl
    have e1:(S[i].1==at')=false:=by simp [he]
    rw [v0,Int.toNat_natCast,gf,s0,c0,List.length_map,decide_eq_true d1,decide_eq_true h1,e1]
    rfl
omit hS1 hS2 hS3 hS4
def SwI (K:Int→Bool) (s:Nat×Int×Int×Int×Int×List AV):Prop :=
 ∃ (out:List Per) (i:Nat) (at':Int),s=(out.length,xVf (·.2.1) (S.take i),xVf (·.2.2) (S.take i),((i:Nat):Int),at',out.map encP)∧0≤at'∧at'≤1099511627776∧i≤S.length ∧
  (∀ (m:Nat) (h:m<S.length),m<i→S[m].1<at')∧(∀ (m:Nat) (h:m<S.length),i≤m→at'≤S[m].1)∧OutOk out at' K∧(out.length:Int)≤at'
include hS1 hS2 hS3 hS4
set_option maxHeartbeats 4000000 in
theorem xOj (keep:Bool→Bool→Bool) (a b:List Per) (hp:S.Perm (xVe 1 0 a++xVe 0 1 b)) (s:Nat×Int×Int×Int×Int×List AV) (hs:SwI S (fun t=>keep (inL a t) (inL b t)) s) :
  (∃ s',xjT keep (S.map xVg) s=some (.inl s')∧SwI S (fun t=>keep (inL a t) (inL b t)) s'∧(1099511627776 - s'.2.2.2.2.1).toNat<(1099511627776 - s.2.2.2.2.1).toNat) ∨
  ∃ r,xjT keep (S.map xVg) s=some (.inr r)∧∃ out:List Per,r=(out.length,out.map encP)∧OutOk out 1099511627776 (fun t=>keep (inL a t) (inL b t)):=by
 obtain ⟨out,i,at',rfl,hat0,hatF,hi,hlo,hhi,hok,hol⟩:=hs
 by_cases hF:at'<1099511627776
 · left
   obtain ⟨j,j1,j2,j3,j4,j5⟩:=xHB S hS1 hS2 hS3 hS4 out.length at' (out.map encP) (S.length - i) i (by omega)
   have hloj:∀ (m:Nat) (h:m<S.length),m<j→S[m].1≤at':=fun m h hm=>by
    by_cases hmi:m<i
    · have:=hlo m h hmi;omega
    · have:=j4 m h (by omega) hm;omega
   have hhij:∀ (m:Nat) (h:m<S.length),j≤m→at'<S[m].1:=fun m h hm=>by
    have hj:j<S.length:=by omega
    have h1:=hhi j hj (by omega)
    have h2:=j5 hj
    have h3:S[j].1≤S[m].1:=by
     rcases Nat.eq_or_lt_of_le hm with rfl|hm
     · exact Int.le_refl _
     · exact List.pairwise_iff_getElem.1 hS3 j m hj h hm
    omega
   obtain ⟨nx,hnx⟩:∃ nx:Int,nx=if h:j<S.length then S[j].1 else 1099511627776:=⟨_,rfl⟩
   have hnx1:at'<nx:=by
    rw [hnx];split
    · rename_i h;exact hhij j h (Nat.le_refl _)
    · exact hF
   have hnx2:nx≤1099511627776:=by
    rw [hnx];split
    · rename_i h;exact (hS1 _ (List.getElem_mem h)).2
    · exact Int.le_refl _
   have hnx3:∀ (m:Nat) (h:m<S.length),j≤m→nx≤S[m].1:=fun m h hm=>by
    have hj:j<S.length:=by omega
    rw [hnx,dif_pos hj]
    rcases Nat.eq_or_lt_of_le hm with rfl|hm
    · exact Int.le_refl _
    · exact List.pairwise_iff_getElem.1 hS3 j m hj h hm
   have hsum:∀ (g:Edg→Int) (t:Int),at'≤t→t<nx→xVf g (S.take j)=xVl g t S:=fun g t ht1 ht2=>by
    conv=>rhs;rw [←List.take_append_drop j S]
    rw [xsO,xK2,xIE]
    · omega
    · intro e he
      obtain ⟨m,hm,rfl⟩:=List.mem_iff_getElem.1 he
      rw [List.getElem_drop]
      have:=hnx3 (j+m) (by rw [List.length_drop] at hm;omega) (by omega)
      omega
    · intro e he
      obtain ⟨m,hm,rfl⟩:=List.mem_iff_getElem.1 he
      rw [List.getElem_take]
      rw [List.length_take] at hm
      have:=hloj m (by omega) (by omega)
      omega
   have hcnt:∀ t,at'≤t→t<nx→decide (xVf (·.2.1) (S.take j)>0)=inL a t∧decide (xVf (·.2.2) (S.take j)>0)=inL b t:=fun t ht1 ht2=>by
    rw [hsum _ t ht1 ht2,hsum _ t ht1 ht2,xIF _ t hp,xIF _ t hp,xsO,xsO,xBk,xF0,xIH,xF1,Int.add_zero,Int.zero_add,xMy,xMy]
    exact ⟨rfl,rfl⟩
   obtain ⟨kv,hkv⟩:∃ kv:Bool,kv=keep (decide (xVf (·.2.1) (S.take j)>0)) (decide (xVf (·.2.2) (S.take j)>0)):=⟨_,rfl⟩
   have hK:∀ t,at'≤t→t<nx→keep (inL a t) (inL b t)=kv:=fun t ht1 ht2=>by
    rw [hkv,(hcnt t ht1 ht2).1,(hcnt t ht1 ht2).2]
   have v10:xvj keep (S.map xVg) out.length (xVf (·.2.1) (S.take i)) (xVf (·.2.2) (S.take i)) ((i:Nat):Int) at' (out.map encP)=(xVf (·.2.1) (S.take j),xVf (·.2.2) (S.take j),((j:Nat):Int),out.map encP):=by unfold xvj;rw [j3];rfl
   have v8:xiw keep (S.map xVg) out.length (xVf (·.2.1) (S.take i)) (xVf (·.2.2) (S.take i)) ((i:Nat):Int) at' (out.map encP)=xVf (·.2.1) (S.take j):=by unfold xiw;rw [v10]
   have v9:xw8 keep (S.map xVg) out.length (xVf (·.2.1) (S.take i)) (xVf (·.2.2) (S.take i)) ((i:Nat):Int) at' (out.map encP)=(xVf (·.2.2) (S.take j),((j:Nat):Int),out.map encP):=by unfold xw8;rw [v10]
   have v7:xiv keep (S.map xVg) out.length (xVf (·.2.1) (S.take i)) (xVf (·.2.2) (S.take i)) ((i:Nat):Int) at' (out.map encP)=xVf (·.2.2) (S.take j):=by unfold xiv;rw [v9]
   have v6:xw7 keep (S.map xVg) out.length (xVf (·.2.1) (S.take i)) (xVf (·.2.2) (S.take i)) ((i:Nat):Int) at' (out.map encP)=(((j:Nat):Int),out.map encP):=by unfold xw7;rw [v9]
   have v1:xce keep (S.map xVg) out.length (xVf (·.2.1) (S.take i)) (xVf (·.2.2) (S.take i)) ((i:Nat):Int) at' (out.map encP)=out.map encP:=by unfold xce;rw [v6]
   have v3:xcP keep (S.map xVg) out.length (xVf (·.2.1) (S.take i)) (xVf (·.2.2) (S.take i)) ((i:Nat):Int) at' (out.map encP)=((j:Nat):Int):=by unfold xcP;rw [v6]
   have v2:xw5 keep (S.map xVg) out.length (xVf (·.2.1) (S.take i)) (xVf (·.2.2) (S.take i)) ((i:Nat):Int) at' (out.map encP)=kv:=by unfold xw5;rw [v8,v7,←hkv]
   have v0:xrk keep (S.map xVg) out.length (xVf (·.2.1) (S.take i)) (xVf (·.2.2) (S.take i)) ((i:Nat):Int) at' (out.map encP)=decide (xet keep out.length<out.length):=by unfold xrk;rw [v1,List.length_map]
   have v5:xw6 keep (S.map xVg) out.length (xVf (·.2.1) (S.take i)) (xVf (·.2.2) (S.take i)) ((i:Nat):Int) at' (out.map encP)=decide (j<S.length):=by
    unfold xw6;rw [v3,List.length_map]
    by_cases h:j<S.length
    · rw [decide_eq_true h,decide_eq_true (by omega)]
    · rw [decide_eq_false h,decide_eq_false (by omega)]
   have hol2:(out.length+1)*16≤140737488355328:=by omega
   have hol3:out.length+1≤4611686018427387904:=by omega
   have e1:(out.length==out.length)=true:=by simp
   have dF:decide (at'<1099511627776)=true:=decide_eq_true hF
   have dj:decide ((0:Int)≤((j:Nat):Int))=true:=decide_eq_true (by omega)
   have hnxj:∀ h:j<S.length,(((S.map xVg).getD j .top).cells.getD 0 .top).toInt=nx:=fun h=>by
    rw [xaH _ _ _ h,hnx,dif_pos h];rfl
   have shj:∀ h:j<S.length,hasSh1 (Sh.int IntKind.i64) (((S.map xVg).getD j .top).cells.getD 0 .top)=true:=fun h=>by
    rw [xaH _ _ _ h];rfl
   have fin:∀ out':List Per,OutOk out' nx (fun t=>keep (inL a t) (inL b t))→(out'.length:Int)≤nx→SwI S (fun t=>keep (inL a t) (inL b t)) (out'.length,xVf (·.2.1) (S.take j),xVf (·.2.2) (S.take j),((j:Nat):Int),nx,out'.map encP):=fun out' ho hl =>
    ⟨out',j,nx,rfl,by omega,hnx2,j2,fun m h hm=>by have:=hloj m h hm;omega,fun m h hm=>hnx3 m h hm,ho,hl⟩
   have mu:(1099511627776 - nx).toNat<(1099511627776 - at').toNat:=by omega
   cases kv with
   | false =>
    refine ⟨(out.length,xVf (·.2.1) (S.take j),xVf (·.2.2) (S.take j),((j:Nat):Int),nx,out.map encP),?_,fin out (hok.skip (by omega) hK) (by omega),mu⟩
    unfold xjT
    simp only
    unfold xtE
    rw [v1,v2,v3,v5,v7,v8,j3,dF,dj,Int.toNat_natCast,List.length_map]
    by_cases hj:j<S.length
    · rw [decide_eq_true hj,shj hj,hnxj hj];rfl
    · rw [decide_eq_false hj]
      have:nx=1099511627776:=by rw [hnx,dif_neg hj]
      rw [this];rfl
   | true =>
    by_cases hne:out=[]
    · have hadd:=hok.add hat0 hnx1 hnx2 hK (fun p hp=>by rw [hne] at hp;cases hp)
      refine ⟨((out++[(at',nx)]).length,xVf (·.2.1) (S.take j),xVf (·.2.2) (S.take j),((j:Nat):Int),nx,(out++[(at',nx)]).map encP),?_,fin _ hadd (by rw [List.length_append,List.length_singleton];omega),mu⟩
      have dl:decide (((out.length:Nat):Int)>0)=false:=by rw [hne];rfl
      unfold xjT
      simp only
      unfold xtE
      rw [v1,v2,v3,v5,v7,v8,j3,dF,dj,Int.toNat_natCast,List.length_map,List.length_map,dl,e1,decide_eq_true hol2,decide_eq_true hol3]
      by_cases hj:j<S.length
      · rw [decide_eq_true hj,shj hj,hnxj hj,List.map_append,List.length_append];rfl
      · rw [decide_eq_false hj]
        have:nx=1099511627776:=by rw [hnx,dif_neg hj]
        rw [this,List.map_append,List.length_append];rfl
    · have hpos:=List.length_pos_iff.2 hne
      have w1:IntKind.i64.wrap (((out.length:Nat):Int) - 1)=((out.length - 1:Nat):Int):=by rw [xdD (by omega) (by omega)];omega
      have v11:xet keep out.length=out.length - 1:=by unfold xet;rw [w1,Int.toNat_natCast];omega
      have v4:xrl keep out.length=true:=by
       unfold xrl;rw [w1,decide_eq_true (by omega),decide_eq_true (by omega)];rfl
      have dl:decide (((out.length:Nat):Int)>0)=true:=decide_eq_true (by omega)
      have dv:decide (out.length - 1<out.length)=true:=decide_eq_true (by omega)
      have hlt:out.length - 1<out.length:=by omega
      have gl:(out.map encP).getD (out.length - 1) .top=encP out[out.length - 1]:=xaH _ _ _ hlt
      have cl:((encP out[out.length - 1]).cells.getD 1 .top).toInt=out[out.length - 1].2:=rfl
      have sl:hasSh1 (Sh.int IntKind.i64) ((encP out[out.length - 1]).cells.getD 1 .top)=true:=rfl
      have hsn:=xRq out hne
      by_cases hl:out[out.length - 1].2=at'
      · have hext:=OutOk.ext (o:=out.dropLast) (p:=out[out.length - 1]) (by rw [←hsn];exact hok) hl hnx1 hnx2 hK
        have hlen:(out.dropLast++[(out[out.length - 1].1,nx)]).length=out.length:=by rw [List.length_append,List.length_dropLast,List.length_singleton];omega
        have hset:(out.map encP).set (out.length - 1) (AV.agg (List.take 1 (encP out[out.length - 1]).cells++[AV.int IntKind.i64 nx]++List.drop 2 (encP out[out.length - 1]).cells))=(out.dropLast++[(out[out.length - 1].1,nx)]).map encP:=by
         have e2:AV.agg (List.take 1 (encP out[out.length - 1]).cells++[AV.int IntKind.i64 nx]++List.drop 2 (encP out[out.length - 1]).cells)=encP (out[out.length - 1].1,nx):=rfl
         rw [e2,←List.map_set]
         congr 1
         have e3:out.set (out.length - 1) (out[out.length - 1].1,nx)=(out.dropLast++[out[out.length - 1]]).set (out.length - 1) (out[out.length - 1].1,nx):=congrArg (fun l=>List.set l (out.length - 1) (out[out.length - 1].1,nx)) hsn
         rw [e3,List.set_append_right _ _ (by rw [List.length_dropLast];exact Nat.le_refl _),List.length_dropLast,Nat.sub_self];rfl
        refine ⟨((out.dropLast++[(out[out.length - 1].1,nx)]).length,xVf (·.2.1) (S.take j),xVf (·.2.2) (S.take j),((j:Nat):Int),nx,(out.dropLast++[(out[out.length - 1].1,nx)]).map encP),?_,fin _ hext (by rw [hlen];omega),mu⟩
        have e4:(out[out.length - 1].2==at')=true:=by simp [hl]
        unfold xjT
        simp only
        unfold xtE
        rw [v0,v1,v2,v3,v4,v5,v7,v8,v11,j3,dF,dj,Int.toNat_natCast,List.length_map,gl,cl,sl,dl,dv,e4]
        by_cases hj:j<S.length
        · rw [decide_eq_true hj,shj hj,hnxj hj,hset,hlen];rfl
        · rw [decide_eq_false hj]
          have:nx=1099511627776:=by rw [hnx,dif_neg hj]
          rw [this] at hset hlen ⊢
          rw [hset,hlen];rfl
      · have hadd:=hok.add hat0 hnx1 hnx2 hK (fun p hp=>by
         rw [hsn] at hp
         rcases List.mem_append.1 hp with hp|hp
         · have h1:=hok.span.2
           rw [hsn] at h1
           have:=(List.pairwise_append.1 h1).2.2 p hp _ (List.mem_singleton.2 rfl)
           have h2:=hok.low _ (List.getElem_mem hlt)
           have h3:=xeO.1 (hok.span.1 _ (List.getElem_mem hlt))
           omega
         · rw [List.mem_singleton.1 hp];exact hl)
        refine ⟨((out++[(at',nx)]).length,xVf (·.2.1) (S.take j),xVf (·.2.2) (S.take j),((j:Nat):Int),nx,(out++[(at',nx)]).map encP),?_,fin _ hadd (by rw [List.length_append,List.length_singleton];omega),mu⟩
        have e4:(out[out.length - 1].2==at')=false:=by simp [hl]
        unfold xjT
        simp only
        unfold xtE
        rw [v0,v1,v2,v3,v4,v5,v7,v8,v11,j3,dF,dj,Int.toNat_natCast,List.length_map,List.length_map,gl,cl,sl,dl,dv,e4,e1,decide_eq_true hol2,decide_eq_true hol3]
        by_cases hj:j<S.length
        · rw [decide_eq_true hj,shj hj,hnxj hj,List.map_append,List.length_append];rfl
        · rw [decide_eq_false hj]
          have:nx=1099511627776:=by rw [hnx,dif_neg hj]
          rw [this,List.map_append,List.length_append];rfl
 · right
   have:at'=1099511627776:=by omega
   subst this
   refine ⟨(out.length,out.map encP),?_,out,rfl,hok⟩
   unfold xjT
   simp only
   unfold xtE
   rw [decide_eq_false hF]
   rfl
end
theorem xAz:∀ (l:List Per) (e:Edg),e∈xVe 1 0 l→(-1≤e.2.1∧e.2.1≤1)∧(-1≤e.2.2∧e.2.2≤1)
 | [],e,h=>by cases h
 | p::l,e,h=>by
  unfold xVe at h
  split at h
  · rcases List.mem_cons.1 h with rfl|h
    · simp
    · rcases List.mem_cons.1 h with rfl|h
      · simp
      · exact xAz l e h
  · exact xAz l e h
theorem xAA:∀ (l:List Per) (e:Edg),e∈xVe 0 1 l→(-1≤e.2.1∧e.2.1≤1)∧(-1≤e.2.2∧e.2.2≤1)
 | [],e,h=>by cases h
 | p::l,e,h=>by
  unfold xVe at h
  split at h
  · rcases List.mem_cons.1 h with rfl|h
    · simp
    · rcases List.mem_cons.1 h with rfl|h
      · simp
      · exact xAA l e h
  · exact xAA l e h
theorem xUY (keep:Bool→Bool→Bool) (a b:List Per) (ha:a.length≤1073741824) (hb:b.length≤1073741824) :
  ∃ r:List Per,swG keep (a.map encP) (b.map encP)=some (r.map encP)∧IsSpan r∧∀ t,inL r t=(decide (0≤t)&&(decide (t<1099511627776)&&keep (inL a t) (inL b t))):=by
 obtain ⟨S,hS,hp,hs3⟩:=xSz a b ha hb
 have l1:=xol 1 0 a
 have l2:=xol 0 1 b
 have hSl:S.length=(xVe 1 0 a++xVe 0 1 b).length:=hp.length_eq
 rw [List.length_append] at hSl
 have hmem:∀ e,e∈S→e∈xVe 1 0 a∨e∈xVe 0 1 b:=fun e he=>List.mem_append.1 (hp.mem_iff.1 he)
 have hs1:∀ e,e∈S→0≤e.1∧e.1≤1099511627776:=fun e he=>(hmem e he).elim (xrc 1 0 a e) (xrc 0 1 b e)
 have hs2:∀ e,e∈S→(-1≤e.2.1∧e.2.1≤1)∧(-1≤e.2.2∧e.2.2≤1):=fun e he=>(hmem e he).elim (xAz a e) (xAA b e)
 obtain ⟨r,hr,out,rfl,hok⟩:=xMO (SwI S (fun t=>keep (inL a t) (inL b t))) (fun s=>(1099511627776 - s.2.2.2.2.1).toNat) (fun r=>∃ out:List Per,r=(out.length,out.map encP)∧OutOk out 1099511627776 (fun t=>keep (inL a t) (inL b t)))
  (xOj S hs1 hs2 hs3 (by omega) keep a b hp) (0,0,0,0,0,[]) ⟨[],0,0,rfl,Int.le_refl _,by omega,Nat.zero_le _,fun m _ h=>by omega,fun m h _=>(hs1 _ (List.getElem_mem h)).1,xKN _,by simp⟩
 refine ⟨out,?_,hok.span,hok.done⟩
 have v3:xIL keep (a.map encP) (b.map encP)=some (out.length,out.map encP):=by unfold xIL;rw [hS];exact hr
 have v2:xIK keep (a.map encP) (b.map encP)=(out.length,out.map encP):=by unfold xIK;rw [v3];rfl
 have v0:xIJ keep (a.map encP) (b.map encP)=out.length:=by unfold xIJ;rw [v2]
 have v1:xII keep (a.map encP) (b.map encP)=out.map encP:=by unfold xII;rw [v2]
 have d1:0+out.length≤out.length:=by omega
 unfold swG xTy
 rw [hS,v3,v0,v1,List.length_map,decide_eq_true d1,List.drop_zero,List.take_of_length_le (by rw [List.length_map];exact Nat.le_refl _)]
 rfl
theorem xQc (a b:List AV):xkf a b=swG xmY a b:=rfl
theorem xU6 (a:List Per) (ha:a.length≤1073741824):∃ r:List Per,xmG (a.map encP)=some (r.map encP)∧IsSpan r∧∀ t,inL r t=inL a t:=by
 obtain ⟨r,h1,h2,h3⟩:=xUY xmY a [] ha (by simp)
 refine ⟨r,?_,h2,fun t=>?_⟩
 · unfold xmG xwZ
   rw [xQc,show ([]:List AV)=([]:List Per).map encP from rfl,h1];rfl
 · rw [h3 t]
   cases hc:inL a t with
   | false=>simp [xmY,xbR]
   | true=>have:=xJc hc;simp [xmY,xbR,this]
end Go.Sim.M
end
noncomputable section
set_option maxRecDepth 100000
namespace Go.Sim.M
open Go.RowKit Go.Sim.Srt
theorem xMN {α:Type} {step:Int→Option (Int⊕(Bool×Bool×Unit))} (l:List α) (p:α→Bool)
  (hs:∀ (k:Nat) (h:k<l.length),step (k:Int)=if p l[k]=true then some (.inl ((k+1:Nat):Int)) else some (.inr (true,false,())))
  (he:step (l.length:Int)=some (.inr (false,false,()))):∀ d k:Nat,k+d=l.length→Iter step (k:Int)=some (if (l.drop k).all p=true then (false,false,()) else (true,false,()))
 | 0,k,h=>by
  have:k=l.length:=by omega
  subst this
  rw [List.drop_eq_nil_of_le (Nat.le_refl _),List.all_nil,if_pos rfl]
  exact xaJ he
 | d+1,k,h=>by
  have hk:k<l.length:=by omega
  have:=hs k hk
  have e:(l.drop k).all p=(p l[k]&&(l.drop (k+1)).all p):=by rw [xbI hk];rfl
  rw [e]
  cases hc:p l[k] with
  | true =>
   rw [if_pos hc] at this
   rw [xaZ this,xMN l p hs he d (k+1) (by omega),Bool.true_and]
  | false =>
   rw [if_neg (by rw [hc];simp)] at this
   rw [xaJ this];simp
def few (l:List Fc):Bool:=decide (l.length≤24)&&l.all fun f=>decide (f.r.length≤60)
theorem xUF (l:List Fc):xmU (l.map encF)=some (few l):=by
 have key:xmW (l.map encF) 24=some (few l):=by
  unfold xmW xtL
  by_cases h:(l.length:Int)>24
  · simp only [List.length_map,h,decide_true,xai]
    have:¬ l.length≤24:=by omega
    simp [few,this]
  · have e:=xMN (step:=xcr (l.map encF)) l (fun f=>decide (f.r.length≤60)) (fun k hk=>by
     have hl:l.length≤24:=by omega
     have i1:(k:Int)<(l.length:Int):=by omega
     have gf:(l.map encF).getD k .top=encF l[k]:=xaH _ _ _ hk
     simp only [xcr,xmz,List.length_map,xai,xaj,decide_true,decide_false,Bool.and_true,Bool.true_and,Bool.not_true,Bool.not_false,Int.toNat_natCast,Int.natCast_nonneg,Option.isSome_some,Option.getD_some,beq_self_eq_true,Nat.zero_add,Nat.sub_zero,hk,i1,gf,cF0,cF1,cF2,sF0,sF1,sF2,lF,sF12,sF02,xVi (n:=k) (by omega)]
     by_cases h60:l[k].r.length≤60
     · have:¬ (l[k].r.length:Int)>60:=by omega
       simp [h60,this,xaj]
     · have:(l[k].r.length:Int)>60:=by omega
       simp [h60,this,xai]) (by
     simp only [xcr,xmz,List.length_map,Int.lt_irrefl,decide_false,xaj]) l.length 0 (by omega)
    have e:Iter (xcr (l.map encF)) (0:Int)=_:=e
    rw [List.drop_zero] at e
    simp only [List.length_map,h,decide_false,xaj,e]
    have hl:l.length≤24:=by omega
    cases ha:l.all (fun f=>decide (f.r.length≤60))<;>simp [few,hl,ha,xai,xaj]
 unfold xmU xtI
 simp only [key,xMm]
theorem xMF {l:List Fc} (h:few l=true):l.length≤24∧∀ f,f∈l→f.r.length≤60:=by
 simp only [few,Bool.and_eq_true,decide_eq_true_eq,List.all_eq_true] at h
 exact h
theorem xKL {ps:List Per} (h:ps.length≤262144):Tame (ps.map fun p=>(p,(1:Int))):=⟨by simpa using h,fun c hc=>by
 obtain ⟨p,_,rfl⟩:=List.mem_map.1 hc
 dsimp only;omega⟩
theorem xLb (ps:List Per) (h:ps.length≤262144):∃ S,xdj (ps.map encP)=some (S.map encP)∧StepI (fun t=>((ps.countP (hasP · t):Nat):Int)) 1099511627776 S∧S.length≤2*ps.length+1:=by
 obtain ⟨S,h1,h2,h3⟩:=xAH _ (xKL h)
 refine ⟨S,by rw [xPC ps (by omega),h1],?_,by simpa using h3⟩
 rwa [show sumC (ps.map fun p=>(p,(1:Int)))=fun t=>((ps.countP (hasP · t):Nat):Int) from funext fun t=>xK3 ps t] at h2
theorem xSt (l:List Fc) (row:Row) (t:Int) (g:Fc→List Per) (hg:∀ f,(g f).countP (hasP · t)=if f.r=row∧hasP f.p t=true then 1 else 0):(l.flatMap g).countP (hasP · t)=cnt l row t:=by
 induction l with
 | nil=>rfl
 | cons f l ih =>
  rw [List.flatMap_cons,List.countP_append,ih,hg]
  have e2:cnt (f::l) row t=cnt l row t+if (decide (f.r=row)&&hasP f.p t)=true then 1 else 0:=List.countP_cons
  rw [e2]
  by_cases h:f.r=row∧hasP f.p t=true
  · rw [if_pos h,if_pos (by simp [h.1,h.2])];omega
  · rw [if_neg h,if_neg (by simpa using h)];omega
theorem xPU (l:List Fc) (row:Row) (hr:∀ f,f∈l→f.r.length≤maxLen) (hl:l.length≤262144):∃ S,xim (l.map encF) (row.map encV)=some (S.map encP)∧StepI (fun t=>((cnt l row t:Nat):Int)) 1099511627776 S∧S.length≤2*l.length+1:=by
 have e:=xAV row l (by omega) hr
 have hps:(l.flatMap fun f=>if cmpR f.r row==0 then [(f.p,(1:Int))] else [])=(l.flatMap fun f=>if cmpR f.r row==0 then [f.p] else []).map fun p=>(p,(1:Int)):=by
  rw [List.map_flatMap];congr 1;funext f;split<;>simp
 rw [hps] at e
 generalize hq:(l.flatMap fun f=>if cmpR f.r row==0 then [f.p] else [])=ps at e
 have hlen:ps.length≤l.length:=by
  rw [←hq]
  have:=xlT (c:=1) (g:=fun f:Fc=>if cmpR f.r row==0 then [f.p] else []) l fun f _=>by split<;>simp
  omega
 obtain ⟨S,h1,h2,h3⟩:=xUR _ (xKL (ps:=ps) (by omega))
 refine ⟨S,?_,?_,by rw [List.length_map] at h3;omega⟩
 · unfold xim xpp
   simp only [xr7,xr8,xr9,xsa,e,List.drop_zero,List.take_of_length_le,Nat.zero_add,List.length_map,Nat.le_refl,decide_true,Bool.and_true,xai,Option.isSome_some,Option.getD_some]
   simp only [h1,List.drop_zero,List.take_of_length_le,Nat.zero_add,List.length_map,Nat.le_refl,decide_true,Bool.and_true,xai,Option.isSome_some,Option.getD_some]
 · rwa [show sumC (ps.map fun p=>(p,(1:Int)))=fun t=>((cnt l row t:Nat):Int) from funext fun t=>by
    rw [xK3,←hq,xSt l row t _ fun f=>?_]
    rw [cmp0]
    by_cases hr:f.r=row<;>cases hh:hasP f.p t<;>simp [hr,hh]] at h2
end Go.Sim.M
end
noncomputable section
set_option maxRecDepth 100000
namespace Go.Sim.M
open Go.RowKit Go.Sim.Srt Go.Sort
theorem xUm (E:List Per):(E.map encP).all isP=true∧∃ P:List Per,srtP (E.map encP)=P.map encP∧P.Perm E∧Sorted cmpP P:=by
 have e1:(E.map encP).map decP=E:=by
  rw [List.map_map];conv=>rhs;rw [←List.map_id E]
  rfl
 refine ⟨?_,pdqL cmpP E,?_,(xk1 cmpP swoP E).1,(xtJ cmpP swoP E).imp fun {x y} h=>?_⟩
 · rw [List.all_eq_true]
   intro x hx
   obtain ⟨e,he,rfl⟩:=List.mem_map.1 hx
   rfl
 · unfold srtP;rw [e1];rfl
 · have:=xwz x y;omega
theorem xMQ (S:List Per) (hS:S.length≤524289) (hN:∀ s,s∈S→0≤s.2∧s.2≤1048576):∀ (d k:Nat) (stk ox:List Per),k+d=S.length→StOk stk→(xVh stk).length≤1048576→ox.length≤k*1048576 →
  ∃ stk' ox':List Per,Iter (xcI (S.map encP) ((S.length:Nat):Int)) ((k:Int),ox.length,stk.length,((xVh stk).length:Int),ox.map encP,stk.map encP)=some (ox'.length,((xVh stk').length:Int),stk'.length,ox'.map encP,stk'.map encP) ∧
   StOk stk'∧(xVh stk',ox')=(S.drop k).foldl (fun x s=>setF x (s.1,s.2.toNat)) (xVh stk,ox)∧(xVh stk').length≤1048576∧ox'.length≤S.length*1048576
 | 0,k,stk,ox,h,h1,h2,h3=>by
  obtain rfl:k=S.length:=by omega
  refine ⟨stk,ox,xaJ ?_,h1,by rw [List.drop_eq_nil_of_le (Nat.le_refl _)];rfl,h2,h3⟩
  simp only [xcI,xjv,Int.lt_irrefl,decide_false,xaj]
 | d+1,k,stk,ox,h,h1,h2,h3=>by
  have hk:k<S.length:=by omega
  obtain ⟨n1,n2⟩:=hN _ (List.getElem_mem hk)
  obtain ⟨m,hm⟩:∃ m:Nat,S[k].2=(m:Int):=⟨S[k].2.toNat,by omega⟩
  obtain ⟨stk2,e,a1,a2⟩:=xOZ S[k].1 m (xVh stk).length stk ox h1 rfl (by omega) h2 (by omega)
  have hl2:(xVh stk2).length=m:=by rw [a2,List.length_append,List.length_take,List.length_replicate];omega
  obtain ⟨stk',ox',e',b1,b2,b3,b4⟩:=xMQ S hS hN d (k+1) stk2 (ox++(((xVh stk).drop m).reverse.map fun f=>(f,S[k].1))) (by omega) a1 (by omega) (by
   rw [List.length_append,List.length_map,List.length_reverse,List.length_drop];omega)
  refine ⟨stk',ox',(xaZ ?_).trans e',b1,?_,b3,b4⟩
  · have i1:(k:Int)<(S.length:Int):=by omega
    have gf:(S.map encP).getD k .top=encP S[k]:=xaH _ _ _ hk
    have i2:¬ (0:Int)>(m:Int):=by omega
    have i3:¬ (1048576:Int)<(m:Int):=by omega
    have tk:List.take stk2.length (stk2.map encP)=stk2.map encP:=List.take_of_length_le (by simp)
    rw [hl2]
    simp only [xcI,xjv,xoS,xoT,xoU,xoV,xoW,xoX,xoY,List.length_map,xai,xaj,decide_true,decide_false,Bool.and_true,Bool.true_and,Bool.not_true,Bool.not_false,Int.toNat_natCast,Int.natCast_nonneg,Option.isSome_some,Option.getD_some,beq_self_eq_true,Nat.zero_add,Nat.sub_zero,hk,i1,gf,cP0,cP1,lP,sP,sP0,sP1,hm,i2,i3,if_false,e,tk,xVi (n:=k) (by omega)]
  · rw [b2,xbI hk,List.foldl_cons]
    congr 1
    rw [hm,Int.toNat_natCast,a2];rfl
theorem xRt {N:Int→Nat} {H:Nat} (hb:H≤1048576) (hH:∀ t,N t≤H) (h0:∀ t,t<0∨1099511627776≤t→N t=0) {S:List Per} (hS:StepI (fun t=>(N t:Int)) 1099511627776 S) (hl:S.length≤524289):∃ P,xit (S.map encP)=some (P.map encP)∧IsLevs N P:=by
 obtain ⟨stk,ox,e,a1,a2,a3,a4⟩:=xMQ S hl (fun s hs=>by
  obtain ⟨_,_,m3,_⟩:=(hS.mem s).1 hs
  have:=hH s.1;omega) S.length 0 [] [] (by omega) (fun s hs=>by simp at hs) (by simp [xVh]) (by simp)
 obtain ⟨stk2,e2,c1,c2⟩:=xOZ 1099511627776 0 (xVh stk).length stk ox a1 rfl (by omega) a3 (by omega)
 obtain ⟨s1,P,s2,s3,s4⟩:=xUm (ox++(((xVh stk).drop 0).reverse.map fun f=>(f,(1099511627776:Int))))
 have m1:(ox++(((xVh stk).drop 0).reverse.map fun f=>(f,(1099511627776:Int)))).length<4611686018427387904:=by
  rw [List.length_append,List.length_map,List.length_reverse,List.length_drop];omega
 refine ⟨P,?_,xSG hH h0 hS ?_ s4⟩
 · have pl:=s3.length_eq
   have e:Iter (xcI (S.map encP) ((S.length:Nat):Int)) ((0:Int),(0:Nat),(0:Nat),(0:Int),[],[])=_:=e
   have e2:set2 1099511627776 0 ((xVh stk).length:Int) stk.length ox.length (stk.map encP) (ox.map encP)=_:=e2
   generalize (ox++(((xVh stk).drop 0).reverse.map fun f=>(f,(1099511627776:Int))))=O at s1 s2 e2 pl m1
   have bq:O.length.beq O.length=true:=by simp
   have m2:O.length≤P.length:=by omega
   have tt:List.take O.length (P.map encP)=P.map encP:=List.take_of_length_le (by rw [List.length_map];omega)
   unfold xit xpG
   simp only [xlH,xlI,xsC,xsD,xsE,xsF,xsG,xsH,xsI,List.length_map,e,Option.isSome_some,Option.getD_some,xai,e2,bq,m1,s1,s2,decide_true,Bool.and_true,Nat.zero_add,m2,List.drop_zero,tt]
 · have a2:(xVh stk,ox)=S.foldl (fun x s=>setF x (s.1,s.2.toNat)) ([],[]):=a2
   rw [←a2]
   exact s3
theorem xMz (ps:List Per) (t:Int) (ht:t<0∨1099511627776≤t):ps.countP (hasP · t)=0:=by
 rw [List.countP_eq_zero]
 intro p hp h
 obtain ⟨h1,h2,h3⟩:=xeM.1 h
 have:=xeO.1 h1;omega
theorem xTJ (ps:List Per) (hv:∀ p,p∈ps→pv p=true) (hl:ps.length≤262144):∃ P,xdZ (ps.map encP)=some (P.map encP)∧IsLevs (fun t=>ps.countP (hasP · t)) P:=by
 unfold xdZ xnU
 by_cases h1:ps.length=1
 · obtain ⟨p,rfl⟩:=List.length_eq_one_iff.1 h1
   refine ⟨[p],rfl,List.pairwise_singleton _ _,fun k=>if k=0 then [p] else [],1,fun t=>?_,fun k=>?_,?_⟩
   · have:=List.countP_le_length (p:=(hasP · t)) (l:=[p]);simpa using this
   · by_cases hk:k=0
     · subst hk
       refine ⟨⟨fun q hq=>by simp at hq;subst hq;exact hv _ (by simp),List.pairwise_singleton _ _⟩,fun t=>?_⟩
       simp [inL]
       cases hasP p t<;>simp
     · refine ⟨by simp [hk,xu6],fun t=>?_⟩
       simp only [hk,if_false,xre]
       have:=List.countP_le_length (p:=(hasP · t)) (l:=[p])
       simp at this ⊢;omega
   · simp
 · obtain ⟨S,e1,e2,e3⟩:=xLb ps hl
   obtain ⟨P,e4,e5⟩:=xRt (N:=fun t=>ps.countP (hasP · t)) (H:=ps.length) (by omega) (fun t=>List.countP_le_length) (xMz ps) e2 (by omega)
   refine ⟨P,?_,e5⟩
   have i1:((ps.length:Int)==1)=false:=by simp;omega
   simp only [List.length_map,i1,xaj,e1,e4,Option.isSome_some,Option.getD_some,xai]
def mk (r:Row) (P:List Per):List Fc:=P.map fun p=>⟨r,p⟩
theorem xAB (L:Row→List Per):∀ S:List Grp,(S.flatMap fun g=>mk g.1 (L g.1))=xVk (S.map (·.1)) L
 | []=>rfl
 | g::S=>by rw [List.flatMap_cons,xAB L S];rfl
theorem xKs (t11:List AV) (t12 t13:Int) (row:Row) (hr:row.length≤1048576) (g1:List AV) (P:List Per) (D:List Fc) (hb:D.length+P.length≤2199023255552) (hP:P.length≤1099511627776) :
  Iter (xbw t11 t12 t13 (P.map encP) ((P.length:Nat):Int)) (D.length,(0:Int),D.map encF,row.map encV,g1)=some ((D++mk row P).length,(D++mk row P).map encF):=by
 have key:=xm1 (step:=xbw t11 t12 t13 (P.map encP) ((P.length:Nat):Int)) (fun k=>(((D++mk row (P.take k)).length,((k:Nat):Int),(D++mk row (P.take k)).map encF,row.map encV,g1):Nat×Int×List AV×List AV×List AV)) P.length
  ((D++mk row P).length,(D++mk row P).map encF) (fun k hk=>by
  have i1:(k:Int)<(P.length:Int):=by omega
  have gf:(P.map encP).getD k .top=encP P[k]:=xaH _ _ _ hk
  have dl:(D++mk row (P.take k)).length=D.length+k:=by unfold mk;rw [List.length_append,List.length_map,List.length_take];omega
  have m1:(D.length+k+1)*40≤140737488355328:=by omega
  have m2:D.length+k+1≤4611686018427387904:=by omega
  have m3:row.length*32≤140737488355328:=by omega
  have m4:row.length≤4611686018427387904:=by omega
  have tk:List.take row.length (row.map encV)=row.map encV:=List.take_of_length_le (by simp)
  have tk2:mk row (P.take (k+1))=mk row (P.take k)++[⟨row,P[k]⟩]:=by unfold mk;rw [List.take_add_one,List.getElem?_eq_getElem hk,List.map_append];rfl
  rw [tk2,←List.append_assoc]
  simp only [xbw,xgr,List.length_map,xai,xaj,decide_true,decide_false,Bool.and_true,Bool.true_and,Bool.not_true,Bool.not_false,Int.toNat_natCast,Int.natCast_nonneg,Option.isSome_some,Option.getD_some,beq_self_eq_true,Nat.zero_add,Nat.sub_zero,hk,i1,gf,cP0,cP1,lP,sP,sP0,sP1,dl,m1,m2,m3,m4,Nat.le_refl,tk,List.drop_zero,xVi (n:=k) (by omega)]
  rw [List.length_append,dl]
  simp [encF]) (by
  simp only [xbw,xgr,Int.lt_irrefl,decide_false,xaj,List.take_length]) P.length 0 (by omega)
 have e0:D++mk row (P.take 0)=D:=by simp [mk]
 rw [e0] at key
 exact key
theorem xQY (t11:List AV) (t12 t13:Int) (row:Row) (hr:row.length≤1048576) (g1:List AV) (P:List Per) (D:List Fc) (hb:D.length+P.length≤2199023255552) (hP:P.length≤1099511627776) :
  Iter (xdz t11 t12 t13 (P.map encP) ((P.length:Nat):Int)) (D.length,(0:Int),D.map encF,row.map encV,g1)=some ((D++mk row P).length,(D++mk row P).map encF) :=
 xKs t11 t12 t13 row hr g1 P D hb hP
def Bld (l:List Fc):Prop:=Keyed l∧l.length≤1024
theorem cGs (g:Grp):((encG g).cells.getD 1 .top).toList=g.2.map encP:=rfl
theorem lG (g:Grp):((encG g).cells.length==2)=true:=rfl
theorem sG (g:Grp):hasShs [Sh.list 3,Sh.list 2] (encG g).cells 0=true:=rfl
theorem xKt {f:List AV→Option (List AV)} {step:List AV→Int→Nat×Int×List AV→Option ((Nat×Int×List AV)⊕(Nat×List AV))} (hst:step=xb3∧f=xdZ∨step=xb4∧f=xmG) (S:List Grp) (hS:S.length≤1024) (hr:∀ g,g∈S→g.1.length≤1048576) (L:Row→List Per) (hL:∀ g,g∈S→f (g.2.map encP)=some ((L g.1).map encP)∧(L g.1).length≤1048576) :
  Iter (step (S.map encG) ((S.length:Nat):Int)) ((0:Nat),(0:Int),[])=some ((xVk (S.map (·.1)) L).length,(xVk (S.map (·.1)) L).map encF):=by
 rw [←xAB]
 refine xoq S (fun g=>mk g.1 (L g.1)) encF 1048576 (fun g hg=>by unfold mk;rw [List.length_map];exact (hL g hg).2) (fun n h D hD=>?_) (fun D=>?_)
 · have i1:(n:Int)<(S.length:Int):=by omega
   have gf:(S.map encG).getD n .top=encG S[n]:=xaH _ _ _ h
   obtain ⟨e1,e2⟩:=hL _ (List.getElem_mem h)
   have hrow:=hr _ (List.getElem_mem h)
   rcases hst with ⟨rfl,rfl⟩|⟨rfl,rfl⟩
   · have el:=xKs (S.map encG) (S.length:Int) (n:Int) S[n].1 hrow (S[n].2.map encP) (L S[n].1) D (by omega) (by omega)
     simp only [xb3,xgq,xlN,xlO,List.length_map,xai,xaj,decide_true,decide_false,Bool.and_true,Bool.true_and,Bool.not_true,Bool.not_false,Int.toNat_natCast,Int.natCast_nonneg,Option.isSome_some,Option.getD_some,beq_self_eq_true,Nat.zero_add,Nat.sub_zero,h,i1,gf,cG0,cGs,lG,sG,e1,el,xVi (n:=n) (by omega)]
   · have el:=xQY (S.map encG) (S.length:Int) (n:Int) S[n].1 hrow (S[n].2.map encP) (L S[n].1) D (by omega) (by omega)
     simp only [xb4,xgs,xlQ,xlR,List.length_map,xai,xaj,decide_true,decide_false,Bool.and_true,Bool.true_and,Bool.not_true,Bool.not_false,Int.toNat_natCast,Int.natCast_nonneg,Option.isSome_some,Option.getD_some,beq_self_eq_true,Nat.zero_add,Nat.sub_zero,h,i1,gf,cG0,cGs,lG,sG,e1,el,xVi (n:=n) (by omega)]
 · rcases hst with ⟨rfl,rfl⟩|⟨rfl,rfl⟩
   · simp only [xb3,xgq,Int.lt_irrefl,decide_false,xaj]
   · simp only [xb4,xgs,Int.lt_irrefl,decide_false,xaj]
theorem xwy {R:List Row} {Q:Row→List Per→Prop} (h:∀ r,r∈R→∃ P,Q r P):∃ L:Row→List Per,∀ r,r∈R→Q r (L r):=by
 refine ⟨fun r=>if hr:r∈R then Classical.choose (h r hr) else [],fun r hr=>?_⟩
 show Q r (if hr:r∈R then Classical.choose (h r hr) else [])
 rw [dif_pos hr]
 exact Classical.choose_spec (h r hr)
theorem xRH (l:List Fc) (r:Row):(fun t=>(psOf l r).countP (hasP · t))=cnt l r:=funext fun t=>xC9 l r t
theorem xUy (l:List Fc) (h:Bld l):∃ B,xdy (l.map encF)=some (B.map encF)∧xVt l B:=by
 obtain ⟨S,e1,hR,hps,hSl⟩:=xOW l h.1
 have hl:=h.2
 obtain ⟨L,hL⟩:=xwy (R:=S.map (·.1)) (Q:=fun r P=>xdZ ((psOf l r).map encP)=some (P.map encP)∧IsLevs (cnt l r) P∧P.length≤1048576) fun r hr=>by
  have hlen:=xHT l r
  obtain ⟨P,a1,a2⟩:=xTJ (psOf l r) xSP (by omega)
  have a3:=a2.len
  rw [xRH] at a2
  refine ⟨P,a1,a2,Nat.le_trans a3 (Nat.mul_le_mul (Nat.le_trans hlen hl) (Nat.le_trans hlen hl))⟩
 have hk:∀ g,g∈S→g.1∈S.map (·.1):=fun g hg=>List.mem_map.2 ⟨g,hg,rfl⟩
 have eb:=xKt (.inl ⟨rfl,rfl⟩) S (by omega) (fun g hg=>by
  obtain ⟨f,hf,e,_⟩:=(hR.2 g.1).1 (hk g hg)
  rw [←e];exact h.1.1.2 f hf) L (fun g hg=>by
  rw [hps g hg];exact ⟨(hL _ (hk g hg)).1,(hL _ (hk g hg)).2.2⟩)
 refine ⟨xVk (S.map (·.1)) L,?_,S.map (·.1),L,hR,fun r hr=>(hL r hr).2.1,rfl⟩
 have tt:∀ F:List Fc,List.take F.length (F.map encF)=F.map encF:=fun F=>List.take_of_length_le (by simp)
 unfold xdy xo5 xgi xkV xnF xnG xnH xnI
 simp only [e1,Option.isSome_some,Option.getD_some,xai,List.length_map,eb,Nat.zero_add,Nat.le_refl,decide_true,Bool.and_true,List.drop_zero,tt]
theorem xUW (l:List Fc) (h:Bld l):∃ B,xgL (l.map encF)=some (B.map encF)∧xVD l B:=by
 obtain ⟨S,e1,hR,hps,hSl⟩:=xOW l h.1
 have hl:=h.2
 obtain ⟨L,hL⟩:=xwy (R:=S.map (·.1)) (Q:=fun r P=>xmG ((psOf l r).map encP)=some (P.map encP)∧(IsSpan P∧∀ t,inL P t=decide (0<cnt l r t))∧P.length≤1048576) fun r hr=>by
  have hlen:=xHT l r
  obtain ⟨P,a1,a2,a3⟩:=xU6 (psOf l r) (by omega)
  have a4:∀ t,inL P t=decide (0<(psOf l r).countP (hasP · t)):=fun t=>by
   rw [a3,Bool.eq_iff_iff,decide_eq_true_eq,List.countP_pos_iff]
   unfold inL
   rw [List.any_eq_true]
  refine ⟨P,a1,⟨a2,fun t=>by rw [a4,xC9]⟩,?_⟩
  have:=xJe (k:=0) a2 a4
  omega
 have hk:∀ g,g∈S→g.1∈S.map (·.1):=fun g hg=>List.mem_map.2 ⟨g,hg,rfl⟩
 have eb:=xKt (.inr ⟨rfl,rfl⟩) S (by omega) (fun g hg=>by
  obtain ⟨f,hf,e,_⟩:=(hR.2 g.1).1 (hk g hg)
  rw [←e];exact h.1.1.2 f hf) L (fun g hg=>by
  rw [hps g hg];exact ⟨(hL _ (hk g hg)).1,(hL _ (hk g hg)).2.2⟩)
 refine ⟨xVk (S.map (·.1)) L,?_,S.map (·.1),L,hR,fun r hr=>(hL r hr).2.1,rfl⟩
 have tt:∀ F:List Fc,List.take F.length (F.map encF)=F.map encF:=fun F=>List.take_of_length_le (by simp)
 unfold xgL xo6 xgj xkW xnJ xnK xnL xnM
 simp only [e1,Option.isSome_some,Option.getD_some,xai,List.length_map,eb,Nat.zero_add,Nat.le_refl,decide_true,Bool.and_true,List.drop_zero,tt]
end Go.Sim.M
end
noncomputable section
set_option maxRecDepth 100000
namespace Go.Sim.M
open Go.RowKit Go.Sim.Srt
def Tx (l:List Fc):Prop:=∀ f,f∈l→∀ v,v∈f.r→v.wf∧v.t.length≤1073741824
theorem xRo {r:Row} (h:∀ v,v∈r→v.wf∧v.t.length≤1073741824) (hl:r.length≤60):(keyOf r).length≤17592186044416:=by
 have:=xlT (g:=keyV) (c:=1073741890) r fun v hv=>by
  obtain ⟨h1,h2⟩:=h v hv
  have:=xMP h1 (by omega);omega
 unfold keyOf
 have h2:1073741890*r.length≤1073741890*60:=Nat.mul_le_mul_left _ hl
 omega
theorem xUx {l:List Fc} (hl:l.length≤1024) (hr:∀ f,f∈l→f.r.length≤60) (ht:Tx l):Bld l :=
 ⟨⟨⟨by omega,fun f hf=>by have:=hr f hf;omega⟩,fun f hf=>⟨fun v hv=>⟨(ht f hf v hv).1,by have:=(ht f hf v hv).2;omega⟩,xRo (ht f hf) (hr f hf)⟩⟩,hl⟩
theorem xTQ {l:List Fc} (h:few l=true) (ht:Tx l):Bld l:=by
 obtain ⟨h1,h2⟩:=xMF h
 exact xUx (by omega) h2 ht
theorem xVt.all {l B:List Fc} (h:xVt l B) {Q:Row→Prop} (hq:∀ f,f∈l→Q f.r):∀ f,f∈B→Q f.r:=fun f hf=>by
 obtain ⟨_,g,hg,e⟩:=h.valid hf
 rw [←e];exact hq g hg
theorem xVD.all {l B:List Fc} (h:xVD l B) {Q:Row→Prop} (hq:∀ f,f∈l→Q f.r):∀ f,f∈B→Q f.r:=fun f hf=>by
 obtain ⟨R,L,h1,h2,rfl⟩:=h
 obtain ⟨a,b⟩:=xKy hf
 obtain ⟨g,g1,g2,_⟩:=(h1.2 _).1 a
 rw [←g2];exact hq g g1
theorem xVD.len {l B:List Fc} (h:xVD l B):B.length≤l.length*l.length:=by
 obtain ⟨R,L,h1,h2,rfl⟩:=h
 refine xCx (h1.1.nodup xyc) fun r hr=>?_
 obtain ⟨a,b⟩:=h2 r hr
 have:=xJe (ps:=psOf l r) (k:=0) a fun t=>by rw [b,xC9]
 exact Nat.le_trans this (Nat.le_mul_self _)
theorem xOJ {l B:List Fc} (hl:l.length≤24) (h:B.length≤l.length*l.length):B.length≤576:=Nat.le_trans h (Nat.mul_le_mul hl hl)
def split (t:Int) (f:Fc):List Fc:=if hasP f.p t=true then (if f.p.1<t then [⟨f.r,(t,f.p.2)⟩,⟨f.r,(f.p.1,t)⟩] else [f]) else [f]
end Go.Sim.M
end
noncomputable section
namespace Go.Sim
theorem xKc:∀ {xs:List AV} {x:AV},x∈xs→AV.wt x≤AV.wts xs
 | y::xs,x,h=>by
  simp only [AV.wts]
  rcases List.mem_cons.1 h with rfl|h
  · omega
  · have:=xKc h;omega
theorem M.tx_wt {l:List M.Fc} (h:(AV.list 3 (l.map M.encF)).wt≤1048576) (hw:∀ y,y∈l→y.wf):M.Tx l:=fun f hf v hv=>by
 refine ⟨(hw f hf).1.2 v hv,?_⟩
 have h1:AV.wt (M.encF f)≤AV.wts (l.map M.encF):=xKc (List.mem_map.2 ⟨f,hf,rfl⟩)
 have h2:AV.wt (M.encV v)≤AV.wts (f.r.map M.encV):=xKc (List.mem_map.2 ⟨v,hv,rfl⟩)
 have e1:AV.wt (M.encF f)=AV.wts (f.r.map M.encV)+1+(1+(1+0)):=rfl
 have e2:AV.wt (M.encV v)=1+(1+(v.t.length+1+0)):=rfl
 have e3:(AV.list 3 (l.map M.encF)).wt=AV.wts (l.map M.encF)+1:=rfl
 omega
end Go.Sim
end
noncomputable section
set_option maxRecDepth 100000
namespace Go.Sim.M
open Go.RowKit Go.Sim.Srt
def pos (S:List Per) (i:Nat):Int:=match S[i]? with
 | some s=>s.1
 | none=>1099511627776
theorem xzG {S:List Per} {i:Nat} (h:i<S.length):pos S i=S[i].1:=by unfold pos;rw [List.getElem?_eq_getElem h]
theorem xMZ {S:List Per} {i:Nat} (h:S.length≤i):pos S i=1099511627776:=by unfold pos;rw [List.getElem?_eq_none h]
theorem xSM {N:Int→Nat} {S:List Per} (hS:StepI (fun t=>(N t:Int)) 1099511627776 S) {i:Nat} (hi:i<S.length):0≤pos S i∧pos S i<pos S (i+1)∧pos S (i+1)≤1099511627776∧S[i].2=(N S[i].1:Int)∧∀ t,pos S i≤t→t<pos S (i+1)→N t=N S[i].1:=by
 obtain ⟨m1,m2,m3,_⟩:=(hS.mem S[i]).1 (List.getElem_mem hi)
 rw [xzG hi]
 have hb:S[i].1<pos S (i+1)∧pos S (i+1)≤1099511627776:=by
  by_cases h:i+1<S.length
  · rw [xzG h]
    have:=List.pairwise_iff_getElem.1 hS.asc i (i+1) hi h (by omega)
    have:=((hS.mem S[i+1]).1 (List.getElem_mem h)).2.1
    omega
  · rw [xMZ (by omega)];omega
 refine ⟨m1,hb.1,hb.2,m3,fun t h1 h2=>xwE (a:=S[i].1) (b:=pos S (i+1)) (fun u u1 u2=>?_) (t - S[i].1).toNat t (by omega) h2⟩
 by_cases e:N (u - 1)=N u
 · exact e
 · have hu:(u,(N u:Int))∈S:=(hS.mem _).2 ⟨by dsimp only;omega,by dsimp only;omega,rfl,.inr (by dsimp only;omega)⟩
   obtain ⟨k,hk,hke⟩:=List.mem_iff_getElem.1 hu
   have hk1:S[k].1=u:=by rw [hke]
   rcases Nat.lt_or_ge i k with hik|hik
   · have:i+1<S.length:=by omega
     rw [xzG this] at u2
     rcases Nat.lt_or_ge (i+1) k with h3|h3
     · have:=List.pairwise_iff_getElem.1 hS.asc (i+1) k this hk h3;omega
     · obtain rfl:k=i+1:=by omega
       omega
   · rcases Nat.lt_or_ge k i with h3|h3
     · have:=List.pairwise_iff_getElem.1 hS.asc k i hk hi h3;omega
     · obtain rfl:k=i:=by omega
       omega
theorem xSN {N:Int→Nat} {S:List Per} (hS:StepI (fun t=>(N t:Int)) 1099511627776 S):pos S 0=0:=by
 have h0:((0:Int),(N 0:Int))∈S:=(hS.mem _).2 ⟨by simp,by simp,rfl,.inl rfl⟩
 obtain ⟨k,hk,hke⟩:=List.mem_iff_getElem.1 h0
 have h:0<S.length:=by omega
 have p0:=((hS.mem S[0]).1 (List.getElem_mem h)).1
 rw [xzG h]
 have hk1:S[k].1=0:=by rw [hke]
 rcases Nat.lt_or_ge 0 k with h3|h3
 · have:=List.pairwise_iff_getElem.1 hS.asc 0 k h hk h3;omega
 · obtain rfl:k=0:=by omega
   exact hk1
def xVp (out:List Per) (f t:Int):List Per:=match out.getLast? with
 | some p=>if p.2=f then out.dropLast++[(p.1,t)] else out++[(f,t)]
 | none=>out++[(f,t)]
theorem xVM {n:Nat} (h:n≤1099511627776):(n+1)*16≤140737488355328∧n+1≤4611686018427387904∧n*16≤140737488355328∧n≤4611686018427387904:=by omega
theorem xTU (out:List Per) (f t:Int) (hft:f<t) (hlow:∀ p,p∈out→p.2≤f) (hl:out.length≤1048576):∃ q,xds out.length f t (out.map encP)=some q∧br q.1 q.2.1.1 q.2.2.1=(xVp out f t).length∧br q.1 q.2.1.2.2 q.2.2.2=(xVp out f t).map encP:=by
 rcases xvh out with rfl|⟨o,p,rfl⟩
 · refine ⟨_,rfl,rfl,rfl⟩
 · have hp:=hlow p (by simp)
   have L:(o++[p]).length=o.length+1:=by simp
   rw [L] at hl
   have w1:IntKind.i64.wrap (((o.length+1:Nat):Int) - 1)=(o.length:Int):=xVZ (by omega)
   have i1:((o.length+1:Nat):Int)>0:=by omega
   have i2:(o.length:Int)<((o.length+1:Nat):Int):=by omega
   have i3:(o.length:Int)≤((o.length+1:Nat):Int):=by omega
   have i4:o.length<o.length+1:=by omega
   have i5:o.length≤o.length+1:=by omega
   have gl:((o++[p]).map encP).getD o.length .top=encP p:=by
    rw [List.map_append];have:=xMJ (o.map encP) (encP p) .top;rwa [List.length_map] at this
   have tl:List.take o.length ((o++[p]).map encP)=o.map encP:=by
    rw [List.map_append];exact List.take_left' (by simp)
   obtain ⟨m1,m2,m3,m4⟩:=xVM (n:=o.length) (by omega)
   obtain ⟨m5,m6,_,_⟩:=xVM (n:=o.length+1) (by omega)
   have jn:xVp (o++[p]) f t=if p.2=f then o++[(p.1,t)] else o++[p]++[(f,t)]:=by
    unfold xVp;simp
   by_cases he:p.2=f
   · have c1:p.2≥f:=by omega
     have c2:t>p.2:=by omega
     rw [jn,if_pos he,L]
     refine ⟨(true,(o.length+1,(o++[p]).map encP,o.map encP++[encP (p.1,t)]),(0,[])),?_,by simp [xai],by simp [xai]⟩
     unfold xds xoy xnj xgh xqA xqB xnk xqC
     simp only [List.length_map,xai,xaj,decide_true,decide_false,Bool.and_true,Bool.true_and,Bool.not_true,Bool.not_false,Int.toNat_natCast,Int.natCast_nonneg,Option.isSome_some,Option.getD_some,beq_self_eq_true,Nat.zero_add,Nat.sub_zero,L,w1,i1,i2,i3,i4,i5,gl,cP0,cP1,lP,sP,sP0,sP1,c1,c2,tl,List.drop_zero,m1,m2,m3,m4,if_true,aggP]
   · have c1:¬ p.2≥f:=by omega
     rw [jn,if_neg he,L]
     refine ⟨(false,(0,[],[]),(o.length+1+1,(o++[p]).map encP++[encP (f,t)])),?_,by simp [xaj],by simp [xaj]⟩
     unfold xds xoy xnj xgh xqA xqB xnk xqC
     simp only [List.length_map,xai,xaj,decide_true,decide_false,Bool.and_true,Bool.true_and,Bool.not_true,Bool.not_false,Int.toNat_natCast,Int.natCast_nonneg,Option.isSome_some,Option.getD_some,beq_self_eq_true,Nat.zero_add,Nat.sub_zero,L,w1,i1,i2,i3,i4,gl,cP0,cP1,lP,sP,sP0,sP1,c1,m5,m6,aggP]
theorem xRn {out:List Per} {f t:Int} {K:Int→Bool} (h:OutOk out f K) (h0:0≤f) (hlt:f<t) (hF:t≤1099511627776) (hK:∀ u,f≤u→u<t→K u=true):OutOk (xVp out f t) t K∧(xVp out f t).length≤out.length+1:=by
 rcases xvh out with rfl|⟨o,p,rfl⟩
 · exact ⟨h.add h0 hlt hF hK (fun p hp=>by simp at hp),by simp [xVp]⟩
 · have jn:xVp (o++[p]) f t=if p.2=f then o++[(p.1,t)] else o++[p]++[(f,t)]:=by unfold xVp;simp
   rw [jn]
   by_cases he:p.2=f
   · rw [if_pos he]
     exact ⟨h.ext he hlt hF hK,by simp⟩
   · rw [if_neg he]
     refine ⟨h.add h0 hlt hF hK (fun q hq e=>?_),by simp⟩
     rcases List.mem_append.1 hq with hq|hq
     · have:=(List.pairwise_append.1 h.span.2).2.2 q hq p (by simp)
       have hv:=xeO.1 (h.span.1 p (by simp))
       have:=h.low p (by simp)
       omega
     · rw [List.mem_singleton] at hq;subst hq;exact he e
theorem xMl {N:Int→Nat} {S:List Per} (hS:StepI (fun t=>(N t:Int)) 1099511627776 S) (hl:S.length≤524289) (n:Int):∀ (d i:Nat) (out:List Per),i+d=S.length→OutOk out (pos S i) (fun t=>decide (n≤(N t:Int)))→out.length≤i →
  ∃ out':List Per,Iter (xa4 (S.map encP) n) (out.length,(i:Int),out.map encP)=some (out'.length,out'.map encP)∧OutOk out' 1099511627776 (fun t=>decide (n≤(N t:Int)))∧out'.length≤S.length
 | 0,i,out,h,ho,hn=>by
  obtain rfl:i=S.length:=by omega
  rw [xMZ (Nat.le_refl _)] at ho
  refine ⟨out,xaJ ?_,ho,hn⟩
  simp only [xa4,xdJ,List.length_map,Int.lt_irrefl,decide_false,xaj]
 | d+1,i,out,h,ho,hn=>by
  have hi:i<S.length:=by omega
  obtain ⟨p1,p2,p3,p4,p5⟩:=xSM hS hi
  have i1:(i:Int)<(S.length:Int):=by omega
  have gf:(S.map encP).getD i .top=encP S[i]:=xaH _ _ _ hi
  have wi:=xVi (n:=i) (by omega)
  have pe:=xzG hi
  by_cases hge:S[i].2≥n
  · have hK:∀ t,pos S i≤t→t<pos S (i+1)→(fun t=>decide (n≤(N t:Int))) t=true:=fun t t1 t2=>by
     dsimp only;rw [p5 t t1 t2,←p4];exact decide_eq_true hge
    obtain ⟨j1,j2⟩:=xRn ho p1 p2 p3 hK
    obtain ⟨q,q1,q2,q3⟩:=xTU out (pos S i) (pos S (i+1)) p2 ho.low (by omega)
    obtain ⟨out',e',x1,x2⟩:=xMl hS hl n d (i+1) (xVp out (pos S i) (pos S (i+1))) (by omega) j1 (by omega)
    refine ⟨out',(xaZ (s':=((xVp out (pos S i) (pos S (i+1))).length,((i+1:Nat):Int),(xVp out (pos S i) (pos S (i+1))).map encP)) ?_).trans e',x1,x2⟩
    rw [←q2,←q3]
    by_cases hn1:i+1<S.length
    · have i2:((i+1:Nat):Int)<(S.length:Int):=by omega
      have gn:(S.map encP).getD (i+1) .top=encP S[i+1]:=xaH _ _ _ hn1
      rw [xzG hn1,pe] at q1
      simp only [xa4,xdJ,xfE,xfF,xfG,xfH,xfI,xfJ,xfK,xfL,xfM,xfN,xda,xe0,xe1,xe2,List.length_map,xai,xaj,decide_true,decide_false,Bool.and_true,Bool.true_and,Bool.not_true,Bool.not_false,Int.toNat_natCast,Int.natCast_nonneg,Option.isSome_some,Option.getD_some,beq_self_eq_true,Nat.zero_add,Nat.sub_zero,i1,i2,hi,hn1,gf,gn,cP0,cP1,lP,sP,sP0,sP1,hge,wi,q1]
    · have i2:¬ ((i+1:Nat):Int)<(S.length:Int):=by omega
      rw [xMZ (S:=S) (i:=i+1) (by omega),pe] at q1
      simp only [xa4,xdJ,xfE,xfF,xfG,xfH,xfI,xfJ,xfK,xfL,xfM,xfN,xda,xe0,xe1,xe2,List.length_map,xai,xaj,decide_true,decide_false,Bool.and_true,Bool.true_and,Bool.not_true,Bool.not_false,Int.toNat_natCast,Int.natCast_nonneg,Option.isSome_some,Option.getD_some,beq_self_eq_true,Nat.zero_add,Nat.sub_zero,i1,i2,hi,gf,cP0,cP1,lP,sP,sP0,sP1,hge,wi,q1]
  · have hK:∀ t,pos S i≤t→t<pos S (i+1)→(fun t=>decide (n≤(N t:Int))) t=false:=fun t t1 t2=>by
     dsimp only;rw [p5 t t1 t2,←p4];exact decide_eq_false (by omega)
    obtain ⟨out',e',x1,x2⟩:=xMl hS hl n d (i+1) out (by omega) (ho.skip (by omega) hK) (by omega)
    refine ⟨out',(xaZ (s':=(out.length,((i+1:Nat):Int),out.map encP)) ?_).trans e',x1,x2⟩
    by_cases hn1:i+1<S.length
    · have i2:((i+1:Nat):Int)<(S.length:Int):=by omega
      have gn:(S.map encP).getD (i+1) .top=encP S[i+1]:=xaH _ _ _ hn1
      simp only [xa4,xdJ,xfE,xfF,xfG,xfH,xfI,xfJ,xfK,xfL,xfM,xfN,xda,xe0,xe1,xe2,List.length_map,xai,xaj,decide_true,decide_false,Bool.and_true,Bool.true_and,Bool.not_true,Bool.not_false,Int.toNat_natCast,Int.natCast_nonneg,Option.isSome_some,Option.getD_some,beq_self_eq_true,Nat.zero_add,Nat.sub_zero,i1,i2,hi,hn1,gf,gn,cP0,cP1,lP,sP,sP0,sP1,hge,wi]
    · have i2:¬ ((i+1:Nat):Int)<(S.length:Int):=by omega
      simp only [xa4,xdJ,xfE,xfF,xfG,xfH,xfI,xfJ,xfK,xfL,xfM,xfN,xda,xe0,xe1,xe2,List.length_map,xai,xaj,decide_true,decide_false,Bool.and_true,Bool.true_and,Bool.not_true,Bool.not_false,Int.toNat_natCast,Int.natCast_nonneg,Option.isSome_some,Option.getD_some,beq_self_eq_true,Nat.zero_add,Nat.sub_zero,i1,i2,hi,gf,cP0,cP1,lP,sP,sP0,sP1,hge,wi]
theorem xQV {N:Int→Nat} (h0:∀ t,t<0∨1099511627776≤t→N t=0) {S:List Per} (hS:StepI (fun t=>(N t:Int)) 1099511627776 S) (hl:S.length≤524289) (k:Nat):∃ A:List Per,xbr (S.map encP) ((k+1:Nat):Int)=some (A.map encP)∧(IsSpan A∧∀ t,inL A t=decide (k<N t))∧A.length≤S.length:=by
 obtain ⟨A,e,a1,a2⟩:=xMl hS hl ((k+1:Nat):Int) S.length 0 [] (by omega) (by rw [xSN hS];exact xKN _) (Nat.le_refl _)
 refine ⟨A,?_,⟨a1.span,fun t=>?_⟩,a2⟩
 · have e:Iter (xa4 (S.map encP) ((k+1:Nat):Int)) ((0:Nat),(0:Int),[])=_:=e
   have tt:List.take A.length (A.map encP)=A.map encP:=List.take_of_length_le (by simp)
   unfold xbr xnW
   simp only [xqT,xqU,xqV,e,Option.isSome_some,Option.getD_some,xai,Nat.zero_add,List.length_map,Nat.le_refl,decide_true,Bool.and_true,List.drop_zero,tt]
 · rw [a1.done]
   by_cases h1:0≤t
   · by_cases h2:t<1099511627776
     · simp only [h1,h2,decide_true,Bool.true_and]
       rw [Bool.eq_iff_iff,decide_eq_true_eq,decide_eq_true_eq];omega
     · have:=h0 t (.inr (by omega));simp [h2,this]
   · have:=h0 t (.inl (by omega));simp [h1,this]
theorem xRJ (p q:Per):decide (xkz p.1 p.2 q.1 q.2≤0)=decide (cmpP p q≤0):=by
 rw [Bool.eq_iff_iff,decide_eq_true_eq,decide_eq_true_eq,xzf]
 unfold xkz
 simp only [xbR,Bool.and_true]
 by_cases h1:p.1=q.1
 · by_cases h2:p.2=q.2
   · simp [h1,h2]
   · by_cases h3:p.2<q.2
     · simp [h1,h2,h3];omega
     · simp [h1,h2,h3];omega
 · by_cases h3:p.1<q.1
   · simp [h1,h3]
   · simp [h1,h3]
theorem xMY (P:List Per) (hP:P.length≤1099511627775) (p:Per):∀ (d i:Nat),i+d=P.length→(∀ k (h:k<P.length),k<i→cmpP P[k] p≤0)→∃ m:Nat,m≤P.length∧(∀ k (h:k<P.length),k<m→cmpP P[k] p≤0)∧(∀ h:m<P.length,¬ cmpP P[m] p≤0) ∧
  Iter (xcp (P.map encP)) (i,(i:Int),p.1,p.2,(P.take i).map encP)=some (m,(m:Int),p.1,p.2,(P.take m).map encP)
 | 0,i,h,hk=>by
  obtain rfl:i=P.length:=by omega
  refine ⟨P.length,Nat.le_refl _,hk,fun h=>by omega,xaJ ?_⟩
  simp only [xcp,xh4,List.length_map,Int.lt_irrefl,decide_false,xaj]
 | d+1,i,h,hk=>by
  have hi:i<P.length:=by omega
  have i1:(i:Int)<(P.length:Int):=by omega
  have gf:(P.map encP).getD i .top=encP P[i]:=xaH _ _ _ hi
  have tl:(P.take i).length=i:=by rw [List.length_take];omega
  obtain ⟨m1,m2,_,_⟩:=xVM (n:=i) (by omega)
  have rc:=xRJ P[i] p
  by_cases hc:cmpP P[i] p≤0
  · rw [decide_eq_true hc] at rc
    obtain ⟨m,a1,a2,a3,a4⟩:=xMY P hP p d (i+1) (by omega) (fun k h h1=>by
     by_cases e:k=i
     · subst e;exact hc
     · exact hk k h (by omega))
    refine ⟨m,a1,a2,a3,(xaZ ?_).trans a4⟩
    simp only [xcp,xh4,xl8,List.length_map,xai,xaj,decide_true,decide_false,Bool.and_true,Bool.true_and,Bool.not_true,Bool.not_false,Int.toNat_natCast,Int.natCast_nonneg,Option.isSome_some,Option.getD_some,beq_self_eq_true,Nat.zero_add,Nat.sub_zero,i1,hi,gf,cP0,cP1,lP,sP,sP0,sP1,rc,tl,m1,m2,xVi (n:=i) (by omega),aggP]
    rw [List.take_add_one,List.getElem?_eq_getElem hi,List.map_append]
    rfl
  · rw [decide_eq_false hc] at rc
    refine ⟨i,by omega,hk,fun _=>hc,xaJ ?_⟩
    simp only [xcp,xh4,xl8,List.length_map,xai,xaj,decide_true,decide_false,Bool.and_true,Bool.true_and,Bool.not_true,Bool.not_false,Int.toNat_natCast,Int.natCast_nonneg,Option.isSome_some,Option.getD_some,beq_self_eq_true,Nat.zero_add,Nat.sub_zero,i1,hi,gf,cP0,cP1,lP,sP,sP0,sP1,rc]
theorem xSL (P:List Per) (hP:P.length≤1099511627775) (p:Per) (hs:Sorted cmpP P):∃ P':List Per,xjS (P.map encP) p.1 p.2=some (P'.map encP)∧P'.Perm (p::P)∧Sorted cmpP P':=by
 obtain ⟨m,a1,a2,a3,a4⟩:=xMY P hP p P.length 0 (by omega) (fun k h h1=>by omega)
 refine ⟨P.take m++p::P.drop m,?_,?_,?_⟩
 · have a4:Iter (xcp (P.map encP)) ((0:Nat),(0:Int),p.1,p.2,[])=_:=a4
   have tl:(P.take m).length=m:=by rw [List.length_take];omega
   obtain ⟨m1,m2,_,_⟩:=xVM (n:=m) (by omega)
   have i1:(m:Int)≤(P.length:Int):=by omega
   have t1:List.take (P.length - m) (List.drop m (P.map encP))=(P.drop m).map encP:=by rw [List.take_of_length_le (by simp),List.map_drop]
   have dl:(P.drop m).length=P.length - m:=List.length_drop
   have m3:(m+1+(P.length - m))*16≤140737488355328:=by omega
   have m4:m+1+(P.length - m)≤4611686018427387904:=by omega
   have fin:(P.take m).map encP++[encP p]++(P.drop m).map encP=(P.take m++p::P.drop m).map encP:=by simp
   have fl:((P.take m++p::P.drop m).map encP).length=m+1+(P.length - m):=by simp;omega
   have tt:List.take (m+1+(P.length - m)) ((P.take m++p::P.drop m).map encP)=(P.take m++p::P.drop m).map encP:=List.take_of_length_le (by rw [fl];exact Nat.le_refl _)
   have ag:AV.agg [.int .i64 p.1,.int .i64 p.2]=encP p:=rfl
   unfold xjS xqD
   simp only [xmn,xtm,xtn,xmo,xto,xmp,xtp,xtq,xtr,xts,xrZ,xrx,xr0,a4,List.length_map,xai,xaj,decide_true,decide_false,Bool.and_true,Bool.true_and,Bool.not_true,Bool.not_false,Int.toNat_natCast,Int.natCast_nonneg,Option.isSome_some,Option.getD_some,beq_self_eq_true,Nat.zero_add,Nat.sub_zero,ag,tl,t1,dl,m1,m2,m3,m4,i1,List.length_append,List.length_singleton,fin,Nat.le_refl,List.drop_zero]
   have l9:m+(p::P.drop m).length=m+1+(P.length - m):=by rw [List.length_cons,dl];omega
   simp only [List.length_map,l9,Nat.le_refl,decide_true,xai,tt]
 · exact List.perm_middle.trans (by rw [List.take_append_drop])
 · refine List.pairwise_append.2 ⟨hs.sublist (List.take_sublist _ _),List.pairwise_cons.2 ⟨fun q hq=>?_,hs.sublist (List.drop_sublist _ _)⟩,fun x hx y hy=>?_⟩
   · obtain ⟨j,hj,rfl⟩:=List.mem_iff_getElem.1 hq
     rw [List.length_drop] at hj
     rw [List.getElem_drop]
     have h1:=a3 (by omega)
     have h2:cmpP p P[m]≤0:=by rw [xwz P[m] p];omega
     rcases Nat.eq_zero_or_pos j with rfl|hj0
     · exact h2
     · exact xSq.trans _ _ _ h2 (List.pairwise_iff_getElem.1 hs m (m+j) (by omega) (by omega) (by omega))
   · obtain ⟨i,hi,rfl⟩:=List.mem_take_iff_getElem.1 hx
     rcases List.mem_cons.1 hy with rfl|hy
     · exact a2 i (by omega) (by omega)
     · obtain ⟨j,hj,rfl⟩:=List.mem_iff_getElem.1 hy
       rw [List.length_drop] at hj
       rw [List.getElem_drop]
       exact List.pairwise_iff_getElem.1 hs i (m+j) (by omega) (by omega) (by omega)
theorem xOV (l:List AV) (n:Int) (s:List Per) (hs:s.length≤1048576):∀ (d i:Nat) (out:List Per),i+d=s.length→Sorted cmpP out→out.length+d≤1099511627775→∃ out':List Per,Iter (xbW l n (s.map encP)) (out.map encP,(i:Int))=some (out'.map encP)∧out'.Perm (out++s.drop i)∧Sorted cmpP out'
 | 0,i,out,h,ho,hl=>by
  obtain rfl:i=s.length:=by omega
  refine ⟨out,xaJ ?_,by rw [List.drop_eq_nil_of_le (Nat.le_refl _),List.append_nil],ho⟩
  simp only [xbW,xjn,List.length_map,Int.lt_irrefl,decide_false,xaj]
 | d+1,i,out,h,ho,hl=>by
  have hi:i<s.length:=by omega
  have i1:(i:Int)<(s.length:Int):=by omega
  have gf:(s.map encP).getD i .top=encP s[i]:=xaH _ _ _ hi
  obtain ⟨P',e1,p1,s1⟩:=xSL out (by omega) s[i] ho
  have pl:=p1.length_eq
  rw [List.length_cons] at pl
  obtain ⟨out',e2,p2,s2⟩:=xOV l n s hs d (i+1) P' (by omega) s1 (by omega)
  refine ⟨out',(xaZ (s':=(P'.map encP,((i+1:Nat):Int))) ?_).trans e2,?_,s2⟩
  · simp only [xbW,xjn,List.length_map,xai,xaj,decide_true,decide_false,Bool.and_true,Bool.true_and,Bool.not_true,Bool.not_false,Int.toNat_natCast,Int.natCast_nonneg,Option.isSome_some,Option.getD_some,beq_self_eq_true,Nat.zero_add,Nat.sub_zero,i1,hi,gf,cP0,cP1,lP,sP,sP0,sP1,e1,xVi (n:=i) (by omega)]
  · refine p2.trans ((p1.append_right _).trans ?_)
    rw [xbI hi]
    exact List.perm_middle.symm
theorem xOU {S:List Per} (A:Nat→List Per) (C:Nat) (hC:C≤524289) (hA:∀ k,xbr (S.map encP) ((k+1:Nat):Int)=some ((A k).map encP)∧(A k).length≤C) (H:Nat) (hH:H≤1048575) (hE:A H=[]):∀ (d k:Nat) (out:List Per),k+d=H→Sorted cmpP out→out.Perm ((List.range k).flatMap A) →
  ∃ (K:Nat) (out':List Per),Iter (xbV (S.map encP)) (out.map encP,((k+1:Nat):Int))=some (true,(out'.map encP,out'.map encP),[])∧A K=[]∧K≤H∧out'.Perm ((List.range K).flatMap A)∧Sorted cmpP out'
 | d,k,out,h,ho,hp=>by
  obtain ⟨e1,l1⟩:=hA k
  have n1:((k+1:Nat):Int)≤1048576:=by omega
  by_cases hk:A k=[]
  · refine ⟨k,out,xaJ ?_,hk,by omega,hp,ho⟩
    rw [hk] at e1
    simp only [xbV,xjm,n1,e1,decide_true,xai,Option.isSome_some,Option.getD_some,List.map_nil]
    rfl
  · match d,h with
    | 0,h =>
     obtain rfl:k=H:=by omega
     exact absurd hE hk
    | d+1,h =>
     have ol:out.length≤C*k:=by
      rw [hp.length_eq]
      have:=xlT (g:=A) (List.range k) fun j _=>(hA j).2
      rwa [List.length_range] at this
     have ol2:C*k≤524289*1048575:=Nat.mul_le_mul hC (by omega)
     obtain ⟨out',e2,p2,s2⟩:=xOV (S.map encP) ((k+1:Nat):Int) (A k) (by omega) (A k).length 0 out (by omega) ho (by omega)
     obtain ⟨K,o2,e3,k1,k2,p3,s3⟩:=xOU A C hC hA H hH hE d (k+1) out' (by omega) s2 (by
      rw [List.range_succ,List.flatMap_append]
      rw [List.drop_zero] at p2
      refine p2.trans ((hp.append_right _).trans ?_)
      simp)
     refine ⟨K,o2,(xaZ ?_).trans e3,k1,k2,p3,s3⟩
     have ne:(((A k).length:Int)==0)=false:=by
      have:(A k).length≠0:=fun e=>hk (List.length_eq_zero_iff.1 e)
      simp;exact hk
     have e2:Iter (xbW (S.map encP) ((k+1:Nat):Int) ((A k).map encP)) (out.map encP,(0:Int))=_:=e2
     simp only [xbV,xjm,n1,e1,decide_true,xai,xaj,Option.isSome_some,Option.getD_some,List.length_map,ne,e2,xVi (n:=k+1) (by omega)]
theorem xP3 {N:Int→Nat} {H:Nat} (hH:H≤1048575) (hN:∀ t,N t≤H) (h0:∀ t,t<0∨1099511627776≤t→N t=0) {S:List Per} (hS:StepI (fun t=>(N t:Int)) 1099511627776 S) (hl:S.length≤524289):∃ P,xdA (S.map encP)=some (P.map encP)∧IsLevs N P:=by
 have ha:=xQV h0 hS hl
 have hA:=fun k=>Classical.choose_spec (ha k)
 obtain ⟨A,hAe⟩:∃ A:Nat→List Per,A=fun k=>Classical.choose (ha k):=⟨_,rfl⟩
 have hA:∀ k,xbr (S.map encP) ((k+1:Nat):Int)=some ((A k).map encP)∧(IsSpan (A k)∧∀ t,inL (A k) t=decide (k<N t))∧(A k).length≤S.length:=fun k=>by rw [hAe];exact hA k
 have hE:A H=[]:=xBf (hA H).2.1.1 fun t=>by rw [(hA H).2.1.2];have:=hN t;simp;omega
 obtain ⟨K,P,e,k1,k2,p1,s1⟩:=xOU A S.length hl (fun k=>⟨(hA k).1,(hA k).2.2⟩) H hH hE H 0 [] (by omega) List.Pairwise.nil (by simp)
 refine ⟨P,?_,s1,A,K,fun t=>?_,fun k=>(hA k).2.1,p1⟩
 · have e:Iter (xbV (S.map encP)) ([],(1:Int))=_:=e
   unfold xdA xpl
   simp only [xrX,xrY,e,Option.isSome_some,Option.getD_some,xai]
 · have:=(hA K).2.1.2 t
   rw [k1,xre] at this
   have:=of_decide_eq_false this.symm
   omega
end Go.Sim.M
end
noncomputable section
set_option maxRecDepth 100000
namespace Go.Sim.M
open Go.RowKit Go.Sim.Srt
def dk (S:List Row):Nat→List Row
 | 0=>[]
 | k+1=>dk S k++(if k=0∨S[k - 1]?≠S[k]? then S[k]?.toList else [])
theorem xMA (S:List Row):∀ k,(dk S k).length≤k
 | 0=>Nat.le_refl _
 | k+1=>by
  have:=xMA S k
  unfold dk
  rw [List.length_append]
  have:(if k=0∨S[k - 1]?≠S[k]? then S[k]?.toList else []).length≤1:=by
   split
   · cases S[k]?<;>simp
   · simp
  omega
theorem xTv (S:List Row) (hs:Sorted cmpR S):∀ k,k≤S.length→Strict cmpR (dk S k)∧∀ x,x∈dk S k↔x∈S.take k
 | 0,_=>⟨List.Pairwise.nil,fun x=>by simp [dk]⟩
 | k+1,hk=>by
  obtain ⟨h1,h2⟩:=xTv S hs k (by omega)
  have hlt:k<S.length:=by omega
  have tk:S.take (k+1)=S.take k++[S[k]]:=by rw [List.take_add_one,List.getElem?_eq_getElem hlt];rfl
  unfold dk
  rw [List.getElem?_eq_getElem hlt,tk]
  by_cases hc:k=0∨S[k - 1]?≠some S[k]
  · rw [if_pos hc]
    refine ⟨List.pairwise_append.2 ⟨h1,List.pairwise_singleton _ _,fun x hx y hy=>?_⟩,fun x=>by rw [List.mem_append,List.mem_append,h2];rfl⟩
    simp at hy;subst hy
    obtain ⟨i,hi,rfl⟩:=List.mem_take_iff_getElem.1 ((h2 x).1 hx)
    have hk0:k≠0:=by omega
    have hk1:k - 1<S.length:=by omega
    have hne:S[k - 1]≠S[k]:=fun e=>by
     rcases hc with hc|hc
     · exact hk0 hc
     · exact hc (by rw [List.getElem?_eq_getElem hk1,e])
    have c1:cmpR S[k - 1] S[k]≤0:=List.pairwise_iff_getElem.1 hs _ _ hk1 hlt (by omega)
    have c2:cmpR S[k - 1] S[k]<0:=by
     rcases Int.lt_or_eq_of_le c1 with c|c
     · exact c
     · exact absurd (xq9 c) hne
    rcases Nat.lt_or_ge i (k - 1) with hik|hik
    · have c3:cmpR S[i] S[k - 1]≤0:=List.pairwise_iff_getElem.1 hs _ _ (by omega) hk1 hik
      exact xyc.lt2 c3 c2
    · have:i=k - 1:=by omega
      subst this;exact c2
  · rw [if_neg hc,List.append_nil]
    refine ⟨h1,fun x=>?_⟩
    rw [h2,List.mem_append,List.mem_singleton]
    refine ⟨Or.inl,fun hh=>hh.elim id fun hx=>?_⟩
    have hk0:k≠0:=fun e=>hc (.inl e)
    have he:S[k - 1]?=some S[k]:=by
     by_cases e:S[k - 1]?=some S[k]
     · exact e
     · exact absurd (.inr e) hc
    have hk1:k - 1<S.length:=by omega
    rw [List.getElem?_eq_getElem hk1,Option.some.injEq] at he
    rw [hx,←he]
    exact List.mem_take_iff_getElem.2 ⟨k - 1,by omega,rfl⟩
theorem xV1 {n:Nat} (h:n≤1048576):(n+1)*24≤140737488355328∧n+1≤4611686018427387904:=by omega
theorem xNK (S:List Row) (hS:S.length≤1048576) (hr:∀ x,x∈S→x.length≤maxLen):Iter (xbu (S.map encR)) ((0:Nat),(0:Int),[])=some ((dk S S.length).length,(dk S S.length).map encR):=by
 refine xm1 (fun k=>(((dk S k).length,((k:Nat):Int),(dk S k).map encR):Nat×Int×List AV)) S.length _ (fun k hk=>?_) ?_ S.length 0 (by omega)
 · have i1:(k:Int)<(S.length:Int):=by omega
   have gf:(S.map encR).getD k .top=encR S[k]:=xaH _ _ _ hk
   have dl:=xMA S k
   obtain ⟨m1,m2⟩:=xV1 (n:=(dk S k).length) (by omega)
   cases k with
   | zero =>
    have:dk S (0+1)=[S[0]]:=by simp [dk,List.getElem?_eq_getElem hk]
    rw [this]
    have i0:(((0:Nat):Int)==0)=true:=rfl
    simp only [xbu,xfS,xgS,xgT,xjC,List.length_map,xai,xaj,decide_true,decide_false,Bool.and_true,Bool.true_and,Bool.not_true,Bool.not_false,Int.toNat_natCast,Int.natCast_nonneg,Option.isSome_some,Option.getD_some,beq_self_eq_true,Nat.zero_add,Nat.sub_zero,hk,i0,i1,gf,cR0,sR0,m1,m2,xVi (n:=0) (by omega)]
    rfl
   | succ j =>
    have hj:j<S.length:=by omega
    have i0:(((j+1:Nat):Int)==0)=false:=by simp;omega
    have i2:(j:Int)<(S.length:Int):=by omega
    have gj:(S.map encR).getD j .top=encR S[j]:=xaH _ _ _ hj
    have ee:=xUQ S[j] S[j+1] (hr _ (List.getElem_mem hj))
    have wj:IntKind.i64.wrap (((j+1:Nat):Int) - 1)=(j:Int):=by rw [xdD (by omega) (by omega)];omega
    have sd:dk S (j+1+1)=dk S (j+1)++(if S[j]=S[j+1] then [] else [S[j+1]]):=by
     show dk S (j+1)++_=_
     congr 1
     rw [show j+1 - 1=j by omega,List.getElem?_eq_getElem hj,List.getElem?_eq_getElem hk]
     by_cases e:S[j]=S[j+1]
     · simp [e]
     · simp [e]
    rw [sd]
    simp only [xbu,xfS,xgS,xgT,xjC,List.length_map,xai,xaj,decide_true,decide_false,Bool.and_true,Bool.true_and,Bool.not_true,Bool.not_false,Int.toNat_natCast,Int.natCast_nonneg,Option.isSome_some,Option.getD_some,beq_self_eq_true,Nat.zero_add,Nat.sub_zero,hk,hj,i0,i1,i2,gf,gj,cR0,sR0,ee,wj,cmp0,m1,m2,xVi (n:=j+1) (by omega)]
    by_cases e:S[j]=S[j+1]
    · simp [e,xaj]
    · simp [e,xai,encR]
 · simp only [xbu,xfS,List.length_map,Int.lt_irrefl,decide_false,xaj]
theorem xNL (l:List Row) (h:xVB l):∃ D,xh7 (l.map encR)=some (D.map encR)∧Strict cmpR D∧(∀ x,x∈D↔x∈l)∧D.length≤l.length:=by
 obtain ⟨S,e1,p1,s1⟩:=xSY l h
 have hS:=h.perm p1
 obtain ⟨a1,a2⟩:=xTv S s1 S.length (Nat.le_refl _)
 have e2:=xNK S hS.1 (fun x hx=>by have:=hS.2 x hx;unfold maxLen;omega)
 refine ⟨dk S S.length,?_,a1,fun x=>by rw [a2,List.take_length,p1.mem_iff],by rw [←p1.length_eq];exact xMA _ _⟩
 have tt:List.take (dk S S.length).length ((dk S S.length).map encR)=(dk S S.length).map encR:=List.take_of_length_le (by simp)
 unfold xh7 xm6
 simp only [xpO,xpP,xpQ,e1,e2,Option.isSome_some,Option.getD_some,xai,Nat.zero_add,List.length_map,Nat.le_refl,decide_true,Bool.and_true,List.drop_zero,tt]
end Go.Sim.M
end
noncomputable section
set_option maxRecDepth 100000
namespace Go.Sim.M
open Go.RowKit Go.Sim.Srt
noncomputable def cF (f g:Fc):Int:=cmpR f.r g.r
theorem xSp:Cm cF:=xyc.on (e:=fun f:Fc=>f.r)
theorem xPE (a b:List Fc) (ha:a.length+b.length≤1048576) (hra:∀ x,x∈a→x.r.length≤1048576) (hrb:∀ x,x∈b→x.r.length≤1048576) (sa:Sorted cF a) (sb:Sorted cF b) :
  ∀ (n i k:Nat) (D:List Fc),(a.length - i)+(b.length - k)=n→i≤a.length→k≤b.length→D.length=i+k →
   ∃ r,Iter (xbj (List.map encF a) (List.map encF b)) (D.length,(i:Int),(k:Int),List.map encF D)=some (a.length+b.length,List.map encF (D++r))∧r.Perm (a.drop i++b.drop k)∧Sorted cF r:=by
 intro n
 induction n with
 | zero =>
  intro i k D hn hi hk hD
  have h1:¬ (i:Int)<(a.length:Int):=by omega
  have h2:¬ (k:Int)<(b.length:Int):=by omega
  refine ⟨[],xaJ ?_,?_,by simp [Sorted]⟩
  · simp only [xbj,xed,xeT,xdc,xdd,xcb,xcc,  List.length_map,xbR,h1,h2,decide_false,Bool.false_eq_true,if_false,List.append_nil]
    rw [show D.length=a.length+b.length by omega]
  · rw [List.drop_eq_nil_of_le (by omega),List.drop_eq_nil_of_le (by omega)];exact List.Perm.refl _
 | succ n ih =>
  intro i k D hn hi hk hD
  have hlen:(List.map encF D).length=D.length:=by simp
  have m1:(D.length+1)*40≤140737488355328:=by omega
  have m2:D.length+1≤4611686018427387904:=by omega
  have snoc:∀ x:Fc,List.map encF D++[AV.agg [AV.list 3 (x.r.map encV),AV.int .i64 x.p.1,AV.int .i64 x.p.2]]=List.map encF (D++[x]):=fun x=>by simp [encF]
  have wi:=xnf (n:=i) (show i+1≤maxLen by unfold maxLen;omega)
  have wk:=xnf (n:=k) (show k+1≤maxLen by unfold maxLen;omega)
  by_cases hia:i<a.length
  · have i1:(i:Int)<(a.length:Int):=by omega
    have i2:((i:Int)==(a.length:Int))=false:=by simp;omega
    have hx:a[i]?=some a[i]:=by simp [hia]
    by_cases hkb:k<b.length
    · have k1:(k:Int)<(b.length:Int):=by omega
      have hy:b[k]?=some b[k]:=by simp [hkb]
      have e:=xvl b[k].r a[i].r (by have:=hrb b[k] (List.getElem_mem hkb);unfold maxLen;omega)
      by_cases hc:cmpR b[k].r a[i].r<0
      · obtain ⟨r,h1,h2,h3⟩:=ih i (k+1) (D++[b[k]]) (by omega) hi (by omega) (by simp;omega)
        refine ⟨b[k]::r,?_,?_,?_⟩
        · refine xbc (s':=((D++[b[k]]).length,(i:Int),((k+1:Nat):Int),List.map encF (D++[b[k]]))) ?_ (by rw [h1];simp)
          simp only [xbj,xed,xeT,xdc,xdd,xcb,xcc,  List.length_map,xbR,i1,i2,k1,hia,hkb,decide_true,Bool.false_eq_true,if_false,if_true,Int.toNat_natCast,gR hx,gR hy,cF0,cF1,cF2,sF0,sF1,sF2,lF,sF12,sF02,e,Option.isSome_some,Option.getD_some,hc,Int.natCast_nonneg,Bool.and_true,beq_self_eq_true,m1,m2,snoc,wk]
          simp
        · rw [xbI hkb]
          exact (h2.cons _).trans List.perm_middle.symm
        · refine List.pairwise_cons.2 ⟨fun z hz=>?_,h3⟩
          rcases List.mem_append.1 (h2.mem_iff.1 hz) with hz|hz
          · rw [xbI hia] at hz
            rcases List.mem_cons.1 hz with rfl|hz
            · exact Int.le_of_lt hc
            · obtain ⟨j,hj,rfl⟩:=List.mem_iff_getElem.1 hz
              have hja:i+1+j<a.length:=by simp at hj;omega
              have:=xcl sa (i:=i) (j:=i+1+j) (by omega) hja
              rw [List.getElem_drop]
              exact xSp.trans _ _ _ (Int.le_of_lt hc) this
          · obtain ⟨j,hj,rfl⟩:=List.mem_iff_getElem.1 hz
            have hjb:k+1+j<b.length:=by simp at hj;omega
            rw [List.getElem_drop]
            exact xcl sb (i:=k) (j:=k+1+j) (by omega) hjb
      · obtain ⟨r,h1,h2,h3⟩:=ih (i+1) k (D++[a[i]]) (by omega) (by omega) hk (by simp;omega)
        refine ⟨a[i]::r,?_,?_,?_⟩
        · refine xbc (s':=((D++[a[i]]).length,((i+1:Nat):Int),(k:Int),List.map encF (D++[a[i]]))) ?_ (by rw [h1];simp)
          simp only [xbj,xed,xeT,xdc,xdd,xcb,xcc,  List.length_map,xbR,i1,i2,k1,hia,hkb,decide_true,Bool.false_eq_true,if_false,if_true,Int.toNat_natCast,gR hx,gR hy,cF0,cF1,cF2,sF0,sF1,sF2,lF,sF12,sF02,e,Option.isSome_some,Option.getD_some,hc,decide_false,Int.natCast_nonneg,Bool.and_true,beq_self_eq_true,m1,m2,snoc,wi]
          simp
        · rw [xbI hia]
          exact h2.cons _
        · refine List.pairwise_cons.2 ⟨fun z hz=>?_,h3⟩
          have hab:cF a[i] b[k]≤0:=xSp.ord.le_of_not hc
          rcases List.mem_append.1 (h2.mem_iff.1 hz) with hz|hz
          · obtain ⟨j,hj,rfl⟩:=List.mem_iff_getElem.1 hz
            have hja:i+1+j<a.length:=by simp at hj;omega
            rw [List.getElem_drop]
            exact xcl sa (i:=i) (j:=i+1+j) (by omega) hja
          · rw [xbI hkb] at hz
            rcases List.mem_cons.1 hz with rfl|hz
            · exact hab
            · obtain ⟨j,hj,rfl⟩:=List.mem_iff_getElem.1 hz
              have hjb:k+1+j<b.length:=by simp at hj;omega
              rw [List.getElem_drop]
              exact xSp.trans _ _ _ hab (xcl sb (i:=k) (j:=k+1+j) (by omega) hjb)
    · have k1:¬ (k:Int)<(b.length:Int):=by omega
      obtain ⟨r,h1,h2,h3⟩:=ih (i+1) k (D++[a[i]]) (by omega) (by omega) hk (by simp;omega)
      refine ⟨a[i]::r,?_,?_,?_⟩
      · refine xbc (s':=((D++[a[i]]).length,((i+1:Nat):Int),(k:Int),List.map encF (D++[a[i]]))) ?_ (by rw [h1];simp)
        simp only [xbj,xed,xeT,xdc,xdd,xcb,xcc,  List.length_map,xbR,i1,i2,k1,hia,decide_true,decide_false,Bool.false_eq_true,if_false,if_true,Int.toNat_natCast,gR hx,cF0,cF1,cF2,sF0,sF1,sF2,lF,sF12,sF02,Int.natCast_nonneg,Bool.and_true,beq_self_eq_true,m1,m2,snoc,wi]
        simp
      · rw [xbI hia]
        exact h2.cons _
      · refine List.pairwise_cons.2 ⟨fun z hz=>?_,h3⟩
        rw [List.drop_eq_nil_of_le (show b.length≤k by omega),List.append_nil] at h2
        obtain ⟨j,hj,rfl⟩:=List.mem_iff_getElem.1 (h2.mem_iff.1 hz)
        have hja:i+1+j<a.length:=by simp at hj;omega
        rw [List.getElem_drop]
        exact xcl sa (i:=i) (j:=i+1+j) (by omega) hja
  · have i1:¬ (i:Int)<(a.length:Int):=by omega
    have hkb:k<b.length:=by omega
    have k1:(k:Int)<(b.length:Int):=by omega
    have i2:((i:Int)==(a.length:Int))=true:=by simp;omega
    have hy:b[k]?=some b[k]:=by simp [hkb]
    obtain ⟨r,h1,h2,h3⟩:=ih i (k+1) (D++[b[k]]) (by omega) hi (by omega) (by simp;omega)
    refine ⟨b[k]::r,?_,?_,?_⟩
    · refine xbc (s':=((D++[b[k]]).length,(i:Int),((k+1:Nat):Int),List.map encF (D++[b[k]]))) ?_ (by rw [h1];simp)
      simp only [xbj,xed,xeT,xdc,xdd,xcb,xcc,  List.length_map,xbR,i1,i2,k1,hkb,decide_true,decide_false,Bool.false_eq_true,if_false,if_true,Int.toNat_natCast,gR hy,cF0,cF1,cF2,sF0,sF1,sF2,lF,sF12,sF02,Int.natCast_nonneg,Bool.and_true,beq_self_eq_true,m1,m2,snoc,wk]
      simp
    · rw [xbI hkb]
      exact (h2.cons _).trans List.perm_middle.symm
    · refine List.pairwise_cons.2 ⟨fun z hz=>?_,h3⟩
      rw [List.drop_eq_nil_of_le (show a.length≤i by omega),List.nil_append] at h2
      obtain ⟨j,hj,rfl⟩:=List.mem_iff_getElem.1 (h2.mem_iff.1 hz)
      have hjb:k+1+j<b.length:=by simp at hj;omega
      rw [List.getElem_drop]
      exact xcl sb (i:=k) (j:=k+1+j) (by omega) hjb
theorem xPF (a b:List Fc) (ha:a.length+b.length≤1048576) (hra:∀ x,x∈a→x.r.length≤1048576) (hrb:∀ x,x∈b→x.r.length≤1048576) (sa:Sorted cF a) (sb:Sorted cF b) :
  ∃ r,xkd (a.map encF) (b.map encF)=some (r.map encF)∧r.Perm (a++b)∧Sorted cF r:=by
 obtain ⟨r,h1,h2,h3⟩:=xPE a b ha hra hrb sa sb _ 0 0 [] rfl (Nat.zero_le _) (Nat.zero_le _) rfl
 simp only [List.drop_zero,List.nil_append] at h1 h2
 have h1':Iter (xbj (a.map encF) (b.map encF)) (0,(0:Int),(0:Int),[])=some (r.length,r.map encF):=by
  rw [h2.length_eq,List.length_append];exact h1
 refine ⟨r,?_,h2,h3⟩
 unfold xkd xpt
 simp only [xsk,xsl,xsm,xsn,h1',List.drop_zero,List.take_of_length_le,Nat.zero_add,List.length_map,Nat.le_refl,decide_true,Bool.and_true,xai,Option.isSome_some,Option.getD_some]
theorem xNN:∀ (f:Nat) (l:List Fc),l.length≤2 ^ f→Few l→∃ r,xde (f+1) (List.map encF l)=some (List.map encF r)∧r.Perm l∧Sorted cF r:=by
 intro f
 induction f with
 | zero =>
  intro l hl hs
  have h1:(l.length:Int)<2:=by simp at hl;omega
  refine ⟨l,?_,List.Perm.refl _,?_⟩
  · show xd1 (xde 0) (List.map encF l)=_
    simp only [xd1,xiX,List.length_map,h1,decide_true,xai]
  · match l,hl with
    | [],_=>exact List.Pairwise.nil
    | [x],_=>exact List.pairwise_singleton _ _
 | succ f ih =>
  intro l hl hs
  by_cases h2:l.length≤1
  · have h1:(l.length:Int)<2:=by omega
    refine ⟨l,?_,List.Perm.refl _,?_⟩
    · show xd1 (xde (f+1)) (List.map encF l)=_
      simp only [xd1,xiX,List.length_map,h1,decide_true,xai]
    · match l,h2 with
      | [],_=>exact List.Pairwise.nil
      | [x],_=>exact List.pairwise_singleton _ _
  · have hp:2 ^ (f+1)=2*2 ^ f:=by rw [Nat.pow_succ];omega
    have hs1:=hs.1
    obtain ⟨m,hm⟩:∃ m,m=l.length / 2:=⟨_,rfl⟩
    have st:Few (l.take m):=⟨by simp;omega,fun x hx=>hs.2 x (List.mem_of_mem_take hx)⟩
    have sd:Few (l.drop m):=⟨by simp;omega,fun x hx=>hs.2 x (List.mem_of_mem_drop hx)⟩
    obtain ⟨r1,e1,p1,s1⟩:=ih (l.take m) (by simp;omega) st
    obtain ⟨r2,e2,p2,s2⟩:=ih (l.drop m) (by simp;omega) sd
    have l1:=p1.length_eq
    have l2:=p2.length_eq
    simp only [List.length_take,List.length_drop] at l1 l2
    obtain ⟨r,a1,a3,a4⟩:=xPF r1 r2 (by omega) (fun x hx=>st.2 x (p1.mem_iff.1 hx)) (fun x hx=>sd.2 x (p2.mem_iff.1 hx)) s1 s2
    refine ⟨r,?_,a3.trans ((p1.append p2).trans (by rw [List.take_append_drop])),a4⟩
    have w:IntKind.i64.wrap ((l.length:Int).tdiv 2)=(m:Int):=by
     rw [Int.tdiv_eq_ediv_of_nonneg (by omega)]
     exact w64 (by omega) (by omega)
    have t1:List.take m (List.map encF l)=List.map encF (l.take m):=by simp
    have t2:List.take (l.length - m) (List.drop m (List.map encF l))=List.map encF (l.drop m):=by
     rw [List.take_of_length_le (by simp)];simp
    have d0:¬ (l.length:Int)<2:=by omega
    have d2:(m:Int)≤(l.length:Int):=by omega
    show xd1 (xde (f+1)) (List.map encF l)=_
    simp only [xd1,xiX,xqY,xqZ,xqx,  List.length_map,d0,xaj,w,Int.toNat_natCast,Nat.sub_zero,List.drop_zero,t1,t2,e1,e2,Option.isSome_some,Option.getD_some,xai,d2,decide_true,decide_false,Int.natCast_nonneg,Bool.and_true,a1]
theorem xSX (l:List Fc) (h:Few l):∃ D,xli (l.map encF)=some (D.map encR)∧xVs l D:=by
 have e0:=xDK l h.1
 have hf:(l.flatMap fun f=>if pv f.p=true then [f.r] else []).length≤1*l.length:=xlT l fun f _=>by split<;>simp
 have hm:∀ x,x∈(l.flatMap fun f=>if pv f.p=true then [f.r] else [])↔∃ f,f∈l∧f.r=x∧pv f.p=true:=fun x=>by
  rw [List.mem_flatMap]
  constructor
  · rintro ⟨f,hf,hx⟩
    split at hx
    · simp at hx;exact ⟨f,hf,hx.symm,by assumption⟩
    · simp at hx
  · rintro ⟨f,hf,e,hv⟩
    exact ⟨f,hf,by rw [if_pos hv];simp [e]⟩
 have hsh:xVB (l.flatMap fun f=>if pv f.p=true then [f.r] else []):=⟨by have:=h.1;omega,fun x hx=>by
  obtain ⟨f,hf,e,_⟩:=(hm x).1 hx
  rw [←e];exact h.2 f hf⟩
 obtain ⟨D,d1,d2,d3,d4⟩:=xNL _ hsh
 refine ⟨D,?_,d2,fun r=>by rw [d3,hm]⟩
 generalize (l.flatMap fun f=>if pv f.p=true then [f.r] else [])=w at e0 d1
 have tt:List.take w.length (w.map encR)=w.map encR:=List.take_of_length_le (by simp)
 unfold xli xse
 simp only [xuI,xuJ,xuK,xuL,e0,Option.isSome_some,Option.getD_some,xai,Nat.zero_add,List.length_map,Nat.le_refl,decide_true,Bool.and_true,List.drop_zero,tt,d1]
theorem xOX (S:List Fc) (hS:S.length≤1048576) (hr:∀ f,f∈S→f.r.length≤maxLen) (on i:Nat) (hi:i<S.length) (xs:List AV):∀ (d k:Nat),k+d=S.length→i≤k→∃ j:Nat,k≤j∧j≤S.length∧(∀ t (h:t<S.length),k≤t→t<j→S[t].r=S[i].r)∧(∀ h:j<S.length,S[j].r≠S[i].r) ∧
  Iter (xbz (S.map encF) on (i:Int)) ((k:Int),xs)=some ((j:Int),xs)
 | 0,k,h,hik=>by
  obtain rfl:k=S.length:=by omega
  refine ⟨S.length,Nat.le_refl _,Nat.le_refl _,fun t h1 h2 h3=>by omega,fun h=>by omega,xaJ ?_⟩
  simp only [xbz,xhn,List.length_map,Int.lt_irrefl,decide_false,xaj]
 | d+1,k,h,hik=>by
  have hk:k<S.length:=by omega
  have i1:(k:Int)<(S.length:Int):=by omega
  have i2:(i:Int)<(S.length:Int):=by omega
  have gk:(S.map encF).getD k .top=encF S[k]:=xaH _ _ _ hk
  have gi:(S.map encF).getD i .top=encF S[i]:=xaH _ _ _ hi
  have ec:=xvl S[k].r S[i].r (hr _ (List.getElem_mem hk))
  by_cases he:S[k].r=S[i].r
  · obtain ⟨j,a1,a2,a3,a4,a5⟩:=xOX S hS hr on i hi xs d (k+1) (by omega) (by omega)
    refine ⟨j,by omega,a2,fun t h1 h2 h3=>?_,a4,(xaZ (s':=(((k+1:Nat):Int),xs)) ?_).trans a5⟩
    · by_cases hkt:t=k
      · subst hkt;exact he
      · exact a3 t h1 (by omega) h3
    · have dd:decide (S[k].r=S[i].r)=true:=decide_eq_true he
      simp only [xbz,xhn,List.length_map,xai,xaj,decide_true,decide_false,Bool.and_true,Bool.true_and,Bool.not_true,Bool.not_false,Int.toNat_natCast,Int.natCast_nonneg,Option.isSome_some,Option.getD_some,beq_self_eq_true,Nat.zero_add,Nat.sub_zero,i1,i2,hk,hi,gk,gi,cF0,cF1,cF2,sF0,sF1,sF2,lF,sF12,sF02,ec,cmp0,dd,xVi (n:=k) (by omega)]
  · refine ⟨k,Nat.le_refl _,by omega,fun t h1 h2 h3=>by omega,fun _=>he,xaJ ?_⟩
    simp only [xbz,xhn,List.length_map,xai,xaj,decide_true,decide_false,Bool.and_true,Bool.true_and,Bool.not_true,Bool.not_false,Int.toNat_natCast,Int.natCast_nonneg,Option.isSome_some,Option.getD_some,beq_self_eq_true,Nat.zero_add,Nat.sub_zero,i1,i2,hk,hi,gk,gi,cF0,cF1,cF2,sF0,sF1,sF2,lF,sF12,sF02,ec,cmp0,he,decide_false]
structure RGI (S:List Fc) (i:Nat) (G:List Grp):Prop where
 st:Strict cmpR (G.map (·.1))
 mem:∀ r,r∈G.map (·.1)↔∃ f,f∈S.take i∧f.r=r∧pv f.p=true
 ps:∀ g,g∈G→StepI (fun t=>((cnt S g.1 t:Nat):Int)) 1099511627776 g.2∧g.2.length≤2*S.length+1
 len:G.length≤i
 bd:∀ a b (ha:a<S.length) (hb:b<S.length),a<i→i≤b→cmpR S[a].r S[b].r<0
theorem xV2 {n:Nat} (h:n≤1048576):(n+1)*48≤140737488355328∧n+1≤4611686018427387904:=by omega
theorem xKD (S:List Fc) (hS:S.length≤262144) (hr:∀ f,f∈S→f.r.length≤1048576) (hs:Sorted cF S):∀ (c i:Nat) (G:List Grp),S.length - i≤c→i≤S.length→RGI S i G →
  ∃ G',Iter (xcG (S.map encF)) (G.length,(i:Int),G.map encG)=some (G'.length,G'.map encG)∧RGI S S.length G'
 | c,i,G,hc,hi,hG=>by
  by_cases hil:i=S.length
  · subst hil
    refine ⟨G,xaJ ?_,hG⟩
    simp only [xcG,xjs,List.length_map,Int.lt_irrefl,decide_false,xaj]
  · have hlt:i<S.length:=by omega
    obtain ⟨j,a1,a2,a3,a4,a5⟩:=xOX S (by omega) (fun f hf=>by have:=hr f hf;unfold maxLen;omega) G.length i hlt (G.map encG) (S.length - i) i (by omega) (Nat.le_refl _)
    have hij:i<j:=by
     rcases Nat.lt_or_ge i j with h|h
     · exact h
     · obtain rfl:j=i:=by omega
       exact absurd rfl (a4 hlt)
    have run_mem:∀ f,f∈(S.drop i).take (j - i)↔∃ t,∃ h:t<S.length,i≤t∧t<j∧S[t]=f:=fun f=>by
     rw [List.mem_take_iff_getElem]
     constructor
     · rintro ⟨m,hm,rfl⟩
       rw [List.length_drop] at hm
       exact ⟨i+m,by omega,by omega,by omega,by rw [List.getElem_drop]⟩
     · rintro ⟨t,h,h1,h2,rfl⟩
       refine ⟨t - i,by rw [List.length_drop];omega,?_⟩
       rw [List.getElem_drop]
       congr 1;omega
    have run_row:∀ f,f∈(S.drop i).take (j - i)→f.r=S[i].r:=fun f hf=>by
     obtain ⟨t,h,h1,h2,rfl⟩:=(run_mem f).1 hf
     exact a3 t h h1 h2
    have tkj:S.take j=S.take i++(S.drop i).take (j - i):=by
     rw [show j=i+(j - i) by omega,List.take_add,Nat.add_sub_cancel_left]
    have split3:S=S.take i++((S.drop i).take (j - i)++S.drop j):=by
     rw [←List.append_assoc,←tkj,List.take_append_drop]
    have rl:((S.drop i).take (j - i)).length=j - i:=by rw [List.length_take,List.length_drop];omega
    have before:∀ f,f∈S.take i→cmpR f.r S[i].r<0:=fun f hf=>by
     obtain ⟨t,ht,rfl⟩:=List.mem_take_iff_getElem.1 hf
     exact hG.bd t i (by omega) hlt (by omega) (Nat.le_refl _)
    have behind:∀ t (h:t<S.length),j≤t→cmpR S[i].r S[t].r<0:=fun t h hjt=>by
     have hj:j<S.length:=by omega
     have c1:cmpR S[i].r S[j].r≤0:=List.pairwise_iff_getElem.1 hs i j hlt hj hij
     have c2:cmpR S[i].r S[j].r<0:=by
      rcases Int.lt_or_eq_of_le c1 with c|c
      · exact c
      · exact absurd (xq9 c).symm (a4 hj)
     rcases Nat.lt_or_ge j t with h1|h1
     · have c3:cmpR S[j].r S[t].r≤0:=List.pairwise_iff_getElem.1 hs j t hj h h1
       exact xyc.lt1 c2 c3
     · obtain rfl:t=j:=by omega
       exact c2
    have no_other:∀ (l:List Fc) (ρ:Row) (t:Int),(∀ f,f∈l→f.r≠ρ)→cnt l ρ t=0:=fun l ρ t h=>by
     unfold cnt
     rw [List.countP_eq_zero]
     intro f hf hh
     simp only [Bool.and_eq_true,decide_eq_true_eq] at hh
     exact h f hf hh.1
    have ne_of:∀ x y:Row,cmpR x y<0→x≠y:=fun x y h e=>by subst e;rw [xCH] at h;omega
    have cntr:∀ t,cnt ((S.drop i).take (j - i)) S[i].r t=cnt S S[i].r t:=fun t=>by
     have e:cnt S S[i].r t=cnt (S.take i++((S.drop i).take (j - i)++S.drop j)) S[i].r t:=by rw [←split3]
     rw [e,xHm,xHm,no_other (S.take i) _ t (fun f hf=>ne_of _ _ (before f hf)),no_other (S.drop j) _ t (fun f hf=>by
      obtain ⟨m,hm,rfl⟩:=List.mem_iff_getElem.1 hf
      rw [List.length_drop] at hm
      rw [List.getElem_drop]
      exact fun e=>ne_of _ _ (behind (j+m) (by omega) (by omega)) e.symm)]
     omega
    have hrun:Few ((S.drop i).take (j - i)):=⟨by omega,fun f hf=>hr f (List.mem_of_mem_drop (List.mem_of_mem_take hf))⟩
    obtain ⟨D,d1,d2,d3⟩:=xSX _ hrun
    obtain ⟨St,s1,s2,s3⟩:=xPU ((S.drop i).take (j - i)) S[i].r (fun f hf=>by have:=hrun.2 f hf;unfold maxLen;omega) (by omega)
    have s2:StepI (fun t=>((cnt S S[i].r t:Nat):Int)) 1099511627776 St:=by
     have e:(fun t=>((cnt ((S.drop i).take (j - i)) S[i].r t:Nat):Int))=fun t=>((cnt S S[i].r t:Nat):Int):=funext fun t=>by rw [cntr]
     rwa [e] at s2
    have tS:List.take (j - i) (List.drop i (S.map encF))=((S.drop i).take (j - i)).map encF:=by rw [←List.map_drop,←List.map_take]
    have hD:D=[]∨D=[S[i].r]:=by
     match D,d2,d3 with
     | [],_,_=>exact .inl rfl
     | [x],_,h=>right;obtain ⟨f,hf,e,_⟩:=(h x).1 (by simp);rw [←e,run_row f hf]
     | x::y::t,h1,h =>
      obtain ⟨f,hf,e,_⟩:=(h x).1 (by simp)
      obtain ⟨g,hg,e',_⟩:=(h y).1 (by simp)
      have:cmpR x y<0:=(List.pairwise_cons.1 h1).1 y (by simp)
      rw [←e,←e',run_row f hf,run_row g hg,xCH] at this
      omega
    have hgl:=hG.len
    obtain ⟨m1,m2⟩:=xV2 (n:=G.length) (by omega)
    have nx:RGI S j (G++D.map fun ρ=>(ρ,St)):=by
     refine ⟨?_,fun r=>?_,fun g hg=>?_,?_,fun a b ha hb haj hjb=>?_⟩
     · rw [List.map_append]
       refine List.pairwise_append.2 ⟨hG.st,?_,fun x hx y hy=>?_⟩
       · rcases hD with rfl|rfl
         · exact List.Pairwise.nil
         · exact List.pairwise_singleton _ _
       · obtain ⟨f,hf,e,_⟩:=(hG.mem x).1 hx
         rcases hD with rfl|rfl
         · simp at hy
         · simp at hy;subst hy;rw [←e];exact before f hf
     · rw [List.map_append,List.mem_append,hG.mem,tkj]
       have e:r∈(D.map fun ρ=>(ρ,St)).map (·.1)↔r∈D:=by simp
       rw [e,d3]
       constructor
       · rintro (⟨f,hf,h⟩|⟨f,hf,h⟩)
         · exact ⟨f,List.mem_append.2 (.inl hf),h⟩
         · exact ⟨f,List.mem_append.2 (.inr hf),h⟩
       · rintro ⟨f,hf,h⟩
         rcases List.mem_append.1 hf with hf|hf
         · exact .inl ⟨f,hf,h⟩
         · exact .inr ⟨f,hf,h⟩
     · rcases List.mem_append.1 hg with hg|hg
       · exact hG.ps g hg
       · obtain ⟨ρ,hρ,rfl⟩:=List.mem_map.1 hg
         rcases hD with rfl|rfl
         · simp at hρ
         · simp at hρ;subst hρ;exact ⟨s2,by rw [rl] at s3;dsimp only;omega⟩
     · rw [List.length_append,List.length_map]
       rcases hD with rfl|rfl<;>simp<;>omega
     · rcases Nat.lt_or_ge a i with hai|hai
       · exact hG.bd a b ha hb hai (by omega)
       · rw [a3 a ha hai haj];exact behind b hb hjb
    obtain ⟨G',e',hG'⟩:=xKD S hS hr hs (c - 1) j _ (by omega) a2 nx
    refine ⟨G',(xaZ ?_).trans e',hG'⟩
    have i1:(i:Int)<(S.length:Int):=by omega
    have i2:(j:Int)≤(S.length:Int):=by omega
    have i3:(i:Int)≤(j:Int):=by omega
    have el2:Iter (xcH (S.map encF) (i:Int) (j:Int) (D.map encR)) (G.length,(0:Int),G.map encG)=some ((G++D.map fun ρ=>(ρ,St)).length,(G++D.map fun ρ=>(ρ,St)).map encG):=by
     rcases hD with rfl|rfl
     · refine xaJ ?_
       have z:¬ (0:Int)<(([]:List AV).length:Int):=by simp
       simp only [xcH,xhp,List.map_nil,z,decide_false,xaj,List.append_nil]
     · have z0:(0:Int)<(1:Int):=by omega
       have g0:([S[i].r].map encR).getD 0 .top=encR S[i].r:=rfl
       have w1:IntKind.i64.wrap ((0:Int)+1)=1:=rfl
       refine (xaZ (s':=((G++[(S[i].r,St)]).length,(1:Int),(G++[(S[i].r,St)]).map encG)) ?_).trans (xaJ ?_)
       · have l1:(([S[i].r]:List Row).length:Int)=1:=rfl
         have z1:(0:Int)≤0:=by omega
         have z2:(0:Nat)<([S[i].r]:List Row).length:=by simp
         have z3:(0:Int).toNat=0:=rfl
         simp only [xcH,xhp,List.length_map,xai,xaj,decide_true,decide_false,Bool.and_true,Bool.true_and,Bool.not_true,Bool.not_false,Int.toNat_natCast,Int.natCast_nonneg,Option.isSome_some,Option.getD_some,beq_self_eq_true,Nat.zero_add,Nat.sub_zero,l1,z0,z1,z2,z3,g0,cR0,sR0,i2,i3,tS,s1,m1,m2,w1]
         simp [encG]
       · have l1:¬ (1:Int)<(([encR S[i].r]:List AV).length:Int):=by simp
         simp only [xcH,xhp,List.map_cons,List.map_nil,l1,decide_false,xaj]
    simp only [xcG,xjs,xoF,xoG,xdK,List.length_map,xai,xaj,decide_true,decide_false,Bool.and_true,Bool.true_and,Bool.not_true,Bool.not_false,Int.toNat_natCast,Int.natCast_nonneg,Option.isSome_some,Option.getD_some,beq_self_eq_true,Nat.zero_add,Nat.sub_zero,i1,i2,i3,a5,tS,d1,el2]
theorem xIp (l:List Fc) (h:Few l) (hl:l.length≤262144):∃ G:List Grp,xd0 (l.map encF)=some (G.map encG)∧xVs l (G.map (·.1))∧(∀ g,g∈G→StepI (fun t=>((cnt l g.1 t:Nat):Int)) 1099511627776 g.2∧g.2.length≤2*l.length+1)∧G.length≤l.length:=by
 obtain ⟨S,e1,p1,s1⟩:=xNN 99 l (Nat.le_trans h.1 (Nat.le_trans (show 1048576≤2 ^ 20 by omega) (Nat.pow_le_pow_right (by omega) (by omega)))) h
 have hSl:=p1.length_eq
 obtain ⟨G,e2,hG⟩:=xKD S (by omega) (fun f hf=>h.2 f (p1.mem_iff.1 hf)) s1 S.length 0 [] (by omega) (by omega) ⟨List.Pairwise.nil,fun r=>by simp,fun g hg=>by simp at hg,Nat.le_refl _,fun a b ha hb h1 h2=>by omega⟩
 refine ⟨G,?_,⟨hG.st,fun r=>?_⟩,fun g hg=>?_,by rw [←hSl];exact hG.len⟩
 · have e1:xde 100 (l.map encF)=some (S.map encF):=e1
   have e2:Iter (xcG (S.map encF)) ((0:Nat),(0:Int),[])=_:=e2
   have tt:List.take G.length (G.map encG)=G.map encG:=List.take_of_length_le (by simp)
   unfold xd0 xps
   simp only [xsg,xsh,xsi,xsj,e1,e2,Option.isSome_some,Option.getD_some,xai,Nat.zero_add,List.length_map,Nat.le_refl,decide_true,Bool.and_true,List.drop_zero,tt]
 · rw [hG.mem,List.take_length]
   constructor
   · rintro ⟨f,hf,e⟩;exact ⟨f,p1.mem_iff.1 hf,e⟩
   · rintro ⟨f,hf,e⟩;exact ⟨f,p1.mem_iff.2 hf,e⟩
 · obtain ⟨x1,x2⟩:=hG.ps g hg
   have e:(fun t=>((cnt S g.1 t:Nat):Int))=fun t=>((cnt l g.1 t:Nat):Int):=funext fun t=>by rw [xSu p1]
   rw [e] at x1
   exact ⟨x1,by omega⟩
end Go.Sim.M
end
noncomputable section
set_option maxRecDepth 100000
namespace Go.Sim.M
open Go.RowKit Go.Sim.Srt Go.Sort
def ptsF (l:List Fc):List Int:=l.foldl (fun P f=>if pv f.p=true then (if f.p.2<1099511627776 then insI (insI P f.p.1) f.p.2 else insI P f.p.1) else P) [0]
def bnd (f:Fc):List Int:=if pv f.p=true then (if f.p.2<1099511627776 then [f.p.1,f.p.2] else [f.p.1]) else []
theorem xDa (l:List Fc) (f:Fc):ptsF (l++[f])=if pv f.p=true then (if f.p.2<1099511627776 then insI (insI (ptsF l) f.p.1) f.p.2 else insI (ptsF l) f.p.1) else ptsF l:=by simp [ptsF]
theorem xKR:∀ l:List Fc,Asc (ptsF l.reverse)∧∀ x,x∈ptsF l.reverse↔x=0∨x∈l.flatMap bnd
 | []=>⟨List.pairwise_singleton _ _,fun x=>by simp [ptsF]⟩
 | f::l=>by
  have ih:=xKR l
  rw [List.reverse_cons,xDa]
  simp only [List.flatMap_cons,List.mem_append,bnd]
  split
  · split
    · refine ⟨xti (xti ih.1 _) _,fun x=>?_⟩
      rw [xqP,xqP,ih.2,List.mem_cons,List.mem_singleton];grind
    · refine ⟨xti ih.1 _,fun x=>?_⟩
      rw [xqP,ih.2,List.mem_singleton];grind
  · exact ⟨ih.1,fun x=>by rw [ih.2];simp⟩
theorem xOQ (l:List Fc):Asc (ptsF l)∧∀ x,x∈ptsF l↔x=0∨x∈l.flatMap bnd:=by
 have:=xKR l.reverse
 rw [List.reverse_reverse] at this
 refine ⟨this.1,fun x=>?_⟩
 rw [this.2]
 simp only [List.mem_flatMap,List.mem_reverse]
theorem xM0:∀ l:List Fc,(ptsF l.reverse).length≤2*l.length+1
 | []=>by simp [ptsF]
 | f::l=>by
  have ih:=xM0 l
  have h1:=xon (ptsF l.reverse) f.p.1
  have h2:=xon (insI (ptsF l.reverse) f.p.1) f.p.2
  rw [List.reverse_cons,xDa,List.length_cons]
  split
  · split<;>omega
  · omega
theorem xOP (l:List Fc):(ptsF l).length≤2*l.length+1:=by
 have:=xM0 l.reverse
 rwa [List.reverse_reverse,List.length_reverse] at this
theorem xRe (l:List Fc) (n:Nat) (h:n<l.length):ptsF (l.take (n+1))=if pv l[n].p=true then (if l[n].p.2<1099511627776 then insI (insI (ptsF (l.take n)) l[n].p.1) l[n].p.2 else insI (ptsF (l.take n)) l[n].p.1) else ptsF (l.take n):=by
 rw [List.take_add_one,List.getElem?_eq_getElem h];exact xDa _ _
theorem xP5 (l:List Fc) (hl:l.length≤262144):xgV (l.map encF)=some ((ptsF l).map encN):=by
 have key:Iter (xcF (l.map encF)) ([AV.int IntKind.i64 (0:Int)],(0:Int))=some ((ptsF l).map encN):=by
  refine xm1 (fun k=>((ptsF (l.take k)).map encN,((k:Nat):Int))) l.length _ (fun k hk=>?_) ?_ l.length 0 (by omega)
  · have i1:(k:Int)<(l.length:Int):=by omega
    have gf:(l.map encF).getD k .top=encF l[k]:=xaH _ _ _ hk
    have hp:=xOP (l.take k)
    rw [List.length_take] at hp
    have e1:=xwH (ptsF (l.take k)) l[k].p.1 (by omega)
    have h2:=xon (ptsF (l.take k)) l[k].p.1
    have e2:=xwH (insI (ptsF (l.take k)) l[k].p.1) l[k].p.2 (by omega)
    simp only [xcF,xjr,xgD,List.length_map,xai,xaj,decide_true,decide_false,Bool.and_true,Bool.true_and,Bool.not_true,Bool.not_false,Int.toNat_natCast,Int.natCast_nonneg,Option.isSome_some,Option.getD_some,beq_self_eq_true,Nat.zero_add,Nat.sub_zero,hk,i1,gf,cF0,cF1,cF2,sF0,sF1,sF2,lF,sF12,sF02,xwY,xVi (n:=k) (by omega),e1,e2,xRe l k hk]
    cases hv:pv l[k].p with
    | false=>simp [xaj]
    | true=>by_cases hf:l[k].p.2<1099511627776<;>simp [hf,xai,xaj]
  · simp only [xcF,xjr,xgD,List.length_map,Int.lt_irrefl,decide_false,xaj,List.take_length]
 unfold xgV xpr
 simp only [key,Option.isSome_some,Option.getD_some,xai]
theorem xVN {n:Nat} (h:n+1≤4611686018427387904):IntKind.i64.wrap (((n+1:Nat):Int) - 1)=(n:Int):=by
 rw [show ((n+1:Nat):Int) - 1=(n:Int) by omega]
 exact w64 rfl (by omega)
theorem xS2 {α:Type} (xs:List α) (n:Nat) (v:α) (h:n<xs.length):(xs.set n v).take (n+1)=xs.take n++[v]:=by
 rw [List.set_eq_take_append_cons_drop,if_pos h]
 have:(xs.take n).length=n:=by rw [List.length_take];omega
 rw [List.take_append,this,Nat.add_sub_cancel_left,List.take_of_length_le (by omega)];rfl
theorem xOL {α:Type} {xs S:List α} {m i:Nat} (h:xs.drop m=S.drop m) (hi:m≤i):xs[i]?=S[i]?:=by
 have:=congrArg (fun l=>l[i - m]?) h
 simpa [List.getElem?_drop,Nat.add_sub_cancel' hi] using this
theorem xJa (S:List Int) (hN:S.length≤1048576) (hs:S.Pairwise fun x y=>x≤y) (o:Nat):∀ (d q:Nat) (D xs:List Int),o+q+1+d=S.length→D.length≤o+q→xs.length=S.length→xs.take D.length=D→xs.drop (o+q)=S.drop (o+q)→Asc D→(∀ x,x∈D↔x∈S.take (o+q+1)) →
  ∃ (D' xs':List Int),Iter (xbv S.length o (S.length - o)) ((D.length:Int),((q+1:Nat):Int),xs.map encN)=some ((D'.length:Int),xs'.map encN)∧xs'.length=S.length∧xs'.take D'.length=D'∧Asc D'∧∀ x,x∈D'↔x∈S
 | 0,q,D,xs,h,hD,hx,ht,hd,ha,hm=>by
  refine ⟨D,xs,xaJ ?_,hx,ht,ha,fun x=>?_⟩
  · have i1:¬ ((q+1:Nat):Int)<((S.length - o:Nat):Int):=by omega
    simp only [xbv,xf4,List.length_map,xai,xaj,decide_true,decide_false,Bool.and_true,Bool.true_and,Bool.not_true,Bool.not_false,Int.toNat_natCast,Int.natCast_nonneg,Option.isSome_some,Option.getD_some,beq_self_eq_true,Nat.zero_add,Nat.sub_zero,i1]
  · rw [hm,List.take_of_length_le (by omega)]
 | d+1,q,D,xs,h,hD,hx,ht,hd,ha,hm=>by
  have hp:o+q+1<S.length:=by omega
  have hp0:o+q<S.length:=by omega
  have g1:(xs.map encN).getD (o+(q+1)) .top=encN S[o+q+1]:=by
   have:=xOL hd (i:=o+q+1) (by omega)
   rw [List.getElem?_eq_getElem (by omega),List.getElem?_eq_getElem hp,Option.some.injEq] at this
   rw [←this];exact xaH _ _ _ (by omega)
  have g0:(xs.map encN).getD (o+q) .top=encN S[o+q]:=by
   have:=xOL hd (i:=o+q) (by omega)
   rw [List.getElem?_eq_getElem (by omega),List.getElem?_eq_getElem hp0,Option.some.injEq] at this
   rw [←this];exact xaH _ _ _ (by omega)
  have i1:((q+1:Nat):Int)<((S.length - o:Nat):Int):=by omega
  have i2:(q:Int)<((S.length - o:Nat):Int):=by omega
  have i3:o+(q+1)<xs.length:=by omega
  have i4:o+q<xs.length:=by omega
  have i5:(D.length:Int)<(S.length:Int):=by omega
  have i6:D.length<xs.length:=by omega
  have hle:S[o+q]≤S[o+q+1]:=List.pairwise_iff_getElem.1 hs _ _ hp0 hp (by omega)
  have tk:S.take (o+q+1+1)=S.take (o+q+1)++[S[o+q+1]]:=by rw [List.take_add_one,List.getElem?_eq_getElem hp];rfl
  by_cases he:S[o+q+1]=S[o+q]
  · rw [xaZ (s':=((D.length:Int),((q+1+1:Nat):Int),xs.map encN)) ?_]
    · refine xJa S hN hs o d (q+1) D xs (by omega) (by omega) hx ht ?_ ha fun x=>?_
      · have:=congrArg (List.drop 1) hd
        rwa [List.drop_drop,List.drop_drop] at this
      · rw [hm,show o+(q+1)+1=o+q+1+1 by omega,tk,List.mem_append,List.mem_singleton]
        refine ⟨Or.inl,fun hh=>hh.elim id fun hh=>?_⟩
        rw [hh,he]
        exact List.mem_take_iff_getElem.2 ⟨o+q,by omega,rfl⟩
    · have i7:(S[o+q+1] != S[o+q])=false:=by simp [he]
      simp only [xbv,xf4,xjG,List.length_map,xai,xaj,decide_true,decide_false,Bool.and_true,Bool.true_and,Bool.not_true,Bool.not_false,Int.toNat_natCast,Int.natCast_nonneg,Option.isSome_some,Option.getD_some,beq_self_eq_true,Nat.zero_add,Nat.sub_zero,i1,xVN (n:=q) (by omega),i2,i3,i4,g1,g0,cN,sN,i7,xVi (n:=q+1) (by omega)]
  · rw [xaZ (s':=(((D++[S[o+q+1]]).length:Int),((q+1+1:Nat):Int),(xs.set D.length S[o+q+1]).map encN)) ?_]
    · refine xJa S hN hs o d (q+1) _ _ (by omega) (by rw [List.length_append];simp;omega) (by rw [List.length_set];exact hx) ?_ ?_ ?_ fun x=>?_
      · rw [List.length_append,List.length_singleton,xS2 _ _ _ i6,ht]
      · rw [List.drop_set_of_lt (by omega)]
        have:=congrArg (List.drop 1) hd
        rwa [List.drop_drop,List.drop_drop] at this
      · refine List.pairwise_append.2 ⟨ha,List.pairwise_singleton _ _,fun x hx1 y hy=>?_⟩
        rw [List.mem_singleton] at hy
        obtain ⟨i,hi,rfl⟩:=List.mem_take_iff_getElem.1 ((hm x).1 hx1)
        have:S[i]≤S[o+q]:=by
         rcases Nat.lt_or_ge i (o+q) with h1|h1
         · exact List.pairwise_iff_getElem.1 hs _ _ (by omega) hp0 h1
         · have:i=o+q:=by omega
           subst this;exact Int.le_refl _
        omega
      · rw [show o+(q+1)+1=o+q+1+1 by omega,tk,List.mem_append,List.mem_append,hm]
    · have i7:(S[o+q+1] != S[o+q])=true:=by simp [he]
      simp only [xbv,xf4,xjG,List.length_map,xai,xaj,decide_true,decide_false,Bool.and_true,Bool.true_and,Bool.not_true,Bool.not_false,Int.toNat_natCast,Int.natCast_nonneg,Option.isSome_some,Option.getD_some,beq_self_eq_true,Nat.zero_add,Nat.sub_zero,i1,xVN (n:=q) (by omega),i2,i3,i4,i5,i6,g1,g0,cN,sN,i7,xVi (n:=q+1) (by omega),xVi (n:=D.length) (by omega)]
      simp [encN,List.map_set]
theorem xOz (S:List Int) (hN:S.length≤1048576) (hs:S.Pairwise fun x y=>x≤y):∀ (d k:Nat),k+1+d=S.length→Asc (S.take (k+1)) →
  (∃ (D:List Int) (xs:List AV),Iter (xax S.length) (((k+1:Nat):Int),S.map encN)=some (true,(D.length,xs),[])∧D.length≤xs.length∧xs.take D.length=D.map encN∧Asc D∧∀ x,x∈D↔x∈S) ∨
  (Iter (xax S.length) (((k+1:Nat):Int),S.map encN)=some (false,(0,[]),S.map encN)∧Asc S)
 | 0,k,h,ha=>by
  refine .inr ⟨xaJ ?_,?_⟩
  · have i1:¬ ((k+1:Nat):Int)<(S.length:Int):=by omega
    simp only [xax,xf2,List.length_map,xai,xaj,decide_true,decide_false,Bool.and_true,Bool.true_and,Bool.not_true,Bool.not_false,Int.toNat_natCast,Int.natCast_nonneg,Option.isSome_some,Option.getD_some,beq_self_eq_true,Nat.zero_add,Nat.sub_zero,i1]
  · rwa [List.take_of_length_le (by omega)] at ha
 | d+1,k,h,ha=>by
  have hk1:k+1<S.length:=by omega
  have hk:k<S.length:=by omega
  have g1:(S.map encN).getD (k+1) .top=encN S[k+1]:=xaH _ _ _ hk1
  have g0:(S.map encN).getD k .top=encN S[k]:=xaH _ _ _ hk
  have i1:((k+1:Nat):Int)<(S.length:Int):=by omega
  have i2:(k:Int)<(S.length:Int):=by omega
  have i3:((k+1:Nat):Int)≤(S.length:Int):=by omega
  have hle:S[k]≤S[k+1]:=List.pairwise_iff_getElem.1 hs _ _ hk hk1 (by omega)
  have tk:S.take (k+1+1)=S.take (k+1)++[S[k+1]]:=by rw [List.take_add_one,List.getElem?_eq_getElem hk1];rfl
  by_cases he:S[k+1]=S[k]
  · obtain ⟨D,xs,e,h1,h2,h3,h4⟩:=xJa S hN hs (k+1) (S.length - (k+2)) 0 (S.take (k+1)) S (by omega) (by rw [List.length_take];omega) rfl (by rw [List.length_take,Nat.min_eq_left (by omega)]) rfl ha (fun x=>by
     rw [show k+1+0+1=k+1+1 by omega,tk,List.mem_append,List.mem_singleton]
     refine ⟨Or.inl,fun hh=>hh.elim id fun hh=>?_⟩
     rw [hh,he]
     exact List.mem_take_iff_getElem.2 ⟨k,by omega,rfl⟩)
    have tl:(S.take (k+1)).length=k+1:=by rw [List.length_take];omega
    rw [tl] at e
    have e:Iter (xbv S.length (k+1) (S.length - (k+1))) (((k+1:Nat):Int),(1:Int),S.map encN)=some ((D.length:Int),xs.map encN):=e
    have dl:D.length≤S.length:=by rw [←h1,←h2,List.length_take];omega
    refine .inl ⟨D,List.take D.length (xs.map encN)++(List.replicate (S.length - D.length) (AV.int .i64 0)++List.drop (D.length+(S.length - D.length)) (xs.map encN)),xaJ ?_,?_,?_,h3,h4⟩
    · have i7:(S[k+1]==S[k])=true:=by simp [he]
      have i8:(D.length:Int)≤(S.length:Int):=by omega
      have i9:D.length+(S.length - D.length)≤xs.length:=by omega
      simp only [xax,xf2,xna,xm9,xjF,xjE,xe5,xm8,xm7,List.length_map,xai,xaj,decide_true,decide_false,Bool.and_true,Bool.true_and,Bool.not_true,Bool.not_false,Int.toNat_natCast,Int.natCast_nonneg,Option.isSome_some,Option.getD_some,beq_self_eq_true,Nat.zero_add,Nat.sub_zero,i1,xVN (n:=k) (by omega),i2,i3,hk1,hk,g1,g0,cN,sN,i7,e,i8,i9]
    · rw [List.length_append,List.length_take,List.length_map];omega
    · rw [List.take_append_of_le_length (by rw [List.length_take,List.length_map];omega),List.take_take,Nat.min_self,←List.map_take,h2]
  · have hlt:S[k]<S[k+1]:=by omega
    rw [xaZ (s':=(((k+1+1:Nat):Int),S.map encN)) ?_]
    · refine xOz S hN hs d (k+1) (by omega) ?_
      rw [tk]
      refine List.pairwise_append.2 ⟨ha,List.pairwise_singleton _ _,fun x hx1 y hy=>?_⟩
      rw [List.mem_singleton] at hy
      obtain ⟨i,hi,rfl⟩:=List.mem_take_iff_getElem.1 hx1
      have:S[i]≤S[k]:=by
       rcases Nat.lt_or_ge i k with h1|h1
       · exact List.pairwise_iff_getElem.1 hs _ _ (by omega) hk h1
       · have:i=k:=by omega
         subst this;exact Int.le_refl _
      omega
    · have i7:(S[k+1]==S[k])=false:=by simp [he]
      simp only [xax,xf2,List.length_map,xai,xaj,decide_true,decide_false,Bool.and_true,Bool.true_and,Bool.not_true,Bool.not_false,Int.toNat_natCast,Int.natCast_nonneg,Option.isSome_some,Option.getD_some,beq_self_eq_true,Nat.zero_add,Nat.sub_zero,i1,xVN (n:=k) (by omega),i2,hk1,hk,g1,g0,cN,sN,i7,xVi (n:=k+1) (by omega)]
theorem xPA (S:List Int) (hN:S.length≤1048576) (hs:S.Pairwise fun x y=>x≤y):∃ (D:List Int) (xs:List AV),xgE S.length (S.map encN)=some (D.length,xs)∧D.length≤xs.length∧xs.take D.length=D.map encN∧Asc D∧∀ x,x∈D↔x∈S:=by
 unfold xgE xnc xpS xpT xpU
 by_cases h2:(S.length:Int)<2
 · refine ⟨S,S.map encN,?_,by simp,?_,?_,fun x=>Iff.rfl⟩
   · simp only [h2,decide_true,xai]
   · rw [List.take_of_length_le (by simp)]
   · match S,h2 with
     | [],_=>exact List.Pairwise.nil
     | [x],_=>exact List.pairwise_singleton _ _
     | x::y::t,h=>simp at h;omega
 · simp only [h2,decide_false,xaj]
   have h1:Asc (S.take (0+1)):=by
    match S with
    | []=>exact List.Pairwise.nil
    | x::t=>exact List.pairwise_singleton _ _
   rcases xOz S hN hs (S.length - 1) 0 (by omega) h1 with ⟨D,xs,e,a1,a2,a3,a4⟩|⟨e,a3⟩
   · refine ⟨D,xs,?_,a1,a2,a3,a4⟩
     have e:Iter (xax S.length) ((1:Int),S.map encN)=_:=e
     simp only [e,Option.isSome_some,Option.getD_some,xai]
   · refine ⟨S,S.map encN,?_,by simp,?_,a3,fun x=>Iff.rfl⟩
     · have e:Iter (xax S.length) ((1:Int),S.map encN)=_:=e
       simp only [e,Option.isSome_some,Option.getD_some,xai,xaj]
     · rw [List.take_of_length_le (by simp)]
theorem xUl (E:List Int):(E.map encN).all isI=true∧∃ S:List Int,srtI (E.map encN)=S.map encN∧S.Perm E∧S.Pairwise fun x y=>x≤y:=by
 have e1:(E.map encN).map AV.toInt=E:=by
  rw [List.map_map];conv=>rhs;rw [←List.map_id E]
  rfl
 refine ⟨?_,pdqL cmpI E,?_,(xk1 cmpI swoI E).1,(xtJ cmpI swoI E).imp fun {x y} h=>?_⟩
 · rw [List.all_eq_true]
   intro x hx
   obtain ⟨e,he,rfl⟩:=List.mem_map.1 hx
   rfl
 · unfold srtI;rw [e1];rfl
 · rw [xq8] at h
   by_cases h1:y<x
   · rw [if_pos h1] at h;omega
   · omega
theorem xOs (f:Fc):(bnd f).length≤2:=by
 unfold bnd
 by_cases h1:pv f.p=true<;>by_cases h2:f.p.2<1099511627776<;>simp [h1,h2]
theorem xRD (l:List Fc) (hl:l.length≤262144):Iter (xbl (l.map encF) ((l.length:Nat):Int)) ((1:Nat),(0:Int),[AV.int IntKind.i64 (0:Int)])=some ((0::l.flatMap bnd).length,(0::l.flatMap bnd).map encN):=by
 have bl:∀ k,(((l.take k).flatMap bnd)).length≤2*l.length:=fun k=>by
  have:=xlT (g:=bnd) (l.take k) fun a _=>xOs a
  rw [List.length_take] at this;omega
 have key:=xm1 (step:=xbl (l.map encF) ((l.length:Nat):Int)) (fun k=>((((0:Int)::(l.take k).flatMap bnd).length,((k:Nat):Int),((0:Int)::(l.take k).flatMap bnd).map encN):Nat×Int×List AV)) l.length
  ((0::l.flatMap bnd).length,(0::l.flatMap bnd).map encN) (fun k hk=>by
  have i1:(k:Int)<(l.length:Int):=by omega
  have gf:(l.map encF).getD k .top=encF l[k]:=xaH _ _ _ hk
  have b:=bl k
  have hD:∀ D:List Int,D.length≤2*l.length+1→xbl (l.map encF) ((l.length:Nat):Int) (D.length,(k:Int),D.map encN)=some (.inl ((D++bnd l[k]).length,((k+1:Nat):Int),(D++bnd l[k]).map encN)):=fun D hD=>by
   have m1:(D.length+1)*8≤140737488355328:=by omega
   have m2:D.length+1≤4611686018427387904:=by omega
   have m3:(D.length+1+1)*8≤140737488355328:=by omega
   have m4:D.length+1+1≤4611686018427387904:=by omega
   simp only [xbl,xgK,xiy,List.length_map,xai,xaj,decide_true,decide_false,Bool.and_true,Bool.true_and,Bool.not_true,Bool.not_false,Int.toNat_natCast,Int.natCast_nonneg,Option.isSome_some,Option.getD_some,beq_self_eq_true,Nat.zero_add,Nat.sub_zero,hk,i1,gf,cF0,cF1,cF2,sF0,sF1,sF2,lF,sF12,sF02,xov,xVi (n:=k) (by omega),m1,m2,m3,m4,List.length_append,List.length_singleton]
   cases hv:pv l[k].p with
   | false=>simp [bnd,hv,xaj]
   | true=>by_cases hf:l[k].p.2<1099511627776<;>simp [bnd,hv,hf,xai,xaj,encN]
  have:=hD (0::(l.take k).flatMap bnd) (by rw [List.length_cons];omega)
  rw [this,List.take_add_one,List.getElem?_eq_getElem hk,List.flatMap_append,List.cons_append]
  simp only [Option.toList_some,List.flatMap_cons,List.flatMap_nil,List.append_nil]) (by
  simp only [xbl,xgK,List.length_map,Int.lt_irrefl,decide_false,xaj,List.take_length]) l.length 0 (by omega)
 exact key
theorem xRE (l:List Fc) (hl:l.length≤262144):xeg (l.map encF)=some ((ptsF l).map encN):=by
 have e0:=xRD l hl
 have b:(l.flatMap bnd).length≤2*l.length:=xlT l fun a _=>xOs a
 obtain ⟨h1,S,h2,h3,h4⟩:=xUl (0::l.flatMap bnd)
 have hn:=h3.length_eq
 rw [List.length_cons] at hn
 obtain ⟨D,xs,e1,a1,a2,a3,a4⟩:=xPA S (by omega) h4
 rw [hn] at e1
 have hD:D=ptsF l:=xPt a3 (xOQ l).1 fun x=>by
  rw [a4,h3.mem_iff,(xOQ l).2,List.mem_cons]
 subst hD
 have m1:(l.flatMap bnd).length+1<4611686018427387904:=by omega
 have bq:((l.flatMap bnd).length+1).beq ((l.flatMap bnd).length+1)=true:=by simp
 rw [List.length_cons] at e0
 unfold xeg xl3 xn6 xn7 xn8 xn9 xkS xkT xoa xob
 simp only [List.length_map,e0,Option.isSome_some,Option.getD_some,xai,List.length_cons,bq,m1,decide_true,h1,h2,Bool.and_true,e1,Nat.zero_add,a1,List.drop_zero,a2]
end Go.Sim.M
end
noncomputable section
set_option maxRecDepth 100000
namespace Go.Sim.M
open Go.RowKit Go.Sim.Srt
theorem xHW (row:Row) (P:List Per) (hP:P.length≤1048576):xeS (row.map encV) (P.map encP)=some ((mk row P).map encF):=by
 have e:=xAX row P hP
 rw [xVR (fun p:Per=>(⟨row,p⟩:Fc)) P] at e
 have e:Iter (xbX (row.map encV) (P.map encP)) ((0:Nat),(0:Int),[])=some ((mk row P).length,(mk row P).map encF):=e
 generalize mk row P=D at e
 have tt:List.take D.length (D.map encF)=D.map encF:=List.take_of_length_le (by simp)
 unfold xeS xpq
 simp only [xsb,xsc,xsd,e,Option.isSome_some,Option.getD_some,xai,Nat.zero_add,List.length_map,Nat.le_refl,decide_true,Bool.and_true,List.drop_zero,tt]
theorem sG0 (g:Grp):hasSh1 (Sh.list 3) ((encG g).cells.getD 0 .top)=true:=rfl
theorem sG1 (g:Grp):hasSh1 (Sh.list 2) ((encG g).cells.getD 1 .top)=true:=rfl
theorem xVQ {n m:Nat} (h:n≤1048576*1024) (hm:m≤1048576):(n+m)*40≤140737488355328∧n+m≤4611686018427387904:=by omega
theorem xSS (G:List Grp) (hG:G.length≤1024) (L:Row→List Per) (hL:∀ g,g∈G→xdA (g.2.map encP)=some ((L g.1).map encP)∧(L g.1).length≤1048576) :
  Iter (xdt (G.map encG)) ((0:Nat),(0:Int),[])=some ((xVk (G.map (·.1)) L).length,(xVk (G.map (·.1)) L).map encF):=by
 rw [←xAB]
 refine xoq G (fun g=>mk g.1 (L g.1)) encF 1048576 (fun g hg=>by unfold mk;rw [List.length_map];exact (hL g hg).2) (fun n h D hD=>?_) (fun D=>?_)
 · have i1:(n:Int)<(G.length:Int):=by omega
   have gf:(G.map encG).getD n .top=encG G[n]:=xaH _ _ _ h
   obtain ⟨e1,e2⟩:=hL _ (List.getElem_mem h)
   have ed:=xHW G[n].1 (L G[n].1) e2
   have ml:(mk G[n].1 (L G[n].1)).length≤1048576:=by unfold mk;rw [List.length_map];exact e2
   have hD2:D.length≤1048576*1024:=Nat.le_trans hD (Nat.mul_le_mul_left _ (by omega))
   obtain ⟨m1,m2⟩:=xVQ hD2 ml
   simp only [xdt,xmw,xnY,List.length_map,xai,xaj,decide_true,decide_false,Bool.and_true,Bool.true_and,Bool.not_true,Bool.not_false,Int.toNat_natCast,Int.natCast_nonneg,Option.isSome_some,Option.getD_some,beq_self_eq_true,Nat.zero_add,Nat.sub_zero,h,i1,gf,cG0,cGs,sG0,sG1,e1,ed,m1,m2,xVi (n:=n) (by omega),List.length_append,List.map_append]
 · simp only [xdt,xmw,List.length_map,Int.lt_irrefl,decide_false,xaj]
theorem xST (G:List Grp) (hG:G.length≤1024) (L:Row→List Per) (hL:∀ g,g∈G→xbr (g.2.map encP) 1=some ((L g.1).map encP)∧(L g.1).length≤1048576) :
  Iter (xdu (G.map encG)) ((0:Nat),(0:Int),[])=some ((xVk (G.map (·.1)) L).length,(xVk (G.map (·.1)) L).map encF):=by
 rw [←xAB]
 refine xoq G (fun g=>mk g.1 (L g.1)) encF 1048576 (fun g hg=>by unfold mk;rw [List.length_map];exact (hL g hg).2) (fun n h D hD=>?_) (fun D=>?_)
 · have i1:(n:Int)<(G.length:Int):=by omega
   have gf:(G.map encG).getD n .top=encG G[n]:=xaH _ _ _ h
   obtain ⟨e1,e2⟩:=hL _ (List.getElem_mem h)
   have ed:=xHW G[n].1 (L G[n].1) e2
   have ml:(mk G[n].1 (L G[n].1)).length≤1048576:=by unfold mk;rw [List.length_map];exact e2
   have hD2:D.length≤1048576*1024:=Nat.le_trans hD (Nat.mul_le_mul_left _ (by omega))
   obtain ⟨m1,m2⟩:=xVQ hD2 ml
   simp only [xdu,xmB,xnZ,xsf,List.length_map,xai,xaj,decide_true,decide_false,Bool.and_true,Bool.true_and,Bool.not_true,Bool.not_false,Int.toNat_natCast,Int.natCast_nonneg,Option.isSome_some,Option.getD_some,beq_self_eq_true,Nat.zero_add,Nat.sub_zero,h,i1,gf,cG0,cGs,sG0,sG1,e1,ed,m1,m2,xVi (n:=n) (by omega),List.length_append,List.map_append]
 · simp only [xdu,xmB,List.length_map,Int.lt_irrefl,decide_false,xaj]
theorem xUB (l:List Fc) (r:Row) (t:Int):cnt l r t≤l.length:=List.countP_le_length
theorem xOw (l:List Fc) (r:Row) (t:Int) (h:t<0∨1099511627776≤t):cnt l r t=0:=by rw [←xC9];exact xMz _ t h
theorem xT5 (l:List Fc) (h:Few l) (hl:l.length≤1024):∃ B,xgB (l.map encF)=some (B.map encF)∧xVt l B:=by
 obtain ⟨G,e1,hR,hS,hGl⟩:=xIp l h (by omega)
 have lv:∀ g,g∈G→∃ P,xdA (g.2.map encP)=some (P.map encP)∧IsLevs (cnt l g.1) P:=fun g hg=>by
  obtain ⟨s1,s2⟩:=hS g hg
  exact xP3 (N:=cnt l g.1) (H:=l.length) (by omega) (xUB l g.1) (xOw l g.1) s1 (by omega)
 obtain ⟨L,hL⟩:=xwy (R:=G.map (·.1)) (Q:=fun r P=>(∀ g,g∈G→g.1=r→xdA (g.2.map encP)=some (P.map encP))∧IsLevs (cnt l r) P) fun r hr=>by
  obtain ⟨g,hg,rfl⟩:=List.mem_map.1 hr
  obtain ⟨P,p1,p2⟩:=lv g hg
  refine ⟨P,fun g' hg' e=>?_,p2⟩
  obtain ⟨P',q1,q2⟩:=lv g' hg'
  rw [e] at q2
  rw [q1,q2.unique p2]
 have hk:∀ g,g∈G→g.1∈G.map (·.1):=fun g hg=>List.mem_map.2 ⟨g,hg,rfl⟩
 have hlen:∀ g,g∈G→(L g.1).length≤1048576:=fun g hg=>by
  have a:=(hL g.1 (hk g hg)).2
  rw [←xRH] at a
  have b:=xHT l g.1
  exact Nat.le_trans a.len (Nat.mul_le_mul (Nat.le_trans b hl) (Nat.le_trans b hl))
 have e2:=xSS G (by omega) L fun g hg=>⟨(hL g.1 (hk g hg)).1 g hg rfl,hlen g hg⟩
 refine ⟨xVk (G.map (·.1)) L,?_,G.map (·.1),L,hR,fun r hr=>(hL r hr).2,rfl⟩
 generalize xVk (G.map (·.1)) L=F at e2
 have tt:List.take F.length (F.map encF)=F.map encF:=List.take_of_length_le (by simp)
 unfold xgB xtK
 simp only [xvP,xvQ,xvR,e1,e2,Option.isSome_some,Option.getD_some,xai,Nat.zero_add,List.length_map,Nat.le_refl,decide_true,Bool.and_true,List.drop_zero,tt]
theorem xT8 (l:List Fc) (h:Few l) (hl:l.length≤1024):∃ B,xlk (l.map encF)=some (B.map encF)∧xVD l B:=by
 obtain ⟨G,e1,hR,hS,hGl⟩:=xIp l h (by omega)
 have lv:∀ g,g∈G→∃ P,xbr (g.2.map encP) 1=some (P.map encP)∧(IsSpan P∧∀ t,inL P t=decide (0<cnt l g.1 t))∧P.length≤1048576:=fun g hg=>by
  obtain ⟨s1,s2⟩:=hS g hg
  obtain ⟨P,p1,p2,p3⟩:=xQV (N:=cnt l g.1) (xOw l g.1) s1 (by omega) 0
  exact ⟨P,p1,p2,by omega⟩
 obtain ⟨L,hL⟩:=xwy (R:=G.map (·.1)) (Q:=fun r P=>(∀ g,g∈G→g.1=r→xbr (g.2.map encP) 1=some (P.map encP))∧(IsSpan P∧∀ t,inL P t=decide (0<cnt l r t))∧P.length≤1048576) fun r hr=>by
  obtain ⟨g,hg,rfl⟩:=List.mem_map.1 hr
  obtain ⟨P,p1,p2,p3⟩:=lv g hg
  refine ⟨P,fun g' hg' e=>?_,p2,p3⟩
  obtain ⟨P',q1,q2,_⟩:=lv g' hg'
  rw [e] at q2
  rw [q1,xqk q2.1 p2.1 fun t=>by rw [q2.2,p2.2]]
 have hk:∀ g,g∈G→g.1∈G.map (·.1):=fun g hg=>List.mem_map.2 ⟨g,hg,rfl⟩
 have e2:=xST G (by omega) L fun g hg=>⟨(hL g.1 (hk g hg)).1 g hg rfl,(hL g.1 (hk g hg)).2.2⟩
 refine ⟨xVk (G.map (·.1)) L,?_,G.map (·.1),L,hR,fun r hr=>(hL r hr).2.1,rfl⟩
 generalize xVk (G.map (·.1)) L=F at e2
 have tt:List.take F.length (F.map encF)=F.map encF:=List.take_of_length_le (by simp)
 unfold xlk xtM
 simp only [xvT,xvU,xvV,e1,e2,Option.isSome_some,Option.getD_some,xai,Nat.zero_add,List.length_map,Nat.le_refl,decide_true,Bool.and_true,List.drop_zero,tt]
theorem xSo (l:List Fc) (h:Bld l):∃ B,xdy (l.map encF)=some (B.map encF)∧xgB (l.map encF)=some (B.map encF)∧xVt l B:=by
 obtain ⟨B,b1,b2⟩:=xUy l h
 obtain ⟨B',c1,c2⟩:=xT5 l h.1.1 h.2
 obtain rfl:B=B':=b2.unique c2 fun _ _=>rfl
 exact ⟨B,b1,c1,b2⟩
theorem xNf {B:List Fc} (h:B.length≤1048576) (hr:∀ f,f∈B→f.r.length≤60):xcf (B.map encF) (B.map encF)=some true:=by
 have:=xKW B B h (fun f hf=>by have:=hr f hf;unfold maxLen;omega)
 rwa [decide_eq_true rfl] at this
theorem xRr (l:List Fc) (ht:few l=true→Tx l):xef (l.map encF)=some true:=by
 unfold xef xiC
 simp only [xUF,Option.isSome_some,Option.getD_some,xai]
 cases hf:few l with
 | false=>rfl
 | true =>
  simp only [Bool.not_true,xaj]
  have htx:=ht hf
  have hb:=xTQ hf htx
  obtain ⟨f1,f2⟩:=xMF hf
  obtain ⟨B,b1,b2,b3⟩:=xSo l hb
  obtain ⟨S,s1,s2⟩:=xUW l hb
  obtain ⟨S',t1,t2⟩:=xT8 l hb.1.1 hb.2
  obtain rfl:S=S':=s2.unique t2 fun _ _=>rfl
  have lB:=xOJ f1 b3.len
  have lS:=xOJ f1 s2.len
  have i1:=xNf (B:=B) (by omega) (b3.all (Q:=fun r=>r.length≤60) f2)
  have i2:=xNf (B:=S) (by omega) (s2.all (Q:=fun r=>r.length≤60) f2)
  have i3:=xSF l B (by omega) (fun f hf=>by have:=f2 f hf;omega)
  have i4:=xKW l B (by omega) (fun f hf=>by have:=f2 f hf;unfold maxLen;omega)
  have c1:xdG (l.map encF)=some (decide (l=B)):=by
   unfold xdG xjw
   simp only [b1,i3,Option.isSome_some,Option.getD_some,xai]
  have c2:xfn (l.map encF)=some (decide (l=B)):=by
   unfold xfn xma
   simp only [b2,i4,Option.isSome_some,Option.getD_some,xai]
  have p1:=xRE l (by omega)
  have p2:=xP5 l (by omega)
  have pl:=xOP l
  have i5:=xN8 (ptsF l) (ptsF l) (by omega)
  rw [decide_eq_true rfl] at i5
  simp only [b1,b2,i1,s1,t1,i2,c1,c2,p1,p2,i5,beq_self_eq_true,Option.isSome_some,Option.getD_some,xai]
end Go.Sim.M
end
noncomputable section
namespace Go.Sim
theorem M.card_forms (l:List M.Fc) (w0:l.length≤maxLen∧∀ y,y∈l→y.wf) (hb:(AV.list 3 (l.map M.encF)).wt≤1048576):M.xef (l.map M.encF)=some true:=M.xRr l fun _=>M.tx_wt (by omega) w0.2
end Go.Sim
end
noncomputable section
set_option maxRecDepth 10000
namespace Go.Proofs.YtefloaolddjnhaaGreatDoor.coalesceForms
open Go.ChangeShapes Go.WideShapes Go.ChangeAt Go.RowKit Go.Sim
theorem contract (H:Type) (enc:TypeId×Value→H) (W:World) (base:Nat) (args:Array Value) (ds gs:List (DataW H)) (before:List MemPlace)
  (hval:∀ (j:Nat) t v,Tryz.f3.params[j]?=some t→args[j]?=some v→Value.okWide Tryz.prog W .any base t v)
  (hW:DataW.Whole enc Tryz.prog Tryz.f3.params.toList Rows.coalesceFormsSpec.vars false W args.toList ds gs before) (hL:laidMetH Tryz.prog Rows.coalesceFormsUptoRow.laid W) (hsh:W.ShapedOpen Tryz.prog) (hbulk:Rows.uptoBulkAll (ds++gs)≤1048576) :
  Calls Tryz.prog 3 args W fun e W'=>∃ v,e=.returned v∧Rows.coalesceFormsSpec.post enc Tryz.prog Tryz.f3 false true false false W args v W':=by
 have hW':=hW
 obtain ⟨p,q,hA0,hV,rfl,hfz,hnd⟩:=hW
 have hA:DataW.TrodAll enc Tryz.prog W 0 (fun _=>true) true Tryz.f3.params.toList args.toList ds p:=hA0
 have hAk:=hA
 rw [Tryz.params3] at hA hval
 obtain ⟨v0,vs0,d0,ds0,p0,q0,hargs,rfl,rfl,h0,r0⟩:=trodAll_cons hA
 obtain ⟨rfl,rfl,rfl⟩:=trodAll_nil r0
 obtain rfl:args=#[v0]:=by cases args;simp_all
 obtain ⟨rfl,rfl⟩:=trodVars_none hV
 obtain ⟨a0,rr0,b0,w0⟩:=xPP (hval 0 22 v0 rfl rfl) h0
 clear hA0
 have hbulk:(.list 3 (a0.map M.encF):AV).wt≤1048576:=by
  rw [List.append_nil,xtG] at hbulk
  simp only [List.map_cons,List.map_nil,List.sum_cons,List.sum_nil] at hbulk
  have:=b0 _ xRv
  omega
 have hI:ITryz W:=xUI rfl (by kernel_rfl) hL hsh
 have hpl:=M.card_forms a0 w0 hbulk
 have hg:Sim.Good Tryz.prog ITryz 3 [.list 3 (a0.map M.encF)] (.bool true):=M.xzB _ _ (by
  show some (_,AV.bool _)=_
  rw [hpl];rfl)
 have hrc:RC W (fun _=>False) noBox [v0] [.list 3 (a0.map M.encF)]:=by
  refine ⟨rfl,fun i hi=>?_⟩
  match i,hi with
  | 0,_=>exact rr0
 refine (hg.2 W (fun _=>False) _ hI (fun _ h=>h.elim) hrc).mono fun e W' ⟨v,he,hb,hr⟩=>?_
 subst he
 obtain rfl:=hr.bool_inv
 exact ⟨_,rfl,xRF rfl hW' ⟨rfl,rfl,rfl⟩ rfl Tryz.underlying4 (by simpa using xBm xVW hb (by kernel_rfl) hAk) hb⟩
noncomputable def wit:Array Value:=#[.slice none 0 0]
theorem laid_met (os:Os):laidMet Tryz.prog Rows.coalesceFormsUptoRow.laid ((xVI Tryz.prog Rows.coalesceFormsUptoRow.laid os).forCall (fun _ _=>0) ⟨#[],wit,[]⟩).memory :=
 laidMet_of_run3 8 (by kernel_rfl) (by kernel_rfl) (by kernel_rfl)
theorem reads (os:Os) {H:Type} (enc:TypeId×Value→H):∃ places,DataW.whole enc Tryz.prog ((xVI Tryz.prog Rows.coalesceFormsUptoRow.laid os).forCall (fun _ _=>0) ⟨#[],wit,[]⟩).memory Tryz.f3.params.toList Rows.coalesceFormsSpec.vars false wit.toList 8=some ([.nil],[],places) :=
 ⟨[],by kernel_rfl⟩
set_option maxRecDepth 100000 in
theorem lifted (os:Os) (started:os.Started) (H:Type) (enc:TypeId×Value→H) (F:Stop.Interp) :
  ReturnsInHanded {} Tryz.checked os 3 .any ((Rows.OpenSpec.upto Rows.coalesceFormsSpec).preRow enc Tryz.prog Tryz.f3 Rows.coalesceFormsUptoRow.domain false Rows.coalesceFormsUptoRow.laid) (((Rows.OpenSpec.upto Rows.coalesceFormsSpec).at F).post enc Tryz.prog Tryz.f3 false true false false):=by
 obtain ⟨places,hx⟩:=reads os enc
 refine returnsInHanded_of_row (C:=Tryz.checked) (s:=Rows.OpenSpec.upto Rows.coalesceFormsSpec) xV0 started (by kernel_rfl) Tryz.func3
  (witness_row_at (enc:=enc) (C:=Tryz.checked) false (xVI Tryz.prog Rows.coalesceFormsUptoRow.laid os) wit rfl (by kernel_rfl) (by kernel_rfl) (by kernel_rfl)
   (OpenSpec.preRow_of_cond 8 hx (by kernel_rfl) (fun k hk=>by cases hk;kernel_rfl) (by kernel_rfl) (laid_met os))) ?_
 intro W base args ds gs before hval hW _ hcond _ hL hsh _
 exact contract H enc W base args ds gs before hval hW hL hsh (of_decide_eq_true (hcond _ rfl))
theorem said:Rows.CoalesceFormsUptoSaid :=
 OpenClaim.holds_of_cond 3 Tryz.f3 rfl rfl rfl rfl rfl rfl rfl ⟨rfl,rfl,rfl,rfl,rfl⟩ rfl rfl rfl rfl rfl (by kernel_rfl) Tryz.func3 (by kernel_rfl)
  (of_decide_eq_true (by kernel_rfl)) (by unfold Func.isWrapper;first|(rw [if_pos (by decide +kernel)];kernel_rfl)|(rw [if_neg (by decide +kernel)];exact ⟨rfl,rfl⟩))
  (fun os started H enc _ F=>by rw [OpenClaim.pre_eq_preRow];exact lifted os started H enc F)
theorem plain (f:FuncId) (fn:Func) (hf:Tryz.pinned.checked.prog.funcNamed "bitemporal/bitemporallaw22.CoalesceForms" = some f) (hfn:Tryz.pinned.checked.prog.funcs[f]?=some fn) :
  false=Tryz.pinned.checked.prog.looks []∧∀ (j:Nat) t,fn.params[j]?=some t→Tryz.pinned.checked.prog.wantsStandIn t=false:=by
 obtain rfl:f=3:=Option.some.inj ((show Tryz.prog.funcNamed "bitemporal/bitemporallaw22.CoalesceForms" = some 3 by kernel_rfl).symm.trans hf) |>.symm
 obtain rfl:fn=Tryz.f3:=(Option.some.inj (Tryz.func3.symm.trans hfn)).symm
 refine ⟨by kernel_rfl,fun j t ht=>?_⟩
 rw [Tryz.params3] at ht
 have hm:=Array.mem_of_getElem? ht
 have:([22]:List Nat).all (fun t=>!(Tryz.prog.wantsStandIn t))=true:=by kernel_rfl
 have:=List.all_eq_true.1 this t (by simpa using hm)
 show Tryz.prog.wantsStandIn t=false
 simpa using this
theorem card:Rows.CoalesceFormsUptoCardSaid :=
 Claim7.holds_tied_plain_at .later [] _ _ _ _ said (fun _ h=>by cases h) (by kernel_rfl) (fun _ h=>by cases h) coalesceFormsUpto_row_tie rfl ⟨rfl,rfl⟩ (by kernel_rfl) rfl plain (by kernel_rfl)
end Go.Proofs.YtefloaolddjnhaaGreatDoor.coalesceForms
end
