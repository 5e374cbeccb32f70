/- Part 17 of the proof: PlK, SrG, PlR, SwG, SwP, PlA, PlB, PlD, PlTx, PlZD, CardDivided. -/
import Derived.Test.YtefloaolddjnhaaGreatDoorQD16
import Derived.Lib.ItoaLen
set_option linter.unusedVariables false
set_option linter.unusedSimpArgs false
set_option linter.unnecessarySimpa false
set_option linter.unusedSectionVars false
noncomputable section
set_option maxRecDepth 100000
namespace Go.Sim.M
open Go.RowKit Go.Sim.Srt
def rdD (l:List UInt8):Nat:=l.foldl (fun a c=>a*10+(c.toNat - 48)) 0
theorem xC0 (u:Nat):∀ c,c∈Lib.decDigits u→48≤c.toNat∧c.toNat≤57:=by
 induction u using Nat.strongRecOn with
 | _ u ih =>
  intro c hc
  rw [Lib.decDigits] at hc
  split at hc
  · rw [List.mem_singleton] at hc
    subst hc
    rw [UInt8.toNat_ofNat'];omega
  · rw [List.mem_append,List.mem_singleton] at hc
    rcases hc with hc|rfl
    · exact ih (u / 10) (by omega) c hc
    · rw [UInt8.toNat_ofNat'];omega
theorem xEM (u:Nat):rdD (Lib.decDigits u)=u:=by
 induction u using Nat.strongRecOn with
 | _ u ih =>
  rw [Lib.decDigits]
  split
  · simp only [rdD,List.foldl_cons,List.foldl_nil,UInt8.toNat_ofNat'];omega
  · have:=ih (u / 10) (by omega)
    unfold rdD at this ⊢
    rw [List.foldl_append,this]
    simp only [List.foldl_cons,List.foldl_nil,UInt8.toNat_ofNat'];omega
theorem xCP {u v:Nat} (h:Lib.decDigits u=Lib.decDigits v):u=v:=by rw [←xEM u,h,xEM]
theorem xvN {a b:Int} (h:Lib.itoa a=Lib.itoa b):a=b:=by
 unfold Lib.itoa at h
 have k:∀ u v:Nat,45::Lib.decDigits u≠Lib.decDigits v:=fun u v e=>by
  have:=xC0 v 45 (by rw [←e];simp)
  have t:(45:UInt8).toNat=45:=rfl
  omega
 split at h<;>split at h
 · have:=xCP (List.cons.inj h).2;omega
 · exact absurd h (k _ _)
 · exact absurd h.symm (k _ _)
 · have:=xCP h;omega
theorem xo8 (a:Int):(32:UInt8)∉Lib.itoa a:=by
 have k:∀ v:Nat,(32:UInt8)∉Lib.decDigits v:=fun v e=>by
  have:=xC0 v 32 e
  have t:(32:UInt8).toNat=32:=rfl
  omega
 unfold Lib.itoa
 split
 · rw [List.mem_cons]
   rintro (h|h)
   · simp at h
   · exact k _ h
 · exact k _
theorem xv7:∀ {a b x y:List UInt8},(32:UInt8)∉a→(32:UInt8)∉b→a++32::x=b++32::y→a=b∧x=y
 | [],[],x,y,_,_,h=>⟨rfl,(List.cons.inj h).2⟩
 | [],c::b,x,y,_,hb,h=>absurd (List.cons.inj h).1 fun e=>hb (by rw [e];simp)
 | c::a,[],x,y,ha,_,h=>absurd (List.cons.inj h).1 fun e=>ha (by rw [←e];simp)
 | c::a,d::b,x,y,ha,hb,h=>by
  obtain ⟨e1,h⟩:=List.cons.inj h
  obtain ⟨e2,e3⟩:=xv7 (a:=a) (b:=b) (fun e=>ha (by simp [e])) (fun e=>hb (by simp [e])) h
  exact ⟨by rw [e1,e2],e3⟩
def keyV (v:Val):List UInt8:=Lib.itoa v.k++32::(Lib.itoa v.i++32::(Lib.itoa (v.t.length:Int)++32::v.t))
def keyOf (r:Row):List UInt8:=r.flatMap keyV
theorem xvH (v:Val) (s:List UInt8):keyV v++s=Lib.itoa v.k++32::(Lib.itoa v.i++32::(Lib.itoa (v.t.length:Int)++32::(v.t++s))):=by simp [keyV]
theorem xmH (v:Val) (r:Row):keyOf (v::r)=keyV v++keyOf r:=by simp [keyOf]
theorem xyr (v:Val) (s:List UInt8):keyV v++s≠[]:=by rw [xvH];simp
theorem xCO:∀ {r r':Row},keyOf r=keyOf r'→r=r'
 | [],[],_=>rfl
 | [],v::r',h=>by rw [xmH] at h;exact absurd h.symm (xyr _ _)
 | v::r,[],h=>by rw [xmH] at h;exact absurd h (xyr _ _)
 | v::r,v'::r',h=>by
  rw [xmH,xmH,xvH,xvH] at h
  obtain ⟨h1,h⟩:=xv7 (xo8 _) (xo8 _) h
  obtain ⟨h2,h⟩:=xv7 (xo8 _) (xo8 _) h
  obtain ⟨h3,h⟩:=xv7 (xo8 _) (xo8 _) h
  have h3:=xvN h3
  obtain ⟨h4,h⟩:=List.append_inj h (by omega)
  obtain rfl:=xCO h
  have:v=v':=by
   obtain ⟨k,i,t⟩:=v;obtain ⟨k',i',t'⟩:=v'
   obtain rfl:=xvN h1;obtain rfl:=xvN h2;subst h4;rfl
  rw [this]
theorem rng64 {n:Int} (h:(Lit.int .i64 n).wf=true):-9223372036854775808≤n∧n≤9223372036854775807:=by
 have h:(decide ((IntKind.i64).min≤n)&&decide (n≤(IntKind.i64).max))=true:=h
 rw [Bool.and_eq_true,decide_eq_true_eq,decide_eq_true_eq] at h
 exact h
theorem xA6 {v:Val} (hw:v.wf) (ht:v.t.length≤1099511627776):(keyV v).length≤66+v.t.length:=by
 obtain ⟨w1,w2,_⟩:=hw
 have a1:=Lib.itoa_length_le v.k (rng64 w1).1 (rng64 w1).2
 have a2:=Lib.itoa_length_le v.i (rng64 w2).1 (rng64 w2).2
 have a3:=Lib.itoa_length_le (v.t.length:Int) (by omega) (by omega)
 simp only [keyV,List.length_append,List.length_cons]
 omega
theorem xyq (s B:List UInt8) (h:(B++s).length≤140737488355328):xaI s B.length (byteAVs B)=some ((s.length:Int),(B++s).length,byteAVs (B++s)):=by
 rw [List.length_append] at h
 have h2:B.length+s.length≤4611686018427387904:=by omega
 unfold xaI xda
 simp only [xkU,beq_self_eq_true,Nat.mul_one,h,h2,decide_true,Bool.and_self,xaD,xrr,List.length_append]
theorem xBM (B:List UInt8) (h:(B++[32]).length≤140737488355328):xbh 32 B.length (byteAVs B)=some ((B++[32]).length,byteAVs (B++[32])):=by
 rw [List.length_append,List.length_singleton] at h
 have h2:B.length+1≤4611686018427387904:=by omega
 unfold xbh xdq
 simp only [xkU,beq_self_eq_true,Nat.mul_one,h,h2,decide_true,Bool.and_self,xaD,xrr,List.length_append,List.length_singleton]
 rfl
def numI (n:Int):List UInt8:=Lib.itoa n++[32]
theorem xDw (t8:List AV) (t9 t10:Int) (xs:List AV) (hx:xs.length=3) (j:Nat) (hj:j<3) (n:Int) (hn:xs.getD j .top=.int .i64 n) (h1:-9223372036854775808≤n) (h2:n≤9223372036854775807) (v0 v1:Int) (v2 B:List UInt8) (hB:B.length≤70368744177664) :
  xbb t8 t9 t10 3 3 ((j:Int),B.length,v0,v1,v2,xs,byteAVs B)=some (.inl (((j+1:Nat):Int),(B++numI n).length,v0,v1,v2,xs,byteAVs (B++numI n))):=by
 have hl:=Lib.itoa_length_le n h1 h2
 have i1:(j:Int)<3:=by omega
 have i2:(j:Int)<((3:Nat):Int):=by omega
 have i3:j<xs.length:=by omega
 have e1:=xyq (Lib.itoa n) B (by rw [List.length_append];omega)
 have e2:=xBM (B++Lib.itoa n) (by rw [List.length_append,List.length_append,List.length_singleton];omega)
 have hc:((AV.int IntKind.i64 n).cells.getD 0 .top).toInt=n:=rfl
 have hs:hasSh1 (Sh.int IntKind.i64) ((AV.int IntKind.i64 n).cells.getD 0 .top)=true:=rfl
 simp only [xbb,xgH,xkB,xkg,xkh,xf2,List.length_map,xaD,xaE,decide_true,decide_false,Bool.and_true,Bool.true_and,Bool.not_true,Bool.not_false,Int.toNat_natCast,Int.natCast_nonneg,Option.isSome_some,Option.getD_some,beq_self_eq_true,Nat.zero_add,Nat.sub_zero,i1,i2,i3,hn,hc,hs,h1,h2,e1,e2,wrapS (n:=j) (by omega),numI,List.append_assoc]
theorem xIH (t8:List AV) (t9 t10:Int) (xs:List AV) (v0 v1:Int) (v2 B:List UInt8):xbb t8 t9 t10 3 3 (((3:Nat):Int),B.length,v0,v1,v2,xs,byteAVs B)=some (.inr (B.length,v0,v1,v2,byteAVs B)):=by
 have i1:¬ ((3:Nat):Int)<3:=by omega
 simp only [xbb,xgH,i1,decide_false,xaE]
theorem xvq (v:Val):keyV v=numI v.k++(numI v.i++(numI (v.t.length:Int)++v.t)):=by simp [keyV,numI]
def KOk (v:Val):Prop:=v.wf∧v.t.length≤1099511627776
theorem KOk.len {v:Val} (h:KOk v):(keyV v).length≤1099511627842:=by have:=xA6 h.1 h.2;have:=h.2;omega
theorem xCV (t8:List AV) (t9 t10:Int) (v:Val) (h:KOk v) (B:List UInt8) (hB:B.length≤35184372088832) :
  Iter (xbb t8 t9 t10 3 3) ((1:Int),(B++numI v.k).length,v.k,v.i,v.t,[AV.int .i64 v.k,AV.int .i64 v.i,AV.int .i64 (v.t.length:Int)],byteAVs (B++numI v.k))=some ((B++numI v.k++numI v.i++numI (v.t.length:Int)).length,v.k,v.i,v.t,byteAVs (B++numI v.k++numI v.i++numI (v.t.length:Int))):=by
 have hl:=h.len
 have ht:=h.2
 rw [xvq,List.length_append,List.length_append,List.length_append] at hl
 have e1:=xDw t8 t9 t10 [AV.int .i64 v.k,AV.int .i64 v.i,AV.int .i64 (v.t.length:Int)] rfl 1 (by omega) v.i rfl (rng64 h.1.2.1).1 (rng64 h.1.2.1).2 v.k v.i v.t (B++numI v.k) (by rw [List.length_append];omega)
 have e2:=xDw t8 t9 t10 [AV.int .i64 v.k,AV.int .i64 v.i,AV.int .i64 (v.t.length:Int)] rfl 2 (by omega) (v.t.length:Int) rfl (by omega) (by omega) v.k v.i v.t (B++numI v.k++numI v.i) (by rw [List.length_append,List.length_append];omega)
 exact (xbY e1).trans ((xbY e2).trans (xaK (xIH ..)))
theorem xI2 (t8:List AV) (t9 t10:Int) (v:Val) (h:KOk v) (B:List UInt8) (hB:B.length≤35184372088832) :
  Iter (xbb t8 t9 t10 3 3) ((0:Int),B.length,v.k,v.i,v.t,[AV.int .i64 v.k,AV.int .i64 v.i,AV.int .i64 (v.t.length:Int)],byteAVs B)=some ((B++numI v.k++numI v.i++numI (v.t.length:Int)).length,v.k,v.i,v.t,byteAVs (B++numI v.k++numI v.i++numI (v.t.length:Int))):=by
 have e0:=xDw t8 t9 t10 [AV.int .i64 v.k,AV.int .i64 v.i,AV.int .i64 (v.t.length:Int)] rfl 0 (by omega) v.k rfl (rng64 h.1.1).1 (rng64 h.1.1).2 v.k v.i v.t B (by omega)
 exact (xbY e0).trans (xCV t8 t9 t10 v h B hB)
theorem xFR (r:Row) (hr:r.length≤1048576) (h:∀ v,v∈r→KOk v) (hk:(keyOf r).length≤17592186044416):∀ d k:Nat,k+d=r.length→Iter (xb8 (r.map encV) ((r.length:Nat):Int)) ((k:Int),(keyOf (r.take k)).length,byteAVs (keyOf (r.take k)))=some ((keyOf r).length,byteAVs (keyOf r))
 | 0,k,hkk=>by
  obtain rfl:k=r.length:=by omega
  rw [List.take_length]
  refine xaK ?_
  simp only [xb8,xgI,Int.lt_irrefl,decide_false,xaE]
 | d+1,k,hkk=>by
  have hlt:k<r.length:=by omega
  have hv:=h r[k] (List.getElem_mem hlt)
  have i1:(k:Int)<(r.length:Int):=by omega
  have gf:(r.map encV).getD k .top=encV r[k]:=xaW _ _ _ hlt
  have tk:keyOf (r.take (k+1))=keyOf (r.take k)++keyV r[k]:=by
   unfold keyOf;rw [List.take_add_one,List.getElem?_eq_getElem hlt,List.flatMap_append];simp
  have le:(keyOf (r.take (k+1))).length≤(keyOf r).length:=by
   conv=>rhs;rw [←List.take_append_drop (k+1) r]
   unfold keyOf
   rw [List.flatMap_append,List.length_append];omega
  have hl:=hv.len
  rw [tk,List.length_append] at le
  have e1:=xI2 (r.map encV) (r.length:Int) (k:Int) r[k] hv (keyOf (r.take k)) (by omega)
  have kn:keyOf (r.take k)++keyV r[k]=keyOf (r.take k)++numI r[k].k++numI r[k].i++numI (r[k].t.length:Int)++r[k].t:=by rw [xvq];simp only [List.append_assoc]
  have e2:=xyq r[k].t (keyOf (r.take k)++numI r[k].k++numI r[k].i++numI (r[k].t.length:Int)) (by rw [←kn,List.length_append];omega)
  rw [xbY (s':=(((k+1:Nat):Int),(keyOf (r.take (k+1))).length,byteAVs (keyOf (r.take (k+1))))) ?_]
  · exact xFR r hr h hk d (k+1) (by omega)
  · rw [tk,kn]
    simp only [xb8,xgI,xj6,xj5,xkq,xjZ,xj9,List.length_map,xaD,xaE,decide_true,decide_false,Bool.and_true,Bool.true_and,Bool.not_true,Bool.not_false,Int.toNat_natCast,Int.natCast_nonneg,Option.isSome_some,Option.getD_some,beq_self_eq_true,Nat.zero_add,Nat.sub_zero,hlt,i1,gf,cV0,cV1,cV2,lV,sV,e1,e2,wrapS (n:=k) (by omega)]
theorem xI9 (r:Row) (hr:r.length≤1048576) (h:∀ v,v∈r→KOk v) (hk:(keyOf r).length≤17592186044416):xfb (r.map encV)=some (keyOf r):=by
 match r with
 | []=>rfl
 | v::t =>
  have hv:=h v (by simp)
  have hl:=hv.len
  have i1:(0:Int)<((t.length+1:Nat):Int):=by omega
  have i2:0<t.length+1:=by omega
  obtain ⟨r1,r2⟩:=rng64 hv.1.1
  have hln:=Lib.itoa_length_le v.k r1 r2
  have gf:((v::t).map encV).getD 0 .top=encV v:=rfl
  have e0:xaL (Lib.itoa v.k)=some (((Lib.itoa v.k).length:Int),(Lib.itoa v.k).length,byteAVs (Lib.itoa v.k)):=by
   have m1:(Lib.itoa v.k).length≤140737488355328:=by omega
   have m2:(Lib.itoa v.k).length≤4611686018427387904:=by omega
   unfold xaL xdi
   simp only [xkU,Nat.mul_one,m1,m2,decide_true,Bool.and_self,xaD]
  have e1:xbB 32 (Lib.itoa v.k).length (byteAVs (Lib.itoa v.k))=some (([]++numI v.k).length,byteAVs ([]++numI v.k)):=xBM (Lib.itoa v.k) (by rw [List.length_append,List.length_singleton];omega)
  have e2:=xCV ((v::t).map encV) ((t.length+1:Nat):Int) 0 v hv [] (by simp)
  have kn:keyV v=[]++numI v.k++numI v.i++numI (v.t.length:Int)++v.t:=by rw [xvq];simp
  have e3:=xyq v.t ([]++numI v.k++numI v.i++numI (v.t.length:Int)) (by rw [←kn];omega)
  rw [←kn] at e3
  have e4:=xFR (v::t) hr h hk t.length 1 (by rw [List.length_cons];omega)
  have tk:keyOf ((v::t).take 1)=keyV v:=by simp [keyOf]
  rw [tk,List.length_cons] at e4
  have e4:Iter (xb8 ((v::t).map encV) ((t.length+1:Nat):Int)) ((1:Int),(keyV v).length,byteAVs (keyV v))=_:=e4
  have hne:(keyOf (v::t)).length≠0:=fun e=>xyr v (keyOf t) (by rw [←xmH];exact List.length_eq_zero_iff.1 e)
  unfold xfb xkL xhY xnf xmS xmM xmI xmA xmU xm9 xmX xm0 xdL
  simp only [List.length_map,List.length_cons,i1,i2,gf,cV0,cV1,cV2,lV,sV,r1,r2,e0,e1,e2,e3,e4,decide_true,xaD,Bool.and_self,beq_self_eq_true,Option.isSome_some,Option.getD_some,xkU,xw1,xAk,ne_eq,hne,not_false_eq_true]
end Go.Sim.M
end
noncomputable section
set_option maxRecDepth 100000
namespace Go.Sim.M
open Go.RowKit Go.Sim.Srt
abbrev Grp:=Row×List Per
def encG (g:Grp):AV:=.agg [.list 3 (g.1.map encV),.list 2 (g.2.map encP)]
def okEG (x:AV):Bool:=x.cells.length==(2:Nat)&&hasShs [Sh.list (3:Nat),Sh.list (2:Nat)] x.cells (0:Nat)
def ldEG (x:AV):AV:=AV.agg [AV.list (3:Nat) (x.cells.getD (0:Nat) AV.top).toList,AV.list (2:Nat) (x.cells.getD (1:Nat) AV.top).toList]
noncomputable def cmpPG (x y:AV):Bool:=(xci (x.cells.getD 0 AV.top).toList (x.cells.getD 1 AV.top).toList (y.cells.getD 0 AV.top).toList (y.cells.getD 1 AV.top).toList).isSome
noncomputable def cmpVG (x y:AV):Int:=(xci (x.cells.getD 0 AV.top).toList (x.cells.getD 1 AV.top).toList (y.cells.getD 0 AV.top).toList (y.cells.getD 1 AV.top).toList).getD 0
theorem heG (a:Grp):okEG (encG a)=true:=rfl
theorem hdG (a:Grp):ldEG (encG a)=encG a:=rfl
section
variable {N : Nat} (hN : N ≤ 2 ^ 60) {ok : Grp → Prop} {c : Grp → Grp → Int} (hc : ∀ x y, ok x → ok y → cmpPG (encG x) (encG y) = true ∧ cmpVG (encG x) (encG y) = c x y)
include hN
theorem xHF (a b n:Nat) (l r:List Grp) (ha:a≤2 ^ 60) (hb:b≤2 ^ 60) (hn:n≤2 ^ 60) (hl:LOk N ok l) (hr:swr a b n l=some r):xaR N a b n (List.map encG l)=some (List.map encG r)∧LOk N ok r:=by
 obtain ⟨e1,e2⟩:=xIL (okE:=okEG) (ldE:=ldEG) heG hdG hN a b n ha hb hn (g:=xa9 N a b n) (fun i xs=>rfl) hl hr
 refine ⟨?_,e2⟩
 unfold xaR xem
 rw [e1];rfl
theorem xJD (a m b:Nat) (l r:List Grp) (h1:a≤m) (h2:m≤b) (h3:b≤N) (hl:LOk N ok l) (hr:rot a m b l=some r):xa8 N a m b (List.map encG l)=some (List.map encG r)∧LOk N ok r:=by
 unfold rot at hr
 cases hi:Iter (rotStep m) (m - a,b - m,l) with
 | none=>rw [hi] at hr;simp at hr
 | some p =>
  obtain ⟨i,l'⟩:=p
  rw [hi] at hr
  obtain ⟨e1,e2,e3⟩:=xIJ (enc:=encG) hN (ok:=ok) (SW:=fun a b n xs=>xaR N a b n xs) (fun a b n l r ha hb hn hl hr=>xHF hN a b n l r ha hb hn hl hr) m (by omega) (g:=xbS N m) (fun i j xs=>rfl) (by omega) (by omega) hl hi
  obtain ⟨e4,e5⟩:=xHF hN (m - i) m i l' r (by omega) (by omega) (by omega) e3 hr
  refine ⟨?_,e5⟩
  simp only [xa8,xfa,xgX,xgZ,xgS,xgM,w64 (x:=(m:Int) - (a:Int)) (n:=m - a) (by omega) (by omega),w64 (x:=(b:Int) - (m:Int)) (n:=b - m) (by omega) (by omega),e1,Option.getD_some,Option.isSome_some,xaD,w64 (x:=(m:Int) - (i:Int)) (n:=m - i) (by omega) (by omega),e4]
include hc
theorem xHS (a b:Nat) (ha:a≤N) (hb:b≤N) {l r:List Grp} (hl:LOk N ok l) (hr:insSort c a b l=some r):xaT N a b (List.map encG l)=some (List.map encG r)∧LOk N ok r:=by
 obtain ⟨e1,e2⟩:=xG7 (enc:=encG) hN (c:=c) (ok:=ok) a b hb (gi:=fun i=>xaX N a b i) (fun i l r hl hr=>xIq (okE:=okEG) (ldE:=ldEG) heG hdG hN (P:=cmpPG) (V:=cmpVG) hc a (fun j xs=>rfl) hl hr) (g:=xaV N a b) (fun i xs=>rfl) hl hr
 refine ⟨?_,e2⟩
 unfold xaT xdh
 rw [w64 (x:=(a:Int)+1) (n:=a+1) (by omega) (by omega),e1];rfl
theorem xHK:∀ (f a m b:Nat) (l r:List Grp),a<m→m<b→b≤N→LOk N ok l→symM c f a m b l=some r→xaN f N a m b (List.map encG l)=some (List.map encG r)∧LOk N ok r:=by
 intro f
 induction f with
 | zero=>intro a m b l r _ _ _ _ hr;simp [symM] at hr
 | succ f ih =>
  intro a m b l r ham hmb hb hl hr
  unfold symM at hr
  show xas (xaN f) N a m b (List.map encG l)=some (List.map encG r)∧LOk N ok r
  have wma:IntKind.i64.wrap ((m:Int) - (a:Int))=((m - a:Nat):Int):=w64 (by omega) (by omega)
  have wbm:IntKind.i64.wrap ((b:Int) - (m:Int))=((b - m:Nat):Int):=w64 (by omega) (by omega)
  by_cases h1:m - a=1
  · rw [if_pos h1] at hr
    cases hi:Iter (bsStep fun h=>(get2 c l h a).map fun r=>decide (r<0)) (m,b) with
    | none=>rw [hi] at hr;simp at hr
    | some i =>
     rw [hi] at hr
     obtain ⟨e0,b1,b2⟩:=xA9 (okE:=okEG) heG hN (P:=cmpPG) (V:=cmpVG) hc (fun h=>h) (fun _=>a) (fun h=>h) (fun _=>(a:Int)) m b (by omega) (fun _ _ _=>rfl) (fun _ _ _=>rfl) (fun r=>decide (r<0)) (g:=xaZ N a) (fun i j xs=>rfl) hl (Nat.le_refl _) (Nat.le_refl _) (by omega) hi
     obtain ⟨e1,e2⟩:=xJq (okE:=okEG) (ldE:=ldEG) heG hdG hN (ok:=ok) (i - 1) i (by omega) (by omega) (g:=xbz N i) (fun k xs=>rfl) hl hr
     refine ⟨?_,e2⟩
     simp only [xas,xaC,xal,xak,xad,xan,xam,xae,xah,xag,xab,xac,xao,xaq,xar,xaa,xap,xaz,xaB,xay,xav,xaw,xau,xat,xaA,xaj,xai,wma,h1,e0,Option.getD_some,Option.isSome_some,xaD,e1,Int.natCast_one,beq_self_eq_true]
  · rw [if_neg h1] at hr
    have d1:(((m - a:Nat):Int)==1)=false:=by simp;omega
    by_cases h2:b - m=1
    · rw [if_pos h2] at hr
      cases hi:Iter (bsStep fun h=>(get2 c l m h).map fun r=>!decide (r<0)) (a,m) with
      | none=>rw [hi] at hr;simp at hr
      | some i =>
       rw [hi] at hr
       obtain ⟨e0,b1,b2⟩:=xA9 (okE:=okEG) heG hN (P:=cmpPG) (V:=cmpVG) hc (fun _=>m) (fun h=>h) (fun _=>(m:Int)) (fun h=>h) a m (by omega) (fun _ _ _=>rfl) (fun _ _ _=>rfl) (fun r=>!decide (r<0)) (g:=xax N m) (fun i j xs=>rfl) hl (Nat.le_refl _) (Nat.le_refl _) (by omega) hi
       obtain ⟨e1,e2⟩:=xGB (okE:=okEG) (ldE:=ldEG) heG hdG hN (ok:=ok) i (g:=xbC N i) (fun k xs=>rfl) hl hr
       refine ⟨?_,e2⟩
       simp only [xas,xaC,xal,xak,xad,xan,xam,xae,xah,xag,xab,xac,xao,xaq,xar,xaa,xap,xaz,xaB,xay,xav,xaw,xau,xat,xaA,xaj,xai,wma,wbm,d1,h2,e0,Option.getD_some,Option.isSome_some,xaD,xaE,e1,Int.natCast_one,beq_self_eq_true]
    · rw [if_neg h2] at hr
      have d2:(((b - m:Nat):Int)==1)=false:=by simp;omega
      have hh:IntKind.i64.wrap ((IntKind.u64.wrap (IntKind.i64.wrap ((a:Int)+(b:Int)))).fdiv 2)=(((a+b) / 2:Nat):Int):=half64 (by omega)
      obtain ⟨mid,hmid⟩:∃ mid,mid=(a+b) / 2:=⟨_,rfl⟩
      rw [←hmid] at hr hh
      have w2:IntKind.i64.wrap ((mid:Int)+(m:Int))=((mid+m:Nat):Int):=w64 (by omega) (by omega)
      have w3:IntKind.i64.wrap (((mid+m:Nat):Int) - 1)=((mid+m - 1:Nat):Int):=w64 (by omega) (by omega)
      obtain ⟨lo,hi,hlh,g1,g2,g3,g4,hst⟩:∃ lo hi,(if mid<m then (mid+m - b,mid) else (a,m))=(lo,hi)∧a≤lo∧lo≤hi∧hi≤m∧hi≤mid∧((mid<m∧lo=mid+m - b∧hi=mid)∨(¬ mid<m∧lo=a∧hi=m)):=by
       by_cases h:mid<m
       · exact ⟨_,_,if_pos h,by omega,by omega,by omega,by omega,.inl ⟨h,rfl,rfl⟩⟩
       · exact ⟨_,_,if_neg h,by omega,by omega,by omega,by omega,.inr ⟨h,rfl,rfl⟩⟩
      rw [hlh] at hr
      cases hs:Iter (bsStep fun h=>(get2 c l (mid+m - 1 - h) h).map fun r=>!decide (r<0)) (lo,hi) with
      | none=>rw [hs] at hr;simp at hr
      | some s =>
       rw [hs] at hr
       dsimp only at hr
       obtain ⟨e0,b1,b2⟩:=xA9 (okE:=okEG) heG hN (P:=cmpPG) (V:=cmpVG) hc (fun h=>mid+m - 1 - h) (fun h=>h) (fun h=>IntKind.i64.wrap (((mid+m - 1:Nat):Int) - h)) (fun h=>h) lo hi (by omega) (fun h _ _=>w64 (by omega) (by omega)) (fun _ _ _=>rfl) (fun r=>!decide (r<0)) (g:=xbd N a m b mid ((mid+m:Nat):Int) ((mid+m - 1:Nat):Int)) (fun i j xs=>rfl) hl (Nat.le_refl _) (Nat.le_refl _) g2 hs
       have w5:IntKind.i64.wrap (((mid+m:Nat):Int) - (s:Int))=((mid+m - s:Nat):Int):=w64 (by omega) (by omega)
       obtain ⟨e,he⟩:∃ e,e=mid+m - s:=⟨_,rfl⟩
       rw [←he] at hr w5
       cases hrot:(if s<m∧m<e then rot s m e l else some l) with
       | none=>rw [hrot] at hr;simp at hr
       | some l1 =>
        rw [hrot] at hr
        dsimp only at hr
        have k1:(s<m∧m<e∧xa8 N s m e (List.map encG l)=some (List.map encG l1)∧LOk N ok l1)∨(¬ (s<m∧m<e)∧l1=l):=by
         by_cases h:s<m∧m<e
         · rw [if_pos h] at hrot
           obtain ⟨x1,x2⟩:=xJD hN s m e l l1 (by omega) (by omega) (by omega) hl hrot
           exact .inl ⟨h.1,h.2,x1,x2⟩
         · rw [if_neg h] at hrot
           simp only [Option.some.injEq] at hrot
           exact .inr ⟨h,hrot.symm⟩
        have hl1:LOk N ok l1:=by
         rcases k1 with k|k
         · exact k.2.2.2
         · rw [k.2];exact hl
        cases hlf:(if a<s∧s<mid then symM c f a s mid l1 else some l1) with
        | none=>rw [hlf] at hr;simp at hr
        | some l2 =>
         rw [hlf] at hr
         dsimp only at hr
         have k2:(a<s∧s<mid∧xaN f N a s mid (List.map encG l1)=some (List.map encG l2)∧LOk N ok l2)∨(¬ (a<s∧s<mid)∧l2=l1):=by
          by_cases h:a<s∧s<mid
          · rw [if_pos h] at hlf
            obtain ⟨x1,x2⟩:=ih a s mid l1 l2 h.1 h.2 (by omega) hl1 hlf
            exact .inl ⟨h.1,h.2,x1,x2⟩
          · rw [if_neg h] at hlf
            simp only [Option.some.injEq] at hlf
            exact .inr ⟨h,hlf.symm⟩
         have hl2:LOk N ok l2:=by
          rcases k2 with k|k
          · exact k.2.2.2
          · rw [k.2];exact hl1
         have k3:(mid<e∧e<b∧xaN f N mid e b (List.map encG l2)=some (List.map encG r)∧LOk N ok r)∨(¬ (mid<e∧e<b)∧r=l2):=by
          by_cases h:mid<e∧e<b
          · rw [if_pos h] at hr
            obtain ⟨x1,x2⟩:=ih mid e b l2 r h.1 h.2 hb hl2 hr
            exact .inl ⟨h.1,h.2,x1,x2⟩
          · rw [if_neg h] at hr
            simp only [Option.some.injEq] at hr
            exact .inr ⟨h,hr.symm⟩
         refine ⟨?_,?_⟩
         · clear ih hc hl hl1 hl2 hr hlf hrot hs hlh
           rcases hst with ⟨hm,hlo,hhi⟩|⟨hm,hlo,hhi⟩
           · rw [hlo,hhi] at e0
             have w4:IntKind.i64.wrap (((mid+m:Nat):Int) - (b:Int))=((mid+m - b:Nat):Int):=w64 (by omega) (by omega)
             have dm:decide ((m:Int)>(mid:Int))=true:=by simp [hm]
             rcases k1 with ⟨p1,p2,p3,_⟩|⟨p1,rfl⟩<;>rcases k2 with ⟨q1,q2,q3,_⟩|⟨q1,rfl⟩<;>rcases k3 with ⟨r1,r2,r3,_⟩|⟨r1,rfl⟩ <;>
              (by_cases t1:s<m<;>by_cases t2:m<e<;>by_cases t3:a<s<;>by_cases t4:s<mid<;>by_cases t5:mid<e<;>by_cases t6:e<b<;>first|(exfalso;omega) |
               (simp only [xas,xaC,xal,xak,xad,xan,xam,xae,xah,xag,xab,xac,xao,xaq,xar,xaa,xap,xaz,xaB,xay,xav,xaw,xau,xat,xaA,xaj,xai,wma,wbm,d1,d2,hh,w2,w3,w4,dm,e0,w5,Option.getD_some,Option.isSome_some,xaD,xaE,Int.ofNat_lt,t1,t2,t3,t4,t5,t6,decide_true,decide_false,hm,p3,q3,r3]) |
               (simp only [xas,xaC,xal,xak,xad,xan,xam,xae,xah,xag,xab,xac,xao,xaq,xar,xaa,xap,xaz,xaB,xay,xav,xaw,xau,xat,xaA,xaj,xai,wma,wbm,d1,d2,hh,w2,w3,w4,dm,e0,w5,Option.getD_some,Option.isSome_some,xaD,xaE,Int.ofNat_lt,t1,t2,t3,t4,t5,t6,decide_true,decide_false,hm,p3,q3]) |
               (simp only [xas,xaC,xal,xak,xad,xan,xam,xae,xah,xag,xab,xac,xao,xaq,xar,xaa,xap,xaz,xaB,xay,xav,xaw,xau,xat,xaA,xaj,xai,wma,wbm,d1,d2,hh,w2,w3,w4,dm,e0,w5,Option.getD_some,Option.isSome_some,xaD,xaE,Int.ofNat_lt,t1,t2,t3,t4,t5,t6,decide_true,decide_false,hm,p3,r3]) |
               (simp only [xas,xaC,xal,xak,xad,xan,xam,xae,xah,xag,xab,xac,xao,xaq,xar,xaa,xap,xaz,xaB,xay,xav,xaw,xau,xat,xaA,xaj,xai,wma,wbm,d1,d2,hh,w2,w3,w4,dm,e0,w5,Option.getD_some,Option.isSome_some,xaD,xaE,Int.ofNat_lt,t1,t2,t3,t4,t5,t6,decide_true,decide_false,hm,q3,r3]) |
               (simp only [xas,xaC,xal,xak,xad,xan,xam,xae,xah,xag,xab,xac,xao,xaq,xar,xaa,xap,xaz,xaB,xay,xav,xaw,xau,xat,xaA,xaj,xai,wma,wbm,d1,d2,hh,w2,w3,w4,dm,e0,w5,Option.getD_some,Option.isSome_some,xaD,xaE,Int.ofNat_lt,t1,t2,t3,t4,t5,t6,decide_true,decide_false,hm,p3]) |
               (simp only [xas,xaC,xal,xak,xad,xan,xam,xae,xah,xag,xab,xac,xao,xaq,xar,xaa,xap,xaz,xaB,xay,xav,xaw,xau,xat,xaA,xaj,xai,wma,wbm,d1,d2,hh,w2,w3,w4,dm,e0,w5,Option.getD_some,Option.isSome_some,xaD,xaE,Int.ofNat_lt,t1,t2,t3,t4,t5,t6,decide_true,decide_false,hm,q3]) |
               (simp only [xas,xaC,xal,xak,xad,xan,xam,xae,xah,xag,xab,xac,xao,xaq,xar,xaa,xap,xaz,xaB,xay,xav,xaw,xau,xat,xaA,xaj,xai,wma,wbm,d1,d2,hh,w2,w3,w4,dm,e0,w5,Option.getD_some,Option.isSome_some,xaD,xaE,Int.ofNat_lt,t1,t2,t3,t4,t5,t6,decide_true,decide_false,hm,r3]) |
               (simp only [xas,xaC,xal,xak,xad,xan,xam,xae,xah,xag,xab,xac,xao,xaq,xar,xaa,xap,xaz,xaB,xay,xav,xaw,xau,xat,xaA,xaj,xai,wma,wbm,d1,d2,hh,w2,w3,w4,dm,e0,w5,Option.getD_some,Option.isSome_some,xaD,xaE,Int.ofNat_lt,t1,t2,t3,t4,t5,t6,decide_true,decide_false,hm]))
           · rw [hlo,hhi] at e0
             have dm:decide ((m:Int)>(mid:Int))=false:=by simp;omega
             rcases k1 with ⟨p1,p2,p3,_⟩|⟨p1,rfl⟩<;>rcases k2 with ⟨q1,q2,q3,_⟩|⟨q1,rfl⟩<;>rcases k3 with ⟨r1,r2,r3,_⟩|⟨r1,rfl⟩ <;>
              (by_cases t1:s<m<;>by_cases t2:m<e<;>by_cases t3:a<s<;>by_cases t4:s<mid<;>by_cases t5:mid<e<;>by_cases t6:e<b<;>first|(exfalso;omega) |
               (simp only [xas,xaC,xal,xak,xad,xan,xam,xae,xah,xag,xab,xac,xao,xaq,xar,xaa,xap,xaz,xaB,xay,xav,xaw,xau,xat,xaA,xaj,xai,wma,wbm,d1,d2,hh,w2,w3,dm,e0,w5,Option.getD_some,Option.isSome_some,xaD,xaE,Int.ofNat_lt,t1,t2,t3,t4,t5,t6,decide_true,decide_false,hm,p3,q3,r3]) |
               (simp only [xas,xaC,xal,xak,xad,xan,xam,xae,xah,xag,xab,xac,xao,xaq,xar,xaa,xap,xaz,xaB,xay,xav,xaw,xau,xat,xaA,xaj,xai,wma,wbm,d1,d2,hh,w2,w3,dm,e0,w5,Option.getD_some,Option.isSome_some,xaD,xaE,Int.ofNat_lt,t1,t2,t3,t4,t5,t6,decide_true,decide_false,hm,p3,q3]) |
               (simp only [xas,xaC,xal,xak,xad,xan,xam,xae,xah,xag,xab,xac,xao,xaq,xar,xaa,xap,xaz,xaB,xay,xav,xaw,xau,xat,xaA,xaj,xai,wma,wbm,d1,d2,hh,w2,w3,dm,e0,w5,Option.getD_some,Option.isSome_some,xaD,xaE,Int.ofNat_lt,t1,t2,t3,t4,t5,t6,decide_true,decide_false,hm,p3,r3]) |
               (simp only [xas,xaC,xal,xak,xad,xan,xam,xae,xah,xag,xab,xac,xao,xaq,xar,xaa,xap,xaz,xaB,xay,xav,xaw,xau,xat,xaA,xaj,xai,wma,wbm,d1,d2,hh,w2,w3,dm,e0,w5,Option.getD_some,Option.isSome_some,xaD,xaE,Int.ofNat_lt,t1,t2,t3,t4,t5,t6,decide_true,decide_false,hm,q3,r3]) |
               (simp only [xas,xaC,xal,xak,xad,xan,xam,xae,xah,xag,xab,xac,xao,xaq,xar,xaa,xap,xaz,xaB,xay,xav,xaw,xau,xat,xaA,xaj,xai,wma,wbm,d1,d2,hh,w2,w3,dm,e0,w5,Option.getD_some,Option.isSome_some,xaD,xaE,Int.ofNat_lt,t1,t2,t3,t4,t5,t6,decide_true,decide_false,hm,p3]) |
               (simp only [xas,xaC,xal,xak,xad,xan,xam,xae,xah,xag,xab,xac,xao,xaq,xar,xaa,xap,xaz,xaB,xay,xav,xaw,xau,xat,xaA,xaj,xai,wma,wbm,d1,d2,hh,w2,w3,dm,e0,w5,Option.getD_some,Option.isSome_some,xaD,xaE,Int.ofNat_lt,t1,t2,t3,t4,t5,t6,decide_true,decide_false,hm,q3]) |
               (simp only [xas,xaC,xal,xak,xad,xan,xam,xae,xah,xag,xab,xac,xao,xaq,xar,xaa,xap,xaz,xaB,xay,xav,xaw,xau,xat,xaA,xaj,xai,wma,wbm,d1,d2,hh,w2,w3,dm,e0,w5,Option.getD_some,Option.isSome_some,xaD,xaE,Int.ofNat_lt,t1,t2,t3,t4,t5,t6,decide_true,decide_false,hm,r3]) |
               (simp only [xas,xaC,xal,xak,xad,xan,xam,xae,xah,xag,xab,xac,xao,xaq,xar,xaa,xap,xaz,xaB,xay,xav,xaw,xau,xat,xaA,xaj,xai,wma,wbm,d1,d2,hh,w2,w3,dm,e0,w5,Option.getD_some,Option.isSome_some,xaD,xaE,Int.ofNat_lt,t1,t2,t3,t4,t5,t6,decide_true,decide_false,hm]))
         · rcases k3 with k|k
           · exact k.2.2.2
           · rw [k.2];exact hl2
theorem xHn {l r:List Grp} (hl:LOk N ok l) (hr:stable c 1000 N l=some r):xcd N N (List.map encG l)=some (List.map encG r)∧LOk N ok r:=by
 unfold stable at hr
 cases h1:Iter (stIns c N) (0,20,l) with
 | none=>rw [h1] at hr;simp at hr
 | some p =>
  obtain ⟨a,l1⟩:=p
  rw [h1] at hr
  dsimp only at hr
  obtain ⟨e1,ha,_,hl1⟩:=xAT (enc:=encG) hN (ok:=ok) 20 (by omega) (p:=stIns c N) (F:=fun a b l=>insSort c a b l) (fun a b l l' h e=>by simp only [stIns,h,if_true,e]) (fun a b l h e=>by simp only [stIns,h,if_true,e]) (fun a b l h=>by simp only [stIns,h,if_false]) (G:=fun a b xs=>xaT N a b xs) (fun a b l r hab _ hb hl hr=>xHS hN hc a b (by omega) hb hl hr) (g:=xa4 N N 20) (fun a b xs=>rfl) (a:=0) hl h1 (by omega)
  cases h2:insSort c a N l1 with
  | none=>rw [h2] at hr;simp at hr
  | some l2 =>
   rw [h2] at hr
   dsimp only at hr
   obtain ⟨e2,hl2⟩:=xHS hN hc a N ha (Nat.le_refl _) hl1 h2
   have e3:Iter (xaP N N) (((20:Nat):Int),List.map encG l2)=some (List.map encG r)∧LOk N ok r:=by
    refine xic (I:=fun s=>1≤s.1∧LOk N ok s.2) (J:=LOk N ok) (e:=fun (s:Nat×List Grp)=>((s.1:Int),List.map encG s.2)) (f:=List.map encG) ?_ (s:=(20,l2)) ⟨by omega,hl2⟩ hr
    rintro ⟨bs,l⟩ ⟨hb,hl⟩
    dsimp only at hb hl
    by_cases h:bs<N
    · have wb:IntKind.i64.wrap (2*(bs:Int))=((2*bs:Nat):Int):=w64 (by omega) (by omega)
      have wb':IntKind.i64.wrap ((bs:Int)*2)=((bs*2:Nat):Int):=w64 (by omega) (by omega)
      cases h3:Iter (stMrgIn c 1000 bs N) (0,2*bs,l) with
      | none=>exact xfk (by simp [stMrg,h,h3])
      | some p =>
       obtain ⟨a,l3⟩:=p
       obtain ⟨f1,f2,f3,f4⟩:=xAT (enc:=encG) hN (ok:=ok) (2*bs) (by omega) (p:=stMrgIn c 1000 bs N) (F:=fun a b l=>symM c 1000 a (a+bs) b l) (fun a b l l' h e=>by simp only [stMrgIn,h,if_true,e]) (fun a b l h e=>by simp only [stMrgIn,h,if_true,e]) (fun a b l h=>by simp only [stMrgIn,h,if_false]) (G:=fun a b xs=>xaN 1000 N a (IntKind.i64.wrap (a+(bs:Int))) b xs) (fun a b l r hab hb2 hbN hl hr=>by
        have:=xHK hN hc 1000 a (a+bs) b l r (by omega) (by omega) hbN hl hr
        rw [w64 (x:=(a:Int)+(bs:Int)) (n:=a+bs) (by omega) (by omega)]
        exact this) (g:=xbm N N bs) (fun a b xs=>by rw [←wb];rfl) (a:=0) hl (by rw [Nat.zero_add];exact h3) (by omega)
       rw [Nat.zero_add,←wb] at f1
       have f1':Iter (xbm N N bs) ((0:Int),IntKind.i64.wrap (2*(bs:Int)),List.map encG l)=some ((a:Int),List.map encG l3):=f1
       have wab:IntKind.i64.wrap ((a:Int)+(bs:Int))=((a+bs:Nat):Int):=w64 (by omega) (by omega)
       by_cases h4:a+bs<N
       · cases h5:symM c 1000 a (a+bs) N l3 with
         | none=>exact xfk (by simp [stMrg,h,h3,h4,h5])
         | some l4 =>
          obtain ⟨f5,f6⟩:=xHK hN hc 1000 a (a+bs) N l3 l4 (by omega) h4 (Nat.le_refl _) f4 h5
          refine xlC (s0:=(bs*2,l4)) (by simp [stMrg,h,h3,h4,h5]) ?_ ⟨by dsimp only;omega,f6⟩
          have q1:(bs:Int)<(N:Int):=by omega
          have q2:((a+bs:Nat):Int)<(N:Int):=by omega
          simp only [xaP,xco,xd2,xed,xdx,xd5,xd9,xd1,f1',q1,q2,decide_true,xaD,Option.isSome_some,Option.getD_some,wab,f5,wb']
       · refine xlC (s0:=(bs*2,l3)) (by simp [stMrg,h,h3,h4]) ?_ ⟨by dsimp only;omega,f4⟩
         have q1:(bs:Int)<(N:Int):=by omega
         have q2:¬ ((a+bs:Nat):Int)<(N:Int):=by omega
         simp only [xaP,xco,xd2,xed,xdx,xd5,xd9,xd1,f1',q1,q2,decide_true,decide_false,xaD,xaE,Option.isSome_some,Option.getD_some,wab,wb']
    · refine xlm (r0:=l) (by simp [stMrg,h]) ?_ hl
      have q1:¬ (bs:Int)<(N:Int):=by omega
      simp only [xaP,xco,q1,decide_false,xaE]
   have e1':Iter (xa4 N N 20) ((0:Int),(20:Int),List.map encG l)=some ((a:Int),List.map encG l1):=e1
   have e3':Iter (xaP N N) ((20:Int),List.map encG l2)=some (List.map encG r):=e3.1
   refine ⟨?_,e3.2⟩
   simp only [xcd,xe9,xgR,xgY,xgx,e1',e2,e3',Option.isSome_some,Option.getD_some,xaD]
end
theorem xJA {N:Nat} (hN:N*48≤140737488355328) {ok:Grp→Prop} {c:Grp→Grp→Int} (hc:∀ x y:Grp,ok x→ok y→cmpPG (encG x) (encG y)=true∧cmpVG (encG x) (encG y)=c x y) (l r:List Grp) (hl:l.length=N) (ho:∀ x,x∈l→ok x) (hr:stable c 1000 N l=some r) :
  xcB N (List.map encG l)=some (List.map encG r):=by
 obtain ⟨e1,e2⟩:=xHn (N:=N) (by omega) (ok:=ok) hc ⟨hl,ho⟩ hr
 simp only [xcB,xex,e1,Option.isSome_some,Option.getD_some,xaD]
end Go.Sim.M
end
noncomputable section
set_option maxRecDepth 100000
namespace Go.Sim.M
open Go.RowKit Go.Sim.Srt
def ents:Nat→List Row→List AV
 | _,[]=>[]
 | k,r::R=>.agg [.str (keyOf r),.int .i64 (k:Int)]::ents (k+1) R
theorem xCT:∀ (R:List Row) (k:Nat) (r:Row),mapIx (ents k R) (keyOf r)=R.findIdx? fun x=>decide (x=r)
 | [],_,_=>rfl
 | x::R,k,r=>by
  have hk:isKey (keyOf r) (((AV.agg [.str (keyOf x),.int .i64 (k:Int)]).cells).getD 0 .top)=decide (x=r):=by
   show (keyOf x==keyOf r)=_
   by_cases h:x=r
   · subst h;simp
   · have:¬ keyOf x=keyOf r:=fun e=>h (xCO e)
     simp [h,this]
  show (match isKey (keyOf r) (((AV.agg [.str (keyOf x),.int .i64 (k:Int)]).cells).getD 0 .top) with|true=>some 0|false=>(mapIx (ents (k+1) R) (keyOf r)).map (·+1))=_
  rw [hk,List.findIdx?_cons,xCT R (k+1) r]
  by_cases h:x=r<;>simp [h]
theorem xAE:∀ (R:List Row) (k:Nat),(ents k R).length=R.length
 | [],_=>rfl
 | _::R,k=>by show (ents (k+1) R).length+1=_;rw [xAE R];rfl
theorem xze:∀ (R:List Row) (k:Nat) (r:Row),ents k (R++[r])=ents k R++[.agg [.str (keyOf r),.int .i64 ((k+R.length:Nat):Int)]]
 | [],_,_=>rfl
 | x::R,k,r=>by
  show _::ents (k+1) (R++[r])=_
  rw [xze R (k+1) r,List.length_cons,show k+1+R.length=k+(R.length+1) by omega];rfl
theorem xA2:∀ (R:List Row) (k j:Nat) (h:j<R.length),(ents k R).getD j .top=.agg [.str (keyOf R[j]),.int .i64 ((k+j:Nat):Int)]
 | x::R,k,0,h=>rfl
 | x::R,k,j+1,h=>by
  show (ents (k+1) R).getD j .top=_
  rw [xA2 R (k+1) j (by simpa using h),show k+1+j=k+(j+1) by omega];rfl
def upd (G:List Grp) (f:Fc):List Grp:=match (G.map (·.1)).findIdx? fun x=>decide (x=f.r) with
 | some j=>G.set j (f.r,(G.getD j ([],[])).2++[f.p])
 | none=>G++[(f.r,[f.p])]
structure GI (l:List Fc) (G:List Grp):Prop where
 nd:(G.map (·.1)).Nodup
 mem:∀ r,r∈G.map (·.1)↔∃ f,f∈l∧f.r=r∧pv f.p=true
 ps:∀ g,g∈G→g.2=psOf l g.1
 len:G.length≤l.length
theorem GI.nil:GI [] []:=⟨List.nodup_nil,fun r=>by simp,fun g hg=>by simp at hg,Nat.le_refl _⟩
theorem xrt (l:List Fc) (f:Fc) (r:Row):psOf (l++[f]) r=psOf l r++(if f.r=r∧pv f.p=true then [f.p] else []):=by
 unfold psOf
 rw [List.filter_append,List.map_append]
 congr 1
 by_cases h1:f.r=r<;>by_cases h2:pv f.p=true<;>simp [h1,h2]
theorem GI.skip {l:List Fc} {G:List Grp} (h:GI l G) {f:Fc} (hf:pv f.p=false):GI (l++[f]) G :=
 ⟨h.nd,fun r=>by
  rw [h.mem]
  refine ⟨fun ⟨g,hg,e⟩=>⟨g,by simp [hg],e⟩,fun ⟨g,hg,e1,e2⟩=>⟨g,?_,e1,e2⟩⟩
  rcases List.mem_append.1 hg with hg|hg
  · exact hg
  · rw [List.mem_singleton] at hg;subst hg;rw [hf] at e2;simp at e2,fun g hg=>by rw [xrt,if_neg (by rw [hf];simp),List.append_nil];exact h.ps g hg,by rw [List.length_append];have:=h.len;omega⟩
theorem xte {R:List Row} {r:Row} {j:Nat} (h:R.findIdx? (fun x=>decide (x=r))=some j):∃ hj:j<R.length,R[j]=r:=by
 obtain ⟨hj,h1,_⟩:=List.findIdx?_eq_some_iff_getElem.1 h
 exact ⟨hj,by simpa using h1⟩
theorem xAx {R:List Row} {r:Row} (h:R.findIdx? (fun x=>decide (x=r))=none):r∉R:=fun hr=>by
 have:=List.findIdx?_eq_none_iff.1 h r hr
 simp at this
theorem xyC {G:List Grp} {j:Nat} (hj:j<G.length) {ps:List Per} {r:Row} (hr:G[j].1=r):(G.set j (r,ps)).map (·.1)=G.map (·.1):=by
 rw [List.map_set]
 show (G.map (·.1)).set j r=_
 rw [←hr]
 have:(G.map (·.1))[j]'(by simpa using hj)=G[j].1:=by simp
 rw [←this]
 exact List.set_getElem_self _
theorem GI.upd {l:List Fc} {G:List Grp} (h:GI l G) {f:Fc} (hf:pv f.p=true):GI (l++[f]) (M.upd G f):=by
 unfold M.upd
 cases hi:(G.map (·.1)).findIdx? fun x=>decide (x=f.r) with
 | some j =>
  obtain ⟨hj,hr⟩:=xte hi
  rw [List.length_map] at hj
  rw [List.getElem_map] at hr
  dsimp only
  have gd:G.getD j ([],[])=G[j]:=by rw [List.getD_eq_getElem?_getD,List.getElem?_eq_getElem hj];rfl
  rw [gd]
  refine ⟨by rw [xyC hj hr];exact h.nd,fun r=>?_,fun g hg=>?_,by rw [List.length_set,List.length_append];have:=h.len;omega⟩
  · rw [xyC hj hr,h.mem]
    refine ⟨fun ⟨g,hg,e⟩=>⟨g,by simp [hg],e⟩,fun ⟨g,hg,e1,e2⟩=>?_⟩
    rcases List.mem_append.1 hg with hg|hg
    · exact ⟨g,hg,e1,e2⟩
    · rw [List.mem_singleton] at hg;subst hg
      refine (h.mem r).1 ?_
      rw [←e1,←hr]
      exact List.mem_map.2 ⟨G[j],List.getElem_mem hj,rfl⟩
  · obtain ⟨i,hi2,rfl⟩:=List.mem_iff_getElem.1 hg
    rw [List.length_set] at hi2
    rw [List.getElem_set]
    by_cases hij:j=i
    · subst hij
      rw [if_pos rfl,xrt,if_pos ⟨rfl,hf⟩,h.ps _ (List.getElem_mem hj),hr]
    · rw [if_neg hij,xrt,if_neg ?_,List.append_nil]
      · exact h.ps _ (List.getElem_mem hi2)
      · rintro ⟨e,_⟩
        have hn:=List.pairwise_iff_getElem.1 h.nd
        have ei:(G.map (·.1))[i]'(by simpa using hi2)=G[i].1:=by simp
        have ej:(G.map (·.1))[j]'(by simpa using hj)=G[j].1:=by simp
        rcases Nat.lt_or_gt_of_ne hij with hlt|hlt
        · exact hn j i (by simpa using hj) (by simpa using hi2) hlt (by rw [ei,ej,hr,e])
        · exact hn i j (by simpa using hi2) (by simpa using hj) hlt (by rw [ei,ej,hr,e])
 | none =>
  have hr:=xAx hi
  dsimp only
  have hz:psOf l f.r=[]:=by
   unfold psOf
   rw [List.map_eq_nil_iff,List.filter_eq_nil_iff]
   intro g hg he
   simp only [Bool.and_eq_true,decide_eq_true_eq] at he
   exact hr ((h.mem _).2 ⟨g,hg,he⟩)
  refine ⟨?_,fun r=>?_,fun g hg=>?_,by rw [List.length_append,List.length_append];have:=h.len;simp;omega⟩
  · rw [List.map_append]
    refine List.nodup_append.2 ⟨h.nd,by simp,fun a ha b hb e=>?_⟩
    simp at hb
    exact hr (by rw [←hb,←e];exact ha)
  · rw [List.map_append,List.mem_append,h.mem]
    simp only [List.map_cons,List.map_nil,List.mem_singleton,List.mem_append]
    constructor
    · rintro (⟨g,hg,e⟩|rfl)
      · exact ⟨g,.inl hg,e⟩
      · exact ⟨f,.inr rfl,rfl,hf⟩
    · rintro ⟨g,hg|rfl,e⟩
      · exact .inl ⟨g,hg,e⟩
      · exact .inr e.1.symm
  · rcases List.mem_append.1 hg with hg|hg
    · rw [xrt,if_neg ?_,List.append_nil]
      · exact h.ps g hg
      · rintro ⟨e,_⟩
        exact hr (by rw [e];exact List.mem_map.2 ⟨g,hg,rfl⟩)
    · rw [List.mem_singleton] at hg
      subst hg
      rw [xrt,if_pos ⟨rfl,hf⟩,hz];rfl
theorem cG0 (g:Grp):((encG g).cells.getD 0 .top).toList=g.1.map encV:=rfl
theorem xEm {α:Type} (l:List α) (x d:α):(l++[x]).getD l.length d=x:=by simp
theorem xG1 {α:Type} (l:List α) (x y:α):(l++[x]).set l.length y=l++[y]:=by simp
theorem cellsA (xs:List AV):(AV.agg xs).cells=xs:=rfl
theorem tolA (n:Nat) (xs:List AV):(AV.list n xs).toList=xs:=rfl
theorem tointA (k:IntKind) (n:Int):(AV.int k n).toInt=n:=rfl
theorem isRowA (xs:List AV):isRow 2 (.list 2 xs)=true:=rfl
theorem deadA (n m:Nat):deadLt (.int .i64 (n:Int)) m=decide (n<m):=rfl
theorem dead0:deadLt (.int .i64 0) 1=true:=rfl
theorem g2a (a b:AV):[a,b].getD 0 .top=a:=rfl
theorem g2b (a b:AV):[a,b].getD 1 .top=b:=rfl
theorem lt2 (a b:AV):([a,b].length==2)=true:=rfl
theorem tk1 (a b:AV):List.take 1 [a,b]=[a]:=rfl
theorem dp2 (a b:AV):List.drop 2 [a,b]=[]:=rfl
theorem xC8 (g:Grp):encG g=.agg [.list 3 (g.1.map encV),.list 2 (g.2.map encP)]:=rfl
theorem xCU (p:Per):encP p=.agg [.int .i64 p.1,.int .i64 p.2]:=rfl
def Keyed (l:List Fc):Prop:=Few l∧∀ f,f∈l→(∀ v,v∈f.r→KOk v)∧(keyOf f.r).length≤17592186044416
theorem Keyed.key {l:List Fc} (h:Keyed l) {f:Fc} (hf:f∈l):xfb (f.r.map encV)=some (keyOf f.r):=xI9 f.r (h.1.2 f hf) (h.2 f hf).1 (h.2 f hf).2
theorem xGr (l:List Fc) (h:Keyed l) (k:Nat) (hk:k<l.length) (G:List Grp) (hG:GI (l.take k) G) :
  xbg (l.map encF) ((l.length:Nat):Int) (G.length,(k:Int),ents 0 (G.map (·.1)),G.map encG) =
   some (.inl ((if pv l[k].p=true then upd G l[k] else G).length,((k+1:Nat):Int),ents 0 ((if pv l[k].p=true then upd G l[k] else G).map (·.1)),(if pv l[k].p=true then upd G l[k] else G).map encG)):=by
 have hl:=h.1.1
 have i1:(k:Int)<(l.length:Int):=by omega
 have gf:(l.map encF).getD k .top=encF l[k]:=xaW _ _ _ hk
 have ek:=h.key (List.getElem_mem hk)
 have kl:=(h.2 _ (List.getElem_mem hk)).2
 have hGl:=hG.len
 rw [List.length_take] at hGl
 cases hv:pv l[k].p with
 | false =>
  simp only [xbg,xdP,List.length_map,xaD,xaE,decide_true,decide_false,Bool.and_true,Bool.true_and,Bool.not_true,Bool.not_false,Int.toNat_natCast,Int.natCast_nonneg,Option.isSome_some,Option.getD_some,beq_self_eq_true,Nat.zero_add,Nat.sub_zero,i1,hk,gf,cF0,cF1,cF2,sF0,sF1,sF2,lF,sF12,sF02,xl8,hv,wrapS (n:=k) (by omega)]
  rfl
 | true =>
  have k1:(keyOf l[k].r).length≤4611686018427387904:=by omega
  have hx:=xCT (G.map (·.1)) 0 l[k].r
  have n1:(ents 0 (G.map (·.1))).length<4611686018427387904:=by rw [xAE,List.length_map];omega
  have m1:(G.length+1)*48≤140737488355328:=by omega
  have m2:G.length+1≤4611686018427387904:=by omega
  simp only [if_true]
  cases hi:(G.map (·.1)).findIdx? fun x=>decide (x=l[k].r) with
  | none =>
   rw [hi] at hx
   have hu:upd G l[k]=G++[(l[k].r,[l[k].p])]:=by unfold upd;rw [hi]
   have hh:mapHas (ents 0 (G.map (·.1))) (keyOf l[k].r)=false:=by unfold mapHas;rw [hx];rfl
   have hg:mapGet (AV.int .i64 0) (ents 0 (G.map (·.1))) (keyOf l[k].r)=AV.int .i64 0:=by unfold mapGet;rw [hx]
   have hp:mapPut (ents 0 (G.map (·.1))) (keyOf l[k].r) (AV.int .i64 (G.length:Int))=ents 0 ((G++[(l[k].r,[l[k].p])]).map (·.1)):=by
    unfold mapPut;rw [hx,List.map_append]
    show _=ents 0 (G.map (·.1)++[l[k].r])
    rw [xze,List.length_map,Nat.zero_add]
   have i2:(G.length:Int)<((G.length+1:Nat):Int):=by omega
   have hs0:hasSh1 (Sh.int .i64) (AV.int .i64 0)=true:=rfl
   have gl:∀ x:AV,(G.map encG++[x]).getD G.length .top=x:=fun x=>by have:=xEm (G.map encG) x .top;rwa [List.length_map] at this
   have sl:∀ x y:AV,(G.map encG++[x]).set G.length y=G.map encG++[y]:=fun x y=>by have:=xG1 (G.map encG) x y;rwa [List.length_map] at this
   rw [hu]
   simp only [xbg,xdP,xhv,xhu,xer,xeD,xfF,xhw,xfD,xa6,xht,xa5,xbF,xaS,xe7,xgV,xgP,xcI,xgN,xe0,xc7,List.length_map,xaD,xaE,decide_true,decide_false,Bool.and_true,Bool.true_and,Bool.not_true,Bool.not_false,Int.toNat_natCast,Int.natCast_nonneg,Option.isSome_some,Option.getD_some,beq_self_eq_true,Nat.zero_add,Nat.sub_zero,i1,hk,gf,cF0,cF1,cF2,sF0,sF1,sF2,lF,sF12,sF02,xl8,hv,wrapS (n:=k) (by omega),ek,k1,hh,hg,hp,n1,m1,m2,i2,hs0,gl,sl,List.length_append,List.length_singleton,List.map_append,List.map_cons,List.map_nil,cellsA,tolA,tointA,isRowA,deadA,g2a,g2b,lt2,tk1,dp2,List.length_set,Nat.lt_succ_self,Bool.and_self,List.length_nil,Nat.zero_add,xC8,xCU,List.singleton_append,List.nil_append,List.append_nil,Int.natCast_zero]
   try simp [xaD,dead0]
  | some j =>
   obtain ⟨hj,hr⟩:=xte hi
   rw [hi] at hx
   have hj2:j<G.length:=by simpa using hj
   rw [List.getElem_map] at hr
   have gd:G.getD j ([],[])=G[j]:=by rw [List.getD_eq_getElem?_getD,List.getElem?_eq_getElem hj2];rfl
   have hu:upd G l[k]=G.set j (l[k].r,G[j].2++[l[k].p]):=by unfold upd;rw [hi];dsimp only;rw [gd]
   have hh:mapHas (ents 0 (G.map (·.1))) (keyOf l[k].r)=true:=by unfold mapHas;rw [hx];rfl
   have hg:mapGet (AV.int .i64 0) (ents 0 (G.map (·.1))) (keyOf l[k].r)=AV.int .i64 (j:Int):=by
    unfold mapGet;rw [hx];dsimp only
    rw [xA2 _ _ _ hj,Nat.zero_add];rfl
   have gj:(G.map encG).getD j .top=encG G[j]:=xaW _ _ _ hj2
   have i2:(j:Int)<(G.length:Int):=by omega
   have hs0:hasSh1 (Sh.int .i64) (AV.int .i64 (j:Int))=true:=rfl
   have pl:G[j].2.length≤k:=by
    rw [hG.ps _ (List.getElem_mem hj2)]
    have:=xBo (l.take k) G[j].1
    rw [List.length_take] at this;omega
   have m3:(G[j].2.length+1)*16≤140737488355328:=by omega
   have m4:G[j].2.length+1≤4611686018427387904:=by omega
   have gs:∀ x:AV,((G.map encG).set j x).getD j .top=x:=fun x=>by
    rw [List.getD_eq_getElem?_getD,List.getElem?_set_self (by simpa using hj2)];rfl
   have ss:∀ x y:AV,((G.map encG).set j x).set j y=(G.map encG).set j y:=fun x y=>List.set_set ..
   have tj:(AV.int IntKind.i64 (j:Int)).toInt=(j:Int):=rfl
   have cj:(encG G[j]).cells=[.list 3 (l[k].r.map encV),.list 2 (G[j].2.map encP)]:=by rw [←hr];rfl
   rw [hu,xyC hj2 hr,List.length_set,List.map_set]
   simp only [xbg,xdP,xhv,xhu,xer,xeD,xfF,xhw,xfD,xa6,xht,xa5,xbF,xaS,xe7,xgV,xgP,xcI,xgN,xe0,xc7,List.length_map,xaD,xaE,decide_true,decide_false,Bool.and_true,Bool.true_and,Bool.not_true,Bool.not_false,Int.toNat_natCast,Int.natCast_nonneg,Option.isSome_some,Option.getD_some,beq_self_eq_true,Nat.zero_add,Nat.sub_zero,i1,hk,gf,cF0,cF1,cF2,sF0,sF1,sF2,lF,sF12,sF02,xl8,hv,wrapS (n:=k) (by omega),ek,k1,hh,hg,i2,hs0,tj,gj,cj,hj2,List.length_set,gs,ss,cellsA,tolA,tointA,isRowA,deadA,g2a,g2b,lt2,tk1,dp2,m3,m4,Bool.and_self,List.length_append,List.length_singleton,Nat.lt_succ_self,xC8,xCU,List.map_append,List.map_cons,List.map_nil,List.singleton_append,List.append_nil]
   try simp [xaD,dead0,hr]
def grp (l:List Fc):List Grp:=l.foldl (fun G f=>if pv f.p=true then upd G f else G) []
theorem xBk (l:List Fc) (f:Fc):grp (l++[f])=if pv f.p=true then upd (grp l) f else grp l:=by simp [grp]
theorem xFp:∀ l:List Fc,GI l.reverse (grp l.reverse)
 | []=>GI.nil
 | f::l=>by
  rw [List.reverse_cons,xBk]
  have ih:=xFp l
  cases hv:pv f.p with
  | true=>rw [if_pos rfl];exact ih.upd hv
  | false=>rw [if_neg (by simp)];exact ih.skip hv
theorem xEI (l:List Fc):GI l (grp l):=by have:=xFp l.reverse;rwa [List.reverse_reverse] at this
theorem xE2 (l:List Fc) (h:Keyed l):Iter (xbg (l.map encF) ((l.length:Nat):Int)) ((0:Nat),(0:Int),[],[])=some ((grp l).length,(grp l).map encG):=by
 refine xvU (fun k=>(((grp (l.take k)).length,((k:Nat):Int),ents 0 ((grp (l.take k)).map (·.1)),(grp (l.take k)).map encG):Nat×Int×List AV×List AV)) l.length _ (fun k hk=>?_) ?_ l.length 0 (by omega)
 · rw [xGr l h k hk (grp (l.take k)) (xEI _)]
   have tk:l.take (k+1)=l.take k++[l[k]]:=by rw [List.take_add_one,List.getElem?_eq_getElem hk];rfl
   rw [tk,xBk]
 · simp only [xbg,xdP,List.length_map,Int.lt_irrefl,decide_false,xaE,List.take_length]
theorem xIS (x y:Grp) (hx:x.1.length≤4398046511104):cmpPG (encG x) (encG y)=true∧cmpVG (encG x) (encG y)=cmpR x.1 y.1:=by
 have e:xci (x.1.map encV) (x.2.map encP) (y.1.map encV) (y.2.map encP)=some (cmpR x.1 y.1):=by
  unfold xci xjk
  rw [xEL x.1 y.1 (by unfold maxLen;omega)];rfl
 have e2:xci ((encG x).cells.getD 0 .top).toList ((encG x).cells.getD 1 .top).toList ((encG y).cells.getD 0 .top).toList ((encG y).cells.getD 1 .top).toList=some (cmpR x.1 y.1):=e
 unfold cmpPG cmpVG
 rw [e2]
 exact ⟨rfl,rfl⟩
theorem xCz (l:List Fc) (h:Keyed l):∃ S:List Grp,xcR (l.map encF)=some (S.map encG)∧IsRows l (S.map (·.1))∧(∀ g,g∈S→g.2=psOf l g.1)∧S.length≤l.length:=by
 have hg:=xEI l
 have hll:=h.1.1
 have hgl:=hg.len
 have cG:Cm fun x y:Grp=>cmpR x.1 y.1:=xBN.on (e:=fun x:Grp=>x.1)
 obtain ⟨r,e,p,s⟩:=(fun F (hF:20≤F)=>xBS cG.ord F (grp l).length (xIm (Nat.le_trans hgl hll) hF) (grp l) rfl) 1000 (by decide)
 have es:=xJA (N:=(grp l).length) (by omega) (ok:=fun g=>g.1.length≤1048576) (c:=fun x y:Grp=>cmpR x.1 y.1) (fun x y hx hy=>xIS x y (by omega)) (grp l) r rfl (fun g hgm=>by
  obtain ⟨f,hf,e,_⟩:=(hg.mem g.1).1 (List.mem_map.2 ⟨g,hgm,rfl⟩)
  rw [←e];exact h.1.2 f hf) e
 have rl:=p.length_eq
 refine ⟨r,?_,⟨?_,fun x=>?_⟩,fun g hgm=>hg.ps g (p.mem_iff.1 hgm),by rw [rl];exact hgl⟩
 · have el:=xE2 l h
   have ra:rowsAll 2 1 ((grp l).map encG)=true:=by
    unfold rowsAll
    rw [List.all_eq_true]
    intro x hx
    obtain ⟨g,_,rfl⟩:=List.mem_map.1 hx
    rfl
   have ll:(grp l).length≤r.length:=by omega
   have tt:List.take (grp l).length (r.map encG)=r.map encG:=List.take_of_length_le (by rw [List.length_map];omega)
   unfold xcR xjP xlT xl1 xjm xlx xl5 xl4
   simp only [List.length_map,el,Option.isSome_some,Option.getD_some,xaD,ra,es,Nat.zero_add,ll,decide_true,Bool.and_true,List.drop_zero,tt]
 · refine xFh (fun _ _=>xqj) ?_ ?_
   · exact List.pairwise_map.2 s
   · exact ((p.map (·.1)).nodup_iff).2 hg.nd
 · rw [(p.map (·.1)).mem_iff];exact hg.mem x
end Go.Sim.M
end
noncomputable section
set_option maxRecDepth 100000
namespace Go.Sim.M
open Go.RowKit Go.Lib
noncomputable def xn9 (l:List AV) (i:Int):Bool:=decide ((0:Int)≤i)&&decide (i<(↑l.length:Int))
noncomputable def xsp {T:Type} (l:List AV) (out_n:Nat) (at0:Int) (na:Int) (nb:Int) (i:Int) (out_xs:List AV) (δ:T) (κl:(Int×Int×Int×List AV)→T) (κr:(Int×Int×Int×List AV)→T):T:=br (decide (i<(↑l.length:Int))) (br (xn9 l i) (br (decide (i.toNat<l.length)&&hasSh1 (Sh.int IntKind.i64) ((l.getD i.toNat AV.top).cells.getD (0:Nat) AV.top)) (br (((l.getD i.toNat AV.top).cells.getD (0:Nat) AV.top).toInt==at0) (br (xn9 l i) (br (decide (i.toNat<l.length)&&hasSh1 (Sh.int IntKind.i64) ((l.getD i.toNat AV.top).cells.getD (1:Nat) AV.top)) (br (xn9 l i) (br (decide (i.toNat<l.length)&&hasSh1 (Sh.int IntKind.i64) ((l.getD i.toNat AV.top).cells.getD (2:Nat) AV.top)) (κl (IntKind.i64.wrap (na+((l.getD i.toNat AV.top).cells.getD (1:Nat) AV.top).toInt),IntKind.i64.wrap (nb+((l.getD i.toNat AV.top).cells.getD (2:Nat) AV.top).toInt),IntKind.i64.wrap (i+(1:Int)),out_xs)) (δ)) (δ)) (δ)) (δ)) (κr (na,nb,i,out_xs))) (δ)) (δ)) (κr (na,nb,i,out_xs))
noncomputable def xiC (l:List AV) (out_n:Nat) (at0:Int):(Int×Int×Int×List AV)→Option ((Int×Int×Int×List AV)⊕(Int×Int×Int×List AV)):=fun (na,nb,i,out_xs)=>xsp l out_n at0 na nb i out_xs none (fun s=>some (.inl s)) (fun p=>some (.inr p))
noncomputable def xl7 (keep:Bool→Bool→Bool) (out_n:Nat):Bool:=decide ((0:Int)≤IntKind.i64.wrap ((↑out_n:Int) - (1:Int)))&&decide (IntKind.i64.wrap ((↑out_n:Int) - (1:Int))<(↑out_n:Int))
noncomputable def xo7 (keep:Bool→Bool→Bool) (l:List AV) (out_n:Nat) (na:Int) (nb:Int) (i:Int) (at0:Int) (out_xs:List AV):Int×Int×Int×List AV:=(Iter (xiC l out_n at0) (na,nb,i,out_xs)).getD ((0:Int),(0:Int),(0:Int),[])
noncomputable def xds (keep:Bool→Bool→Bool) (out_n:Nat):Nat:=(0:Nat)+(IntKind.i64.wrap ((↑out_n:Int) - (1:Int))).toNat
noncomputable def xqh (keep:Bool→Bool→Bool) (l:List AV) (out_n:Nat) (na:Int) (nb:Int) (i:Int) (at0:Int) (out_xs:List AV):Int×Int×List AV:=(xo7 keep l out_n na nb i at0 out_xs).snd
noncomputable def xf7 (keep:Bool→Bool→Bool) (l:List AV) (out_n:Nat) (na:Int) (nb:Int) (i:Int) (at0:Int) (out_xs:List AV):Int:=(xo7 keep l out_n na nb i at0 out_xs).fst
noncomputable def xqz (keep:Bool→Bool→Bool) (l:List AV) (out_n:Nat) (na:Int) (nb:Int) (i:Int) (at0:Int) (out_xs:List AV):Int×List AV:=(xqh keep l out_n na nb i at0 out_xs).snd
noncomputable def xf5 (keep:Bool→Bool→Bool) (l:List AV) (out_n:Nat) (na:Int) (nb:Int) (i:Int) (at0:Int) (out_xs:List AV):Int:=(xqh keep l out_n na nb i at0 out_xs).fst
noncomputable def xbL (keep:Bool→Bool→Bool) (l:List AV) (out_n:Nat) (na:Int) (nb:Int) (i:Int) (at0:Int) (out_xs:List AV):List AV:=(xqz keep l out_n na nb i at0 out_xs).snd
noncomputable def xqq (keep:Bool→Bool→Bool) (l:List AV) (out_n:Nat) (na:Int) (nb:Int) (i:Int) (at0:Int) (out_xs:List AV):Bool:=keep (decide (xf7 keep l out_n na nb i at0 out_xs>(0:Int))) (decide (xf5 keep l out_n na nb i at0 out_xs>(0:Int)))
noncomputable def xcf (keep:Bool→Bool→Bool) (l:List AV) (out_n:Nat) (na:Int) (nb:Int) (i:Int) (at0:Int) (out_xs:List AV):Int:=(xqz keep l out_n na nb i at0 out_xs).fst
noncomputable def xmg (keep:Bool→Bool→Bool) (l:List AV) (out_n:Nat) (na:Int) (nb:Int) (i:Int) (at0:Int) (out_xs:List AV):Bool:=decide (xds keep out_n<(xbL keep l out_n na nb i at0 out_xs).length)
noncomputable def xqf (keep:Bool→Bool→Bool) (l:List AV) (out_n:Nat) (na:Int) (nb:Int) (i:Int) (at0:Int) (out_xs:List AV):Bool:=decide (xcf keep l out_n na nb i at0 out_xs<(↑l.length:Int))
noncomputable def xnH {T:Type} (keep:Bool→Bool→Bool) (l:List AV) (out_n:Nat) (na:Int) (nb:Int) (i:Int) (at0:Int) (out_xs:List AV) (δ:T) (κl:(Nat×Int×Int×Int×Int×List AV)→T) (κr:(Nat×List AV)→T):T:=br (decide (at0<(1099511627776:Int))) (br ((Iter (xiC l out_n at0) (na,nb,i,out_xs)).isSome) (br (xqf keep l out_n na nb i at0 out_xs) (br (decide ((0:Int)≤xcf keep l out_n na nb i at0 out_xs)&&xqf keep l out_n na nb i at0 out_xs) (br (decide ((xcf keep l out_n na nb i at0 out_xs).toNat<l.length)&&hasSh1 (Sh.int IntKind.i64) ((l.getD (xcf keep l out_n na nb i at0 out_xs).toNat AV.top).cells.getD (0:Nat) AV.top)) (br (xqq keep l out_n na nb i at0 out_xs) (br (decide ((↑out_n:Int)>(0:Int))) (br (xl7 keep out_n) (br (xmg keep l out_n na nb i at0 out_xs&&hasSh1 (Sh.int IntKind.i64) (((xbL keep l out_n na nb i at0 out_xs).getD (xds keep out_n) AV.top).cells.getD (1:Nat) AV.top)) (br ((((xbL keep l out_n na nb i at0 out_xs).getD (xds keep out_n) AV.top).cells.getD (1:Nat) AV.top).toInt==at0) (br (xl7 keep out_n) (br (xmg keep l out_n na nb i at0 out_xs) (κl (out_n,xf7 keep l out_n na nb i at0 out_xs,xf5 keep l out_n na nb i at0 out_xs,xcf keep l out_n na nb i at0 out_xs,((l.getD (xcf keep l out_n na nb i at0 out_xs).toNat AV.top).cells.getD (0:Nat) AV.top).toInt,(xbL keep l out_n na nb i at0 out_xs).set (xds keep out_n) (AV.agg (List.take (1:Nat) ((xbL keep l out_n na nb i at0 out_xs).getD (xds keep out_n) AV.top).cells++[AV.int IntKind.i64 ((l.getD (xcf keep l out_n na nb i at0 out_xs).toNat AV.top).cells.getD (0:Nat) AV.top).toInt]++List.drop (2:Nat) ((xbL keep l out_n na nb i at0 out_xs).getD (xds keep out_n) AV.top).cells)))) (δ)) (δ)) (br (out_n==(xbL keep l out_n na nb i at0 out_xs).length&&(decide ((out_n+(1:Nat))*(16:Nat)≤(140737488355328:Nat))&&decide (out_n+(1:Nat)≤(4611686018427387904:Nat)))) (κl (out_n+(1:Nat),xf7 keep l out_n na nb i at0 out_xs,xf5 keep l out_n na nb i at0 out_xs,xcf keep l out_n na nb i at0 out_xs,((l.getD (xcf keep l out_n na nb i at0 out_xs).toNat AV.top).cells.getD (0:Nat) AV.top).toInt,xbL keep l out_n na nb i at0 out_xs++[AV.agg [AV.int IntKind.i64 at0,AV.int IntKind.i64 ((l.getD (xcf keep l out_n na nb i at0 out_xs).toNat AV.top).cells.getD (0:Nat) AV.top).toInt]])) (δ))) (δ)) (δ)) (br (out_n==(xbL keep l out_n na nb i at0 out_xs).length&&(decide ((out_n+(1:Nat))*(16:Nat)≤(140737488355328:Nat))&&decide (out_n+(1:Nat)≤(4611686018427387904:Nat)))) (κl (out_n+(1:Nat),xf7 keep l out_n na nb i at0 out_xs,xf5 keep l out_n na nb i at0 out_xs,xcf keep l out_n na nb i at0 out_xs,((l.getD (xcf keep l out_n na nb i at0 out_xs).toNat AV.top).cells.getD (0:Nat) AV.top).toInt,xbL keep l out_n na nb i at0 out_xs++[AV.agg [AV.int IntKind.i64 at0,AV.int IntKind.i64 ((l.getD (xcf keep l out_n na nb i at0 out_xs).toNat AV.top).cells.getD (0:Nat) AV.top).toInt]])) (δ))) (κl (out_n,xf7 keep l out_n na nb i at0 out_xs,xf5 keep l out_n na nb i at0 out_xs,xcf keep l out_n na nb i at0 out_xs,((l.getD (xcf keep l out_n na nb i at0 out_xs).toNat AV.top).cells.getD (0:Nat) AV.top).toInt,xbL keep l out_n na nb i at0 out_xs))) (δ)) (δ)) (br (xqq keep l out_n na nb i at0 out_xs) (br (decide ((↑out_n:Int)>(0:Int))) (br (xl7 keep out_n) (br (xmg keep l out_n na nb i at0 out_xs&&hasSh1 (Sh.int IntKind.i64) (((xbL keep l out_n na nb i at0 out_xs).getD (xds keep out_n) AV.top).cells.getD (1:Nat) AV.top)) (br ((((xbL keep l out_n na nb i at0 out_xs).getD (xds keep out_n) AV.top).cells.getD (1:Nat) AV.top).toInt==at0) (br (xl7 keep out_n) (br (xmg keep l out_n na nb i at0 out_xs) (κl (out_n,xf7 keep l out_n na nb i at0 out_xs,xf5 keep l out_n na nb i at0 out_xs,xcf keep l out_n na nb i at0 out_xs,(1099511627776:Int),(xbL keep l out_n na nb i at0 out_xs).set (xds keep out_n) (AV.agg (List.take (1:Nat) ((xbL keep l out_n na nb i at0 out_xs).getD (xds keep out_n) AV.top).cells++[AV.int IntKind.i64 (1099511627776:Int)]++List.drop (2:Nat) ((xbL keep l out_n na nb i at0 out_xs).getD (xds keep out_n) AV.top).cells)))) (δ)) (δ)) (br (out_n==(xbL keep l out_n na nb i at0 out_xs).length&&(decide ((out_n+(1:Nat))*(16:Nat)≤(140737488355328:Nat))&&decide (out_n+(1:Nat)≤(4611686018427387904:Nat)))) (κl (out_n+(1:Nat),xf7 keep l out_n na nb i at0 out_xs,xf5 keep l out_n na nb i at0 out_xs,xcf keep l out_n na nb i at0 out_xs,(1099511627776:Int),xbL keep l out_n na nb i at0 out_xs++[AV.agg [AV.int IntKind.i64 at0,AV.int IntKind.i64 (1099511627776:Int)]])) (δ))) (δ)) (δ)) (br (out_n==(xbL keep l out_n na nb i at0 out_xs).length&&(decide ((out_n+(1:Nat))*(16:Nat)≤(140737488355328:Nat))&&decide (out_n+(1:Nat)≤(4611686018427387904:Nat)))) (κl (out_n+(1:Nat),xf7 keep l out_n na nb i at0 out_xs,xf5 keep l out_n na nb i at0 out_xs,xcf keep l out_n na nb i at0 out_xs,(1099511627776:Int),xbL keep l out_n na nb i at0 out_xs++[AV.agg [AV.int IntKind.i64 at0,AV.int IntKind.i64 (1099511627776:Int)]])) (δ))) (κl (out_n,xf7 keep l out_n na nb i at0 out_xs,xf5 keep l out_n na nb i at0 out_xs,xcf keep l out_n na nb i at0 out_xs,(1099511627776:Int),xbL keep l out_n na nb i at0 out_xs)))) (δ)) (κr (out_n,out_xs))
noncomputable def xg2 (keep:Bool→Bool→Bool) (l:List AV):(Nat×Int×Int×Int×Int×List AV)→Option ((Nat×Int×Int×Int×Int×List AV)⊕(Nat×List AV)):=fun (out_n,na,nb,i,at0,out_xs)=>xnH keep l out_n na nb i at0 out_xs none (fun s=>some (.inl s)) (fun p=>some (.inr p))
noncomputable def xyg (keep:Bool→Bool→Bool) (a:List AV) (b:List AV):Option (Nat×List AV):=Iter (xg2 keep ((xfx a b).getD [])) ((0:Nat),(0:Int),(0:Int),(0:Int),(0:Int),[])
noncomputable def xwU (keep:Bool→Bool→Bool) (a:List AV) (b:List AV):Nat×List AV:=(xyg keep a b).getD ((0:Nat),[])
noncomputable def xye (keep:Bool→Bool→Bool) (a:List AV) (b:List AV):List AV:=(xwU keep a b).snd
noncomputable def xyh (keep:Bool→Bool→Bool) (a:List AV) (b:List AV):Nat:=(xwU keep a b).fst
noncomputable def xH5 {T:Type} (keep:Bool→Bool→Bool) (a:List AV) (b:List AV) (δ:T) (κ:List AV→T):T:=br ((xfx a b).isSome) (br ((xyg keep a b).isSome) (br (decide ((0:Nat)+xyh keep a b≤(xye keep a b).length)&&true) (κ (List.take (xyh keep a b) (List.drop (0:Nat) (xye keep a b)))) (δ)) (δ)) (δ)
noncomputable def swG (keep:Bool→Bool→Bool) (a:List AV) (b:List AV):Option (List AV):=xH5 keep a b none some
end Go.Sim.M
end
noncomputable section
set_option maxRecDepth 100000
namespace Go.Sim.M
open Go.RowKit Go.Lib Go.Sort
def encEd (e:Edg):AV:=.agg [.int .i64 e.1,.int .i64 e.2.1,.int .i64 e.2.2]
theorem xuN (x y:Int):∀ a b,edgesOf x y (a++b)=edgesOf x y a++edgesOf x y b
 | [],b=>rfl
 | p::a,b=>by
  simp only [List.cons_append,edgesOf,xuN x y a b]
  split<;>rfl
theorem xv8 (x y:Int) (l:List Per) (n:Nat) (h:n<l.length):edgesOf x y (l.take (n+1))=edgesOf x y (l.take n)++(if pv l[n]=true then [(l[n].1,x,y),(l[n].2,-x,-y)] else []):=by
 rw [List.take_add_one,List.getElem?_eq_getElem h]
 show edgesOf x y (l.take n++[l[n]])=_
 rw [xuN]
 rfl
theorem xvc (B:List AV) (l:List Per) (hl:l.length≤1073741824):∀ (k n:Nat),n+k=l.length →
  Iter (xbM B (l.map encP) ((l.length:Nat):Int)) ((edgesOf 1 0 (l.take n)).length,((n:Nat):Int),(edgesOf 1 0 (l.take n)).map encEd)=some ((edgesOf 1 0 l).length,(edgesOf 1 0 l).map encEd)
 | 0,n,hk=>by
  obtain rfl:n=l.length:=by omega
  rw [List.take_of_length_le (Nat.le_refl _)]
  refine xaK ?_
  unfold xbM
  simp only
  unfold xil
  rw [decide_eq_false (by omega:¬ ((l.length:Nat):Int)<((l.length:Nat):Int))]
  rfl
 | k+1,n,hk=>by
  have h1:n<l.length:=by omega
  have hle:=xko 1 0 (l.take n)
  have htl:(l.take n).length≤n:=by rw [List.length_take];omega
  have d1:((n:Nat):Int)<((l.length:Nat):Int):=by omega
  have d2:(0:Int)≤((n:Nat):Int):=by omega
  have d3:((edgesOf 1 0 (l.take n)).length+2)*24≤140737488355328:=by omega
  have d4:(edgesOf 1 0 (l.take n)).length+2≤4611686018427387904:=by omega
  have d5:((edgesOf 1 0 (l.take n)).length==(edgesOf 1 0 (l.take n)).length)=true:=by simp
  have gf:(l.map encP).getD n .top=encP l[n]:=xaW _ _ _ h1
  have c0:((encP l[n]).cells.getD 0 .top).toInt=l[n].1:=rfl
  have c1:((encP l[n]).cells.getD 1 .top).toInt=l[n].2:=rfl
  have sh:((encP l[n]).cells.length==(2:Nat)&&hasShs [Sh.int IntKind.i64,Sh.int IntKind.i64] (encP l[n]).cells (0:Nat))=true:=rfl
  have st:xbM B (l.map encP) ((l.length:Nat):Int) ((edgesOf 1 0 (l.take n)).length,((n:Nat):Int),(edgesOf 1 0 (l.take n)).map encEd) =
    some (.inl ((edgesOf 1 0 (l.take (n+1))).length,((n+1:Nat):Int),(edgesOf 1 0 (l.take (n+1))).map encEd)):=by
   rw [xv8 1 0 l n h1]
   unfold xbM
   simp only
   unfold xil
   rw [Int.toNat_natCast,gf,sh,c0,c1,xl8,List.length_map,List.length_map,decide_eq_true d1,decide_eq_true d2,decide_eq_true h1,decide_eq_true d3,decide_eq_true d4,d5,xps (show n+1≤maxLen by unfold maxLen;omega)]
   cases pv l[n] with
   | true=>simp only [if_true,List.length_append,List.map_append];rfl
   | false=>simp only [Bool.false_eq_true,if_false,List.append_nil];rfl
  rw [xbY st]
  exact xvc B l hl k (n+1) (by omega)
theorem xuZ (E0:List Edg) (l:List Per) (hl:l.length≤1073741824) (hE:E0.length≤2147483648):∀ (k n:Nat),n+k=l.length →
  Iter (xcH (l.map encP) ((l.length:Nat):Int)) ((E0++edgesOf 0 1 (l.take n)).length,((n:Nat):Int),(E0++edgesOf 0 1 (l.take n)).map encEd)=some ((E0++edgesOf 0 1 l).length,(E0++edgesOf 0 1 l).map encEd)
 | 0,n,hk=>by
  obtain rfl:n=l.length:=by omega
  rw [List.take_of_length_le (Nat.le_refl _)]
  refine xaK ?_
  unfold xcH
  simp only
  unfold xhZ
  rw [decide_eq_false (by omega:¬ ((l.length:Nat):Int)<((l.length:Nat):Int))]
  rfl
 | k+1,n,hk=>by
  have h1:n<l.length:=by omega
  have hle:=xko 0 1 (l.take n)
  have htl:(l.take n).length≤n:=by rw [List.length_take];omega
  have hll:(E0++edgesOf 0 1 (l.take n)).length=E0.length+(edgesOf 0 1 (l.take n)).length:=List.length_append
  have d1:((n:Nat):Int)<((l.length:Nat):Int):=by omega
  have d2:(0:Int)≤((n:Nat):Int):=by omega
  have d3:((E0++edgesOf 0 1 (l.take n)).length+2)*24≤140737488355328:=by omega
  have d4:(E0++edgesOf 0 1 (l.take n)).length+2≤4611686018427387904:=by omega
  have d5:((E0++edgesOf 0 1 (l.take n)).length==(E0++edgesOf 0 1 (l.take n)).length)=true:=by simp
  have gf:(l.map encP).getD n .top=encP l[n]:=xaW _ _ _ h1
  have c0:((encP l[n]).cells.getD 0 .top).toInt=l[n].1:=rfl
  have c1:((encP l[n]).cells.getD 1 .top).toInt=l[n].2:=rfl
  have sh:((encP l[n]).cells.length==(2:Nat)&&hasShs [Sh.int IntKind.i64,Sh.int IntKind.i64] (encP l[n]).cells (0:Nat))=true:=rfl
  have st:xcH (l.map encP) ((l.length:Nat):Int) ((E0++edgesOf 0 1 (l.take n)).length,((n:Nat):Int),(E0++edgesOf 0 1 (l.take n)).map encEd) =
    some (.inl ((E0++edgesOf 0 1 (l.take (n+1))).length,((n+1:Nat):Int),(E0++edgesOf 0 1 (l.take (n+1))).map encEd)):=by
   rw [xv8 0 1 l n h1,←List.append_assoc]
   unfold xcH
   simp only
   unfold xhZ
   rw [Int.toNat_natCast,gf,sh,c0,c1,xl8,List.length_map,List.length_map,decide_eq_true d1,decide_eq_true d2,decide_eq_true h1,decide_eq_true d3,decide_eq_true d4,d5,xps (show n+1≤maxLen by unfold maxLen;omega)]
   cases pv l[n] with
   | true=>rw [if_pos rfl,List.length_append (bs:=[(l[n].1,0,1),(l[n].2,-0,-1)]),List.map_append (l₂:=[(l[n].1,0,1),(l[n].2,-0,-1)])];rfl
   | false=>rw [if_neg (by simp),List.append_nil];rfl
  rw [xbY st]
  exact xuZ E0 l hl hE k (n+1) (by omega)
def toE (e:Edg):TyE:=(Fin.ofNat 1099511627777 e.1.toNat,e.2.1,e.2.2)
def ofE (x:TyE):Edg:=((x.1.val:Int),x.2.1,x.2.2)
theorem xIa {e:Edg} (h1:0≤e.1) (h2:e.1≤1099511627776):ofE (toE e)=e:=by
 have:e.1.toNat % 1099511627777=e.1.toNat:=Nat.mod_eq_of_lt (by omega)
 simp only [ofE,toE,Fin.ofNat,this,Int.toNat_of_nonneg h1]
theorem xID (E:List Edg) (h:∀ e,e∈E→0≤e.1∧e.1≤1099511627776):(E.map encEd).all isE=true∧∃ S:List Edg,srtE (E.map encEd)=S.map encEd∧S.Perm E∧S.Pairwise fun x y=>x.1≤y.1:=by
 refine ⟨?_,(pdqL cmpE (E.map toE)).map ofE,?_,?_,?_⟩
 · rw [List.all_eq_true]
   intro x hx
   obtain ⟨e,he,rfl⟩:=List.mem_map.1 hx
   have:=h e he
   show (decide _&&decide _)=true
   rw [decide_eq_true this.1,decide_eq_true this.2];rfl
 · unfold srtE
   have e1:(E.map encEd).map decE=E.map toE:=by rw [List.map_map];rfl
   rw [e1,List.map_map];rfl
 · have hp:=((xja cmpE swoE (E.map toE)).1).map ofE
   have e2:(E.map toE).map ofE=E:=by
    rw [List.map_map]
    conv=>rhs;rw [←List.map_id E]
    refine List.map_congr_left fun e he=>?_
    exact xIa (h e he).1 (h e he).2
   rwa [e2] at hp
 · rw [List.pairwise_map]
   refine (xqX cmpE swoE (E.map toE)).imp fun {x y} hxy=>?_
   show ((x.1.val:Nat):Int)≤((y.1.val:Nat):Int)
   unfold cmpE at hxy
   omega
theorem xHw (a b:List Per) (ha:a.length≤1073741824) (hb:b.length≤1073741824) :
  ∃ S:List Edg,xfx (a.map encP) (b.map encP)=some (S.map encEd)∧S.Perm (edgesOf 1 0 a++edgesOf 0 1 b)∧S.Pairwise fun x y=>x.1≤y.1:=by
 have l1:=xko 1 0 a
 have l2:=xko 0 1 b
 have hll:(edgesOf 1 0 a++edgesOf 0 1 b).length=(edgesOf 1 0 a).length+(edgesOf 0 1 b).length:=List.length_append
 obtain ⟨hall,S,hS,hp,hs⟩:=xID (edgesOf 1 0 a++edgesOf 0 1 b) (fun e he=>by
  rcases List.mem_append.1 he with he|he
  · exact xmi 1 0 a e he
  · exact xmi 0 1 b e he)
 refine ⟨S,?_,hp,hs⟩
 have h0:=xvc (b.map encP) a ha a.length 0 (by omega)
 rw [List.take_zero] at h0
 have h1:=xuZ (edgesOf 1 0 a) b hb (by omega) b.length 0 (by omega)
 rw [List.take_zero] at h1
 have h0:Iter (xbM (b.map encP) (a.map encP) (((a.map encP).length:Nat):Int)) (0,0,[])=some ((edgesOf 1 0 a).length,(edgesOf 1 0 a).map encEd):=by rw [List.length_map];exact h0
 have v4:xlG (a.map encP) (b.map encP)=((edgesOf 1 0 a).length,(edgesOf 1 0 a).map encEd):=by unfold xlG;rw [h0];rfl
 have v3:xlP (a.map encP) (b.map encP)=some ((edgesOf 1 0 a++edgesOf 0 1 b).length,(edgesOf 1 0 a++edgesOf 0 1 b).map encEd):=by
  unfold xlP;rw [v4,List.length_map]
  have e:edgesOf 1 0 a++edgesOf 0 1 []=edgesOf 1 0 a:=List.append_nil _
  rw [e] at h1
  exact h1
 have v2:xlN (a.map encP) (b.map encP)=((edgesOf 1 0 a++edgesOf 0 1 b).length,(edgesOf 1 0 a++edgesOf 0 1 b).map encEd):=by unfold xlN;rw [v3];rfl
 have v0:xhG (a.map encP) (b.map encP)=(edgesOf 1 0 a++edgesOf 0 1 b).length:=by unfold xhG;rw [v2]
 have v1:xhS (a.map encP) (b.map encP)=(edgesOf 1 0 a++edgesOf 0 1 b).map encEd:=by unfold xhS;rw [v2]
 have hSl:S.length=(edgesOf 1 0 a++edgesOf 0 1 b).length:=hp.length_eq
 have d1:(edgesOf 1 0 a++edgesOf 0 1 b).length<4611686018427387904:=by omega
 have d2:0+(edgesOf 1 0 a++edgesOf 0 1 b).length≤(S.map encEd).length:=by rw [List.length_map,hSl];omega
 have d3:(edgesOf 1 0 a++edgesOf 0 1 b).length.beq (edgesOf 1 0 a++edgesOf 0 1 b).length=true:=Nat.beq_refl _
 have tk:List.take (edgesOf 1 0 a++edgesOf 0 1 b).length (List.drop 0 (S.map encEd))=S.map encEd:=by rw [List.drop_zero,List.take_of_length_le (by rw [List.length_map,hSl];exact Nat.le_refl _)]
 unfold xfx xmV
 rw [h0,v3,v0,v1,hall,hS,tk,List.length_map,d3,decide_eq_true d1,decide_eq_true d2]
 rfl
theorem xF8 (out:List Per) (h:out≠[]):out=out.dropLast++[out[out.length - 1]'(by have:=List.length_pos_iff.2 h;omega)]:=by
 have:=List.dropLast_concat_getLast h
 rw [List.getLast_eq_getElem] at this
 exact this.symm
section
variable (S : List Edg) (hS1 : ∀ e, e ∈ S → 0 ≤ e.1 ∧ e.1 ≤ 1099511627776) (hS2 : ∀ e, e ∈ S → (-1 ≤ e.2.1 ∧ e.2.1 ≤ 1) ∧ (-1 ≤ e.2.2 ∧ e.2.2 ≤ 1)) (hS3 : S.Pairwise fun x y => x.1 ≤ y.1) (hS4 : S.length ≤ 8589934592)
theorem xym (g:Edg→Int):∀ l:List Edg,(∀ e,e∈l→-1≤g e∧g e≤1)→-(l.length:Int)≤sumAll g l∧sumAll g l≤l.length
 | [],_=>by simp [sumAll]
 | e::l,h=>by
  have:=xym g l fun x hx=>h x (List.mem_cons_of_mem _ hx)
  have:=h e (List.mem_cons_self ..)
  simp only [sumAll,List.length_cons];omega
theorem xA0 (g:Edg→Int) (n:Nat) (h:n<S.length):sumAll g (S.take (n+1))=sumAll g (S.take n)+g S[n]:=by
 rw [List.take_add_one,List.getElem?_eq_getElem h]
 show sumAll g (S.take n++[S[n]])=_
 rw [xsI];simp [sumAll]
include hS1 hS2 hS3 hS4
theorem xw9 (on:Nat) (at':Int) (ox:List AV):∀ (k i:Nat),i+k=S.length→∃ j:Nat,i≤j∧j≤S.length ∧
  Iter (xiC (S.map encEd) on at') (sumAll (·.2.1) (S.take i),sumAll (·.2.2) (S.take i),((i:Nat):Int),ox)=some (sumAll (·.2.1) (S.take j),sumAll (·.2.2) (S.take j),((j:Nat):Int),ox) ∧
  (∀ (m:Nat) (h:m<S.length),i≤m→m<j→S[m].1=at')∧∀ (h:j<S.length),S[j].1≠at'
 | 0,i,hk=>by
  obtain rfl:i=S.length:=by omega
  refine ⟨S.length,Nat.le_refl _,Nat.le_refl _,xaK ?_,fun m _ h1 h2=>by omega,fun h=>absurd h (Nat.lt_irrefl _)⟩
  unfold xiC
  simp only
  unfold xsp
  rw [List.length_map,decide_eq_false (by omega:¬ ((S.length:Nat):Int)<((S.length:Nat):Int))]
  rfl
 | k+1,i,hk=>by
  have h1:i<S.length:=by omega
  have d1:((i:Nat):Int)<((S.length:Nat):Int):=by omega
  have d2:(0:Int)≤((i:Nat):Int):=by omega
  have gf:(S.map encEd).getD i .top=encEd S[i]:=xaW _ _ _ h1
  have c0:((encEd S[i]).cells.getD 0 .top).toInt=S[i].1:=rfl
  have c1:((encEd S[i]).cells.getD 1 .top).toInt=S[i].2.1:=rfl
  have c2:((encEd S[i]).cells.getD 2 .top).toInt=S[i].2.2:=rfl
  have s0:hasSh1 (Sh.int IntKind.i64) ((encEd S[i]).cells.getD 0 .top)=true:=rfl
  have s1:hasSh1 (Sh.int IntKind.i64) ((encEd S[i]).cells.getD 1 .top)=true:=rfl
  have s2:hasSh1 (Sh.int IntKind.i64) ((encEd S[i]).cells.getD 2 .top)=true:=rfl
  have v0:xn9 (S.map encEd) ((i:Nat):Int)=true:=by unfold xn9;rw [List.length_map,decide_eq_true d1,decide_eq_true d2];rfl
  by_cases he:S[i].1=at'
  · have hb:=hS2 S[i] (List.getElem_mem h1)
    have b1:=xym (·.2.1) (S.take i) fun e he=>(hS2 e (List.mem_of_mem_take he)).1
    have b2:=xym (·.2.2) (S.take i) fun e he=>(hS2 e (List.mem_of_mem_take he)).2
    have hl:(S.take i).length=i:=by rw [List.length_take];omega
    rw [hl] at b1 b2
    have b3:=xA0 S (·.2.1) i h1
    have b4:=xA0 S (·.2.2) i h1
    have w1:IntKind.i64.wrap (sumAll (·.2.1) (S.take i)+S[i].2.1)=sumAll (·.2.1) (S.take (i+1)):=by rw [b3];exact xcX (by omega) (by omega)
    have w2:IntKind.i64.wrap (sumAll (·.2.2) (S.take i)+S[i].2.2)=sumAll (·.2.2) (S.take (i+1)):=by rw [b4];exact xcX (by omega) (by omega)
    have st:xiC (S.map encEd) on at' (sumAll (·.2.1) (S.take i),sumAll (·.2.2) (S.take i),((i:Nat):Int),ox)=some (.inl (sumAll (·.2.1) (S.take (i+1)),sumAll (·.2.2) (S.take (i+1)),((i+1:Nat):Int),ox)):=by
     unfold xiC
     simp only
     unfold xsp
     have e1:(S[i].1==at')=true:=by simp [he]
     rw [v0,Int.toNat_natCast,gf,s0,s1,s2,c0,c1,c2,List.length_map,decide_eq_true d1,decide_eq_true h1,e1,w1,w2,xps (show i+1≤maxLen by unfold maxLen;omega)]
     rfl
    obtain ⟨j,j1,j2,j3,j4,j5⟩:=xw9 on at' ox k (i+1) (by omega)
    refine ⟨j,by omega,j2,by rw [xbY st];exact j3,fun m hm h2 h3=>?_,j5⟩
    rcases Nat.eq_or_lt_of_le h2 with rfl|h2
    · exact he
    · exact j4 m hm h2 h3
  · refine ⟨i,Nat.le_refl _,by omega,xaK ?_,fun m _ h2 h3=>by omega,fun _=>he⟩
    unfold xiC
    simp only
    unfold xsp
    have e1:(S[i].1==at')=false:=by simp [he]
    rw [v0,Int.toNat_natCast,gf,s0,c0,List.length_map,decide_eq_true d1,decide_eq_true h1,e1]
    rfl
omit hS1 hS2 hS3 hS4
def SwI (K:Int→Bool) (s:Nat×Int×Int×Int×Int×List AV):Prop :=
 ∃ (out:List Per) (i:Nat) (at':Int),s=(out.length,sumAll (·.2.1) (S.take i),sumAll (·.2.2) (S.take i),((i:Nat):Int),at',out.map encP)∧0≤at'∧at'≤1099511627776∧i≤S.length ∧
  (∀ (m:Nat) (h:m<S.length),m<i→S[m].1<at')∧(∀ (m:Nat) (h:m<S.length),i≤m→at'≤S[m].1)∧OutOk out at' K∧(out.length:Int)≤at'
include hS1 hS2 hS3 hS4
set_option maxHeartbeats 4000000 in
theorem xCl (keep:Bool→Bool→Bool) (a b:List Per) (hp:S.Perm (edgesOf 1 0 a++edgesOf 0 1 b)) (s:Nat×Int×Int×Int×Int×List AV) (hs:SwI S (fun t=>keep (inL a t) (inL b t)) s) :
  (∃ s',xg2 keep (S.map encEd) s=some (.inl s')∧SwI S (fun t=>keep (inL a t) (inL b t)) s'∧(1099511627776 - s'.2.2.2.2.1).toNat<(1099511627776 - s.2.2.2.2.1).toNat) ∨
  ∃ r,xg2 keep (S.map encEd) s=some (.inr r)∧∃ out:List Per,r=(out.length,out.map encP)∧OutOk out 1099511627776 (fun t=>keep (inL a t) (inL b t)):=by
 obtain ⟨out,i,at',rfl,hat0,hatF,hi,hlo,hhi,hok,hol⟩:=hs
 by_cases hF:at'<1099511627776
 · left
   obtain ⟨j,j1,j2,j3,j4,j5⟩:=xw9 S hS1 hS2 hS3 hS4 out.length at' (out.map encP) (S.length - i) i (by omega)
   have hloj:∀ (m:Nat) (h:m<S.length),m<j→S[m].1≤at':=fun m h hm=>by
    by_cases hmi:m<i
    · have:=hlo m h hmi;omega
    · have:=j4 m h (by omega) hm;omega
   have hhij:∀ (m:Nat) (h:m<S.length),j≤m→at'<S[m].1:=fun m h hm=>by
    have hj:j<S.length:=by omega
    have h1:=hhi j hj (by omega)
    have h2:=j5 hj
    have h3:S[j].1≤S[m].1:=by
     rcases Nat.eq_or_lt_of_le hm with rfl|hm
     · exact Int.le_refl _
     · exact List.pairwise_iff_getElem.1 hS3 j m hj h hm
    omega
   obtain ⟨nx,hnx⟩:∃ nx:Int,nx=if h:j<S.length then S[j].1 else 1099511627776:=⟨_,rfl⟩
   have hnx1:at'<nx:=by
    rw [hnx];split
    · rename_i h;exact hhij j h (Nat.le_refl _)
    · exact hF
   have hnx2:nx≤1099511627776:=by
    rw [hnx];split
    · rename_i h;exact (hS1 _ (List.getElem_mem h)).2
    · exact Int.le_refl _
   have hnx3:∀ (m:Nat) (h:m<S.length),j≤m→nx≤S[m].1:=fun m h hm=>by
    have hj:j<S.length:=by omega
    rw [hnx,dif_pos hj]
    rcases Nat.eq_or_lt_of_le hm with rfl|hm
    · exact Int.le_refl _
    · exact List.pairwise_iff_getElem.1 hS3 j m hj h hm
   have hsum:∀ (g:Edg→Int) (t:Int),at'≤t→t<nx→sumAll g (S.take j)=sumBy g t S:=fun g t ht1 ht2=>by
    conv=>rhs;rw [←List.take_append_drop j S]
    rw [xnd,xzl,xwp]
    · omega
    · intro e he
      obtain ⟨m,hm,rfl⟩:=List.mem_iff_getElem.1 he
      rw [List.getElem_drop]
      have:=hnx3 (j+m) (by rw [List.length_drop] at hm;omega) (by omega)
      omega
    · intro e he
      obtain ⟨m,hm,rfl⟩:=List.mem_iff_getElem.1 he
      rw [List.getElem_take]
      rw [List.length_take] at hm
      have:=hloj m (by omega) (by omega)
      omega
   have hcnt:∀ t,at'≤t→t<nx→decide (sumAll (·.2.1) (S.take j)>0)=inL a t∧decide (sumAll (·.2.2) (S.take j)>0)=inL b t:=fun t ht1 ht2=>by
    rw [hsum _ t ht1 ht2,hsum _ t ht1 ht2,xv2 _ t hp,xv2 _ t hp,xnd,xnd,xrS,xu9,xv9,xvd,Int.add_zero,Int.zero_add,xAw,xAw]
    exact ⟨rfl,rfl⟩
   obtain ⟨kv,hkv⟩:∃ kv:Bool,kv=keep (decide (sumAll (·.2.1) (S.take j)>0)) (decide (sumAll (·.2.2) (S.take j)>0)):=⟨_,rfl⟩
   have hK:∀ t,at'≤t→t<nx→keep (inL a t) (inL b t)=kv:=fun t ht1 ht2=>by
    rw [hkv,(hcnt t ht1 ht2).1,(hcnt t ht1 ht2).2]
   have v10:xo7 keep (S.map encEd) out.length (sumAll (·.2.1) (S.take i)) (sumAll (·.2.2) (S.take i)) ((i:Nat):Int) at' (out.map encP)=(sumAll (·.2.1) (S.take j),sumAll (·.2.2) (S.take j),((j:Nat):Int),out.map encP):=by unfold xo7;rw [j3];rfl
   have v8:xf7 keep (S.map encEd) out.length (sumAll (·.2.1) (S.take i)) (sumAll (·.2.2) (S.take i)) ((i:Nat):Int) at' (out.map encP)=sumAll (·.2.1) (S.take j):=by unfold xf7;rw [v10]
   have v9:xqh keep (S.map encEd) out.length (sumAll (·.2.1) (S.take i)) (sumAll (·.2.2) (S.take i)) ((i:Nat):Int) at' (out.map encP)=(sumAll (·.2.2) (S.take j),((j:Nat):Int),out.map encP):=by unfold xqh;rw [v10]
   have v7:xf5 keep (S.map encEd) out.length (sumAll (·.2.1) (S.take i)) (sumAll (·.2.2) (S.take i)) ((i:Nat):Int) at' (out.map encP)=sumAll (·.2.2) (S.take j):=by unfold xf5;rw [v9]
   have v6:xqz keep (S.map encEd) out.length (sumAll (·.2.1) (S.take i)) (sumAll (·.2.2) (S.take i)) ((i:Nat):Int) at' (out.map encP)=(((j:Nat):Int),out.map encP):=by unfold xqz;rw [v9]
   have v1:xbL keep (S.map encEd) out.length (sumAll (·.2.1) (S.take i)) (sumAll (·.2.2) (S.take i)) ((i:Nat):Int) at' (out.map encP)=out.map encP:=by unfold xbL;rw [v6]
   have v3:xcf keep (S.map encEd) out.length (sumAll (·.2.1) (S.take i)) (sumAll (·.2.2) (S.take i)) ((i:Nat):Int) at' (out.map encP)=((j:Nat):Int):=by unfold xcf;rw [v6]
   have v2:xqq keep (S.map encEd) out.length (sumAll (·.2.1) (S.take i)) (sumAll (·.2.2) (S.take i)) ((i:Nat):Int) at' (out.map encP)=kv:=by unfold xqq;rw [v8,v7,←hkv]
   have v0:xmg keep (S.map encEd) out.length (sumAll (·.2.1) (S.take i)) (sumAll (·.2.2) (S.take i)) ((i:Nat):Int) at' (out.map encP)=decide (xds keep out.length<out.length):=by unfold xmg;rw [v1,List.length_map]
   have v5:xqf keep (S.map encEd) out.length (sumAll (·.2.1) (S.take i)) (sumAll (·.2.2) (S.take i)) ((i:Nat):Int) at' (out.map encP)=decide (j<S.length):=by
    unfold xqf;rw [v3,List.length_map]
    by_cases h:j<S.length
    · rw [decide_eq_true h,decide_eq_true (by omega)]
    · rw [decide_eq_false h,decide_eq_false (by omega)]
   have hol2:(out.length+1)*16≤140737488355328:=by omega
   have hol3:out.length+1≤4611686018427387904:=by omega
   have e1:(out.length==out.length)=true:=by simp
   have dF:decide (at'<1099511627776)=true:=decide_eq_true hF
   have dj:decide ((0:Int)≤((j:Nat):Int))=true:=decide_eq_true (by omega)
   have hnxj:∀ h:j<S.length,(((S.map encEd).getD j .top).cells.getD 0 .top).toInt=nx:=fun h=>by
    rw [xaW _ _ _ h,hnx,dif_pos h];rfl
   have shj:∀ h:j<S.length,hasSh1 (Sh.int IntKind.i64) (((S.map encEd).getD j .top).cells.getD 0 .top)=true:=fun h=>by
    rw [xaW _ _ _ h];rfl
   have fin:∀ out':List Per,OutOk out' nx (fun t=>keep (inL a t) (inL b t))→(out'.length:Int)≤nx→SwI S (fun t=>keep (inL a t) (inL b t)) (out'.length,sumAll (·.2.1) (S.take j),sumAll (·.2.2) (S.take j),((j:Nat):Int),nx,out'.map encP):=fun out' ho hl =>
    ⟨out',j,nx,rfl,by omega,hnx2,j2,fun m h hm=>by have:=hloj m h hm;omega,fun m h hm=>hnx3 m h hm,ho,hl⟩
   have mu:(1099511627776 - nx).toNat<(1099511627776 - at').toNat:=by omega
   cases kv with
   | false =>
    refine ⟨(out.length,sumAll (·.2.1) (S.take j),sumAll (·.2.2) (S.take j),((j:Nat):Int),nx,out.map encP),?_,fin out (hok.skip (by omega) hK) (by omega),mu⟩
    unfold xg2
    simp only
    unfold xnH
    rw [v1,v2,v3,v5,v7,v8,j3,dF,dj,Int.toNat_natCast,List.length_map]
    by_cases hj:j<S.length
    · rw [decide_eq_true hj,shj hj,hnxj hj];rfl
    · rw [decide_eq_false hj]
      have:nx=1099511627776:=by rw [hnx,dif_neg hj]
      rw [this];rfl
   | true =>
    by_cases hne:out=[]
    · have hadd:=hok.add hat0 hnx1 hnx2 hK (fun p hp=>by rw [hne] at hp;cases hp)
      refine ⟨((out++[(at',nx)]).length,sumAll (·.2.1) (S.take j),sumAll (·.2.2) (S.take j),((j:Nat):Int),nx,(out++[(at',nx)]).map encP),?_,fin _ hadd (by rw [List.length_append,List.length_singleton];omega),mu⟩
      have dl:decide (((out.length:Nat):Int)>0)=false:=by rw [hne];rfl
      unfold xg2
      simp only
      unfold xnH
      rw [v1,v2,v3,v5,v7,v8,j3,dF,dj,Int.toNat_natCast,List.length_map,List.length_map,dl,e1,decide_eq_true hol2,decide_eq_true hol3]
      by_cases hj:j<S.length
      · rw [decide_eq_true hj,shj hj,hnxj hj,List.map_append,List.length_append];rfl
      · rw [decide_eq_false hj]
        have:nx=1099511627776:=by rw [hnx,dif_neg hj]
        rw [this,List.map_append,List.length_append];rfl
    · have hpos:=List.length_pos_iff.2 hne
      have w1:IntKind.i64.wrap (((out.length:Nat):Int) - 1)=((out.length - 1:Nat):Int):=by rw [xcX (by omega) (by omega)];omega
      have v11:xds keep out.length=out.length - 1:=by unfold xds;rw [w1,Int.toNat_natCast];omega
      have v4:xl7 keep out.length=true:=by
       unfold xl7;rw [w1,decide_eq_true (by omega),decide_eq_true (by omega)];rfl
      have dl:decide (((out.length:Nat):Int)>0)=true:=decide_eq_true (by omega)
      have dv:decide (out.length - 1<out.length)=true:=decide_eq_true (by omega)
      have hlt:out.length - 1<out.length:=by omega
      have gl:(out.map encP).getD (out.length - 1) .top=encP out[out.length - 1]:=xaW _ _ _ hlt
      have cl:((encP out[out.length - 1]).cells.getD 1 .top).toInt=out[out.length - 1].2:=rfl
      have sl:hasSh1 (Sh.int IntKind.i64) ((encP out[out.length - 1]).cells.getD 1 .top)=true:=rfl
      have hsn:=xF8 out hne
      by_cases hl:out[out.length - 1].2=at'
      · have hext:=OutOk.ext (o:=out.dropLast) (p:=out[out.length - 1]) (by rw [←hsn];exact hok) hl hnx1 hnx2 hK
        have hlen:(out.dropLast++[(out[out.length - 1].1,nx)]).length=out.length:=by rw [List.length_append,List.length_dropLast,List.length_singleton];omega
        have hset:(out.map encP).set (out.length - 1) (AV.agg (List.take 1 (encP out[out.length - 1]).cells++[AV.int IntKind.i64 nx]++List.drop 2 (encP out[out.length - 1]).cells))=(out.dropLast++[(out[out.length - 1].1,nx)]).map encP:=by
         have e2:AV.agg (List.take 1 (encP out[out.length - 1]).cells++[AV.int IntKind.i64 nx]++List.drop 2 (encP out[out.length - 1]).cells)=encP (out[out.length - 1].1,nx):=rfl
         rw [e2,←List.map_set]
         congr 1
         have e3:out.set (out.length - 1) (out[out.length - 1].1,nx)=(out.dropLast++[out[out.length - 1]]).set (out.length - 1) (out[out.length - 1].1,nx):=congrArg (fun l=>List.set l (out.length - 1) (out[out.length - 1].1,nx)) hsn
         rw [e3,List.set_append_right _ _ (by rw [List.length_dropLast];exact Nat.le_refl _),List.length_dropLast,Nat.sub_self];rfl
        refine ⟨((out.dropLast++[(out[out.length - 1].1,nx)]).length,sumAll (·.2.1) (S.take j),sumAll (·.2.2) (S.take j),((j:Nat):Int),nx,(out.dropLast++[(out[out.length - 1].1,nx)]).map encP),?_,fin _ hext (by rw [hlen];omega),mu⟩
        have e4:(out[out.length - 1].2==at')=true:=by simp [hl]
        unfold xg2
        simp only
        unfold xnH
        rw [v0,v1,v2,v3,v4,v5,v7,v8,v11,j3,dF,dj,Int.toNat_natCast,List.length_map,gl,cl,sl,dl,dv,e4]
        by_cases hj:j<S.length
        · rw [decide_eq_true hj,shj hj,hnxj hj,hset,hlen];rfl
        · rw [decide_eq_false hj]
          have:nx=1099511627776:=by rw [hnx,dif_neg hj]
          rw [this] at hset hlen ⊢
          rw [hset,hlen];rfl
      · have hadd:=hok.add hat0 hnx1 hnx2 hK (fun p hp=>by
         rw [hsn] at hp
         rcases List.mem_append.1 hp with hp|hp
         · have h1:=hok.span.2
           rw [hsn] at h1
           have:=(List.pairwise_append.1 h1).2.2 p hp _ (List.mem_singleton.2 rfl)
           have h2:=hok.low _ (List.getElem_mem hlt)
           have h3:=xdp.1 (hok.span.1 _ (List.getElem_mem hlt))
           omega
         · rw [List.mem_singleton.1 hp];exact hl)
        refine ⟨((out++[(at',nx)]).length,sumAll (·.2.1) (S.take j),sumAll (·.2.2) (S.take j),((j:Nat):Int),nx,(out++[(at',nx)]).map encP),?_,fin _ hadd (by rw [List.length_append,List.length_singleton];omega),mu⟩
        have e4:(out[out.length - 1].2==at')=false:=by simp [hl]
        unfold xg2
        simp only
        unfold xnH
        rw [v0,v1,v2,v3,v4,v5,v7,v8,v11,j3,dF,dj,Int.toNat_natCast,List.length_map,List.length_map,gl,cl,sl,dl,dv,e4,e1,decide_eq_true hol2,decide_eq_true hol3]
        by_cases hj:j<S.length
        · rw [decide_eq_true hj,shj hj,hnxj hj,List.map_append,List.length_append];rfl
        · rw [decide_eq_false hj]
          have:nx=1099511627776:=by rw [hnx,dif_neg hj]
          rw [this,List.map_append,List.length_append];rfl
 · right
   have:at'=1099511627776:=by omega
   subst this
   refine ⟨(out.length,out.map encP),?_,out,rfl,hok⟩
   unfold xg2
   simp only
   unfold xnH
   rw [decide_eq_false hF]
   rfl
end
theorem xrY:∀ (l:List Per) (e:Edg),e∈edgesOf 1 0 l→(-1≤e.2.1∧e.2.1≤1)∧(-1≤e.2.2∧e.2.2≤1)
 | [],e,h=>by cases h
 | p::l,e,h=>by
  unfold edgesOf at h
  split at h
  · rcases List.mem_cons.1 h with rfl|h
    · simp
    · rcases List.mem_cons.1 h with rfl|h
      · simp
      · exact xrY l e h
  · exact xrY l e h
theorem xrT:∀ (l:List Per) (e:Edg),e∈edgesOf 0 1 l→(-1≤e.2.1∧e.2.1≤1)∧(-1≤e.2.2∧e.2.2≤1)
 | [],e,h=>by cases h
 | p::l,e,h=>by
  unfold edgesOf at h
  split at h
  · rcases List.mem_cons.1 h with rfl|h
    · simp
    · rcases List.mem_cons.1 h with rfl|h
      · simp
      · exact xrT l e h
  · exact xrT l e h
theorem xI6 (keep:Bool→Bool→Bool) (a b:List Per) (ha:a.length≤1073741824) (hb:b.length≤1073741824) :
  ∃ r:List Per,swG keep (a.map encP) (b.map encP)=some (r.map encP)∧IsSpan r∧∀ t,inL r t=(decide (0≤t)&&(decide (t<1099511627776)&&keep (inL a t) (inL b t))):=by
 obtain ⟨S,hS,hp,hs3⟩:=xHw a b ha hb
 have l1:=xko 1 0 a
 have l2:=xko 0 1 b
 have hSl:S.length=(edgesOf 1 0 a++edgesOf 0 1 b).length:=hp.length_eq
 rw [List.length_append] at hSl
 have hmem:∀ e,e∈S→e∈edgesOf 1 0 a∨e∈edgesOf 0 1 b:=fun e he=>List.mem_append.1 (hp.mem_iff.1 he)
 have hs1:∀ e,e∈S→0≤e.1∧e.1≤1099511627776:=fun e he=>(hmem e he).elim (xmi 1 0 a e) (xmi 0 1 b e)
 have hs2:∀ e,e∈S→(-1≤e.2.1∧e.2.1≤1)∧(-1≤e.2.2∧e.2.2≤1):=fun e he=>(hmem e he).elim (xrY a e) (xrT b e)
 obtain ⟨r,hr,out,rfl,hok⟩:=xAQ (SwI S (fun t=>keep (inL a t) (inL b t))) (fun s=>(1099511627776 - s.2.2.2.2.1).toNat) (fun r=>∃ out:List Per,r=(out.length,out.map encP)∧OutOk out 1099511627776 (fun t=>keep (inL a t) (inL b t)))
  (xCl S hs1 hs2 hs3 (by omega) keep a b hp) (0,0,0,0,0,[]) ⟨[],0,0,rfl,Int.le_refl _,by omega,Nat.zero_le _,fun m _ h=>by omega,fun m h _=>(hs1 _ (List.getElem_mem h)).1,xFS _,by simp⟩
 refine ⟨out,?_,hok.span,hok.done⟩
 have v3:xyg keep (a.map encP) (b.map encP)=some (out.length,out.map encP):=by unfold xyg;rw [hS];exact hr
 have v2:xwU keep (a.map encP) (b.map encP)=(out.length,out.map encP):=by unfold xwU;rw [v3];rfl
 have v0:xyh keep (a.map encP) (b.map encP)=out.length:=by unfold xyh;rw [v2]
 have v1:xye keep (a.map encP) (b.map encP)=out.map encP:=by unfold xye;rw [v2]
 have d1:0+out.length≤out.length:=by omega
 unfold swG xH5
 rw [hS,v3,v0,v1,List.length_map,decide_eq_true d1,List.drop_zero,List.take_of_length_le (by rw [List.length_map];exact Nat.le_refl _)]
 rfl
theorem xDH (a b:List AV):xho a b=swG xjd a b:=rfl
theorem xJC (a:List Per) (ha:a.length≤1073741824):∃ r:List Per,xiO (a.map encP)=some (r.map encP)∧IsSpan r∧∀ t,inL r t=inL a t:=by
 obtain ⟨r,h1,h2,h3⟩:=xI6 xjd a [] ha (by simp)
 refine ⟨r,?_,h2,fun t=>?_⟩
 · unfold xiO xqv
   rw [xDH,show ([]:List AV)=([]:List Per).map encP from rfl,h1];rfl
 · rw [h3 t]
   cases hc:inL a t with
   | false=>simp [xjd,xea]
   | true=>have:=xyW hc;simp [xjd,xea,this]
end Go.Sim.M
end
noncomputable section
set_option maxRecDepth 100000
namespace Go.Sim.M
open Go.RowKit Go.Sim.Srt
theorem xAI {α:Type} {step:Int→Option (Int⊕(Bool×Bool×Unit))} (l:List α) (p:α→Bool)
  (hs:∀ (k:Nat) (h:k<l.length),step (k:Int)=if p l[k]=true then some (.inl ((k+1:Nat):Int)) else some (.inr (true,false,())))
  (he:step (l.length:Int)=some (.inr (false,false,()))):∀ d k:Nat,k+d=l.length→Iter step (k:Int)=some (if (l.drop k).all p=true then (false,false,()) else (true,false,()))
 | 0,k,h=>by
  have:k=l.length:=by omega
  subst this
  rw [List.drop_eq_nil_of_le (Nat.le_refl _),List.all_nil,if_pos rfl]
  exact xaK he
 | d+1,k,h=>by
  have hk:k<l.length:=by omega
  have:=hs k hk
  have e:(l.drop k).all p=(p l[k]&&(l.drop (k+1)).all p):=by rw [xh5 hk];rfl
  rw [e]
  cases hc:p l[k] with
  | true =>
   rw [if_pos hc] at this
   rw [xbY this,xAI l p hs he d (k+1) (by omega),Bool.true_and]
  | false =>
   rw [if_neg (by rw [hc];simp)] at this
   rw [xaK this];simp
def few (l:List Fc):Bool:=decide (l.length≤24)&&l.all fun f=>decide (f.r.length≤60)
theorem xJw (l:List Fc):xi9 (l.map encF)=some (few l):=by
 have key:xjf (l.map encF) 24=some (few l):=by
  unfold xjf xnW
  by_cases h:(l.length:Int)>24
  · simp only [List.length_map,h,decide_true,xaD]
    have:¬ l.length≤24:=by omega
    simp [few,this]
  · have e:=xAI (step:=xbZ (l.map encF)) l (fun f=>decide (f.r.length≤60)) (fun k hk=>by
     have hl:l.length≤24:=by omega
     have i1:(k:Int)<(l.length:Int):=by omega
     have gf:(l.map encF).getD k .top=encF l[k]:=xaW _ _ _ hk
     simp only [xbZ,xiW,List.length_map,xaD,xaE,decide_true,decide_false,Bool.and_true,Bool.true_and,Bool.not_true,Bool.not_false,Int.toNat_natCast,Int.natCast_nonneg,Option.isSome_some,Option.getD_some,beq_self_eq_true,Nat.zero_add,Nat.sub_zero,hk,i1,gf,cF0,cF1,cF2,sF0,sF1,sF2,lF,sF12,sF02,wrapS (n:=k) (by omega)]
     by_cases h60:l[k].r.length≤60
     · have:¬ (l[k].r.length:Int)>60:=by omega
       simp [h60,this,xaE]
     · have:(l[k].r.length:Int)>60:=by omega
       simp [h60,this,xaD]) (by
     simp only [xbZ,xiW,List.length_map,Int.lt_irrefl,decide_false,xaE]) l.length 0 (by omega)
    have e:Iter (xbZ (l.map encF)) (0:Int)=_:=e
    rw [List.drop_zero] at e
    simp only [List.length_map,h,decide_false,xaE,e]
    have hl:l.length≤24:=by omega
    cases ha:l.all (fun f=>decide (f.r.length≤60))<;>simp [few,hl,ha,xaD,xaE]
 unfold xi9 xnx
 simp only [key,xBw]
theorem xAK {l:List Fc} (h:few l=true):l.length≤24∧∀ f,f∈l→f.r.length≤60:=by
 simp only [few,Bool.and_eq_true,decide_eq_true_eq,List.all_eq_true] at h
 exact h
theorem xFE {ps:List Per} (h:ps.length≤262144):Tame (ps.map fun p=>(p,(1:Int))):=⟨by simpa using h,fun c hc=>by
 obtain ⟨p,_,rfl⟩:=List.mem_map.1 hc
 dsimp only;omega⟩
theorem xAh (ps:List Per) (h:ps.length≤262144):∃ S,xcJ (ps.map encP)=some (S.map encP)∧StepI (fun t=>((ps.countP (hasP · t):Nat):Int)) 1099511627776 S∧S.length≤2*ps.length+1:=by
 obtain ⟨S,h1,h2,h3⟩:=xr0 _ (xFE h)
 refine ⟨S,by rw [xDK ps (by omega),h1],?_,by simpa using h3⟩
 rwa [show sumC (ps.map fun p=>(p,(1:Int)))=fun t=>((ps.countP (hasP · t):Nat):Int) from funext fun t=>xF5 ps t] at h2
end Go.Sim.M
end
noncomputable section
set_option maxRecDepth 100000
namespace Go.Sim.M
open Go.RowKit Go.Sim.Srt Go.Sort
theorem xIl (E:List Per):(E.map encP).all isP=true∧∃ P:List Per,srtP (E.map encP)=P.map encP∧P.Perm E∧Sorted cmpP P:=by
 have e1:(E.map encP).map decP=E:=by
  rw [List.map_map];conv=>rhs;rw [←List.map_id E]
  rfl
 refine ⟨?_,pdqL cmpP E,?_,(xja cmpP swoP E).1,(xqX cmpP swoP E).imp fun {x y} h=>?_⟩
 · rw [List.all_eq_true]
   intro x hx
   obtain ⟨e,he,rfl⟩:=List.mem_map.1 hx
   rfl
 · unfold srtP;rw [e1];rfl
 · have:=xtR x y;omega
theorem xBj (S:List Per) (hS:S.length≤524289) (hN:∀ s,s∈S→0≤s.2∧s.2≤1048576):∀ (d k:Nat) (stk ox:List Per),k+d=S.length→StOk stk→(flatS stk).length≤1048576→ox.length≤k*1048576 →
  ∃ stk' ox':List Per,Iter (xb9 (S.map encP) ((S.length:Nat):Int)) ((k:Int),ox.length,stk.length,((flatS stk).length:Int),ox.map encP,stk.map encP)=some (ox'.length,((flatS stk').length:Int),stk'.length,ox'.map encP,stk'.map encP) ∧
   StOk stk'∧(flatS stk',ox')=(S.drop k).foldl (fun x s=>setF x (s.1,s.2.toNat)) (flatS stk,ox)∧(flatS stk').length≤1048576∧ox'.length≤S.length*1048576
 | 0,k,stk,ox,h,h1,h2,h3=>by
  obtain rfl:k=S.length:=by omega
  refine ⟨stk,ox,xaK ?_,h1,by rw [List.drop_eq_nil_of_le (Nat.le_refl _)];rfl,h2,h3⟩
  simp only [xb9,xgG,Int.lt_irrefl,decide_false,xaE]
 | d+1,k,stk,ox,h,h1,h2,h3=>by
  have hk:k<S.length:=by omega
  obtain ⟨n1,n2⟩:=hN _ (List.getElem_mem hk)
  obtain ⟨m,hm⟩:∃ m:Nat,S[k].2=(m:Int):=⟨S[k].2.toNat,by omega⟩
  obtain ⟨stk2,e,a1,a2⟩:=xCx S[k].1 m (flatS stk).length stk ox h1 rfl (by omega) h2 (by omega)
  have hl2:(flatS stk2).length=m:=by rw [a2,List.length_append,List.length_take,List.length_replicate];omega
  obtain ⟨stk',ox',e',b1,b2,b3,b4⟩:=xBj S hS hN d (k+1) stk2 (ox++(((flatS stk).drop m).reverse.map fun f=>(f,S[k].1))) (by omega) a1 (by omega) (by
   rw [List.length_append,List.length_map,List.length_reverse,List.length_drop];omega)
  refine ⟨stk',ox',(xbY ?_).trans e',b1,?_,b3,b4⟩
  · have i1:(k:Int)<(S.length:Int):=by omega
    have gf:(S.map encP).getD k .top=encP S[k]:=xaW _ _ _ hk
    have i2:¬ (0:Int)>(m:Int):=by omega
    have i3:¬ (1048576:Int)<(m:Int):=by omega
    have tk:List.take stk2.length (stk2.map encP)=stk2.map encP:=List.take_of_length_le (by simp)
    rw [hl2]
    simp only [xb9,xgG,xj3,xkt,xkp,xki,xjW,xkA,xkb,List.length_map,xaD,xaE,decide_true,decide_false,Bool.and_true,Bool.true_and,Bool.not_true,Bool.not_false,Int.toNat_natCast,Int.natCast_nonneg,Option.isSome_some,Option.getD_some,beq_self_eq_true,Nat.zero_add,Nat.sub_zero,hk,i1,gf,cP0,cP1,lP,sP,sP0,sP1,hm,i2,i3,if_false,e,tk,wrapS (n:=k) (by omega)]
  · rw [b2,xh5 hk,List.foldl_cons]
    congr 1
    rw [hm,Int.toNat_natCast,a2];rfl
theorem xFw {N:Int→Nat} {H:Nat} (hb:H≤1048576) (hH:∀ t,N t≤H) (h0:∀ t,t<0∨1099511627776≤t→N t=0) {S:List Per} (hS:StepI (fun t=>(N t:Int)) 1099511627776 S) (hl:S.length≤524289):∃ P,xf8 (S.map encP)=some (P.map encP)∧IsLevs N P:=by
 obtain ⟨stk,ox,e,a1,a2,a3,a4⟩:=xBj S hl (fun s hs=>by
  obtain ⟨_,_,m3,_⟩:=(hS.mem s).1 hs
  have:=hH s.1;omega) S.length 0 [] [] (by omega) (fun s hs=>by simp at hs) (by simp [flatS]) (by simp)
 obtain ⟨stk2,e2,c1,c2⟩:=xCx 1099511627776 0 (flatS stk).length stk ox a1 rfl (by omega) a3 (by omega)
 obtain ⟨s1,P,s2,s3,s4⟩:=xIl (ox++(((flatS stk).drop 0).reverse.map fun f=>(f,(1099511627776:Int))))
 have m1:(ox++(((flatS stk).drop 0).reverse.map fun f=>(f,(1099511627776:Int)))).length<4611686018427387904:=by
  rw [List.length_append,List.length_map,List.length_reverse,List.length_drop];omega
 refine ⟨P,?_,xGD hH h0 hS ?_ s4⟩
 · have pl:=s3.length_eq
   have e:Iter (xb9 (S.map encP) ((S.length:Nat):Int)) ((0:Int),(0:Nat),(0:Nat),(0:Int),[],[])=_:=e
   have e2:set2 1099511627776 0 ((flatS stk).length:Int) stk.length ox.length (stk.map encP) (ox.map encP)=_:=e2
   generalize (ox++(((flatS stk).drop 0).reverse.map fun f=>(f,(1099511627776:Int))))=O at s1 s2 e2 pl m1
   have bq:O.length.beq O.length=true:=by simp
   have m2:O.length≤P.length:=by omega
   have tt:List.take O.length (P.map encP)=P.map encP:=List.take_of_length_le (by rw [List.length_map];omega)
   unfold xf8 xkF
   simp only [xh6,xhU,xm1,xna,xmW,xmF,xmR,xmN,xnc,List.length_map,e,Option.isSome_some,Option.getD_some,xaD,e2,bq,m1,s1,s2,decide_true,Bool.and_true,Nat.zero_add,m2,List.drop_zero,tt]
 · have a2:(flatS stk,ox)=S.foldl (fun x s=>setF x (s.1,s.2.toNat)) ([],[]):=a2
   rw [←a2]
   exact s3
theorem xGO (ps:List Per) (t:Int) (ht:t<0∨1099511627776≤t):ps.countP (hasP · t)=0:=by
 rw [List.countP_eq_zero]
 intro p hp h
 obtain ⟨h1,h2,h3⟩:=xdn.1 h
 have:=xdp.1 h1;omega
theorem xIe (ps:List Per) (hv:∀ p,p∈ps→pv p=true) (hl:ps.length≤262144):∃ P,xde (ps.map encP)=some (P.map encP)∧IsLevs (fun t=>ps.countP (hasP · t)) P:=by
 unfold xde xjS
 by_cases h1:ps.length=1
 · obtain ⟨p,rfl⟩:=List.length_eq_one_iff.1 h1
   refine ⟨[p],rfl,List.pairwise_singleton _ _,fun k=>if k=0 then [p] else [],1,fun t=>?_,fun k=>?_,?_⟩
   · have:=List.countP_le_length (p:=(hasP · t)) (l:=[p]);simpa using this
   · by_cases hk:k=0
     · subst hk
       refine ⟨⟨fun q hq=>by simp at hq;subst hq;exact hv _ (by simp),List.pairwise_singleton _ _⟩,fun t=>?_⟩
       simp [inL]
       cases hasP p t<;>simp
     · refine ⟨by simp [hk,xox],fun t=>?_⟩
       simp only [hk,if_false,xl9]
       have:=List.countP_le_length (p:=(hasP · t)) (l:=[p])
       simp at this ⊢;omega
   · simp
 · obtain ⟨S,e1,e2,e3⟩:=xAh ps hl
   obtain ⟨P,e4,e5⟩:=xFw (N:=fun t=>ps.countP (hasP · t)) (H:=ps.length) (by omega) (fun t=>List.countP_le_length) (xGO ps) e2 (by omega)
   refine ⟨P,?_,e5⟩
   have i1:((ps.length:Int)==1)=false:=by simp;omega
   simp only [List.length_map,i1,xaE,e1,e4,Option.isSome_some,Option.getD_some,xaD]
def mk (r:Row) (P:List Per):List Fc:=P.map fun p=>⟨r,p⟩
theorem xBd (L:Row→List Per):∀ S:List Grp,(S.flatMap fun g=>mk g.1 (L g.1))=facts (S.map (·.1)) L
 | []=>rfl
 | g::S=>by rw [List.flatMap_cons,xBd L S];rfl
theorem xzH (t11:List AV) (t12 t13:Int) (row:Row) (hr:row.length≤1048576) (g1:List AV) (P:List Per) (D:List Fc) (hb:D.length+P.length≤2199023255552) (hP:P.length≤1099511627776) :
  Iter (xbk t11 t12 t13 (P.map encP) ((P.length:Nat):Int)) (D.length,(0:Int),D.map encF,row.map encV,g1)=some ((D++mk row P).length,(D++mk row P).map encF):=by
 have key:=xvU (step:=xbk t11 t12 t13 (P.map encP) ((P.length:Nat):Int)) (fun k=>(((D++mk row (P.take k)).length,((k:Nat):Int),(D++mk row (P.take k)).map encF,row.map encV,g1):Nat×Int×List AV×List AV×List AV)) P.length
  ((D++mk row P).length,(D++mk row P).map encF) (fun k hk=>by
  have i1:(k:Int)<(P.length:Int):=by omega
  have gf:(P.map encP).getD k .top=encP P[k]:=xaW _ _ _ hk
  have dl:(D++mk row (P.take k)).length=D.length+k:=by unfold mk;rw [List.length_append,List.length_map,List.length_take];omega
  have m1:(D.length+k+1)*40≤140737488355328:=by omega
  have m2:D.length+k+1≤4611686018427387904:=by omega
  have m3:row.length*32≤140737488355328:=by omega
  have m4:row.length≤4611686018427387904:=by omega
  have tk:List.take row.length (row.map encV)=row.map encV:=List.take_of_length_le (by simp)
  have tk2:mk row (P.take (k+1))=mk row (P.take k)++[⟨row,P[k]⟩]:=by unfold mk;rw [List.take_add_one,List.getElem?_eq_getElem hk,List.map_append];rfl
  rw [tk2,←List.append_assoc]
  simp only [xbk,xeU,List.length_map,xaD,xaE,decide_true,decide_false,Bool.and_true,Bool.true_and,Bool.not_true,Bool.not_false,Int.toNat_natCast,Int.natCast_nonneg,Option.isSome_some,Option.getD_some,beq_self_eq_true,Nat.zero_add,Nat.sub_zero,hk,i1,gf,cP0,cP1,lP,sP,sP0,sP1,dl,m1,m2,m3,m4,Nat.le_refl,tk,List.drop_zero,wrapS (n:=k) (by omega)]
  rw [List.length_append,dl]
  simp [encF]) (by
  simp only [xbk,xeU,Int.lt_irrefl,decide_false,xaE,List.take_length]) P.length 0 (by omega)
 have e0:D++mk row (P.take 0)=D:=by simp [mk]
 rw [e0] at key
 exact key
theorem xFs (t11:List AV) (t12 t13:Int) (row:Row) (hr:row.length≤1048576) (g1:List AV) (P:List Per) (D:List Fc) (hb:D.length+P.length≤2199023255552) (hP:P.length≤1099511627776) :
  Iter (xcV t11 t12 t13 (P.map encP) ((P.length:Nat):Int)) (D.length,(0:Int),D.map encF,row.map encV,g1)=some ((D++mk row P).length,(D++mk row P).map encF) :=
 xzH t11 t12 t13 row hr g1 P D hb hP
def Bld (l:List Fc):Prop:=Keyed l∧l.length≤1024
theorem cGs (g:Grp):((encG g).cells.getD 1 .top).toList=g.2.map encP:=rfl
theorem lG (g:Grp):((encG g).cells.length==2)=true:=rfl
theorem sG (g:Grp):hasShs [Sh.list 3,Sh.list 2] (encG g).cells 0=true:=rfl
theorem xzn {f:List AV→Option (List AV)} {step:List AV→Int→Nat×Int×List AV→Option ((Nat×Int×List AV)⊕(Nat×List AV))} (hst:step=xbN∧f=xde∨step=xbO∧f=xiO) (S:List Grp) (hS:S.length≤1024) (hr:∀ g,g∈S→g.1.length≤1048576) (L:Row→List Per) (hL:∀ g,g∈S→f (g.2.map encP)=some ((L g.1).map encP)∧(L g.1).length≤1048576) :
  Iter (step (S.map encG) ((S.length:Nat):Int)) ((0:Nat),(0:Int),[])=some ((facts (S.map (·.1)) L).length,(facts (S.map (·.1)) L).map encF):=by
 rw [←xBd]
 refine xvW S (fun g=>mk g.1 (L g.1)) encF 1048576 (fun g hg=>by unfold mk;rw [List.length_map];exact (hL g hg).2) (fun n h D hD=>?_) (fun D=>?_)
 · have i1:(n:Int)<(S.length:Int):=by omega
   have gf:(S.map encG).getD n .top=encG S[n]:=xaW _ _ _ h
   obtain ⟨e1,e2⟩:=hL _ (List.getElem_mem h)
   have hrow:=hr _ (List.getElem_mem h)
   rcases hst with ⟨rfl,rfl⟩|⟨rfl,rfl⟩
   · have el:=xzH (S.map encG) (S.length:Int) (n:Int) S[n].1 hrow (S[n].2.map encP) (L S[n].1) D (by omega) (by omega)
     simp only [xbN,xeZ,xiu,xiw,List.length_map,xaD,xaE,decide_true,decide_false,Bool.and_true,Bool.true_and,Bool.not_true,Bool.not_false,Int.toNat_natCast,Int.natCast_nonneg,Option.isSome_some,Option.getD_some,beq_self_eq_true,Nat.zero_add,Nat.sub_zero,h,i1,gf,cG0,cGs,lG,sG,e1,el,wrapS (n:=n) (by omega)]
   · have el:=xFs (S.map encG) (S.length:Int) (n:Int) S[n].1 hrow (S[n].2.map encP) (L S[n].1) D (by omega) (by omega)
     simp only [xbO,xeX,xiv,xiy,List.length_map,xaD,xaE,decide_true,decide_false,Bool.and_true,Bool.true_and,Bool.not_true,Bool.not_false,Int.toNat_natCast,Int.natCast_nonneg,Option.isSome_some,Option.getD_some,beq_self_eq_true,Nat.zero_add,Nat.sub_zero,h,i1,gf,cG0,cGs,lG,sG,e1,el,wrapS (n:=n) (by omega)]
 · rcases hst with ⟨rfl,rfl⟩|⟨rfl,rfl⟩
   · simp only [xbN,xeZ,Int.lt_irrefl,decide_false,xaE]
   · simp only [xbO,xeX,Int.lt_irrefl,decide_false,xaE]
theorem xzP {R:List Row} {Q:Row→List Per→Prop} (h:∀ r,r∈R→∃ P,Q r P):∃ L:Row→List Per,∀ r,r∈R→Q r (L r):=by
 refine ⟨fun r=>if hr:r∈R then Classical.choose (h r hr) else [],fun r hr=>?_⟩
 show Q r (if hr:r∈R then Classical.choose (h r hr) else [])
 rw [dif_pos hr]
 exact Classical.choose_spec (h r hr)
theorem xJr (l:List Fc) (r:Row):(fun t=>(psOf l r).countP (hasP · t))=cnt l r:=funext fun t=>xwI l r t
theorem xBz (l:List Fc) (h:Bld l):∃ B,xdc (l.map encF)=some (B.map encF)∧IsBag l B:=by
 obtain ⟨S,e1,hR,hps,hSl⟩:=xCz l h.1
 have hl:=h.2
 obtain ⟨L,hL⟩:=xzP (R:=S.map (·.1)) (Q:=fun r P=>xde ((psOf l r).map encP)=some (P.map encP)∧IsLevs (cnt l r) P∧P.length≤1048576) fun r hr=>by
  have hlen:=xBo l r
  obtain ⟨P,a1,a2⟩:=xIe (psOf l r) xHk (by omega)
  have a3:=a2.len
  rw [xJr] at a2
  refine ⟨P,a1,a2,Nat.le_trans a3 (Nat.mul_le_mul (Nat.le_trans hlen hl) (Nat.le_trans hlen hl))⟩
 have hk:∀ g,g∈S→g.1∈S.map (·.1):=fun g hg=>List.mem_map.2 ⟨g,hg,rfl⟩
 have eb:=xzn (.inl ⟨rfl,rfl⟩) S (by omega) (fun g hg=>by
  obtain ⟨f,hf,e,_⟩:=(hR.2 g.1).1 (hk g hg)
  rw [←e];exact h.1.1.2 f hf) L (fun g hg=>by
  rw [hps g hg];exact ⟨(hL _ (hk g hg)).1,(hL _ (hk g hg)).2.2⟩)
 refine ⟨facts (S.map (·.1)) L,?_,S.map (·.1),L,hR,fun r hr=>(hL r hr).2.1,rfl⟩
 have tt:∀ F:List Fc,List.take F.length (F.map encF)=F.map encF:=fun F=>List.take_of_length_le (by simp)
 unfold xdc xkN xeH xh0 xjH xjC xjN xjK
 simp only [e1,Option.isSome_some,Option.getD_some,xaD,List.length_map,eb,Nat.zero_add,Nat.le_refl,decide_true,Bool.and_true,List.drop_zero,tt]
theorem xEr (l:List Fc) (h:Bld l):∃ B,xe2 (l.map encF)=some (B.map encF)∧IsSet l B:=by
 obtain ⟨S,e1,hR,hps,hSl⟩:=xCz l h.1
 have hl:=h.2
 obtain ⟨L,hL⟩:=xzP (R:=S.map (·.1)) (Q:=fun r P=>xiO ((psOf l r).map encP)=some (P.map encP)∧(IsSpan P∧∀ t,inL P t=decide (0<cnt l r t))∧P.length≤1048576) fun r hr=>by
  have hlen:=xBo l r
  obtain ⟨P,a1,a2,a3⟩:=xJC (psOf l r) (by omega)
  have a4:∀ t,inL P t=decide (0<(psOf l r).countP (hasP · t)):=fun t=>by
   rw [a3,Bool.eq_iff_iff,decide_eq_true_eq,List.countP_pos_iff]
   unfold inL
   rw [List.any_eq_true]
  refine ⟨P,a1,⟨a2,fun t=>by rw [a4,xwI]⟩,?_⟩
  have:=xy6 (k:=0) a2 a4
  omega
 have hk:∀ g,g∈S→g.1∈S.map (·.1):=fun g hg=>List.mem_map.2 ⟨g,hg,rfl⟩
 have eb:=xzn (.inr ⟨rfl,rfl⟩) S (by omega) (fun g hg=>by
  obtain ⟨f,hf,e,_⟩:=(hR.2 g.1).1 (hk g hg)
  rw [←e];exact h.1.1.2 f hf) L (fun g hg=>by
  rw [hps g hg];exact ⟨(hL _ (hk g hg)).1,(hL _ (hk g hg)).2.2⟩)
 refine ⟨facts (S.map (·.1)) L,?_,S.map (·.1),L,hR,fun r hr=>(hL r hr).2.1,rfl⟩
 have tt:∀ F:List Fc,List.take F.length (F.map encF)=F.map encF:=fun F=>List.take_of_length_le (by simp)
 unfold xe2 xkX xeI xio xjG xjF xjI xjO
 simp only [e1,Option.isSome_some,Option.getD_some,xaD,List.length_map,eb,Nat.zero_add,Nat.le_refl,decide_true,Bool.and_true,List.drop_zero,tt]
end Go.Sim.M
end
noncomputable section
set_option maxRecDepth 100000
namespace Go.Sim.M
open Go.RowKit Go.Sim.Srt
def Tx (l:List Fc):Prop:=∀ f,f∈l→∀ v,v∈f.r→v.wf∧v.t.length≤1073741824
theorem xEy {r:Row} (h:∀ v,v∈r→v.wf∧v.t.length≤1073741824) (hl:r.length≤60):(keyOf r).length≤17592186044416:=by
 have:=xnQ (g:=keyV) (c:=1073741890) r fun v hv=>by
  obtain ⟨h1,h2⟩:=h v hv
  have:=xA6 h1 (by omega);omega
 unfold keyOf
 have h2:1073741890*r.length≤1073741890*60:=Nat.mul_le_mul_left _ hl
 omega
theorem xBn {l:List Fc} (hl:l.length≤1024) (hr:∀ f,f∈l→f.r.length≤60) (ht:Tx l):Bld l :=
 ⟨⟨⟨by omega,fun f hf=>by have:=hr f hf;omega⟩,fun f hf=>⟨fun v hv=>⟨(ht f hf v hv).1,by have:=(ht f hf v hv).2;omega⟩,xEy (ht f hf) (hr f hf)⟩⟩,hl⟩
theorem xIY {l:List Fc} (h:few l=true) (ht:Tx l):Bld l:=by
 obtain ⟨h1,h2⟩:=xAK h
 exact xBn (by omega) h2 ht
theorem IsBag.all {l B:List Fc} (h:IsBag l B) {Q:Row→Prop} (hq:∀ f,f∈l→Q f.r):∀ f,f∈B→Q f.r:=fun f hf=>by
 obtain ⟨_,g,hg,e⟩:=h.valid hf
 rw [←e];exact hq g hg
theorem IsSet.all {l B:List Fc} (h:IsSet l B) {Q:Row→Prop} (hq:∀ f,f∈l→Q f.r):∀ f,f∈B→Q f.r:=fun f hf=>by
 obtain ⟨R,L,h1,h2,rfl⟩:=h
 obtain ⟨a,b⟩:=xzr hf
 obtain ⟨g,g1,g2,_⟩:=(h1.2 _).1 a
 rw [←g2];exact hq g g1
theorem IsSet.len {l B:List Fc} (h:IsSet l B):B.length≤l.length*l.length:=by
 obtain ⟨R,L,h1,h2,rfl⟩:=h
 refine xt4 (h1.1.nodup xBN) fun r hr=>?_
 obtain ⟨a,b⟩:=h2 r hr
 have:=xy6 (ps:=psOf l r) (k:=0) a fun t=>by rw [b,xwI]
 exact Nat.le_trans this (Nat.le_mul_self _)
theorem xCF {l B:List Fc} (hl:l.length≤24) (h:B.length≤l.length*l.length):B.length≤576:=Nat.le_trans h (Nat.mul_le_mul hl hl)
theorem xIC {l B B':List Fc} (h:IsBag l B) (h':IsBag B B'):B=B':=h.unique h' fun r t=>(h.cntB r t).symm
def split (t:Int) (f:Fc):List Fc:=if hasP f.p t=true then (if f.p.1<t then [⟨f.r,(t,f.p.2)⟩,⟨f.r,(f.p.1,t)⟩] else [f]) else [f]
theorem xFG (t:Int) (r:Row) (u:Int) (f:Fc):cnt (split t f) r u=cnt [f] r u:=by
 unfold split
 by_cases h1:hasP f.p t=true
 · rw [if_pos h1]
   by_cases h2:f.p.1<t
   · rw [if_pos h2]
     obtain ⟨v,a,b⟩:=xdn.1 h1
     have hv:=xdp.1 v
     have e1:pv (t,f.p.2)=true:=xdp.2 (by dsimp only;omega)
     have e2:pv (f.p.1,t)=true:=xdp.2 (by dsimp only;omega)
     unfold cnt
     simp only [List.countP_cons,List.countP_nil,hasP,e1,e2,v,Bool.true_and,Bool.and_eq_true,decide_eq_true_eq]
     by_cases hr:f.r=r
     · simp only [hr,true_and]
       repeat' split
       all_goals omega
     · simp [hr]
   · rw [if_neg h2]
 · rw [if_neg h1]
theorem xvi (t:Int) (r:Row) (u:Int):∀ l:List Fc,cnt (l.flatMap (split t)) r u=cnt l r u
 | []=>rfl
 | f::l=>by
  rw [List.flatMap_cons,xsa,xFG,xvi t r u l]
  exact (xsa [f] l r u).symm
theorem xFN (t:Int) (f:Fc):∀ g,g∈split t f→g.r=f.r:=fun g hg=>by
 unfold split at hg
 split at hg
 · split at hg
   · simp at hg;rcases hg with rfl|rfl<;>rfl
   · simp at hg;rw [hg]
 · simp at hg;rw [hg]
theorem xzS (t:Int) (f:Fc):(split t f).length≤2:=by
 unfold split
 split
 · split<;>simp
 · simp
theorem room40 {n:Nat} (h:n≤2097152):(n+1)*40≤140737488355328∧n+1≤4611686018427387904∧(n+1+1)*40≤140737488355328∧n+1+1≤4611686018427387904:=by omega
theorem xwm (l:List Fc) (t:Int) (hl:l.length≤1048576):∀ (k:Nat) (D:List Fc),k≤l.length→D.length+2*k≤2*l.length →
  Iter (xaY (l.map encF) t) (D.length,((k:Nat):Int) - 1,D.map encF)=some ((D++(l.take k).reverse.flatMap (split t)).length,(D++(l.take k).reverse.flatMap (split t)).map encF)
 | 0,D,_,_=>by
  rw [List.take_zero,List.reverse_nil,List.flatMap_nil,List.append_nil]
  refine xaK ?_
  have i1:¬ (((0:Nat):Int) - 1≥0):=by omega
  simp only [xaY,xdd,i1,decide_false,xaE]
 | k+1,D,hk,hD=>by
  have hlt:k<l.length:=by omega
  have e0:((k+1:Nat):Int) - 1=(k:Int):=by omega
  have i0:(k:Int)≥0:=by omega
  have i1:(k:Int)<(l.length:Int):=by omega
  have gf:(l.map encF).getD k .top=encF l[k]:=xaW _ _ _ hlt
  obtain ⟨m1,m2,m3,m4⟩:=room40 (n:=D.length) (by omega)
  have w:IntKind.i64.wrap ((k:Int) - 1)=(k:Int) - 1:=xcX (by omega) (by omega)
  have sl:=xzS t l[k]
  have tk:l.take (k+1)=l.take k++[l[k]]:=by rw [List.take_add_one,List.getElem?_eq_getElem hlt];rfl
  have ih:=xwm l t hl k (D++split t l[k]) (by omega) (by rw [List.length_append];omega)
  rw [e0,tk,List.reverse_append,List.reverse_singleton,List.singleton_append,List.flatMap_cons,←List.append_assoc]
  refine (xbY (s':=((D++split t l[k]).length,(k:Int) - 1,(D++split t l[k]).map encF)) ?_).trans ih
  simp only [xaY,xdd,xf3,List.length_map,xaD,xaE,decide_true,decide_false,Bool.and_true,Bool.true_and,Bool.not_true,Bool.not_false,Int.toNat_natCast,Int.natCast_nonneg,Option.isSome_some,Option.getD_some,beq_self_eq_true,Nat.zero_add,Nat.sub_zero,hlt,i0,i1,gf,cF0,cF1,cF2,sF0,sF1,sF2,lF,sF12,sF02,xG0,m1,m2,m3,m4,w,List.length_append,List.length_singleton]
  cases h1:hasP l[k].p t with
  | false=>simp [split,h1,xaE,encF]
  | true=>by_cases h2:l[k].p.1<t<;>simp [split,h1,h2,xaD,xaE,encF]
theorem xBR (l:List Fc) (t:Int) (ht:few l=true→Tx l):xcT (l.map encF) t=some true:=by
 unfold xcT xfC
 simp only [xJw,Option.isSome_some,Option.getD_some,xaD]
 cases hf:few l with
 | false=>rfl
 | true =>
  simp only [Bool.not_true,xaE]
  have htx:=ht hf
  obtain ⟨f1,f2⟩:=xAK hf
  have e0:=xwm l t (by omega) l.length [] (Nat.le_refl _) (by simp)
  rw [List.take_length,List.nil_append] at e0
  have hdl:(l.reverse.flatMap (split t)).length≤48:=by
   have:=xnQ (g:=split t) l.reverse fun f _=>xzS t f
   rw [List.length_reverse] at this;omega
  have hrow:∀ (Q:Row→Prop),(∀ f,f∈l→Q f.r)→∀ f,f∈l.reverse.flatMap (split t)→Q f.r:=fun Q hq f hf=>by
   obtain ⟨g,hg,h⟩:=List.mem_flatMap.1 hf
   rw [xFN t g f h];exact hq g (List.mem_reverse.1 hg)
  have hcnt:∀ r u,cnt (l.reverse.flatMap (split t)) r u=cnt l r u:=fun r u=>by rw [xvi];exact xHd (List.reverse_perm l) r u
  generalize l.reverse.flatMap (split t)=d at e0 hdl hrow hcnt
  have hb:=xIY hf htx
  have hbd:Bld d:=xBn (by omega) (hrow (fun r=>r.length≤60) f2) (hrow (fun r=>∀ v,v∈r→v.wf∧v.t.length≤1073741824) htx)
  obtain ⟨B,b1,b2⟩:=xBz l hb
  obtain ⟨B',c1,c2⟩:=xBz d hbd
  obtain rfl:B'=B:=c2.unique b2 hcnt
  obtain ⟨S,s1,s2⟩:=xEr l hb
  obtain ⟨S',d1,d2⟩:=xEr d hbd
  obtain rfl:S'=S:=d2.unique s2 hcnt
  have lB:=xCF f1 b2.len
  have lS:=xCF f1 s2.len
  have rB:∀ f,f∈B'→f.r.length≤60:=b2.all (Q:=fun r=>r.length≤60) f2
  have rS:∀ f,f∈S'→f.r.length≤60:=s2.all (Q:=fun r=>r.length≤60) f2
  have i1:=xzB B' B' (by omega) (fun f hf=>by have:=rB f hf;unfold maxLen;omega)
  have i2:=xzB S' S' (by omega) (fun f hf=>by have:=rS f hf;unfold maxLen;omega)
  rw [decide_eq_true rfl] at i1 i2
  have hbB:Bld B':=xBn (by omega) rB (b2.all (Q:=fun r=>∀ v,v∈r→v.wf∧v.t.length≤1073741824) htx)
  obtain ⟨B2,g1,g2⟩:=xBz B' hbB
  obtain rfl:B'=B2:=xIC b2 g2
  have i3:=xGR B' B' (by omega) (fun f hf=>by have:=rB f hf;omega)
  rw [decide_eq_true rfl] at i3
  have ec:xdQ (B'.map encF)=some true:=by
   unfold xdQ xgQ
   simp only [g1,i3,Option.isSome_some,Option.getD_some,xaD]
  have w:IntKind.i64.wrap ((l.length:Int) - 1)=(l.length:Int) - 1:=xcX (by omega) (by omega)
  have tt:List.take d.length (d.map encF)=d.map encF:=List.take_of_length_le (by simp)
  have e0:Iter (xaY (l.map encF) t) ((0:Nat),(l.length:Int) - 1,[])=_:=e0
  simp only [xhr,xhh,xhq,xhg,xhb,xhs,xha,xhf,xdO,xdV,xgT,xgU,List.length_map,w,e0,Option.isSome_some,Option.getD_some,xaD,Nat.zero_add,Nat.le_refl,decide_true,Bool.and_true,List.drop_zero,tt,b1,c1,i1,d1,s1,i2,ec]
end Go.Sim.M
end
noncomputable section
namespace Go.Sim
theorem xy8:∀ {xs:List AV} {x:AV},x∈xs→AV.wt x≤AV.wts xs
 | y::xs,x,h=>by
  simp only [AV.wts]
  rcases List.mem_cons.1 h with rfl|h
  · omega
  · have:=xy8 h;omega
theorem M.tx_wt {l:List M.Fc} (h:(AV.list 3 (l.map M.encF)).wt≤1048576) (hw:∀ y,y∈l→y.wf):M.Tx l:=fun f hf v hv=>by
 refine ⟨(hw f hf).1.2 v hv,?_⟩
 have h1:AV.wt (M.encF f)≤AV.wts (l.map M.encF):=xy8 (List.mem_map.2 ⟨f,hf,rfl⟩)
 have h2:AV.wt (M.encV v)≤AV.wts (f.r.map M.encV):=xy8 (List.mem_map.2 ⟨v,hv,rfl⟩)
 have e1:AV.wt (M.encF f)=AV.wts (f.r.map M.encV)+1+(1+(1+0)):=rfl
 have e2:AV.wt (M.encV v)=1+(1+(v.t.length+1+0)):=rfl
 have e3:(AV.list 3 (l.map M.encF)).wt=AV.wts (l.map M.encF)+1:=rfl
 omega
end Go.Sim
end
noncomputable section
namespace Go.Sim
theorem M.card_divided (l:List M.Fc) (t:Int) (w0:l.length≤maxLen∧∀ y,y∈l→y.wf) (w1:(Lit.int .i64 t).wf=true) (hb:(AV.list 3 (l.map M.encF)).wt+(AV.int .i64 t).wt≤1048576):M.xcT (l.map M.encF) t=some true:=M.xBR l t fun _=>M.tx_wt (by omega) w0.2
end Go.Sim
end
noncomputable section
set_option maxRecDepth 10000
namespace Go.Proofs.YtefloaolddjnhaaGreatDoor.coalesceDivided
open Go.ChangeShapes Go.WideShapes Go.ChangeAt Go.RowKit Go.Sim
theorem contract (H:Type) (enc:TypeId×Value→H) (W:World) (base:Nat) (args:Array Value) (ds gs:List (DataW H)) (before:List MemPlace)
  (hval:∀ (j:Nat) t v,Tryz.f6.params[j]?=some t→args[j]?=some v→Value.okWide Tryz.prog W .any base t v)
  (hW:DataW.Whole enc Tryz.prog Tryz.f6.params.toList Rows.coalesceDividedSpec.vars false W args.toList ds gs before) (hL:laidMetH Tryz.prog Rows.coalesceDividedUptoRow.laid W) (hsh:W.ShapedOpen Tryz.prog) (hbulk:Rows.uptoBulkAll (ds++gs)≤1048576) :
  Calls Tryz.prog 6 args W fun e W'=>∃ v,e=.returned v∧Rows.coalesceDividedSpec.post enc Tryz.prog Tryz.f6 false true false false W args v W':=by
 have hW':=hW
 obtain ⟨p,q,hA0,hV,rfl,hfz,hnd⟩:=hW
 have hA:DataW.TrodAll enc Tryz.prog W 0 (fun _=>true) true Tryz.f6.params.toList args.toList ds p:=hA0
 have hAk:=hA
 rw [Tryz.params6] at hA hval
 obtain ⟨v0,vs0,d0,ds0,p0,q0,hargs,rfl,rfl,h0,r0⟩:=trodAll_cons hA
 obtain ⟨v1,vs1,d1,ds1,p1,q1,rfl,rfl,rfl,h1,r1⟩:=trodAll_cons r0
 obtain ⟨rfl,rfl,rfl⟩:=trodAll_nil r1
 obtain rfl:args=#[v0,v1]:=by cases args;simp_all
 obtain ⟨rfl,rfl⟩:=trodVars_none hV
 obtain ⟨a0,rr0,b0,w0⟩:=xDC (hval 0 22 v0 rfl rfl) h0
 obtain ⟨a1,rr1,b1,w1⟩:=xHq (hval 1 3 v1 rfl rfl) h1
 clear hA0
 have hbulk:(.list 3 (a0.map M.encF):AV).wt+(.int .i64 a1:AV).wt≤1048576:=by
  rw [List.append_nil,xnT] at hbulk
  simp only [List.map_cons,List.map_nil,List.sum_cons,List.sum_nil] at hbulk
  have:=b0 _ xzC
  have:=b1 _ xzC
  omega
 have hI:ITryz W:=xJj rfl (by kernel_rfl) hL hsh
 have hpl:=M.card_divided a0 a1 w0 w1 hbulk
 have hg:Sim.Good Tryz.prog ITryz 6 [.list 3 (a0.map M.encF),.int .i64 a1] (.bool true):=M.xpW _ _ (by
  show some (_,AV.bool _)=_
  rw [hpl];rfl)
 have hrc:RC W (fun _=>False) noBox [v0,v1] [.list 3 (a0.map M.encF),.int .i64 a1]:=by
  refine ⟨rfl,fun i hi=>?_⟩
  match i,hi with
  | 0,_=>exact rr0
  | 1,_=>exact rr1
 refine (hg.2 W (fun _=>False) _ hI (fun _ h=>h.elim) hrc).mono fun e W' ⟨v,he,hb,hr⟩=>?_
 subst he
 obtain rfl:=hr.bool_inv
 exact ⟨_,rfl,xEA rfl hW' ⟨rfl,rfl,rfl⟩ rfl Tryz.underlying4 (by simpa using xsH laidTryz hb (by kernel_rfl) hAk) hb⟩
noncomputable def wit:Array Value:=#[.slice none 0 0,.int .i64 0]
theorem laid_met (os:Os):laidMet Tryz.prog Rows.coalesceDividedUptoRow.laid ((laidWorld Tryz.prog Rows.coalesceDividedUptoRow.laid os).forCall (fun _ _=>0) ⟨#[],wit,[]⟩).memory :=
 laidMet_of_run3 8 (by kernel_rfl) (by kernel_rfl) (by kernel_rfl)
theorem reads (os:Os) {H:Type} (enc:TypeId×Value→H):∃ places,DataW.whole enc Tryz.prog ((laidWorld Tryz.prog Rows.coalesceDividedUptoRow.laid os).forCall (fun _ _=>0) ⟨#[],wit,[]⟩).memory Tryz.f6.params.toList Rows.coalesceDividedSpec.vars false wit.toList 8=some ([.nil,.lit (.int .i64 0)],[],places) :=
 ⟨[],by kernel_rfl⟩
set_option maxRecDepth 100000 in
theorem lifted (os:Os) (started:os.Started) (H:Type) (enc:TypeId×Value→H) (F:Stop.Interp) :
  ReturnsInHanded {} Tryz.checked os 6 .any ((Rows.OpenSpec.upto Rows.coalesceDividedSpec).preRow enc Tryz.prog Tryz.f6 Rows.coalesceDividedUptoRow.domain false Rows.coalesceDividedUptoRow.laid) (((Rows.OpenSpec.upto Rows.coalesceDividedSpec).at F).post enc Tryz.prog Tryz.f6 false true false false):=by
 obtain ⟨places,hx⟩:=reads os enc
 refine returnsInHanded_of_row (C:=Tryz.checked) (s:=Rows.OpenSpec.upto Rows.coalesceDividedSpec) ownTryz started (by kernel_rfl) Tryz.func6
  (witness_row_at (enc:=enc) (C:=Tryz.checked) false (laidWorld Tryz.prog Rows.coalesceDividedUptoRow.laid os) wit rfl (by kernel_rfl) (by kernel_rfl) (by kernel_rfl)
   (OpenSpec.preRow_of_cond 8 hx (by kernel_rfl) (fun k hk=>by cases hk;kernel_rfl) (by kernel_rfl) (laid_met os))) ?_
 intro W base args ds gs before hval hW _ hcond _ hL hsh _
 exact contract H enc W base args ds gs before hval hW hL hsh (of_decide_eq_true (hcond _ rfl))
theorem said:Rows.CoalesceDividedUptoSaid :=
 OpenClaim.holds_of_cond 6 Tryz.f6 rfl rfl rfl rfl rfl rfl rfl ⟨rfl,rfl,rfl,rfl,rfl⟩ rfl rfl rfl rfl rfl (by kernel_rfl) Tryz.func6 (by kernel_rfl)
  (of_decide_eq_true (by kernel_rfl)) (by unfold Func.isWrapper;first|(rw [if_pos (by decide +kernel)];kernel_rfl)|(rw [if_neg (by decide +kernel)];exact ⟨rfl,rfl⟩))
  (fun os started H enc _ F=>by rw [OpenClaim.pre_eq_preRow];exact lifted os started H enc F)
theorem plain (f:FuncId) (fn:Func) (hf:Tryz.pinned.checked.prog.funcNamed "bitemporal/bitemporallaw22.CoalesceDivided" = some f) (hfn:Tryz.pinned.checked.prog.funcs[f]?=some fn) :
  false=Tryz.pinned.checked.prog.looks []∧∀ (j:Nat) t,fn.params[j]?=some t→Tryz.pinned.checked.prog.wantsStandIn t=false:=by
 obtain rfl:f=6:=Option.some.inj ((show Tryz.prog.funcNamed "bitemporal/bitemporallaw22.CoalesceDivided" = some 6 by kernel_rfl).symm.trans hf) |>.symm
 obtain rfl:fn=Tryz.f6:=(Option.some.inj (Tryz.func6.symm.trans hfn)).symm
 refine ⟨by kernel_rfl,fun j t ht=>?_⟩
 rw [Tryz.params6] at ht
 have hm:=Array.mem_of_getElem? ht
 have:([22,3]:List Nat).all (fun t=>!(Tryz.prog.wantsStandIn t))=true:=by kernel_rfl
 have:=List.all_eq_true.1 this t (by simpa using hm)
 show Tryz.prog.wantsStandIn t=false
 simpa using this
theorem card:Rows.CoalesceDividedUptoCardSaid :=
 Claim7.holds_tied_plain_at .later [] _ _ _ _ said (fun _ h=>by cases h) (by kernel_rfl) (fun _ h=>by cases h) coalesceDividedUpto_row_tie rfl ⟨rfl,rfl⟩ (by kernel_rfl) rfl plain (by kernel_rfl)
end Go.Proofs.YtefloaolddjnhaaGreatDoor.coalesceDivided
end
