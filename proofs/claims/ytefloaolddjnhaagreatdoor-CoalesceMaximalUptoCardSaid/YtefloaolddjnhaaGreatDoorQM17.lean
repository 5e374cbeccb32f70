/- Part 17 of the proof: PlK, SrG, PlR, PlA, PlB, PlD, PlTx, PlZM, CardMaximal. -/
import Derived.Test.YtefloaolddjnhaaGreatDoorQM16
import Derived.Lib.ItoaLen
set_option linter.unusedVariables false
set_option linter.unusedSimpArgs false
set_option linter.unnecessarySimpa false
set_option linter.unusedSectionVars false
noncomputable section
set_option maxRecDepth 100000
namespace Go.Sim.M
open Go.RowKit Go.Sim.Srt
def rdD (l:List UInt8):Nat:=l.foldl (fun a c=>a*10+(c.toNat - 48)) 0
theorem xzc (u:Nat):∀ c,c∈Lib.decDigits u→48≤c.toNat∧c.toNat≤57:=by
 induction u using Nat.strongRecOn with
 | _ u ih =>
  intro c hc
  rw [Lib.decDigits] at hc
  split at hc
  · rw [List.mem_singleton] at hc
    subst hc
    rw [UInt8.toNat_ofNat'];omega
  · rw [List.mem_append,List.mem_singleton] at hc
    rcases hc with hc|rfl
    · exact ih (u / 10) (by omega) c hc
    · rw [UInt8.toNat_ofNat'];omega
theorem xAU (u:Nat):rdD (Lib.decDigits u)=u:=by
 induction u using Nat.strongRecOn with
 | _ u ih =>
  rw [Lib.decDigits]
  split
  · simp only [rdD,List.foldl_cons,List.foldl_nil,UInt8.toNat_ofNat'];omega
  · have:=ih (u / 10) (by omega)
    unfold rdD at this ⊢
    rw [List.foldl_append,this]
    simp only [List.foldl_cons,List.foldl_nil,UInt8.toNat_ofNat'];omega
theorem xy8 {u v:Nat} (h:Lib.decDigits u=Lib.decDigits v):u=v:=by rw [←xAU u,h,xAU]
theorem xsj {a b:Int} (h:Lib.itoa a=Lib.itoa b):a=b:=by
 unfold Lib.itoa at h
 have k:∀ u v:Nat,45::Lib.decDigits u≠Lib.decDigits v:=fun u v e=>by
  have:=xzc v 45 (by rw [←e];simp)
  have t:(45:UInt8).toNat=45:=rfl
  omega
 split at h<;>split at h
 · have:=xy8 (List.cons.inj h).2;omega
 · exact absurd h (k _ _)
 · exact absurd h.symm (k _ _)
 · have:=xy8 h;omega
theorem xnh (a:Int):(32:UInt8)∉Lib.itoa a:=by
 have k:∀ v:Nat,(32:UInt8)∉Lib.decDigits v:=fun v e=>by
  have:=xzc v 32 e
  have t:(32:UInt8).toNat=32:=rfl
  omega
 unfold Lib.itoa
 split
 · rw [List.mem_cons]
   rintro (h|h)
   · simp at h
   · exact k _ h
 · exact k _
theorem xtP:∀ {a b x y:List UInt8},(32:UInt8)∉a→(32:UInt8)∉b→a++32::x=b++32::y→a=b∧x=y
 | [],[],x,y,_,_,h=>⟨rfl,(List.cons.inj h).2⟩
 | [],c::b,x,y,_,hb,h=>absurd (List.cons.inj h).1 fun e=>hb (by rw [e];simp)
 | c::a,[],x,y,ha,_,h=>absurd (List.cons.inj h).1 fun e=>ha (by rw [←e];simp)
 | c::a,d::b,x,y,ha,hb,h=>by
  obtain ⟨e1,h⟩:=List.cons.inj h
  obtain ⟨e2,e3⟩:=xtP (a:=a) (b:=b) (fun e=>ha (by simp [e])) (fun e=>hb (by simp [e])) h
  exact ⟨by rw [e1,e2],e3⟩
def keyV (v:Val):List UInt8:=Lib.itoa v.k++32::(Lib.itoa v.i++32::(Lib.itoa (v.t.length:Int)++32::v.t))
def keyOf (r:Row):List UInt8:=r.flatMap keyV
theorem xsz (v:Val) (s:List UInt8):keyV v++s=Lib.itoa v.k++32::(Lib.itoa v.i++32::(Lib.itoa (v.t.length:Int)++32::(v.t++s))):=by simp [keyV]
theorem xln (v:Val) (r:Row):keyOf (v::r)=keyV v++keyOf r:=by simp [keyOf]
theorem xuq (v:Val) (s:List UInt8):keyV v++s≠[]:=by rw [xsz];simp
theorem xyM:∀ {r r':Row},keyOf r=keyOf r'→r=r'
 | [],[],_=>rfl
 | [],v::r',h=>by rw [xln] at h;exact absurd h.symm (xuq _ _)
 | v::r,[],h=>by rw [xln] at h;exact absurd h (xuq _ _)
 | v::r,v'::r',h=>by
  rw [xln,xln,xsz,xsz] at h
  obtain ⟨h1,h⟩:=xtP (xnh _) (xnh _) h
  obtain ⟨h2,h⟩:=xtP (xnh _) (xnh _) h
  obtain ⟨h3,h⟩:=xtP (xnh _) (xnh _) h
  have h3:=xsj h3
  obtain ⟨h4,h⟩:=List.append_inj h (by omega)
  obtain rfl:=xyM h
  have:v=v':=by
   obtain ⟨k,i,t⟩:=v;obtain ⟨k',i',t'⟩:=v'
   obtain rfl:=xsj h1;obtain rfl:=xsj h2;subst h4;rfl
  rw [this]
theorem rng64 {n:Int} (h:(Lit.int .i64 n).wf=true):-9223372036854775808≤n∧n≤9223372036854775807:=by
 have h:(decide ((IntKind.i64).min≤n)&&decide (n≤(IntKind.i64).max))=true:=h
 rw [Bool.and_eq_true,decide_eq_true_eq,decide_eq_true_eq] at h
 exact h
theorem xvY {v:Val} (hw:v.wf) (ht:v.t.length≤1099511627776):(keyV v).length≤66+v.t.length:=by
 obtain ⟨w1,w2,_⟩:=hw
 have a1:=Lib.itoa_length_le v.k (rng64 w1).1 (rng64 w1).2
 have a2:=Lib.itoa_length_le v.i (rng64 w2).1 (rng64 w2).2
 have a3:=Lib.itoa_length_le (v.t.length:Int) (by omega) (by omega)
 simp only [keyV,List.length_append,List.length_cons]
 omega
theorem xur (s B:List UInt8) (h:(B++s).length≤140737488355328):xaG s B.length (byteAVs B)=some ((s.length:Int),(B++s).length,byteAVs (B++s)):=by
 rw [List.length_append] at h
 have h2:B.length+s.length≤4611686018427387904:=by omega
 unfold xaG xc3
 simp only [xjz,beq_self_eq_true,Nat.mul_one,h,h2,decide_true,Bool.and_self,xaE,xpa,List.length_append]
theorem xwt (B:List UInt8) (h:(B++[32]).length≤140737488355328):xbe 32 B.length (byteAVs B)=some ((B++[32]).length,byteAVs (B++[32])):=by
 rw [List.length_append,List.length_singleton] at h
 have h2:B.length+1≤4611686018427387904:=by omega
 unfold xbe xdh
 simp only [xjz,beq_self_eq_true,Nat.mul_one,h,h2,decide_true,Bool.and_self,xaE,xpa,List.length_append,List.length_singleton]
 rfl
def numI (n:Int):List UInt8:=Lib.itoa n++[32]
theorem xz8 (t8:List AV) (t9 t10:Int) (xs:List AV) (hx:xs.length=3) (j:Nat) (hj:j<3) (n:Int) (hn:xs.getD j .top=.int .i64 n) (h1:-9223372036854775808≤n) (h2:n≤9223372036854775807) (v0 v1:Int) (v2 B:List UInt8) (hB:B.length≤70368744177664) :
  xbb t8 t9 t10 3 3 ((j:Int),B.length,v0,v1,v2,xs,byteAVs B)=some (.inl (((j+1:Nat):Int),(B++numI n).length,v0,v1,v2,xs,byteAVs (B++numI n))):=by
 have hl:=Lib.itoa_length_le n h1 h2
 have i1:(j:Int)<3:=by omega
 have i2:(j:Int)<((3:Nat):Int):=by omega
 have i3:j<xs.length:=by omega
 have e1:=xur (Lib.itoa n) B (by rw [List.length_append];omega)
 have e2:=xwt (B++Lib.itoa n) (by rw [List.length_append,List.length_append,List.length_singleton];omega)
 have hc:((AV.int IntKind.i64 n).cells.getD 0 .top).toInt=n:=rfl
 have hs:hasSh1 (Sh.int IntKind.i64) ((AV.int IntKind.i64 n).cells.getD 0 .top)=true:=rfl
 simp only [xbb,xfW,xiK,xi6,xiI,xft,List.length_map,xaE,xaD,decide_true,decide_false,Bool.and_true,Bool.true_and,Bool.not_true,Bool.not_false,Int.toNat_natCast,Int.natCast_nonneg,Option.isSome_some,Option.getD_some,beq_self_eq_true,Nat.zero_add,Nat.sub_zero,i1,i2,i3,hn,hc,hs,h1,h2,e1,e2,wrapS (n:=j) (by omega),numI,List.append_assoc]
theorem xEM (t8:List AV) (t9 t10:Int) (xs:List AV) (v0 v1:Int) (v2 B:List UInt8):xbb t8 t9 t10 3 3 (((3:Nat):Int),B.length,v0,v1,v2,xs,byteAVs B)=some (.inr (B.length,v0,v1,v2,byteAVs B)):=by
 have i1:¬ ((3:Nat):Int)<3:=by omega
 simp only [xbb,xfW,i1,decide_false,xaD]
theorem xsI (v:Val):keyV v=numI v.k++(numI v.i++(numI (v.t.length:Int)++v.t)):=by simp [keyV,numI]
def KOk (v:Val):Prop:=v.wf∧v.t.length≤1099511627776
theorem KOk.len {v:Val} (h:KOk v):(keyV v).length≤1099511627842:=by have:=xvY h.1 h.2;have:=h.2;omega
theorem xy2 (t8:List AV) (t9 t10:Int) (v:Val) (h:KOk v) (B:List UInt8) (hB:B.length≤35184372088832) :
  Iter (xbb t8 t9 t10 3 3) ((1:Int),(B++numI v.k).length,v.k,v.i,v.t,[AV.int .i64 v.k,AV.int .i64 v.i,AV.int .i64 (v.t.length:Int)],byteAVs (B++numI v.k))=some ((B++numI v.k++numI v.i++numI (v.t.length:Int)).length,v.k,v.i,v.t,byteAVs (B++numI v.k++numI v.i++numI (v.t.length:Int))):=by
 have hl:=h.len
 have ht:=h.2
 rw [xsI,List.length_append,List.length_append,List.length_append] at hl
 have e1:=xz8 t8 t9 t10 [AV.int .i64 v.k,AV.int .i64 v.i,AV.int .i64 (v.t.length:Int)] rfl 1 (by omega) v.i rfl (rng64 h.1.2.1).1 (rng64 h.1.2.1).2 v.k v.i v.t (B++numI v.k) (by rw [List.length_append];omega)
 have e2:=xz8 t8 t9 t10 [AV.int .i64 v.k,AV.int .i64 v.i,AV.int .i64 (v.t.length:Int)] rfl 2 (by omega) (v.t.length:Int) rfl (by omega) (by omega) v.k v.i v.t (B++numI v.k++numI v.i) (by rw [List.length_append,List.length_append];omega)
 exact (xcX e1).trans ((xcX e2).trans (xax (xEM ..)))
theorem xFV (t8:List AV) (t9 t10:Int) (v:Val) (h:KOk v) (B:List UInt8) (hB:B.length≤35184372088832) :
  Iter (xbb t8 t9 t10 3 3) ((0:Int),B.length,v.k,v.i,v.t,[AV.int .i64 v.k,AV.int .i64 v.i,AV.int .i64 (v.t.length:Int)],byteAVs B)=some ((B++numI v.k++numI v.i++numI (v.t.length:Int)).length,v.k,v.i,v.t,byteAVs (B++numI v.k++numI v.i++numI (v.t.length:Int))):=by
 have e0:=xz8 t8 t9 t10 [AV.int .i64 v.k,AV.int .i64 v.i,AV.int .i64 (v.t.length:Int)] rfl 0 (by omega) v.k rfl (rng64 h.1.1).1 (rng64 h.1.1).2 v.k v.i v.t B (by omega)
 exact (xcX e0).trans (xy2 t8 t9 t10 v h B hB)
theorem xA3 (r:Row) (hr:r.length≤1048576) (h:∀ v,v∈r→KOk v) (hk:(keyOf r).length≤17592186044416):∀ d k:Nat,k+d=r.length→Iter (xb5 (r.map encV) ((r.length:Nat):Int)) ((k:Int),(keyOf (r.take k)).length,byteAVs (keyOf (r.take k)))=some ((keyOf r).length,byteAVs (keyOf r))
 | 0,k,hkk=>by
  obtain rfl:k=r.length:=by omega
  rw [List.take_length]
  refine xax ?_
  simp only [xb5,xfx,Int.lt_irrefl,decide_false,xaD]
 | d+1,k,hkk=>by
  have hlt:k<r.length:=by omega
  have hv:=h r[k] (List.getElem_mem hlt)
  have i1:(k:Int)<(r.length:Int):=by omega
  have gf:(r.map encV).getD k .top=encV r[k]:=xbU _ _ _ hlt
  have tk:keyOf (r.take (k+1))=keyOf (r.take k)++keyV r[k]:=by
   unfold keyOf;rw [List.take_add_one,List.getElem?_eq_getElem hlt,List.flatMap_append];simp
  have le:(keyOf (r.take (k+1))).length≤(keyOf r).length:=by
   conv=>rhs;rw [←List.take_append_drop (k+1) r]
   unfold keyOf
   rw [List.flatMap_append,List.length_append];omega
  have hl:=hv.len
  rw [tk,List.length_append] at le
  have e1:=xFV (r.map encV) (r.length:Int) (k:Int) r[k] hv (keyOf (r.take k)) (by omega)
  have kn:keyOf (r.take k)++keyV r[k]=keyOf (r.take k)++numI r[k].k++numI r[k].i++numI (r[k].t.length:Int)++r[k].t:=by rw [xsI];simp only [List.append_assoc]
  have e2:=xur r[k].t (keyOf (r.take k)++numI r[k].k++numI r[k].i++numI (r[k].t.length:Int)) (by rw [←kn,List.length_append];omega)
  rw [xcX (s':=(((k+1:Nat):Int),(keyOf (r.take (k+1))).length,byteAVs (keyOf (r.take (k+1))))) ?_]
  · exact xA3 r hr h hk d (k+1) (by omega)
  · rw [tk,kn]
    simp only [xb5,xfx,xiW,xjd,xi1,xjg,xi3,List.length_map,xaE,xaD,decide_true,decide_false,Bool.and_true,Bool.true_and,Bool.not_true,Bool.not_false,Int.toNat_natCast,Int.natCast_nonneg,Option.isSome_some,Option.getD_some,beq_self_eq_true,Nat.zero_add,Nat.sub_zero,hlt,i1,gf,cV0,cV1,cV2,lV,sV,e1,e2,wrapS (n:=k) (by omega)]
theorem xFE (r:Row) (hr:r.length≤1048576) (h:∀ v,v∈r→KOk v) (hk:(keyOf r).length≤17592186044416):xeK (r.map encV)=some (keyOf r):=by
 match r with
 | []=>rfl
 | v::t =>
  have hv:=h v (by simp)
  have hl:=hv.len
  have i1:(0:Int)<((t.length+1:Nat):Int):=by omega
  have i2:0<t.length+1:=by omega
  obtain ⟨r1,r2⟩:=rng64 hv.1.1
  have hln:=Lib.itoa_length_le v.k r1 r2
  have gf:((v::t).map encV).getD 0 .top=encV v:=rfl
  have e0:xaJ (Lib.itoa v.k)=some (((Lib.itoa v.k).length:Int),(Lib.itoa v.k).length,byteAVs (Lib.itoa v.k)):=by
   have m1:(Lib.itoa v.k).length≤140737488355328:=by omega
   have m2:(Lib.itoa v.k).length≤4611686018427387904:=by omega
   unfold xaJ xdd
   simp only [xjz,Nat.mul_one,m1,m2,decide_true,Bool.and_self,xaE]
  have e1:xbt 32 (Lib.itoa v.k).length (byteAVs (Lib.itoa v.k))=some (([]++numI v.k).length,byteAVs ([]++numI v.k)):=xwt (Lib.itoa v.k) (by rw [List.length_append,List.length_singleton];omega)
  have e2:=xy2 ((v::t).map encV) ((t.length+1:Nat):Int) 0 v hv [] (by simp)
  have kn:keyV v=[]++numI v.k++numI v.i++numI (v.t.length:Int)++v.t:=by rw [xsI];simp
  have e3:=xur v.t ([]++numI v.k++numI v.i++numI (v.t.length:Int)) (by rw [←kn];omega)
  rw [←kn] at e3
  have e4:=xA3 (v::t) hr h hk t.length 1 (by rw [List.length_cons];omega)
  have tk:keyOf ((v::t).take 1)=keyV v:=by simp [keyOf]
  rw [tk,List.length_cons] at e4
  have e4:Iter (xb5 ((v::t).map encV) ((t.length+1:Nat):Int)) ((1:Int),(keyV v).length,byteAVs (keyV v))=_:=e4
  have hne:(keyOf (v::t)).length≠0:=fun e=>xuq v (keyOf t) (by rw [←xln];exact List.length_eq_zero_iff.1 e)
  unfold xeK xjJ xhk xlb xlr xk8 xlf xlt xlc xle xkZ xly xdy
  simp only [List.length_map,List.length_cons,i1,i2,gf,cV0,cV1,cV2,lV,sV,r1,r2,e0,e1,e2,e3,e4,decide_true,xaE,Bool.and_self,beq_self_eq_true,Option.isSome_some,Option.getD_some,xjz,xtI,xvM,ne_eq,hne,not_false_eq_true]
end Go.Sim.M
end
noncomputable section
set_option maxRecDepth 100000
namespace Go.Sim.M
open Go.RowKit Go.Sim.Srt
abbrev Grp:=Row×List Per
def encG (g:Grp):AV:=.agg [.list 3 (g.1.map encV),.list 2 (g.2.map encP)]
def okEG (x:AV):Bool:=x.cells.length==(2:Nat)&&hasShs [Sh.list (3:Nat),Sh.list (2:Nat)] x.cells (0:Nat)
def ldEG (x:AV):AV:=AV.agg [AV.list (3:Nat) (x.cells.getD (0:Nat) AV.top).toList,AV.list (2:Nat) (x.cells.getD (1:Nat) AV.top).toList]
noncomputable def cmpPG (x y:AV):Bool:=(xce (x.cells.getD 0 AV.top).toList (x.cells.getD 1 AV.top).toList (y.cells.getD 0 AV.top).toList (y.cells.getD 1 AV.top).toList).isSome
noncomputable def cmpVG (x y:AV):Int:=(xce (x.cells.getD 0 AV.top).toList (x.cells.getD 1 AV.top).toList (y.cells.getD 0 AV.top).toList (y.cells.getD 1 AV.top).toList).getD 0
theorem heG (a:Grp):okEG (encG a)=true:=rfl
theorem hdG (a:Grp):ldEG (encG a)=encG a:=rfl
section
variable {N : Nat} (hN : N ≤ 2 ^ 60) {ok : Grp → Prop} {c : Grp → Grp → Int} (hc : ∀ x y, ok x → ok y → cmpPG (encG x) (encG y) = true ∧ cmpVG (encG x) (encG y) = c x y)
include hN
theorem xD7 (a b n:Nat) (l r:List Grp) (ha:a≤2 ^ 60) (hb:b≤2 ^ 60) (hn:n≤2 ^ 60) (hl:LOk N ok l) (hr:swr a b n l=some r):xaO N a b n (List.map encG l)=some (List.map encG r)∧LOk N ok r:=by
 obtain ⟨e1,e2⟩:=xEt (okE:=okEG) (ldE:=ldEG) heG hdG hN a b n ha hb hn (g:=xba N a b n) (fun i xs=>rfl) hl hr
 refine ⟨?_,e2⟩
 unfold xaO xd1
 rw [e1];rfl
theorem xFX (a m b:Nat) (l r:List Grp) (h1:a≤m) (h2:m≤b) (h3:b≤N) (hl:LOk N ok l) (hr:rot a m b l=some r):xa9 N a m b (List.map encG l)=some (List.map encG r)∧LOk N ok r:=by
 unfold rot at hr
 cases hi:Iter (rotStep m) (m - a,b - m,l) with
 | none=>rw [hi] at hr;simp at hr
 | some p =>
  obtain ⟨i,l'⟩:=p
  rw [hi] at hr
  obtain ⟨e1,e2,e3⟩:=xFg (enc:=encG) hN (ok:=ok) (SW:=fun a b n xs=>xaO N a b n xs) (fun a b n l r ha hb hn hl hr=>xD7 hN a b n l r ha hb hn hl hr) m (by omega) (g:=xbN N m) (fun i j xs=>rfl) (by omega) (by omega) hl hi
  obtain ⟨e4,e5⟩:=xD7 hN (m - i) m i l' r (by omega) (by omega) (by omega) e3 hr
  refine ⟨?_,e5⟩
  simp only [xa9,xeD,xf2,xf6,xf8,xf3,w64 (x:=(m:Int) - (a:Int)) (n:=m - a) (by omega) (by omega),w64 (x:=(b:Int) - (m:Int)) (n:=b - m) (by omega) (by omega),e1,Option.getD_some,Option.isSome_some,xaE,w64 (x:=(m:Int) - (i:Int)) (n:=m - i) (by omega) (by omega),e4]
include hc
theorem xEi (a b:Nat) (ha:a≤N) (hb:b≤N) {l r:List Grp} (hl:LOk N ok l) (hr:insSort c a b l=some r):xaS N a b (List.map encG l)=some (List.map encG r)∧LOk N ok r:=by
 obtain ⟨e1,e2⟩:=xC3 (enc:=encG) hN (c:=c) (ok:=ok) a b hb (gi:=fun i=>xa0 N a b i) (fun i l r hl hr=>xEv (okE:=okEG) (ldE:=ldEG) heG hdG hN (P:=cmpPG) (V:=cmpVG) hc a (fun j xs=>rfl) hl hr) (g:=xaZ N a b) (fun i xs=>rfl) hl hr
 refine ⟨?_,e2⟩
 unfold xaS xdb
 rw [w64 (x:=(a:Int)+1) (n:=a+1) (by omega) (by omega),e1];rfl
theorem xDW:∀ (f a m b:Nat) (l r:List Grp),a<m→m<b→b≤N→LOk N ok l→symM c f a m b l=some r→xaK f N a m b (List.map encG l)=some (List.map encG r)∧LOk N ok r:=by
 intro f
 induction f with
 | zero=>intro a m b l r _ _ _ _ hr;simp [symM] at hr
 | succ f ih =>
  intro a m b l r ham hmb hb hl hr
  unfold symM at hr
  show xas (xaK f) N a m b (List.map encG l)=some (List.map encG r)∧LOk N ok r
  have wma:IntKind.i64.wrap ((m:Int) - (a:Int))=((m - a:Nat):Int):=w64 (by omega) (by omega)
  have wbm:IntKind.i64.wrap ((b:Int) - (m:Int))=((b - m:Nat):Int):=w64 (by omega) (by omega)
  by_cases h1:m - a=1
  · rw [if_pos h1] at hr
    cases hi:Iter (bsStep fun h=>(get2 c l h a).map fun r=>decide (r<0)) (m,b) with
    | none=>rw [hi] at hr;simp at hr
    | some i =>
     rw [hi] at hr
     obtain ⟨e0,b1,b2⟩:=xwd (okE:=okEG) heG hN (P:=cmpPG) (V:=cmpVG) hc (fun h=>h) (fun _=>a) (fun h=>h) (fun _=>(a:Int)) m b (by omega) (fun _ _ _=>rfl) (fun _ _ _=>rfl) (fun r=>decide (r<0)) (g:=xa1 N a) (fun i j xs=>rfl) hl (Nat.le_refl _) (Nat.le_refl _) (by omega) hi
     obtain ⟨e1,e2⟩:=xFs (okE:=okEG) (ldE:=ldEG) heG hdG hN (ok:=ok) (i - 1) i (by omega) (by omega) (g:=xbu N i) (fun k xs=>rfl) hl hr
     refine ⟨?_,e2⟩
     simp only [xas,xaC,xal,xam,xad,xak,xan,xae,xaf,xag,xac,xab,xao,xaq,xap,xaa,xar,xay,xat,xau,xav,xaz,xaB,xaw,xaA,xai,xah,wma,h1,e0,Option.getD_some,Option.isSome_some,xaE,e1,Int.natCast_one,beq_self_eq_true]
  · rw [if_neg h1] at hr
    have d1:(((m - a:Nat):Int)==1)=false:=by simp;omega
    by_cases h2:b - m=1
    · rw [if_pos h2] at hr
      cases hi:Iter (bsStep fun h=>(get2 c l m h).map fun r=>!decide (r<0)) (a,m) with
      | none=>rw [hi] at hr;simp at hr
      | some i =>
       rw [hi] at hr
       obtain ⟨e0,b1,b2⟩:=xwd (okE:=okEG) heG hN (P:=cmpPG) (V:=cmpVG) hc (fun _=>m) (fun h=>h) (fun _=>(m:Int)) (fun h=>h) a m (by omega) (fun _ _ _=>rfl) (fun _ _ _=>rfl) (fun r=>!decide (r<0)) (g:=xa2 N m) (fun i j xs=>rfl) hl (Nat.le_refl _) (Nat.le_refl _) (by omega) hi
       obtain ⟨e1,e2⟩:=xC6 (okE:=okEG) (ldE:=ldEG) heG hdG hN (ok:=ok) i (g:=xbv N i) (fun k xs=>rfl) hl hr
       refine ⟨?_,e2⟩
       simp only [xas,xaC,xal,xam,xad,xak,xan,xae,xaf,xag,xac,xab,xao,xaq,xap,xaa,xar,xay,xat,xau,xav,xaz,xaB,xaw,xaA,xai,xah,wma,wbm,d1,h2,e0,Option.getD_some,Option.isSome_some,xaE,xaD,e1,Int.natCast_one,beq_self_eq_true]
    · rw [if_neg h2] at hr
      have d2:(((b - m:Nat):Int)==1)=false:=by simp;omega
      have hh:IntKind.i64.wrap ((IntKind.u64.wrap (IntKind.i64.wrap ((a:Int)+(b:Int)))).fdiv 2)=(((a+b) / 2:Nat):Int):=half64 (by omega)
      obtain ⟨mid,hmid⟩:∃ mid,mid=(a+b) / 2:=⟨_,rfl⟩
      rw [←hmid] at hr hh
      have w2:IntKind.i64.wrap ((mid:Int)+(m:Int))=((mid+m:Nat):Int):=w64 (by omega) (by omega)
      have w3:IntKind.i64.wrap (((mid+m:Nat):Int) - 1)=((mid+m - 1:Nat):Int):=w64 (by omega) (by omega)
      obtain ⟨lo,hi,hlh,g1,g2,g3,g4,hst⟩:∃ lo hi,(if mid<m then (mid+m - b,mid) else (a,m))=(lo,hi)∧a≤lo∧lo≤hi∧hi≤m∧hi≤mid∧((mid<m∧lo=mid+m - b∧hi=mid)∨(¬ mid<m∧lo=a∧hi=m)):=by
       by_cases h:mid<m
       · exact ⟨_,_,if_pos h,by omega,by omega,by omega,by omega,.inl ⟨h,rfl,rfl⟩⟩
       · exact ⟨_,_,if_neg h,by omega,by omega,by omega,by omega,.inr ⟨h,rfl,rfl⟩⟩
      rw [hlh] at hr
      cases hs:Iter (bsStep fun h=>(get2 c l (mid+m - 1 - h) h).map fun r=>!decide (r<0)) (lo,hi) with
      | none=>rw [hs] at hr;simp at hr
      | some s =>
       rw [hs] at hr
       dsimp only at hr
       obtain ⟨e0,b1,b2⟩:=xwd (okE:=okEG) heG hN (P:=cmpPG) (V:=cmpVG) hc (fun h=>mid+m - 1 - h) (fun h=>h) (fun h=>IntKind.i64.wrap (((mid+m - 1:Nat):Int) - h)) (fun h=>h) lo hi (by omega) (fun h _ _=>w64 (by omega) (by omega)) (fun _ _ _=>rfl) (fun r=>!decide (r<0)) (g:=xbc N a m b mid ((mid+m:Nat):Int) ((mid+m - 1:Nat):Int)) (fun i j xs=>rfl) hl (Nat.le_refl _) (Nat.le_refl _) g2 hs
       have w5:IntKind.i64.wrap (((mid+m:Nat):Int) - (s:Int))=((mid+m - s:Nat):Int):=w64 (by omega) (by omega)
       obtain ⟨e,he⟩:∃ e,e=mid+m - s:=⟨_,rfl⟩
       rw [←he] at hr w5
       cases hrot:(if s<m∧m<e then rot s m e l else some l) with
       | none=>rw [hrot] at hr;simp at hr
       | some l1 =>
        rw [hrot] at hr
        dsimp only at hr
        have k1:(s<m∧m<e∧xa9 N s m e (List.map encG l)=some (List.map encG l1)∧LOk N ok l1)∨(¬ (s<m∧m<e)∧l1=l):=by
         by_cases h:s<m∧m<e
         · rw [if_pos h] at hrot
           obtain ⟨x1,x2⟩:=xFX hN s m e l l1 (by omega) (by omega) (by omega) hl hrot
           exact .inl ⟨h.1,h.2,x1,x2⟩
         · rw [if_neg h] at hrot
           simp only [Option.some.injEq] at hrot
           exact .inr ⟨h,hrot.symm⟩
        have hl1:LOk N ok l1:=by
         rcases k1 with k|k
         · exact k.2.2.2
         · rw [k.2];exact hl
        cases hlf:(if a<s∧s<mid then symM c f a s mid l1 else some l1) with
        | none=>rw [hlf] at hr;simp at hr
        | some l2 =>
         rw [hlf] at hr
         dsimp only at hr
         have k2:(a<s∧s<mid∧xaK f N a s mid (List.map encG l1)=some (List.map encG l2)∧LOk N ok l2)∨(¬ (a<s∧s<mid)∧l2=l1):=by
          by_cases h:a<s∧s<mid
          · rw [if_pos h] at hlf
            obtain ⟨x1,x2⟩:=ih a s mid l1 l2 h.1 h.2 (by omega) hl1 hlf
            exact .inl ⟨h.1,h.2,x1,x2⟩
          · rw [if_neg h] at hlf
            simp only [Option.some.injEq] at hlf
            exact .inr ⟨h,hlf.symm⟩
         have hl2:LOk N ok l2:=by
          rcases k2 with k|k
          · exact k.2.2.2
          · rw [k.2];exact hl1
         have k3:(mid<e∧e<b∧xaK f N mid e b (List.map encG l2)=some (List.map encG r)∧LOk N ok r)∨(¬ (mid<e∧e<b)∧r=l2):=by
          by_cases h:mid<e∧e<b
          · rw [if_pos h] at hr
            obtain ⟨x1,x2⟩:=ih mid e b l2 r h.1 h.2 hb hl2 hr
            exact .inl ⟨h.1,h.2,x1,x2⟩
          · rw [if_neg h] at hr
            simp only [Option.some.injEq] at hr
            exact .inr ⟨h,hr.symm⟩
         refine ⟨?_,?_⟩
         · clear ih hc hl hl1 hl2 hr hlf hrot hs hlh
           rcases hst with ⟨hm,hlo,hhi⟩|⟨hm,hlo,hhi⟩
           · rw [hlo,hhi] at e0
             have w4:IntKind.i64.wrap (((mid+m:Nat):Int) - (b:Int))=((mid+m - b:Nat):Int):=w64 (by omega) (by omega)
             have dm:decide ((m:Int)>(mid:Int))=true:=by simp [hm]
             rcases k1 with ⟨p1,p2,p3,_⟩|⟨p1,rfl⟩<;>rcases k2 with ⟨q1,q2,q3,_⟩|⟨q1,rfl⟩<;>rcases k3 with ⟨r1,r2,r3,_⟩|⟨r1,rfl⟩ <;>
              (by_cases t1:s<m<;>by_cases t2:m<e<;>by_cases t3:a<s<;>by_cases t4:s<mid<;>by_cases t5:mid<e<;>by_cases t6:e<b<;>first|(exfalso;omega) |
               (simp only [xas,xaC,xal,xam,xad,xak,xan,xae,xaf,xag,xac,xab,xao,xaq,xap,xaa,xar,xay,xat,xau,xav,xaz,xaB,xaw,xaA,xai,xah,wma,wbm,d1,d2,hh,w2,w3,w4,dm,e0,w5,Option.getD_some,Option.isSome_some,xaE,xaD,Int.ofNat_lt,t1,t2,t3,t4,t5,t6,decide_true,decide_false,hm,p3,q3,r3]) |
               (simp only [xas,xaC,xal,xam,xad,xak,xan,xae,xaf,xag,xac,xab,xao,xaq,xap,xaa,xar,xay,xat,xau,xav,xaz,xaB,xaw,xaA,xai,xah,wma,wbm,d1,d2,hh,w2,w3,w4,dm,e0,w5,Option.getD_some,Option.isSome_some,xaE,xaD,Int.ofNat_lt,t1,t2,t3,t4,t5,t6,decide_true,decide_false,hm,p3,q3]) |
               (simp only [xas,xaC,xal,xam,xad,xak,xan,xae,xaf,xag,xac,xab,xao,xaq,xap,xaa,xar,xay,xat,xau,xav,xaz,xaB,xaw,xaA,xai,xah,wma,wbm,d1,d2,hh,w2,w3,w4,dm,e0,w5,Option.getD_some,Option.isSome_some,xaE,xaD,Int.ofNat_lt,t1,t2,t3,t4,t5,t6,decide_true,decide_false,hm,p3,r3]) |
               (simp only [xas,xaC,xal,xam,xad,xak,xan,xae,xaf,xag,xac,xab,xao,xaq,xap,xaa,xar,xay,xat,xau,xav,xaz,xaB,xaw,xaA,xai,xah,wma,wbm,d1,d2,hh,w2,w3,w4,dm,e0,w5,Option.getD_some,Option.isSome_some,xaE,xaD,Int.ofNat_lt,t1,t2,t3,t4,t5,t6,decide_true,decide_false,hm,q3,r3]) |
               (simp only [xas,xaC,xal,xam,xad,xak,xan,xae,xaf,xag,xac,xab,xao,xaq,xap,xaa,xar,xay,xat,xau,xav,xaz,xaB,xaw,xaA,xai,xah,wma,wbm,d1,d2,hh,w2,w3,w4,dm,e0,w5,Option.getD_some,Option.isSome_some,xaE,xaD,Int.ofNat_lt,t1,t2,t3,t4,t5,t6,decide_true,decide_false,hm,p3]) |
               (simp only [xas,xaC,xal,xam,xad,xak,xan,xae,xaf,xag,xac,xab,xao,xaq,xap,xaa,xar,xay,xat,xau,xav,xaz,xaB,xaw,xaA,xai,xah,wma,wbm,d1,d2,hh,w2,w3,w4,dm,e0,w5,Option.getD_some,Option.isSome_some,xaE,xaD,Int.ofNat_lt,t1,t2,t3,t4,t5,t6,decide_true,decide_false,hm,q3]) |
               (simp only [xas,xaC,xal,xam,xad,xak,xan,xae,xaf,xag,xac,xab,xao,xaq,xap,xaa,xar,xay,xat,xau,xav,xaz,xaB,xaw,xaA,xai,xah,wma,wbm,d1,d2,hh,w2,w3,w4,dm,e0,w5,Option.getD_some,Option.isSome_some,xaE,xaD,Int.ofNat_lt,t1,t2,t3,t4,t5,t6,decide_true,decide_false,hm,r3]) |
               (simp only [xas,xaC,xal,xam,xad,xak,xan,xae,xaf,xag,xac,xab,xao,xaq,xap,xaa,xar,xay,xat,xau,xav,xaz,xaB,xaw,xaA,xai,xah,wma,wbm,d1,d2,hh,w2,w3,w4,dm,e0,w5,Option.getD_some,Option.isSome_some,xaE,xaD,Int.ofNat_lt,t1,t2,t3,t4,t5,t6,decide_true,decide_false,hm]))
           · rw [hlo,hhi] at e0
             have dm:decide ((m:Int)>(mid:Int))=false:=by simp;omega
             rcases k1 with ⟨p1,p2,p3,_⟩|⟨p1,rfl⟩<;>rcases k2 with ⟨q1,q2,q3,_⟩|⟨q1,rfl⟩<;>rcases k3 with ⟨r1,r2,r3,_⟩|⟨r1,rfl⟩ <;>
              (by_cases t1:s<m<;>by_cases t2:m<e<;>by_cases t3:a<s<;>by_cases t4:s<mid<;>by_cases t5:mid<e<;>by_cases t6:e<b<;>first|(exfalso;omega) |
               (simp only [xas,xaC,xal,xam,xad,xak,xan,xae,xaf,xag,xac,xab,xao,xaq,xap,xaa,xar,xay,xat,xau,xav,xaz,xaB,xaw,xaA,xai,xah,wma,wbm,d1,d2,hh,w2,w3,dm,e0,w5,Option.getD_some,Option.isSome_some,xaE,xaD,Int.ofNat_lt,t1,t2,t3,t4,t5,t6,decide_true,decide_false,hm,p3,q3,r3]) |
               (simp only [xas,xaC,xal,xam,xad,xak,xan,xae,xaf,xag,xac,xab,xao,xaq,xap,xaa,xar,xay,xat,xau,xav,xaz,xaB,xaw,xaA,xai,xah,wma,wbm,d1,d2,hh,w2,w3,dm,e0,w5,Option.getD_some,Option.isSome_some,xaE,xaD,Int.ofNat_lt,t1,t2,t3,t4,t5,t6,decide_true,decide_false,hm,p3,q3]) |
               (simp only [xas,xaC,xal,xam,xad,xak,xan,xae,xaf,xag,xac,xab,xao,xaq,xap,xaa,xar,xay,xat,xau,xav,xaz,xaB,xaw,xaA,xai,xah,wma,wbm,d1,d2,hh,w2,w3,dm,e0,w5,Option.getD_some,Option.isSome_some,xaE,xaD,Int.ofNat_lt,t1,t2,t3,t4,t5,t6,decide_true,decide_false,hm,p3,r3]) |
               (simp only [xas,xaC,xal,xam,xad,xak,xan,xae,xaf,xag,xac,xab,xao,xaq,xap,xaa,xar,xay,xat,xau,xav,xaz,xaB,xaw,xaA,xai,xah,wma,wbm,d1,d2,hh,w2,w3,dm,e0,w5,Option.getD_some,Option.isSome_some,xaE,xaD,Int.ofNat_lt,t1,t2,t3,t4,t5,t6,decide_true,decide_false,hm,q3,r3]) |
               (simp only [xas,xaC,xal,xam,xad,xak,xan,xae,xaf,xag,xac,xab,xao,xaq,xap,xaa,xar,xay,xat,xau,xav,xaz,xaB,xaw,xaA,xai,xah,wma,wbm,d1,d2,hh,w2,w3,dm,e0,w5,Option.getD_some,Option.isSome_some,xaE,xaD,Int.ofNat_lt,t1,t2,t3,t4,t5,t6,decide_true,decide_false,hm,p3]) |
               (simp only [xas,xaC,xal,xam,xad,xak,xan,xae,xaf,xag,xac,xab,xao,xaq,xap,xaa,xar,xay,xat,xau,xav,xaz,xaB,xaw,xaA,xai,xah,wma,wbm,d1,d2,hh,w2,w3,dm,e0,w5,Option.getD_some,Option.isSome_some,xaE,xaD,Int.ofNat_lt,t1,t2,t3,t4,t5,t6,decide_true,decide_false,hm,q3]) |
               (simp only [xas,xaC,xal,xam,xad,xak,xan,xae,xaf,xag,xac,xab,xao,xaq,xap,xaa,xar,xay,xat,xau,xav,xaz,xaB,xaw,xaA,xai,xah,wma,wbm,d1,d2,hh,w2,w3,dm,e0,w5,Option.getD_some,Option.isSome_some,xaE,xaD,Int.ofNat_lt,t1,t2,t3,t4,t5,t6,decide_true,decide_false,hm,r3]) |
               (simp only [xas,xaC,xal,xam,xad,xak,xan,xae,xaf,xag,xac,xab,xao,xaq,xap,xaa,xar,xay,xat,xau,xav,xaz,xaB,xaw,xaA,xai,xah,wma,wbm,d1,d2,hh,w2,w3,dm,e0,w5,Option.getD_some,Option.isSome_some,xaE,xaD,Int.ofNat_lt,t1,t2,t3,t4,t5,t6,decide_true,decide_false,hm]))
         · rcases k3 with k|k
           · exact k.2.2.2
           · rw [k.2];exact hl2
theorem xDK {l r:List Grp} (hl:LOk N ok l) (hr:stable c 1000 N l=some r):xb7 N N (List.map encG l)=some (List.map encG r)∧LOk N ok r:=by
 unfold stable at hr
 cases h1:Iter (stIns c N) (0,20,l) with
 | none=>rw [h1] at hr;simp at hr
 | some p =>
  obtain ⟨a,l1⟩:=p
  rw [h1] at hr
  dsimp only at hr
  obtain ⟨e1,ha,_,hl1⟩:=xwT (enc:=encG) hN (ok:=ok) 20 (by omega) (p:=stIns c N) (F:=fun a b l=>insSort c a b l) (fun a b l l' h e=>by simp only [stIns,h,if_true,e]) (fun a b l h e=>by simp only [stIns,h,if_true,e]) (fun a b l h=>by simp only [stIns,h,if_false]) (G:=fun a b xs=>xaS N a b xs) (fun a b l r hab _ hb hl hr=>xEi hN hc a b (by omega) hb hl hr) (g:=xa6 N N 20) (fun a b xs=>rfl) (a:=0) hl h1 (by omega)
  cases h2:insSort c a N l1 with
  | none=>rw [h2] at hr;simp at hr
  | some l2 =>
   rw [h2] at hr
   dsimp only at hr
   obtain ⟨e2,hl2⟩:=xEi hN hc a N ha (Nat.le_refl _) hl1 h2
   have e3:Iter (xaN N N) (((20:Nat):Int),List.map encG l2)=some (List.map encG r)∧LOk N ok r:=by
    refine xhc (I:=fun s=>1≤s.1∧LOk N ok s.2) (J:=LOk N ok) (e:=fun (s:Nat×List Grp)=>((s.1:Int),List.map encG s.2)) (f:=List.map encG) ?_ (s:=(20,l2)) ⟨by omega,hl2⟩ hr
    rintro ⟨bs,l⟩ ⟨hb,hl⟩
    dsimp only at hb hl
    by_cases h:bs<N
    · have wb:IntKind.i64.wrap (2*(bs:Int))=((2*bs:Nat):Int):=w64 (by omega) (by omega)
      have wb':IntKind.i64.wrap ((bs:Int)*2)=((bs*2:Nat):Int):=w64 (by omega) (by omega)
      cases h3:Iter (stMrgIn c 1000 bs N) (0,2*bs,l) with
      | none=>exact xeR (by simp [stMrg,h,h3])
      | some p =>
       obtain ⟨a,l3⟩:=p
       obtain ⟨f1,f2,f3,f4⟩:=xwT (enc:=encG) hN (ok:=ok) (2*bs) (by omega) (p:=stMrgIn c 1000 bs N) (F:=fun a b l=>symM c 1000 a (a+bs) b l) (fun a b l l' h e=>by simp only [stMrgIn,h,if_true,e]) (fun a b l h e=>by simp only [stMrgIn,h,if_true,e]) (fun a b l h=>by simp only [stMrgIn,h,if_false]) (G:=fun a b xs=>xaK 1000 N a (IntKind.i64.wrap (a+(bs:Int))) b xs) (fun a b l r hab hb2 hbN hl hr=>by
        have:=xDW hN hc 1000 a (a+bs) b l r (by omega) (by omega) hbN hl hr
        rw [w64 (x:=(a:Int)+(bs:Int)) (n:=a+bs) (by omega) (by omega)]
        exact this) (g:=xbl N N bs) (fun a b xs=>by rw [←wb];rfl) (a:=0) hl (by rw [Nat.zero_add];exact h3) (by omega)
       rw [Nat.zero_add,←wb] at f1
       have f1':Iter (xbl N N bs) ((0:Int),IntKind.i64.wrap (2*(bs:Int)),List.map encG l)=some ((a:Int),List.map encG l3):=f1
       have wab:IntKind.i64.wrap ((a:Int)+(bs:Int))=((a+bs:Nat):Int):=w64 (by omega) (by omega)
       by_cases h4:a+bs<N
       · cases h5:symM c 1000 a (a+bs) N l3 with
         | none=>exact xeR (by simp [stMrg,h,h3,h4,h5])
         | some l4 =>
          obtain ⟨f5,f6⟩:=xDW hN hc 1000 a (a+bs) N l3 l4 (by omega) h4 (Nat.le_refl _) f4 h5
          refine xkh (s0:=(bs*2,l4)) (by simp [stMrg,h,h3,h4,h5]) ?_ ⟨by dsimp only;omega,f6⟩
          have q1:(bs:Int)<(N:Int):=by omega
          have q2:((a+bs:Nat):Int)<(N:Int):=by omega
          simp only [xaN,xco,xdU,xdR,xdV,xdO,xdK,xdP,f1',q1,q2,decide_true,xaE,Option.isSome_some,Option.getD_some,wab,f5,wb']
       · refine xkh (s0:=(bs*2,l3)) (by simp [stMrg,h,h3,h4]) ?_ ⟨by dsimp only;omega,f4⟩
         have q1:(bs:Int)<(N:Int):=by omega
         have q2:¬ ((a+bs:Nat):Int)<(N:Int):=by omega
         simp only [xaN,xco,xdU,xdR,xdV,xdO,xdK,xdP,f1',q1,q2,decide_true,decide_false,xaE,xaD,Option.isSome_some,Option.getD_some,wab,wb']
    · refine xjZ (r0:=l) (by simp [stMrg,h]) ?_ hl
      have q1:¬ (bs:Int)<(N:Int):=by omega
      simp only [xaN,xco,q1,decide_false,xaD]
   have e1':Iter (xa6 N N 20) ((0:Int),(20:Int),List.map encG l)=some ((a:Int),List.map encG l1):=e1
   have e3':Iter (xaN N N) ((20:Int),List.map encG l2)=some (List.map encG r):=e3.1
   refine ⟨?_,e3.2⟩
   simp only [xb7,xeF,xf5,xga,xf4,e1',e2,e3',Option.isSome_some,Option.getD_some,xaE]
end
theorem xFY {N:Nat} (hN:N*48≤140737488355328) {ok:Grp→Prop} {c:Grp→Grp→Int} (hc:∀ x y:Grp,ok x→ok y→cmpPG (encG x) (encG y)=true∧cmpVG (encG x) (encG y)=c x y) (l r:List Grp) (hl:l.length=N) (ho:∀ x,x∈l→ok x) (hr:stable c 1000 N l=some r) :
  xcz N (List.map encG l)=some (List.map encG r):=by
 obtain ⟨e1,e2⟩:=xDK (N:=N) (by omega) (ok:=ok) hc ⟨hl,ho⟩ hr
 simp only [xcz,xez,e1,Option.isSome_some,Option.getD_some,xaE]
end Go.Sim.M
end
noncomputable section
set_option maxRecDepth 100000
namespace Go.Sim.M
open Go.RowKit Go.Sim.Srt
def ents:Nat→List Row→List AV
 | _,[]=>[]
 | k,r::R=>.agg [.str (keyOf r),.int .i64 (k:Int)]::ents (k+1) R
theorem xyV:∀ (R:List Row) (k:Nat) (r:Row),mapIx (ents k R) (keyOf r)=R.findIdx? fun x=>decide (x=r)
 | [],_,_=>rfl
 | x::R,k,r=>by
  have hk:isKey (keyOf r) (((AV.agg [.str (keyOf x),.int .i64 (k:Int)]).cells).getD 0 .top)=decide (x=r):=by
   show (keyOf x==keyOf r)=_
   by_cases h:x=r
   · subst h;simp
   · have:¬ keyOf x=keyOf r:=fun e=>h (xyM e)
     simp [h,this]
  show (match isKey (keyOf r) (((AV.agg [.str (keyOf x),.int .i64 (k:Int)]).cells).getD 0 .top) with|true=>some 0|false=>(mapIx (ents (k+1) R) (keyOf r)).map (·+1))=_
  rw [hk,List.findIdx?_cons,xyV R (k+1) r]
  by_cases h:x=r<;>simp [h]
theorem xwf:∀ (R:List Row) (k:Nat),(ents k R).length=R.length
 | [],_=>rfl
 | _::R,k=>by show (ents (k+1) R).length+1=_;rw [xwf R];rfl
theorem xvg:∀ (R:List Row) (k:Nat) (r:Row),ents k (R++[r])=ents k R++[.agg [.str (keyOf r),.int .i64 ((k+R.length:Nat):Int)]]
 | [],_,_=>rfl
 | x::R,k,r=>by
  show _::ents (k+1) (R++[r])=_
  rw [xvg R (k+1) r,List.length_cons,show k+1+R.length=k+(R.length+1) by omega];rfl
theorem xwQ:∀ (R:List Row) (k j:Nat) (h:j<R.length),(ents k R).getD j .top=.agg [.str (keyOf R[j]),.int .i64 ((k+j:Nat):Int)]
 | x::R,k,0,h=>rfl
 | x::R,k,j+1,h=>by
  show (ents (k+1) R).getD j .top=_
  rw [xwQ R (k+1) j (by simpa using h),show k+1+j=k+(j+1) by omega];rfl
def upd (G:List Grp) (f:Fc):List Grp:=match (G.map (·.1)).findIdx? fun x=>decide (x=f.r) with
 | some j=>G.set j (f.r,(G.getD j ([],[])).2++[f.p])
 | none=>G++[(f.r,[f.p])]
structure GI (l:List Fc) (G:List Grp):Prop where
 nd:(G.map (·.1)).Nodup
 mem:∀ r,r∈G.map (·.1)↔∃ f,f∈l∧f.r=r∧pv f.p=true
 ps:∀ g,g∈G→g.2=psOf l g.1
 len:G.length≤l.length
theorem GI.nil:GI [] []:=⟨List.nodup_nil,fun r=>by simp,fun g hg=>by simp at hg,Nat.le_refl _⟩
theorem xpr (l:List Fc) (f:Fc) (r:Row):psOf (l++[f]) r=psOf l r++(if f.r=r∧pv f.p=true then [f.p] else []):=by
 unfold psOf
 rw [List.filter_append,List.map_append]
 congr 1
 by_cases h1:f.r=r<;>by_cases h2:pv f.p=true<;>simp [h1,h2]
theorem GI.skip {l:List Fc} {G:List Grp} (h:GI l G) {f:Fc} (hf:pv f.p=false):GI (l++[f]) G :=
 ⟨h.nd,fun r=>by
  rw [h.mem]
  refine ⟨fun ⟨g,hg,e⟩=>⟨g,by simp [hg],e⟩,fun ⟨g,hg,e1,e2⟩=>⟨g,?_,e1,e2⟩⟩
  rcases List.mem_append.1 hg with hg|hg
  · exact hg
  · rw [List.mem_singleton] at hg;subst hg;rw [hf] at e2;simp at e2,fun g hg=>by rw [xpr,if_neg (by rw [hf];simp),List.append_nil];exact h.ps g hg,by rw [List.length_append];have:=h.len;omega⟩
theorem xrm {R:List Row} {r:Row} {j:Nat} (h:R.findIdx? (fun x=>decide (x=r))=some j):∃ hj:j<R.length,R[j]=r:=by
 obtain ⟨hj,h1,_⟩:=List.findIdx?_eq_some_iff_getElem.1 h
 exact ⟨hj,by simpa using h1⟩
theorem xw5 {R:List Row} {r:Row} (h:R.findIdx? (fun x=>decide (x=r))=none):r∉R:=fun hr=>by
 have:=List.findIdx?_eq_none_iff.1 h r hr
 simp at this
theorem xuj {G:List Grp} {j:Nat} (hj:j<G.length) {ps:List Per} {r:Row} (hr:G[j].1=r):(G.set j (r,ps)).map (·.1)=G.map (·.1):=by
 rw [List.map_set]
 show (G.map (·.1)).set j r=_
 rw [←hr]
 have:(G.map (·.1))[j]'(by simpa using hj)=G[j].1:=by simp
 rw [←this]
 exact List.set_getElem_self _
theorem GI.upd {l:List Fc} {G:List Grp} (h:GI l G) {f:Fc} (hf:pv f.p=true):GI (l++[f]) (M.upd G f):=by
 unfold M.upd
 cases hi:(G.map (·.1)).findIdx? fun x=>decide (x=f.r) with
 | some j =>
  obtain ⟨hj,hr⟩:=xrm hi
  rw [List.length_map] at hj
  rw [List.getElem_map] at hr
  dsimp only
  have gd:G.getD j ([],[])=G[j]:=by rw [List.getD_eq_getElem?_getD,List.getElem?_eq_getElem hj];rfl
  rw [gd]
  refine ⟨by rw [xuj hj hr];exact h.nd,fun r=>?_,fun g hg=>?_,by rw [List.length_set,List.length_append];have:=h.len;omega⟩
  · rw [xuj hj hr,h.mem]
    refine ⟨fun ⟨g,hg,e⟩=>⟨g,by simp [hg],e⟩,fun ⟨g,hg,e1,e2⟩=>?_⟩
    rcases List.mem_append.1 hg with hg|hg
    · exact ⟨g,hg,e1,e2⟩
    · rw [List.mem_singleton] at hg;subst hg
      refine (h.mem r).1 ?_
      rw [←e1,←hr]
      exact List.mem_map.2 ⟨G[j],List.getElem_mem hj,rfl⟩
  · obtain ⟨i,hi2,rfl⟩:=List.mem_iff_getElem.1 hg
    rw [List.length_set] at hi2
    rw [List.getElem_set]
    by_cases hij:j=i
    · subst hij
      rw [if_pos rfl,xpr,if_pos ⟨rfl,hf⟩,h.ps _ (List.getElem_mem hj),hr]
    · rw [if_neg hij,xpr,if_neg ?_,List.append_nil]
      · exact h.ps _ (List.getElem_mem hi2)
      · rintro ⟨e,_⟩
        have hn:=List.pairwise_iff_getElem.1 h.nd
        have ei:(G.map (·.1))[i]'(by simpa using hi2)=G[i].1:=by simp
        have ej:(G.map (·.1))[j]'(by simpa using hj)=G[j].1:=by simp
        rcases Nat.lt_or_gt_of_ne hij with hlt|hlt
        · exact hn j i (by simpa using hj) (by simpa using hi2) hlt (by rw [ei,ej,hr,e])
        · exact hn i j (by simpa using hi2) (by simpa using hj) hlt (by rw [ei,ej,hr,e])
 | none =>
  have hr:=xw5 hi
  dsimp only
  have hz:psOf l f.r=[]:=by
   unfold psOf
   rw [List.map_eq_nil_iff,List.filter_eq_nil_iff]
   intro g hg he
   simp only [Bool.and_eq_true,decide_eq_true_eq] at he
   exact hr ((h.mem _).2 ⟨g,hg,he⟩)
  refine ⟨?_,fun r=>?_,fun g hg=>?_,by rw [List.length_append,List.length_append];have:=h.len;simp;omega⟩
  · rw [List.map_append]
    refine List.nodup_append.2 ⟨h.nd,by simp,fun a ha b hb e=>?_⟩
    simp at hb
    exact hr (by rw [←hb,←e];exact ha)
  · rw [List.map_append,List.mem_append,h.mem]
    simp only [List.map_cons,List.map_nil,List.mem_singleton,List.mem_append]
    constructor
    · rintro (⟨g,hg,e⟩|rfl)
      · exact ⟨g,.inl hg,e⟩
      · exact ⟨f,.inr rfl,rfl,hf⟩
    · rintro ⟨g,hg|rfl,e⟩
      · exact .inl ⟨g,hg,e⟩
      · exact .inr e.1.symm
  · rcases List.mem_append.1 hg with hg|hg
    · rw [xpr,if_neg ?_,List.append_nil]
      · exact h.ps g hg
      · rintro ⟨e,_⟩
        exact hr (by rw [e];exact List.mem_map.2 ⟨g,hg,rfl⟩)
    · rw [List.mem_singleton] at hg
      subst hg
      rw [xpr,if_pos ⟨rfl,hf⟩,hz];rfl
theorem cG0 (g:Grp):((encG g).cells.getD 0 .top).toList=g.1.map encV:=rfl
theorem xBU {α:Type} (l:List α) (x d:α):(l++[x]).getD l.length d=x:=by simp
theorem xDq {α:Type} (l:List α) (x y:α):(l++[x]).set l.length y=l++[y]:=by simp
theorem cellsA (xs:List AV):(AV.agg xs).cells=xs:=rfl
theorem tolA (n:Nat) (xs:List AV):(AV.list n xs).toList=xs:=rfl
theorem tointA (k:IntKind) (n:Int):(AV.int k n).toInt=n:=rfl
theorem isRowA (xs:List AV):isRow 2 (.list 2 xs)=true:=rfl
theorem deadA (n m:Nat):deadLt (.int .i64 (n:Int)) m=decide (n<m):=rfl
theorem dead0:deadLt (.int .i64 0) 1=true:=rfl
theorem g2a (a b:AV):[a,b].getD 0 .top=a:=rfl
theorem g2b (a b:AV):[a,b].getD 1 .top=b:=rfl
theorem lt2 (a b:AV):([a,b].length==2)=true:=rfl
theorem tk1 (a b:AV):List.take 1 [a,b]=[a]:=rfl
theorem dp2 (a b:AV):List.drop 2 [a,b]=[]:=rfl
theorem xyP (g:Grp):encG g=.agg [.list 3 (g.1.map encV),.list 2 (g.2.map encP)]:=rfl
theorem xzg (p:Per):encP p=.agg [.int .i64 p.1,.int .i64 p.2]:=rfl
def Keyed (l:List Fc):Prop:=Few l∧∀ f,f∈l→(∀ v,v∈f.r→KOk v)∧(keyOf f.r).length≤17592186044416
theorem Keyed.key {l:List Fc} (h:Keyed l) {f:Fc} (hf:f∈l):xeK (f.r.map encV)=some (keyOf f.r):=xFE f.r (h.1.2 f hf) (h.2 f hf).1 (h.2 f hf).2
theorem xB8 (l:List Fc) (h:Keyed l) (k:Nat) (hk:k<l.length) (G:List Grp) (hG:GI (l.take k) G) :
  xbg (l.map encF) ((l.length:Nat):Int) (G.length,(k:Int),ents 0 (G.map (·.1)),G.map encG) =
   some (.inl ((if pv l[k].p=true then upd G l[k] else G).length,((k+1:Nat):Int),ents 0 ((if pv l[k].p=true then upd G l[k] else G).map (·.1)),(if pv l[k].p=true then upd G l[k] else G).map encG)):=by
 have hl:=h.1.1
 have i1:(k:Int)<(l.length:Int):=by omega
 have gf:(l.map encF).getD k .top=encF l[k]:=xbU _ _ _ hk
 have ek:=h.key (List.getElem_mem hk)
 have kl:=(h.2 _ (List.getElem_mem hk)).2
 have hGl:=hG.len
 rw [List.length_take] at hGl
 cases hv:pv l[k].p with
 | false =>
  simp only [xbg,xdF,List.length_map,xaE,xaD,decide_true,decide_false,Bool.and_true,Bool.true_and,Bool.not_true,Bool.not_false,Int.toNat_natCast,Int.natCast_nonneg,Option.isSome_some,Option.getD_some,beq_self_eq_true,Nat.zero_add,Nat.sub_zero,i1,hk,gf,cF0,cF1,cF2,sF0,sF1,sF2,lF,sF12,sF02,xow,hv,wrapS (n:=k) (by omega)]
  rfl
 | true =>
  have k1:(keyOf l[k].r).length≤4611686018427387904:=by omega
  have hx:=xyV (G.map (·.1)) 0 l[k].r
  have n1:(ents 0 (G.map (·.1))).length<4611686018427387904:=by rw [xwf,List.length_map];omega
  have m1:(G.length+1)*48≤140737488355328:=by omega
  have m2:G.length+1≤4611686018427387904:=by omega
  simp only [if_true]
  cases hi:(G.map (·.1)).findIdx? fun x=>decide (x=l[k].r) with
  | none =>
   rw [hi] at hx
   have hu:upd G l[k]=G++[(l[k].r,[l[k].p])]:=by unfold upd;rw [hi]
   have hh:mapHas (ents 0 (G.map (·.1))) (keyOf l[k].r)=false:=by unfold mapHas;rw [hx];rfl
   have hg:mapGet (AV.int .i64 0) (ents 0 (G.map (·.1))) (keyOf l[k].r)=AV.int .i64 0:=by unfold mapGet;rw [hx]
   have hp:mapPut (ents 0 (G.map (·.1))) (keyOf l[k].r) (AV.int .i64 (G.length:Int))=ents 0 ((G++[(l[k].r,[l[k].p])]).map (·.1)):=by
    unfold mapPut;rw [hx,List.map_append]
    show _=ents 0 (G.map (·.1)++[l[k].r])
    rw [xvg,List.length_map,Nat.zero_add]
   have i2:(G.length:Int)<((G.length+1:Nat):Int):=by omega
   have hs0:hasSh1 (Sh.int .i64) (AV.int .i64 0)=true:=rfl
   have gl:∀ x:AV,(G.map encG++[x]).getD G.length .top=x:=fun x=>by have:=xBU (G.map encG) x .top;rwa [List.length_map] at this
   have sl:∀ x y:AV,(G.map encG++[x]).set G.length y=G.map encG++[y]:=fun x y=>by have:=xDq (G.map encG) x y;rwa [List.length_map] at this
   rw [hu]
   simp only [xbg,xdF,xgw,xgA,xd7,xec,xe6,xgz,xe5,xa7,xgy,xa8,xbC,xaQ,xeC,xgb,xf9,xcG,xf7,xeI,xc1,List.length_map,xaE,xaD,decide_true,decide_false,Bool.and_true,Bool.true_and,Bool.not_true,Bool.not_false,Int.toNat_natCast,Int.natCast_nonneg,Option.isSome_some,Option.getD_some,beq_self_eq_true,Nat.zero_add,Nat.sub_zero,i1,hk,gf,cF0,cF1,cF2,sF0,sF1,sF2,lF,sF12,sF02,xow,hv,wrapS (n:=k) (by omega),ek,k1,hh,hg,hp,n1,m1,m2,i2,hs0,gl,sl,List.length_append,List.length_singleton,List.map_append,List.map_cons,List.map_nil,cellsA,tolA,tointA,isRowA,deadA,g2a,g2b,lt2,tk1,dp2,List.length_set,Nat.lt_succ_self,Bool.and_self,List.length_nil,Nat.zero_add,xyP,xzg,List.singleton_append,List.nil_append,List.append_nil,Int.natCast_zero]
   try simp [xaE,dead0]
  | some j =>
   obtain ⟨hj,hr⟩:=xrm hi
   rw [hi] at hx
   have hj2:j<G.length:=by simpa using hj
   rw [List.getElem_map] at hr
   have gd:G.getD j ([],[])=G[j]:=by rw [List.getD_eq_getElem?_getD,List.getElem?_eq_getElem hj2];rfl
   have hu:upd G l[k]=G.set j (l[k].r,G[j].2++[l[k].p]):=by unfold upd;rw [hi];dsimp only;rw [gd]
   have hh:mapHas (ents 0 (G.map (·.1))) (keyOf l[k].r)=true:=by unfold mapHas;rw [hx];rfl
   have hg:mapGet (AV.int .i64 0) (ents 0 (G.map (·.1))) (keyOf l[k].r)=AV.int .i64 (j:Int):=by
    unfold mapGet;rw [hx];dsimp only
    rw [xwQ _ _ _ hj,Nat.zero_add];rfl
   have gj:(G.map encG).getD j .top=encG G[j]:=xbU _ _ _ hj2
   have i2:(j:Int)<(G.length:Int):=by omega
   have hs0:hasSh1 (Sh.int .i64) (AV.int .i64 (j:Int))=true:=rfl
   have pl:G[j].2.length≤k:=by
    rw [hG.ps _ (List.getElem_mem hj2)]
    have:=xCC (l.take k) G[j].1
    rw [List.length_take] at this;omega
   have m3:(G[j].2.length+1)*16≤140737488355328:=by omega
   have m4:G[j].2.length+1≤4611686018427387904:=by omega
   have gs:∀ x:AV,((G.map encG).set j x).getD j .top=x:=fun x=>by
    rw [List.getD_eq_getElem?_getD,List.getElem?_set_self (by simpa using hj2)];rfl
   have ss:∀ x y:AV,((G.map encG).set j x).set j y=(G.map encG).set j y:=fun x y=>List.set_set ..
   have tj:(AV.int IntKind.i64 (j:Int)).toInt=(j:Int):=rfl
   have cj:(encG G[j]).cells=[.list 3 (l[k].r.map encV),.list 2 (G[j].2.map encP)]:=by rw [←hr];rfl
   rw [hu,xuj hj2 hr,List.length_set,List.map_set]
   simp only [xbg,xdF,xgw,xgA,xd7,xec,xe6,xgz,xe5,xa7,xgy,xa8,xbC,xaQ,xeC,xgb,xf9,xcG,xf7,xeI,xc1,List.length_map,xaE,xaD,decide_true,decide_false,Bool.and_true,Bool.true_and,Bool.not_true,Bool.not_false,Int.toNat_natCast,Int.natCast_nonneg,Option.isSome_some,Option.getD_some,beq_self_eq_true,Nat.zero_add,Nat.sub_zero,i1,hk,gf,cF0,cF1,cF2,sF0,sF1,sF2,lF,sF12,sF02,xow,hv,wrapS (n:=k) (by omega),ek,k1,hh,hg,i2,hs0,tj,gj,cj,hj2,List.length_set,gs,ss,cellsA,tolA,tointA,isRowA,deadA,g2a,g2b,lt2,tk1,dp2,m3,m4,Bool.and_self,List.length_append,List.length_singleton,Nat.lt_succ_self,xyP,xzg,List.map_append,List.map_cons,List.map_nil,List.singleton_append,List.append_nil]
   try simp [xaE,dead0,hr]
def grp (l:List Fc):List Grp:=l.foldl (fun G f=>if pv f.p=true then upd G f else G) []
theorem xwe (l:List Fc) (f:Fc):grp (l++[f])=if pv f.p=true then upd (grp l) f else grp l:=by simp [grp]
theorem xBB:∀ l:List Fc,GI l.reverse (grp l.reverse)
 | []=>GI.nil
 | f::l=>by
  rw [List.reverse_cons,xwe]
  have ih:=xBB l
  cases hv:pv f.p with
  | true=>rw [if_pos rfl];exact ih.upd hv
  | false=>rw [if_neg (by simp)];exact ih.skip hv
theorem xBr (l:List Fc):GI l (grp l):=by have:=xBB l.reverse;rwa [List.reverse_reverse] at this
theorem xBE (l:List Fc) (h:Keyed l):Iter (xbg (l.map encF) ((l.length:Nat):Int)) ((0:Nat),(0:Int),[],[])=some ((grp l).length,(grp l).map encG):=by
 refine xni (fun k=>(((grp (l.take k)).length,((k:Nat):Int),ents 0 ((grp (l.take k)).map (·.1)),(grp (l.take k)).map encG):Nat×Int×List AV×List AV)) l.length _ (fun k hk=>?_) ?_ l.length 0 (by omega)
 · rw [xB8 l h k hk (grp (l.take k)) (xBr _)]
   have tk:l.take (k+1)=l.take k++[l[k]]:=by rw [List.take_add_one,List.getElem?_eq_getElem hk];rfl
   rw [tk,xwe]
 · simp only [xbg,xdF,List.length_map,Int.lt_irrefl,decide_false,xaD,List.take_length]
theorem xEA (x y:Grp) (hx:x.1.length≤4398046511104):cmpPG (encG x) (encG y)=true∧cmpVG (encG x) (encG y)=cmpR x.1 y.1:=by
 have e:xce (x.1.map encV) (x.2.map encP) (y.1.map encV) (y.2.map encP)=some (cmpR x.1 y.1):=by
  unfold xce xh3
  rw [xB1 x.1 y.1 (by unfold maxLen;omega)];rfl
 have e2:xce ((encG x).cells.getD 0 .top).toList ((encG x).cells.getD 1 .top).toList ((encG y).cells.getD 0 .top).toList ((encG y).cells.getD 1 .top).toList=some (cmpR x.1 y.1):=e
 unfold cmpPG cmpVG
 rw [e2]
 exact ⟨rfl,rfl⟩
theorem xFa (l:List Fc) (h:Keyed l):∃ S:List Grp,xeg (l.map encF)=some (S.map encG)∧IsRows l (S.map (·.1))∧(∀ g,g∈S→g.2=psOf l g.1)∧S.length≤l.length:=by
 have hg:=xBr l
 have hll:=h.1.1
 have hgl:=hg.len
 have cG:Cm fun x y:Grp=>cmpR x.1 y.1:=xCY.on (e:=fun x:Grp=>x.1)
 obtain ⟨r,e,p,s⟩:=(fun F (hF:20≤F)=>xyf cG.ord F (grp l).length (xEX (Nat.le_trans hgl hll) hF) (grp l) rfl) 1000 (by decide)
 have es:=xFY (N:=(grp l).length) (by omega) (ok:=fun g=>g.1.length≤1048576) (c:=fun x y:Grp=>cmpR x.1 y.1) (fun x y hx hy=>xEA x y (by omega)) (grp l) r rfl (fun g hgm=>by
  obtain ⟨f,hf,e,_⟩:=(hg.mem g.1).1 (List.mem_map.2 ⟨g,hgm,rfl⟩)
  rw [←e];exact h.1.2 f hf) e
 have rl:=p.length_eq
 refine ⟨r,?_,⟨?_,fun x=>?_⟩,fun g hgm=>hg.ps g (p.mem_iff.1 hgm),by rw [rl];exact hgl⟩
 · have el:=xBE l h
   have ra:rowsAll 2 1 ((grp l).map encG)=true:=by
    unfold rowsAll
    rw [List.all_eq_true]
    intro x hx
    obtain ⟨g,_,rfl⟩:=List.mem_map.1 hx
    rfl
   have ll:(grp l).length≤r.length:=by omega
   have tt:List.take (grp l).length (r.map encG)=r.map encG:=List.take_of_length_le (by rw [List.length_map];omega)
   unfold xeg xiv xkv xkz xh5 xkE xkC xkD
   simp only [List.length_map,el,Option.isSome_some,Option.getD_some,xaE,ra,es,Nat.zero_add,ll,decide_true,Bool.and_true,List.drop_zero,tt]
 · refine xCj (fun _ _=>xuQ) ?_ ?_
   · exact List.pairwise_map.2 s
   · exact ((p.map (·.1)).nodup_iff).2 hg.nd
 · rw [(p.map (·.1)).mem_iff];exact hg.mem x
end Go.Sim.M
end
noncomputable section
set_option maxRecDepth 100000
namespace Go.Sim.M
open Go.RowKit Go.Sim.Srt
theorem xwg {α:Type} {step:Int→Option (Int⊕(Bool×Bool×Unit))} (l:List α) (p:α→Bool)
  (hs:∀ (k:Nat) (h:k<l.length),step (k:Int)=if p l[k]=true then some (.inl ((k+1:Nat):Int)) else some (.inr (true,false,())))
  (he:step (l.length:Int)=some (.inr (false,false,()))):∀ d k:Nat,k+d=l.length→Iter step (k:Int)=some (if (l.drop k).all p=true then (false,false,()) else (true,false,()))
 | 0,k,h=>by
  have:k=l.length:=by omega
  subst this
  rw [List.drop_eq_nil_of_le (Nat.le_refl _),List.all_nil,if_pos rfl]
  exact xax he
 | d+1,k,h=>by
  have hk:k<l.length:=by omega
  have:=hs k hk
  have e:(l.drop k).all p=(p l[k]&&(l.drop (k+1)).all p):=by rw [xi8 hk];rfl
  rw [e]
  cases hc:p l[k] with
  | true =>
   rw [if_pos hc] at this
   rw [xcX this,xwg l p hs he d (k+1) (by omega),Bool.true_and]
  | false =>
   rw [if_neg (by rw [hc];simp)] at this
   rw [xax this];simp
def few (l:List Fc):Bool:=decide (l.length≤24)&&l.all fun f=>decide (f.r.length≤60)
theorem xFG (l:List Fc):xhX (l.map encF)=some (few l):=by
 have key:xhY (l.map encF) 24=some (few l):=by
  unfold xhY xmh
  by_cases h:(l.length:Int)>24
  · simp only [List.length_map,h,decide_true,xaE]
    have:¬ l.length≤24:=by omega
    simp [few,this]
  · have e:=xwg (step:=xbV (l.map encF)) l (fun f=>decide (f.r.length≤60)) (fun k hk=>by
     have hl:l.length≤24:=by omega
     have i1:(k:Int)<(l.length:Int):=by omega
     have gf:(l.map encF).getD k .top=encF l[k]:=xbU _ _ _ hk
     simp only [xbV,xhS,List.length_map,xaE,xaD,decide_true,decide_false,Bool.and_true,Bool.true_and,Bool.not_true,Bool.not_false,Int.toNat_natCast,Int.natCast_nonneg,Option.isSome_some,Option.getD_some,beq_self_eq_true,Nat.zero_add,Nat.sub_zero,hk,i1,gf,cF0,cF1,cF2,sF0,sF1,sF2,lF,sF12,sF02,wrapS (n:=k) (by omega)]
     by_cases h60:l[k].r.length≤60
     · have:¬ (l[k].r.length:Int)>60:=by omega
       simp [h60,this,xaD]
     · have:(l[k].r.length:Int)>60:=by omega
       simp [h60,this,xaE]) (by
     simp only [xbV,xhS,List.length_map,Int.lt_irrefl,decide_false,xaD]) l.length 0 (by omega)
    have e:Iter (xbV (l.map encF)) (0:Int)=_:=e
    rw [List.drop_zero] at e
    simp only [List.length_map,h,decide_false,xaD,e]
    have hl:l.length≤24:=by omega
    cases ha:l.all (fun f=>decide (f.r.length≤60))<;>simp [few,hl,ha,xaE,xaD]
 unfold xhX xmg
 simp only [key,xv9]
theorem xv0 {l:List Fc} (h:few l=true):l.length≤24∧∀ f,f∈l→f.r.length≤60:=by
 simp only [few,Bool.and_eq_true,decide_eq_true_eq,List.all_eq_true] at h
 exact h
theorem xCI {ps:List Per} (h:ps.length≤262144):Tame (ps.map fun p=>(p,(1:Int))):=⟨by simpa using h,fun c hc=>by
 obtain ⟨p,_,rfl⟩:=List.mem_map.1 hc
 dsimp only;omega⟩
theorem xvP (ps:List Per) (h:ps.length≤262144):∃ S,xcI (ps.map encP)=some (S.map encP)∧StepI (fun t=>((ps.countP (hasP · t):Nat):Int)) 1099511627776 S∧S.length≤2*ps.length+1:=by
 obtain ⟨S,h1,h2,h3⟩:=xpW _ (xCI h)
 refine ⟨S,by rw [xAf ps (by omega),h1],?_,by simpa using h3⟩
 rwa [show sumC (ps.map fun p=>(p,(1:Int)))=fun t=>((ps.countP (hasP · t):Nat):Int) from funext fun t=>xBn ps t] at h2
end Go.Sim.M
end
noncomputable section
set_option maxRecDepth 100000
namespace Go.Sim.M
open Go.RowKit Go.Sim.Srt Go.Sort
theorem xEu (E:List Per):(E.map encP).all isP=true∧∃ P:List Per,srtP (E.map encP)=P.map encP∧P.Perm E∧Sorted cmpP P:=by
 have e1:(E.map encP).map decP=E:=by
  rw [List.map_map];conv=>rhs;rw [←List.map_id E]
  rfl
 refine ⟨?_,pdqL cmpP E,?_,(xjf cmpP swoP E).1,(xr4 cmpP swoP E).imp fun {x y} h=>?_⟩
 · rw [List.all_eq_true]
   intro x hx
   obtain ⟨e,he,rfl⟩:=List.mem_map.1 hx
   rfl
 · unfold srtP;rw [e1];rfl
 · have:=xBW x y;omega
theorem xwY (S:List Per) (hS:S.length≤524289) (hN:∀ s,s∈S→0≤s.2∧s.2≤1048576):∀ (d k:Nat) (stk ox:List Per),k+d=S.length→StOk stk→(flatS stk).length≤1048576→ox.length≤k*1048576 →
  ∃ stk' ox':List Per,Iter (xb6 (S.map encP) ((S.length:Nat):Int)) ((k:Int),ox.length,stk.length,((flatS stk).length:Int),ox.map encP,stk.map encP)=some (ox'.length,((flatS stk').length:Int),stk'.length,ox'.map encP,stk'.map encP) ∧
   StOk stk'∧(flatS stk',ox')=(S.drop k).foldl (fun x s=>setF x (s.1,s.2.toNat)) (flatS stk,ox)∧(flatS stk').length≤1048576∧ox'.length≤S.length*1048576
 | 0,k,stk,ox,h,h1,h2,h3=>by
  obtain rfl:k=S.length:=by omega
  refine ⟨stk,ox,xax ?_,h1,by rw [List.drop_eq_nil_of_le (Nat.le_refl _)];rfl,h2,h3⟩
  simp only [xb6,xfX,Int.lt_irrefl,decide_false,xaD]
 | d+1,k,stk,ox,h,h1,h2,h3=>by
  have hk:k<S.length:=by omega
  obtain ⟨n1,n2⟩:=hN _ (List.getElem_mem hk)
  obtain ⟨m,hm⟩:∃ m:Nat,S[k].2=(m:Int):=⟨S[k].2.toNat,by omega⟩
  obtain ⟨stk2,e,a1,a2⟩:=xzh S[k].1 m (flatS stk).length stk ox h1 rfl (by omega) h2 (by omega)
  have hl2:(flatS stk2).length=m:=by rw [a2,List.length_append,List.length_take,List.length_replicate];omega
  obtain ⟨stk',ox',e',b1,b2,b3,b4⟩:=xwY S hS hN d (k+1) stk2 (ox++(((flatS stk).drop m).reverse.map fun f=>(f,S[k].1))) (by omega) a1 (by omega) (by
   rw [List.length_append,List.length_map,List.length_reverse,List.length_drop];omega)
  refine ⟨stk',ox',(xcX ?_).trans e',b1,?_,b3,b4⟩
  · have i1:(k:Int)<(S.length:Int):=by omega
    have gf:(S.map encP).getD k .top=encP S[k]:=xbU _ _ _ hk
    have i2:¬ (0:Int)>(m:Int):=by omega
    have i3:¬ (1048576:Int)<(m:Int):=by omega
    have tk:List.take stk2.length (stk2.map encP)=stk2.map encP:=List.take_of_length_le (by simp)
    rw [hl2]
    simp only [xb6,xfX,xiN,xi9,xi2,xjc,xiS,xix,xiQ,List.length_map,xaE,xaD,decide_true,decide_false,Bool.and_true,Bool.true_and,Bool.not_true,Bool.not_false,Int.toNat_natCast,Int.natCast_nonneg,Option.isSome_some,Option.getD_some,beq_self_eq_true,Nat.zero_add,Nat.sub_zero,hk,i1,gf,cP0,cP1,lP,sP,sP0,sP1,hm,i2,i3,if_false,e,tk,wrapS (n:=k) (by omega)]
  · rw [b2,xi8 hk,List.foldl_cons]
    congr 1
    rw [hm,Int.toNat_natCast,a2];rfl
theorem xCJ {N:Int→Nat} {H:Nat} (hb:H≤1048576) (hH:∀ t,N t≤H) (h0:∀ t,t<0∨1099511627776≤t→N t=0) {S:List Per} (hS:StepI (fun t=>(N t:Int)) 1099511627776 S) (hl:S.length≤524289):∃ P,xfw (S.map encP)=some (P.map encP)∧IsLevs N P:=by
 obtain ⟨stk,ox,e,a1,a2,a3,a4⟩:=xwY S hl (fun s hs=>by
  obtain ⟨_,_,m3,_⟩:=(hS.mem s).1 hs
  have:=hH s.1;omega) S.length 0 [] [] (by omega) (fun s hs=>by simp at hs) (by simp [flatS]) (by simp)
 obtain ⟨stk2,e2,c1,c2⟩:=xzh 1099511627776 0 (flatS stk).length stk ox a1 rfl (by omega) a3 (by omega)
 obtain ⟨s1,P,s2,s3,s4⟩:=xEu (ox++(((flatS stk).drop 0).reverse.map fun f=>(f,(1099511627776:Int))))
 have m1:(ox++(((flatS stk).drop 0).reverse.map fun f=>(f,(1099511627776:Int)))).length<4611686018427387904:=by
  rw [List.length_append,List.length_map,List.length_reverse,List.length_drop];omega
 refine ⟨P,?_,xCW hH h0 hS ?_ s4⟩
 · have pl:=s3.length_eq
   have e:Iter (xb6 (S.map encP) ((S.length:Nat):Int)) ((0:Int),(0:Nat),(0:Nat),(0:Int),[],[])=_:=e
   have e2:set2 1099511627776 0 ((flatS stk).length:Int) stk.length ox.length (stk.map encP) (ox.map encP)=_:=e2
   generalize (ox++(((flatS stk).drop 0).reverse.map fun f=>(f,(1099511627776:Int))))=O at s1 s2 e2 pl m1
   have bq:O.length.beq O.length=true:=by simp
   have m2:O.length≤P.length:=by omega
   have tt:List.take O.length (P.map encP)=P.map encP:=List.take_of_length_le (by rw [List.length_map];omega)
   unfold xfw xjC
   simp only [xg6,xgU,xlm,xk1,xll,xlq,xla,xlB,xlk,List.length_map,e,Option.isSome_some,Option.getD_some,xaE,e2,bq,m1,s1,s2,decide_true,Bool.and_true,Nat.zero_add,m2,List.drop_zero,tt]
 · have a2:(flatS stk,ox)=S.foldl (fun x s=>setF x (s.1,s.2.toNat)) ([],[]):=a2
   rw [←a2]
   exact s3
theorem xDr (ps:List Per) (t:Int) (ht:t<0∨1099511627776≤t):ps.countP (hasP · t)=0:=by
 rw [List.countP_eq_zero]
 intro p hp h
 obtain ⟨h1,h2,h3⟩:=xfU.1 h
 have:=xes.1 h1;omega
theorem xFk (ps:List Per) (hv:∀ p,p∈ps→pv p=true) (hl:ps.length≤262144):∃ P,xc8 (ps.map encP)=some (P.map encP)∧IsLevs (fun t=>ps.countP (hasP · t)) P:=by
 unfold xc8 xiw
 by_cases h1:ps.length=1
 · obtain ⟨p,rfl⟩:=List.length_eq_one_iff.1 h1
   refine ⟨[p],rfl,List.pairwise_singleton _ _,fun k=>if k=0 then [p] else [],1,fun t=>?_,fun k=>?_,?_⟩
   · have:=List.countP_le_length (p:=(hasP · t)) (l:=[p]);simpa using this
   · by_cases hk:k=0
     · subst hk
       refine ⟨⟨fun q hq=>by simp at hq;subst hq;exact hv _ (by simp),List.pairwise_singleton _ _⟩,fun t=>?_⟩
       simp [inL]
       cases hasP p t<;>simp
     · refine ⟨by simp [hk,xpD],fun t=>?_⟩
       simp only [hk,if_false,xl2]
       have:=List.countP_le_length (p:=(hasP · t)) (l:=[p])
       simp at this ⊢;omega
   · simp
 · obtain ⟨S,e1,e2,e3⟩:=xvP ps hl
   obtain ⟨P,e4,e5⟩:=xCJ (N:=fun t=>ps.countP (hasP · t)) (H:=ps.length) (by omega) (fun t=>List.countP_le_length) (xDr ps) e2 (by omega)
   refine ⟨P,?_,e5⟩
   have i1:((ps.length:Int)==1)=false:=by simp;omega
   simp only [List.length_map,i1,xaD,e1,e4,Option.isSome_some,Option.getD_some,xaE]
def mk (r:Row) (P:List Per):List Fc:=P.map fun p=>⟨r,p⟩
theorem xw3 (L:Row→List Per):∀ S:List Grp,(S.flatMap fun g=>mk g.1 (L g.1))=facts (S.map (·.1)) L
 | []=>rfl
 | g::S=>by rw [List.flatMap_cons,xw3 L S];rfl
theorem xu4 (t11:List AV) (t12 t13:Int) (row:Row) (hr:row.length≤1048576) (g1:List AV) (P:List Per) (D:List Fc) (hb:D.length+P.length≤2199023255552) (hP:P.length≤1099511627776) :
  Iter (xbm t11 t12 t13 (P.map encP) ((P.length:Nat):Int)) (D.length,(0:Int),D.map encF,row.map encV,g1)=some ((D++mk row P).length,(D++mk row P).map encF):=by
 have key:=xni (step:=xbm t11 t12 t13 (P.map encP) ((P.length:Nat):Int)) (fun k=>(((D++mk row (P.take k)).length,((k:Nat):Int),(D++mk row (P.take k)).map encF,row.map encV,g1):Nat×Int×List AV×List AV×List AV)) P.length
  ((D++mk row P).length,(D++mk row P).map encF) (fun k hk=>by
  have i1:(k:Int)<(P.length:Int):=by omega
  have gf:(P.map encP).getD k .top=encP P[k]:=xbU _ _ _ hk
  have dl:(D++mk row (P.take k)).length=D.length+k:=by unfold mk;rw [List.length_append,List.length_map,List.length_take];omega
  have m1:(D.length+k+1)*40≤140737488355328:=by omega
  have m2:D.length+k+1≤4611686018427387904:=by omega
  have m3:row.length*32≤140737488355328:=by omega
  have m4:row.length≤4611686018427387904:=by omega
  have tk:List.take row.length (row.map encV)=row.map encV:=List.take_of_length_le (by simp)
  have tk2:mk row (P.take (k+1))=mk row (P.take k)++[⟨row,P[k]⟩]:=by unfold mk;rw [List.take_add_one,List.getElem?_eq_getElem hk,List.map_append];rfl
  rw [tk2,←List.append_assoc]
  simp only [xbm,xeu,List.length_map,xaE,xaD,decide_true,decide_false,Bool.and_true,Bool.true_and,Bool.not_true,Bool.not_false,Int.toNat_natCast,Int.natCast_nonneg,Option.isSome_some,Option.getD_some,beq_self_eq_true,Nat.zero_add,Nat.sub_zero,hk,i1,gf,cP0,cP1,lP,sP,sP0,sP1,dl,m1,m2,m3,m4,Nat.le_refl,tk,List.drop_zero,wrapS (n:=k) (by omega)]
  rw [List.length_append,dl]
  simp [encF]) (by
  simp only [xbm,xeu,Int.lt_irrefl,decide_false,xaD,List.take_length]) P.length 0 (by omega)
 have e0:D++mk row (P.take 0)=D:=by simp [mk]
 rw [e0] at key
 exact key
theorem xA9 (t11:List AV) (t12 t13:Int) (row:Row) (hr:row.length≤1048576) (g1:List AV) (P:List Per) (D:List Fc) (hb:D.length+P.length≤2199023255552) (hP:P.length≤1099511627776) :
  Iter (xiC t11 t12 t13 (P.map encP) ((P.length:Nat):Int)) (D.length,(0:Int),D.map encF,row.map encV,g1)=some ((D++mk row P).length,(D++mk row P).map encF) :=
 xu4 t11 t12 t13 row hr g1 P D hb hP
def Bld (l:List Fc):Prop:=Keyed l∧l.length≤1024
theorem cGs (g:Grp):((encG g).cells.getD 1 .top).toList=g.2.map encP:=rfl
theorem lG (g:Grp):((encG g).cells.length==2)=true:=rfl
theorem sG (g:Grp):hasShs [Sh.list 3,Sh.list 2] (encG g).cells 0=true:=rfl
theorem xBa {f:List AV→Option (List AV)} {step:List AV→Int→Nat×Int×List AV→Option ((Nat×Int×List AV)⊕(Nat×List AV))} (hst:step=xbJ∧f=xc8∨step=xgv∧f=xro) (S:List Grp) (hS:S.length≤1024) (hr:∀ g,g∈S→g.1.length≤1048576) (L:Row→List Per) (hL:∀ g,g∈S→f (g.2.map encP)=some ((L g.1).map encP)∧(L g.1).length≤1048576) :
  Iter (step (S.map encG) ((S.length:Nat):Int)) ((0:Nat),(0:Int),[])=some ((facts (S.map (·.1)) L).length,(facts (S.map (·.1)) L).map encF):=by
 rw [←xw3]
 refine xse S (fun g=>mk g.1 (L g.1)) encF 1048576 (fun g hg=>by unfold mk;rw [List.length_map];exact (hL g hg).2) (fun n h D hD=>?_) (fun D=>?_)
 · have i1:(n:Int)<(S.length:Int):=by omega
   have gf:(S.map encG).getD n .top=encG S[n]:=xbU _ _ _ h
   obtain ⟨e1,e2⟩:=hL _ (List.getElem_mem h)
   have hrow:=hr _ (List.getElem_mem h)
   rcases hst with ⟨rfl,rfl⟩|⟨rfl,rfl⟩
   · have el:=xu4 (S.map encG) (S.length:Int) (n:Int) S[n].1 hrow (S[n].2.map encP) (L S[n].1) D (by omega) (by omega)
     simp only [xbJ,xew,xhm,xhr,List.length_map,xaE,xaD,decide_true,decide_false,Bool.and_true,Bool.true_and,Bool.not_true,Bool.not_false,Int.toNat_natCast,Int.natCast_nonneg,Option.isSome_some,Option.getD_some,beq_self_eq_true,Nat.zero_add,Nat.sub_zero,h,i1,gf,cG0,cGs,lG,sG,e1,el,wrapS (n:=n) (by omega)]
   · have el:=xA9 (S.map encG) (S.length:Int) (n:Int) S[n].1 hrow (S[n].2.map encP) (L S[n].1) D (by omega) (by omega)
     simp only [xgv,xhC,xhn,xho,List.length_map,xaE,xaD,decide_true,decide_false,Bool.and_true,Bool.true_and,Bool.not_true,Bool.not_false,Int.toNat_natCast,Int.natCast_nonneg,Option.isSome_some,Option.getD_some,beq_self_eq_true,Nat.zero_add,Nat.sub_zero,h,i1,gf,cG0,cGs,lG,sG,e1,el,wrapS (n:=n) (by omega)]
 · rcases hst with ⟨rfl,rfl⟩|⟨rfl,rfl⟩
   · simp only [xbJ,xew,Int.lt_irrefl,decide_false,xaD]
   · simp only [xgv,xhC,Int.lt_irrefl,decide_false,xaD]
theorem xA0 {R:List Row} {Q:Row→List Per→Prop} (h:∀ r,r∈R→∃ P,Q r P):∃ L:Row→List Per,∀ r,r∈R→Q r (L r):=by
 refine ⟨fun r=>if hr:r∈R then Classical.choose (h r hr) else [],fun r hr=>?_⟩
 show Q r (if hr:r∈R then Classical.choose (h r hr) else [])
 rw [dif_pos hr]
 exact Classical.choose_spec (h r hr)
theorem xFP (l:List Fc) (r:Row):(fun t=>(psOf l r).countP (hasP · t))=cnt l r:=funext fun t=>xwZ l r t
theorem xFA (l:List Fc) (h:Bld l):∃ B,xdH (l.map encF)=some (B.map encF)∧IsBag l B:=by
 obtain ⟨S,e1,hR,hps,hSl⟩:=xFa l h.1
 have hl:=h.2
 obtain ⟨L,hL⟩:=xA0 (R:=S.map (·.1)) (Q:=fun r P=>xc8 ((psOf l r).map encP)=some (P.map encP)∧IsLevs (cnt l r) P∧P.length≤1048576) fun r hr=>by
  have hlen:=xCC l r
  obtain ⟨P,a1,a2⟩:=xFk (psOf l r) xC8 (by omega)
  have a3:=a2.len
  rw [xFP] at a2
  refine ⟨P,a1,a2,Nat.le_trans a3 (Nat.mul_le_mul (Nat.le_trans hlen hl) (Nat.le_trans hlen hl))⟩
 have hk:∀ g,g∈S→g.1∈S.map (·.1):=fun g hg=>List.mem_map.2 ⟨g,hg,rfl⟩
 have eb:=xBa (.inl ⟨rfl,rfl⟩) S (by omega) (fun g hg=>by
  obtain ⟨f,hf,e,_⟩:=(hR.2 g.1).1 (hk g hg)
  rw [←e];exact h.1.1.2 f hf) L (fun g hg=>by
  rw [hps g hg];exact ⟨(hL _ (hk g hg)).1,(hL _ (hk g hg)).2.2⟩)
 refine ⟨facts (S.map (·.1)) L,?_,S.map (·.1),L,hR,fun r hr=>(hL r hr).2.1,rfl⟩
 have tt:∀ F:List Fc,List.take F.length (F.map encF)=F.map encF:=fun F=>List.take_of_length_le (by simp)
 unfold xdH xjq xej xhh xit xil xin xio
 simp only [e1,Option.isSome_some,Option.getD_some,xaE,List.length_map,eb,Nat.zero_add,Nat.le_refl,decide_true,Bool.and_true,List.drop_zero,tt]
end Go.Sim.M
end
noncomputable section
set_option maxRecDepth 100000
namespace Go.Sim.M
open Go.RowKit Go.Sim.Srt
def Tx (l:List Fc):Prop:=∀ f,f∈l→∀ v,v∈f.r→v.wf∧v.t.length≤1073741824
theorem xBw {r:Row} (h:∀ v,v∈r→v.wf∧v.t.length≤1073741824) (hl:r.length≤60):(keyOf r).length≤17592186044416:=by
 have:=xnj (g:=keyV) (c:=1073741890) r fun v hv=>by
  obtain ⟨h1,h2⟩:=h v hv
  have:=xvY h1 (by omega);omega
 unfold keyOf
 have h2:1073741890*r.length≤1073741890*60:=Nat.mul_le_mul_left _ hl
 omega
theorem xFn {l:List Fc} (hl:l.length≤1024) (hr:∀ f,f∈l→f.r.length≤60) (ht:Tx l):Bld l :=
 ⟨⟨⟨by omega,fun f hf=>by have:=hr f hf;omega⟩,fun f hf=>⟨fun v hv=>⟨(ht f hf v hv).1,by have:=(ht f hf v hv).2;omega⟩,xBw (ht f hf) (hr f hf)⟩⟩,hl⟩
theorem xFi {l:List Fc} (h:few l=true) (ht:Tx l):Bld l:=by
 obtain ⟨h1,h2⟩:=xv0 h
 exact xFn (by omega) h2 ht
theorem IsBag.all {l B:List Fc} (h:IsBag l B) {Q:Row→Prop} (hq:∀ f,f∈l→Q f.r):∀ f,f∈B→Q f.r:=fun f hf=>by
 obtain ⟨_,g,hg,e⟩:=h.valid hf
 rw [←e];exact hq g hg
theorem IsSet.all {l B:List Fc} (h:IsSet l B) {Q:Row→Prop} (hq:∀ f,f∈l→Q f.r):∀ f,f∈B→Q f.r:=fun f hf=>by
 obtain ⟨R,L,h1,h2,rfl⟩:=h
 obtain ⟨a,b⟩:=xu3 hf
 obtain ⟨g,g1,g2,_⟩:=(h1.2 _).1 a
 rw [←g2];exact hq g g1
theorem IsSet.len {l B:List Fc} (h:IsSet l B):B.length≤l.length*l.length:=by
 obtain ⟨R,L,h1,h2,rfl⟩:=h
 refine xqy (h1.1.nodup xCY) fun r hr=>?_
 obtain ⟨a,b⟩:=h2 r hr
 have:=xy1 (ps:=psOf l r) (k:=0) a fun t=>by rw [b,xwZ]
 exact Nat.le_trans this (Nat.le_mul_self _)
theorem xE7 {l B:List Fc} (hl:l.length≤24) (h:B.length≤l.length*l.length):B.length≤576:=Nat.le_trans h (Nat.mul_le_mul hl hl)
def split (t:Int) (f:Fc):List Fc:=if hasP f.p t=true then (if f.p.1<t then [⟨f.r,(t,f.p.2)⟩,⟨f.r,(f.p.1,t)⟩] else [f]) else [f]
def NoAdj (p q:Per):Prop:=p.2≠q.1∧q.2≠p.1
def Nest (p q:Per):Prop:=p.1<q.2→q.1<p.2→(p.1≤q.1∧q.2≤p.2)∨(q.1≤p.1∧p.2≤q.2)
theorem xDp {N:Int→Nat} {P:List Per} (h:IsLevs N P) {p q:Per} (hp:p∈P) (hq:q∈P):NoAdj p q∧Nest p q:=by
 obtain ⟨A,H,_,h2,h3⟩:=h.lev
 obtain ⟨k1,_,m1⟩:=List.mem_flatMap.1 (h3.mem_iff.1 hp)
 obtain ⟨k2,_,m2⟩:=List.mem_flatMap.1 (h3.mem_iff.1 hq)
 obtain ⟨a1,a2,a3⟩:=xuK (h2 k1).1 (h2 k1).2 m1
 obtain ⟨b1,b2,b3⟩:=xuK (h2 k2).1 (h2 k2).2 m2
 have vp:=xes.1 ((h2 k1).1.1 p m1)
 have vq:=xes.1 ((h2 k2).1.1 q m2)
 refine ⟨⟨fun e=>?_,fun e=>?_⟩,fun o1 o2=>?_⟩
 · have c1:=b1 q.1 (Int.le_refl _) (by omega)
   have c2:=a1 (q.1 - 1) (by omega) (by omega)
   rw [e] at a3;omega
 · have c1:=a1 p.1 (Int.le_refl _) (by omega)
   have c2:=b1 (p.1 - 1) (by omega) (by omega)
   rw [e] at b3;omega
 · rcases Nat.le_total k1 k2 with hk|hk
   · left
     refine ⟨?_,?_⟩
     · by_cases c:p.1≤q.1
       · exact c
       · have:=b1 (p.1 - 1) (by omega) (by omega);omega
     · by_cases c:q.2≤p.2
       · exact c
       · have:=b1 p.2 (by omega) (by omega);omega
   · right
     refine ⟨?_,?_⟩
     · by_cases c:q.1≤p.1
       · exact c
       · have:=a1 (q.1 - 1) (by omega) (by omega);omega
     · by_cases c:p.2≤q.2
       · exact c
       · have:=a1 q.2 (by omega) (by omega);omega
def Stand (f g:Fc):Prop:=pv f.p=true∧pv g.p=true∧(cmpR f.r g.r<0∨(f.r=g.r∧cmpP f.p g.p≤0∧NoAdj f.p g.p∧Nest f.p g.p))
theorem xBD {l B:List Fc} (h:IsBag l B):B.Pairwise Stand:=by
 obtain ⟨R,L,h1,h2,rfl⟩:=h
 unfold facts
 refine List.pairwise_flatMap.2 ⟨fun r hr=>?_,?_⟩
 · refine List.pairwise_map.2 ?_
   have hs:=(h2 r hr).sorted
   refine List.Pairwise.imp_of_mem ?_ hs
   intro p q hp hq hc
   obtain ⟨a,b⟩:=xDp (h2 r hr) hp hq
   exact ⟨(h2 r hr).valid p hp,(h2 r hr).valid q hq,.inr ⟨rfl,hc,a,b⟩⟩
 · refine List.Pairwise.imp_of_mem ?_ h1.1
   intro r r' hr hr' hc f hf g hg
   obtain ⟨p,hp,rfl⟩:=List.mem_map.1 hf
   obtain ⟨q,hq,rfl⟩:=List.mem_map.1 hg
   exact ⟨(h2 r hr).valid p hp,(h2 r' hr').valid q hq,.inl hc⟩
theorem xDA {p q:Per} (h:cmpP p q≤0):¬ xgM p.1 p.2 q.1 q.2>0:=by
 rw [xEN] at h
 unfold xgM
 simp only [xey,Bool.and_true]
 repeat' split
 all_goals (first|omega|(simp at *;omega))
theorem xEH {p q:Per} (h:NoAdj p q):xfp p.1 p.2 q.1 q.2=false:=by
 obtain ⟨h1,h2⟩:=h
 unfold xfp
 have e1:(p.2==q.1)=false:=by simp [h1]
 have e2:(q.2==p.1)=false:=by simp [h2]
 simp only [e1,e2,xaD,xuJ]
theorem rnest {p q:Per} (vp:pv p=true) (vq:pv q=true) (h:Nest p q):xfb p.1 p.2 q.1 q.2=false∨xee p.1 p.2 q.1 q.2=true∨xee q.1 q.2 p.1 p.2=true:=by
 unfold xfb xee
 rw [xvd,xvd,vp,vq]
 simp only [xaE,xey]
 by_cases h1:p.1<q.2
 · by_cases h2:q.1<p.2
   · rcases h h1 h2 with ⟨c1,c2⟩|⟨c1,c2⟩
     · right;left;simp [c1,c2]
     · right;right;simp [c1,c2]
   · left;simp [h1,h2]
 · left;simp [h1]
theorem xFC (b:List Fc) (hb:b.length≤1048576) (hr:∀ f,f∈b→f.r.length≤maxLen) (hp:b.Pairwise Stand) (i:Nat) (hi:i<b.length) :
  Iter (xaT (b.map encF) (i:Int)) (0:Int)=some (false,false,()):=by
 refine xni (fun k=>((k:Nat):Int)) i _ (fun k hk=>?_) ?_ i 0 (by omega)
 · have hkl:k<b.length:=by omega
   obtain ⟨v1,v2,hs⟩:=List.pairwise_iff_getElem.1 hp k i hkl hi hk
   have i1:(k:Int)<(i:Int):=by omega
   have i2:(k:Int)<(b.length:Int):=by omega
   have i3:(i:Int)<(b.length:Int):=by omega
   have gk:(b.map encF).getD k .top=encF b[k]:=xbU _ _ _ hkl
   have gi:(b.map encF).getD i .top=encF b[i]:=xbU _ _ _ hi
   have ec:=xEy b[k].r b[i].r (hr _ (List.getElem_mem hkl))
   simp only [xaT,xc5,xd2,xaY,xaV,xaU,xaX,List.length_map,xaE,xaD,decide_true,decide_false,Bool.and_true,Bool.true_and,Bool.not_true,Bool.not_false,Int.toNat_natCast,Int.natCast_nonneg,Option.isSome_some,Option.getD_some,beq_self_eq_true,Nat.zero_add,Nat.sub_zero,i1,i2,i3,hkl,hi,gk,gi,cF0,cF1,cF2,sF0,sF1,sF2,lF,sF12,sF02,ec,wrapS (n:=k) (by omega)]
   rcases hs with hs|⟨e,c,a,n⟩
   · have c1:¬ cmpR b[k].r b[i].r>0:=by omega
     have c2:(cmpR b[k].r b[i].r==0)=false:=by simp;omega
     simp only [c1,c2,decide_false,xaD]
   · have c0:cmpR b[k].r b[i].r=0:=by rw [e];exact xCl _
     have c1:¬ (0:Int)>0:=by omega
     have c2:((0:Int)==0)=true:=rfl
     have c3:=xDA c
     have c4:=xEH a
     simp only [c0,c1,c2,c3,c4,decide_false,xaD,xaE]
     rcases rnest v1 v2 n with h|h|h
     · simp only [h,xaD]
     · simp only [h,Bool.not_true,xaD,xuJ]
     · simp only [h,Bool.not_true,xaD,xuJ]
 · simp only [xaT,xc5,Int.lt_irrefl,decide_false,xaD]
theorem xFF (b:List Fc) (hb:b.length≤1048576) (hr:∀ f,f∈b→f.r.length≤maxLen) (hp:b.Pairwise Stand):Iter (xaR (b.map encF)) (0:Int)=some (false,false,()):=by
 refine xni (fun k=>((k:Nat):Int)) b.length _ (fun k hk=>?_) ?_ b.length 0 (by omega)
 · have i1:(k:Int)<(b.length:Int):=by omega
   simp only [xaR,xc7,List.length_map,xaE,xaD,decide_true,decide_false,Bool.and_true,Bool.true_and,Bool.not_true,Bool.not_false,Int.toNat_natCast,Int.natCast_nonneg,Option.isSome_some,Option.getD_some,beq_self_eq_true,Nat.zero_add,Nat.sub_zero,i1,xFC b hb hr hp k hk,wrapS (n:=k) (by omega)]
 · simp only [xaR,xc7,List.length_map,Int.lt_irrefl,decide_false,xaD]
theorem xw8 (l:List Fc) (ht:few l=true→Tx l):xcV (l.map encF)=some true:=by
 unfold xcV xe2
 simp only [xFG,Option.isSome_some,Option.getD_some,xaE]
 cases hf:few l with
 | false=>rfl
 | true =>
  simp only [Bool.not_true,xaD]
  obtain ⟨f1,f2⟩:=xv0 hf
  obtain ⟨B,b1,b2⟩:=xFA l (xFi hf (ht hf))
  have lB:=xE7 f1 b2.len
  have rB:∀ f,f∈B→f.r.length≤60:=b2.all (Q:=fun r=>r.length≤60) f2
  have i1:¬ (B.length:Int)>576:=by omega
  have e:=xFF B (by omega) (fun f hf=>by have:=rB f hf;unfold maxLen;omega) (xBD b2)
  simp only [b1,Option.isSome_some,Option.getD_some,xaE,List.length_map,i1,decide_false,xaD,e]
end Go.Sim.M
end
noncomputable section
namespace Go.Sim
theorem xuG:∀ {xs:List AV} {x:AV},x∈xs→AV.wt x≤AV.wts xs
 | y::xs,x,h=>by
  simp only [AV.wts]
  rcases List.mem_cons.1 h with rfl|h
  · omega
  · have:=xuG h;omega
theorem M.tx_wt {l:List M.Fc} (h:(AV.list 3 (l.map M.encF)).wt≤1048576) (hw:∀ y,y∈l→y.wf):M.Tx l:=fun f hf v hv=>by
 refine ⟨(hw f hf).1.2 v hv,?_⟩
 have h1:AV.wt (M.encF f)≤AV.wts (l.map M.encF):=xuG (List.mem_map.2 ⟨f,hf,rfl⟩)
 have h2:AV.wt (M.encV v)≤AV.wts (f.r.map M.encV):=xuG (List.mem_map.2 ⟨v,hv,rfl⟩)
 have e1:AV.wt (M.encF f)=AV.wts (f.r.map M.encV)+1+(1+(1+0)):=rfl
 have e2:AV.wt (M.encV v)=1+(1+(v.t.length+1+0)):=rfl
 have e3:(AV.list 3 (l.map M.encF)).wt=AV.wts (l.map M.encF)+1:=rfl
 omega
end Go.Sim
end
noncomputable section
namespace Go.Sim
theorem M.card_maximal (l:List M.Fc) (w0:l.length≤maxLen∧∀ y,y∈l→y.wf) (hb:(AV.list 3 (l.map M.encF)).wt≤1048576):M.xcV (l.map M.encF)=some true:=M.xw8 l fun _=>M.tx_wt (by omega) w0.2
end Go.Sim
end
noncomputable section
set_option maxRecDepth 10000
namespace Go.Proofs.YtefloaolddjnhaaGreatDoor.coalesceMaximal
open Go.ChangeShapes Go.WideShapes Go.ChangeAt Go.RowKit Go.Sim
theorem contract (H:Type) (enc:TypeId×Value→H) (W:World) (base:Nat) (args:Array Value) (ds gs:List (DataW H)) (before:List MemPlace)
  (hval:∀ (j:Nat) t v,Tryz.f8.params[j]?=some t→args[j]?=some v→Value.okWide Tryz.prog W .any base t v)
  (hW:DataW.Whole enc Tryz.prog Tryz.f8.params.toList Rows.coalesceMaximalSpec.vars false W args.toList ds gs before) (hL:laidMetH Tryz.prog Rows.coalesceMaximalUptoRow.laid W) (hsh:W.ShapedOpen Tryz.prog) (hbulk:Rows.uptoBulkAll (ds++gs)≤1048576) :
  Calls Tryz.prog 8 args W fun e W'=>∃ v,e=.returned v∧Rows.coalesceMaximalSpec.post enc Tryz.prog Tryz.f8 false true false false W args v W':=by
 have hW':=hW
 obtain ⟨p,q,hA0,hV,rfl,hfz,hnd⟩:=hW
 have hA:DataW.TrodAll enc Tryz.prog W 0 (fun _=>true) true Tryz.f8.params.toList args.toList ds p:=hA0
 have hAk:=hA
 rw [Tryz.params8] at hA hval
 obtain ⟨v0,vs0,d0,ds0,p0,q0,hargs,rfl,rfl,h0,r0⟩:=trodAll_cons hA
 obtain ⟨rfl,rfl,rfl⟩:=trodAll_nil r0
 obtain rfl:args=#[v0]:=by cases args;simp_all
 obtain ⟨rfl,rfl⟩:=trodVars_none hV
 obtain ⟨a0,rr0,b0,w0⟩:=xzP (hval 0 22 v0 rfl rfl) h0
 clear hA0
 have hbulk:(.list 3 (a0.map M.encF):AV).wt≤1048576:=by
  rw [List.append_nil,xmf] at hbulk
  simp only [List.map_cons,List.map_nil,List.sum_cons,List.sum_nil] at hbulk
  have:=b0 _ xCa
  omega
 have hI:ITryz W:=xFL rfl (by kernel_rfl) hL hsh
 have hpl:=M.card_maximal a0 w0 hbulk
 have hg:Sim.Good Tryz.prog ITryz 8 [.list 3 (a0.map M.encF)] (.bool true):=M.xnx _ _ (by
  show some (_,AV.bool _)=_
  rw [hpl];rfl)
 have hrc:RC W (fun _=>False) noBox [v0] [.list 3 (a0.map M.encF)]:=by
  refine ⟨rfl,fun i hi=>?_⟩
  match i,hi with
  | 0,_=>exact rr0
 refine (hg.2 W (fun _=>False) _ hI (fun _ h=>h.elim) hrc).mono fun e W' ⟨v,he,hb,hr⟩=>?_
 subst he
 obtain rfl:=hr.bool_inv
 exact ⟨_,rfl,xAs rfl hW' ⟨rfl,rfl,rfl⟩ rfl Tryz.underlying4 (by simpa using xp3 laidTryz hb (by kernel_rfl) hAk) hb⟩
noncomputable def wit:Array Value:=#[.slice none 0 0]
theorem laid_met (os:Os):laidMet Tryz.prog Rows.coalesceMaximalUptoRow.laid ((laidWorld Tryz.prog Rows.coalesceMaximalUptoRow.laid os).forCall (fun _ _=>0) ⟨#[],wit,[]⟩).memory :=
 laidMet_of_run3 8 (by kernel_rfl) (by kernel_rfl) (by kernel_rfl)
theorem reads (os:Os) {H:Type} (enc:TypeId×Value→H):∃ places,DataW.whole enc Tryz.prog ((laidWorld Tryz.prog Rows.coalesceMaximalUptoRow.laid os).forCall (fun _ _=>0) ⟨#[],wit,[]⟩).memory Tryz.f8.params.toList Rows.coalesceMaximalSpec.vars false wit.toList 8=some ([.nil],[],places) :=
 ⟨[],by kernel_rfl⟩
set_option maxRecDepth 100000 in
theorem lifted (os:Os) (started:os.Started) (H:Type) (enc:TypeId×Value→H) (F:Stop.Interp) :
  ReturnsInHanded {} Tryz.checked os 8 .any ((Rows.OpenSpec.upto Rows.coalesceMaximalSpec).preRow enc Tryz.prog Tryz.f8 Rows.coalesceMaximalUptoRow.domain false Rows.coalesceMaximalUptoRow.laid) (((Rows.OpenSpec.upto Rows.coalesceMaximalSpec).at F).post enc Tryz.prog Tryz.f8 false true false false):=by
 obtain ⟨places,hx⟩:=reads os enc
 refine returnsInHanded_of_row (C:=Tryz.checked) (s:=Rows.OpenSpec.upto Rows.coalesceMaximalSpec) ownTryz started (by kernel_rfl) Tryz.func8
  (witness_row_at (enc:=enc) (C:=Tryz.checked) false (laidWorld Tryz.prog Rows.coalesceMaximalUptoRow.laid os) wit rfl (by kernel_rfl) (by kernel_rfl) (by kernel_rfl)
   (OpenSpec.preRow_of_cond 8 hx (by kernel_rfl) (fun k hk=>by cases hk;kernel_rfl) (by kernel_rfl) (laid_met os))) ?_
 intro W base args ds gs before hval hW _ hcond _ hL hsh _
 exact contract H enc W base args ds gs before hval hW hL hsh (of_decide_eq_true (hcond _ rfl))
theorem said:Rows.CoalesceMaximalUptoSaid :=
 OpenClaim.holds_of_cond 8 Tryz.f8 rfl rfl rfl rfl rfl rfl rfl ⟨rfl,rfl,rfl,rfl,rfl⟩ rfl rfl rfl rfl rfl (by kernel_rfl) Tryz.func8 (by kernel_rfl)
  (of_decide_eq_true (by kernel_rfl)) (by unfold Func.isWrapper;first|(rw [if_pos (by decide +kernel)];kernel_rfl)|(rw [if_neg (by decide +kernel)];exact ⟨rfl,rfl⟩))
  (fun os started H enc _ F=>by rw [OpenClaim.pre_eq_preRow];exact lifted os started H enc F)
theorem plain (f:FuncId) (fn:Func) (hf:Tryz.pinned.checked.prog.funcNamed "bitemporal/bitemporallaw22.CoalesceMaximal" = some f) (hfn:Tryz.pinned.checked.prog.funcs[f]?=some fn) :
  false=Tryz.pinned.checked.prog.looks []∧∀ (j:Nat) t,fn.params[j]?=some t→Tryz.pinned.checked.prog.wantsStandIn t=false:=by
 obtain rfl:f=8:=Option.some.inj ((show Tryz.prog.funcNamed "bitemporal/bitemporallaw22.CoalesceMaximal" = some 8 by kernel_rfl).symm.trans hf) |>.symm
 obtain rfl:fn=Tryz.f8:=(Option.some.inj (Tryz.func8.symm.trans hfn)).symm
 refine ⟨by kernel_rfl,fun j t ht=>?_⟩
 rw [Tryz.params8] at ht
 have hm:=Array.mem_of_getElem? ht
 have:([22]:List Nat).all (fun t=>!(Tryz.prog.wantsStandIn t))=true:=by kernel_rfl
 have:=List.all_eq_true.1 this t (by simpa using hm)
 show Tryz.prog.wantsStandIn t=false
 simpa using this
theorem card:Rows.CoalesceMaximalUptoCardSaid :=
 Claim7.holds_tied_plain_at .later [] _ _ _ _ said (fun _ h=>by cases h) (by kernel_rfl) (fun _ h=>by cases h) coalesceMaximalUpto_row_tie rfl ⟨rfl,rfl⟩ (by kernel_rfl) rfl plain (by kernel_rfl)
end Go.Proofs.YtefloaolddjnhaaGreatDoor.coalesceMaximal
end
