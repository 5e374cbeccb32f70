/- Part 18 of the proof of the law. -/
import Derived.Test.YtoemghmemdnelaaGreatDoorMW17
set_option linter.unusedVariables false
set_option linter.unusedSimpArgs false
set_option maxRecDepth 100000
set_option maxRecDepth 10000
noncomputable section
namespace Go.Sim.M
open Go.RowKit Go.Sim.Srt
def xSX (v:Val):Prop:=TVal v/\inR v
theorem xGF (s:List UInt8) (hl:s.length<=200):∀ d k:Nat,k+d=s.length->∃ b,Iter (xba s) (k:Int)=some (b,false,())
 | 0,k,h=>by
  have hk:k=s.length:=by omega
  subst hk;refine ⟨false,xam ?_⟩;simp only [xba,xeh,zy,zm,xag,sUF]
 | d+1,k,h=>by
  have h1:(k:Int)<(s.length:Int):=by omega
  by_cases c1:(((s.getD k (0:UInt8)).toNat:Nat):Int)<32
  . refine ⟨true,xam ?_⟩;simp only [xba,xeh,sBU,h1,c1]
  . by_cases c2:(((s.getD k (0:UInt8)).toNat:Nat):Int)>126
    . refine ⟨true,xam ?_⟩;simp only [xba,xeh,sBU,h1,c1,c2]
    . obtain ⟨b,ih⟩:=xGF s hl d (k+1) (by omega)
      refine ⟨b,?_⟩;rw [<-ih];refine xaM ?_;simp only [xba,xeh,sBU,h1,c1,c2,xSj (n:=k) (by omega)]
theorem xOn (s:List UInt8) (hl:s.length<=200):∃ b,xpG s=some b:=by
 obtain ⟨b,e⟩:=xGF s hl s.length 0 (by omega)
 have e:Iter (xba s) (0:Int)=some (b,false,()):=e;unfold xpG xr1;rw [e];cases b with
 | true=>exact ⟨false,rfl⟩
 | false=>exact ⟨true,rfl⟩
theorem xP8 (k i:Int) (t:List UInt8):∃ b,xoL k i t=some b/\(b=true->xSX ⟨k,i,t⟩):=by
 have G:0<=k->k<=3->-1125899906842624<=i->i<=1125899906842624->t.length<=200->xSX ⟨k,i,t⟩:=fun h1 h2 h3 h4 h5 =>
  ⟨⟨⟨wf64 (show -9223372036854775808<=k by omega) (show k<=9223372036854775807 by omega),wf64 (show -9223372036854775808<=i by omega) (show i<=9223372036854775807 by omega),by show t.length<=maxLen;unfold maxLen;omega⟩,by show t.length<=_;omega⟩,⟨h3,h4⟩⟩
 unfold xoL xs4;by_cases k0:k=0
 . by_cases i0:i=0
   . refine ⟨t==[],by simp [xaO,k0,i0,sUF],fun h=>?_⟩
     have:t=[]:=by simpa using h
     exact G (by omega) (by omega) (by omega) (by omega) (by rw [this];simp)
   . exact ⟨false,by simp [xaO,k0,i0,sUF],fun h=>by simp at h⟩
 . by_cases k1:k=1
   . by_cases t0:t=[]
     . by_cases i0:i>=-1125899906842624
       . refine ⟨decide (i<=1125899906842624),by simp [xaO,k1,t0,i0,sUF],fun h=>?_⟩
         have:i<=1125899906842624:=by simpa using h
         exact G (by omega) (by omega) (by omega) (by omega) (by rw [t0];simp)
       . exact ⟨false,by simp [xaO,k1,t0,i0,sUF],fun h=>by simp at h⟩
     . exact ⟨false,by simp [xaO,k1,t0,sUF],fun h=>by simp at h⟩
   . by_cases k2:k=2
     . by_cases i0:i=0
       . by_cases tl:(t.length:Int)<=200
         . obtain ⟨b,hb⟩:=xOn t (by omega)
           refine ⟨b,by simp [xaO,k2,i0,tl,hb,sUF],fun h=>?_⟩
           exact G (by omega) (by omega) (by omega) (by omega) (by omega)
         . exact ⟨false,by simp [xaO,k2,i0,tl,sUF],fun h=>by simp at h⟩
       . exact ⟨false,by simp [xaO,k2,i0,sUF],fun h=>by simp at h⟩
     . by_cases k3:k=3
       . by_cases t0:t=[]
         . by_cases i0:i=0
           . exact ⟨true,by simp [xaO,k3,t0,i0,sUF],fun h=>G (by omega) (by omega) (by omega) (by omega) (by rw [t0];simp)⟩
           . refine ⟨i==1,by simp [xaO,k3,t0,i0,sUF],fun h=>?_⟩
             have:i=1:=by simpa using h
             exact G (by omega) (by omega) (by omega) (by omega) (by rw [t0];simp)
         . exact ⟨false,by simp [xaO,k3,t0,sUF],fun h=>by simp at h⟩
       . exact ⟨false,by simp [xaO,k0,k1,k2,k3,sUF],fun h=>by simp at h⟩
theorem xGi (q:Row) (kinds:List Int) (hl:q.length=kinds.length) (hk:kinds.length<=48):∀ d n:Nat,n+d=q.length->∃ b,Iter (xbz (q.map encV) (kinds.map encN)) (n:Int)=some (!b,false,())/\(b=true->∀ v,v∈q.drop n->xSX v)
 | 0,n,h=>by
  have hn:n=q.length:=by omega
  subst hn;refine ⟨true,xam ?_,fun _ v hv=>by rw [zq (zd _)] at hv;simp at hv⟩
  simp only [xbz,xf6,za,zy,zm,xag,Bool.not_true,sUF]
 | d+1,n,h=>by
  have hn:n<q.length:=by omega
  have J:n<kinds.length:=by omega
  have h1:(n:Int)<(q.length:Int):=by omega
  have h2:(n:Int)<(kinds.length:Int):=by omega
  have gf:(q.map encV).getD n .top=encV q[n]:=xad _ _ _ hn;have gk:(kinds.map encN).getD n .top=encN kinds[n]:=xad _ _ _ J;obtain ⟨b1,e1,g1⟩:=xP8 q[n].k q[n].i q[n].t;cases b1 with
  | false =>
   refine ⟨false,xam ?_,fun h=>by simp at h⟩
   simp only [xbz,xf6,xfc,xgx,sBU,hn,h1,gf,cV0,cV1,cV2,lV,sV,e1]
  | true =>
   obtain ⟨b,ih,O⟩:=xGi q kinds hl hk d (n+1) (by omega)
   have hd:∀ c,c=true->b=c->∀ v,v∈q.drop n->xSX v:=fun c hc hb v hv=>by
    rw [xaR hn] at hv;rcases zC.1 hv with rfl|hv
    . exact g1 rfl
    . exact O (by rw [hb,hc]) v hv
   by_cases k0:q[n].k=0
   . refine ⟨b,?_,fun hb=>hd true rfl hb⟩
     rw [<-ih];refine xaM ?_;have k0':(q[n].k != 0)=false:=by simp [k0]
     simp only [xbz,xf6,xfc,xgx,sBU,hn,h1,gf,cV0,cV1,cV2,lV,sV,sV0,e1,k0',xSj (n:=n) (by omega)]
   . have k0':(q[n].k != 0)=true:=by simp [k0]
     by_cases kk:q[n].k=kinds[n]
     . refine ⟨b,?_,fun hb=>hd true rfl hb⟩
       rw [<-ih];refine xaM ?_;have kk':(q[n].k != kinds[n])=false:=by simp [kk]
       simp only [xbz,xf6,xfc,xgx,sBU,hn,J,h1,h2,gf,gk,cV0,cV1,cV2,lV,sV,cN,sN,sV0,e1,k0',kk',xSj (n:=n) (by omega)]
     . have kk':(q[n].k != kinds[n])=true:=by simp [kk]
       refine ⟨false,xam ?_,fun h=>by simp at h⟩
       simp only [xbz,xf6,xfc,xgx,sBU,hn,J,h1,h2,gf,gk,cV0,cV1,cV2,lV,sV,cN,sN,sV0,e1,k0',kk']
theorem xOt (q:Row) (kinds:List Int) (hk:kinds.length<=48):∃ b,xzi (q.map encV) (kinds.map encN)=some b/\(b=true->q.length=kinds.length/\∀ v,v∈q->xSX v):=by
 unfold xzi xzU;by_cases hl:q.length=kinds.length
 . obtain ⟨b,e,g⟩:=xGi q kinds hl hk q.length 0 (by omega)
   have e:Iter (xbz (q.map encV) (kinds.map encN)) (0:Int)=_:=e;refine ⟨b,?_,fun hb=>⟨hl,by simpa using g hb⟩⟩
   rw [e];simp only [sBU,hl,bne_self_eq_false];cases b<;>rfl
 . refine ⟨false,?_,fun h=>by simp at h⟩
   have:(((q.length:Nat):Int) != ((kinds.length:Nat):Int))=true:=by simp;omega
   simp only [za,this,xaj,sUF]
theorem xGs (kinds:List Int) (hk:kinds.length<=48):∀ d n:Nat,n+d=kinds.length->∃ b,Iter (xb0 (kinds.map encN)) (n:Int)=some (b,false,())
 | 0,n,h=>by
  have hn:n=kinds.length:=by omega
  subst hn;refine ⟨false,xam ?_⟩;simp only [xb0,xj0,za,zy,zm,xag,sUF]
 | d+1,n,h=>by
  have hn:n<kinds.length:=by omega
  have h1:(n:Int)<(kinds.length:Int):=by omega
  have gk:(kinds.map encN).getD n .top=encN kinds[n]:=xad _ _ _ hn;cases c:xBW kinds[n] with
  | false =>
   refine ⟨true,xam ?_⟩;simp only [xb0,xj0,sBU,hn,h1,gk,cN,sN,c]
  | true =>
   obtain ⟨b,ih⟩:=xGs kinds hk d (n+1) (by omega)
   refine ⟨b,?_⟩;rw [<-ih];refine xaM ?_;simp only [xb0,xj0,sBU,hn,h1,gk,cN,sN,c,xSj (n:=n) (by omega)]
theorem xLe (kinds:List Int) (hk:kinds.length<=48):∃ b,xAS (kinds.map encN)=some b:=by
 obtain ⟨b,e⟩:=xGs kinds hk kinds.length 0 (by omega)
 have e:Iter (xb0 (kinds.map encN)) (0:Int)=some (b,false,()):=e;unfold xAS xyN;rw [e];cases b with
 | true=>exact ⟨false,rfl⟩
 | false=>exact ⟨true,rfl⟩
def FactOk (kinds:List Int) (f:Fc):Prop:=pv f.p=true/\f.r.length=kinds.length/\∀ v,v∈f.r->xSX v
theorem xFv (kinds:List Int) (hk:kinds.length<=48) (l:List Fc) (hl:l.length<=1024):∀ d n:Nat,n+d=l.length ->
  ∃ b,Iter xb1 ((n:Int),kinds.map encN,l.map encF)=some (if b=true then (false,(false,[],[]),(kinds.map encN,l.map encF)) else (true,(false,kinds.map encN,l.map encF),([],[])))/\(b=true->∀ f,f∈l.drop n->FactOk kinds f)
 | 0,n,h=>by
  have hn:n=l.length:=by omega
  subst hn;refine ⟨true,xam ?_,fun _ v hv=>by rw [zq (zd _)] at hv;simp at hv⟩
  simp only [xb1,xg4,za,zy,zm,xag,if_true,sUF]
 | d+1,n,h=>by
  have hn:n<l.length:=by omega
  have h1:(n:Int)<(l.length:Int):=by omega
  have gf:(l.map encF).getD n .top=encF l[n]:=xad _ _ _ hn;obtain ⟨b1,e1,g1⟩:=xOt l[n].r kinds hk;cases hv:pv l[n].p with
  | false =>
   refine ⟨false,xam ?_,fun h=>by simp at h⟩
   simp only [xb1,xg4,sBU,hn,h1,gf,cF0,cF1,cF2,sF0,sF1,sF2,lF,sF12,sF02,xlb,hv,if_false];simp
  | true =>
   cases b1 with
   | false =>
    refine ⟨false,xam ?_,fun h=>by simp at h⟩
    simp only [xb1,xg4,sBU,hn,h1,gf,cF0,cF1,cF2,sF0,sF1,sF2,lF,sF12,sF02,xlb,hv,e1];simp
   | true =>
    obtain ⟨b,ih,q⟩:=xFv kinds hk l hl d (n+1) (by omega)
    refine ⟨b,?_,fun hb f hf=>?_⟩
    . rw [<-ih];refine xaM ?_;simp only [xb1,xg4,sBU,hn,h1,gf,cF0,cF1,cF2,sF0,sF1,sF2,lF,sF12,sF02,xlb,hv,e1,xSj (n:=n) (by omega)]
    . rw [xaR hn] at hf;rcases zC.1 hf with rfl|hf
      . exact ⟨hv,g1 rfl⟩
      . exact q hb f hf
theorem xOI (kinds:List Int) (hk:kinds.length<=48) (l:List Fc) (hl:l.length<=1024):∃ b,xw3 (kinds.map encN) (l.map encF)=some b/\(b=true->∀ f,f∈l->FactOk kinds f):=by
 obtain ⟨b,e,g⟩:=xFv kinds hk l hl l.length 0 (by omega)
 have e:Iter xb1 ((0:Int),kinds.map encN,l.map encF)=_:=e;obtain ⟨bk,ek⟩:=xLe kinds hk;unfold xw3 xyT;cases b with
 | false =>
  rw [if_neg (by simp)] at e
  refine ⟨false,?_,fun h=>by simp at h⟩
  simp only [xnt,xnu,xnv,xnw,xny,sBU,e]
 | true =>
  rw [if_pos rfl] at e;have h1:((kinds.length:Nat):Int)<=48:=by omega
  by_cases h0:((kinds.length:Nat):Int)>0
  . refine ⟨bk,?_,fun _ f hf=>g rfl f (by simpa using hf)⟩
    simp only [xnt,xnu,xnv,xnw,xny,sBU,e,h0,h1,ek]
  . refine ⟨false,?_,fun h=>by simp at h⟩
    simp only [xnt,xnu,xnv,xnw,xny,sBU,e,h0]
structure GA (kinds ks:List Int) (L:List Per) (l:List Fc):Prop where
 fl:l.length<=14
 kn:kinds.length<=48
 kl:ks.length<=20
 ll:L.length<=20
 ok:∀ f,f∈l->FactOk kinds f
 kk:(xUc kinds ks L).2=0
theorem GA.fa {kinds ks:List Int} {L:List Per} {l l':List Fc} (h:GA kinds ks L l) (hr:∀ f,f∈l'->∃ g,g∈l/\g.r=f.r) (hl:l'.length<=14) (hs:capN ks l'*(2*l'.length+1)<=1024):FA ks L l':=by
 obtain ⟨k1,k2⟩:=xN5 h.kk;have kn:=h.kn;refine ⟨h.kl,h.ll,hl,hs,fun p hp h0 f hf=>?_,fun f hf v hv=>?_,fun f hf=>?_,fun f hf v hv=>?_,fun p hp=>(k2 p hp).1⟩
 . obtain ⟨g,hg,e⟩:=hr f hf;rw [<-e,(h.ok g hg).2.1];have:=(k2 p hp).2;omega
 . obtain ⟨g,hg,e⟩:=hr f hf;rw [<-e] at hv;exact ((h.ok g hg).2.2 v hv).2
 . obtain ⟨g,hg,e⟩:=hr f hf;rw [<-e,(h.ok g hg).2.1];omega
 . obtain ⟨g,hg,e⟩:=hr f hf;rw [<-e] at hv;exact ((h.ok g hg).2.2 v hv).1
theorem GA.fa0 {kinds ks:List Int} {L:List Per} {l:List Fc} (h:GA kinds ks L l):FA ks L l:=h.fa (fun f hf=>⟨f,hf,rfl⟩) (by have:=h.fl;omega) (by
 have hl:=h.fl;have:capN ks l<=14:=by unfold capN;split<;>omega
 have:=Nat.mul_le_mul this (show 2*l.length+1<=29 by omega)
 omega)
theorem xHS (kinds ks:List Int) (L:List Per) (l:List Fc):∃ b,xqz (kinds.map encN) (l.map encF) (ks.map encN) (L.map encP)=some b/\(b=true->GA kinds ks L l):=by
 unfold xqz xws;simp only [za];by_cases c1:((l.length:Nat):Int)>14
 . exact ⟨false,by simp only [c1,zn,xaj,sUF],fun h=>by simp at h⟩
 . by_cases c2:((kinds.length:Nat):Int)>48
   . exact ⟨false,by simp only [c1,c2,zn,zm,xaj,xag,sUF],fun h=>by simp at h⟩
   . obtain ⟨b,e,g⟩:=xOI kinds (by omega) l (by omega)
     cases b with
     | false=>exact ⟨false,by simp only [c1,c2,e,sBU],fun h=>by simp at h⟩
     | true =>
      by_cases c3:((ks.length:Nat):Int)>20
      . exact ⟨false,by simp only [c1,c2,c3,e,sBU],fun h=>by simp at h⟩
      . by_cases c4:((L.length:Nat):Int)>20
        . exact ⟨false,by simp only [c1,c2,c3,c4,e,sBU],fun h=>by simp at h⟩
        . cases c5:(IntKind.i64.wrap (((ks.length:Nat):Int)+((L.length:Nat):Int))==(0:Int)) with
          | true=>exact ⟨false,by simp only [c1,c2,c3,c4,c5,e,sBU],fun h=>by simp at h⟩
          | false =>
           have ek:=xwx kinds ks L (by omega) (by omega)
           refine ⟨(xUc kinds ks L).2==0,by simp only [c1,c2,c3,c4,c5,e,ek,sBU],fun h=>?_⟩
           exact ⟨by omega,by omega,by omega,by omega,g rfl,by simpa using h⟩
theorem xGt:∀ (a b:List Int),(∀ t,a.count t<=b.count t)->a.length<=b.length
 | [],b,_=>by simp
 | x::a,b,h=>by
  have hx:x∈b:=List.count_pos_iff.1 (by have:=h x;rw [List.count_cons_self] at this;omega)
  have ih:=xGt a (b.erase x) fun t=>by
   have:=h t;by_cases e:x=t
   . subst e;rw [List.count_cons_self] at this;rw [List.count_erase_self];omega
   . rw [List.count_cons_of_ne e] at this;rw [List.count_erase_of_ne (fun c=>e c.symm)];exact this
  rw [List.length_erase_of_mem hx] at ih;have:0<b.length:=List.length_pos_iff.2 fun c=>by rw [c] at hx;simp at hx
  rw [zF];omega
theorem xKN (ps:List Per) (t:Int):ps.countP (hasP · t)<=ps.countP (hasP · (t - 1))+(ps.map (·.1)).count t:=by
 induction ps with
 | nil=>simp
 | cons p ps ih =>
  rw [List.countP_cons,List.countP_cons,zV,List.count_cons];have:(if hasP p t=true then 1 else 0)<=(if hasP p (t - 1)=true then 1 else 0)+(if (p.1==t)=true then 1 else 0):=by
   by_cases h1:hasP p t=true
   . obtain ⟨hv,a,b⟩:=xf4.1 h1;by_cases h2:p.1=t
     . have e:(p.1==t)=true:=by simpa using h2
       rw [if_pos h1,if_pos e];omega
     . have:hasP p (t - 1)=true:=xf4.2 ⟨hv,by omega,by omega⟩
       rw [if_pos h1,if_pos this];omega
   . rw [if_neg h1];omega
  omega
theorem xKn (a b:Nat):∀ n:Nat,((List.range n).map fun k=>if a<=k/\k<b then 1 else 0).sum<=min n b - min n a
 | 0=>by simp
 | n+1=>by
  rw [List.range_succ,zx,List.sum_append];have:=xKn a b n;simp only [zV,zW,List.sum_cons,List.sum_nil];split<;>omega
theorem IsLevs.len1 {ps P:List Per} (h:IsLevs (fun t=>ps.countP (hasP · t)) P):P.length<=ps.length:=by
 have:(P.map (·.1)).length<=(ps.map (·.1)).length:=by
  refine xGt _ _ fun t=>?_
  obtain ⟨A,H,h1,h2,h3⟩:=h.lev;have e1:(P.map (·.1)).count t=((List.range H).map fun k=>((A k).map (·.1)).count t).sum:=by
   rw [(h3.map (·.1)).count_eq,List.map_flatMap,List.count_flatMap];rfl
  have e2:∀ n,((List.range n).map fun k=>((A k).map (·.1)).count t).sum<=((List.range n).map fun k=>if ps.countP (hasP · (t - 1))<=k/\k<ps.countP (hasP · t) then 1 else 0).sum:=fun n=>by
   induction n with
   | zero=>simp
   | succ n ih =>
    rw [List.range_succ,zx,zx,List.sum_append,List.sum_append];simp only [zV,zW,List.sum_cons,List.sum_nil];have hn:((A n).map (·.1)).Nodup:=by
     unfold List.Nodup;rw [List.pairwise_map];refine List.Pairwise.imp_of_mem (fun {p q} hp hq h=>?_) (h2 n).1.2
     have:=xbT.1 ((h2 n).1.1 p hp);omega
    have J:((A n).map (·.1)).count t<=1:=List.nodup_iff_count.1 hn t;by_cases ht:t∈(A n).map (·.1)
    . obtain ⟨p,hp,rfl⟩:=zK.1 ht;obtain ⟨a,b,_⟩:=xJ3 (N:=fun t=>ps.countP (hasP · t)) (h2 n).1 (h2 n).2 hp
      have hv:=xbT.1 ((h2 n).1.1 p hp);have:=a p.1 (Int.le_refl _) hv.2.1;rw [if_pos ⟨b,this⟩];omega
    . rw [List.count_eq_zero.2 ht];omega
  have e3:=e2 H;have e4:=xKn (ps.countP (hasP · (t - 1))) (ps.countP (hasP · t)) H;have e5:=xKN ps t;have e6:=h1 t;omega
 simpa using this
theorem xEW {L:Row->List Per}:∀ {R:List Row} {l:List Fc},R.Nodup->(∀ r,r∈R->(L r).length<=(psOf l r).length)->(xSq R L).length<=l.length
 | [],l,_,_=>by simp [xSq]
 | r::R,l,hn,h=>by
  obtain ⟨n1,n2⟩:=List.nodup_cons.1 hn;have e:xSq (r::R) L=((L r).map fun p=>(⟨r,p⟩:Fc))++xSq R L:=by simp [xSq]
  let l2:=l.filter fun f=>!decide (f.r=r)
  have J:∀ r',r'∈R->psOf l2 r'=psOf l r':=fun r' q=>by
   have hne:r'≠r:=fun e=>n1 (e▸q)
   unfold psOf;simp only [l2,List.filter_filter];congr 1;refine List.filter_congr fun f _=>?_
   by_cases hf:f.r=r'
   . have:¬ f.r=r:=fun e=>hne (hf▸e)
     simp [hf,hne]
   . simp [hf]
  have ih:=xEW (L:=L) (l:=l2) n2 fun r' q=>by rw [J r' q];exact h r' (by simp [q])
  have h1:=h r (by simp)
  have hl:(psOf l r).length+l2.length<=l.length:=by
   unfold psOf;rw [za];have:=List.length_eq_countP_add_countP (fun f:Fc=>decide (f.r=r)) (l:=l)
   have a1:(l.filter fun f=>decide (f.r=r)&&pv f.p).length<=l.countP fun f=>decide (f.r=r):=by
    rw [<-List.countP_eq_length_filter];exact List.countP_mono_left fun f _ hf=>by simp only [zf] at hf;exact hf.1
   have a2:l2.length=l.countP fun f=>¬ decide (f.r=r)=true:=by
    rw [List.countP_eq_length_filter];simp [l2]
   omega
  rw [e,z8,za];omega
theorem xSw.len1 {l B:List Fc} (h:xSw l B):B.length<=l.length:=by
 obtain ⟨R,L,h1,h2,rfl⟩:=h;refine xEW (h1.1.nodup xqb) fun r hr=>?_
 have:=h2 r hr;rw [show cnt l r=fun t=>(psOf l r).countP (hasP · t) from funext fun t=>(xC1 l r t).symm] at this
 exact this.len1
def lngF (m:Int) (f:Fc):Fc:=⟨f.r,(f.p.1,if f.p.2+m<1099511627776 then f.p.2+m else 1099511627776)⟩
def more (q:Int):Int:=(if 1099511627776<(if 1>q then 1 else q) then 1099511627776 else if 1>q then 1 else q) - 1
theorem xOb (g:List AV) (m:Int) (hm:0<=m/\m<=1099511627776) (l:List Fc) (hl:l.length<=1048576) (hv:∀ f,f∈l->pv f.p=true) (b0 b1:List AV) :
  Iter (xdS g m (l.map encF) ((l.length:Nat):Int)) ((0:Nat),(0:Int),b0,b1,[])=some ((l.map (lngF m)).length,b0,b1,(l.map (lngF m)).map encF):=by
 refine xeL (fun k=>(((l.take k).map (lngF m)).length,((k:Nat):Int),b0,b1,((l.take k).map (lngF m)).map encF)) l.length _ (fun k hk=>?_) ?_ l.length 0 (by omega)
 . have ht:(l.take (k+1)).map (lngF m)=(l.take k).map (lngF m)++[lngF m l[k]]:=by
    rw [List.take_add_one,ze hk,zx];rfl
   have hD:((l.take k).map (lngF m)).length<=k:=by rw [za,zt];omega
   have h1:(k:Int)<(l.length:Int):=by omega
   have gf:(l.map encF).getD k .top=encF l[k]:=xad _ _ _ hk;have hp:=xbT.1 (hv _ (zo hk));have w:IntKind.i64.wrap (l[k].p.2+m)=l[k].p.2+m:=xa1 (by omega) (by omega)
   have hi:(if (1099511627776:Int)<l[k].p.2+m then (1099511627776:Int) else l[k].p.2+m)=if l[k].p.2+m<1099511627776 then l[k].p.2+m else 1099511627776:=by
    by_cases c:l[k].p.2+m<1099511627776
    . rw [if_neg (by omega),if_pos c]
    . rw [if_neg c];split<;>omega
   rw [ht];generalize (l.take k).map (lngF m)=D at *;have m1:(D.length+1)*40<=140737488355328:=by omega
   have m2:D.length+1<=4611686018427387904:=by omega
   simp only [xdS,xhv,sBU,hk,h1,gf,cF0,cF1,cF2,sF0,sF1,sF2,lF,sF12,sF02,m1,m2,w,hi,xSj (n:=k) (by omega),z8,zj,zx,zV,zW]
   simp [encF,lngF]
 . simp only [xdS,xhv,zy,zm,xag,y4,sUF]
theorem xN7 (m:Int) (hm:0<=m/\m<=1099511627776) (l:List Fc) (hl:l.length<=1048576) (hv:∀ f,f∈l->pv f.p=true) :
  Iter (xiW (l.map encF) m) ((0:Nat),(0:Int),[])=some ((l.map (lngF m)).length,(l.map (lngF m)).map encF):=by
 refine xeL (fun k=>(((l.take k).map (lngF m)).length,((k:Nat):Int),((l.take k).map (lngF m)).map encF)) l.length _ (fun k hk=>?_) ?_ l.length 0 (by omega)
 . have ht:(l.take (k+1)).map (lngF m)=(l.take k).map (lngF m)++[lngF m l[k]]:=by
    rw [List.take_add_one,ze hk,zx];rfl
   have hD:((l.take k).map (lngF m)).length<=k:=by rw [za,zt];omega
   have h1:(k:Int)<(l.length:Int):=by omega
   have gf:(l.map encF).getD k .top=encF l[k]:=xad _ _ _ hk;have hp:=xbT.1 (hv _ (zo hk));have w:IntKind.i64.wrap (l[k].p.2+m)=l[k].p.2+m:=xa1 (by omega) (by omega)
   rw [ht];generalize (l.take k).map (lngF m)=D at *;have m1:(D.length+1)*40<=140737488355328:=by omega
   have m2:D.length+1<=4611686018427387904:=by omega
   simp only [xiW,xso,xk9,sBU,hk,h1,gf,cF0,cF1,cF2,sF0,sF1,sF2,lF,sF12,sF02,m1,m2,w,xSj (n:=k) (by omega),z8,zj,zx,zV,zW]
   simp [encF,lngF]
 . simp only [xiW,xso,za,zy,zm,xag,y4,sUF]
theorem xMQ (n:Int) (l:List Fc) (hl:l.length<=1048576) (hv:∀ f,f∈l->pv f.p=true):xAa (l.map encF) n=some ((l.map (lngF (if (if 1099511627776<n then 1099511627776 else n)>0 then if 1099511627776<n then 1099511627776 else n else 0))).map encF):=by
 have e:=xN7 (if (if (1099511627776:Int)<n then (1099511627776:Int) else n)>0 then if (1099511627776:Int)<n then (1099511627776:Int) else n else 0) (by constructor<;>(repeat' split)<;>omega) l hl hv
 generalize l.map (lngF (if (if (1099511627776:Int)<n then (1099511627776:Int) else n)>0 then if (1099511627776:Int)<n then (1099511627776:Int) else n else 0))=D at *
 have tt:List.take D.length (D.map encF)=D.map encF:=zi (by simp)
 unfold xAa xBz;simp only [xvo,xvp,xvq,xvr,e,tt,sBU,zr,zd]
theorem xPO {f:Fc} (hv:pv f.p=true) {m m':Int} (h:m=m'\/1099511627775<=m/\1099511627775<=m'):lngF m f=lngF m' f:=by
 rcases h with rfl|⟨h1,h2⟩
 . rfl
 . have:=xbT.1 hv;unfold lngF;rw [if_neg (by omega),if_neg (by omega)]
theorem xPP (m:Int) (B:List Fc):∀ f,f∈B.map (lngF m)->∃ g,g∈B/\g.r=f.r:=fun f hf=>by
 obtain ⟨g,hg,rfl⟩:=zK.1 hf;exact ⟨g,hg,rfl⟩
theorem GA.bld {kinds ks:List Int} {L:List Per} {l:List Fc} (h:GA kinds ks L l):Bld l:=xNu (by have:=h.fl;omega) h.fa0.rl h.fa0.tx
theorem xE3 {kinds:List Int} {L:List Per} {l:List Fc} (h:GA kinds [] L l) (q:Int) (hw:-9223372036854775808<=q/\q<=9223372036854775807):∃ BB B,xk5 (l.map encF)=some (BB.map encF)/\xSw l BB/\FA [] L (BB.map (lngF (more q))) /\
  xjC (kinds.map encN) (l.map encF) (L.map encP) q=some ((xUc kinds [] L).1.map encN,B.map encF) /\
  xC5 (kinds.map encN) (l.map encF) (L.map encP) q=some ((xUc kinds [] L).1.map encN,B.map encF)/\xSL [] L (BB.map (lngF (more q))) B:=by
 obtain ⟨BB,b1,b2,hB⟩:=xNM l h.bld;have V:=hB.len1;have U:=h.fl;have hv:∀ f,f∈BB->pv f.p=true:=fun f hf=>(hB.valid hf).1
 have J:FA [] L (BB.map (lngF (more q))):=h.fa (fun f hf=>by
  obtain ⟨g,hg,e⟩:=xPP _ _ f hf;obtain ⟨_,g2,O,e2⟩:=hB.valid hg;exact ⟨g2,O,e2.trans e⟩) (by rw [za];omega) (by rw [za];show 1*_<=_;omega)
 obtain ⟨B,e1,_,e2,hG⟩:=xEU J kinds;refine ⟨BB,B,b2,hB,J,?_,?_,hG⟩
 . have hm:0<=more q/\more q<=1099511627776:=by unfold more;constructor<;>(repeat' split)<;>omega
   have el:=xOb (L.map encP) (more q) hm BB (by omega) hv (kinds.map encN) (l.map encF)
   have ew:IntKind.i64.wrap ((if (1099511627776:Int)<(if (1:Int)>q then (1:Int) else q) then (1099511627776:Int) else if (1:Int)>q then (1:Int) else q) - 1)=more q:=by
    unfold more;exact xa1 (by (repeat' split)<;>omega) (by (repeat' split)<;>omega)
   generalize BB.map (lngF (more q))=D at *;have tt:List.take D.length (D.map encF)=D.map encF:=zi (by simp)
   have e1:xfR (kinds.map encN) (D.map encF) [] (L.map encP)=_:=e1;unfold xjC xp7;simp only [xoM,xoN,xoO,xoP,xoQ,xoR,xoS,b1,ew,sBU,el,tt,e1,zr,zd]
 . have ew:IntKind.i64.wrap ((if (1:Int)>q then (1:Int) else q) - 1)=(if (1:Int)>q then (1:Int) else q) - 1:=xa1 (by (repeat' split)<;>omega) (by (repeat' split)<;>omega)
   have el:=xMQ ((if (1:Int)>q then (1:Int) else q) - 1) BB (by omega) hv
   have Q:BB.map (lngF (if (if (1099511627776:Int)<((if (1:Int)>q then (1:Int) else q) - 1) then (1099511627776:Int) else ((if (1:Int)>q then (1:Int) else q) - 1))>0 then if (1099511627776:Int)<((if (1:Int)>q then (1:Int) else q) - 1) then (1099511627776:Int) else ((if (1:Int)>q then (1:Int) else q) - 1) else 0))=BB.map (lngF (more q)):=by
    refine List.map_congr_left fun f hf=>xPO (hv f hf) ?_
    unfold more;repeat' split
    all_goals omega
   rw [Q] at el;generalize BB.map (lngF (more q))=D at *;have ek:=xwx kinds [] L (by simp) (by have:=h.ll;omega)
   have ek:xbk (kinds.map encN) [] (L.map encP)=_:=ek;have e2:xif (kinds.map encN) (D.map encF) [] (L.map encP)=_:=e2;unfold xC5 xBA;simp only [xvs,xvt,b2,ew,sBU,el,ek,e2]
theorem xAn (a b:List Int) (hl:a.length=b.length) (ha:a.length<=1048576):Iter (xcd (a.map encN) (b.map encN)) (0:Int)=some (if a=b then (false,false,()) else (true,false,())):=by
 refine xFT a b hl (fun n h h2=>?_) ?_
 . have h1:(n:Int)<(a.length:Int):=by omega
   have h3:(n:Int)<(b.length:Int):=by omega
   have gf:(a.map encN).getD n .top=encN a[n]:=xad _ _ _ h;have gg:(b.map encN).getD n .top=encN b[n]:=xad _ _ _ h2;simp only [xcd,xiT,sBU,h,h1,h2,h3,gf,gg,cN,sN,xSj (n:=n) (by omega)]
   by_cases he:a[n]=b[n]<;>simp [he,xaj,xag,xaO,sUF]
 . simp only [xcd,xiT,za,zy,zm,xag,sUF]
theorem xDa (a:List Int) (ha:a.length<=1048576):xhF (a.map encN) (a.map encN)=some true:=by
 unfold xhF xsg;simp only [za,bne_self_eq_false,xag,sUF];rw [xAn a a rfl ha];simp [xaj,xag,sUF]
theorem xSL.small {ks:List Int} {L:List Per} {l B:List Fc} (h:xSL ks L l B):B.length<=1024/\∀ f,f∈B->f.r.length<=40:=by
 obtain ⟨O,h1,_,h2,h3⟩:=h;exact ⟨Nat.le_trans h1.len1 h2,h1.all (Q:=fun r=>r.length<=40) fun f hf=>(h3 f hf).2⟩
theorem xGr {kinds ks:List Int} {L:List Per} (hk:ks.length<=20) (hL:L.length<=20):(xUc kinds ks L).1.length<=1048576:=by
 have:=xDI kinds ks L;omega
theorem xKB {ks:List Int} {L:List Per} {l B:List Fc} (h:xSL ks L l B) (k:List Int) (hk:k.length<=1048576):xAV (k.map encN) (B.map encF) (k.map encN) (B.map encF)=some true:=by
 obtain ⟨h1,h2⟩:=h.small;have e1:=xDa k hk;have e2:=xOu (B:=B) (by omega) fun f hf=>by have:=h2 f hf;omega
 unfold xAV xyO;simp only [e1,e2,zk,zh,xaj,sUF]
theorem xN2 {ks:List Int} {L:List Per} {l B:List Fc} (h:xSL ks L l B) {t:Int} (ht:0<=t/\t<1099511627776) {S:List Row} (hp:S.Perm (xSk ks L (atL l t))) (hs:Sorted cmpR S) :
  xie (B.map encF) t=some (S.map encR)/\xg2 (S.map encR) (S.map encR)=some true:=by
 obtain ⟨h1,h2⟩:=h.small;obtain ⟨O,hO,hc,_⟩:=h;have q:Few B:=⟨by omega,fun f hf=>by have:=h2 f hf;omega⟩
 obtain ⟨R,e,p,s⟩:=xM7 B t q;have J:(atL B t).Perm (xSk ks L (atL l t)):=List.perm_iff_count.2 fun r=>by rw [xCJ,hO.cntB,hc,if_pos ht]
 obtain rfl:R=S:=xzn xqb (fun _ _=>xkG) (p.trans (J.trans hp.symm)) s hs
 exact ⟨e,xRY ((q.at t).perm p)⟩
theorem xHK (k:List Int) (hk:k.length<=1048576) {S:List Row} (hS:xg2 (S.map encR) (S.map encR)=some true):xyM (k.map encN) (S.map encR) (k.map encN) (S.map encR)=some true:=by
 have e1:=xDa k hk;unfold xyM xuV;simp only [e1,hS,zk,zh,xaj,sUF]
theorem xN8 {l:List Fc} (hv:∀ f,f∈l->pv f.p=true):l.map (lngF 0)=l:=by
 have:l.map (lngF 0)=l.map id:=List.map_congr_left fun f hf=>by
  have:=xbT.1 (hv f hf);obtain ⟨r,a,b⟩:=f;show (⟨r,(a,if b+0<1099511627776 then b+0 else 1099511627776)⟩:Fc)=⟨r,(a,b)⟩
  dsimp only at this;split
  . rw [Int.add_zero]
  . rw [show b=1099511627776 by omega]
 rw [this,List.map_id]
theorem xQY {l B:List Fc} (h:xSw l B) (t:Int):(atL B t).Perm (atL l t):=xNK fun r=>h.cntB r t
theorem xPN {f:Fc} (hv:pv f.p=true) {w t:Int} (hw:1<=w/\w<=1099511627776) (ht:0<=t/\t<1099511627776) :
  hasP (lngF (w - 1) f).p t=xcN f.p.1 f.p.2 (if 0>t - w+1 then 0 else t - w+1) (t+1):=by
 have h:=xbT.1 hv;have h2:pv ((if (0:Int)>t - w+1 then (0:Int) else t - w+1),t+1)=true:=xbT.2 (by dsimp only;(repeat' split)<;>omega)
 have h3:pv (lngF (w - 1) f).p=true:=xbT.2 (by unfold lngF;dsimp only;(repeat' split)<;>omega)
 have e:=xOl f.p ((if (0:Int)>t - w+1 then (0:Int) else t - w+1),t+1)
 dsimp only at e;rw [e,hv,h2,Bool.true_and,Bool.true_and];unfold hasP;rw [h3,Bool.true_and];unfold lngF;dsimp only;rw [Bool.eq_iff_iff];simp only [zf,zl]
 (repeat' split)<;>omega
def winL (l:List Fc) (q:Per):List Row:=l.flatMap fun f=>if xcN f.p.1 f.p.2 q.1 q.2=true then [f.r] else []
theorem xRv {l:List Fc} (hv:∀ f,f∈l->pv f.p=true) {w t:Int} (hw:1<=w/\w<=1099511627776) (ht:0<=t/\t<1099511627776) :
  atL (l.map (lngF (w - 1))) t=winL l ((if 0>t - w+1 then 0 else t - w+1),t+1):=by
 unfold atL winL;rw [List.flatMap_map];have:∀ l':List Fc,(∀ f,f∈l'->pv f.p=true)->(l'.flatMap fun f=>if hasP (lngF (w - 1) f).p t=true then [(lngF (w - 1) f).r] else [])=l'.flatMap fun f=>if xcN f.p.1 f.p.2 (if 0>t - w+1 then 0 else t - w+1) (t+1)=true then [f.r] else []:=fun l' h=>by
  induction l' with
  | nil=>rfl
  | cons f l' ih =>
   rw [zR,zR,ih fun g hg=>h g (List.mem_cons_of_mem _ hg),xPN (h f (by simp)) hw ht];rfl
 exact this l hv
theorem xOR (g:List AV) (w0 t0:Int) (q:Per) (k f kr:List AV) (l:List Fc) (hl:l.length<=1048576) :
  Iter (xbC g w0 t0 (l.map encF)) ((0:Int),k,f,q.1,q.2,kr,(0:Nat),[])=some (k,f,kr,(winL l q).length,(winL l q).map encR):=by
 refine xeL (fun n=>(((n:Nat):Int),k,f,q.1,q.2,kr,(winL (l.take n) q).length,(winL (l.take n) q).map encR)) l.length _ (fun n hn=>?_) ?_ l.length 0 (by omega)
 . have ht:winL (l.take (n+1)) q=winL (l.take n) q++(if xcN l[n].p.1 l[n].p.2 q.1 q.2=true then [l[n].r] else []):=by
    unfold winL;rw [List.take_add_one,ze hn,List.flatMap_append];simp only [Option.toList_some,zR,List.flatMap_nil,zD]
   have hD:(winL (l.take n) q).length<=n:=by
    have:=xgN (g:=fun f:Fc=>if xcN f.p.1 f.p.2 q.1 q.2=true then [f.r] else []) (c:=1) (l.take n) fun f _=>by split<;>simp
    rw [zt] at this;unfold winL;omega
   have h1:(n:Int)<(l.length:Int):=by omega
   have gf:(l.map encF).getD n .top=encF l[n]:=xad _ _ _ hn;have ov:=xOw l[n].p q;rw [ht];generalize winL (l.take n) q=D at *;have m1:(D.length+1)*24<=140737488355328:=by omega
   have m2:D.length+1<=4611686018427387904:=by omega
   cases c:xcN l[n].p.1 l[n].p.2 q.1 q.2 with
   | false=>simp only [xbC,xcS,sBU,hn,h1,gf,cF0,cF1,cF2,sF0,sF1,sF2,lF,sF12,sF02,ov,c,xSj (n:=n) (by omega),zT,if_false,zD]
   | true =>
    simp only [xbC,xcS,sBU,hn,h1,gf,cF0,cF1,cF2,sF0,sF1,sF2,lF,sF12,sF02,ov,c,m1,m2,xSj (n:=n) (by omega),if_true,z8,zj,zx,zV,zW]
    simp [encR]
 . simp only [xbC,xcS,za,zy,zm,xag,y4,sUF]
theorem xNo (k:List AV) (fs R:List AV) (t:Int) (h:xie fs t=some R):xwK k fs t=some (k,R):=by
 unfold xwK xtK;simp only [h,zk,zh,xaj,sUF]
theorem xI4 (kinds:List Int) (L:List Per) (l:List Fc) (w t:Int):xlx (kinds.map encN) (l.map encF) (L.map encP) w t=some true:=by
 obtain ⟨b,e,g⟩:=xHS kinds [] L l;have e:xqz (kinds.map encN) (l.map encF) [] (L.map encP)=some b:=e;unfold xlx xjK;cases b with
 | false=>simp only [sBU,e]
 | true =>
  have h:=g rfl;by_cases c1:t<0
  . simp only [sBU,e,c1]
  . by_cases c2:t>=1099511627776
    . simp only [sBU,e,c1,c2]
    . by_cases c3:w<1
      . simp only [sBU,e,c1,c2,c3]
      . by_cases c4:w>1099511627776
        . simp only [sBU,e,c1,c2,c3,c4]
        . obtain ⟨BB,B,eb,hB,U,e1,_,hG⟩:=xE3 h w ⟨by omega,by omega⟩
          obtain ⟨BB',B1,ah,Q,_,e2,_,J⟩:=xE3 h 1 ⟨by omega,by omega⟩
          obtain ⟨B2,e3,_,_,aa⟩:=xEU h.fa0 kinds;have hv:∀ f,f∈BB->pv f.p=true:=fun f hf=>(hB.valid hf).1
          have hv':∀ f,f∈BB'->pv f.p=true:=fun f hf=>(Q.valid hf).1
          have af:more 1=0:=by decide
          have ac:more w=w - 1:=by
           unfold more;repeat' split
           all_goals omega
          rw [af,xN8 hv'] at J;obtain rfl:B1=B2:=J.unique aa (fun t _ _=>xQY Q t) h.fa0.ops
          rw [ac] at hG U;have q:=xRv hv (w:=w) (t:=t) ⟨by omega,by omega⟩ ⟨by omega,by omega⟩
          have ai:=hB.len1;have ag:=h.fl;have ad:=xOR (L.map encP) w t ((if 0>t - w+1 then 0 else t - w+1),t+1) (kinds.map encN) (l.map encF) (kinds.map encN) BB (by omega)
          have O:∀ r,r∈winL BB ((if 0>t - w+1 then 0 else t - w+1),t+1)->∃ f,f∈BB.map (lngF (w - 1))/\f.r=r:=fun r hr=>by
           rw [<-q] at hr;obtain ⟨f,hf,e,_⟩:=xwe hr;exact ⟨f,hf,e⟩
          have V:(winL BB ((if 0>t - w+1 then 0 else t - w+1),t+1)).length<=1024:=by
           rw [<-q];have:=xzp (BB.map (lngF (w - 1))) t;rw [za] at this;omega
          have ab:IntKind.i64.wrap (t - w)=t - w:=xa1 (by omega) (by omega)
          have Y:IntKind.i64.wrap (t - w+1)=t - w+1:=xa1 (by omega) (by omega)
          have ae:IntKind.i64.wrap (t+1)=t+1:=xa1 (by omega) (by omega)
          have Z:(if t - w+1>0 then t - w+1 else 0)=if 0>t - w+1 then 0 else t - w+1:=by
           split<;>split<;>omega
          obtain ⟨S,r2,r3,r4⟩:=xDR kinds [] L _ (U.ak O V) (by omega) (by simp) (by have:=h.ll;omega) h.fa0.ops
          rw [<-q] at r3;obtain ⟨s1,s2⟩:=xN2 hG ⟨by omega,by omega⟩ r3 r4
          have v1:=xNo ((xUc kinds [] L).1.map encN) (B.map encF) (S.map encR) t s1;have ex:=xHK (xUc kinds [] L).1 (xGr h.kl h.ll) s2;have ea:=xKB J (xUc kinds [] L).1 (xGr h.kl h.ll);generalize winL BB ((if 0>t - w+1 then 0 else t - w+1),t+1)=W at *
          have tt:List.take W.length (W.map encR)=W.map encR:=zi (by simp)
          have r2:xfP (kinds.map encN) (W.map encR) [] (L.map encP)=_:=r2;have e3:xfR (kinds.map encN) (l.map encF) [] (L.map encP)=_:=e3;simp only [xiw,xiy,xiz,xiA,xiB,xiC,xiD,xiE,xiF,xiG,xh5,xda,xdb,xh6,xh7,xh8,xh9,xia,xib,xic,sBU,e,c1,c2,c3,c4,eb,ab,Y,ae,Z,ad,e1,e2,e3,tt,v1,r2,ex,ea,zr,zd]
end Go.Sim.M
namespace Go.Sim
theorem M.card_windows (r:List Int×List M.Fc) (L:List M.Per) (p:M.Per) (w0:∀ y,y∈r.2->y.wf) (w1:L.length<=maxLen/\∀ y,y∈L->M.PerWf y) (w2:M.PerWf p):M.xlx (r.1.map M.encN) (r.2.map M.encF) (L.map M.encP) p.1 p.2=some true:=M.xI4 r.1 L r.2 p.1 p.2
end Go.Sim
namespace Go.Proofs.YtoemghmemdnelaaGreatDoor.aggregateWindows
open Go.ChangeShapes Go.WideShapes Go.ChangeAt Go.RowKit Go.Sim
theorem contract (H:Type) (enc:TypeId×Value->H) (W:World) (base:Nat) (args:Array Value) (ds gs:List (DataW H)) (before:List MemPlace)
  (hval:∀ (j:Nat) t v,Tryz.f7.params[j]?=some t->args[j]?=some v->Value.okWide Tryz.prog W .any base t v)
  (hW:DataW.Whole enc Tryz.prog Tryz.f7.params.toList Rows.aggregateWindowsSpec.vars false W args.toList ds gs before) (hL:laidMetH Tryz.prog Rows.aggregateWindowsRow.laid W) (hsh:W.ShapedOpen Tryz.prog) :
  Calls Tryz.prog 7 args W fun e W'=>∃ v,e=.returned v/\Rows.aggregateWindowsSpec.post enc Tryz.prog Tryz.f7 false true false false W args v W':=by
 have hW':=hW;obtain ⟨p,q,hA0,hV,rfl,hfz,hnd⟩:=hW;have hA:DataW.TrodAll enc Tryz.prog W 0 (fun _=>true) true Tryz.f7.params.toList args.toList ds p:=hA0
 have hAk:=hA;rw [Tryz.params7] at hA hval;obtain ⟨v0,vs0,d0,ds0,p0,q0,hargs,rfl,rfl,h0,r0⟩:=trodAll_cons hA;obtain ⟨v1,vs1,d1,ds1,p1,q1,rfl,rfl,rfl,h1,r1⟩:=trodAll_cons r0;obtain ⟨v2,vs2,d2,ds2,p2,q2,rfl,rfl,rfl,h2,r2⟩:=trodAll_cons r1;obtain ⟨rfl,rfl,rfl⟩:=trodAll_nil r2;obtain rfl:args=#[v0,v1,v2]:=by cases args;simp_all
 obtain ⟨rfl,rfl⟩:=trodVars_none hV;obtain ⟨a0,rr0,b0,w0⟩:=xOf (hval 0 25 v0 rfl rfl) h0;obtain ⟨a1,rr1,b1,w1⟩:=xMY (hval 1 26 v1 rfl rfl) h1;obtain ⟨a2,rr2,b2,w2⟩:=xMx (hval 2 54 v2 rfl rfl) h2;clear hA0;have hI:xT5 W:=xRe rfl (by kernel_rfl) hL hsh
 have hpl:=M.card_windows a0 a1 a2 w0 w1 w2;have hg:Sim.Good Tryz.prog xT5 7 [(.agg [.list 1 (a0.1.map M.encN),.list 3 (a0.2.map M.encF)]),.list 2 (a1.map M.encP),(.agg [.int .i64 a2.1,.int .i64 a2.2])] (.bool true):=M.xzL _ _ (congrArg (fun x:Option Bool=>some (x.isSome,AV.bool (x.getD false))) hpl)
 have hrc:RC W (fun _=>False) xTC [v0,v1,v2] [(.agg [.list 1 (a0.1.map M.encN),.list 3 (a0.2.map M.encF)]),.list 2 (a1.map M.encP),(.agg [.int .i64 a2.1,.int .i64 a2.2])]:=by
  refine ⟨rfl,fun i hi=>?_⟩
  match i,hi with
  | 0,_=>exact rr0
  | 1,_=>exact rr1
  | 2,_=>exact rr2
 refine (hg.2 W (fun _=>False) _ hI (fun _ h=>h.elim) hrc).mono fun e W' ⟨v,he,hb,hr⟩=>?_
 subst he;obtain rfl:=hr.bool_inv;exact ⟨_,rfl,xM3 rfl hW' ⟨rfl,rfl,rfl⟩ rfl Tryz.underlying4 (by simpa using xCd xTe hb (by kernel_rfl) hAk) hb⟩
noncomputable def wit:Array Value:=#[.agg #[.slice none 0 0,.slice none 0 0],.slice none 0 0,.agg #[.int .i64 0,.int .i64 0]]
theorem laid_met (os:Os):laidMet Tryz.prog Rows.aggregateWindowsRow.laid ((xSV Tryz.prog Rows.aggregateWindowsRow.laid os).forCall (fun _ _=>0) ⟨#[],wit,[]⟩).memory :=
 laidMet_of_run3 8 (by kernel_rfl) (by kernel_rfl) (by kernel_rfl)
theorem reads (os:Os) {H:Type} (enc:TypeId×Value->H):∃ places,DataW.whole enc Tryz.prog ((xSV Tryz.prog Rows.aggregateWindowsRow.laid os).forCall (fun _ _=>0) ⟨#[],wit,[]⟩).memory Tryz.f7.params.toList Rows.aggregateWindowsSpec.vars false wit.toList 8=some ([.agg [.nil,.nil],.nil,.agg [.lit (.int .i64 0),.lit (.int .i64 0)]],[],places) :=
 ⟨[],by kernel_rfl⟩
set_option maxRecDepth 100000 in
theorem lifted (os:Os) (started:os.Started) (H:Type) (enc:TypeId×Value->H) (F:Stop.Interp) :
  ReturnsInHanded {} Tryz.checked os 7 .any ((OpenSpec.ofChange Rows.aggregateWindowsSpec).preRow enc Tryz.prog Tryz.f7 Rows.aggregateWindowsRow.domain false Rows.aggregateWindowsRow.laid) (((OpenSpec.ofChange Rows.aggregateWindowsSpec).at F).post enc Tryz.prog Tryz.f7 false true false false):=by
 obtain ⟨places,hx⟩:=reads os enc;refine returnsInHanded_of_row (C:=Tryz.checked) (s:=OpenSpec.ofChange Rows.aggregateWindowsSpec) xTh started (by kernel_rfl) Tryz.func7
  (witness_row_at (enc:=enc) (C:=Tryz.checked) false (xSV Tryz.prog Rows.aggregateWindowsRow.laid os) wit rfl (by kernel_rfl) (by kernel_rfl) (by kernel_rfl)
   (OpenSpec.preRow_of_cond 8 hx (by kernel_rfl) (fun k hk=>by cases hk) (by kernel_rfl) (laid_met os))) ?_
 intro W base args ds gs before hval hW _ _ _ hL hsh _;exact contract H enc W base args ds gs before hval hW hL hsh
theorem said:Rows.AggregateWindowsSaid :=
 OpenClaim.holds_of_cond 7 Tryz.f7 rfl rfl rfl rfl rfl rfl rfl ⟨rfl,rfl,rfl,rfl,rfl⟩ rfl rfl rfl rfl rfl (by kernel_rfl) Tryz.func7 (by kernel_rfl)
  (of_decide_eq_true (by kernel_rfl)) (by unfold Func.isWrapper;first|(rw [if_pos (by decide +kernel)];kernel_rfl)|(rw [if_neg (by decide +kernel)];exact ⟨rfl,rfl⟩))
  (fun os started H enc _ F=>by rw [OpenClaim.pre_eq_preRow];exact lifted os started H enc F)
theorem plain (f:FuncId) (fn:Func) (hf:Tryz.pinned.checked.prog.funcNamed "bitemporal/bitemporallaw26.AggregateWindows" = some f) (hfn:Tryz.pinned.checked.prog.funcs[f]?=some fn) :
  false=Tryz.pinned.checked.prog.looks []/\∀ (j:Nat) t,fn.params[j]?=some t->Tryz.pinned.checked.prog.wantsStandIn t=false:=by
 obtain rfl:f=7:=Option.some.inj ((show Tryz.prog.funcNamed "bitemporal/bitemporallaw26.AggregateWindows" = some 7 by kernel_rfl).symm.trans hf) |>.symm
 obtain rfl:fn=Tryz.f7:=(Option.some.inj (Tryz.func7.symm.trans hfn)).symm;refine ⟨by kernel_rfl,fun j t ht=>?_⟩
 rw [Tryz.params7] at ht;have hm:=Array.mem_of_getElem? ht;have:([25,26,54]:List Nat).all (fun t=>!(Tryz.prog.wantsStandIn t))=true:=by kernel_rfl
 have:=List.all_eq_true.1 this t (by simpa using hm)
 show Tryz.prog.wantsStandIn t=false;simpa using this
theorem card:Rows.AggregateWindowsCardSaid :=
 Claim7.holds_tied_plain_at .later [] _ _ _ _ said (fun _ h=>by cases h) (by kernel_rfl) (fun _ h=>by cases h) aggregateWindows_row_tie rfl ⟨rfl,rfl⟩ (by kernel_rfl) rfl plain (by kernel_rfl)
end Go.Proofs.YtoemghmemdnelaaGreatDoor.aggregateWindows
