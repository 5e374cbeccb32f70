/- Part 19 of the proof of the law. -/
import Derived.Test.YtoemghmemdnelaaGreatDoorMN18
set_option linter.unusedVariables false
set_option linter.unusedSimpArgs false
set_option maxRecDepth 100000
set_option maxRecDepth 10000
noncomputable section
namespace Go.Sim.M
open Go.RowKit Go.Sim.Srt
def xR8 (v:Val):Prop:=TVal v/\inR v
theorem xF1 (s:List UInt8) (hl:s.length<=200):∀ d k:Nat,k+d=s.length->∃ b,Iter (xbb s) (k:Int)=some (b,false,())
 | 0,k,h=>by
  have hk:k=s.length:=by omega
  subst hk;refine ⟨false,xam ?_⟩;simp only [xbb,xed,zy,zm,xag,sUF]
 | d+1,k,h=>by
  have h1:(k:Int)<(s.length:Int):=by omega
  by_cases c1:(((s.getD k (0:UInt8)).toNat:Nat):Int)<32
  . refine ⟨true,xam ?_⟩;simp only [xbb,xed,sBU,h1,c1]
  . by_cases c2:(((s.getD k (0:UInt8)).toNat:Nat):Int)>126
    . refine ⟨true,xam ?_⟩;simp only [xbb,xed,sBU,h1,c1,c2]
    . obtain ⟨b,ih⟩:=xF1 s hl d (k+1) (by omega)
      refine ⟨b,?_⟩;rw [<-ih];refine xaM ?_;simp only [xbb,xed,sBU,h1,c1,c2,xRv (n:=k) (by omega)]
theorem xNF (s:List UInt8) (hl:s.length<=200):∃ b,xo7 s=some b:=by
 obtain ⟨b,e⟩:=xF1 s hl s.length 0 (by omega)
 have e:Iter (xbb s) (0:Int)=some (b,false,()):=e;unfold xo7 xru;rw [e];cases b with
 | true=>exact ⟨false,rfl⟩
 | false=>exact ⟨true,rfl⟩
theorem xPk (k i:Int) (t:List UInt8):∃ b,xoi k i t=some b/\(b=true->xR8 ⟨k,i,t⟩):=by
 have G:0<=k->k<=3->-1125899906842624<=i->i<=1125899906842624->t.length<=200->xR8 ⟨k,i,t⟩:=fun h1 h2 h3 h4 h5 =>
  ⟨⟨⟨wf64 (show -9223372036854775808<=k by omega) (show k<=9223372036854775807 by omega),wf64 (show -9223372036854775808<=i by omega) (show i<=9223372036854775807 by omega),by show t.length<=maxLen;unfold maxLen;omega⟩,by show t.length<=_;omega⟩,⟨h3,h4⟩⟩
 unfold xoi xsz;by_cases k0:k=0
 . by_cases i0:i=0
   . refine ⟨t==[],by simp [xaO,k0,i0,sUF],fun h=>?_⟩
     have:t=[]:=by simpa using h
     exact G (by omega) (by omega) (by omega) (by omega) (by rw [this];simp)
   . exact ⟨false,by simp [xaO,k0,i0,sUF],fun h=>by simp at h⟩
 . by_cases k1:k=1
   . by_cases t0:t=[]
     . by_cases i0:i>=-1125899906842624
       . refine ⟨decide (i<=1125899906842624),by simp [xaO,k1,t0,i0,sUF],fun h=>?_⟩
         have:i<=1125899906842624:=by simpa using h
         exact G (by omega) (by omega) (by omega) (by omega) (by rw [t0];simp)
       . exact ⟨false,by simp [xaO,k1,t0,i0,sUF],fun h=>by simp at h⟩
     . exact ⟨false,by simp [xaO,k1,t0,sUF],fun h=>by simp at h⟩
   . by_cases k2:k=2
     . by_cases i0:i=0
       . by_cases tl:(t.length:Int)<=200
         . obtain ⟨b,hb⟩:=xNF t (by omega)
           refine ⟨b,by simp [xaO,k2,i0,tl,hb,sUF],fun h=>?_⟩
           exact G (by omega) (by omega) (by omega) (by omega) (by omega)
         . exact ⟨false,by simp [xaO,k2,i0,tl,sUF],fun h=>by simp at h⟩
       . exact ⟨false,by simp [xaO,k2,i0,sUF],fun h=>by simp at h⟩
     . by_cases k3:k=3
       . by_cases t0:t=[]
         . by_cases i0:i=0
           . exact ⟨true,by simp [xaO,k3,t0,i0,sUF],fun h=>G (by omega) (by omega) (by omega) (by omega) (by rw [t0];simp)⟩
           . refine ⟨i==1,by simp [xaO,k3,t0,i0,sUF],fun h=>?_⟩
             have:i=1:=by simpa using h
             exact G (by omega) (by omega) (by omega) (by omega) (by rw [t0];simp)
         . exact ⟨false,by simp [xaO,k3,t0,sUF],fun h=>by simp at h⟩
       . exact ⟨false,by simp [xaO,k0,k1,k2,k3,sUF],fun h=>by simp at h⟩
theorem xFH (q:Row) (kinds:List Int) (hl:q.length=kinds.length) (hk:kinds.length<=48):∀ d n:Nat,n+d=q.length->∃ b,Iter (xbA (q.map encV) (kinds.map encN)) (n:Int)=some (!b,false,())/\(b=true->∀ v,v∈q.drop n->xR8 v)
 | 0,n,h=>by
  have hn:n=q.length:=by omega
  subst hn;refine ⟨true,xam ?_,fun _ v hv=>by rw [zq (zd _)] at hv;simp at hv⟩
  simp only [xbA,xfY,za,zy,zm,xag,Bool.not_true,sUF]
 | d+1,n,h=>by
  have hn:n<q.length:=by omega
  have J:n<kinds.length:=by omega
  have h1:(n:Int)<(q.length:Int):=by omega
  have h2:(n:Int)<(kinds.length:Int):=by omega
  have gf:(q.map encV).getD n .top=encV q[n]:=xaf _ _ _ hn;have gk:(kinds.map encN).getD n .top=encN kinds[n]:=xaf _ _ _ J;obtain ⟨b1,e1,g1⟩:=xPk q[n].k q[n].i q[n].t;cases b1 with
  | false =>
   refine ⟨false,xam ?_,fun h=>by simp at h⟩
   simp only [xbA,xfY,xe6,xgR,sBU,hn,h1,gf,cV0,cV1,cV2,lV,sV,e1]
  | true =>
   obtain ⟨b,ih,O⟩:=xFH q kinds hl hk d (n+1) (by omega)
   have hd:∀ c,c=true->b=c->∀ v,v∈q.drop n->xR8 v:=fun c hc hb v hv=>by
    rw [xaS hn] at hv;rcases zC.1 hv with rfl|hv
    . exact g1 rfl
    . exact O (by rw [hb,hc]) v hv
   by_cases k0:q[n].k=0
   . refine ⟨b,?_,fun hb=>hd true rfl hb⟩
     rw [<-ih];refine xaM ?_;have k0':(q[n].k != 0)=false:=by simp [k0]
     simp only [xbA,xfY,xe6,xgR,sBU,hn,h1,gf,cV0,cV1,cV2,lV,sV,sV0,e1,k0',xRv (n:=n) (by omega)]
   . have k0':(q[n].k != 0)=true:=by simp [k0]
     by_cases kk:q[n].k=kinds[n]
     . refine ⟨b,?_,fun hb=>hd true rfl hb⟩
       rw [<-ih];refine xaM ?_;have kk':(q[n].k != kinds[n])=false:=by simp [kk]
       simp only [xbA,xfY,xe6,xgR,sBU,hn,J,h1,h2,gf,gk,cV0,cV1,cV2,lV,sV,cN,sN,sV0,e1,k0',kk',xRv (n:=n) (by omega)]
     . have kk':(q[n].k != kinds[n])=true:=by simp [kk]
       refine ⟨false,xam ?_,fun h=>by simp at h⟩
       simp only [xbA,xfY,xe6,xgR,sBU,hn,J,h1,h2,gf,gk,cV0,cV1,cV2,lV,sV,cN,sN,sV0,e1,k0',kk']
theorem xNL (q:Row) (kinds:List Int) (hk:kinds.length<=48):∃ b,xyQ (q.map encV) (kinds.map encN)=some b/\(b=true->q.length=kinds.length/\∀ v,v∈q->xR8 v):=by
 unfold xyQ xzn;by_cases hl:q.length=kinds.length
 . obtain ⟨b,e,g⟩:=xFH q kinds hl hk q.length 0 (by omega)
   have e:Iter (xbA (q.map encV) (kinds.map encN)) (0:Int)=_:=e;refine ⟨b,?_,fun hb=>⟨hl,by simpa using g hb⟩⟩
   rw [e];simp only [sBU,hl,bne_self_eq_false];cases b<;>rfl
 . refine ⟨false,?_,fun h=>by simp at h⟩
   have:(((q.length:Nat):Int) != ((kinds.length:Nat):Int))=true:=by simp;omega
   simp only [za,this,xal,sUF]
theorem xFQ (kinds:List Int) (hk:kinds.length<=48):∀ d n:Nat,n+d=kinds.length->∃ b,Iter (xbx (kinds.map encN)) (n:Int)=some (b,false,())
 | 0,n,h=>by
  have hn:n=kinds.length:=by omega
  subst hn;refine ⟨false,xam ?_⟩;simp only [xbx,xjD,za,zy,zm,xag,sUF]
 | d+1,n,h=>by
  have hn:n<kinds.length:=by omega
  have h1:(n:Int)<(kinds.length:Int):=by omega
  have gk:(kinds.map encN).getD n .top=encN kinds[n]:=xaf _ _ _ hn;cases c:xBm kinds[n] with
  | false =>
   refine ⟨true,xam ?_⟩;simp only [xbx,xjD,sBU,hn,h1,gk,cN,sN,c]
  | true =>
   obtain ⟨b,ih⟩:=xFQ kinds hk d (n+1) (by omega)
   refine ⟨b,?_⟩;rw [<-ih];refine xaM ?_;simp only [xbx,xjD,sBU,hn,h1,gk,cN,sN,c,xRv (n:=n) (by omega)]
theorem xKG (kinds:List Int) (hk:kinds.length<=48):∃ b,xAk (kinds.map encN)=some b:=by
 obtain ⟨b,e⟩:=xFQ kinds hk kinds.length 0 (by omega)
 have e:Iter (xbx (kinds.map encN)) (0:Int)=some (b,false,()):=e;unfold xAk xyk;rw [e];cases b with
 | true=>exact ⟨false,rfl⟩
 | false=>exact ⟨true,rfl⟩
def FactOk (kinds:List Int) (f:Fc):Prop:=pv f.p=true/\f.r.length=kinds.length/\∀ v,v∈f.r->xR8 v
theorem xET (kinds:List Int) (hk:kinds.length<=48) (l:List Fc) (hl:l.length<=1024):∀ d n:Nat,n+d=l.length ->
  ∃ b,Iter xb0 ((n:Int),kinds.map encN,l.map encF)=some (if b=true then (false,(false,[],[]),(kinds.map encN,l.map encF)) else (true,(false,kinds.map encN,l.map encF),([],[])))/\(b=true->∀ f,f∈l.drop n->FactOk kinds f)
 | 0,n,h=>by
  have hn:n=l.length:=by omega
  subst hn;refine ⟨true,xam ?_,fun _ v hv=>by rw [zq (zd _)] at hv;simp at hv⟩
  simp only [xb0,xgW,za,zy,zm,xag,if_true,sUF]
 | d+1,n,h=>by
  have hn:n<l.length:=by omega
  have h1:(n:Int)<(l.length:Int):=by omega
  have gf:(l.map encF).getD n .top=encF l[n]:=xaf _ _ _ hn;obtain ⟨b1,e1,g1⟩:=xNL l[n].r kinds hk;cases hv:pv l[n].p with
  | false =>
   refine ⟨false,xam ?_,fun h=>by simp at h⟩
   simp only [xb0,xgW,sBU,hn,h1,gf,cF0,cF1,cF2,sF0,sF1,sF2,lF,sF12,sF02,xqs,hv,if_false];simp
  | true =>
   cases b1 with
   | false =>
    refine ⟨false,xam ?_,fun h=>by simp at h⟩
    simp only [xb0,xgW,sBU,hn,h1,gf,cF0,cF1,cF2,sF0,sF1,sF2,lF,sF12,sF02,xqs,hv,e1];simp
   | true =>
    obtain ⟨b,ih,q⟩:=xET kinds hk l hl d (n+1) (by omega)
    refine ⟨b,?_,fun hb f hf=>?_⟩
    . rw [<-ih];refine xaM ?_;simp only [xb0,xgW,sBU,hn,h1,gf,cF0,cF1,cF2,sF0,sF1,sF2,lF,sF12,sF02,xqs,hv,e1,xRv (n:=n) (by omega)]
    . rw [xaS hn] at hf;rcases zC.1 hf with rfl|hf
      . exact ⟨hv,g1 rfl⟩
      . exact q hb f hf
theorem xNY (kinds:List Int) (hk:kinds.length<=48) (l:List Fc) (hl:l.length<=1024):∃ b,xwz (kinds.map encN) (l.map encF)=some b/\(b=true->∀ f,f∈l->FactOk kinds f):=by
 obtain ⟨b,e,g⟩:=xET kinds hk l hl l.length 0 (by omega)
 have e:Iter xb0 ((0:Int),kinds.map encN,l.map encF)=_:=e;obtain ⟨bk,ek⟩:=xKG kinds hk;unfold xwz xyp;cases b with
 | false =>
  rw [if_neg (by simp)] at e
  refine ⟨false,?_,fun h=>by simp at h⟩
  simp only [xm1,xm2,xm3,xm4,xm5,sBU,e]
 | true =>
  rw [if_pos rfl] at e;have h1:((kinds.length:Nat):Int)<=48:=by omega
  by_cases h0:((kinds.length:Nat):Int)>0
  . refine ⟨bk,?_,fun _ f hf=>g rfl f (by simpa using hf)⟩
    simp only [xm1,xm2,xm3,xm4,xm5,sBU,e,h0,h1,ek]
  . refine ⟨false,?_,fun h=>by simp at h⟩
    simp only [xm1,xm2,xm3,xm4,xm5,sBU,e,h0]
structure GA (kinds ks:List Int) (L:List Per) (l:List Fc):Prop where
 fl:l.length<=14
 kn:kinds.length<=48
 kl:ks.length<=20
 ll:L.length<=20
 ok:∀ f,f∈l->FactOk kinds f
 kk:(xTo kinds ks L).2=0
theorem GA.fa {kinds ks:List Int} {L:List Per} {l l':List Fc} (h:GA kinds ks L l) (hr:∀ f,f∈l'->∃ g,g∈l/\g.r=f.r) (hl:l'.length<=14) (hs:capN ks l'*(2*l'.length+1)<=1024):FA ks L l':=by
 obtain ⟨k1,k2⟩:=xNo h.kk;have kn:=h.kn;refine ⟨h.kl,h.ll,hl,hs,fun p hp h0 f hf=>?_,fun f hf v hv=>?_,fun f hf=>?_,fun f hf v hv=>?_,fun p hp=>(k2 p hp).1⟩
 . obtain ⟨g,hg,e⟩:=hr f hf;rw [<-e,(h.ok g hg).2.1];have:=(k2 p hp).2;omega
 . obtain ⟨g,hg,e⟩:=hr f hf;rw [<-e] at hv;exact ((h.ok g hg).2.2 v hv).2
 . obtain ⟨g,hg,e⟩:=hr f hf;rw [<-e,(h.ok g hg).2.1];omega
 . obtain ⟨g,hg,e⟩:=hr f hf;rw [<-e] at hv;exact ((h.ok g hg).2.2 v hv).1
theorem GA.fa0 {kinds ks:List Int} {L:List Per} {l:List Fc} (h:GA kinds ks L l):FA ks L l:=h.fa (fun f hf=>⟨f,hf,rfl⟩) (by have:=h.fl;omega) (by
 have hl:=h.fl;have:capN ks l<=14:=by unfold capN;split<;>omega
 have:=Nat.mul_le_mul this (show 2*l.length+1<=29 by omega)
 omega)
theorem xHf (kinds ks:List Int) (L:List Per) (l:List Fc):∃ b,xt9 (kinds.map encN) (l.map encF) (ks.map encN) (L.map encP)=some b/\(b=true->GA kinds ks L l):=by
 unfold xt9 xvx;simp only [za];by_cases c1:((l.length:Nat):Int)>14
 . exact ⟨false,by simp only [c1,zn,xal,sUF],fun h=>by simp at h⟩
 . by_cases c2:((kinds.length:Nat):Int)>48
   . exact ⟨false,by simp only [c1,c2,zn,zm,xal,xag,sUF],fun h=>by simp at h⟩
   . obtain ⟨b,e,g⟩:=xNY kinds (by omega) l (by omega)
     cases b with
     | false=>exact ⟨false,by simp only [c1,c2,e,sBU],fun h=>by simp at h⟩
     | true =>
      by_cases c3:((ks.length:Nat):Int)>20
      . exact ⟨false,by simp only [c1,c2,c3,e,sBU],fun h=>by simp at h⟩
      . by_cases c4:((L.length:Nat):Int)>20
        . exact ⟨false,by simp only [c1,c2,c3,c4,e,sBU],fun h=>by simp at h⟩
        . cases c5:(IntKind.i64.wrap (((ks.length:Nat):Int)+((L.length:Nat):Int))==(0:Int)) with
          | true=>exact ⟨false,by simp only [c1,c2,c3,c4,c5,e,sBU],fun h=>by simp at h⟩
          | false =>
           have ek:=xAb kinds ks L (by omega) (by omega)
           refine ⟨(xTo kinds ks L).2==0,by simp only [c1,c2,c3,c4,c5,e,ek,sBU],fun h=>?_⟩
           exact ⟨by omega,by omega,by omega,by omega,g rfl,by simpa using h⟩
theorem xFR:∀ (a b:List Int),(∀ t,a.count t<=b.count t)->a.length<=b.length
 | [],b,_=>by simp
 | x::a,b,h=>by
  have hx:x∈b:=List.count_pos_iff.1 (by have:=h x;rw [List.count_cons_self] at this;omega)
  have ih:=xFR a (b.erase x) fun t=>by
   have:=h t;by_cases e:x=t
   . subst e;rw [List.count_cons_self] at this;rw [List.count_erase_self];omega
   . rw [List.count_cons_of_ne e] at this;rw [List.count_erase_of_ne (fun c=>e c.symm)];exact this
  rw [List.length_erase_of_mem hx] at ih;have:0<b.length:=List.length_pos_iff.2 fun c=>by rw [c] at hx;simp at hx
  rw [zF];omega
theorem xKc (ps:List Per) (t:Int):ps.countP (hasP · t)<=ps.countP (hasP · (t - 1))+(ps.map (·.1)).count t:=by
 induction ps with
 | nil=>simp
 | cons p ps ih =>
  rw [List.countP_cons,List.countP_cons,zV,List.count_cons];have:(if hasP p t=true then 1 else 0)<=(if hasP p (t - 1)=true then 1 else 0)+(if (p.1==t)=true then 1 else 0):=by
   by_cases h1:hasP p t=true
   . obtain ⟨hv,a,b⟩:=xfW.1 h1;by_cases h2:p.1=t
     . have e:(p.1==t)=true:=by simpa using h2
       rw [if_pos h1,if_pos e];omega
     . have:hasP p (t - 1)=true:=xfW.2 ⟨hv,by omega,by omega⟩
       rw [if_pos h1,if_pos this];omega
   . rw [if_neg h1];omega
  omega
theorem xJO (a b:Nat):∀ n:Nat,((List.range n).map fun k=>if a<=k/\k<b then 1 else 0).sum<=min n b - min n a
 | 0=>by simp
 | n+1=>by
  rw [List.range_succ,zx,List.sum_append];have:=xJO a b n;simp only [zV,zW,List.sum_cons,List.sum_nil];split<;>omega
theorem IsLevs.len1 {ps P:List Per} (h:IsLevs (fun t=>ps.countP (hasP · t)) P):P.length<=ps.length:=by
 have:(P.map (·.1)).length<=(ps.map (·.1)).length:=by
  refine xFR _ _ fun t=>?_
  obtain ⟨A,H,h1,h2,h3⟩:=h.lev;have e1:(P.map (·.1)).count t=((List.range H).map fun k=>((A k).map (·.1)).count t).sum:=by
   rw [(h3.map (·.1)).count_eq,List.map_flatMap,List.count_flatMap];rfl
  have e2:∀ n,((List.range n).map fun k=>((A k).map (·.1)).count t).sum<=((List.range n).map fun k=>if ps.countP (hasP · (t - 1))<=k/\k<ps.countP (hasP · t) then 1 else 0).sum:=fun n=>by
   induction n with
   | zero=>simp
   | succ n ih =>
    rw [List.range_succ,zx,zx,List.sum_append,List.sum_append];simp only [zV,zW,List.sum_cons,List.sum_nil];have hn:((A n).map (·.1)).Nodup:=by
     unfold List.Nodup;rw [List.pairwise_map];refine List.Pairwise.imp_of_mem (fun {p q} hp hq h=>?_) (h2 n).1.2
     have:=xc8.1 ((h2 n).1.1 p hp);omega
    have J:((A n).map (·.1)).count t<=1:=List.nodup_iff_count.1 hn t;by_cases ht:t∈(A n).map (·.1)
    . obtain ⟨p,hp,rfl⟩:=zK.1 ht;obtain ⟨a,b,_⟩:=xJt (N:=fun t=>ps.countP (hasP · t)) (h2 n).1 (h2 n).2 hp
      have hv:=xc8.1 ((h2 n).1.1 p hp);have:=a p.1 (Int.le_refl _) hv.2.1;rw [if_pos ⟨b,this⟩];omega
    . rw [List.count_eq_zero.2 ht];omega
  have e3:=e2 H;have e4:=xJO (ps.countP (hasP · (t - 1))) (ps.countP (hasP · t)) H;have e5:=xKc ps t;have e6:=h1 t;omega
 simpa using this
theorem xEj {L:Row->List Per}:∀ {R:List Row} {l:List Fc},R.Nodup->(∀ r,r∈R->(L r).length<=(psOf l r).length)->(xRD R L).length<=l.length
 | [],l,_,_=>by simp [xRD]
 | r::R,l,hn,h=>by
  obtain ⟨n1,n2⟩:=List.nodup_cons.1 hn;have e:xRD (r::R) L=((L r).map fun p=>(⟨r,p⟩:Fc))++xRD R L:=by simp [xRD]
  let l2:=l.filter fun f=>!decide (f.r=r)
  have J:∀ r',r'∈R->psOf l2 r'=psOf l r':=fun r' q=>by
   have hne:r'≠r:=fun e=>n1 (e▸q)
   unfold psOf;simp only [l2,List.filter_filter];congr 1;refine List.filter_congr fun f _=>?_
   by_cases hf:f.r=r'
   . have:¬ f.r=r:=fun e=>hne (hf▸e)
     simp [hf,hne]
   . simp [hf]
  have ih:=xEj (L:=L) (l:=l2) n2 fun r' q=>by rw [J r' q];exact h r' (by simp [q])
  have h1:=h r (by simp)
  have hl:(psOf l r).length+l2.length<=l.length:=by
   unfold psOf;rw [za];have:=List.length_eq_countP_add_countP (fun f:Fc=>decide (f.r=r)) (l:=l)
   have a1:(l.filter fun f=>decide (f.r=r)&&pv f.p).length<=l.countP fun f=>decide (f.r=r):=by
    rw [<-List.countP_eq_length_filter];exact List.countP_mono_left fun f _ hf=>by simp only [zf] at hf;exact hf.1
   have a2:l2.length=l.countP fun f=>¬ decide (f.r=r)=true:=by
    rw [List.countP_eq_length_filter];simp [l2]
   omega
  rw [e,z8,za];omega
theorem xRJ.len1 {l B:List Fc} (h:xRJ l B):B.length<=l.length:=by
 obtain ⟨R,L,h1,h2,rfl⟩:=h;refine xEj (h1.1.nodup xpG) fun r hr=>?_
 have:=h2 r hr;rw [show cnt l r=fun t=>(psOf l r).countP (hasP · t) from funext fun t=>(xCs l r t).symm] at this
 exact this.len1
def more (q:Int):Int:=(if 1099511627776<(if 1>q then 1 else q) then 1099511627776 else if 1>q then 1 else q) - 1
theorem xzR (a b:List Int) (hl:a.length=b.length) (ha:a.length<=1048576):Iter (xcd (a.map encN) (b.map encN)) (0:Int)=some (if a=b then (false,false,()) else (true,false,())):=by
 refine xFf a b hl (fun n h h2=>?_) ?_
 . have h1:(n:Int)<(a.length:Int):=by omega
   have h3:(n:Int)<(b.length:Int):=by omega
   have gf:(a.map encN).getD n .top=encN a[n]:=xaf _ _ _ h;have gg:(b.map encN).getD n .top=encN b[n]:=xaf _ _ _ h2;simp only [xcd,xiy,sBU,h,h1,h2,h3,gf,gg,cN,sN,xRv (n:=n) (by omega)]
   by_cases he:a[n]=b[n]<;>simp [he,xal,xag,xaO,sUF]
 . simp only [xcd,xiy,za,zy,zm,xag,sUF]
theorem xHV (a:List Int) (ha:a.length<=1048576):xpm (a.map encN) (a.map encN)=some true:=by
 unfold xpm xrK;simp only [za,bne_self_eq_false,xag,sUF];rw [xzR a a rfl ha];simp [xal,xag,sUF]
theorem xRZ.small {ks:List Int} {L:List Per} {l B:List Fc} (h:xRZ ks L l B):B.length<=1024/\∀ f,f∈B->f.r.length<=40:=by
 obtain ⟨O,h1,_,h2,h3⟩:=h;exact ⟨Nat.le_trans h1.len1 h2,h1.all (Q:=fun r=>r.length<=40) fun f hf=>(h3 f hf).2⟩
theorem xMa {kinds ks:List Int} {L:List Per} (hk:ks.length<=20) (hL:L.length<=20):(xTo kinds ks L).1.length<=1048576:=by
 have:=xC6 kinds ks L;omega
theorem xJ8 {ks:List Int} {L:List Per} {l B:List Fc} (h:xRZ ks L l B):xpo (B.map encF)=some true:=by
 obtain ⟨h1,h2⟩:=h.small;obtain ⟨O,hO,_⟩:=h;obtain ⟨B',e,q⟩:=xJB B ⟨by omega,fun f hf=>by have:=h2 f hf;omega⟩ h1
 obtain rfl:B=B':=xOG hO q;have e2:=xNM (B:=B) (by omega) fun f hf=>by have:=h2 f hf;omega
 unfold xpo xrQ;simp only [e,e2,zk,zh,xal,sUF]
theorem xNl {ks:List Int} {L:List Per} {l B:List Fc} (h:xRZ ks L l B) {t:Int} (ht:0<=t/\t<1099511627776) {S:List Row} (hp:S.Perm (xRw ks L (atL l t))) (hs:Sorted cmpR S) :
  xh4 (B.map encF) t=some (S.map encR)/\xgU (S.map encR) (S.map encR)=some true:=by
 obtain ⟨h1,h2⟩:=h.small;obtain ⟨O,hO,hc,_⟩:=h;have q:Few B:=⟨by omega,fun f hf=>by have:=h2 f hf;omega⟩
 obtain ⟨R,e,p,s⟩:=xMt B t q;have J:(atL B t).Perm (xRw ks L (atL l t)):=List.perm_iff_count.2 fun r=>by rw [xLw,hO.cntB,hc,if_pos ht]
 obtain rfl:R=S:=xyV xpG (fun _ _=>xkh) (p.trans (J.trans hp.symm)) s hs
 exact ⟨e,xQ9 ((q.at t).perm p)⟩
theorem xG7 (k:List Int) (hk:k.length<=1048576) {S:List Row} (hS:xgU (S.map encR) (S.map encR)=some true):xyj (k.map encN) (S.map encR) (k.map encN) (S.map encR)=some true:=by
 have e1:=xHV k hk;unfold xyj xur;simp only [e1,hS,zk,zh,xal,sUF]
theorem xHx (k:List AV) (fs R:List AV) (t:Int) (h:xh4 fs t=some R):xjc k fs t=some (k,R):=by
 unfold xjc xtd;simp only [h,zk,zh,xal,sUF]
theorem xMb (kinds ks:List Int) (L:List Per) (l:List Fc) (t:Int):xjl (kinds.map encN) (l.map encF) (ks.map encN) (L.map encP) t=some true:=by
 obtain ⟨b,e,g⟩:=xHf kinds ks L l;unfold xjl xh2;cases b with
 | false=>simp only [sBU,e]
 | true =>
  have h:=g rfl;by_cases c1:t<0
  . simp only [sBU,e,c1]
  . by_cases c2:t>=1099511627776
    . simp only [sBU,e,c1,c2]
    . obtain ⟨B,e1,_,_,hG⟩:=xKk h.fa0 kinds;have ec:=xJ8 hG;obtain ⟨R,S,r1,r2,r3,r4⟩:=h.fa0.rsnap kinds t;obtain ⟨s1,s2⟩:=xNl hG ⟨by omega,by omega⟩ r3 r4
      have v1:=xHx ((xTo kinds ks L).1.map encN) (B.map encF) (S.map encR) t s1;have v2:=xHx (kinds.map encN) (l.map encF) (R.map encR) t r1;have ex:=xG7 (xTo kinds ks L).1 (xMa h.kl h.ll) s2;simp only [xhe,xhf,xhg,xhh,xhi,sBU,e,e1,c1,c2,ec,v1,v2,r2,ex]
end Go.Sim.M
namespace Go.Sim
theorem M.card_snaps (r:List Int×List M.Fc) (g:List Int×List M.Per) (t:Int) (w0:∀ y,y∈r.2->y.wf) (w1:∀ y,y∈g.2->M.PerWf y) (w2:(Lit.int .i64 t).wf=true):M.xjl (r.1.map M.encN) (r.2.map M.encF) (g.1.map M.encN) (g.2.map M.encP) t=some true:=M.xMb r.1 g.1 g.2 r.2 t
end Go.Sim
namespace Go.Proofs.YtoemghmemdnelaaGreatDoor.aggregateSnapshots
open Go.ChangeShapes Go.WideShapes Go.ChangeAt Go.RowKit Go.Sim
theorem contract (H:Type) (enc:TypeId×Value->H) (W:World) (base:Nat) (args:Array Value) (ds gs:List (DataW H)) (before:List MemPlace)
  (hval:∀ (j:Nat) t v,Tryz.f6.params[j]?=some t->args[j]?=some v->Value.okWide Tryz.prog W .any base t v)
  (hW:DataW.Whole enc Tryz.prog Tryz.f6.params.toList Rows.aggregateSnapshotsSpec.vars false W args.toList ds gs before) (hL:laidMetH Tryz.prog Rows.aggregateSnapshotsRow.laid W) (hsh:W.ShapedOpen Tryz.prog) :
  Calls Tryz.prog 6 args W fun e W'=>∃ v,e=.returned v/\Rows.aggregateSnapshotsSpec.post enc Tryz.prog Tryz.f6 false true false false W args v W':=by
 have hW':=hW;obtain ⟨p,q,hA0,hV,rfl,hfz,hnd⟩:=hW;have hA:DataW.TrodAll enc Tryz.prog W 0 (fun _=>true) true Tryz.f6.params.toList args.toList ds p:=hA0
 have hAk:=hA;rw [Tryz.params6] at hA hval;obtain ⟨v0,vs0,d0,ds0,p0,q0,hargs,rfl,rfl,h0,r0⟩:=trodAll_cons hA;obtain ⟨v1,vs1,d1,ds1,p1,q1,rfl,rfl,rfl,h1,r1⟩:=trodAll_cons r0;obtain ⟨v2,vs2,d2,ds2,p2,q2,rfl,rfl,rfl,h2,r2⟩:=trodAll_cons r1;obtain ⟨rfl,rfl,rfl⟩:=trodAll_nil r2;obtain rfl:args=#[v0,v1,v2]:=by cases args;simp_all
 obtain ⟨rfl,rfl⟩:=trodVars_none hV;obtain ⟨a0,rr0,b0,w0⟩:=xNy (hval 0 25 v0 rfl rfl) h0;obtain ⟨a1,rr1,b1,w1⟩:=xNv (hval 1 44 v1 rfl rfl) h1;obtain ⟨a2,rr2,b2,w2⟩:=xNw (hval 2 3 v2 rfl rfl) h2;clear hA0;have hI:xTh W:=xQq rfl (by kernel_rfl) hL hsh
 have hpl:=M.card_snaps a0 a1 a2 w0 w1 w2;have hg:Sim.Good Tryz.prog xTh 6 [(.agg [.list 1 (a0.1.map M.encN),.list 3 (a0.2.map M.encF)]),(.agg [.list 1 (a1.1.map M.encN),.list 2 (a1.2.map M.encP)]),.int .i64 a2] (.bool true):=M.xw9 _ _ (congrArg (fun x:Option Bool=>some (x.isSome,AV.bool (x.getD false))) hpl)
 have hrc:RC W (fun _=>False) xSO [v0,v1,v2] [(.agg [.list 1 (a0.1.map M.encN),.list 3 (a0.2.map M.encF)]),(.agg [.list 1 (a1.1.map M.encN),.list 2 (a1.2.map M.encP)]),.int .i64 a2]:=by
  refine ⟨rfl,fun i hi=>?_⟩
  match i,hi with
  | 0,_=>exact rr0
  | 1,_=>exact rr1
  | 2,_=>exact rr2
 refine (hg.2 W (fun _=>False) _ hI (fun _ h=>h.elim) hrc).mono fun e W' ⟨v,he,hb,hr⟩=>?_
 subst he;obtain rfl:=hr.bool_inv;exact ⟨_,rfl,xMp rfl hW' ⟨rfl,rfl,rfl⟩ rfl Tryz.underlying4 (by simpa using xBF xSq hb (by kernel_rfl) hAk) hb⟩
noncomputable def wit:Array Value:=#[.agg #[.slice none 0 0,.slice none 0 0],.agg #[.slice none 0 0,.slice none 0 0],.int .i64 0]
theorem laid_met (os:Os):laidMet Tryz.prog Rows.aggregateSnapshotsRow.laid ((xR6 Tryz.prog Rows.aggregateSnapshotsRow.laid os).forCall (fun _ _=>0) ⟨#[],wit,[]⟩).memory :=
 laidMet_of_run3 8 (by kernel_rfl) (by kernel_rfl) (by kernel_rfl)
theorem reads (os:Os) {H:Type} (enc:TypeId×Value->H):∃ places,DataW.whole enc Tryz.prog ((xR6 Tryz.prog Rows.aggregateSnapshotsRow.laid os).forCall (fun _ _=>0) ⟨#[],wit,[]⟩).memory Tryz.f6.params.toList Rows.aggregateSnapshotsSpec.vars false wit.toList 8=some ([.agg [.nil,.nil],.agg [.nil,.nil],.lit (.int .i64 0)],[],places) :=
 ⟨[],by kernel_rfl⟩
set_option maxRecDepth 100000 in
theorem lifted (os:Os) (started:os.Started) (H:Type) (enc:TypeId×Value->H) (F:Stop.Interp) :
  ReturnsInHanded {} Tryz.checked os 6 .any ((OpenSpec.ofChange Rows.aggregateSnapshotsSpec).preRow enc Tryz.prog Tryz.f6 Rows.aggregateSnapshotsRow.domain false Rows.aggregateSnapshotsRow.laid) (((OpenSpec.ofChange Rows.aggregateSnapshotsSpec).at F).post enc Tryz.prog Tryz.f6 false true false false):=by
 obtain ⟨places,hx⟩:=reads os enc;refine returnsInHanded_of_row (C:=Tryz.checked) (s:=OpenSpec.ofChange Rows.aggregateSnapshotsSpec) xSt started (by kernel_rfl) Tryz.func6
  (witness_row_at (enc:=enc) (C:=Tryz.checked) false (xR6 Tryz.prog Rows.aggregateSnapshotsRow.laid os) wit rfl (by kernel_rfl) (by kernel_rfl) (by kernel_rfl)
   (OpenSpec.preRow_of_cond 8 hx (by kernel_rfl) (fun k hk=>by cases hk) (by kernel_rfl) (laid_met os))) ?_
 intro W base args ds gs before hval hW _ _ _ hL hsh _;exact contract H enc W base args ds gs before hval hW hL hsh
theorem said:Rows.AggregateSnapshotsSaid :=
 OpenClaim.holds_of_cond 6 Tryz.f6 rfl rfl rfl rfl rfl rfl rfl ⟨rfl,rfl,rfl,rfl,rfl⟩ rfl rfl rfl rfl rfl (by kernel_rfl) Tryz.func6 (by kernel_rfl)
  (of_decide_eq_true (by kernel_rfl)) (by unfold Func.isWrapper;first|(rw [if_pos (by decide +kernel)];kernel_rfl)|(rw [if_neg (by decide +kernel)];exact ⟨rfl,rfl⟩))
  (fun os started H enc _ F=>by rw [OpenClaim.pre_eq_preRow];exact lifted os started H enc F)
theorem plain (f:FuncId) (fn:Func) (hf:Tryz.pinned.checked.prog.funcNamed "bitemporal/bitemporallaw26.AggregateSnapshots" = some f) (hfn:Tryz.pinned.checked.prog.funcs[f]?=some fn) :
  false=Tryz.pinned.checked.prog.looks []/\∀ (j:Nat) t,fn.params[j]?=some t->Tryz.pinned.checked.prog.wantsStandIn t=false:=by
 obtain rfl:f=6:=Option.some.inj ((show Tryz.prog.funcNamed "bitemporal/bitemporallaw26.AggregateSnapshots" = some 6 by kernel_rfl).symm.trans hf) |>.symm
 obtain rfl:fn=Tryz.f6:=(Option.some.inj (Tryz.func6.symm.trans hfn)).symm;refine ⟨by kernel_rfl,fun j t ht=>?_⟩
 rw [Tryz.params6] at ht;have hm:=Array.mem_of_getElem? ht;have:([25,44,3]:List Nat).all (fun t=>!(Tryz.prog.wantsStandIn t))=true:=by kernel_rfl
 have:=List.all_eq_true.1 this t (by simpa using hm)
 show Tryz.prog.wantsStandIn t=false;simpa using this
theorem card:Rows.AggregateSnapshotsCardSaid :=
 Claim7.holds_tied_plain_at .later [] _ _ _ _ said (fun _ h=>by cases h) (by kernel_rfl) (fun _ h=>by cases h) aggregateSnapshots_row_tie rfl ⟨rfl,rfl⟩ (by kernel_rfl) rfl plain (by kernel_rfl)
end Go.Proofs.YtoemghmemdnelaaGreatDoor.aggregateSnapshots
