/- Part 16. -/
import Derived.Test.YtodofdnlhoknhaaGreatDoorTS15
import Derived.ProofKit
import Derived.OpenShut
import Derived.Carry
import Derived.Deep.Slices
set_option linter.all false
noncomputable section
namespace Go.Sim
open Go.RowKit Go.ChangeShapes Go.WideShapes Go.ChangeAt
inductive Ty where|int (k:IntKind)|bool|str|slice (es:List Ty)
def wV(P:Program)(f:TypeId->Option (List Ty)):Nat->List Field->Option (List Ty)|_,[]=>some []|off,x::r=>match Nat.beq x.offset off with|true=>(match f x.type with|some l=>(match Nat.beq l.length (P.cellsOf x.type)with|true=>(match wV P f (off+l.length) r with|some m=>some (l++m)|none=>none)|false=>none)|none=>none)|false=>none
def flat(P:Program):Nat->TypeId->Option (List Ty)|0,_=>none|n+1,t=>match P.underlying t with|some (.int k)=>some [.int k]|some .string=>some [.str]|some .bool=>some [.bool]|some (.slice e)=>(match flat P n e with|some es=>(match Nat.beq es.length (P.cellsOf e)&&Nat.blt 0 es.length with|true=>some [.slice es]|false=>none)|none=>none)|some (.struct fs)=>(match wV P (flat P n) 0 fs.toList with|some l=>(match Nat.beq l.length (P.cellsOf t)with|true=>some l|false=>none)|none=>none)|_=>none
def nO:List AV->AV|[c]=>c|cs=>.agg cs
mutual
def AV.wt:AV->Nat|.str s=>s.length+1|.list _ xs=>AV.wts xs+1|.agg cs=>AV.wts cs|_=>1
def AV.wts:List AV->Nat|[]=>0|x::xs=>AV.wt x+AV.wts xs
end
theorem xzI(a b:List AV):AV.wts (a++b)=AV.wts a+AV.wts b:=by induction a with|nil=>simp[AV.wts]|cons x a ih=>simp[AV.wts,ih];omega
theorem xIe(a:List AV):AV.wt (nO a)=AV.wts a:=by match a with|[]=>rfl|[c]=>simp[nO,AV.wts]|x::y::r=>rfl
theorem xLa{n:Nat}{f:Nat->AV}{g:Nat->Nat}(h:∀i,i<n->AV.wt (f i)<=g i):AV.wts ((List.range n).map f)<=((List.range n).map g).sum:=by induction n with|zero=>simp[AV.wts]|succ n ih=>rw[List.range_succ,zx,zx,xzI,List.sum_append];have:=ih λ i hi=>h i Ω;have:=h n Ω;simp[AV.wts];omega
structure lr {H:Type} (μ:DataW H->Nat):Prop where
 lit:∀l,1<=μ (.lit l)
 str:∀s,s.length+1<=μ (.lit (.string s))
 nil:1<=μ .nil
 slice:∀es sp,(es.map μ).sum+1<=μ (.slice es sp)
 agg:∀l,(l.map μ).sum<=μ (.agg l)
inductive dZ:Ty->AV->Prop|int (k:IntKind) (n:Int) (h:(Lit.int k n).wf):dZ (.int k) (.int k n)|bool (b:Bool):dZ .bool (.bool b)|str (s:List UInt8) (h:s.length<=maxLen):dZ .str (.str s)|slice (es:List Ty) (xs:List AV) (h:xs.length<=maxLen) (hl:∀x,x∈xs->x.cells.length=es.length/\x=nO x.cells) (hx:∀x j,x∈xs->j<es.length->dZ (es.getD j .bool) (x.cells.getD j .top)):dZ (.slice es) (.list es.length xs)
theorem dZ.one{T:Ty}{x:AV}(h:dZ T x):x.one:=by cases h<;>rfl
inductive eC (w:World):List Ty->List Value->List AV->Prop|nil:eC w [] [] []|cons {T:Ty} {v:Value} {a:AV} {Ts vs aS} (h:aD w (λ _=>False) er v a) (ht:dZ T a) (r:eC w Ts vs aS):eC w (T::Ts) (v::vs) (a::aS)
theorem eC.append{w:World}{Ts Us:List Ty}{vs us aS bs}(h:eC w Ts vs aS)(h':eC w Us us bs):eC w (Ts++Us) (vs++us) (aS++bs):=by induction h with|nil=>exact h'|cons h ht r ih=>exact .cons h ht ih
theorem eC.len{w:World}{Ts vs aS}(h:eC w Ts vs aS):vs.length=Ts.length/\aS.length=Ts.length:=by induction h with|nil=>exact⟨rfl,rfl⟩|cons h ht r ih=>simp[ih.1,ih.2]
theorem eC.get{w:World}{Ts vs aS}(h:eC w Ts vs aS):∀i,i<Ts.length->aD w (λ _=>False) er (vs.getD i undef) (aS.getD i .top)/\dZ (Ts.getD i .bool) (aS.getD i .top):=by induction h with|nil=>intro i hi;simp at hi|cons h ht r ih=>intro i hi;cases i with|zero=>exact⟨by simpa using h,by simpa using ht⟩|succ i=>simpa using ih i (by simpa using hi)
theorem eC.all_one{w:World}{Ts vs aS}(h:eC w Ts vs aS):aS.all AV.one:=by induction h with|nil=>rfl|cons h ht r ih=>simp[ht.one,ih]
theorem xB2{aS:List AV}(h:aS.all AV.one)(hne:0<aS.length):(nO aS).cells=aS:=by match aS,h,hne with|[c],h,_=>(cases c<;>first|rfl|simp[AV.one]at h)|a::b::r,_,_=>rfl
section
variable{H:Type}{enc:TypeId × Value->H}{P:Program}{w:World}{base:Nat}{sp:Nat->Bool}{held:Bool}
theorem V0{n:Nat}{f:TypeId->Option (List Ty)}(hf:∀t Ts,f t=some Ts->∀cs x,DataW.trod enc P w base sp held n t cs=some x->∃aS,eC w Ts cs aS/\∀μ:DataW H->Nat,lr μ->AV.wts aS<=μ x.1):
  ∀(l:List Field)(off:Nat)(Ts:List Ty)(cs:List Value)(ys:List (DataW H×List MemPlace)),wV P f off l=some Ts->cs.length=Ts.length->ys.length=l.length->(∀(i:Nat)(x:Field),l[i]?=some x->DataW.trod enc P w base sp held n x.type ((cs.drop (x.offset - off)).take (P.cellsOf x.type))=ys[i]?)->
   ∃aS,eC w Ts cs aS/\∀μ:DataW H->Nat,lr μ->AV.wts aS<=(ys.map λ y=>μ y.1).sum
 |[],off,Ts,cs,ys,h,hl,hyl,_=>by
  simp[wV]at h;subst h;obtain rfl:cs=[]:=zA hl;exact⟨[],.nil,λ μ _=>by simp[AV.wts]⟩
 |x::r,off,Ts,cs,[],h,hl,hyl,hx=>by simp at hyl
 |x::r,off,Ts,cs,y::ys,h,hl,hyl,hx=>by
  simp only[wV]at h;split at h<;>try (simp at h;done)
  rename_i ho;split at h<;>try (simp at h;done)
  rename_i l1 W;split at h<;>try (simp at h;done)
  rename_i hn;split at h<;>try (simp at h;done)
  rename_i m hm;cases h;have ho:=zg ho;have hn:=zg hn;simp only[z8]at hl;have hy:=hx 0 x rfl;rw[ho,Nat.sub_self,zr,<-hn,zY]at hy;obtain⟨aS,ha,V⟩:=hf _ _ W _ _ hy;have J:∀(l:List Field)(o:Nat)(m:List Ty),wV P f o l=some m->∀z,z∈l->o<=z.offset:=by
   intro l;induction l with
   |nil=>intro o m _ z hz;simp at hz
   |cons z0 l ih=>
    intro o m h z hz;simp only[wV]at h;split at h<;>try (simp at h;done)
    rename_i q;split at h<;>try (simp at h;done)
    split at h<;>try (simp at h;done)
    split at h<;>try (simp at h;done)
    rename_i O;have q:=zg q;rcases zC.1 hz with rfl|hz
    . omega
    . exact Nat.le_trans (by omega) (ih _ _ O z hz)
  obtain ⟨bs,hb,Q⟩:=V0 hf r (off+l1.length) m (cs.drop l1.length) ys hm (by rw [y3];omega) (by simpa using hyl) (fun i z hz=>by
   have hy':=hx (i+1) z (by simpa using hz)
   have:=J _ _ _ hm z (List.mem_of_getElem? hz);rw[List.drop_drop,show l1.length+(z.offset - (off+l1.length))=z.offset - off by omega]
   simpa using hy')
  refine⟨aS++bs,?_,λ μ hμ=>?_⟩
  . have:=ha.append hb;rwa [List.take_append_drop]at this
  . have h1:=V μ hμ;have h2:=Q μ hμ;simp only[zV,List.sum_cons,xzI];omega
theorem KQ:∀(n:Nat)(t:TypeId)(Ts:List Ty),flat P n t=some Ts->∀(fuel:Nat)(cs:List Value) x,DataW.trod enc P w base sp held fuel t cs=some x->∃aS,eC w Ts cs aS/\∀μ:DataW H->Nat,lr μ->AV.wts aS<=μ x.1
 |0,_,_,h,_,_,_,_=>by simp[flat]at h
 |n+1,t,Ts,h,fuel,cs,x,hd=>by
  simp only[flat]at h;split at h
  . rename_i k ht;simp only[z6]at h;subst h;obtain⟨m,rfl,rfl,hw⟩:=DataW.trod_int ht hd;exact⟨[.int k m],.cons (.int k m) (.int k m hw) .nil,λ μ hμ=>by have:=hμ.lit (.int k m);simpa[AV.wts,AV.wt]using this⟩
  . rename_i ht;simp only[z6]at h;subst h;obtain⟨s,rfl,rfl,hw⟩:=DataW.trod_string ht hd;exact⟨[.str s.data.toList],.cons (.str s) (.str _ (by simpa using hw)) .nil,λ μ hμ=>by have:=hμ.str s.data.toList;simpa[AV.wts,AV.wt]using this⟩
  . rename_i ht;simp only[z6]at h;subst h;obtain⟨b,rfl,rfl⟩:=DataW.trod_bool ht hd;exact⟨[.bool b],.cons (.bool b) (.bool b) .nil,λ μ hμ=>by have:=hμ.lit (.bool b);simpa[AV.wts,AV.wt]using this⟩
  . rename_i e ht;split at h<;>try (simp at h;done)
    rename_i es ah;split at h<;>try (simp at h;done)
    rename_i hc;simp only[z6]at h;subst h;simp only[zf]at hc;have W:=zg hc.1;have aa:0<es.length:=by simpa using hc.2
    rcases Deep.open_slice ht hd with⟨rfl,rfl⟩|⟨a,len,cap,m,n',D,Pl,rfl,hb,hl,hm,ai,rfl,hx⟩
    . exact⟨[.list es.length []],.cons (.list0 _ _ _) (.slice es [] (by simp) (λ x hx=>by simp at hx) (λ x j hx=>by simp at hx)) .nil,λ μ hμ=>by have:=hμ.nil;simpa[AV.wts,AV.wt]using this⟩
    . have am:len<=m:=by subst ai;split<;>omega
      have al:∀i,i<len->∃p:List Value×List AV,w.cells? base (a.add (i*P.cellsOf e)) (P.cellsOf e)=some p.1/\eC w es p.1 p.2/\∀μ:DataW H->Nat,lr μ->AV.wts p.2<=μ (D i):=λ i hi=>by
       obtain⟨Q,h1,h2⟩:=hx i (by omega)
       obtain⟨aS,ha,hw⟩:=KQ n e es ah _ _ _ h2;exact⟨(Q,aS),h1,ha,hw⟩
      obtain⟨f,hf⟩:=Deep.choose_lt (α:=List Value×List AV) al;have q:((List.range len).map λ i=>nO (f i).2).length=len:=by simp
      have Y:∀i,i<len->((List.range len).map λ i=>nO (f i).2).getD i .top=nO (f i).2:=λ i hi=>by simp[List.getD,hi]
      have O:∀i,i<len->(nO (f i).2).cells=(f i).2:=λ i hi=>xB2 (hf i hi).2.1.all_one (by rw[(hf i hi).2.1.len.2];exact aa)
      have af:dZ (.slice es) (.list es.length ((List.range len).map λ i=>nO (f i).2)):=by
       refine .slice es _ (by rw[q];omega) (λ x hx=>?_) (λ x j hx hj=>?_)
       . obtain⟨i,hi,rfl⟩:=zK.1 hx;have hi:=List.mem_range.1 hi;rw[O i hi];exact⟨(hf i hi).2.1.len.2,rfl⟩
       . obtain⟨i,hi,rfl⟩:=zK.1 hx;have hi:=List.mem_range.1 hi;rw[O i hi];exact((hf i hi).2.1.get j hj).2
      refine ⟨[_],.cons ?_ af .nil,fun μ hμ=>by
       have h1:=hμ.slice ((List.range len).map D) ((List.range (m - len)).map λ j=>D (len+j))
       have h2:=xLa (n:=len) (f:=λ i=>nO (f i).2) (g:=λ i=>μ (D i)) λ i hi=>by rw[xIe];exact(hf i hi).2.2 μ hμ
       rw[List.map_map]at h1;change ((List.range len).map λ i=>μ (D i)).sum+1<=_ at h1
       simp only [AV.wts,AV.wt];exact Nat.le_trans (by omega) h1⟩
      rcases Nat.eq_zero_or_pos len with rfl|Z
      . exact .list0 _ _ _
      ·
       have h0:=World.cells?_some (hf 0 Z).1;have J:=h0.2.2 0 (by omega)
       rw [show (f 0).1[0]?=some ((f 0).1.getD 0 undef) by
        rw [ze (by rw [h0.2.1];omega)];simp [List.getD,h0.2.1,<-W,aa]] at J
       have ag:a.spot=none/\a.block<w.heap.size:=by
        unfold World.cell? at J;have e1:(a.add (0*P.cellsOf e)).add 0=a:=by simp[Addr.add]
        rw[e1]at J;split at J
        . rename_i c _ _ ak;split at J
          . simp at J
          . rename_i aj;exact⟨by simpa using aj,(Array.getElem?_eq_some_iff.1 ak).1⟩
        . simp at J
       obtain ⟨V,off,an⟩:=a;obtain ⟨rfl,ab⟩:=ag;have:=aD.list (w:=w) (A:=fun _=>False) (M:=er) V off cap es.length ((List.range len).map fun i=>nO (f i).2) (fun i j=>(f i).1.getD j undef) (fun h=>h) ab (fun h=>by
        have:=congrArg List.length h;simp at this;omega) (by rw [q];exact hl) (fun x hx=>by
        obtain ⟨i,hi,rfl⟩:=zK.1 hx;have hi:=List.mem_range.1 hi;simp only [AV.okElem,O i hi,(hf i hi).2.1.all_one,(hf i hi).2.1.len.2,zS,beq_self_eq_true]) (fun i j hi hj=>by
        rw[q]at hi;have hh:=World.cells?_some (hf i hi).1;have:=hh.2.2 j (by omega)
        rw[Deep.add_add]at this;have e2:(⟨V,off,none⟩:Addr).add (i*P.cellsOf e+j)=⟨V,off+i*es.length+j,none⟩:=by
         rw[<-W];unfold Addr.add;split
         . rename_i h0;simp[Nat.add_assoc,h0]
         . simp[Nat.add_assoc]
        rw[e2]at this;rw[this,ze (by rw[hh.2.1];omega)]
        simp [List.getD,hh.2.1,<-W,hj]) (fun i j hi hj=>by
        rw [q] at hi;rw [Y i hi,O i hi];exact ((hf i hi).2.1.get j hj).1)
       rwa [q]at this
  . rename_i fs ht;split at h<;>try (simp at h;done)
    rename_i l hl;split at h<;>try (simp at h;done)
    rename_i hn;simp only [z6] at h;subst h;have hn:=zg hn;obtain ⟨xs,m,rfl,hx,q,ae,ad⟩:=DataW.trod_struct ht hd;obtain ⟨aS,ha,hw⟩:=V0 (n:=m) (fun t' Ts' h' Q x' ac=>KQ n t' Ts' h' m Q x' ac) fs.toList 0 l cs xs hl (by rw [q,hn]) (by simpa using ae) (fun i z hz=>by
     have:=ad i z (by simpa using hz)
     simpa using this)
    refine⟨aS,ha,λ μ hμ=>Nat.le_trans (hw μ hμ) ?_⟩
    have:=hμ.agg (xs.map (·.1));rw[hx];simpa[List.map_map,Function.comp_def]using this
  . simp at h
end
end Go.Sim
end
noncomputable section
namespace Go.Sim.Srt
open Go.Sim
variable{α:Type}
structure nq (c:α->α->Int):Prop where
 anti:∀x y,0<c x y↔c y x<0
 trans:∀x y z,c x y<=0->c y z<=0->c x z<=0
variable {c:α->α->Int}{x y:α}
theorem nq.le_of_not(h:nq c)(hn:¬ c x y<0):c y x<=0:=by have:=h.anti y x;omega
theorem nq.lt_of_le_lt(h:nq c){z:α}(h1:c x y<=0)(h2:c y z<0):c x z<0:=by have h3:=h.anti z x;have h4:=h.anti z y;refine Classical.byContradiction λ hn=>?_;have:c z y<=0:=h.trans z x y Ω h1;omega
theorem nq.not_lt_of_le(h:nq c)(hn:c y x<=0):¬ c x y<0:=by have:=h.anti y x;omega
def aH(c:α->α->Int)(l:List α):Prop:=l.Pairwise λ x y=>c x y<=0
theorem rT{l m:List α}:aH c (l++m)↔aH c l/\aH c m/\∀x,x∈l->∀y,y∈m->c x y<=0:=List.pairwise_append
variable {n:Nat}
theorem vQ(A:List α)(x:α)(B:List α)(h:n=A.length):(A++x::B)[n]?=some x:=by subst h;simp
theorem vS(A:List α)(x y:α)(B:List α)(h:n=A.length):(A++x::B).set n y=A++y::B:=by subst h;simp[List.set_append]
variable {k:Nat}
theorem VL{l:List α}(h:l.length=k+1):∃m y,l=m++[y]/\m.length=k:=by rcases List.eq_nil_or_concat l with rfl|⟨m,y,rfl⟩;simp at h;exact⟨m,y,by simp,by simpa using h⟩
theorem yB{l:List α}(h:k<=l.length):∃m r,l=m++r/\m.length=k:=⟨l.take k,l.drop k,(List.take_append_drop k l).symm,by simp[Nat.min_eq_left h]⟩
theorem kP{σ ρ:Type}{step:σ->Option (σ⊕ρ)}{s s':σ}{r:Option ρ}(h:step s=some (.inl s'))(h2:aB step s'=r):aB step s=r:=by rw[eH h,h2]
def mQ(c:α->α->Int)(a:Nat):Nat×List α->Option ((Nat×List α)⊕List α):=λ(j,l)=>
 if a<j then match l[j]?,l[j - 1]? with
  |some x,some y=>if c x y<0 then some (.inl (j - 1,(l.set j y).set (j - 1) x))else some (.inr l)
  |_,_=>none
 else some (.inr l)
theorem xBq(hc:nq c)(P:List α)(x:α):∀(k:Nat)(m S:List α),m.length=k->aH c m->∃m',aB (mQ c P.length) (P.length+k,P++(m++x::S))=some (P++(m'++S))/\m'.Perm (m++[x])/\aH c m':=by intro k;induction k with|zero=>intro m S hm hs;have:m=[]:=zA hm;subst this;exact⟨[x],cQ (by simp[mQ]),List.Perm.refl _,by simp[aH]⟩|succ k ih=>
 intro m S hm hs;obtain⟨m0,y,rfl,h0⟩:=VL hm;have e:P++(m0++[y]++x::S)=(P++m0)++y::x::S:=by simp
 have e1:(P++(m0++[y]++x::S))[P.length+(k+1)]?=some x:=by rw[show P++(m0++[y]++x::S)=(P++(m0++[y]))++x::S by simp];exact vQ _ _ _ (by simp[h0])
 have e2:(P++(m0++[y]++x::S))[P.length+(k+1) - 1]?=some y:=by rw[e];exact vQ _ _ _ (by simp only[z8,h0];omega)
 obtain⟨s1,s2,s3⟩:=rT.1 hs;by_cases q:c x y<0;obtain⟨m',h1,h2,h3⟩:=ih m0 (y::S) h0 s1;refine⟨m'++[y],?_,?_,?_⟩;refine kP (s':=(P.length+k,P++(m0++x::y::S))) ?_ (by rw[h1];simp);have f1:((P++(m0++[y]++x::S)).set (P.length+(k+1)) y).set (P.length+(k+1) - 1) x=P++(m0++x::y::S):=by rw[show P++(m0++[y]++x::S)=(P++(m0++[y]))++x::S by simp,vS _ _ _ _ (by simp[h0]),show P++(m0++[y])++y::S=(P++m0)++y::y::S by simp,vS _ _ _ _ (by simp only[z8,h0];omega)];simp
 simp only[mQ,e1,e2,q,if_true,f1];rw[if_pos Ω];congr 2;exact (h2.append_right [y]).trans (by
  simp only [zw];exact List.Perm.append_left m0 (List.Perm.swap _ _ _))
 refine rT.2 ⟨h3,by simp[aH],λ z hz w hw=>?_⟩;have:w=y:=by simpa using hw
 subst this;have:=h2.mem_iff.1 hz;rcases zG.1 this with hz|hz;exact s3 z hz w Ψ;have:z=x:=by simpa using hz
 subst this;omega;refine⟨m0++[y]++[x],?_,List.Perm.refl _,?_⟩;refine cQ ?_;simp only[mQ,e1,e2,q,if_false];rw[if_pos Ω];simp;refine rT.2 ⟨hs,by simp[aH],λ z hz w hw=>?_⟩;have:w=x:=by simpa using hw
 subst this;have hy:c y w<=0:=hc.le_of_not q;rcases zG.1 hz with hz|hz;exact hc.trans _ _ _ (s3 z hz y Ψ) hy;have:z=y:=by simpa using hz
 subst this;exact hy
def sM(c:α->α->Int)(a b:Nat):Nat×List α->Option ((Nat×List α)⊕List α):=λ(i,l)=>
 if i<b then match aB (mQ c a) (i,l)with
  |some l'=>some (.inl (i+1,l'))
  |none=>none
 else some (.inr l)
def wU(c:α->α->Int)(a b:Nat)(l:List α):Option (List α):=aB (sM c a b) (a+1,l)
theorem xBr(hc:nq c)(P S:List α)(b:Nat):∀(k:Nat)(R D:List α),R.length=k->b=P.length+D.length+k->aH c D->∃m',aB (sM c P.length b) (P.length+D.length,P++(D++(R++S)))=some (P++(m'++S))/\m'.Perm (D++R)/\aH c m':=by intro k;induction k with|zero=>intro R D hR hb hs;have:R=[]:=zA hR;subst this;exact⟨D,cQ (by simp[sM,hb]),by simp,hs⟩|succ k ih=>intro R D hR hb hs;cases R with|nil=>simp at hR|cons x R=>(obtain⟨D',h1,h2,h3⟩:=xBq hc P x D.length D (R++S) rfl hs;have hl:D'.length=D.length+1:=by simpa using h2.length_eq);obtain⟨m',h4,h5,h6⟩:=ih R D' (by simpa using hR) Ω h3;refine⟨m',?_,?_,h6⟩;(refine kP (s':=(P.length+D'.length,P++(D'++(R++S)))) ?_ h4;have h1':aB (mQ c P.length) (P.length+D.length,P++(D++(x::R++S)))=some (P++(D'++(R++S))):=by simpa using h1);simp only[sM,h1'];rw[if_pos Ω,hl];rfl;refine h5.trans ((h2.append_right R).trans ?_);simp
theorem xvi(hc:nq c)(P m S:List α):∃m',wU c P.length (P.length+m.length) (P++(m++S))=some (P++(m'++S))/\m'.Perm m/\aH c m':=by cases m with|nil=>exact⟨[],cQ (by simp only[sM,List.length_nil,Nat.add_zero];rw[if_neg Ω]),List.Perm.refl _,by simp[aH]⟩|cons x R=>obtain⟨m',h1,h2,h3⟩:=xBr hc P S (P.length+(x::R).length) R.length R [x] rfl (by simp;omega) (by simp[aH]);exact⟨m',by simpa[wU]using h1,by simpa using h2,h3⟩
def uj(a b n:Nat):Nat×List α->Option ((Nat×List α)⊕List α):=λ(i,l)=>
 if i<n then match l[a+i]?,l[b+i]? with
  |some x,some y=>some (.inl (i+1,(l.set (a+i) y).set (b+i) x))
  |_,_=>none
 else some (.inr l)
def qA(a b n:Nat)(l:List α):Option (List α):=aB (uj a b n) (0,l)
theorem xM3(P M S:List α)(a b n:Nat)(hP:a=P.length)(hb:b=P.length+n+M.length):∀(k:Nat)(X1 Y1 X2 Y2:List α),X2.length=k->Y2.length=k->X1.length=Y1.length->X1.length+k=n->aB (uj a b n) (X1.length,P++(Y1++(X2++(M++(X1++(Y2++S))))))=some (P++((Y1++Y2)++(M++((X1++X2)++S)))):=by intro k;induction k with|zero=>intro X1 Y1 X2 Y2 h1 h2 h3 h4;have:X2=[]:=zA h1;subst this;have:Y2=[]:=zA h2;subst this;exact cQ (by simp[uj,show ¬ X1.length<n by omega])|succ k ih=>intro X1 Y1 X2 Y2 h1 h2 h3 h4;cases X2 with|nil=>simp at h1|cons x X2=>cases Y2 with|nil=>simp at h2|cons y Y2=>(simp only[zF,Nat.add_right_cancel_iff]at h1 h2;have e1:P++(Y1++(x::X2++(M++(X1++(y::Y2++S)))))=(P++Y1)++x::(X2++(M++(X1++(y::Y2++S)))):=by simp);(have e2:∀z,(P++Y1)++z::(X2++(M++(X1++(y::Y2++S))))=(P++(Y1++(z::X2++(M++X1))))++y::(Y2++S):=by simp);have g1:=vQ (P++Y1) x (X2++(M++(X1++(y::Y2++S)))) (n:=a+X1.length) (by simp[hP,h3]);have g2:=vQ (P++(Y1++(x::X2++(M++X1)))) y (Y2++S) (n:=b+X1.length) (by simp[hb];omega);rw[<-e2,<-e1]at g2;rw[<-e1]at g1;have:=ih (X1++[x]) (Y1++[y]) X2 Y2 h1 h2 (by simp[h3]) (by simp;omega);refine kP (s':=((X1++[x]).length,P++(Y1++[y]++(X2++(M++(X1++[x]++(Y2++S))))))) ?_ (by rw[this];simp);simp only[uj,g1,g2];rw[if_pos Ω,e1,vS _ _ _ _ (by simp[hP,h3]),e2,vS _ _ _ _ (by simp[hb];omega)];simp
variable {a b:Nat}
theorem Td(P X M Y S:List α)(hX:X.length=n)(hY:Y.length=n)(ha:a=P.length)(hb:b=P.length+n+M.length):qA a b n (P++(X++(M++(Y++S))))=some (P++(Y++(M++(X++S)))):=by have:=xM3 P M S a b n ha hb n [] [] X Y hX hY rfl Ψ;simpa[qA]using this
def pr(m:Nat):Nat×Nat×List α->Option ((Nat×Nat×List α)⊕(Nat×List α)):=λ(i,j,l)=>
 if i=j then some (.inr (i,l))else
 if j<i then match qA (m - i) m j l with
  |some l'=>some (.inl (i - j,j,l'))
  |none=>none
 else match qA (m - i) (m+j - i) i l with
  |some l'=>some (.inl (i,j - i,l'))
  |none=>none
def wK(a m b:Nat)(l:List α):Option (List α):=match aB (pr m) (m - a,b - m,l)with|some (i,l')=>qA (m - i) m i l'|none=>none
theorem xMY(m:Nat):∀(k:Nat)(P X Y S:List α),X.length+Y.length<=k->X≠[]->Y≠[]->m=P.length+X.length->∃i l',aB (pr m) (X.length,Y.length,P++(X++(Y++S)))=some (i,l')/\qA (m - i) m i l'=some (P++(Y++(X++S))):=by intro k;induction k with|zero=>(intro P X Y S hk hX;cases X with|nil=>exact absurd rfl hX|cons x X=>simp at hk)|succ k ih=>
 intro P X Y S hk hX hY hm;have O:0<X.length:=List.length_pos_iff.2 hX;have J:0<Y.length:=List.length_pos_iff.2 hY;by_cases h1:X.length=Y.length;refine⟨X.length,P++(X++(Y++S)),cQ (by simp[pr,h1]),?_⟩;have:=Td P X [] Y S (n:=X.length) rfl h1.symm (a:=m - X.length) (b:=m) Ω (by simp;omega);simpa using this;by_cases h2:Y.length<X.length;obtain⟨U,V,rfl,hU⟩:=yB (Nat.le_of_lt h2);have hV:V≠[]:=λ e=>by subst e;simp at h2;omega
 simp only[z8]at *;have sw:=Td P U V Y S hU rfl (a:=m - (U.length+V.length)) (b:=m) Ω Ω;obtain⟨i,l',g1,g2⟩:=ih (P++Y) V U S Ω hV (λ e=>by subst e;simp at hU;omega) (by simp;omega);refine⟨i,l',?_,by rw[g2];simp⟩;refine kP (s':=(V.length,U.length,(P++Y)++(V++(U++S)))) ?_ g1;have e:P++(U++V++(Y++S))=P++(U++(V++(Y++S))):=by simp
 simp only[pr,e];rw[<-hU]at *;rw[if_neg Ω,if_pos Ω,sw];simp only[z6,Sum.inl.injEq,zb];exact⟨by omega,trivial,by simp⟩;obtain⟨W,Z,rfl,hW⟩:=yB (l:=Y) (k:=Y.length - X.length) Ω;have hZ:Z.length=X.length:=by simp at hW;simp at h1 h2;omega
 have q:W≠[]:=λ e=>by subst e;simp at h1 h2 hW;omega
 simp only[z8]at *;have sw:=Td P X W Z S (n:=X.length) rfl hZ (a:=m - X.length) (b:=m+(W.length+Z.length) - X.length) Ω Ω;obtain⟨i,l',g1,g2⟩:=ih P Z W (X++S) Ω (λ e=>by subst e;simp at hZ;omega) q Ω;refine⟨i,l',?_,by rw[g2];simp⟩;refine kP (s':=(Z.length,W.length,P++(Z++(W++(X++S))))) ?_ g1;have e:P++(X++(W++Z++S))=P++(X++(W++(Z++S))):=by simp
 simp only[pr,e];rw[if_neg h1,if_neg h2,sw];simp only[z6,Sum.inl.injEq,zb];exact⟨by omega,by omega,trivial⟩
theorem xJm(P X Y S:List α)(hX:X≠[])(hY:Y≠[]){m:Nat}(ha:a=P.length)(hm:m=P.length+X.length)(hb:b=P.length+X.length+Y.length):wK a m b (P++(X++(Y++S)))=some (P++(Y++(X++S))):=by obtain⟨i,l',h1,h2⟩:=xMY m _ P X Y S (zd _) hX hY hm;unfold wK;rw[show m - a=X.length by omega,show b - m=Y.length by omega,h1];exact h2
def mb(t:Nat->Option Bool):Nat×Nat->Option ((Nat×Nat)⊕Nat):=λ(i,j)=>
 if i<j then match t ((i+j) / 2)with
  |some true=>some (.inl ((i+j) / 2+1,j))
  |some false=>some (.inl (i,(i+j) / 2))
  |none=>none
 else some (.inr i)
theorem xJ5(t:Nat->Option Bool)(T:Nat->Bool)(lo hi:Nat)(ht:∀h,lo<=h->h<hi->t h=some (T h))(hm:∀h h',lo<=h->h<h'->h'<hi->T h'->T h):∀(k i j:Nat),j - i<=k->lo<=i->i<=j->j<=hi->(∀h,lo<=h->h<i->T h)->(∀h,j<=h->h<hi->T h=false)->∃r,aB (mb t) (i,j)=some r/\i<=r/\r<=j/\(∀h,lo<=h->h<r->T h)/\∀h,r<=h->h<hi->T h=false:=by intro k;induction k with|zero=>(intro i j hk h1 h2 h3 h4 h5;have:i=j:=Ω);subst this;exact⟨i,cQ (by simp[mb]),zd _,zd _,h4,h5⟩|succ k ih=>
 intro i j hk h1 h2 h3 h4 h5;by_cases J:i<j;have hh:=ht ((i+j) / 2) Ω Ω;cases hT:T ((i+j) / 2)with
 |true=>
  obtain ⟨r,g1,g2,g3,g4,g5⟩:=ih ((i+j) / 2+1) j Ω Ω Ω h3 (fun h a b=>by
   by_cases he:h=(i+j) / 2
   . rw[he];exact hT
   . exact hm h ((i+j) / 2) a Ω Ω hT) h5
  refine⟨r,?_,by omega,g3,g4,g5⟩;refine kP (s':=((i+j) / 2+1,j)) ?_ g1;simp only[mb,hh,hT];rw[if_pos J]
 |false=>
  obtain ⟨r,g1,g2,g3,g4,g5⟩:=ih i ((i+j) / 2) Ω h1 Ω Ω h4 (fun h a b=>by
   cases q:T h with
   | false=>rfl
   | true=>
    by_cases he:h=(i+j) / 2
    . rw[he,hT]at q;exact q.symm
    . have:=hm ((i+j) / 2) h Ω Ω b q
      rw [hT] at this;exact absurd this Ψ)
  refine⟨r,?_,g2,by omega,g4,g5⟩;refine kP (s':=(i,(i+j) / 2)) ?_ g1;simp only[mb,hh,hT];rw[if_pos J]
 have:i=j:=Ω
 subst this;exact⟨i,cQ (by simp[mb]),zd _,zd _,h4,h5⟩
theorem NF(t:Nat->Option Bool)(T:Nat->Bool)(lo hi:Nat)(hl:lo<=hi)(ht:∀h,lo<=h->h<hi->t h=some (T h))(hm:∀h h',lo<=h->h<h'->h'<hi->T h'->T h):∃r,aB (mb t) (lo,hi)=some r/\lo<=r/\r<=hi/\(∀h,lo<=h->h<r->T h)/\∀h,r<=h->h<hi->T h=false:=xJ5 t T lo hi ht hm (hi - lo) lo hi (zd _) (zd _) hl (zd _) (λ h a b=>by omega) (λ h a b=>by omega)
def sO(e:Nat):Nat×List α->Option ((Nat×List α)⊕List α):=λ(k,l)=>
 if k<e then match l[k]?,l[k+1]? with
  |some x,some y=>some (.inl (k+1,(l.set k y).set (k+1) x))
  |_,_=>none
 else some (.inr l)
theorem VQ(x:α)(S:List α):∀(Y P:List α)(e:Nat),e=P.length+Y.length->aB (sO e) (P.length,P++(x::(Y++S)))=some (P++(Y++x::S))|[],P,e,he=>cQ (by simp[sO,he])|y::Y,P,e,he=>by have:=VQ x S Y (P++[y]) e (by simp[he];omega);have g2:=vQ (P++[x]) y (Y++S) (n:=P.length+1) Ψ;rw[show P++[x]++y::(Y++S)=P++(x::(y::Y++S)) by simp]at g2;refine kP (s':=((P++[y]).length,P++[y]++(x::(Y++S)))) ?_ (by rw[this];simp);simp only[sO,vQ P x (y::Y++S) rfl,g2];rw[if_pos (by simp at he;omega),vS _ _ _ _ rfl,show P++y::(y::Y++S)=(P++[y])++y::(Y++S) by simp,vS _ _ _ _ Ψ];simp
def sL(e:Nat):Nat×List α->Option ((Nat×List α)⊕List α):=λ(k,l)=>
 if e<k then match l[k]?,l[k - 1]? with
  |some x,some y=>some (.inl (k - 1,(l.set k y).set (k - 1) x))
  |_,_=>none
 else some (.inr l)
theorem xHa(x:α)(P:List α):∀(n:Nat)(Y S:List α),Y.length=n->aB (sL P.length) (P.length+n,P++(Y++x::S))=some (P++(x::(Y++S))):=by intro n;induction n with|zero=>intro Y S h;have:Y=[]:=zA h;subst this;exact cQ (by simp[sL])|succ n ih=>intro Y S h;obtain⟨Y0,y,rfl,h0⟩:=VL h;have g1:=vQ (P++(Y0++[y])) x S (n:=P.length+(n+1)) (by simp[h0]);have g2:=vQ (P++Y0) y (x::S) (n:=P.length+(n+1) - 1) (by simp only[z8,h0];omega);rw[show P++(Y0++[y])++x::S=P++(Y0++[y]++x::S) by simp]at g1;rw[show P++Y0++y::x::S=P++(Y0++[y]++x::S) by simp]at g2;refine kP (s':=(P.length+n,P++(Y0++x::y::S))) ?_ (by rw[ih Y0 (y::S) h0];simp);simp only[sL,g1,g2];rw[if_pos Ω,show P++(Y0++[y]++x::S)=P++(Y0++[y])++x::S by simp,vS _ _ _ _ (by simp[h0]),show P++(Y0++[y])++y::S=P++Y0++y::y::S by simp,vS _ _ _ _ (by simp only[z8,h0];omega)];simp only[z6,Sum.inl.injEq,zb];exact⟨by omega,by simp⟩
def gP(c:α->α->Int)(l:List α)(i j:Nat):Option Int:=match l[i]?,l[j]? with|some x,some y=>some (c x y)|_,_=>none
def jq(c:α->α->Int):Nat->Nat->Nat->Nat->List α->Option (List α)
 |0,_,_,_,_=>none
 |f+1,a,m,b,l=>
  if m - a=1 then match aB (mb λ h=>(gP c l h a).map λ r=>decide (r<0)) (m,b)with
   |some i=>aB (sO (i - 1)) (a,l)
   |none=>none
  else if b - m=1 then match aB (mb λ h=>(gP c l m h).map λ r=>!decide (r<0)) (a,m)with
   |some i=>aB (sL i) (m,l)
   |none=>none
  else match aB (mb λ h=>(gP c l ((a+b) / 2+m - 1 - h) h).map λ r=>!decide (r<0)) (if(a+b) / 2<m then((a+b) / 2+m - b,(a+b) / 2)else(a,m))with
   |none=>none
   |some s=>
    match (if s<m/\m<(a+b) / 2+m - s then wK s m ((a+b) / 2+m - s) l else some l)with
    |none=>none
    |some l1=>
     match (if a<s/\s<(a+b) / 2 then jq c f a s ((a+b) / 2) l1 else some l1)with
     |none=>none
     |some l2=>if(a+b) / 2<(a+b) / 2+m - s/\(a+b) / 2+m - s<b then jq c f ((a+b) / 2) ((a+b) / 2+m - s) b l2 else some l2
theorem Xu(P X S:List α)(h:k<X.length)(hn:n=P.length+k):(P++(X++S))[n]?=some X[k]:=by grind
theorem li{l:List α}(h:aH c l){i j:Nat}(q:i<j)(hj:j<l.length):c (l[i]' Ω) l[j]<=0:=zB.1 h i j Ω hj q
theorem UX{c:α->α->Int}(hc:nq c):∀(f:Nat)(P X Y S:List α),X≠[]->Y≠[]->aH c X->aH c Y->X.length+Y.length<=2 ^ f->
  ∃Z,jq c f P.length (P.length+X.length) (P.length+X.length+Y.length) (P++(X++(Y++S)))=some (P++(Z++S))/\Z.Perm (X++Y)/\aH c Z:=by
 intro f;induction f with
 |zero=>
  intro P X Y S hX hY _ _ hl;have:=List.length_pos_iff.2 hX;have:=List.length_pos_iff.2 hY;simp at hl;omega
 |succ f ih=>
  intro P X Y S hX hY sX sY hl;have hX0:=List.length_pos_iff.2 hX;have ap:=List.length_pos_iff.2 hY;generalize O:P++(X++(Y++S))=l;have ab:∀k(hk:k<X.length),l[P.length+k]?=some X[k]:=λ k hk=>by rw[<-O];exact Xu P X (Y++S) hk rfl
  have V:∀k(hk:k<Y.length),l[P.length+X.length+k]?=some Y[k]:=λ k hk=>by
   rw[<-O,show P++(X++(Y++S))=(P++X)++(Y++S) by simp]
   exact Xu (P++X) Y S hk (by simp)
  unfold jq;by_cases an:X.length=1
  ·
   rw[if_pos (by omega)]
   obtain⟨x,rfl⟩:=List.length_eq_one_iff.1 an;obtain⟨r,h1,h2,h3,h4,h5⟩:=NF (λ h=>(gP c l h P.length).map λ r=>decide (r<0)) (λ h=>decide (c (Y.getD (h - (P.length+1)) x) x<0)) (P.length+[x].length) (P.length+[x].length+Y.length) (by omega)
    (fun h a b=>by
     simp only[zj]at a b;have g1:=ab 0 (by simp)
     have g2:=V (h - (P.length+1)) (by omega)
     simp only[zj]at g2;rw[show P.length+1+(h - (P.length+1))=h by omega]at g2
     simp only [Nat.add_zero,List.getElem_cons_zero] at g1;simp only [gP,g1,g2,Option.map_some];simp [List.getD,show h - (P.length+1)<Y.length by omega])
    (fun h h' a b e ht=>by
     simp only[zj]at a e;simp only[zl]at ht|-;have i1:h - (P.length+1)<Y.length:=by omega
     have i2:h' - (P.length+1)<Y.length:=by omega
     simp only [List.getD,ze i1,ze i2,zh] at ht |-;exact hc.lt_of_le_lt (li sY (by omega) i2) ht)
   rw[h1];simp only[zj]at h2 h3 h4 h5;obtain⟨Y1,Y2,rfl,ak⟩:=yB (l:=Y) (k:=r - (P.length+1)) (by omega)
   refine⟨Y1++x::Y2,?_,?_,?_⟩
   . have:=VQ x (Y2++S) Y1 P (r - 1) (by omega)
     dsimp only;rw[<-O];simpa using this
   . simp only[List.singleton_append];exact List.perm_middle
   . obtain⟨s1,s2,s3⟩:=rT.1 sY;have l1:∀y,y∈Y1->c y x<0:=λ y hy=>by
      obtain⟨k,hk,rfl⟩:=zp.1 hy;have:=h4 (P.length+1+k) (by omega) (by omega)
      simp only[zl,show P.length+1+k - (P.length+1)=k by omega,List.getD,zO hk,ze hk,zh]at this
      exact this
     have l2:∀y,y∈Y2->¬ c y x<0:=λ y hy=>by
      obtain⟨k,hk,rfl⟩:=zp.1 hy;simp only[z8]at h5;have:=h5 (P.length+1+(Y1.length+k)) (by omega) (by omega)
      simp only[decide_eq_false_iff_not,show P.length+1+(Y1.length+k) - (P.length+1)=Y1.length+k by omega,List.getD,List.getElem?_append_right (Nat.le_add_right Y1.length k),Nat.add_sub_cancel_left,ze hk,zh]at this
      exact this
     refine rT.2 ⟨s1,zM.2 ⟨λ y hy=>hc.le_of_not (l2 y hy),s2⟩,λ y hy z hz=>?_⟩
     rcases zC.1 hz with rfl|hz
     . exact Int.le_of_lt (l1 y hy)
     . exact s3 y hy z hz
  . rw[if_neg (by omega)]
    by_cases aj:Y.length=1
    ·
     rw[if_pos (by omega)]
     obtain⟨y,rfl⟩:=List.length_eq_one_iff.1 aj;obtain⟨r,h1,h2,h3,h4,h5⟩:=NF (λ h=>(gP c l (P.length+X.length) h).map λ r=>!decide (r<0)) (λ h=>!decide (c y (X.getD (h - P.length) y)<0)) P.length (P.length+X.length) (by omega)
      (fun h a b=>by
       have g1:=V 0 (by simp)
       have g2:=ab (h - P.length) (by omega)
       rw[show P.length+(h - P.length)=h by omega]at g2
       simp only [Nat.add_zero,List.getElem_cons_zero] at g1;simp only [gP,g1,g2,Option.map_some];simp [List.getD,show h - P.length<X.length by omega])
      (fun h h' a b e ht=>by
       simp only[Bool.not_eq_true',decide_eq_false_iff_not]at ht|-;have i1:h - P.length<X.length:=by omega
       have i2:h' - P.length<X.length:=by omega
       simp only [List.getD,ze i1,ze i2,zh] at ht |-;exact hc.not_lt_of_le (hc.trans _ _ _ (li sX (by omega) i2) (hc.le_of_not ht)))
     rw[h1];obtain⟨X1,X2,rfl,ai⟩:=yB (l:=X) (k:=r - P.length) (by omega)
     refine⟨X1++y::X2,?_,?_,?_⟩
     . have:=xHa y (P++X1) X2.length X2 S rfl;dsimp only;rw[<-O];simp only[z8]at this h2 h3|-;rw[show r=P.length+X1.length by omega,<-Nat.add_assoc]
       simpa using this
     . rw[zw];exact List.Perm.append_left X1 (List.perm_append_singleton y X2).symm
     . obtain⟨s1,s2,s3⟩:=rT.1 sX;have l1:∀x,x∈X1->c x y<=0:=λ x hx=>by
        obtain⟨k,hk,rfl⟩:=zp.1 hx;have:=h4 (P.length+k) (by omega) (by omega)
        simp only[Bool.not_eq_true',decide_eq_false_iff_not,Nat.add_sub_cancel_left,List.getD,zO hk,ze hk,zh]at this;exact hc.le_of_not this
       have l2:∀x,x∈X2->c y x<0:=λ x hx=>by
        obtain⟨k,hk,rfl⟩:=zp.1 hx;simp only[z8]at h5;have:=h5 (P.length+(X1.length+k)) (by omega) (by omega)
        simp only[Bool.not_eq_false',zl,Nat.add_sub_cancel_left,List.getD,List.getElem?_append_right (Nat.le_add_right X1.length k),ze hk,zh]at this;exact this
       refine rT.2 ⟨s1,zM.2 ⟨λ x hx=>Int.le_of_lt (l2 x hx),s2⟩,λ x hx z hz=>?_⟩
       rcases zC.1 hz with rfl|hz
       . exact l1 x hx
       . exact s3 x hx z hz
    . rw[if_neg (by omega)]
      obtain⟨J,ae⟩:∃J,J=(P.length+(P.length+X.length+Y.length)) / 2:=⟨_,rfl⟩;rw[<-ae];obtain⟨lo,hi,ao,b1,b2,b3,b4,b5,b6,b7⟩:∃lo hi,(if J<P.length+X.length then(J+(P.length+X.length) - (P.length+X.length+Y.length),J)else(P.length,P.length+X.length))=(lo,hi)/\lo<=hi/\P.length<=lo/\
        hi<=P.length+X.length/\hi<=J/\J+(P.length+X.length)<=lo+(P.length+X.length+Y.length)/\(hi=J\/hi=P.length+X.length)/\(lo=P.length\/lo+(P.length+X.length+Y.length)=J+(P.length+X.length)):=by
       by_cases h:J<P.length+X.length
       . exact⟨_,_,if_pos h,by omega,by omega,by omega,by omega,by omega,.inl rfl,.inr (by omega)⟩
       . exact⟨_,_,if_neg h,by omega,by omega,by omega,by omega,by omega,.inr rfl,.inl rfl⟩
      rw[ao];have dX:∃x0:α,True:=⟨X[0]'hX0,trivial⟩;obtain⟨x0,_⟩:=dX;obtain⟨s,h1,h2,h3,h4,h5⟩:=NF (λ h=>(gP c l (J+(P.length+X.length) - 1 - h) h).map λ r=>!decide (r<0)) (λ h=>!decide (c (Y.getD (J - 1 - h) x0) (X.getD (h - P.length) x0)<0)) lo hi (by omega)
       (fun h a b=>by
        have g1:=V (J - 1 - h) (by omega)
        have g2:=ab (h - P.length) (by omega)
        rw[show P.length+(h - P.length)=h by omega]at g2
        rw[show P.length+X.length+(J - 1 - h)=J+(P.length+X.length) - 1 - h by omega]at g1
        simp only [gP,g1,g2,Option.map_some];simp [List.getD,show h - P.length<X.length by omega,show J - 1 - h<Y.length by omega])
       (fun h h' a b e ht=>by
        simp only[Bool.not_eq_true',decide_eq_false_iff_not]at ht|-;have i1:h - P.length<X.length:=by omega
        have i2:h' - P.length<X.length:=by omega
        have i3:J - 1 - h<Y.length:=by omega
        have i4:J - 1 - h'<Y.length:=by omega
        simp only[List.getD,ze i1,ze i2,ze i3,ze i4,zh]at ht|-;refine hc.not_lt_of_le (hc.trans _ _ _ (li sX (by omega) i2) (hc.trans _ _ _ (hc.le_of_not ht) ?_))
        exact li sY (by omega) i3)
      rw[h1];obtain⟨X1,X2,rfl,ai⟩:=yB (l:=X) (k:=s - P.length) (by omega)
      obtain⟨Y1,Y2,rfl,ak⟩:=yB (l:=Y) (k:=J - s) (by omega)
      simp only[z8]at *;obtain⟨ac,Q,ah⟩:=rT.1 sX;obtain⟨aa,W,af⟩:=rT.1 sY;have am:∀x,x∈X1->∀y,y∈Y2->c x y<=0:=λ x hx y hy=>by
       obtain⟨k,hk,rfl⟩:=zp.1 hx;obtain⟨k',ad,rfl⟩:=zp.1 hy;have:=h4 (s - 1) (by omega) (by omega)
       simp only[Bool.not_eq_true',decide_eq_false_iff_not]at this;have i1:s - 1 - P.length<X1.length:=by omega
       rw[show J - 1 - (s - 1)=Y1.length+0 by omega]at this
       simp only[List.getD,zO i1,ze i1,List.getElem?_append_right (Nat.le_add_right Y1.length 0),Nat.add_sub_cancel_left,ze (show 0<Y2.length by omega),zh]at this
       have:=hc.le_of_not this;have q1:c X1[k] (X1[s - 1 - P.length]'i1)<=0\/k=s - 1 - P.length:=by
        by_cases e:k=s - 1 - P.length
        . exact .inr e
        . exact .inl (li ac (by omega) i1)
       have q2:c (Y2[0]'(by omega)) Y2[k']<=0\/k'=0:=by
        by_cases e:k'=0
        . exact .inr e
        . exact .inl (li W (by omega) ad)
       have q3:c X1[k] (Y2[0]'(by omega))<=0:=by
        rcases q1 with q|q
        . exact hc.trans _ _ _ q this
        . subst q;exact this
       rcases q2 with q|q
       . exact hc.trans _ _ _ q3 q
       . subst q;exact q3
      have al:∀y,y∈Y1->∀x,x∈X2->c y x<=0:=λ y hy x hx=>by
       obtain⟨k,hk,rfl⟩:=zp.1 hx;obtain⟨k',ad,rfl⟩:=zp.1 hy;have:=h5 s (zd _) (by omega)
       simp only[Bool.not_eq_false',zl]at this;have i1:J - 1 - s<Y1.length:=by omega
       rw[show s - P.length=X1.length+0 by omega]at this
       simp only[List.getD,zO i1,ze i1,List.getElem?_append_right (Nat.le_add_right X1.length 0),Nat.add_sub_cancel_left,ze (show 0<X2.length by omega),zh]at this
       have q1:c Y1[k'] (Y1[J - 1 - s]'i1)<=0\/k'=J - 1 - s:=by
        by_cases e:k'=J - 1 - s
        . exact .inr e
        . exact .inl (li aa (by omega) i1)
       have q2:c (X2[0]'(by omega)) X2[k]<=0\/k=0:=by
        by_cases e:k=0
        . exact .inr e
        . exact .inl (li Q (by omega) hk)
       have q3:c Y1[k'] (X2[0]'(by omega))<=0:=by
        rcases q1 with q|q
        . exact hc.trans _ _ _ q (Int.le_of_lt this)
        . subst q;exact Int.le_of_lt this
       rcases q2 with q|q
       . exact hc.trans _ _ _ q3 q
       . subst q;exact q3
      have ag:(if s<P.length+(X1.length+X2.length)/\P.length+(X1.length+X2.length)<J+(P.length+(X1.length+X2.length)) - s then wK s (P.length+(X1.length+X2.length)) (J+(P.length+(X1.length+X2.length)) - s) l else some l)=some (P++(X1++(Y1++(X2++(Y2++S))))):=by
       rw[<-O];by_cases h:s<P.length+(X1.length+X2.length)/\P.length+(X1.length+X2.length)<J+(P.length+(X1.length+X2.length)) - s
       . rw[if_pos h];have:=xJm (P++X1) X2 Y1 (Y2++S) (λ e=>by subst e;simp at *;omega) (λ e=>by subst e;simp at *;omega) (a:=s) (m:=P.length+(X1.length+X2.length)) (b:=J+(P.length+(X1.length+X2.length)) - s) (by simp;omega) (by simp;omega) (by simp;omega)
         simpa using this
       . rw[if_neg h];by_cases e:X2=[]
         . subst e;simp
         . have:Y1=[]:=by
            have:=List.length_pos_iff.2 e;exact zA (by omega)
           subst this;simp
      rw[ag];dsimp only;have hp:2 ^ (f+1)=2*2 ^ f:=by rw[Nat.pow_succ];omega
      obtain⟨Z1,e1,p1,q1⟩:∃Z1,(if P.length<s/\s<J then jq c f P.length s J (P++(X1++(Y1++(X2++(Y2++S)))))else some (P++(X1++(Y1++(X2++(Y2++S))))))=some (P++(Z1++(X2++(Y2++S))))/\Z1.Perm (X1++Y1)/\aH c Z1:=by
       by_cases h:P.length<s/\s<J
       . rw[if_pos h];obtain⟨Z,g1,g2,g3⟩:=ih P X1 Y1 (X2++(Y2++S)) (λ e=>by subst e;simp at *;omega) (λ e=>by subst e;simp at *;omega) ac aa (by omega)
         rw[show P.length+X1.length=s by omega,show s+Y1.length=J by omega]at g1
         exact⟨Z,g1,g2,g3⟩
       . rw[if_neg h];refine⟨X1++Y1,by simp,List.Perm.refl _,?_⟩
         by_cases e:X1=[]
         . subst e;simpa using aa
         . have:Y1=[]:=by
            have:=List.length_pos_iff.2 e;exact zA (by omega)
           subst this;simpa using ac
      rw[e1];dsimp only;have l1:=p1.length_eq;simp only[z8]at l1;obtain⟨Z2,e2,p2,q2⟩:∃Z2,(if J<J+(P.length+(X1.length+X2.length)) - s/\J+(P.length+(X1.length+X2.length)) - s<P.length+(X1.length+X2.length)+(Y1.length+Y2.length)then jq c f J (J+(P.length+(X1.length+X2.length)) - s) (P.length+(X1.length+X2.length)+(Y1.length+Y2.length)) (P++(Z1++(X2++(Y2++S))))else some (P++(Z1++(X2++(Y2++S)))))=some (P++(Z1++(Z2++S)))/\Z2.Perm (X2++Y2)/\aH c Z2:=by
       by_cases h:J<J+(P.length+(X1.length+X2.length)) - s/\J+(P.length+(X1.length+X2.length)) - s<P.length+(X1.length+X2.length)+(Y1.length+Y2.length)
       . rw[if_pos h];obtain⟨Z,g1,g2,g3⟩:=ih (P++Z1) X2 Y2 S (λ e=>by subst e;simp at *;omega) (λ e=>by subst e;simp at *;omega) Q W (by omega)
         simp only[z8,zw]at g1;rw[show P.length+Z1.length=J by omega,show J+X2.length=J+(P.length+(X1.length+X2.length)) - s by omega,show J+(P.length+(X1.length+X2.length)) - s+Y2.length=P.length+(X1.length+X2.length)+(Y1.length+Y2.length) by omega]at g1
         exact⟨Z,g1,g2,g3⟩
       . rw[if_neg h];refine⟨X2++Y2,by simp,List.Perm.refl _,?_⟩
         by_cases e:X2=[]
         . subst e;simpa using W
         . have:Y2=[]:=by
            have:=List.length_pos_iff.2 e;exact zA (by omega)
           subst this;simpa using Q
      rw[e2];refine⟨Z1++Z2,by simp,?_,?_⟩
      . refine(p1.append p2).trans ?_;simp only[zw];refine List.Perm.append_left X1 ?_;rw[<-zw,<-zw];exact List.Perm.append_right Y2 List.perm_append_comm
      . refine rT.2 ⟨q1,q2,λ z hz w hw=>?_⟩
        rcases zG.1 (p1.mem_iff.1 hz)with hz|hz<;>rcases zG.1 (p2.mem_iff.1 hw)with hw|hw
        . exact ah z hz w hw
        . exact am z hz w hw
        . exact al z hz w hw
        . exact af z hz w hw
def rz(c:α->α->Int)(n:Nat):Nat×Nat×List α->Option ((Nat×Nat×List α)⊕(Nat×List α)):=λ(a,b,l)=>
 if b<=n then match wU c a b l with
  |some l'=>some (.inl (b,b+20,l'))
  |none=>none
 else some (.inr (a,l))
def rx(c:α->α->Int)(f bs n:Nat):Nat×Nat×List α->Option ((Nat×Nat×List α)⊕(Nat×List α)):=λ(a,b,l)=>
 if b<=n then match jq c f a (a+bs) b l with
  |some l'=>some (.inl (b,b+2*bs,l'))
  |none=>none
 else some (.inr (a,l))
def qH(c:α->α->Int)(f n:Nat):Nat×List α->Option ((Nat×List α)⊕List α):=λ(bs,l)=>
 if bs<n then match aB (rx c f bs n) (0,2*bs,l)with
  |some (a,l1)=>if a+bs<n then match jq c f a (a+bs) n l1 with
    |some l2=>some (.inl (bs*2,l2))
    |none=>none
   else some (.inl (bs*2,l1))
  |none=>none
 else some (.inr l)
def DM(c:α->α->Int)(f n:Nat)(l:List α):Option (List α):=match aB (rz c n) (0,20,l)with|some (a,l1)=>(match wU c a n l1 with|some l2=>aB (qH c f n) (20,l2)|none=>none)|none=>none
inductive lm (c:α->α->Int) (bs:Nat):List α->Prop where|nil:lm c bs []|snoc {D m:List α}:lm c bs D->m.length=bs->aH c m->lm c bs (D++m)
inductive Bl (c:α->α->Int) (bs:Nat):List α->Prop where|last {m:List α}:m.length<=bs->aH c m->Bl c bs m|more {m R:List α}:m.length=bs->aH c m->Bl c bs R->Bl c bs (m++R)
variable {bs:Nat}
theorem lm.bl{D:List α}(h:lm c bs D):∀{R:List α},Bl c bs R->Bl c bs (D++R):=by induction h with|nil=>intro R hR;exact hR|snoc _ h1 h2 ih=>intro R hR;rw[zw];exact ih (.more h1 h2 hR)
variable {R:List α}
theorem Bl.first(h:Bl c bs R)(hl:bs<=R.length):∃X R',R=X++R'/\X.length=bs/\aH c X/\Bl c bs R':=by cases h with|last h1 h2=>exact⟨R,[],by simp,by omega,h2,.last Ψ (by simp[aH])⟩|more h1 h2 h3=>exact⟨_,_,rfl,h1,h2,h3⟩
theorem Bl.short(h:Bl c bs R)(hl:R.length<=bs):aH c R:=by cases h with|last h1 h2=>exact h2|more h1 h2 h3=>rename_i m R;have:R=[]:=zA (by simp at hl;omega);subst this;simpa using h2
theorem xF6(hc:nq c)(n:Nat):∀(k:Nat)(R D:List α),R.length<=k->n=D.length+R.length->lm c 20 D->∃D' R',aB (rz c n) (D.length,D.length+20,D++R)=some (D'.length,D'++R')/\n=D'.length+R'.length/\R'.length<20/\lm c 20 D'/\(D'++R').Perm (D++R):=by intro k;induction k with|zero=>intro R D hk hn hD;exact⟨D,R,cQ (by simp only[rz];rw[if_neg Ω]),hn,by omega,hD,List.Perm.refl _⟩|succ k ih=>intro R D hk hn hD;by_cases h:20<=R.length;obtain⟨m,R',rfl,hm⟩:=yB h;obtain⟨m',g1,g2,g3⟩:=xvi hc D m R';have hl:=g2.length_eq;simp only[z8]at hk hn;obtain⟨D',R'',i1,i2,i3,i4,i5⟩:=ih R' (D++m') Ω (by simp;omega) (hD.snoc Ω g3);refine⟨D',R'',?_,i2,i3,i4,?_⟩;refine kP (s':=((D++m').length,(D++m').length+20,D++m'++R')) ?_ i1;simp only[rz];rw[if_pos Ω,show D.length+20=D.length+m.length by omega,g1];simp only[z8,zw,z6,Sum.inl.injEq,zb,and_true];omega;refine i5.trans ?_;simp only[zw];exact List.Perm.append_left D (g2.append_right R');exact⟨D,R,cQ (by simp only[rz];rw[if_neg Ω]),hn,by omega,hD,List.Perm.refl _⟩
theorem xC8(hc:nq c)(f bs n:Nat)(O:0<bs)(hf:n<=2 ^ f):∀(k:Nat)(R D:List α),R.length<=k->n=D.length+R.length->lm c (2*bs) D->Bl c bs R->∃D' R',aB (rx c f bs n) (D.length,D.length+2*bs,D++R)=some (D'.length,D'++R')/\n=D'.length+R'.length/\R'.length<2*bs/\lm c (2*bs) D'/\Bl c bs R'/\(D'++R').Perm (D++R):=by intro k;induction k with|zero=>intro R D hk hn hD hR;exact⟨D,R,cQ (by simp only[rx];rw[if_neg Ω]),hn,by omega,hD,hR,List.Perm.refl _⟩|succ k ih=>intro R D hk hn hD hR;by_cases h:2*bs<=R.length;obtain⟨X,R1,rfl,hX,sX,J⟩:=hR.first Ω;simp only[z8]at hk hn h;obtain⟨Y,R',rfl,hY,sY,q⟩:=J.first Ω;simp only[z8]at hk hn h;obtain⟨Z,g1,g2,g3⟩:=UX hc f D X Y R' (λ e=>by subst e;simp at hX;omega) (λ e=>by subst e;simp at hY;omega) sX sY Ω;have hl:=g2.length_eq;simp only[z8]at hl;obtain⟨D',R'',i1,i2,i3,i4,i5,i6⟩:=ih R' (D++Z) Ω (by simp;omega) (hD.snoc Ω g3) q;refine⟨D',R'',?_,i2,i3,i4,i5,?_⟩;refine kP (s':=((D++Z).length,(D++Z).length+2*bs,D++Z++R')) ?_ i1;simp only[rx];rw[if_pos Ω,show D.length+bs=D.length+X.length by omega,show D.length+2*bs=D.length+X.length+Y.length by omega,g1];simp only[z8,zw,z6,Sum.inl.injEq,zb,and_true];omega;refine i6.trans ?_;simp only[zw];refine List.Perm.append_left D ?_;rw[<-zw X Y R'];exact g2.append_right R';exact⟨D,R,cQ (by simp only[rx];rw[if_neg Ω]),hn,by omega,hD,hR,List.Perm.refl _⟩
theorem xF7(hc:nq c)(f n:Nat)(hf:n<=2 ^ f):∀(k bs:Nat)(l:List α),n - bs<=k->0<bs->l.length=n->Bl c bs l->∃l',aB (qH c f n) (bs,l)=some l'/\l'.Perm l/\aH c l':=by intro k;induction k with|zero=>intro bs l hk q hl hB;exact⟨l,cQ (by simp only[qH];rw[if_neg Ω]),List.Perm.refl _,hB.short Ω⟩|succ k ih=>intro bs l hk q hl hB;by_cases h:bs<n;obtain⟨D,R,g1,g2,g3,g4,g5,g6⟩:=xC8 hc f bs n q hf l.length l [] (zd _) (by simp[hl]) .nil hB;simp only[List.length_nil,zH,zU]at g1 g6;by_cases h2:D.length+bs<n;obtain⟨X,Y,rfl,hX,sX,hY⟩:=g5.first Ω;simp only[z8]at g2 g3;have sY:=hY.short Ω;obtain⟨Z,i1,i2,i3⟩:=UX hc f D X Y [] (λ e=>by subst e;simp at hX;omega) (λ e=>by subst e;simp at *;omega) sX sY Ω;simp only[zD]at i1;have hZ:=i2.length_eq;simp only[z8]at hZ;obtain⟨l',j1,j2,j3⟩:=ih (bs*2) (D++Z) Ω Ω (by simp;omega) (by rw[Nat.mul_comm];exact g4.bl (.last Ω i3));refine⟨l',?_,j2.trans ((List.Perm.append_left D i2).trans g6),j3⟩;refine kP (s':=(bs*2,D++Z)) ?_ j1;simp only[qH,g1];rw[if_pos h,if_pos h2,show D.length+bs=D.length+X.length by omega,show n=D.length+X.length+Y.length by omega,i1];obtain⟨l',j1,j2,j3⟩:=ih (bs*2) (D++R) Ω Ω (by simp;omega) (by rw[Nat.mul_comm];exact g4.bl (.last Ω (g5.short Ω)));refine⟨l',?_,j2.trans g6,j3⟩;refine kP (s':=(bs*2,D++R)) ?_ j1;simp only[qH,g1];rw[if_pos h,if_neg h2];exact⟨l,cQ (by simp only[qH];rw[if_neg h]),List.Perm.refl _,hB.short Ω⟩
theorem xDW(hc:nq c)(f n:Nat)(hf:n<=2 ^ f)(l:List α)(hl:l.length=n):∃l',DM c f n l=some l'/\l'.Perm l/\aH c l':=by obtain⟨D,R,g1,g2,g3,g4,g5⟩:=xF6 hc n l.length l [] (zd _) (by simp[hl]) .nil;simp only[List.length_nil,zH,zU]at g1 g5;obtain⟨R',i1,i2,i3⟩:=xvi hc D R [];simp only[zD]at i1;have hR:=i2.length_eq;obtain⟨l',j1,j2,j3⟩:=xF7 hc f n hf n 20 (D++R') Ω Ω (by simp;omega) (g4.bl (.last Ω i3));refine⟨l',?_,j2.trans ((List.Perm.append_left D i2).trans g5),j3⟩;unfold DM;rw[g1];dsimp only;rw[show n=D.length+R.length by omega,i1,<-show n=D.length+R.length by omega];exact j1
end Go.Sim.Srt
end
noncomputable section
namespace Go.Sim.M
def K4{σ ρ:Type}{step:σ->Option (σ⊕ρ)}(I:σ->Prop)(μ:σ->Nat)(Q:ρ->Prop)(h:∀s,I s->(∃s',step s=some (.inl s')/\I s'/\μ s'<μ s)\/∃r,step s=some (.inr r)/\Q r):∀s,I s->∃r,aB step s=some r/\Q r:=by intro s;induction hn:μ s using Nat.strongRecOn generalizing s with|ind n ih=>intro hs;rcases h s hs with⟨s',h1,h2,h3⟩|⟨r,h1,h2⟩;obtain⟨r,k1,k2⟩:=ih (μ s') Ω s' rfl h2;exact⟨r,by rw[eH h1];exact k1,k2⟩;exact⟨r,cQ h1,h2⟩
abbrev aF:Type:=Int×Int
def pv(p:aF):Bool:=decide (0<=p.1)&&(decide (p.1<p.2)&&decide (p.2<=1099511627776))
def aG(p:aF)(t:Int):Bool:=pv p&&(decide (p.1<=t)&&decide (t<p.2))
def inL(l:List aF)(t:Int):Bool:=l.any (aG · t)
variable {p:aF}
def iF:pv p=true↔0<=p.1/\p.1<p.2/\p.2<=1099511627776:=by simp[pv]
variable {t:Int}
def jB:aG p t=true↔pv p/\p.1<=t/\t<p.2:=by simp[aG]
def pi{l:List aF}:inL l t=true↔∃p,p∈l/\pv p/\p.1<=t/\t<p.2:=by unfold inL;rw[List.any_eq_true];constructor;rintro⟨p,h1,h2⟩;exact⟨p,h1,jB.1 h2⟩;rintro⟨p,h1,h2⟩;exact⟨p,h1,jB.2 h2⟩
def LB{l:List aF}(h:inL l t):0<=t/\t<1099511627776:=by obtain⟨p,_,h2,h3,h4⟩:=pi.1 h;have:=iF.1 h2;omega
def yE(p:aF)(l:List aF)(t:Int):inL (p::l) t=(aG p t || inL l t):=rfl
def FR(a b:List aF)(t:Int):inL (a++b) t=(inL a t || inL b t):=by simp[inL]
def pQ(t:Int):inL [] t=false:=rfl
def bA(l:List aF):Prop:=(∀p,p∈l->pv p)/\l.Pairwise λ p q=>p.2<q.1
def Cq:bA []:=⟨λ p h=>(by cases h),List.Pairwise.nil⟩
variable {m:List aF}
def xzt{q:aF}{l:List aF}(hp:pv p)(hm:bA (q::m))(h:∀t,inL (p::l) t=inL (q::m) t):q.1<=p.1:=by have h0:=iF.1 hp;have h1:inL (p::l) p.1:=pi.2 ⟨p,List.mem_cons_self ..,hp,Int.le_refl _,h0.2.1⟩;rw[h]at h1;obtain⟨r,hr,_,h2,_⟩:=pi.1 h1;rcases zC.1 hr with rfl|hr;exact h2;have:=(zM.1 hm.2).1 r hr;have:=iF.1 (hm.1 q (List.mem_cons_self ..));omega
def xwG{q:aF}{l:List aF}(hl:bA (p::l))(hq:pv q)(he:p.1=q.1)(h:∀t,inL (p::l) t=inL (q::m) t):q.2<=p.2:=by rcases Int.lt_or_le p.2 q.2 with J|O;have h0:=iF.1 (hl.1 p (List.mem_cons_self ..));have h1:inL (q::m) p.2:=pi.2 ⟨q,List.mem_cons_self ..,hq,by omega,J⟩;rw[<-h]at h1;obtain⟨r,hr,_,h2,h3⟩:=pi.1 h1;rcases zC.1 hr with rfl|hr;omega;have:=(zM.1 hl.2).1 r hr;omega;exact O
def Sr{l:List aF}(hl:bA (p::l))(h:aG p t):inL l t=false:=by cases hc:inL l t with|false=>rfl|true=>obtain⟨r,hr,_,h2,_⟩:=pi.1 hc;have:=(zM.1 hl.2).1 r hr;have:=(jB.1 h).2;omega
def Ks:∀{l m:List aF},bA l->bA m->(∀t,inL l t=inL m t)->l=m|[],[],_,_,_=>rfl|[],q::m,_,hm,h=>by have hq:=hm.1 q (List.mem_cons_self ..);have:inL (q::m) q.1:=pi.2 ⟨q,List.mem_cons_self ..,hq,Int.le_refl _,(iF.1 hq).2.1⟩;rw[<-h]at this;cases this|p::l,[],hl,_,h=>by have hp:=hl.1 p (List.mem_cons_self ..);have:inL (p::l) p.1:=pi.2 ⟨p,List.mem_cons_self ..,hp,Int.le_refl _,(iF.1 hp).2.1⟩;rw[h]at this;cases this|p::l,q::m,hl,hm,h=>by have hp:=hl.1 p (List.mem_cons_self ..);have hq:=hm.1 q (List.mem_cons_self ..);have e1:p.1=q.1:=Int.le_antisymm (xzt hq hl λ t=>(h t).symm) (xzt hp hm h);have e2:p.2=q.2:=Int.le_antisymm (xwG hm hp e1.symm λ t=>(h t).symm) (xwG hl hq e1 h);have e:p=q:=Prod.ext e1 e2;subst e;have hl':bA l:=⟨λ r hr=>hl.1 r (List.mem_cons_of_mem _ hr),(zM.1 hl.2).2⟩;have hm':bA m:=⟨λ r hr=>hm.1 r (List.mem_cons_of_mem _ hr),(zM.1 hm.2).2⟩;rw[Ks hl' hm' λ t=>?_];cases hc:aG p t with|true=>rw[Sr hl hc,Sr hm hc]|false=>have:=h t;rwa [yE,yE,hc,Bool.false_or,Bool.false_or]at this
structure dq (out:List aF) (at':Int) (K:Int->Bool):Prop where
 span:bA out
 low:∀p,p∈out->p.2<=at'
 val:∀t,0<=t->t<at'->inL out t=K t
def Um(K:Int->Bool):dq [] 0 K:=⟨Cq,λ p h=>(by cases h),λ t h1 h2=>by omega⟩
variable {K:Int->Bool}{at':Int}
def dq.past{out:List aF}(h:dq out at' K)(ht:at'<=t):inL out t=false:=by cases hc:inL out t with|false=>rfl|true=>obtain⟨p,hp,_,h2,h3⟩:=pi.1 hc;have:=h.low p hp;omega
variable {nx:Int}
def dq.skip{out:List aF}(h:dq out at' K)(O:at'<=nx)(hK:∀t,at'<=t->t<nx->K t=false):dq out nx K:=
 ⟨h.span,fun p hp=>by have:=h.low p hp;omega,fun t h1 h2=>by
  rcases Int.lt_or_le t at' with J|q
  . exact h.val t h1 J
  . rw [h.past q,hK t q h2]⟩
def dq.add{out:List aF}(h:dq out at' K)(h0:0<=at')(J:at'<nx)(hF:nx<=1099511627776)(hK:∀t,at'<=t->t<nx->K t)(hne:∀p,p∈out->p.2≠at'):dq (out++[(at',nx)]) nx K:=by have hp:pv (at',nx):=iF.2 ⟨h0,J,hF⟩;refine⟨⟨λ p hm=>?_,?_⟩,λ p hm=>?_,λ t h1 h2=>?_⟩;rcases zG.1 hm with hm|hm;exact h.span.1 p hm;rw[zv.1 hm];exact hp;refine List.pairwise_append.2 ⟨h.span.2,List.pairwise_singleton ..,λ p hm q hq=>?_⟩;rw[zv.1 hq];have:=h.low p hm;have:=hne p hm;show p.2<at';omega;rcases zG.1 hm with hm|hm;have:=h.low p hm;omega;rw[zv.1 hm];exact Int.le_refl _;rw[FR,yE,pQ,Bool.or_false];rcases Int.lt_or_le t at' with hl|hg;(rw[h.val t h1 hl];have:aG (at',nx) t=false:=by cases hc:aG (at',nx) t with|false=>rfl|true=>have:=(jB.1 hc).2.1;simp only at this;omega);rw[this,Bool.or_false];rw[h.past hg,hK t hg h2,Bool.false_or];exact jB.2 ⟨hp,hg,h2⟩
def dq.ext{o:List aF}(h:dq (o++[p]) at' K)(he:p.2=at')(W:at'<nx)(hF:nx<=1099511627776)(hK:∀t,at'<=t->t<nx->K t):dq (o++[(p.1,nx)]) nx K:=by have V:=iF.1 (h.span.1 p (List.mem_append_right _ (zv.2 rfl)));have hp:pv (p.1,nx):=iF.2 ⟨V.1,by show p.1<nx;omega,hF⟩;obtain⟨Q,_,J⟩:=List.pairwise_append.1 h.span.2;refine⟨⟨λ q hm=>?_,?_⟩,λ q hm=>?_,λ t h1 h2=>?_⟩;rcases zG.1 hm with hm|hm;exact h.span.1 q (List.mem_append_left _ hm);rw[zv.1 hm];exact hp;refine List.pairwise_append.2 ⟨Q,List.pairwise_singleton ..,λ q hm r hr=>?_⟩;rw[zv.1 hr];exact J q hm p (zv.2 rfl);rcases zG.1 hm with hm|hm;have:=J q hm p (zv.2 rfl);omega;rw[zv.1 hm];exact Int.le_refl _;rcases Int.lt_or_le t at' with hl|hg;(rw[<-h.val t h1 hl,FR,FR,yE,yE,pQ];have:aG (p.1,nx) t=aG p t:=by have O:=h.span.1 p (List.mem_append_right _ (zv.2 rfl));unfold aG;rw[hp,O];have e1:decide (t<nx):=decide_eq_true Ω;have e2:decide (t<p.2):=decide_eq_true Ω;simp only[e1,e2]);rw[this];rw[hK t hg h2,FR,yE];have:aG (p.1,nx) t:=jB.2 ⟨hp,by show p.1<=t;omega,h2⟩;rw[this];simp
def dq.done{out:List aF}(h:dq out 1099511627776 K)(t:Int):inL out t=(decide (0<=t)&&(decide (t<1099511627776)&&K t)):=by by_cases h1:0<=t;by_cases h2:t<1099511627776;rw[h.val t h1 h2];simp[h1,h2];rw[h.past Ω];simp[h2];(have:inL out t=false:=by cases hc:inL out t with|false=>rfl|true=>have:=LB hc;omega);rw[this];simp[h1]
abbrev js:Type:=Int×Int×Int
def bT(x y:Int):List aF->List js|[]=>[]|p::l=>if pv p then(p.1,x,y)::(p.2,-x,-y)::bT x y l else bT x y l
def kC(g:js->Int)(t:Int):List js->Int|[]=>0|e::l=>(if e.1<=t then g e else 0)+kC g t l
def dx(g:js->Int):List js->Int|[]=>0|e::l=>g e+dx g l
def xuQ(g:js->Int):∀a b,dx g (a++b)=dx g a+dx g b|[],b=>by simp[dx]|e::a,b=>by simp only[List.cons_append,dx,xuQ g a b];omega
def Kk(g:js->Int)(t:Int):∀a b,kC g t (a++b)=kC g t a+kC g t b|[],b=>by simp[kC]|e::a,b=>by simp only[List.cons_append,kC,Kk g t a b];omega
def xzw(g:js->Int)(t:Int){a b:List js}(h:a.Perm b):kC g t a=kC g t b:=by induction h with|nil=>rfl|cons x _ ih=>simp only[kC,ih]|swap x y l=>simp only[kC];omega|trans _ _ h1 h2=>exact h1.trans h2
def UU(g:js->Int)(t:Int):∀l:List js,(∀e,e∈l->e.1<=t)->kC g t l=dx g l|[],_=>rfl|e::l,h=>by simp only[kC,dx,if_pos (h e (List.mem_cons_self ..)),UU g t l λ x hx=>h x (List.mem_cons_of_mem _ hx)]
def xzv(g:js->Int)(t:Int):∀l:List js,(∀e,e∈l->t<e.1)->kC g t l=0|[],_=>rfl|e::l,h=>by have:=h e (List.mem_cons_self ..);simp only[kC,if_neg (by omega:¬ e.1<=t),xzv g t l λ x hx=>h x (List.mem_cons_of_mem _ hx)];rfl
def km(l:List aF)(t:Int):Int:=((l.filter (aG · t)).length:Nat)
def UN(l:List aF)(t:Int):decide (km l t>0)=inL l t:=by(unfold km;have h2:(l.filter (aG · t)).length=0↔inL l t=false:=by rw[List.length_eq_zero_iff,List.filter_eq_nil_iff];unfold inL;rw[List.any_eq_false]);cases hc:inL l t with|false=>have:=h2.2 hc;exact decide_eq_false Ω|true=>(have:(l.filter (aG · t)).length≠0:=λ h=>by rw[h2.1 h]at hc;cases hc);exact decide_eq_true Ω
def Sm(t:Int):∀l:List aF,kC (λ e=>e.2.1) t (bT 1 0 l)=km l t
 |[]=>rfl
 |p::l=>by
  have ih:=Sm t l;unfold bT;by_cases hp:pv p=true
  . rw[if_pos hp];have hp':=iF.1 hp;simp only[kC,ih];unfold km;by_cases h1:p.1<=t
    . by_cases h2:p.2<=t
      . have:aG p t=false:=by
         cases hc:aG p t with
         |false=>rfl
         |true=>have:=(jB.1 hc).2.2;omega
        simp[h1,h2,this];omega
      . have:aG p t=true:=jB.2 ⟨hp,h1,by omega⟩
        simp[h1,h2,this];omega
    . have:aG p t=false:=by
       cases hc:aG p t with
       |false=>rfl
       |true=>have:=(jB.1 hc).2.1;omega
      have h2:¬ p.2<=t:=by omega
      simp[h1,h2,this]
  . rw[if_neg hp,ih];have:aG p t=false:=by
     cases hc:aG p t with
     |false=>rfl
     |true=>exact absurd (jB.1 hc).1 hp
    unfold km;simp[this]
def xwL(t:Int):∀l:List aF,kC (λ e=>e.2.2) t (bT 1 0 l)=0|[]=>rfl|p::l=>by have ih:=xwL t l;unfold bT;split;simp only[kC,ih];split<;>split<;>rfl;exact ih
def xzz(t:Int):∀l:List aF,kC (λ e=>e.2.2) t (bT 0 1 l)=km l t
 |[]=>rfl
 |p::l=>by
  have ih:=xzz t l;have e1:=Sm t [p];unfold bT at e1|-;by_cases hp:pv p=true
  . rw[if_pos hp]at e1|-;simp only[kC,bT,Int.add_zero]at e1|-;rw[ih];have:km (p::l) t=km [p] t+km l t:=by
     unfold km;rw[show p::l=[p]++l from rfl,List.filter_append,z8];omega
    rw[this,<-e1];omega
  . rw[if_neg hp,ih];have:aG p t=false:=by
     cases hc:aG p t with
     |false=>rfl
     |true=>exact absurd (jB.1 hc).1 hp
    unfold km;simp[this]
def xwM(t:Int):∀l:List aF,kC (λ e=>e.2.1) t (bT 0 1 l)=0|[]=>rfl|p::l=>by have ih:=xwM t l;unfold bT;split;simp only[kC,ih];split<;>split<;>rfl;exact ih
def Cw(x y:Int):∀l:List aF,∀e,e∈bT x y l->0<=e.1/\e.1<=1099511627776|[],e,h=>by cases h|p::l,e,h=>by unfold bT at h;split at h;rename_i hp;have:=iF.1 hp;rcases zC.1 h with rfl|h;show 0<=p.1/\p.1<=_;omega;rcases zC.1 h with rfl|h;show 0<=p.2/\p.2<=_;omega;exact Cw x y l e h;exact Cw x y l e h
def yA(x y:Int):∀l:List aF,(bT x y l).length<=2*l.length|[]=>by simp[bT]|p::l=>by have:=yA x y l;unfold bT;split<;>simp only[zF]<;>omega
end Go.Sim.M
end
noncomputable section
set_option maxRecDepth 100000
namespace Go.Sim.M
open Go.RowKit Go.Sim.Srt
theorem UI:∀a b:List UInt8,Lib.compareBytes a b=-1\/Lib.compareBytes a b=0\/Lib.compareBytes a b=1|[],[]=>by simp[Lib.compareBytes]|[],_::_=>by simp[Lib.compareBytes]|_::_,[]=>by simp[Lib.compareBytes]|x::a,y::b=>by unfold Lib.compareBytes;split;simp;split;simp;exact UI a b
theorem Wm:∀a b:List UInt8,Lib.compareBytes b a=-(Lib.compareBytes a b)|[],[]=>by simp[Lib.compareBytes]|[],_::_=>by simp[Lib.compareBytes]|_::_,[]=>by simp[Lib.compareBytes]|x::a,y::b=>by unfold Lib.compareBytes;have ih:=Wm a b;by_cases h1:x<y;have h2:¬ y<x:=λ h=>absurd (UInt8.lt_trans h1 h) (UInt8.lt_irrefl x);simp[h1,h2];by_cases h2:y<x;simp[h1,h2];simp[h1,h2,ih]
theorem NY:∀a b:List UInt8,Lib.compareBytes a b=0↔a=b
 |[],[]=>by simp[Lib.compareBytes]
 |[],_::_=>by simp[Lib.compareBytes]
 |_::_,[]=>by simp[Lib.compareBytes]
 |x::a,y::b=>by
  unfold Lib.compareBytes;have ih:=NY a b;by_cases h1:x<y
  . have:x≠y:=λ e=>by subst e;exact UInt8.lt_irrefl x h1
    simp[h1,this]
  . by_cases h2:y<x
    . have:x≠y:=λ e=>by subst e;exact UInt8.lt_irrefl x h2
      simp[h1,h2,this]
    . have:x=y:=UInt8.le_antisymm (UInt8.not_lt.1 h2) (UInt8.not_lt.1 h1);simp[h1,h2,this,ih]
theorem UJ:∀a b c:List UInt8,Lib.compareBytes a b<=0->Lib.compareBytes b c<=0->Lib.compareBytes a c<=0|[],_,[],_,_=>by simp[Lib.compareBytes]|[],_,_::_,_,_=>by simp[Lib.compareBytes]|_::_,[],_,h,_=>by simp[Lib.compareBytes]at h|_::_,_::_,[],_,h=>by simp[Lib.compareBytes]at h|x::a,y::b,z::c,h1,h2=>by unfold Lib.compareBytes at h1 h2|-;have ih:=UJ a b c;by_cases p1:x<y;by_cases p2:y<z;simp[UInt8.lt_trans p1 p2];by_cases p3:z<y;simp[p2,p3]at h2;have:y=z:=UInt8.le_antisymm (UInt8.not_lt.1 p3) (UInt8.not_lt.1 p2);subst this;simp[p1];by_cases q1:y<x;simp[p1,q1]at h1;have:x=y:=UInt8.le_antisymm (UInt8.not_lt.1 q1) (UInt8.not_lt.1 p1);subst this;simp only[p1,if_false]at h1;by_cases p2:x<z;simp[p2];by_cases p3:z<x;simp[p2,p3]at h2;simp only[p2,p3,if_false]at h2|-;exact ih h1 h2
theorem xJ8(a b:List UInt8):Op.bytesLess a b=decide (Lib.compareBytes a b<0):=by induction a generalizing b with|nil=>cases b<;>simp[Op.bytesLess,Lib.compareBytes]|cons x a ih=>cases b with|nil=>simp[Op.bytesLess,Lib.compareBytes]|cons y b=>unfold Op.bytesLess Lib.compareBytes;by_cases h1:x<y;simp[h1];by_cases h2:y<x;(have:x≠y:=λ e=>by subst e;exact UInt8.lt_irrefl x h2);simp[h1,h2,this];have:x=y:=UInt8.le_antisymm (UInt8.not_lt.1 h2) (UInt8.not_lt.1 h1);simp[h1,h2,this,ih]
theorem XN(x y:Int):pI x y=if x<y then -1 else if x>y then 1 else 0:=by(unfold pI rZ;have e:(x !=x)=false:=by simp);(have f:(y !=y)=false:=by simp);rw[e,f];simp only[dY,bE,zl,zT,if_false,aI]
theorem xMK(p q r:Int):yK p q r=if p≠0 then p else if q≠0 then q else r:=by unfold yK;simp only[dY,bne_iff_ne,aI];split;rfl;split;rfl;split;rfl;rename_i h;simpa using(Classical.not_not.1 h).symm
section
variable(ak ai bk bi ck ci:Int)(at' bt ct:List UInt8)
theorem DK:oD ak ai at' bk bi bt=if ak<bk then -1 else if ak>bk then 1 else if ai<bi then -1 else if ai>bi then 1 else Lib.compareBytes at' bt:=by unfold oD;rw[xMK,XN,XN];by_cases h1:ak<bk;simp[h1];by_cases h2:ak>bk;simp[h1,h2];by_cases h3:ai<bi;simp[h1,h2,h3];by_cases h4:ai>bi<;>simp[h1,h2,h3,h4]
theorem xN2:oD ak ai at' bk bi bt=Cc ak ai at' bk bi bt:=by
 rw[DK];unfold Cc vq;rw[xJ8];simp only[dY,zl,bne_iff_ne,aI];by_cases h1:ak<bk;have:ak≠bk:=Ω
 simp[h1,this];by_cases h2:ak>bk;have:ak≠bk:=Ω
 simp[h1,h2,this];have:ak=bk:=Ω
 subst this;by_cases h3:ai<bi;have:ai≠bi:=Ω
 simp[h3,this];by_cases h4:ai>bi;have:ai≠bi:=Ω
 simp[h3,h4,this];have:ai=bi:=Ω
 subst this;have he:=NY at' bt;rcases UI at' bt with h|h|h;have hne:at'≠bt:=λ e=>by rw[he.2 e]at h;simp at h
 simp[h,hne];have:=he.1 h;subst this;simp[h];have hne:at'≠bt:=λ e=>by rw[he.2 e]at h;simp at h
 simp[h,hne]
theorem xM4:oD bk bi bt ak ai at'=-(oD ak ai at' bk bi bt):=by
 rw[DK,DK,Wm at' bt];by_cases h1:ak<bk;have:¬ bk<ak:=Ω
 simp[h1,this];by_cases h2:bk<ak;simp[h1,h2];by_cases h3:ai<bi;have:¬ bi<ai:=Ω
 simp[h1,h2,h3,this];by_cases h4:bi<ai<;>simp[h1,h2,h3,h4]
theorem xM5:oD ak ai at' bk bi bt=0↔ak=bk/\ai=bi/\at'=bt:=by
 rw[DK];by_cases h1:ak<bk;have:ak≠bk:=Ω
 simp[h1,this];by_cases h2:ak>bk;have:ak≠bk:=Ω
 simp[h1,h2,this];have e:ak=bk:=Ω
 by_cases h3:ai<bi;have:ai≠bi:=Ω
 simp[h1,h2,h3,this];by_cases h4:ai>bi;have:ai≠bi:=Ω
 simp[h1,h2,h3,h4,this];have f:ai=bi:=Ω
 simp[h1,h2,h3,h4,e,f,NY]
theorem xOl:oD ak ai at' bk bi bt<=0↔ak<bk\/(ak=bk/\(ai<bi\/(ai=bi/\Lib.compareBytes at' bt<=0))):=by
 rw[DK];by_cases h1:ak<bk;simp[h1];by_cases h2:ak>bk;have:ak≠bk:=Ω
 simp[h1,h2,this];have e:ak=bk:=Ω
 by_cases h3:ai<bi;simp[h1,h2,h3,e];by_cases h4:ai>bi;have:ai≠bi:=Ω
 simp[h1,h2,h3,h4,this];have f:ai=bi:=Ω
 simp[h1,h2,h3,h4,e,f]
theorem xK9(h1:oD ak ai at' bk bi bt<=0)(h2:oD bk bi bt ck ci ct<=0):oD ak ai at' ck ci ct<=0:=by rw[xOl]at h1 h2|-;rcases h1 with h1|⟨e1,h1⟩;rcases h2 with h2|⟨e2,h2⟩<;>exact .inl Ω;rcases h2 with h2|⟨e2,h2⟩;exact .inl Ω;refine .inr ⟨by omega,?_⟩;rcases h1 with h1|⟨f1,h1⟩;rcases h2 with h2|⟨f2,h2⟩<;>exact .inl Ω;rcases h2 with h2|⟨f2,h2⟩;exact .inl Ω;exact .inr ⟨by omega,UJ _ _ _ h1 h2⟩
end
structure Val where
 k:Int
 i:Int
 t:List UInt8
deriving DecidableEq
instance:Inhabited Val:=⟨⟨0,0,[]⟩⟩
def encV(v:Val):AV:=.agg [.int .i64 v.k,.int .i64 v.i,.str v.t]
def Val.wf(v:Val):Prop:=(Lit.int .i64 v.k).wf/\(Lit.int .i64 v.i).wf/\v.t.length<=maxLen
abbrev Row:=List Val
def encR(r:Row):AV:=.list 3 (r.map encV)
def Row.wf(r:Row):Prop:=r.length<=maxLen/\∀v,v∈r->v.wf
@[simp] theorem FP(v:Val):(encV v).cells=[.int .i64 v.k,.int .i64 v.i,.str v.t]:=rfl
@[simp] theorem Gm(v:Val):ew [Sh.int .i64,Sh.int .i64,Sh.str] [.int .i64 v.k,.int .i64 v.i,.str v.t] 0=true:=rfl
theorem cH{α:Type}(e:α->AV)(l:List α)(n:Nat)(h:n<l.length):(l.map e).getD n .top=e l[n]:=by simp[List.getD,h]
variable {n:Nat}
theorem tM(h:n+1<=maxLen):IntKind.i64.wrap ((n:Int)+1)=((n+1:Nat):Int):=by unfold maxLen at h;rw[gx Ω Ω];omega
theorem jr{α:Type}{l:List α}(h:n<l.length):l.drop n=l[n]::l.drop (n+1):=List.drop_eq_getElem_cons h
def eW(a b:Val):Int:=oD a.k a.i a.t b.k b.i b.t
theorem UK(a b:Val):Cc a.k a.i a.t b.k b.i b.t=eW a b:=(xN2 ..).symm
theorem UL(a b:Val):oD a.k a.i a.t b.k b.i b.t=eW a b:=rfl
def pw:Row->Row->Bool×Int×Unit|[],_=>(false,0,())|_::_,[]=>(true,1,())|a::ra,b::rb=>if eW a b≠0 then(true,eW a b,())else pw ra rb
theorem Wn(ra rb:Row)(hl:ra.length<=maxLen):∀(k n:Nat),n+k=ra.length->aB (sT (ra.map encV) (rb.map encV) (ra.map encV) ((ra.length:Nat):Int)) (n:Int)=some (pw (ra.drop n) (rb.drop n))
 |0,n,hk=>by
  rw[zq (by omega:ra.length<=n)]
  refine cQ ?_;have h0:¬ ((n:Int)<(ra.length:Int)):=by omega
  simp only[sT,Au,AB,dY,h0,zm,zT,if_false,pw,aI]
 |k+1,n,hk=>by
  have h1:n<ra.length:=by omega
  have h1':(n:Int)<(ra.length:Int):=by omega
  rw[jr h1];by_cases h2:n<rb.length
  . rw[jr h2];have h2':¬ ((n:Int)>=(rb.length:Int)):=by omega
    have h2'':(n:Int)<(rb.length:Int):=by omega
    by_cases h3:eW ra[n] rb[n]=0
    . rw[eH (s':=((n+1:Nat):Int)) ?_,Wn ra rb hl k (n+1) (by omega)]
      . simp[pw,h3]
      . simp only[sT,Au,AB,dY,h1',h2',h2'',za,zn,zN,cH encV _ _ h1,cH encV _ _ h2,FP,Gm,aI];simp[h1,h2,UL,AV.toInt,AV.toStr,h3,tM (show n+1<=maxLen by omega)]
    . refine cQ ?_;simp only[sT,Au,AB,dY,h1',h2',h2'',za,zn,zN,cH encV _ _ h1,cH encV _ _ h2,FP,Gm,aI];simp[h1,h2,UL,AV.toInt,AV.toStr,h3,pw]
  . rw[zq (by omega:rb.length<=n)]
    have h2':(n:Int)>=(rb.length:Int):=by omega
    refine cQ ?_;simp only[sT,Au,AB,dY,h1',h2',za,zn,zN,cH encV _ _ h1,FP,Gm,aI];simp[h1,pw]
def aK:Row->Row->Int|[],[]=>0|[],_::_=>-1|_::_,[]=>1|a::ra,b::rb=>if eW a b≠0 then eW a b else aK ra rb
theorem xLU(ra rb:Row):br (pw ra rb).1 (pw ra rb).2.1 (br (decide ((ra.length:Int)<(rb.length:Int))) (-1:Int) 0)=aK ra rb:=by induction ra generalizing rb with|nil=>cases rb<;>simp[pw,aK,dY,aI]|cons a ra ih=>cases rb with|nil=>simp[pw,aK,dY,aI]|cons b rb=>unfold pw aK;split;simp[dY,aI];simpa using ih rb
theorem xIb(ra rb:Row)(hl:ra.length<=maxLen):J4 (ra.map encV) (rb.map encV)=some (aK ra rb):=by have h:=Wn ra rb hl ra.length 0 Ω;simp only[zr]at h;unfold J4 Qy O7 OI;rw[za,za,show ((0:Int))=((0:Nat):Int) from rfl,h,<-xLU ra rb];generalize pw ra rb=p;obtain⟨a,b,_⟩:=p;cases a<;>by_cases h1:((ra.length:Int)<(rb.length:Int))<;>simp[h1,dY,aI]
def px:Row->Row->Bool×Int×Unit|a::ra,b::rb=>if eW a b≠0 then(true,eW a b,())else px ra rb|_,_=>(false,0,())
theorem V7(ra rb:Row)(hl:ra.length<=maxLen):∀(k n:Nat),n+k=ra.length->aB (s7 (ra.map encV) (rb.map encV)) (n:Int)=some (px (ra.drop n) (rb.drop n))
 |0,n,hk=>by
  rw[zq (by omega:ra.length<=n)]
  refine cQ ?_;have h0:¬ ((n:Int)<(ra.length:Int)):=by omega
  simp only[s7,AH,AP,dY,za,h0,zm,zT,if_false,px,aI]
 |k+1,n,hk=>by
  have h1:n<ra.length:=by omega
  have h1':(n:Int)<(ra.length:Int):=by omega
  rw[jr h1];by_cases h2:n<rb.length
  . rw[jr h2];have h2'':(n:Int)<(rb.length:Int):=by omega
    by_cases h3:eW ra[n] rb[n]=0
    . rw[eH (s':=((n+1:Nat):Int)) ?_,V7 ra rb hl k (n+1) (by omega)]
      . simp[px,h3]
      . simp only[s7,AH,AP,dY,za,h1',h2'',zn,zN,cH encV _ _ h1,cH encV _ _ h2,FP,Gm,aI];simp[h1,h2,UK,AV.toInt,AV.toStr,h3,tM (show n+1<=maxLen by omega)]
    . refine cQ ?_;simp only[s7,AH,AP,dY,za,h1',h2'',zn,zN,cH encV _ _ h1,cH encV _ _ h2,FP,Gm,aI];simp[h1,h2,UK,AV.toInt,AV.toStr,h3,px]
  . rw[zq (by omega:rb.length<=n)]
    have h2':¬ ((n:Int)<(rb.length:Int)):=by omega
    refine cQ ?_;simp only[s7,AH,AP,dY,za,h1',h2',zn,zm,aI];simp[px]
theorem xMV(ra rb:Row):br (px ra rb).1 (px ra rb).2.1 (br (decide ((ra.length:Int)<(rb.length:Int))) (-1:Int) (br (decide ((ra.length:Int)>(rb.length:Int))) 1 0))=aK ra rb:=by induction ra generalizing rb with|nil=>cases rb<;>simp[px,aK,dY,aI]|cons a ra ih=>cases rb with|nil=>(have:¬ ((ra.length:Int)+1<0):=Ω);(have h2:(0:Int)<(ra.length:Int)+1:=Ω);simp[px,aK,dY,this,h2,aI]|cons b rb=>unfold px aK;split;simp[dY,aI];simpa using ih rb
theorem yI(ra rb:Row)(hl:ra.length<=maxLen):ni (ra.map encV) (rb.map encV)=some (aK ra rb):=by have h:=V7 ra rb hl ra.length 0 Ω;simp only[zr]at h;unfold ni PK;rw[za,za,show ((0:Int))=((0:Nat):Int) from rfl,h,<-xMV ra rb];generalize px ra rb=p;obtain⟨a,b,_⟩:=p;cases a<;>by_cases h1:((ra.length:Int)<(rb.length:Int))<;>by_cases h2:((ra.length:Int)>(rb.length:Int))<;>simp[h1,h2,dY,aI]
theorem Gz(ra rb:Row)(hl:ra.length<=maxLen):vj (ra.map encV) (rb.map encV)=some (aK ra rb==0):=by unfold vj QN;rw[yI ra rb hl];rfl
def aA(p:aF):AV:=.agg [.int .i64 p.1,.int .i64 p.2]
structure Cm {α:Type} (f:α->α->Int):Prop where
 swap:∀x y,f y x=-(f x y)
 trans:∀x y z,f x y<=0->f y z<=0->f x z<=0
theorem Cm.ord{α:Type}{f:α->α->Int}(h:Cm f):nq f:=⟨λ x y=>by rw[h.swap x y];omega,h.trans⟩
theorem Cm.lt1{α:Type}{f:α->α->Int}(h:Cm f){x y z:α}(h1:f x y<0)(h2:f y z<=0):f x z<0:=by have h3:=h.trans x y z Ω h2;have h4:=h.swap x z;have h5:=h.swap x y;refine Classical.byContradiction λ hn=>?_;have:=h.trans y z x h2 Ω;omega
theorem Cm.lt2{α:Type}{f:α->α->Int}(h:Cm f){x y z:α}(h1:f x y<=0)(h2:f y z<0):f x z<0:=by have h3:=h.trans x y z h1 Ω;have h4:=h.swap x z;have h5:=h.swap y z;refine Classical.byContradiction λ hn=>?_;have:=h.trans z x y Ω h1;omega
theorem Cm.neg {α:Type} {f:α->α->Int} (h:Cm f):Cm fun x y=>-(f x y):=⟨fun x y=>by rw [h.swap x y],fun x y z h1 h2=>by
 have:=h.trans z y x (by have:=h.swap y z;omega) (by have:=h.swap x y;omega)
 have:=h.swap x z;omega⟩
theorem Cm.on{α β:Type}{f:β->β->Int}(h:Cm f)(e:α->β):Cm λ x y=>f (e x) (e y):=⟨λ x y=>h.swap _ _,λ x y z=>h.trans _ _ _⟩
theorem XW:Cm eW:=⟨λ x y=>xM4 ..,λ x y z h1 h2=>xK9 _ _ _ _ _ _ _ _ _ h1 h2⟩
theorem xGV{x y:Val}(h:eW x y=0):x=y:=by obtain⟨h1,h2,h3⟩:=(xM5 ..).1 h;cases x;cases y;simp_all
theorem Sx:∀x y:Row,aK y x=-(aK x y)
 |[],[]=>by simp[aK]
 |[],_::_=>by simp[aK]
 |_::_,[]=>by simp[aK]
 |a::x,b::y=>by
  have h1:=XW.swap a b;have h2:=Sx x y;unfold aK;by_cases h:eW a b=0
  . have:eW b a=0:=by omega
    simp[h,this,h2]
  . have:eW b a≠0:=by omega
    simp[h,this,h1]
theorem xyF:∀x y z:Row,aK x y<=0->aK y z<=0->aK x z<=0
 |[],_,[],_,_=>by simp[aK]
 |[],_,_::_,_,_=>by simp[aK]
 |_::_,[],_,h,_=>by simp[aK]at h
 |_::_,_::_,[],_,h=>by simp[aK]at h
 |a::x,b::y,c::z,h1,h2=>by
  unfold aK at h1 h2|-;have ih:=xyF x y z;have hf:=XW;by_cases p:eW a b=0<;>by_cases q:eW b c=0<;>simp only[p,q,ne_eq,not_true,not_false_iff,if_true,if_false]at h1 h2
  . have c1:eW a c<=0:=hf.trans a b c (by omega) (by omega)
    have c2:eW c a<=0:=hf.trans c b a (by have:=hf.swap b c;omega) (by have:=hf.swap a b;omega)
    have:eW a c=0:=by have:=hf.swap a c;omega
    simp only[this,ne_eq,not_true,if_false];exact ih h1 h2
  . have:=hf.lt2 (x:=a) (y:=b) (z:=c) (by omega) (by omega)
    have h0:eW a c≠0:=by omega
    simp only[ne_eq,h0,not_false_iff,if_true];omega
  . have:=hf.lt1 (x:=a) (y:=b) (z:=c) (by omega) (by omega)
    have h0:eW a c≠0:=by omega
    simp only[ne_eq,h0,not_false_iff,if_true];omega
  . have:=hf.lt1 (x:=a) (y:=b) (z:=c) (by omega) (by omega)
    have h0:eW a c≠0:=by omega
    simp only[ne_eq,h0,not_false_iff,if_true];omega
theorem mj:Cm aK:=⟨Sx,xyF⟩
theorem tH:∀{x y:Row},aK x y=0->x=y|[],[],_=>rfl|[],_::_,h=>by simp[aK]at h|_::_,[],h=>by simp[aK]at h|a::x,b::y,h=>by unfold aK at h;by_cases p:eW a b=0;simp only[p,ne_eq,not_true,if_false]at h;rw[xGV p,tH h];simp[p]at h
theorem vw(x:Row):aK x x=0:=by have:=Sx x x;omega
theorem Kw{α:Type}{c:α->α->Int}(hc:Cm c)(h0:∀x y,c x y=0->x=y):∀{l l':List α},l.Perm l'->aH c l->aH c l'->l=l'|[],l',hp,_,_=>by simpa using hp.symm.eq_nil|x::l,[],hp,_,_=>by simpa using hp.eq_nil|x::l,y::l',hp,h1,h2=>by(have q:x=y:=by obtain⟨a1,a2⟩:=zM.1 h1;obtain⟨b1,b2⟩:=zM.1 h2;have hx:x∈y::l':=hp.mem_iff.1 Ψ;have hy:y∈x::l:=hp.mem_iff.2 Ψ;rcases zC.1 hx with h|h;exact h;rcases zC.1 hy with h'|h';exact h'.symm;have:=a1 y h';have:=b1 x h;have:=hc.swap x y;exact h0 x y Ω);subst q;rw[Kw hc h0 ((List.perm_cons _).1 hp) (zM.1 h1).2 (zM.1 h2).2]
end Go.Sim.M
end
noncomputable section
set_option maxRecDepth 100000
namespace Go.Sim.M
open Go.RowKit Go.Sim.Srt
def r6{σ ρ:Type}{step:σ->Option (σ⊕ρ)}(st:Nat->σ)(n:Nat)(r:ρ)(hs:∀k,k<n->step (st k)=some (.inl (st (k+1))))(he:step (st n)=some (.inr r)):∀d k,k+d=n->aB step (st k)=some r|0,k,h=>by(have:k=n:=Ω);subst this;exact cQ he|d+1,k,h=>by rw[eH (hs k Ω)];exact r6 st n r hs he d (k+1) Ω
def Ub{σ ρ α β:Type}{step:σ->Option (σ⊕ρ)}(l:List α)(f:β->α->β)(st:Nat->β->σ)(I:Nat->β->Prop){r:ρ}(hs:∀(n:Nat)(h:n<l.length)(b:β),I n b->step (st n b)=some (.inl (st (n+1) (f b l[n])))/\I (n+1) (f b l[n])):∀(d n:Nat)(b:β),n+d=l.length->I n b->step (st l.length ((l.drop n).foldl f b))=some (.inr r)->aB step (st n b)=some r|0,n,b,h,hi,he=>by(have:n=l.length:=Ω);subst this;rw[zq (zd _)]at he;exact cQ he|d+1,n,b,h,hi,he=>by(have hn:n<l.length:=Ω);obtain⟨h1,h2⟩:=hs n hn b hi;rw[eH h1];rw[jr hn]at he;exact Ub l f st I hs d (n+1) (f b l[n]) Ω h2 he
def vE{α β:Type}{step:Nat×Int×List AV->Option ((Nat×Int×List AV)⊕(Nat×List AV))}(l:List α)(g:α->List β)(eb:β->AV)(c:Nat)(hc:∀a,a∈l->(g a).length<=c)(hs:∀(n:Nat)(h:n<l.length)(D:List β),D.length<=c*n->step (D.length,(n:Int),D.map eb)=some (.inl ((D++g l[n]).length,((n+1:Nat):Int),(D++g l[n]).map eb)))(he:∀D:List β,step (D.length,(l.length:Int),D.map eb)=some (.inr (D.length,D.map eb))):aB step ((0:Nat),(0:Int),[])=some ((l.flatMap g).length,(l.flatMap g).map eb):=by(have key:∀(d n:Nat)(D:List β),n+d=l.length->D.length<=c*n->aB step (D.length,(n:Int),D.map eb)=some ((D++(l.drop n).flatMap g).length,(D++(l.drop n).flatMap g).map eb):=by intro d;induction d with|zero=>(intro n D h hD;have:n=l.length:=Ω);subst this;rw[zq (zd _),List.flatMap_nil,zD];exact cQ (he D)|succ d ih=>(intro n D h hD;have hn:n<l.length:=Ω);(have h2:(D++g l[n]).length<=c*(n+1):=by rw[z8,Nat.mul_add,Nat.mul_one];have:=hc l[n] (zo hn);omega);rw[eH (hs n hn D hD),ih (n+1) (D++g l[n]) Ω h2,jr hn,zR,zw]);have:=key l.length 0 [] Ω Ψ;simpa using this
def vJ{α β:Type}{g:α->List β}{c:Nat}:∀(l:List α),(∀a,a∈l->(g a).length<=c)->(l.flatMap g).length<=c*l.length|[],_=>by simp|a::l,h=>by have h1:=h a Ψ;have h2:=vJ l λ b hb=>h b (by simp[hb]);rw[zR,z8,zF,Nat.mul_add,Nat.mul_one];omega
def N8{α β:Type}(f:α->β):∀l:List α,(l.flatMap λ a=>[f a])=l.map f|[]=>rfl|a::l=>by rw[zR,N8 f l];rfl
def WT{α:Type}(o:Option α)(d:α):br o.isSome (some (o.getD d)) none=o:=by cases o<;>rfl
def dN{n:Nat}(h:n+1<=4611686018427387904):IntKind.i64.wrap ((n:Int)+1)=((n+1:Nat):Int):=by rw[gx Ω Ω];omega
structure Fc where
 r:Row
 p:aF
def encF(f:Fc):AV:=.agg [.list 3 (f.r.map encV),.int .i64 f.p.1,.int .i64 f.p.2]
def encN(n:Int):AV:=.int .i64 n
abbrev gG:=aF×Int
def dO(c:gG):AV:=.agg [.int .i64 c.1.1,.int .i64 c.1.2,.int .i64 c.2]
def mV(f:Fc):((encF f).cells.getD 0 .top).toList=f.r.map encV:=rfl
def mW(f:Fc):((encF f).cells.getD 1 .top).toInt=f.p.1:=rfl
def mX(f:Fc):((encF f).cells.getD 2 .top).toInt=f.p.2:=rfl
def m7(f:Fc):dw (Sh.list 3) ((encF f).cells.getD 0 .top):=rfl
def m8(f:Fc):dw (Sh.int .i64) ((encF f).cells.getD 1 .top):=rfl
def m9(f:Fc):dw (Sh.int .i64) ((encF f).cells.getD 2 .top):=rfl
def lF(f:Fc):((encF f).cells.length==3):=rfl
def im(f:Fc):ew [Sh.int .i64,Sh.int .i64] (encF f).cells 1:=rfl
def il(f:Fc):ew [Sh.list 3,Sh.int .i64,Sh.int .i64] (encF f).cells 0:=rfl
def iq(p:aF):((aA p).cells.getD 0 .top).toInt=p.1:=rfl
def ir(p:aF):((aA p).cells.getD 1 .top).toInt=p.2:=rfl
def lP(p:aF):((aA p).cells.length==2):=rfl
def sP(p:aF):ew [Sh.int .i64,Sh.int .i64] (aA p).cells 0:=rfl
def iB(p:aF):dw (Sh.int .i64) ((aA p).cells.getD 0 .top):=rfl
def iC(p:aF):dw (Sh.int .i64) ((aA p).cells.getD 1 .top):=rfl
def cN(n:Int):((encN n).cells.getD 0 .top).toInt=n:=rfl
def sN(n:Int):dw (Sh.int .i64) ((encN n).cells.getD 0 .top):=rfl
def L3(c:gG):((dO c).cells.getD 0 .top).toInt=c.1.1:=rfl
def L4(c:gG):((dO c).cells.getD 1 .top).toInt=c.1.2:=rfl
def L5(c:gG):((dO c).cells.getD 2 .top).toInt=c.2:=rfl
def sC0(c:gG):dw (Sh.int .i64) ((dO c).cells.getD 0 .top):=rfl
def sC1(c:gG):dw (Sh.int .i64) ((dO c).cells.getD 1 .top):=rfl
def lC(c:gG):((dO c).cells.length==3):=rfl
def sC(c:gG):ew [Sh.int .i64,Sh.int .i64] (dO c).cells 0:=rfl
def Nh(c:gG):ew [Sh.int .i64,Sh.int .i64,Sh.int .i64] (dO c).cells 0:=rfl
def Ng(c:gG):dw (Sh.int .i64) ((dO c).cells.getD 2 .top):=rfl
def kV(x:Row):((encR x).cells.getD 0 .top).toList=x.map encV:=rfl
def lc(x:Row):dw (Sh.list 3) ((encR x).cells.getD 0 .top):=rfl
def CB(p:aF):yo p.1 p.2=pv p:=by unfold yo pv;by_cases h1:0<=p.1<;>by_cases h2:p.1<p.2<;>simp[h1,h2,dY,aI]
def CD(p:aF):vh p.1 p.2=pv p:=by unfold vh pv;by_cases h1:0<=p.1<;>by_cases h2:p.1<p.2<;>simp[h1,h2,dY,aI]
def Vk(p:aF)(t:Int):ET p.1 p.2 t=aG p t:=by unfold ET aG;rw[CD];by_cases h1:p.1<=t<;>cases pv p<;>simp[h1,dY,aI]
end Go.Sim.M
end
