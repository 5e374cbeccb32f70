/- Part 16 of the proof of the law. -/
import Derived.Test.YtodofdnlhoknhaaGreatDoorTD15
import Derived.ProofKit
import Derived.OpenShut
import Derived.Carry
import Derived.Deep.Slices
set_option linter.defProp false
set_option linter.unusedVariables false
set_option linter.unusedSimpArgs false
noncomputable section
namespace Go.Sim
open Go.RowKit Go.ChangeShapes Go.WideShapes Go.ChangeAt
inductive Ty where|int (k:IntKind)|bool|str|slice (es:List Ty)
def xLK(P:Program)(f:TypeId->Option (List Ty)):Nat->List Field->Option (List Ty)|_,[]=>some []|off,x::r=>match Nat.beq x.offset off with|true=>(match f x.type with|some l=>(match Nat.beq l.length (P.cellsOf x.type)with|true=>(match xLK P f (off+l.length) r with|some m=>some (l++m)|none=>none)|false=>none)|none=>none)|false=>none
def flat(P:Program):Nat->TypeId->Option (List Ty)|0,_=>none|n+1,t=>match P.underlying t with|some (.int k)=>some [.int k]|some .string=>some [.str]|some .bool=>some [.bool]|some (.slice e)=>(match flat P n e with|some es=>(match Nat.beq es.length (P.cellsOf e)&&Nat.blt 0 es.length with|true=>some [.slice es]|false=>none)|none=>none)|some (.struct fs)=>(match xLK P (flat P n) 0 fs.toList with|some l=>(match Nat.beq l.length (P.cellsOf t)with|true=>some l|false=>none)|none=>none)|_=>none
def xMR:List AV->AV|[c]=>c|cs=>.agg cs
mutual
def AV.wt:AV->Nat|.str s=>s.length+1|.list _ xs=>AV.wts xs+1|.agg cs=>AV.wts cs|_=>1
def AV.wts:List AV->Nat|[]=>0|x::xs=>AV.wt x+AV.wts xs
end
theorem xv3(a b:List AV):AV.wts (a++b)=AV.wts a+AV.wts b:=by induction a with|nil=>simp[AV.wts]|cons x a ih=>simp[AV.wts,ih];omega
theorem xFC(a:List AV):AV.wt (xMR a)=AV.wts a:=by match a with|[]=>rfl|[c]=>simp[xMR,AV.wts]|x::y::r=>rfl
theorem xIj{n:Nat}{f:Nat->AV}{g:Nat->Nat}(h:∀i,i<n->AV.wt (f i)<=g i):AV.wts ((List.range n).map f)<=((List.range n).map g).sum:=by induction n with|zero=>simp[AV.wts]|succ n ih=>rw[List.range_succ,zx,zx,xv3,List.sum_append];have:=ih λ i hi=>h i (by omega);have:=h n (by omega);simp[AV.wts];omega
structure Meas {H:Type} (μ:DataW H->Nat):Prop where
 lit:∀l,1<=μ (.lit l)
 str:∀s,s.length+1<=μ (.lit (.string s))
 nil:1<=μ .nil
 slice:∀es sp,(es.map μ).sum+1<=μ (.slice es sp)
 agg:∀l,(l.map μ).sum<=μ (.agg l)
inductive OfTy:Ty->AV->Prop|int (k:IntKind) (n:Int) (h:(Lit.int k n).wf):OfTy (.int k) (.int k n)|bool (b:Bool):OfTy .bool (.bool b)|str (s:List UInt8) (h:s.length<=maxLen):OfTy .str (.str s)|slice (es:List Ty) (xs:List AV) (h:xs.length<=maxLen) (hl:∀x,x∈xs->x.cells.length=es.length/\x=xMR x.cells) (hx:∀x j,x∈xs->j<es.length->OfTy (es.getD j .bool) (x.cells.getD j .top)):OfTy (.slice es) (.list es.length xs)
theorem OfTy.one{T:Ty}{x:AV}(h:OfTy T x):x.one:=by cases h<;>rfl
inductive Opens (w:World):List Ty->List Value->List AV->Prop|nil:Opens w [] [] []|cons {T:Ty} {v:Value} {a:AV} {Ts vs aS} (h:Rel w (λ _=>False) xMu v a) (ht:OfTy T a) (r:Opens w Ts vs aS):Opens w (T::Ts) (v::vs) (a::aS)
theorem Opens.append{w:World}{Ts Us:List Ty}{vs us aS bs}(h:Opens w Ts vs aS)(h':Opens w Us us bs):Opens w (Ts++Us) (vs++us) (aS++bs):=by induction h with|nil=>exact h'|cons h ht r ih=>exact .cons h ht ih
theorem Opens.len{w:World}{Ts vs aS}(h:Opens w Ts vs aS):vs.length=Ts.length/\aS.length=Ts.length:=by induction h with|nil=>exact⟨rfl,rfl⟩|cons h ht r ih=>simp[ih.1,ih.2]
theorem Opens.get{w:World}{Ts vs aS}(h:Opens w Ts vs aS):∀i,i<Ts.length->Rel w (λ _=>False) xMu (vs.getD i undef) (aS.getD i .top)/\OfTy (Ts.getD i .bool) (aS.getD i .top):=by induction h with|nil=>intro i hi;simp at hi|cons h ht r ih=>intro i hi;cases i with|zero=>exact⟨by simpa using h,by simpa using ht⟩|succ i=>simpa using ih i (by simpa using hi)
theorem Opens.all_one{w:World}{Ts vs aS}(h:Opens w Ts vs aS):aS.all AV.one:=by induction h with|nil=>rfl|cons h ht r ih=>simp[ht.one,ih]
theorem xzb{aS:List AV}(h:aS.all AV.one)(hne:0<aS.length):(xMR aS).cells=aS:=by match aS,h,hne with|[c],h,_=>(cases c<;>first|rfl|simp[AV.one]at h)|a::b::r,_,_=>rfl
section
variable{H:Type}{enc:TypeId × Value->H}{P:Program}{w:World}{base:Nat}{sp:Nat->Bool}{held:Bool}
theorem xBV{n:Nat}{f:TypeId->Option (List Ty)}(hf:∀t Ts,f t=some Ts->∀cs x,DataW.trod enc P w base sp held n t cs=some x->∃aS,Opens w Ts cs aS/\∀μ:DataW H->Nat,Meas μ->AV.wts aS<=μ x.1):
  ∀(l:List Field)(off:Nat)(Ts:List Ty)(cs:List Value)(ys:List (DataW H×List MemPlace)),xLK P f off l=some Ts->cs.length=Ts.length->ys.length=l.length->(∀(i:Nat)(x:Field),l[i]?=some x->DataW.trod enc P w base sp held n x.type ((cs.drop (x.offset - off)).take (P.cellsOf x.type))=ys[i]?)->
   ∃aS,Opens w Ts cs aS/\∀μ:DataW H->Nat,Meas μ->AV.wts aS<=(ys.map λ y=>μ y.1).sum
 |[],off,Ts,cs,ys,h,hl,hyl,_=>by
  simp[xLK]at h;subst h;obtain rfl:cs=[]:=zA hl;exact⟨[],.nil,λ μ _=>by simp[AV.wts]⟩
 |x::r,off,Ts,cs,[],h,hl,hyl,hx=>by simp at hyl
 |x::r,off,Ts,cs,y::ys,h,hl,hyl,hx=>by
  simp only[xLK]at h;split at h<;>try (simp at h;done)
  rename_i ho;split at h<;>try (simp at h;done)
  rename_i l1 W;split at h<;>try (simp at h;done)
  rename_i hn;split at h<;>try (simp at h;done)
  rename_i m hm;cases h;have ho:=zg ho;have hn:=zg hn;simp only[z8]at hl;have hy:=hx 0 x rfl;rw[ho,Nat.sub_self,zr,<-hn,zY]at hy;obtain⟨aS,ha,V⟩:=hf _ _ W _ _ hy;have J:∀(l:List Field)(o:Nat)(m:List Ty),xLK P f o l=some m->∀z,z∈l->o<=z.offset:=by
   intro l;induction l with
   |nil=>intro o m _ z hz;simp at hz
   |cons z0 l ih=>
    intro o m h z hz;simp only[xLK]at h;split at h<;>try (simp at h;done)
    rename_i q;split at h<;>try (simp at h;done)
    split at h<;>try (simp at h;done)
    split at h<;>try (simp at h;done)
    rename_i O;have q:=zg q;rcases zC.1 hz with rfl|hz
    . omega
    . exact Nat.le_trans (by omega) (ih _ _ O z hz)
  obtain ⟨bs,hb,Q⟩:=xBV hf r (off+l1.length) m (cs.drop l1.length) ys hm (by rw [y3];omega) (by simpa using hyl) (fun i z hz=>by
   have hy':=hx (i+1) z (by simpa using hz)
   have:=J _ _ _ hm z (List.mem_of_getElem? hz);rw[List.drop_drop,show l1.length+(z.offset - (off+l1.length))=z.offset - off by omega]
   simpa using hy')
  refine⟨aS++bs,?_,λ μ hμ=>?_⟩
  . have:=ha.append hb;rwa [List.take_append_drop]at this
  . have h1:=V μ hμ;have h2:=Q μ hμ;simp only[zV,List.sum_cons,xv3];omega
theorem xs6:∀(n:Nat)(t:TypeId)(Ts:List Ty),flat P n t=some Ts->∀(fuel:Nat)(cs:List Value) x,DataW.trod enc P w base sp held fuel t cs=some x->∃aS,Opens w Ts cs aS/\∀μ:DataW H->Nat,Meas μ->AV.wts aS<=μ x.1
 |0,_,_,h,_,_,_,_=>by simp[flat]at h
 |n+1,t,Ts,h,fuel,cs,x,hd=>by
  simp only[flat]at h;split at h
  . rename_i k ht;simp only[z6]at h;subst h;obtain⟨m,rfl,rfl,hw⟩:=DataW.trod_int ht hd;exact⟨[.int k m],.cons (.int k m) (.int k m hw) .nil,λ μ hμ=>by have:=hμ.lit (.int k m);simpa[AV.wts,AV.wt]using this⟩
  . rename_i ht;simp only[z6]at h;subst h;obtain⟨s,rfl,rfl,hw⟩:=DataW.trod_string ht hd;exact⟨[.str s.data.toList],.cons (.str s) (.str _ (by simpa using hw)) .nil,λ μ hμ=>by have:=hμ.str s.data.toList;simpa[AV.wts,AV.wt]using this⟩
  . rename_i ht;simp only[z6]at h;subst h;obtain⟨b,rfl,rfl⟩:=DataW.trod_bool ht hd;exact⟨[.bool b],.cons (.bool b) (.bool b) .nil,λ μ hμ=>by have:=hμ.lit (.bool b);simpa[AV.wts,AV.wt]using this⟩
  . rename_i e ht;split at h<;>try (simp at h;done)
    rename_i es ah;split at h<;>try (simp at h;done)
    rename_i hc;simp only[z6]at h;subst h;simp only[zf]at hc;have W:=zg hc.1;have aa:0<es.length:=by simpa using hc.2
    rcases Deep.open_slice ht hd with⟨rfl,rfl⟩|⟨a,len,cap,m,n',D,Pl,rfl,hb,hl,hm,ai,rfl,hx⟩
    . exact⟨[.list es.length []],.cons (.list0 _ _ _) (.slice es [] (by simp) (λ x hx=>by simp at hx) (λ x j hx=>by simp at hx)) .nil,λ μ hμ=>by have:=hμ.nil;simpa[AV.wts,AV.wt]using this⟩
    . have am:len<=m:=by subst ai;split<;>omega
      have al:∀i,i<len->∃p:List Value×List AV,w.cells? base (a.add (i*P.cellsOf e)) (P.cellsOf e)=some p.1/\Opens w es p.1 p.2/\∀μ:DataW H->Nat,Meas μ->AV.wts p.2<=μ (D i):=λ i hi=>by
       obtain⟨Q,h1,h2⟩:=hx i (by omega)
       obtain⟨aS,ha,hw⟩:=xs6 n e es ah _ _ _ h2;exact⟨(Q,aS),h1,ha,hw⟩
      obtain⟨f,hf⟩:=Deep.choose_lt (α:=List Value×List AV) al;have q:((List.range len).map λ i=>xMR (f i).2).length=len:=by simp
      have Y:∀i,i<len->((List.range len).map λ i=>xMR (f i).2).getD i .top=xMR (f i).2:=λ i hi=>by simp[List.getD,hi]
      have O:∀i,i<len->(xMR (f i).2).cells=(f i).2:=λ i hi=>xzb (hf i hi).2.1.all_one (by rw[(hf i hi).2.1.len.2];exact aa)
      have af:OfTy (.slice es) (.list es.length ((List.range len).map λ i=>xMR (f i).2)):=by
       refine .slice es _ (by rw[q];omega) (λ x hx=>?_) (λ x j hx hj=>?_)
       . obtain⟨i,hi,rfl⟩:=zK.1 hx;have hi:=List.mem_range.1 hi;rw[O i hi];exact⟨(hf i hi).2.1.len.2,rfl⟩
       . obtain⟨i,hi,rfl⟩:=zK.1 hx;have hi:=List.mem_range.1 hi;rw[O i hi];exact((hf i hi).2.1.get j hj).2
      refine ⟨[_],.cons ?_ af .nil,fun μ hμ=>by
       have h1:=hμ.slice ((List.range len).map D) ((List.range (m - len)).map λ j=>D (len+j))
       have h2:=xIj (n:=len) (f:=λ i=>xMR (f i).2) (g:=λ i=>μ (D i)) λ i hi=>by rw[xFC];exact(hf i hi).2.2 μ hμ
       rw[List.map_map]at h1;change ((List.range len).map λ i=>μ (D i)).sum+1<=_ at h1
       simp only [AV.wts,AV.wt];exact Nat.le_trans (by omega) h1⟩
      rcases Nat.eq_zero_or_pos len with rfl|Z
      . exact .list0 _ _ _
      ·
       have h0:=World.cells?_some (hf 0 Z).1;have J:=h0.2.2 0 (by omega)
       rw [show (f 0).1[0]?=some ((f 0).1.getD 0 undef) by
        rw [ze (by rw [h0.2.1];omega)];simp [List.getD,h0.2.1,<-W,aa]] at J
       have ag:a.spot=none/\a.block<w.heap.size:=by
        unfold World.cell? at J;have e1:(a.add (0*P.cellsOf e)).add 0=a:=by simp[Addr.add]
        rw[e1]at J;split at J
        . rename_i c _ _ ak;split at J
          . simp at J
          . rename_i aj;exact⟨by simpa using aj,(Array.getElem?_eq_some_iff.1 ak).1⟩
        . simp at J
       obtain ⟨V,off,an⟩:=a;obtain ⟨rfl,ab⟩:=ag;have:=Rel.list (w:=w) (A:=fun _=>False) (M:=xMu) V off cap es.length ((List.range len).map fun i=>xMR (f i).2) (fun i j=>(f i).1.getD j undef) (fun h=>h) ab (fun h=>by
        have:=congrArg List.length h;simp at this;omega) (by rw [q];exact hl) (fun x hx=>by
        obtain ⟨i,hi,rfl⟩:=zK.1 hx;have hi:=List.mem_range.1 hi;simp only [AV.okElem,O i hi,(hf i hi).2.1.all_one,(hf i hi).2.1.len.2,zS,beq_self_eq_true]) (fun i j hi hj=>by
        rw[q]at hi;have hh:=World.cells?_some (hf i hi).1;have:=hh.2.2 j (by omega)
        rw[Deep.add_add]at this;have e2:(⟨V,off,none⟩:Addr).add (i*P.cellsOf e+j)=⟨V,off+i*es.length+j,none⟩:=by
         rw[<-W];unfold Addr.add;split
         . rename_i h0;simp[Nat.add_assoc,h0]
         . simp[Nat.add_assoc]
        rw[e2]at this;rw[this,ze (by rw[hh.2.1];omega)]
        simp [List.getD,hh.2.1,<-W,hj]) (fun i j hi hj=>by
        rw [q] at hi;rw [Y i hi,O i hi];exact ((hf i hi).2.1.get j hj).1)
       rwa [q]at this
  . rename_i fs ht;split at h<;>try (simp at h;done)
    rename_i l hl;split at h<;>try (simp at h;done)
    rename_i hn;simp only [z6] at h;subst h;have hn:=zg hn;obtain ⟨xs,m,rfl,hx,q,ae,ad⟩:=DataW.trod_struct ht hd;obtain ⟨aS,ha,hw⟩:=xBV (n:=m) (fun t' Ts' h' Q x' ac=>xs6 n t' Ts' h' m Q x' ac) fs.toList 0 l cs xs hl (by rw [q,hn]) (by simpa using ae) (fun i z hz=>by
     have:=ad i z (by simpa using hz)
     simpa using this)
    refine⟨aS,ha,λ μ hμ=>Nat.le_trans (hw μ hμ) ?_⟩
    have:=hμ.agg (xs.map (·.1));rw[hx];simpa[List.map_map,Function.comp_def]using this
  . simp at h
end
end Go.Sim
end
noncomputable section
namespace Go.Sim.Srt
open Go.Sim
variable{α:Type}
structure Ord (c:α->α->Int):Prop where
 anti:∀x y,0<c x y↔c y x<0
 trans:∀x y z,c x y<=0->c y z<=0->c x z<=0
variable {c:α->α->Int}
theorem Ord.le_of_not(h:Ord c){x y:α}(hn:¬ c x y<0):c y x<=0:=by have:=h.anti y x;omega
def Sorted(c:α->α->Int)(l:List α):Prop:=l.Pairwise λ x y=>c x y<=0
theorem xox{l m:List α}:Sorted c (l++m)↔Sorted c l/\Sorted c m/\∀x,x∈l->∀y,y∈m->c x y<=0:=List.pairwise_append
variable {n:Nat}
theorem xBF(A:List α)(x:α)(B:List α)(h:n=A.length):(A++x::B)[n]?=some x:=by subst h;simp
theorem xB9(A:List α)(x y:α)(B:List α)(h:n=A.length):(A++x::B).set n y=A++y::B:=by subst h;simp[List.set_append]
theorem xH8{l:List α}{k:Nat}(h:l.length=k+1):∃m y,l=m++[y]/\m.length=k:=by rcases List.eq_nil_or_concat l with rfl|⟨m,y,rfl⟩;simp at h;exact⟨m,y,by simp,by simpa using h⟩
theorem xdo{σ ρ:Type}{step:σ->Option (σ⊕ρ)}{s s':σ}{r:Option ρ}(h:step s=some (.inl s'))(h2:Iter step s'=r):Iter step s=r:=by rw[xae h,h2]
def xLu(c:α->α->Int)(a:Nat):Nat×List α->Option ((Nat×List α)⊕List α):=λ(j,l)=>
 if a<j then match l[j]?,l[j - 1]? with
  |some x,some y=>if c x y<0 then some (.inl (j - 1,(l.set j y).set (j - 1) x))else some (.inr l)
  |_,_=>none
 else some (.inr l)
theorem xyF(hc:Ord c)(P:List α)(x:α):∀(k:Nat)(m S:List α),m.length=k->Sorted c m->∃m',Iter (xLu c P.length) (P.length+k,P++(m++x::S))=some (P++(m'++S))/\m'.Perm (m++[x])/\Sorted c m':=by intro k;induction k with|zero=>intro m S hm hs;have:m=[]:=zA hm;subst this;exact⟨[x],xad (by simp[xLu]),List.Perm.refl _,by simp[Sorted]⟩|succ k ih=>
 intro m S hm hs;obtain⟨m0,y,rfl,h0⟩:=xH8 hm;have e:P++(m0++[y]++x::S)=(P++m0)++y::x::S:=by simp
 have e1:(P++(m0++[y]++x::S))[P.length+(k+1)]?=some x:=by rw[show P++(m0++[y]++x::S)=(P++(m0++[y]))++x::S by simp];exact xBF _ _ _ (by simp[h0])
 have e2:(P++(m0++[y]++x::S))[P.length+(k+1) - 1]?=some y:=by rw[e];exact xBF _ _ _ (by simp only[z8,h0];omega)
 obtain⟨s1,s2,s3⟩:=xox.1 hs;by_cases q:c x y<0;obtain⟨m',h1,h2,h3⟩:=ih m0 (y::S) h0 s1;refine⟨m'++[y],?_,?_,?_⟩;refine xdo (s':=(P.length+k,P++(m0++x::y::S))) ?_ (by rw[h1];simp);have f1:((P++(m0++[y]++x::S)).set (P.length+(k+1)) y).set (P.length+(k+1) - 1) x=P++(m0++x::y::S):=by rw[show P++(m0++[y]++x::S)=(P++(m0++[y]))++x::S by simp,xB9 _ _ _ _ (by simp[h0]),show P++(m0++[y])++y::S=(P++m0)++y::y::S by simp,xB9 _ _ _ _ (by simp only[z8,h0];omega)];simp
 simp only[xLu,e1,e2,q,if_true,f1];rw[if_pos (by omega)];congr 2;exact (h2.append_right [y]).trans (by
  simp only [zw];exact List.Perm.append_left m0 (List.Perm.swap _ _ _))
 refine xox.2 ⟨h3,by simp[Sorted],λ z hz w hw=>?_⟩;have:w=y:=by simpa using hw
 subst this;have:=h2.mem_iff.1 hz;rcases zG.1 this with hz|hz;exact s3 z hz w (by simp);have:z=x:=by simpa using hz
 subst this;omega;refine⟨m0++[y]++[x],?_,List.Perm.refl _,?_⟩;refine xad ?_;simp only[xLu,e1,e2,q,if_false];rw[if_pos (by omega)];simp;refine xox.2 ⟨hs,by simp[Sorted],λ z hz w hw=>?_⟩;have:w=x:=by simpa using hw
 subst this;have hy:c y w<=0:=hc.le_of_not q;rcases zG.1 hz with hz|hz;exact hc.trans _ _ _ (s3 z hz y (by simp)) hy;have:z=y:=by simpa using hz
 subst this;exact hy
def xLE(c:α->α->Int)(a b:Nat):Nat×List α->Option ((Nat×List α)⊕List α):=λ(i,l)=>
 if i<b then match Iter (xLu c a) (i,l)with
  |some l'=>some (.inl (i+1,l'))
  |none=>none
 else some (.inr l)
def xLL(c:α->α->Int)(a b:Nat)(l:List α):Option (List α):=Iter (xLE c a b) (a+1,l)
theorem xyG(hc:Ord c)(P S:List α)(b:Nat):∀(k:Nat)(R D:List α),R.length=k->b=P.length+D.length+k->Sorted c D->∃m',Iter (xLE c P.length b) (P.length+D.length,P++(D++(R++S)))=some (P++(m'++S))/\m'.Perm (D++R)/\Sorted c m':=by intro k;induction k with|zero=>intro R D hR hb hs;have:R=[]:=zA hR;subst this;exact⟨D,xad (by simp[xLE,hb]),by simp,hs⟩|succ k ih=>intro R D hR hb hs;cases R with|nil=>simp at hR|cons x R=>(obtain⟨D',h1,h2,h3⟩:=xyF hc P x D.length D (R++S) rfl hs;have hl:D'.length=D.length+1:=by simpa using h2.length_eq);obtain⟨m',h4,h5,h6⟩:=ih R D' (by simpa using hR) (by omega) h3;refine⟨m',?_,?_,h6⟩;(refine xdo (s':=(P.length+D'.length,P++(D'++(R++S)))) ?_ h4;have h1':Iter (xLu c P.length) (P.length+D.length,P++(D++(x::R++S)))=some (P++(D'++(R++S))):=by simpa using h1);simp only[xLE,h1'];rw[if_pos (by omega),hl];rfl;refine h5.trans ((h2.append_right R).trans ?_);simp
theorem xzG(hc:Ord c)(P m S:List α):∃m',xLL c P.length (P.length+m.length) (P++(m++S))=some (P++(m'++S))/\m'.Perm m/\Sorted c m':=by cases m with|nil=>exact⟨[],xad (by simp only[xLE,List.length_nil,Nat.add_zero];rw[if_neg (by omega)]),List.Perm.refl _,by simp[Sorted]⟩|cons x R=>obtain⟨m',h1,h2,h3⟩:=xyG hc P S (P.length+(x::R).length) R.length R [x] rfl (by simp;omega) (by simp[Sorted]);exact⟨m',by simpa[xLL]using h1,by simpa using h2,h3⟩
theorem xdr{l:List α}(h:Sorted c l){i j:Nat}(q:i<j)(hj:j<l.length):c (l[i]'(by omega)) l[j]<=0:=zB.1 h i j (by omega) hj q
inductive Full (c:α->α->Int) (bs:Nat):List α->Prop where|nil:Full c bs []|snoc {D m:List α}:Full c bs D->m.length=bs->Sorted c m->Full c bs (D++m)
inductive Bl (c:α->α->Int) (bs:Nat):List α->Prop where|last {m:List α}:m.length<=bs->Sorted c m->Bl c bs m|more {m R:List α}:m.length=bs->Sorted c m->Bl c bs R->Bl c bs (m++R)
variable {R:List α}
theorem Bl.first{bs:Nat}(h:Bl c bs R)(hl:bs<=R.length):∃X R',R=X++R'/\X.length=bs/\Sorted c X/\Bl c bs R':=by cases h with|last h1 h2=>exact⟨R,[],by simp,by omega,h2,.last (by simp) (by simp[Sorted])⟩|more h1 h2 h3=>exact⟨_,_,rfl,h1,h2,h3⟩
theorem Bl.short{bs:Nat}(h:Bl c bs R)(hl:R.length<=bs):Sorted c R:=by cases h with|last h1 h2=>exact h2|more h1 h2 h3=>rename_i m R;have:R=[]:=zA (by simp at hl;omega);subst this;simpa using h2
end Go.Sim.Srt
end
noncomputable section
namespace Go.Sim.M
def xrJ{σ ρ:Type}{step:σ->Option (σ⊕ρ)}(I:σ->Prop)(μ:σ->Nat)(Q:ρ->Prop)(h:∀s,I s->(∃s',step s=some (.inl s')/\I s'/\μ s'<μ s)\/∃r,step s=some (.inr r)/\Q r):∀s,I s->∃r,Iter step s=some r/\Q r:=by intro s;induction hn:μ s using Nat.strongRecOn generalizing s with|ind n ih=>intro hs;rcases h s hs with⟨s',h1,h2,h3⟩|⟨r,h1,h2⟩;obtain⟨r,k1,k2⟩:=ih (μ s') (by omega) s' rfl h2;exact⟨r,by rw[xae h1];exact k1,k2⟩;exact⟨r,xad h1,h2⟩
abbrev Per:Type:=Int×Int
def pv(p:Per):Bool:=decide (0<=p.1)&&(decide (p.1<p.2)&&decide (p.2<=1099511627776))
def hasP(p:Per)(t:Int):Bool:=pv p&&(decide (p.1<=t)&&decide (t<p.2))
def inL(l:List Per)(t:Int):Bool:=l.any (hasP · t)
variable {p:Per}
def xaS:pv p=true↔0<=p.1/\p.1<p.2/\p.2<=1099511627776:=by simp[pv]
variable {t:Int}
def xaJ:hasP p t=true↔pv p/\p.1<=t/\t<p.2:=by simp[hasP]
def xf7{l:List Per}:inL l t=true↔∃p,p∈l/\pv p/\p.1<=t/\t<p.2:=by unfold inL;rw[List.any_eq_true];constructor;rintro⟨p,h1,h2⟩;exact⟨p,h1,xaJ.1 h2⟩;rintro⟨p,h1,h2⟩;exact⟨p,h1,xaJ.2 h2⟩
def xty{l:List Per}(h:inL l t):0<=t/\t<1099511627776:=by obtain⟨p,_,h2,h3,h4⟩:=xf7.1 h;have:=xaS.1 h2;omega
def xlG(p:Per)(l:List Per)(t:Int):inL (p::l) t=(hasP p t || inL l t):=rfl
def xmB(a b:List Per)(t:Int):inL (a++b) t=(inL a t || inL b t):=by simp[inL]
def xey(t:Int):inL [] t=false:=rfl
def IsSpan(l:List Per):Prop:=(∀p,p∈l->pv p)/\l.Pairwise λ p q=>p.2<q.1
def xfM:IsSpan []:=⟨λ p h=>(by cases h),List.Pairwise.nil⟩
variable {m:List Per}{q:Per}
def xvQ{l:List Per}(hp:pv p)(hm:IsSpan (q::m))(h:∀t,inL (p::l) t=inL (q::m) t):q.1<=p.1:=by have h0:=xaS.1 hp;have h1:inL (p::l) p.1:=xf7.2 ⟨p,List.mem_cons_self ..,hp,Int.le_refl _,h0.2.1⟩;rw[h]at h1;obtain⟨r,hr,_,h2,_⟩:=xf7.1 h1;rcases zC.1 hr with rfl|hr;exact h2;have:=(zM.1 hm.2).1 r hr;have:=xaS.1 (hm.1 q (List.mem_cons_self ..));omega
def xt8{l:List Per}(hl:IsSpan (p::l))(hq:pv q)(he:p.1=q.1)(h:∀t,inL (p::l) t=inL (q::m) t):q.2<=p.2:=by rcases Int.lt_or_le p.2 q.2 with J|O;have h0:=xaS.1 (hl.1 p (List.mem_cons_self ..));have h1:inL (q::m) p.2:=xf7.2 ⟨q,List.mem_cons_self ..,hq,by omega,J⟩;rw[<-h]at h1;obtain⟨r,hr,_,h2,h3⟩:=xf7.1 h1;rcases zC.1 hr with rfl|hr;omega;have:=(zM.1 hl.2).1 r hr;omega;exact O
def xtk{l:List Per}(hl:IsSpan (p::l))(h:hasP p t):inL l t=false:=by cases hc:inL l t with|false=>rfl|true=>obtain⟨r,hr,_,h2,_⟩:=xf7.1 hc;have:=(zM.1 hl.2).1 r hr;have:=(xaJ.1 h).2;omega
def xn9:∀{l m:List Per},IsSpan l->IsSpan m->(∀t,inL l t=inL m t)->l=m|[],[],_,_,_=>rfl|[],q::m,_,hm,h=>by have hq:=hm.1 q (List.mem_cons_self ..);have:inL (q::m) q.1:=xf7.2 ⟨q,List.mem_cons_self ..,hq,Int.le_refl _,(xaS.1 hq).2.1⟩;rw[<-h]at this;cases this|p::l,[],hl,_,h=>by have hp:=hl.1 p (List.mem_cons_self ..);have:inL (p::l) p.1:=xf7.2 ⟨p,List.mem_cons_self ..,hp,Int.le_refl _,(xaS.1 hp).2.1⟩;rw[h]at this;cases this|p::l,q::m,hl,hm,h=>by have hp:=hl.1 p (List.mem_cons_self ..);have hq:=hm.1 q (List.mem_cons_self ..);have e1:p.1=q.1:=Int.le_antisymm (xvQ hq hl λ t=>(h t).symm) (xvQ hp hm h);have e2:p.2=q.2:=Int.le_antisymm (xt8 hm hp e1.symm λ t=>(h t).symm) (xt8 hl hq e1 h);have e:p=q:=Prod.ext e1 e2;subst e;have hl':IsSpan l:=⟨λ r hr=>hl.1 r (List.mem_cons_of_mem _ hr),(zM.1 hl.2).2⟩;have hm':IsSpan m:=⟨λ r hr=>hm.1 r (List.mem_cons_of_mem _ hr),(zM.1 hm.2).2⟩;rw[xn9 hl' hm' λ t=>?_];cases hc:hasP p t with|true=>rw[xtk hl hc,xtk hm hc]|false=>have:=h t;rwa [xlG,xlG,hc,Bool.false_or,Bool.false_or]at this
structure OutOk (out:List Per) (at':Int) (K:Int->Bool):Prop where
 span:IsSpan out
 low:∀p,p∈out->p.2<=at'
 val:∀t,0<=t->t<at'->inL out t=K t
def xw9(K:Int->Bool):OutOk [] 0 K:=⟨xfM,λ p h=>(by cases h),λ t h1 h2=>by omega⟩
variable {K:Int->Bool}{at':Int}
def OutOk.past{out:List Per}(h:OutOk out at' K)(ht:at'<=t):inL out t=false:=by cases hc:inL out t with|false=>rfl|true=>obtain⟨p,hp,_,h2,h3⟩:=xf7.1 hc;have:=h.low p hp;omega
variable {nx:Int}
def OutOk.skip{out:List Per}(h:OutOk out at' K)(O:at'<=nx)(hK:∀t,at'<=t->t<nx->K t=false):OutOk out nx K:=
 ⟨h.span,fun p hp=>by have:=h.low p hp;omega,fun t h1 h2=>by
  rcases Int.lt_or_le t at' with J|q
  . exact h.val t h1 J
  . rw [h.past q,hK t q h2]⟩
def OutOk.add{out:List Per}(h:OutOk out at' K)(h0:0<=at')(J:at'<nx)(hF:nx<=1099511627776)(hK:∀t,at'<=t->t<nx->K t)(hne:∀p,p∈out->p.2≠at'):OutOk (out++[(at',nx)]) nx K:=by have hp:pv (at',nx):=xaS.2 ⟨h0,J,hF⟩;refine⟨⟨λ p hm=>?_,?_⟩,λ p hm=>?_,λ t h1 h2=>?_⟩;rcases zG.1 hm with hm|hm;exact h.span.1 p hm;rw[zv.1 hm];exact hp;refine List.pairwise_append.2 ⟨h.span.2,List.pairwise_singleton ..,λ p hm q hq=>?_⟩;rw[zv.1 hq];have:=h.low p hm;have:=hne p hm;show p.2<at';omega;rcases zG.1 hm with hm|hm;have:=h.low p hm;omega;rw[zv.1 hm];exact Int.le_refl _;rw[xmB,xlG,xey,Bool.or_false];rcases Int.lt_or_le t at' with hl|hg;(rw[h.val t h1 hl];have:hasP (at',nx) t=false:=by cases hc:hasP (at',nx) t with|false=>rfl|true=>have:=(xaJ.1 hc).2.1;simp only at this;omega);rw[this,Bool.or_false];rw[h.past hg,hK t hg h2,Bool.false_or];exact xaJ.2 ⟨hp,hg,h2⟩
def OutOk.ext{o:List Per}(h:OutOk (o++[p]) at' K)(he:p.2=at')(W:at'<nx)(hF:nx<=1099511627776)(hK:∀t,at'<=t->t<nx->K t):OutOk (o++[(p.1,nx)]) nx K:=by have V:=xaS.1 (h.span.1 p (List.mem_append_right _ (zv.2 rfl)));have hp:pv (p.1,nx):=xaS.2 ⟨V.1,by show p.1<nx;omega,hF⟩;obtain⟨Q,_,J⟩:=List.pairwise_append.1 h.span.2;refine⟨⟨λ q hm=>?_,?_⟩,λ q hm=>?_,λ t h1 h2=>?_⟩;rcases zG.1 hm with hm|hm;exact h.span.1 q (List.mem_append_left _ hm);rw[zv.1 hm];exact hp;refine List.pairwise_append.2 ⟨Q,List.pairwise_singleton ..,λ q hm r hr=>?_⟩;rw[zv.1 hr];exact J q hm p (zv.2 rfl);rcases zG.1 hm with hm|hm;have:=J q hm p (zv.2 rfl);omega;rw[zv.1 hm];exact Int.le_refl _;rcases Int.lt_or_le t at' with hl|hg;(rw[<-h.val t h1 hl,xmB,xmB,xlG,xlG,xey];have:hasP (p.1,nx) t=hasP p t:=by have O:=h.span.1 p (List.mem_append_right _ (zv.2 rfl));unfold hasP;rw[hp,O];have e1:decide (t<nx):=decide_eq_true (by omega);have e2:decide (t<p.2):=decide_eq_true (by omega);simp only[e1,e2]);rw[this];rw[hK t hg h2,xmB,xlG];have:hasP (p.1,nx) t:=xaJ.2 ⟨hp,by show p.1<=t;omega,h2⟩;rw[this];simp
def OutOk.done{out:List Per}(h:OutOk out 1099511627776 K)(t:Int):inL out t=(decide (0<=t)&&(decide (t<1099511627776)&&K t)):=by by_cases h1:0<=t;by_cases h2:t<1099511627776;rw[h.val t h1 h2];simp[h1,h2];rw[h.past (by omega)];simp[h2];(have:inL out t=false:=by cases hc:inL out t with|false=>rfl|true=>have:=xty hc;omega);rw[this];simp[h1]
abbrev Edg:Type:=Int×Int×Int
def xLn(x y:Int):List Per->List Edg|[]=>[]|p::l=>if pv p then(p.1,x,y)::(p.2,-x,-y)::xLn x y l else xLn x y l
def xLv(g:Edg->Int)(t:Int):List Edg->Int|[]=>0|e::l=>(if e.1<=t then g e else 0)+xLv g t l
def xLo(g:Edg->Int):List Edg->Int|[]=>0|e::l=>g e+xLo g l
def xsu(g:Edg->Int):∀a b,xLo g (a++b)=xLo g a+xLo g b|[],b=>by simp[xLo]|e::a,b=>by simp only[List.cons_append,xLo,xsu g a b];omega
def xnl(g:Edg->Int)(t:Int):∀a b,xLv g t (a++b)=xLv g t a+xLv g t b|[],b=>by simp[xLv]|e::a,b=>by simp only[List.cons_append,xLv,xnl g t a b];omega
def xvT(g:Edg->Int)(t:Int){a b:List Edg}(h:a.Perm b):xLv g t a=xLv g t b:=by induction h with|nil=>rfl|cons x _ ih=>simp only[xLv,ih]|swap x y l=>simp only[xLv];omega|trans _ _ h1 h2=>exact h1.trans h2
def xyt(g:Edg->Int)(t:Int):∀l:List Edg,(∀e,e∈l->e.1<=t)->xLv g t l=xLo g l|[],_=>rfl|e::l,h=>by simp only[xLv,xLo,if_pos (h e (List.mem_cons_self ..)),xyt g t l λ x hx=>h x (List.mem_cons_of_mem _ hx)]
def xvS(g:Edg->Int)(t:Int):∀l:List Edg,(∀e,e∈l->t<e.1)->xLv g t l=0|[],_=>rfl|e::l,h=>by have:=h e (List.mem_cons_self ..);simp only[xLv,if_neg (by omega:¬ e.1<=t),xvS g t l λ x hx=>h x (List.mem_cons_of_mem _ hx)];rfl
def cntP(l:List Per)(t:Int):Int:=((l.filter (hasP · t)).length:Nat)
def xzi(l:List Per)(t:Int):decide (cntP l t>0)=inL l t:=by(unfold cntP;have h2:(l.filter (hasP · t)).length=0↔inL l t=false:=by rw[List.length_eq_zero_iff,List.filter_eq_nil_iff];unfold inL;rw[List.any_eq_false]);cases hc:inL l t with|false=>have:=h2.2 hc;exact decide_eq_false (by omega)|true=>(have:(l.filter (hasP · t)).length≠0:=λ h=>by rw[h2.1 h]at hc;cases hc);exact decide_eq_true (by omega)
def xsc(t:Int):∀l:List Per,xLv (λ e=>e.2.1) t (xLn 1 0 l)=cntP l t
 |[]=>rfl
 |p::l=>by
  have ih:=xsc t l;unfold xLn;by_cases hp:pv p=true
  . rw[if_pos hp];have hp':=xaS.1 hp;simp only[xLv,ih];unfold cntP;by_cases h1:p.1<=t
    . by_cases h2:p.2<=t
      . have:hasP p t=false:=by
         cases hc:hasP p t with
         |false=>rfl
         |true=>have:=(xaJ.1 hc).2.2;omega
        simp[h1,h2,this];omega
      . have:hasP p t=true:=xaJ.2 ⟨hp,h1,by omega⟩
        simp[h1,h2,this];omega
    . have:hasP p t=false:=by
       cases hc:hasP p t with
       |false=>rfl
       |true=>have:=(xaJ.1 hc).2.1;omega
      have h2:¬ p.2<=t:=by omega
      simp[h1,h2,this]
  . rw[if_neg hp,ih];have:hasP p t=false:=by
     cases hc:hasP p t with
     |false=>rfl
     |true=>exact absurd (xaJ.1 hc).1 hp
    unfold cntP;simp[this]
def xuc(t:Int):∀l:List Per,xLv (λ e=>e.2.2) t (xLn 1 0 l)=0|[]=>rfl|p::l=>by have ih:=xuc t l;unfold xLn;split;simp only[xLv,ih];split<;>split<;>rfl;exact ih
def xvV(t:Int):∀l:List Per,xLv (λ e=>e.2.2) t (xLn 0 1 l)=cntP l t
 |[]=>rfl
 |p::l=>by
  have ih:=xvV t l;have e1:=xsc t [p];unfold xLn at e1|-;by_cases hp:pv p=true
  . rw[if_pos hp]at e1|-;simp only[xLv,xLn,Int.add_zero]at e1|-;rw[ih];have:cntP (p::l) t=cntP [p] t+cntP l t:=by
     unfold cntP;rw[show p::l=[p]++l from rfl,List.filter_append,z8];omega
    rw[this,<-e1];omega
  . rw[if_neg hp,ih];have:hasP p t=false:=by
     cases hc:hasP p t with
     |false=>rfl
     |true=>exact absurd (xaJ.1 hc).1 hp
    unfold cntP;simp[this]
def xud(t:Int):∀l:List Per,xLv (λ e=>e.2.1) t (xLn 0 1 l)=0|[]=>rfl|p::l=>by have ih:=xud t l;unfold xLn;split;simp only[xLv,ih];split<;>split<;>rfl;exact ih
def xlZ(x y:Int):∀l:List Per,∀e,e∈xLn x y l->0<=e.1/\e.1<=1099511627776|[],e,h=>by cases h|p::l,e,h=>by unfold xLn at h;split at h;rename_i hp;have:=xaS.1 hp;rcases zC.1 h with rfl|h;show 0<=p.1/\p.1<=_;omega;rcases zC.1 h with rfl|h;show 0<=p.2/\p.2<=_;omega;exact xlZ x y l e h;exact xlZ x y l e h
def xjM(x y:Int):∀l:List Per,(xLn x y l).length<=2*l.length|[]=>by simp[xLn]|p::l=>by have:=xjM x y l;unfold xLn;split<;>simp only[zF]<;>omega
end Go.Sim.M
end
noncomputable section
set_option maxRecDepth 100000
namespace Go.Sim.M
open Go.RowKit Go.Sim.Srt
theorem xy9:∀a b:List UInt8,Lib.compareBytes a b=-1\/Lib.compareBytes a b=0\/Lib.compareBytes a b=1|[],[]=>by simp[Lib.compareBytes]|[],_::_=>by simp[Lib.compareBytes]|_::_,[]=>by simp[Lib.compareBytes]|x::a,y::b=>by unfold Lib.compareBytes;split;simp;split;simp;exact xy9 a b
theorem xBp:∀a b:List UInt8,Lib.compareBytes b a=-(Lib.compareBytes a b)|[],[]=>by simp[Lib.compareBytes]|[],_::_=>by simp[Lib.compareBytes]|_::_,[]=>by simp[Lib.compareBytes]|x::a,y::b=>by unfold Lib.compareBytes;have ih:=xBp a b;by_cases h1:x<y;have h2:¬ y<x:=λ h=>absurd (UInt8.lt_trans h1 h) (UInt8.lt_irrefl x);simp[h1,h2];by_cases h2:y<x;simp[h1,h2];simp[h1,h2,ih]
theorem xCy:∀a b:List UInt8,Lib.compareBytes a b=0↔a=b
 |[],[]=>by simp[Lib.compareBytes]
 |[],_::_=>by simp[Lib.compareBytes]
 |_::_,[]=>by simp[Lib.compareBytes]
 |x::a,y::b=>by
  unfold Lib.compareBytes;have ih:=xCy a b;by_cases h1:x<y
  . have:x≠y:=λ e=>by subst e;exact UInt8.lt_irrefl x h1
    simp[h1,this]
  . by_cases h2:y<x
    . have:x≠y:=λ e=>by subst e;exact UInt8.lt_irrefl x h2
      simp[h1,h2,this]
    . have:x=y:=UInt8.le_antisymm (UInt8.not_lt.1 h2) (UInt8.not_lt.1 h1);simp[h1,h2,this,ih]
theorem xza:∀a b c:List UInt8,Lib.compareBytes a b<=0->Lib.compareBytes b c<=0->Lib.compareBytes a c<=0|[],_,[],_,_=>by simp[Lib.compareBytes]|[],_,_::_,_,_=>by simp[Lib.compareBytes]|_::_,[],_,h,_=>by simp[Lib.compareBytes]at h|_::_,_::_,[],_,h=>by simp[Lib.compareBytes]at h|x::a,y::b,z::c,h1,h2=>by unfold Lib.compareBytes at h1 h2|-;have ih:=xza a b c;by_cases p1:x<y;by_cases p2:y<z;simp[UInt8.lt_trans p1 p2];by_cases p3:z<y;simp[p2,p3]at h2;have:y=z:=UInt8.le_antisymm (UInt8.not_lt.1 p3) (UInt8.not_lt.1 p2);subst this;simp[p1];by_cases q1:y<x;simp[p1,q1]at h1;have:x=y:=UInt8.le_antisymm (UInt8.not_lt.1 q1) (UInt8.not_lt.1 p1);subst this;simp only[p1,if_false]at h1;by_cases p2:x<z;simp[p2];by_cases p3:z<x;simp[p2,p3]at h2;simp only[p2,p3,if_false]at h2|-;exact ih h1 h2
theorem xHj(a b:List UInt8):Op.bytesLess a b=decide (Lib.compareBytes a b<0):=by induction a generalizing b with|nil=>cases b<;>simp[Op.bytesLess,Lib.compareBytes]|cons x a ih=>cases b with|nil=>simp[Op.bytesLess,Lib.compareBytes]|cons y b=>unfold Op.bytesLess Lib.compareBytes;by_cases h1:x<y;simp[h1];by_cases h2:y<x;(have:x≠y:=λ e=>by subst e;exact UInt8.lt_irrefl x h2);simp[h1,h2,this];have:x=y:=UInt8.le_antisymm (UInt8.not_lt.1 h2) (UInt8.not_lt.1 h1);simp[h1,h2,this,ih]
theorem xGx(x y:Int):xcO x y=if x<y then -1 else if x>y then 1 else 0:=by(unfold xcO xf1;have e:(x !=x)=false:=by simp);(have f:(y !=y)=false:=by simp);rw[e,f];simp only[xav,xac,zl,zT,if_false,sUF]
theorem xJO(p q r:Int):xpF p q r=if p≠0 then p else if q≠0 then q else r:=by unfold xpF;simp only[xav,bne_iff_ne,sUF];split;rfl;split;rfl;split;rfl;rename_i h;simpa using(Classical.not_not.1 h).symm
section
variable(ak ai bk bi ck ci:Int)(at' bt ct:List UInt8)
theorem xAz:xba ak ai at' bk bi bt=if ak<bk then -1 else if ak>bk then 1 else if ai<bi then -1 else if ai>bi then 1 else Lib.compareBytes at' bt:=by unfold xba;rw[xJO,xGx,xGx];by_cases h1:ak<bk;simp[h1];by_cases h2:ak>bk;simp[h1,h2];by_cases h3:ai<bi;simp[h1,h2,h3];by_cases h4:ai>bi<;>simp[h1,h2,h3,h4]
theorem xK1:xba ak ai at' bk bi bt=xgD ak ai at' bk bi bt:=by
 rw[xAz];unfold xgD xgU;rw[xHj];simp only[xav,zl,bne_iff_ne,sUF];by_cases h1:ak<bk;have:ak≠bk:=by omega
 simp[h1,this];by_cases h2:ak>bk;have:ak≠bk:=by omega
 simp[h1,h2,this];have:ak=bk:=by omega
 subst this;by_cases h3:ai<bi;have:ai≠bi:=by omega
 simp[h3,this];by_cases h4:ai>bi;have:ai≠bi:=by omega
 simp[h3,h4,this];have:ai=bi:=by omega
 subst this;have he:=xCy at' bt;rcases xy9 at' bt with h|h|h;have hne:at'≠bt:=λ e=>by rw[he.2 e]at h;simp at h
 simp[h,hne];have:=he.1 h;subst this;simp[h];have hne:at'≠bt:=λ e=>by rw[he.2 e]at h;simp at h
 simp[h,hne]
theorem xJ4:xba bk bi bt ak ai at'=-(xba ak ai at' bk bi bt):=by
 rw[xAz,xAz,xBp at' bt];by_cases h1:ak<bk;have:¬ bk<ak:=by omega
 simp[h1,this];by_cases h2:bk<ak;simp[h1,h2];by_cases h3:ai<bi;have:¬ bi<ai:=by omega
 simp[h1,h2,h3,this];by_cases h4:bi<ai<;>simp[h1,h2,h3,h4]
theorem xJ5:xba ak ai at' bk bi bt=0↔ak=bk/\ai=bi/\at'=bt:=by
 rw[xAz];by_cases h1:ak<bk;have:ak≠bk:=by omega
 simp[h1,this];by_cases h2:ak>bk;have:ak≠bk:=by omega
 simp[h1,h2,this];have e:ak=bk:=by omega
 by_cases h3:ai<bi;have:ai≠bi:=by omega
 simp[h1,h2,h3,this];by_cases h4:ai>bi;have:ai≠bi:=by omega
 simp[h1,h2,h3,h4,this];have f:ai=bi:=by omega
 simp[h1,h2,h3,h4,e,f,xCy]
theorem xLk:xba ak ai at' bk bi bt<=0↔ak<bk\/(ak=bk/\(ai<bi\/(ai=bi/\Lib.compareBytes at' bt<=0))):=by
 rw[xAz];by_cases h1:ak<bk;simp[h1];by_cases h2:ak>bk;have:ak≠bk:=by omega
 simp[h1,h2,this];have e:ak=bk:=by omega
 by_cases h3:ai<bi;simp[h1,h2,h3,e];by_cases h4:ai>bi;have:ai≠bi:=by omega
 simp[h1,h2,h3,h4,this];have f:ai=bi:=by omega
 simp[h1,h2,h3,h4,e,f]
theorem xIi(h1:xba ak ai at' bk bi bt<=0)(h2:xba bk bi bt ck ci ct<=0):xba ak ai at' ck ci ct<=0:=by rw[xLk]at h1 h2|-;rcases h1 with h1|⟨e1,h1⟩;rcases h2 with h2|⟨e2,h2⟩<;>exact .inl (by omega);rcases h2 with h2|⟨e2,h2⟩;exact .inl (by omega);refine .inr ⟨by omega,?_⟩;rcases h1 with h1|⟨f1,h1⟩;rcases h2 with h2|⟨f2,h2⟩<;>exact .inl (by omega);rcases h2 with h2|⟨f2,h2⟩;exact .inl (by omega);exact .inr ⟨by omega,xza _ _ _ h1 h2⟩
end
structure Val where
 k:Int
 i:Int
 t:List UInt8
deriving DecidableEq
instance:Inhabited Val:=⟨⟨0,0,[]⟩⟩
def encV(v:Val):AV:=.agg [.int .i64 v.k,.int .i64 v.i,.str v.t]
def Val.wf(v:Val):Prop:=(Lit.int .i64 v.k).wf/\(Lit.int .i64 v.i).wf/\v.t.length<=maxLen
abbrev Row:=List Val
def encR(r:Row):AV:=.list 3 (r.map encV)
def Row.wf(r:Row):Prop:=r.length<=maxLen/\∀v,v∈r->v.wf
@[simp] theorem xmo(v:Val):(encV v).cells=[.int .i64 v.k,.int .i64 v.i,.str v.t]:=rfl
@[simp] theorem xqd(v:Val):xMm [Sh.int .i64,Sh.int .i64,Sh.str] [.int .i64 v.k,.int .i64 v.i,.str v.t] 0=true:=rfl
theorem xaa{α:Type}(e:α->AV)(l:List α)(n:Nat)(h:n<l.length):(l.map e).getD n .top=e l[n]:=by simp[List.getD,h]
variable {n:Nat}
theorem xiF(h:n+1<=maxLen):IntKind.i64.wrap ((n:Int)+1)=((n+1:Nat):Int):=by unfold maxLen at h;rw[xaw (by omega) (by omega)];omega
theorem xas{α:Type}{l:List α}(h:n<l.length):l.drop n=l[n]::l.drop (n+1):=List.drop_eq_getElem_cons h
def cmpV(a b:Val):Int:=xba a.k a.i a.t b.k b.i b.t
theorem xze(a b:Val):xgD a.k a.i a.t b.k b.i b.t=cmpV a b:=(xK1 ..).symm
theorem xzf(a b:Val):xba a.k a.i a.t b.k b.i b.t=cmpV a b:=rfl
def xLG:Row->Row->Bool×Int×Unit|[],_=>(false,0,())|_::_,[]=>(true,1,())|a::ra,b::rb=>if cmpV a b≠0 then(true,cmpV a b,())else xLG ra rb
theorem xBq(ra rb:Row)(hl:ra.length<=maxLen):∀(k n:Nat),n+k=ra.length->Iter (xaE (ra.map encV) (rb.map encV) (ra.map encV) ((ra.length:Nat):Int)) (n:Int)=some (xLG (ra.drop n) (rb.drop n))
 |0,n,hk=>by
  rw[zq (by omega:ra.length<=n)]
  refine xad ?_;have h0:¬ ((n:Int)<(ra.length:Int)):=by omega
  simp only[xaE,xb0,xbP,xav,h0,zm,zT,if_false,xLG,sUF]
 |k+1,n,hk=>by
  have h1:n<ra.length:=by omega
  have h1':(n:Int)<(ra.length:Int):=by omega
  rw[xas h1];by_cases h2:n<rb.length
  . rw[xas h2];have h2':¬ ((n:Int)>=(rb.length:Int)):=by omega
    have h2'':(n:Int)<(rb.length:Int):=by omega
    by_cases h3:cmpV ra[n] rb[n]=0
    . rw[xae (s':=((n+1:Nat):Int)) ?_,xBq ra rb hl k (n+1) (by omega)]
      . simp[xLG,h3]
      . simp only[xaE,xb0,xbP,xav,h1',h2',h2'',za,zn,zN,xaa encV _ _ h1,xaa encV _ _ h2,xmo,xqd,sUF];simp[h1,h2,xzf,AV.toInt,AV.toStr,h3,xiF (show n+1<=maxLen by omega)]
    . refine xad ?_;simp only[xaE,xb0,xbP,xav,h1',h2',h2'',za,zn,zN,xaa encV _ _ h1,xaa encV _ _ h2,xmo,xqd,sUF];simp[h1,h2,xzf,AV.toInt,AV.toStr,h3,xLG]
  . rw[zq (by omega:rb.length<=n)]
    have h2':(n:Int)>=(rb.length:Int):=by omega
    refine xad ?_;simp only[xaE,xb0,xbP,xav,h1',h2',za,zn,zN,xaa encV _ _ h1,xmo,xqd,sUF];simp[h1,xLG]
def cmpR:Row->Row->Int|[],[]=>0|[],_::_=>-1|_::_,[]=>1|a::ra,b::rb=>if cmpV a b≠0 then cmpV a b else cmpR ra rb
theorem xIY(ra rb:Row):br (xLG ra rb).1 (xLG ra rb).2.1 (br (decide ((ra.length:Int)<(rb.length:Int))) (-1:Int) 0)=cmpR ra rb:=by induction ra generalizing rb with|nil=>cases rb<;>simp[xLG,cmpR,xav,sUF]|cons a ra ih=>cases rb with|nil=>simp[xLG,cmpR,xav,sUF]|cons b rb=>unfold xLG cmpR;split;simp[xav,sUF];simpa using ih rb
theorem xFz(ra rb:Row)(hl:ra.length<=maxLen):xlz (ra.map encV) (rb.map encV)=some (cmpR ra rb):=by have h:=xBq ra rb hl ra.length 0 (by omega);simp only[zr]at h;unfold xlz xnm xke xiA;rw[za,za,show ((0:Int))=((0:Nat):Int) from rfl,h,<-xIY ra rb];generalize xLG ra rb=p;obtain⟨a,b,_⟩:=p;cases a<;>by_cases h1:((ra.length:Int)<(rb.length:Int))<;>simp[h1,xav,sUF]
def xLH:Row->Row->Bool×Int×Unit|a::ra,b::rb=>if cmpV a b≠0 then(true,cmpV a b,())else xLH ra rb|_,_=>(false,0,())
theorem xB0(ra rb:Row)(hl:ra.length<=maxLen):∀(k n:Nat),n+k=ra.length->Iter (xaW (ra.map encV) (rb.map encV)) (n:Int)=some (xLH (ra.drop n) (rb.drop n))
 |0,n,hk=>by
  rw[zq (by omega:ra.length<=n)]
  refine xad ?_;have h0:¬ ((n:Int)<(ra.length:Int)):=by omega
  simp only[xaW,xdE,xdm,xav,za,h0,zm,zT,if_false,xLH,sUF]
 |k+1,n,hk=>by
  have h1:n<ra.length:=by omega
  have h1':(n:Int)<(ra.length:Int):=by omega
  rw[xas h1];by_cases h2:n<rb.length
  . rw[xas h2];have h2'':(n:Int)<(rb.length:Int):=by omega
    by_cases h3:cmpV ra[n] rb[n]=0
    . rw[xae (s':=((n+1:Nat):Int)) ?_,xB0 ra rb hl k (n+1) (by omega)]
      . simp[xLH,h3]
      . simp only[xaW,xdE,xdm,xav,za,h1',h2'',zn,zN,xaa encV _ _ h1,xaa encV _ _ h2,xmo,xqd,sUF];simp[h1,h2,xze,AV.toInt,AV.toStr,h3,xiF (show n+1<=maxLen by omega)]
    . refine xad ?_;simp only[xaW,xdE,xdm,xav,za,h1',h2'',zn,zN,xaa encV _ _ h1,xaa encV _ _ h2,xmo,xqd,sUF];simp[h1,h2,xze,AV.toInt,AV.toStr,h3,xLH]
  . rw[zq (by omega:rb.length<=n)]
    have h2':¬ ((n:Int)<(rb.length:Int)):=by omega
    refine xad ?_;simp only[xaW,xdE,xdm,xav,za,h1',h2',zn,zm,sUF];simp[xLH]
theorem xJY(ra rb:Row):br (xLH ra rb).1 (xLH ra rb).2.1 (br (decide ((ra.length:Int)<(rb.length:Int))) (-1:Int) (br (decide ((ra.length:Int)>(rb.length:Int))) 1 0))=cmpR ra rb:=by induction ra generalizing rb with|nil=>cases rb<;>simp[xLH,cmpR,xav,sUF]|cons a ra ih=>cases rb with|nil=>(have:¬ ((ra.length:Int)+1<0):=by omega);(have h2:(0:Int)<(ra.length:Int)+1:=by omega);simp[xLH,cmpR,xav,this,h2,sUF]|cons b rb=>unfold xLH cmpR;split;simp[xav,sUF];simpa using ih rb
theorem xnR(ra rb:Row)(hl:ra.length<=maxLen):xaP (ra.map encV) (rb.map encV)=some (cmpR ra rb):=by have h:=xB0 ra rb hl ra.length 0 (by omega);simp only[zr]at h;unfold xaP xmN;rw[za,za,show ((0:Int))=((0:Nat):Int) from rfl,h,<-xJY ra rb];generalize xLH ra rb=p;obtain⟨a,b,_⟩:=p;cases a<;>by_cases h1:((ra.length:Int)<(rb.length:Int))<;>by_cases h2:((ra.length:Int)>(rb.length:Int))<;>simp[h1,h2,xav,sUF]
theorem xJZ(ra rb:Row)(hl:ra.length<=maxLen):xqV (ra.map encV) (rb.map encV)=some (cmpR ra rb==0):=by unfold xqV xoR;rw[xnR ra rb hl];rfl
def encP(p:Per):AV:=.agg [.int .i64 p.1,.int .i64 p.2]
structure Cm {α:Type} (f:α->α->Int):Prop where
 swap:∀x y,f y x=-(f x y)
 trans:∀x y z,f x y<=0->f y z<=0->f x z<=0
theorem Cm.ord{α:Type}{f:α->α->Int}(h:Cm f):Ord f:=⟨λ x y=>by rw[h.swap x y];omega,h.trans⟩
theorem Cm.lt1{α:Type}{f:α->α->Int}(h:Cm f){x y z:α}(h1:f x y<0)(h2:f y z<=0):f x z<0:=by have h3:=h.trans x y z (by omega) h2;have h4:=h.swap x z;have h5:=h.swap x y;refine Classical.byContradiction λ hn=>?_;have:=h.trans y z x h2 (by omega);omega
theorem Cm.lt2{α:Type}{f:α->α->Int}(h:Cm f){x y z:α}(h1:f x y<=0)(h2:f y z<0):f x z<0:=by have h3:=h.trans x y z h1 (by omega);have h4:=h.swap x z;have h5:=h.swap y z;refine Classical.byContradiction λ hn=>?_;have:=h.trans z x y (by omega) h1;omega
theorem Cm.neg {α:Type} {f:α->α->Int} (h:Cm f):Cm fun x y=>-(f x y):=⟨fun x y=>by rw [h.swap x y],fun x y z h1 h2=>by
 have:=h.trans z y x (by have:=h.swap y z;omega) (by have:=h.swap x y;omega)
 have:=h.swap x z;omega⟩
theorem Cm.on{α β:Type}{f:β->β->Int}(h:Cm f)(e:α->β):Cm λ x y=>f (e x) (e y):=⟨λ x y=>h.swap _ _,λ x y z=>h.trans _ _ _⟩
theorem xIZ:Cm cmpV:=⟨λ x y=>xJ4 ..,λ x y z h1 h2=>xIi _ _ _ _ _ _ _ _ _ h1 h2⟩
theorem xEa{x y:Val}(h:cmpV x y=0):x=y:=by obtain⟨h1,h2,h3⟩:=(xJ5 ..).1 h;cases x;cases y;simp_all
theorem xsQ:∀x y:Row,cmpR y x=-(cmpR x y)
 |[],[]=>by simp[cmpR]
 |[],_::_=>by simp[cmpR]
 |_::_,[]=>by simp[cmpR]
 |a::x,b::y=>by
  have h1:=xIZ.swap a b;have h2:=xsQ x y;unfold cmpR;by_cases h:cmpV a b=0
  . have:cmpV b a=0:=by omega
    simp[h,this,h2]
  . have:cmpV b a≠0:=by omega
    simp[h,this,h1]
theorem xu1:∀x y z:Row,cmpR x y<=0->cmpR y z<=0->cmpR x z<=0
 |[],_,[],_,_=>by simp[cmpR]
 |[],_,_::_,_,_=>by simp[cmpR]
 |_::_,[],_,h,_=>by simp[cmpR]at h
 |_::_,_::_,[],_,h=>by simp[cmpR]at h
 |a::x,b::y,c::z,h1,h2=>by
  unfold cmpR at h1 h2|-;have ih:=xu1 x y z;have hf:=xIZ;by_cases p:cmpV a b=0<;>by_cases q:cmpV b c=0<;>simp only[p,q,ne_eq,not_true,not_false_iff,if_true,if_false]at h1 h2
  . have c1:cmpV a c<=0:=hf.trans a b c (by omega) (by omega)
    have c2:cmpV c a<=0:=hf.trans c b a (by have:=hf.swap b c;omega) (by have:=hf.swap a b;omega)
    have:cmpV a c=0:=by have:=hf.swap a c;omega
    simp only[this,ne_eq,not_true,if_false];exact ih h1 h2
  . have:=hf.lt2 (x:=a) (y:=b) (z:=c) (by omega) (by omega)
    have h0:cmpV a c≠0:=by omega
    simp only[ne_eq,h0,not_false_iff,if_true];omega
  . have:=hf.lt1 (x:=a) (y:=b) (z:=c) (by omega) (by omega)
    have h0:cmpV a c≠0:=by omega
    simp only[ne_eq,h0,not_false_iff,if_true];omega
  . have:=hf.lt1 (x:=a) (y:=b) (z:=c) (by omega) (by omega)
    have h0:cmpV a c≠0:=by omega
    simp only[ne_eq,h0,not_false_iff,if_true];omega
theorem xkT:Cm cmpR:=⟨xsQ,xu1⟩
theorem xim:∀{x y:Row},cmpR x y=0->x=y|[],[],_=>rfl|[],_::_,h=>by simp[cmpR]at h|_::_,[],h=>by simp[cmpR]at h|a::x,b::y,h=>by unfold cmpR at h;by_cases p:cmpV a b=0;simp only[p,ne_eq,not_true,if_false]at h;rw[xEa p,xim h];simp[p]at h
theorem xsP(x:Row):cmpR x x=0:=by have:=xsQ x x;omega
theorem xr8{α:Type}{c:α->α->Int}(hc:Cm c)(h0:∀x y,c x y=0->x=y):∀{l l':List α},l.Perm l'->Sorted c l->Sorted c l'->l=l'|[],l',hp,_,_=>by simpa using hp.symm.eq_nil|x::l,[],hp,_,_=>by simpa using hp.eq_nil|x::l,y::l',hp,h1,h2=>by(have q:x=y:=by obtain⟨a1,a2⟩:=zM.1 h1;obtain⟨b1,b2⟩:=zM.1 h2;have hx:x∈y::l':=hp.mem_iff.1 (by simp);have hy:y∈x::l:=hp.mem_iff.2 (by simp);rcases zC.1 hx with h|h;exact h;rcases zC.1 hy with h'|h';exact h'.symm;have:=a1 y h';have:=b1 x h;have:=hc.swap x y;exact h0 x y (by omega));subst q;rw[xr8 hc h0 ((List.perm_cons _).1 hp) (zM.1 h1).2 (zM.1 h2).2]
end Go.Sim.M
end
noncomputable section
set_option maxRecDepth 100000
namespace Go.Sim.M
open Go.RowKit Go.Sim.Srt
def xgg{σ ρ:Type}{step:σ->Option (σ⊕ρ)}(st:Nat->σ)(n:Nat)(r:ρ)(hs:∀k,k<n->step (st k)=some (.inl (st (k+1))))(he:step (st n)=some (.inr r)):∀d k,k+d=n->Iter step (st k)=some r|0,k,h=>by(have:k=n:=by omega);subst this;exact xad he|d+1,k,h=>by rw[xae (hs k (by omega))];exact xgg st n r hs he d (k+1) (by omega)
def xsU{σ ρ α β:Type}{step:σ->Option (σ⊕ρ)}(l:List α)(f:β->α->β)(st:Nat->β->σ)(I:Nat->β->Prop){r:ρ}(hs:∀(n:Nat)(h:n<l.length)(b:β),I n b->step (st n b)=some (.inl (st (n+1) (f b l[n])))/\I (n+1) (f b l[n])):∀(d n:Nat)(b:β),n+d=l.length->I n b->step (st l.length ((l.drop n).foldl f b))=some (.inr r)->Iter step (st n b)=some r|0,n,b,h,hi,he=>by(have:n=l.length:=by omega);subst this;rw[zq (zd _)]at he;exact xad he|d+1,n,b,h,hi,he=>by(have hn:n<l.length:=by omega);obtain⟨h1,h2⟩:=hs n hn b hi;rw[xae h1];rw[xas hn]at he;exact xsU l f st I hs d (n+1) (f b l[n]) (by omega) h2 he
def xho{α β:Type}{step:Nat×Int×List AV->Option ((Nat×Int×List AV)⊕(Nat×List AV))}(l:List α)(g:α->List β)(eb:β->AV)(c:Nat)(hc:∀a,a∈l->(g a).length<=c)(hs:∀(n:Nat)(h:n<l.length)(D:List β),D.length<=c*n->step (D.length,(n:Int),D.map eb)=some (.inl ((D++g l[n]).length,((n+1:Nat):Int),(D++g l[n]).map eb)))(he:∀D:List β,step (D.length,(l.length:Int),D.map eb)=some (.inr (D.length,D.map eb))):Iter step ((0:Nat),(0:Int),[])=some ((l.flatMap g).length,(l.flatMap g).map eb):=by(have key:∀(d n:Nat)(D:List β),n+d=l.length->D.length<=c*n->Iter step (D.length,(n:Int),D.map eb)=some ((D++(l.drop n).flatMap g).length,(D++(l.drop n).flatMap g).map eb):=by intro d;induction d with|zero=>(intro n D h hD;have:n=l.length:=by omega);subst this;rw[zq (zd _),List.flatMap_nil,zD];exact xad (he D)|succ d ih=>(intro n D h hD;have hn:n<l.length:=by omega);(have h2:(D++g l[n]).length<=c*(n+1):=by rw[z8,Nat.mul_add,Nat.mul_one];have:=hc l[n] (zo hn);omega);rw[xae (hs n hn D hD),ih (n+1) (D++g l[n]) (by omega) h2,xas hn,zR,zw]);have:=key l.length 0 [] (by omega) (by simp);simpa using this
def xjN{α β:Type}{g:α->List β}{c:Nat}:∀(l:List α),(∀a,a∈l->(g a).length<=c)->(l.flatMap g).length<=c*l.length|[],_=>by simp|a::l,h=>by have h1:=h a (by simp);have h2:=xjN l λ b hb=>h b (by simp[hb]);rw[zR,z8,zF,Nat.mul_add,Nat.mul_one];omega
def xLT{α β:Type}(f:α->β):∀l:List α,(l.flatMap λ a=>[f a])=l.map f|[]=>rfl|a::l=>by rw[zR,xLT f l];rfl
def xD3{α:Type}(o:Option α)(d:α):br o.isSome (some (o.getD d)) none=o:=by cases o<;>rfl
def xLq{n:Nat}(h:n+1<=4611686018427387904):IntKind.i64.wrap ((n:Int)+1)=((n+1:Nat):Int):=by rw[xaw (by omega) (by omega)];omega
structure Fc where
 r:Row
 p:Per
def encF(f:Fc):AV:=.agg [.list 3 (f.r.map encV),.int .i64 f.p.1,.int .i64 f.p.2]
def encN(n:Int):AV:=.int .i64 n
abbrev Cnt:=Per×Int
def encC(c:Cnt):AV:=.agg [.int .i64 c.1.1,.int .i64 c.1.2,.int .i64 c.2]
def cF0(f:Fc):((encF f).cells.getD 0 .top).toList=f.r.map encV:=rfl
def cF1(f:Fc):((encF f).cells.getD 1 .top).toInt=f.p.1:=rfl
def cF2(f:Fc):((encF f).cells.getD 2 .top).toInt=f.p.2:=rfl
def sF0(f:Fc):xMf (Sh.list 3) ((encF f).cells.getD 0 .top):=rfl
def sF1(f:Fc):xMf (Sh.int .i64) ((encF f).cells.getD 1 .top):=rfl
def sF2(f:Fc):xMf (Sh.int .i64) ((encF f).cells.getD 2 .top):=rfl
def lF(f:Fc):((encF f).cells.length==3):=rfl
def sF12(f:Fc):xMm [Sh.int .i64,Sh.int .i64] (encF f).cells 1:=rfl
def sF02(f:Fc):xMm [Sh.list 3,Sh.int .i64,Sh.int .i64] (encF f).cells 0:=rfl
def cP0(p:Per):((encP p).cells.getD 0 .top).toInt=p.1:=rfl
def cP1(p:Per):((encP p).cells.getD 1 .top).toInt=p.2:=rfl
def lP(p:Per):((encP p).cells.length==2):=rfl
def sP(p:Per):xMm [Sh.int .i64,Sh.int .i64] (encP p).cells 0:=rfl
def sP0(p:Per):xMf (Sh.int .i64) ((encP p).cells.getD 0 .top):=rfl
def sP1(p:Per):xMf (Sh.int .i64) ((encP p).cells.getD 1 .top):=rfl
def cN(n:Int):((encN n).cells.getD 0 .top).toInt=n:=rfl
def sN(n:Int):xMf (Sh.int .i64) ((encN n).cells.getD 0 .top):=rfl
def cC0(c:Cnt):((encC c).cells.getD 0 .top).toInt=c.1.1:=rfl
def cC1(c:Cnt):((encC c).cells.getD 1 .top).toInt=c.1.2:=rfl
def cC2(c:Cnt):((encC c).cells.getD 2 .top).toInt=c.2:=rfl
def sC0(c:Cnt):xMf (Sh.int .i64) ((encC c).cells.getD 0 .top):=rfl
def sC1(c:Cnt):xMf (Sh.int .i64) ((encC c).cells.getD 1 .top):=rfl
def lC(c:Cnt):((encC c).cells.length==3):=rfl
def sC(c:Cnt):xMm [Sh.int .i64,Sh.int .i64] (encC c).cells 0:=rfl
def sC3(c:Cnt):xMm [Sh.int .i64,Sh.int .i64,Sh.int .i64] (encC c).cells 0:=rfl
def sC2(c:Cnt):xMf (Sh.int .i64) ((encC c).cells.getD 2 .top):=rfl
def cR0(x:Row):((encR x).cells.getD 0 .top).toList=x.map encV:=rfl
def sR0(x:Row):xMf (Sh.list 3) ((encR x).cells.getD 0 .top):=rfl
def xl7(p:Per):xgh p.1 p.2=pv p:=by unfold xgh pv;by_cases h1:0<=p.1<;>by_cases h2:p.1<p.2<;>simp[h1,h2,xav,sUF]
def xkd(p:Per):xeR p.1 p.2=pv p:=by unfold xeR pv;by_cases h1:0<=p.1<;>by_cases h2:p.1<p.2<;>simp[h1,h2,xav,sUF]
def xz6(p:Per)(t:Int):xhW p.1 p.2 t=hasP p t:=by unfold xhW hasP;rw[xkd];by_cases h1:p.1<=t<;>cases pv p<;>simp[h1,xav,sUF]
end Go.Sim.M
end
