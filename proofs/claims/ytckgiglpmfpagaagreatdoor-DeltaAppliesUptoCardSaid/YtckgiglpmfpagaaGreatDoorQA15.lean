/- Part 15 of the proof of the law. -/
import Derived.Test.YtckgiglpmfpagaaGreatDoorQA14
import Derived.ProofKit
import Derived.OpenShut
import Derived.Carry
import Derived.Deep.Slices
set_option linter.unusedVariables false
set_option linter.unusedSimpArgs false
noncomputable section
namespace Go.Sim
open Go.RowKit Go.ChangeShapes Go.WideShapes Go.ChangeAt
inductive Ty where
 | int (k:IntKind)
 | bool
 | str
 | slice (es:List Ty)
def xrn (P:Program) (f:TypeId->Option (List Ty)):Nat->List Field->Option (List Ty)
 | _,[]=>some []
 | off,x::r=>match Nat.beq x.offset off with
  | true=>match f x.type with
   | some l=>match Nat.beq l.length (P.cellsOf x.type) with
    | true=>match xrn P f (off+l.length) r with
     | some m=>some (l++m)
     | none=>none
    | false=>none
   | none=>none
  | false=>none
def flat (P:Program):Nat->TypeId->Option (List Ty)
 | 0,_=>none
 | n+1,t=>match P.underlying t with
  | some (.int k)=>some [.int k]
  | some .string=>some [.str]
  | some .bool=>some [.bool]
  | some (.slice e)=>match flat P n e with
   | some es=>match Nat.beq es.length (P.cellsOf e)&&Nat.blt 0 es.length with
    | true=>some [.slice es]
    | false=>none
   | none=>none
  | some (.struct fs)=>match xrn P (flat P n) 0 fs.toList with
   | some l=>match Nat.beq l.length (P.cellsOf t) with
    | true=>some l
    | false=>none
   | none=>none
  | _=>none
def xsn:List AV->AV
 | [c]=>c
 | cs=>.agg cs
mutual
def AV.wt:AV->Nat
 | .str s=>s.length+1
 | .list _ xs=>AV.wts xs+1
 | .agg cs=>AV.wts cs
 | _=>1
def AV.wts:List AV->Nat
 | []=>0
 | x::xs=>AV.wt x+AV.wts xs
end
theorem xjS (a b:List AV):AV.wts (a++b)=AV.wts a+AV.wts b:=by
 induction a with
 | nil=>simp [AV.wts]
 | cons x a ih=>simp [AV.wts,ih];omega
theorem xoF (a:List AV):AV.wt (xsn a)=AV.wts a:=by
 match a with
 | []=>rfl
 | [c]=>simp [xsn,AV.wts]
 | x::y::r=>rfl
theorem xqg {n:Nat} {f:Nat->AV} {g:Nat->Nat} (h:∀ i,i<n->AV.wt (f i)<=g i):AV.wts ((List.range n).map f)<=((List.range n).map g).sum:=by
 induction n with
 | zero=>simp [AV.wts]
 | succ n ih =>
  rw [List.range_succ,zw,zw,xjS,List.sum_append];have:=ih fun i hi=>h i (by omega)
  have:=h n (by omega)
  simp [AV.wts];omega
structure Meas {H:Type} (μ:DataW H->Nat):Prop where
 lit:∀ l,1<=μ (.lit l)
 str:∀ s,s.length+1<=μ (.lit (.string s))
 nil:1<=μ .nil
 slice:∀ es sp,(es.map μ).sum+1<=μ (.slice es sp)
 agg:∀ l,(l.map μ).sum<=μ (.agg l)
inductive OfTy:Ty->AV->Prop
 | int (k:IntKind) (n:Int) (h:(Lit.int k n).wf=true):OfTy (.int k) (.int k n)
 | bool (b:Bool):OfTy .bool (.bool b)
 | str (s:List UInt8) (h:s.length<=maxLen):OfTy .str (.str s)
 | slice (es:List Ty) (xs:List AV) (h:xs.length<=maxLen) (hl:∀ x,x∈xs->x.cells.length=es.length/\x=xsn x.cells) (hx:∀ x j,x∈xs->j<es.length->OfTy (es.getD j .bool) (x.cells.getD j .top)):OfTy (.slice es) (.list es.length xs)
theorem OfTy.one {T:Ty} {x:AV} (h:OfTy T x):x.one=true:=by cases h<;>rfl
inductive Opens (w:World):List Ty->List Value->List AV->Prop
 | nil:Opens w [] [] []
 | cons {T:Ty} {v:Value} {a:AV} {Ts vs aS} (h:Rel w (fun _=>False) xr1 v a) (ht:OfTy T a) (r:Opens w Ts vs aS):Opens w (T::Ts) (v::vs) (a::aS)
theorem Opens.append {w:World} {Ts Us:List Ty} {vs us aS bs} (h:Opens w Ts vs aS) (h':Opens w Us us bs):Opens w (Ts++Us) (vs++us) (aS++bs):=by
 induction h with
 | nil=>exact h'
 | cons h ht r ih=>exact .cons h ht ih
theorem Opens.len {w:World} {Ts vs aS} (h:Opens w Ts vs aS):vs.length=Ts.length/\aS.length=Ts.length:=by
 induction h with
 | nil=>exact ⟨rfl,rfl⟩
 | cons h ht r ih=>simp [ih.1,ih.2]
theorem Opens.get {w:World} {Ts vs aS} (h:Opens w Ts vs aS):∀ i,i<Ts.length->Rel w (fun _=>False) xr1 (vs.getD i undef) (aS.getD i .top)/\OfTy (Ts.getD i .bool) (aS.getD i .top):=by
 induction h with
 | nil=>intro i hi;simp at hi
 | cons h ht r ih =>
  intro i hi;cases i with
  | zero=>exact ⟨by simpa using h,by simpa using ht⟩
  | succ i=>simpa using ih i (by simpa using hi)
theorem Opens.all_one {w:World} {Ts vs aS} (h:Opens w Ts vs aS):aS.all AV.one=true:=by
 induction h with
 | nil=>rfl
 | cons h ht r ih=>simp [ht.one,ih]
theorem xli {aS:List AV} (h:aS.all AV.one=true) (hne:0<aS.length):(xsn aS).cells=aS:=by
 match aS,h,hne with
 | [c],h,_=>cases c<;>first|rfl|simp [AV.one] at h
 | a::b::r,_,_=>rfl
section
variable {H : Type} {enc : TypeId × Value -> H} {P : Program} {w : World} {base : Nat} {sp : Nat -> Bool} {held : Bool}
theorem xmH {n:Nat} {f:TypeId->Option (List Ty)} (hf:∀ t Ts,f t=some Ts->∀ cs x,DataW.trod enc P w base sp held n t cs=some x->∃ aS,Opens w Ts cs aS/\∀ μ:DataW H->Nat,Meas μ->AV.wts aS<=μ x.1) :
  ∀ (l:List Field) (off:Nat) (Ts:List Ty) (cs:List Value) (ys:List (DataW H×List MemPlace)),xrn P f off l=some Ts->cs.length=Ts.length->ys.length=l.length->(∀ (i:Nat) (x:Field),l[i]?=some x->DataW.trod enc P w base sp held n x.type ((cs.drop (x.offset - off)).take (P.cellsOf x.type))=ys[i]?) ->
   ∃ aS,Opens w Ts cs aS/\∀ μ:DataW H->Nat,Meas μ->AV.wts aS<=(ys.map fun y=>μ y.1).sum
 | [],off,Ts,cs,ys,h,hl,hyl,_=>by
  simp [xrn] at h;subst h;obtain rfl:cs=[]:=zz hl;exact ⟨[],.nil,fun μ _=>by simp [AV.wts]⟩
 | x::r,off,Ts,cs,[],h,hl,hyl,hx=>by simp at hyl
 | x::r,off,Ts,cs,y::ys,h,hl,hyl,hx=>by
  simp only [xrn] at h;split at h<;>try (simp at h;done)
  rename_i ho;split at h<;>try (simp at h;done)
  rename_i l1 U;split at h<;>try (simp at h;done)
  rename_i hn;split at h<;>try (simp at h;done)
  rename_i m hm;cases h;have ho:=zf ho;have hn:=zf hn;simp only [z7] at hl;have hy:=hx 0 x rfl;rw [ho,Nat.sub_self,zq,<-hn,zX] at hy;obtain ⟨aS,ha,V⟩:=hf _ _ U _ _ hy;have O:∀ (l:List Field) (o:Nat) (m:List Ty),xrn P f o l=some m->∀ z,z∈l->o<=z.offset:=by
   intro l;induction l with
   | nil=>intro o m _ z hz;simp at hz
   | cons z0 l ih =>
    intro o m h z hz;simp only [xrn] at h;split at h<;>try (simp at h;done)
    rename_i q;split at h<;>try (simp at h;done)
    split at h<;>try (simp at h;done)
    split at h<;>try (simp at h;done)
    rename_i J;have q:=zf q;rcases zB.1 hz with rfl|hz
    . omega
    . exact Nat.le_trans (by omega) (ih _ _ J z hz)
  obtain ⟨bs,hb,Q⟩:=xmH hf r (off+l1.length) m (cs.drop l1.length) ys hm (by rw [zZ];omega) (by simpa using hyl) (fun i z hz=>by
   have hy':=hx (i+1) z (by simpa using hz)
   have:=O _ _ _ hm z (List.mem_of_getElem? hz);rw [List.drop_drop,show l1.length+(z.offset - (off+l1.length))=z.offset - off by omega]
   simpa using hy')
  refine ⟨aS++bs,?_,fun μ hμ=>?_⟩
  . have:=ha.append hb;rwa [List.take_append_drop] at this
  . have h1:=V μ hμ;have h2:=Q μ hμ;simp only [zU,List.sum_cons,xjS];omega
theorem xgh:∀ (n:Nat) (t:TypeId) (Ts:List Ty),flat P n t=some Ts->∀ (fuel:Nat) (cs:List Value) x,DataW.trod enc P w base sp held fuel t cs=some x->∃ aS,Opens w Ts cs aS/\∀ μ:DataW H->Nat,Meas μ->AV.wts aS<=μ x.1
 | 0,_,_,h,_,_,_,_=>by simp [flat] at h
 | n+1,t,Ts,h,fuel,cs,x,hd=>by
  simp only [flat] at h;split at h
  . rename_i k ht;simp only [z1] at h;subst h;obtain ⟨m,rfl,rfl,hw⟩:=DataW.trod_int ht hd;exact ⟨[.int k m],.cons (.int k m) (.int k m hw) .nil,fun μ hμ=>by have:=hμ.lit (.int k m);simpa [AV.wts,AV.wt] using this⟩
  . rename_i ht;simp only [z1] at h;subst h;obtain ⟨s,rfl,rfl,hw⟩:=DataW.trod_string ht hd;exact ⟨[.str s.data.toList],.cons (.str s) (.str _ (by simpa using hw)) .nil,fun μ hμ=>by have:=hμ.str s.data.toList;simpa [AV.wts,AV.wt] using this⟩
  . rename_i ht;simp only [z1] at h;subst h;obtain ⟨b,rfl,rfl⟩:=DataW.trod_bool ht hd;exact ⟨[.bool b],.cons (.bool b) (.bool b) .nil,fun μ hμ=>by have:=hμ.lit (.bool b);simpa [AV.wts,AV.wt] using this⟩
  . rename_i e ht;split at h<;>try (simp at h;done)
    rename_i es ak;split at h<;>try (simp at h;done)
    rename_i hc;simp only [z1] at h;subst h;simp only [ze] at hc;have U:=zf hc.1;have aa:0<es.length:=by simpa using hc.2
    rcases Deep.open_slice ht hd with ⟨rfl,rfl⟩|⟨a,len,cap,m,n',D,Pl,rfl,hb,hl,hm,ah,rfl,hx⟩
    . exact ⟨[.list es.length []],.cons (.list0 _ _ _) (.slice es [] (by simp) (fun x hx=>by simp at hx) (fun x j hx=>by simp at hx)) .nil,fun μ hμ=>by have:=hμ.nil;simpa [AV.wts,AV.wt] using this⟩
    . have an:len<=m:=by subst ah;split<;>omega
      have af:∀ i,i<len->∃ p:List Value×List AV,w.cells? base (a.add (i*P.cellsOf e)) (P.cellsOf e)=some p.1/\Opens w es p.1 p.2/\∀ μ:DataW H->Nat,Meas μ->AV.wts p.2<=μ (D i):=fun i hi=>by
       obtain ⟨Q,h1,h2⟩:=hx i (by omega)
       obtain ⟨aS,ha,hw⟩:=xgh n e es ak _ _ _ h2;exact ⟨(Q,aS),h1,ha,hw⟩
      obtain ⟨f,hf⟩:=Deep.choose_lt (α:=List Value×List AV) af;have q:((List.range len).map fun i=>xsn (f i).2).length=len:=by simp
      have ab:∀ i,i<len->((List.range len).map fun i=>xsn (f i).2).getD i .top=xsn (f i).2:=fun i hi=>by simp [List.getD,hi]
      have O:∀ i,i<len->(xsn (f i).2).cells=(f i).2:=fun i hi=>xli (hf i hi).2.1.all_one (by rw [(hf i hi).2.1.len.2];exact aa)
      have ac:OfTy (.slice es) (.list es.length ((List.range len).map fun i=>xsn (f i).2)):=by
       refine .slice es _ (by rw [q];omega) (fun x hx=>?_) (fun x j hx hj=>?_)
       . obtain ⟨i,hi,rfl⟩:=zJ.1 hx;have hi:=List.mem_range.1 hi;rw [O i hi];exact ⟨(hf i hi).2.1.len.2,rfl⟩
       . obtain ⟨i,hi,rfl⟩:=zJ.1 hx;have hi:=List.mem_range.1 hi;rw [O i hi];exact ((hf i hi).2.1.get j hj).2
      refine ⟨[_],.cons ?_ ac .nil,fun μ hμ=>by
       have h1:=hμ.slice ((List.range len).map D) ((List.range (m - len)).map fun j=>D (len+j))
       have h2:=xqg (n:=len) (f:=fun i=>xsn (f i).2) (g:=fun i=>μ (D i)) fun i hi=>by rw [xoF];exact (hf i hi).2.2 μ hμ
       rw [List.map_map] at h1;change ((List.range len).map fun i=>μ (D i)).sum+1<=_ at h1
       simp only [AV.wts,AV.wt];exact Nat.le_trans (by omega) h1⟩
      rcases Nat.eq_zero_or_pos len with rfl|Z
      . exact .list0 _ _ _
      ·
       have h0:=World.cells?_some (hf 0 Z).1;have J:=h0.2.2 0 (by omega)
       rw [show (f 0).1[0]?=some ((f 0).1.getD 0 undef) by
        rw [zd (by rw [h0.2.1];omega)];simp [List.getD,h0.2.1,<-U,aa]] at J
       have ad:a.spot=none/\a.block<w.heap.size:=by
        unfold World.cell? at J;have e1:(a.add (0*P.cellsOf e)).add 0=a:=by simp [Addr.add]
        rw [e1] at J;split at J
        . rename_i c _ _ al;split at J
          . simp at J
          . rename_i ae;exact ⟨by simpa using ae,(Array.getElem?_eq_some_iff.1 al).1⟩
        . simp at J
       obtain ⟨V,off,am⟩:=a;obtain ⟨rfl,Y⟩:=ad;have:=Rel.list (w:=w) (A:=fun _=>False) (M:=xr1) V off cap es.length ((List.range len).map fun i=>xsn (f i).2) (fun i j=>(f i).1.getD j undef) (fun h=>h) Y (fun h=>by
        have:=congrArg List.length h;simp at this;omega) (by rw [q];exact hl) (fun x hx=>by
        obtain ⟨i,hi,rfl⟩:=zJ.1 hx;have hi:=List.mem_range.1 hi;simp only [AV.okElem,O i hi,(hf i hi).2.1.all_one,(hf i hi).2.1.len.2,zR,beq_self_eq_true]) (fun i j hi hj=>by
        rw [q] at hi;have hh:=World.cells?_some (hf i hi).1;have:=hh.2.2 j (by omega)
        rw [Deep.add_add] at this;have e2:(⟨V,off,none⟩:Addr).add (i*P.cellsOf e+j)=⟨V,off+i*es.length+j,none⟩:=by
         rw [<-U];unfold Addr.add;split
         . rename_i h0;simp [Nat.add_assoc,h0]
         . simp [Nat.add_assoc]
        rw [e2] at this;rw [this,zd (by rw [hh.2.1];omega)]
        simp [List.getD,hh.2.1,<-U,hj]) (fun i j hi hj=>by
        rw [q] at hi;rw [ab i hi,O i hi];exact ((hf i hi).2.1.get j hj).1)
       rwa [q] at this
  . rename_i fs ht;split at h<;>try (simp at h;done)
    rename_i l hl;split at h<;>try (simp at h;done)
    rename_i hn;simp only [z1] at h;subst h;have hn:=zf hn;obtain ⟨xs,m,rfl,hx,q,ai,ag⟩:=DataW.trod_struct ht hd;obtain ⟨aS,ha,hw⟩:=xmH (n:=m) (fun t' Ts' h' Q x' aj=>xgh n t' Ts' h' m Q x' aj) fs.toList 0 l cs xs hl (by rw [q,hn]) (by simpa using ai) (fun i z hz=>by
     have:=ag i z (by simpa using hz)
     simpa using this)
    refine ⟨aS,ha,fun μ hμ=>Nat.le_trans (hw μ hμ) ?_⟩
    have:=hμ.agg (xs.map (·.1));rw [hx];simpa [List.map_map,Function.comp_def] using this
  . simp at h
end
end Go.Sim
end
noncomputable section
namespace Go.Sim.Srt
open Go.Sim
variable {α : Type}
structure Ord (c:α->α->Int):Prop where
 anti:∀ x y,0<c x y↔c y x<0
 trans:∀ x y z,c x y<=0->c y z<=0->c x z<=0
def Sorted (c:α->α->Int) (l:List α):Prop:=l.Pairwise fun x y=>c x y<=0
inductive Full (c:α->α->Int) (bs:Nat):List α->Prop where
 | nil:Full c bs []
 | snoc {D m:List α}:Full c bs D->m.length=bs->Sorted c m->Full c bs (D++m)
inductive Bl (c:α->α->Int) (bs:Nat):List α->Prop where
 | last {m:List α}:m.length<=bs->Sorted c m->Bl c bs m
 | more {m R:List α}:m.length=bs->Sorted c m->Bl c bs R->Bl c bs (m++R)
end Go.Sim.Srt
end
noncomputable section
namespace Go.Sim.M
theorem xoY {σ ρ:Type} {step:σ->Option (σ⊕ρ)} (I:σ->Prop) (μ:σ->Nat) (Q:ρ->Prop)
  (h:∀ s,I s->(∃ s',step s=some (.inl s')/\I s'/\μ s'<μ s)\/∃ r,step s=some (.inr r)/\Q r):∀ s,I s->∃ r,Iter step s=some r/\Q r:=by
 intro s;induction hn:μ s using Nat.strongRecOn generalizing s with
 | ind n ih =>
  intro hs;rcases h s hs with ⟨s',h1,h2,h3⟩|⟨r,h1,h2⟩
  . obtain ⟨r,k1,k2⟩:=ih (μ s') (by omega) s' rfl h2
    exact ⟨r,by rw [xbw h1];exact k1,k2⟩
  . exact ⟨r,xbg h1,h2⟩
abbrev Per:Type:=Int×Int
def pv (p:Per):Bool:=decide (0<=p.1)&&(decide (p.1<p.2)&&decide (p.2<=1099511627776))
def hasP (p:Per) (t:Int):Bool:=pv p&&(decide (p.1<=t)&&decide (t<p.2))
def inL (l:List Per) (t:Int):Bool:=l.any (hasP · t)
theorem xbR {p:Per}:pv p=true↔0<=p.1/\p.1<p.2/\p.2<=1099511627776:=by simp [pv]
theorem xbO {p:Per} {t:Int}:hasP p t=true↔pv p=true/\p.1<=t/\t<p.2:=by simp [hasP]
theorem xbK {l:List Per} {t:Int}:inL l t=true↔∃ p,p∈l/\pv p=true/\p.1<=t/\t<p.2:=by
 unfold inL;rw [List.any_eq_true];constructor
 . rintro ⟨p,h1,h2⟩;exact ⟨p,h1,xbO.1 h2⟩
 . rintro ⟨p,h1,h2⟩;exact ⟨p,h1,xbO.2 h2⟩
theorem xpQ {l:List Per} {t:Int} (h:inL l t=true):0<=t/\t<1099511627776:=by
 obtain ⟨p,_,h2,h3,h4⟩:=xbK.1 h;have:=xbR.1 h2;omega
theorem xeV (p:Per) (l:List Per) (t:Int):inL (p::l) t=(hasP p t || inL l t):=rfl
theorem xet (a b:List Per) (t:Int):inL (a++b) t=(inL a t || inL b t):=by simp [inL]
theorem xgE (t:Int):inL [] t=false:=rfl
def IsSpan (l:List Per):Prop:=(∀ p,p∈l->pv p=true)/\l.Pairwise fun p q=>p.2<q.1
theorem xnc:IsSpan []:=⟨fun p h=>(by cases h),List.Pairwise.nil⟩
theorem xjP {p q:Per} {l m:List Per} (hp:pv p=true) (hm:IsSpan (q::m)) (h:∀ t,inL (p::l) t=inL (q::m) t):q.1<=p.1:=by
 have h0:=xbR.1 hp;have h1:inL (p::l) p.1=true:=xbK.2 ⟨p,List.mem_cons_self ..,hp,Int.le_refl _,h0.2.1⟩;rw [h] at h1;obtain ⟨r,hr,_,h2,_⟩:=xbK.1 h1;rcases zB.1 hr with rfl|hr
 . exact h2
 . have:=(zL.1 hm.2).1 r hr;have:=xbR.1 (hm.1 q (List.mem_cons_self ..));omega
theorem xiM {p q:Per} {l m:List Per} (hl:IsSpan (p::l)) (hq:pv q=true) (he:p.1=q.1) (h:∀ t,inL (p::l) t=inL (q::m) t):q.2<=p.2:=by
 rcases Int.lt_or_le p.2 q.2 with J|O
 . have h0:=xbR.1 (hl.1 p (List.mem_cons_self ..));have h1:inL (q::m) p.2=true:=xbK.2 ⟨q,List.mem_cons_self ..,hq,by omega,J⟩
   rw [<-h] at h1;obtain ⟨r,hr,_,h2,h3⟩:=xbK.1 h1;rcases zB.1 hr with rfl|hr
   . omega
   . have:=(zL.1 hl.2).1 r hr;omega
 . exact O
theorem xkM {p:Per} {l:List Per} (hl:IsSpan (p::l)) {t:Int} (h:hasP p t=true):inL l t=false:=by
 cases hc:inL l t with
 | false=>rfl
 | true =>
  obtain ⟨r,hr,_,h2,_⟩:=xbK.1 hc;have:=(zL.1 hl.2).1 r hr;have:=(xbO.1 h).2;omega
theorem xiN:∀ {l m:List Per},IsSpan l->IsSpan m->(∀ t,inL l t=inL m t)->l=m
 | [],[],_,_,_=>rfl
 | [],q::m,_,hm,h=>by
  have hq:=hm.1 q (List.mem_cons_self ..);have:inL (q::m) q.1=true:=xbK.2 ⟨q,List.mem_cons_self ..,hq,Int.le_refl _,(xbR.1 hq).2.1⟩;rw [<-h] at this;cases this
 | p::l,[],hl,_,h=>by
  have hp:=hl.1 p (List.mem_cons_self ..);have:inL (p::l) p.1=true:=xbK.2 ⟨p,List.mem_cons_self ..,hp,Int.le_refl _,(xbR.1 hp).2.1⟩;rw [h] at this;cases this
 | p::l,q::m,hl,hm,h=>by
  have hp:=hl.1 p (List.mem_cons_self ..);have hq:=hm.1 q (List.mem_cons_self ..);have e1:p.1=q.1:=Int.le_antisymm (xjP hq hl fun t=>(h t).symm) (xjP hp hm h)
  have e2:p.2=q.2:=Int.le_antisymm (xiM hm hp e1.symm fun t=>(h t).symm) (xiM hl hq e1 h)
  have e:p=q:=Prod.ext e1 e2;subst e;have hl':IsSpan l:=⟨fun r hr=>hl.1 r (List.mem_cons_of_mem _ hr),(zL.1 hl.2).2⟩
  have hm':IsSpan m:=⟨fun r hr=>hm.1 r (List.mem_cons_of_mem _ hr),(zL.1 hm.2).2⟩
  rw [xiN hl' hm' fun t=>?_]
  cases hc:hasP p t with
  | true=>rw [xkM hl hc,xkM hm hc]
  | false=>have:=h t;rwa [xeV,xeV,hc,Bool.false_or,Bool.false_or] at this
structure OutOk (out:List Per) (at':Int) (K:Int->Bool):Prop where
 span:IsSpan out
 low:∀ p,p∈out->p.2<=at'
 val:∀ t,0<=t->t<at'->inL out t=K t
theorem OutOk.past {out:List Per} {at':Int} {K:Int->Bool} (h:OutOk out at' K) {t:Int} (ht:at'<=t):inL out t=false:=by
 cases hc:inL out t with
 | false=>rfl
 | true =>
  obtain ⟨p,hp,_,h2,h3⟩:=xbK.1 hc;have:=h.low p hp;omega
theorem OutOk.skip {out:List Per} {at' nx:Int} {K:Int->Bool} (h:OutOk out at' K) (O:at'<=nx) (hK:∀ t,at'<=t->t<nx->K t=false):OutOk out nx K :=
 ⟨h.span,fun p hp=>by have:=h.low p hp;omega,fun t h1 h2=>by
  rcases Int.lt_or_le t at' with J|q
  . exact h.val t h1 J
  . rw [h.past q,hK t q h2]⟩
theorem OutOk.add {out:List Per} {at' nx:Int} {K:Int->Bool} (h:OutOk out at' K) (h0:0<=at') (J:at'<nx) (hF:nx<=1099511627776) (hK:∀ t,at'<=t->t<nx->K t=true) (hne:∀ p,p∈out->p.2≠at'):OutOk (out++[(at',nx)]) nx K:=by
 have hp:pv (at',nx)=true:=xbR.2 ⟨h0,J,hF⟩;refine ⟨⟨fun p hm=>?_,?_⟩,fun p hm=>?_,fun t h1 h2=>?_⟩
 . rcases zF.1 hm with hm|hm
   . exact h.span.1 p hm
   . rw [zu.1 hm];exact hp
 . refine List.pairwise_append.2 ⟨h.span.2,List.pairwise_singleton ..,fun p hm q hq=>?_⟩
   rw [zu.1 hq];have:=h.low p hm;have:=hne p hm;show p.2<at';omega
 . rcases zF.1 hm with hm|hm
   . have:=h.low p hm;omega
   . rw [zu.1 hm];exact Int.le_refl _
 . rw [xet,xeV,xgE,Bool.or_false];rcases Int.lt_or_le t at' with hl|hg
   . rw [h.val t h1 hl];have:hasP (at',nx) t=false:=by
      cases hc:hasP (at',nx) t with
      | false=>rfl
      | true=>have:=(xbO.1 hc).2.1;simp only at this;omega
     rw [this,Bool.or_false]
   . rw [h.past hg,hK t hg h2,Bool.false_or];exact xbO.2 ⟨hp,hg,h2⟩
theorem OutOk.ext {o:List Per} {p:Per} {at' nx:Int} {K:Int->Bool} (h:OutOk (o++[p]) at' K) (he:p.2=at') (V:at'<nx) (hF:nx<=1099511627776) (hK:∀ t,at'<=t->t<nx->K t=true):OutOk (o++[(p.1,nx)]) nx K:=by
 have O:=xbR.1 (h.span.1 p (List.mem_append_right _ (zu.2 rfl)));have hp:pv (p.1,nx)=true:=xbR.2 ⟨O.1,by show p.1<nx;omega,hF⟩
 obtain ⟨U,_,J⟩:=List.pairwise_append.1 h.span.2;refine ⟨⟨fun q hm=>?_,?_⟩,fun q hm=>?_,fun t h1 h2=>?_⟩
 . rcases zF.1 hm with hm|hm
   . exact h.span.1 q (List.mem_append_left _ hm)
   . rw [zu.1 hm];exact hp
 . refine List.pairwise_append.2 ⟨U,List.pairwise_singleton ..,fun q hm r hr=>?_⟩
   rw [zu.1 hr];exact J q hm p (zu.2 rfl)
 . rcases zF.1 hm with hm|hm
   . have:=J q hm p (zu.2 rfl);omega
   . rw [zu.1 hm];exact Int.le_refl _
 . rcases Int.lt_or_le t at' with hl|hg
   . rw [<-h.val t h1 hl,xet,xet,xeV,xeV,xgE];have:hasP (p.1,nx) t=hasP p t:=by
      have Q:=h.span.1 p (List.mem_append_right _ (zu.2 rfl));unfold hasP;rw [hp,Q];have e1:decide (t<nx)=true:=decide_eq_true (by omega)
      have e2:decide (t<p.2)=true:=decide_eq_true (by omega)
      simp only [e1,e2]
     rw [this]
   . rw [hK t hg h2,xet,xeV];have:hasP (p.1,nx) t=true:=xbO.2 ⟨hp,by show p.1<=t;omega,h2⟩
     rw [this];simp
theorem OutOk.done {out:List Per} {K:Int->Bool} (h:OutOk out 1099511627776 K) (t:Int):inL out t=(decide (0<=t)&&(decide (t<1099511627776)&&K t)):=by
 by_cases h1:0<=t
 . by_cases h2:t<1099511627776
   . rw [h.val t h1 h2];simp [h1,h2]
   . rw [h.past (by omega)];simp [h2]
 . have:inL out t=false:=by
    cases hc:inL out t with
    | false=>rfl
    | true=>have:=xpQ hc;omega
   rw [this];simp [h1]
end Go.Sim.M
end
noncomputable section
set_option maxRecDepth 100000
namespace Go.Sim.M
open Go.RowKit Go.Sim.Srt
theorem xlg:∀ a b:List UInt8,Lib.compareBytes a b=-1\/Lib.compareBytes a b=0\/Lib.compareBytes a b=1
 | [],[]=>by simp [Lib.compareBytes]
 | [],_::_=>by simp [Lib.compareBytes]
 | _::_,[]=>by simp [Lib.compareBytes]
 | x::a,y::b=>by
  unfold Lib.compareBytes;split
  . simp
  . split
    . simp
    . exact xlg a b
theorem xmt:∀ a b:List UInt8,Lib.compareBytes b a=-(Lib.compareBytes a b)
 | [],[]=>by simp [Lib.compareBytes]
 | [],_::_=>by simp [Lib.compareBytes]
 | _::_,[]=>by simp [Lib.compareBytes]
 | x::a,y::b=>by
  unfold Lib.compareBytes;have ih:=xmt a b;by_cases h1:x<y
  . have h2:¬ y<x:=fun h=>absurd (UInt8.lt_trans h1 h) (UInt8.lt_irrefl x)
    simp [h1,h2]
  . by_cases h2:y<x
    . simp [h1,h2]
    . simp [h1,h2,ih]
theorem xm5:∀ a b:List UInt8,Lib.compareBytes a b=0↔a=b
 | [],[]=>by simp [Lib.compareBytes]
 | [],_::_=>by simp [Lib.compareBytes]
 | _::_,[]=>by simp [Lib.compareBytes]
 | x::a,y::b=>by
  unfold Lib.compareBytes;have ih:=xm5 a b;by_cases h1:x<y
  . have:x≠y:=fun e=>by subst e;exact UInt8.lt_irrefl x h1
    simp [h1,this]
  . by_cases h2:y<x
    . have:x≠y:=fun e=>by subst e;exact UInt8.lt_irrefl x h2
      simp [h1,h2,this]
    . have:x=y:=UInt8.le_antisymm (UInt8.not_lt.1 h2) (UInt8.not_lt.1 h1);simp [h1,h2,this,ih]
theorem xlh:∀ a b c:List UInt8,Lib.compareBytes a b<=0->Lib.compareBytes b c<=0->Lib.compareBytes a c<=0
 | [],_,[],_,_=>by simp [Lib.compareBytes]
 | [],_,_::_,_,_=>by simp [Lib.compareBytes]
 | _::_,[],_,h,_=>by simp [Lib.compareBytes] at h
 | _::_,_::_,[],_,h=>by simp [Lib.compareBytes] at h
 | x::a,y::b,z::c,h1,h2=>by
  unfold Lib.compareBytes at h1 h2 |-;have ih:=xlh a b c;by_cases p1:x<y
  . by_cases p2:y<z
    . simp [UInt8.lt_trans p1 p2]
    . by_cases p3:z<y
      . simp [p2,p3] at h2
      . have:y=z:=UInt8.le_antisymm (UInt8.not_lt.1 p3) (UInt8.not_lt.1 p2);subst this;simp [p1]
  . by_cases q1:y<x
    . simp [p1,q1] at h1
    . have:x=y:=UInt8.le_antisymm (UInt8.not_lt.1 q1) (UInt8.not_lt.1 p1);subst this;simp only [p1,if_false] at h1;by_cases p2:x<z
      . simp [p2]
      . by_cases p3:z<x
        . simp [p2,p3] at h2
        . simp only [p2,p3,if_false] at h2 |-;exact ih h1 h2
theorem xpK (a b:List UInt8):Op.bytesLess a b=decide (Lib.compareBytes a b<0):=by
 induction a generalizing b with
 | nil=>cases b<;>simp [Op.bytesLess,Lib.compareBytes]
 | cons x a ih =>
  cases b with
  | nil=>simp [Op.bytesLess,Lib.compareBytes]
  | cons y b =>
   unfold Op.bytesLess Lib.compareBytes;by_cases h1:x<y
   . simp [h1]
   . by_cases h2:y<x
     . have:x≠y:=fun e=>by subst e;exact UInt8.lt_irrefl x h2
       simp [h1,h2,this]
     . have:x=y:=UInt8.le_antisymm (UInt8.not_lt.1 h2) (UInt8.not_lt.1 h1);simp [h1,h2,this,ih]
theorem xpq (x y:Int):xfb x y=if x<y then -1 else if x>y then 1 else 0:=by
 unfold xfb xbG;have e:(x != x)=false:=by simp
 have f:(y != y)=false:=by simp
 rw [e,f];simp only [xcS,xak,zk,zS,if_false,sUF]
theorem xqP (p q r:Int):xlk p q r=if p≠0 then p else if q≠0 then q else r:=by
 unfold xlk;simp only [xcS,bne_iff_ne,sUF];split
 . rfl
 . split
   . rfl
   . split
     . rfl
     . rename_i h;simpa using (Classical.not_not.1 h).symm
section
variable (ak ai bk bi ck ci : Int) (at' bt ct : List UInt8)
theorem xlQ:xaC ak ai at' bk bi bt=if ak<bk then -1 else if ak>bk then 1 else if ai<bi then -1 else if ai>bi then 1 else Lib.compareBytes at' bt:=by
 unfold xaC;rw [xqP,xpq,xpq];by_cases h1:ak<bk
 . simp [h1]
 . by_cases h2:ak>bk
   . simp [h1,h2]
   . by_cases h3:ai<bi
     . simp [h1,h2,h3]
     . by_cases h4:ai>bi<;>simp [h1,h2,h3,h4]
theorem xq9:xaC ak ai at' bk bi bt=xcK ak ai at' bk bi bt:=by
 rw [xlQ];unfold xcK xb2;rw [xpK];simp only [xcS,zk,bne_iff_ne,sUF];by_cases h1:ak<bk
 . have:ak≠bk:=by omega
   simp [h1,this]
 . by_cases h2:ak>bk
   . have:ak≠bk:=by omega
     simp [h1,h2,this]
   . have:ak=bk:=by omega
     subst this;by_cases h3:ai<bi
     . have:ai≠bi:=by omega
       simp [h3,this]
     . by_cases h4:ai>bi
       . have:ai≠bi:=by omega
         simp [h3,h4,this]
       . have:ai=bi:=by omega
         subst this;have he:=xm5 at' bt;rcases xlg at' bt with h|h|h
         . have hne:at'≠bt:=fun e=>by rw [he.2 e] at h;simp at h
           simp [h,hne]
         . have:=he.1 h;subst this;simp [h]
         . have hne:at'≠bt:=fun e=>by rw [he.2 e] at h;simp at h
           simp [h,hne]
theorem xqS:xaC bk bi bt ak ai at'=-(xaC ak ai at' bk bi bt):=by
 rw [xlQ,xlQ,xmt at' bt];by_cases h1:ak<bk
 . have:¬ bk<ak:=by omega
   simp [h1,this]
 . by_cases h2:bk<ak
   . simp [h1,h2]
   . by_cases h3:ai<bi
     . have:¬ bi<ai:=by omega
       simp [h1,h2,h3,this]
     . by_cases h4:bi<ai<;>simp [h1,h2,h3,h4]
theorem xqT:xaC ak ai at' bk bi bt=0↔ak=bk/\ai=bi/\at'=bt:=by
 rw [xlQ];by_cases h1:ak<bk
 . have:ak≠bk:=by omega
   simp [h1,this]
 . by_cases h2:ak>bk
   . have:ak≠bk:=by omega
     simp [h1,h2,this]
   . have e:ak=bk:=by omega
     by_cases h3:ai<bi
     . have:ai≠bi:=by omega
       simp [h1,h2,h3,this]
     . by_cases h4:ai>bi
       . have:ai≠bi:=by omega
         simp [h1,h2,h3,h4,this]
       . have f:ai=bi:=by omega
         simp [h1,h2,h3,h4,e,f,xm5]
theorem xrh:xaC ak ai at' bk bi bt<=0↔ak<bk\/(ak=bk/\(ai<bi\/(ai=bi/\Lib.compareBytes at' bt<=0))):=by
 rw [xlQ];by_cases h1:ak<bk
 . simp [h1]
 . by_cases h2:ak>bk
   . have:ak≠bk:=by omega
     simp [h1,h2,this]
   . have e:ak=bk:=by omega
     by_cases h3:ai<bi
     . simp [h1,h2,h3,e]
     . by_cases h4:ai>bi
       . have:ai≠bi:=by omega
         simp [h1,h2,h3,h4,this]
       . have f:ai=bi:=by omega
         simp [h1,h2,h3,h4,e,f]
theorem xqf (h1:xaC ak ai at' bk bi bt<=0) (h2:xaC bk bi bt ck ci ct<=0):xaC ak ai at' ck ci ct<=0:=by
 rw [xrh] at h1 h2 |-;rcases h1 with h1|⟨e1,h1⟩
 . rcases h2 with h2|⟨e2,h2⟩<;>exact .inl (by omega)
 . rcases h2 with h2|⟨e2,h2⟩
   . exact .inl (by omega)
   . refine .inr ⟨by omega,?_⟩
     rcases h1 with h1|⟨f1,h1⟩
     . rcases h2 with h2|⟨f2,h2⟩<;>exact .inl (by omega)
     . rcases h2 with h2|⟨f2,h2⟩
       . exact .inl (by omega)
       . exact .inr ⟨by omega,xlh _ _ _ h1 h2⟩
end
structure Val where
 k:Int
 i:Int
 t:List UInt8
deriving DecidableEq
instance:Inhabited Val:=⟨⟨0,0,[]⟩⟩
def encV (v:Val):AV:=.agg [.int .i64 v.k,.int .i64 v.i,.str v.t]
def Val.wf (v:Val):Prop:=(Lit.int .i64 v.k).wf=true/\(Lit.int .i64 v.i).wf=true/\v.t.length<=maxLen
abbrev Row:=List Val
def encR (r:Row):AV:=.list 3 (r.map encV)
def Row.wf (r:Row):Prop:=r.length<=maxLen/\∀ v,v∈r->v.wf
@[simp] theorem xjg (v:Val):(encV v).cells=[.int .i64 v.k,.int .i64 v.i,.str v.t]:=rfl
@[simp] theorem xlN (v:Val):xrU [Sh.int .i64,Sh.int .i64,Sh.str] [.int .i64 v.k,.int .i64 v.i,.str v.t] 0=true:=rfl
theorem xbf {α:Type} (e:α->AV) (l:List α) (n:Nat) (h:n<l.length):(l.map e).getD n .top=e l[n]:=by
 simp [List.getD,h]
theorem xpj {n:Nat} (h:n+1<=maxLen):IntKind.i64.wrap ((n:Int)+1)=((n+1:Nat):Int):=by
 unfold maxLen at h;rw [xd7 (by omega) (by omega)];omega
theorem xc3 {α:Type} {l:List α} {n:Nat} (h:n<l.length):l.drop n=l[n]::l.drop (n+1):=List.drop_eq_getElem_cons h
def cmpV (a b:Val):Int:=xaC a.k a.i a.t b.k b.i b.t
theorem xlj (a b:Val):xcK a.k a.i a.t b.k b.i b.t=cmpV a b:=(xq9 ..).symm
def cmpR:Row->Row->Int
 | [],[]=>0
 | [],_::_=>-1
 | _::_,[]=>1
 | a::ra,b::rb=>if cmpV a b≠0 then cmpV a b else cmpR ra rb
def xrk:Row->Row->Bool×Int×Unit
 | a::ra,b::rb=>if cmpV a b≠0 then (true,cmpV a b,()) else xrk ra rb
 | _,_=>(false,0,())
theorem xmJ (ra rb:Row) (hl:ra.length<=maxLen):∀ (k n:Nat),n+k=ra.length->Iter (xal (ra.map encV) (rb.map encV)) (n:Int)=some (xrk (ra.drop n) (rb.drop n))
 | 0,n,hk=>by
  rw [zp (by omega:ra.length<=n)]
  refine xbg ?_;have h0:¬ ((n:Int)<(ra.length:Int)):=by omega
  simp only [xal,xa6,xaW,xcS,z8,h0,zl,zS,if_false,xrk,sUF]
 | k+1,n,hk=>by
  have h1:n<ra.length:=by omega
  have h1':(n:Int)<(ra.length:Int):=by omega
  rw [xc3 h1];by_cases h2:n<rb.length
  . rw [xc3 h2];have h2'':(n:Int)<(rb.length:Int):=by omega
    by_cases h3:cmpV ra[n] rb[n]=0
    . rw [xbw (s':=((n+1:Nat):Int)) ?_,xmJ ra rb hl k (n+1) (by omega)]
      . simp [xrk,h3]
      . simp only [xal,xa6,xaW,xcS,z8,h1',h2'',zm,zM,xbf encV _ _ h1,xbf encV _ _ h2,xjg,xlN,sUF];simp [h1,h2,xlj,AV.toInt,AV.toStr,h3,xpj (show n+1<=maxLen by omega)]
    . refine xbg ?_;simp only [xal,xa6,xaW,xcS,z8,h1',h2'',zm,zM,xbf encV _ _ h1,xbf encV _ _ h2,xjg,xlN,sUF];simp [h1,h2,xlj,AV.toInt,AV.toStr,h3,xrk]
  . rw [zp (by omega:rb.length<=n)]
    have h2':¬ ((n:Int)<(rb.length:Int)):=by omega
    refine xbg ?_;simp only [xal,xa6,xaW,xcS,z8,h1',h2',zm,zl,sUF];simp [xrk]
theorem xqQ (ra rb:Row):br (xrk ra rb).1 (xrk ra rb).2.1 (br (decide ((ra.length:Int)<(rb.length:Int))) (-1:Int) (br (decide ((ra.length:Int)>(rb.length:Int))) 1 0))=cmpR ra rb:=by
 induction ra generalizing rb with
 | nil=>cases rb<;>simp [xrk,cmpR,xcS,sUF]
 | cons a ra ih =>
  cases rb with
  | nil =>
   have:¬ ((ra.length:Int)+1<0):=by omega
   have h2:(0:Int)<(ra.length:Int)+1:=by omega
   simp [xrk,cmpR,xcS,this,h2,sUF]
  | cons b rb =>
   unfold xrk cmpR;split
   . simp [xcS,sUF]
   . simpa using ih rb
theorem xp3 (ra rb:Row) (hl:ra.length<=maxLen):xdW (ra.map encV) (rb.map encV)=some (cmpR ra rb):=by
 have h:=xmJ ra rb hl ra.length 0 (by omega)
 simp only [zq] at h;unfold xdW xez;rw [z8,z8,show ((0:Int))=((0:Nat):Int) from rfl,h,<-xqQ ra rb]
 generalize xrk ra rb=p;obtain ⟨a,b,_⟩:=p;cases a<;>by_cases h1:((ra.length:Int)<(rb.length:Int))<;>by_cases h2:((ra.length:Int)>(rb.length:Int))<;>simp [h1,h2,xcS,sUF]
def encP (p:Per):AV:=.agg [.int .i64 p.1,.int .i64 p.2]
structure Cm {α:Type} (f:α->α->Int):Prop where
 swap:∀ x y,f y x=-(f x y)
 trans:∀ x y z,f x y<=0->f y z<=0->f x z<=0
theorem Cm.lt1 {α:Type} {f:α->α->Int} (h:Cm f) {x y z:α} (h1:f x y<0) (h2:f y z<=0):f x z<0:=by
 have h3:=h.trans x y z (by omega) h2
 have h4:=h.swap x z;have h5:=h.swap x y;refine Classical.byContradiction fun hn=>?_
 have:=h.trans y z x h2 (by omega)
 omega
theorem Cm.lt2 {α:Type} {f:α->α->Int} (h:Cm f) {x y z:α} (h1:f x y<=0) (h2:f y z<0):f x z<0:=by
 have h3:=h.trans x y z h1 (by omega)
 have h4:=h.swap x z;have h5:=h.swap y z;refine Classical.byContradiction fun hn=>?_
 have:=h.trans z x y (by omega) h1
 omega
theorem Cm.neg {α:Type} {f:α->α->Int} (h:Cm f):Cm fun x y=>-(f x y):=⟨fun x y=>by rw [h.swap x y],fun x y z h1 h2=>by
 have:=h.trans z y x (by have:=h.swap y z;omega) (by have:=h.swap x y;omega)
 have:=h.swap x z;omega⟩
theorem Cm.on {α β:Type} {f:β->β->Int} (h:Cm f) (e:α->β):Cm fun x y=>f (e x) (e y):=⟨fun x y=>h.swap _ _,fun x y z=>h.trans _ _ _⟩
theorem xqz:Cm cmpV:=⟨fun x y=>xqS ..,fun x y z h1 h2=>xqf _ _ _ _ _ _ _ _ _ h1 h2⟩
theorem xnW {x y:Val} (h:cmpV x y=0):x=y:=by
 obtain ⟨h1,h2,h3⟩:=(xqT ..).1 h;cases x;cases y;simp_all
theorem xhN:∀ x y:Row,cmpR y x=-(cmpR x y)
 | [],[]=>by simp [cmpR]
 | [],_::_=>by simp [cmpR]
 | _::_,[]=>by simp [cmpR]
 | a::x,b::y=>by
  have h1:=xqz.swap a b;have h2:=xhN x y;unfold cmpR;by_cases h:cmpV a b=0
  . have:cmpV b a=0:=by omega
    simp [h,this,h2]
  . have:cmpV b a≠0:=by omega
    simp [h,this,h1]
theorem xjh:∀ x y z:Row,cmpR x y<=0->cmpR y z<=0->cmpR x z<=0
 | [],_,[],_,_=>by simp [cmpR]
 | [],_,_::_,_,_=>by simp [cmpR]
 | _::_,[],_,h,_=>by simp [cmpR] at h
 | _::_,_::_,[],_,h=>by simp [cmpR] at h
 | a::x,b::y,c::z,h1,h2=>by
  unfold cmpR at h1 h2 |-;have ih:=xjh x y z;have hf:=xqz;by_cases p:cmpV a b=0<;>by_cases q:cmpV b c=0<;>simp only [p,q,ne_eq,not_true,not_false_iff,if_true,if_false] at h1 h2
  . have c1:cmpV a c<=0:=hf.trans a b c (by omega) (by omega)
    have c2:cmpV c a<=0:=hf.trans c b a (by have:=hf.swap b c;omega) (by have:=hf.swap a b;omega)
    have:cmpV a c=0:=by have:=hf.swap a c;omega
    simp only [this,ne_eq,not_true,if_false];exact ih h1 h2
  . have:=hf.lt2 (x:=a) (y:=b) (z:=c) (by omega) (by omega)
    have h0:cmpV a c≠0:=by omega
    simp only [ne_eq,h0,not_false_iff,if_true];omega
  . have:=hf.lt1 (x:=a) (y:=b) (z:=c) (by omega) (by omega)
    have h0:cmpV a c≠0:=by omega
    simp only [ne_eq,h0,not_false_iff,if_true];omega
  . have:=hf.lt1 (x:=a) (y:=b) (z:=c) (by omega) (by omega)
    have h0:cmpV a c≠0:=by omega
    simp only [ne_eq,h0,not_false_iff,if_true];omega
theorem xqy:Cm cmpR:=⟨xhN,xjh⟩
theorem xkd:∀ {x y:Row},cmpR x y=0->x=y
 | [],[],_=>rfl
 | [],_::_,h=>by simp [cmpR] at h
 | _::_,[],h=>by simp [cmpR] at h
 | a::x,b::y,h=>by
  unfold cmpR at h;by_cases p:cmpV a b=0
  . simp only [p,ne_eq,not_true,if_false] at h;rw [xnW p,xkd h]
  . simp [p] at h
theorem xnV (x:Row):cmpR x x=0:=by have:=xhN x x;omega
end Go.Sim.M
end
noncomputable section
set_option maxRecDepth 100000
namespace Go.Sim.M
open Go.RowKit Go.Sim.Srt
theorem xgY {σ ρ:Type} {step:σ->Option (σ⊕ρ)} (st:Nat->σ) (n:Nat) (r:ρ) (hs:∀ k,k<n->step (st k)=some (.inl (st (k+1)))) (he:step (st n)=some (.inr r)):∀ d k,k+d=n->Iter step (st k)=some r
 | 0,k,h=>by
  have:k=n:=by omega
  subst this;exact xbg he
 | d+1,k,h=>by
  rw [xbw (hs k (by omega))]
  exact xgY st n r hs he d (k+1) (by omega)
theorem xlv {α β:Type} {step:Nat×Int×List AV->Option ((Nat×Int×List AV)⊕(Nat×List AV))} (l:List α) (g:α->List β) (eb:β->AV) (c:Nat) (hc:∀ a,a∈l->(g a).length<=c)
  (hs:∀ (n:Nat) (h:n<l.length) (D:List β),D.length<=c*n->step (D.length,(n:Int),D.map eb)=some (.inl ((D++g l[n]).length,((n+1:Nat):Int),(D++g l[n]).map eb)))
  (he:∀ D:List β,step (D.length,(l.length:Int),D.map eb)=some (.inr (D.length,D.map eb))):Iter step ((0:Nat),(0:Int),[])=some ((l.flatMap g).length,(l.flatMap g).map eb):=by
 have key:∀ (d n:Nat) (D:List β),n+d=l.length->D.length<=c*n->Iter step (D.length,(n:Int),D.map eb)=some ((D++(l.drop n).flatMap g).length,(D++(l.drop n).flatMap g).map eb):=by
  intro d;induction d with
  | zero =>
   intro n D h hD;have:n=l.length:=by omega
   subst this;rw [zp (zb _),List.flatMap_nil,zC];exact xbg (he D)
  | succ d ih =>
   intro n D h hD;have hn:n<l.length:=by omega
   have h2:(D++g l[n]).length<=c*(n+1):=by
    rw [z7,Nat.mul_add,Nat.mul_one];have:=hc l[n] (zn hn);omega
   rw [xbw (hs n hn D hD),ih (n+1) (D++g l[n]) (by omega) h2,xc3 hn,zQ,zv]
 have:=key l.length 0 [] (by omega) (by simp)
 simpa using this
theorem xiW {α β:Type} {g:α->List β} {c:Nat}:∀ (l:List α),(∀ a,a∈l->(g a).length<=c)->(l.flatMap g).length<=c*l.length
 | [],_=>by simp
 | a::l,h=>by
  have h1:=h a (by simp)
  have h2:=xiW l fun b hb=>h b (by simp [hb])
  rw [zQ,z7,zD,Nat.mul_add,Nat.mul_one];omega
theorem xrA {α β:Type} (f:α->β):∀ l:List α,(l.flatMap fun a=>[f a])=l.map f
 | []=>rfl
 | a::l=>by rw [zQ,xrA f l];rfl
theorem xrj {n:Nat} (h:n+1<=4611686018427387904):IntKind.i64.wrap ((n:Int)+1)=((n+1:Nat):Int):=by
 rw [xd7 (by omega) (by omega)];omega
theorem xpH {T:Type} (c:Bool) (a:T):br c a a=a:=by cases c<;>rfl
structure Fc where
 r:Row
 p:Per
def encF (f:Fc):AV:=.agg [.list 3 (f.r.map encV),.int .i64 f.p.1,.int .i64 f.p.2]
def encN (n:Int):AV:=.int .i64 n
theorem cF0 (f:Fc):((encF f).cells.getD 0 .top).toList=f.r.map encV:=rfl
theorem cF1 (f:Fc):((encF f).cells.getD 1 .top).toInt=f.p.1:=rfl
theorem cF2 (f:Fc):((encF f).cells.getD 2 .top).toInt=f.p.2:=rfl
theorem sF0 (f:Fc):xrN (Sh.list 3) ((encF f).cells.getD 0 .top)=true:=rfl
theorem sF1 (f:Fc):xrN (Sh.int .i64) ((encF f).cells.getD 1 .top)=true:=rfl
theorem sF2 (f:Fc):xrN (Sh.int .i64) ((encF f).cells.getD 2 .top)=true:=rfl
theorem lF (f:Fc):((encF f).cells.length==3)=true:=rfl
theorem sF12 (f:Fc):xrU [Sh.int .i64,Sh.int .i64] (encF f).cells 1=true:=rfl
theorem sF02 (f:Fc):xrU [Sh.list 3,Sh.int .i64,Sh.int .i64] (encF f).cells 0=true:=rfl
theorem cN (n:Int):((encN n).cells.getD 0 .top).toInt=n:=rfl
theorem sN (n:Int):xrN (Sh.int .i64) ((encN n).cells.getD 0 .top)=true:=rfl
theorem xkD (p:Per):xcg p.1 p.2=pv p:=by
 unfold xcg pv;by_cases h1:0<=p.1<;>by_cases h2:p.1<p.2<;>simp [h1,h2,xcS,sUF]
theorem xkJ (p:Per):xcN p.1 p.2=pv p:=by
 unfold xcN pv;by_cases h1:0<=p.1<;>by_cases h2:p.1<p.2<;>simp [h1,h2,xcS,sUF]
end Go.Sim.M
end
