/- Part 15 of the proof of the law. -/
import Derived.Test.YtefdfdjimkinpaaGreatDoorTA14
import Derived.ProofKit
import Derived.OpenShut
import Derived.Carry
import Derived.Deep.Slices
set_option linter.defProp false
set_option linter.unusedVariables false
set_option linter.unusedSimpArgs false
noncomputable section
namespace Go.Sim
open Go.RowKit Go.ChangeShapes Go.WideShapes Go.ChangeAt
inductive Ty where
 | int (k:IntKind)
 | bool
 | str
 | slice (es:List Ty)
 | mu
def xHH (P:Program) (f:TypeId->Option (List Ty)):Nat->List Field->Option (List Ty)
 | _,[]=>some []
 | off,x::r=>match Nat.beq x.offset off with
  | true=>match f x.type with
   | some l=>match Nat.beq l.length (P.cellsOf x.type) with
    | true=>match xHH P f (off+l.length) r with
     | some m=>some (l++m)
     | none=>none
    | false=>none
   | none=>none
  | false=>none
def flat (P:Program) (μ:TypeId):Nat->TypeId->Option (List Ty)
 | 0,_=>none
 | n+1,t=>match P.underlying t with
  | some (.int k)=>some [.int k]
  | some .string=>some [.str]
  | some .bool=>some [.bool]
  | some (.slice e)=>match Nat.beq e μ with
   | true=>some [.mu]
   | false=>match flat P μ n e with
    | some es=>match Nat.beq es.length (P.cellsOf e)&&Nat.blt 0 es.length with
     | true=>some [.slice es]
     | false=>none
    | none=>none
  | some (.struct fs)=>match xHH P (flat P μ n) 0 fs.toList with
   | some l=>match Nat.beq l.length (P.cellsOf t) with
    | true=>some l
    | false=>none
   | none=>none
  | _=>none
def xII:List AV->AV
 | [c]=>c
 | cs=>.agg cs
mutual
def AV.wt:AV->Nat
 | .str s=>s.length+1
 | .list _ xs=>AV.wts xs+1
 | .agg cs=>AV.wts cs
 | _=>1
def AV.wts:List AV->Nat
 | []=>0
 | x::xs=>AV.wt x+AV.wts xs
end
theorem xs6 (a b:List AV):AV.wts (a++b)=AV.wts a+AV.wts b:=by
 induction a with
 | nil=>simp [AV.wts]
 | cons x a ih=>simp [AV.wts,ih];omega
theorem xBF (a:List AV):AV.wt (xII a)=AV.wts a:=by
 match a with
 | []=>rfl
 | [c]=>simp [xII,AV.wts]
 | x::y::r=>rfl
theorem xEt {n:Nat} {f:Nat->AV} {g:Nat->Nat} (h:∀ i,i<n->AV.wt (f i)<=g i):AV.wts ((List.range n).map f)<=((List.range n).map g).sum:=by
 induction n with
 | zero=>simp [AV.wts]
 | succ n ih =>
  rw [List.range_succ,zy,zy,xs6,List.sum_append];have:=ih fun i hi=>h i (by omega)
  have:=h n (by omega)
  simp [AV.wts];omega
structure Meas {H:Type} (μ:DataW H->Nat):Prop where
 lit:∀ l,1<=μ (.lit l)
 str:∀ s,s.length+1<=μ (.lit (.string s))
 nil:1<=μ .nil
 slice:∀ es sp,(es.map μ).sum+1<=μ (.slice es sp)
 agg:∀ l,(l.map μ).sum<=μ (.agg l)
inductive OfTy (R:List Ty):Ty->AV->Prop
 | int (k:IntKind) (n:Int) (h:(Lit.int k n).wf=true):OfTy R (.int k) (.int k n)
 | bool (b:Bool):OfTy R .bool (.bool b)
 | str (s:List UInt8) (h:s.length<=maxLen):OfTy R .str (.str s)
 | slice (es:List Ty) (xs:List AV) (h:xs.length<=maxLen) (hl:∀ x,x∈xs->x.cells.length=es.length/\x=xII x.cells) (hx:∀ x j,x∈xs->j<es.length->OfTy R (es.getD j .bool) (x.cells.getD j .top)):OfTy R (.slice es) (.list es.length xs)
 | mu (xs:List AV) (h:xs.length<=maxLen) (hl:∀ x,x∈xs->x.cells.length=R.length/\x=xII x.cells) (hx:∀ x j,x∈xs->j<R.length->OfTy R (R.getD j .bool) (x.cells.getD j .top)):OfTy R .mu (.list R.length xs)
theorem OfTy.one {R:List Ty} {T:Ty} {x:AV} (h:OfTy R T x):x.one=true:=by cases h<;>rfl
inductive Opens (R:List Ty) (w:World):List Ty->List Value->List AV->Prop
 | nil:Opens R w [] [] []
 | cons {T:Ty} {v:Value} {a:AV} {Ts vs aS} (h:Rel w (fun _=>False) xIl v a) (ht:OfTy R T a) (r:Opens R w Ts vs aS):Opens R w (T::Ts) (v::vs) (a::aS)
theorem Opens.append {R:List Ty} {w:World} {Ts Us:List Ty} {vs us aS bs} (h:Opens R w Ts vs aS) (h':Opens R w Us us bs):Opens R w (Ts++Us) (vs++us) (aS++bs):=by
 induction h with
 | nil=>exact h'
 | cons h ht r ih=>exact .cons h ht ih
theorem Opens.len {R:List Ty} {w:World} {Ts vs aS} (h:Opens R w Ts vs aS):vs.length=Ts.length/\aS.length=Ts.length:=by
 induction h with
 | nil=>exact ⟨rfl,rfl⟩
 | cons h ht r ih=>simp [ih.1,ih.2]
theorem Opens.get {R:List Ty} {w:World} {Ts vs aS} (h:Opens R w Ts vs aS):∀ i,i<Ts.length->Rel w (fun _=>False) xIl (vs.getD i undef) (aS.getD i .top)/\OfTy R (Ts.getD i .bool) (aS.getD i .top):=by
 induction h with
 | nil=>intro i hi;simp at hi
 | cons h ht r ih =>
  intro i hi;cases i with
  | zero=>exact ⟨by simpa using h,by simpa using ht⟩
  | succ i=>simpa using ih i (by simpa using hi)
theorem Opens.all_one {R:List Ty} {w:World} {Ts vs aS} (h:Opens R w Ts vs aS):aS.all AV.one=true:=by
 induction h with
 | nil=>rfl
 | cons h ht r ih=>simp [ht.one,ih]
theorem xvj {aS:List AV} (h:aS.all AV.one=true) (hne:0<aS.length):(xII aS).cells=aS:=by
 match aS,h,hne with
 | [c],h,_=>cases c<;>first|rfl|simp [AV.one] at h
 | a::b::r,_,_=>rfl
section
variable {H : Type} {enc : TypeId × Value -> H} {P : Program} {w : World} {base : Nat} {sp : Nat -> Bool} {held : Bool} {R : List Ty}
theorem xyA {n:Nat} {f:TypeId->Option (List Ty)} {S:DataW H×List MemPlace->Prop} (hf:∀ t Ts,f t=some Ts->∀ cs x,S x->DataW.trod enc P w base sp held n t cs=some x->∃ aS,Opens R w Ts cs aS/\∀ μ:DataW H->Nat,Meas μ->AV.wts aS<=μ x.1) :
  ∀ (l:List Field) (off:Nat) (Ts:List Ty) (cs:List Value) (ys:List (DataW H×List MemPlace)),xHH P f off l=some Ts->cs.length=Ts.length->ys.length=l.length->(∀ y,y∈ys->S y)->(∀ (i:Nat) (x:Field),l[i]?=some x->DataW.trod enc P w base sp held n x.type ((cs.drop (x.offset - off)).take (P.cellsOf x.type))=ys[i]?) ->
   ∃ aS,Opens R w Ts cs aS/\∀ μ:DataW H->Nat,Meas μ->AV.wts aS<=(ys.map fun y=>μ y.1).sum
 | [],off,Ts,cs,ys,h,hl,hyl,_,_=>by
  simp [xHH] at h;subst h;obtain rfl:cs=[]:=zB hl;exact ⟨[],.nil,fun μ _=>by simp [AV.wts]⟩
 | x::r,off,Ts,cs,[],h,hl,hyl,hS,hx=>by simp at hyl
 | x::r,off,Ts,cs,y::ys,h,hl,hyl,hS,hx=>by
  simp only [xHH] at h;split at h<;>try (simp at h;done)
  rename_i ho;split at h<;>try (simp at h;done)
  rename_i l1 V;split at h<;>try (simp at h;done)
  rename_i hn;split at h<;>try (simp at h;done)
  rename_i m hm;cases h;have ho:=zh ho;have hn:=zh hn;simp only [z8] at hl;have hy:=hx 0 x rfl;rw [ho,Nat.sub_self,zt,<-hn,zZ] at hy;obtain ⟨aS,ha,Q⟩:=hf _ _ V _ _ (hS y (by simp)) hy
  have D:∀ (l:List Field) (o:Nat) (m:List Ty),xHH P f o l=some m->∀ z,z∈l->o<=z.offset:=by
   intro l;induction l with
   | nil=>intro o m _ z hz;simp at hz
   | cons z0 l ih =>
    intro o m h z hz;simp only [xHH] at h;split at h<;>try (simp at h;done)
    rename_i q;split at h<;>try (simp at h;done)
    split at h<;>try (simp at h;done)
    split at h<;>try (simp at h;done)
    rename_i J;have q:=zh q;rcases zD.1 hz with rfl|hz
    . omega
    . exact Nat.le_trans (by omega) (ih _ _ J z hz)
  obtain ⟨bs,hb,O⟩:=xyA hf r (off+l1.length) m (cs.drop l1.length) ys hm (by rw [y7];omega) (by simpa using hyl) (fun z hz=>hS z (by simp [hz])) (fun i z hz=>by
   have hy':=hx (i+1) z (by simpa using hz)
   have:=D _ _ _ hm z (List.mem_of_getElem? hz);rw [List.drop_drop,show l1.length+(z.offset - (off+l1.length))=z.offset - off by omega]
   simpa using hy')
  refine ⟨aS++bs,?_,fun μ hμ=>?_⟩
  . have:=ha.append hb;rwa [List.take_append_drop] at this
  . have h1:=Q μ hμ;have h2:=O μ hμ;simp only [zW,List.sum_cons,xs6];omega
theorem xyB {t e:TypeId} {es:List Ty} {T:Ty} {fuel:Nat} {cs:List Value} {x:DataW H×List MemPlace} (ht:P.underlying t=some (.slice e)) (W:es.length=P.cellsOf e) (Z:0<es.length)
  (mk:∀ xs:List AV,xs.length<=maxLen->(∀ x,x∈xs->x.cells.length=es.length/\x=xII x.cells)->(∀ x j,x∈xs->j<es.length->OfTy R (es.getD j .bool) (x.cells.getD j .top))->OfTy R T (.list es.length xs))
  (hd:DataW.trod enc P w base sp held fuel t cs=some x)
  (ad:∀ n' O (y:DataW H×List MemPlace),SizeOf.sizeOf y.1<SizeOf.sizeOf x.1->DataW.trod enc P w base sp held n' e O=some y->∃ aS,Opens R w es O aS/\∀ μ:DataW H->Nat,Meas μ->AV.wts aS<=μ y.1) :
  ∃ aS,Opens R w [T] cs aS/\∀ μ:DataW H->Nat,Meas μ->AV.wts aS<=μ x.1:=by
 rcases Deep.open_slice ht hd with ⟨rfl,rfl⟩|⟨a,len,cap,m,n',D,Pl,rfl,hb,hl,hm,ac,rfl,hx⟩
 . exact ⟨[.list es.length []],.cons (.list0 _ _ _) (mk [] (by simp) (fun x hx=>by simp at hx) (fun x j hx=>by simp at hx)) .nil,fun μ hμ=>by have:=hμ.nil;simpa [AV.wts,AV.wt] using this⟩
 . have ak:len<=m:=by subst ac;split<;>omega
   have hsz:∀ i,i<len->SizeOf.sizeOf (D i)<SizeOf.sizeOf (DataW.slice ((List.range len).map D) ((List.range (m - len)).map fun j=>D (len+j))):=fun i hi=>by
    have h1:D i∈(List.range len).map D:=zL.2 ⟨i,List.mem_range.2 hi,rfl⟩;have h2:=List.sizeOf_lt_of_mem h1;simp only [DataW.slice.sizeOf_spec];omega
   have ag:∀ i,i<len->∃ p:List Value×List AV,w.cells? base (a.add (i*P.cellsOf e)) (P.cellsOf e)=some p.1/\Opens R w es p.1 p.2/\∀ μ:DataW H->Nat,Meas μ->AV.wts p.2<=μ (D i):=fun i hi=>by
    obtain ⟨O,h1,h2⟩:=hx i (by omega)
    obtain ⟨aS,ha,hw⟩:=ad _ _ (D i,Pl i) (hsz i hi) h2;exact ⟨(O,aS),h1,ha,hw⟩
   obtain ⟨f,hf⟩:=Deep.choose_lt (α:=List Value×List AV) ag;have q:((List.range len).map fun i=>xII (f i).2).length=len:=by simp
   have ab:∀ i,i<len->((List.range len).map fun i=>xII (f i).2).getD i .top=xII (f i).2:=fun i hi=>by simp [List.getD,hi]
   have Q:∀ i,i<len->(xII (f i).2).cells=(f i).2:=fun i hi=>xvj (hf i hi).2.1.all_one (by rw [(hf i hi).2.1.len.2];exact Z)
   have ah:OfTy R T (.list es.length ((List.range len).map fun i=>xII (f i).2)):=by
    refine mk _ (by rw [q];omega) (fun x hx=>?_) (fun x j hx hj=>?_)
    . obtain ⟨i,hi,rfl⟩:=zL.1 hx;have hi:=List.mem_range.1 hi;rw [Q i hi];exact ⟨(hf i hi).2.1.len.2,rfl⟩
    . obtain ⟨i,hi,rfl⟩:=zL.1 hx;have hi:=List.mem_range.1 hi;rw [Q i hi];exact ((hf i hi).2.1.get j hj).2
   refine ⟨[_],.cons ?_ ah .nil,fun μ hμ=>by
    have h1:=hμ.slice ((List.range len).map D) ((List.range (m - len)).map fun j=>D (len+j))
    have h2:=xEt (n:=len) (f:=fun i=>xII (f i).2) (g:=fun i=>μ (D i)) fun i hi=>by rw [xBF];exact (hf i hi).2.2 μ hμ
    rw [List.map_map] at h1;change ((List.range len).map fun i=>μ (D i)).sum+1<=_ at h1
    simp only [AV.wts,AV.wt];exact Nat.le_trans (by omega) h1⟩
   rcases Nat.eq_zero_or_pos len with rfl|Y
   . exact .list0 _ _ _
   ·
    have h0:=World.cells?_some (hf 0 Y).1;have J:=h0.2.2 0 (by omega)
    rw [show (f 0).1[0]?=some ((f 0).1.getD 0 undef) by
     rw [zf (by rw [h0.2.1];omega)];simp [List.getD,h0.2.1,<-W,Z]] at J
    have ai:a.spot=none/\a.block<w.heap.size:=by
     unfold World.cell? at J;have e1:(a.add (0*P.cellsOf e)).add 0=a:=by simp [Addr.add]
     rw [e1] at J;split at J
     . rename_i c _ _ af;split at J
       . simp at J
       . rename_i ae;exact ⟨by simpa using ae,(Array.getElem?_eq_some_iff.1 af).1⟩
     . simp at J
    obtain ⟨V,off,aj⟩:=a;obtain ⟨rfl,aa⟩:=ai;have:=Rel.list (w:=w) (A:=fun _=>False) (M:=xIl) V off cap es.length ((List.range len).map fun i=>xII (f i).2) (fun i j=>(f i).1.getD j undef) (fun h=>h) aa (fun h=>by
     have:=congrArg List.length h;simp at this;omega) (by rw [q];exact hl) (fun x hx=>by
     obtain ⟨i,hi,rfl⟩:=zL.1 hx;have hi:=List.mem_range.1 hi;simp only [AV.okElem,Q i hi,(hf i hi).2.1.all_one,(hf i hi).2.1.len.2,zT,beq_self_eq_true]) (fun i j hi hj=>by
     rw [q] at hi;have hh:=World.cells?_some (hf i hi).1;have:=hh.2.2 j (by omega)
     rw [Deep.add_add] at this;have e2:(⟨V,off,none⟩:Addr).add (i*P.cellsOf e+j)=⟨V,off+i*es.length+j,none⟩:=by
      rw [<-W];unfold Addr.add;split
      . rename_i h0;simp [Nat.add_assoc,h0]
      . simp [Nat.add_assoc]
     rw [e2] at this;rw [this,zf (by rw [hh.2.1];omega)]
     simp [List.getD,hh.2.1,<-W,hj]) (fun i j hi hj=>by
     rw [q] at hi;rw [ab i hi,Q i hi];exact ((hf i hi).2.1.get j hj).1)
    rwa [q] at this
theorem xnV {mu:TypeId} {N0:Nat} (hR:flat P mu N0 mu=some R) (O:R.length=P.cellsOf mu) (J:0<R.length):∀ (N:Nat) (n:Nat) (t:TypeId) (Ts:List Ty),flat P mu n t=some Ts->∀ (fuel:Nat) (cs:List Value) x,SizeOf.sizeOf x.1<N->DataW.trod enc P w base sp held fuel t cs=some x->∃ aS,Opens R w Ts cs aS/\∀ μ:DataW H->Nat,Meas μ->AV.wts aS<=μ x.1
 | 0,_,_,_,_,_,_,_,h,_=>by omega
 | N+1,0,_,_,h,_,_,_,_,_=>by simp [flat] at h
 | N+1,n+1,t,Ts,h,fuel,cs,x,hN,hd=>by
  simp only [flat] at h;split at h
  . rename_i k ht;simp only [z6] at h;subst h;obtain ⟨m,rfl,rfl,hw⟩:=DataW.trod_int ht hd;exact ⟨[.int k m],.cons (.int k m) (.int k m hw) .nil,fun μ hμ=>by have:=hμ.lit (.int k m);simpa [AV.wts,AV.wt] using this⟩
  . rename_i ht;simp only [z6] at h;subst h;obtain ⟨s,rfl,rfl,hw⟩:=DataW.trod_string ht hd;exact ⟨[.str s.data.toList],.cons (.str s) (.str _ (by simpa using hw)) .nil,fun μ hμ=>by have:=hμ.str s.data.toList;simpa [AV.wts,AV.wt] using this⟩
  . rename_i ht;simp only [z6] at h;subst h;obtain ⟨b,rfl,rfl⟩:=DataW.trod_bool ht hd;exact ⟨[.bool b],.cons (.bool b) (.bool b) .nil,fun μ hμ=>by have:=hμ.lit (.bool b);simpa [AV.wts,AV.wt] using this⟩
  . rename_i e ht;split at h
    . rename_i he;simp only [z6] at h;subst h;have he:=zh he;subst he;exact xyB ht O J (fun xs h1 h2 h3=>.mu xs h1 h2 h3) hd fun n' q y hy D=>xnV hR O J N N0 e R hR n' q y (by omega) D
    . split at h<;>try (simp at h;done)
      rename_i es aa;split at h<;>try (simp at h;done)
      rename_i hc;simp only [z6] at h;subst h;simp only [zg] at hc;have ab:=zh hc.1;have Z:0<es.length:=by simpa using hc.2
      exact xyB ht ab Z (fun xs h1 h2 h3=>.slice es xs h1 h2 h3) hd fun n' q y hy D=>xnV hR O J N n e es aa n' q y (by omega) D
  . rename_i fs ht;split at h<;>try (simp at h;done)
    rename_i l hl;split at h<;>try (simp at h;done)
    rename_i hn;simp only [z6] at h;subst h;have hn:=zh hn;obtain ⟨xs,m,rfl,hx,Q,Y,V⟩:=DataW.trod_struct ht hd;obtain ⟨aS,ha,hw⟩:=xyA (n:=m) (S:=fun y=>SizeOf.sizeOf y.1<N) (fun t' Ts' h' q x' W D=>xnV hR O J N n t' Ts' h' m q x' W D) fs.toList 0 l cs xs hl (by rw [Q,hn]) (by simpa using Y) (fun y hy=>by
     have h1:y.1∈xs.map (·.1):=zL.2 ⟨y,hy,rfl⟩;have h2:=List.sizeOf_lt_of_mem h1;rw [hx] at hN;simp only [DataW.agg.sizeOf_spec] at hN;omega) (fun i z hz=>by
     have:=V i z (by simpa using hz)
     simpa using this)
    refine ⟨aS,ha,fun μ hμ=>Nat.le_trans (hw μ hμ) ?_⟩
    have:=hμ.agg (xs.map (·.1));rw [hx];simpa [List.map_map,Function.comp_def] using this
  . simp at h
end
end Go.Sim
end
noncomputable section
namespace Go.Sim.Srt
open Go.Sim
variable {α : Type}
structure Ord (c:α->α->Int):Prop where
 anti:∀ x y,0<c x y↔c y x<0
 trans:∀ x y z,c x y<=0->c y z<=0->c x z<=0
theorem Ord.le_of_not {c:α->α->Int} (h:Ord c) {x y:α} (hn:¬ c x y<0):c y x<=0:=by
 have:=h.anti y x;omega
def Sorted (c:α->α->Int) (l:List α):Prop:=l.Pairwise fun x y=>c x y<=0
theorem xml {c:α->α->Int} {l m:List α}:Sorted c (l++m)↔Sorted c l/\Sorted c m/\∀ x,x∈l->∀ y,y∈m->c x y<=0:=List.pairwise_append
theorem xyo (A:List α) (x:α) (B:List α) {n:Nat} (h:n=A.length):(A++x::B)[n]?=some x:=by
 subst h;simp
theorem xyM (A:List α) (x y:α) (B:List α) {n:Nat} (h:n=A.length):(A++x::B).set n y=A++y::B:=by
 subst h;simp [List.set_append]
theorem xEj {l:List α} {k:Nat} (h:l.length=k+1):∃ m y,l=m++[y]/\m.length=k:=by
 rcases List.eq_nil_or_concat l with rfl|⟨m,y,rfl⟩
 . simp at h
 . exact ⟨m,y,by simp,by simpa using h⟩
theorem xqc {σ ρ:Type} {step:σ->Option (σ⊕ρ)} {s s':σ} {r:Option ρ} (h:step s=some (.inl s')) (h2:Iter step s'=r):Iter step s=r:=by rw [xaq h,h2]
def xHr (c:α->α->Int) (a:Nat):Nat×List α->Option ((Nat×List α)⊕List α):=fun (j,l) =>
 if a<j then match l[j]?,l[j - 1]? with
  | some x,some y=>if c x y<0 then some (.inl (j - 1,(l.set j y).set (j - 1) x)) else some (.inr l)
  | _,_=>none
 else some (.inr l)
theorem xuL {c:α->α->Int} (hc:Ord c) (P:List α) (x:α):∀ (k:Nat) (m S:List α),m.length=k->Sorted c m ->
  ∃ m',Iter (xHr c P.length) (P.length+k,P++(m++x::S))=some (P++(m'++S))/\m'.Perm (m++[x])/\Sorted c m':=by
 intro k;induction k with
 | zero =>
  intro m S hm hs;have:m=[]:=zB hm;subst this;exact ⟨[x],xah (by simp [xHr]),List.Perm.refl _,by simp [Sorted]⟩
 | succ k ih =>
  intro m S hm hs;obtain ⟨m0,y,rfl,h0⟩:=xEj hm;have e:P++(m0++[y]++x::S)=(P++m0)++y::x::S:=by simp
  have e1:(P++(m0++[y]++x::S))[P.length+(k+1)]?=some x:=by
   rw [show P++(m0++[y]++x::S)=(P++(m0++[y]))++x::S by simp]
   exact xyo _ _ _ (by simp [h0])
  have e2:(P++(m0++[y]++x::S))[P.length+(k+1) - 1]?=some y:=by
   rw [e];exact xyo _ _ _ (by simp only [z8,h0];omega)
  obtain ⟨s1,s2,s3⟩:=xml.1 hs;by_cases q:c x y<0
  . obtain ⟨m',h1,h2,h3⟩:=ih m0 (y::S) h0 s1;refine ⟨m'++[y],?_,?_,?_⟩
    . refine xqc (s':=(P.length+k,P++(m0++x::y::S))) ?_ (by rw [h1];simp)
      have f1:((P++(m0++[y]++x::S)).set (P.length+(k+1)) y).set (P.length+(k+1) - 1) x=P++(m0++x::y::S):=by
       rw [show P++(m0++[y]++x::S)=(P++(m0++[y]))++x::S by simp,xyM _ _ _ _ (by simp [h0]),show P++(m0++[y])++y::S=(P++m0)++y::y::S by simp,xyM _ _ _ _ (by simp only [z8,h0];omega)]
       simp
      simp only [xHr,e1,e2,q,if_true,f1];rw [if_pos (by omega)]
      congr 2
    . exact (h2.append_right [y]).trans (by
       simp only [zx];exact List.Perm.append_left m0 (List.Perm.swap _ _ _))
    . refine xml.2 ⟨h3,by simp [Sorted],fun z hz w hw=>?_⟩
      have:w=y:=by simpa using hw
      subst this;have:=h2.mem_iff.1 hz;rcases zH.1 this with hz|hz
      . exact s3 z hz w (by simp)
      . have:z=x:=by simpa using hz
        subst this;omega
  . refine ⟨m0++[y]++[x],?_,List.Perm.refl _,?_⟩
    . refine xah ?_;simp only [xHr,e1,e2,q,if_false];rw [if_pos (by omega)]
      simp
    . refine xml.2 ⟨hs,by simp [Sorted],fun z hz w hw=>?_⟩
      have:w=x:=by simpa using hw
      subst this;have hy:c y w<=0:=hc.le_of_not q;rcases zH.1 hz with hz|hz
      . exact hc.trans _ _ _ (s3 z hz y (by simp)) hy
      . have:z=y:=by simpa using hz
        subst this;exact hy
def xHz (c:α->α->Int) (a b:Nat):Nat×List α->Option ((Nat×List α)⊕List α):=fun (i,l) =>
 if i<b then match Iter (xHr c a) (i,l) with
  | some l'=>some (.inl (i+1,l'))
  | none=>none
 else some (.inr l)
def xHI (c:α->α->Int) (a b:Nat) (l:List α):Option (List α):=Iter (xHz c a b) (a+1,l)
theorem xuM {c:α->α->Int} (hc:Ord c) (P S:List α) (b:Nat):∀ (k:Nat) (R D:List α),R.length=k->b=P.length+D.length+k->Sorted c D ->
  ∃ m',Iter (xHz c P.length b) (P.length+D.length,P++(D++(R++S)))=some (P++(m'++S))/\m'.Perm (D++R)/\Sorted c m':=by
 intro k;induction k with
 | zero =>
  intro R D hR hb hs;have:R=[]:=zB hR;subst this;exact ⟨D,xah (by simp [xHz,hb]),by simp,hs⟩
 | succ k ih =>
  intro R D hR hb hs;cases R with
  | nil=>simp at hR
  | cons x R =>
   obtain ⟨D',h1,h2,h3⟩:=xuL hc P x D.length D (R++S) rfl hs;have hl:D'.length=D.length+1:=by simpa using h2.length_eq
   obtain ⟨m',h4,h5,h6⟩:=ih R D' (by simpa using hR) (by omega) h3
   refine ⟨m',?_,?_,h6⟩
   . refine xqc (s':=(P.length+D'.length,P++(D'++(R++S)))) ?_ h4;have h1':Iter (xHr c P.length) (P.length+D.length,P++(D++(x::R++S)))=some (P++(D'++(R++S))):=by simpa using h1
     simp only [xHz,h1'];rw [if_pos (by omega),hl];rfl
   . refine h5.trans ((h2.append_right R).trans ?_);simp
theorem xvK {c:α->α->Int} (hc:Ord c) (P m S:List α):∃ m',xHI c P.length (P.length+m.length) (P++(m++S))=some (P++(m'++S))/\m'.Perm m/\Sorted c m':=by
 cases m with
 | nil=>exact ⟨[],xah (by simp only [xHz,List.length_nil,Nat.add_zero];rw [if_neg (by omega)]),List.Perm.refl _,by simp [Sorted]⟩
 | cons x R =>
  obtain ⟨m',h1,h2,h3⟩:=xuM hc P S (P.length+(x::R).length) R.length R [x] rfl (by simp;omega) (by simp [Sorted])
  exact ⟨m',by simpa [xHI] using h1,by simpa using h2,h3⟩
inductive Bl (c:α->α->Int) (bs:Nat):List α->Prop where
 | last {m:List α}:m.length<=bs->Sorted c m->Bl c bs m
 | more {m R:List α}:m.length=bs->Sorted c m->Bl c bs R->Bl c bs (m++R)
theorem Bl.first {c:α->α->Int} {bs:Nat} {R:List α} (h:Bl c bs R) (hl:bs<=R.length):∃ X R',R=X++R'/\X.length=bs/\Sorted c X/\Bl c bs R':=by
 cases h with
 | last h1 h2=>exact ⟨R,[],by simp,by omega,h2,.last (by simp) (by simp [Sorted])⟩
 | more h1 h2 h3=>exact ⟨_,_,rfl,h1,h2,h3⟩
end Go.Sim.Srt
end
noncomputable section
namespace Go.Sim.M
def xrM {σ ρ:Type} {step:σ->Option (σ⊕ρ)} (I:σ->Prop) (μ:σ->Nat) (Q:ρ->Prop)
  (h:∀ s,I s->(∃ s',step s=some (.inl s')/\I s'/\μ s'<μ s)\/∃ r,step s=some (.inr r)/\Q r):∀ s,I s->∃ r,Iter step s=some r/\Q r:=by
 intro s;induction hn:μ s using Nat.strongRecOn generalizing s with
 | ind n ih =>
  intro hs;rcases h s hs with ⟨s',h1,h2,h3⟩|⟨r,h1,h2⟩
  . obtain ⟨r,k1,k2⟩:=ih (μ s') (by omega) s' rfl h2
    exact ⟨r,by rw [xaq h1];exact k1,k2⟩
  . exact ⟨r,xah h1,h2⟩
abbrev Per:Type:=Int×Int
def pv (p:Per):Bool:=decide (0<=p.1)&&(decide (p.1<p.2)&&decide (p.2<=1099511627776))
def hasP (p:Per) (t:Int):Bool:=pv p&&(decide (p.1<=t)&&decide (t<p.2))
def inL (l:List Per) (t:Int):Bool:=l.any (hasP · t)
def xb5 {p:Per}:pv p=true↔0<=p.1/\p.1<p.2/\p.2<=1099511627776:=by simp [pv]
def xcw {p:Per} {t:Int}:hasP p t=true↔pv p=true/\p.1<=t/\t<p.2:=by simp [hasP]
def xfh {l:List Per} {t:Int}:inL l t=true↔∃ p,p∈l/\pv p=true/\p.1<=t/\t<p.2:=by
 unfold inL;rw [List.any_eq_true];constructor
 . rintro ⟨p,h1,h2⟩;exact ⟨p,h1,xcw.1 h2⟩
 . rintro ⟨p,h1,h2⟩;exact ⟨p,h1,xcw.2 h2⟩
def xDU {l:List Per} {t:Int} (h:inL l t=true):0<=t/\t<1099511627776:=by
 obtain ⟨p,_,h2,h3,h4⟩:=xfh.1 h;have:=xb5.1 h2;omega
def xjO (p:Per) (l:List Per) (t:Int):inL (p::l) t=(hasP p t || inL l t):=rfl
def xkz (a b:List Per) (t:Int):inL (a++b) t=(inL a t || inL b t):=by simp [inL]
def xiC (t:Int):inL [] t=false:=rfl
def IsSpan (l:List Per):Prop:=(∀ p,p∈l->pv p=true)/\l.Pairwise fun p q=>p.2<q.1
def xmI:IsSpan []:=⟨fun p h=>(by cases h),List.Pairwise.nil⟩
def xsZ {p q:Per} {l m:List Per} (hp:pv p=true) (hm:IsSpan (q::m)) (h:∀ t,inL (p::l) t=inL (q::m) t):q.1<=p.1:=by
 have h0:=xb5.1 hp;have h1:inL (p::l) p.1=true:=xfh.2 ⟨p,List.mem_cons_self ..,hp,Int.le_refl _,h0.2.1⟩;rw [h] at h1;obtain ⟨r,hr,_,h2,_⟩:=xfh.1 h1;rcases zD.1 hr with rfl|hr
 . exact h2
 . have:=(zN.1 hm.2).1 r hr;have:=xb5.1 (hm.1 q (List.mem_cons_self ..));omega
def xrr {p q:Per} {l m:List Per} (hl:IsSpan (p::l)) (hq:pv q=true) (he:p.1=q.1) (h:∀ t,inL (p::l) t=inL (q::m) t):q.2<=p.2:=by
 rcases Int.lt_or_le p.2 q.2 with D|J
 . have h0:=xb5.1 (hl.1 p (List.mem_cons_self ..));have h1:inL (q::m) p.2=true:=xfh.2 ⟨q,List.mem_cons_self ..,hq,by omega,D⟩
   rw [<-h] at h1;obtain ⟨r,hr,_,h2,h3⟩:=xfh.1 h1;rcases zD.1 hr with rfl|hr
   . omega
   . have:=(zN.1 hl.2).1 r hr;omega
 . exact J
def xqB {p:Per} {l:List Per} (hl:IsSpan (p::l)) {t:Int} (h:hasP p t=true):inL l t=false:=by
 cases hc:inL l t with
 | false=>rfl
 | true =>
  obtain ⟨r,hr,_,h2,_⟩:=xfh.1 hc;have:=(zN.1 hl.2).1 r hr;have:=(xcw.1 h).2;omega
def xlO:∀ {l m:List Per},IsSpan l->IsSpan m->(∀ t,inL l t=inL m t)->l=m
 | [],[],_,_,_=>rfl
 | [],q::m,_,hm,h=>by
  have hq:=hm.1 q (List.mem_cons_self ..);have:inL (q::m) q.1=true:=xfh.2 ⟨q,List.mem_cons_self ..,hq,Int.le_refl _,(xb5.1 hq).2.1⟩;rw [<-h] at this;cases this
 | p::l,[],hl,_,h=>by
  have hp:=hl.1 p (List.mem_cons_self ..);have:inL (p::l) p.1=true:=xfh.2 ⟨p,List.mem_cons_self ..,hp,Int.le_refl _,(xb5.1 hp).2.1⟩;rw [h] at this;cases this
 | p::l,q::m,hl,hm,h=>by
  have hp:=hl.1 p (List.mem_cons_self ..);have hq:=hm.1 q (List.mem_cons_self ..);have e1:p.1=q.1:=Int.le_antisymm (xsZ hq hl fun t=>(h t).symm) (xsZ hp hm h)
  have e2:p.2=q.2:=Int.le_antisymm (xrr hm hp e1.symm fun t=>(h t).symm) (xrr hl hq e1 h)
  have e:p=q:=Prod.ext e1 e2;subst e;have hl':IsSpan l:=⟨fun r hr=>hl.1 r (List.mem_cons_of_mem _ hr),(zN.1 hl.2).2⟩
  have hm':IsSpan m:=⟨fun r hr=>hm.1 r (List.mem_cons_of_mem _ hr),(zN.1 hm.2).2⟩
  rw [xlO hl' hm' fun t=>?_]
  cases hc:hasP p t with
  | true=>rw [xqB hl hc,xqB hm hc]
  | false=>have:=h t;rwa [xjO,xjO,hc,Bool.false_or,Bool.false_or] at this
structure OutOk (out:List Per) (at':Int) (K:Int->Bool):Prop where
 span:IsSpan out
 low:∀ p,p∈out->p.2<=at'
 val:∀ t,0<=t->t<at'->inL out t=K t
def OutOk.past {out:List Per} {at':Int} {K:Int->Bool} (h:OutOk out at' K) {t:Int} (ht:at'<=t):inL out t=false:=by
 cases hc:inL out t with
 | false=>rfl
 | true =>
  obtain ⟨p,hp,_,h2,h3⟩:=xfh.1 hc;have:=h.low p hp;omega
def OutOk.skip {out:List Per} {at' nx:Int} {K:Int->Bool} (h:OutOk out at' K) (J:at'<=nx) (hK:∀ t,at'<=t->t<nx->K t=false):OutOk out nx K :=
 ⟨h.span,fun p hp=>by have:=h.low p hp;omega,fun t h1 h2=>by
  rcases Int.lt_or_le t at' with D|q
  . exact h.val t h1 D
  . rw [h.past q,hK t q h2]⟩
def OutOk.add {out:List Per} {at' nx:Int} {K:Int->Bool} (h:OutOk out at' K) (h0:0<=at') (D:at'<nx) (hF:nx<=1099511627776) (hK:∀ t,at'<=t->t<nx->K t=true) (hne:∀ p,p∈out->p.2≠at'):OutOk (out++[(at',nx)]) nx K:=by
 have hp:pv (at',nx)=true:=xb5.2 ⟨h0,D,hF⟩;refine ⟨⟨fun p hm=>?_,?_⟩,fun p hm=>?_,fun t h1 h2=>?_⟩
 . rcases zH.1 hm with hm|hm
   . exact h.span.1 p hm
   . rw [zw.1 hm];exact hp
 . refine List.pairwise_append.2 ⟨h.span.2,List.pairwise_singleton ..,fun p hm q hq=>?_⟩
   rw [zw.1 hq];have:=h.low p hm;have:=hne p hm;show p.2<at';omega
 . rcases zH.1 hm with hm|hm
   . have:=h.low p hm;omega
   . rw [zw.1 hm];exact Int.le_refl _
 . rw [xkz,xjO,xiC,Bool.or_false];rcases Int.lt_or_le t at' with hl|hg
   . rw [h.val t h1 hl];have:hasP (at',nx) t=false:=by
      cases hc:hasP (at',nx) t with
      | false=>rfl
      | true=>have:=(xcw.1 hc).2.1;simp only at this;omega
     rw [this,Bool.or_false]
   . rw [h.past hg,hK t hg h2,Bool.false_or];exact xcw.2 ⟨hp,hg,h2⟩
def OutOk.ext {o:List Per} {p:Per} {at' nx:Int} {K:Int->Bool} (h:OutOk (o++[p]) at' K) (he:p.2=at') (V:at'<nx) (hF:nx<=1099511627776) (hK:∀ t,at'<=t->t<nx->K t=true):OutOk (o++[(p.1,nx)]) nx K:=by
 have Q:=xb5.1 (h.span.1 p (List.mem_append_right _ (zw.2 rfl)));have hp:pv (p.1,nx)=true:=xb5.2 ⟨Q.1,by show p.1<nx;omega,hF⟩
 obtain ⟨O,_,D⟩:=List.pairwise_append.1 h.span.2;refine ⟨⟨fun q hm=>?_,?_⟩,fun q hm=>?_,fun t h1 h2=>?_⟩
 . rcases zH.1 hm with hm|hm
   . exact h.span.1 q (List.mem_append_left _ hm)
   . rw [zw.1 hm];exact hp
 . refine List.pairwise_append.2 ⟨O,List.pairwise_singleton ..,fun q hm r hr=>?_⟩
   rw [zw.1 hr];exact D q hm p (zw.2 rfl)
 . rcases zH.1 hm with hm|hm
   . have:=D q hm p (zw.2 rfl);omega
   . rw [zw.1 hm];exact Int.le_refl _
 . rcases Int.lt_or_le t at' with hl|hg
   . rw [<-h.val t h1 hl,xkz,xkz,xjO,xjO,xiC];have:hasP (p.1,nx) t=hasP p t:=by
      have J:=h.span.1 p (List.mem_append_right _ (zw.2 rfl));unfold hasP;rw [hp,J];have e1:decide (t<nx)=true:=decide_eq_true (by omega)
      have e2:decide (t<p.2)=true:=decide_eq_true (by omega)
      simp only [e1,e2]
     rw [this]
   . rw [hK t hg h2,xkz,xjO];have:hasP (p.1,nx) t=true:=xcw.2 ⟨hp,by show p.1<=t;omega,h2⟩
     rw [this];simp
end Go.Sim.M
end
noncomputable section
set_option maxRecDepth 100000
namespace Go.Sim.M
open Go.RowKit Go.Sim.Srt
theorem xvh:∀ a b:List UInt8,Lib.compareBytes a b=-1\/Lib.compareBytes a b=0\/Lib.compareBytes a b=1
 | [],[]=>by simp [Lib.compareBytes]
 | [],_::_=>by simp [Lib.compareBytes]
 | _::_,[]=>by simp [Lib.compareBytes]
 | x::a,y::b=>by
  unfold Lib.compareBytes;split
  . simp
  . split
    . simp
    . exact xvh a b
theorem xya:∀ a b:List UInt8,Lib.compareBytes b a=-(Lib.compareBytes a b)
 | [],[]=>by simp [Lib.compareBytes]
 | [],_::_=>by simp [Lib.compareBytes]
 | _::_,[]=>by simp [Lib.compareBytes]
 | x::a,y::b=>by
  unfold Lib.compareBytes;have ih:=xya a b;by_cases h1:x<y
  . have h2:¬ y<x:=fun h=>absurd (UInt8.lt_trans h1 h) (UInt8.lt_irrefl x)
    simp [h1,h2]
  . by_cases h2:y<x
    . simp [h1,h2]
    . simp [h1,h2,ih]
theorem xy5:∀ a b:List UInt8,Lib.compareBytes a b=0↔a=b
 | [],[]=>by simp [Lib.compareBytes]
 | [],_::_=>by simp [Lib.compareBytes]
 | _::_,[]=>by simp [Lib.compareBytes]
 | x::a,y::b=>by
  unfold Lib.compareBytes;have ih:=xy5 a b;by_cases h1:x<y
  . have:x≠y:=fun e=>by subst e;exact UInt8.lt_irrefl x h1
    simp [h1,this]
  . by_cases h2:y<x
    . have:x≠y:=fun e=>by subst e;exact UInt8.lt_irrefl x h2
      simp [h1,h2,this]
    . have:x=y:=UInt8.le_antisymm (UInt8.not_lt.1 h2) (UInt8.not_lt.1 h1);simp [h1,h2,this,ih]
theorem xvi:∀ a b c:List UInt8,Lib.compareBytes a b<=0->Lib.compareBytes b c<=0->Lib.compareBytes a c<=0
 | [],_,[],_,_=>by simp [Lib.compareBytes]
 | [],_,_::_,_,_=>by simp [Lib.compareBytes]
 | _::_,[],_,h,_=>by simp [Lib.compareBytes] at h
 | _::_,_::_,[],_,h=>by simp [Lib.compareBytes] at h
 | x::a,y::b,z::c,h1,h2=>by
  unfold Lib.compareBytes at h1 h2 |-;have ih:=xvi a b c;by_cases p1:x<y
  . by_cases p2:y<z
    . simp [UInt8.lt_trans p1 p2]
    . by_cases p3:z<y
      . simp [p2,p3] at h2
      . have:y=z:=UInt8.le_antisymm (UInt8.not_lt.1 p3) (UInt8.not_lt.1 p2);subst this;simp [p1]
  . by_cases q1:y<x
    . simp [p1,q1] at h1
    . have:x=y:=UInt8.le_antisymm (UInt8.not_lt.1 q1) (UInt8.not_lt.1 p1);subst this;simp only [p1,if_false] at h1;by_cases p2:x<z
      . simp [p2]
      . by_cases p3:z<x
        . simp [p2,p3] at h2
        . simp only [p2,p3,if_false] at h2 |-;exact ih h1 h2
theorem xDz (a b:List UInt8):Op.bytesLess a b=decide (Lib.compareBytes a b<0):=by
 induction a generalizing b with
 | nil=>cases b<;>simp [Op.bytesLess,Lib.compareBytes]
 | cons x a ih =>
  cases b with
  | nil=>simp [Op.bytesLess,Lib.compareBytes]
  | cons y b =>
   unfold Op.bytesLess Lib.compareBytes;by_cases h1:x<y
   . simp [h1]
   . by_cases h2:y<x
     . have:x≠y:=fun e=>by subst e;exact UInt8.lt_irrefl x h2
       simp [h1,h2,this]
     . have:x=y:=UInt8.le_antisymm (UInt8.not_lt.1 h2) (UInt8.not_lt.1 h1);simp [h1,h2,this,ih]
theorem xC8 (x y:Int):xcb x y=if x<y then -1 else if x>y then 1 else 0:=by
 unfold xcb xfa;have e:(x != x)=false:=by simp
 have f:(y != y)=false:=by simp
 rw [e,f];simp only [xaR,xad,zm,zU,if_false,sUF]
theorem xFX (p q r:Int):xmY p q r=if p≠0 then p else if q≠0 then q else r:=by
 unfold xmY;simp only [xaR,bne_iff_ne,sUF];split
 . rfl
 . split
   . rfl
   . split
     . rfl
     . rename_i h;simpa using (Classical.not_not.1 h).symm
section
variable (ak ai bk bi ck ci : Int) (at' bt ct : List UInt8)
theorem xwh:xaF ak ai at' bk bi bt=if ak<bk then -1 else if ak>bk then 1 else if ai<bi then -1 else if ai>bi then 1 else Lib.compareBytes at' bt:=by
 unfold xaF;rw [xFX,xC8,xC8];by_cases h1:ak<bk
 . simp [h1]
 . by_cases h2:ak>bk
   . simp [h1,h2]
   . by_cases h3:ai<bi
     . simp [h1,h2,h3]
     . by_cases h4:ai>bi<;>simp [h1,h2,h3,h4]
theorem xG1:xaF ak ai at' bk bi bt=xhl ak ai at' bk bi bt:=by
 rw [xwh];unfold xhl xf5;rw [xDz];simp only [xaR,zm,bne_iff_ne,sUF];by_cases h1:ak<bk
 . have:ak≠bk:=by omega
   simp [h1,this]
 . by_cases h2:ak>bk
   . have:ak≠bk:=by omega
     simp [h1,h2,this]
   . have:ak=bk:=by omega
     subst this;by_cases h3:ai<bi
     . have:ai≠bi:=by omega
       simp [h3,this]
     . by_cases h4:ai>bi
       . have:ai≠bi:=by omega
         simp [h3,h4,this]
       . have:ai=bi:=by omega
         subst this;have he:=xy5 at' bt;rcases xvh at' bt with h|h|h
         . have hne:at'≠bt:=fun e=>by rw [he.2 e] at h;simp at h
           simp [h,hne]
         . have:=he.1 h;subst this;simp [h]
         . have hne:at'≠bt:=fun e=>by rw [he.2 e] at h;simp at h
           simp [h,hne]
theorem xF7:xaF bk bi bt ak ai at'=-(xaF ak ai at' bk bi bt):=by
 rw [xwh,xwh,xya at' bt];by_cases h1:ak<bk
 . have:¬ bk<ak:=by omega
   simp [h1,this]
 . by_cases h2:bk<ak
   . simp [h1,h2]
   . by_cases h3:ai<bi
     . have:¬ bi<ai:=by omega
       simp [h1,h2,h3,this]
     . by_cases h4:bi<ai<;>simp [h1,h2,h3,h4]
theorem xF8:xaF ak ai at' bk bi bt=0↔ak=bk/\ai=bi/\at'=bt:=by
 rw [xwh];by_cases h1:ak<bk
 . have:ak≠bk:=by omega
   simp [h1,this]
 . by_cases h2:ak>bk
   . have:ak≠bk:=by omega
     simp [h1,h2,this]
   . have e:ak=bk:=by omega
     by_cases h3:ai<bi
     . have:ai≠bi:=by omega
       simp [h1,h2,h3,this]
     . by_cases h4:ai>bi
       . have:ai≠bi:=by omega
         simp [h1,h2,h3,h4,this]
       . have f:ai=bi:=by omega
         simp [h1,h2,h3,h4,e,f,xy5]
theorem xHk:xaF ak ai at' bk bi bt<=0↔ak<bk\/(ak=bk/\(ai<bi\/(ai=bi/\Lib.compareBytes at' bt<=0))):=by
 rw [xwh];by_cases h1:ak<bk
 . simp [h1]
 . by_cases h2:ak>bk
   . have:ak≠bk:=by omega
     simp [h1,h2,this]
   . have e:ak=bk:=by omega
     by_cases h3:ai<bi
     . simp [h1,h2,h3,e]
     . by_cases h4:ai>bi
       . have:ai≠bi:=by omega
         simp [h1,h2,h3,h4,this]
       . have f:ai=bi:=by omega
         simp [h1,h2,h3,h4,e,f]
theorem xEs (h1:xaF ak ai at' bk bi bt<=0) (h2:xaF bk bi bt ck ci ct<=0):xaF ak ai at' ck ci ct<=0:=by
 rw [xHk] at h1 h2 |-;rcases h1 with h1|⟨e1,h1⟩
 . rcases h2 with h2|⟨e2,h2⟩<;>exact .inl (by omega)
 . rcases h2 with h2|⟨e2,h2⟩
   . exact .inl (by omega)
   . refine .inr ⟨by omega,?_⟩
     rcases h1 with h1|⟨f1,h1⟩
     . rcases h2 with h2|⟨f2,h2⟩<;>exact .inl (by omega)
     . rcases h2 with h2|⟨f2,h2⟩
       . exact .inl (by omega)
       . exact .inr ⟨by omega,xvi _ _ _ h1 h2⟩
end
structure Val where
 k:Int
 i:Int
 t:List UInt8
deriving DecidableEq
instance:Inhabited Val:=⟨⟨0,0,[]⟩⟩
def encV (v:Val):AV:=.agg [.int .i64 v.k,.int .i64 v.i,.str v.t]
def Val.wf (v:Val):Prop:=(Lit.int .i64 v.k).wf=true/\(Lit.int .i64 v.i).wf=true/\v.t.length<=maxLen
abbrev Row:=List Val
def encR (r:Row):AV:=.list 3 (r.map encV)
def Row.wf (r:Row):Prop:=r.length<=maxLen/\∀ v,v∈r->v.wf
@[simp] theorem xkb (v:Val):(encV v).cells=[.int .i64 v.k,.int .i64 v.i,.str v.t]:=rfl
@[simp] theorem xnu (v:Val):xId [Sh.int .i64,Sh.int .i64,Sh.str] [.int .i64 v.k,.int .i64 v.i,.str v.t] 0=true:=rfl
theorem xac {α:Type} (e:α->AV) (l:List α) (n:Nat) (h:n<l.length):(l.map e).getD n .top=e l[n]:=by
 simp [List.getD,h]
theorem xwl {n:Nat} (h:n+1<=maxLen):IntKind.i64.wrap ((n:Int)+1)=((n+1:Nat):Int):=by
 unfold maxLen at h;rw [xaK (by omega) (by omega)];omega
theorem xed {α:Type} {l:List α} {n:Nat} (h:n<l.length):l.drop n=l[n]::l.drop (n+1):=List.drop_eq_getElem_cons h
def cmpV (a b:Val):Int:=xaF a.k a.i a.t b.k b.i b.t
theorem xvm (a b:Val):xhl a.k a.i a.t b.k b.i b.t=cmpV a b:=(xG1 ..).symm
theorem xvn (a b:Val):xaF a.k a.i a.t b.k b.i b.t=cmpV a b:=rfl
def xHA:Row->Row->Bool×Int×Unit
 | [],_=>(false,0,())
 | _::_,[]=>(true,1,())
 | a::ra,b::rb=>if cmpV a b≠0 then (true,cmpV a b,()) else xHA ra rb
theorem xyb (ra rb:Row) (hl:ra.length<=maxLen):∀ (k n:Nat),n+k=ra.length->Iter (xaz (ra.map encV) (rb.map encV) (ra.map encV) ((ra.length:Nat):Int)) (n:Int)=some (xHA (ra.drop n) (rb.drop n))
 | 0,n,hk=>by
  rw [zr (by omega:ra.length<=n)]
  refine xah ?_;have h0:¬ ((n:Int)<(ra.length:Int)):=by omega
  simp only [xaz,xbL,xbB,xaR,h0,zn,zU,if_false,xHA,sUF]
 | k+1,n,hk=>by
  have h1:n<ra.length:=by omega
  have h1':(n:Int)<(ra.length:Int):=by omega
  rw [xed h1];by_cases h2:n<rb.length
  . rw [xed h2];have h2':¬ ((n:Int)>=(rb.length:Int)):=by omega
    have h2'':(n:Int)<(rb.length:Int):=by omega
    by_cases h3:cmpV ra[n] rb[n]=0
    . rw [xaq (s':=((n+1:Nat):Int)) ?_,xyb ra rb hl k (n+1) (by omega)]
      . simp [xHA,h3]
      . simp only [xaz,xbL,xbB,xaR,h1',h2',h2'',za,zo,zO,xac encV _ _ h1,xac encV _ _ h2,xkb,xnu,sUF];simp [h1,h2,xvn,AV.toInt,AV.toStr,h3,xwl (show n+1<=maxLen by omega)]
    . refine xah ?_;simp only [xaz,xbL,xbB,xaR,h1',h2',h2'',za,zo,zO,xac encV _ _ h1,xac encV _ _ h2,xkb,xnu,sUF];simp [h1,h2,xvn,AV.toInt,AV.toStr,h3,xHA]
  . rw [zr (by omega:rb.length<=n)]
    have h2':(n:Int)>=(rb.length:Int):=by omega
    refine xah ?_;simp only [xaz,xbL,xbB,xaR,h1',h2',za,zo,zO,xac encV _ _ h1,xkb,xnu,sUF];simp [h1,xHA]
def cmpR:Row->Row->Int
 | [],[]=>0
 | [],_::_=>-1
 | _::_,[]=>1
 | a::ra,b::rb=>if cmpV a b≠0 then cmpV a b else cmpR ra rb
theorem xFd (ra rb:Row):br (xHA ra rb).1 (xHA ra rb).2.1 (br (decide ((ra.length:Int)<(rb.length:Int))) (-1:Int) 0)=cmpR ra rb:=by
 induction ra generalizing rb with
 | nil=>cases rb<;>simp [xHA,cmpR,xaR,sUF]
 | cons a ra ih =>
  cases rb with
  | nil=>simp [xHA,cmpR,xaR,sUF]
  | cons b rb =>
   unfold xHA cmpR;split
   . simp [xaR,sUF]
   . simpa using ih rb
theorem xBz (ra rb:Row) (hl:ra.length<=maxLen):xjE (ra.map encV) (rb.map encV)=some (cmpR ra rb):=by
 have h:=xyb ra rb hl ra.length 0 (by omega)
 simp only [zt] at h;unfold xjE xk9 xir xg9;rw [za,za,show ((0:Int))=((0:Nat):Int) from rfl,h,<-xFd ra rb]
 generalize xHA ra rb=p;obtain ⟨a,b,_⟩:=p;cases a<;>by_cases h1:((ra.length:Int)<(rb.length:Int))<;>simp [h1,xaR,sUF]
def xHB:Row->Row->Bool×Int×Unit
 | a::ra,b::rb=>if cmpV a b≠0 then (true,cmpV a b,()) else xHB ra rb
 | _,_=>(false,0,())
theorem xyG (ra rb:Row) (hl:ra.length<=maxLen):∀ (k n:Nat),n+k=ra.length->Iter (xaV (ra.map encV) (rb.map encV)) (n:Int)=some (xHB (ra.drop n) (rb.drop n))
 | 0,n,hk=>by
  rw [zr (by omega:ra.length<=n)]
  refine xah ?_;have h0:¬ ((n:Int)<(ra.length:Int)):=by omega
  simp only [xaV,xc8,xcM,xaR,za,h0,zn,zU,if_false,xHB,sUF]
 | k+1,n,hk=>by
  have h1:n<ra.length:=by omega
  have h1':(n:Int)<(ra.length:Int):=by omega
  rw [xed h1];by_cases h2:n<rb.length
  . rw [xed h2];have h2'':(n:Int)<(rb.length:Int):=by omega
    by_cases h3:cmpV ra[n] rb[n]=0
    . rw [xaq (s':=((n+1:Nat):Int)) ?_,xyG ra rb hl k (n+1) (by omega)]
      . simp [xHB,h3]
      . simp only [xaV,xc8,xcM,xaR,za,h1',h2'',zo,zO,xac encV _ _ h1,xac encV _ _ h2,xkb,xnu,sUF];simp [h1,h2,xvm,AV.toInt,AV.toStr,h3,xwl (show n+1<=maxLen by omega)]
    . refine xah ?_;simp only [xaV,xc8,xcM,xaR,za,h1',h2'',zo,zO,xac encV _ _ h1,xac encV _ _ h2,xkb,xnu,sUF];simp [h1,h2,xvm,AV.toInt,AV.toStr,h3,xHB]
  . rw [zr (by omega:rb.length<=n)]
    have h2':¬ ((n:Int)<(rb.length:Int)):=by omega
    refine xah ?_;simp only [xaV,xc8,xcM,xaR,za,h1',h2',zo,zn,sUF];simp [xHB]
theorem xF1 (ra rb:Row):br (xHB ra rb).1 (xHB ra rb).2.1 (br (decide ((ra.length:Int)<(rb.length:Int))) (-1:Int) (br (decide ((ra.length:Int)>(rb.length:Int))) 1 0))=cmpR ra rb:=by
 induction ra generalizing rb with
 | nil=>cases rb<;>simp [xHB,cmpR,xaR,sUF]
 | cons a ra ih =>
  cases rb with
  | nil =>
   have:¬ ((ra.length:Int)+1<0):=by omega
   have h2:(0:Int)<(ra.length:Int)+1:=by omega
   simp [xHB,cmpR,xaR,this,h2,sUF]
  | cons b rb =>
   unfold xHB cmpR;split
   . simp [xaR,sUF]
   . simpa using ih rb
theorem xD7 (ra rb:Row) (hl:ra.length<=maxLen):xjz (ra.map encV) (rb.map encV)=some (cmpR ra rb):=by
 have h:=xyG ra rb hl ra.length 0 (by omega)
 simp only [zt] at h;unfold xjz xkV;rw [za,za,show ((0:Int))=((0:Nat):Int) from rfl,h,<-xF1 ra rb]
 generalize xHB ra rb=p;obtain ⟨a,b,_⟩:=p;cases a<;>by_cases h1:((ra.length:Int)<(rb.length:Int))<;>by_cases h2:((ra.length:Int)>(rb.length:Int))<;>simp [h1,h2,xaR,sUF]
def encP (p:Per):AV:=.agg [.int .i64 p.1,.int .i64 p.2]
structure Cm {α:Type} (f:α->α->Int):Prop where
 swap:∀ x y,f y x=-(f x y)
 trans:∀ x y z,f x y<=0->f y z<=0->f x z<=0
theorem Cm.ord {α:Type} {f:α->α->Int} (h:Cm f):Ord f:=⟨fun x y=>by rw [h.swap x y];omega,h.trans⟩
theorem Cm.lt1 {α:Type} {f:α->α->Int} (h:Cm f) {x y z:α} (h1:f x y<0) (h2:f y z<=0):f x z<0:=by
 have h3:=h.trans x y z (by omega) h2
 have h4:=h.swap x z;have h5:=h.swap x y;refine Classical.byContradiction fun hn=>?_
 have:=h.trans y z x h2 (by omega)
 omega
theorem Cm.lt2 {α:Type} {f:α->α->Int} (h:Cm f) {x y z:α} (h1:f x y<=0) (h2:f y z<0):f x z<0:=by
 have h3:=h.trans x y z h1 (by omega)
 have h4:=h.swap x z;have h5:=h.swap y z;refine Classical.byContradiction fun hn=>?_
 have:=h.trans z x y (by omega) h1
 omega
theorem Cm.on {α β:Type} {f:β->β->Int} (h:Cm f) (e:α->β):Cm fun x y=>f (e x) (e y):=⟨fun x y=>h.swap _ _,fun x y z=>h.trans _ _ _⟩
theorem xFf:Cm cmpV:=⟨fun x y=>xF7 ..,fun x y z h1 h2=>xEs _ _ _ _ _ _ _ _ _ h1 h2⟩
theorem xAt {x y:Val} (h:cmpV x y=0):x=y:=by
 obtain ⟨h1,h2,h3⟩:=(xF8 ..).1 h;cases x;cases y;simp_all
theorem xp5:∀ x y:Row,cmpR y x=-(cmpR x y)
 | [],[]=>by simp [cmpR]
 | [],_::_=>by simp [cmpR]
 | _::_,[]=>by simp [cmpR]
 | a::x,b::y=>by
  have h1:=xFf.swap a b;have h2:=xp5 x y;unfold cmpR;by_cases h:cmpV a b=0
  . have:cmpV b a=0:=by omega
    simp [h,this,h2]
  . have:cmpV b a≠0:=by omega
    simp [h,this,h1]
theorem xsj:∀ x y z:Row,cmpR x y<=0->cmpR y z<=0->cmpR x z<=0
 | [],_,[],_,_=>by simp [cmpR]
 | [],_,_::_,_,_=>by simp [cmpR]
 | _::_,[],_,h,_=>by simp [cmpR] at h
 | _::_,_::_,[],_,h=>by simp [cmpR] at h
 | a::x,b::y,c::z,h1,h2=>by
  unfold cmpR at h1 h2 |-;have ih:=xsj x y z;have hf:=xFf;by_cases p:cmpV a b=0<;>by_cases q:cmpV b c=0<;>simp only [p,q,ne_eq,not_true,not_false_iff,if_true,if_false] at h1 h2
  . have c1:cmpV a c<=0:=hf.trans a b c (by omega) (by omega)
    have c2:cmpV c a<=0:=hf.trans c b a (by have:=hf.swap b c;omega) (by have:=hf.swap a b;omega)
    have:cmpV a c=0:=by have:=hf.swap a c;omega
    simp only [this,ne_eq,not_true,if_false];exact ih h1 h2
  . have:=hf.lt2 (x:=a) (y:=b) (z:=c) (by omega) (by omega)
    have h0:cmpV a c≠0:=by omega
    simp only [ne_eq,h0,not_false_iff,if_true];omega
  . have:=hf.lt1 (x:=a) (y:=b) (z:=c) (by omega) (by omega)
    have h0:cmpV a c≠0:=by omega
    simp only [ne_eq,h0,not_false_iff,if_true];omega
  . have:=hf.lt1 (x:=a) (y:=b) (z:=c) (by omega) (by omega)
    have h0:cmpV a c≠0:=by omega
    simp only [ne_eq,h0,not_false_iff,if_true];omega
theorem xoV:Cm cmpR:=⟨xp5,xsj⟩
theorem xlW:∀ {x y:Row},cmpR x y=0->x=y
 | [],[],_=>rfl
 | [],_::_,h=>by simp [cmpR] at h
 | _::_,[],h=>by simp [cmpR] at h
 | a::x,b::y,h=>by
  unfold cmpR at h;by_cases p:cmpV a b=0
  . simp only [p,ne_eq,not_true,if_false] at h;rw [xAt p,xlW h]
  . simp [p] at h
theorem xAs (x:Row):cmpR x x=0:=by have:=xp5 x x;omega
theorem xpl {α:Type} {c:α->α->Int} (hc:Cm c) (h0:∀ x y,c x y=0->x=y):∀ {l l':List α},l.Perm l'->Sorted c l->Sorted c l'->l=l'
 | [],l',hp,_,_=>by simpa using hp.symm.eq_nil
 | x::l,[],hp,_,_=>by simpa using hp.eq_nil
 | x::l,y::l',hp,h1,h2=>by
  have q:x=y:=by
   obtain ⟨a1,a2⟩:=zN.1 h1;obtain ⟨b1,b2⟩:=zN.1 h2;have hx:x∈y::l':=hp.mem_iff.1 (by simp)
   have hy:y∈x::l:=hp.mem_iff.2 (by simp)
   rcases zD.1 hx with h|h
   . exact h
   . rcases zD.1 hy with h'|h'
     . exact h'.symm
     . have:=a1 y h';have:=b1 x h;have:=hc.swap x y;exact h0 x y (by omega)
  subst q;rw [xpl hc h0 ((List.perm_cons _).1 hp) (zN.1 h1).2 (zN.1 h2).2]
end Go.Sim.M
end
noncomputable section
set_option maxRecDepth 100000
namespace Go.Sim.M
open Go.RowKit Go.Sim.Srt
def xrL {σ ρ:Type} {step:σ->Option (σ⊕ρ)} (st:Nat->σ) (n:Nat) (r:ρ) (hs:∀ k,k<n->step (st k)=some (.inl (st (k+1)))) (he:step (st n)=some (.inr r)):∀ d k,k+d=n->Iter step (st k)=some r
 | 0,k,h=>by
  have:k=n:=by omega
  subst this;exact xah he
 | d+1,k,h=>by
  rw [xaq (hs k (by omega))]
  exact xrL st n r hs he d (k+1) (by omega)
def xg2 {α β:Type} {step:Nat×Int×List AV->Option ((Nat×Int×List AV)⊕(Nat×List AV))} (l:List α) (g:α->List β) (eb:β->AV) (c:Nat) (hc:∀ a,a∈l->(g a).length<=c)
  (hs:∀ (n:Nat) (h:n<l.length) (D:List β),D.length<=c*n->step (D.length,(n:Int),D.map eb)=some (.inl ((D++g l[n]).length,((n+1:Nat):Int),(D++g l[n]).map eb)))
  (he:∀ D:List β,step (D.length,(l.length:Int),D.map eb)=some (.inr (D.length,D.map eb))):Iter step ((0:Nat),(0:Int),[])=some ((l.flatMap g).length,(l.flatMap g).map eb):=by
 have key:∀ (d n:Nat) (D:List β),n+d=l.length->D.length<=c*n->Iter step (D.length,(n:Int),D.map eb)=some ((D++(l.drop n).flatMap g).length,(D++(l.drop n).flatMap g).map eb):=by
  intro d;induction d with
  | zero =>
   intro n D h hD;have:n=l.length:=by omega
   subst this;rw [zr (zd _),List.flatMap_nil,zF];exact xah (he D)
  | succ d ih =>
   intro n D h hD;have hn:n<l.length:=by omega
   have h2:(D++g l[n]).length<=c*(n+1):=by
    rw [z8,Nat.mul_add,Nat.mul_one];have:=hc l[n] (zp hn);omega
   rw [xaq (hs n hn D hD),ih (n+1) (D++g l[n]) (by omega) h2,xed hn,zS,zx]
 have:=key l.length 0 [] (by omega) (by simp)
 simpa using this
def xib {α β:Type} {g:α->List β} {c:Nat}:∀ (l:List α),(∀ a,a∈l->(g a).length<=c)->(l.flatMap g).length<=c*l.length
 | [],_=>by simp
 | a::l,h=>by
  have h1:=h a (by simp)
  have h2:=xib l fun b hb=>h b (by simp [hb])
  rw [zS,z8,zG,Nat.mul_add,Nat.mul_one];omega
def xHO {α β:Type} (f:α->β):∀ l:List α,(l.flatMap fun a=>[f a])=l.map f
 | []=>rfl
 | a::l=>by rw [zS,xHO f l];rfl
def xvg {α:Type} (o:Option α) (d:α):br o.isSome (some (o.getD d)) none=o:=by cases o<;>rfl
def xHp {n:Nat} (h:n+1<=4611686018427387904):IntKind.i64.wrap ((n:Int)+1)=((n+1:Nat):Int):=by
 rw [xaK (by omega) (by omega)];omega
structure Fc where
 r:Row
 p:Per
def encF (f:Fc):AV:=.agg [.list 3 (f.r.map encV),.int .i64 f.p.1,.int .i64 f.p.2]
def encN (n:Int):AV:=.int .i64 n
abbrev Cnt:=Per×Int
def encC (c:Cnt):AV:=.agg [.int .i64 c.1.1,.int .i64 c.1.2,.int .i64 c.2]
def cF0 (f:Fc):((encF f).cells.getD 0 .top).toList=f.r.map encV:=rfl
def cF1 (f:Fc):((encF f).cells.getD 1 .top).toInt=f.p.1:=rfl
def cF2 (f:Fc):((encF f).cells.getD 2 .top).toInt=f.p.2:=rfl
def sF0 (f:Fc):xH6 (Sh.list 3) ((encF f).cells.getD 0 .top)=true:=rfl
def sF1 (f:Fc):xH6 (Sh.int .i64) ((encF f).cells.getD 1 .top)=true:=rfl
def sF2 (f:Fc):xH6 (Sh.int .i64) ((encF f).cells.getD 2 .top)=true:=rfl
def lF (f:Fc):((encF f).cells.length==3)=true:=rfl
def sF12 (f:Fc):xId [Sh.int .i64,Sh.int .i64] (encF f).cells 1=true:=rfl
def sF02 (f:Fc):xId [Sh.list 3,Sh.int .i64,Sh.int .i64] (encF f).cells 0=true:=rfl
def cP0 (p:Per):((encP p).cells.getD 0 .top).toInt=p.1:=rfl
def cP1 (p:Per):((encP p).cells.getD 1 .top).toInt=p.2:=rfl
def lP (p:Per):((encP p).cells.length==2)=true:=rfl
def sP (p:Per):xId [Sh.int .i64,Sh.int .i64] (encP p).cells 0=true:=rfl
def sP0 (p:Per):xH6 (Sh.int .i64) ((encP p).cells.getD 0 .top)=true:=rfl
def sP1 (p:Per):xH6 (Sh.int .i64) ((encP p).cells.getD 1 .top)=true:=rfl
def cN (n:Int):((encN n).cells.getD 0 .top).toInt=n:=rfl
def sN (n:Int):xH6 (Sh.int .i64) ((encN n).cells.getD 0 .top)=true:=rfl
def cC0 (c:Cnt):((encC c).cells.getD 0 .top).toInt=c.1.1:=rfl
def cC1 (c:Cnt):((encC c).cells.getD 1 .top).toInt=c.1.2:=rfl
def cC2 (c:Cnt):((encC c).cells.getD 2 .top).toInt=c.2:=rfl
def lC (c:Cnt):((encC c).cells.length==3)=true:=rfl
def sC (c:Cnt):xId [Sh.int .i64,Sh.int .i64] (encC c).cells 0=true:=rfl
def sC3 (c:Cnt):xId [Sh.int .i64,Sh.int .i64,Sh.int .i64] (encC c).cells 0=true:=rfl
def sC2 (c:Cnt):xH6 (Sh.int .i64) ((encC c).cells.getD 2 .top)=true:=rfl
def xf4 (p:Per):xaO p.1 p.2=pv p:=by
 unfold xaO pv;by_cases h1:0<=p.1<;>by_cases h2:p.1<p.2<;>simp [h1,h2,xaR,sUF]
def xn1 (p:Per):xjh p.1 p.2=pv p:=by
 unfold xjh pv;by_cases h1:0<=p.1<;>by_cases h2:p.1<p.2<;>simp [h1,h2,xaR,sUF]
end Go.Sim.M
end
