/- Part 14 of the proof of the law. -/
import Derived.Test.YtckgiglpmfpagaaGreatDoorQB13
import Derived.RangeFuncSeq
set_option linter.unusedVariables false
set_option linter.unusedSimpArgs false
set_option linter.unnecessarySimpa false
noncomputable section
namespace Go.Sim
open Go.RowKit
theorem Ev.mv {w w':World} {A A':Nat->Prop} {M M':Id->Option MB} {B n:Nat} {H:List Box} {av:Nat->Prop} (hR:HR w A M B H) (he:Ev ⟨av,w,A,M,n⟩ w' A' M') (hn:H.length<=n):Mv w A M w' A' M' :=
 ⟨he.size,fun b hb hA=>he.keep b hb (.inl hA),he.less,he.more,fun id m hm=>he.ids id m (by
  obtain ⟨bx,h1,_⟩:=hR.box id m hm;exact Nat.lt_of_lt_of_le (xlP h1) hn) hm,⟨fun b hb q=>he.keep b hb (.inr q),he.src⟩⟩
theorem Ev.over {av V:Nat->Prop} {W W2 W2b W3 W3b:World} {A1 A2 A3:Nat->Prop} {M1 M2 M3:Id->Option MB} {n l:Nat} (h1:Ev ⟨av,W,A1,M1,n⟩ W2 A2 M2) (h2:Ev ⟨V,W2b,A2,M2,n⟩ W3 A3 M3)
  (hb:∀ b,b≠l->W2b.heap[b]?=W2.heap[b]?) (hs:W2b.heap.size=W2.heap.size) (h3:∀ b,b≠l->W3b.heap[b]?=W3.heap[b]?) (Z:W3b.heap.size=W3.heap.size) (hl:W3b.heap[l]?=W.heap[l]?):Ev ⟨av,W,A1,M1,n⟩ W3b A3 M3:=by
 have hsz:W.heap.size<=W2.heap.size:=h1.size;have Y:W2b.heap.size<=W3.heap.size:=h2.size;have out:∀ b,b<W.heap.size->(∀ id m,M1 id=some m->0<m.cap->m.b≠b)->∀ id m,M2 id=some m->0<m.cap->m.b≠b:=fun b hb O id m hi h0 e=>by
  rcases h1.src id m hi h0 with ⟨i,m1,e1,e2,e3⟩|e1
  . exact O i m1 e1 e2 (by rw [<-e3,e])
  . simp only at e1;omega
 refine ⟨?_,fun b q J=>?_,fun b q hA=>?_,fun b q hA O=>?_,fun id m hi hm=>?_,fun id m' hi h0=>?_⟩
 . show W.heap.size<=W3b.heap.size;omega
 . simp only at q J |-;by_cases Q:b=l
   . rw [Q,hl]
   . have U:W3.heap[b]?=W2b.heap[b]?:=h2.keep b (by simp only [];omega) (by
      rcases J with J|J
      . exact .inl fun h=>J (h1.less b q h)
      . exact .inr (out b q J))
     rw [h3 b Q,U,hb b Q];exact h1.keep b q J
 . simp only at q;exact h1.less b q (h2.less b (by simp only [];omega) hA)
 . simp only at q hA O;exact h2.more b (by simp only [];omega) (h1.more b q hA O) (out b q O)
 . obtain ⟨m1,e1,e2⟩:=h1.ids id m hi hm;obtain ⟨m2,e3,e4⟩:=h2.ids id m1 hi e1;refine ⟨m2,e3,?_⟩;rcases e2 with rfl|e2<;>rcases e4 with rfl|e4
   . exact .inl rfl
   . exact .inr e4
   . exact .inr e2
   . exact .inr (Nat.lt_trans e2 e4)
 . rcases h2.src id m' hi h0 with ⟨i,m1,e1,e2,e3⟩|e1
   . rcases h1.src i m1 e1 e2 with ⟨i2,m2,g1,g2,g3⟩|g1
     . exact .inl ⟨i2,m2,g1,g2,by rw [e3,g3]⟩
     . exact .inr (by rw [e3];exact g1)
   . simp only at e1;exact .inr (by show W.heap.size<=_;omega)
theorem SR.grow {w0 w w':World} {A0:Cx} {A:Nat->Prop} {M:Id->Option MB} {s:St} {a:Act} (h:SR w0 A0 w A M s a) (hb:Below w.heap.size w w'):SR w0 A0 w' A M s a :=
 ⟨
  h.base.trans (hb.mono h.base.size),h.outer,h.size,fun t ht=>(h.tmps t ht).grow hb,h.heap.grow hb,h.defers.same fun D hD=>hb.block D (xdD hD),
  h.ev.step ⟨hb.size,fun b q _=>hb.block b q,fun _ _ h=>h,fun _ _ h _=>h,MExt.refl M,.of_new hb fun _ _ h=>.inl h⟩⟩
def IterC (P:Program) (Inv:IV) (fo:FuncId) (cl:AV) (xs:List AV) (op:AV->Bool):Prop :=
 Enters P fo/\∀ (w:World) (A:Nat->Prop) (lv:Value),Rel w A xHp lv cl->∀ (l:Nat) (J:List AV->(Nat->Prop)->World->Prop) (Jx:List AV->World->Prop),
  (∀ pre A W W',J pre A W->Below W.heap.size W W'->J pre A W')->(∀ pre W W',Jx pre W->Below W.heap.size W W'->Jx pre W') ->
  (∀ pre A W,J pre A W->Inv W/\∀ b,A b->b<W.heap.size)->(∀ pre W,Jx pre W->Inv W) ->
  (∀ pre v x suf A W,pre++x::suf=xs.filter op->J pre A W->Rel W A xHp v x->YieldAt Fence.wide 0 P l #[v] W fun e W' =>
   (e=.returned (.bool true)/\∃ A',J (pre++[x]) A' W'/\W.heap.size<=W'.heap.size/\(∀ b,b<W.heap.size->A' b->A b)/\∀ b,b<W.heap.size->¬ A b->W'.heap[b]?=W.heap[b]?) \/
   (e=.returned (.bool false)/\Jx (pre++[x]) W')) ->
  J [] A w->CallsIn Fence.wide 0 P fo #[.func (.yield l) #[] #[],lv] w fun e W'=>(∃ v,e=.returned v)/\((∃ A',J (xs.filter op) A' W')\/∃ pre suf,pre++suf=xs.filter op/\Jx pre W')
def stepS {σ ρ:Type} (step:σ->AV->σ⊕ρ):σ⊕ρ->AV->σ⊕ρ
 | .inl s,x=>step s x
 | .inr r,_=>.inr r
theorem xr3 {σ ρ:Type} (step:σ->AV->σ⊕ρ) (r:ρ):∀ l:List AV,l.foldl (stepS step) (.inr r)=.inr r
 | []=>rfl
 | x::l=>by simp only [List.foldl_cons,stepS];exact xr3 step r l
theorem xBY {L L':List Nat} (h:L.map rmark=L'.map rmark):L=L':=by
 induction L generalizing L' with
 | nil=>cases L'<;>simp_all
 | cons D L ih =>
  cases L' with
  | nil=>simp at h
  | cons D' L' =>
   simp only [zV,List.cons.injEq,rmark,Deferred.mk.injEq,Target.collected.injEq,and_true] at h;obtain ⟨rfl,h⟩:=h;rw [ih h]
theorem xr1 {P:Program} {Inv:IV} (a6:InvOk Inv) (ba:Inv.top=true) {fo:FuncId} {cl:AV} {xs:List AV} {op:AV->Bool} {g:Operand} {p:Tmp} {U Y:Code} {T:List AV} {n:Nat} {σ ρ:Type}
  (Hs:σ->List Box) (Ho:ρ->List Box) (step:σ->AV->σ⊕ρ) (aj:∀ s,(Hs s).length=n) {s0:σ} (hit:IterC P Inv fo cl xs op) (bc:cl.pure=true) (hg:St.eval ⟨T,Hs s0⟩ g=.func fo [cl])
  (ag:∀ pre s x ah,pre++x::ah=xs.filter op->pre.foldl (stepS step) (.inl s0)=.inl s->Does P ⟨Inv.inv,n,false⟩ U (fun e s1=>e=.normal/\Does P ⟨Inv.inv,n,false⟩ Y (fun e s'=>match step s x with
   | .inl s2=>e=.normal/\∃ T',Weak n s' ⟨T',Hs s2⟩
   | .inr r=>e=.ret/\∃ T',Weak n s' ⟨T',Ho r⟩) s1) ⟨T.set p x,Hs s⟩) :
  Does P Inv (.rangeFunc g #[p] U Y) (fun e s'=>match (xs.filter op).foldl (stepS step) (.inl s0) with
   | .inl s=>e=.normal/\s'=⟨T,Hs s⟩
   | .inr r=>e=.ret/\s'=⟨T,Ho r⟩) ⟨T,Hs s0⟩:=by
 intro w0 A0 w A M a Qc hI bw hs hQ ro ap;have ap:=ap ba;subst ap;rw [xAD];have ax:=hs.eval g;rw [hg] at ax;obtain ⟨cv,bh,bn,bv⟩:=ax.func_inv;have be:∃ lv,cv=#[lv]:=by
  obtain ⟨l⟩:=cv;match l,bn with
  | [lv],_=>exact ⟨lv,rfl⟩
 obtain ⟨lv,rfl⟩:=be;have a2:Rel w A xHp lv cl:=by
  have:=bv 0 (by simp)
  exact (show Rel w A M lv cl by simpa using this).pure bc
 have b0:=hs.heap.lt;obtain ⟨L0,az,bz,a0⟩:=hs.defers;refine wpIn_rangeFunc ?_;intro fn b1;obtain ⟨q,O⟩:∃ q:LoopState->Option Code->Loop,q=fun st pe=>{ state:=st,pending:=pe,fn:=fn,tmps:=a.tmps,params:=#[p],assign:=U,body:=Y,defers:=w.heap.size }:=⟨_,rfl⟩
 obtain ⟨W1,ai⟩:∃ W1,(w.alloc (.deferred (some []))).alloc (.loop (q .ready none))=W1:=⟨_,rfl⟩;have bp:W1.heap[w.heap.size+1]?=some (.loop (q .ready none)):=by
  rw [<-ai];have:=World.alloc_heap_new (w.alloc (.deferred (some []))) (.loop (q .ready none));rwa [World.size_alloc] at this
 have bj:W1.heap[w.heap.size]?=some (.deferred (some [])):=by
  rw [<-ai];exact (Below.heap_alloc _ _ _ (by simp)).trans (World.alloc_heap_new w _)
 have an:Below w.heap.size w W1:=by
  rw [<-ai];exact ((Below.refl _ w).alloc (zd _) _).alloc (by simp) _
 have bo:w0.heap.size<=w.heap.size:=hs.base.size;have bk:A0.w1.heap.size<=w.heap.size:=hs.ev.size;let J:List AV->(Nat->Prop)->World->Prop:=fun pre A' W=>∃ s,pre.foldl (stepS step) (.inl s0)=.inl s/\(∃ M',SR w0 A0 W A' M' ⟨T,Hs s⟩ a)/\w.heap.size<=W.heap.size /\
  W.heap[w.heap.size+1]?=some (.loop (q .ready none))/\W.heap[w.heap.size]?=some (.deferred (some []))
 let Jx:List AV->World->Prop:=fun pre W=>∃ r,pre.foldl (stepS step) (.inl s0)=.inr r/\(∃ A' M',SR w0 A0 W A' M' ⟨T,Ho r⟩ a) /\
  W.heap[w.heap.size+1]?=some (.loop (q .done (some .ret)))/\W.heap[w.heap.size]?=some (.deferred (some []))
 have al:∀ (W:World) (A':Nat->Prop) (M':Id->Option MB) (s:St) (o:Loop),SR w0 A0 W A' M' s a->W.heap[w.heap.size+1]?=some (.loop o)->W.heap[w.heap.size]?=some (.deferred (some [])) ->
   ∀ o':Loop,SOk w0 A0 s { a with defers:=[rmark w.heap.size]++a.defers } (W.putObj (w.heap.size+1) (.loop o')):=fun W A' M' s o h h1 h2 o'=>by
  refine ⟨A',M',h.turn (o':=.loop o') h1 ⟨by simp,by simp⟩ (by omega) (by omega) ?_⟩
  have hne:∀ D,D∈L0->D≠w.heap.size:=fun D hD e=>by
   have:=xdD (a0 D hD).2.2;omega
  obtain ⟨L',e1,e2,e3⟩:=h.defers;have:L'=L0:=xBY (e1.symm.trans az);subst this;refine ⟨w.heap.size::L',by rw [az];rfl,List.nodup_cons.2 ⟨fun hm=>hne _ hm rfl,e2⟩,fun D hD=>?_⟩
  rcases zC.1 hD with rfl|hD
  . exact ⟨bo,.inr bk,by rw [World.putObj_heap_other (by omega)];exact h2⟩
  . refine ⟨(e3 D hD).1,(e3 D hD).2.1,?_⟩;have:=xdD (a0 D hD).2.2;rw [World.putObj_heap_other (by omega)];exact (e3 D hD).2.2
 refine ⟨w.heap.size+1,[{ target:=.collected w.heap.size,args:=#[] }],W1,{ target:=.fn (.func fo) #[lv],args:=#[.func (.yield (w.heap.size+1)) #[] #[]] },W1,fo,
  #[.func (.yield (w.heap.size+1)) #[] #[]]++#[lv],W1,?_,?_,fun _ _=>trivial,?_,fun h=>by simp [Fence.wide] at h,?_⟩
 . rw [<-ai,O];exact run_enterLoop_outer _ _ _ _ _
 . simp only [Go.resolve,bh];simp [go_sem]
 . simp [invoke,go_sem,xl2 hit.1]
 . refine (hit.2 W1 A lv (a2.grow an) (w.heap.size+1) J Jx ?_ ?_ ?_ ?_ ?_ ?_).mono ?_
   . rintro pre A' W W' ⟨s,h1,⟨M',h2⟩,h4,h5,h6⟩ hb;exact ⟨s,h1,⟨M',h2.grow hb⟩,Nat.le_trans h4 hb.size,by rw [hb.block _ (xdD h5)];exact h5,by rw [hb.block _ (xdD h6)];exact h6⟩
   . rintro pre W W' ⟨r,h1,⟨A',M',h2⟩,h5,h6⟩ hb;exact ⟨r,h1,⟨A',M',h2.grow hb⟩,by rw [hb.block _ (xdD h5)];exact h5,by rw [hb.block _ (xdD h6)];exact h6⟩
   . rintro pre A' W ⟨s,h1,⟨M',h2⟩,h4,h5,h6⟩;exact ⟨a6.below _ _ hI h2.base,h2.heap.lt⟩
   . rintro pre W ⟨r,h1,⟨A',M',h2⟩,h5,h6⟩;exact a6.below _ _ hI h2.base
   ·
    rintro pre v x ah A' W hx ⟨s,h1,⟨M',h2⟩,h4,h5,h6⟩ bb;have a4:=xdD h5;have hy:=run_yield (P:=P) (args:=#[v]) h5 (by rw [O];rfl)
    rw [O] at hy;have hz:(#[p].zip #[v]).foldl (fun tmps (x:Tmp×Value)=>tmps.setIfInBounds x.1 x.2) a.tmps=a.tmps.setIfInBounds p v:=by simp
    refine ⟨fn,_,U,Y,hy,roundIn_of_wpIn trivial ?_⟩;show Code.wpIn (Fence.wide.inRound (w.heap.size+1)) 0 P U _ { tmps:=(#[p].zip #[v]).foldl (fun tmps (x:Tmp×Value)=>tmps.setIfInBounds x.1 x.2) a.tmps,defers:=[] } _
    rw [hz];obtain ⟨av,a7⟩:∃ av:Nat->Prop,av=fun b=>b<w0.heap.size->A0.av b:=⟨_,rfl⟩
    have a8:∀ b,w0.heap.size<=b->av b:=fun b hb=>by rw [a7];intro h;omega
    have am:∀ b,b<w0.heap.size->(av b↔A0.av b):=fun b hb=>by rw [a7];exact ⟨fun h=>h hb,fun h _=>h⟩
    obtain ⟨p1,p2⟩:=xsh (d:=some p) h2.size h2.tmps (bb.lift M');have bm:SR w0 ⟨av,W,A',M',n⟩ W A' M' ⟨T.set p x,Hs s⟩ { tmps:=a.tmps.setIfInBounds p v,defers:=[] } :=
     ⟨h2.base,fun b hb=>(h2.outer b hb).trans (am b hb).symm,p1,p2,h2.heap,DefOk.nil,Ev.refl (C:=⟨av,W,A',M',n⟩)⟩
    refine ag pre s x ah hx h1 w0 ⟨av,W,A',M',n⟩ W A' M' _ _ hI (zd n) bm ?_ (some (w.heap.size+1)) (fun h=>by simp at h)
    rintro e s1 a1 w1 ⟨rfl,ar⟩ ⟨A1,M1,Q⟩;have ak:=Q.ev.mv h2.heap (by rw [aj];exact zd n)
    have Z:w1.heap[w.heap.size+1]?=some (.loop (q .ready none)):=by rw [ak.touch.1 _ a4 (h2.heap.not_box h5 (by simp) (by simp))];exact h5
    have aw:w1.heap[w.heap.size]?=some (.deferred (some [])):=by rw [ak.touch.1 _ (xdD h6) (h2.heap.not_box h6 (by simp) (by simp))];exact h6
    refine ⟨_,run_beginRound Z (by rw [O]),?_⟩
    have ao:(Obj.loop { q .ready none with state:=.busy })=.loop (q .busy none):=by rw [O]
    rw [ao];obtain ⟨w2,V⟩:∃ w2,w2=w1.putObj (w.heap.size+1) (.loop (q .busy none)):=⟨_,rfl⟩;rw [<-V];have ac:w2.heap.size=w1.heap.size:=by rw [V];simp
    have a5:w2.heap[w.heap.size+1]?=some (.loop (q .busy none)):=by rw [V];exact World.putObj_heap_same (xdD Z)
    have aq:∀ b,b≠w.heap.size+1->w2.heap[b]?=w1.heap[b]?:=fun b hb=>by rw [V];exact World.putObj_heap_other hb
    have bg:SR w0 ⟨av,w2,A1,M1,n⟩ w2 A1 M1 s1 a1:=by
     refine ⟨by rw [V];exact xqI Q.base (by omega) _,Q.outer,Q.size,fun t ht=>?_,by rw [V];exact Q.heap.turn Z ⟨by simp,by simp⟩ _,?_,Ev.refl (C:=⟨av,w2,A1,M1,n⟩)⟩
     . rw [V];exact (Q.tmps t ht).turn (by simp) (xp3 Z ⟨by simp,by simp⟩)
     . obtain ⟨L,e1,e2,e3⟩:=Q.defers;refine ⟨L,e1,e2,fun D hD=>⟨(e3 D hD).1,.inl (a8 _ (by have:=Q.base.size;rw [ac];omega)),?_⟩⟩
       rw [aq D (fun e=>by have:=(e3 D hD).2.2;rw [e,Z] at this;simp at this)];exact (e3 D hD).2.2
    refine ar w0 ⟨av,w2,A1,M1,n⟩ w2 A1 M1 a1 _ hI (zd n) bg ?_ (some (w.heap.size+1)) (fun h=>by simp at h)
    have ab:∀ (s':St) (a3:Act) (W3:World) (T':List AV) (H':List Box),Weak n s' ⟨T',H'⟩->SOk w0 ⟨av,w2,A1,M1,n⟩ s' a3 W3 ->
      ∃ A3 M3,SR w0 A0 (W3.putObj (w.heap.size+1) (.loop (q .ready none))) A3 M3 ⟨T,H'⟩ a/\Mv W A' M' (W3.putObj (w.heap.size+1) (.loop (q .ready none))) A3 M3 /\
       W3.heap[w.heap.size+1]?=some (.loop (q .busy none))/\W3.heap[w.heap.size]?=some (.deferred (some [])):=by
     rintro s' a3 W3 T' H' hw ⟨A2,M2,ay⟩;obtain ⟨A3,M3,aa⟩:=hw w0 _ W3 A2 M2 a3 (zd n) ay;have bt:=Q.heap.not_box Z (by simp) (by simp)
     have au:W3.heap[w.heap.size+1]?=some (.loop (q .busy none)):=by rw [aa.ev.keep _ (xdD a5) (.inr bt)];exact a5
     have bq:W3.heap[w.heap.size]?=some (.deferred (some [])):=by
      rw [aa.ev.keep _ (by show w.heap.size<w2.heap.size;rw [ac];exact xdD aw) (.inr (Q.heap.not_box aw (by simp) (by simp)))]
      show w2.heap[w.heap.size]?=_;rw [aq _ (by omega)];exact aw
     have bu:Ev ⟨av,W,A',M',n⟩ (W3.putObj (w.heap.size+1) (.loop (q .ready none))) A3 M3:=by
      refine Ev.over Q.ev aa.ev (l:=w.heap.size+1) aq (by rw [ac]) (fun b hb=>World.putObj_heap_other hb) (by simp) ?_
      rw [World.putObj_heap_same (xdD au)];exact h5.symm
     have ae:=bu.mv h2.heap (by rw [aj];exact zd n)
     exact ⟨A3,M3,⟨xqI aa.base (by omega) _,fun b hb=>(aa.outer b hb).trans (am b hb),h2.size,fun t ht=>ae.rel (h2.tmps t ht),aa.heap.turn au ⟨by simp,by simp⟩ _,h2.defers.mv h2.heap ae,h2.ev.step ae⟩,ae,au,bq⟩
    have ad:(pre++[x]).foldl (stepS step) (.inl s0)=step s x:=by
     rw [List.foldl_append,h1];rfl
    intro e s' a3 W3 hq a9;cases af:step s x with
    | inl s2 =>
     rw [af] at hq;obtain ⟨rfl,T',hw⟩:=hq;obtain ⟨A3,M3,g1,g2,g4,g5⟩:=ab s' a3 W3 T' _ hw a9;have hr:=run_endRound (P:=P) none g4;have he:(Obj.loop { q .busy none with state:=if (none:Option Code).isNone then .ready else .done,pending:=none })=.loop (q .ready none):=by rw [O];rfl
     rw [he] at hr;exact ⟨_,_,hr,.inl ⟨rfl,A3,⟨s2,ad.trans af,⟨M3,g1⟩,Nat.le_trans h4 g2.size,World.putObj_heap_same (xdD g4),(World.putObj_heap_other (by omega)).trans g5⟩,g2.size,g2.less,g2.keep⟩⟩
    | inr r =>
     rw [af] at hq;obtain ⟨rfl,T',hw⟩:=hq;obtain ⟨A3,M3,g1,g2,g4,g5⟩:=ab s' a3 W3 T' _ hw a9;have hr:=run_endRound (P:=P) (some .ret) g4;have he:(Obj.loop { q .busy none with state:=if (some Code.ret).isNone then .ready else .done,pending:=some .ret })=.loop (q .done (some .ret)):=by rw [O];rfl
     rw [he] at hr;have bi:W3.putObj (w.heap.size+1) (.loop (q .done (some .ret)))=(W3.putObj (w.heap.size+1) (.loop (q .ready none))).putObj (w.heap.size+1) (.loop (q .done (some .ret))):=by
      simp [World.putObj]
     have g6:(W3.putObj (w.heap.size+1) (.loop (q .ready none))).heap[w.heap.size+1]?=some (.loop (q .ready none)):=World.putObj_heap_same (xdD g4);refine ⟨_,_,hr,.inr ⟨rfl,r,ad.trans af,⟨A3,M3,?_⟩,World.putObj_heap_same (xdD g4),(World.putObj_heap_other (by omega)).trans g5⟩⟩
     rw [bi];exact g1.turn (o':=.loop (q .done (some .ret))) g6 ⟨by simp,by simp⟩ (by omega) (by omega) (g1.defers.same fun D hD=>World.putObj_heap_other (fun e=>by rw [e] at hD;rw [g6] at hD;simp at hD))
   . exact ⟨s0,rfl,⟨M,hs.grow an⟩,an.size,bp,bj⟩
   ·
    rintro e W2 ⟨⟨v,rfl⟩,⟨A',s,h1,⟨M',h2⟩,h4,h5,h6⟩|⟨pre,ah,bf,r,h1,⟨A',M',h2⟩,h5,h6⟩⟩
    . refine ⟨none,_,by have:=run_endLoop (P:=P) h5 (by rw [O];simp);rw [O] at this;exact this,?_⟩
      refine hQ .normal ⟨T,Hs s⟩ _ _ (by rw [h1];exact ⟨rfl,rfl⟩) ?_
      exact al W2 A' M' ⟨T,Hs s⟩ _ h2 h5 h6 _
    . refine ⟨some .ret,_,by have:=run_endLoop (P:=P) h5 (by rw [O];simp);rw [O] at this;exact this,?_⟩
      refine wpIn_ret (hQ .ret ⟨T,Ho r⟩ _ _ ?_ (al W2 A' M' ⟨T,Ho r⟩ _ h2 h5 h6 _));rw [<-bf,List.foldl_append,h1,xr3];exact ⟨rfl,rfl⟩
theorem xu1 {P:Program} {Inv:IV} {w0:World} {A0:Cx} (U:InvOk Inv) (hI:Inv w0) {ro:Option Nat} {n:Nat} {ops:Array Oper} {Q:Exit->Act->World->Prop} {rest:List Oper} {l:List Oper} {s s':St} (hp:Path (OpA P Inv) ops l s s') :
  (∀ o,o∈l->∀ c,o.op≠.defer c)->∀ {w:World} {A:Nat->Prop} {M:Id->Option MB} {a:Act},SR w0 A0 w A M s a ->
  (∀ a' w' A' M',SR w0 A0 w' A' M' s' a'->a'.defers=a.defers->Mv w A M w' A' M'->wpListIn (wideR ro) n P ops Q rest a' w')->wpListIn (wideR ro) n P ops Q (l++rest) a w:=by
 induction hp with
 | nil s=>intro _ w A M a hs hK;exact hK a w A M hs rfl Mv.refl
 | run hw h hr ih =>
  intro hd w A M a hs hK;have J:=xhj (w:=w) (A:=A) (M:=M) hs.size (fun j O d _ _ q=>hs.tmps d q) hw
  rw [List.cons_append];unfold wpListIn;rw [if_pos J];exact xq9 (hd _ (by simp)) (fun _ _ h=>h) (xwv U hI h hs fun v w' A' M' V Y=>ih (fun o ho=>hd o (by simp [ho])) V fun a2 w2 A2 M2 h2 e2 m2=>hK a2 w2 A2 M2 h2 (e2.trans (xgL _ _ _)) (Y.trans m2))
 | skip hw hr ih =>
  intro hd w A M a hs hK;have J:=xhj (w:=w) (A:=A) (M:=M) hs.size (fun j O d _ _ q=>hs.tmps d q) hw
  rw [List.cons_append];unfold wpListIn;rw [if_neg (by rw [J];simp)]
  exact ⟨fun _ _=>trivial,ih (fun o ho=>hd o (by simp [ho])) (hs.skip _) fun a2 w2 A2 M2 h2 e2 m2=>hK a2 w2 A2 M2 h2 (e2.trans (xgL _ _ _)) m2⟩
theorem xs3 {P:Program} {Inv:IV} {w0:World} {A0:Cx} (q:InvOk Inv) (hI:Inv w0) {ro:Option Nat} {n:Nat} {ops:Array Oper} {Q:Exit->Act->World->Prop} {l:List Oper} {s s':St} (hp:Path (OpA P Inv) ops l s s') (hd:∀ o,o∈l->∀ c,o.op≠.defer c) {w:World} {A:Nat->Prop} {M:Id->Option MB} {a:Act} (hs:SR w0 A0 w A M s a)
  (hK:∀ a' w' A' M',SR w0 A0 w' A' M' s' a'->a'.defers=a.defers->Q .normal a' w'):wpListIn (wideR ro) n P ops Q l a w:=by
 have h:=xu1 (ro:=ro) (n:=n) (ops:=ops) (Q:=Q) (rest:=[]) q hI hp hd hs (fun a' w' A' M' h1 h2 _=>hK a' w' A' M' h1 h2)
 rwa [zD] at h
def XB (P:Program) (E:Env) (assign body:Code) (ts:List AV) (H:List Box):Option (Exit×List Box):=X P E none assign ⟨ts,H⟩ fun e s1=>match e with
 | .normal=>X P E none body s1 fun e2 s2=>match normS E.pin [] [] s2 with
  | some (_,H')=>xHG H' fun H'=>some (e2,H')
  | none=>none
 | _=>none
theorem xsc {P:Program} {Inv:IV} {E:Env} (J:P.follows .mixedOrders=true) (Q:InvOk Inv) (q:Inv.pin=E.pin) (O:xHc P Inv E) {assign body:Code} (Y:LoOk P Inv E assign) (U:LoOk P Inv E body) {ts:List AV} {H H':List Box} {e0:Exit}
  (h:XB P E assign body ts H=some (e0,H')):Does P Inv assign (fun e s1=>e=.normal/\Does P Inv body (fun e s'=>e=e0/\∃ T',Weak Inv.pin s' ⟨T',H'⟩) s1) ⟨ts,H⟩:=by
 unfold XB at h;refine xbt (xgw (good:=fun t=>t=some (e0,H')) J Q q (by simp) O assign _ _ Y h) fun e s1 hq=>?_
 cases e with
 | normal =>
  refine ⟨rfl,xbt (xgw (good:=fun t=>t=some (e0,H')) J Q q (by simp) O body _ _ U hq) fun e s2 hq=>?_⟩
  split at hq
  case h_2=>simp at hq
  rename_i vs H1 V;rw [xb7] at hq;simp only [z6,zb] at hq;obtain ⟨rfl,rfl⟩:=hq;have hw:=xiH V;rw [<-q] at hw;exact ⟨rfl,_,hw⟩
 | _=>simp at hq
theorem Rel.yld_inv {w:World} {A:Nat->Prop} {M:Id->Option MB} {v:Value} {l:Nat} (h:Rel w A M v (.yld l)):v=.func (.yield l) #[] #[]:=by cases h;rfl
theorem xmm {P:Program} {Inv:IV} {E:Env} (J:xHc P Inv E) {ops:Array Oper} {l:List Oper} {s s':St} (h:xOps P E none (some true) ops l s some=some s'):Path (OpA P Inv) ops l s s':=by
 have q:¬ (fun t:Option St=>t=some s') none:=by simp
 have hA:∀ o s (K:St->Option St),(fun t:Option St=>t=some s') (xopM P E none (some true) o s K)->∃ s1,OpA P Inv s o s1/\(fun t:Option St=>t=some s') (K s1):=fun o s K h=>xw8 (good:=fun t:Option St=>t=some s') q J h
 obtain ⟨s1,h1,h2⟩:=xhk (good:=fun t:Option St=>t=some s') q hA l s some h
 simp only [z6] at h2;exact h2▸h1
theorem xpD {W:World} {A:Nat->Prop} (q:∀ b,A b->b<W.heap.size) {ts:List AV} {b:Act} (hsz:b.tmps.size=ts.length) (hd:b.defers=[]) (hr:∀ t,t<ts.length->Rel W A xHp (b.tmps.getD t undef) (ts.getD t .top)):SR W ⟨A,W,A,xHp,0⟩ W A xHp ⟨ts,[]⟩ b :=
 ⟨Below.refl _ _,fun _ _=>Iff.rfl,hsz,hr,⟨fun id m hm=>by simp [xHp] at hm,fun _ _ _ _ h=>by simp [xHp] at h,q⟩,by rw [hd];exact DefOk.nil,Ev.refl (C:=⟨A,W,A,xHp,0⟩)⟩
theorem SR.pureRel {W w':World} {A A':Nat->Prop} {M':Id->Option MB} {C:Cx} {s':St} {b':Act} (hs:SR W C w' A' M' s' b') (hc:C.av=A) (q:∀ b,A b->b<W.heap.size) {t:Nat} {x:AV} (ht:t<s'.tmps.length) (hx:s'.tmps.getD t .top=x) (hp:x.pure=true):Rel w' A xHp (b'.tmps.getD t undef) x:=by
 have h:=hs.tmps t ht;rw [hx] at h;exact (h.pure (M':=xHp) hp).mono (fun _ _ _=>rfl) (zd _) (fun b _ hb=>(hs.outer b (q b hb)).2 (by rw [hc];exact hb)) (MExt.refl _)
end Go.Sim
end
noncomputable section
set_option maxRecDepth 100000
namespace Go.Sim.M
open Go.RowKit Go.Proofs
def regs:Code->List Code
 | .region i ops d=>[.region i ops d]
 | .seq a b=>regs a++regs b
 | .block _ c=>regs c
 | .loop c=>regs c
 | .cond _ a b=>regs a++regs b
 | .rangeFunc _ _ a b=>regs a++regs b
 | _=>[]
def regAt (fn:Func) (i:Nat):Code:=(regs (fn.body.getD .skip)).getD i .skip
def opsOf:Code->Array Oper
 | .region _ ops _=>ops
 | _=>#[]
def opsAt (fn:Func) (i:Nat):Array Oper:=opsOf (regAt fn i)
def idOf:Code->Nat
 | .region i _ _=>i
 | _=>0
def rg (fn:Func) (i:Nat):Code:=.region (idOf (regAt fn i)) (opsAt fn i) false
def verA (a b:Int) (r:List AV) (c d e f g h:Int):AV:=.agg [.int .i64 a,.int .i64 b,.list 3 r,.int .i64 c,.int .i64 d,.int .i64 e,.int .i64 f,.int .i64 g,.int .i64 h]
def IsV (x:AV):Prop:=∃ a b r c d e f g h,x=verA a b r c d e f g h
noncomputable def opV:AV->Bool
 | .agg [.int _ a,.int _ b,.list _ r,.int _ c,.int _ d,.int _ e,.int _ f,.int _ g,.int _ h]=>xdT a b r c d e f g h
 | _=>false
noncomputable abbrev EIt:Env:=xkU.E.fn 20 0 (lsOf []) (xHz [])
theorem xtl:xHc Tryz.prog (xHU.at 0) EIt:=xkU.ok.fn
def Th (xs:List AV) (l:Nat) (i:Int):List AV:=[.yld l,.eptr 1 [.list 9 xs] 0 0,.top,.top,.top,.list 9 xs,.int .i64 xs.length,.int .i64 i,.top,.top,.top,.top,.top,.top,.top,.top,.top,.top,.top,.top]
def Th8 (xs:List AV) (l:Nat) (i:Int) (t:Bool):List AV:=[.yld l,.eptr 1 [.list 9 xs] 0 0,.top,.top,.top,.list 9 xs,.int .i64 xs.length,.int .i64 i,.bool t,.top,.top,.top,.top,.top,.top,.top,.top,.top,.top,.top]
def Tv (xs:List AV) (l:Nat) (i:Int) (x:AV):List AV:=[.yld l,.eptr 1 [.list 9 xs] 0 0,.top,.top,.own 0 0 0 0,.list 9 xs,.int .i64 xs.length,.int .i64 i,.bool true,.eptr 9 xs i.toNat 0,x,.top,.top,.top,.top,.top,.top,.top,.top,.top]
def Bv (x:AV):List Box:=[⟨0,9,58,[x],false,true⟩]
def Tw (xs:List AV) (l:Nat) (i:Int) (x:AV) (o:Bool):List AV:=[.yld l,.eptr 1 [.list 9 xs] 0 0,.top,.top,.own 0 0 0 0,.list 9 xs,.int .i64 xs.length,.int .i64 i,.bool true,.eptr 9 xs i.toNat 0,x,x,.bool o,.bool true,.yld l,x,.top,.top,.top,.top]
def Tn (xs:List AV) (l:Nat) (i:Int) (x:AV) (o:Bool):List AV:=[.yld l,.eptr 1 [.list 9 xs] 0 0,.top,.top,.own 0 0 0 0,.list 9 xs,.int .i64 xs.length,.int .i64 i,.bool true,.eptr 9 xs i.toNat 0,x,x,.bool o,.bool false,.tuple [],.tuple [],.tuple [],.tuple [],.bool false,.top]
def Ty (xs:List AV) (l:Nat) (i:Int) (b:Bool):List AV:=[.yld l,.eptr 1 [.list 9 xs] 0 0,.top,.top,.top,.list 9 xs,.int .i64 xs.length,.int .i64 i,.top,.top,.top,.top,.top,.bool true,.top,.top,.bool b,.top,.top,.top]
def Tz (xs:List AV) (l:Nat) (i:Int) (b:Bool):List AV:=[.yld l,.eptr 1 [.list 9 xs] 0 0,.top,.top,.top,.list 9 xs,.int .i64 xs.length,.int .i64 i,.top,.top,.top,.top,.top,.bool true,.top,.top,.bool b,.bool !b,.bool !b,.top]
noncomputable abbrev XO (ops:Array Oper) (l:List Oper) (ts:List AV) (H:List Box):Option St:=xOps Tryz.prog EIt none (some true) ops l ⟨ts,H⟩ some
theorem xFT (xs:List AV) (l:Nat):XO (opsAt Tryz.f67 0) (opsAt Tryz.f67 0).toList ([.yld l,.eptr 1 [.list 9 xs] 0 0]++List.replicate 18 (.tuple [])) [] =
 some ⟨[.yld l,.eptr 1 [.list 9 xs] 0 0,.tuple [],.tuple [],.tuple [],.list 9 xs,.int .i64 xs.length,.int .i64 0]++List.replicate 12 (.tuple []),[]⟩:=by kernel_rfl
theorem xFU (xs:List AV) (l:Nat) (i:Int):XO (opsAt Tryz.f67 1) (opsAt Tryz.f67 1).toList (Th xs l i) []=some ⟨Th8 xs l i (decide (i<(xs.length:Int))),[]⟩:=by kernel_rfl
theorem xFV (xs:List AV) (l:Nat) (i:Int):XO (opsAt Tryz.f67 2) (opsAt Tryz.f67 2).toList (Th8 xs l i true) [] =
 br (decide ((0:Int)<=i)&&decide (i<(xs.length:Int))) (br (decide (i.toNat<xs.length)&&((xs.getD i.toNat AV.top).cells.length==(9:Nat)&&xHh [Sh.int IntKind.i64,Sh.int IntKind.i64,Sh.list (3:Nat),Sh.int IntKind.i64,Sh.int IntKind.i64,Sh.int IntKind.i64,Sh.int IntKind.i64,Sh.int IntKind.i64,Sh.int IntKind.i64] (xs.getD i.toNat AV.top).cells (0:Nat)))
  (
   let x:=verA ((xs.getD i.toNat AV.top).cells.getD 0 AV.top).toInt ((xs.getD i.toNat AV.top).cells.getD 1 AV.top).toInt ((xs.getD i.toNat AV.top).cells.getD 2 AV.top).toList ((xs.getD i.toNat AV.top).cells.getD 3 AV.top).toInt ((xs.getD i.toNat AV.top).cells.getD 4 AV.top).toInt ((xs.getD i.toNat AV.top).cells.getD 5 AV.top).toInt ((xs.getD i.toNat AV.top).cells.getD 6 AV.top).toInt ((xs.getD i.toNat AV.top).cells.getD 7 AV.top).toInt ((xs.getD i.toNat AV.top).cells.getD 8 AV.top).toInt
   some ⟨Tv xs l i x,Bv x⟩) none) none:=by kernel_rfl
theorem xE7 (xs:List AV) (l:Nat) (i:Int) (a b:Int) (r:List AV) (c d e f g h:Int):XO (opsAt Tryz.f67 3) ((opsAt Tryz.f67 3).toList.take 5) (Tv xs l i (verA a b r c d e f g h)) (Bv (verA a b r c d e f g h)) =
 br (xdT a b r c d e f g h) (some ⟨Tw xs l i (verA a b r c d e f g h) (xdT a b r c d e f g h),Bv (verA a b r c d e f g h)⟩)
  (some ⟨[.yld l,.eptr 1 [.list 9 xs] 0 0,.top,.top,.own 0 0 0 0,.list 9 xs,.int .i64 xs.length,.int .i64 i,.bool true,.eptr 9 xs i.toNat 0,verA a b r c d e f g h,verA a b r c d e f g h,.bool (xdT a b r c d e f g h),.bool false,.tuple [],.tuple [],.top,.top,.top,.top],Bv (verA a b r c d e f g h)⟩):=by kernel_rfl
theorem xE9 (xs:List AV) (l:Nat) (i:Int) (a b:Int) (r:List AV) (c d e f g h:Int):XO (opsAt Tryz.f67 3) (opsAt Tryz.f67 3).toList (Tv xs l i (verA a b r c d e f g h)) (Bv (verA a b r c d e f g h)) =
 br (xdT a b r c d e f g h) none (some ⟨Tn xs l i (verA a b r c d e f g h) (xdT a b r c d e f g h),Bv (verA a b r c d e f g h)⟩):=by kernel_rfl
theorem xE8 (xs:List AV) (l:Nat) (i:Int) (b:Bool):XO (opsAt Tryz.f67 3) ((opsAt Tryz.f67 3).toList.drop 6) (Ty xs l i b) []=some ⟨Tz xs l i b,[]⟩:=by kernel_rfl
def Tq (b:Bool):List AV:=[.top,.top,.top,.top,.top,.top,.top,.top,.top,.top,.top,.top,.top,.bool true,.top,.top,.bool false,.top,.top,.top]
theorem xFa:XO (opsAt Tryz.f67 3) ((opsAt Tryz.f67 3).toList.drop 6) (Tq false) []=some ⟨[.top,.top,.top,.top,.top,.top,.top,.top,.top,.top,.top,.top,.top,.bool true,.top,.top,.bool false,.bool true,.bool true,.top],[]⟩:=by kernel_rfl
theorem xFW (xs:List AV) (l:Nat) (i:Int):XO (opsAt Tryz.f67 4) (opsAt Tryz.f67 4).toList (Th xs l i) [] =
 some ⟨[.yld l,.eptr 1 [.list 9 xs] 0 0,.top,.top,.top,.list 9 xs,.int .i64 xs.length,.int .i64 (IntKind.i64.wrap (i+1)),.top,.top,.top,.top,.top,.top,.top,.top,.top,.top,.top,.int .i64 (IntKind.i64.wrap (i+1))],[]⟩:=by kernel_rfl
noncomputable def itCode:Code:=.seq (rg Tryz.f67 0) (.block 0 (.loop (.seq (rg Tryz.f67 1) (.seq (.cond (.tmp 8) .skip (.exit 0)) (.seq (.block 1 (.seq (rg Tryz.f67 2) (.seq (rg Tryz.f67 3) (.cond (.tmp 18) .ret .skip)))) (rg Tryz.f67 4))))))
theorem xDX:Tryz.f67.body=some itCode:=by kernel_rfl
theorem xE2:noDefer (opsAt Tryz.f67 0)=true:=by kernel_rfl
theorem xE3:noDefer (opsAt Tryz.f67 1)=true:=by kernel_rfl
theorem xE4:noDefer (opsAt Tryz.f67 2)=true:=by kernel_rfl
theorem xE5:noDefer (opsAt Tryz.f67 3)=true:=by kernel_rfl
theorem xE6:noDefer (opsAt Tryz.f67 4)=true:=by kernel_rfl
theorem xvJ (i:Nat) (h:i<5):noDefer (opsAt Tryz.f67 i)=true:=by
 have:i=0\/i=1\/i=2\/i=3\/i=4:=by omega
 rcases this with e|e|e|e|e<;>rw [e]
 . exact xE2
 . exact xE3
 . exact xE4
 . exact xE5
 . exact xE6
theorem xn4 {i k:Nat} (hk:k<5) {s s':St} {w0 W:World} {C:Cx} {A:Nat->Prop} {M:Id->Option MB} {b:Act} {Q:Exit->Act->World->Prop} (hI:xHU w0) (hx:xOps Tryz.prog EIt none (some true) (opsAt Tryz.f67 k) (opsAt Tryz.f67 k).toList s some=some s') (hs:SR w0 C W A M s b)
  (hK:∀ a' w' A' M',SR w0 C w' A' M' s' a'->a'.defers=b.defers->Q .normal a' w'):(Code.region i (opsAt Tryz.f67 k) false).wpIn Fence.wide 0 Tryz.prog Q b W:=by
 exact wpIn_region_list (xs3 (Inv:=xHU.at 0) (ro:=none) (n:=0) (xHm Tryz.prog _) hI (xmm xtl hx) (xhO (xvJ k hk)) hs hK)
noncomputable def itY:Oper:=(opsAt Tryz.f67 3).toList.getD 5 default
theorem xBw:itY.op=.call { callee:=.value (.tmp 14),args:=#[.tmp 15],argTypes:=#[58] }:=by kernel_rfl
theorem xzb:itY.dst=some 16:=by kernel_rfl
theorem xBy:(opsAt Tryz.f67 3).toList=(opsAt Tryz.f67 3).toList.take 5++(itY::(opsAt Tryz.f67 3).toList.drop 6):=by kernel_rfl
theorem xCC (xs:List AV) (l:Nat) (i:Int) (x:AV) (o:Bool):xHn (opsAt Tryz.f67 3) (Tw xs l i x o) itY=some true:=by kernel_rfl
theorem xDW {l:Nat} {b:Act} {v:Value} {W:World} {r:Result Next} (h0:b.tmps.getD 14 undef=.func (.yield l) #[] #[]) (h1:b.tmps.getD 15 undef=v) (hy:(Instr.yield l #[v]).run Tryz.prog W=r):(execOp b.eval itY).run Tryz.prog W=r:=by
 simp only [execOp,xBw,Go.resolve,Act.eval,h0,h1,Deferred.ofValue,Sem.run_bind,Sem.run_pure,Result.andThen_ok,invoke];have e:b.eval (.tmp 15)=v:=h1;simpa [e] using hy
structure Hd (xs:List AV) (l:Nat) (i:Int) (W:World) (A:Nat->Prop) (b:Act):Prop where
 size:b.tmps.size=20
 def0:b.defers=[]
 r0:Rel W A xHp (b.tmps.getD 0 undef) (.yld l)
 r1:Rel W A xHp (b.tmps.getD 1 undef) (.eptr 1 [.list 9 xs] 0 0)
 r5:Rel W A xHp (b.tmps.getD 5 undef) (.list 9 xs)
 r6:Rel W A xHp (b.tmps.getD 6 undef) (.int .i64 xs.length)
 r7:Rel W A xHp (b.tmps.getD 7 undef) (.int .i64 i)
theorem lt20 {t:Nat} (h:t<20):t=0\/t=1\/t=2\/t=3\/t=4\/t=5\/t=6\/t=7\/t=8\/t=9\/t=10\/t=11\/t=12\/t=13\/t=14\/t=15\/t=16\/t=17\/t=18\/t=19:=by omega
theorem Hd.sr {xs:List AV} {l:Nat} {i:Int} {W:World} {A:Nat->Prop} {b:Act} (h:Hd xs l i W A b) (q:∀ b,A b->b<W.heap.size):SR W ⟨A,W,A,xHp,0⟩ W A xHp ⟨Th xs l i,[]⟩ b:=by
 refine xpD q h.size h.def0 fun t ht=>?_
 rcases lt20 ht with rfl|rfl|rfl|rfl|rfl|rfl|rfl|rfl|rfl|rfl|rfl|rfl|rfl|rfl|rfl|rfl|rfl|rfl|rfl|rfl <;>
  first|exact Rel.top _|exact h.r0|exact h.r1|exact h.r5|exact h.r6|exact h.r7
theorem Hd.of {xs:List AV} {l:Nat} {i:Int} {W W':World} {A A':Nat->Prop} {M':Id->Option MB} {C:Cx} {s':St} {b':Act} (hs:SR W C W' A' M' s' b') (hc:C.av=A) (q:∀ b,A b->b<W.heap.size) (hd:b'.defers=[]) (hl:s'.tmps.length=20)
  (h0:s'.tmps.getD 0 .top=.yld l) (h1:s'.tmps.getD 1 .top=.eptr 1 [.list 9 xs] 0 0) (h5:s'.tmps.getD 5 .top=.list 9 xs) (h6:s'.tmps.getD 6 .top=.int .i64 xs.length) (h7:s'.tmps.getD 7 .top=.int .i64 i):Hd xs l i W' A b' :=
 ⟨hs.size.trans hl,hd,hs.pureRel hc q (by omega) h0 rfl,hs.pureRel hc q (by omega) h1 rfl,hs.pureRel hc q (by omega) h5 rfl,hs.pureRel hc q (by omega) h6 rfl,hs.pureRel hc q (by omega) h7 rfl⟩
theorem Hd.keep {xs:List AV} {l:Nat} {i:Int} {W W':World} {A A':Nat->Prop} {b:Act} (h:Hd xs l i W A b) (d:Nat) (v:Value) (hd:8<=d) (hs:W.heap.size<=W'.heap.size) (hA:∀ b,b<W.heap.size->A' b->A b) (hk:∀ b,b<W.heap.size->¬ A b->W'.heap[b]?=W.heap[b]?):Hd xs l i W' A' (b.put (some d) v):=by
 have key:∀ t x,t<8->Rel W A xHp (b.tmps.getD t undef) x->Rel W' A' xHp ((b.put (some d) v).tmps.getD t undef) x:=fun t x ht hr=>by
  have e:(b.put (some d) v).tmps.getD t undef=b.tmps.getD t undef:=by
   simp only [Act.put];simp [zu,Array.getElem?_setIfInBounds_ne (show d≠t by omega)]
  rw [e];exact hr.mono hk hs hA (MExt.refl _)
 exact ⟨by simp [Act.put,h.size],h.def0,key 0 _ (by omega) h.r0,key 1 _ (by omega) h.r1,key 5 _ (by omega) h.r5,key 6 _ (by omega) h.r6,key 7 _ (by omega) h.r7⟩
theorem xp2 (xs:List AV) (cd:∀ x,x∈xs->IsV x) (cf:xs.length<4611686018427387904):IterC Tryz.prog xHU 67 (.eptr 1 [.list 9 xs] 0 0) xs opV:=by
 refine ⟨⟨Tryz.f67,Tryz.func67,by kernel_rfl,by kernel_rfl⟩,?_⟩
 intro w A lv bi l J Jx aa ba hJ a9 hY a6;have ch:=fun (e:Ending) (W':World)=>(∃ v,e=.returned v)/\((∃ A',J (xs.filter opV) A' W')\/∃ pre suf,pre++suf=xs.filter opV/\Jx pre W')
 refine callsIn_of_wp (F:=Fence.wide) (n:=0) Tryz.func67 xDX trivial ?_;have a7:∀ (b:Act) (W:World),(results Tryz.f67 b.tmps).run Tryz.prog W=.ok (.tuple #[]) W:=fun b W=>by
  have:Tryz.f67.results=#[]:=by kernel_rfl
  simp [results,this]
 have al:∀ (b:Act) (W:World),b.defers=[]->((∃ A',J (xs.filter opV) A' W)\/∃ pre suf,pre++suf=xs.filter opV/\Jx pre W) ->
   bodyPost Tryz.prog Tryz.f67 (fun e W'=>(∃ v,e=.returned v)/\((∃ A',J (xs.filter opV) A' W')\/∃ pre suf,pre++suf=xs.filter opV/\Jx pre W')) .ret b W:=fun b W hd h =>
  ⟨hd,_,a7 b W,⟨_,rfl⟩,h⟩
 refine wpIn_seq ?_;have am:=hJ _ _ _ a6;have bu:SR w ⟨A,w,A,xHp,0⟩ w A xHp ⟨[.yld l,.eptr 1 [.list 9 xs] 0 0]++List.replicate 18 (.tuple []),[]⟩ { tmps:=#[.func (.yield l) #[] #[],lv]++Array.replicate (Tryz.f67.ntmps - 2) undef,defers:=[] }:=by
  have cb:Tryz.f67.ntmps=20:=by kernel_rfl
  rw [cb];refine xpD am.2 (by simp) rfl fun t ht=>?_
  have ht:t<20:=by simpa using ht
  by_cases h0:t=0
  . subst h0;have e1:(#[Value.func (.yield l) #[] #[],lv]++Array.replicate 18 undef).getD 0 undef=.func (.yield l) #[] #[]:=by simp [Array.getElem?_append]
    show Rel w A xHp ((#[Value.func (.yield l) #[] #[],lv]++Array.replicate 18 undef).getD 0 undef) (.yld l);rw [e1];exact .yld l
  by_cases h1:t=1
  . subst h1;have e1:(#[Value.func (.yield l) #[] #[],lv]++Array.replicate 18 undef).getD 1 undef=lv:=by simp [Array.getElem?_append]
    show Rel w A xHp ((#[Value.func (.yield l) #[] #[],lv]++Array.replicate 18 undef).getD 1 undef) (.eptr 1 [.list 9 xs] 0 0);rw [e1];exact bi
  have e1:(#[Value.func (.yield l) #[] #[],lv]++Array.replicate (20 - 2) undef).getD t undef=undef:=by
   have h2:¬ t<2:=by omega
   have h3:t - 2<18:=by omega
   simp [Array.getElem?_append,h2,h3]
  have e2:([AV.yld l,.eptr 1 [.list 9 xs] 0 0]++List.replicate 18 (AV.tuple [])).getD t .top=.tuple []:=by
   have key:∀ m,t<m+2->([AV.yld l,.eptr 1 [.list 9 xs] 0 0]++List.replicate m (AV.tuple [])).getD t .top=.tuple []:=fun m hm=>by
    obtain ⟨u,rfl⟩:∃ u,t=u+2:=⟨t - 2,by omega⟩
    have hu:u<m:=by omega
    simp [z7,List.getElem?_replicate,hu]
   exact key 18 ht
  show Rel w A xHp ((#[Value.func (.yield l) #[] #[],lv]++Array.replicate (20 - 2) undef).getD t undef) (([AV.yld l,.eptr 1 [.list 9 xs] 0 0]++List.replicate 18 (AV.tuple [])).getD t .top);rw [e1,e2];exact .tuple #[] [] rfl (by simp)
 refine xn4 (k:=0) (by omega) am.1 (xFT xs l) bu fun b0 W0 A0 M0 bc bn=>?_
 have bg:Hd xs l 0 W0 A b0:=Hd.of bc rfl am.2 bn rfl rfl rfl rfl rfl rfl;have cc:J [] A W0:=aa _ _ _ _ a6 bc.base;refine wpIn_block (wpIn_mono (Q:=fun e b W=>(e=.exit 0/\b.defers=[]/\∃ A',J (xs.filter opV) A' W)\/(e=.ret/\b.defers=[]/\∃ pre suf,pre++suf=xs.filter opV/\Jx pre W)) ?_ ?_)
 rotate_left
 . rintro e b W (⟨rfl,hd,h⟩|⟨rfl,hd,h⟩)
   . exact al b W hd (.inl h)
   . exact al b W hd (.inr h)
 refine wpIn_loop (fun b W=>∃ i:Nat,i<=xs.length/\∃ A',J ((xs.take i).filter opV) A' W/\Hd xs l i W A' b) (fun b W=>match b.tmps.getD 7 undef with|.int _ i=>xs.length - i.toNat|_=>0) ⟨0,zQ _,A,by simpa using cc,bg⟩ ?_
 rintro b W ⟨i,hi,A1,be,hH⟩;have ah:=hJ _ _ _ be;have bv:(match b.tmps.getD 7 undef with|.int _ i=>xs.length - i.toNat|_=>0)=xs.length - i:=by
  rw [hH.r7.int_inv];simp
 rw [bv];refine wpIn_seq ?_;refine xn4 (k:=1) (by omega) ah.1 (xFU xs l i) (hH.sr ah.2) fun b1 W1 A2 M2 an b9=>?_
 have Y:Hd xs l i W1 A1 b1:=Hd.of an rfl ah.2 (b9.trans hH.def0) rfl rfl rfl rfl rfl rfl;have ac:J ((xs.take i).filter opV) A1 W1:=aa _ _ _ _ be an.base;have h8:Rel W1 A1 xHp (b1.tmps.getD 8 undef) (.bool (decide ((i:Int)<(xs.length:Int)))):=an.pureRel rfl ah.2 (by show 8<20;omega) rfl rfl
 refine wpIn_seq ?_;refine wpIn_cond_split h8.bool_inv (fun hc=>?_) (fun hc=>?_)
 rotate_left
 ·
  have b8:i=xs.length:=by simp at hc;omega
  refine wpIn_exit (.inl ⟨rfl,Y.def0,A1,?_⟩);rw [b8,y4] at ac;exact ac
 have ab:i<xs.length:=by simpa using hc
 refine wpIn_skip ?_;have q:=hJ _ _ _ ac;have a5:xs.getD i .top=xs[i]:=by simp [z7,ab]
 obtain ⟨va,vb,vr,vc,vd,ve,vf,vg,vh,hx⟩:=cd (xs.getD i .top) (xax ab);have O:(xs.take (i+1)).filter opV=(xs.take i).filter opV++(if opV (xs.getD i .top)=true then [xs.getD i .top] else []):=by
  rw [List.take_add_one,List.filter_append,a5];simp only [ze ab,Option.toList_some,List.filter_cons,List.filter_nil]
 have bw:SR W1 ⟨A1,W1,A1,xHp,0⟩ W1 A1 xHp ⟨Th8 xs l i true,[]⟩ b1:=by
  refine xpD q.2 Y.size Y.def0 fun t ht=>?_
  have h8':Rel W1 A1 xHp (b1.tmps.getD 8 undef) (.bool true):=by rw [hc] at h8;exact h8
  rcases lt20 ht with rfl|rfl|rfl|rfl|rfl|rfl|rfl|rfl|rfl|rfl|rfl|rfl|rfl|rfl|rfl|rfl|rfl|rfl|rfl|rfl <;>
   first|exact Rel.top _|exact Y.r0|exact Y.r1|exact Y.r5|exact Y.r6|exact Y.r7|exact h8'
 have bf:XO (opsAt Tryz.f67 2) (opsAt Tryz.f67 2).toList (Th8 xs l i true) []=some ⟨Tv xs l i (verA va vb vr vc vd ve vf vg vh),Bv (verA va vb vr vc vd ve vf vg vh)⟩:=by
  rw [xFV];have hx':xs.getD ((i:Int).toNat) .top=verA va vb vr vc vd ve vf vg vh:=by rw [zN];exact hx
  rw [hx'];have e1:(decide ((0:Int)<=(i:Int))&&decide ((i:Int)<(xs.length:Int)))=true:=by simp [ab]
  have e2:(decide ((i:Int).toNat<xs.length)&&((verA va vb vr vc vd ve vf vg vh).cells.length==(9:Nat)&&xHh [Sh.int IntKind.i64,Sh.int IntKind.i64,Sh.list (3:Nat),Sh.int IntKind.i64,Sh.int IntKind.i64,Sh.int IntKind.i64,Sh.int IntKind.i64,Sh.int IntKind.i64,Sh.int IntKind.i64] (verA va vb vr vc vd ve vf vg vh).cells (0:Nat)))=true:=by
   rw [zN,zf];exact ⟨by simpa using ab,rfl⟩
  rw [e1,e2];rfl
 have ar:∀ (b4:Act) (W4:World) (A4:Nat->Prop),Hd xs l i W4 A4 b4->J ((xs.take (i+1)).filter opV) A4 W4->(Code.region (idOf (regAt Tryz.f67 4)) (opsAt Tryz.f67 4) false).wpIn Fence.wide 0 Tryz.prog (Exit.then (fun a' w'=>(∃ i:Nat,i<=xs.length/\∃ A',J ((xs.take i).filter opV) A' w'/\Hd xs l i w' A' a') /\
   (match a'.tmps.getD 7 undef with|.int _ i=>xs.length - i.toNat|_=>0)<xs.length - i) (fun e b W=>(e=.exit 0/\b.defers=[]/\∃ A',J (xs.filter opV) A' W)\/(e=.ret/\b.defers=[]/\∃ pre suf,pre++suf=xs.filter opV/\Jx pre W))) b4 W4:=fun b4 W4 A4 aj ad=>by
  have ap:=hJ _ _ _ ad;refine xn4 (k:=4) (by omega) ap.1 (xFW xs l i) (aj.sr ap.2) fun b5 W5 A5 M5 bb bq=>?_
  have hw:IntKind.i64.wrap ((i:Int)+1)=((i+1:Nat):Int):=by rw [xc5 (by omega) (by omega)];omega
  have V:Hd xs l ((i+1:Nat):Int) W5 A4 b5:=Hd.of bb rfl ap.2 (bq.trans aj.def0) rfl rfl rfl rfl rfl (by show AV.int .i64 (IntKind.i64.wrap ((i:Int)+1))=_;rw [hw])
  refine ⟨⟨i+1,ab,A4,aa _ _ _ _ ad bb.base,V⟩,?_⟩;rw [V.r7.int_inv];simp;omega
 refine wpIn_seq ?_;refine wpIn_block ?_;refine wpIn_seq ?_;refine xn4 (k:=2) (by omega) q.1 bf bw fun b2 W2 A3 M3 au ay=>?_
 have ck:J ((xs.take i).filter opV) A1 W2:=aa _ _ _ _ ac au.base;refine wpIn_seq ?_;have a3:∀ (b4:Act) (W4:World) (A4:Nat->Prop),Hd xs l i W4 A4 b4->J ((xs.take (i+1)).filter opV) A4 W4->b4.eval (.tmp 18)=.bool false->(Code.cond (.tmp 18) .ret .skip).wpIn Fence.wide 0 Tryz.prog (Exit.inBlock 1 (Exit.then (fun a' w'=>(Code.region (idOf (regAt Tryz.f67 4)) (opsAt Tryz.f67 4) false).wpIn Fence.wide 0 Tryz.prog (Exit.then (fun a' w'=>(∃ i:Nat,i<=xs.length/\∃ A',J ((xs.take i).filter opV) A' w'/\Hd xs l i w' A' a') /\
   (match a'.tmps.getD 7 undef with|.int _ i=>xs.length - i.toNat|_=>0)<xs.length - i) (fun e b W=>(e=.exit 0/\b.defers=[]/\∃ A',J (xs.filter opV) A' W)\/(e=.ret/\b.defers=[]/\∃ pre suf,pre++suf=xs.filter opV/\Jx pre W))) a' w')
   (Exit.then (fun a' w'=>(∃ i:Nat,i<=xs.length/\∃ A',J ((xs.take i).filter opV) A' w'/\Hd xs l i w' A' a') /\
   (match a'.tmps.getD 7 undef with|.int _ i=>xs.length - i.toNat|_=>0)<xs.length - i) (fun e b W=>(e=.exit 0/\b.defers=[]/\∃ A',J (xs.filter opV) A' W)\/(e=.ret/\b.defers=[]/\∃ pre suf,pre++suf=xs.filter opV/\Jx pre W))))) b4 W4:=fun b4 W4 A4 aj ad ca =>
  wpIn_cond_false ca (wpIn_skip (ar b4 W4 A4 aj ad))
 have a2:opV (verA va vb vr vc vd ve vf vg vh)=xdT va vb vr vc vd ve vf vg vh:=rfl;have cj:verA va vb vr vc vd ve vf vg vh∈xs:=by rw [<-hx];exact xax ab
 rw [hx,a2] at O;by_cases ho:xdT va vb vr vc vd ve vf vg vh=true
 ·
  rw [if_pos ho] at O;refine wpIn_region_list ?_;rw [xBy];have aw:xOps Tryz.prog EIt none (some true) (opsAt Tryz.f67 3) ((opsAt Tryz.f67 3).toList.take 5) ⟨Tv xs l i (verA va vb vr vc vd ve vf vg vh),Bv (verA va vb vr vc vd ve vf vg vh)⟩ some=some ⟨Tw xs l i (verA va vb vr vc vd ve vf vg vh) true,Bv (verA va vb vr vc vd ve vf vg vh)⟩:=by
   have:=xE7 xs l i va vb vr vc vd ve vf vg vh;rw [ho] at this;exact this
  refine xu1 (Inv:=xHU.at 0) (ro:=none) (n:=0) (xHm Tryz.prog _) q.1 (xmm xtl aw) (fun o ho=>xhO (xvJ 3 (by omega)) o (List.mem_of_mem_take ho)) au fun b3 W3 A4 M4 U ao cg=>?_
  have ag:Hd xs l i W3 A1 b3:=Hd.of U rfl q.2 ((ao.trans ay).trans Y.def0) rfl rfl rfl rfl rfl rfl;have ad:J ((xs.take i).filter opV) A1 W3:=aa _ _ _ _ ac U.base;have bm:Rel W3 A1 xHp (b3.tmps.getD 14 undef) (.yld l):=U.pureRel rfl q.2 (by show 14<20;omega) rfl rfl
  have bt:Rel W3 A1 xHp (b3.tmps.getD 15 undef) (verA va vb vr vc vd ve vf vg vh):=U.pureRel rfl q.2 (by show 15<20;omega) rfl rfl
  have bh:Rel W3 A1 xHp (b3.tmps.getD 13 undef) (.bool true):=U.pureRel rfl q.2 (by show 13<20;omega) rfl rfl
  have a1:b3.tmps.getD 14 undef=.func (.yield l) #[] #[]:=bm.yld_inv;have ce:(xs.take i).filter opV++verA va vb vr vc vd ve vf vg vh::(xs.drop (i+1)).filter opV=xs.filter opV:=by
   rw [show verA va vb vr vc vd ve vf vg vh::(xs.drop (i+1)).filter opV=[verA va vb vr vc vd ve vf vg vh]++(xs.drop (i+1)).filter opV from rfl,<-zw,<-O,<-List.filter_append,List.take_append_drop]
  obtain ⟨fn,tmps,b7,body,hy,ak⟩:=hY _ _ _ _ _ _ ce ad bt;have bp:=xhj (w:=W3) (A:=A4) (M:=M4) (ops:=opsAt Tryz.f67 3) U.size (fun j ci d _ _ bo=>U.tmps d bo) (xCC xs l i (verA va vb vr vc vd ve vf vg vh) true)
  unfold wpListIn;rw [if_pos bp];refine ⟨fun _ _=>trivial,?_⟩
  have a0:=xDW a1 rfl hy;rw [Oper.semAt_eq _ _ _ (fun c=>by rw [xBw];simp),a0,Oper.uponIn_round]
  refine ⟨fun h=>by simp [wideR,Fence.wide] at h,?_⟩
  refine RoundIn.mono (show RoundIn Fence.wide 0 Tryz.prog l fn tmps b7 body W3 _ from ak) ?_
  have a4:∀ y:Bool,(b3.put (some 16) (.bool y)).tmps.getD 13 undef=.bool true:=fun y=>by
   have:(b3.put (some 16) (.bool y)).tmps.getD 13 undef=b3.tmps.getD 13 undef:=by
    simp [Act.put,zu,Array.getElem?_setIfInBounds_ne]
   rw [this,bh.bool_inv]
  have ax:∀ y:Bool,(b3.put (some 16) (.bool y)).tmps.getD 16 undef=.bool y:=fun y=>by
   have:16<b3.tmps.size:=by rw [ag.size];omega
   simp [Act.put,zu,this]
  rintro e W4 (⟨rfl,A5,a8,bk,bj,bz⟩|⟨rfl,az⟩)
  ·
   show wpListIn _ _ _ _ _ _ (b3.put itY.dst (.bool true)) W4;rw [xzb];have ai:=hJ _ _ _ a8;have V:Hd xs l i W4 A5 (b3.put (some 16) (.bool true)):=ag.keep 16 _ (by omega) bk bj bz
   have Z:SR W4 ⟨A5,W4,A5,xHp,0⟩ W4 A5 xHp ⟨Ty xs l i true,[]⟩ (b3.put (some 16) (.bool true)):=by
    refine xpD ai.2 V.size V.def0 fun t ht=>?_
    rcases lt20 ht with rfl|rfl|rfl|rfl|rfl|rfl|rfl|rfl|rfl|rfl|rfl|rfl|rfl|rfl|rfl|rfl|rfl|rfl|rfl|rfl <;>
     first|exact Rel.top _|exact V.r0|exact V.r1|exact V.r5|exact V.r6|exact V.r7|(rw [a4];exact Rel.bool true)|(rw [ax];exact Rel.bool true)
   refine xs3 (Inv:=xHU.at 0) (ro:=none) (n:=0) (xHm Tryz.prog _) ai.1 (xmm xtl (xE8 xs l i true)) (fun o ho=>xhO (xvJ 3 (by omega)) o (List.mem_of_mem_drop ho)) Z (fun b6 W6 A6 M6 ae aq=>?_)
   . have af:Rel W6 A5 xHp (b6.tmps.getD 18 undef) (.bool false):=ae.pureRel rfl ai.2 (by show 18<20;omega) rfl rfl
     refine a3 b6 W6 A5 (Hd.of ae rfl ai.2 (aq.trans V.def0) rfl rfl rfl rfl rfl rfl) ?_ af.bool_inv;rw [O];exact aa _ _ _ _ a8 ae.base
  ·
   show wpListIn _ _ _ _ _ _ (b3.put itY.dst (.bool false)) W4;rw [xzb];have Z:SR W4 ⟨fun _=>False,W4,fun _=>False,xHp,0⟩ W4 (fun _=>False) xHp ⟨Tq false,[]⟩ (b3.put (some 16) (.bool false)):=by
    refine xpD (fun _ h=>h.elim) (by simp [Act.put,ag.size,Tq]) ag.def0 fun t ht=>?_
    rcases lt20 ht with rfl|rfl|rfl|rfl|rfl|rfl|rfl|rfl|rfl|rfl|rfl|rfl|rfl|rfl|rfl|rfl|rfl|rfl|rfl|rfl <;>
     first|exact Rel.top _|(rw [a4];exact Rel.bool true)|(rw [ax];exact Rel.bool false)
   refine xs3 (Inv:=xHU.at 0) (ro:=none) (n:=0) (xHm Tryz.prog _) (a9 _ _ az) (xmm xtl xFa) (fun o ho=>xhO (xvJ 3 (by omega)) o (List.mem_of_mem_drop ho)) Z (fun b6 W6 A6 M6 ae aq=>?_)
   . have af:Rel W6 (fun _=>False) xHp (b6.tmps.getD 18 undef) (.bool true):=ae.pureRel rfl (fun _ h=>h.elim) (by show 18<20;omega) rfl rfl
     refine wpIn_cond_true af.bool_inv (wpIn_ret (.inr ⟨rfl,aq.trans ag.def0,(xs.take i).filter opV++[verA va vb vr vc vd ve vf vg vh],(xs.drop (i+1)).filter opV,?_,ba _ _ _ az ae.base⟩));rw [<-O,<-List.filter_append,List.take_append_drop]
 ·
  rw [if_neg ho,zD] at O;have ho':xdT va vb vr vc vd ve vf vg vh=false:=by simpa using ho
  have aw:xOps Tryz.prog EIt none (some true) (opsAt Tryz.f67 3) (opsAt Tryz.f67 3).toList ⟨Tv xs l i (verA va vb vr vc vd ve vf vg vh),Bv (verA va vb vr vc vd ve vf vg vh)⟩ some=some ⟨Tn xs l i (verA va vb vr vc vd ve vf vg vh) false,Bv (verA va vb vr vc vd ve vf vg vh)⟩:=by
   have:=xE9 xs l i va vb vr vc vd ve vf vg vh;rw [ho'] at this;exact this
  refine xn4 (k:=3) (by omega) q.1 aw au fun b3 W3 A4 M4 U ao=>?_
  have af:Rel W3 A1 xHp (b3.tmps.getD 18 undef) (.bool false):=U.pureRel rfl q.2 (by show 18<20;omega) rfl rfl
  refine a3 b3 W3 A1 (Hd.of U rfl q.2 ((ao.trans ay).trans Y.def0) rfl rfl rfl rfl rfl rfl) ?_ af.bool_inv;rw [O];exact aa _ _ _ _ ac U.base
end Go.Sim.M
end
noncomputable section
set_option maxRecDepth 100000
namespace Go.Sim
theorem xwC {β γ:Type} {P:Program} {Inv:IV} {nt:Nat} {l:Code} {live liveO:List Nat} {conv:List (Nat×Nat×TypeId)} {pv:Pat (List AV) β} {pb:Pat (List Box) γ} {g:β->γ->Bool×LR}
  (h:∀ b c r,g b c=(true,r)->Does P Inv l (fun e1 s1=>e1=r.eval.1/\s1=⟨mkTs nt (liveO.zip r.eval.2.1),r.eval.2.2⟩) ⟨mkTs nt (live.zip (pv.enc b)),pb.enc c⟩):PieceOk P Inv nt l (lpOf live liveO conv pv pb g):=fun vals H r e=>by
 unfold lpOf at e;dsimp only at e;split at e
 . rename_i b hb;split at e
   . rename_i c hc;simp only [z6] at e;rw [pv.ok _ _ hb,pb.ok _ _ hc];exact h b c r e
   . simp at e
 . simp at e
def isRng:Code->Bool
 | .rangeFunc ..=>true
 | _=>false
theorem xse {P:Program} {Inv:IV} {E:Env} {c:Code} {ls:List Code} (h:xHv c=ls) (hl:∀ l,l∈ls->∀ lp,E.lp (xHq l)=some lp->LoopOk P Inv E.nt l lp) {rc:Code} {lp0:Lp} (hr:PieceOk P Inv E.nt rc lp0) (he:E.lp (condId rc)=some lp0)
  (h1:(xHr c).filter isRng=[rc]:=by kernel_rfl) (h2:((xHr c).all fun d=>isRng d || (E.lp (condId d)).isNone)=true:=by kernel_rfl):LoOk P Inv E c:=by
 refine ⟨fun l hm=>hl l (by rw [<-h];exact hm),fun d hd lp hs=>?_⟩
 cases hg:isRng d with
 | true =>
  have hm:d∈(xHr c).filter isRng:=List.mem_filter.2 ⟨hd,hg⟩;rw [h1,zv] at hm;subst hm;rw [he] at hs;simp only [z6] at hs;exact hs▸hr
 | false =>
  have:=zI.1 h2 d hd;rw [hg,hs] at this;simp at this
end Go.Sim
namespace Go.Sim.M
open Go.RowKit Go.Proofs
def rangesOf:Code->List Code
 | .seq a b=>rangesOf a++rangesOf b
 | .block _ c=>rangesOf c
 | .loop c=>rangesOf c
 | .cond _ a b=>rangesOf a++rangesOf b
 | .rangeFunc g ps a b=>[.rangeFunc g ps a b]
 | _=>[]
noncomputable def rgOf (fn:Func):Code:=(rangesOf (fn.body.getD .skip)).getD 0 .skip
noncomputable def rgA:Code->Code
 | .rangeFunc _ _ a _=>a
 | _=>.skip
noncomputable def rgB:Code->Code
 | .rangeFunc _ _ _ b=>b
 | _=>.skip
def isVb:AV->Bool
 | .agg [.int .i64 _,.int .i64 _,.list 3 _,.int .i64 _,.int .i64 _,.int .i64 _,.int .i64 _,.int .i64 _,.int .i64 _]=>true
 | _=>false
theorem xwl {x:AV} (h:isVb x=true):IsV x:=by
 unfold isVb at h;split at h
 . exact ⟨_,_,_,_,_,_,_,_,_,rfl⟩
 . simp at h
def factA:AV->AV
 | .agg [_,_,r,c,d,_,_,_,_]=>.agg [r,c,d]
 | x=>x
theorem xph (k:AV->AV):∀ (l:List AV) (v:Nat) (ys:List AV),l.foldl (stepS (ρ:=Unit) fun (s:Nat×List AV) x=>Sum.inl (s.1+1,s.2++[k x])) (Sum.inl (v,ys))=Sum.inl (v+l.length,ys++l.map k)
 | [],v,ys=>by simp
 | x::l,v,ys=>by
  rw [List.foldl_cons];show l.foldl _ (Sum.inl (v+1,ys++[k x]))=_;rw [xph k l (v+1) (ys++[k x])];simp only [zF,zV,zw,List.singleton_append];congr 2;omega
theorem xpm {pre q:List AV} {x:AV} {xs:List AV} {op:AV->Bool} (h:pre++x::q=xs.filter op):x∈xs/\pre.length<xs.length:=by
 have hm:x∈xs.filter op:=by rw [<-h];simp
 have hl:=List.length_filter_le op xs;rw [<-h] at hl;simp only [z8,zF] at hl;exact ⟨(List.mem_filter.1 hm).1,by omega⟩
theorem id0:(0:Id)=.b 0:=rfl
theorem id1:(1:Id)=.b 1:=rfl
theorem id2:(2:Id)=.b 2:=rfl
theorem id3:(3:Id)=.b 3:=rfl
theorem id4:(4:Id)=.b 4:=rfl
noncomputable abbrev xzK:Env:=xkU.E.fn 18 2 (lsOf []) (xHz [])
theorem xFM:xHc Tryz.prog ⟨(xHU).inv,2,false⟩ xzK:=⟨fun g a r h=>xkU.ok.1 g a r h,fun g a H r H' h=>xkU.ok.2 g a H r H' h⟩
noncomputable abbrev xzL (xs:List AV):List AV:=mkTs 18 [(3,.own 0 0 0 0),(6,.func 67 [.eptr 1 [.list 9 xs] 0 0])]
def xvQ (s:Nat×List AV):List Box:=[⟨0,1,26,[.osl 1 s.1 0 s.2.length],false,false⟩,⟨s.1,3,60,s.2,false,true⟩]
theorem xF3 (xs ys:List AV) (v n:Nat) (a b:Int) (r:List AV) (c d e f g h:Int):XB Tryz.prog xzK (rgA (rgOf Tryz.f12)) (rgB (rgOf Tryz.f12)) ((xzL xs).set 7 (verA a b r c d e f g h)) [⟨0,1,26,[.osl 1 v 0 n],false,false⟩,⟨v,3,60,ys,false,true⟩] =
 br (v==v&&(n==ys.length&&(decide ((n+1)*40<=140737488355328)&&decide (n+1<=4611686018427387904)))) (some (.normal,[⟨0,1,26,[.osl 1 (v+1) 0 (n+1)],false,false⟩,⟨v+1,3,60,ys++[.agg [.list 3 r,.int .i64 c,.int .i64 d]],false,true⟩])) none:=by kernel_rfl
theorem xFK:LoOk Tryz.prog ⟨(xHU).inv,2,false⟩ xzK (rgA (rgOf Tryz.f12)):=xeO (by kernel_rfl)
theorem xFL:LoOk Tryz.prog ⟨(xHU).inv,2,false⟩ xzK (rgB (rgOf Tryz.f12)):=xeO (by kernel_rfl)
theorem xDB:rgOf Tryz.f12=.rangeFunc (.tmp 6) #[7] (rgA (rgOf Tryz.f12)) (rgB (rgOf Tryz.f12)):=by kernel_rfl
theorem xF2 (xs:List AV) (s:Nat×List AV):normS 0 [] [3] ⟨xzL xs,xvQ s⟩=some ([.own 0 0 0 0],[⟨0,1,26,[.osl 1 0 0 s.2.length],false,false⟩,⟨0,3,60,s.2,false,true⟩]):=by
 obtain ⟨v,ys⟩:=s;have hb:Nat.beq v v=true:=Nat.beq_refl v;simp [normS,normH,normF,convs,xHN,xHT,renOk,xHF,rens,ren,renI,gather,refsOf,refsOf.refsL,xHy,xzL,xvQ,mkTs,liveOf,pinsOk,nodupB,hb,id0,id1,id2,id3,id4,Id.base,Nat.beq,Nat.blt,Nat.ble]
def rfOk (k:Nat) (xs ys:List AV):Bool:=xs.all isVb&&decide ((ys.length+xs.length)*k<=140737488355328)
noncomputable def xnl:Lp:=lpOf [3,6] [3] [(3,3,60)] (xHV (xH7 0 0 0 0) (xHV (xHA 67 (xHV (pEptr 1 0 0 (xHV (xIc 9 xHZ) xHX)) xHX)) xHX)) (xHV (xH9 0 1 26 false false (xHV (xH6 1 0 0) xHX)) (xHV (xH9 0 3 60 false true xHZ) xHX))
 fun (_,(((xs,_),_),_)) ((n,_),(ys,_))=>(Nat.beq n ys.length&&rfOk 40 xs ys,.leaf .normal [.own 0 0 0 0] [⟨0,1,26,[.osl 1 0 0 (ys++(xs.filter opV).map factA).length],false,false⟩,⟨0,3,60,ys++(xs.filter opV).map factA,false,true⟩])
theorem xtB:PieceOk Tryz.prog (xHU.at 0) 18 (rgOf Tryz.f12) xnl:=xwC fun vv bb rr hh=>by
 obtain ⟨_,⟨⟨xs,_⟩,_⟩,_⟩:=vv;obtain ⟨⟨n,_⟩,⟨ys,_⟩⟩:=bb;obtain ⟨h1,rfl⟩:=Prod.mk.inj hh;simp only [rfOk,zf,zl] at h1;obtain ⟨hn,hv,hb⟩:=h1;obtain rfl:=zg hn;have hV:∀ x,x∈xs->IsV x:=fun x hx=>xwl (zI.1 hv x hx)
 rw [xDB];refine xth (xbt (xr1 (Inv:=xHU.at 0) (xHm Tryz.prog _) rfl (xs:=xs) (op:=opV) (T:=xzL xs) (n:=2) (σ:=Nat×List AV) (ρ:=Unit) xvQ (fun _=>[]) (fun s x=>.inl (s.1+1,s.2++[factA x])) (fun _=>rfl) (s0:=(0,ys)) (xp2 xs hV (by omega)) rfl rfl ?_) ?_)
 . intro pre s x O J hf;obtain ⟨hx,hl⟩:=xpm J;rw [xph] at hf;simp only [Sum.inl.injEq] at hf;obtain ⟨a,b,r,c,d,e,f,g,h,rfl⟩:=hV x hx;have Q:s.2.length=ys.length+pre.length:=by rw [<-hf];simp
   have hc:(s.1==s.1&&(s.2.length==s.2.length&&(decide ((s.2.length+1)*40<=140737488355328)&&decide (s.2.length+1<=4611686018427387904))))=true:=by
    simp only [beq_self_eq_true,Bool.true_and,zf,zl];omega
   have q:=xF3 xs s.2 s.1 s.2.length a b r c d e f g h;rw [hc] at q;refine xbt (xsc xHl (xHm Tryz.prog _) rfl xFM xFK xFL q) fun e1 s1 ⟨g1,g2⟩=>⟨g1,xbt g2 fun e2 s2 ⟨k1,T',k2⟩=>⟨k1,T',?_⟩⟩
   have:xvQ (s.1+1,s.2++[factA (verA a b r c d e f g h)])=[⟨0,1,26,[.osl 1 (s.1+1) 0 (s.2.length+1)],false,false⟩,⟨s.1+1,3,60,s.2++[.agg [.list 3 r,.int .i64 c,.int .i64 d]],false,true⟩]:=by
    simp [xvQ,factA,verA]
   rw [this];exact k2
 . intro e1 s1 hq;rw [xph] at hq;obtain ⟨rfl,rfl⟩:=hq;exact ⟨_,xiH (xF2 xs _),rfl,rfl⟩
noncomputable abbrev xzM:Env:=xkU.E.fn 16 3 (lsOf []) (xHz [])
theorem xDp:xHc Tryz.prog ⟨(xHU).inv,3,false⟩ xzM:=⟨fun g a r h=>xkU.ok.1 g a r h,fun g a H r H' h=>xkU.ok.2 g a H r H' h⟩
noncomputable abbrev xCg (xs:List AV):List AV:=mkTs 16 [(3,.own 0 0 0 0),(4,.own 1 0 0 0),(5,.own 2 0 0 0),(8,.func 67 [.eptr 1 [.list 9 xs] 0 0])]
def xum (id:Int) (z:AV) (t:Bool):List Box:=[⟨0,1,3,[.int .i64 id],false,true⟩,⟨0,9,58,[z],false,true⟩,⟨0,1,4,[.bool t],false,true⟩]
theorem xF4 (xs:List AV) (id:Int) (z:AV) (t:Bool) (a b:Int) (r:List AV) (c d e f g h:Int):XB Tryz.prog xzM (rgA (rgOf Tryz.f78)) (rgB (rgOf Tryz.f78)) ((xCg xs).set 9 (verA a b r c d e f g h)) (xum id z t) =
 br (a==id) (some (.ret,xum id (verA a b r c d e f g h) true)) (some (.normal,xum id z t)):=by kernel_rfl
theorem xDn:LoOk Tryz.prog ⟨(xHU).inv,3,false⟩ xzM (rgA (rgOf Tryz.f78)):=xeO (by kernel_rfl)
theorem xDo:LoOk Tryz.prog ⟨(xHU).inv,3,false⟩ xzM (rgB (rgOf Tryz.f78)):=xeO (by kernel_rfl)
theorem xDC:rgOf Tryz.f78=.rangeFunc (.tmp 8) #[9] (rgA (rgOf Tryz.f78)) (rgB (rgOf Tryz.f78)):=by kernel_rfl
theorem xEQ (xs:List AV) (id:Int) (z:AV) (t:Bool):normS 0 [] [4,5] ⟨xCg xs,xum id z t⟩=some ([.own 0 0 0 0,.own 1 0 0 0],[⟨0,9,58,[z],false,true⟩,⟨0,1,4,[.bool t],false,true⟩]):=by kernel_rfl
def idA:AV->Int
 | .agg [.int _ a,_,_,_,_,_,_,_,_]=>a
 | _=>0
noncomputable def findA (id:Int) (xs:List AV):Option AV:=(xs.filter opV).find? fun x=>idA x==id
theorem xuT (id:Int):∀ l:List AV,l.foldl (stepS fun (_:Unit) x=>br (idA x==id) (Sum.inr x) (.inl ())) (.inl ())=match l.find? fun x=>idA x==id with|some x=>.inr x|none=>.inl ()
 | []=>rfl
 | x::l=>by
  rw [List.foldl_cons,List.find?_cons];show l.foldl _ (br (idA x==id) (Sum.inr x) (.inl ()))=_;cases h:idA x==id with
  | true=>exact xr3 _ _ _
  | false=>exact xuT id l
def exA (x:AV):AV:=.agg [.int .i64 (x.cells.getD 0 .top).toInt,.int .i64 (x.cells.getD 1 .top).toInt,.list 3 (x.cells.getD 2 .top).toList,.int .i64 (x.cells.getD 3 .top).toInt,.int .i64 (x.cells.getD 4 .top).toInt,.int .i64 (x.cells.getD 5 .top).toInt,.int .i64 (x.cells.getD 6 .top).toInt,.int .i64 (x.cells.getD 7 .top).toInt,.int .i64 (x.cells.getD 8 .top).toInt]
theorem xFQ {x:AV} (h:IsV x):exA x=x:=by
 obtain ⟨a,b,r,c,d,e,f,g,i,rfl⟩:=h;rfl
noncomputable def xoq:Lp:=lpOf [3,4,5,8] [4,5] [] (xHV (xH7 0 0 0 0) (xHV (xH7 1 0 0 0) (xHV (xH7 2 0 0 0) (xHV (xHA 67 (xHV (pEptr 1 0 0 (xHV (xIc 9 xHZ) xHX)) xHX)) xHX)))) (xHV (xH9 0 1 3 false true (xHV (pInt .i64) xHX)) (xHV (xH9 0 9 58 false true (xHV xHZ xHX)) (xHV (xH9 0 1 4 false true (xHV pBool xHX)) xHX)))
 fun (_,(_,(_,(((xs,_),_),_)))) ((id,_),((z,_),((t,_),_)))=>(xs.all isVb&&decide (xs.length<4611686018427387904),
  .node (findA id xs).isSome (.leaf .ret [.own 0 0 0 0,.own 1 0 0 0] [⟨0,9,58,[exA ((findA id xs).getD .top)],false,true⟩,⟨0,1,4,[.bool true],false,true⟩]) (.leaf .normal [.own 0 0 0 0,.own 1 0 0 0] [⟨0,9,58,[z],false,true⟩,⟨0,1,4,[.bool t],false,true⟩]))
theorem xuv:PieceOk Tryz.prog (xHU.at 0) 16 (rgOf Tryz.f78) xoq:=xwC fun vv bb rr hh=>by
 obtain ⟨_,_,_,⟨⟨xs,_⟩,_⟩,_⟩:=vv;obtain ⟨⟨id,_⟩,⟨z,_⟩,⟨t,_⟩,_⟩:=bb;obtain ⟨h1,rfl⟩:=Prod.mk.inj hh;simp only [zf,zl] at h1;have hV:∀ x,x∈xs->IsV x:=fun x hx=>xwl (zI.1 h1.1 x hx)
 rw [xDC];refine xth (xbt (xr1 (Inv:=xHU.at 0) (xHm Tryz.prog _) rfl (xs:=xs) (op:=opV) (T:=xCg xs) (n:=3) (σ:=Unit) (ρ:=AV) (fun _=>xum id z t) (fun x=>xum id x true) (fun _ x=>br (idA x==id) (.inr x) (.inl ())) (fun _=>rfl) (s0:=()) (xp2 xs hV h1.2) rfl rfl ?_) ?_)
 . intro pre s x U J hf;obtain ⟨hx,hl⟩:=xpm J;obtain ⟨a,b,r,c,d,e,f,g,h,rfl⟩:=hV x hx;have q:=xF4 xs id z t a b r c d e f g h;have O:idA (verA a b r c d e f g h)=a:=rfl;rw [O];cases hc:a==id with
   | true =>
    rw [hc] at q;exact xbt (xsc xHl (xHm Tryz.prog _) rfl xDp xDn xDo q) fun e1 s1 ⟨g1,g2⟩=>⟨g1,xbt g2 fun e2 s2 ⟨k1,T',k2⟩=>⟨k1,T',k2⟩⟩
   | false =>
    rw [hc] at q;exact xbt (xsc xHl (xHm Tryz.prog _) rfl xDp xDn xDo q) fun e1 s1 ⟨g1,g2⟩=>⟨g1,xbt g2 fun e2 s2 ⟨k1,T',k2⟩=>⟨k1,T',k2⟩⟩
 . intro e1 s1 hq;rw [xuT] at hq;unfold findA;cases hf:(xs.filter opV).find? (fun x=>idA x==id) with
   | some x =>
    rw [hf] at hq;obtain ⟨rfl,rfl⟩:=hq;have Q:exA ((some x).getD .top)=x:=xFQ (hV x (List.mem_filter.1 (List.mem_of_find?_eq_some hf)).1);refine ⟨_,xiH (xEQ xs id x true),rfl,?_⟩;simp only [LR.eval,Q,zk];rfl
   | none =>
    rw [hf] at hq;obtain ⟨rfl,rfl⟩:=hq;exact ⟨_,xiH (xEQ xs id z t),rfl,rfl⟩
noncomputable abbrev xzN:Env:=xkU.E.fn 67 5 (lsOf []) (xHz [])
theorem xFP:xHc Tryz.prog ⟨(xHU).inv,5,false⟩ xzN:=⟨fun g a r h=>xkU.ok.1 g a r h,fun g a H r H' h=>xkU.ok.2 g a H r H' h⟩
noncomputable abbrev xzO (xs:List AV):List AV:=mkTs 67 [(6,.own 0 0 0 0),(7,.own 1 0 0 0),(8,.func 47 [.own 0 0 0 0,.own 1 0 0 0]),(9,.own 2 0 0 0),(24,.func 67 [.eptr 1 [.list 9 xs] 0 0])]
def xsQ (nx bs:List AV) (m:Nat) (s:Nat×List AV):List Box:=[⟨0,1,26,[.list 3 nx],false,true⟩,⟨0,1,75,[.osl 3 0 0 m],false,false⟩,⟨0,1,22,[.osl 4 s.1 0 s.2.length],false,false⟩,⟨0,1,4,bs,false,true⟩,⟨s.1,9,58,s.2,false,true⟩]
theorem xF6 (xs nx bs ys:List AV) (m v n:Nat) (a b:Int) (r:List AV) (c d e f g h:Int):XB Tryz.prog xzN (rgA (rgOf Tryz.f18)) (rgB (rgOf Tryz.f18)) ((xzO xs).set 25 (verA a b r c d e f g h)) [⟨0,1,26,[.list 3 nx],false,true⟩,⟨0,1,75,[.osl 3 0 0 m],false,false⟩,⟨0,1,22,[.osl 4 v 0 n],false,false⟩,⟨0,1,4,bs,false,true⟩,⟨v,9,58,ys,false,true⟩] =
 br (v==v&&(n==ys.length&&(decide ((n+1)*88<=140737488355328)&&decide (n+1<=4611686018427387904)))) (some (.normal,[⟨0,1,26,[.list 3 nx],false,true⟩,⟨0,1,75,[.osl 3 0 0 m],false,false⟩,⟨0,1,22,[.osl 4 (v+1) 0 (n+1)],false,false⟩,⟨0,1,4,bs,false,true⟩,⟨v+1,9,58,ys++[verA a b r c d e f g h],false,true⟩])) none:=by kernel_rfl
theorem xFN:LoOk Tryz.prog ⟨(xHU).inv,5,false⟩ xzN (rgA (rgOf Tryz.f18)):=xeO (by kernel_rfl)
theorem xFO:LoOk Tryz.prog ⟨(xHU).inv,5,false⟩ xzN (rgB (rgOf Tryz.f18)):=xeO (by kernel_rfl)
theorem xDD:rgOf Tryz.f18=.rangeFunc (.tmp 24) #[25] (rgA (rgOf Tryz.f18)) (rgB (rgOf Tryz.f18)):=by kernel_rfl
theorem xF5 (xs nx bs:List AV) (m:Nat) (s:Nat×List AV):normS 0 [] [6,7,8,9] ⟨xzO xs,xsQ nx bs m s⟩=some ([.own 0 0 0 0,.own 1 0 0 0,.func 47 [.own 0 0 0 0,.own 1 0 0 0],.own 2 0 0 0],xsQ nx bs m (0,s.2)):=by
 obtain ⟨v,ys⟩:=s;have hb:Nat.beq v v=true:=Nat.beq_refl v;simp [normS,normH,normF,convs,xHN,xHT,renOk,xHF,rens,ren,renI,gather,refsOf,refsOf.refsL,xHy,xzO,xsQ,mkTs,liveOf,pinsOk,nodupB,hb,id0,id1,id2,id3,id4,Id.base,Nat.beq,Nat.blt,Nat.ble]
noncomputable def xdW:Lp:=lpOf [6,7,8,9,24] [6,7,8,9] [(9,9,58)] (xHV (xH7 0 0 0 0) (xHV (xH7 1 0 0 0) (xHV (xHA 47 (xHV (xH7 0 0 0 0) (xHV (xH7 1 0 0 0) xHX))) (xHV (xH7 2 0 0 0) (xHV (xHA 67 (xHV (pEptr 1 0 0 (xHV (xIc 9 xHZ) xHX)) xHX)) xHX)))))
  (xHV (xH9 0 1 26 false true (xHV (xIc 3 xHZ) xHX)) (xHV (xH9 0 1 75 false false (xHV (xH6 3 0 0) xHX)) (xHV (xH9 0 1 22 false false (xHV (xH6 4 0 0) xHX)) (xHV (xH9 0 1 4 false true xHZ) (xHV (xH9 0 9 58 false true xHZ) xHX)))))
 fun (_,(_,(_,(_,(((xs,_),_),_))))) ((nx,_),((m,_),((n,_),(bs,(ys,_)))))=>(Nat.beq n ys.length&&rfOk 88 xs ys,
  .leaf .normal [.own 0 0 0 0,.own 1 0 0 0,.func 47 [.own 0 0 0 0,.own 1 0 0 0],.own 2 0 0 0] (xsQ nx bs m (0,ys++xs.filter opV)))
theorem xoS:PieceOk Tryz.prog (xHU.at 0) 67 (rgOf Tryz.f18) xdW:=xwC fun vv bb rr hh=>by
 obtain ⟨_,_,_,_,⟨⟨xs,_⟩,_⟩,_⟩:=vv;obtain ⟨⟨nx,_⟩,⟨m,_⟩,⟨n,_⟩,bs,ys,_⟩:=bb;obtain ⟨h1,rfl⟩:=Prod.mk.inj hh;simp only [rfOk,zf,zl] at h1;obtain ⟨hn,hv,hb⟩:=h1;obtain rfl:=zg hn;have hV:∀ x,x∈xs->IsV x:=fun x hx=>xwl (zI.1 hv x hx)
 rw [xDD];refine xth (xbt (xr1 (Inv:=xHU.at 0) (xHm Tryz.prog _) rfl (xs:=xs) (op:=opV) (T:=xzO xs) (n:=5) (σ:=Nat×List AV) (ρ:=Unit) (xsQ nx bs m) (fun _=>[]) (fun s x=>.inl (s.1+1,s.2++[id x])) (fun _=>rfl) (s0:=(0,ys)) (xp2 xs hV (by omega)) rfl rfl ?_) ?_)
 . intro pre s x O J hf;obtain ⟨hx,hl⟩:=xpm J;rw [xph] at hf;simp only [Sum.inl.injEq] at hf;obtain ⟨a,b,r,c,d,e,f,g,h,rfl⟩:=hV x hx;have Q:s.2.length=ys.length+pre.length:=by rw [<-hf];simp
   have hc:(s.1==s.1&&(s.2.length==s.2.length&&(decide ((s.2.length+1)*88<=140737488355328)&&decide (s.2.length+1<=4611686018427387904))))=true:=by
    simp only [beq_self_eq_true,Bool.true_and,zf,zl];omega
   have q:=xF6 xs nx bs s.2 m s.1 s.2.length a b r c d e f g h;rw [hc] at q;refine xbt (xsc xHl (xHm Tryz.prog _) rfl xFP xFN xFO q) fun e1 s1 ⟨g1,g2⟩=>⟨g1,xbt g2 fun e2 s2 ⟨k1,T',k2⟩=>⟨k1,T',?_⟩⟩
   have:xsQ nx bs m (s.1+1,s.2++[id (verA a b r c d e f g h)])=[⟨0,1,26,[.list 3 nx],false,true⟩,⟨0,1,75,[.osl 3 0 0 m],false,false⟩,⟨0,1,22,[.osl 4 (s.1+1) 0 (s.2.length+1)],false,false⟩,⟨0,1,4,bs,false,true⟩,⟨s.1+1,9,58,s.2++[verA a b r c d e f g h],false,true⟩]:=by
    simp [xsQ]
   rw [this];exact k2
 . intro e1 s1 hq;rw [xph] at hq;obtain ⟨rfl,rfl⟩:=hq;refine ⟨_,xiH (xF5 xs nx bs m _),rfl,?_⟩;simp [LR.eval];rfl
end Go.Sim.M
end
noncomputable section
set_option maxRecDepth 100000
namespace Go.Sim.M
open Go.IntKind (i64 u64 u8)
open Go.RowKit Go.Proofs
def xoR {T:Type} (a b:LA) (δ:T) (κ:Bool->T):T:=br ((xgC a b).isSome) (κ ((xgC a b).getD 0==0)) δ
def xn2 (a b:LA):=xoR a b none some
def xAL:EO:=xkU.f Tryz.func48 9 0 [] [] lk0 (u2 (uL 3) (uL 3)) (fun (a,b,_) _=>xoR a b) (fun _ p=>AV.bool p) false
def xlt (b:Int) (a:LA):=decide (0+b.toNat<a.length)
def xjn {T:Type} (h:LA) (o b:Int) (d:LA) (c:Nat) (a:LA) (i j:Int) (e:LA) (f g k l m n:Int) (δ:T) (κl:(Int×LA×Nat×LA×Int×Int×LA×Int×Int×Int×Int×Int×Int)->T) (κr:(Bool×(Bool×LA×Nat×LA)×(LA×Nat×LA))->T):T:=br (decide (b<o)) (br (ixI h b) (br (ixT h b 3 [Sh.list 3,Sh.int .i64,Sh.int .i64] 0) (br (decide (0<=b)&&decide (b<(↑c:Int))) (br (xlt b a&&xHa Sh.bool ((a.getD (0+b.toNat) .top).cells.getD 0 .top)) (br (!((a.getD (0+b.toNat) .top).cells.getD 0 .top).toBool) (br ((gC h b 1).toInt==f&&((gC h b 2).toInt==g&&true)) (br ((xn2 (gC h b 0).toList e).isSome) (br ((xn2 (gC h b 0).toList e).getD false) (br (decide (0<=b)&&decide (b<(↑c:Int))) (br (xlt b a) (κr (true,(true,d,c,a.set (0+b.toNat) (AV.bool true)),([],0,[]))) δ) δ) (κl (i64.wrap (b+1),d,c,a,i,j,e,f,g,k,l,m,n))) δ) (κl (i64.wrap (b+1),d,c,a,i,j,e,f,g,k,l,m,n))) (κl (i64.wrap (b+1),d,c,a,i,j,e,f,g,k,l,m,n))) δ) δ) δ) δ) (κr (false,(false,[],0,[]),(d,c,a)))
def xe4 (m:LA) (n:Int):StT (Int×LA×Nat×LA×Int×Int×LA×Int×Int×Int×Int×Int×Int) (Bool×(Bool×LA×Nat×LA)×(LA×Nat×LA)):=fun (o,b,c,a,d,e,f,g,h,i,j,k,l)=>xjn m n o b c a d e f g h i j k l none inL inR
def xpd:=xAL.l 37 3 [] [] Tryz.f47 0 lk0 [2,3,7,8,9] [4] [] (q5 (xH7 1 0 0 0) (xH7 3 0 0 0) (qL 3) qI qI) (q4 (qB 0 1 26 (q1 (qL 3))) (xH9 0 1 75 false false (q1 (xH6 2 0 0))) (qB 0 1 4 xHZ) (qB 0 9 58 (q1 (xH8 (q9 qI qI (qL 3) qI qI qI qI qI qI))))) (fun (_,_,n,o,q,_) ((b,_),(c,_),a,((d,e,f,g,h,i,j,k,m,_),_),_)=>(xe4 n o,(q,b,c,a,d,e,f,g,h,i,j,k,m),fun p=>(.node p.1 (.leaf .ret [AV.bool p.2.1.1] [bF 0 1 26 [AV.list 3 p.2.1.2.1],⟨0,1,75,[AV.osl 2 0 0 p.2.1.2.2.1],false,false⟩,bF 0 1 4 p.2.1.2.2.2]) (.leaf (.exit 0) [.top] [bF 0 1 26 [AV.list 3 p.2.2.1],⟨0,1,75,[AV.osl 2 0 0 p.2.2.2.1],false,false⟩,bF 0 1 4 p.2.2.2.2])))) (false,(false,[],0,[]),([],0,[])) fun (_,_,n,o,_,_) _ (q,b,c,a,d,e,f,g,h,i,j,k,m)=>((((),(),n,o,q,()),((b,()),(c,()),a,((d,e,f,g,h,i,j,k,m,()),()),())),xjn n o q b c a d e f g h i j k m none)
def xoz (id c:Int) (r:LA) (f t d e b g:Int) (a:LA) (n:Nat) (h:LA):=Iter (xe4 a (↑a.length:Int)) (0,a,n,h,id,c,r,f,t,d,e,b,g)
def xoy (id b:Int) (r:LA) (f t c d a e:Int) (g:LA) (n:Nat) (h:LA):=(xoz id b r f t c d a e g n h).getD (false,(false,[],0,[]),[],0,[])
def xow (id b:Int) (r:LA) (f t c d a e:Int) (g:LA) (n:Nat) (h:LA):=(xoy id b r f t c d a e g n h).snd
def xou (id b:Int) (r:LA) (f t c d a e:Int) (g:LA) (n:Nat) (h:LA):=(xow id b r f t c d a e g n h).snd
def xov (id b:Int) (r:LA) (f t c d a e:Int) (g:LA) (n:Nat) (h:LA):=(xow id b r f t c d a e g n h).fst
def xos (id b:Int) (r:LA) (f t c d a e:Int) (g:LA) (n:Nat) (h:LA):=(xov id b r f t c d a e g n h).snd
def xot (id b:Int) (r:LA) (f t c d a e:Int) (g:LA) (n:Nat) (h:LA):=(xou id b r f t c d a e g n h).snd
def xor (id b:Int) (r:LA) (f t c d a e:Int) (g:LA) (n:Nat) (h:LA):=(xos id b r f t c d a e g n h).snd
def xpe {T:Type} (id b:Int) (r:LA) (f t c d a e:Int) (g:LA) (n:Nat) (h:LA) (δ:T) (κ:Bool×LA×Nat×LA->T):T:=br ((xoz id b r f t c d a e g n h).isSome) (br ((xoy id b r f t c d a e g n h).fst) (κ ((xov id b r f t c d a e g n h).fst,(xos id b r f t c d a e g n h).fst,(xor id b r f t c d a e g n h).fst,(xor id b r f t c d a e g n h).snd)) (κ (false,(xou id b r f t c d a e g n h).fst,(xot id b r f t c d a e g n h).fst,(xot id b r f t c d a e g n h).snd))) δ
def xqK (id b:Int) (r:LA) (f t c d a e:Int) (g:LA) (n:Nat) (h:LA):=xpe id b r f t c d a e g n h none some
def xEE:EO:=xAL.fM Tryz.func47 37 3 [] [(2,xpd.lp)] (lk1 xpd.ok) (u3 (xIb (xHW uI (xHW uI (u7 (uL 3) uI uI uI uI uI uI)))) (sEq (xH7 0 0 0 0)) (sEq (xH7 1 0 0 0))) (q3 (qB 0 1 26 (q1 (qL 3))) (xH9 0 1 75 false false (q1 (xH6 2 0 0))) (qB 0 1 4 xHZ)) (fun ((id,b,r,f,t,c,d,a,e,_),_,_,_) ((g,_),(n,_),h,_) _=>xpe id b r f t c d a e g n h) (fun _ _ p=>(AV.bool p.1,([bF 0 1 26 [AV.list 3 p.2.1],⟨0,1,75,[AV.osl 2 0 0 p.2.2.1],false,false⟩,bF 0 1 4 p.2.2.2]:List Box))) (false,[],0,[])
def xrF (a c:Int) (m:LA) (n o d e f g b h:Int) (p:LA) (q r i j k l:Int):Int:=((xcp a b))
def xyj {T:Type} (a c:Int) (m:LA) (n o d e f g b h:Int) (p:LA) (q r i j k l:Int) (δ:T) (κ:Int->T):T:=κ (xcp a b)
def xvM:EO:=xEE.fT Tryz.func50 10 0 [] [] lk0 (fun ((a,b,m,n,o,c,d,e,f,_),(g,h,q,r,s,i,j,k,l,_),_)=>xyj a b m n o c d e f g h q r s i j k l none) (u2 (xIb (xHW uI (xHW uI (u7 (uL 3) uI uI uI uI uI uI)))) (xIb (xHW uI (xHW uI (u7 (uL 3) uI uI uI uI uI uI))))) (fun ((a,b,m,n,o,c,d,e,f,_),(g,h,q,r,s,i,j,k,l,_),_)=>xrF a b m n o c d e f g h q r s i j k l) (fun _ p=>(AV.int .i64 p))
def xdj (a:Nat) (j:Int):=decide (0<=i64.wrap (j - 1))&&decide (i64.wrap (j - 1)<(↑a:Int))
def xak (j:Int) (a:LA):=(a.getD (0+j.toNat) .top).cells
def xbV (j:Int):Nat:=0+(i64.wrap (j - 1)).toNat
def xdk (a:Nat) (j:Int):=decide (0<=j)&&decide (j<(↑a:Int))
def xfr (j:Int) (a:LA):=decide (0+j.toNat<a.length)
def xaj (j:Int) (a:LA):=(a.getD (xbV j) .top).cells
def xfp (j:Int) (a:LA):=xfr j a&&((xak j a).length==9&&xHh [Sh.int .i64,Sh.int .i64,Sh.list 3,Sh.int .i64,Sh.int .i64,Sh.int .i64,Sh.int .i64,Sh.int .i64,Sh.int .i64] (xak j a) 0)
def xfo (j:Int) (a:LA):=a.set (0+j.toNat) (AV.agg [AV.int .i64 ((xaj j a).getD 0 .top).toInt,AV.int .i64 ((xaj j a).getD 1 .top).toInt,AV.list 3 ((xaj j a).getD 2 .top).toList,AV.int .i64 ((xaj j a).getD 3 .top).toInt,AV.int .i64 ((xaj j a).getD 4 .top).toInt,AV.int .i64 ((xaj j a).getD 5 .top).toInt,AV.int .i64 ((xaj j a).getD 6 .top).toInt,AV.int .i64 ((xaj j a).getD 7 .top).toInt,AV.int .i64 ((xaj j a).getD 8 .top).toInt])
def xfq (j:Int) (a:LA):=decide (xbV j<a.length)&&((xaj j a).length==9&&xHh [Sh.int .i64,Sh.int .i64,Sh.list 3,Sh.int .i64,Sh.int .i64,Sh.int .i64,Sh.int .i64,Sh.int .i64,Sh.int .i64] (xaj j a) 0)
def xfF {T:Type} (d:Nat) (a b i j:Int) (c:LA) (δ:T) (κl:(Int×LA)->T) (κr:(LA)->T):T:=br (decide (j>a)) (br (xdk d j) (br (xfp j c) (br (xdj d j) (br (xfq j c) (br (decide (xrF ((xak j c).getD 0 .top).toInt ((xak j c).getD 1 .top).toInt ((xak j c).getD 2 .top).toList ((xak j c).getD 3 .top).toInt ((xak j c).getD 4 .top).toInt ((xak j c).getD 5 .top).toInt ((xak j c).getD 6 .top).toInt ((xak j c).getD 7 .top).toInt ((xak j c).getD 8 .top).toInt ((xaj j c).getD 0 .top).toInt ((xaj j c).getD 1 .top).toInt ((xaj j c).getD 2 .top).toList ((xaj j c).getD 3 .top).toInt ((xaj j c).getD 4 .top).toInt ((xaj j c).getD 5 .top).toInt ((xaj j c).getD 6 .top).toInt ((xaj j c).getD 7 .top).toInt ((xaj j c).getD 8 .top).toInt<0)) (br (xdj d j) (br (xfq j c) (br (xdk d j) (br (xfp j c) (br (xdk d j) (br (xfr j c) (br (xdj d j) (br (decide (xbV j<(xfo j c).length)) (κl (i64.wrap (j - 1),(xfo j c).set (xbV j) (AV.agg [AV.int .i64 ((xak j c).getD 0 .top).toInt,AV.int .i64 ((xak j c).getD 1 .top).toInt,AV.list 3 ((xak j c).getD 2 .top).toList,AV.int .i64 ((xak j c).getD 3 .top).toInt,AV.int .i64 ((xak j c).getD 4 .top).toInt,AV.int .i64 ((xak j c).getD 5 .top).toInt,AV.int .i64 ((xak j c).getD 6 .top).toInt,AV.int .i64 ((xak j c).getD 7 .top).toInt,AV.int .i64 ((xak j c).getD 8 .top).toInt]))) δ) δ) δ) δ) δ) δ) δ) δ) (κr (c))) δ) δ) δ) δ) (κr (c))
def xbE (d:Nat) (a b i:Int):StT (Int×LA) (LA):=fun (j,c)=>xfF d a b i j c none inL inR
def xbU:=xvM.l 53 1 [58] [] Tryz.f95 1 lk0 [0,1,2,3,8,9] [0,1,2,3,8] [] (q6 (xH6 0 0 0) qI qI (xHA 50 xHX) qI qI) (q1 (qB 0 9 58 xHZ)) (fun (c,a,b,_,i,j,_) (d,_)=>(xbE c a b i,(j,d),fun p=>(.leaf (.exit 2) [AV.osl 0 0 0 c,AV.int .i64 a,AV.int .i64 b,AV.func 50 [],AV.int .i64 i] [bF 0 9 58 p]))) [] fun (c,a,b,_,i,_,_) _ (j,d)=>(((c,a,b,(),i,j,()),(d,())),xfF c a b i j d none)
def xfE {T:Type} (d:Nat) (a b i:Int) (c:LA) (δ:T) (κl:(Int×LA)->T) (κr:(LA)->T):T:=br (decide (i<b)) (br ((Iter (xbE d a b i) (i,c)).isSome) (κl (i64.wrap (i+1),(Iter (xbE d a b i) (i,c)).getD [])) δ) (κr (c))
def xbD (d:Nat) (a b:Int):StT (Int×LA) (LA):=fun (i,c)=>xfE d a b i c none inL inR
def xfn:=xvM.l 53 1 [58] [(4,xbU.lp)] Tryz.f95 0 (lk1 xbU.ok) [0,1,2,3,8] [] [] (q5 (xH6 0 0 0) qI qI (xHA 50 xHX) qI) (q1 (qB 0 9 58 xHZ)) (fun (d,a,b,_,i,_) (c,_)=>(xbD d a b,(i,c),fun p=>(.leaf (.exit 0) [] [bF 0 9 58 p]))) [] fun (d,a,b,_,_,_) _ (i,c)=>(((d,a,b,(),i,()),(c,())),xfE d a b i c none)
def xee {T:Type} (n:Nat) (a b:Int) (c:LA) (δ:T) (κ:LA->T):T:=br ((Iter (xbD n a b) (i64.wrap (a+1),c)).isSome) (κ ((Iter (xbD n a b) (i64.wrap (a+1),c)).getD [])) δ
def xbl (n:Nat) (a b:Int) (c:LA):=xee n a b c none some
def xtm:EO:=xvM.fM Tryz.func95 53 1 [58] [(4,xbU.lp),(1,xfn.lp)] (lks (lkC xfn.ok (lkC xbU.ok lkN))) (u4 (sEq (xH6 0 0 0)) uI uI (sEq (xHA (50:FuncId) xHX))) (q1 (qB 0 9 58 xHZ)) (fun (n,a,b,_,_) (c,_) _=>xee n a b c) (fun _ _ p=>(AV.tuple [],([bF 0 9 58 p]:List Box))) []
def xe7 {T:Type} (d:Nat) (n e a b:Int) (c:LA) (δ:T) (κl:(Int×Int×LA)->T) (κr:(Int×LA)->T):T:=br (decide (b<=n)) (br ((xbl d a b c).isSome) (κl (b,i64.wrap (b+e),(xbl d a b c).getD [])) δ) (κr (a,c))
def xbN (e:Nat) (n c:Int):StT (Int×Int×LA) (Int×LA):=fun (a,b,d)=>xe7 e n c a b d none inL inR
def xdt:=xtm.l 63 1 [58] [] Tryz.f76 0 lk0 [0,1,2,6,7,8] [0,1,2,6,7] [] (q6 (xH6 0 0 0) qI (xHA 50 xHX) qI qI qI) (q1 (qB 0 9 58 xHZ)) (fun (d,n,_,c,a,b,_) (e,_)=>(xbN d n c,(a,b,e),fun p=>(.leaf (.exit 0) [AV.osl 0 0 0 d,AV.int .i64 n,AV.func 50 [],AV.int .i64 c,AV.int .i64 p.1] [bF 0 9 58 p.2]))) (0,[]) fun (d,n,_,c,_,_,_) _ (a,b,e)=>(((d,n,(),c,a,b,()),(e,())),xe7 d n c a b e none)
def xiy {T:Type} (d:Nat) (n e a b:Int) (c:LA) (δ:T) (κl:(Int×Int×LA)->T) (κr:(Int×LA)->T):T:=br (decide (b<=n)) (br (decide (0+d<=c.length)&&true) δ δ) (κr (a,c))
def xg3 (e:Nat) (n c:Int):StT (Int×Int×LA) (Int×LA):=fun (a,b,d)=>xiy e n c a b d none inL inR
def xdu:=xtm.l 63 1 [58] [(2,xdt.lp)] Tryz.f76 2 lk0 [0,1,2,6,7,8] [0,1,2,6,7] [] (q6 (xH6 0 0 0) qI (xHA 50 xHX) qI qI qI) (q1 (qB 0 9 58 xHZ)) (fun (d,n,_,c,a,b,_) (e,_)=>(xg3 d n c,(a,b,e),fun p=>(.leaf (.exit 4) [AV.osl 0 0 0 d,AV.int .i64 n,AV.func 50 [],AV.int .i64 c,AV.int .i64 p.1] [bF 0 9 58 p.2]))) (0,[]) fun (d,n,_,c,_,_,_) _ (a,b,e)=>(((d,n,(),c,a,b,()),(e,())),xiy d n c a b e none)
def xib (c:Nat) (n a:Int) (b:LA):=Iter (xg3 c n a) (0,i64.wrap (2*a),b)
def xia (c:Nat) (n a:Int) (b:LA):=(xib c n a b).getD (0,[])
def xh9 (c:Nat) (n a:Int) (b:LA):=(xia c n a b).snd
def xe8 {T:Type} (c:Nat) (n a:Int) (b:LA) (δ:T) (κl:(Int×LA)->T) (κr:(LA)->T):T:=br (decide (a<n)) (br ((xib c n a b).isSome) (br (decide (i64.wrap ((xia c n a b).fst+a)<n)) (br (decide (0+c<=(xh9 c n a b).length)&&true) δ δ) (κl (i64.wrap (a*2),xh9 c n a b))) δ) (κr (b))
def xcE (c:Nat) (n:Int):StT (Int×LA) (LA):=fun (a,b)=>xe8 c n a b none inL inR
def xh8:=xtm.l 63 1 [58] [(2,xdt.lp),(9,xdu.lp)] Tryz.f76 1 (lk1 xdu.ok) [0,1,2,6] [] [] (q4 (xH6 0 0 0) qI (xHA 50 xHX) qI) (q1 (qB 0 9 58 xHZ)) (fun (c,n,_,a,_) (b,_)=>(xcE c n,(a,b),fun p=>(.leaf (.exit 2) [] [bF 0 9 58 p]))) [] fun (c,n,_,_,_) _ (a,b)=>(((c,n,(),a,()),(b,())),xe8 c n a b none)
def xfZ (n:Nat) (k:Int) (a:LA):=(Iter (xbN n k 20) (0,20,a)).getD (0,[])
def xfY (n:Nat) (k:Int) (a:LA):=xbl n (xfZ n k a).fst k (xfZ n k a).snd
def xfX (n:Nat) (k:Int) (a:LA):=Iter (xcE n k) (20,(xfY n k a).getD [])
def xgc {T:Type} (n:Nat) (k:Int) (a:LA) (δ:T) (κ:LA->T):T:=br ((Iter (xbN n k 20) (0,20,a)).isSome) (br ((xfY n k a).isSome) (br ((xfX n k a).isSome) (κ ((xfX n k a).getD [])) δ) δ) δ
def xe2 (n:Nat) (k:Int) (a:LA):=xgc n k a none some
def xEF:EO:=xtm.fM Tryz.func76 63 1 [58] [(2,xdt.lp),(9,xdu.lp),(7,xh8.lp)] (lks (lkC xdt.ok (lkC xh8.ok (lkC xdu.ok lkN)))) (u3 (sEq (xH6 0 0 0)) uI (sEq (xHA (50:FuncId) xHX))) (q1 (qB 0 9 58 xHZ)) (fun (n,k,_,_) (a,_) _=>xgc n k a) (fun _ _ p=>(AV.tuple [],([bF 0 9 58 p]:List Box))) []
def xfP {T:Type} (n:Nat) (a:LA) (δ:T) (κ:LA->T):T:=br ((xe2 n (↑n:Int) a).isSome) (κ ((xe2 n (↑n:Int) a).getD [])) δ
def xeC (n:Nat) (a:LA):=xfP n a none some
def xrs:EO:=xEF.fM Tryz.func49 9 1 [58] [] lk0 (u2 (sEq (xH6 0 0 0)) (sEq (xHA (50:FuncId) xHX))) (q1 (qB 0 9 58 xHZ)) (fun (n,_,_) (a,_) _=>xfP n a) (fun _ _ p=>(AV.tuple [],([bF 0 9 58 p]:List Box))) []
def xaX (b:Int) (a:LA):=(a.getD (0+b.toNat) .top).cells
def xi6 (b:Int) (d:LA) (e:Nat) (a c:LA):=xqK ((xaX b a).getD 0 .top).toInt ((xaX b a).getD 1 .top).toInt ((xaX b a).getD 2 .top).toList ((xaX b a).getD 3 .top).toInt ((xaX b a).getD 4 .top).toInt ((xaX b a).getD 5 .top).toInt ((xaX b a).getD 6 .top).toInt ((xaX b a).getD 7 .top).toInt ((xaX b a).getD 8 .top).toInt d e c
def xi5 (e:Int) (b:LA) (c:Nat) (d a:LA):=(xi6 e b c d a).getD (false,[],0,[])
def xgi (e:Int) (b:LA) (c:Nat) (d a:LA):=(xi5 e b c d a).snd
def xeF (e:Int) (b:LA) (c:Nat) (d a:LA):=(xgi e b c d a).snd
def xgF {T:Type} (h:Nat) (i:Int) (g:Nat) (e:Int) (c:LA) (d:Nat) (f a b:LA) (δ:T) (κl:(Nat×Int×LA×Nat×LA×LA×LA)->T) (κr:(Nat×LA×Nat×LA×LA)->T):T:=br (decide (e<i)) (br (decide (0<=e)&&decide (e<(↑h:Int))) (br (decide (0+e.toNat<a.length)&&((xaX e a).length==9&&xHh [Sh.int .i64,Sh.int .i64,Sh.list 3,Sh.int .i64,Sh.int .i64,Sh.int .i64,Sh.int .i64,Sh.int .i64,Sh.int .i64] (xaX e a) 0)) (br ((xi6 e c d a b).isSome) (br (!(xi5 e c d a b).fst) (br (rmB g f 1 8) (κl (g+1,i64.wrap (e+1),(xgi e c d a b).fst,(xeF e c d a b).fst,f++[AV.int .i64 ((xaX e a).getD 0 .top).toInt],a,(xeF e c d a b).snd)) δ) (κl (g,i64.wrap (e+1),(xgi e c d a b).fst,(xeF e c d a b).fst,f,a,(xeF e c d a b).snd))) δ) δ) δ) (κr (g,c,d,f,b))
def xcO (f:Nat) (h:Int):StT (Nat×Int×LA×Nat×LA×LA×LA) (Nat×LA×Nat×LA×LA):=fun (g,i,b,c,d,e,a)=>xgF f h g i b c d e a none inL inR
def xgh:=xrs.l 67 0 [58] [(3000007,xdW)] Tryz.f18 0 lk0 [6,7,8,11,32,33,34] [6,7,11] [(11,1,3)] (q7 (xH7 0 0 0 0) (xH7 1 0 0 0) (xHA 47 (q2 (xH7 0 0 0 0) (xH7 1 0 0 0))) (xH6 2 0 0) (xH6 3 0 0) qI qI) (q5 (qB 0 1 26 (q1 (qL 3))) (xH9 0 1 75 false false (q1 (xH6 4 0 0))) (qB 0 1 3 xHZ) (qB 0 9 58 xHZ) (qB 0 1 4 xHZ)) (fun (_,_,(_,_,_),f,g,h,i,_) ((b,_),(c,_),d,e,a,_)=>(xcO g h,(f,i,b,c,d,e,a),fun p=>(.leaf (.exit 2) [AV.own 0 0 0 0,AV.own 1 0 0 0,AV.osl 2 0 0 p.1] [bF 0 1 26 [AV.list 3 p.2.1],⟨0,1,75,[AV.osl 3 0 0 p.2.2.1],false,false⟩,bF 0 1 3 p.2.2.2.1,bF 0 1 4 p.2.2.2.2]))) (0,[],0,[],[]) fun (_,_,(_,_,_),_,g,h,_,_) _ (f,i,b,c,d,e,a)=>((((),(),((),(),()),f,g,h,i,()),((b,()),(c,()),d,e,a,())),xgF g h f i b c d e a none)
def xgG {T:Type} (i:Nat) (g:LA) (h:Int) (d:Nat) (a:Int) (e:Nat) (f c b:LA) (δ:T) (κl:(Nat×Int×Nat×LA×LA×LA)->T) (κr:(Nat×LA×LA)->T):T:=br (decide (a<h)) (br (ixI g a) (br (ixT g a 3 [Sh.list 3,Sh.int .i64,Sh.int .i64] 0) (br (decide (0<=a)&&decide (a<(↑e:Int))) (br (decide (0+a.toNat<b.length)&&xHa Sh.bool ((b.getD (0+a.toNat) .top).cells.getD 0 .top)) (br (!((b.getD (0+a.toNat) .top).cells.getD 0 .top).toBool) (br (rmB d c 1 40) (κl (d+1,i64.wrap (a+1),e,f,c++[AV.agg [AV.list 3 (gC g a 0).toList,AV.int .i64 (gC g a 1).toInt,AV.int .i64 (gC g a 2).toInt]],b)) δ) (κl (d,i64.wrap (a+1),e,f,c,b))) δ) δ) δ) δ) (κr (d,f,c))
def xcP (f:Nat) (g:LA) (h:Int):StT (Nat×Int×Nat×LA×LA×LA) (Nat×LA×LA):=fun (b,i,d,e,a,c)=>xgG f g h b i d e a c none inL inR
def xi7:=xrs.l 67 0 [58] [(3000007,xdW),(11,xgh.lp)] Tryz.f18 1 lk0 [7,11,14,48,49,50] [11,14] [(11,1,3),(14,3,60)] (q6 (xH7 0 0 0 0) (xH6 1 0 0) (xH6 2 0 0) (qL 3) qI qI) (q4 (xH9 0 1 75 false false (q1 (xH6 3 0 0))) (qB 0 1 3 xHZ) (qB 0 3 60 xHZ) (qB 0 1 4 xHZ)) (fun (_,d,b,g,h,i,_) ((e,_),f,a,c,_)=>(xcP d g h,(b,i,e,f,a,c),fun p=>(.leaf (.exit 4) [AV.osl 0 0 0 d,AV.osl 1 0 0 p.1] [bF 0 1 3 p.2.1,bF 0 3 60 p.2.2]))) (0,[],[]) fun (_,d,_,g,h,_,_) _ (b,i,e,f,a,c)=>((((),d,b,g,h,i,()),((e,()),f,a,c,())),xgG d g h b i e f a c none)
def xcT:Env:=xrs.E.fn 67 0 (lsOf [58]) (xHz [(3000007,xdW),(11,xgh.lp),(18,xi7.lp)])
theorem xrl:xHc P0 (xHU.at 0) xcT:=xrs.ok.fn
theorem xqs:LoOk P0 (xHU.at xcT.pin) xcT (Tryz.f18.body.getD .skip):=xse (lp0:=xdW) (hr:=xoS) (he:=by kernel_rfl) (ls:=[xHg Tryz.f18 0,xHg Tryz.f18 1]) (by kernel_rfl) (fun l b lp a=>by
 simp only [zC,List.not_mem_nil,or_false] at b;rcases b with rfl|rfl
 . rw [show xcT.lp (xHq (xHg Tryz.f18 0))=some xgh.lp by kernel_rfl] at a
   simp only [z6] at a;subst a;exact xgh.ok
 . rw [show xcT.lp (xHq (xHg Tryz.f18 1))=some xi7.lp by kernel_rfl] at a
   simp only [z6] at a;subst a;exact xi7.ok)
def xkB (l a:LA):=Iter (xcO ([]++List.filter opV (xdR l)).length (↑([]++List.filter opV (xdR l)).length:Int)) (0,0,(xck a).getD [],(↑((xck a).getD []).length:Int).toNat,[],(xeC ([]++List.filter opV (xdR l)).length ([]++List.filter opV (xdR l))).getD [],List.replicate (↑((xck a).getD []).length:Int).toNat (AV.bool false))
def xkA (l a:LA):=(xkB l a).getD (0,[],0,[],[])
def xiA (l a:LA):=(xkA l a).fst
def xkz (l a:LA):=(xkA l a).snd
def xlr (l a:LA):=(xkz l a).fst
def xls (l a:LA):=(xkz l a).snd
def xlq (l a:LA):=(xls l a).snd
def xlp (l a:LA):=Iter (xcP (xiA l a) (xlr l a) (↑(xlr l a).length:Int)) (0,0,(xls l a).fst,(xlq l a).fst,[],(xlq l a).snd)
def xlo (l a:LA):=(xlp l a).getD (0,[],[])
def xlm (l a:LA):=(xlo l a).fst
def xln (l a:LA):=(xlo l a).snd
def xlk (l a:LA):=(xln l a).snd
def xll (l a:LA):=(xln l a).fst
def xjm {T:Type} (l a:LA) (δ:T) (κ:LA×LA->T):T:=br ((xck a).isSome) (br (decide ((↑((xck a).getD []).length:Int)<=(↑((xck a).getD []).length:Int))&&(decide (1*(↑((xck a).getD []).length:Int)<=281474976710656)&&decide ((↑((xck a).getD []).length:Int)<=4611686018427387904))) (br (rfOk 88 (xdR l) []) (br ((xeC ([]++List.filter opV (xdR l)).length ([]++List.filter opV (xdR l))).isSome) (br ((xkB l a).isSome) (br ((xlp l a).isSome) (br (decide (0+xiA l a<=(xll l a).length)&&(decide (0+xlm l a<=(xlk l a).length)&&true)) (κ (List.take (xiA l a) (List.drop 0 (xll l a)),List.take (xlm l a) (List.drop 0 (xlk l a)))) δ) δ) δ) δ) δ) δ) δ
def xbr (l a:LA):=xjm l a none some
theorem xtA (l a:LA):Enc (fun (p:LA×LA)=>((AV.tuple [AV.list 1 p.1,AV.list 3 p.2]):AV)) (xbr l a) (XF P0 xcT Tryz.f18 (Tryz.f18.body.getD .skip) [AV.list 9 l,AV.list 3 a]):=by
 have h:XF P0 xcT Tryz.f18 (Tryz.f18.body.getD .skip) [AV.list 9 l,AV.list 3 a]=xjm l a none (fun (p:LA×LA)=>some ((AV.tuple [AV.list 1 p.1,AV.list 3 p.2]):AV)):=by kernel_rfl
 rw [h];unfold xbr xjm;repeat' (first|refine Enc.br ?_ ?_|exact Enc.none|exact Enc.some rfl)
def xtz:LA->Option (Bool×AV):=ocOf (xHW (xIa 9 xHZ) (xHW (xIa 3 xHZ) xHY)) fun (l,(a,_))=>((xbr l a).isSome,(AV.tuple [AV.list 1 ((xbr l a).getD ([],[])).1,AV.list 3 ((xbr l a).getD ([],[])).2]))
theorem xty:OcOk P0 xHU 18 (xtz):=xlT fun c g e=>by
 obtain ⟨l,⟨f,_⟩⟩:=c;obtain ⟨a,b⟩:=Prod.mk.inj e;refine xiC (p:=xcT.pin) (xlR xHl (xHm P0 _) rfl xrl Tryz.func18 rfl (by kernel_rfl) xqs ((xtA _ _ _ (xcr (d:=([],[])) a)).trans ?_))
 exact congrArg some b
def xEG:EO:=xrs.w xty
def xpc {T:Type} (l a:LA) (δ:T) (κ:Int->T):T:=br ((xbr l a).isSome) (κ (i64.wrap ((↑((xbr l a).getD ([],[])).fst.length:Int)+(↑((xbr l a).getD ([],[])).snd.length:Int)))) δ
def xqJ (l a:LA):=xpc l a none some
def xEH:EO:=xEG.f Tryz.func21 18 0 [] [] lk0 (u2 (uL 9) (uL 3)) (fun (l,a,_) _=>xpc l a) (fun _ p=>AV.int .i64 p) 0
def xp0 {T:Type} (l:LA) (δ:T) (κ:Bool->T):T:=br ((xkQ l).isSome) (br ((xlW ((xkQ l).getD []) 16).isSome) (κ ((xlW ((xkQ l).getD []) 16).getD false)) δ) δ
def xpQ (l:LA):=xp0 l none some
def xAM:EO:=xEH.f Tryz.func9 6 0 [] [] lk0 (u1 (uL 9)) (fun (l,_) _=>xp0 l) (fun _ p=>AV.bool p) false
def xgj {T:Type} (a b:LA) (i:Int) (δ:T) (κl:(Int)->T) (κr:(Bool×(Bool)×(Unit))->T):T:=br (decide (i<a.length)) (br (ixI a i) (br (ixS a i (Sh.int .i64) 0) (br (ixI b i) (br (ixS b i (Sh.int .i64) 0) (br ((gC a i 0).toInt != (gC b i 0).toInt) (κr (true,(false),())) (κl (i64.wrap (i+1)))) δ) δ) δ) δ) (κr (false,false,()))
def xbP (a b:LA):StT (Int) (Bool×(Bool)×(Unit)):=fun (i)=>xgj a b i none inL inR
def xmk:=xAM.l 26 0 [] [] Tryz.f20 0 lk0 [0,1,5] [4] [] (q3 (qL 1) (qL 1) qI) xHX (fun (a,b,i,_) _=>(xbP a b,(i),fun p=>(.node p.1 (.leaf .ret [AV.bool p.2.1] []) (.leaf (.exit 0) [.top] [])))) (false,false,()) fun (a,b,_,_) _ (i)=>(((a,b,i,()),()),xgj a b i none)
def xlu {T:Type} (a b:LA) (δ:T) (κ:Bool->T):T:=br ((↑a.length:Int) != (↑b.length:Int)) (κ (false)) (br ((Iter (xbP a b) 0).isSome) (br (((Iter (xbP a b) 0).getD (false,false,())).fst) (κ (((Iter (xbP a b) 0).getD (false,false,())).snd.fst)) (κ (true))) δ)
def xnp (a b:LA):=xlu a b none some
def xAN:EO:=xAM.f Tryz.func20 26 0 [] [(4,xmk.lp)] (lk1 xmk.ok) (u2 (uL 1) (uL 1)) (fun (a,b,_) _=>xlu a b) (fun _ p=>AV.bool p) false
end Go.Sim.M
end
noncomputable section
set_option maxRecDepth 100000
namespace Go.Sim
def stepX (P:Program) (E:Env) (live liveO:List Nat) (conv:List (Nat×Nat×TypeId)) (c:Code) (s:List AV×List Box):Option ((List AV×List Box)⊕{r:Exit×List AV×List Box // r.1≠.normal}) :=
 match XR P E live liveO conv c s.1 s.2 with
 | some (.normal,v,H)=>some (.inl (v,H))
 | some (.exit i,v,H)=>some (.inr ⟨(.exit i,v,H),by simp⟩)
 | some (.ret,v,H)=>some (.inr ⟨(.ret,v,H),by simp⟩)
 | _=>none
def closedLp (P:Program) (E:Env) (live liveO:List Nat) (conv:List (Nat×Nat×TypeId)) (c:Code) (n:Nat):Lp:=⟨live,liveO,conv,fun vals H =>
 match iterN (stepX P E live liveO conv c) n (vals,H) with
 | some r=>some (true,.leaf r.1.1 r.1.2.1 r.1.2.2)
 | none=>none⟩
theorem xsp {P:Program} {Inv:IV} {E:Env} (J:P.follows .mixedOrders=true) (Q:InvOk Inv) (q:Inv.pin=E.pin) (O:xHc P Inv E) {c:Code} (U:LoOk P Inv E c) {live liveO:List Nat} {conv:List (Nat×Nat×TypeId)} {n:Nat} :
  LoopOk P Inv E.nt c (closedLp P E live liveO conv c n):=fun vals H r h=>by
 simp only [closedLp] at h;split at h
 case h_2=>simp at h
 rename_i r0 hr;simp only [z6,zb,true_and] at h;subst h;exact xtN J Q q O U (σ:=List AV×List Box) (ρ:={r:Exit×List AV×List Box // r.1≠.normal}) (step:=stepX P E live liveO conv c) (fun s=>s) (fun r=>.leaf r.1.1 r.1.2.1 r.1.2.2) (fun r=>r.2)
  (fun s r hs=>by
   unfold stepX at hs;split at hs<;>simp only [z6,reduceCtorEq] at hs;all_goals (subst hs;rename_i hx;exact hx)) (s:=(vals,H)) (r:=r0) (xno.2 ⟨n,hr⟩)
end Go.Sim
end
noncomputable section
set_option maxRecDepth 100000
namespace Go.Sim.M
open Go.RowKit Go.Proofs
def mmA (g:FuncId):Bool:=([123,125,
 114,138,151,
 90,112,128,
 110,127,144,
 49,76,95,
 116,89,122,100,47]:List Nat).contains g
noncomputable def EA0:Env:={ E0 with ls:=lsOf [54,60,124,58],fuel:=1000 }
theorem xvK:xHc P0 xHU EA0:=xDf
noncomputable def runA (E:Env) (fn:Func):List AV->Option (Bool×AV):=fun xs=>match XF P0 E fn (fn.body.getD .skip) xs with
 | some r=>some (true,r)
 | none=>none
theorem xqA {E:Env} {f:FuncId} {fn:Func} (O:xHc P0 (xHU.at 0) E) (J:E.pin=0) (hf:P0.funcs[f]?=some fn) (hb:fn.body.isSome=true) (q:(fn.name == "runtime.NumGoroutine")=false) (Q:LoOk P0 (xHU.at 0) E (fn.body.getD .skip)):OcOk P0 xHU f (runA E fn):=fun xs r h=>by
 unfold runA at h;split at h
 case h_2=>simp at h
 rename_i r0 hr;simp only [z6,zb,true_and] at h;subst h;exact xiC (p:=0) (xlR xHl (xHm P0 _) J.symm O hf hb q Q hr)
noncomputable def EAr:Env:={ Env.deep P0 mmA EA0 10 with pin:=0,nt:=60,ls:=lsOf [] }
theorem xAH:xHc P0 (xHU.at 0) EAr:=xkn xHl mmA (xHm P0 0) xvK (fun _=>rfl) 10
noncomputable def xAG:Lp:=closedLp P0 EAr [3,4,11,12,13] [4] [(4,2,240654483580)] (xHg Tryz.f88 0) 100
noncomputable def EAr1:Env:={ EAr with lp:=xHz [(xHq (xHg Tryz.f88 0),xAG)] }
theorem xDv:xHc P0 (xHU.at 0) EAr1:=xAH
noncomputable def xzt:List AV->Option (Bool×AV):=runA EAr1 Tryz.f88
theorem xEc:OcOk P0 xHU 88 xzt:=xqA xDv rfl Tryz.func88 rfl (by kernel_rfl) (xlv (ls:=[xHg Tryz.f88 0]) (by kernel_rfl) (fun l hl lp hs=>by
 simp only [zC,List.not_mem_nil,or_false] at hl;subst hl;rw [show EAr1.lp (xHq (xHg Tryz.f88 0))=some xAG by kernel_rfl] at hs
 cases hs;exact xsp (E:=EAr) xHl (xHm P0 _) rfl xAH (xjN fun _=>rfl)))
noncomputable def EAlv (p:Nat):Env:={ Env.deep P0 mmA EA0 6 with pin:=p,nt:=71,ls:=lsOf [] }
theorem xyQ (p:Nat):xHc P0 (xHU.at p) (EAlv p):=xlV (xkn xHl mmA (xHm P0 0) xvK (fun _=>rfl) 6)
noncomputable def xyP (p:Nat):Lp:=closedLp P0 (EAlv p) [0,1,2,3,4] [] [(3,0,0)] (xHg Tryz.f89 0) 100
noncomputable def EAlv1 (p:Nat):Env:={ EAlv p with lp:=xHz [(xHq (xHg Tryz.f89 0),xyP p)] }
theorem xCe (p:Nat):xHc P0 (xHU.at p) (EAlv1 p):=xyQ p
noncomputable def xwo:List AV->List Box->Option (Bool×AV×List Box):=fun xs H=>match XFM P0 (EAlv1 H.length) Tryz.f89 (Tryz.f89.body.getD .skip) xs H with
 | some (r,H')=>some (true,r,H')
 | none=>none
theorem xFd:OmOk P0 xHU 89 xwo:=fun xs H r H' h=>by
 unfold xwo at h;split at h
 case h_2=>simp at h
 rename_i r0 H0 hr;simp only [z6,zb,true_and] at h;obtain ⟨rfl,rfl⟩:=h;refine xgH (p:=H.length) (xis xHl (xHm P0 _) rfl (xCe H.length) rfl Tryz.func89 rfl (by kernel_rfl) (xlv (ls:=[xHg Tryz.f89 0,xHg Tryz.f89 1]) (by kernel_rfl) (fun l hl lp hs=>?_)) hr)
 simp only [zC,List.not_mem_nil,or_false] at hl;rcases hl with rfl|rfl
 . rw [show (EAlv1 H.length).lp (xHq (xHg Tryz.f89 0))=some (xyP H.length) by kernel_rfl] at hs
   cases hs;exact xsp (E:=EAlv H.length) xHl (xHm P0 _) rfl (xyQ H.length) (xjN fun _=>rfl)
 . rw [show (EAlv1 H.length).lp (xHq (xHg Tryz.f89 1))=none by kernel_rfl] at hs
   simp at hs
noncomputable def EAs:Env:=(EA0.with 88 xzt).withM 89 xwo
theorem xAI:xHc P0 xHU EAs:=(xvK.with xEc).withM xFd
noncomputable def EAd:Env:={ Env.deep P0 mmA EAs 14 with pin:=0 }
theorem xvL:xHc P0 (xHU.at 0) EAd:=xlV (xkn xHl mmA (xHm P0 0) xAI (fun _=>rfl) 14)
noncomputable def EAf:Env:={ EAd with nt:=18,ls:=lsOf [],lp:=xHz [(3000004,xnl)] }
theorem xEy:xHc P0 (xHU.at 0) EAf:=xvL
noncomputable def xuP:List AV->Option (Bool×AV):=runA EAf Tryz.f12
theorem xBg:OcOk P0 xHU 12 xuP:=xqA xEy rfl Tryz.func12 rfl (by kernel_rfl) (xse (ls:=[]) (by kernel_rfl) (fun l hl=>by simp at hl) (lp0:=xnl) xtB (by kernel_rfl))
noncomputable def EAg:Env:={ EAd with nt:=16,ls:=lsOf [],lp:=xHz [(3000003,xoq)] }
theorem xEz:xHc P0 (xHU.at 0) EAg:=xvL
noncomputable def xy9:List AV->Option (Bool×AV):=runA EAg Tryz.f78
theorem xDS:OcOk P0 xHU 78 xy9:=xqA xEz rfl Tryz.func78 rfl (by kernel_rfl) (xse (ls:=[]) (by kernel_rfl) (fun l hl=>by simp at hl) (lp0:=xoq) xuv (by kernel_rfl))
noncomputable def EAb:Env:={ EAd with nt:=67,ls:=lsOf [58],lp:=xHz [(3000007,xdW)] }
theorem xEv:xHc P0 (xHU.at 0) EAb:=xvL
noncomputable def xyY:List AV->Option (Bool×AV):=runA EAb Tryz.f18
theorem xDJ:OcOk P0 xHU 18 xyY:=xqA xEv rfl Tryz.func18 rfl (by kernel_rfl) (xse (ls:=[xHg Tryz.f18 0,xHg Tryz.f18 1]) (by kernel_rfl) (fun l hl lp hs=>by
 simp only [zC,List.not_mem_nil,or_false] at hl;rcases hl with rfl|rfl
 . rw [show EAb.lp (xHq (xHg Tryz.f18 0))=none by kernel_rfl] at hs
   simp at hs
 . rw [show EAb.lp (xHq (xHg Tryz.f18 1))=none by kernel_rfl] at hs
   simp at hs) (lp0:=xdW) xoS (by kernel_rfl))
noncomputable def EAt:Env:=((EAs.with 12 xuP).with 78 xy9).with 18 xyY
theorem xAJ:xHc P0 xHU EAt:=((xAI.with xBg).with xDS).with xDJ
noncomputable def EAtd:Env:={ Env.deep P0 mmA EAt 14 with pin:=0 }
theorem xyR:xHc P0 (xHU.at 0) EAtd:=xlV (xkn xHl mmA (xHm P0 0) xAJ (fun _=>rfl) 14)
noncomputable def EAa:Env:={ EAtd with ls:=lsOf [4000054,58,5000030,6000009] }
noncomputable def xvV:List AV->Option (Bool×AV):=runA EAa Tryz.f22
theorem xCh:OcOk P0 xHU 22 xvV:=xqA (E:=EAa) xyR rfl Tryz.func22 rfl (by kernel_rfl) (xjN fun _=>rfl)
noncomputable def EAo:Env:={ EAtd with ls:=lsOf [4000054] }
noncomputable def xzA:List AV->Option (Bool×AV):=runA EAo Tryz.f26
theorem xEs:OcOk P0 xHU 26 xzA:=xqA (E:=EAo) xyR rfl Tryz.func26 rfl (by kernel_rfl) (xjN fun _=>rfl)
noncomputable def EAv:Env:={ (EAt.with 22 xvV).with 26 xzA with ls:=EA0.ls }
theorem xEA:xHc P0 xHU EAv:=(xAJ.with xCh).with xEs
noncomputable def EAe:Env:={ Env.deep P0 mmA EAv 14 with pin:=0 }
theorem xEw:xHc P0 (xHU.at 0) EAe:=xlV (xkn xHl mmA (xHm P0 0) xEA (fun _=>rfl) 14)
theorem xDH:XF P0 EAe Tryz.f10 (Tryz.f10.body.getD .skip) []=some (.bool true):=by kernel_rfl
def xut:List AV->Option (Bool×AV)
 | []=>some (true,.bool true)
 | _=>none
theorem xDG:OcOk P0 xHU 10 xut:=fun xs r h=>by
 unfold xut at h;split at h
 . simp only [z6,zb,true_and] at h;subst h;exact xiC (p:=0) (xlR xHl (xHm P0 _) rfl xEw Tryz.func10 rfl (by kernel_rfl) (xjN fun _=>rfl) xDH)
 . simp at h
noncomputable def EEW:Env:=xAN.E.with 10 xut
theorem xEB:xHc Tryz.prog xHU EEW:=xAN.ok.with xDG
end Go.Sim.M
end
noncomputable section
set_option maxRecDepth 100000
namespace Go.Sim.M
open Go.IntKind (i64 u64 u8)
open Go.RowKit Go.Proofs
def xhM (l a:LA):=xjr ((xbr l a).getD ([],[])).snd ((xez l a).getD ([],[])).snd
def xhN (l a:LA):=xnp ((xbr l a).getD ([],[])).fst ((xez l a).getD ([],[])).fst
def xiD {T:Type} (l a:LA) (δ:T) (κ:Bool->T):T:=br ((xpQ l).isSome) (br (!(xpQ l).getD false) (κ (true)) (br ((xlW a 16).isSome) (br (!(xlW a 16).getD false) (κ (true)) (br ((xnY l).isSome) (br (!(xnY l).getD false) (κ (true)) (br ((xbr l a).isSome) (br ((xez l a).isSome) (br ((xhN l a).isSome) (br ((xhN l a).getD false) (br ((xhM l a).isSome) (br ((xhM l a).getD false) (br ((xqJ l a).isSome) (br ((xqJ l a).getD 0==i64.wrap ((↑((xez l a).getD ([],[])).fst.length:Int)+(↑((xez l a).getD ([],[])).snd.length:Int))) (κ (true)) (κ (false))) δ) (κ (false))) δ) (κ (false))) δ) δ) δ)) δ)) δ)) δ
def xjL (l a:LA):=xiD l a none some
def xqQ:LA->Option (Bool×AV):=fnO (u2 (uL 9) (uL 3)) (fun (l,a,_) _=>xiD l a) (fun _ p=>AV.bool p) false
theorem xqP:OcOk P0 xHU 4 xqQ:=fnC xEB Tryz.func4 57 0 [] [] lk0
end Go.Sim.M
end
