/- Part 14 of the proof of the law. -/
import Derived.Test.YtckgiglpmfpagaaGreatDoorQU13
import Derived.RangeFuncSeq
set_option linter.unusedVariables false
set_option linter.unusedSimpArgs false
set_option linter.unnecessarySimpa false
set_option maxRecDepth 100000
noncomputable section
namespace Go.Sim
open Go.RowKit
theorem Ev.mv {w w':World} {A A':Nat->Prop} {M M':Id->Option MB} {B n:Nat} {H:List Box} {av:Nat->Prop} (hR:HR w A M B H) (he:Ev ⟨av,w,A,M,n⟩ w' A' M') (hn:H.length<=n):Mv w A M w' A' M' :=
 ⟨he.size,fun b hb hA=>he.keep b hb (.inl hA),he.less,he.more,fun id m hm=>he.ids id m (by
  obtain ⟨bx,h1,_⟩:=hR.box id m hm;exact Nat.lt_of_lt_of_le (xc4 h1) hn) hm,⟨fun b hb q=>he.keep b hb (.inr q),he.src⟩⟩
theorem Ev.over {av V:Nat->Prop} {W W2 W2b W3 W3b:World} {A1 A2 A3:Nat->Prop} {M1 M2 M3:Id->Option MB} {n l:Nat} (h1:Ev ⟨av,W,A1,M1,n⟩ W2 A2 M2) (h2:Ev ⟨V,W2b,A2,M2,n⟩ W3 A3 M3)
  (hb:∀ b,b≠l->W2b.heap[b]?=W2.heap[b]?) (hs:W2b.heap.size=W2.heap.size) (h3:∀ b,b≠l->W3b.heap[b]?=W3.heap[b]?) (Z:W3b.heap.size=W3.heap.size) (hl:W3b.heap[l]?=W.heap[l]?):Ev ⟨av,W,A1,M1,n⟩ W3b A3 M3:=by
 have hsz:W.heap.size<=W2.heap.size:=h1.size;have Y:W2b.heap.size<=W3.heap.size:=h2.size;have out:∀ b,b<W.heap.size->(∀ id m,M1 id=some m->0<m.cap->m.b≠b)->∀ id m,M2 id=some m->0<m.cap->m.b≠b:=fun b hb O id m hi h0 e=>by
  rcases h1.src id m hi h0 with ⟨i,m1,e1,e2,e3⟩|e1
  . exact O i m1 e1 e2 (by rw [<-e3,e])
  . simp only at e1;omega
 refine ⟨?_,fun b q J=>?_,fun b q hA=>?_,fun b q hA O=>?_,fun id m hi hm=>?_,fun id m' hi h0=>?_⟩
 . show W.heap.size<=W3b.heap.size;omega
 . simp only at q J |-;by_cases Q:b=l
   . rw [Q,hl]
   . have U:W3.heap[b]?=W2b.heap[b]?:=h2.keep b (by simp only [];omega) (by
      rcases J with J|J
      . exact .inl fun h=>J (h1.less b q h)
      . exact .inr (out b q J))
     rw [h3 b Q,U,hb b Q];exact h1.keep b q J
 . simp only at q;exact h1.less b q (h2.less b (by simp only [];omega) hA)
 . simp only at q hA O;exact h2.more b (by simp only [];omega) (h1.more b q hA O) (out b q O)
 . obtain ⟨m1,e1,e2⟩:=h1.ids id m hi hm;obtain ⟨m2,e3,e4⟩:=h2.ids id m1 hi e1;refine ⟨m2,e3,?_⟩;rcases e2 with rfl|e2<;>rcases e4 with rfl|e4
   . exact .inl rfl
   . exact .inr e4
   . exact .inr e2
   . exact .inr (Nat.lt_trans e2 e4)
 . rcases h2.src id m' hi h0 with ⟨i,m1,e1,e2,e3⟩|e1
   . rcases h1.src i m1 e1 e2 with ⟨i2,m2,g1,g2,g3⟩|g1
     . exact .inl ⟨i2,m2,g1,g2,by rw [e3,g3]⟩
     . exact .inr (by rw [e3];exact g1)
   . simp only at e1;exact .inr (by show W.heap.size<=_;omega)
theorem SR.grow {w0 w w':World} {A0:Cx} {A:Nat->Prop} {M:Id->Option MB} {s:St} {a:Act} (h:SR w0 A0 w A M s a) (hb:Below w.heap.size w w'):SR w0 A0 w' A M s a :=
 ⟨
  h.base.trans (hb.mono h.base.size),h.outer,h.size,fun t ht=>(h.tmps t ht).grow hb,h.heap.grow hb,h.defers.same fun D hD=>hb.block D (xaI hD),
  h.ev.step ⟨hb.size,fun b q _=>hb.block b q,fun _ _ h=>h,fun _ _ h _=>h,MExt.refl M,.of_new hb fun _ _ h=>.inl h⟩⟩
def IterC (P:Program) (Inv:IV) (fo:FuncId) (cl:AV) (xs:List AV) (op:AV->Bool):Prop :=
 Enters P fo/\∀ (w:World) (A:Nat->Prop) (lv:Value),Rel w A xp6 lv cl->∀ (l:Nat) (J:List AV->(Nat->Prop)->World->Prop) (Jx:List AV->World->Prop),
  (∀ pre A W W',J pre A W->Below W.heap.size W W'->J pre A W')->(∀ pre W W',Jx pre W->Below W.heap.size W W'->Jx pre W') ->
  (∀ pre A W,J pre A W->Inv W/\∀ b,A b->b<W.heap.size)->(∀ pre W,Jx pre W->Inv W) ->
  (∀ pre v x suf A W,pre++x::suf=xs.filter op->J pre A W->Rel W A xp6 v x->YieldAt Fence.wide 0 P l #[v] W fun e W' =>
   (e=.returned (.bool true)/\∃ A',J (pre++[x]) A' W'/\W.heap.size<=W'.heap.size/\(∀ b,b<W.heap.size->A' b->A b)/\∀ b,b<W.heap.size->¬ A b->W'.heap[b]?=W.heap[b]?) \/
   (e=.returned (.bool false)/\Jx (pre++[x]) W')) ->
  J [] A w->CallsIn Fence.wide 0 P fo #[.func (.yield l) #[] #[],lv] w fun e W'=>(∃ v,e=.returned v)/\((∃ A',J (xs.filter op) A' W')\/∃ pre suf,pre++suf=xs.filter op/\Jx pre W')
def stepS {σ ρ:Type} (step:σ->AV->σ⊕ρ):σ⊕ρ->AV->σ⊕ρ
 | .inl s,x=>step s x
 | .inr r,_=>.inr r
theorem xgG {σ ρ:Type} (step:σ->AV->σ⊕ρ) (r:ρ):∀ l:List AV,l.foldl (stepS step) (.inr r)=.inr r
 | []=>rfl
 | x::l=>by simp only [List.foldl_cons,stepS];exact xgG step r l
theorem xmE {L L':List Nat} (h:L.map rmark=L'.map rmark):L=L':=by
 induction L generalizing L' with
 | nil=>cases L'<;>simp_all
 | cons D L ih =>
  cases L' with
  | nil=>simp at h
  | cons D' L' =>
   simp only [zV,List.cons.injEq,rmark,Deferred.mk.injEq,Target.collected.injEq,and_true] at h;obtain ⟨rfl,h⟩:=h;rw [ih h]
theorem xgE {P:Program} {Inv:IV} (a5:InvOk Inv) (ba:Inv.top=true) {fo:FuncId} {cl:AV} {xs:List AV} {op:AV->Bool} {g:Operand} {p:Tmp} {U Y:Code} {T:List AV} {n:Nat} {σ ρ:Type}
  (Hs:σ->List Box) (Ho:ρ->List Box) (step:σ->AV->σ⊕ρ) (aj:∀ s,(Hs s).length=n) {s0:σ} (hit:IterC P Inv fo cl xs op) (bb:cl.pure=true) (hg:St.eval ⟨T,Hs s0⟩ g=.func fo [cl])
  (ah:∀ pre s x ag,pre++x::ag=xs.filter op->pre.foldl (stepS step) (.inl s0)=.inl s->Does P ⟨Inv.inv,n,false⟩ U (fun e s1=>e=.normal/\Does P ⟨Inv.inv,n,false⟩ Y (fun e s'=>match step s x with
   | .inl s2=>e=.normal/\∃ T',Weak n s' ⟨T',Hs s2⟩
   | .inr r=>e=.ret/\∃ T',Weak n s' ⟨T',Ho r⟩) s1) ⟨T.set p x,Hs s⟩) :
  Does P Inv (.rangeFunc g #[p] U Y) (fun e s'=>match (xs.filter op).foldl (stepS step) (.inl s0) with
   | .inl s=>e=.normal/\s'=⟨T,Hs s⟩
   | .inr r=>e=.ret/\s'=⟨T,Ho r⟩) ⟨T,Hs s0⟩:=by
 intro w0 A0 w A M a Qc hI bw hs hQ ro ao;have ao:=ao ba;subst ao;rw [xlN];have a9:=hs.eval g;rw [hg] at a9;obtain ⟨cv,bp,bo,bc⟩:=a9.func_inv;have bj:∃ lv,cv=#[lv]:=by
  obtain ⟨l⟩:=cv;match l,bo with
  | [lv],_=>exact ⟨lv,rfl⟩
 obtain ⟨lv,rfl⟩:=bj;have a4:Rel w A xp6 lv cl:=by
  have:=bc 0 (by simp)
  exact (show Rel w A M lv cl by simpa using this).pure bb
 have b1:=hs.heap.lt;obtain ⟨L0,a8,b0,ax⟩:=hs.defers;refine wpIn_rangeFunc ?_;intro fn bz;obtain ⟨q,O⟩:∃ q:LoopState->Option Code->Loop,q=fun st pe=>{ state:=st,pending:=pe,fn:=fn,tmps:=a.tmps,params:=#[p],assign:=U,body:=Y,defers:=w.heap.size }:=⟨_,rfl⟩
 obtain ⟨W1,ae⟩:∃ W1,(w.alloc (.deferred (some []))).alloc (.loop (q .ready none))=W1:=⟨_,rfl⟩;have bv:W1.heap[w.heap.size+1]?=some (.loop (q .ready none)):=by
  rw [<-ae];have:=World.alloc_heap_new (w.alloc (.deferred (some []))) (.loop (q .ready none));rwa [World.size_alloc] at this
 have be:W1.heap[w.heap.size]?=some (.deferred (some [])):=by
  rw [<-ae];exact (Below.heap_alloc _ _ _ (by simp)).trans (World.alloc_heap_new w _)
 have ap:Below w.heap.size w W1:=by
  rw [<-ae];exact ((Below.refl _ w).alloc (zd _) _).alloc (by simp) _
 have bn:w0.heap.size<=w.heap.size:=hs.base.size;have bu:A0.w1.heap.size<=w.heap.size:=hs.ev.size;let J:List AV->(Nat->Prop)->World->Prop:=fun pre A' W=>∃ s,pre.foldl (stepS step) (.inl s0)=.inl s/\(∃ M',SR w0 A0 W A' M' ⟨T,Hs s⟩ a)/\w.heap.size<=W.heap.size /\
  W.heap[w.heap.size+1]?=some (.loop (q .ready none))/\W.heap[w.heap.size]?=some (.deferred (some []))
 let Jx:List AV->World->Prop:=fun pre W=>∃ r,pre.foldl (stepS step) (.inl s0)=.inr r/\(∃ A' M',SR w0 A0 W A' M' ⟨T,Ho r⟩ a) /\
  W.heap[w.heap.size+1]?=some (.loop (q .done (some .ret)))/\W.heap[w.heap.size]?=some (.deferred (some []))
 have am:∀ (W:World) (A':Nat->Prop) (M':Id->Option MB) (s:St) (o:Loop),SR w0 A0 W A' M' s a->W.heap[w.heap.size+1]?=some (.loop o)->W.heap[w.heap.size]?=some (.deferred (some [])) ->
   ∀ o':Loop,SOk w0 A0 s { a with defers:=[rmark w.heap.size]++a.defers } (W.putObj (w.heap.size+1) (.loop o')):=fun W A' M' s o h h1 h2 o'=>by
  refine ⟨A',M',h.turn (o':=.loop o') h1 ⟨by simp,by simp⟩ (by omega) (by omega) ?_⟩
  have hne:∀ D,D∈L0->D≠w.heap.size:=fun D hD e=>by
   have:=xaI (ax D hD).2.2;omega
  obtain ⟨L',e1,e2,e3⟩:=h.defers;have:L'=L0:=xmE (e1.symm.trans a8);subst this;refine ⟨w.heap.size::L',by rw [a8];rfl,List.nodup_cons.2 ⟨fun hm=>hne _ hm rfl,e2⟩,fun D hD=>?_⟩
  rcases zC.1 hD with rfl|hD
  . exact ⟨bn,.inr bu,by rw [World.putObj_heap_other (by omega)];exact h2⟩
  . refine ⟨(e3 D hD).1,(e3 D hD).2.1,?_⟩;have:=xaI (ax D hD).2.2;rw [World.putObj_heap_other (by omega)];exact (e3 D hD).2.2
 refine ⟨w.heap.size+1,[{ target:=.collected w.heap.size,args:=#[] }],W1,{ target:=.fn (.func fo) #[lv],args:=#[.func (.yield (w.heap.size+1)) #[] #[]] },W1,fo,
  #[.func (.yield (w.heap.size+1)) #[] #[]]++#[lv],W1,?_,?_,fun _ _=>trivial,?_,fun h=>by simp [Fence.wide] at h,?_⟩
 . rw [<-ae,O];exact run_enterLoop_outer _ _ _ _ _
 . simp only [Go.resolve,bp];simp [go_sem]
 . simp [invoke,go_sem,xda hit.1]
 . refine (hit.2 W1 A lv (a4.grow ap) (w.heap.size+1) J Jx ?_ ?_ ?_ ?_ ?_ ?_).mono ?_
   . rintro pre A' W W' ⟨s,h1,⟨M',h2⟩,h4,h5,h6⟩ hb;exact ⟨s,h1,⟨M',h2.grow hb⟩,Nat.le_trans h4 hb.size,by rw [hb.block _ (xaI h5)];exact h5,by rw [hb.block _ (xaI h6)];exact h6⟩
   . rintro pre W W' ⟨r,h1,⟨A',M',h2⟩,h5,h6⟩ hb;exact ⟨r,h1,⟨A',M',h2.grow hb⟩,by rw [hb.block _ (xaI h5)];exact h5,by rw [hb.block _ (xaI h6)];exact h6⟩
   . rintro pre A' W ⟨s,h1,⟨M',h2⟩,h4,h5,h6⟩;exact ⟨a5.below _ _ hI h2.base,h2.heap.lt⟩
   . rintro pre W ⟨r,h1,⟨A',M',h2⟩,h5,h6⟩;exact a5.below _ _ hI h2.base
   ·
    rintro pre v x ag A' W hx ⟨s,h1,⟨M',h2⟩,h4,h5,h6⟩ bg;have a6:=xaI h5;have hy:=run_yield (P:=P) (args:=#[v]) h5 (by rw [O];rfl)
    rw [O] at hy;have hz:(#[p].zip #[v]).foldl (fun tmps (x:Tmp×Value)=>tmps.setIfInBounds x.1 x.2) a.tmps=a.tmps.setIfInBounds p v:=by simp
    refine ⟨fn,_,U,Y,hy,roundIn_of_wpIn trivial ?_⟩;show Code.wpIn (Fence.wide.inRound (w.heap.size+1)) 0 P U _ { tmps:=(#[p].zip #[v]).foldl (fun tmps (x:Tmp×Value)=>tmps.setIfInBounds x.1 x.2) a.tmps,defers:=[] } _
    rw [hz];obtain ⟨av,ay⟩:∃ av:Nat->Prop,av=fun b=>b<w0.heap.size->A0.av b:=⟨_,rfl⟩
    have a0:∀ b,w0.heap.size<=b->av b:=fun b hb=>by rw [ay];intro h;omega
    have al:∀ b,b<w0.heap.size->(av b↔A0.av b):=fun b hb=>by rw [ay];exact ⟨fun h=>h hb,fun h _=>h⟩
    obtain ⟨p1,p2⟩:=xgS (d:=some p) h2.size h2.tmps (bg.lift M');have bi:SR w0 ⟨av,W,A',M',n⟩ W A' M' ⟨T.set p x,Hs s⟩ { tmps:=a.tmps.setIfInBounds p v,defers:=[] } :=
     ⟨h2.base,fun b hb=>(h2.outer b hb).trans (al b hb).symm,p1,p2,h2.heap,DefOk.nil,Ev.refl (C:=⟨av,W,A',M',n⟩)⟩
    refine ah pre s x ag hx h1 w0 ⟨av,W,A',M',n⟩ W A' M' _ _ hI (zd n) bi ?_ (some (w.heap.size+1)) (fun h=>by simp at h)
    rintro e s1 a1 w1 ⟨rfl,aw⟩ ⟨A1,M1,Q⟩;have ak:=Q.ev.mv h2.heap (by rw [aj];exact zd n)
    have aa:w1.heap[w.heap.size+1]?=some (.loop (q .ready none)):=by rw [ak.touch.1 _ a6 (h2.heap.not_box h5 (by simp) (by simp))];exact h5
    have an:w1.heap[w.heap.size]?=some (.deferred (some [])):=by rw [ak.touch.1 _ (xaI h6) (h2.heap.not_box h6 (by simp) (by simp))];exact h6
    refine ⟨_,run_beginRound aa (by rw [O]),?_⟩
    have aq:(Obj.loop { q .ready none with state:=.busy })=.loop (q .busy none):=by rw [O]
    rw [aq];obtain ⟨w2,V⟩:∃ w2,w2=w1.putObj (w.heap.size+1) (.loop (q .busy none)):=⟨_,rfl⟩;rw [<-V];have ac:w2.heap.size=w1.heap.size:=by rw [V];simp
    have a7:w2.heap[w.heap.size+1]?=some (.loop (q .busy none)):=by rw [V];exact World.putObj_heap_same (xaI aa)
    have au:∀ b,b≠w.heap.size+1->w2.heap[b]?=w1.heap[b]?:=fun b hb=>by rw [V];exact World.putObj_heap_other hb
    have bq:SR w0 ⟨av,w2,A1,M1,n⟩ w2 A1 M1 s1 a1:=by
     refine ⟨by rw [V];exact xfz Q.base (by omega) _,Q.outer,Q.size,fun t ht=>?_,by rw [V];exact Q.heap.turn aa ⟨by simp,by simp⟩ _,?_,Ev.refl (C:=⟨av,w2,A1,M1,n⟩)⟩
     . rw [V];exact (Q.tmps t ht).turn (by simp) (xfa aa ⟨by simp,by simp⟩)
     . obtain ⟨L,e1,e2,e3⟩:=Q.defers;refine ⟨L,e1,e2,fun D hD=>⟨(e3 D hD).1,.inl (a0 _ (by have:=Q.base.size;rw [ac];omega)),?_⟩⟩
       rw [au D (fun e=>by have:=(e3 D hD).2.2;rw [e,aa] at this;simp at this)];exact (e3 D hD).2.2
    refine aw w0 ⟨av,w2,A1,M1,n⟩ w2 A1 M1 a1 _ hI (zd n) bq ?_ (some (w.heap.size+1)) (fun h=>by simp at h)
    have ad:∀ (s':St) (a3:Act) (W3:World) (T':List AV) (H':List Box),Weak n s' ⟨T',H'⟩->SOk w0 ⟨av,w2,A1,M1,n⟩ s' a3 W3 ->
      ∃ A3 M3,SR w0 A0 (W3.putObj (w.heap.size+1) (.loop (q .ready none))) A3 M3 ⟨T,H'⟩ a/\Mv W A' M' (W3.putObj (w.heap.size+1) (.loop (q .ready none))) A3 M3 /\
       W3.heap[w.heap.size+1]?=some (.loop (q .busy none))/\W3.heap[w.heap.size]?=some (.deferred (some [])):=by
     rintro s' a3 W3 T' H' hw ⟨A2,M2,az⟩;obtain ⟨A3,M3,Z⟩:=hw w0 _ W3 A2 M2 a3 (zd n) az;have bf:=Q.heap.not_box aa (by simp) (by simp)
     have ar:W3.heap[w.heap.size+1]?=some (.loop (q .busy none)):=by rw [Z.ev.keep _ (xaI a7) (.inr bf)];exact a7
     have bm:W3.heap[w.heap.size]?=some (.deferred (some [])):=by
      rw [Z.ev.keep _ (by show w.heap.size<w2.heap.size;rw [ac];exact xaI an) (.inr (Q.heap.not_box an (by simp) (by simp)))]
      show w2.heap[w.heap.size]?=_;rw [au _ (by omega)];exact an
     have bt:Ev ⟨av,W,A',M',n⟩ (W3.putObj (w.heap.size+1) (.loop (q .ready none))) A3 M3:=by
      refine Ev.over Q.ev Z.ev (l:=w.heap.size+1) au (by rw [ac]) (fun b hb=>World.putObj_heap_other hb) (by simp) ?_
      rw [World.putObj_heap_same (xaI ar)];exact h5.symm
     have ai:=bt.mv h2.heap (by rw [aj];exact zd n)
     exact ⟨A3,M3,⟨xfz Z.base (by omega) _,fun b hb=>(Z.outer b hb).trans (al b hb),h2.size,fun t ht=>ai.rel (h2.tmps t ht),Z.heap.turn ar ⟨by simp,by simp⟩ _,h2.defers.mv h2.heap ai,h2.ev.step ai⟩,ai,ar,bm⟩
    have ab:(pre++[x]).foldl (stepS step) (.inl s0)=step s x:=by
     rw [List.foldl_append,h1];rfl
    intro e s' a3 W3 hq a2;cases af:step s x with
    | inl s2 =>
     rw [af] at hq;obtain ⟨rfl,T',hw⟩:=hq;obtain ⟨A3,M3,g1,g2,g4,g5⟩:=ad s' a3 W3 T' _ hw a2;have hr:=run_endRound (P:=P) none g4;have he:(Obj.loop { q .busy none with state:=if (none:Option Code).isNone then .ready else .done,pending:=none })=.loop (q .ready none):=by rw [O];rfl
     rw [he] at hr;exact ⟨_,_,hr,.inl ⟨rfl,A3,⟨s2,ab.trans af,⟨M3,g1⟩,Nat.le_trans h4 g2.size,World.putObj_heap_same (xaI g4),(World.putObj_heap_other (by omega)).trans g5⟩,g2.size,g2.less,g2.keep⟩⟩
    | inr r =>
     rw [af] at hq;obtain ⟨rfl,T',hw⟩:=hq;obtain ⟨A3,M3,g1,g2,g4,g5⟩:=ad s' a3 W3 T' _ hw a2;have hr:=run_endRound (P:=P) (some .ret) g4;have he:(Obj.loop { q .busy none with state:=if (some Code.ret).isNone then .ready else .done,pending:=some .ret })=.loop (q .done (some .ret)):=by rw [O];rfl
     rw [he] at hr;have bh:W3.putObj (w.heap.size+1) (.loop (q .done (some .ret)))=(W3.putObj (w.heap.size+1) (.loop (q .ready none))).putObj (w.heap.size+1) (.loop (q .done (some .ret))):=by
      simp [World.putObj]
     have g6:(W3.putObj (w.heap.size+1) (.loop (q .ready none))).heap[w.heap.size+1]?=some (.loop (q .ready none)):=World.putObj_heap_same (xaI g4);refine ⟨_,_,hr,.inr ⟨rfl,r,ab.trans af,⟨A3,M3,?_⟩,World.putObj_heap_same (xaI g4),(World.putObj_heap_other (by omega)).trans g5⟩⟩
     rw [bh];exact g1.turn (o':=.loop (q .done (some .ret))) g6 ⟨by simp,by simp⟩ (by omega) (by omega) (g1.defers.same fun D hD=>World.putObj_heap_other (fun e=>by rw [e] at hD;rw [g6] at hD;simp at hD))
   . exact ⟨s0,rfl,⟨M,hs.grow ap⟩,ap.size,bv,be⟩
   ·
    rintro e W2 ⟨⟨v,rfl⟩,⟨A',s,h1,⟨M',h2⟩,h4,h5,h6⟩|⟨pre,ag,bk,r,h1,⟨A',M',h2⟩,h5,h6⟩⟩
    . refine ⟨none,_,by have:=run_endLoop (P:=P) h5 (by rw [O];simp);rw [O] at this;exact this,?_⟩
      refine hQ .normal ⟨T,Hs s⟩ _ _ (by rw [h1];exact ⟨rfl,rfl⟩) ?_
      exact am W2 A' M' ⟨T,Hs s⟩ _ h2 h5 h6 _
    . refine ⟨some .ret,_,by have:=run_endLoop (P:=P) h5 (by rw [O];simp);rw [O] at this;exact this,?_⟩
      refine wpIn_ret (hQ .ret ⟨T,Ho r⟩ _ _ ?_ (am W2 A' M' ⟨T,Ho r⟩ _ h2 h5 h6 _));rw [<-bk,List.foldl_append,h1,xgG];exact ⟨rfl,rfl⟩
theorem xiY {P:Program} {Inv:IV} {w0:World} {A0:Cx} (V:InvOk Inv) (hI:Inv w0) {ro:Option Nat} {n:Nat} {ops:Array Oper} {Q:Exit->Act->World->Prop} {rest:List Oper} {l:List Oper} {s s':St} (hp:Path (OpA P Inv) ops l s s') :
  (∀ o,o∈l->∀ c,o.op≠.defer c)->∀ {w:World} {A:Nat->Prop} {M:Id->Option MB} {a:Act},SR w0 A0 w A M s a ->
  (∀ a' w' A' M',SR w0 A0 w' A' M' s' a'->a'.defers=a.defers->Mv w A M w' A' M'->wpListIn (wideR ro) n P ops Q rest a' w')->wpListIn (wideR ro) n P ops Q (l++rest) a w:=by
 induction hp with
 | nil s=>intro _ w A M a hs hK;exact hK a w A M hs rfl Mv.refl
 | run hw h hr ih =>
  intro hd w A M a hs hK;have J:=xbG (w:=w) (A:=A) (M:=M) hs.size (fun j O d _ _ q=>hs.tmps d q) hw
  rw [List.cons_append];unfold wpListIn;rw [if_pos J];exact xfP (hd _ (by simp)) (fun _ _ h=>h) (xjY V hI h hs fun v w' A' M' U Y=>ih (fun o ho=>hd o (by simp [ho])) U fun a2 w2 A2 M2 h2 e2 m2=>hK a2 w2 A2 M2 h2 (e2.trans (xbA _ _ _)) (Y.trans m2))
 | skip hw hr ih =>
  intro hd w A M a hs hK;have J:=xbG (w:=w) (A:=A) (M:=M) hs.size (fun j O d _ _ q=>hs.tmps d q) hw
  rw [List.cons_append];unfold wpListIn;rw [if_neg (by rw [J];simp)]
  exact ⟨fun _ _=>trivial,ih (fun o ho=>hd o (by simp [ho])) (hs.skip _) fun a2 w2 A2 M2 h2 e2 m2=>hK a2 w2 A2 M2 h2 (e2.trans (xbA _ _ _)) m2⟩
theorem xhy {P:Program} {Inv:IV} {w0:World} {A0:Cx} (q:InvOk Inv) (hI:Inv w0) {ro:Option Nat} {n:Nat} {ops:Array Oper} {Q:Exit->Act->World->Prop} {l:List Oper} {s s':St} (hp:Path (OpA P Inv) ops l s s') (hd:∀ o,o∈l->∀ c,o.op≠.defer c) {w:World} {A:Nat->Prop} {M:Id->Option MB} {a:Act} (hs:SR w0 A0 w A M s a)
  (hK:∀ a' w' A' M',SR w0 A0 w' A' M' s' a'->a'.defers=a.defers->Q .normal a' w'):wpListIn (wideR ro) n P ops Q l a w:=by
 have h:=xiY (ro:=ro) (n:=n) (ops:=ops) (Q:=Q) (rest:=[]) q hI hp hd hs (fun a' w' A' M' h1 h2 _=>hK a' w' A' M' h1 h2)
 rwa [zD] at h
def XB (P:Program) (E:Env) (assign body:Code) (ts:List AV) (H:List Box):Option (Exit×List Box):=X P E none assign ⟨ts,H⟩ fun e s1=>match e with
 | .normal=>X P E none body s1 fun e2 s2=>match normS E.pin [] [] s2 with
  | some (_,H')=>xqm H' fun H'=>some (e2,H')
  | none=>none
 | _=>none
theorem xgM {P:Program} {Inv:IV} {E:Env} (J:P.follows .mixedOrders=true) (Q:InvOk Inv) (q:Inv.pin=E.pin) (O:xpU P Inv E) {assign body:Code} (V:LoOk P Inv E assign) (U:LoOk P Inv E body) {ts:List AV} {H H':List Box} {e0:Exit}
  (h:XB P E assign body ts H=some (e0,H')):Does P Inv assign (fun e s1=>e=.normal/\Does P Inv body (fun e s'=>e=e0/\∃ T',Weak Inv.pin s' ⟨T',H'⟩) s1) ⟨ts,H⟩:=by
 unfold XB at h;refine xam (xbt (good:=fun t=>t=some (e0,H')) J Q q (by simp) O assign _ _ V h) fun e s1 hq=>?_
 cases e with
 | normal =>
  refine ⟨rfl,xam (xbt (good:=fun t=>t=some (e0,H')) J Q q (by simp) O body _ _ U hq) fun e s2 hq=>?_⟩
  split at hq
  case h_2=>simp at hq
  rename_i vs H1 Y;rw [xaz] at hq;simp only [z6,zb] at hq;obtain ⟨rfl,rfl⟩:=hq;have hw:=xb6 Y;rw [<-q] at hw;exact ⟨rfl,_,hw⟩
 | _=>simp at hq
theorem Rel.yld_inv {w:World} {A:Nat->Prop} {M:Id->Option MB} {v:Value} {l:Nat} (h:Rel w A M v (.yld l)):v=.func (.yield l) #[] #[]:=by cases h;rfl
theorem xdp {P:Program} {Inv:IV} {E:Env} (J:xpU P Inv E) {ops:Array Oper} {l:List Oper} {s s':St} (h:xOps P E none (some true) ops l s some=some s'):Path (OpA P Inv) ops l s s':=by
 have q:¬ (fun t:Option St=>t=some s') none:=by simp
 have hA:∀ o s (K:St->Option St),(fun t:Option St=>t=some s') (xopM P E none (some true) o s K)->∃ s1,OpA P Inv s o s1/\(fun t:Option St=>t=some s') (K s1):=fun o s K h=>xke (good:=fun t:Option St=>t=some s') q J h
 obtain ⟨s1,h1,h2⟩:=xbH (good:=fun t:Option St=>t=some s') q hA l s some h
 simp only [z6] at h2;exact h2▸h1
theorem xeQ {W:World} {A:Nat->Prop} (q:∀ b,A b->b<W.heap.size) {ts:List AV} {b:Act} (hsz:b.tmps.size=ts.length) (hd:b.defers=[]) (hr:∀ t,t<ts.length->Rel W A xp6 (b.tmps.getD t undef) (ts.getD t .top)):SR W ⟨A,W,A,xp6,0⟩ W A xp6 ⟨ts,[]⟩ b :=
 ⟨Below.refl _ _,fun _ _=>Iff.rfl,hsz,hr,⟨fun id m hm=>by simp [xp6] at hm,fun _ _ _ _ h=>by simp [xp6] at h,q⟩,by rw [hd];exact DefOk.nil,Ev.refl (C:=⟨A,W,A,xp6,0⟩)⟩
theorem SR.pureRel {W w':World} {A A':Nat->Prop} {M':Id->Option MB} {C:Cx} {s':St} {b':Act} (hs:SR W C w' A' M' s' b') (hc:C.av=A) (q:∀ b,A b->b<W.heap.size) {t:Nat} {x:AV} (ht:t<s'.tmps.length) (hx:s'.tmps.getD t .top=x) (hp:x.pure=true):Rel w' A xp6 (b'.tmps.getD t undef) x:=by
 have h:=hs.tmps t ht;rw [hx] at h;exact (h.pure (M':=xp6) hp).mono (fun _ _ _=>rfl) (zd _) (fun b _ hb=>(hs.outer b (q b hb)).2 (by rw [hc];exact hb)) (MExt.refl _)
end Go.Sim
namespace Go.Sim.M
open Go.RowKit Go.Proofs
def regs:Code->List Code
 | .region i ops d=>[.region i ops d]
 | .seq a b=>regs a++regs b
 | .block _ c=>regs c
 | .loop c=>regs c
 | .cond _ a b=>regs a++regs b
 | .rangeFunc _ _ a b=>regs a++regs b
 | _=>[]
def regAt (fn:Func) (i:Nat):Code:=(regs (fn.body.getD .skip)).getD i .skip
def opsOf:Code->Array Oper
 | .region _ ops _=>ops
 | _=>#[]
def opsAt (fn:Func) (i:Nat):Array Oper:=opsOf (regAt fn i)
def idOf:Code->Nat
 | .region i _ _=>i
 | _=>0
def rg (fn:Func) (i:Nat):Code:=.region (idOf (regAt fn i)) (opsAt fn i) false
def verA (a b:Int) (r:List AV) (c d e f g h:Int):AV:=.agg [.int .i64 a,.int .i64 b,.list 3 r,.int .i64 c,.int .i64 d,.int .i64 e,.int .i64 f,.int .i64 g,.int .i64 h]
def IsV (x:AV):Prop:=∃ a b r c d e f g h,x=verA a b r c d e f g h
noncomputable def opV:AV->Bool
 | .agg [.int _ a,.int _ b,.list _ r,.int _ c,.int _ d,.int _ e,.int _ f,.int _ g,.int _ h]=>xa8 a b r c d e f g h
 | _=>false
noncomputable abbrev EIt:Env:=xcC.E.fn 20 0 (lsOf []) (xqf [])
theorem xhJ:xpU Tryz.prog (xqB.at 0) EIt:=xcC.ok.fn
def Th (xs:List AV) (l:Nat) (i:Int):List AV:=[.yld l,.eptr 1 [.list 9 xs] 0 0,.top,.top,.top,.list 9 xs,.int .i64 xs.length,.int .i64 i,.top,.top,.top,.top,.top,.top,.top,.top,.top,.top,.top,.top]
def Th8 (xs:List AV) (l:Nat) (i:Int) (t:Bool):List AV:=[.yld l,.eptr 1 [.list 9 xs] 0 0,.top,.top,.top,.list 9 xs,.int .i64 xs.length,.int .i64 i,.bool t,.top,.top,.top,.top,.top,.top,.top,.top,.top,.top,.top]
def Tv (xs:List AV) (l:Nat) (i:Int) (x:AV):List AV:=[.yld l,.eptr 1 [.list 9 xs] 0 0,.top,.top,.own 0 0 0 0,.list 9 xs,.int .i64 xs.length,.int .i64 i,.bool true,.eptr 9 xs i.toNat 0,x,.top,.top,.top,.top,.top,.top,.top,.top,.top]
def Bv (x:AV):List Box:=[⟨0,9,58,[x],false,true⟩]
def Tw (xs:List AV) (l:Nat) (i:Int) (x:AV) (o:Bool):List AV:=[.yld l,.eptr 1 [.list 9 xs] 0 0,.top,.top,.own 0 0 0 0,.list 9 xs,.int .i64 xs.length,.int .i64 i,.bool true,.eptr 9 xs i.toNat 0,x,x,.bool o,.bool true,.yld l,x,.top,.top,.top,.top]
def Tn (xs:List AV) (l:Nat) (i:Int) (x:AV) (o:Bool):List AV:=[.yld l,.eptr 1 [.list 9 xs] 0 0,.top,.top,.own 0 0 0 0,.list 9 xs,.int .i64 xs.length,.int .i64 i,.bool true,.eptr 9 xs i.toNat 0,x,x,.bool o,.bool false,.tuple [],.tuple [],.tuple [],.tuple [],.bool false,.top]
def Ty (xs:List AV) (l:Nat) (i:Int) (b:Bool):List AV:=[.yld l,.eptr 1 [.list 9 xs] 0 0,.top,.top,.top,.list 9 xs,.int .i64 xs.length,.int .i64 i,.top,.top,.top,.top,.top,.bool true,.top,.top,.bool b,.top,.top,.top]
def Tz (xs:List AV) (l:Nat) (i:Int) (b:Bool):List AV:=[.yld l,.eptr 1 [.list 9 xs] 0 0,.top,.top,.top,.list 9 xs,.int .i64 xs.length,.int .i64 i,.top,.top,.top,.top,.top,.bool true,.top,.top,.bool b,.bool !b,.bool !b,.top]
noncomputable abbrev XO (ops:Array Oper) (l:List Oper) (ts:List AV) (H:List Box):Option St:=xOps Tryz.prog EIt none (some true) ops l ⟨ts,H⟩ some
theorem xo9 (xs:List AV) (l:Nat):XO (opsAt Tryz.f67 0) (opsAt Tryz.f67 0).toList ([.yld l,.eptr 1 [.list 9 xs] 0 0]++List.replicate 18 (.tuple [])) [] =
 some ⟨[.yld l,.eptr 1 [.list 9 xs] 0 0,.tuple [],.tuple [],.tuple [],.list 9 xs,.int .i64 xs.length,.int .i64 0]++List.replicate 12 (.tuple []),[]⟩:=by kernel_rfl
theorem xpa (xs:List AV) (l:Nat) (i:Int):XO (opsAt Tryz.f67 1) (opsAt Tryz.f67 1).toList (Th xs l i) []=some ⟨Th8 xs l i (decide (i<(xs.length:Int))),[]⟩:=by kernel_rfl
theorem xpb (xs:List AV) (l:Nat) (i:Int):XO (opsAt Tryz.f67 2) (opsAt Tryz.f67 2).toList (Th8 xs l i true) [] =
 br (decide ((0:Int)<=i)&&decide (i<(xs.length:Int))) (br (decide (i.toNat<xs.length)&&((xs.getD i.toNat AV.top).cells.length==(9:Nat)&&xpZ [Sh.int IntKind.i64,Sh.int IntKind.i64,Sh.list (3:Nat),Sh.int IntKind.i64,Sh.int IntKind.i64,Sh.int IntKind.i64,Sh.int IntKind.i64,Sh.int IntKind.i64,Sh.int IntKind.i64] (xs.getD i.toNat AV.top).cells (0:Nat)))
  (
   let x:=verA ((xs.getD i.toNat AV.top).cells.getD 0 AV.top).toInt ((xs.getD i.toNat AV.top).cells.getD 1 AV.top).toInt ((xs.getD i.toNat AV.top).cells.getD 2 AV.top).toList ((xs.getD i.toNat AV.top).cells.getD 3 AV.top).toInt ((xs.getD i.toNat AV.top).cells.getD 4 AV.top).toInt ((xs.getD i.toNat AV.top).cells.getD 5 AV.top).toInt ((xs.getD i.toNat AV.top).cells.getD 6 AV.top).toInt ((xs.getD i.toNat AV.top).cells.getD 7 AV.top).toInt ((xs.getD i.toNat AV.top).cells.getD 8 AV.top).toInt
   some ⟨Tv xs l i x,Bv x⟩) none) none:=by kernel_rfl
theorem xoL (xs:List AV) (l:Nat) (i:Int) (a b:Int) (r:List AV) (c d e f g h:Int):XO (opsAt Tryz.f67 3) ((opsAt Tryz.f67 3).toList.take 5) (Tv xs l i (verA a b r c d e f g h)) (Bv (verA a b r c d e f g h)) =
 br (xa8 a b r c d e f g h) (some ⟨Tw xs l i (verA a b r c d e f g h) (xa8 a b r c d e f g h),Bv (verA a b r c d e f g h)⟩)
  (some ⟨[.yld l,.eptr 1 [.list 9 xs] 0 0,.top,.top,.own 0 0 0 0,.list 9 xs,.int .i64 xs.length,.int .i64 i,.bool true,.eptr 9 xs i.toNat 0,verA a b r c d e f g h,verA a b r c d e f g h,.bool (xa8 a b r c d e f g h),.bool false,.tuple [],.tuple [],.top,.top,.top,.top],Bv (verA a b r c d e f g h)⟩):=by kernel_rfl
theorem xoN (xs:List AV) (l:Nat) (i:Int) (a b:Int) (r:List AV) (c d e f g h:Int):XO (opsAt Tryz.f67 3) (opsAt Tryz.f67 3).toList (Tv xs l i (verA a b r c d e f g h)) (Bv (verA a b r c d e f g h)) =
 br (xa8 a b r c d e f g h) none (some ⟨Tn xs l i (verA a b r c d e f g h) (xa8 a b r c d e f g h),Bv (verA a b r c d e f g h)⟩):=by kernel_rfl
theorem xoM (xs:List AV) (l:Nat) (i:Int) (b:Bool):XO (opsAt Tryz.f67 3) ((opsAt Tryz.f67 3).toList.drop 6) (Ty xs l i b) []=some ⟨Tz xs l i b,[]⟩:=by kernel_rfl
def Tq (b:Bool):List AV:=[.top,.top,.top,.top,.top,.top,.top,.top,.top,.top,.top,.top,.top,.bool true,.top,.top,.bool false,.top,.top,.top]
theorem xoO:XO (opsAt Tryz.f67 3) ((opsAt Tryz.f67 3).toList.drop 6) (Tq false) []=some ⟨[.top,.top,.top,.top,.top,.top,.top,.top,.top,.top,.top,.top,.top,.bool true,.top,.top,.bool false,.bool true,.bool true,.top],[]⟩:=by kernel_rfl
theorem xpc (xs:List AV) (l:Nat) (i:Int):XO (opsAt Tryz.f67 4) (opsAt Tryz.f67 4).toList (Th xs l i) [] =
 some ⟨[.yld l,.eptr 1 [.list 9 xs] 0 0,.top,.top,.top,.list 9 xs,.int .i64 xs.length,.int .i64 (IntKind.i64.wrap (i+1)),.top,.top,.top,.top,.top,.top,.top,.top,.top,.top,.top,.int .i64 (IntKind.i64.wrap (i+1))],[]⟩:=by kernel_rfl
noncomputable def itCode:Code:=.seq (rg Tryz.f67 0) (.block 0 (.loop (.seq (rg Tryz.f67 1) (.seq (.cond (.tmp 8) .skip (.exit 0)) (.seq (.block 1 (.seq (rg Tryz.f67 2) (.seq (rg Tryz.f67 3) (.cond (.tmp 18) .ret .skip)))) (rg Tryz.f67 4))))))
theorem xnW:Tryz.f67.body=some itCode:=by kernel_rfl
theorem xoG:noDefer (opsAt Tryz.f67 0)=true:=by kernel_rfl
theorem xoH:noDefer (opsAt Tryz.f67 1)=true:=by kernel_rfl
theorem xoI:noDefer (opsAt Tryz.f67 2)=true:=by kernel_rfl
theorem xoJ:noDefer (opsAt Tryz.f67 3)=true:=by kernel_rfl
theorem xoK:noDefer (opsAt Tryz.f67 4)=true:=by kernel_rfl
theorem xjt (i:Nat) (h:i<5):noDefer (opsAt Tryz.f67 i)=true:=by
 have:i=0\/i=1\/i=2\/i=3\/i=4:=by omega
 rcases this with e|e|e|e|e<;>rw [e]
 . exact xoG
 . exact xoH
 . exact xoI
 . exact xoJ
 . exact xoK
theorem xdT {i k:Nat} (hk:k<5) {s s':St} {w0 W:World} {C:Cx} {A:Nat->Prop} {M:Id->Option MB} {b:Act} {Q:Exit->Act->World->Prop} (hI:xqB w0) (hx:xOps Tryz.prog EIt none (some true) (opsAt Tryz.f67 k) (opsAt Tryz.f67 k).toList s some=some s') (hs:SR w0 C W A M s b)
  (hK:∀ a' w' A' M',SR w0 C w' A' M' s' a'->a'.defers=b.defers->Q .normal a' w'):(Code.region i (opsAt Tryz.f67 k) false).wpIn Fence.wide 0 Tryz.prog Q b W:=by
 exact wpIn_region_list (xhy (Inv:=xqB.at 0) (ro:=none) (n:=0) (xp3 Tryz.prog _) hI (xdp xhJ hx) (xbR (xjt k hk)) hs hK)
noncomputable def itY:Oper:=(opsAt Tryz.f67 3).toList.getD 5 default
theorem xmj:itY.op=.call { callee:=.value (.tmp 14),args:=#[.tmp 15],argTypes:=#[58] }:=by kernel_rfl
theorem xkP:itY.dst=some 16:=by kernel_rfl
theorem xmk:(opsAt Tryz.f67 3).toList=(opsAt Tryz.f67 3).toList.take 5++(itY::(opsAt Tryz.f67 3).toList.drop 6):=by kernel_rfl
theorem xm1 (xs:List AV) (l:Nat) (i:Int) (x:AV) (o:Bool):xp4 (opsAt Tryz.f67 3) (Tw xs l i x o) itY=some true:=by kernel_rfl
theorem xnV {l:Nat} {b:Act} {v:Value} {W:World} {r:Result Next} (h0:b.tmps.getD 14 undef=.func (.yield l) #[] #[]) (h1:b.tmps.getD 15 undef=v) (hy:(Instr.yield l #[v]).run Tryz.prog W=r):(execOp b.eval itY).run Tryz.prog W=r:=by
 simp only [execOp,xmj,Go.resolve,Act.eval,h0,h1,Deferred.ofValue,Sem.run_bind,Sem.run_pure,Result.andThen_ok,invoke];have e:b.eval (.tmp 15)=v:=h1;simpa [e] using hy
structure Hd (xs:List AV) (l:Nat) (i:Int) (W:World) (A:Nat->Prop) (b:Act):Prop where
 size:b.tmps.size=20
 def0:b.defers=[]
 r0:Rel W A xp6 (b.tmps.getD 0 undef) (.yld l)
 r1:Rel W A xp6 (b.tmps.getD 1 undef) (.eptr 1 [.list 9 xs] 0 0)
 r5:Rel W A xp6 (b.tmps.getD 5 undef) (.list 9 xs)
 r6:Rel W A xp6 (b.tmps.getD 6 undef) (.int .i64 xs.length)
 r7:Rel W A xp6 (b.tmps.getD 7 undef) (.int .i64 i)
theorem lt20 {t:Nat} (h:t<20):t=0\/t=1\/t=2\/t=3\/t=4\/t=5\/t=6\/t=7\/t=8\/t=9\/t=10\/t=11\/t=12\/t=13\/t=14\/t=15\/t=16\/t=17\/t=18\/t=19:=by omega
theorem Hd.sr {xs:List AV} {l:Nat} {i:Int} {W:World} {A:Nat->Prop} {b:Act} (h:Hd xs l i W A b) (q:∀ b,A b->b<W.heap.size):SR W ⟨A,W,A,xp6,0⟩ W A xp6 ⟨Th xs l i,[]⟩ b:=by
 refine xeQ q h.size h.def0 fun t ht=>?_
 rcases lt20 ht with rfl|rfl|rfl|rfl|rfl|rfl|rfl|rfl|rfl|rfl|rfl|rfl|rfl|rfl|rfl|rfl|rfl|rfl|rfl|rfl <;>
  first|exact Rel.top _|exact h.r0|exact h.r1|exact h.r5|exact h.r6|exact h.r7
theorem Hd.of {xs:List AV} {l:Nat} {i:Int} {W W':World} {A A':Nat->Prop} {M':Id->Option MB} {C:Cx} {s':St} {b':Act} (hs:SR W C W' A' M' s' b') (hc:C.av=A) (q:∀ b,A b->b<W.heap.size) (hd:b'.defers=[]) (hl:s'.tmps.length=20)
  (h0:s'.tmps.getD 0 .top=.yld l) (h1:s'.tmps.getD 1 .top=.eptr 1 [.list 9 xs] 0 0) (h5:s'.tmps.getD 5 .top=.list 9 xs) (h6:s'.tmps.getD 6 .top=.int .i64 xs.length) (h7:s'.tmps.getD 7 .top=.int .i64 i):Hd xs l i W' A b' :=
 ⟨hs.size.trans hl,hd,hs.pureRel hc q (by omega) h0 rfl,hs.pureRel hc q (by omega) h1 rfl,hs.pureRel hc q (by omega) h5 rfl,hs.pureRel hc q (by omega) h6 rfl,hs.pureRel hc q (by omega) h7 rfl⟩
theorem Hd.keep {xs:List AV} {l:Nat} {i:Int} {W W':World} {A A':Nat->Prop} {b:Act} (h:Hd xs l i W A b) (d:Nat) (v:Value) (hd:8<=d) (hs:W.heap.size<=W'.heap.size) (hA:∀ b,b<W.heap.size->A' b->A b) (hk:∀ b,b<W.heap.size->¬ A b->W'.heap[b]?=W.heap[b]?):Hd xs l i W' A' (b.put (some d) v):=by
 have key:∀ t x,t<8->Rel W A xp6 (b.tmps.getD t undef) x->Rel W' A' xp6 ((b.put (some d) v).tmps.getD t undef) x:=fun t x ht hr=>by
  have e:(b.put (some d) v).tmps.getD t undef=b.tmps.getD t undef:=by
   simp only [Act.put];simp [zu,Array.getElem?_setIfInBounds_ne (show d≠t by omega)]
  rw [e];exact hr.mono hk hs hA (MExt.refl _)
 exact ⟨by simp [Act.put,h.size],h.def0,key 0 _ (by omega) h.r0,key 1 _ (by omega) h.r1,key 5 _ (by omega) h.r5,key 6 _ (by omega) h.r6,key 7 _ (by omega) h.r7⟩
theorem xe9 (xs:List AV) (cb:∀ x,x∈xs->IsV x) (cf:xs.length<4611686018427387904):IterC Tryz.prog xqB 67 (.eptr 1 [.list 9 xs] 0 0) xs opV:=by
 refine ⟨⟨Tryz.f67,Tryz.func67,by kernel_rfl,by kernel_rfl⟩,?_⟩
 intro w A lv bw l J Jx ab az hJ a1 hY ba;have ci:=fun (e:Ending) (W':World)=>(∃ v,e=.returned v)/\((∃ A',J (xs.filter opV) A' W')\/∃ pre suf,pre++suf=xs.filter opV/\Jx pre W')
 refine callsIn_of_wp (F:=Fence.wide) (n:=0) Tryz.func67 xnW trivial ?_;have be:∀ (b:Act) (W:World),(results Tryz.f67 b.tmps).run Tryz.prog W=.ok (.tuple #[]) W:=fun b W=>by
  have:Tryz.f67.results=#[]:=by kernel_rfl
  simp [results,this]
 have al:∀ (b:Act) (W:World),b.defers=[]->((∃ A',J (xs.filter opV) A' W)\/∃ pre suf,pre++suf=xs.filter opV/\Jx pre W) ->
   bodyPost Tryz.prog Tryz.f67 (fun e W'=>(∃ v,e=.returned v)/\((∃ A',J (xs.filter opV) A' W')\/∃ pre suf,pre++suf=xs.filter opV/\Jx pre W')) .ret b W:=fun b W hd h =>
  ⟨hd,_,be b W,⟨_,rfl⟩,h⟩
 refine wpIn_seq ?_;have aw:=hJ _ _ _ ba;have bg:SR w ⟨A,w,A,xp6,0⟩ w A xp6 ⟨[.yld l,.eptr 1 [.list 9 xs] 0 0]++List.replicate 18 (.tuple []),[]⟩ { tmps:=#[.func (.yield l) #[] #[],lv]++Array.replicate (Tryz.f67.ntmps - 2) undef,defers:=[] }:=by
  have b8:Tryz.f67.ntmps=20:=by kernel_rfl
  rw [b8];refine xeQ aw.2 (by simp) rfl fun t ht=>?_
  have ht:t<20:=by simpa using ht
  by_cases h0:t=0
  . subst h0;have e1:(#[Value.func (.yield l) #[] #[],lv]++Array.replicate 18 undef).getD 0 undef=.func (.yield l) #[] #[]:=by simp [Array.getElem?_append]
    show Rel w A xp6 ((#[Value.func (.yield l) #[] #[],lv]++Array.replicate 18 undef).getD 0 undef) (.yld l);rw [e1];exact .yld l
  by_cases h1:t=1
  . subst h1;have e1:(#[Value.func (.yield l) #[] #[],lv]++Array.replicate 18 undef).getD 1 undef=lv:=by simp [Array.getElem?_append]
    show Rel w A xp6 ((#[Value.func (.yield l) #[] #[],lv]++Array.replicate 18 undef).getD 1 undef) (.eptr 1 [.list 9 xs] 0 0);rw [e1];exact bw
  have e1:(#[Value.func (.yield l) #[] #[],lv]++Array.replicate (20 - 2) undef).getD t undef=undef:=by
   have h2:¬ t<2:=by omega
   have h3:t - 2<18:=by omega
   simp [Array.getElem?_append,h2,h3]
  have e2:([AV.yld l,.eptr 1 [.list 9 xs] 0 0]++List.replicate 18 (AV.tuple [])).getD t .top=.tuple []:=by
   have key:∀ m,t<m+2->([AV.yld l,.eptr 1 [.list 9 xs] 0 0]++List.replicate m (AV.tuple [])).getD t .top=.tuple []:=fun m hm=>by
    obtain ⟨u,rfl⟩:∃ u,t=u+2:=⟨t - 2,by omega⟩
    have hu:u<m:=by omega
    simp [z7,List.getElem?_replicate,hu]
   exact key 18 ht
  show Rel w A xp6 ((#[Value.func (.yield l) #[] #[],lv]++Array.replicate (20 - 2) undef).getD t undef) (([AV.yld l,.eptr 1 [.list 9 xs] 0 0]++List.replicate 18 (AV.tuple [])).getD t .top);rw [e1,e2];exact .tuple #[] [] rfl (by simp)
 refine xdT (k:=0) (by omega) aw.1 (xo9 xs l) bg fun b0 W0 A0 M0 a0 bn=>?_
 have bo:Hd xs l 0 W0 A b0:=Hd.of a0 rfl aw.2 bn rfl rfl rfl rfl rfl rfl;have bf:J [] A W0:=ab _ _ _ _ ba a0.base;refine wpIn_block (wpIn_mono (Q:=fun e b W=>(e=.exit 0/\b.defers=[]/\∃ A',J (xs.filter opV) A' W)\/(e=.ret/\b.defers=[]/\∃ pre suf,pre++suf=xs.filter opV/\Jx pre W)) ?_ ?_)
 rotate_left
 . rintro e b W (⟨rfl,hd,h⟩|⟨rfl,hd,h⟩)
   . exact al b W hd (.inl h)
   . exact al b W hd (.inr h)
 refine wpIn_loop (fun b W=>∃ i:Nat,i<=xs.length/\∃ A',J ((xs.take i).filter opV) A' W/\Hd xs l i W A' b) (fun b W=>match b.tmps.getD 7 undef with|.int _ i=>xs.length - i.toNat|_=>0) ⟨0,zQ _,A,by simpa using bf,bo⟩ ?_
 rintro b W ⟨i,hi,A1,ay,hH⟩;have ai:=hJ _ _ _ ay;have ce:(match b.tmps.getD 7 undef with|.int _ i=>xs.length - i.toNat|_=>0)=xs.length - i:=by
  rw [hH.r7.int_inv];simp
 rw [ce];refine wpIn_seq ?_;refine xdT (k:=1) (by omega) ai.1 (xpa xs l i) (hH.sr ai.2) fun b1 W1 A2 M2 ar cc=>?_
 have Y:Hd xs l i W1 A1 b1:=Hd.of ar rfl ai.2 (cc.trans hH.def0) rfl rfl rfl rfl rfl rfl;have ad:J ((xs.take i).filter opV) A1 W1:=ab _ _ _ _ ay ar.base;have h8:Rel W1 A1 xp6 (b1.tmps.getD 8 undef) (.bool (decide ((i:Int)<(xs.length:Int)))):=ar.pureRel rfl ai.2 (by show 8<20;omega) rfl rfl
 refine wpIn_seq ?_;refine wpIn_cond_split h8.bool_inv (fun hc=>?_) (fun hc=>?_)
 rotate_left
 ·
  have ca:i=xs.length:=by simp at hc;omega
  refine wpIn_exit (.inl ⟨rfl,Y.def0,A1,?_⟩);rw [ca,y4] at ad;exact ad
 have aa:i<xs.length:=by simpa using hc
 refine wpIn_skip ?_;have q:=hJ _ _ _ ad;have a5:xs.getD i .top=xs[i]:=by simp [z7,aa]
 obtain ⟨va,vb,vr,vc,vd,ve,vf,vg,vh,hx⟩:=cb (xs.getD i .top) (xad aa);have O:(xs.take (i+1)).filter opV=(xs.take i).filter opV++(if opV (xs.getD i .top)=true then [xs.getD i .top] else []):=by
  rw [List.take_add_one,List.filter_append,a5];simp only [ze aa,Option.toList_some,List.filter_cons,List.filter_nil]
 have bq:SR W1 ⟨A1,W1,A1,xp6,0⟩ W1 A1 xp6 ⟨Th8 xs l i true,[]⟩ b1:=by
  refine xeQ q.2 Y.size Y.def0 fun t ht=>?_
  have h8':Rel W1 A1 xp6 (b1.tmps.getD 8 undef) (.bool true):=by rw [hc] at h8;exact h8
  rcases lt20 ht with rfl|rfl|rfl|rfl|rfl|rfl|rfl|rfl|rfl|rfl|rfl|rfl|rfl|rfl|rfl|rfl|rfl|rfl|rfl|rfl <;>
   first|exact Rel.top _|exact Y.r0|exact Y.r1|exact Y.r5|exact Y.r6|exact Y.r7|exact h8'
 have b9:XO (opsAt Tryz.f67 2) (opsAt Tryz.f67 2).toList (Th8 xs l i true) []=some ⟨Tv xs l i (verA va vb vr vc vd ve vf vg vh),Bv (verA va vb vr vc vd ve vf vg vh)⟩:=by
  rw [xpb];have hx':xs.getD ((i:Int).toNat) .top=verA va vb vr vc vd ve vf vg vh:=by rw [zN];exact hx
  rw [hx'];have e1:(decide ((0:Int)<=(i:Int))&&decide ((i:Int)<(xs.length:Int)))=true:=by simp [aa]
  have e2:(decide ((i:Int).toNat<xs.length)&&((verA va vb vr vc vd ve vf vg vh).cells.length==(9:Nat)&&xpZ [Sh.int IntKind.i64,Sh.int IntKind.i64,Sh.list (3:Nat),Sh.int IntKind.i64,Sh.int IntKind.i64,Sh.int IntKind.i64,Sh.int IntKind.i64,Sh.int IntKind.i64,Sh.int IntKind.i64] (verA va vb vr vc vd ve vf vg vh).cells (0:Nat)))=true:=by
   rw [zN,zf];exact ⟨by simpa using aa,rfl⟩
  rw [e1,e2];rfl
 have ao:∀ (b4:Act) (W4:World) (A4:Nat->Prop),Hd xs l i W4 A4 b4->J ((xs.take (i+1)).filter opV) A4 W4->(Code.region (idOf (regAt Tryz.f67 4)) (opsAt Tryz.f67 4) false).wpIn Fence.wide 0 Tryz.prog (Exit.then (fun a' w'=>(∃ i:Nat,i<=xs.length/\∃ A',J ((xs.take i).filter opV) A' w'/\Hd xs l i w' A' a') /\
   (match a'.tmps.getD 7 undef with|.int _ i=>xs.length - i.toNat|_=>0)<xs.length - i) (fun e b W=>(e=.exit 0/\b.defers=[]/\∃ A',J (xs.filter opV) A' W)\/(e=.ret/\b.defers=[]/\∃ pre suf,pre++suf=xs.filter opV/\Jx pre W))) b4 W4:=fun b4 W4 A4 ah ae=>by
  have an:=hJ _ _ _ ae;refine xdT (k:=4) (by omega) an.1 (xpc xs l i) (ah.sr an.2) fun b5 W5 A5 M5 bc bm=>?_
  have hw:IntKind.i64.wrap ((i:Int)+1)=((i+1:Nat):Int):=by rw [xeR (by omega) (by omega)];omega
  have U:Hd xs l ((i+1:Nat):Int) W5 A4 b5:=Hd.of bc rfl an.2 (bm.trans ah.def0) rfl rfl rfl rfl rfl (by show AV.int .i64 (IntKind.i64.wrap ((i:Int)+1))=_;rw [hw])
  refine ⟨⟨i+1,aa,A4,ab _ _ _ _ ae bc.base,U⟩,?_⟩;rw [U.r7.int_inv];simp;omega
 refine wpIn_seq ?_;refine wpIn_block ?_;refine wpIn_seq ?_;refine xdT (k:=2) (by omega) q.1 b9 bq fun b2 W2 A3 M3 am a7=>?_
 have cj:J ((xs.take i).filter opV) A1 W2:=ab _ _ _ _ ad am.base;refine wpIn_seq ?_;have ax:∀ (b4:Act) (W4:World) (A4:Nat->Prop),Hd xs l i W4 A4 b4->J ((xs.take (i+1)).filter opV) A4 W4->b4.eval (.tmp 18)=.bool false->(Code.cond (.tmp 18) .ret .skip).wpIn Fence.wide 0 Tryz.prog (Exit.inBlock 1 (Exit.then (fun a' w'=>(Code.region (idOf (regAt Tryz.f67 4)) (opsAt Tryz.f67 4) false).wpIn Fence.wide 0 Tryz.prog (Exit.then (fun a' w'=>(∃ i:Nat,i<=xs.length/\∃ A',J ((xs.take i).filter opV) A' w'/\Hd xs l i w' A' a') /\
   (match a'.tmps.getD 7 undef with|.int _ i=>xs.length - i.toNat|_=>0)<xs.length - i) (fun e b W=>(e=.exit 0/\b.defers=[]/\∃ A',J (xs.filter opV) A' W)\/(e=.ret/\b.defers=[]/\∃ pre suf,pre++suf=xs.filter opV/\Jx pre W))) a' w')
   (Exit.then (fun a' w'=>(∃ i:Nat,i<=xs.length/\∃ A',J ((xs.take i).filter opV) A' w'/\Hd xs l i w' A' a') /\
   (match a'.tmps.getD 7 undef with|.int _ i=>xs.length - i.toNat|_=>0)<xs.length - i) (fun e b W=>(e=.exit 0/\b.defers=[]/\∃ A',J (xs.filter opV) A' W)\/(e=.ret/\b.defers=[]/\∃ pre suf,pre++suf=xs.filter opV/\Jx pre W))))) b4 W4:=fun b4 W4 A4 ah ae bi =>
  wpIn_cond_false bi (wpIn_skip (ao b4 W4 A4 ah ae))
 have a4:opV (verA va vb vr vc vd ve vf vg vh)=xa8 va vb vr vc vd ve vf vg vh:=rfl;have ck:verA va vb vr vc vd ve vf vg vh∈xs:=by rw [<-hx];exact xad aa
 rw [hx,a4] at O;by_cases ho:xa8 va vb vr vc vd ve vf vg vh=true
 ·
  rw [if_pos ho] at O;refine wpIn_region_list ?_;rw [xmk];have aq:xOps Tryz.prog EIt none (some true) (opsAt Tryz.f67 3) ((opsAt Tryz.f67 3).toList.take 5) ⟨Tv xs l i (verA va vb vr vc vd ve vf vg vh),Bv (verA va vb vr vc vd ve vf vg vh)⟩ some=some ⟨Tw xs l i (verA va vb vr vc vd ve vf vg vh) true,Bv (verA va vb vr vc vd ve vf vg vh)⟩:=by
   have:=xoL xs l i va vb vr vc vd ve vf vg vh;rw [ho] at this;exact this
  refine xiY (Inv:=xqB.at 0) (ro:=none) (n:=0) (xp3 Tryz.prog _) q.1 (xdp xhJ aq) (fun o ho=>xbR (xjt 3 (by omega)) o (List.mem_of_mem_take ho)) am fun b3 W3 A4 M4 V ap cg=>?_
  have ag:Hd xs l i W3 A1 b3:=Hd.of V rfl q.2 ((ap.trans a7).trans Y.def0) rfl rfl rfl rfl rfl rfl;have ae:J ((xs.take i).filter opV) A1 W3:=ab _ _ _ _ ad V.base;have bz:Rel W3 A1 xp6 (b3.tmps.getD 14 undef) (.yld l):=V.pureRel rfl q.2 (by show 14<20;omega) rfl rfl
  have bk:Rel W3 A1 xp6 (b3.tmps.getD 15 undef) (verA va vb vr vc vd ve vf vg vh):=V.pureRel rfl q.2 (by show 15<20;omega) rfl rfl
  have b7:Rel W3 A1 xp6 (b3.tmps.getD 13 undef) (.bool true):=V.pureRel rfl q.2 (by show 13<20;omega) rfl rfl
  have a6:b3.tmps.getD 14 undef=.func (.yield l) #[] #[]:=bz.yld_inv;have bu:(xs.take i).filter opV++verA va vb vr vc vd ve vf vg vh::(xs.drop (i+1)).filter opV=xs.filter opV:=by
   rw [show verA va vb vr vc vd ve vf vg vh::(xs.drop (i+1)).filter opV=[verA va vb vr vc vd ve vf vg vh]++(xs.drop (i+1)).filter opV from rfl,<-zw,<-O,<-List.filter_append,List.take_append_drop]
  obtain ⟨fn,tmps,bh,body,hy,aj⟩:=hY _ _ _ _ _ _ bu ae bk;have bt:=xbG (w:=W3) (A:=A4) (M:=M4) (ops:=opsAt Tryz.f67 3) V.size (fun j ch d _ _ cd=>V.tmps d cd) (xm1 xs l i (verA va vb vr vc vd ve vf vg vh) true)
  unfold wpListIn;rw [if_pos bt];refine ⟨fun _ _=>trivial,?_⟩
  have a2:=xnV a6 rfl hy;rw [Oper.semAt_eq _ _ _ (fun c=>by rw [xmj];simp),a2,Oper.uponIn_round]
  refine ⟨fun h=>by simp [wideR,Fence.wide] at h,?_⟩
  refine RoundIn.mono (show RoundIn Fence.wide 0 Tryz.prog l fn tmps bh body W3 _ from aj) ?_
  have a8:∀ y:Bool,(b3.put (some 16) (.bool y)).tmps.getD 13 undef=.bool true:=fun y=>by
   have:(b3.put (some 16) (.bool y)).tmps.getD 13 undef=b3.tmps.getD 13 undef:=by
    simp [Act.put,zu,Array.getElem?_setIfInBounds_ne]
   rw [this,b7.bool_inv]
  have a3:∀ y:Bool,(b3.put (some 16) (.bool y)).tmps.getD 16 undef=.bool y:=fun y=>by
   have:16<b3.tmps.size:=by rw [ag.size];omega
   simp [Act.put,zu,this]
  rintro e W4 (⟨rfl,A5,bb,bv,bp,bj⟩|⟨rfl,a9⟩)
  ·
   show wpListIn _ _ _ _ _ _ (b3.put itY.dst (.bool true)) W4;rw [xkP];have ak:=hJ _ _ _ bb;have U:Hd xs l i W4 A5 (b3.put (some 16) (.bool true)):=ag.keep 16 _ (by omega) bv bp bj
   have Z:SR W4 ⟨A5,W4,A5,xp6,0⟩ W4 A5 xp6 ⟨Ty xs l i true,[]⟩ (b3.put (some 16) (.bool true)):=by
    refine xeQ ak.2 U.size U.def0 fun t ht=>?_
    rcases lt20 ht with rfl|rfl|rfl|rfl|rfl|rfl|rfl|rfl|rfl|rfl|rfl|rfl|rfl|rfl|rfl|rfl|rfl|rfl|rfl|rfl <;>
     first|exact Rel.top _|exact U.r0|exact U.r1|exact U.r5|exact U.r6|exact U.r7|(rw [a8];exact Rel.bool true)|(rw [a3];exact Rel.bool true)
   refine xhy (Inv:=xqB.at 0) (ro:=none) (n:=0) (xp3 Tryz.prog _) ak.1 (xdp xhJ (xoM xs l i true)) (fun o ho=>xbR (xjt 3 (by omega)) o (List.mem_of_mem_drop ho)) Z (fun b6 W6 A6 M6 ac au=>?_)
   . have af:Rel W6 A5 xp6 (b6.tmps.getD 18 undef) (.bool false):=ac.pureRel rfl ak.2 (by show 18<20;omega) rfl rfl
     refine ax b6 W6 A5 (Hd.of ac rfl ak.2 (au.trans U.def0) rfl rfl rfl rfl rfl rfl) ?_ af.bool_inv;rw [O];exact ab _ _ _ _ bb ac.base
  ·
   show wpListIn _ _ _ _ _ _ (b3.put itY.dst (.bool false)) W4;rw [xkP];have Z:SR W4 ⟨fun _=>False,W4,fun _=>False,xp6,0⟩ W4 (fun _=>False) xp6 ⟨Tq false,[]⟩ (b3.put (some 16) (.bool false)):=by
    refine xeQ (fun _ h=>h.elim) (by simp [Act.put,ag.size,Tq]) ag.def0 fun t ht=>?_
    rcases lt20 ht with rfl|rfl|rfl|rfl|rfl|rfl|rfl|rfl|rfl|rfl|rfl|rfl|rfl|rfl|rfl|rfl|rfl|rfl|rfl|rfl <;>
     first|exact Rel.top _|(rw [a8];exact Rel.bool true)|(rw [a3];exact Rel.bool false)
   refine xhy (Inv:=xqB.at 0) (ro:=none) (n:=0) (xp3 Tryz.prog _) (a1 _ _ a9) (xdp xhJ xoO) (fun o ho=>xbR (xjt 3 (by omega)) o (List.mem_of_mem_drop ho)) Z (fun b6 W6 A6 M6 ac au=>?_)
   . have af:Rel W6 (fun _=>False) xp6 (b6.tmps.getD 18 undef) (.bool true):=ac.pureRel rfl (fun _ h=>h.elim) (by show 18<20;omega) rfl rfl
     refine wpIn_cond_true af.bool_inv (wpIn_ret (.inr ⟨rfl,au.trans ag.def0,(xs.take i).filter opV++[verA va vb vr vc vd ve vf vg vh],(xs.drop (i+1)).filter opV,?_,az _ _ _ a9 ac.base⟩));rw [<-O,<-List.filter_append,List.take_append_drop]
 ·
  rw [if_neg ho,zD] at O;have ho':xa8 va vb vr vc vd ve vf vg vh=false:=by simpa using ho
  have aq:xOps Tryz.prog EIt none (some true) (opsAt Tryz.f67 3) (opsAt Tryz.f67 3).toList ⟨Tv xs l i (verA va vb vr vc vd ve vf vg vh),Bv (verA va vb vr vc vd ve vf vg vh)⟩ some=some ⟨Tn xs l i (verA va vb vr vc vd ve vf vg vh) false,Bv (verA va vb vr vc vd ve vf vg vh)⟩:=by
   have:=xoN xs l i va vb vr vc vd ve vf vg vh;rw [ho'] at this;exact this
  refine xdT (k:=3) (by omega) q.1 aq am fun b3 W3 A4 M4 V ap=>?_
  have af:Rel W3 A1 xp6 (b3.tmps.getD 18 undef) (.bool false):=V.pureRel rfl q.2 (by show 18<20;omega) rfl rfl
  refine ax b3 W3 A1 (Hd.of V rfl q.2 ((ap.trans a7).trans Y.def0) rfl rfl rfl rfl rfl rfl) ?_ af.bool_inv;rw [O];exact ab _ _ _ _ ad V.base
end Go.Sim.M
namespace Go.Sim
theorem xj1 {β γ:Type} {P:Program} {Inv:IV} {nt:Nat} {l:Code} {live liveO:List Nat} {conv:List (Nat×Nat×TypeId)} {pv:Pat (List AV) β} {pb:Pat (List Box) γ} {g:β->γ->Bool×LR}
  (h:∀ b c r,g b c=(true,r)->Does P Inv l (fun e1 s1=>e1=r.eval.1/\s1=⟨mkTs nt (liveO.zip r.eval.2.1),r.eval.2.2⟩) ⟨mkTs nt (live.zip (pv.enc b)),pb.enc c⟩):PieceOk P Inv nt l (lpOf live liveO conv pv pb g):=fun vals H r e=>by
 unfold lpOf at e;dsimp only at e;split at e
 . rename_i b hb;split at e
   . rename_i c hc;simp only [z6] at e;rw [pv.ok _ _ hb,pb.ok _ _ hc];exact h b c r e
   . simp at e
 . simp at e
def isRng:Code->Bool
 | .rangeFunc ..=>true
 | _=>false
theorem xiA {P:Program} {Inv:IV} {E:Env} {c:Code} {ls:List Code} (h:xqc c=ls) (hl:∀ l,l∈ls->∀ lp,E.lp (xp7 l)=some lp->LoopOk P Inv E.nt l lp) {rc:Code} {lp0:Lp} (hr:PieceOk P Inv E.nt rc lp0) (he:E.lp (condId rc)=some lp0)
  (h1:(xp8 c).filter isRng=[rc]:=by kernel_rfl) (h2:((xp8 c).all fun d=>isRng d || (E.lp (condId d)).isNone)=true:=by kernel_rfl):LoOk P Inv E c:=by
 refine ⟨fun l hm=>hl l (by rw [<-h];exact hm),fun d hd lp hs=>?_⟩
 cases hg:isRng d with
 | true =>
  have hm:d∈(xp8 c).filter isRng:=List.mem_filter.2 ⟨hd,hg⟩;rw [h1,zv] at hm;subst hm;rw [he] at hs;simp only [z6] at hs;exact hs▸hr
 | false =>
  have:=zI.1 h2 d hd;rw [hg,hs] at this;simp at this
end Go.Sim
namespace Go.Sim.M
open Go.RowKit Go.Proofs
def rangesOf:Code->List Code
 | .seq a b=>rangesOf a++rangesOf b
 | .block _ c=>rangesOf c
 | .loop c=>rangesOf c
 | .cond _ a b=>rangesOf a++rangesOf b
 | .rangeFunc g ps a b=>[.rangeFunc g ps a b]
 | _=>[]
noncomputable def rgOf (fn:Func):Code:=(rangesOf (fn.body.getD .skip)).getD 0 .skip
noncomputable def rgA:Code->Code
 | .rangeFunc _ _ a _=>a
 | _=>.skip
noncomputable def rgB:Code->Code
 | .rangeFunc _ _ _ b=>b
 | _=>.skip
def isVb:AV->Bool
 | .agg [.int .i64 _,.int .i64 _,.list 3 _,.int .i64 _,.int .i64 _,.int .i64 _,.int .i64 _,.int .i64 _,.int .i64 _]=>true
 | _=>false
theorem xjS {x:AV} (h:isVb x=true):IsV x:=by
 unfold isVb at h;split at h
 . exact ⟨_,_,_,_,_,_,_,_,_,rfl⟩
 . simp at h
def factA:AV->AV
 | .agg [_,_,r,c,d,_,_,_,_]=>.agg [r,c,d]
 | x=>x
theorem xeA (k:AV->AV):∀ (l:List AV) (v:Nat) (ys:List AV),l.foldl (stepS (ρ:=Unit) fun (s:Nat×List AV) x=>Sum.inl (s.1+1,s.2++[k x])) (Sum.inl (v,ys))=Sum.inl (v+l.length,ys++l.map k)
 | [],v,ys=>by simp
 | x::l,v,ys=>by
  rw [List.foldl_cons];show l.foldl _ (Sum.inl (v+1,ys++[k x]))=_;rw [xeA k l (v+1) (ys++[k x])];simp only [zF,zV,zw,List.singleton_append];congr 2;omega
theorem xeJ {pre q:List AV} {x:AV} {xs:List AV} {op:AV->Bool} (h:pre++x::q=xs.filter op):x∈xs/\pre.length<xs.length:=by
 have hm:x∈xs.filter op:=by rw [<-h];simp
 have hl:=List.length_filter_le op xs;rw [<-h] at hl;simp only [z8,zF] at hl;exact ⟨(List.mem_filter.1 hm).1,by omega⟩
theorem id0:(0:Id)=.b 0:=rfl
theorem id1:(1:Id)=.b 1:=rfl
theorem id2:(2:Id)=.b 2:=rfl
theorem id3:(3:Id)=.b 3:=rfl
theorem id4:(4:Id)=.b 4:=rfl
noncomputable abbrev xk4:Env:=xcC.E.fn 18 2 (lsOf []) (xqf [])
theorem xo3:xpU Tryz.prog ⟨(xqB).inv,2,false⟩ xk4:=⟨fun g a r h=>xcC.ok.1 g a r h,fun g a H r H' h=>xcC.ok.2 g a H r H' h⟩
noncomputable abbrev xk5 (xs:List AV):List AV:=mkTs 18 [(3,.own 0 0 0 0),(6,.func 67 [.eptr 1 [.list 9 xs] 0 0])]
def xjy (s:Nat×List AV):List Box:=[⟨0,1,26,[.osl 1 s.1 0 s.2.length],false,false⟩,⟨s.1,3,60,s.2,false,true⟩]
theorem xph (xs ys:List AV) (v n:Nat) (a b:Int) (r:List AV) (c d e f g h:Int):XB Tryz.prog xk4 (rgA (rgOf Tryz.f12)) (rgB (rgOf Tryz.f12)) ((xk5 xs).set 7 (verA a b r c d e f g h)) [⟨0,1,26,[.osl 1 v 0 n],false,false⟩,⟨v,3,60,ys,false,true⟩] =
 br (v==v&&(n==ys.length&&(decide ((n+1)*40<=140737488355328)&&decide (n+1<=4611686018427387904)))) (some (.normal,[⟨0,1,26,[.osl 1 (v+1) 0 (n+1)],false,false⟩,⟨v+1,3,60,ys++[.agg [.list 3 r,.int .i64 c,.int .i64 d]],false,true⟩])) none:=by kernel_rfl
theorem xo1:LoOk Tryz.prog ⟨(xqB).inv,2,false⟩ xk4 (rgA (rgOf Tryz.f12)):=xc1 (by kernel_rfl)
theorem xo2:LoOk Tryz.prog ⟨(xqB).inv,2,false⟩ xk4 (rgB (rgOf Tryz.f12)):=xc1 (by kernel_rfl)
theorem xnE:rgOf Tryz.f12=.rangeFunc (.tmp 6) #[7] (rgA (rgOf Tryz.f12)) (rgB (rgOf Tryz.f12)):=by kernel_rfl
theorem xpg (xs:List AV) (s:Nat×List AV):normS 0 [] [3] ⟨xk5 xs,xjy s⟩=some ([.own 0 0 0 0],[⟨0,1,26,[.osl 1 0 0 s.2.length],false,false⟩,⟨0,3,60,s.2,false,true⟩]):=by
 obtain ⟨v,ys⟩:=s;have hb:Nat.beq v v=true:=Nat.beq_refl v;simp [normS,normH,normF,convs,xqt,xqA,renOk,xql,rens,ren,renI,gather,refsOf,refsOf.refsL,xqe,xk5,xjy,mkTs,liveOf,pinsOk,nodupB,hb,id0,id1,id2,id3,id4,Id.base,Nat.beq,Nat.blt,Nat.ble]
def rfOk (k:Nat) (xs ys:List AV):Bool:=xs.all isVb&&decide ((ys.length+xs.length)*k<=140737488355328)
noncomputable def xdA:Lp:=lpOf [3,6] [3] [(3,3,60)] (xqC (xqP 0 0 0 0) (xqC (xqg 67 (xqC (pEptr 1 0 0 (xqC (xqT 9 xqG) xqE)) xqE)) xqE)) (xqC (xqQ 0 1 26 false false (xqC (xqO 1 0 0) xqE)) (xqC (xqQ 0 3 60 false true xqG) xqE))
 fun (_,(((xs,_),_),_)) ((n,_),(ys,_))=>(Nat.beq n ys.length&&rfOk 40 xs ys,.leaf .normal [.own 0 0 0 0] [⟨0,1,26,[.osl 1 0 0 (ys++(xs.filter opV).map factA).length],false,false⟩,⟨0,3,60,ys++(xs.filter opV).map factA,false,true⟩])
theorem xhQ:PieceOk Tryz.prog (xqB.at 0) 18 (rgOf Tryz.f12) xdA:=xj1 fun vv bb rr hh=>by
 obtain ⟨_,⟨⟨xs,_⟩,_⟩,_⟩:=vv;obtain ⟨⟨n,_⟩,⟨ys,_⟩⟩:=bb;obtain ⟨h1,rfl⟩:=Prod.mk.inj hh;simp only [rfOk,zf,zl] at h1;obtain ⟨hn,hv,hb⟩:=h1;obtain rfl:=zg hn;have hV:∀ x,x∈xs->IsV x:=fun x hx=>xjS (zI.1 hv x hx)
 rw [xnE];refine xhH (xam (xgE (Inv:=xqB.at 0) (xp3 Tryz.prog _) rfl (xs:=xs) (op:=opV) (T:=xk5 xs) (n:=2) (σ:=Nat×List AV) (ρ:=Unit) xjy (fun _=>[]) (fun s x=>.inl (s.1+1,s.2++[factA x])) (fun _=>rfl) (s0:=(0,ys)) (xe9 xs hV (by omega)) rfl rfl ?_) ?_)
 . intro pre s x O J hf;obtain ⟨hx,hl⟩:=xeJ J;rw [xeA] at hf;simp only [Sum.inl.injEq] at hf;obtain ⟨a,b,r,c,d,e,f,g,h,rfl⟩:=hV x hx;have Q:s.2.length=ys.length+pre.length:=by rw [<-hf];simp
   have hc:(s.1==s.1&&(s.2.length==s.2.length&&(decide ((s.2.length+1)*40<=140737488355328)&&decide (s.2.length+1<=4611686018427387904))))=true:=by
    simp only [beq_self_eq_true,Bool.true_and,zf,zl];omega
   have q:=xph xs s.2 s.1 s.2.length a b r c d e f g h;rw [hc] at q;refine xam (xgM xp2 (xp3 Tryz.prog _) rfl xo3 xo1 xo2 q) fun e1 s1 ⟨g1,g2⟩=>⟨g1,xam g2 fun e2 s2 ⟨k1,T',k2⟩=>⟨k1,T',?_⟩⟩
   have:xjy (s.1+1,s.2++[factA (verA a b r c d e f g h)])=[⟨0,1,26,[.osl 1 (s.1+1) 0 (s.2.length+1)],false,false⟩,⟨s.1+1,3,60,s.2++[.agg [.list 3 r,.int .i64 c,.int .i64 d]],false,true⟩]:=by
    simp [xjy,factA,verA]
   rw [this];exact k2
 . intro e1 s1 hq;rw [xeA] at hq;obtain ⟨rfl,rfl⟩:=hq;exact ⟨_,xb6 (xpg xs _),rfl,rfl⟩
noncomputable abbrev xk6:Env:=xcC.E.fn 16 3 (lsOf []) (xqf [])
theorem xnv:xpU Tryz.prog ⟨(xqB).inv,3,false⟩ xk6:=⟨fun g a r h=>xcC.ok.1 g a r h,fun g a H r H' h=>xcC.ok.2 g a H r H' h⟩
noncomputable abbrev xmQ (xs:List AV):List AV:=mkTs 16 [(3,.own 0 0 0 0),(4,.own 1 0 0 0),(5,.own 2 0 0 0),(8,.func 67 [.eptr 1 [.list 9 xs] 0 0])]
def xip (id:Int) (z:AV) (t:Bool):List Box:=[⟨0,1,3,[.int .i64 id],false,true⟩,⟨0,9,58,[z],false,true⟩,⟨0,1,4,[.bool t],false,true⟩]
theorem xpi (xs:List AV) (id:Int) (z:AV) (t:Bool) (a b:Int) (r:List AV) (c d e f g h:Int):XB Tryz.prog xk6 (rgA (rgOf Tryz.f78)) (rgB (rgOf Tryz.f78)) ((xmQ xs).set 9 (verA a b r c d e f g h)) (xip id z t) =
 br (a==id) (some (.ret,xip id (verA a b r c d e f g h) true)) (some (.normal,xip id z t)):=by kernel_rfl
theorem xnt:LoOk Tryz.prog ⟨(xqB).inv,3,false⟩ xk6 (rgA (rgOf Tryz.f78)):=xc1 (by kernel_rfl)
theorem xnu:LoOk Tryz.prog ⟨(xqB).inv,3,false⟩ xk6 (rgB (rgOf Tryz.f78)):=xc1 (by kernel_rfl)
theorem xnF:rgOf Tryz.f78=.rangeFunc (.tmp 8) #[9] (rgA (rgOf Tryz.f78)) (rgB (rgOf Tryz.f78)):=by kernel_rfl
theorem xoB (xs:List AV) (id:Int) (z:AV) (t:Bool):normS 0 [] [4,5] ⟨xmQ xs,xip id z t⟩=some ([.own 0 0 0 0,.own 1 0 0 0],[⟨0,9,58,[z],false,true⟩,⟨0,1,4,[.bool t],false,true⟩]):=by kernel_rfl
def idA:AV->Int
 | .agg [.int _ a,_,_,_,_,_,_,_,_]=>a
 | _=>0
noncomputable def findA (id:Int) (xs:List AV):Option AV:=(xs.filter opV).find? fun x=>idA x==id
theorem xiQ (id:Int):∀ l:List AV,l.foldl (stepS fun (_:Unit) x=>br (idA x==id) (Sum.inr x) (.inl ())) (.inl ())=match l.find? fun x=>idA x==id with|some x=>.inr x|none=>.inl ()
 | []=>rfl
 | x::l=>by
  rw [List.foldl_cons,List.find?_cons];show l.foldl _ (br (idA x==id) (Sum.inr x) (.inl ()))=_;cases h:idA x==id with
  | true=>exact xgG _ _ _
  | false=>exact xiQ id l
def exA (x:AV):AV:=.agg [.int .i64 (x.cells.getD 0 .top).toInt,.int .i64 (x.cells.getD 1 .top).toInt,.list 3 (x.cells.getD 2 .top).toList,.int .i64 (x.cells.getD 3 .top).toInt,.int .i64 (x.cells.getD 4 .top).toInt,.int .i64 (x.cells.getD 5 .top).toInt,.int .i64 (x.cells.getD 6 .top).toInt,.int .i64 (x.cells.getD 7 .top).toInt,.int .i64 (x.cells.getD 8 .top).toInt]
theorem xo8 {x:AV} (h:IsV x):exA x=x:=by
 obtain ⟨a,b,r,c,d,e,f,g,i,rfl⟩:=h;rfl
noncomputable def xd4:Lp:=lpOf [3,4,5,8] [4,5] [] (xqC (xqP 0 0 0 0) (xqC (xqP 1 0 0 0) (xqC (xqP 2 0 0 0) (xqC (xqg 67 (xqC (pEptr 1 0 0 (xqC (xqT 9 xqG) xqE)) xqE)) xqE)))) (xqC (xqQ 0 1 3 false true (xqC (pInt .i64) xqE)) (xqC (xqQ 0 9 58 false true (xqC xqG xqE)) (xqC (xqQ 0 1 4 false true (xqC pBool xqE)) xqE)))
 fun (_,(_,(_,(((xs,_),_),_)))) ((id,_),((z,_),((t,_),_)))=>(xs.all isVb&&decide (xs.length<4611686018427387904),
  .node (findA id xs).isSome (.leaf .ret [.own 0 0 0 0,.own 1 0 0 0] [⟨0,9,58,[exA ((findA id xs).getD .top)],false,true⟩,⟨0,1,4,[.bool true],false,true⟩]) (.leaf .normal [.own 0 0 0 0,.own 1 0 0 0] [⟨0,9,58,[z],false,true⟩,⟨0,1,4,[.bool t],false,true⟩]))
theorem xiy:PieceOk Tryz.prog (xqB.at 0) 16 (rgOf Tryz.f78) xd4:=xj1 fun vv bb rr hh=>by
 obtain ⟨_,_,_,⟨⟨xs,_⟩,_⟩,_⟩:=vv;obtain ⟨⟨id,_⟩,⟨z,_⟩,⟨t,_⟩,_⟩:=bb;obtain ⟨h1,rfl⟩:=Prod.mk.inj hh;simp only [zf,zl] at h1;have hV:∀ x,x∈xs->IsV x:=fun x hx=>xjS (zI.1 h1.1 x hx)
 rw [xnF];refine xhH (xam (xgE (Inv:=xqB.at 0) (xp3 Tryz.prog _) rfl (xs:=xs) (op:=opV) (T:=xmQ xs) (n:=3) (σ:=Unit) (ρ:=AV) (fun _=>xip id z t) (fun x=>xip id x true) (fun _ x=>br (idA x==id) (.inr x) (.inl ())) (fun _=>rfl) (s0:=()) (xe9 xs hV h1.2) rfl rfl ?_) ?_)
 . intro pre s x U Q hf;obtain ⟨hx,hl⟩:=xeJ Q;obtain ⟨a,b,r,c,d,e,f,g,h,rfl⟩:=hV x hx;have q:=xpi xs id z t a b r c d e f g h;have J:idA (verA a b r c d e f g h)=a:=rfl;rw [J];cases hc:a==id with
   | true =>
    rw [hc] at q;exact xam (xgM xp2 (xp3 Tryz.prog _) rfl xnv xnt xnu q) fun e1 s1 ⟨g1,g2⟩=>⟨g1,xam g2 fun e2 s2 ⟨k1,T',k2⟩=>⟨k1,T',k2⟩⟩
   | false =>
    rw [hc] at q;exact xam (xgM xp2 (xp3 Tryz.prog _) rfl xnv xnt xnu q) fun e1 s1 ⟨g1,g2⟩=>⟨g1,xam g2 fun e2 s2 ⟨k1,T',k2⟩=>⟨k1,T',k2⟩⟩
 . intro e1 s1 hq;rw [xiQ] at hq;unfold findA;cases hf:(xs.filter opV).find? (fun x=>idA x==id) with
   | some x =>
    rw [hf] at hq;obtain ⟨rfl,rfl⟩:=hq;have O:exA ((some x).getD .top)=x:=xo8 (hV x (List.mem_filter.1 (List.mem_of_find?_eq_some hf)).1);refine ⟨_,xb6 (xoB xs id x true),rfl,?_⟩;simp only [LR.eval,O,zk];rfl
   | none =>
    rw [hf] at hq;obtain ⟨rfl,rfl⟩:=hq;exact ⟨_,xb6 (xoB xs id z t),rfl,rfl⟩
noncomputable abbrev xk7:Env:=xcC.E.fn 67 5 (lsOf []) (xqf [])
theorem xo6:xpU Tryz.prog ⟨(xqB).inv,5,false⟩ xk7:=⟨fun g a r h=>xcC.ok.1 g a r h,fun g a H r H' h=>xcC.ok.2 g a H r H' h⟩
noncomputable abbrev xk8 (xs:List AV):List AV:=mkTs 67 [(6,.own 0 0 0 0),(7,.own 1 0 0 0),(8,.func 47 [.own 0 0 0 0,.own 1 0 0 0]),(9,.own 2 0 0 0),(24,.func 67 [.eptr 1 [.list 9 xs] 0 0])]
def xhp (nx bs:List AV) (m:Nat) (s:Nat×List AV):List Box:=[⟨0,1,26,[.list 3 nx],false,true⟩,⟨0,1,75,[.osl 3 0 0 m],false,false⟩,⟨0,1,22,[.osl 4 s.1 0 s.2.length],false,false⟩,⟨0,1,4,bs,false,true⟩,⟨s.1,9,58,s.2,false,true⟩]
theorem xpk (xs nx bs ys:List AV) (m v n:Nat) (a b:Int) (r:List AV) (c d e f g h:Int):XB Tryz.prog xk7 (rgA (rgOf Tryz.f18)) (rgB (rgOf Tryz.f18)) ((xk8 xs).set 25 (verA a b r c d e f g h)) [⟨0,1,26,[.list 3 nx],false,true⟩,⟨0,1,75,[.osl 3 0 0 m],false,false⟩,⟨0,1,22,[.osl 4 v 0 n],false,false⟩,⟨0,1,4,bs,false,true⟩,⟨v,9,58,ys,false,true⟩] =
 br (v==v&&(n==ys.length&&(decide ((n+1)*88<=140737488355328)&&decide (n+1<=4611686018427387904)))) (some (.normal,[⟨0,1,26,[.list 3 nx],false,true⟩,⟨0,1,75,[.osl 3 0 0 m],false,false⟩,⟨0,1,22,[.osl 4 (v+1) 0 (n+1)],false,false⟩,⟨0,1,4,bs,false,true⟩,⟨v+1,9,58,ys++[verA a b r c d e f g h],false,true⟩])) none:=by kernel_rfl
theorem xo4:LoOk Tryz.prog ⟨(xqB).inv,5,false⟩ xk7 (rgA (rgOf Tryz.f18)):=xc1 (by kernel_rfl)
theorem xo5:LoOk Tryz.prog ⟨(xqB).inv,5,false⟩ xk7 (rgB (rgOf Tryz.f18)):=xc1 (by kernel_rfl)
theorem xnG:rgOf Tryz.f18=.rangeFunc (.tmp 24) #[25] (rgA (rgOf Tryz.f18)) (rgB (rgOf Tryz.f18)):=by kernel_rfl
theorem xpj (xs nx bs:List AV) (m:Nat) (s:Nat×List AV):normS 0 [] [6,7,8,9] ⟨xk8 xs,xhp nx bs m s⟩=some ([.own 0 0 0 0,.own 1 0 0 0,.func 47 [.own 0 0 0 0,.own 1 0 0 0],.own 2 0 0 0],xhp nx bs m (0,s.2)):=by
 obtain ⟨v,ys⟩:=s;have hb:Nat.beq v v=true:=Nat.beq_refl v;simp [normS,normH,normF,convs,xqt,xqA,renOk,xql,rens,ren,renI,gather,refsOf,refsOf.refsL,xqe,xk8,xhp,mkTs,liveOf,pinsOk,nodupB,hb,id0,id1,id2,id3,id4,Id.base,Nat.beq,Nat.blt,Nat.ble]
noncomputable def xcx:Lp:=lpOf [6,7,8,9,24] [6,7,8,9] [(9,9,58)] (xqC (xqP 0 0 0 0) (xqC (xqP 1 0 0 0) (xqC (xqg 47 (xqC (xqP 0 0 0 0) (xqC (xqP 1 0 0 0) xqE))) (xqC (xqP 2 0 0 0) (xqC (xqg 67 (xqC (pEptr 1 0 0 (xqC (xqT 9 xqG) xqE)) xqE)) xqE)))))
  (xqC (xqQ 0 1 26 false true (xqC (xqT 3 xqG) xqE)) (xqC (xqQ 0 1 75 false false (xqC (xqO 3 0 0) xqE)) (xqC (xqQ 0 1 22 false false (xqC (xqO 4 0 0) xqE)) (xqC (xqQ 0 1 4 false true xqG) (xqC (xqQ 0 9 58 false true xqG) xqE)))))
 fun (_,(_,(_,(_,(((xs,_),_),_))))) ((nx,_),((m,_),((n,_),(bs,(ys,_)))))=>(Nat.beq n ys.length&&rfOk 88 xs ys,
  .leaf .normal [.own 0 0 0 0,.own 1 0 0 0,.func 47 [.own 0 0 0 0,.own 1 0 0 0],.own 2 0 0 0] (xhp nx bs m (0,ys++xs.filter opV)))
theorem xgW:PieceOk Tryz.prog (xqB.at 0) 67 (rgOf Tryz.f18) xcx:=xj1 fun vv bb rr hh=>by
 obtain ⟨_,_,_,_,⟨⟨xs,_⟩,_⟩,_⟩:=vv;obtain ⟨⟨nx,_⟩,⟨m,_⟩,⟨n,_⟩,bs,ys,_⟩:=bb;obtain ⟨h1,rfl⟩:=Prod.mk.inj hh;simp only [rfOk,zf,zl] at h1;obtain ⟨hn,hv,hb⟩:=h1;obtain rfl:=zg hn;have hV:∀ x,x∈xs->IsV x:=fun x hx=>xjS (zI.1 hv x hx)
 rw [xnG];refine xhH (xam (xgE (Inv:=xqB.at 0) (xp3 Tryz.prog _) rfl (xs:=xs) (op:=opV) (T:=xk8 xs) (n:=5) (σ:=Nat×List AV) (ρ:=Unit) (xhp nx bs m) (fun _=>[]) (fun s x=>.inl (s.1+1,s.2++[id x])) (fun _=>rfl) (s0:=(0,ys)) (xe9 xs hV (by omega)) rfl rfl ?_) ?_)
 . intro pre s x O J hf;obtain ⟨hx,hl⟩:=xeJ J;rw [xeA] at hf;simp only [Sum.inl.injEq] at hf;obtain ⟨a,b,r,c,d,e,f,g,h,rfl⟩:=hV x hx;have Q:s.2.length=ys.length+pre.length:=by rw [<-hf];simp
   have hc:(s.1==s.1&&(s.2.length==s.2.length&&(decide ((s.2.length+1)*88<=140737488355328)&&decide (s.2.length+1<=4611686018427387904))))=true:=by
    simp only [beq_self_eq_true,Bool.true_and,zf,zl];omega
   have q:=xpk xs nx bs s.2 m s.1 s.2.length a b r c d e f g h;rw [hc] at q;refine xam (xgM xp2 (xp3 Tryz.prog _) rfl xo6 xo4 xo5 q) fun e1 s1 ⟨g1,g2⟩=>⟨g1,xam g2 fun e2 s2 ⟨k1,T',k2⟩=>⟨k1,T',?_⟩⟩
   have:xhp nx bs m (s.1+1,s.2++[id (verA a b r c d e f g h)])=[⟨0,1,26,[.list 3 nx],false,true⟩,⟨0,1,75,[.osl 3 0 0 m],false,false⟩,⟨0,1,22,[.osl 4 (s.1+1) 0 (s.2.length+1)],false,false⟩,⟨0,1,4,bs,false,true⟩,⟨s.1+1,9,58,s.2++[verA a b r c d e f g h],false,true⟩]:=by
    simp [xhp]
   rw [this];exact k2
 . intro e1 s1 hq;rw [xeA] at hq;obtain ⟨rfl,rfl⟩:=hq;refine ⟨_,xb6 (xpj xs nx bs m _),rfl,?_⟩;simp [LR.eval];rfl
end Go.Sim.M
namespace Go.Sim.M
open Go.IntKind (i64 u64 u8)
open Go.RowKit Go.Proofs
def xaN (b:LA) (a:Int):Nat:=0+(gC b a 2).toList.length
def xbZ (b:LA) (a:Int):=decide (0+xaN b a<=([]++(gC b a 2).toList).length)&&true
def xbx (b:LA) (a:Int):=decide (xaN b a*32<=140737488355328)&&decide (xaN b a<=4611686018427387904)
def xcg {T:Type} (e:Int) (b:LA) (f:Int) (d:Nat) (a:Int) (c:LA) (δ:T) (κl:(Nat×Int×LA)->T) (κr:(Nat×LA)->T):T:=br (decide (a<f)) (br (ixI b a) (br (ixT b a 9 [Sh.int .i64,Sh.int .i64,Sh.list 3,Sh.int .i64,Sh.int .i64,Sh.int .i64,Sh.int .i64,Sh.int .i64,Sh.int .i64] 0) (br (decide ((gC b a 7).toInt>=e)) (κl (d,i64.wrap (a+1),c)) (br (decide ((gC b a 8).toInt>=e)) (br (xbx b a) (br (xbZ b a) (br (rmB d c 1 88) (κl (d+1,i64.wrap (a+1),c++[AV.agg [AV.int .i64 (gC b a 0).toInt,AV.int .i64 (gC b a 1).toInt,AV.list 3 (List.take (xaN b a) (List.drop 0 ([]++(gC b a 2).toList))),AV.int .i64 (gC b a 3).toInt,AV.int .i64 (gC b a 4).toInt,AV.int .i64 (gC b a 5).toInt,AV.int .i64 1099511627776,AV.int .i64 (gC b a 7).toInt,AV.int .i64 0]])) δ) δ) δ) (br (xbx b a) (br (xbZ b a) (br (rmB d c 1 88) (κl (d+1,i64.wrap (a+1),c++[AV.agg [AV.int .i64 (gC b a 0).toInt,AV.int .i64 (gC b a 1).toInt,AV.list 3 (List.take (xaN b a) (List.drop 0 ([]++(gC b a 2).toList))),AV.int .i64 (gC b a 3).toInt,AV.int .i64 (gC b a 4).toInt,AV.int .i64 (gC b a 5).toInt,AV.int .i64 (gC b a 6).toInt,AV.int .i64 (gC b a 7).toInt,AV.int .i64 (gC b a 8).toInt]])) δ) δ) δ))) δ) δ) (κr (d,c))
def xaR (d:Int) (e:LA) (f:Int):StT (Nat×Int×LA) (Nat×LA):=fun (b,c,a)=>xcg d e f b c a none inL inR
def xeu:=xcC.l 36 0 [4000054] [] Tryz.f26 0 lk0 [1,5,8,9,10] [5] [(5,9,58)] (q5 qI (xqO 0 0 0) (qL 9) qI qI) (q1 (qB 0 9 58 xqG)) (fun (d,b,e,f,c,_) (a,_)=>(xaR d e f,(b,c,a),fun p=>(.leaf (.exit 0) [AV.osl 0 0 0 p.1] [bF 0 9 58 p.2]))) (0,[]) fun (d,_,e,f,_,_) _ (b,c,a)=>(((d,b,e,f,c,()),(a,())),xcg d e f b c a none)
def xd3 (l:LA) (a:Int):=(Iter (xaR a l (↑l.length:Int)) (0,0,[])).getD (0,[])
def xd1 (l:LA) (a:Int):=(xd3 l a).fst
def xd2 (l:LA) (a:Int):=(xd3 l a).snd
def xev {T:Type} (l:LA) (a:Int) (δ:T) (κ:LA->T):T:=br ((Iter (xaR a l (↑l.length:Int)) (0,0,[])).isSome) (br (decide (0+xd1 l a<=(xd2 l a).length)&&true) (κ (List.take (xd1 l a) (List.drop 0 (xd2 l a)))) δ) δ
def xdk (l:LA) (a:Int):=xev l a none some
def xnB:EO:=xcC.f Tryz.func26 36 0 [4000054] [(3,xeu.lp)] (lk1 xeu.ok) (u2 (uL 9) uI) (fun (l,a,_) _=>xev l a) (fun _ p=>AV.list 9 p) []
def xe7 {T:Type} (l:LA) (δ:T) (κ:Bool->T):T:=br ((xcW l).isSome) (br ((xex ((xcW l).getD []) 16).isSome) (κ ((xex ((xcW l).getD []) 16).getD false)) δ) δ
def xeW (l:LA):=xe7 l none some
def xlU:EO:=xnB.f Tryz.func9 6 0 [] [] lk0 (u1 (uL 9)) (fun (l,_) _=>xe7 l) (fun _ p=>AV.bool p) false
end Go.Sim.M
namespace Go.Sim
def stepX (P:Program) (E:Env) (live liveO:List Nat) (conv:List (Nat×Nat×TypeId)) (c:Code) (s:List AV×List Box):Option ((List AV×List Box)⊕{r:Exit×List AV×List Box // r.1≠.normal}) :=
 match XR P E live liveO conv c s.1 s.2 with
 | some (.normal,v,H)=>some (.inl (v,H))
 | some (.exit i,v,H)=>some (.inr ⟨(.exit i,v,H),by simp⟩)
 | some (.ret,v,H)=>some (.inr ⟨(.ret,v,H),by simp⟩)
 | _=>none
def closedLp (P:Program) (E:Env) (live liveO:List Nat) (conv:List (Nat×Nat×TypeId)) (c:Code) (n:Nat):Lp:=⟨live,liveO,conv,fun vals H =>
 match iterN (stepX P E live liveO conv c) n (vals,H) with
 | some r=>some (true,.leaf r.1.1 r.1.2.1 r.1.2.2)
 | none=>none⟩
theorem xg1 {P:Program} {Inv:IV} {E:Env} (J:P.follows .mixedOrders=true) (U:InvOk Inv) (q:Inv.pin=E.pin) (Q:xpU P Inv E) {c:Code} (O:LoOk P Inv E c) {live liveO:List Nat} {conv:List (Nat×Nat×TypeId)} {n:Nat} :
  LoopOk P Inv E.nt c (closedLp P E live liveO conv c n):=fun vals H r h=>by
 simp only [closedLp] at h;split at h
 case h_2=>simp at h
 rename_i r0 hr;simp only [z6,zb,true_and] at h;subst h;exact xh0 J U q Q O (σ:=List AV×List Box) (ρ:={r:Exit×List AV×List Box // r.1≠.normal}) (step:=stepX P E live liveO conv c) (fun s=>s) (fun r=>.leaf r.1.1 r.1.2.1 r.1.2.2) (fun r=>r.2)
  (fun s r hs=>by
   unfold stepX at hs;split at hs<;>simp only [z6,reduceCtorEq] at hs;all_goals (subst hs;rename_i hx;exact hx)) (s:=(vals,H)) (r:=r0) (xeD.2 ⟨n,hr⟩)
end Go.Sim
namespace Go.Sim.M
open Go.RowKit Go.Proofs
def mmA (g:FuncId):Bool:=([123,125,
 114,138,151,
 90,112,128,
 110,127,144,
 49,76,95,
 116,89,122,100,47]:List Nat).contains g
noncomputable def EA0:Env:={ E0 with ls:=lsOf [54,60,124,58],fuel:=1000 }
theorem xju:xpU P0 xqB EA0:=xnq
noncomputable def runA (E:Env) (fn:Func):List AV->Option (Bool×AV):=fun xs=>match XF P0 E fn (fn.body.getD .skip) xs with
 | some r=>some (true,r)
 | none=>none
theorem xfu {E:Env} {f:FuncId} {fn:Func} (O:xpU P0 (xqB.at 0) E) (J:E.pin=0) (hf:P0.funcs[f]?=some fn) (hb:fn.body.isSome=true) (q:(fn.name == "runtime.NumGoroutine")=false) (Q:LoOk P0 (xqB.at 0) E (fn.body.getD .skip)):OcOk P0 xqB f (runA E fn):=fun xs r h=>by
 unfold runA at h;split at h
 case h_2=>simp at h
 rename_i r0 hr;simp only [z6,zb,true_and] at h;subst h;exact xeB (p:=0) (xgO xp2 (xp3 P0 _) J.symm O hf hb q Q hr)
noncomputable def EAr:Env:={ Env.deep P0 mmA EA0 10 with pin:=0,nt:=60,ls:=lsOf [] }
theorem xlR:xpU P0 (xqB.at 0) EAr:=xcH xp2 mmA (xp3 P0 0) xju (fun _=>rfl) 10
noncomputable def xlQ:Lp:=closedLp P0 EAr [3,4,11,12,13] [4] [(4,2,240654483580)] (xpY Tryz.f88 0) 100
noncomputable def EAr1:Env:={ EAr with lp:=xqf [(xp7 (xpY Tryz.f88 0),xlQ)] }
theorem xnz:xpU P0 (xqB.at 0) EAr1:=xlR
noncomputable def xkZ:List AV->Option (Bool×AV):=runA EAr1 Tryz.f88
theorem xoa:OcOk P0 xqB 88 xkZ:=xfu xnz rfl Tryz.func88 rfl (by kernel_rfl) (xeI (ls:=[xpY Tryz.f88 0]) (by kernel_rfl) (fun l hl lp hs=>by
 simp only [zC,List.not_mem_nil,or_false] at hl;subst hl;rw [show EAr1.lp (xp7 (xpY Tryz.f88 0))=some xlQ by kernel_rfl] at hs
 cases hs;exact xg1 (E:=EAr) xp2 (xp3 P0 _) rfl xlR (xcu fun _=>rfl)))
noncomputable def EAlv (p:Nat):Env:={ Env.deep P0 mmA EA0 6 with pin:=p,nt:=71,ls:=lsOf [] }
theorem xkG (p:Nat):xpU P0 (xqB.at p) (EAlv p):=xc6 (xcH xp2 mmA (xp3 P0 0) xju (fun _=>rfl) 6)
noncomputable def xkF (p:Nat):Lp:=closedLp P0 (EAlv p) [0,1,2,3,4] [] [(3,0,0)] (xpY Tryz.f89 0) 100
noncomputable def EAlv1 (p:Nat):Env:={ EAlv p with lp:=xqf [(xp7 (xpY Tryz.f89 0),xkF p)] }
theorem xmP (p:Nat):xpU P0 (xqB.at p) (EAlv1 p):=xkG p
noncomputable def xjU:List AV->List Box->Option (Bool×AV×List Box):=fun xs H=>match XFM P0 (EAlv1 H.length) Tryz.f89 (Tryz.f89.body.getD .skip) xs H with
 | some (r,H')=>some (true,r,H')
 | none=>none
theorem xoR:OmOk P0 xqB 89 xjU:=fun xs H r H' h=>by
 unfold xjU at h;split at h
 case h_2=>simp at h
 rename_i r0 H0 hr;simp only [z6,zb,true_and] at h;obtain ⟨rfl,rfl⟩:=h;refine xeV (p:=H.length) (xgn xp2 (xp3 P0 _) rfl (xmP H.length) rfl Tryz.func89 rfl (by kernel_rfl) (xeI (ls:=[xpY Tryz.f89 0,xpY Tryz.f89 1]) (by kernel_rfl) (fun l hl lp hs=>?_)) hr)
 simp only [zC,List.not_mem_nil,or_false] at hl;rcases hl with rfl|rfl
 . rw [show (EAlv1 H.length).lp (xp7 (xpY Tryz.f89 0))=some (xkF H.length) by kernel_rfl] at hs
   cases hs;exact xg1 (E:=EAlv H.length) xp2 (xp3 P0 _) rfl (xkG H.length) (xcu fun _=>rfl)
 . rw [show (EAlv1 H.length).lp (xp7 (xpY Tryz.f89 1))=none by kernel_rfl] at hs
   simp at hs
noncomputable def EAs:Env:=(EA0.with 88 xkZ).withM 89 xjU
theorem xlS:xpU P0 xqB EAs:=(xju.with xoa).withM xoR
noncomputable def EAd:Env:={ Env.deep P0 mmA EAs 14 with pin:=0 }
theorem xjv:xpU P0 (xqB.at 0) EAd:=xc6 (xcH xp2 mmA (xp3 P0 0) xlS (fun _=>rfl) 14)
noncomputable def EAf:Env:={ EAd with nt:=18,ls:=lsOf [],lp:=xqf [(3000004,xdA)] }
theorem xoq:xpU P0 (xqB.at 0) EAf:=xjv
noncomputable def xiN:List AV->Option (Bool×AV):=runA EAf Tryz.f12
theorem xl9:OcOk P0 xqB 12 xiN:=xfu xoq rfl Tryz.func12 rfl (by kernel_rfl) (xiA (ls:=[]) (by kernel_rfl) (fun l hl=>by simp at hl) (lp0:=xdA) xhQ (by kernel_rfl))
noncomputable def EAg:Env:={ EAd with nt:=16,ls:=lsOf [],lp:=xqf [(3000003,xd4)] }
theorem xor:xpU P0 (xqB.at 0) EAg:=xjv
noncomputable def xkO:List AV->Option (Bool×AV):=runA EAg Tryz.f78
theorem xnQ:OcOk P0 xqB 78 xkO:=xfu xor rfl Tryz.func78 rfl (by kernel_rfl) (xiA (ls:=[]) (by kernel_rfl) (fun l hl=>by simp at hl) (lp0:=xd4) xiy (by kernel_rfl))
noncomputable def EAb:Env:={ EAd with nt:=67,ls:=lsOf [58],lp:=xqf [(3000007,xcx)] }
theorem xon:xpU P0 (xqB.at 0) EAb:=xjv
noncomputable def xkJ:List AV->Option (Bool×AV):=runA EAb Tryz.f18
theorem xnL:OcOk P0 xqB 18 xkJ:=xfu xon rfl Tryz.func18 rfl (by kernel_rfl) (xiA (ls:=[xpY Tryz.f18 0,xpY Tryz.f18 1]) (by kernel_rfl) (fun l hl lp hs=>by
 simp only [zC,List.not_mem_nil,or_false] at hl;rcases hl with rfl|rfl
 . rw [show EAb.lp (xp7 (xpY Tryz.f18 0))=none by kernel_rfl] at hs
   simp at hs
 . rw [show EAb.lp (xp7 (xpY Tryz.f18 1))=none by kernel_rfl] at hs
   simp at hs) (lp0:=xcx) xgW (by kernel_rfl))
noncomputable def EAt:Env:=((EAs.with 12 xiN).with 78 xkO).with 18 xkJ
theorem xlT:xpU P0 xqB EAt:=((xlS.with xl9).with xnQ).with xnL
noncomputable def EAtd:Env:={ Env.deep P0 mmA EAt 14 with pin:=0 }
theorem xkH:xpU P0 (xqB.at 0) EAtd:=xc6 (xcH xp2 mmA (xp3 P0 0) xlT (fun _=>rfl) 14)
noncomputable def EAa:Env:={ EAtd with ls:=lsOf [4000054,58,5000030,6000009] }
noncomputable def xjD:List AV->Option (Bool×AV):=runA EAa Tryz.f22
theorem xmR:OcOk P0 xqB 22 xjD:=xfu (E:=EAa) xkH rfl Tryz.func22 rfl (by kernel_rfl) (xcu fun _=>rfl)
noncomputable def EAo:Env:={ EAtd with ls:=lsOf [4000054] }
noncomputable def xk0:List AV->Option (Bool×AV):=runA EAo Tryz.f26
theorem xok:OcOk P0 xqB 26 xk0:=xfu (E:=EAo) xkH rfl Tryz.func26 rfl (by kernel_rfl) (xcu fun _=>rfl)
noncomputable def EAv:Env:={ (EAt.with 22 xjD).with 26 xk0 with ls:=EA0.ls }
theorem xos:xpU P0 xqB EAv:=(xlT.with xmR).with xok
noncomputable def EAe:Env:={ Env.deep P0 mmA EAv 14 with pin:=0 }
theorem xoo:xpU P0 (xqB.at 0) EAe:=xc6 (xcH xp2 mmA (xp3 P0 0) xos (fun _=>rfl) 14)
theorem xnK:XF P0 EAe Tryz.f10 (Tryz.f10.body.getD .skip) []=some (.bool true):=by kernel_rfl
def xiw:List AV->Option (Bool×AV)
 | []=>some (true,.bool true)
 | _=>none
theorem xnJ:OcOk P0 xqB 10 xiw:=fun xs r h=>by
 unfold xiw at h;split at h
 . simp only [z6,zb,true_and] at h;subst h;exact xeB (p:=0) (xgO xp2 (xp3 P0 _) rfl xoo Tryz.func10 rfl (by kernel_rfl) (xcu fun _=>rfl) xnK)
 . simp at h
noncomputable def EEW:Env:=xlU.E.with 10 xiw
theorem xot:xpU Tryz.prog xqB EEW:=xlU.ok.with xnJ
end Go.Sim.M
namespace Go.Sim.M
open Go.IntKind (i64 u64 u8)
open Go.RowKit Go.Proofs
def xce {T:Type} (l:LA) (a:Int) (δ:T) (κ:Bool->T):T:=br ((xeW l).isSome) (br (!(xeW l).getD false) (κ (true)) (br (decide (a<1)) (κ (true)) (br ((xdP l).isSome) (br ((xdP l).getD 0 != 0) (κ (true)) (br ((xdt l).isSome) (br (!(xdt l).getD false) (κ (true)) (br ((xdk l a).isSome) (br ((xdu l a).isSome) (br ((xbC ((xdk l a).getD []) ((xdu l a).getD [])).isSome) (br ((xbC ((xdk l a).getD []) ((xdu l a).getD [])).getD false) (κ (true)) (κ (false))) δ) δ) δ)) δ)) δ))) δ
def xcN (l:LA) (a:Int):=xce l a none some
def xgb:LA->Option (Bool×AV):=fnO (u2 (uL 9) uI) (fun (l,a,_) _=>xce l a) (fun _ p=>AV.bool p) false
theorem xga:OcOk P0 xqB 6 xgb:=fnC xot Tryz.func6 33 0 [] [] lk0
end Go.Sim.M
