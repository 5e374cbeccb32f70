/- Part 14 of the proof of the law. -/
import Derived.Test.YtckgiglpmfpagaaGreatDoorQA13
import Derived.RangeFuncSeq
set_option linter.unusedVariables false
set_option linter.unusedSimpArgs false
set_option linter.unnecessarySimpa false
set_option maxRecDepth 100000
noncomputable section
namespace Go.Sim
open Go.RowKit
theorem Ev.mv {w w':World} {A A':Nat->Prop} {M M':Id->Option MB} {B n:Nat} {H:List Box} {av:Nat->Prop} (hR:HR w A M B H) (he:Ev ⟨av,w,A,M,n⟩ w' A' M') (hn:H.length<=n):Mv w A M w' A' M' :=
 ⟨he.size,fun b hb hA=>he.keep b hb (.inl hA),he.less,he.more,fun id m hm=>he.ids id m (by
  obtain ⟨bx,h1,_⟩:=hR.box id m hm;exact Nat.lt_of_lt_of_le (xd8 h1) hn) hm,⟨fun b hb q=>he.keep b hb (.inr q),he.src⟩⟩
theorem Ev.over {av U:Nat->Prop} {W W2 W2b W3 W3b:World} {A1 A2 A3:Nat->Prop} {M1 M2 M3:Id->Option MB} {n l:Nat} (h1:Ev ⟨av,W,A1,M1,n⟩ W2 A2 M2) (h2:Ev ⟨U,W2b,A2,M2,n⟩ W3 A3 M3)
  (hb:∀ b,b≠l->W2b.heap[b]?=W2.heap[b]?) (hs:W2b.heap.size=W2.heap.size) (h3:∀ b,b≠l->W3b.heap[b]?=W3.heap[b]?) (Z:W3b.heap.size=W3.heap.size) (hl:W3b.heap[l]?=W.heap[l]?):Ev ⟨av,W,A1,M1,n⟩ W3b A3 M3:=by
 have hsz:W.heap.size<=W2.heap.size:=h1.size;have Y:W2b.heap.size<=W3.heap.size:=h2.size;have out:∀ b,b<W.heap.size->(∀ id m,M1 id=some m->0<m.cap->m.b≠b)->∀ id m,M2 id=some m->0<m.cap->m.b≠b:=fun b hb O id m hi h0 e=>by
  rcases h1.src id m hi h0 with ⟨i,m1,e1,e2,e3⟩|e1
  . exact O i m1 e1 e2 (by rw [<-e3,e])
  . simp only at e1;omega
 refine ⟨?_,fun b q J=>?_,fun b q hA=>?_,fun b q hA O=>?_,fun id m hi hm=>?_,fun id m' hi h0=>?_⟩
 . show W.heap.size<=W3b.heap.size;omega
 . simp only at q J |-;by_cases Q:b=l
   . rw [Q,hl]
   . have V:W3.heap[b]?=W2b.heap[b]?:=h2.keep b (by simp only [];omega) (by
      rcases J with J|J
      . exact .inl fun h=>J (h1.less b q h)
      . exact .inr (out b q J))
     rw [h3 b Q,V,hb b Q];exact h1.keep b q J
 . simp only at q;exact h1.less b q (h2.less b (by simp only [];omega) hA)
 . simp only at q hA O;exact h2.more b (by simp only [];omega) (h1.more b q hA O) (out b q O)
 . obtain ⟨m1,e1,e2⟩:=h1.ids id m hi hm;obtain ⟨m2,e3,e4⟩:=h2.ids id m1 hi e1;refine ⟨m2,e3,?_⟩;rcases e2 with rfl|e2<;>rcases e4 with rfl|e4
   . exact .inl rfl
   . exact .inr e4
   . exact .inr e2
   . exact .inr (Nat.lt_trans e2 e4)
 . rcases h2.src id m' hi h0 with ⟨i,m1,e1,e2,e3⟩|e1
   . rcases h1.src i m1 e1 e2 with ⟨i2,m2,g1,g2,g3⟩|g1
     . exact .inl ⟨i2,m2,g1,g2,by rw [e3,g3]⟩
     . exact .inr (by rw [e3];exact g1)
   . simp only at e1;exact .inr (by show W.heap.size<=_;omega)
theorem SR.grow {w0 w w':World} {A0:Cx} {A:Nat->Prop} {M:Id->Option MB} {s:St} {a:Act} (h:SR w0 A0 w A M s a) (hb:Below w.heap.size w w'):SR w0 A0 w' A M s a :=
 ⟨
  h.base.trans (hb.mono h.base.size),h.outer,h.size,fun t ht=>(h.tmps t ht).grow hb,h.heap.grow hb,h.defers.same fun D hD=>hb.block D (xaV hD),
  h.ev.step ⟨hb.size,fun b q _=>hb.block b q,fun _ _ h=>h,fun _ _ h _=>h,MExt.refl M,.of_new hb fun _ _ h=>.inl h⟩⟩
def IterC (P:Program) (Inv:IV) (fo:FuncId) (cl:AV) (xs:List AV) (op:AV->Bool):Prop :=
 Enters P fo/\∀ (w:World) (A:Nat->Prop) (lv:Value),Rel w A xr1 lv cl->∀ (l:Nat) (J:List AV->(Nat->Prop)->World->Prop) (Jx:List AV->World->Prop),
  (∀ pre A W W',J pre A W->Below W.heap.size W W'->J pre A W')->(∀ pre W W',Jx pre W->Below W.heap.size W W'->Jx pre W') ->
  (∀ pre A W,J pre A W->Inv W/\∀ b,A b->b<W.heap.size)->(∀ pre W,Jx pre W->Inv W) ->
  (∀ pre v x suf A W,pre++x::suf=xs.filter op->J pre A W->Rel W A xr1 v x->YieldAt Fence.wide 0 P l #[v] W fun e W' =>
   (e=.returned (.bool true)/\∃ A',J (pre++[x]) A' W'/\W.heap.size<=W'.heap.size/\(∀ b,b<W.heap.size->A' b->A b)/\∀ b,b<W.heap.size->¬ A b->W'.heap[b]?=W.heap[b]?) \/
   (e=.returned (.bool false)/\Jx (pre++[x]) W')) ->
  J [] A w->CallsIn Fence.wide 0 P fo #[.func (.yield l) #[] #[],lv] w fun e W'=>(∃ v,e=.returned v)/\((∃ A',J (xs.filter op) A' W')\/∃ pre suf,pre++suf=xs.filter op/\Jx pre W')
def stepS {σ ρ:Type} (step:σ->AV->σ⊕ρ):σ⊕ρ->AV->σ⊕ρ
 | .inl s,x=>step s x
 | .inr r,_=>.inr r
theorem xh4 {σ ρ:Type} (step:σ->AV->σ⊕ρ) (r:ρ):∀ l:List AV,l.foldl (stepS step) (.inr r)=.inr r
 | []=>rfl
 | x::l=>by simp only [List.foldl_cons,stepS];exact xh4 step r l
theorem xov {L L':List Nat} (h:L.map rmark=L'.map rmark):L=L':=by
 induction L generalizing L' with
 | nil=>cases L'<;>simp_all
 | cons D L ih =>
  cases L' with
  | nil=>simp at h
  | cons D' L' =>
   simp only [zU,List.cons.injEq,rmark,Deferred.mk.injEq,Target.collected.injEq,and_true] at h;obtain ⟨rfl,h⟩:=h;rw [ih h]
theorem xh2 {P:Program} {Inv:IV} (a0:InvOk Inv) (az:Inv.top=true) {fo:FuncId} {cl:AV} {xs:List AV} {op:AV->Bool} {g:Operand} {p:Tmp} {U Y:Code} {T:List AV} {n:Nat} {σ ρ:Type}
  (Hs:σ->List Box) (Ho:ρ->List Box) (step:σ->AV->σ⊕ρ) (ak:∀ s,(Hs s).length=n) {s0:σ} (hit:IterC P Inv fo cl xs op) (bb:cl.pure=true) (hg:St.eval ⟨T,Hs s0⟩ g=.func fo [cl])
  (ae:∀ pre s x ag,pre++x::ag=xs.filter op->pre.foldl (stepS step) (.inl s0)=.inl s->Does P ⟨Inv.inv,n,false⟩ U (fun e s1=>e=.normal/\Does P ⟨Inv.inv,n,false⟩ Y (fun e s'=>match step s x with
   | .inl s2=>e=.normal/\∃ T',Weak n s' ⟨T',Hs s2⟩
   | .inr r=>e=.ret/\∃ T',Weak n s' ⟨T',Ho r⟩) s1) ⟨T.set p x,Hs s⟩) :
  Does P Inv (.rangeFunc g #[p] U Y) (fun e s'=>match (xs.filter op).foldl (stepS step) (.inl s0) with
   | .inl s=>e=.normal/\s'=⟨T,Hs s⟩
   | .inr r=>e=.ret/\s'=⟨T,Ho r⟩) ⟨T,Hs s0⟩:=by
 intro w0 A0 w A M a Qc hI bw hs hQ ro an;have an:=an az;subst an;rw [xnC];have ay:=hs.eval g;rw [hg] at ay;obtain ⟨cv,bi,bv,bc⟩:=ay.func_inv;have bo:∃ lv,cv=#[lv]:=by
  obtain ⟨l⟩:=cv;match l,bv with
  | [lv],_=>exact ⟨lv,rfl⟩
 obtain ⟨lv,rfl⟩:=bo;have a6:Rel w A xr1 lv cl:=by
  have:=bc 0 (by simp)
  exact (show Rel w A M lv cl by simpa using this).pure bb
 have b1:=hs.heap.lt;obtain ⟨L0,a5,bz,a2⟩:=hs.defers;refine wpIn_rangeFunc ?_;intro fn b0;obtain ⟨q,O⟩:∃ q:LoopState->Option Code->Loop,q=fun st pe=>{ state:=st,pending:=pe,fn:=fn,tmps:=a.tmps,params:=#[p],assign:=U,body:=Y,defers:=w.heap.size }:=⟨_,rfl⟩
 obtain ⟨W1,af⟩:∃ W1,(w.alloc (.deferred (some []))).alloc (.loop (q .ready none))=W1:=⟨_,rfl⟩;have bn:W1.heap[w.heap.size+1]?=some (.loop (q .ready none)):=by
  rw [<-af];have:=World.alloc_heap_new (w.alloc (.deferred (some []))) (.loop (q .ready none));rwa [World.size_alloc] at this
 have bj:W1.heap[w.heap.size]?=some (.deferred (some [])):=by
  rw [<-af];exact (Below.heap_alloc _ _ _ (by simp)).trans (World.alloc_heap_new w _)
 have ar:Below w.heap.size w W1:=by
  rw [<-af];exact ((Below.refl _ w).alloc (zb _) _).alloc (by simp) _
 have bm:w0.heap.size<=w.heap.size:=hs.base.size;have bh:A0.w1.heap.size<=w.heap.size:=hs.ev.size;let J:List AV->(Nat->Prop)->World->Prop:=fun pre A' W=>∃ s,pre.foldl (stepS step) (.inl s0)=.inl s/\(∃ M',SR w0 A0 W A' M' ⟨T,Hs s⟩ a)/\w.heap.size<=W.heap.size /\
  W.heap[w.heap.size+1]?=some (.loop (q .ready none))/\W.heap[w.heap.size]?=some (.deferred (some []))
 let Jx:List AV->World->Prop:=fun pre W=>∃ r,pre.foldl (stepS step) (.inl s0)=.inr r/\(∃ A' M',SR w0 A0 W A' M' ⟨T,Ho r⟩ a) /\
  W.heap[w.heap.size+1]?=some (.loop (q .done (some .ret)))/\W.heap[w.heap.size]?=some (.deferred (some []))
 have al:∀ (W:World) (A':Nat->Prop) (M':Id->Option MB) (s:St) (o:Loop),SR w0 A0 W A' M' s a->W.heap[w.heap.size+1]?=some (.loop o)->W.heap[w.heap.size]?=some (.deferred (some [])) ->
   ∀ o':Loop,SOk w0 A0 s { a with defers:=[rmark w.heap.size]++a.defers } (W.putObj (w.heap.size+1) (.loop o')):=fun W A' M' s o h h1 h2 o'=>by
  refine ⟨A',M',h.turn (o':=.loop o') h1 ⟨by simp,by simp⟩ (by omega) (by omega) ?_⟩
  have hne:∀ D,D∈L0->D≠w.heap.size:=fun D hD e=>by
   have:=xaV (a2 D hD).2.2;omega
  obtain ⟨L',e1,e2,e3⟩:=h.defers;have:L'=L0:=xov (e1.symm.trans a5);subst this;refine ⟨w.heap.size::L',by rw [a5];rfl,List.nodup_cons.2 ⟨fun hm=>hne _ hm rfl,e2⟩,fun D hD=>?_⟩
  rcases zB.1 hD with rfl|hD
  . exact ⟨bm,.inr bh,by rw [World.putObj_heap_other (by omega)];exact h2⟩
  . refine ⟨(e3 D hD).1,(e3 D hD).2.1,?_⟩;have:=xaV (a2 D hD).2.2;rw [World.putObj_heap_other (by omega)];exact (e3 D hD).2.2
 refine ⟨w.heap.size+1,[{ target:=.collected w.heap.size,args:=#[] }],W1,{ target:=.fn (.func fo) #[lv],args:=#[.func (.yield (w.heap.size+1)) #[] #[]] },W1,fo,
  #[.func (.yield (w.heap.size+1)) #[] #[]]++#[lv],W1,?_,?_,fun _ _=>trivial,?_,fun h=>by simp [Fence.wide] at h,?_⟩
 . rw [<-af,O];exact run_enterLoop_outer _ _ _ _ _
 . simp only [Go.resolve,bi];simp [go_sem]
 . simp [invoke,go_sem,xef hit.1]
 . refine (hit.2 W1 A lv (a6.grow ar) (w.heap.size+1) J Jx ?_ ?_ ?_ ?_ ?_ ?_).mono ?_
   . rintro pre A' W W' ⟨s,h1,⟨M',h2⟩,h4,h5,h6⟩ hb;exact ⟨s,h1,⟨M',h2.grow hb⟩,Nat.le_trans h4 hb.size,by rw [hb.block _ (xaV h5)];exact h5,by rw [hb.block _ (xaV h6)];exact h6⟩
   . rintro pre W W' ⟨r,h1,⟨A',M',h2⟩,h5,h6⟩ hb;exact ⟨r,h1,⟨A',M',h2.grow hb⟩,by rw [hb.block _ (xaV h5)];exact h5,by rw [hb.block _ (xaV h6)];exact h6⟩
   . rintro pre A' W ⟨s,h1,⟨M',h2⟩,h4,h5,h6⟩;exact ⟨a0.below _ _ hI h2.base,h2.heap.lt⟩
   . rintro pre W ⟨r,h1,⟨A',M',h2⟩,h5,h6⟩;exact a0.below _ _ hI h2.base
   ·
    rintro pre v x ag A' W hx ⟨s,h1,⟨M',h2⟩,h4,h5,h6⟩ bt;have a4:=xaV h5;have hy:=run_yield (P:=P) (args:=#[v]) h5 (by rw [O];rfl)
    rw [O] at hy;have hz:(#[p].zip #[v]).foldl (fun tmps (x:Tmp×Value)=>tmps.setIfInBounds x.1 x.2) a.tmps=a.tmps.setIfInBounds p v:=by simp
    refine ⟨fn,_,U,Y,hy,roundIn_of_wpIn trivial ?_⟩;show Code.wpIn (Fence.wide.inRound (w.heap.size+1)) 0 P U _ { tmps:=(#[p].zip #[v]).foldl (fun tmps (x:Tmp×Value)=>tmps.setIfInBounds x.1 x.2) a.tmps,defers:=[] } _
    rw [hz];obtain ⟨av,a9⟩:∃ av:Nat->Prop,av=fun b=>b<w0.heap.size->A0.av b:=⟨_,rfl⟩
    have ax:∀ b,w0.heap.size<=b->av b:=fun b hb=>by rw [a9];intro h;omega
    have am:∀ b,b<w0.heap.size->(av b↔A0.av b):=fun b hb=>by rw [a9];exact ⟨fun h=>h hb,fun h _=>h⟩
    obtain ⟨p1,p2⟩:=xif (d:=some p) h2.size h2.tmps (bt.lift M');have bq:SR w0 ⟨av,W,A',M',n⟩ W A' M' ⟨T.set p x,Hs s⟩ { tmps:=a.tmps.setIfInBounds p v,defers:=[] } :=
     ⟨h2.base,fun b hb=>(h2.outer b hb).trans (am b hb).symm,p1,p2,h2.heap,DefOk.nil,Ev.refl (C:=⟨av,W,A',M',n⟩)⟩
    refine ae pre s x ag hx h1 w0 ⟨av,W,A',M',n⟩ W A' M' _ _ hI (zb n) bq ?_ (some (w.heap.size+1)) (fun h=>by simp at h)
    rintro e s1 a1 w1 ⟨rfl,au⟩ ⟨A1,M1,Q⟩;have aj:=Q.ev.mv h2.heap (by rw [ak];exact zb n)
    have aa:w1.heap[w.heap.size+1]?=some (.loop (q .ready none)):=by rw [aj.touch.1 _ a4 (h2.heap.not_box h5 (by simp) (by simp))];exact h5
    have ap:w1.heap[w.heap.size]?=some (.deferred (some [])):=by rw [aj.touch.1 _ (xaV h6) (h2.heap.not_box h6 (by simp) (by simp))];exact h6
    refine ⟨_,run_beginRound aa (by rw [O]),?_⟩
    have aw:(Obj.loop { q .ready none with state:=.busy })=.loop (q .busy none):=by rw [O]
    rw [aw];obtain ⟨w2,V⟩:∃ w2,w2=w1.putObj (w.heap.size+1) (.loop (q .busy none)):=⟨_,rfl⟩;rw [<-V];have ab:w2.heap.size=w1.heap.size:=by rw [V];simp
    have a8:w2.heap[w.heap.size+1]?=some (.loop (q .busy none)):=by rw [V];exact World.putObj_heap_same (xaV aa)
    have ao:∀ b,b≠w.heap.size+1->w2.heap[b]?=w1.heap[b]?:=fun b hb=>by rw [V];exact World.putObj_heap_other hb
    have bp:SR w0 ⟨av,w2,A1,M1,n⟩ w2 A1 M1 s1 a1:=by
     refine ⟨by rw [V];exact xgS Q.base (by omega) _,Q.outer,Q.size,fun t ht=>?_,by rw [V];exact Q.heap.turn aa ⟨by simp,by simp⟩ _,?_,Ev.refl (C:=⟨av,w2,A1,M1,n⟩)⟩
     . rw [V];exact (Q.tmps t ht).turn (by simp) (xgs aa ⟨by simp,by simp⟩)
     . obtain ⟨L,e1,e2,e3⟩:=Q.defers;refine ⟨L,e1,e2,fun D hD=>⟨(e3 D hD).1,.inl (ax _ (by have:=Q.base.size;rw [ab];omega)),?_⟩⟩
       rw [ao D (fun e=>by have:=(e3 D hD).2.2;rw [e,aa] at this;simp at this)];exact (e3 D hD).2.2
    refine au w0 ⟨av,w2,A1,M1,n⟩ w2 A1 M1 a1 _ hI (zb n) bp ?_ (some (w.heap.size+1)) (fun h=>by simp at h)
    have ac:∀ (s':St) (a3:Act) (W3:World) (T':List AV) (H':List Box),Weak n s' ⟨T',H'⟩->SOk w0 ⟨av,w2,A1,M1,n⟩ s' a3 W3 ->
      ∃ A3 M3,SR w0 A0 (W3.putObj (w.heap.size+1) (.loop (q .ready none))) A3 M3 ⟨T,H'⟩ a/\Mv W A' M' (W3.putObj (w.heap.size+1) (.loop (q .ready none))) A3 M3 /\
       W3.heap[w.heap.size+1]?=some (.loop (q .busy none))/\W3.heap[w.heap.size]?=some (.deferred (some [])):=by
     rintro s' a3 W3 T' H' hw ⟨A2,M2,a7⟩;obtain ⟨A3,M3,Z⟩:=hw w0 _ W3 A2 M2 a3 (zb n) a7;have bk:=Q.heap.not_box aa (by simp) (by simp)
     have aq:W3.heap[w.heap.size+1]?=some (.loop (q .busy none)):=by rw [Z.ev.keep _ (xaV a8) (.inr bk)];exact a8
     have be:W3.heap[w.heap.size]?=some (.deferred (some [])):=by
      rw [Z.ev.keep _ (by show w.heap.size<w2.heap.size;rw [ab];exact xaV ap) (.inr (Q.heap.not_box ap (by simp) (by simp)))]
      show w2.heap[w.heap.size]?=_;rw [ao _ (by omega)];exact ap
     have bg:Ev ⟨av,W,A',M',n⟩ (W3.putObj (w.heap.size+1) (.loop (q .ready none))) A3 M3:=by
      refine Ev.over Q.ev Z.ev (l:=w.heap.size+1) ao (by rw [ab]) (fun b hb=>World.putObj_heap_other hb) (by simp) ?_
      rw [World.putObj_heap_same (xaV aq)];exact h5.symm
     have ah:=bg.mv h2.heap (by rw [ak];exact zb n)
     exact ⟨A3,M3,⟨xgS Z.base (by omega) _,fun b hb=>(Z.outer b hb).trans (am b hb),h2.size,fun t ht=>ah.rel (h2.tmps t ht),Z.heap.turn aq ⟨by simp,by simp⟩ _,h2.defers.mv h2.heap ah,h2.ev.step ah⟩,ah,aq,be⟩
    have ad:(pre++[x]).foldl (stepS step) (.inl s0)=step s x:=by
     rw [List.foldl_append,h1];rfl
    intro e s' a3 W3 hq ba;cases ai:step s x with
    | inl s2 =>
     rw [ai] at hq;obtain ⟨rfl,T',hw⟩:=hq;obtain ⟨A3,M3,g1,g2,g4,g5⟩:=ac s' a3 W3 T' _ hw ba;have hr:=run_endRound (P:=P) none g4;have he:(Obj.loop { q .busy none with state:=if (none:Option Code).isNone then .ready else .done,pending:=none })=.loop (q .ready none):=by rw [O];rfl
     rw [he] at hr;exact ⟨_,_,hr,.inl ⟨rfl,A3,⟨s2,ad.trans ai,⟨M3,g1⟩,Nat.le_trans h4 g2.size,World.putObj_heap_same (xaV g4),(World.putObj_heap_other (by omega)).trans g5⟩,g2.size,g2.less,g2.keep⟩⟩
    | inr r =>
     rw [ai] at hq;obtain ⟨rfl,T',hw⟩:=hq;obtain ⟨A3,M3,g1,g2,g4,g5⟩:=ac s' a3 W3 T' _ hw ba;have hr:=run_endRound (P:=P) (some .ret) g4;have he:(Obj.loop { q .busy none with state:=if (some Code.ret).isNone then .ready else .done,pending:=some .ret })=.loop (q .done (some .ret)):=by rw [O];rfl
     rw [he] at hr;have bu:W3.putObj (w.heap.size+1) (.loop (q .done (some .ret)))=(W3.putObj (w.heap.size+1) (.loop (q .ready none))).putObj (w.heap.size+1) (.loop (q .done (some .ret))):=by
      simp [World.putObj]
     have g6:(W3.putObj (w.heap.size+1) (.loop (q .ready none))).heap[w.heap.size+1]?=some (.loop (q .ready none)):=World.putObj_heap_same (xaV g4);refine ⟨_,_,hr,.inr ⟨rfl,r,ad.trans ai,⟨A3,M3,?_⟩,World.putObj_heap_same (xaV g4),(World.putObj_heap_other (by omega)).trans g5⟩⟩
     rw [bu];exact g1.turn (o':=.loop (q .done (some .ret))) g6 ⟨by simp,by simp⟩ (by omega) (by omega) (g1.defers.same fun D hD=>World.putObj_heap_other (fun e=>by rw [e] at hD;rw [g6] at hD;simp at hD))
   . exact ⟨s0,rfl,⟨M,hs.grow ar⟩,ar.size,bn,bj⟩
   ·
    rintro e W2 ⟨⟨v,rfl⟩,⟨A',s,h1,⟨M',h2⟩,h4,h5,h6⟩|⟨pre,ag,bf,r,h1,⟨A',M',h2⟩,h5,h6⟩⟩
    . refine ⟨none,_,by have:=run_endLoop (P:=P) h5 (by rw [O];simp);rw [O] at this;exact this,?_⟩
      refine hQ .normal ⟨T,Hs s⟩ _ _ (by rw [h1];exact ⟨rfl,rfl⟩) ?_
      exact al W2 A' M' ⟨T,Hs s⟩ _ h2 h5 h6 _
    . refine ⟨some .ret,_,by have:=run_endLoop (P:=P) h5 (by rw [O];simp);rw [O] at this;exact this,?_⟩
      refine wpIn_ret (hQ .ret ⟨T,Ho r⟩ _ _ ?_ (al W2 A' M' ⟨T,Ho r⟩ _ h2 h5 h6 _));rw [<-bf,List.foldl_append,h1,xh4];exact ⟨rfl,rfl⟩
theorem xkq {P:Program} {Inv:IV} {w0:World} {A0:Cx} (V:InvOk Inv) (hI:Inv w0) {ro:Option Nat} {n:Nat} {ops:Array Oper} {Q:Exit->Act->World->Prop} {rest:List Oper} {l:List Oper} {s s':St} (hp:Path (OpA P Inv) ops l s s') :
  (∀ o,o∈l->∀ c,o.op≠.defer c)->∀ {w:World} {A:Nat->Prop} {M:Id->Option MB} {a:Act},SR w0 A0 w A M s a ->
  (∀ a' w' A' M',SR w0 A0 w' A' M' s' a'->a'.defers=a.defers->Mv w A M w' A' M'->wpListIn (wideR ro) n P ops Q rest a' w')->wpListIn (wideR ro) n P ops Q (l++rest) a w:=by
 induction hp with
 | nil s=>intro _ w A M a hs hK;exact hK a w A M hs rfl Mv.refl
 | run hw h hr ih =>
  intro hd w A M a hs hK;have J:=xb6 (w:=w) (A:=A) (M:=M) hs.size (fun j O d _ _ q=>hs.tmps d q) hw
  rw [List.cons_append];unfold wpListIn;rw [if_pos J];exact xhb (hd _ (by simp)) (fun _ _ h=>h) (xlB V hI h hs fun v w' A' M' Y U=>ih (fun o ho=>hd o (by simp [ho])) Y fun a2 w2 A2 M2 h2 e2 m2=>hK a2 w2 A2 M2 h2 (e2.trans (xb1 _ _ _)) (U.trans m2))
 | skip hw hr ih =>
  intro hd w A M a hs hK;have J:=xb6 (w:=w) (A:=A) (M:=M) hs.size (fun j O d _ _ q=>hs.tmps d q) hw
  rw [List.cons_append];unfold wpListIn;rw [if_neg (by rw [J];simp)]
  exact ⟨fun _ _=>trivial,ih (fun o ho=>hd o (by simp [ho])) (hs.skip _) fun a2 w2 A2 M2 h2 e2 m2=>hK a2 w2 A2 M2 h2 (e2.trans (xb1 _ _ _)) m2⟩
theorem xi0 {P:Program} {Inv:IV} {w0:World} {A0:Cx} (q:InvOk Inv) (hI:Inv w0) {ro:Option Nat} {n:Nat} {ops:Array Oper} {Q:Exit->Act->World->Prop} {l:List Oper} {s s':St} (hp:Path (OpA P Inv) ops l s s') (hd:∀ o,o∈l->∀ c,o.op≠.defer c) {w:World} {A:Nat->Prop} {M:Id->Option MB} {a:Act} (hs:SR w0 A0 w A M s a)
  (hK:∀ a' w' A' M',SR w0 A0 w' A' M' s' a'->a'.defers=a.defers->Q .normal a' w'):wpListIn (wideR ro) n P ops Q l a w:=by
 have h:=xkq (ro:=ro) (n:=n) (ops:=ops) (Q:=Q) (rest:=[]) q hI hp hd hs (fun a' w' A' M' h1 h2 _=>hK a' w' A' M' h1 h2)
 rwa [zC] at h
def XB (P:Program) (E:Env) (assign body:Code) (ts:List AV) (H:List Box):Option (Exit×List Box):=X P E none assign ⟨ts,H⟩ fun e s1=>match e with
 | .normal=>X P E none body s1 fun e2 s2=>match normS E.pin [] [] s2 with
  | some (_,H')=>xsh H' fun H'=>some (e2,H')
  | none=>none
 | _=>none
theorem xia {P:Program} {Inv:IV} {E:Env} (J:P.follows .mixedOrders=true) (O:InvOk Inv) (q:Inv.pin=E.pin) (Q:xrP P Inv E) {assign body:Code} (Y:LoOk P Inv E assign) (U:LoOk P Inv E body) {ts:List AV} {H H':List Box} {e0:Exit}
  (h:XB P E assign body ts H=some (e0,H')):Does P Inv assign (fun e s1=>e=.normal/\Does P Inv body (fun e s'=>e=e0/\∃ T',Weak Inv.pin s' ⟨T',H'⟩) s1) ⟨ts,H⟩:=by
 unfold XB at h;refine xaq (xbW (good:=fun t=>t=some (e0,H')) J O q (by simp) Q assign _ _ Y h) fun e s1 hq=>?_
 cases e with
 | normal =>
  refine ⟨rfl,xaq (xbW (good:=fun t=>t=some (e0,H')) J O q (by simp) Q body _ _ U hq) fun e s2 hq=>?_⟩
  split at hq
  case h_2=>simp at hq
  rename_i vs H1 V;rw [xaF] at hq;simp only [z1,za] at hq;obtain ⟨rfl,rfl⟩:=hq;have hw:=xcz V;rw [<-q] at hw;exact ⟨rfl,_,hw⟩
 | _=>simp at hq
theorem Rel.yld_inv {w:World} {A:Nat->Prop} {M:Id->Option MB} {v:Value} {l:Nat} (h:Rel w A M v (.yld l)):v=.func (.yield l) #[] #[]:=by cases h;rfl
theorem xev {P:Program} {Inv:IV} {E:Env} (J:xrP P Inv E) {ops:Array Oper} {l:List Oper} {s s':St} (h:xOps P E none (some true) ops l s some=some s'):Path (OpA P Inv) ops l s s':=by
 have q:¬ (fun t:Option St=>t=some s') none:=by simp
 have hA:∀ o s (K:St->Option St),(fun t:Option St=>t=some s') (xopM P E none (some true) o s K)->∃ s1,OpA P Inv s o s1/\(fun t:Option St=>t=some s') (K s1):=fun o s K h=>xlV (good:=fun t:Option St=>t=some s') q J h
 obtain ⟨s1,h1,h2⟩:=xb7 (good:=fun t:Option St=>t=some s') q hA l s some h
 simp only [z1] at h2;exact h2▸h1
theorem xf8 {W:World} {A:Nat->Prop} (q:∀ b,A b->b<W.heap.size) {ts:List AV} {b:Act} (hsz:b.tmps.size=ts.length) (hd:b.defers=[]) (hr:∀ t,t<ts.length->Rel W A xr1 (b.tmps.getD t undef) (ts.getD t .top)):SR W ⟨A,W,A,xr1,0⟩ W A xr1 ⟨ts,[]⟩ b :=
 ⟨Below.refl _ _,fun _ _=>Iff.rfl,hsz,hr,⟨fun id m hm=>by simp [xr1] at hm,fun _ _ _ _ h=>by simp [xr1] at h,q⟩,by rw [hd];exact DefOk.nil,Ev.refl (C:=⟨A,W,A,xr1,0⟩)⟩
theorem SR.pureRel {W w':World} {A A':Nat->Prop} {M':Id->Option MB} {C:Cx} {s':St} {b':Act} (hs:SR W C w' A' M' s' b') (hc:C.av=A) (q:∀ b,A b->b<W.heap.size) {t:Nat} {x:AV} (ht:t<s'.tmps.length) (hx:s'.tmps.getD t .top=x) (hp:x.pure=true):Rel w' A xr1 (b'.tmps.getD t undef) x:=by
 have h:=hs.tmps t ht;rw [hx] at h;exact (h.pure (M':=xr1) hp).mono (fun _ _ _=>rfl) (zb _) (fun b _ hb=>(hs.outer b (q b hb)).2 (by rw [hc];exact hb)) (MExt.refl _)
end Go.Sim
namespace Go.Sim.M
open Go.RowKit Go.Proofs
def regs:Code->List Code
 | .region i ops d=>[.region i ops d]
 | .seq a b=>regs a++regs b
 | .block _ c=>regs c
 | .loop c=>regs c
 | .cond _ a b=>regs a++regs b
 | .rangeFunc _ _ a b=>regs a++regs b
 | _=>[]
def regAt (fn:Func) (i:Nat):Code:=(regs (fn.body.getD .skip)).getD i .skip
def opsOf:Code->Array Oper
 | .region _ ops _=>ops
 | _=>#[]
def opsAt (fn:Func) (i:Nat):Array Oper:=opsOf (regAt fn i)
def idOf:Code->Nat
 | .region i _ _=>i
 | _=>0
def rg (fn:Func) (i:Nat):Code:=.region (idOf (regAt fn i)) (opsAt fn i) false
def verA (a b:Int) (r:List AV) (c d e f g h:Int):AV:=.agg [.int .i64 a,.int .i64 b,.list 3 r,.int .i64 c,.int .i64 d,.int .i64 e,.int .i64 f,.int .i64 g,.int .i64 h]
def IsV (x:AV):Prop:=∃ a b r c d e f g h,x=verA a b r c d e f g h
noncomputable def opV:AV->Bool
 | .agg [.int _ a,.int _ b,.list _ r,.int _ c,.int _ d,.int _ e,.int _ f,.int _ g,.int _ h]=>xaM a b r c d e f g h
 | _=>false
noncomputable abbrev EIt:Env:=xcR.E.fn 20 0 (lsOf []) (xsa [])
theorem xjb:xrP Tryz.prog (xsv.at 0) EIt:=xcR.ok.fn
def Th (xs:List AV) (l:Nat) (i:Int):List AV:=[.yld l,.eptr 1 [.list 9 xs] 0 0,.top,.top,.top,.list 9 xs,.int .i64 xs.length,.int .i64 i,.top,.top,.top,.top,.top,.top,.top,.top,.top,.top,.top,.top]
def Th8 (xs:List AV) (l:Nat) (i:Int) (t:Bool):List AV:=[.yld l,.eptr 1 [.list 9 xs] 0 0,.top,.top,.top,.list 9 xs,.int .i64 xs.length,.int .i64 i,.bool t,.top,.top,.top,.top,.top,.top,.top,.top,.top,.top,.top]
def Tv (xs:List AV) (l:Nat) (i:Int) (x:AV):List AV:=[.yld l,.eptr 1 [.list 9 xs] 0 0,.top,.top,.own 0 0 0 0,.list 9 xs,.int .i64 xs.length,.int .i64 i,.bool true,.eptr 9 xs i.toNat 0,x,.top,.top,.top,.top,.top,.top,.top,.top,.top]
def Bv (x:AV):List Box:=[⟨0,9,58,[x],false,true⟩]
def Tw (xs:List AV) (l:Nat) (i:Int) (x:AV) (o:Bool):List AV:=[.yld l,.eptr 1 [.list 9 xs] 0 0,.top,.top,.own 0 0 0 0,.list 9 xs,.int .i64 xs.length,.int .i64 i,.bool true,.eptr 9 xs i.toNat 0,x,x,.bool o,.bool true,.yld l,x,.top,.top,.top,.top]
def Tn (xs:List AV) (l:Nat) (i:Int) (x:AV) (o:Bool):List AV:=[.yld l,.eptr 1 [.list 9 xs] 0 0,.top,.top,.own 0 0 0 0,.list 9 xs,.int .i64 xs.length,.int .i64 i,.bool true,.eptr 9 xs i.toNat 0,x,x,.bool o,.bool false,.tuple [],.tuple [],.tuple [],.tuple [],.bool false,.top]
def Ty (xs:List AV) (l:Nat) (i:Int) (b:Bool):List AV:=[.yld l,.eptr 1 [.list 9 xs] 0 0,.top,.top,.top,.list 9 xs,.int .i64 xs.length,.int .i64 i,.top,.top,.top,.top,.top,.bool true,.top,.top,.bool b,.top,.top,.top]
def Tz (xs:List AV) (l:Nat) (i:Int) (b:Bool):List AV:=[.yld l,.eptr 1 [.list 9 xs] 0 0,.top,.top,.top,.list 9 xs,.int .i64 xs.length,.int .i64 i,.top,.top,.top,.top,.top,.bool true,.top,.top,.bool b,.bool !b,.bool !b,.top]
noncomputable abbrev XO (ops:Array Oper) (l:List Oper) (ts:List AV) (H:List Box):Option St:=xOps Tryz.prog EIt none (some true) ops l ⟨ts,H⟩ some
theorem xq5 (xs:List AV) (l:Nat):XO (opsAt Tryz.f67 0) (opsAt Tryz.f67 0).toList ([.yld l,.eptr 1 [.list 9 xs] 0 0]++List.replicate 18 (.tuple [])) [] =
 some ⟨[.yld l,.eptr 1 [.list 9 xs] 0 0,.tuple [],.tuple [],.tuple [],.list 9 xs,.int .i64 xs.length,.int .i64 0]++List.replicate 12 (.tuple []),[]⟩:=by kernel_rfl
theorem xq6 (xs:List AV) (l:Nat) (i:Int):XO (opsAt Tryz.f67 1) (opsAt Tryz.f67 1).toList (Th xs l i) []=some ⟨Th8 xs l i (decide (i<(xs.length:Int))),[]⟩:=by kernel_rfl
theorem xq7 (xs:List AV) (l:Nat) (i:Int):XO (opsAt Tryz.f67 2) (opsAt Tryz.f67 2).toList (Th8 xs l i true) [] =
 br (decide ((0:Int)<=i)&&decide (i<(xs.length:Int))) (br (decide (i.toNat<xs.length)&&((xs.getD i.toNat AV.top).cells.length==(9:Nat)&&xrU [Sh.int IntKind.i64,Sh.int IntKind.i64,Sh.list (3:Nat),Sh.int IntKind.i64,Sh.int IntKind.i64,Sh.int IntKind.i64,Sh.int IntKind.i64,Sh.int IntKind.i64,Sh.int IntKind.i64] (xs.getD i.toNat AV.top).cells (0:Nat)))
  (
   let x:=verA ((xs.getD i.toNat AV.top).cells.getD 0 AV.top).toInt ((xs.getD i.toNat AV.top).cells.getD 1 AV.top).toInt ((xs.getD i.toNat AV.top).cells.getD 2 AV.top).toList ((xs.getD i.toNat AV.top).cells.getD 3 AV.top).toInt ((xs.getD i.toNat AV.top).cells.getD 4 AV.top).toInt ((xs.getD i.toNat AV.top).cells.getD 5 AV.top).toInt ((xs.getD i.toNat AV.top).cells.getD 6 AV.top).toInt ((xs.getD i.toNat AV.top).cells.getD 7 AV.top).toInt ((xs.getD i.toNat AV.top).cells.getD 8 AV.top).toInt
   some ⟨Tv xs l i x,Bv x⟩) none) none:=by kernel_rfl
theorem xqH (xs:List AV) (l:Nat) (i:Int) (a b:Int) (r:List AV) (c d e f g h:Int):XO (opsAt Tryz.f67 3) ((opsAt Tryz.f67 3).toList.take 5) (Tv xs l i (verA a b r c d e f g h)) (Bv (verA a b r c d e f g h)) =
 br (xaM a b r c d e f g h) (some ⟨Tw xs l i (verA a b r c d e f g h) (xaM a b r c d e f g h),Bv (verA a b r c d e f g h)⟩)
  (some ⟨[.yld l,.eptr 1 [.list 9 xs] 0 0,.top,.top,.own 0 0 0 0,.list 9 xs,.int .i64 xs.length,.int .i64 i,.bool true,.eptr 9 xs i.toNat 0,verA a b r c d e f g h,verA a b r c d e f g h,.bool (xaM a b r c d e f g h),.bool false,.tuple [],.tuple [],.top,.top,.top,.top],Bv (verA a b r c d e f g h)⟩):=by kernel_rfl
theorem xqJ (xs:List AV) (l:Nat) (i:Int) (a b:Int) (r:List AV) (c d e f g h:Int):XO (opsAt Tryz.f67 3) (opsAt Tryz.f67 3).toList (Tv xs l i (verA a b r c d e f g h)) (Bv (verA a b r c d e f g h)) =
 br (xaM a b r c d e f g h) none (some ⟨Tn xs l i (verA a b r c d e f g h) (xaM a b r c d e f g h),Bv (verA a b r c d e f g h)⟩):=by kernel_rfl
theorem xqI (xs:List AV) (l:Nat) (i:Int) (b:Bool):XO (opsAt Tryz.f67 3) ((opsAt Tryz.f67 3).toList.drop 6) (Ty xs l i b) []=some ⟨Tz xs l i b,[]⟩:=by kernel_rfl
def Tq (b:Bool):List AV:=[.top,.top,.top,.top,.top,.top,.top,.top,.top,.top,.top,.top,.top,.bool true,.top,.top,.bool false,.top,.top,.top]
theorem xqK:XO (opsAt Tryz.f67 3) ((opsAt Tryz.f67 3).toList.drop 6) (Tq false) []=some ⟨[.top,.top,.top,.top,.top,.top,.top,.top,.top,.top,.top,.top,.top,.bool true,.top,.top,.bool false,.bool true,.bool true,.top],[]⟩:=by kernel_rfl
theorem xq8 (xs:List AV) (l:Nat) (i:Int):XO (opsAt Tryz.f67 4) (opsAt Tryz.f67 4).toList (Th xs l i) [] =
 some ⟨[.yld l,.eptr 1 [.list 9 xs] 0 0,.top,.top,.top,.list 9 xs,.int .i64 xs.length,.int .i64 (IntKind.i64.wrap (i+1)),.top,.top,.top,.top,.top,.top,.top,.top,.top,.top,.top,.int .i64 (IntKind.i64.wrap (i+1))],[]⟩:=by kernel_rfl
noncomputable def itCode:Code:=.seq (rg Tryz.f67 0) (.block 0 (.loop (.seq (rg Tryz.f67 1) (.seq (.cond (.tmp 8) .skip (.exit 0)) (.seq (.block 1 (.seq (rg Tryz.f67 2) (.seq (rg Tryz.f67 3) (.cond (.tmp 18) .ret .skip)))) (rg Tryz.f67 4))))))
theorem xpS:Tryz.f67.body=some itCode:=by kernel_rfl
theorem xqC:noDefer (opsAt Tryz.f67 0)=true:=by kernel_rfl
theorem xqD:noDefer (opsAt Tryz.f67 1)=true:=by kernel_rfl
theorem xqE:noDefer (opsAt Tryz.f67 2)=true:=by kernel_rfl
theorem xqF:noDefer (opsAt Tryz.f67 3)=true:=by kernel_rfl
theorem xqG:noDefer (opsAt Tryz.f67 4)=true:=by kernel_rfl
theorem xk4 (i:Nat) (h:i<5):noDefer (opsAt Tryz.f67 i)=true:=by
 have:i=0\/i=1\/i=2\/i=3\/i=4:=by omega
 rcases this with e|e|e|e|e<;>rw [e]
 . exact xqC
 . exact xqD
 . exact xqE
 . exact xqF
 . exact xqG
theorem xfl {i k:Nat} (hk:k<5) {s s':St} {w0 W:World} {C:Cx} {A:Nat->Prop} {M:Id->Option MB} {b:Act} {Q:Exit->Act->World->Prop} (hI:xsv w0) (hx:xOps Tryz.prog EIt none (some true) (opsAt Tryz.f67 k) (opsAt Tryz.f67 k).toList s some=some s') (hs:SR w0 C W A M s b)
  (hK:∀ a' w' A' M',SR w0 C w' A' M' s' a'->a'.defers=b.defers->Q .normal a' w'):(Code.region i (opsAt Tryz.f67 k) false).wpIn Fence.wide 0 Tryz.prog Q b W:=by
 exact wpIn_region_list (xi0 (Inv:=xsv.at 0) (ro:=none) (n:=0) (xrZ Tryz.prog _) hI (xev xjb hx) (xcf (xk4 k hk)) hs hK)
noncomputable def itY:Oper:=(opsAt Tryz.f67 3).toList.getD 5 default
theorem xn9:itY.op=.call { callee:=.value (.tmp 14),args:=#[.tmp 15],argTypes:=#[58] }:=by kernel_rfl
theorem xmA:itY.dst=some 16:=by kernel_rfl
theorem xoa:(opsAt Tryz.f67 3).toList=(opsAt Tryz.f67 3).toList.take 5++(itY::(opsAt Tryz.f67 3).toList.drop 6):=by kernel_rfl
theorem xoX (xs:List AV) (l:Nat) (i:Int) (x:AV) (o:Bool):xrx (opsAt Tryz.f67 3) (Tw xs l i x o) itY=some true:=by kernel_rfl
theorem xpR {l:Nat} {b:Act} {v:Value} {W:World} {r:Result Next} (h0:b.tmps.getD 14 undef=.func (.yield l) #[] #[]) (h1:b.tmps.getD 15 undef=v) (hy:(Instr.yield l #[v]).run Tryz.prog W=r):(execOp b.eval itY).run Tryz.prog W=r:=by
 simp only [execOp,xn9,Go.resolve,Act.eval,h0,h1,Deferred.ofValue,Sem.run_bind,Sem.run_pure,Result.andThen_ok,invoke];have e:b.eval (.tmp 15)=v:=h1;simpa [e] using hy
structure Hd (xs:List AV) (l:Nat) (i:Int) (W:World) (A:Nat->Prop) (b:Act):Prop where
 size:b.tmps.size=20
 def0:b.defers=[]
 r0:Rel W A xr1 (b.tmps.getD 0 undef) (.yld l)
 r1:Rel W A xr1 (b.tmps.getD 1 undef) (.eptr 1 [.list 9 xs] 0 0)
 r5:Rel W A xr1 (b.tmps.getD 5 undef) (.list 9 xs)
 r6:Rel W A xr1 (b.tmps.getD 6 undef) (.int .i64 xs.length)
 r7:Rel W A xr1 (b.tmps.getD 7 undef) (.int .i64 i)
theorem lt20 {t:Nat} (h:t<20):t=0\/t=1\/t=2\/t=3\/t=4\/t=5\/t=6\/t=7\/t=8\/t=9\/t=10\/t=11\/t=12\/t=13\/t=14\/t=15\/t=16\/t=17\/t=18\/t=19:=by omega
theorem Hd.sr {xs:List AV} {l:Nat} {i:Int} {W:World} {A:Nat->Prop} {b:Act} (h:Hd xs l i W A b) (q:∀ b,A b->b<W.heap.size):SR W ⟨A,W,A,xr1,0⟩ W A xr1 ⟨Th xs l i,[]⟩ b:=by
 refine xf8 q h.size h.def0 fun t ht=>?_
 rcases lt20 ht with rfl|rfl|rfl|rfl|rfl|rfl|rfl|rfl|rfl|rfl|rfl|rfl|rfl|rfl|rfl|rfl|rfl|rfl|rfl|rfl <;>
  first|exact Rel.top _|exact h.r0|exact h.r1|exact h.r5|exact h.r6|exact h.r7
theorem Hd.of {xs:List AV} {l:Nat} {i:Int} {W W':World} {A A':Nat->Prop} {M':Id->Option MB} {C:Cx} {s':St} {b':Act} (hs:SR W C W' A' M' s' b') (hc:C.av=A) (q:∀ b,A b->b<W.heap.size) (hd:b'.defers=[]) (hl:s'.tmps.length=20)
  (h0:s'.tmps.getD 0 .top=.yld l) (h1:s'.tmps.getD 1 .top=.eptr 1 [.list 9 xs] 0 0) (h5:s'.tmps.getD 5 .top=.list 9 xs) (h6:s'.tmps.getD 6 .top=.int .i64 xs.length) (h7:s'.tmps.getD 7 .top=.int .i64 i):Hd xs l i W' A b' :=
 ⟨hs.size.trans hl,hd,hs.pureRel hc q (by omega) h0 rfl,hs.pureRel hc q (by omega) h1 rfl,hs.pureRel hc q (by omega) h5 rfl,hs.pureRel hc q (by omega) h6 rfl,hs.pureRel hc q (by omega) h7 rfl⟩
theorem Hd.keep {xs:List AV} {l:Nat} {i:Int} {W W':World} {A A':Nat->Prop} {b:Act} (h:Hd xs l i W A b) (d:Nat) (v:Value) (hd:8<=d) (hs:W.heap.size<=W'.heap.size) (hA:∀ b,b<W.heap.size->A' b->A b) (hk:∀ b,b<W.heap.size->¬ A b->W'.heap[b]?=W.heap[b]?):Hd xs l i W' A' (b.put (some d) v):=by
 have key:∀ t x,t<8->Rel W A xr1 (b.tmps.getD t undef) x->Rel W' A' xr1 ((b.put (some d) v).tmps.getD t undef) x:=fun t x ht hr=>by
  have e:(b.put (some d) v).tmps.getD t undef=b.tmps.getD t undef:=by
   simp only [Act.put];simp [zt,Array.getElem?_setIfInBounds_ne (show d≠t by omega)]
  rw [e];exact hr.mono hk hs hA (MExt.refl _)
 exact ⟨by simp [Act.put,h.size],h.def0,key 0 _ (by omega) h.r0,key 1 _ (by omega) h.r1,key 5 _ (by omega) h.r5,key 6 _ (by omega) h.r6,key 7 _ (by omega) h.r7⟩
theorem xgr (xs:List AV) (ce:∀ x,x∈xs->IsV x) (cf:xs.length<4611686018427387904):IterC Tryz.prog xsv 67 (.eptr 1 [.list 9 xs] 0 0) xs opV:=by
 refine ⟨⟨Tryz.f67,Tryz.func67,by kernel_rfl,by kernel_rfl⟩,?_⟩
 intro w A lv b8 l J Jx ab a3 hJ a4 hY a7;have ci:=fun (e:Ending) (W':World)=>(∃ v,e=.returned v)/\((∃ A',J (xs.filter opV) A' W')\/∃ pre suf,pre++suf=xs.filter opV/\Jx pre W')
 refine callsIn_of_wp (F:=Fence.wide) (n:=0) Tryz.func67 xpS trivial ?_;have ax:∀ (b:Act) (W:World),(results Tryz.f67 b.tmps).run Tryz.prog W=.ok (.tuple #[]) W:=fun b W=>by
  have:Tryz.f67.results=#[]:=by kernel_rfl
  simp [results,this]
 have al:∀ (b:Act) (W:World),b.defers=[]->((∃ A',J (xs.filter opV) A' W)\/∃ pre suf,pre++suf=xs.filter opV/\Jx pre W) ->
   bodyPost Tryz.prog Tryz.f67 (fun e W'=>(∃ v,e=.returned v)/\((∃ A',J (xs.filter opV) A' W')\/∃ pre suf,pre++suf=xs.filter opV/\Jx pre W')) .ret b W:=fun b W hd h =>
  ⟨hd,_,ax b W,⟨_,rfl⟩,h⟩
 refine wpIn_seq ?_;have aq:=hJ _ _ _ a7;have bi:SR w ⟨A,w,A,xr1,0⟩ w A xr1 ⟨[.yld l,.eptr 1 [.list 9 xs] 0 0]++List.replicate 18 (.tuple []),[]⟩ { tmps:=#[.func (.yield l) #[] #[],lv]++Array.replicate (Tryz.f67.ntmps - 2) undef,defers:=[] }:=by
  have bv:Tryz.f67.ntmps=20:=by kernel_rfl
  rw [bv];refine xf8 aq.2 (by simp) rfl fun t ht=>?_
  have ht:t<20:=by simpa using ht
  by_cases h0:t=0
  . subst h0;have e1:(#[Value.func (.yield l) #[] #[],lv]++Array.replicate 18 undef).getD 0 undef=.func (.yield l) #[] #[]:=by simp [Array.getElem?_append]
    show Rel w A xr1 ((#[Value.func (.yield l) #[] #[],lv]++Array.replicate 18 undef).getD 0 undef) (.yld l);rw [e1];exact .yld l
  by_cases h1:t=1
  . subst h1;have e1:(#[Value.func (.yield l) #[] #[],lv]++Array.replicate 18 undef).getD 1 undef=lv:=by simp [Array.getElem?_append]
    show Rel w A xr1 ((#[Value.func (.yield l) #[] #[],lv]++Array.replicate 18 undef).getD 1 undef) (.eptr 1 [.list 9 xs] 0 0);rw [e1];exact b8
  have e1:(#[Value.func (.yield l) #[] #[],lv]++Array.replicate (20 - 2) undef).getD t undef=undef:=by
   have h2:¬ t<2:=by omega
   have h3:t - 2<18:=by omega
   simp [Array.getElem?_append,h2,h3]
  have e2:([AV.yld l,.eptr 1 [.list 9 xs] 0 0]++List.replicate 18 (AV.tuple [])).getD t .top=.tuple []:=by
   have key:∀ m,t<m+2->([AV.yld l,.eptr 1 [.list 9 xs] 0 0]++List.replicate m (AV.tuple [])).getD t .top=.tuple []:=fun m hm=>by
    obtain ⟨u,rfl⟩:∃ u,t=u+2:=⟨t - 2,by omega⟩
    have hu:u<m:=by omega
    simp [z6,List.getElem?_replicate,hu]
   exact key 18 ht
  show Rel w A xr1 ((#[Value.func (.yield l) #[] #[],lv]++Array.replicate (20 - 2) undef).getD t undef) (([AV.yld l,.eptr 1 [.list 9 xs] 0 0]++List.replicate 18 (AV.tuple [])).getD t .top);rw [e1,e2];exact .tuple #[] [] rfl (by simp)
 refine xfl (k:=0) (by omega) aq.1 (xq5 xs l) bi fun b0 W0 A0 M0 a2 bn=>?_
 have bo:Hd xs l 0 W0 A b0:=Hd.of a2 rfl aq.2 bn rfl rfl rfl rfl rfl rfl;have bp:J [] A W0:=ab _ _ _ _ a7 a2.base;refine wpIn_block (wpIn_mono (Q:=fun e b W=>(e=.exit 0/\b.defers=[]/\∃ A',J (xs.filter opV) A' W)\/(e=.ret/\b.defers=[]/\∃ pre suf,pre++suf=xs.filter opV/\Jx pre W)) ?_ ?_)
 rotate_left
 . rintro e b W (⟨rfl,hd,h⟩|⟨rfl,hd,h⟩)
   . exact al b W hd (.inl h)
   . exact al b W hd (.inr h)
 refine wpIn_loop (fun b W=>∃ i:Nat,i<=xs.length/\∃ A',J ((xs.take i).filter opV) A' W/\Hd xs l i W A' b) (fun b W=>match b.tmps.getD 7 undef with|.int _ i=>xs.length - i.toNat|_=>0) ⟨0,zP _,A,by simpa using bp,bo⟩ ?_
 rintro b W ⟨i,hi,A1,ay,hH⟩;have ai:=hJ _ _ _ ay;have bk:(match b.tmps.getD 7 undef with|.int _ i=>xs.length - i.toNat|_=>0)=xs.length - i:=by
  rw [hH.r7.int_inv];simp
 rw [bk];refine wpIn_seq ?_;refine xfl (k:=1) (by omega) ai.1 (xq6 xs l i) (hH.sr ai.2) fun b1 W1 A2 M2 au bf=>?_
 have Y:Hd xs l i W1 A1 b1:=Hd.of au rfl ai.2 (bf.trans hH.def0) rfl rfl rfl rfl rfl rfl;have ad:J ((xs.take i).filter opV) A1 W1:=ab _ _ _ _ ay au.base;have h8:Rel W1 A1 xr1 (b1.tmps.getD 8 undef) (.bool (decide ((i:Int)<(xs.length:Int)))):=au.pureRel rfl ai.2 (by show 8<20;omega) rfl rfl
 refine wpIn_seq ?_;refine wpIn_cond_split h8.bool_inv (fun hc=>?_) (fun hc=>?_)
 rotate_left
 ·
  have bw:i=xs.length:=by simp at hc;omega
  refine wpIn_exit (.inl ⟨rfl,Y.def0,A1,?_⟩);rw [bw,y3] at ad;exact ad
 have aa:i<xs.length:=by simpa using hc
 refine wpIn_skip ?_;have q:=hJ _ _ _ ad;have bb:xs.getD i .top=xs[i]:=by simp [z6,aa]
 obtain ⟨va,vb,vr,vc,vd,ve,vf,vg,vh,hx⟩:=ce (xs.getD i .top) (xae aa);have O:(xs.take (i+1)).filter opV=(xs.take i).filter opV++(if opV (xs.getD i .top)=true then [xs.getD i .top] else []):=by
  rw [List.take_add_one,List.filter_append,bb];simp only [zd aa,Option.toList_some,List.filter_cons,List.filter_nil]
 have cb:SR W1 ⟨A1,W1,A1,xr1,0⟩ W1 A1 xr1 ⟨Th8 xs l i true,[]⟩ b1:=by
  refine xf8 q.2 Y.size Y.def0 fun t ht=>?_
  have h8':Rel W1 A1 xr1 (b1.tmps.getD 8 undef) (.bool true):=by rw [hc] at h8;exact h8
  rcases lt20 ht with rfl|rfl|rfl|rfl|rfl|rfl|rfl|rfl|rfl|rfl|rfl|rfl|rfl|rfl|rfl|rfl|rfl|rfl|rfl|rfl <;>
   first|exact Rel.top _|exact Y.r0|exact Y.r1|exact Y.r5|exact Y.r6|exact Y.r7|exact h8'
 have bq:XO (opsAt Tryz.f67 2) (opsAt Tryz.f67 2).toList (Th8 xs l i true) []=some ⟨Tv xs l i (verA va vb vr vc vd ve vf vg vh),Bv (verA va vb vr vc vd ve vf vg vh)⟩:=by
  rw [xq7];have hx':xs.getD ((i:Int).toNat) .top=verA va vb vr vc vd ve vf vg vh:=by rw [zM];exact hx
  rw [hx'];have e1:(decide ((0:Int)<=(i:Int))&&decide ((i:Int)<(xs.length:Int)))=true:=by simp [aa]
  have e2:(decide ((i:Int).toNat<xs.length)&&((verA va vb vr vc vd ve vf vg vh).cells.length==(9:Nat)&&xrU [Sh.int IntKind.i64,Sh.int IntKind.i64,Sh.list (3:Nat),Sh.int IntKind.i64,Sh.int IntKind.i64,Sh.int IntKind.i64,Sh.int IntKind.i64,Sh.int IntKind.i64,Sh.int IntKind.i64] (verA va vb vr vc vd ve vf vg vh).cells (0:Nat)))=true:=by
   rw [zM,ze];exact ⟨by simpa using aa,rfl⟩
  rw [e1,e2];rfl
 have am:∀ (b4:Act) (W4:World) (A4:Nat->Prop),Hd xs l i W4 A4 b4->J ((xs.take (i+1)).filter opV) A4 W4->(Code.region (idOf (regAt Tryz.f67 4)) (opsAt Tryz.f67 4) false).wpIn Fence.wide 0 Tryz.prog (Exit.then (fun a' w'=>(∃ i:Nat,i<=xs.length/\∃ A',J ((xs.take i).filter opV) A' w'/\Hd xs l i w' A' a') /\
   (match a'.tmps.getD 7 undef with|.int _ i=>xs.length - i.toNat|_=>0)<xs.length - i) (fun e b W=>(e=.exit 0/\b.defers=[]/\∃ A',J (xs.filter opV) A' W)\/(e=.ret/\b.defers=[]/\∃ pre suf,pre++suf=xs.filter opV/\Jx pre W))) b4 W4:=fun b4 W4 A4 ak ac=>by
  have ao:=hJ _ _ _ ac;refine xfl (k:=4) (by omega) ao.1 (xq8 xs l i) (ak.sr ao.2) fun b5 W5 A5 M5 bc bj=>?_
  have hw:IntKind.i64.wrap ((i:Int)+1)=((i+1:Nat):Int):=by rw [xd7 (by omega) (by omega)];omega
  have V:Hd xs l ((i+1:Nat):Int) W5 A4 b5:=Hd.of bc rfl ao.2 (bj.trans ak.def0) rfl rfl rfl rfl rfl (by show AV.int .i64 (IntKind.i64.wrap ((i:Int)+1))=_;rw [hw])
  refine ⟨⟨i+1,aa,A4,ab _ _ _ _ ac bc.base,V⟩,?_⟩;rw [V.r7.int_inv];simp;omega
 refine wpIn_seq ?_;refine wpIn_block ?_;refine wpIn_seq ?_;refine xfl (k:=2) (by omega) q.1 bq cb fun b2 W2 A3 M3 an be=>?_
 have cj:J ((xs.take i).filter opV) A1 W2:=ab _ _ _ _ ad an.base;refine wpIn_seq ?_;have a9:∀ (b4:Act) (W4:World) (A4:Nat->Prop),Hd xs l i W4 A4 b4->J ((xs.take (i+1)).filter opV) A4 W4->b4.eval (.tmp 18)=.bool false->(Code.cond (.tmp 18) .ret .skip).wpIn Fence.wide 0 Tryz.prog (Exit.inBlock 1 (Exit.then (fun a' w'=>(Code.region (idOf (regAt Tryz.f67 4)) (opsAt Tryz.f67 4) false).wpIn Fence.wide 0 Tryz.prog (Exit.then (fun a' w'=>(∃ i:Nat,i<=xs.length/\∃ A',J ((xs.take i).filter opV) A' w'/\Hd xs l i w' A' a') /\
   (match a'.tmps.getD 7 undef with|.int _ i=>xs.length - i.toNat|_=>0)<xs.length - i) (fun e b W=>(e=.exit 0/\b.defers=[]/\∃ A',J (xs.filter opV) A' W)\/(e=.ret/\b.defers=[]/\∃ pre suf,pre++suf=xs.filter opV/\Jx pre W))) a' w')
   (Exit.then (fun a' w'=>(∃ i:Nat,i<=xs.length/\∃ A',J ((xs.take i).filter opV) A' w'/\Hd xs l i w' A' a') /\
   (match a'.tmps.getD 7 undef with|.int _ i=>xs.length - i.toNat|_=>0)<xs.length - i) (fun e b W=>(e=.exit 0/\b.defers=[]/\∃ A',J (xs.filter opV) A' W)\/(e=.ret/\b.defers=[]/\∃ pre suf,pre++suf=xs.filter opV/\Jx pre W))))) b4 W4:=fun b4 W4 A4 ak ac cd =>
  wpIn_cond_false cd (wpIn_skip (am b4 W4 A4 ak ac))
 have a5:opV (verA va vb vr vc vd ve vf vg vh)=xaM va vb vr vc vd ve vf vg vh:=rfl;have ck:verA va vb vr vc vd ve vf vg vh∈xs:=by rw [<-hx];exact xae aa
 rw [hx,a5] at O;by_cases ho:xaM va vb vr vc vd ve vf vg vh=true
 ·
  rw [if_pos ho] at O;refine wpIn_region_list ?_;rw [xoa];have ar:xOps Tryz.prog EIt none (some true) (opsAt Tryz.f67 3) ((opsAt Tryz.f67 3).toList.take 5) ⟨Tv xs l i (verA va vb vr vc vd ve vf vg vh),Bv (verA va vb vr vc vd ve vf vg vh)⟩ some=some ⟨Tw xs l i (verA va vb vr vc vd ve vf vg vh) true,Bv (verA va vb vr vc vd ve vf vg vh)⟩:=by
   have:=xqH xs l i va vb vr vc vd ve vf vg vh;rw [ho] at this;exact this
  refine xkq (Inv:=xsv.at 0) (ro:=none) (n:=0) (xrZ Tryz.prog _) q.1 (xev xjb ar) (fun o ho=>xcf (xk4 3 (by omega)) o (List.mem_of_mem_take ho)) an fun b3 W3 A4 M4 U ap ch=>?_
  have af:Hd xs l i W3 A1 b3:=Hd.of U rfl q.2 ((ap.trans be).trans Y.def0) rfl rfl rfl rfl rfl rfl;have ac:J ((xs.take i).filter opV) A1 W3:=ab _ _ _ _ ad U.base;have bu:Rel W3 A1 xr1 (b3.tmps.getD 14 undef) (.yld l):=U.pureRel rfl q.2 (by show 14<20;omega) rfl rfl
  have cc:Rel W3 A1 xr1 (b3.tmps.getD 15 undef) (verA va vb vr vc vd ve vf vg vh):=U.pureRel rfl q.2 (by show 15<20;omega) rfl rfl
  have bg:Rel W3 A1 xr1 (b3.tmps.getD 13 undef) (.bool true):=U.pureRel rfl q.2 (by show 13<20;omega) rfl rfl
  have a6:b3.tmps.getD 14 undef=.func (.yield l) #[] #[]:=bu.yld_inv;have bm:(xs.take i).filter opV++verA va vb vr vc vd ve vf vg vh::(xs.drop (i+1)).filter opV=xs.filter opV:=by
   rw [show verA va vb vr vc vd ve vf vg vh::(xs.drop (i+1)).filter opV=[verA va vb vr vc vd ve vf vg vh]++(xs.drop (i+1)).filter opV from rfl,<-zv,<-O,<-List.filter_append,List.take_append_drop]
  obtain ⟨fn,tmps,bz,body,hy,ah⟩:=hY _ _ _ _ _ _ bm ac cc;have ca:=xb6 (w:=W3) (A:=A4) (M:=M4) (ops:=opsAt Tryz.f67 3) U.size (fun j cg d _ _ b9=>U.tmps d b9) (xoX xs l i (verA va vb vr vc vd ve vf vg vh) true)
  unfold wpListIn;rw [if_pos ca];refine ⟨fun _ _=>trivial,?_⟩
  have az:=xpR a6 rfl hy;rw [Oper.semAt_eq _ _ _ (fun c=>by rw [xn9];simp),az,Oper.uponIn_round]
  refine ⟨fun h=>by simp [wideR,Fence.wide] at h,?_⟩
  refine RoundIn.mono (show RoundIn Fence.wide 0 Tryz.prog l fn tmps bz body W3 _ from ah) ?_
  have a0:∀ y:Bool,(b3.put (some 16) (.bool y)).tmps.getD 13 undef=.bool true:=fun y=>by
   have:(b3.put (some 16) (.bool y)).tmps.getD 13 undef=b3.tmps.getD 13 undef:=by
    simp [Act.put,zt,Array.getElem?_setIfInBounds_ne]
   rw [this,bg.bool_inv]
  have ba:∀ y:Bool,(b3.put (some 16) (.bool y)).tmps.getD 16 undef=.bool y:=fun y=>by
   have:16<b3.tmps.size:=by rw [af.size];omega
   simp [Act.put,zt,this]
  rintro e W4 (⟨rfl,A5,a8,bh,bt,b7⟩|⟨rfl,a1⟩)
  ·
   show wpListIn _ _ _ _ _ _ (b3.put itY.dst (.bool true)) W4;rw [xmA];have aj:=hJ _ _ _ a8;have V:Hd xs l i W4 A5 (b3.put (some 16) (.bool true)):=af.keep 16 _ (by omega) bh bt b7
   have Z:SR W4 ⟨A5,W4,A5,xr1,0⟩ W4 A5 xr1 ⟨Ty xs l i true,[]⟩ (b3.put (some 16) (.bool true)):=by
    refine xf8 aj.2 V.size V.def0 fun t ht=>?_
    rcases lt20 ht with rfl|rfl|rfl|rfl|rfl|rfl|rfl|rfl|rfl|rfl|rfl|rfl|rfl|rfl|rfl|rfl|rfl|rfl|rfl|rfl <;>
     first|exact Rel.top _|exact V.r0|exact V.r1|exact V.r5|exact V.r6|exact V.r7|(rw [a0];exact Rel.bool true)|(rw [ba];exact Rel.bool true)
   refine xi0 (Inv:=xsv.at 0) (ro:=none) (n:=0) (xrZ Tryz.prog _) aj.1 (xev xjb (xqI xs l i true)) (fun o ho=>xcf (xk4 3 (by omega)) o (List.mem_of_mem_drop ho)) Z (fun b6 W6 A6 M6 ae aw=>?_)
   . have ag:Rel W6 A5 xr1 (b6.tmps.getD 18 undef) (.bool false):=ae.pureRel rfl aj.2 (by show 18<20;omega) rfl rfl
     refine a9 b6 W6 A5 (Hd.of ae rfl aj.2 (aw.trans V.def0) rfl rfl rfl rfl rfl rfl) ?_ ag.bool_inv;rw [O];exact ab _ _ _ _ a8 ae.base
  ·
   show wpListIn _ _ _ _ _ _ (b3.put itY.dst (.bool false)) W4;rw [xmA];have Z:SR W4 ⟨fun _=>False,W4,fun _=>False,xr1,0⟩ W4 (fun _=>False) xr1 ⟨Tq false,[]⟩ (b3.put (some 16) (.bool false)):=by
    refine xf8 (fun _ h=>h.elim) (by simp [Act.put,af.size,Tq]) af.def0 fun t ht=>?_
    rcases lt20 ht with rfl|rfl|rfl|rfl|rfl|rfl|rfl|rfl|rfl|rfl|rfl|rfl|rfl|rfl|rfl|rfl|rfl|rfl|rfl|rfl <;>
     first|exact Rel.top _|(rw [a0];exact Rel.bool true)|(rw [ba];exact Rel.bool false)
   refine xi0 (Inv:=xsv.at 0) (ro:=none) (n:=0) (xrZ Tryz.prog _) (a4 _ _ a1) (xev xjb xqK) (fun o ho=>xcf (xk4 3 (by omega)) o (List.mem_of_mem_drop ho)) Z (fun b6 W6 A6 M6 ae aw=>?_)
   . have ag:Rel W6 (fun _=>False) xr1 (b6.tmps.getD 18 undef) (.bool true):=ae.pureRel rfl (fun _ h=>h.elim) (by show 18<20;omega) rfl rfl
     refine wpIn_cond_true ag.bool_inv (wpIn_ret (.inr ⟨rfl,aw.trans af.def0,(xs.take i).filter opV++[verA va vb vr vc vd ve vf vg vh],(xs.drop (i+1)).filter opV,?_,a3 _ _ _ a1 ae.base⟩));rw [<-O,<-List.filter_append,List.take_append_drop]
 ·
  rw [if_neg ho,zC] at O;have ho':xaM va vb vr vc vd ve vf vg vh=false:=by simpa using ho
  have ar:xOps Tryz.prog EIt none (some true) (opsAt Tryz.f67 3) (opsAt Tryz.f67 3).toList ⟨Tv xs l i (verA va vb vr vc vd ve vf vg vh),Bv (verA va vb vr vc vd ve vf vg vh)⟩ some=some ⟨Tn xs l i (verA va vb vr vc vd ve vf vg vh) false,Bv (verA va vb vr vc vd ve vf vg vh)⟩:=by
   have:=xqJ xs l i va vb vr vc vd ve vf vg vh;rw [ho'] at this;exact this
  refine xfl (k:=3) (by omega) q.1 ar an fun b3 W3 A4 M4 U ap=>?_
  have ag:Rel W3 A1 xr1 (b3.tmps.getD 18 undef) (.bool false):=U.pureRel rfl q.2 (by show 18<20;omega) rfl rfl
  refine a9 b3 W3 A1 (Hd.of U rfl q.2 ((ap.trans be).trans Y.def0) rfl rfl rfl rfl rfl rfl) ?_ ag.bool_inv;rw [O];exact ab _ _ _ _ ad U.base
end Go.Sim.M
namespace Go.Sim
theorem xlG {β γ:Type} {P:Program} {Inv:IV} {nt:Nat} {l:Code} {live liveO:List Nat} {conv:List (Nat×Nat×TypeId)} {pv:Pat (List AV) β} {pb:Pat (List Box) γ} {g:β->γ->Bool×LR}
  (h:∀ b c r,g b c=(true,r)->Does P Inv l (fun e1 s1=>e1=r.eval.1/\s1=⟨mkTs nt (liveO.zip r.eval.2.1),r.eval.2.2⟩) ⟨mkTs nt (live.zip (pv.enc b)),pb.enc c⟩):PieceOk P Inv nt l (lpOf live liveO conv pv pb g):=fun vals H r e=>by
 unfold lpOf at e;dsimp only at e;split at e
 . rename_i b hb;split at e
   . rename_i c hc;simp only [z1] at e;rw [pv.ok _ _ hb,pb.ok _ _ hc];exact h b c r e
   . simp at e
 . simp at e
def isRng:Code->Bool
 | .rangeFunc ..=>true
 | _=>false
theorem xic {P:Program} {Inv:IV} {E:Env} {c:Code} {ls:List Code} (h:xr7 c=ls) (hl:∀ l,l∈ls->∀ lp,E.lp (xr2 l)=some lp->LoopOk P Inv E.nt l lp) {rc:Code} {lp0:Lp} (hr:PieceOk P Inv E.nt rc lp0) (he:E.lp (condId rc)=some lp0)
  (h1:(xr3 c).filter isRng=[rc]:=by kernel_rfl) (h2:((xr3 c).all fun d=>isRng d || (E.lp (condId d)).isNone)=true:=by kernel_rfl):LoOk P Inv E c:=by
 refine ⟨fun l hm=>hl l (by rw [<-h];exact hm),fun d hd lp hs=>?_⟩
 cases hg:isRng d with
 | true =>
  have hm:d∈(xr3 c).filter isRng:=List.mem_filter.2 ⟨hd,hg⟩;rw [h1,zu] at hm;subst hm;rw [he] at hs;simp only [z1] at hs;exact hs▸hr
 | false =>
  have:=zH.1 h2 d hd;rw [hg,hs] at this;simp at this
end Go.Sim
namespace Go.Sim.M
open Go.RowKit Go.Proofs
def rangesOf:Code->List Code
 | .seq a b=>rangesOf a++rangesOf b
 | .block _ c=>rangesOf c
 | .loop c=>rangesOf c
 | .cond _ a b=>rangesOf a++rangesOf b
 | .rangeFunc g ps a b=>[.rangeFunc g ps a b]
 | _=>[]
noncomputable def rgOf (fn:Func):Code:=(rangesOf (fn.body.getD .skip)).getD 0 .skip
noncomputable def rgA:Code->Code
 | .rangeFunc _ _ a _=>a
 | _=>.skip
noncomputable def rgB:Code->Code
 | .rangeFunc _ _ _ b=>b
 | _=>.skip
def isVb:AV->Bool
 | .agg [.int .i64 _,.int .i64 _,.list 3 _,.int .i64 _,.int .i64 _,.int .i64 _,.int .i64 _,.int .i64 _,.int .i64 _]=>true
 | _=>false
theorem xlt {x:AV} (h:isVb x=true):IsV x:=by
 unfold isVb at h;split at h
 . exact ⟨_,_,_,_,_,_,_,_,_,rfl⟩
 . simp at h
def factA:AV->AV
 | .agg [_,_,r,c,d,_,_,_,_]=>.agg [r,c,d]
 | x=>x
theorem xfW (k:AV->AV):∀ (l:List AV) (v:Nat) (ys:List AV),l.foldl (stepS (ρ:=Unit) fun (s:Nat×List AV) x=>Sum.inl (s.1+1,s.2++[k x])) (Sum.inl (v,ys))=Sum.inl (v+l.length,ys++l.map k)
 | [],v,ys=>by simp
 | x::l,v,ys=>by
  rw [List.foldl_cons];show l.foldl _ (Sum.inl (v+1,ys++[k x]))=_;rw [xfW k l (v+1) (ys++[k x])];simp only [zD,zU,zv,List.singleton_append];congr 2;omega
theorem xf2 {pre q:List AV} {x:AV} {xs:List AV} {op:AV->Bool} (h:pre++x::q=xs.filter op):x∈xs/\pre.length<xs.length:=by
 have hm:x∈xs.filter op:=by rw [<-h];simp
 have hl:=List.length_filter_le op xs;rw [<-h] at hl;simp only [z7,zD] at hl;exact ⟨(List.mem_filter.1 hm).1,by omega⟩
theorem id0:(0:Id)=.b 0:=rfl
theorem id1:(1:Id)=.b 1:=rfl
theorem id2:(2:Id)=.b 2:=rfl
theorem id3:(3:Id)=.b 3:=rfl
theorem id4:(4:Id)=.b 4:=rfl
noncomputable abbrev xmS:Env:=xcR.E.fn 18 2 (lsOf []) (xsa [])
theorem xq0:xrP Tryz.prog ⟨(xsv).inv,2,false⟩ xmS:=⟨fun g a r h=>xcR.ok.1 g a r h,fun g a H r H' h=>xcR.ok.2 g a H r H' h⟩
noncomputable abbrev xmT (xs:List AV):List AV:=mkTs 18 [(3,.own 0 0 0 0),(6,.func 67 [.eptr 1 [.list 9 xs] 0 0])]
def xk8 (s:Nat×List AV):List Box:=[⟨0,1,26,[.osl 1 s.1 0 s.2.length],false,false⟩,⟨s.1,3,60,s.2,false,true⟩]
theorem xrd (xs ys:List AV) (v n:Nat) (a b:Int) (r:List AV) (c d e f g h:Int):XB Tryz.prog xmS (rgA (rgOf Tryz.f12)) (rgB (rgOf Tryz.f12)) ((xmT xs).set 7 (verA a b r c d e f g h)) [⟨0,1,26,[.osl 1 v 0 n],false,false⟩,⟨v,3,60,ys,false,true⟩] =
 br (v==v&&(n==ys.length&&(decide ((n+1)*40<=140737488355328)&&decide (n+1<=4611686018427387904)))) (some (.normal,[⟨0,1,26,[.osl 1 (v+1) 0 (n+1)],false,false⟩,⟨v+1,3,60,ys++[.agg [.list 3 r,.int .i64 c,.int .i64 d]],false,true⟩])) none:=by kernel_rfl
theorem xqZ:LoOk Tryz.prog ⟨(xsv).inv,2,false⟩ xmS (rgA (rgOf Tryz.f12)):=xd3 (by kernel_rfl)
theorem xqx:LoOk Tryz.prog ⟨(xsv).inv,2,false⟩ xmS (rgB (rgOf Tryz.f12)):=xd3 (by kernel_rfl)
theorem xpw:rgOf Tryz.f12=.rangeFunc (.tmp 6) #[7] (rgA (rgOf Tryz.f12)) (rgB (rgOf Tryz.f12)):=by kernel_rfl
theorem xrc (xs:List AV) (s:Nat×List AV):normS 0 [] [3] ⟨xmT xs,xk8 s⟩=some ([.own 0 0 0 0],[⟨0,1,26,[.osl 1 0 0 s.2.length],false,false⟩,⟨0,3,60,s.2,false,true⟩]):=by
 obtain ⟨v,ys⟩:=s;have hb:Nat.beq v v=true:=Nat.beq_refl v;simp [normS,normH,normF,convs,xso,xsu,renOk,xsg,rens,ren,renI,gather,refsOf,refsOf.refsL,xr9,xmT,xk8,mkTs,liveOf,pinsOk,nodupB,hb,id0,id1,id2,id3,id4,Id.base,Nat.beq,Nat.blt,Nat.ble]
def rfOk (k:Nat) (xs ys:List AV):Bool:=xs.all isVb&&decide ((ys.length+xs.length)*k<=140737488355328)
noncomputable def xeU:Lp:=lpOf [3,6] [3] [(3,3,60)] (xsw (xsK 0 0 0 0) (xsw (xsb 67 (xsw (xsQ 1 0 0 (xsw (xsP 9 xsB) xsz)) xsz)) xsz)) (xsw (xsM 0 1 26 false false (xsw (xsJ 1 0 0) xsz)) (xsw (xsM 0 3 60 false true xsB) xsz))
 fun (_,(((xs,_),_),_)) ((n,_),(ys,_))=>(Nat.beq n ys.length&&rfOk 40 xs ys,.leaf .normal [.own 0 0 0 0] [⟨0,1,26,[.osl 1 0 0 (ys++(xs.filter opV).map factA).length],false,false⟩,⟨0,3,60,ys++(xs.filter opV).map factA,false,true⟩])
theorem xji:PieceOk Tryz.prog (xsv.at 0) 18 (rgOf Tryz.f12) xeU:=xlG fun vv bb rr hh=>by
 obtain ⟨_,⟨⟨xs,_⟩,_⟩,_⟩:=vv;obtain ⟨⟨n,_⟩,⟨ys,_⟩⟩:=bb;obtain ⟨h1,rfl⟩:=Prod.mk.inj hh;simp only [rfOk,ze,zk] at h1;obtain ⟨hn,hv,hb⟩:=h1;obtain rfl:=zf hn;have hV:∀ x,x∈xs->IsV x:=fun x hx=>xlt (zH.1 hv x hx)
 rw [xpw];refine xi9 (xaq (xh2 (Inv:=xsv.at 0) (xrZ Tryz.prog _) rfl (xs:=xs) (op:=opV) (T:=xmT xs) (n:=2) (σ:=Nat×List AV) (ρ:=Unit) xk8 (fun _=>[]) (fun s x=>.inl (s.1+1,s.2++[factA x])) (fun _=>rfl) (s0:=(0,ys)) (xgr xs hV (by omega)) rfl rfl ?_) ?_)
 . intro pre s x O J hf;obtain ⟨hx,hl⟩:=xf2 J;rw [xfW] at hf;simp only [Sum.inl.injEq] at hf;obtain ⟨a,b,r,c,d,e,f,g,h,rfl⟩:=hV x hx;have Q:s.2.length=ys.length+pre.length:=by rw [<-hf];simp
   have hc:(s.1==s.1&&(s.2.length==s.2.length&&(decide ((s.2.length+1)*40<=140737488355328)&&decide (s.2.length+1<=4611686018427387904))))=true:=by
    simp only [beq_self_eq_true,Bool.true_and,ze,zk];omega
   have q:=xrd xs s.2 s.1 s.2.length a b r c d e f g h;rw [hc] at q;refine xaq (xia xrY (xrZ Tryz.prog _) rfl xq0 xqZ xqx q) fun e1 s1 ⟨g1,g2⟩=>⟨g1,xaq g2 fun e2 s2 ⟨k1,T',k2⟩=>⟨k1,T',?_⟩⟩
   have:xk8 (s.1+1,s.2++[factA (verA a b r c d e f g h)])=[⟨0,1,26,[.osl 1 (s.1+1) 0 (s.2.length+1)],false,false⟩,⟨s.1+1,3,60,s.2++[.agg [.list 3 r,.int .i64 c,.int .i64 d]],false,true⟩]:=by
    simp [xk8,factA,verA]
   rw [this];exact k2
 . intro e1 s1 hq;rw [xfW] at hq;obtain ⟨rfl,rfl⟩:=hq;exact ⟨_,xcz (xrc xs _),rfl,rfl⟩
noncomputable abbrev xmU:Env:=xcR.E.fn 16 3 (lsOf []) (xsa [])
theorem xpp:xrP Tryz.prog ⟨(xsv).inv,3,false⟩ xmU:=⟨fun g a r h=>xcR.ok.1 g a r h,fun g a H r H' h=>xcR.ok.2 g a H r H' h⟩
noncomputable abbrev xoI (xs:List AV):List AV:=mkTs 16 [(3,.own 0 0 0 0),(4,.own 1 0 0 0),(5,.own 2 0 0 0),(8,.func 67 [.eptr 1 [.list 9 xs] 0 0])]
def xjU (id:Int) (z:AV) (t:Bool):List Box:=[⟨0,1,3,[.int .i64 id],false,true⟩,⟨0,9,58,[z],false,true⟩,⟨0,1,4,[.bool t],false,true⟩]
theorem xre (xs:List AV) (id:Int) (z:AV) (t:Bool) (a b:Int) (r:List AV) (c d e f g h:Int):XB Tryz.prog xmU (rgA (rgOf Tryz.f78)) (rgB (rgOf Tryz.f78)) ((xoI xs).set 9 (verA a b r c d e f g h)) (xjU id z t) =
 br (a==id) (some (.ret,xjU id (verA a b r c d e f g h) true)) (some (.normal,xjU id z t)):=by kernel_rfl
theorem xpn:LoOk Tryz.prog ⟨(xsv).inv,3,false⟩ xmU (rgA (rgOf Tryz.f78)):=xd3 (by kernel_rfl)
theorem xpo:LoOk Tryz.prog ⟨(xsv).inv,3,false⟩ xmU (rgB (rgOf Tryz.f78)):=xd3 (by kernel_rfl)
theorem xpy:rgOf Tryz.f78=.rangeFunc (.tmp 8) #[9] (rgA (rgOf Tryz.f78)) (rgB (rgOf Tryz.f78)):=by kernel_rfl
theorem xqv (xs:List AV) (id:Int) (z:AV) (t:Bool):normS 0 [] [4,5] ⟨xoI xs,xjU id z t⟩=some ([.own 0 0 0 0,.own 1 0 0 0],[⟨0,9,58,[z],false,true⟩,⟨0,1,4,[.bool t],false,true⟩]):=by kernel_rfl
def idA:AV->Int
 | .agg [.int _ a,_,_,_,_,_,_,_,_]=>a
 | _=>0
noncomputable def findA (id:Int) (xs:List AV):Option AV:=(xs.filter opV).find? fun x=>idA x==id
theorem xki (id:Int):∀ l:List AV,l.foldl (stepS fun (_:Unit) x=>br (idA x==id) (Sum.inr x) (.inl ())) (.inl ())=match l.find? fun x=>idA x==id with|some x=>.inr x|none=>.inl ()
 | []=>rfl
 | x::l=>by
  rw [List.foldl_cons,List.find?_cons];show l.foldl _ (br (idA x==id) (Sum.inr x) (.inl ()))=_;cases h:idA x==id with
  | true=>exact xh4 _ _ _
  | false=>exact xki id l
def exA (x:AV):AV:=.agg [.int .i64 (x.cells.getD 0 .top).toInt,.int .i64 (x.cells.getD 1 .top).toInt,.list 3 (x.cells.getD 2 .top).toList,.int .i64 (x.cells.getD 3 .top).toInt,.int .i64 (x.cells.getD 4 .top).toInt,.int .i64 (x.cells.getD 5 .top).toInt,.int .i64 (x.cells.getD 6 .top).toInt,.int .i64 (x.cells.getD 7 .top).toInt,.int .i64 (x.cells.getD 8 .top).toInt]
theorem xq4 {x:AV} (h:IsV x):exA x=x:=by
 obtain ⟨a,b,r,c,d,e,f,g,i,rfl⟩:=h;rfl
noncomputable def xcJ:Lp:=lpOf [3,4,5,8] [4,5] [] (xsw (xsK 0 0 0 0) (xsw (xsK 1 0 0 0) (xsw (xsK 2 0 0 0) (xsw (xsb 67 (xsw (xsQ 1 0 0 (xsw (xsP 9 xsB) xsz)) xsz)) xsz)))) (xsw (xsM 0 1 3 false true (xsw (pInt .i64) xsz)) (xsw (xsM 0 9 58 false true (xsw xsB xsz)) (xsw (xsM 0 1 4 false true (xsw pBool xsz)) xsz)))
 fun (_,(_,(_,(((xs,_),_),_)))) ((id,_),((z,_),((t,_),_)))=>(xs.all isVb&&decide (xs.length<4611686018427387904),
  .node (findA id xs).isSome (.leaf .ret [.own 0 0 0 0,.own 1 0 0 0] [⟨0,9,58,[exA ((findA id xs).getD .top)],false,true⟩,⟨0,1,4,[.bool true],false,true⟩]) (.leaf .normal [.own 0 0 0 0,.own 1 0 0 0] [⟨0,9,58,[z],false,true⟩,⟨0,1,4,[.bool t],false,true⟩]))
theorem xgB:PieceOk Tryz.prog (xsv.at 0) 16 (rgOf Tryz.f78) xcJ:=xlG fun vv bb rr hh=>by
 obtain ⟨_,_,_,⟨⟨xs,_⟩,_⟩,_⟩:=vv;obtain ⟨⟨id,_⟩,⟨z,_⟩,⟨t,_⟩,_⟩:=bb;obtain ⟨h1,rfl⟩:=Prod.mk.inj hh;simp only [ze,zk] at h1;have hV:∀ x,x∈xs->IsV x:=fun x hx=>xlt (zH.1 h1.1 x hx)
 rw [xpy];refine xi9 (xaq (xh2 (Inv:=xsv.at 0) (xrZ Tryz.prog _) rfl (xs:=xs) (op:=opV) (T:=xoI xs) (n:=3) (σ:=Unit) (ρ:=AV) (fun _=>xjU id z t) (fun x=>xjU id x true) (fun _ x=>br (idA x==id) (.inr x) (.inl ())) (fun _=>rfl) (s0:=()) (xgr xs hV h1.2) rfl rfl ?_) ?_)
 . intro pre s x U O hf;obtain ⟨hx,hl⟩:=xf2 O;obtain ⟨a,b,r,c,d,e,f,g,h,rfl⟩:=hV x hx;have q:=xre xs id z t a b r c d e f g h;have Q:idA (verA a b r c d e f g h)=a:=rfl;rw [Q];cases hc:a==id with
   | true =>
    rw [hc] at q;exact xaq (xia xrY (xrZ Tryz.prog _) rfl xpp xpn xpo q) fun e1 s1 ⟨g1,g2⟩=>⟨g1,xaq g2 fun e2 s2 ⟨k1,T',k2⟩=>⟨k1,T',k2⟩⟩
   | false =>
    rw [hc] at q;exact xaq (xia xrY (xrZ Tryz.prog _) rfl xpp xpn xpo q) fun e1 s1 ⟨g1,g2⟩=>⟨g1,xaq g2 fun e2 s2 ⟨k1,T',k2⟩=>⟨k1,T',k2⟩⟩
 . intro e1 s1 hq;rw [xki] at hq;unfold findA;cases hf:(xs.filter opV).find? (fun x=>idA x==id) with
   | some x =>
    rw [hf] at hq;obtain ⟨rfl,rfl⟩:=hq;have J:exA ((some x).getD .top)=x:=xq4 (hV x (List.mem_filter.1 (List.mem_of_find?_eq_some hf)).1);refine ⟨_,xcz (xqv xs id x true),rfl,?_⟩;simp only [LR.eval,J,zj];rfl
   | none =>
    rw [hf] at hq;obtain ⟨rfl,rfl⟩:=hq;exact ⟨_,xcz (xqv xs id z t),rfl,rfl⟩
noncomputable abbrev xmV:Env:=xcR.E.fn 67 5 (lsOf []) (xsa [])
theorem xq3:xrP Tryz.prog ⟨(xsv).inv,5,false⟩ xmV:=⟨fun g a r h=>xcR.ok.1 g a r h,fun g a H r H' h=>xcR.ok.2 g a H r H' h⟩
noncomputable abbrev xmW (xs:List AV):List AV:=mkTs 67 [(6,.own 0 0 0 0),(7,.own 1 0 0 0),(8,.func 47 [.own 0 0 0 0,.own 1 0 0 0]),(9,.own 2 0 0 0),(24,.func 67 [.eptr 1 [.list 9 xs] 0 0])]
def xiT (nx bs:List AV) (m:Nat) (s:Nat×List AV):List Box:=[⟨0,1,26,[.list 3 nx],false,true⟩,⟨0,1,75,[.osl 3 0 0 m],false,false⟩,⟨0,1,22,[.osl 4 s.1 0 s.2.length],false,false⟩,⟨0,1,4,bs,false,true⟩,⟨s.1,9,58,s.2,false,true⟩]
theorem xrg (xs nx bs ys:List AV) (m v n:Nat) (a b:Int) (r:List AV) (c d e f g h:Int):XB Tryz.prog xmV (rgA (rgOf Tryz.f18)) (rgB (rgOf Tryz.f18)) ((xmW xs).set 25 (verA a b r c d e f g h)) [⟨0,1,26,[.list 3 nx],false,true⟩,⟨0,1,75,[.osl 3 0 0 m],false,false⟩,⟨0,1,22,[.osl 4 v 0 n],false,false⟩,⟨0,1,4,bs,false,true⟩,⟨v,9,58,ys,false,true⟩] =
 br (v==v&&(n==ys.length&&(decide ((n+1)*88<=140737488355328)&&decide (n+1<=4611686018427387904)))) (some (.normal,[⟨0,1,26,[.list 3 nx],false,true⟩,⟨0,1,75,[.osl 3 0 0 m],false,false⟩,⟨0,1,22,[.osl 4 (v+1) 0 (n+1)],false,false⟩,⟨0,1,4,bs,false,true⟩,⟨v+1,9,58,ys++[verA a b r c d e f g h],false,true⟩])) none:=by kernel_rfl
theorem xq1:LoOk Tryz.prog ⟨(xsv).inv,5,false⟩ xmV (rgA (rgOf Tryz.f18)):=xd3 (by kernel_rfl)
theorem xq2:LoOk Tryz.prog ⟨(xsv).inv,5,false⟩ xmV (rgB (rgOf Tryz.f18)):=xd3 (by kernel_rfl)
theorem xpz:rgOf Tryz.f18=.rangeFunc (.tmp 24) #[25] (rgA (rgOf Tryz.f18)) (rgB (rgOf Tryz.f18)):=by kernel_rfl
theorem xrf (xs nx bs:List AV) (m:Nat) (s:Nat×List AV):normS 0 [] [6,7,8,9] ⟨xmW xs,xiT nx bs m s⟩=some ([.own 0 0 0 0,.own 1 0 0 0,.func 47 [.own 0 0 0 0,.own 1 0 0 0],.own 2 0 0 0],xiT nx bs m (0,s.2)):=by
 obtain ⟨v,ys⟩:=s;have hb:Nat.beq v v=true:=Nat.beq_refl v;simp [normS,normH,normF,convs,xso,xsu,renOk,xsg,rens,ren,renI,gather,refsOf,refsOf.refsL,xr9,xmW,xiT,mkTs,liveOf,pinsOk,nodupB,hb,id0,id1,id2,id3,id4,Id.base,Nat.beq,Nat.blt,Nat.ble]
noncomputable def xdZ:Lp:=lpOf [6,7,8,9,24] [6,7,8,9] [(9,9,58)] (xsw (xsK 0 0 0 0) (xsw (xsK 1 0 0 0) (xsw (xsb 47 (xsw (xsK 0 0 0 0) (xsw (xsK 1 0 0 0) xsz))) (xsw (xsK 2 0 0 0) (xsw (xsb 67 (xsw (xsQ 1 0 0 (xsw (xsP 9 xsB) xsz)) xsz)) xsz)))))
  (xsw (xsM 0 1 26 false true (xsw (xsP 3 xsB) xsz)) (xsw (xsM 0 1 75 false false (xsw (xsJ 3 0 0) xsz)) (xsw (xsM 0 1 22 false false (xsw (xsJ 4 0 0) xsz)) (xsw (xsM 0 1 4 false true xsB) (xsw (xsM 0 9 58 false true xsB) xsz)))))
 fun (_,(_,(_,(_,(((xs,_),_),_))))) ((nx,_),((m,_),((n,_),(bs,(ys,_)))))=>(Nat.beq n ys.length&&rfOk 88 xs ys,
  .leaf .normal [.own 0 0 0 0,.own 1 0 0 0,.func 47 [.own 0 0 0 0,.own 1 0 0 0],.own 2 0 0 0] (xiT nx bs m (0,ys++xs.filter opV)))
theorem xim:PieceOk Tryz.prog (xsv.at 0) 67 (rgOf Tryz.f18) xdZ:=xlG fun vv bb rr hh=>by
 obtain ⟨_,_,_,_,⟨⟨xs,_⟩,_⟩,_⟩:=vv;obtain ⟨⟨nx,_⟩,⟨m,_⟩,⟨n,_⟩,bs,ys,_⟩:=bb;obtain ⟨h1,rfl⟩:=Prod.mk.inj hh;simp only [rfOk,ze,zk] at h1;obtain ⟨hn,hv,hb⟩:=h1;obtain rfl:=zf hn;have hV:∀ x,x∈xs->IsV x:=fun x hx=>xlt (zH.1 hv x hx)
 rw [xpz];refine xi9 (xaq (xh2 (Inv:=xsv.at 0) (xrZ Tryz.prog _) rfl (xs:=xs) (op:=opV) (T:=xmW xs) (n:=5) (σ:=Nat×List AV) (ρ:=Unit) (xiT nx bs m) (fun _=>[]) (fun s x=>.inl (s.1+1,s.2++[id x])) (fun _=>rfl) (s0:=(0,ys)) (xgr xs hV (by omega)) rfl rfl ?_) ?_)
 . intro pre s x O J hf;obtain ⟨hx,hl⟩:=xf2 J;rw [xfW] at hf;simp only [Sum.inl.injEq] at hf;obtain ⟨a,b,r,c,d,e,f,g,h,rfl⟩:=hV x hx;have Q:s.2.length=ys.length+pre.length:=by rw [<-hf];simp
   have hc:(s.1==s.1&&(s.2.length==s.2.length&&(decide ((s.2.length+1)*88<=140737488355328)&&decide (s.2.length+1<=4611686018427387904))))=true:=by
    simp only [beq_self_eq_true,Bool.true_and,ze,zk];omega
   have q:=xrg xs nx bs s.2 m s.1 s.2.length a b r c d e f g h;rw [hc] at q;refine xaq (xia xrY (xrZ Tryz.prog _) rfl xq3 xq1 xq2 q) fun e1 s1 ⟨g1,g2⟩=>⟨g1,xaq g2 fun e2 s2 ⟨k1,T',k2⟩=>⟨k1,T',?_⟩⟩
   have:xiT nx bs m (s.1+1,s.2++[id (verA a b r c d e f g h)])=[⟨0,1,26,[.list 3 nx],false,true⟩,⟨0,1,75,[.osl 3 0 0 m],false,false⟩,⟨0,1,22,[.osl 4 (s.1+1) 0 (s.2.length+1)],false,false⟩,⟨0,1,4,bs,false,true⟩,⟨s.1+1,9,58,s.2++[verA a b r c d e f g h],false,true⟩]:=by
    simp [xiT]
   rw [this];exact k2
 . intro e1 s1 hq;rw [xfW] at hq;obtain ⟨rfl,rfl⟩:=hq;refine ⟨_,xcz (xrf xs nx bs m _),rfl,?_⟩;simp [LR.eval];rfl
end Go.Sim.M
namespace Go.Sim.M
open Go.IntKind (i64 u64 u8)
open Go.RowKit Go.Proofs
def xbA:Env:=xcR.E.fn 16 0 (lsOf []) (xsa [(3000003,xcJ)])
theorem xfS:xrP P0 (xsv.at 0) xbA:=xcR.ok.fn
theorem xfj:LoOk P0 (xsv.at xbA.pin) xbA (Tryz.f78.body.getD .skip):=xic (ls:=[]) (by kernel_rfl) (fun l a=>by simp at a) (lp0:=xcJ) xgB (by kernel_rfl)
def xeq {T:Type} (l:LA) (a:Int) (δ:T) (κ:Bool×(Int×Int×LA×Int×Int×Int×Int×Int×Int×Bool)×(Int×Int×Int×Int×Int×Int×Int×Int×Bool)->T):T:=br ((xaz l).all isVb&&decide ((xaz l).length<4611686018427387904)) (br ((findA a (xaz l)).isSome) (κ (true,((((findA a (xaz l)).getD .top).cells.getD 0 .top).toInt,(((findA a (xaz l)).getD .top).cells.getD 1 .top).toInt,(((findA a (xaz l)).getD .top).cells.getD 2 .top).toList,(((findA a (xaz l)).getD .top).cells.getD 3 .top).toInt,(((findA a (xaz l)).getD .top).cells.getD 4 .top).toInt,(((findA a (xaz l)).getD .top).cells.getD 5 .top).toInt,(((findA a (xaz l)).getD .top).cells.getD 6 .top).toInt,(((findA a (xaz l)).getD .top).cells.getD 7 .top).toInt,(((findA a (xaz l)).getD .top).cells.getD 8 .top).toInt,true),(0,0,0,0,0,0,0,0,false))) (κ (false,(0,0,[],0,0,0,0,0,0,false),(0,0,0,0,0,0,0,0,false)))) δ
def xab (l:LA) (a:Int):=xeq l a none some
theorem xhO (l:LA) (a:Int):Enc (fun (p:Bool×(Int×Int×LA×Int×Int×Int×Int×Int×Int×Bool)×(Int×Int×Int×Int×Int×Int×Int×Int×Bool))=>((br p.1 (AV.tuple [AV.agg [AV.int .i64 p.2.1.1,AV.int .i64 p.2.1.2.1,AV.list 3 p.2.1.2.2.1,AV.int .i64 p.2.1.2.2.2.1,AV.int .i64 p.2.1.2.2.2.2.1,AV.int .i64 p.2.1.2.2.2.2.2.1,AV.int .i64 p.2.1.2.2.2.2.2.2.1,AV.int .i64 p.2.1.2.2.2.2.2.2.2.1,AV.int .i64 p.2.1.2.2.2.2.2.2.2.2.1],AV.bool p.2.1.2.2.2.2.2.2.2.2.2]) (AV.tuple [AV.agg [AV.int .i64 p.2.2.1,AV.int .i64 p.2.2.2.1,AV.nils,AV.int .i64 p.2.2.2.2.1,AV.int .i64 p.2.2.2.2.2.1,AV.int .i64 p.2.2.2.2.2.2.1,AV.int .i64 p.2.2.2.2.2.2.2.1,AV.int .i64 p.2.2.2.2.2.2.2.2.1,AV.int .i64 p.2.2.2.2.2.2.2.2.2.1],AV.bool p.2.2.2.2.2.2.2.2.2.2])):AV)) (xab l a) (XF P0 xbA Tryz.f78 (Tryz.f78.body.getD .skip) [AV.list 9 l,AV.int .i64 a]):=by
 have h:XF P0 xbA Tryz.f78 (Tryz.f78.body.getD .skip) [AV.list 9 l,AV.int .i64 a]=xeq l a none (fun (p:Bool×(Int×Int×LA×Int×Int×Int×Int×Int×Int×Bool)×(Int×Int×Int×Int×Int×Int×Int×Int×Bool))=>some ((br p.1 (AV.tuple [AV.agg [AV.int .i64 p.2.1.1,AV.int .i64 p.2.1.2.1,AV.list 3 p.2.1.2.2.1,AV.int .i64 p.2.1.2.2.2.1,AV.int .i64 p.2.1.2.2.2.2.1,AV.int .i64 p.2.1.2.2.2.2.2.1,AV.int .i64 p.2.1.2.2.2.2.2.2.1,AV.int .i64 p.2.1.2.2.2.2.2.2.2.1,AV.int .i64 p.2.1.2.2.2.2.2.2.2.2.1],AV.bool p.2.1.2.2.2.2.2.2.2.2.2]) (AV.tuple [AV.agg [AV.int .i64 p.2.2.1,AV.int .i64 p.2.2.2.1,AV.nils,AV.int .i64 p.2.2.2.2.1,AV.int .i64 p.2.2.2.2.2.1,AV.int .i64 p.2.2.2.2.2.2.1,AV.int .i64 p.2.2.2.2.2.2.2.1,AV.int .i64 p.2.2.2.2.2.2.2.2.1,AV.int .i64 p.2.2.2.2.2.2.2.2.2.1],AV.bool p.2.2.2.2.2.2.2.2.2.2])):AV)):=by kernel_rfl
 rw [h];unfold xab xeq;repeat' (first|refine Enc.br ?_ ?_|exact Enc.none|exact Enc.some rfl)
def xlm:LA->Option (Bool×AV):=ocOf (xsy (xsN 9 xsB) (xsy (sEq (pInt .i64)) xsA)) fun (l,(a,_))=>((xab l a).isSome,(br ((xab l a).getD (false,(0,0,[],0,0,0,0,0,0,false),(0,0,0,0,0,0,0,0,false))).1 (AV.tuple [AV.agg [AV.int .i64 ((xab l a).getD (false,(0,0,[],0,0,0,0,0,0,false),(0,0,0,0,0,0,0,0,false))).2.1.1,AV.int .i64 ((xab l a).getD (false,(0,0,[],0,0,0,0,0,0,false),(0,0,0,0,0,0,0,0,false))).2.1.2.1,AV.list 3 ((xab l a).getD (false,(0,0,[],0,0,0,0,0,0,false),(0,0,0,0,0,0,0,0,false))).2.1.2.2.1,AV.int .i64 ((xab l a).getD (false,(0,0,[],0,0,0,0,0,0,false),(0,0,0,0,0,0,0,0,false))).2.1.2.2.2.1,AV.int .i64 ((xab l a).getD (false,(0,0,[],0,0,0,0,0,0,false),(0,0,0,0,0,0,0,0,false))).2.1.2.2.2.2.1,AV.int .i64 ((xab l a).getD (false,(0,0,[],0,0,0,0,0,0,false),(0,0,0,0,0,0,0,0,false))).2.1.2.2.2.2.2.1,AV.int .i64 ((xab l a).getD (false,(0,0,[],0,0,0,0,0,0,false),(0,0,0,0,0,0,0,0,false))).2.1.2.2.2.2.2.2.1,AV.int .i64 ((xab l a).getD (false,(0,0,[],0,0,0,0,0,0,false),(0,0,0,0,0,0,0,0,false))).2.1.2.2.2.2.2.2.2.1,AV.int .i64 ((xab l a).getD (false,(0,0,[],0,0,0,0,0,0,false),(0,0,0,0,0,0,0,0,false))).2.1.2.2.2.2.2.2.2.2.1],AV.bool ((xab l a).getD (false,(0,0,[],0,0,0,0,0,0,false),(0,0,0,0,0,0,0,0,false))).2.1.2.2.2.2.2.2.2.2.2]) (AV.tuple [AV.agg [AV.int .i64 ((xab l a).getD (false,(0,0,[],0,0,0,0,0,0,false),(0,0,0,0,0,0,0,0,false))).2.2.1,AV.int .i64 ((xab l a).getD (false,(0,0,[],0,0,0,0,0,0,false),(0,0,0,0,0,0,0,0,false))).2.2.2.1,AV.nils,AV.int .i64 ((xab l a).getD (false,(0,0,[],0,0,0,0,0,0,false),(0,0,0,0,0,0,0,0,false))).2.2.2.2.1,AV.int .i64 ((xab l a).getD (false,(0,0,[],0,0,0,0,0,0,false),(0,0,0,0,0,0,0,0,false))).2.2.2.2.2.1,AV.int .i64 ((xab l a).getD (false,(0,0,[],0,0,0,0,0,0,false),(0,0,0,0,0,0,0,0,false))).2.2.2.2.2.2.1,AV.int .i64 ((xab l a).getD (false,(0,0,[],0,0,0,0,0,0,false),(0,0,0,0,0,0,0,0,false))).2.2.2.2.2.2.2.1,AV.int .i64 ((xab l a).getD (false,(0,0,[],0,0,0,0,0,0,false),(0,0,0,0,0,0,0,0,false))).2.2.2.2.2.2.2.2.1,AV.int .i64 ((xab l a).getD (false,(0,0,[],0,0,0,0,0,0,false),(0,0,0,0,0,0,0,0,false))).2.2.2.2.2.2.2.2.2.1],AV.bool ((xab l a).getD (false,(0,0,[],0,0,0,0,0,0,false),(0,0,0,0,0,0,0,0,false))).2.2.2.2.2.2.2.2.2.2])))
theorem xll:OcOk P0 xsv 78 (xlm):=xfM fun c g e=>by
 obtain ⟨l,⟨f,_⟩⟩:=c;obtain ⟨a,b⟩:=Prod.mk.inj e;refine xcq (p:=xbA.pin) (xd9 xrY (xrZ P0 _) rfl xfS Tryz.func78 rfl (by kernel_rfl) xfj ((xhO _ _ _ (xbJ (d:=(false,(0,0,[],0,0,0,0,0,0,false),(0,0,0,0,0,0,0,0,false))) a)).trans ?_))
 exact congrArg some b
def xqn:EO:=xcR.w xll
theorem xpe {a b:AV} (x:AV) (h:Sub a b):Sub (.tuple [a,x]) (.tuple [b,x]):=fun w A M v d=>by
 obtain ⟨f,rfl,g,c⟩:=d.tuple_inv;refine .tuple f _ g fun i e=>?_
 match i,e with
 | 0,_=>exact h w A M _ (c 0 (by simp))
 | 1,_=>exact c 1 (by simp)
theorem xqd (a b c d e f g h:Int):Sub (.agg [.int .i64 a,.int .i64 b,.nils,.int .i64 c,.int .i64 d,.int .i64 e,.int .i64 f,.int .i64 g,.int .i64 h]) (.agg [.int .i64 a,.int .i64 b,.list 3 [],.int .i64 c,.int .i64 d,.int .i64 e,.int .i64 f,.int .i64 g,.int .i64 h]) :=
 xmO ⟨rfl,fun i j=>match i,j with
 | 0,_=>Sub.refl _
 | 1,_=>Sub.refl _
 | 2,_=>xf9 3
 | 3,_=>Sub.refl _
 | 4,_=>Sub.refl _
 | 5,_=>Sub.refl _
 | 6,_=>Sub.refl _
 | 7,_=>Sub.refl _
 | 8,_=>Sub.refl _⟩
def findS (p:Bool×(Int×Int×LA×Int×Int×Int×Int×Int×Int×Bool)×(Int×Int×Int×Int×Int×Int×Int×Int×Bool)):Int×Int×LA×Int×Int×Int×Int×Int×Int×Bool:=br p.1 p.2.1 (p.2.2.1,p.2.2.2.1,[],p.2.2.2.2.1,p.2.2.2.2.2.1,p.2.2.2.2.2.2.1,p.2.2.2.2.2.2.2.1,p.2.2.2.2.2.2.2.2.1,p.2.2.2.2.2.2.2.2.2.1,p.2.2.2.2.2.2.2.2.2.2)
def xav (l:LA) (a:Int):Option (Int×Int×LA×Int×Int×Int×Int×Int×Int×Bool):=(xab l a).map findS
def xkV:LA->Option (Bool×AV):=ocOf (xsy (xsN 9 xsB) (xsy (sEq (pInt .i64)) xsA)) fun (l,(a,_))=>((xav l a).isSome,AV.tuple [AV.agg [AV.int .i64 ((xav l a).getD (0,0,[],0,0,0,0,0,0,false)).1,AV.int .i64 ((xav l a).getD (0,0,[],0,0,0,0,0,0,false)).2.1,AV.list 3 ((xav l a).getD (0,0,[],0,0,0,0,0,0,false)).2.2.1,AV.int .i64 ((xav l a).getD (0,0,[],0,0,0,0,0,0,false)).2.2.2.1,AV.int .i64 ((xav l a).getD (0,0,[],0,0,0,0,0,0,false)).2.2.2.2.1,AV.int .i64 ((xav l a).getD (0,0,[],0,0,0,0,0,0,false)).2.2.2.2.2.1,AV.int .i64 ((xav l a).getD (0,0,[],0,0,0,0,0,0,false)).2.2.2.2.2.2.1,AV.int .i64 ((xav l a).getD (0,0,[],0,0,0,0,0,0,false)).2.2.2.2.2.2.2.1,AV.int .i64 ((xav l a).getD (0,0,[],0,0,0,0,0,0,false)).2.2.2.2.2.2.2.2.1],AV.bool ((xav l a).getD (0,0,[],0,0,0,0,0,0,false)).2.2.2.2.2.2.2.2.2])
theorem xkU:OcOk P0 xsv 78 (xkV):=xfM fun e g f=>by
 obtain ⟨l,⟨d,_⟩⟩:=e;obtain ⟨a,c⟩:=Prod.mk.inj f;unfold xav at a c;cases hf:xab l d with
 | none=>rw [hf] at a;simp at a
 | some p =>
  rw [hf] at c;have hx:=xhO l d p hf;have hg:Good P0 xsv 78 _ _:=xcq (p:=xbA.pin) (xd9 xrY (xrZ P0 _) rfl xfS Tryz.func78 rfl (by kernel_rfl) xfj hx)
  rw [<-c];refine Good.sub hg ?_;obtain ⟨b,h,i⟩:=p;cases b with
  | true=>exact Sub.refl _
  | false=>exact xpe _ (xqd _ _ _ _ _ _ _ _)
def EKF:EO:=xqn.w xkU
def xbU (l a:LA) (b:Int):=((xav l (gC a b 0).toInt).getD (0,0,[],0,0,0,0,0,0,false)).snd.snd.snd.snd.snd
def xcP (l a:LA) (b:Int):=!(xbU l a b).snd.snd.snd.snd
def xbd {T:Type} (l b:LA) (a d c e f:Int) (δ:T) (κl:(Int×Int×Int×Int×Int)->T) (κr:(Bool×(Int)×(Unit))->T):T:=br ((xav l (gC b a 0).toInt).isSome) (br (xcP l b a) (κr (true,(11),())) (br (decide ((xbU l b a).fst>=c)) (κr (true,(6),())) (κl (i64.wrap (a+1),d,c,e,f)))) δ
def xbt {T:Type} (l c i b:LA) (h a d e f g:Int) (δ:T) (κl:(Int×Int×Int×Int×Int)->T) (κr:(Bool×(Int)×(Unit))->T):T:=br (decide (a<h)) (br (ixI b a) (br (ixS b a (Sh.int .i64) 0) (br (decide (a>0)) (br (decide (0<=i64.wrap (a - 1))&&decide (i64.wrap (a - 1)<(↑c.length:Int))) (br (decide ((i64.wrap (a - 1)).toNat<c.length)&&xrN (Sh.int .i64) ((c.getD (i64.wrap (a - 1)).toNat .top).cells.getD 0 .top)) (br (decide ((gC b a 0).toInt<=((c.getD (i64.wrap (a - 1)).toNat .top).cells.getD 0 .top).toInt)) (κr (true,(9),())) (xbd l b a d e f g δ κl κr)) δ) δ) (xbd l b a d e f g δ κl κr)) δ) δ) (κr (false,0,()))
def xaD (l b a c:LA) (d:Int):StT (Int×Int×Int×Int×Int) (Bool×(Int)×(Unit)):=fun (e,f,g,h,i)=>xbt l b a c d e f g h i none inL inR
def xcO:=EKF.l 67 0 [] [] Tryz.f55 0 lk0 [0,1,2,7,23,24,25] [2,8] [] (q7 (qL 9) (qL 1) (qL 3) (xsK 0 0 0 0) (qL 1) qI qI) (q1 (qB 0 10 46 (q1 (xsL (q10 qI qI qI qI pNils pNils pNils pNils pNils pNils))))) (fun (l,b,a,_,c,d,e,_) (((f,g,h,i,_,_,_,_,_,_,_),_),_)=>(xaD l b a c d,(e,f,g,h,i),fun p=>(.node p.1 (.leaf .ret [AV.list 3 a,AV.int .i64 p.2.1] []) (.leaf (.exit 0) [AV.list 3 a,.top] [])))) (false,0,()) fun (l,b,a,_,c,d,_,_) _ (e,f,g,h,i)=>(((l,b,a,(),c,d,e,()),(((f,g,h,i,(),(),(),(),(),(),()),()),())),xbt l b a c d e f g h i none)
def xbx {T:Type} (b:LA) (c a:Int) (δ:T) (κl:(Int)->T) (κr:(Bool×(Int)×(Unit))->T):T:=br (decide (a<c)) (br (ixI b a) (br (ixT b a 3 [Sh.list 3,Sh.int .i64,Sh.int .i64] 0) (br (!xcg (gC b a 1).toInt (gC b a 2).toInt) (κr (true,(8),())) (κl (i64.wrap (a+1)))) δ) δ) (κr (false,0,()))
def xas (a:LA) (b:Int):StT (Int) (Bool×(Int)×(Unit)):=fun (c)=>xbx a b c none inL inR
def xeL:=EKF.l 67 0 [] [(4,xcO.lp)] Tryz.f55 1 lk0 [56,57,58] [8] [] (q3 (qL 3) qI qI) xsz (fun (a,b,c,_) _=>(xas a b,(c),fun p=>(.node p.1 (.leaf .ret [AV.int .i64 p.2.1] []) (.leaf (.exit 2) [.top] [])))) (false,0,()) fun (a,b,_,_) _ (c)=>(((a,b,c,()),()),xbx a b c none)
def xd0 (l a d:LA) (f b c e:Int):=Iter (xaD l a d a (↑a.length:Int)) (0,f,b,c,e)
def xdx (l f c:LA) (e a b d:Int):=(xd0 l f c e a b d).getD (false,0,())
def xep {T:Type} (l f a:LA) (e b c d:Int) (δ:T) (κ:Int->T):T:=br (decide (b<0)) (κ (6)) (br (decide (b>=1099511627776)) (κ (6)) (br ((xd0 l f a e b c d).isSome) (br ((xdx l f a e b c d).fst) (κ ((xdx l f a e b c d).snd.fst)) (br ((Iter (xas a (↑a.length:Int)) 0).isSome) (br (((Iter (xas a (↑a.length:Int)) 0).getD (false,0,())).fst) (κ (((Iter (xas a (↑a.length:Int)) 0).getD (false,0,())).snd.fst)) (κ (0))) δ)) δ))
def xcI (l f c:LA) (e a b d:Int):=xep l f c e a b d none some
def xqo:EO:=EKF.f Tryz.func55 67 0 [] [(4,xcO.lp),(15,xeL.lp)] (lks (lkC xcO.ok (lkC xeL.ok lkN))) (u4 (uL 9) (uL 1) (uL 3) (xsO (xsy uI (xsy uI (xsy uI (u7 uI (sEq pNils) (sEq pNils) (sEq pNils) (sEq pNils) (sEq pNils) (sEq pNils))))))) (fun (l,g,c,(e,a,b,d,_,_,_,_,_,_,_),_) _=>xep l g c e a b d) (fun _ p=>AV.int .i64 p) 0
def xgT (x y:Int):Bool:=(br (xbG x) (br (!xbG y) ((true)) ((decide (x<y)))) ((decide (x<y))))
def xm6 {T:Type} (x y:Int) (δ:T) (κ:Bool->T):T:=br (xbG x) (br (!xbG y) (κ (true)) (κ (decide (x<y)))) (κ (decide (x<y)))
def xqp:EO:=xqo.fT Tryz.func79 17 0 [] [] lk0 (fun (x,y,_)=>xm6 x y none) (u2 uI uI) (fun (x,y,_)=>xgT x y) (fun _ p=>(AV.bool p))
def xdl (x:Int):Bool:=((x != x))
def xj5 {T:Type} (x:Int) (δ:T) (κ:Bool->T):T:=κ (x != x)
def xnJ:EO:=xqp.fT Tryz.func80 6 0 [] [] lk0 (fun (x,_)=>xj5 x none) (u1 uI) (fun (x,_)=>xdl x) (fun _ p=>(AV.bool p))
def xaf (i j:Int):=i64.wrap ((u64.wrap (i64.wrap (i+j))).fdiv 2)
def xaS {T:Type} (x:LA) (a n i j:Int) (δ:T) (κl:(Int×Int)->T) (κr:(Int)->T):T:=br (decide (i<j)) (br (decide (0<=xaf i j)&&decide (xaf i j<x.length)) (br (decide ((xaf i j).toNat<x.length)&&xrN (Sh.int .i64) ((x.getD (xaf i j).toNat .top).cells.getD 0 .top)) (br (xgT ((x.getD (xaf i j).toNat .top).cells.getD 0 .top).toInt a) (κl (i64.wrap (xaf i j+1),j)) (κl (i,xaf i j))) δ) δ) (κr (i))
def xag (x:LA) (a n:Int):StT (Int×Int) (Int):=fun (i,j)=>xaS x a n i j none inL inR
def xcU:=xnJ.l 54 0 [] [] Tryz.f56 0 lk0 [0,1,6,7,8] [0,1,6,7] [] (q5 (qL 1) qI qI qI qI) xsz (fun (x,a,n,i,j,_) _=>(xag x a n,(i,j),fun p=>(.leaf (.exit 0) [AV.list 1 x,AV.int .i64 a,AV.int .i64 n,AV.int .i64 p] []))) 0 fun (x,a,n,_,_,_) _ (i,j)=>(((x,a,n,i,j,()),()),xaS x a n i j none)
def xaa (x:LA) (a:Int):=(Iter (xag x a (↑x.length:Int)) (0,(↑x.length:Int))).getD 0
def xb8 (x:LA) (a:Int):=decide (0<=xaa x a)&&decide (xaa x a<x.length)
def xb9 (x:LA) (a:Int):=decide ((xaa x a).toNat<x.length)&&xrN (Sh.int .i64) ((x.getD (xaa x a).toNat .top).cells.getD 0 .top)
def xcj {T:Type} (x:LA) (a:Int) (δ:T) (κ:Int×Bool->T):T:=br ((Iter (xag x a (↑x.length:Int)) (0,(↑x.length:Int))).isSome) (br (decide (xaa x a<x.length)) (br (xb8 x a) (br (xb9 x a) (br (((x.getD (xaa x a).toNat .top).cells.getD 0 .top).toInt==a) (κ (xaa x a,true)) (br (xb8 x a) (br (xb9 x a) (br (xdl ((x.getD (xaa x a).toNat .top).cells.getD 0 .top).toInt) (κ (xaa x a,xdl a)) (κ (xaa x a,false))) δ) δ)) δ) δ) (κ (xaa x a,false))) δ
def xa0 (x:LA) (a:Int):=xcj x a none some
def xhF:EO:=xnJ.f Tryz.func56 54 0 [] [(3,xcU.lp)] (lk1 xcU.ok) (u2 (uL 1) uI) (fun (x,a,_) _=>xcj x a) (fun _ p=>AV.tuple [AV.int .i64 p.1,AV.bool p.2]) (0,false)
def xau (a:LA) (b:Int):Nat:=0+(gC a b 2).toList.length
def xdw (g e:LA) (first c h i j k:Int) (a:LA) (l:Int) (f:Nat) (b:Int) (d:LA):=decide (0+xau a b<=([]++(gC a b 2).toList).length)&&true
def xdy (g e:LA) (first c h i j k:Int) (a:LA) (l:Int) (f:Nat) (b:Int) (d:LA):=decide (xau a b*32<=140737488355328)&&decide (xau a b<=4611686018427387904)
def xbZ {T:Type} (g f:LA) (first e h i j k:Int) (b:LA) (l:Int) (d:Nat) (a:Int) (c:LA) (δ:T) (κl:(Nat×Int×LA)->T):T:=br (xdy g f first e h i j k b l d a c) (br (xdw g f first e h i j k b l d a c) (br (rmB d c 1 88) (κl (d+1,i64.wrap (a+1),c++[AV.agg [AV.int .i64 (gC b a 0).toInt,AV.int .i64 (gC b a 1).toInt,AV.list 3 (List.take (xau b a) (List.drop 0 ([]++(gC b a 2).toList))),AV.int .i64 (gC b a 3).toInt,AV.int .i64 (gC b a 4).toInt,AV.int .i64 (gC b a 5).toInt,AV.int .i64 (gC b a 6).toInt,AV.int .i64 (gC b a 7).toInt,AV.int .i64 (gC b a 8).toInt]])) δ) δ) δ
def xco {T:Type} (f g:LA) (first e h i k l:Int) (b:LA) (j:Int) (d:Nat) (a:Int) (c:LA) (δ:T) (κl:(Nat×Int×LA)->T) (κr:(Nat×LA)->T):T:=br (decide (a<j)) (br (ixI b a) (br (ixT b a 9 [Sh.int .i64,Sh.int .i64,Sh.list 3,Sh.int .i64,Sh.int .i64,Sh.int .i64,Sh.int .i64,Sh.int .i64,Sh.int .i64] 0) (br ((xa0 f (gC b a 0).toInt).isSome) (br (((xa0 f (gC b a 0).toInt).getD (0,false)).snd) (br (xaM (gC b a 0).toInt (gC b a 1).toInt (gC b a 2).toList (gC b a 3).toInt (gC b a 4).toInt (gC b a 5).toInt (gC b a 6).toInt (gC b a 7).toInt (gC b a 8).toInt) (br (decide (xau b a*32<=140737488355328)&&decide (xau b a<=4611686018427387904)) (br (decide (0+xau b a<=([]++(gC b a 2).toList).length)&&true) (br (rmB d c 1 88) (κl (d+1,i64.wrap (a+1),c++[AV.agg [AV.int .i64 (gC b a 0).toInt,AV.int .i64 (gC b a 1).toInt,AV.list 3 (List.take (xau b a) (List.drop 0 ([]++(gC b a 2).toList))),AV.int .i64 (gC b a 3).toInt,AV.int .i64 (gC b a 4).toInt,AV.int .i64 (gC b a 5).toInt,AV.int .i64 i,AV.int .i64 (gC b a 7).toInt,AV.int .i64 h]])) δ) δ) δ) (xbZ f g first e h i k l b j d a c δ κl)) (xbZ f g first e h i k l b j d a c δ κl)) δ) δ) δ) (κr (d,c))
def xbo (e c:LA) (first a f g h i:Int) (j:LA) (k:Int):StT (Nat×Int×LA) (Nat×LA):=fun (d,l,b)=>xco e c first a f g h i j k d l b none inL inR
def xdv:=xhF.l 93 0 [4000054,58,5000030,6000009] [] Tryz.f22 0 lk0 [1,2,4,5,9,15,30,31,32] [2,4,5,9,15] [(15,9,58)] (q9 (qL 1) (qL 3) qI qI (xsQ 10 0 0 (q1 (xsL (q10 qI qI qI qI pNils pNils pNils pNils pNils pNils)))) (xsJ 0 0 0) (qL 9) qI qI) (q1 (qB 0 9 58 xsB)) (fun (i,b,first,a,((e,f,g,h,_,_,_,_,_,_,_),_),d,j,k,m,_) (c,_)=>(xbo i b first a e f g h j k,(d,m,c),fun p=>(.leaf (.exit 0) [AV.list 3 b,AV.int .i64 first,AV.int .i64 a,AV.eptr 10 [AV.agg [AV.int .i64 e,AV.int .i64 f,AV.int .i64 g,AV.int .i64 h,AV.nils,AV.nils,AV.nils,AV.nils,AV.nils,AV.nils]] 0 0,AV.osl 0 0 0 p.1] [bF 0 9 58 p.2]))) (0,[]) fun (i,b,first,a,((e,f,g,h,_,_,_,_,_,_,_),_),_,j,k,_,_) _ (d,m,c)=>(((i,b,first,a,((e,f,g,h,(),(),(),(),(),(),()),()),d,j,k,m,()),(c,())),xco i b first a e f g h j k d m c none)
def xbj (a:LA) (b:Int):=(gC a b 0).toList.length
def xcp {T:Type} (first e f g i j:Int) (b:LA) (h:Int) (d:Nat) (a:Int) (c:LA) (δ:T) (κl:(Nat×Int×LA)->T) (κr:(Nat×LA)->T):T:=br (decide (a<h)) (br (ixI b a) (br (ixT b a 3 [Sh.list 3,Sh.int .i64,Sh.int .i64] 0) (br (decide (xbj b a*32<=140737488355328)&&decide (xbj b a<=4611686018427387904)) (br (decide (0+xbj b a<=xbj b a)&&true&&true&&true&&true) (br (rmB d c 1 88) (κl (d+1,i64.wrap (a+1),c++[AV.agg [AV.int .i64 (i64.wrap (first+a)),AV.int .i64 e,AV.list 3 (List.take (xbj b a) (List.drop 0 (gC b a 0).toList)),AV.int .i64 (gC b a 1).toInt,AV.int .i64 (gC b a 2).toInt,AV.int .i64 g,AV.int .i64 1099511627776,AV.int .i64 f,AV.int .i64 0]])) δ) δ) δ) δ) δ) (κr (d,c))
def xaU (first a d e f g:Int) (h:LA) (i:Int):StT (Nat×Int×LA) (Nat×LA):=fun (c,j,b)=>xcp first a d e f g h i c j b none inL inR
def xfy:=xhF.l 93 0 [4000054,58,5000030,6000009] [(6,xdv.lp)] Tryz.f22 1 lk0 [4,5,9,15,65,66,67] [15] [(15,9,58)] (q7 qI qI (xsQ 10 0 0 (q1 (xsL (q10 qI qI qI qI pNils pNils pNils pNils pNils pNils)))) (xsJ 0 0 0) (qL 3) qI qI) (q1 (qB 0 9 58 xsB)) (fun (first,a,((d,e,f,g,_,_,_,_,_,_,_),_),c,h,i,j,_) (b,_)=>(xaU first a d e f g h i,(c,j,b),fun p=>(.leaf (.exit 2) [AV.osl 0 0 0 p.1] [bF 0 9 58 p.2]))) (0,[]) fun (first,a,((d,e,f,g,_,_,_,_,_,_,_),_),_,h,i,_,_) _ (c,j,b)=>(((first,a,((d,e,f,g,(),(),(),(),(),(),()),()),c,h,i,j,()),(b,())),xcp first a d e f g h i c j b none)
def xbI:Env:=xhF.E.fn 93 0 (lsOf [4000054,58,5000030,6000009]) (xsa [(6,xdv.lp),(15,xfy.lp)])
theorem xik:xrP P0 (xsv.at 0) xbI:=xhF.ok.fn
theorem xhz:LoOk P0 (xsv.at xbI.pin) xbI (Tryz.f22.body.getD .skip):=xd2 (ls:=[xrT Tryz.f22 0,xrT Tryz.f22 1]) (by kernel_rfl) (lkC xdv.ok (lkC xfy.ok lkN))
def xeT (l g d:LA) (f a b e first c:Int):=Iter (xbo g d first c f a b e l (↑l.length:Int)) (0,0,[])
def xeS (l g d:LA) (f a b e first c:Int):=(xeT l g d f a b e first c).getD (0,[])
def xeR (l g a:LA) (f b c e first d:Int):=Iter (xaU first d f b c e a (↑a.length:Int)) ((xeS l g a f b c e first d).fst,0,(xeS l g a f b c e first d).snd)
def xeQ (l g d:LA) (f a b e first c:Int):=(xeR l g d f a b e first c).getD (0,[])
def xeO (l g d:LA) (f a b e first c:Int):=(xeQ l g d f a b e first c).snd
def xeP (l g d:LA) (f a b e first c:Int):=(xeQ l g d f a b e first c).fst
def xdV {T:Type} (l g c:LA) (f a b d first e:Int) (δ:T) (κ:Bool×(Int)×(LA×Int)->T):T:=br ((xcI l g c f a b d).isSome) (br ((xcI l g c f a b d).getD 0 != 0) (κ (true,((xcI l g c f a b d).getD 0),([],0))) (br ((xeT l g c f a b d first e).isSome) (br ((xeR l g c f a b d first e).isSome) (br (decide (0+xeP l g c f a b d first e<=(xeO l g c f a b d first e).length)&&true) (κ (false,0,(List.take (xeP l g c f a b d first e) (List.drop 0 (xeO l g c f a b d first e)),0))) δ) δ) δ)) δ
def xa7 (l g d:LA) (f a b e first c:Int):Option (LA×Int):=xdV l g d f a b e first c none (fun (p:Bool×(Int)×(LA×Int))=>some (br p.1 (([],p.2.1)) p.2.2))
theorem xkT (l g d:LA) (f a b e first c:Int):EncS (fun (p:LA×Int)=>(AV.tuple [AV.list 9 p.1,AV.int .i64 p.2]:AV)) (xa7 l g d f a b e first c) (XF P0 xbI Tryz.f22 (Tryz.f22.body.getD .skip) [AV.list 9 l,AV.list 1 g,AV.list 3 d,AV.agg [AV.int .i64 f,AV.int .i64 a,AV.int .i64 b,AV.int .i64 e,AV.nils,AV.nils,AV.nils,AV.nils,AV.nils,AV.nils],AV.int .i64 first,AV.int .i64 c]):=by
 have h:XF P0 xbI Tryz.f22 (Tryz.f22.body.getD .skip) [AV.list 9 l,AV.list 1 g,AV.list 3 d,AV.agg [AV.int .i64 f,AV.int .i64 a,AV.int .i64 b,AV.int .i64 e,AV.nils,AV.nils,AV.nils,AV.nils,AV.nils,AV.nils],AV.int .i64 first,AV.int .i64 c]=xdV l g d f a b e first c none (fun (p:Bool×(Int)×(LA×Int))=>some ((br p.1 (AV.tuple [AV.nils,AV.int .i64 p.2.1]) (AV.tuple [AV.list 9 p.2.2.1,AV.int .i64 p.2.2.2])):AV)):=by kernel_rfl
 rw [h];unfold xa7 xdV;repeat' (first|exact EncS.none|exact EncS.some (Sub.refl _)|exact EncS.some (xf9 _)|exact EncS.some (xhv _ _)|refine EncS.br ?_ ?_)
def xkS:LA->Option (Bool×AV):=ocOf (xsy (xsN 9 xsB) (xsy (xsN 1 xsB) (xsy (xsN 3 xsB) (xsy (xsO (xsy (sEq (pInt .i64)) (xsy (sEq (pInt .i64)) (xsy (sEq (pInt .i64)) (xsy (sEq (pInt .i64)) (xsy (sEq pNils) (xsy (sEq pNils) (xsy (sEq pNils) (xsy (sEq pNils) (xsy (sEq pNils) (xsy (sEq pNils) xsA))))))))))) (xsy (sEq (pInt .i64)) (xsy (sEq (pInt .i64)) xsA)))))) fun (l,(g,(d,((f,(a,(b,(e,(_,(_,(_,(_,(_,(_,_)))))))))),(first,(c,_))))))=>((xa7 l g d f a b e first c).isSome,(AV.tuple [AV.list 9 ((xa7 l g d f a b e first c).getD ([],0)).1,AV.int .i64 ((xa7 l g d f a b e first c).getD ([],0)).2]))
theorem xkR:OcOk P0 xsv 22 (xkS):=xfM fun i q j=>by
 obtain ⟨l,⟨o,⟨g,⟨⟨k,⟨a,⟨b,⟨h,⟨_,⟨_,⟨_,⟨_,⟨_,⟨_,_⟩⟩⟩⟩⟩⟩⟩⟩⟩⟩,⟨first,⟨c,_⟩⟩⟩⟩⟩⟩:=i
 obtain ⟨e,f⟩:=Prod.mk.inj j;obtain ⟨y,m,n⟩:=xkT _ _ _ _ _ _ _ _ _ _ (xbJ (d:=([],0)) e);have hg:Good P0 xsv 22 _ _:=xcq (p:=xbI.pin) (xd9 xrY (xrZ P0 _) rfl xik Tryz.func22 rfl (by kernel_rfl) xhz m)
 rw [<-f];exact Good.sub hg n
def xqq:EO:=xhF.w xkR
def xgp {T:Type} (l:LA) (δ:T) (κ:Bool->T):T:=br ((xdT l).isSome) (br ((xeb ((xdT l).getD []) 16).isSome) (κ ((xeb ((xdT l).getD []) 16).getD false)) δ) δ
def xgd (l:LA):=xgp l none some
def xnK:EO:=xqq.f Tryz.func9 6 0 [] [] lk0 (u1 (uL 9)) (fun (l,_) _=>xgp l) (fun _ p=>AV.bool p) false
end Go.Sim.M
namespace Go.Sim
def stepX (P:Program) (E:Env) (live liveO:List Nat) (conv:List (Nat×Nat×TypeId)) (c:Code) (s:List AV×List Box):Option ((List AV×List Box)⊕{r:Exit×List AV×List Box // r.1≠.normal}) :=
 match XR P E live liveO conv c s.1 s.2 with
 | some (.normal,v,H)=>some (.inl (v,H))
 | some (.exit i,v,H)=>some (.inr ⟨(.exit i,v,H),by simp⟩)
 | some (.ret,v,H)=>some (.inr ⟨(.ret,v,H),by simp⟩)
 | _=>none
def closedLp (P:Program) (E:Env) (live liveO:List Nat) (conv:List (Nat×Nat×TypeId)) (c:Code) (n:Nat):Lp:=⟨live,liveO,conv,fun vals H =>
 match iterN (stepX P E live liveO conv c) n (vals,H) with
 | some r=>some (true,.leaf r.1.1 r.1.2.1 r.1.2.2)
 | none=>none⟩
theorem xiv {P:Program} {Inv:IV} {E:Env} (O:P.follows .mixedOrders=true) (Q:InvOk Inv) (q:Inv.pin=E.pin) (U:xrP P Inv E) {c:Code} (J:LoOk P Inv E c) {live liveO:List Nat} {conv:List (Nat×Nat×TypeId)} {n:Nat} :
  LoopOk P Inv E.nt c (closedLp P E live liveO conv c n):=fun vals H r h=>by
 simp only [closedLp] at h;split at h
 case h_2=>simp at h
 rename_i r0 hr;simp only [z1,za,true_and] at h;subst h;exact xjt O Q q U J (σ:=List AV×List Box) (ρ:={r:Exit×List AV×List Box // r.1≠.normal}) (step:=stepX P E live liveO conv c) (fun s=>s) (fun r=>.leaf r.1.1 r.1.2.1 r.1.2.2) (fun r=>r.2)
  (fun s r hs=>by
   unfold stepX at hs;split at hs<;>simp only [z1,reduceCtorEq] at hs;all_goals (subst hs;rename_i hx;exact hx)) (s:=(vals,H)) (r:=r0) (xfY.2 ⟨n,hr⟩)
end Go.Sim
namespace Go.Sim.M
open Go.RowKit Go.Proofs
def mmA (g:FuncId):Bool:=([123,125,
 114,138,151,
 90,112,128,
 110,127,144,
 49,76,95,
 116,89,122,100,47]:List Nat).contains g
noncomputable def EA0:Env:={ E0 with ls:=lsOf [54,60,124,58],fuel:=1000 }
theorem xk5:xrP P0 xsv EA0:=xpk
noncomputable def runA (E:Env) (fn:Func):List AV->Option (Bool×AV):=fun xs=>match XF P0 E fn (fn.body.getD .skip) xs with
 | some r=>some (true,r)
 | none=>none
theorem xgN {E:Env} {f:FuncId} {fn:Func} (O:xrP P0 (xsv.at 0) E) (J:E.pin=0) (hf:P0.funcs[f]?=some fn) (hb:fn.body.isSome=true) (q:(fn.name == "runtime.NumGoroutine")=false) (Q:LoOk P0 (xsv.at 0) E (fn.body.getD .skip)):OcOk P0 xsv f (runA E fn):=fun xs r h=>by
 unfold runA at h;split at h
 case h_2=>simp at h
 rename_i r0 hr;simp only [z1,za,true_and] at h;subst h;exact xcq (p:=0) (xd9 xrY (xrZ P0 _) J.symm O hf hb q Q hr)
noncomputable def EAr:Env:={ Env.deep P0 mmA EA0 10 with pin:=0,nt:=60,ls:=lsOf [] }
theorem xnG:xrP P0 (xsv.at 0) EAr:=xdp xrY mmA (xrZ P0 0) xk5 (fun _=>rfl) 10
noncomputable def xnF:Lp:=closedLp P0 EAr [3,4,11,12,13] [4] [(4,2,240654483580)] (xrT Tryz.f88 0) 100
noncomputable def EAr1:Env:={ EAr with lp:=xsa [(xr2 (xrT Tryz.f88 0),xnF)] }
theorem xps:xrP P0 (xsv.at 0) EAr1:=xnG
noncomputable def xmL:List AV->Option (Bool×AV):=runA EAr1 Tryz.f88
theorem xp5:OcOk P0 xsv 88 xmL:=xgN xps rfl Tryz.func88 rfl (by kernel_rfl) (xd2 (ls:=[xrT Tryz.f88 0]) (by kernel_rfl) (fun l hl lp hs=>by
 simp only [zB,List.not_mem_nil,or_false] at hl;subst hl;rw [show EAr1.lp (xr2 (xrT Tryz.f88 0))=some xnF by kernel_rfl] at hs
 cases hs;exact xiv (E:=EAr) xrY (xrZ P0 _) rfl xnG (xc7 fun _=>rfl)))
noncomputable def EAlv (p:Nat):Env:={ Env.deep P0 mmA EA0 6 with pin:=p,nt:=71,ls:=lsOf [] }
theorem xmp (p:Nat):xrP P0 (xsv.at p) (EAlv p):=xea (xdp xrY mmA (xrZ P0 0) xk5 (fun _=>rfl) 6)
noncomputable def xmo (p:Nat):Lp:=closedLp P0 (EAlv p) [0,1,2,3,4] [] [(3,0,0)] (xrT Tryz.f89 0) 100
noncomputable def EAlv1 (p:Nat):Env:={ EAlv p with lp:=xsa [(xr2 (xrT Tryz.f89 0),xmo p)] }
theorem xoH (p:Nat):xrP P0 (xsv.at p) (EAlv1 p):=xmp p
noncomputable def xlw:List AV->List Box->Option (Bool×AV×List Box):=fun xs H=>match XFM P0 (EAlv1 H.length) Tryz.f89 (Tryz.f89.body.getD .skip) xs H with
 | some (r,H')=>some (true,r,H')
 | none=>none
theorem xqN:OmOk P0 xsv 89 xlw:=fun xs H r H' h=>by
 unfold xlw at h;split at h
 case h_2=>simp at h
 rename_i r0 H0 hr;simp only [z1,za,true_and] at h;obtain ⟨rfl,rfl⟩:=h;refine xgc (p:=H.length) (xhQ xrY (xrZ P0 _) rfl (xoH H.length) rfl Tryz.func89 rfl (by kernel_rfl) (xd2 (ls:=[xrT Tryz.f89 0,xrT Tryz.f89 1]) (by kernel_rfl) (fun l hl lp hs=>?_)) hr)
 simp only [zB,List.not_mem_nil,or_false] at hl;rcases hl with rfl|rfl
 . rw [show (EAlv1 H.length).lp (xr2 (xrT Tryz.f89 0))=some (xmo H.length) by kernel_rfl] at hs
   cases hs;exact xiv (E:=EAlv H.length) xrY (xrZ P0 _) rfl (xmp H.length) (xc7 fun _=>rfl)
 . rw [show (EAlv1 H.length).lp (xr2 (xrT Tryz.f89 1))=none by kernel_rfl] at hs
   simp at hs
noncomputable def EAs:Env:=(EA0.with 88 xmL).withM 89 xlw
theorem xnH:xrP P0 xsv EAs:=(xk5.with xp5).withM xqN
noncomputable def EAd:Env:={ Env.deep P0 mmA EAs 14 with pin:=0 }
theorem xk6:xrP P0 (xsv.at 0) EAd:=xea (xdp xrY mmA (xrZ P0 0) xnH (fun _=>rfl) 14)
noncomputable def EAf:Env:={ EAd with nt:=18,ls:=lsOf [],lp:=xsa [(3000004,xeU)] }
theorem xqj:xrP P0 (xsv.at 0) EAf:=xk6
noncomputable def xke:List AV->Option (Bool×AV):=runA EAf Tryz.f12
theorem xnx:OcOk P0 xsv 12 xke:=xgN xqj rfl Tryz.func12 rfl (by kernel_rfl) (xic (ls:=[]) (by kernel_rfl) (fun l hl=>by simp at hl) (lp0:=xeU) xji (by kernel_rfl))
noncomputable def EAg:Env:={ EAd with nt:=16,ls:=lsOf [],lp:=xsa [(3000003,xcJ)] }
theorem xqk:xrP P0 (xsv.at 0) EAg:=xk6
noncomputable def xmz:List AV->Option (Bool×AV):=runA EAg Tryz.f78
theorem xpM:OcOk P0 xsv 78 xmz:=xgN xqk rfl Tryz.func78 rfl (by kernel_rfl) (xic (ls:=[]) (by kernel_rfl) (fun l hl=>by simp at hl) (lp0:=xcJ) xgB (by kernel_rfl))
noncomputable def EAb:Env:={ EAd with nt:=67,ls:=lsOf [58],lp:=xsa [(3000007,xdZ)] }
theorem xqh:xrP P0 (xsv.at 0) EAb:=xk6
noncomputable def xms:List AV->Option (Bool×AV):=runA EAb Tryz.f18
theorem xpF:OcOk P0 xsv 18 xms:=xgN xqh rfl Tryz.func18 rfl (by kernel_rfl) (xic (ls:=[xrT Tryz.f18 0,xrT Tryz.f18 1]) (by kernel_rfl) (fun l hl lp hs=>by
 simp only [zB,List.not_mem_nil,or_false] at hl;rcases hl with rfl|rfl
 . rw [show EAb.lp (xr2 (xrT Tryz.f18 0))=none by kernel_rfl] at hs
   simp at hs
 . rw [show EAb.lp (xr2 (xrT Tryz.f18 1))=none by kernel_rfl] at hs
   simp at hs) (lp0:=xdZ) xim (by kernel_rfl))
noncomputable def EAt:Env:=((EAs.with 12 xke).with 78 xmz).with 18 xms
theorem xnI:xrP P0 xsv EAt:=((xnH.with xnx).with xpM).with xpF
noncomputable def EAtd:Env:={ Env.deep P0 mmA EAt 14 with pin:=0 }
theorem xmq:xrP P0 (xsv.at 0) EAtd:=xea (xdp xrY mmA (xrZ P0 0) xnI (fun _=>rfl) 14)
noncomputable def EAa:Env:={ EAtd with ls:=lsOf [4000054,58,5000030,6000009] }
noncomputable def xle:List AV->Option (Bool×AV):=runA EAa Tryz.f22
theorem xoK:OcOk P0 xsv 22 xle:=xgN (E:=EAa) xmq rfl Tryz.func22 rfl (by kernel_rfl) (xc7 fun _=>rfl)
noncomputable def EAo:Env:={ EAtd with ls:=lsOf [4000054] }
noncomputable def xmP:List AV->Option (Bool×AV):=runA EAo Tryz.f26
theorem xqe:OcOk P0 xsv 26 xmP:=xgN (E:=EAo) xmq rfl Tryz.func26 rfl (by kernel_rfl) (xc7 fun _=>rfl)
noncomputable def EAv:Env:={ (EAt.with 22 xle).with 26 xmP with ls:=EA0.ls }
theorem xql:xrP P0 xsv EAv:=(xnI.with xoK).with xqe
noncomputable def EAe:Env:={ Env.deep P0 mmA EAv 14 with pin:=0 }
theorem xqi:xrP P0 (xsv.at 0) EAe:=xea (xdp xrY mmA (xrZ P0 0) xql (fun _=>rfl) 14)
theorem xpE:XF P0 EAe Tryz.f10 (Tryz.f10.body.getD .skip) []=some (.bool true):=by kernel_rfl
def xj0:List AV->Option (Bool×AV)
 | []=>some (true,.bool true)
 | _=>none
theorem xpD:OcOk P0 xsv 10 xj0:=fun xs r h=>by
 unfold xj0 at h;split at h
 . simp only [z1,za,true_and] at h;subst h;exact xcq (p:=0) (xd9 xrY (xrZ P0 _) rfl xqi Tryz.func10 rfl (by kernel_rfl) (xc7 fun _=>rfl) xpE)
 . simp at h
noncomputable def EEW:Env:=xnK.E.with 10 xj0
theorem xqm:xrP Tryz.prog xsv EEW:=xnK.ok.with xpD
end Go.Sim.M
namespace Go.Sim.M
open Go.IntKind (i64 u64 u8)
open Go.RowKit Go.Proofs
def xce (l b d:LA) (a e c f:Int):=xb3 ((xa7 l b d e a 0 0 c f).getD ([],0)).fst ((xba l b d e a 0 0 c f).getD ([],0)).fst
def xcr {T:Type} (l c d:LA) (b e a f:Int) (δ:T) (κ:Bool->T):T:=br ((xgd l).isSome) (br (!(xgd l).getD false) (κ (true)) (br ((xeb d 16).isSome) (br (!(xeb d 16).getD false) (κ (true)) (br (decide ((↑c.length:Int)>16)) (κ (true)) (br ((xfg l).isSome) (br (!(xfg l).getD false) (κ (true)) (br (decide (a<0)) (κ (true)) (br (decide (a>1125899906842624)) (κ (true)) (br ((xa7 l c d e b 0 0 a f).isSome) (br ((xba l c d e b 0 0 a f).isSome) (br (((xa7 l c d e b 0 0 a f).getD ([],0)).snd==((xba l c d e b 0 0 a f).getD ([],0)).snd) (br ((xce l c d b e a f).isSome) (br ((xce l c d b e a f).getD false) (κ (true)) (κ (false))) δ) (κ (false))) δ) δ)))) δ))) δ)) δ
def xc5 (l b d:LA) (a e c f:Int):=xcr l b d a e c f none some
def xgx:LA->Option (Bool×AV):=fnO (u2 (uL 9) (xsO (u6 (uL 1) (uL 3) uI uI uI uI))) (fun (l,(b,d,a,e,c,f,_),_) _=>xcr l b d a e c f) (fun _ p=>AV.bool p) false
theorem xgZ:OcOk P0 xsv 5 xgx:=fnC xqm Tryz.func5 85 0 [] [] lk0
end Go.Sim.M
