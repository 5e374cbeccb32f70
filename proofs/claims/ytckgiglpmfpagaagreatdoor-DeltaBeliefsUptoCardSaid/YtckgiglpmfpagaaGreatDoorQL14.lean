/- Part 14 of the proof of the law. -/
import Derived.Test.YtckgiglpmfpagaaGreatDoorQL13
import Derived.RangeFuncSeq
set_option linter.unusedVariables false
set_option linter.unusedSimpArgs false
set_option linter.unnecessarySimpa false
set_option maxRecDepth 100000
noncomputable section
namespace Go.Sim
open Go.RowKit
theorem Ev.mv {w w':World} {A A':Nat->Prop} {M M':Id->Option MB} {B n:Nat} {H:List Box} {av:Nat->Prop} (hR:HR w A M B H) (he:Ev ⟨av,w,A,M,n⟩ w' A' M') (hn:H.length<=n):Mv w A M w' A' M' :=
 ⟨he.size,fun b hb hA=>he.keep b hb (.inl hA),he.less,he.more,fun id m hm=>he.ids id m (by
  obtain ⟨bx,h1,_⟩:=hR.box id m hm;exact Nat.lt_of_lt_of_le (xm9 h1) hn) hm,⟨fun b hb q=>he.keep b hb (.inr q),he.src⟩⟩
theorem Ev.over {av V:Nat->Prop} {W W2 W2b W3 W3b:World} {A1 A2 A3:Nat->Prop} {M1 M2 M3:Id->Option MB} {n l:Nat} (h1:Ev ⟨av,W,A1,M1,n⟩ W2 A2 M2) (h2:Ev ⟨V,W2b,A2,M2,n⟩ W3 A3 M3)
  (hb:∀ b,b≠l->W2b.heap[b]?=W2.heap[b]?) (hs:W2b.heap.size=W2.heap.size) (h3:∀ b,b≠l->W3b.heap[b]?=W3.heap[b]?) (Z:W3b.heap.size=W3.heap.size) (hl:W3b.heap[l]?=W.heap[l]?):Ev ⟨av,W,A1,M1,n⟩ W3b A3 M3:=by
 have hsz:W.heap.size<=W2.heap.size:=h1.size;have Y:W2b.heap.size<=W3.heap.size:=h2.size;have out:∀ b,b<W.heap.size->(∀ id m,M1 id=some m->0<m.cap->m.b≠b)->∀ id m,M2 id=some m->0<m.cap->m.b≠b:=fun b hb O id m hi h0 e=>by
  rcases h1.src id m hi h0 with ⟨i,m1,e1,e2,e3⟩|e1
  . exact O i m1 e1 e2 (by rw [<-e3,e])
  . simp only at e1;omega
 refine ⟨?_,fun b q J=>?_,fun b q hA=>?_,fun b q hA O=>?_,fun id m hi hm=>?_,fun id m' hi h0=>?_⟩
 . show W.heap.size<=W3b.heap.size;omega
 . simp only at q J |-;by_cases Q:b=l
   . rw [Q,hl]
   . have U:W3.heap[b]?=W2b.heap[b]?:=h2.keep b (by simp only [];omega) (by
      rcases J with J|J
      . exact .inl fun h=>J (h1.less b q h)
      . exact .inr (out b q J))
     rw [h3 b Q,U,hb b Q];exact h1.keep b q J
 . simp only at q;exact h1.less b q (h2.less b (by simp only [];omega) hA)
 . simp only at q hA O;exact h2.more b (by simp only [];omega) (h1.more b q hA O) (out b q O)
 . obtain ⟨m1,e1,e2⟩:=h1.ids id m hi hm;obtain ⟨m2,e3,e4⟩:=h2.ids id m1 hi e1;refine ⟨m2,e3,?_⟩;rcases e2 with rfl|e2<;>rcases e4 with rfl|e4
   . exact .inl rfl
   . exact .inr e4
   . exact .inr e2
   . exact .inr (Nat.lt_trans e2 e4)
 . rcases h2.src id m' hi h0 with ⟨i,m1,e1,e2,e3⟩|e1
   . rcases h1.src i m1 e1 e2 with ⟨i2,m2,g1,g2,g3⟩|g1
     . exact .inl ⟨i2,m2,g1,g2,by rw [e3,g3]⟩
     . exact .inr (by rw [e3];exact g1)
   . simp only at e1;exact .inr (by show W.heap.size<=_;omega)
theorem SR.grow {w0 w w':World} {A0:Cx} {A:Nat->Prop} {M:Id->Option MB} {s:St} {a:Act} (h:SR w0 A0 w A M s a) (hb:Below w.heap.size w w'):SR w0 A0 w' A M s a :=
 ⟨
  h.base.trans (hb.mono h.base.size),h.outer,h.size,fun t ht=>(h.tmps t ht).grow hb,h.heap.grow hb,h.defers.same fun D hD=>hb.block D (xd3 hD),
  h.ev.step ⟨hb.size,fun b q _=>hb.block b q,fun _ _ h=>h,fun _ _ h _=>h,MExt.refl M,.of_new hb fun _ _ h=>.inl h⟩⟩
def IterC (P:Program) (Inv:IV) (fo:FuncId) (cl:AV) (xs:List AV) (op:AV->Bool):Prop :=
 Enters P fo/\∀ (w:World) (A:Nat->Prop) (lv:Value),Rel w A xLM lv cl->∀ (l:Nat) (J:List AV->(Nat->Prop)->World->Prop) (Jx:List AV->World->Prop),
  (∀ pre A W W',J pre A W->Below W.heap.size W W'->J pre A W')->(∀ pre W W',Jx pre W->Below W.heap.size W W'->Jx pre W') ->
  (∀ pre A W,J pre A W->Inv W/\∀ b,A b->b<W.heap.size)->(∀ pre W,Jx pre W->Inv W) ->
  (∀ pre v x suf A W,pre++x::suf=xs.filter op->J pre A W->Rel W A xLM v x->YieldAt Fence.wide 0 P l #[v] W fun e W' =>
   (e=.returned (.bool true)/\∃ A',J (pre++[x]) A' W'/\W.heap.size<=W'.heap.size/\(∀ b,b<W.heap.size->A' b->A b)/\∀ b,b<W.heap.size->¬ A b->W'.heap[b]?=W.heap[b]?) \/
   (e=.returned (.bool false)/\Jx (pre++[x]) W')) ->
  J [] A w->CallsIn Fence.wide 0 P fo #[.func (.yield l) #[] #[],lv] w fun e W'=>(∃ v,e=.returned v)/\((∃ A',J (xs.filter op) A' W')\/∃ pre suf,pre++suf=xs.filter op/\Jx pre W')
def stepS {σ ρ:Type} (step:σ->AV->σ⊕ρ):σ⊕ρ->AV->σ⊕ρ
 | .inl s,x=>step s x
 | .inr r,_=>.inr r
theorem xub {σ ρ:Type} (step:σ->AV->σ⊕ρ) (r:ρ):∀ l:List AV,l.foldl (stepS step) (.inr r)=.inr r
 | []=>rfl
 | x::l=>by simp only [List.foldl_cons,stepS];exact xub step r l
theorem xFt {L L':List Nat} (h:L.map rmark=L'.map rmark):L=L':=by
 induction L generalizing L' with
 | nil=>cases L'<;>simp_all
 | cons D L ih =>
  cases L' with
  | nil=>simp at h
  | cons D' L' =>
   simp only [zV,List.cons.injEq,rmark,Deferred.mk.injEq,Target.collected.injEq,and_true] at h;obtain ⟨rfl,h⟩:=h;rw [ih h]
theorem xt8 {P:Program} {Inv:IV} (a9:InvOk Inv) (ba:Inv.top=true) {fo:FuncId} {cl:AV} {xs:List AV} {op:AV->Bool} {g:Operand} {p:Tmp} {U Y:Code} {T:List AV} {n:Nat} {σ ρ:Type}
  (Hs:σ->List Box) (Ho:ρ->List Box) (step:σ->AV->σ⊕ρ) (al:∀ s,(Hs s).length=n) {s0:σ} (hit:IterC P Inv fo cl xs op) (bp:cl.pure=true) (hg:St.eval ⟨T,Hs s0⟩ g=.func fo [cl])
  (af:∀ pre s x ai,pre++x::ai=xs.filter op->pre.foldl (stepS step) (.inl s0)=.inl s->Does P ⟨Inv.inv,n,false⟩ U (fun e s1=>e=.normal/\Does P ⟨Inv.inv,n,false⟩ Y (fun e s'=>match step s x with
   | .inl s2=>e=.normal/\∃ T',Weak n s' ⟨T',Hs s2⟩
   | .inr r=>e=.ret/\∃ T',Weak n s' ⟨T',Ho r⟩) s1) ⟨T.set p x,Hs s⟩) :
  Does P Inv (.rangeFunc g #[p] U Y) (fun e s'=>match (xs.filter op).foldl (stepS step) (.inl s0) with
   | .inl s=>e=.normal/\s'=⟨T,Hs s⟩
   | .inr r=>e=.ret/\s'=⟨T,Ho r⟩) ⟨T,Hs s0⟩:=by
 intro w0 A0 w A M a Qc hI bw hs hQ ro ap;have ap:=ap ba;subst ap;rw [xDT];have a2:=hs.eval g;rw [hg] at a2;obtain ⟨cv,bm,bv,bf⟩:=a2.func_inv;have bn:∃ lv,cv=#[lv]:=by
  obtain ⟨l⟩:=cv;match l,bv with
  | [lv],_=>exact ⟨lv,rfl⟩
 obtain ⟨lv,rfl⟩:=bn;have ay:Rel w A xLM lv cl:=by
  have:=bf 0 (by simp)
  exact (show Rel w A M lv cl by simpa using this).pure bp
 have bz:=hs.heap.lt;obtain ⟨L0,az,b0,a4⟩:=hs.defers;refine wpIn_rangeFunc ?_;intro fn b1;obtain ⟨q,O⟩:∃ q:LoopState->Option Code->Loop,q=fun st pe=>{ state:=st,pending:=pe,fn:=fn,tmps:=a.tmps,params:=#[p],assign:=U,body:=Y,defers:=w.heap.size }:=⟨_,rfl⟩
 obtain ⟨W1,ae⟩:∃ W1,(w.alloc (.deferred (some []))).alloc (.loop (q .ready none))=W1:=⟨_,rfl⟩;have be:W1.heap[w.heap.size+1]?=some (.loop (q .ready none)):=by
  rw [<-ae];have:=World.alloc_heap_new (w.alloc (.deferred (some []))) (.loop (q .ready none));rwa [World.size_alloc] at this
 have bg:W1.heap[w.heap.size]?=some (.deferred (some [])):=by
  rw [<-ae];exact (Below.heap_alloc _ _ _ (by simp)).trans (World.alloc_heap_new w _)
 have aq:Below w.heap.size w W1:=by
  rw [<-ae];exact ((Below.refl _ w).alloc (zd _) _).alloc (by simp) _
 have bo:w0.heap.size<=w.heap.size:=hs.base.size;have bh:A0.w1.heap.size<=w.heap.size:=hs.ev.size;let J:List AV->(Nat->Prop)->World->Prop:=fun pre A' W=>∃ s,pre.foldl (stepS step) (.inl s0)=.inl s/\(∃ M',SR w0 A0 W A' M' ⟨T,Hs s⟩ a)/\w.heap.size<=W.heap.size /\
  W.heap[w.heap.size+1]?=some (.loop (q .ready none))/\W.heap[w.heap.size]?=some (.deferred (some []))
 let Jx:List AV->World->Prop:=fun pre W=>∃ r,pre.foldl (stepS step) (.inl s0)=.inr r/\(∃ A' M',SR w0 A0 W A' M' ⟨T,Ho r⟩ a) /\
  W.heap[w.heap.size+1]?=some (.loop (q .done (some .ret)))/\W.heap[w.heap.size]?=some (.deferred (some []))
 have ak:∀ (W:World) (A':Nat->Prop) (M':Id->Option MB) (s:St) (o:Loop),SR w0 A0 W A' M' s a->W.heap[w.heap.size+1]?=some (.loop o)->W.heap[w.heap.size]?=some (.deferred (some [])) ->
   ∀ o':Loop,SOk w0 A0 s { a with defers:=[rmark w.heap.size]++a.defers } (W.putObj (w.heap.size+1) (.loop o')):=fun W A' M' s o h h1 h2 o'=>by
  refine ⟨A',M',h.turn (o':=.loop o') h1 ⟨by simp,by simp⟩ (by omega) (by omega) ?_⟩
  have hne:∀ D,D∈L0->D≠w.heap.size:=fun D hD e=>by
   have:=xd3 (a4 D hD).2.2;omega
  obtain ⟨L',e1,e2,e3⟩:=h.defers;have:L'=L0:=xFt (e1.symm.trans az);subst this;refine ⟨w.heap.size::L',by rw [az];rfl,List.nodup_cons.2 ⟨fun hm=>hne _ hm rfl,e2⟩,fun D hD=>?_⟩
  rcases zC.1 hD with rfl|hD
  . exact ⟨bo,.inr bh,by rw [World.putObj_heap_other (by omega)];exact h2⟩
  . refine ⟨(e3 D hD).1,(e3 D hD).2.1,?_⟩;have:=xd3 (a4 D hD).2.2;rw [World.putObj_heap_other (by omega)];exact (e3 D hD).2.2
 refine ⟨w.heap.size+1,[{ target:=.collected w.heap.size,args:=#[] }],W1,{ target:=.fn (.func fo) #[lv],args:=#[.func (.yield (w.heap.size+1)) #[] #[]] },W1,fo,
  #[.func (.yield (w.heap.size+1)) #[] #[]]++#[lv],W1,?_,?_,fun _ _=>trivial,?_,fun h=>by simp [Fence.wide] at h,?_⟩
 . rw [<-ae,O];exact run_enterLoop_outer _ _ _ _ _
 . simp only [Go.resolve,bm];simp [go_sem]
 . simp [invoke,go_sem,xno hit.1]
 . refine (hit.2 W1 A lv (ay.grow aq) (w.heap.size+1) J Jx ?_ ?_ ?_ ?_ ?_ ?_).mono ?_
   . rintro pre A' W W' ⟨s,h1,⟨M',h2⟩,h4,h5,h6⟩ hb;exact ⟨s,h1,⟨M',h2.grow hb⟩,Nat.le_trans h4 hb.size,by rw [hb.block _ (xd3 h5)];exact h5,by rw [hb.block _ (xd3 h6)];exact h6⟩
   . rintro pre W W' ⟨r,h1,⟨A',M',h2⟩,h5,h6⟩ hb;exact ⟨r,h1,⟨A',M',h2.grow hb⟩,by rw [hb.block _ (xd3 h5)];exact h5,by rw [hb.block _ (xd3 h6)];exact h6⟩
   . rintro pre A' W ⟨s,h1,⟨M',h2⟩,h4,h5,h6⟩;exact ⟨a9.below _ _ hI h2.base,h2.heap.lt⟩
   . rintro pre W ⟨r,h1,⟨A',M',h2⟩,h5,h6⟩;exact a9.below _ _ hI h2.base
   ·
    rintro pre v x ai A' W hx ⟨s,h1,⟨M',h2⟩,h4,h5,h6⟩ bq;have ax:=xd3 h5;have hy:=run_yield (P:=P) (args:=#[v]) h5 (by rw [O];rfl)
    rw [O] at hy;have hz:(#[p].zip #[v]).foldl (fun tmps (x:Tmp×Value)=>tmps.setIfInBounds x.1 x.2) a.tmps=a.tmps.setIfInBounds p v:=by simp
    refine ⟨fn,_,U,Y,hy,roundIn_of_wpIn trivial ?_⟩;show Code.wpIn (Fence.wide.inRound (w.heap.size+1)) 0 P U _ { tmps:=(#[p].zip #[v]).foldl (fun tmps (x:Tmp×Value)=>tmps.setIfInBounds x.1 x.2) a.tmps,defers:=[] } _
    rw [hz];obtain ⟨av,a0⟩:∃ av:Nat->Prop,av=fun b=>b<w0.heap.size->A0.av b:=⟨_,rfl⟩
    have a7:∀ b,w0.heap.size<=b->av b:=fun b hb=>by rw [a0];intro h;omega
    have am:∀ b,b<w0.heap.size->(av b↔A0.av b):=fun b hb=>by rw [a0];exact ⟨fun h=>h hb,fun h _=>h⟩
    obtain ⟨p1,p2⟩:=xuo (d:=some p) h2.size h2.tmps (bq.lift M');have bc:SR w0 ⟨av,W,A',M',n⟩ W A' M' ⟨T.set p x,Hs s⟩ { tmps:=a.tmps.setIfInBounds p v,defers:=[] } :=
     ⟨h2.base,fun b hb=>(h2.outer b hb).trans (am b hb).symm,p1,p2,h2.heap,DefOk.nil,Ev.refl (C:=⟨av,W,A',M',n⟩)⟩
    refine af pre s x ai hx h1 w0 ⟨av,W,A',M',n⟩ W A' M' _ _ hI (zd n) bc ?_ (some (w.heap.size+1)) (fun h=>by simp at h)
    rintro e s1 a1 w1 ⟨rfl,au⟩ ⟨A1,M1,Q⟩;have aj:=Q.ev.mv h2.heap (by rw [al];exact zd n)
    have Z:w1.heap[w.heap.size+1]?=some (.loop (q .ready none)):=by rw [aj.touch.1 _ ax (h2.heap.not_box h5 (by simp) (by simp))];exact h5
    have aw:w1.heap[w.heap.size]?=some (.deferred (some [])):=by rw [aj.touch.1 _ (xd3 h6) (h2.heap.not_box h6 (by simp) (by simp))];exact h6
    refine ⟨_,run_beginRound Z (by rw [O]),?_⟩
    have ar:(Obj.loop { q .ready none with state:=.busy })=.loop (q .busy none):=by rw [O]
    rw [ar];obtain ⟨w2,V⟩:∃ w2,w2=w1.putObj (w.heap.size+1) (.loop (q .busy none)):=⟨_,rfl⟩;rw [<-V];have ab:w2.heap.size=w1.heap.size:=by rw [V];simp
    have a5:w2.heap[w.heap.size+1]?=some (.loop (q .busy none)):=by rw [V];exact World.putObj_heap_same (xd3 Z)
    have ao:∀ b,b≠w.heap.size+1->w2.heap[b]?=w1.heap[b]?:=fun b hb=>by rw [V];exact World.putObj_heap_other hb
    have bk:SR w0 ⟨av,w2,A1,M1,n⟩ w2 A1 M1 s1 a1:=by
     refine ⟨by rw [V];exact xsA Q.base (by omega) _,Q.outer,Q.size,fun t ht=>?_,by rw [V];exact Q.heap.turn Z ⟨by simp,by simp⟩ _,?_,Ev.refl (C:=⟨av,w2,A1,M1,n⟩)⟩
     . rw [V];exact (Q.tmps t ht).turn (by simp) (xrT Z ⟨by simp,by simp⟩)
     . obtain ⟨L,e1,e2,e3⟩:=Q.defers;refine ⟨L,e1,e2,fun D hD=>⟨(e3 D hD).1,.inl (a7 _ (by have:=Q.base.size;rw [ab];omega)),?_⟩⟩
       rw [ao D (fun e=>by have:=(e3 D hD).2.2;rw [e,Z] at this;simp at this)];exact (e3 D hD).2.2
    refine au w0 ⟨av,w2,A1,M1,n⟩ w2 A1 M1 a1 _ hI (zd n) bk ?_ (some (w.heap.size+1)) (fun h=>by simp at h)
    have ad:∀ (s':St) (a3:Act) (W3:World) (T':List AV) (H':List Box),Weak n s' ⟨T',H'⟩->SOk w0 ⟨av,w2,A1,M1,n⟩ s' a3 W3 ->
      ∃ A3 M3,SR w0 A0 (W3.putObj (w.heap.size+1) (.loop (q .ready none))) A3 M3 ⟨T,H'⟩ a/\Mv W A' M' (W3.putObj (w.heap.size+1) (.loop (q .ready none))) A3 M3 /\
       W3.heap[w.heap.size+1]?=some (.loop (q .busy none))/\W3.heap[w.heap.size]?=some (.deferred (some [])):=by
     rintro s' a3 W3 T' H' hw ⟨A2,M2,a6⟩;obtain ⟨A3,M3,aa⟩:=hw w0 _ W3 A2 M2 a3 (zd n) a6;have bu:=Q.heap.not_box Z (by simp) (by simp)
     have an:W3.heap[w.heap.size+1]?=some (.loop (q .busy none)):=by rw [aa.ev.keep _ (xd3 a5) (.inr bu)];exact a5
     have bi:W3.heap[w.heap.size]?=some (.deferred (some [])):=by
      rw [aa.ev.keep _ (by show w.heap.size<w2.heap.size;rw [ab];exact xd3 aw) (.inr (Q.heap.not_box aw (by simp) (by simp)))]
      show w2.heap[w.heap.size]?=_;rw [ao _ (by omega)];exact aw
     have bb:Ev ⟨av,W,A',M',n⟩ (W3.putObj (w.heap.size+1) (.loop (q .ready none))) A3 M3:=by
      refine Ev.over Q.ev aa.ev (l:=w.heap.size+1) ao (by rw [ab]) (fun b hb=>World.putObj_heap_other hb) (by simp) ?_
      rw [World.putObj_heap_same (xd3 an)];exact h5.symm
     have ag:=bb.mv h2.heap (by rw [al];exact zd n)
     exact ⟨A3,M3,⟨xsA aa.base (by omega) _,fun b hb=>(aa.outer b hb).trans (am b hb),h2.size,fun t ht=>ag.rel (h2.tmps t ht),aa.heap.turn an ⟨by simp,by simp⟩ _,h2.defers.mv h2.heap ag,h2.ev.step ag⟩,ag,an,bi⟩
    have ac:(pre++[x]).foldl (stepS step) (.inl s0)=step s x:=by
     rw [List.foldl_append,h1];rfl
    intro e s' a3 W3 hq a8;cases ah:step s x with
    | inl s2 =>
     rw [ah] at hq;obtain ⟨rfl,T',hw⟩:=hq;obtain ⟨A3,M3,g1,g2,g4,g5⟩:=ad s' a3 W3 T' _ hw a8;have hr:=run_endRound (P:=P) none g4;have he:(Obj.loop { q .busy none with state:=if (none:Option Code).isNone then .ready else .done,pending:=none })=.loop (q .ready none):=by rw [O];rfl
     rw [he] at hr;exact ⟨_,_,hr,.inl ⟨rfl,A3,⟨s2,ac.trans ah,⟨M3,g1⟩,Nat.le_trans h4 g2.size,World.putObj_heap_same (xd3 g4),(World.putObj_heap_other (by omega)).trans g5⟩,g2.size,g2.less,g2.keep⟩⟩
    | inr r =>
     rw [ah] at hq;obtain ⟨rfl,T',hw⟩:=hq;obtain ⟨A3,M3,g1,g2,g4,g5⟩:=ad s' a3 W3 T' _ hw a8;have hr:=run_endRound (P:=P) (some .ret) g4;have he:(Obj.loop { q .busy none with state:=if (some Code.ret).isNone then .ready else .done,pending:=some .ret })=.loop (q .done (some .ret)):=by rw [O];rfl
     rw [he] at hr;have bt:W3.putObj (w.heap.size+1) (.loop (q .done (some .ret)))=(W3.putObj (w.heap.size+1) (.loop (q .ready none))).putObj (w.heap.size+1) (.loop (q .done (some .ret))):=by
      simp [World.putObj]
     have g6:(W3.putObj (w.heap.size+1) (.loop (q .ready none))).heap[w.heap.size+1]?=some (.loop (q .ready none)):=World.putObj_heap_same (xd3 g4);refine ⟨_,_,hr,.inr ⟨rfl,r,ac.trans ah,⟨A3,M3,?_⟩,World.putObj_heap_same (xd3 g4),(World.putObj_heap_other (by omega)).trans g5⟩⟩
     rw [bt];exact g1.turn (o':=.loop (q .done (some .ret))) g6 ⟨by simp,by simp⟩ (by omega) (by omega) (g1.defers.same fun D hD=>World.putObj_heap_other (fun e=>by rw [e] at hD;rw [g6] at hD;simp at hD))
   . exact ⟨s0,rfl,⟨M,hs.grow aq⟩,aq.size,be,bg⟩
   ·
    rintro e W2 ⟨⟨v,rfl⟩,⟨A',s,h1,⟨M',h2⟩,h4,h5,h6⟩|⟨pre,ai,bj,r,h1,⟨A',M',h2⟩,h5,h6⟩⟩
    . refine ⟨none,_,by have:=run_endLoop (P:=P) h5 (by rw [O];simp);rw [O] at this;exact this,?_⟩
      refine hQ .normal ⟨T,Hs s⟩ _ _ (by rw [h1];exact ⟨rfl,rfl⟩) ?_
      exact ak W2 A' M' ⟨T,Hs s⟩ _ h2 h5 h6 _
    . refine ⟨some .ret,_,by have:=run_endLoop (P:=P) h5 (by rw [O];simp);rw [O] at this;exact this,?_⟩
      refine wpIn_ret (hQ .ret ⟨T,Ho r⟩ _ _ ?_ (ak W2 A' M' ⟨T,Ho r⟩ _ h2 h5 h6 _));rw [<-bj,List.foldl_append,h1,xub];exact ⟨rfl,rfl⟩
theorem xyL {P:Program} {Inv:IV} {w0:World} {A0:Cx} (U:InvOk Inv) (hI:Inv w0) {ro:Option Nat} {n:Nat} {ops:Array Oper} {Q:Exit->Act->World->Prop} {rest:List Oper} {l:List Oper} {s s':St} (hp:Path (OpA P Inv) ops l s s') :
  (∀ o,o∈l->∀ c,o.op≠.defer c)->∀ {w:World} {A:Nat->Prop} {M:Id->Option MB} {a:Act},SR w0 A0 w A M s a ->
  (∀ a' w' A' M',SR w0 A0 w' A' M' s' a'->a'.defers=a.defers->Mv w A M w' A' M'->wpListIn (wideR ro) n P ops Q rest a' w')->wpListIn (wideR ro) n P ops Q (l++rest) a w:=by
 induction hp with
 | nil s=>intro _ w A M a hs hK;exact hK a w A M hs rfl Mv.refl
 | run hw h hr ih =>
  intro hd w A M a hs hK;have J:=xh7 (w:=w) (A:=A) (M:=M) hs.size (fun j O d _ _ q=>hs.tmps d q) hw
  rw [List.cons_append];unfold wpListIn;rw [if_pos J];exact xs6 (hd _ (by simp)) (fun _ _ h=>h) (xAz U hI h hs fun v w' A' M' Y V=>ih (fun o ho=>hd o (by simp [ho])) Y fun a2 w2 A2 M2 h2 e2 m2=>hK a2 w2 A2 M2 h2 (e2.trans (xhE _ _ _)) (V.trans m2))
 | skip hw hr ih =>
  intro hd w A M a hs hK;have J:=xh7 (w:=w) (A:=A) (M:=M) hs.size (fun j O d _ _ q=>hs.tmps d q) hw
  rw [List.cons_append];unfold wpListIn;rw [if_neg (by rw [J];simp)]
  exact ⟨fun _ _=>trivial,ih (fun o ho=>hd o (by simp [ho])) (hs.skip _) fun a2 w2 A2 M2 h2 e2 m2=>hK a2 w2 A2 M2 h2 (e2.trans (xhE _ _ _)) m2⟩
theorem xvq {P:Program} {Inv:IV} {w0:World} {A0:Cx} (q:InvOk Inv) (hI:Inv w0) {ro:Option Nat} {n:Nat} {ops:Array Oper} {Q:Exit->Act->World->Prop} {l:List Oper} {s s':St} (hp:Path (OpA P Inv) ops l s s') (hd:∀ o,o∈l->∀ c,o.op≠.defer c) {w:World} {A:Nat->Prop} {M:Id->Option MB} {a:Act} (hs:SR w0 A0 w A M s a)
  (hK:∀ a' w' A' M',SR w0 A0 w' A' M' s' a'->a'.defers=a.defers->Q .normal a' w'):wpListIn (wideR ro) n P ops Q l a w:=by
 have h:=xyL (ro:=ro) (n:=n) (ops:=ops) (Q:=Q) (rest:=[]) q hI hp hd hs (fun a' w' A' M' h1 h2 _=>hK a' w' A' M' h1 h2)
 rwa [zD] at h
def XB (P:Program) (E:Env) (assign body:Code) (ts:List AV) (H:List Box):Option (Exit×List Box):=X P E none assign ⟨ts,H⟩ fun e s1=>match e with
 | .normal=>X P E none body s1 fun e2 s2=>match normS E.pin [] [] s2 with
  | some (_,H')=>xL1 H' fun H'=>some (e2,H')
  | none=>none
 | _=>none
theorem xuk {P:Program} {Inv:IV} {E:Env} (Q:P.follows .mixedOrders=true) (O:InvOk Inv) (q:Inv.pin=E.pin) (J:xLz P Inv E) {assign body:Code} (Y:LoOk P Inv E assign) (U:LoOk P Inv E body) {ts:List AV} {H H':List Box} {e0:Exit}
  (h:XB P E assign body ts H=some (e0,H')):Does P Inv assign (fun e s1=>e=.normal/\Does P Inv body (fun e s'=>e=e0/\∃ T',Weak Inv.pin s' ⟨T',H'⟩) s1) ⟨ts,H⟩:=by
 unfold XB at h;refine xbH (xhi (good:=fun t=>t=some (e0,H')) Q O q (by simp) J assign _ _ Y h) fun e s1 hq=>?_
 cases e with
 | normal =>
  refine ⟨rfl,xbH (xhi (good:=fun t=>t=some (e0,H')) Q O q (by simp) J body _ _ U hq) fun e s2 hq=>?_⟩
  split at hq
  case h_2=>simp at hq
  rename_i vs H1 V;rw [xct] at hq;simp only [z6,zb] at hq;obtain ⟨rfl,rfl⟩:=hq;have hw:=xjR V;rw [<-q] at hw;exact ⟨rfl,_,hw⟩
 | _=>simp at hq
theorem Rel.yld_inv {w:World} {A:Nat->Prop} {M:Id->Option MB} {v:Value} {l:Nat} (h:Rel w A M v (.yld l)):v=.func (.yield l) #[] #[]:=by cases h;rfl
theorem xnP {P:Program} {Inv:IV} {E:Env} (J:xLz P Inv E) {ops:Array Oper} {l:List Oper} {s s':St} (h:xOps P E none (some true) ops l s some=some s'):Path (OpA P Inv) ops l s s':=by
 have q:¬ (fun t:Option St=>t=some s') none:=by simp
 have hA:∀ o s (K:St->Option St),(fun t:Option St=>t=some s') (xopM P E none (some true) o s K)->∃ s1,OpA P Inv s o s1/\(fun t:Option St=>t=some s') (K s1):=fun o s K h=>xBc (good:=fun t:Option St=>t=some s') q J h
 obtain ⟨s1,h1,h2⟩:=xh8 (good:=fun t:Option St=>t=some s') q hA l s some h
 simp only [z6] at h2;exact h2▸h1
theorem xrq {W:World} {A:Nat->Prop} (q:∀ b,A b->b<W.heap.size) {ts:List AV} {b:Act} (hsz:b.tmps.size=ts.length) (hd:b.defers=[]) (hr:∀ t,t<ts.length->Rel W A xLM (b.tmps.getD t undef) (ts.getD t .top)):SR W ⟨A,W,A,xLM,0⟩ W A xLM ⟨ts,[]⟩ b :=
 ⟨Below.refl _ _,fun _ _=>Iff.rfl,hsz,hr,⟨fun id m hm=>by simp [xLM] at hm,fun _ _ _ _ h=>by simp [xLM] at h,q⟩,by rw [hd];exact DefOk.nil,Ev.refl (C:=⟨A,W,A,xLM,0⟩)⟩
theorem SR.pureRel {W w':World} {A A':Nat->Prop} {M':Id->Option MB} {C:Cx} {s':St} {b':Act} (hs:SR W C w' A' M' s' b') (hc:C.av=A) (q:∀ b,A b->b<W.heap.size) {t:Nat} {x:AV} (ht:t<s'.tmps.length) (hx:s'.tmps.getD t .top=x) (hp:x.pure=true):Rel w' A xLM (b'.tmps.getD t undef) x:=by
 have h:=hs.tmps t ht;rw [hx] at h;exact (h.pure (M':=xLM) hp).mono (fun _ _ _=>rfl) (zd _) (fun b _ hb=>(hs.outer b (q b hb)).2 (by rw [hc];exact hb)) (MExt.refl _)
end Go.Sim
namespace Go.Sim.M
open Go.RowKit Go.Proofs
def regs:Code->List Code
 | .region i ops d=>[.region i ops d]
 | .seq a b=>regs a++regs b
 | .block _ c=>regs c
 | .loop c=>regs c
 | .cond _ a b=>regs a++regs b
 | .rangeFunc _ _ a b=>regs a++regs b
 | _=>[]
def regAt (fn:Func) (i:Nat):Code:=(regs (fn.body.getD .skip)).getD i .skip
def opsOf:Code->Array Oper
 | .region _ ops _=>ops
 | _=>#[]
def opsAt (fn:Func) (i:Nat):Array Oper:=opsOf (regAt fn i)
def idOf:Code->Nat
 | .region i _ _=>i
 | _=>0
def rg (fn:Func) (i:Nat):Code:=.region (idOf (regAt fn i)) (opsAt fn i) false
def verA (a b:Int) (r:List AV) (c d e f g h:Int):AV:=.agg [.int .i64 a,.int .i64 b,.list 3 r,.int .i64 c,.int .i64 d,.int .i64 e,.int .i64 f,.int .i64 g,.int .i64 h]
def IsV (x:AV):Prop:=∃ a b r c d e f g h,x=verA a b r c d e f g h
noncomputable def opV:AV->Bool
 | .agg [.int _ a,.int _ b,.list _ r,.int _ c,.int _ d,.int _ e,.int _ f,.int _ g,.int _ h]=>xcZ a b r c d e f g h
 | _=>false
noncomputable abbrev EIt:Env:=xko.E.fn 20 0 (lsOf []) (xLV [])
theorem xvK:xLz Tryz.prog (xMf.at 0) EIt:=xko.ok.fn
def Th (xs:List AV) (l:Nat) (i:Int):List AV:=[.yld l,.eptr 1 [.list 9 xs] 0 0,.top,.top,.top,.list 9 xs,.int .i64 xs.length,.int .i64 i,.top,.top,.top,.top,.top,.top,.top,.top,.top,.top,.top,.top]
def Th8 (xs:List AV) (l:Nat) (i:Int) (t:Bool):List AV:=[.yld l,.eptr 1 [.list 9 xs] 0 0,.top,.top,.top,.list 9 xs,.int .i64 xs.length,.int .i64 i,.bool t,.top,.top,.top,.top,.top,.top,.top,.top,.top,.top,.top]
def Tv (xs:List AV) (l:Nat) (i:Int) (x:AV):List AV:=[.yld l,.eptr 1 [.list 9 xs] 0 0,.top,.top,.own 0 0 0 0,.list 9 xs,.int .i64 xs.length,.int .i64 i,.bool true,.eptr 9 xs i.toNat 0,x,.top,.top,.top,.top,.top,.top,.top,.top,.top]
def Bv (x:AV):List Box:=[⟨0,9,58,[x],false,true⟩]
def Tw (xs:List AV) (l:Nat) (i:Int) (x:AV) (o:Bool):List AV:=[.yld l,.eptr 1 [.list 9 xs] 0 0,.top,.top,.own 0 0 0 0,.list 9 xs,.int .i64 xs.length,.int .i64 i,.bool true,.eptr 9 xs i.toNat 0,x,x,.bool o,.bool true,.yld l,x,.top,.top,.top,.top]
def Tn (xs:List AV) (l:Nat) (i:Int) (x:AV) (o:Bool):List AV:=[.yld l,.eptr 1 [.list 9 xs] 0 0,.top,.top,.own 0 0 0 0,.list 9 xs,.int .i64 xs.length,.int .i64 i,.bool true,.eptr 9 xs i.toNat 0,x,x,.bool o,.bool false,.tuple [],.tuple [],.tuple [],.tuple [],.bool false,.top]
def Ty (xs:List AV) (l:Nat) (i:Int) (b:Bool):List AV:=[.yld l,.eptr 1 [.list 9 xs] 0 0,.top,.top,.top,.list 9 xs,.int .i64 xs.length,.int .i64 i,.top,.top,.top,.top,.top,.bool true,.top,.top,.bool b,.top,.top,.top]
def Tz (xs:List AV) (l:Nat) (i:Int) (b:Bool):List AV:=[.yld l,.eptr 1 [.list 9 xs] 0 0,.top,.top,.top,.list 9 xs,.int .i64 xs.length,.int .i64 i,.top,.top,.top,.top,.top,.bool true,.top,.top,.bool b,.bool !b,.bool !b,.top]
noncomputable abbrev XO (ops:Array Oper) (l:List Oper) (ts:List AV) (H:List Box):Option St:=xOps Tryz.prog EIt none (some true) ops l ⟨ts,H⟩ some
theorem xJx (xs:List AV) (l:Nat):XO (opsAt Tryz.f67 0) (opsAt Tryz.f67 0).toList ([.yld l,.eptr 1 [.list 9 xs] 0 0]++List.replicate 18 (.tuple [])) [] =
 some ⟨[.yld l,.eptr 1 [.list 9 xs] 0 0,.tuple [],.tuple [],.tuple [],.list 9 xs,.int .i64 xs.length,.int .i64 0]++List.replicate 12 (.tuple []),[]⟩:=by kernel_rfl
theorem xJ0 (xs:List AV) (l:Nat) (i:Int):XO (opsAt Tryz.f67 1) (opsAt Tryz.f67 1).toList (Th xs l i) []=some ⟨Th8 xs l i (decide (i<(xs.length:Int))),[]⟩:=by kernel_rfl
theorem xJ1 (xs:List AV) (l:Nat) (i:Int):XO (opsAt Tryz.f67 2) (opsAt Tryz.f67 2).toList (Th8 xs l i true) [] =
 br (decide ((0:Int)<=i)&&decide (i<(xs.length:Int))) (br (decide (i.toNat<xs.length)&&((xs.getD i.toNat AV.top).cells.length==(9:Nat)&&xLE [Sh.int IntKind.i64,Sh.int IntKind.i64,Sh.list (3:Nat),Sh.int IntKind.i64,Sh.int IntKind.i64,Sh.int IntKind.i64,Sh.int IntKind.i64,Sh.int IntKind.i64,Sh.int IntKind.i64] (xs.getD i.toNat AV.top).cells (0:Nat)))
  (
   let x:=verA ((xs.getD i.toNat AV.top).cells.getD 0 AV.top).toInt ((xs.getD i.toNat AV.top).cells.getD 1 AV.top).toInt ((xs.getD i.toNat AV.top).cells.getD 2 AV.top).toList ((xs.getD i.toNat AV.top).cells.getD 3 AV.top).toInt ((xs.getD i.toNat AV.top).cells.getD 4 AV.top).toInt ((xs.getD i.toNat AV.top).cells.getD 5 AV.top).toInt ((xs.getD i.toNat AV.top).cells.getD 6 AV.top).toInt ((xs.getD i.toNat AV.top).cells.getD 7 AV.top).toInt ((xs.getD i.toNat AV.top).cells.getD 8 AV.top).toInt
   some ⟨Tv xs l i x,Bv x⟩) none) none:=by kernel_rfl
theorem xJc (xs:List AV) (l:Nat) (i:Int) (a b:Int) (r:List AV) (c d e f g h:Int):XO (opsAt Tryz.f67 3) ((opsAt Tryz.f67 3).toList.take 5) (Tv xs l i (verA a b r c d e f g h)) (Bv (verA a b r c d e f g h)) =
 br (xcZ a b r c d e f g h) (some ⟨Tw xs l i (verA a b r c d e f g h) (xcZ a b r c d e f g h),Bv (verA a b r c d e f g h)⟩)
  (some ⟨[.yld l,.eptr 1 [.list 9 xs] 0 0,.top,.top,.own 0 0 0 0,.list 9 xs,.int .i64 xs.length,.int .i64 i,.bool true,.eptr 9 xs i.toNat 0,verA a b r c d e f g h,verA a b r c d e f g h,.bool (xcZ a b r c d e f g h),.bool false,.tuple [],.tuple [],.top,.top,.top,.top],Bv (verA a b r c d e f g h)⟩):=by kernel_rfl
theorem xJe (xs:List AV) (l:Nat) (i:Int) (a b:Int) (r:List AV) (c d e f g h:Int):XO (opsAt Tryz.f67 3) (opsAt Tryz.f67 3).toList (Tv xs l i (verA a b r c d e f g h)) (Bv (verA a b r c d e f g h)) =
 br (xcZ a b r c d e f g h) none (some ⟨Tn xs l i (verA a b r c d e f g h) (xcZ a b r c d e f g h),Bv (verA a b r c d e f g h)⟩):=by kernel_rfl
theorem xJd (xs:List AV) (l:Nat) (i:Int) (b:Bool):XO (opsAt Tryz.f67 3) ((opsAt Tryz.f67 3).toList.drop 6) (Ty xs l i b) []=some ⟨Tz xs l i b,[]⟩:=by kernel_rfl
def Tq (b:Bool):List AV:=[.top,.top,.top,.top,.top,.top,.top,.top,.top,.top,.top,.top,.top,.bool true,.top,.top,.bool false,.top,.top,.top]
theorem xJf:XO (opsAt Tryz.f67 3) ((opsAt Tryz.f67 3).toList.drop 6) (Tq false) []=some ⟨[.top,.top,.top,.top,.top,.top,.top,.top,.top,.top,.top,.top,.top,.bool true,.top,.top,.bool false,.bool true,.bool true,.top],[]⟩:=by kernel_rfl
theorem xJ2 (xs:List AV) (l:Nat) (i:Int):XO (opsAt Tryz.f67 4) (opsAt Tryz.f67 4).toList (Th xs l i) [] =
 some ⟨[.yld l,.eptr 1 [.list 9 xs] 0 0,.top,.top,.top,.list 9 xs,.int .i64 xs.length,.int .i64 (IntKind.i64.wrap (i+1)),.top,.top,.top,.top,.top,.top,.top,.top,.top,.top,.top,.int .i64 (IntKind.i64.wrap (i+1))],[]⟩:=by kernel_rfl
noncomputable def itCode:Code:=.seq (rg Tryz.f67 0) (.block 0 (.loop (.seq (rg Tryz.f67 1) (.seq (.cond (.tmp 8) .skip (.exit 0)) (.seq (.block 1 (.seq (rg Tryz.f67 2) (.seq (rg Tryz.f67 3) (.cond (.tmp 18) .ret .skip)))) (rg Tryz.f67 4))))))
theorem xHQ:Tryz.f67.body=some itCode:=by kernel_rfl
theorem xI7:noDefer (opsAt Tryz.f67 0)=true:=by kernel_rfl
theorem xI8:noDefer (opsAt Tryz.f67 1)=true:=by kernel_rfl
theorem xI9:noDefer (opsAt Tryz.f67 2)=true:=by kernel_rfl
theorem xJa:noDefer (opsAt Tryz.f67 3)=true:=by kernel_rfl
theorem xJb:noDefer (opsAt Tryz.f67 4)=true:=by kernel_rfl
theorem xzE (i:Nat) (h:i<5):noDefer (opsAt Tryz.f67 i)=true:=by
 have:i=0\/i=1\/i=2\/i=3\/i=4:=by omega
 rcases this with e|e|e|e|e<;>rw [e]
 . exact xI7
 . exact xI8
 . exact xI9
 . exact xJa
 . exact xJb
theorem xpF {i k:Nat} (hk:k<5) {s s':St} {w0 W:World} {C:Cx} {A:Nat->Prop} {M:Id->Option MB} {b:Act} {Q:Exit->Act->World->Prop} (hI:xMf w0) (hx:xOps Tryz.prog EIt none (some true) (opsAt Tryz.f67 k) (opsAt Tryz.f67 k).toList s some=some s') (hs:SR w0 C W A M s b)
  (hK:∀ a' w' A' M',SR w0 C w' A' M' s' a'->a'.defers=b.defers->Q .normal a' w'):(Code.region i (opsAt Tryz.f67 k) false).wpIn Fence.wide 0 Tryz.prog Q b W:=by
 exact wpIn_region_list (xvq (Inv:=xMf.at 0) (ro:=none) (n:=0) (xLJ Tryz.prog _) hI (xnP xvK hx) (xiQ (xzE k hk)) hs hK)
noncomputable def itY:Oper:=(opsAt Tryz.f67 3).toList.getD 5 default
theorem xES:itY.op=.call { callee:=.value (.tmp 14),args:=#[.tmp 15],argTypes:=#[58] }:=by kernel_rfl
theorem xCi:itY.dst=some 16:=by kernel_rfl
theorem xET:(opsAt Tryz.f67 3).toList=(opsAt Tryz.f67 3).toList.take 5++(itY::(opsAt Tryz.f67 3).toList.drop 6):=by kernel_rfl
theorem xGf (xs:List AV) (l:Nat) (i:Int) (x:AV) (o:Bool):xLK (opsAt Tryz.f67 3) (Tw xs l i x o) itY=some true:=by kernel_rfl
theorem xHP {l:Nat} {b:Act} {v:Value} {W:World} {r:Result Next} (h0:b.tmps.getD 14 undef=.func (.yield l) #[] #[]) (h1:b.tmps.getD 15 undef=v) (hy:(Instr.yield l #[v]).run Tryz.prog W=r):(execOp b.eval itY).run Tryz.prog W=r:=by
 simp only [execOp,xES,Go.resolve,Act.eval,h0,h1,Deferred.ofValue,Sem.run_bind,Sem.run_pure,Result.andThen_ok,invoke];have e:b.eval (.tmp 15)=v:=h1;simpa [e] using hy
structure Hd (xs:List AV) (l:Nat) (i:Int) (W:World) (A:Nat->Prop) (b:Act):Prop where
 size:b.tmps.size=20
 def0:b.defers=[]
 r0:Rel W A xLM (b.tmps.getD 0 undef) (.yld l)
 r1:Rel W A xLM (b.tmps.getD 1 undef) (.eptr 1 [.list 9 xs] 0 0)
 r5:Rel W A xLM (b.tmps.getD 5 undef) (.list 9 xs)
 r6:Rel W A xLM (b.tmps.getD 6 undef) (.int .i64 xs.length)
 r7:Rel W A xLM (b.tmps.getD 7 undef) (.int .i64 i)
theorem lt20 {t:Nat} (h:t<20):t=0\/t=1\/t=2\/t=3\/t=4\/t=5\/t=6\/t=7\/t=8\/t=9\/t=10\/t=11\/t=12\/t=13\/t=14\/t=15\/t=16\/t=17\/t=18\/t=19:=by omega
theorem Hd.sr {xs:List AV} {l:Nat} {i:Int} {W:World} {A:Nat->Prop} {b:Act} (h:Hd xs l i W A b) (q:∀ b,A b->b<W.heap.size):SR W ⟨A,W,A,xLM,0⟩ W A xLM ⟨Th xs l i,[]⟩ b:=by
 refine xrq q h.size h.def0 fun t ht=>?_
 rcases lt20 ht with rfl|rfl|rfl|rfl|rfl|rfl|rfl|rfl|rfl|rfl|rfl|rfl|rfl|rfl|rfl|rfl|rfl|rfl|rfl|rfl <;>
  first|exact Rel.top _|exact h.r0|exact h.r1|exact h.r5|exact h.r6|exact h.r7
theorem Hd.of {xs:List AV} {l:Nat} {i:Int} {W W':World} {A A':Nat->Prop} {M':Id->Option MB} {C:Cx} {s':St} {b':Act} (hs:SR W C W' A' M' s' b') (hc:C.av=A) (q:∀ b,A b->b<W.heap.size) (hd:b'.defers=[]) (hl:s'.tmps.length=20)
  (h0:s'.tmps.getD 0 .top=.yld l) (h1:s'.tmps.getD 1 .top=.eptr 1 [.list 9 xs] 0 0) (h5:s'.tmps.getD 5 .top=.list 9 xs) (h6:s'.tmps.getD 6 .top=.int .i64 xs.length) (h7:s'.tmps.getD 7 .top=.int .i64 i):Hd xs l i W' A b' :=
 ⟨hs.size.trans hl,hd,hs.pureRel hc q (by omega) h0 rfl,hs.pureRel hc q (by omega) h1 rfl,hs.pureRel hc q (by omega) h5 rfl,hs.pureRel hc q (by omega) h6 rfl,hs.pureRel hc q (by omega) h7 rfl⟩
theorem Hd.keep {xs:List AV} {l:Nat} {i:Int} {W W':World} {A A':Nat->Prop} {b:Act} (h:Hd xs l i W A b) (d:Nat) (v:Value) (hd:8<=d) (hs:W.heap.size<=W'.heap.size) (hA:∀ b,b<W.heap.size->A' b->A b) (hk:∀ b,b<W.heap.size->¬ A b->W'.heap[b]?=W.heap[b]?):Hd xs l i W' A' (b.put (some d) v):=by
 have key:∀ t x,t<8->Rel W A xLM (b.tmps.getD t undef) x->Rel W' A' xLM ((b.put (some d) v).tmps.getD t undef) x:=fun t x ht hr=>by
  have e:(b.put (some d) v).tmps.getD t undef=b.tmps.getD t undef:=by
   simp only [Act.put];simp [zu,Array.getElem?_setIfInBounds_ne (show d≠t by omega)]
  rw [e];exact hr.mono hk hs hA (MExt.refl _)
 exact ⟨by simp [Act.put,h.size],h.def0,key 0 _ (by omega) h.r0,key 1 _ (by omega) h.r1,key 5 _ (by omega) h.r5,key 6 _ (by omega) h.r6,key 7 _ (by omega) h.r7⟩
theorem xrS (xs:List AV) (bf:∀ x,x∈xs->IsV x) (cg:xs.length<4611686018427387904):IterC Tryz.prog xMf 67 (.eptr 1 [.list 9 xs] 0 0) xs opV:=by
 refine ⟨⟨Tryz.f67,Tryz.func67,by kernel_rfl,by kernel_rfl⟩,?_⟩
 intro w A lv bz l J Jx ab ax hJ a4 hY a9;have cf:=fun (e:Ending) (W':World)=>(∃ v,e=.returned v)/\((∃ A',J (xs.filter opV) A' W')\/∃ pre suf,pre++suf=xs.filter opV/\Jx pre W')
 refine callsIn_of_wp (F:=Fence.wide) (n:=0) Tryz.func67 xHQ trivial ?_;have ay:∀ (b:Act) (W:World),(results Tryz.f67 b.tmps).run Tryz.prog W=.ok (.tuple #[]) W:=fun b W=>by
  have:Tryz.f67.results=#[]:=by kernel_rfl
  simp [results,this]
 have al:∀ (b:Act) (W:World),b.defers=[]->((∃ A',J (xs.filter opV) A' W)\/∃ pre suf,pre++suf=xs.filter opV/\Jx pre W) ->
   bodyPost Tryz.prog Tryz.f67 (fun e W'=>(∃ v,e=.returned v)/\((∃ A',J (xs.filter opV) A' W')\/∃ pre suf,pre++suf=xs.filter opV/\Jx pre W')) .ret b W:=fun b W hd h =>
  ⟨hd,_,ay b W,⟨_,rfl⟩,h⟩
 refine wpIn_seq ?_;have am:=hJ _ _ _ a9;have ce:SR w ⟨A,w,A,xLM,0⟩ w A xLM ⟨[.yld l,.eptr 1 [.list 9 xs] 0 0]++List.replicate 18 (.tuple []),[]⟩ { tmps:=#[.func (.yield l) #[] #[],lv]++Array.replicate (Tryz.f67.ntmps - 2) undef,defers:=[] }:=by
  have bm:Tryz.f67.ntmps=20:=by kernel_rfl
  rw [bm];refine xrq am.2 (by simp) rfl fun t ht=>?_
  have ht:t<20:=by simpa using ht
  by_cases h0:t=0
  . subst h0;have e1:(#[Value.func (.yield l) #[] #[],lv]++Array.replicate 18 undef).getD 0 undef=.func (.yield l) #[] #[]:=by simp [Array.getElem?_append]
    show Rel w A xLM ((#[Value.func (.yield l) #[] #[],lv]++Array.replicate 18 undef).getD 0 undef) (.yld l);rw [e1];exact .yld l
  by_cases h1:t=1
  . subst h1;have e1:(#[Value.func (.yield l) #[] #[],lv]++Array.replicate 18 undef).getD 1 undef=lv:=by simp [Array.getElem?_append]
    show Rel w A xLM ((#[Value.func (.yield l) #[] #[],lv]++Array.replicate 18 undef).getD 1 undef) (.eptr 1 [.list 9 xs] 0 0);rw [e1];exact bz
  have e1:(#[Value.func (.yield l) #[] #[],lv]++Array.replicate (20 - 2) undef).getD t undef=undef:=by
   have h2:¬ t<2:=by omega
   have h3:t - 2<18:=by omega
   simp [Array.getElem?_append,h2,h3]
  have e2:([AV.yld l,.eptr 1 [.list 9 xs] 0 0]++List.replicate 18 (AV.tuple [])).getD t .top=.tuple []:=by
   have key:∀ m,t<m+2->([AV.yld l,.eptr 1 [.list 9 xs] 0 0]++List.replicate m (AV.tuple [])).getD t .top=.tuple []:=fun m hm=>by
    obtain ⟨u,rfl⟩:∃ u,t=u+2:=⟨t - 2,by omega⟩
    have hu:u<m:=by omega
    simp [z7,List.getElem?_replicate,hu]
   exact key 18 ht
  show Rel w A xLM ((#[Value.func (.yield l) #[] #[],lv]++Array.replicate (20 - 2) undef).getD t undef) (([AV.yld l,.eptr 1 [.list 9 xs] 0 0]++List.replicate 18 (AV.tuple [])).getD t .top);rw [e1,e2];exact .tuple #[] [] rfl (by simp)
 refine xpF (k:=0) (by omega) am.1 (xJx xs l) ce fun b0 W0 A0 M0 bc bv=>?_
 have bu:Hd xs l 0 W0 A b0:=Hd.of bc rfl am.2 bv rfl rfl rfl rfl rfl rfl;have bn:J [] A W0:=ab _ _ _ _ a9 bc.base;refine wpIn_block (wpIn_mono (Q:=fun e b W=>(e=.exit 0/\b.defers=[]/\∃ A',J (xs.filter opV) A' W)\/(e=.ret/\b.defers=[]/\∃ pre suf,pre++suf=xs.filter opV/\Jx pre W)) ?_ ?_)
 rotate_left
 . rintro e b W (⟨rfl,hd,h⟩|⟨rfl,hd,h⟩)
   . exact al b W hd (.inl h)
   . exact al b W hd (.inr h)
 refine wpIn_loop (fun b W=>∃ i:Nat,i<=xs.length/\∃ A',J ((xs.take i).filter opV) A' W/\Hd xs l i W A' b) (fun b W=>match b.tmps.getD 7 undef with|.int _ i=>xs.length - i.toNat|_=>0) ⟨0,zQ _,A,by simpa using bn,bu⟩ ?_
 rintro b W ⟨i,hi,A1,be,hH⟩;have aj:=hJ _ _ _ be;have ca:(match b.tmps.getD 7 undef with|.int _ i=>xs.length - i.toNat|_=>0)=xs.length - i:=by
  rw [hH.r7.int_inv];simp
 rw [ca];refine wpIn_seq ?_;refine xpF (k:=1) (by omega) aj.1 (xJ0 xs l i) (hH.sr aj.2) fun b1 W1 A2 M2 ar bg=>?_
 have Y:Hd xs l i W1 A1 b1:=Hd.of ar rfl aj.2 (bg.trans hH.def0) rfl rfl rfl rfl rfl rfl;have ac:J ((xs.take i).filter opV) A1 W1:=ab _ _ _ _ be ar.base;have h8:Rel W1 A1 xLM (b1.tmps.getD 8 undef) (.bool (decide ((i:Int)<(xs.length:Int)))):=ar.pureRel rfl aj.2 (by show 8<20;omega) rfl rfl
 refine wpIn_seq ?_;refine wpIn_cond_split h8.bool_inv (fun hc=>?_) (fun hc=>?_)
 rotate_left
 ·
  have cb:i=xs.length:=by simp at hc;omega
  refine wpIn_exit (.inl ⟨rfl,Y.def0,A1,?_⟩);rw [cb,y4] at ac;exact ac
 have aa:i<xs.length:=by simpa using hc
 refine wpIn_skip ?_;have q:=hJ _ _ _ ac;have a3:xs.getD i .top=xs[i]:=by simp [z7,aa]
 obtain ⟨va,vb,vr,vc,vd,ve,vf,vg,vh,hx⟩:=bf (xs.getD i .top) (xa6 aa);have O:(xs.take (i+1)).filter opV=(xs.take i).filter opV++(if opV (xs.getD i .top)=true then [xs.getD i .top] else []):=by
  rw [List.take_add_one,List.filter_append,a3];simp only [ze aa,Option.toList_some,List.filter_cons,List.filter_nil]
 have bk:SR W1 ⟨A1,W1,A1,xLM,0⟩ W1 A1 xLM ⟨Th8 xs l i true,[]⟩ b1:=by
  refine xrq q.2 Y.size Y.def0 fun t ht=>?_
  have h8':Rel W1 A1 xLM (b1.tmps.getD 8 undef) (.bool true):=by rw [hc] at h8;exact h8
  rcases lt20 ht with rfl|rfl|rfl|rfl|rfl|rfl|rfl|rfl|rfl|rfl|rfl|rfl|rfl|rfl|rfl|rfl|rfl|rfl|rfl|rfl <;>
   first|exact Rel.top _|exact Y.r0|exact Y.r1|exact Y.r5|exact Y.r6|exact Y.r7|exact h8'
 have bw:XO (opsAt Tryz.f67 2) (opsAt Tryz.f67 2).toList (Th8 xs l i true) []=some ⟨Tv xs l i (verA va vb vr vc vd ve vf vg vh),Bv (verA va vb vr vc vd ve vf vg vh)⟩:=by
  rw [xJ1];have hx':xs.getD ((i:Int).toNat) .top=verA va vb vr vc vd ve vf vg vh:=by rw [zN];exact hx
  rw [hx'];have e1:(decide ((0:Int)<=(i:Int))&&decide ((i:Int)<(xs.length:Int)))=true:=by simp [aa]
  have e2:(decide ((i:Int).toNat<xs.length)&&((verA va vb vr vc vd ve vf vg vh).cells.length==(9:Nat)&&xLE [Sh.int IntKind.i64,Sh.int IntKind.i64,Sh.list (3:Nat),Sh.int IntKind.i64,Sh.int IntKind.i64,Sh.int IntKind.i64,Sh.int IntKind.i64,Sh.int IntKind.i64,Sh.int IntKind.i64] (verA va vb vr vc vd ve vf vg vh).cells (0:Nat)))=true:=by
   rw [zN,zf];exact ⟨by simpa using aa,rfl⟩
  rw [e1,e2];rfl
 have an:∀ (b4:Act) (W4:World) (A4:Nat->Prop),Hd xs l i W4 A4 b4->J ((xs.take (i+1)).filter opV) A4 W4->(Code.region (idOf (regAt Tryz.f67 4)) (opsAt Tryz.f67 4) false).wpIn Fence.wide 0 Tryz.prog (Exit.then (fun a' w'=>(∃ i:Nat,i<=xs.length/\∃ A',J ((xs.take i).filter opV) A' w'/\Hd xs l i w' A' a') /\
   (match a'.tmps.getD 7 undef with|.int _ i=>xs.length - i.toNat|_=>0)<xs.length - i) (fun e b W=>(e=.exit 0/\b.defers=[]/\∃ A',J (xs.filter opV) A' W)\/(e=.ret/\b.defers=[]/\∃ pre suf,pre++suf=xs.filter opV/\Jx pre W))) b4 W4:=fun b4 W4 A4 ah ae=>by
  have aq:=hJ _ _ _ ae;refine xpF (k:=4) (by omega) aq.1 (xJ2 xs l i) (ah.sr aq.2) fun b5 W5 A5 M5 a8 bo=>?_
  have hw:IntKind.i64.wrap ((i:Int)+1)=((i+1:Nat):Int):=by rw [xbE (by omega) (by omega)];omega
  have U:Hd xs l ((i+1:Nat):Int) W5 A4 b5:=Hd.of a8 rfl aq.2 (bo.trans ah.def0) rfl rfl rfl rfl rfl (by show AV.int .i64 (IntKind.i64.wrap ((i:Int)+1))=_;rw [hw])
  refine ⟨⟨i+1,aa,A4,ab _ _ _ _ ae a8.base,U⟩,?_⟩;rw [U.r7.int_inv];simp;omega
 refine wpIn_seq ?_;refine wpIn_block ?_;refine wpIn_seq ?_;refine xpF (k:=2) (by omega) q.1 bw bk fun b2 W2 A3 M3 aw az=>?_
 have cj:J ((xs.take i).filter opV) A1 W2:=ab _ _ _ _ ac aw.base;refine wpIn_seq ?_;have a7:∀ (b4:Act) (W4:World) (A4:Nat->Prop),Hd xs l i W4 A4 b4->J ((xs.take (i+1)).filter opV) A4 W4->b4.eval (.tmp 18)=.bool false->(Code.cond (.tmp 18) .ret .skip).wpIn Fence.wide 0 Tryz.prog (Exit.inBlock 1 (Exit.then (fun a' w'=>(Code.region (idOf (regAt Tryz.f67 4)) (opsAt Tryz.f67 4) false).wpIn Fence.wide 0 Tryz.prog (Exit.then (fun a' w'=>(∃ i:Nat,i<=xs.length/\∃ A',J ((xs.take i).filter opV) A' w'/\Hd xs l i w' A' a') /\
   (match a'.tmps.getD 7 undef with|.int _ i=>xs.length - i.toNat|_=>0)<xs.length - i) (fun e b W=>(e=.exit 0/\b.defers=[]/\∃ A',J (xs.filter opV) A' W)\/(e=.ret/\b.defers=[]/\∃ pre suf,pre++suf=xs.filter opV/\Jx pre W))) a' w')
   (Exit.then (fun a' w'=>(∃ i:Nat,i<=xs.length/\∃ A',J ((xs.take i).filter opV) A' w'/\Hd xs l i w' A' a') /\
   (match a'.tmps.getD 7 undef with|.int _ i=>xs.length - i.toNat|_=>0)<xs.length - i) (fun e b W=>(e=.exit 0/\b.defers=[]/\∃ A',J (xs.filter opV) A' W)\/(e=.ret/\b.defers=[]/\∃ pre suf,pre++suf=xs.filter opV/\Jx pre W))))) b4 W4:=fun b4 W4 A4 ah ae cd =>
  wpIn_cond_false cd (wpIn_skip (an b4 W4 A4 ah ae))
 have a0:opV (verA va vb vr vc vd ve vf vg vh)=xcZ va vb vr vc vd ve vf vg vh:=rfl;have ck:verA va vb vr vc vd ve vf vg vh∈xs:=by rw [<-hx];exact xa6 aa
 rw [hx,a0] at O;by_cases ho:xcZ va vb vr vc vd ve vf vg vh=true
 ·
  rw [if_pos ho] at O;refine wpIn_region_list ?_;rw [xET];have au:xOps Tryz.prog EIt none (some true) (opsAt Tryz.f67 3) ((opsAt Tryz.f67 3).toList.take 5) ⟨Tv xs l i (verA va vb vr vc vd ve vf vg vh),Bv (verA va vb vr vc vd ve vf vg vh)⟩ some=some ⟨Tw xs l i (verA va vb vr vc vd ve vf vg vh) true,Bv (verA va vb vr vc vd ve vf vg vh)⟩:=by
   have:=xJc xs l i va vb vr vc vd ve vf vg vh;rw [ho] at this;exact this
  refine xyL (Inv:=xMf.at 0) (ro:=none) (n:=0) (xLJ Tryz.prog _) q.1 (xnP xvK au) (fun o ho=>xiQ (xzE 3 (by omega)) o (List.mem_of_mem_take ho)) aw fun b3 W3 A4 M4 V ap ci=>?_
  have ag:Hd xs l i W3 A1 b3:=Hd.of V rfl q.2 ((ap.trans az).trans Y.def0) rfl rfl rfl rfl rfl rfl;have ae:J ((xs.take i).filter opV) A1 W3:=ab _ _ _ _ ac V.base;have bh:Rel W3 A1 xLM (b3.tmps.getD 14 undef) (.yld l):=V.pureRel rfl q.2 (by show 14<20;omega) rfl rfl
  have bp:Rel W3 A1 xLM (b3.tmps.getD 15 undef) (verA va vb vr vc vd ve vf vg vh):=V.pureRel rfl q.2 (by show 15<20;omega) rfl rfl
  have bt:Rel W3 A1 xLM (b3.tmps.getD 13 undef) (.bool true):=V.pureRel rfl q.2 (by show 13<20;omega) rfl rfl
  have a2:b3.tmps.getD 14 undef=.func (.yield l) #[] #[]:=bh.yld_inv;have bi:(xs.take i).filter opV++verA va vb vr vc vd ve vf vg vh::(xs.drop (i+1)).filter opV=xs.filter opV:=by
   rw [show verA va vb vr vc vd ve vf vg vh::(xs.drop (i+1)).filter opV=[verA va vb vr vc vd ve vf vg vh]++(xs.drop (i+1)).filter opV from rfl,<-zw,<-O,<-List.filter_append,List.take_append_drop]
  obtain ⟨fn,tmps,b7,body,hy,ai⟩:=hY _ _ _ _ _ _ bi ae bp;have bq:=xh7 (w:=W3) (A:=A4) (M:=M4) (ops:=opsAt Tryz.f67 3) V.size (fun j ch d _ _ b8=>V.tmps d b8) (xGf xs l i (verA va vb vr vc vd ve vf vg vh) true)
  unfold wpListIn;rw [if_pos bq];refine ⟨fun _ _=>trivial,?_⟩
  have ba:=xHP a2 rfl hy;rw [Oper.semAt_eq _ _ _ (fun c=>by rw [xES];simp),ba,Oper.uponIn_round]
  refine ⟨fun h=>by simp [wideR,Fence.wide] at h,?_⟩
  refine RoundIn.mono (show RoundIn Fence.wide 0 Tryz.prog l fn tmps b7 body W3 _ from ai) ?_
  have a6:∀ y:Bool,(b3.put (some 16) (.bool y)).tmps.getD 13 undef=.bool true:=fun y=>by
   have:(b3.put (some 16) (.bool y)).tmps.getD 13 undef=b3.tmps.getD 13 undef:=by
    simp [Act.put,zu,Array.getElem?_setIfInBounds_ne]
   rw [this,bt.bool_inv]
  have a1:∀ y:Bool,(b3.put (some 16) (.bool y)).tmps.getD 16 undef=.bool y:=fun y=>by
   have:16<b3.tmps.size:=by rw [ag.size];omega
   simp [Act.put,zu,this]
  rintro e W4 (⟨rfl,A5,a5,bj,cc,b9⟩|⟨rfl,bb⟩)
  ·
   show wpListIn _ _ _ _ _ _ (b3.put itY.dst (.bool true)) W4;rw [xCi];have ak:=hJ _ _ _ a5;have U:Hd xs l i W4 A5 (b3.put (some 16) (.bool true)):=ag.keep 16 _ (by omega) bj cc b9
   have Z:SR W4 ⟨A5,W4,A5,xLM,0⟩ W4 A5 xLM ⟨Ty xs l i true,[]⟩ (b3.put (some 16) (.bool true)):=by
    refine xrq ak.2 U.size U.def0 fun t ht=>?_
    rcases lt20 ht with rfl|rfl|rfl|rfl|rfl|rfl|rfl|rfl|rfl|rfl|rfl|rfl|rfl|rfl|rfl|rfl|rfl|rfl|rfl|rfl <;>
     first|exact Rel.top _|exact U.r0|exact U.r1|exact U.r5|exact U.r6|exact U.r7|(rw [a6];exact Rel.bool true)|(rw [a1];exact Rel.bool true)
   refine xvq (Inv:=xMf.at 0) (ro:=none) (n:=0) (xLJ Tryz.prog _) ak.1 (xnP xvK (xJd xs l i true)) (fun o ho=>xiQ (xzE 3 (by omega)) o (List.mem_of_mem_drop ho)) Z (fun b6 W6 A6 M6 ad ao=>?_)
   . have af:Rel W6 A5 xLM (b6.tmps.getD 18 undef) (.bool false):=ad.pureRel rfl ak.2 (by show 18<20;omega) rfl rfl
     refine a7 b6 W6 A5 (Hd.of ad rfl ak.2 (ao.trans U.def0) rfl rfl rfl rfl rfl rfl) ?_ af.bool_inv;rw [O];exact ab _ _ _ _ a5 ad.base
  ·
   show wpListIn _ _ _ _ _ _ (b3.put itY.dst (.bool false)) W4;rw [xCi];have Z:SR W4 ⟨fun _=>False,W4,fun _=>False,xLM,0⟩ W4 (fun _=>False) xLM ⟨Tq false,[]⟩ (b3.put (some 16) (.bool false)):=by
    refine xrq (fun _ h=>h.elim) (by simp [Act.put,ag.size,Tq]) ag.def0 fun t ht=>?_
    rcases lt20 ht with rfl|rfl|rfl|rfl|rfl|rfl|rfl|rfl|rfl|rfl|rfl|rfl|rfl|rfl|rfl|rfl|rfl|rfl|rfl|rfl <;>
     first|exact Rel.top _|(rw [a6];exact Rel.bool true)|(rw [a1];exact Rel.bool false)
   refine xvq (Inv:=xMf.at 0) (ro:=none) (n:=0) (xLJ Tryz.prog _) (a4 _ _ bb) (xnP xvK xJf) (fun o ho=>xiQ (xzE 3 (by omega)) o (List.mem_of_mem_drop ho)) Z (fun b6 W6 A6 M6 ad ao=>?_)
   . have af:Rel W6 (fun _=>False) xLM (b6.tmps.getD 18 undef) (.bool true):=ad.pureRel rfl (fun _ h=>h.elim) (by show 18<20;omega) rfl rfl
     refine wpIn_cond_true af.bool_inv (wpIn_ret (.inr ⟨rfl,ao.trans ag.def0,(xs.take i).filter opV++[verA va vb vr vc vd ve vf vg vh],(xs.drop (i+1)).filter opV,?_,ax _ _ _ bb ad.base⟩));rw [<-O,<-List.filter_append,List.take_append_drop]
 ·
  rw [if_neg ho,zD] at O;have ho':xcZ va vb vr vc vd ve vf vg vh=false:=by simpa using ho
  have au:xOps Tryz.prog EIt none (some true) (opsAt Tryz.f67 3) (opsAt Tryz.f67 3).toList ⟨Tv xs l i (verA va vb vr vc vd ve vf vg vh),Bv (verA va vb vr vc vd ve vf vg vh)⟩ some=some ⟨Tn xs l i (verA va vb vr vc vd ve vf vg vh) false,Bv (verA va vb vr vc vd ve vf vg vh)⟩:=by
   have:=xJe xs l i va vb vr vc vd ve vf vg vh;rw [ho'] at this;exact this
  refine xpF (k:=3) (by omega) q.1 au aw fun b3 W3 A4 M4 V ap=>?_
  have af:Rel W3 A1 xLM (b3.tmps.getD 18 undef) (.bool false):=V.pureRel rfl q.2 (by show 18<20;omega) rfl rfl
  refine a7 b3 W3 A1 (Hd.of V rfl q.2 ((ap.trans az).trans Y.def0) rfl rfl rfl rfl rfl rfl) ?_ af.bool_inv;rw [O];exact ab _ _ _ _ ac V.base
end Go.Sim.M
namespace Go.Sim
theorem xAF {β γ:Type} {P:Program} {Inv:IV} {nt:Nat} {l:Code} {live liveO:List Nat} {conv:List (Nat×Nat×TypeId)} {pv:Pat (List AV) β} {pb:Pat (List Box) γ} {g:β->γ->Bool×LR}
  (h:∀ b c r,g b c=(true,r)->Does P Inv l (fun e1 s1=>e1=r.eval.1/\s1=⟨mkTs nt (liveO.zip r.eval.2.1),r.eval.2.2⟩) ⟨mkTs nt (live.zip (pv.enc b)),pb.enc c⟩):PieceOk P Inv nt l (lpOf live liveO conv pv pb g):=fun vals H r e=>by
 unfold lpOf at e;dsimp only at e;split at e
 . rename_i b hb;split at e
   . rename_i c hc;simp only [z6] at e;rw [pv.ok _ _ hb,pb.ok _ _ hc];exact h b c r e
   . simp at e
 . simp at e
def isRng:Code->Bool
 | .rangeFunc ..=>true
 | _=>false
theorem xqO {P:Program} {Inv:IV} {E:Env} {c:Code} {ls:List Code} (h:xLS c=ls) (hl:∀ l,l∈ls->∀ lp,E.lp (xLN l)=some lp->LoopOk P Inv E.nt l lp) {rc:Code} {lp0:Lp} (hr:PieceOk P Inv E.nt rc lp0) (he:E.lp (condId rc)=some lp0)
  (h1:(xLO c).filter isRng=[rc]:=by kernel_rfl) (h2:((xLO c).all fun d=>isRng d || (E.lp (condId d)).isNone)=true:=by kernel_rfl):LoOk P Inv E c:=by
 refine ⟨fun l hm=>hl l (by rw [<-h];exact hm),fun d hd lp hs=>?_⟩
 cases hg:isRng d with
 | true =>
  have hm:d∈(xLO c).filter isRng:=List.mem_filter.2 ⟨hd,hg⟩;rw [h1,zv] at hm;subst hm;rw [he] at hs;simp only [z6] at hs;exact hs▸hr
 | false =>
  have:=zI.1 h2 d hd;rw [hg,hs] at this;simp at this
end Go.Sim
namespace Go.Sim.M
open Go.RowKit Go.Proofs
def rangesOf:Code->List Code
 | .seq a b=>rangesOf a++rangesOf b
 | .block _ c=>rangesOf c
 | .loop c=>rangesOf c
 | .cond _ a b=>rangesOf a++rangesOf b
 | .rangeFunc g ps a b=>[.rangeFunc g ps a b]
 | _=>[]
noncomputable def rgOf (fn:Func):Code:=(rangesOf (fn.body.getD .skip)).getD 0 .skip
noncomputable def rgA:Code->Code
 | .rangeFunc _ _ a _=>a
 | _=>.skip
noncomputable def rgB:Code->Code
 | .rangeFunc _ _ _ b=>b
 | _=>.skip
def isVb:AV->Bool
 | .agg [.int .i64 _,.int .i64 _,.list 3 _,.int .i64 _,.int .i64 _,.int .i64 _,.int .i64 _,.int .i64 _,.int .i64 _]=>true
 | _=>false
theorem xAk {x:AV} (h:isVb x=true):IsV x:=by
 unfold isVb at h;split at h
 . exact ⟨_,_,_,_,_,_,_,_,_,rfl⟩
 . simp at h
def factA:AV->AV
 | .agg [_,_,r,c,d,_,_,_,_]=>.agg [r,c,d]
 | x=>x
theorem xq2 (k:AV->AV):∀ (l:List AV) (v:Nat) (ys:List AV),l.foldl (stepS (ρ:=Unit) fun (s:Nat×List AV) x=>Sum.inl (s.1+1,s.2++[k x])) (Sum.inl (v,ys))=Sum.inl (v+l.length,ys++l.map k)
 | [],v,ys=>by simp
 | x::l,v,ys=>by
  rw [List.foldl_cons];show l.foldl _ (Sum.inl (v+1,ys++[k x]))=_;rw [xq2 k l (v+1) (ys++[k x])];simp only [zF,zV,zw,List.singleton_append];congr 2;omega
theorem xra {pre q:List AV} {x:AV} {xs:List AV} {op:AV->Bool} (h:pre++x::q=xs.filter op):x∈xs/\pre.length<xs.length:=by
 have hm:x∈xs.filter op:=by rw [<-h];simp
 have hl:=List.length_filter_le op xs;rw [<-h] at hl;simp only [z8,zF] at hl;exact ⟨(List.mem_filter.1 hm).1,by omega⟩
theorem id0:(0:Id)=.b 0:=rfl
theorem id1:(1:Id)=.b 1:=rfl
theorem id2:(2:Id)=.b 2:=rfl
theorem id3:(3:Id)=.b 3:=rfl
theorem id4:(4:Id)=.b 4:=rfl
noncomputable abbrev xCR:Env:=xko.E.fn 18 2 (lsOf []) (xLV [])
theorem xJU:xLz Tryz.prog ⟨(xMf).inv,2,false⟩ xCR:=⟨fun g a r h=>xko.ok.1 g a r h,fun g a H r H' h=>xko.ok.2 g a H r H' h⟩
noncomputable abbrev xCS (xs:List AV):List AV:=mkTs 18 [(3,.own 0 0 0 0),(6,.func 67 [.eptr 1 [.list 9 xs] 0 0])]
def xzN (s:Nat×List AV):List Box:=[⟨0,1,26,[.osl 1 s.1 0 s.2.length],false,false⟩,⟨s.1,3,60,s.2,false,true⟩]
theorem xKb (xs ys:List AV) (v n:Nat) (a b:Int) (r:List AV) (c d e f g h:Int):XB Tryz.prog xCR (rgA (rgOf Tryz.f12)) (rgB (rgOf Tryz.f12)) ((xCS xs).set 7 (verA a b r c d e f g h)) [⟨0,1,26,[.osl 1 v 0 n],false,false⟩,⟨v,3,60,ys,false,true⟩] =
 br (v==v&&(n==ys.length&&(decide ((n+1)*40<=140737488355328)&&decide (n+1<=4611686018427387904)))) (some (.normal,[⟨0,1,26,[.osl 1 (v+1) 0 (n+1)],false,false⟩,⟨v+1,3,60,ys++[.agg [.list 3 r,.int .i64 c,.int .i64 d]],false,true⟩])) none:=by kernel_rfl
theorem xJS:LoOk Tryz.prog ⟨(xMf).inv,2,false⟩ xCR (rgA (rgOf Tryz.f12)):=xfp (by kernel_rfl)
theorem xJT:LoOk Tryz.prog ⟨(xMf).inv,2,false⟩ xCR (rgB (rgOf Tryz.f12)):=xfp (by kernel_rfl)
theorem xHo:rgOf Tryz.f12=.rangeFunc (.tmp 6) #[7] (rgA (rgOf Tryz.f12)) (rgB (rgOf Tryz.f12)):=by kernel_rfl
theorem xKa (xs:List AV) (s:Nat×List AV):normS 0 [] [3] ⟨xCS xs,xzN s⟩=some ([.own 0 0 0 0],[⟨0,1,26,[.osl 1 0 0 s.2.length],false,false⟩,⟨0,3,60,s.2,false,true⟩]):=by
 obtain ⟨v,ys⟩:=s;have hb:Nat.beq v v=true:=Nat.beq_refl v;simp [normS,normH,normF,convs,xL8,xMe,renOk,xL0,rens,ren,renI,gather,refsOf,refsOf.refsL,xLU,xCS,xzN,mkTs,liveOf,pinsOk,nodupB,hb,id0,id1,id2,id3,id4,Id.base,Nat.beq,Nat.blt,Nat.ble]
def rfOk (k:Nat) (xs ys:List AV):Bool:=xs.all isVb&&decide ((ys.length+xs.length)*k<=140737488355328)
noncomputable def xiP:Lp:=lpOf [3,6] [3] [(3,3,60)] (xMg (xMt 0 0 0 0) (xMg (xLW 67 (xMg (xMA 1 0 0 (xMg (xMz 9 xMk) xMi)) xMi)) xMi)) (xMg (xMv 0 1 26 false false (xMg (xMs 1 0 0) xMi)) (xMg (xMv 0 3 60 false true xMk) xMi))
 fun (_,(((xs,_),_),_)) ((n,_),(ys,_))=>(Nat.beq n ys.length&&rfOk 40 xs ys,.leaf .normal [.own 0 0 0 0] [⟨0,1,26,[.osl 1 0 0 (ys++(xs.filter opV).map factA).length],false,false⟩,⟨0,3,60,ys++(xs.filter opV).map factA,false,true⟩])
theorem xrC:PieceOk Tryz.prog (xMf.at 0) 18 (rgOf Tryz.f12) xiP:=xAF fun vv bb rr hh=>by
 obtain ⟨_,⟨⟨xs,_⟩,_⟩,_⟩:=vv;obtain ⟨⟨n,_⟩,⟨ys,_⟩⟩:=bb;obtain ⟨h1,rfl⟩:=Prod.mk.inj hh;simp only [rfOk,zf,zl] at h1;obtain ⟨hn,hv,hb⟩:=h1;obtain rfl:=zg hn;have hV:∀ x,x∈xs->IsV x:=fun x hx=>xAk (zI.1 hv x hx)
 rw [xHo];refine xvF (xbH (xt8 (Inv:=xMf.at 0) (xLJ Tryz.prog _) rfl (xs:=xs) (op:=opV) (T:=xCS xs) (n:=2) (σ:=Nat×List AV) (ρ:=Unit) xzN (fun _=>[]) (fun s x=>.inl (s.1+1,s.2++[factA x])) (fun _=>rfl) (s0:=(0,ys)) (xrS xs hV (by omega)) rfl rfl ?_) ?_)
 . intro pre s x Q J hf;obtain ⟨hx,hl⟩:=xra J;rw [xq2] at hf;simp only [Sum.inl.injEq] at hf;obtain ⟨a,b,r,c,d,e,f,g,h,rfl⟩:=hV x hx;have O:s.2.length=ys.length+pre.length:=by rw [<-hf];simp
   have hc:(s.1==s.1&&(s.2.length==s.2.length&&(decide ((s.2.length+1)*40<=140737488355328)&&decide (s.2.length+1<=4611686018427387904))))=true:=by
    simp only [beq_self_eq_true,Bool.true_and,zf,zl];omega
   have q:=xKb xs s.2 s.1 s.2.length a b r c d e f g h;rw [hc] at q;refine xbH (xuk xLI (xLJ Tryz.prog _) rfl xJU xJS xJT q) fun e1 s1 ⟨g1,g2⟩=>⟨g1,xbH g2 fun e2 s2 ⟨k1,T',k2⟩=>⟨k1,T',?_⟩⟩
   have:xzN (s.1+1,s.2++[factA (verA a b r c d e f g h)])=[⟨0,1,26,[.osl 1 (s.1+1) 0 (s.2.length+1)],false,false⟩,⟨s.1+1,3,60,s.2++[.agg [.list 3 r,.int .i64 c,.int .i64 d]],false,true⟩]:=by
    simp [xzN,factA,verA]
   rw [this];exact k2
 . intro e1 s1 hq;rw [xq2] at hq;obtain ⟨rfl,rfl⟩:=hq;exact ⟨_,xjR (xKa xs _),rfl,rfl⟩
noncomputable abbrev xCT:Env:=xko.E.fn 16 3 (lsOf []) (xLV [])
theorem xHb:xLz Tryz.prog ⟨(xMf).inv,3,false⟩ xCT:=⟨fun g a r h=>xko.ok.1 g a r h,fun g a H r H' h=>xko.ok.2 g a H r H' h⟩
noncomputable abbrev xFU (xs:List AV):List AV:=mkTs 16 [(3,.own 0 0 0 0),(4,.own 1 0 0 0),(5,.own 2 0 0 0),(8,.func 67 [.eptr 1 [.list 9 xs] 0 0])]
def xwX (id:Int) (z:AV) (t:Bool):List Box:=[⟨0,1,3,[.int .i64 id],false,true⟩,⟨0,9,58,[z],false,true⟩,⟨0,1,4,[.bool t],false,true⟩]
theorem xKc (xs:List AV) (id:Int) (z:AV) (t:Bool) (a b:Int) (r:List AV) (c d e f g h:Int):XB Tryz.prog xCT (rgA (rgOf Tryz.f78)) (rgB (rgOf Tryz.f78)) ((xFU xs).set 9 (verA a b r c d e f g h)) (xwX id z t) =
 br (a==id) (some (.ret,xwX id (verA a b r c d e f g h) true)) (some (.normal,xwX id z t)):=by kernel_rfl
theorem xG9:LoOk Tryz.prog ⟨(xMf).inv,3,false⟩ xCT (rgA (rgOf Tryz.f78)):=xfp (by kernel_rfl)
theorem xHa:LoOk Tryz.prog ⟨(xMf).inv,3,false⟩ xCT (rgB (rgOf Tryz.f78)):=xfp (by kernel_rfl)
theorem xHp:rgOf Tryz.f78=.rangeFunc (.tmp 8) #[9] (rgA (rgOf Tryz.f78)) (rgB (rgOf Tryz.f78)):=by kernel_rfl
theorem xIT (xs:List AV) (id:Int) (z:AV) (t:Bool):normS 0 [] [4,5] ⟨xFU xs,xwX id z t⟩=some ([.own 0 0 0 0,.own 1 0 0 0],[⟨0,9,58,[z],false,true⟩,⟨0,1,4,[.bool t],false,true⟩]):=by kernel_rfl
def idA:AV->Int
 | .agg [.int _ a,_,_,_,_,_,_,_,_]=>a
 | _=>0
noncomputable def findA (id:Int) (xs:List AV):Option AV:=(xs.filter opV).find? fun x=>idA x==id
theorem xyA (id:Int):∀ l:List AV,l.foldl (stepS fun (_:Unit) x=>br (idA x==id) (Sum.inr x) (.inl ())) (.inl ())=match l.find? fun x=>idA x==id with|some x=>.inr x|none=>.inl ()
 | []=>rfl
 | x::l=>by
  rw [List.foldl_cons,List.find?_cons];show l.foldl _ (br (idA x==id) (Sum.inr x) (.inl ()))=_;cases h:idA x==id with
  | true=>exact xub _ _ _
  | false=>exact xyA id l
def exA (x:AV):AV:=.agg [.int .i64 (x.cells.getD 0 .top).toInt,.int .i64 (x.cells.getD 1 .top).toInt,.list 3 (x.cells.getD 2 .top).toList,.int .i64 (x.cells.getD 3 .top).toInt,.int .i64 (x.cells.getD 4 .top).toInt,.int .i64 (x.cells.getD 5 .top).toInt,.int .i64 (x.cells.getD 6 .top).toInt,.int .i64 (x.cells.getD 7 .top).toInt,.int .i64 (x.cells.getD 8 .top).toInt]
theorem xJY {x:AV} (h:IsV x):exA x=x:=by
 obtain ⟨a,b,r,c,d,e,f,g,i,rfl⟩:=h;rfl
noncomputable def xj0:Lp:=lpOf [3,4,5,8] [4,5] [] (xMg (xMt 0 0 0 0) (xMg (xMt 1 0 0 0) (xMg (xMt 2 0 0 0) (xMg (xLW 67 (xMg (xMA 1 0 0 (xMg (xMz 9 xMk) xMi)) xMi)) xMi)))) (xMg (xMv 0 1 3 false true (xMg (pInt .i64) xMi)) (xMg (xMv 0 9 58 false true (xMg xMk xMi)) (xMg (xMv 0 1 4 false true (xMg pBool xMi)) xMi)))
 fun (_,(_,(_,(((xs,_),_),_)))) ((id,_),((z,_),((t,_),_)))=>(xs.all isVb&&decide (xs.length<4611686018427387904),
  .node (findA id xs).isSome (.leaf .ret [.own 0 0 0 0,.own 1 0 0 0] [⟨0,9,58,[exA ((findA id xs).getD .top)],false,true⟩,⟨0,1,4,[.bool true],false,true⟩]) (.leaf .normal [.own 0 0 0 0,.own 1 0 0 0] [⟨0,9,58,[z],false,true⟩,⟨0,1,4,[.bool t],false,true⟩]))
theorem xsj:PieceOk Tryz.prog (xMf.at 0) 16 (rgOf Tryz.f78) xj0:=xAF fun vv bb rr hh=>by
 obtain ⟨_,_,_,⟨⟨xs,_⟩,_⟩,_⟩:=vv;obtain ⟨⟨id,_⟩,⟨z,_⟩,⟨t,_⟩,_⟩:=bb;obtain ⟨h1,rfl⟩:=Prod.mk.inj hh;simp only [zf,zl] at h1;have hV:∀ x,x∈xs->IsV x:=fun x hx=>xAk (zI.1 h1.1 x hx)
 rw [xHp];refine xvF (xbH (xt8 (Inv:=xMf.at 0) (xLJ Tryz.prog _) rfl (xs:=xs) (op:=opV) (T:=xFU xs) (n:=3) (σ:=Unit) (ρ:=AV) (fun _=>xwX id z t) (fun x=>xwX id x true) (fun _ x=>br (idA x==id) (.inr x) (.inl ())) (fun _=>rfl) (s0:=()) (xrS xs hV h1.2) rfl rfl ?_) ?_)
 . intro pre s x U O hf;obtain ⟨hx,hl⟩:=xra O;obtain ⟨a,b,r,c,d,e,f,g,h,rfl⟩:=hV x hx;have q:=xKc xs id z t a b r c d e f g h;have J:idA (verA a b r c d e f g h)=a:=rfl;rw [J];cases hc:a==id with
   | true =>
    rw [hc] at q;exact xbH (xuk xLI (xLJ Tryz.prog _) rfl xHb xG9 xHa q) fun e1 s1 ⟨g1,g2⟩=>⟨g1,xbH g2 fun e2 s2 ⟨k1,T',k2⟩=>⟨k1,T',k2⟩⟩
   | false =>
    rw [hc] at q;exact xbH (xuk xLI (xLJ Tryz.prog _) rfl xHb xG9 xHa q) fun e1 s1 ⟨g1,g2⟩=>⟨g1,xbH g2 fun e2 s2 ⟨k1,T',k2⟩=>⟨k1,T',k2⟩⟩
 . intro e1 s1 hq;rw [xyA] at hq;unfold findA;cases hf:(xs.filter opV).find? (fun x=>idA x==id) with
   | some x =>
    rw [hf] at hq;obtain ⟨rfl,rfl⟩:=hq;have Q:exA ((some x).getD .top)=x:=xJY (hV x (List.mem_filter.1 (List.mem_of_find?_eq_some hf)).1);refine ⟨_,xjR (xIT xs id x true),rfl,?_⟩;simp only [LR.eval,Q,zk];rfl
   | none =>
    rw [hf] at hq;obtain ⟨rfl,rfl⟩:=hq;exact ⟨_,xjR (xIT xs id z t),rfl,rfl⟩
noncomputable abbrev xCU:Env:=xko.E.fn 67 5 (lsOf []) (xLV [])
theorem xJX:xLz Tryz.prog ⟨(xMf).inv,5,false⟩ xCU:=⟨fun g a r h=>xko.ok.1 g a r h,fun g a H r H' h=>xko.ok.2 g a H r H' h⟩
noncomputable abbrev xCV (xs:List AV):List AV:=mkTs 67 [(6,.own 0 0 0 0),(7,.own 1 0 0 0),(8,.func 47 [.own 0 0 0 0,.own 1 0 0 0]),(9,.own 2 0 0 0),(24,.func 67 [.eptr 1 [.list 9 xs] 0 0])]
def xu7 (nx bs:List AV) (m:Nat) (s:Nat×List AV):List Box:=[⟨0,1,26,[.list 3 nx],false,true⟩,⟨0,1,75,[.osl 3 0 0 m],false,false⟩,⟨0,1,22,[.osl 4 s.1 0 s.2.length],false,false⟩,⟨0,1,4,bs,false,true⟩,⟨s.1,9,58,s.2,false,true⟩]
theorem xKe (xs nx bs ys:List AV) (m v n:Nat) (a b:Int) (r:List AV) (c d e f g h:Int):XB Tryz.prog xCU (rgA (rgOf Tryz.f18)) (rgB (rgOf Tryz.f18)) ((xCV xs).set 25 (verA a b r c d e f g h)) [⟨0,1,26,[.list 3 nx],false,true⟩,⟨0,1,75,[.osl 3 0 0 m],false,false⟩,⟨0,1,22,[.osl 4 v 0 n],false,false⟩,⟨0,1,4,bs,false,true⟩,⟨v,9,58,ys,false,true⟩] =
 br (v==v&&(n==ys.length&&(decide ((n+1)*88<=140737488355328)&&decide (n+1<=4611686018427387904)))) (some (.normal,[⟨0,1,26,[.list 3 nx],false,true⟩,⟨0,1,75,[.osl 3 0 0 m],false,false⟩,⟨0,1,22,[.osl 4 (v+1) 0 (n+1)],false,false⟩,⟨0,1,4,bs,false,true⟩,⟨v+1,9,58,ys++[verA a b r c d e f g h],false,true⟩])) none:=by kernel_rfl
theorem xJV:LoOk Tryz.prog ⟨(xMf).inv,5,false⟩ xCU (rgA (rgOf Tryz.f18)):=xfp (by kernel_rfl)
theorem xJW:LoOk Tryz.prog ⟨(xMf).inv,5,false⟩ xCU (rgB (rgOf Tryz.f18)):=xfp (by kernel_rfl)
theorem xHq:rgOf Tryz.f18=.rangeFunc (.tmp 24) #[25] (rgA (rgOf Tryz.f18)) (rgB (rgOf Tryz.f18)):=by kernel_rfl
theorem xKd (xs nx bs:List AV) (m:Nat) (s:Nat×List AV):normS 0 [] [6,7,8,9] ⟨xCV xs,xu7 nx bs m s⟩=some ([.own 0 0 0 0,.own 1 0 0 0,.func 47 [.own 0 0 0 0,.own 1 0 0 0],.own 2 0 0 0],xu7 nx bs m (0,s.2)):=by
 obtain ⟨v,ys⟩:=s;have hb:Nat.beq v v=true:=Nat.beq_refl v;simp [normS,normH,normF,convs,xL8,xMe,renOk,xL0,rens,ren,renI,gather,refsOf,refsOf.refsL,xLU,xCV,xu7,mkTs,liveOf,pinsOk,nodupB,hb,id0,id1,id2,id3,id4,Id.base,Nat.beq,Nat.blt,Nat.ble]
noncomputable def xek:Lp:=lpOf [6,7,8,9,24] [6,7,8,9] [(9,9,58)] (xMg (xMt 0 0 0 0) (xMg (xMt 1 0 0 0) (xMg (xLW 47 (xMg (xMt 0 0 0 0) (xMg (xMt 1 0 0 0) xMi))) (xMg (xMt 2 0 0 0) (xMg (xLW 67 (xMg (xMA 1 0 0 (xMg (xMz 9 xMk) xMi)) xMi)) xMi)))))
  (xMg (xMv 0 1 26 false true (xMg (xMz 3 xMk) xMi)) (xMg (xMv 0 1 75 false false (xMg (xMs 3 0 0) xMi)) (xMg (xMv 0 1 22 false false (xMg (xMs 4 0 0) xMi)) (xMg (xMv 0 1 4 false true xMk) (xMg (xMv 0 9 58 false true xMk) xMi)))))
 fun (_,(_,(_,(_,(((xs,_),_),_))))) ((nx,_),((m,_),((n,_),(bs,(ys,_)))))=>(Nat.beq n ys.length&&rfOk 88 xs ys,
  .leaf .normal [.own 0 0 0 0,.own 1 0 0 0,.func 47 [.own 0 0 0 0,.own 1 0 0 0],.own 2 0 0 0] (xu7 nx bs m (0,ys++xs.filter opV)))
theorem xqz:PieceOk Tryz.prog (xMf.at 0) 67 (rgOf Tryz.f18) xek:=xAF fun vv bb rr hh=>by
 obtain ⟨_,_,_,_,⟨⟨xs,_⟩,_⟩,_⟩:=vv;obtain ⟨⟨nx,_⟩,⟨m,_⟩,⟨n,_⟩,bs,ys,_⟩:=bb;obtain ⟨h1,rfl⟩:=Prod.mk.inj hh;simp only [rfOk,zf,zl] at h1;obtain ⟨hn,hv,hb⟩:=h1;obtain rfl:=zg hn;have hV:∀ x,x∈xs->IsV x:=fun x hx=>xAk (zI.1 hv x hx)
 rw [xHq];refine xvF (xbH (xt8 (Inv:=xMf.at 0) (xLJ Tryz.prog _) rfl (xs:=xs) (op:=opV) (T:=xCV xs) (n:=5) (σ:=Nat×List AV) (ρ:=Unit) (xu7 nx bs m) (fun _=>[]) (fun s x=>.inl (s.1+1,s.2++[id x])) (fun _=>rfl) (s0:=(0,ys)) (xrS xs hV (by omega)) rfl rfl ?_) ?_)
 . intro pre s x Q J hf;obtain ⟨hx,hl⟩:=xra J;rw [xq2] at hf;simp only [Sum.inl.injEq] at hf;obtain ⟨a,b,r,c,d,e,f,g,h,rfl⟩:=hV x hx;have O:s.2.length=ys.length+pre.length:=by rw [<-hf];simp
   have hc:(s.1==s.1&&(s.2.length==s.2.length&&(decide ((s.2.length+1)*88<=140737488355328)&&decide (s.2.length+1<=4611686018427387904))))=true:=by
    simp only [beq_self_eq_true,Bool.true_and,zf,zl];omega
   have q:=xKe xs nx bs s.2 m s.1 s.2.length a b r c d e f g h;rw [hc] at q;refine xbH (xuk xLI (xLJ Tryz.prog _) rfl xJX xJV xJW q) fun e1 s1 ⟨g1,g2⟩=>⟨g1,xbH g2 fun e2 s2 ⟨k1,T',k2⟩=>⟨k1,T',?_⟩⟩
   have:xu7 nx bs m (s.1+1,s.2++[id (verA a b r c d e f g h)])=[⟨0,1,26,[.list 3 nx],false,true⟩,⟨0,1,75,[.osl 3 0 0 m],false,false⟩,⟨0,1,22,[.osl 4 (s.1+1) 0 (s.2.length+1)],false,false⟩,⟨0,1,4,bs,false,true⟩,⟨s.1+1,9,58,s.2++[verA a b r c d e f g h],false,true⟩]:=by
    simp [xu7]
   rw [this];exact k2
 . intro e1 s1 hq;rw [xq2] at hq;obtain ⟨rfl,rfl⟩:=hq;refine ⟨_,xjR (xKd xs nx bs m _),rfl,?_⟩;simp [LR.eval];rfl
end Go.Sim.M
namespace Go.Sim.M
open Go.IntKind (i64 u64 u8)
open Go.RowKit Go.Proofs
def xgN:Env:=xko.E.fn 18 0 (lsOf []) (xLV [(3000004,xiP)])
theorem xuy:xLz P0 (xMf.at 0) xgN:=xko.ok.fn
theorem xto:LoOk P0 (xMf.at xgN.pin) xgN (Tryz.f12.body.getD .skip):=xqO (ls:=[]) (by kernel_rfl) (fun l a=>by simp at a) (lp0:=xiP) xrC (by kernel_rfl)
def xoW (l:LA):=xbm (List.take ([]++List.map factA (List.filter opV (xaP l))).length (List.drop 0 ([]++List.map factA (List.filter opV (xaP l)))))
def xmb {T:Type} (l:LA) (δ:T) (κ:LA->T):T:=br (rfOk 40 (xaP l) []) (br (decide (0+([]++List.map factA (List.filter opV (xaP l))).length<=([]++List.map factA (List.filter opV (xaP l))).length)&&true) (br ((xoW l).isSome) (κ ((xoW l).getD [])) δ) δ) δ
def xeK (l:LA):=xmb l none some
theorem xzk (l:LA):Enc (fun (p:LA)=>((AV.list 3 p):AV)) (xeK l) (XF P0 xgN Tryz.f12 (Tryz.f12.body.getD .skip) [AV.list 9 l]):=by
 have h:XF P0 xgN Tryz.f12 (Tryz.f12.body.getD .skip) [AV.list 9 l]=xmb l none (fun (p:LA)=>some ((AV.list 3 p):AV)):=by kernel_rfl
 rw [h];unfold xeK xmb;repeat' (first|refine Enc.br ?_ ?_|exact Enc.none|exact Enc.some rfl)
def xzj:LA->Option (Bool×AV):=ocOf (xMh (xMw 9 xMk) xMj) fun (l,_)=>((xeK l).isSome,(AV.list 3 ((xeK l).getD [])))
theorem xzi:OcOk P0 xMf 12 (xzj):=xhm fun c f e=>by
 obtain ⟨l,_⟩:=c;obtain ⟨a,b⟩:=Prod.mk.inj e;refine xfj (p:=xgN.pin) (xhj xLI (xLJ P0 _) rfl xuy Tryz.func12 rfl (by kernel_rfl) xto ((xzk _ _ (xbF (d:=[]) a)).trans ?_))
 exact congrArg some b
def xzI:EO:=xko.w xzi
def xgb:Env:=xzI.E.fn 16 0 (lsOf []) (xLV [(3000003,xj0)])
theorem xqW:xLz P0 (xMf.at 0) xgb:=xzI.ok.fn
theorem xpE:LoOk P0 (xMf.at xgb.pin) xgb (Tryz.f78.body.getD .skip):=xqO (ls:=[]) (by kernel_rfl) (fun l a=>by simp at a) (lp0:=xj0) xsj (by kernel_rfl)
def xnE {T:Type} (l:LA) (a:Int) (δ:T) (κ:Bool×(Int×Int×LA×Int×Int×Int×Int×Int×Int×Bool)×(Int×Int×Int×Int×Int×Int×Int×Int×Bool)->T):T:=br ((xaP l).all isVb&&decide ((xaP l).length<4611686018427387904)) (br ((findA a (xaP l)).isSome) (κ (true,((((findA a (xaP l)).getD .top).cells.getD 0 .top).toInt,(((findA a (xaP l)).getD .top).cells.getD 1 .top).toInt,(((findA a (xaP l)).getD .top).cells.getD 2 .top).toList,(((findA a (xaP l)).getD .top).cells.getD 3 .top).toInt,(((findA a (xaP l)).getD .top).cells.getD 4 .top).toInt,(((findA a (xaP l)).getD .top).cells.getD 5 .top).toInt,(((findA a (xaP l)).getD .top).cells.getD 6 .top).toInt,(((findA a (xaP l)).getD .top).cells.getD 7 .top).toInt,(((findA a (xaP l)).getD .top).cells.getD 8 .top).toInt,true),(0,0,0,0,0,0,0,0,false))) (κ (false,(0,0,[],0,0,0,0,0,0,false),(0,0,0,0,0,0,0,0,false)))) δ
def xaY (l:LA) (a:Int):=xnE l a none some
theorem xtM (l:LA) (a:Int):Enc (fun (p:Bool×(Int×Int×LA×Int×Int×Int×Int×Int×Int×Bool)×(Int×Int×Int×Int×Int×Int×Int×Int×Bool))=>((br p.1 (AV.tuple [AV.agg [AV.int .i64 p.2.1.1,AV.int .i64 p.2.1.2.1,AV.list 3 p.2.1.2.2.1,AV.int .i64 p.2.1.2.2.2.1,AV.int .i64 p.2.1.2.2.2.2.1,AV.int .i64 p.2.1.2.2.2.2.2.1,AV.int .i64 p.2.1.2.2.2.2.2.2.1,AV.int .i64 p.2.1.2.2.2.2.2.2.2.1,AV.int .i64 p.2.1.2.2.2.2.2.2.2.2.1],AV.bool p.2.1.2.2.2.2.2.2.2.2.2]) (AV.tuple [AV.agg [AV.int .i64 p.2.2.1,AV.int .i64 p.2.2.2.1,AV.nils,AV.int .i64 p.2.2.2.2.1,AV.int .i64 p.2.2.2.2.2.1,AV.int .i64 p.2.2.2.2.2.2.1,AV.int .i64 p.2.2.2.2.2.2.2.1,AV.int .i64 p.2.2.2.2.2.2.2.2.1,AV.int .i64 p.2.2.2.2.2.2.2.2.2.1],AV.bool p.2.2.2.2.2.2.2.2.2.2])):AV)) (xaY l a) (XF P0 xgb Tryz.f78 (Tryz.f78.body.getD .skip) [AV.list 9 l,AV.int .i64 a]):=by
 have h:XF P0 xgb Tryz.f78 (Tryz.f78.body.getD .skip) [AV.list 9 l,AV.int .i64 a]=xnE l a none (fun (p:Bool×(Int×Int×LA×Int×Int×Int×Int×Int×Int×Bool)×(Int×Int×Int×Int×Int×Int×Int×Int×Bool))=>some ((br p.1 (AV.tuple [AV.agg [AV.int .i64 p.2.1.1,AV.int .i64 p.2.1.2.1,AV.list 3 p.2.1.2.2.1,AV.int .i64 p.2.1.2.2.2.1,AV.int .i64 p.2.1.2.2.2.2.1,AV.int .i64 p.2.1.2.2.2.2.2.1,AV.int .i64 p.2.1.2.2.2.2.2.2.1,AV.int .i64 p.2.1.2.2.2.2.2.2.2.1,AV.int .i64 p.2.1.2.2.2.2.2.2.2.2.1],AV.bool p.2.1.2.2.2.2.2.2.2.2.2]) (AV.tuple [AV.agg [AV.int .i64 p.2.2.1,AV.int .i64 p.2.2.2.1,AV.nils,AV.int .i64 p.2.2.2.2.1,AV.int .i64 p.2.2.2.2.2.1,AV.int .i64 p.2.2.2.2.2.2.1,AV.int .i64 p.2.2.2.2.2.2.2.1,AV.int .i64 p.2.2.2.2.2.2.2.2.1,AV.int .i64 p.2.2.2.2.2.2.2.2.2.1],AV.bool p.2.2.2.2.2.2.2.2.2.2])):AV)):=by kernel_rfl
 rw [h];unfold xaY xnE;repeat' (first|refine Enc.br ?_ ?_|exact Enc.none|exact Enc.some rfl)
def xz6:LA->Option (Bool×AV):=ocOf (xMh (xMw 9 xMk) (xMh (sEq (pInt .i64)) xMj)) fun (l,(a,_))=>((xaY l a).isSome,(br ((xaY l a).getD (false,(0,0,[],0,0,0,0,0,0,false),(0,0,0,0,0,0,0,0,false))).1 (AV.tuple [AV.agg [AV.int .i64 ((xaY l a).getD (false,(0,0,[],0,0,0,0,0,0,false),(0,0,0,0,0,0,0,0,false))).2.1.1,AV.int .i64 ((xaY l a).getD (false,(0,0,[],0,0,0,0,0,0,false),(0,0,0,0,0,0,0,0,false))).2.1.2.1,AV.list 3 ((xaY l a).getD (false,(0,0,[],0,0,0,0,0,0,false),(0,0,0,0,0,0,0,0,false))).2.1.2.2.1,AV.int .i64 ((xaY l a).getD (false,(0,0,[],0,0,0,0,0,0,false),(0,0,0,0,0,0,0,0,false))).2.1.2.2.2.1,AV.int .i64 ((xaY l a).getD (false,(0,0,[],0,0,0,0,0,0,false),(0,0,0,0,0,0,0,0,false))).2.1.2.2.2.2.1,AV.int .i64 ((xaY l a).getD (false,(0,0,[],0,0,0,0,0,0,false),(0,0,0,0,0,0,0,0,false))).2.1.2.2.2.2.2.1,AV.int .i64 ((xaY l a).getD (false,(0,0,[],0,0,0,0,0,0,false),(0,0,0,0,0,0,0,0,false))).2.1.2.2.2.2.2.2.1,AV.int .i64 ((xaY l a).getD (false,(0,0,[],0,0,0,0,0,0,false),(0,0,0,0,0,0,0,0,false))).2.1.2.2.2.2.2.2.2.1,AV.int .i64 ((xaY l a).getD (false,(0,0,[],0,0,0,0,0,0,false),(0,0,0,0,0,0,0,0,false))).2.1.2.2.2.2.2.2.2.2.1],AV.bool ((xaY l a).getD (false,(0,0,[],0,0,0,0,0,0,false),(0,0,0,0,0,0,0,0,false))).2.1.2.2.2.2.2.2.2.2.2]) (AV.tuple [AV.agg [AV.int .i64 ((xaY l a).getD (false,(0,0,[],0,0,0,0,0,0,false),(0,0,0,0,0,0,0,0,false))).2.2.1,AV.int .i64 ((xaY l a).getD (false,(0,0,[],0,0,0,0,0,0,false),(0,0,0,0,0,0,0,0,false))).2.2.2.1,AV.nils,AV.int .i64 ((xaY l a).getD (false,(0,0,[],0,0,0,0,0,0,false),(0,0,0,0,0,0,0,0,false))).2.2.2.2.1,AV.int .i64 ((xaY l a).getD (false,(0,0,[],0,0,0,0,0,0,false),(0,0,0,0,0,0,0,0,false))).2.2.2.2.2.1,AV.int .i64 ((xaY l a).getD (false,(0,0,[],0,0,0,0,0,0,false),(0,0,0,0,0,0,0,0,false))).2.2.2.2.2.2.1,AV.int .i64 ((xaY l a).getD (false,(0,0,[],0,0,0,0,0,0,false),(0,0,0,0,0,0,0,0,false))).2.2.2.2.2.2.2.1,AV.int .i64 ((xaY l a).getD (false,(0,0,[],0,0,0,0,0,0,false),(0,0,0,0,0,0,0,0,false))).2.2.2.2.2.2.2.2.1,AV.int .i64 ((xaY l a).getD (false,(0,0,[],0,0,0,0,0,0,false),(0,0,0,0,0,0,0,0,false))).2.2.2.2.2.2.2.2.2.1],AV.bool ((xaY l a).getD (false,(0,0,[],0,0,0,0,0,0,false),(0,0,0,0,0,0,0,0,false))).2.2.2.2.2.2.2.2.2.2])))
theorem xz5:OcOk P0 xMf 78 (xz6):=xhm fun c g e=>by
 obtain ⟨l,⟨f,_⟩⟩:=c;obtain ⟨a,b⟩:=Prod.mk.inj e;refine xfj (p:=xgb.pin) (xhj xLI (xLJ P0 _) rfl xqW Tryz.func78 rfl (by kernel_rfl) xpE ((xtM _ _ _ (xbF (d:=(false,(0,0,[],0,0,0,0,0,0,false),(0,0,0,0,0,0,0,0,false))) a)).trans ?_))
 exact congrArg some b
def xIA:EO:=xzI.w xz5
def xpr (d e:Int) (i:LA) (g h f b c a:Int):Bool:=(br (decide (d>=1)) (br (decide (c>=1)) (br (decide (e>=0)) (br (decide (a>=0)) (br (xbb g h) (br (xbb f b) (br (a==0) ((true)) (br (decide (a>c)) ((b != 1099511627776)) ((false)))) ((false))) ((false))) ((false))) ((false))) ((false))) ((false)))
def xzn {T:Type} (d e:Int) (i:LA) (g h f b c a:Int) (δ:T) (κ:Bool->T):T:=br (decide (d>=1)) (br (decide (c>=1)) (br (decide (e>=0)) (br (decide (a>=0)) (br (xbb g h) (br (xbb f b) (br (a==0) (κ (true)) (br (decide (a>c)) (κ (b != 1099511627776)) (κ (false)))) (κ (false))) (κ (false))) (κ (false))) (κ (false))) (κ (false))) (κ (false))
def xIB:EO:=xIA.fT Tryz.func40 49 0 [] [] lk0 (fun ((a,b,g,h,i,c,d,e,f,_),_)=>xzn a b g h i c d e f none) (u1 (xMy (xMh uI (xMh uI (u7 (uL 3) uI uI uI uI uI uI))))) (fun ((a,b,g,h,i,c,d,e,f,_),_)=>xpr a b g h i c d e f) (fun _ p=>(AV.bool p))
def xnD (a g:Int) (o:LA) (e p b h i j c k:Int) (q:LA) (f r d l m n:Int):Bool:=((decide (xlZ (xa3 a c) (xa3 b d) (xa3 e f)<0)))
def xw5 {T:Type} (a g:Int) (o:LA) (e p b h i j c k:Int) (q:LA) (f r d l m n:Int) (δ:T) (κ:Bool->T):T:=κ (decide (xlZ (xa3 a c) (xa3 b d) (xa3 e f)<0))
def xDx:EO:=xIB.fT Tryz.func41 27 0 [] [] lk0 (fun ((a,b,m,n,o,c,d,e,f,_),(g,h,q,r,s,i,j,k,l,_),_)=>xw5 a b m n o c d e f g h q r s i j k l none) (u2 (xMy (xMh uI (xMh uI (u7 (uL 3) uI uI uI uI uI uI)))) (xMy (xMh uI (xMh uI (u7 (uL 3) uI uI uI uI uI uI))))) (fun ((a,b,m,n,o,c,d,e,f,_),(g,h,q,r,s,i,j,k,l,_),_)=>xnD a b m n o c d e f g h q r s i j k l) (fun _ p=>(AV.bool p))
def xiN {T:Type} (b c:LA) (d a:Int) (δ:T) (κl:(Int)->T) (κr:(Bool×(Bool)×(Unit))->T):T:=br (decide (a<d)) (br (ixI b a) (br (ixT b a 3 [Sh.int .i64,Sh.int .i64,Sh.str] 0) (br (ixI c a) (br (ixT c a 3 [Sh.int .i64,Sh.int .i64,Sh.str] 0) (br (!((gC b a 0).toInt==(gC c a 0).toInt&&((gC b a 1).toInt==(gC c a 1).toInt&&((gC b a 2).toStr==(gC c a 2).toStr&&true)))) (κr (true,(false),())) (κl (i64.wrap (a+1)))) δ) δ) δ) δ) (κr (false,false,()))
def xcI (c d:LA) (a:Int):StT (Int) (Bool×(Bool)×(Unit)):=fun (b)=>xiN c d a b none inL inR
def xpZ:=xDx.l 26 0 [] [] Tryz.f74 0 lk0 [0,1,12,13] [4] [] (q4 (qL 3) (qL 3) qI qI) xMi (fun (c,d,a,b,_) _=>(xcI c d a,(b),fun p=>(.node p.1 (.leaf .ret [AV.bool p.2.1] []) (.leaf (.exit 0) [.top] [])))) (false,false,()) fun (c,d,a,_,_) _ (b)=>(((c,d,a,b,()),()),xiN c d a b none)
def xpl {T:Type} (a b:LA) (δ:T) (κ:Bool->T):T:=br ((↑a.length:Int) != (↑b.length:Int)) (κ (false)) (br ((Iter (xcI a b (↑a.length:Int)) 0).isSome) (br (((Iter (xcI a b (↑a.length:Int)) 0).getD (false,false,())).fst) (κ (((Iter (xcI a b (↑a.length:Int)) 0).getD (false,false,())).snd.fst)) (κ (true))) δ)
def xoq (a b:LA):=xpl a b none some
def xIC:EO:=xDx.f Tryz.func74 26 0 [] [(4,xpZ.lp)] (lk1 xpZ.ok) (u2 (uL 3) (uL 3)) (fun (a,b,_) _=>xpl a b) (fun _ p=>AV.bool p) false
def xoX {T:Type} (i c:Int) (a:LA) (o p j k d e l f:Int) (b:LA) (q r m n g h:Int) (δ:T) (κ:Bool->T):T:=br (c==f) (br (d==g) (br (e==h) (br ((xoq a b).isSome) (κ ((xoq a b).getD false)) δ) (κ (false))) (κ (false))) (κ (false))
def xqX (a b:Int) (m:LA) (n o c d e f g h:Int) (p:LA) (q r i j k l:Int):=xoX a b m n o c d e f g h p q r i j k l none some
def xID:EO:=xIC.f Tryz.func42 31 0 [] [] lk0 (u2 (xMy (xMh uI (xMh uI (u7 (uL 3) uI uI uI uI uI uI)))) (xMy (xMh uI (xMh uI (u7 (uL 3) uI uI uI uI uI uI))))) (fun ((a,b,n,o,q,c,d,e,g,_),(h,i,r,s,t,j,k,l,m,_),_) _=>xoX a b n o q c d e g h i r s t j k l m) (fun _ p=>AV.bool p) false
def xhC (a b c d:Int):Bool:=(br (xbb a b) (br (xbb c d) (br (decide (a<d)) ((decide (c<b))) ((false))) ((false))) ((false)))
def xuA {T:Type} (a b c d:Int) (δ:T) (κ:Bool->T):T:=br (xbb a b) (br (xbb c d) (br (decide (a<d)) (κ (decide (c<b))) (κ (false))) (κ (false))) (κ (false))
def xvM:EO:=xID.fT Tryz.func43 25 0 [] [] lk0 (fun ((a,b,_),(c,d,_),_)=>xuA a b c d none) (u2 (xMy (u2 uI uI)) (xMy (u2 uI uI))) (fun ((a,b,_),(c,d,_),_)=>xhC a b c d) (fun _ p=>(AV.bool p))
def xaO (l:LA) (a:Int):=(l.getD (i64.wrap (a - 1)).toNat .top).cells
def xiq (l b:LA) (a:Int):=xqX ((xaO l a).getD 0 .top).toInt ((xaO l a).getD 1 .top).toInt ((xaO l a).getD 2 .top).toList ((xaO l a).getD 3 .top).toInt ((xaO l a).getD 4 .top).toInt ((xaO l a).getD 5 .top).toInt ((xaO l a).getD 6 .top).toInt ((xaO l a).getD 7 .top).toInt ((xaO l a).getD 8 .top).toInt (gC b a 0).toInt (gC b a 1).toInt (gC b a 2).toList (gC b a 3).toInt (gC b a 4).toInt (gC b a 5).toInt (gC b a 6).toInt (gC b a 7).toInt (gC b a 8).toInt
def xgR {T:Type} (l b:LA) (c a:Int) (δ:T) (κl:(Int)->T) (κr:(Bool×(Int)×(Unit))->T):T:=br (decide (a<c)) (br (ixI b a) (br (ixT b a 9 [Sh.int .i64,Sh.int .i64,Sh.list 3,Sh.int .i64,Sh.int .i64,Sh.int .i64,Sh.int .i64,Sh.int .i64,Sh.int .i64] 0) (br (!xpr (gC b a 0).toInt (gC b a 1).toInt (gC b a 2).toList (gC b a 3).toInt (gC b a 4).toInt (gC b a 5).toInt (gC b a 6).toInt (gC b a 7).toInt (gC b a 8).toInt) (κr (true,(8),())) (br (a==0) (κl (i64.wrap (a+1))) (br (decide (0<=i64.wrap (a - 1))&&decide (i64.wrap (a - 1)<(↑l.length:Int))) (br (decide ((i64.wrap (a - 1)).toNat<l.length)&&((xaO l a).length==9&&xLE [Sh.int .i64,Sh.int .i64,Sh.list 3,Sh.int .i64,Sh.int .i64,Sh.int .i64,Sh.int .i64,Sh.int .i64,Sh.int .i64] (xaO l a) 0)) (br (!xnD ((xaO l a).getD 0 .top).toInt ((xaO l a).getD 1 .top).toInt ((xaO l a).getD 2 .top).toList ((xaO l a).getD 3 .top).toInt ((xaO l a).getD 4 .top).toInt ((xaO l a).getD 5 .top).toInt ((xaO l a).getD 6 .top).toInt ((xaO l a).getD 7 .top).toInt ((xaO l a).getD 8 .top).toInt (gC b a 0).toInt (gC b a 1).toInt (gC b a 2).toList (gC b a 3).toInt (gC b a 4).toInt (gC b a 5).toInt (gC b a 6).toInt (gC b a 7).toInt (gC b a 8).toInt) (κr (true,(9),())) (br (decide (((xaO l a).getD 7 .top).toInt>(gC b a 7).toInt)) (κr (true,(24),())) (br (((xaO l a).getD 0 .top).toInt==(gC b a 0).toInt) (br ((xiq l b a).isSome) (br (!(xiq l b a).getD false) (κr (true,(24),())) (κl (i64.wrap (a+1)))) δ) (κl (i64.wrap (a+1)))))) δ) δ))) δ) δ) (κr (false,0,()))
def xbK (l a:LA) (b:Int):StT (Int) (Bool×(Int)×(Unit)):=fun (c)=>xgR l a b c none inL inR
def xip:=xvM.l 85 0 [] [] Tryz.f14 0 lk0 [0,10,11,12] [0,2] [] (q4 (qL 9) (qL 9) qI qI) xMi (fun (l,a,b,c,_) _=>(xbK l a b,(c),fun p=>(.node p.1 (.leaf .ret [AV.list 9 l,AV.int .i64 p.2.1] []) (.leaf (.exit 0) [AV.list 9 l,.top] [])))) (false,0,()) fun (l,a,b,_,_) _ (c)=>(((l,a,b,c,()),()),xgR l a b c none)
def xjI {T:Type} (l n:LA) (o p:Int) (b:LA) (m a c h:Int) (i:LA) (d e f g j k:Int) (δ:T) (κl:(Int×Int×Int×LA×Int×Int×Int×Int×Int×Int)->T) (κr:(Bool×(Unit)×(Int))->T):T:=br (decide (a<m)) (br (ixI b a) (br (ixT b a 9 [Sh.int .i64,Sh.int .i64,Sh.list 3,Sh.int .i64,Sh.int .i64,Sh.int .i64,Sh.int .i64,Sh.int .i64,Sh.int .i64] 0) (br ((gC b a 0).toInt != c) (κr (true,(),0)) (br (xhC d e (gC b a 3).toInt (gC b a 4).toInt) (br (xhC f g (gC b a 5).toInt (gC b a 6).toInt) (κr (false,(),(24))) (κl (i64.wrap (a+1),c,h,i,d,e,f,g,j,k))) (κl (i64.wrap (a+1),c,h,i,d,e,f,g,j,k)))) δ) δ) (κr (true,(),0))
def xd2 (l a:LA) (b c:Int) (d:LA) (e:Int):StT (Int×Int×Int×LA×Int×Int×Int×Int×Int×Int) (Bool×(Unit)×(Int)):=fun (f,g,h,i,j,k,m,n,o,p)=>xjI l a b c d e f g h i j k m n o p none inL inR
def xis:=xvM.l 85 0 [] [(2,xip.lp)] Tryz.f14 2 lk0 [0,7,50,51,52,60,61,62] [0,2,50,51,52] [] (q8 (qL 9) (xMt 0 0 0 0) (qL 9) qI qI (qL 9) qI qI) (q1 (qB 0 9 58 (q1 (xMu (q9 qI qI (qL 3) qI qI qI qI qI qI))))) (fun (l,_,a,b,c,d,e,f,_) (((g,h,i,j,k,m,n,o,q,_),_),_)=>(xd2 l a b c d e,(f,g,h,i,j,k,m,n,o,q),fun p=>(.node p.1 (.leaf (.exit 4) [AV.list 9 l,.top,AV.list 9 a,AV.int .i64 b,AV.int .i64 c] []) (.leaf .ret [AV.list 9 l,AV.int .i64 p.2.2,AV.list 9 a,AV.int .i64 b,AV.int .i64 c] [])))) (false,(),0) fun (l,_,a,b,c,d,e,_,_) _ (f,g,h,i,j,k,m,n,o,q)=>(((l,(),a,b,c,d,e,f,()),(((g,h,i,j,k,m,n,o,q,()),()),())),xjI l a b c d e f g h i j k m n o q none)
def xir (l:LA) (a:Int):=List.take (l.length - (i64.wrap (a+1)).toNat) (List.drop (i64.wrap (a+1)).toNat l)
def xlQ (l b:LA) (c a:Int):=Iter (xd2 l b c a (xir l a) (↑(xir l a).length:Int)) (0,(gC b a 0).toInt,(gC b a 1).toInt,(gC b a 2).toList,(gC b a 3).toInt,(gC b a 4).toInt,(gC b a 5).toInt,(gC b a 6).toInt,(gC b a 7).toInt,(gC b a 8).toInt)
def xlP (l a:LA) (b c:Int):=(xlQ l a b c).getD (false,(),0)
def xjH {T:Type} (l b:LA) (c a:Int) (δ:T) (κl:(Int)->T) (κr:(Bool×(Int)×(Unit))->T):T:=br (decide (a<c)) (br (ixI b a) (br (ixT b a 9 [Sh.int .i64,Sh.int .i64,Sh.list 3,Sh.int .i64,Sh.int .i64,Sh.int .i64,Sh.int .i64,Sh.int .i64,Sh.int .i64] 0) (br (decide (0<=i64.wrap (a+1))&&decide (i64.wrap (a+1)<=(↑l.length:Int))) (br ((xlQ l b c a).isSome) (br ((xlP l b c a).fst) (κl (i64.wrap (a+1))) (κr (true,((xlP l b c a).snd.snd),()))) δ) δ) δ) δ) (κr (false,0,()))
def xcg (l a:LA) (b:Int):StT (Int) (Bool×(Int)×(Unit)):=fun (c)=>xjH l a b c none inL inR
def xqA:=xvM.l 85 0 [] [(2,xip.lp),(17,xis.lp)] Tryz.f14 1 (lk1 xis.ok) [0,50,51,52] [2] [] (q4 (qL 9) (qL 9) qI qI) xMi (fun (l,a,b,c,_) _=>(xcg l a b,(c),fun p=>(.node p.1 (.leaf .ret [AV.int .i64 p.2.1] []) (.leaf (.exit 2) [.top] [])))) (false,0,()) fun (l,a,b,_,_) _ (c)=>(((l,a,b,c,()),()),xjH l a b c none)
def xp1 {T:Type} (l:LA) (δ:T) (κ:Int->T):T:=br ((Iter (xbK l l (↑l.length:Int)) 0).isSome) (br (((Iter (xbK l l (↑l.length:Int)) 0).getD (false,0,())).fst) (κ (((Iter (xbK l l (↑l.length:Int)) 0).getD (false,0,())).snd.fst)) (br ((Iter (xcg l l (↑l.length:Int)) 0).isSome) (br (((Iter (xcg l l (↑l.length:Int)) 0).getD (false,0,())).fst) (κ (((Iter (xcg l l (↑l.length:Int)) 0).getD (false,0,())).snd.fst)) (κ (0))) δ)) δ
def xl1 (l:LA):=xp1 l none some
def xD0:EO:=xvM.f Tryz.func14 85 0 [] [(2,xip.lp),(17,xis.lp),(14,xqA.lp)] (lks (lkC xip.ok (lkC xqA.ok (lkC xis.ok lkN)))) (u1 (uL 9)) (fun (l,_) _=>xp1 l) (fun _ p=>AV.int .i64 p) 0
def xel (b:LA) (a:Int):Nat:=0+(gC b a 2).toList.length
def xjJ (b:LA) (a:Int):=decide (0+xel b a<=([]++(gC b a 2).toList).length)&&true
def xjK (b:LA) (a:Int):=decide (xel b a*32<=140737488355328)&&decide (xel b a<=4611686018427387904)
def xkq {T:Type} (e:Int) (b:LA) (f:Int) (d:Nat) (a:Int) (c:LA) (δ:T) (κl:(Nat×Int×LA)->T) (κr:(Nat×LA)->T):T:=br (decide (a<f)) (br (ixI b a) (br (ixT b a 9 [Sh.int .i64,Sh.int .i64,Sh.list 3,Sh.int .i64,Sh.int .i64,Sh.int .i64,Sh.int .i64,Sh.int .i64,Sh.int .i64] 0) (br (decide ((gC b a 7).toInt>=e)) (κl (d,i64.wrap (a+1),c)) (br (decide ((gC b a 8).toInt>=e)) (br (xjK b a) (br (xjJ b a) (br (rmB d c 1 88) (κl (d+1,i64.wrap (a+1),c++[AV.agg [AV.int .i64 (gC b a 0).toInt,AV.int .i64 (gC b a 1).toInt,AV.list 3 (List.take (xel b a) (List.drop 0 ([]++(gC b a 2).toList))),AV.int .i64 (gC b a 3).toInt,AV.int .i64 (gC b a 4).toInt,AV.int .i64 (gC b a 5).toInt,AV.int .i64 1099511627776,AV.int .i64 (gC b a 7).toInt,AV.int .i64 0]])) δ) δ) δ) (br (xjK b a) (br (xjJ b a) (br (rmB d c 1 88) (κl (d+1,i64.wrap (a+1),c++[AV.agg [AV.int .i64 (gC b a 0).toInt,AV.int .i64 (gC b a 1).toInt,AV.list 3 (List.take (xel b a) (List.drop 0 ([]++(gC b a 2).toList))),AV.int .i64 (gC b a 3).toInt,AV.int .i64 (gC b a 4).toInt,AV.int .i64 (gC b a 5).toInt,AV.int .i64 (gC b a 6).toInt,AV.int .i64 (gC b a 7).toInt,AV.int .i64 (gC b a 8).toInt]])) δ) δ) δ))) δ) δ) (κr (d,c))
def xew (d:Int) (e:LA) (f:Int):StT (Nat×Int×LA) (Nat×LA):=fun (b,c,a)=>xkq d e f b c a none inL inR
def xqU:=xD0.l 36 0 [4000054] [] Tryz.f26 0 lk0 [1,5,8,9,10] [5] [(5,9,58)] (q5 qI (xMs 0 0 0) (qL 9) qI qI) (q1 (qB 0 9 58 xMk)) (fun (d,b,e,f,c,_) (a,_)=>(xew d e f,(b,c,a),fun p=>(.leaf (.exit 0) [AV.osl 0 0 0 p.1] [bF 0 9 58 p.2]))) (0,[]) fun (d,_,e,f,_,_) _ (b,c,a)=>(((d,b,e,f,c,()),(a,())),xkq d e f b c a none)
def xp4 (l:LA) (a:Int):=(Iter (xew a l (↑l.length:Int)) (0,0,[])).getD (0,[])
def xp2 (l:LA) (a:Int):=(xp4 l a).fst
def xp3 (l:LA) (a:Int):=(xp4 l a).snd
def xqV {T:Type} (l:LA) (a:Int) (δ:T) (κ:LA->T):T:=br ((Iter (xew a l (↑l.length:Int)) (0,0,[])).isSome) (br (decide (0+xp2 l a<=(xp3 l a).length)&&true) (κ (List.take (xp2 l a) (List.drop 0 (xp3 l a)))) δ) δ
def xsD (l:LA) (a:Int):=xqV l a none some
def xHk:EO:=xD0.f Tryz.func26 36 0 [4000054] [(3,xqU.lp)] (lk1 xqU.ok) (u2 (uL 9) uI) (fun (l,a,_) _=>xqV l a) (fun _ p=>AV.list 9 p) []
def xqw {T:Type} (a b:LA) (δ:T) (κ:Bool->T):T:=br ((xhq a b).isSome) (κ ((xhq a b).getD 0==0)) δ
def xpC (a b:LA):=xqw a b none some
def xD1:EO:=xHk.f Tryz.func48 9 0 [] [] lk0 (u2 (uL 3) (uL 3)) (fun (a,b,_) _=>xqw a b) (fun _ p=>AV.bool p) false
def xmP (b:Int) (a:LA):=decide (0+b.toNat<a.length)
def xkr {T:Type} (h:LA) (o b:Int) (d:LA) (c:Nat) (a:LA) (i j:Int) (e:LA) (f g k l m n:Int) (δ:T) (κl:(Int×LA×Nat×LA×Int×Int×LA×Int×Int×Int×Int×Int×Int)->T) (κr:(Bool×(Bool×LA×Nat×LA)×(LA×Nat×LA))->T):T:=br (decide (b<o)) (br (ixI h b) (br (ixT h b 3 [Sh.list 3,Sh.int .i64,Sh.int .i64] 0) (br (decide (0<=b)&&decide (b<(↑c:Int))) (br (xmP b a&&xLw Sh.bool ((a.getD (0+b.toNat) .top).cells.getD 0 .top)) (br (!((a.getD (0+b.toNat) .top).cells.getD 0 .top).toBool) (br ((gC h b 1).toInt==f&&((gC h b 2).toInt==g&&true)) (br ((xpC (gC h b 0).toList e).isSome) (br ((xpC (gC h b 0).toList e).getD false) (br (decide (0<=b)&&decide (b<(↑c:Int))) (br (xmP b a) (κr (true,(true,d,c,a.set (0+b.toNat) (AV.bool true)),([],0,[]))) δ) δ) (κl (i64.wrap (b+1),d,c,a,i,j,e,f,g,k,l,m,n))) δ) (κl (i64.wrap (b+1),d,c,a,i,j,e,f,g,k,l,m,n))) (κl (i64.wrap (b+1),d,c,a,i,j,e,f,g,k,l,m,n))) δ) δ) δ) δ) (κr (false,(false,[],0,[]),(d,c,a)))
def xfH (m:LA) (n:Int):StT (Int×LA×Nat×LA×Int×Int×LA×Int×Int×Int×Int×Int×Int) (Bool×(Bool×LA×Nat×LA)×(LA×Nat×LA)):=fun (o,b,c,a,d,e,f,g,h,i,j,k,l)=>xkr m n o b c a d e f g h i j k l none inL inR
def xqY:=xD1.l 37 3 [] [] Tryz.f47 0 lk0 [2,3,7,8,9] [4] [] (q5 (xMt 1 0 0 0) (xMt 3 0 0 0) (qL 3) qI qI) (q4 (qB 0 1 26 (q1 (qL 3))) (xMv 0 1 75 false false (q1 (xMs 2 0 0))) (qB 0 1 4 xMk) (qB 0 9 58 (q1 (xMu (q9 qI qI (qL 3) qI qI qI qI qI qI))))) (fun (_,_,n,o,q,_) ((b,_),(c,_),a,((d,e,f,g,h,i,j,k,m,_),_),_)=>(xfH n o,(q,b,c,a,d,e,f,g,h,i,j,k,m),fun p=>(.node p.1 (.leaf .ret [AV.bool p.2.1.1] [bF 0 1 26 [AV.list 3 p.2.1.2.1],⟨0,1,75,[AV.osl 2 0 0 p.2.1.2.2.1],false,false⟩,bF 0 1 4 p.2.1.2.2.2]) (.leaf (.exit 0) [.top] [bF 0 1 26 [AV.list 3 p.2.2.1],⟨0,1,75,[AV.osl 2 0 0 p.2.2.2.1],false,false⟩,bF 0 1 4 p.2.2.2.2])))) (false,(false,[],0,[]),([],0,[])) fun (_,_,n,o,_,_) _ (q,b,c,a,d,e,f,g,h,i,j,k,m)=>((((),(),n,o,q,()),((b,()),(c,()),a,((d,e,f,g,h,i,j,k,m,()),()),())),xkr n o q b c a d e f g h i j k m none)
def xqc (id c:Int) (r:LA) (f t d e b g:Int) (a:LA) (n:Nat) (h:LA):=Iter (xfH a (↑a.length:Int)) (0,a,n,h,id,c,r,f,t,d,e,b,g)
def xqb (id b:Int) (r:LA) (f t c d a e:Int) (g:LA) (n:Nat) (h:LA):=(xqc id b r f t c d a e g n h).getD (false,(false,[],0,[]),[],0,[])
def xqa (id b:Int) (r:LA) (f t c d a e:Int) (g:LA) (n:Nat) (h:LA):=(xqb id b r f t c d a e g n h).snd
def xp8 (id b:Int) (r:LA) (f t c d a e:Int) (g:LA) (n:Nat) (h:LA):=(xqa id b r f t c d a e g n h).snd
def xp9 (id b:Int) (r:LA) (f t c d a e:Int) (g:LA) (n:Nat) (h:LA):=(xqa id b r f t c d a e g n h).fst
def xp6 (id b:Int) (r:LA) (f t c d a e:Int) (g:LA) (n:Nat) (h:LA):=(xp9 id b r f t c d a e g n h).snd
def xp7 (id b:Int) (r:LA) (f t c d a e:Int) (g:LA) (n:Nat) (h:LA):=(xp8 id b r f t c d a e g n h).snd
def xp5 (id b:Int) (r:LA) (f t c d a e:Int) (g:LA) (n:Nat) (h:LA):=(xp6 id b r f t c d a e g n h).snd
def xqZ {T:Type} (id b:Int) (r:LA) (f t c d a e:Int) (g:LA) (n:Nat) (h:LA) (δ:T) (κ:Bool×LA×Nat×LA->T):T:=br ((xqc id b r f t c d a e g n h).isSome) (br ((xqb id b r f t c d a e g n h).fst) (κ ((xp9 id b r f t c d a e g n h).fst,(xp6 id b r f t c d a e g n h).fst,(xp5 id b r f t c d a e g n h).fst,(xp5 id b r f t c d a e g n h).snd)) (κ (false,(xp8 id b r f t c d a e g n h).fst,(xp7 id b r f t c d a e g n h).fst,(xp7 id b r f t c d a e g n h).snd))) δ
def xsE (id b:Int) (r:LA) (f t c d a e:Int) (g:LA) (n:Nat) (h:LA):=xqZ id b r f t c d a e g n h none some
def xIE:EO:=xD1.fM Tryz.func47 37 3 [] [(2,xqY.lp)] (lk1 xqY.ok) (u3 (xMy (xMh uI (xMh uI (u7 (uL 3) uI uI uI uI uI uI)))) (sEq (xMt 0 0 0 0)) (sEq (xMt 1 0 0 0))) (q3 (qB 0 1 26 (q1 (qL 3))) (xMv 0 1 75 false false (q1 (xMs 2 0 0))) (qB 0 1 4 xMk)) (fun ((id,b,r,f,t,c,d,a,e,_),_,_,_) ((g,_),(n,_),h,_) _=>xqZ id b r f t c d a e g n h) (fun _ _ p=>(AV.bool p.1,([bF 0 1 26 [AV.list 3 p.2.1],⟨0,1,75,[AV.osl 2 0 0 p.2.2.1],false,false⟩,bF 0 1 4 p.2.2.2]:List Box))) (false,[],0,[])
def xtL (a c:Int) (m:LA) (n o d e f g b h:Int) (p:LA) (q r i j k l:Int):Int:=((xa3 a b))
def xBn {T:Type} (a c:Int) (m:LA) (n o d e f g b h:Int) (p:LA) (q r i j k l:Int) (δ:T) (κ:Int->T):T:=κ (xa3 a b)
def xzJ:EO:=xIE.fT Tryz.func50 10 0 [] [] lk0 (fun ((a,b,m,n,o,c,d,e,f,_),(g,h,q,r,s,i,j,k,l,_),_)=>xBn a b m n o c d e f g h q r s i j k l none) (u2 (xMy (xMh uI (xMh uI (u7 (uL 3) uI uI uI uI uI uI)))) (xMy (xMh uI (xMh uI (u7 (uL 3) uI uI uI uI uI uI))))) (fun ((a,b,m,n,o,c,d,e,f,_),(g,h,q,r,s,i,j,k,l,_),_)=>xtL a b m n o c d e f g h q r s i j k l) (fun _ p=>(AV.int .i64 p))
def xdJ (a:Nat) (j:Int):=decide (0<=i64.wrap (j - 1))&&decide (i64.wrap (j - 1)<(↑a:Int))
def xal (j:Int) (a:LA):=(a.getD (0+j.toNat) .top).cells
def xce (j:Int):Nat:=0+(i64.wrap (j - 1)).toNat
def xdK (a:Nat) (j:Int):=decide (0<=j)&&decide (j<(↑a:Int))
def xf8 (j:Int) (a:LA):=decide (0+j.toNat<a.length)
def xak (j:Int) (a:LA):=(a.getD (xce j) .top).cells
def xf6 (j:Int) (a:LA):=xf8 j a&&((xal j a).length==9&&xLE [Sh.int .i64,Sh.int .i64,Sh.list 3,Sh.int .i64,Sh.int .i64,Sh.int .i64,Sh.int .i64,Sh.int .i64,Sh.int .i64] (xal j a) 0)
def xf5 (j:Int) (a:LA):=a.set (0+j.toNat) (AV.agg [AV.int .i64 ((xak j a).getD 0 .top).toInt,AV.int .i64 ((xak j a).getD 1 .top).toInt,AV.list 3 ((xak j a).getD 2 .top).toList,AV.int .i64 ((xak j a).getD 3 .top).toInt,AV.int .i64 ((xak j a).getD 4 .top).toInt,AV.int .i64 ((xak j a).getD 5 .top).toInt,AV.int .i64 ((xak j a).getD 6 .top).toInt,AV.int .i64 ((xak j a).getD 7 .top).toInt,AV.int .i64 ((xak j a).getD 8 .top).toInt])
def xf7 (j:Int) (a:LA):=decide (xce j<a.length)&&((xak j a).length==9&&xLE [Sh.int .i64,Sh.int .i64,Sh.list 3,Sh.int .i64,Sh.int .i64,Sh.int .i64,Sh.int .i64,Sh.int .i64,Sh.int .i64] (xak j a) 0)
def xgm {T:Type} (d:Nat) (a b i j:Int) (c:LA) (δ:T) (κl:(Int×LA)->T) (κr:(LA)->T):T:=br (decide (j>a)) (br (xdK d j) (br (xf6 j c) (br (xdJ d j) (br (xf7 j c) (br (decide (xtL ((xal j c).getD 0 .top).toInt ((xal j c).getD 1 .top).toInt ((xal j c).getD 2 .top).toList ((xal j c).getD 3 .top).toInt ((xal j c).getD 4 .top).toInt ((xal j c).getD 5 .top).toInt ((xal j c).getD 6 .top).toInt ((xal j c).getD 7 .top).toInt ((xal j c).getD 8 .top).toInt ((xak j c).getD 0 .top).toInt ((xak j c).getD 1 .top).toInt ((xak j c).getD 2 .top).toList ((xak j c).getD 3 .top).toInt ((xak j c).getD 4 .top).toInt ((xak j c).getD 5 .top).toInt ((xak j c).getD 6 .top).toInt ((xak j c).getD 7 .top).toInt ((xak j c).getD 8 .top).toInt<0)) (br (xdJ d j) (br (xf7 j c) (br (xdK d j) (br (xf6 j c) (br (xdK d j) (br (xf8 j c) (br (xdJ d j) (br (decide (xce j<(xf5 j c).length)) (κl (i64.wrap (j - 1),(xf5 j c).set (xce j) (AV.agg [AV.int .i64 ((xal j c).getD 0 .top).toInt,AV.int .i64 ((xal j c).getD 1 .top).toInt,AV.list 3 ((xal j c).getD 2 .top).toList,AV.int .i64 ((xal j c).getD 3 .top).toInt,AV.int .i64 ((xal j c).getD 4 .top).toInt,AV.int .i64 ((xal j c).getD 5 .top).toInt,AV.int .i64 ((xal j c).getD 6 .top).toInt,AV.int .i64 ((xal j c).getD 7 .top).toInt,AV.int .i64 ((xal j c).getD 8 .top).toInt]))) δ) δ) δ) δ) δ) δ) δ) δ) (κr (c))) δ) δ) δ) δ) (κr (c))
def xbV (d:Nat) (a b i:Int):StT (Int×LA) (LA):=fun (j,c)=>xgm d a b i j c none inL inR
def xcd:=xzJ.l 53 1 [58] [] Tryz.f95 1 lk0 [0,1,2,3,8,9] [0,1,2,3,8] [] (q6 (xMs 0 0 0) qI qI (xLW 50 xMi) qI qI) (q1 (qB 0 9 58 xMk)) (fun (c,a,b,_,i,j,_) (d,_)=>(xbV c a b i,(j,d),fun p=>(.leaf (.exit 2) [AV.osl 0 0 0 c,AV.int .i64 a,AV.int .i64 b,AV.func 50 [],AV.int .i64 i] [bF 0 9 58 p]))) [] fun (c,a,b,_,i,_,_) _ (j,d)=>(((c,a,b,(),i,j,()),(d,())),xgm c a b i j d none)
def xgl {T:Type} (d:Nat) (a b i:Int) (c:LA) (δ:T) (κl:(Int×LA)->T) (κr:(LA)->T):T:=br (decide (i<b)) (br ((Iter (xbV d a b i) (i,c)).isSome) (κl (i64.wrap (i+1),(Iter (xbV d a b i) (i,c)).getD [])) δ) (κr (c))
def xbU (d:Nat) (a b:Int):StT (Int×LA) (LA):=fun (i,c)=>xgl d a b i c none inL inR
def xf4:=xzJ.l 53 1 [58] [(4,xcd.lp)] Tryz.f95 0 (lk1 xcd.ok) [0,1,2,3,8] [] [] (q5 (xMs 0 0 0) qI qI (xLW 50 xMi) qI) (q1 (qB 0 9 58 xMk)) (fun (d,a,b,_,i,_) (c,_)=>(xbU d a b,(i,c),fun p=>(.leaf (.exit 0) [] [bF 0 9 58 p]))) [] fun (d,a,b,_,_,_) _ (i,c)=>(((d,a,b,(),i,()),(c,())),xgl d a b i c none)
def xeI {T:Type} (n:Nat) (a b:Int) (c:LA) (δ:T) (κ:LA->T):T:=br ((Iter (xbU n a b) (i64.wrap (a+1),c)).isSome) (κ ((Iter (xbU n a b) (i64.wrap (a+1),c)).getD [])) δ
def xbz (n:Nat) (a b:Int) (c:LA):=xeI n a b c none some
def xvN:EO:=xzJ.fM Tryz.func95 53 1 [58] [(4,xcd.lp),(1,xf4.lp)] (lks (lkC xf4.ok (lkC xcd.ok lkN))) (u4 (sEq (xMs 0 0 0)) uI uI (sEq (xLW (50:FuncId) xMi))) (q1 (qB 0 9 58 xMk)) (fun (n,a,b,_,_) (c,_) _=>xeI n a b c) (fun _ _ p=>(AV.tuple [],([bF 0 9 58 p]:List Box))) []
def xfK {T:Type} (d:Nat) (n e a b:Int) (c:LA) (δ:T) (κl:(Int×Int×LA)->T) (κr:(Int×LA)->T):T:=br (decide (b<=n)) (br ((xbz d a b c).isSome) (κl (b,i64.wrap (b+e),(xbz d a b c).getD [])) δ) (κr (a,c))
def xb5 (e:Nat) (n c:Int):StT (Int×Int×LA) (Int×LA):=fun (a,b,d)=>xfK e n c a b d none inL inR
def xdT:=xvN.l 63 1 [58] [] Tryz.f76 0 lk0 [0,1,2,6,7,8] [0,1,2,6,7] [] (q6 (xMs 0 0 0) qI (xLW 50 xMi) qI qI qI) (q1 (qB 0 9 58 xMk)) (fun (d,n,_,c,a,b,_) (e,_)=>(xb5 d n c,(a,b,e),fun p=>(.leaf (.exit 0) [AV.osl 0 0 0 d,AV.int .i64 n,AV.func 50 [],AV.int .i64 c,AV.int .i64 p.1] [bF 0 9 58 p.2]))) (0,[]) fun (d,n,_,c,_,_,_) _ (a,b,e)=>(((d,n,(),c,a,b,()),(e,())),xfK d n c a b e none)
def xjC {T:Type} (d:Nat) (n e a b:Int) (c:LA) (δ:T) (κl:(Int×Int×LA)->T) (κr:(Int×LA)->T):T:=br (decide (b<=n)) (br (decide (0+d<=c.length)&&true) δ δ) (κr (a,c))
def xhS (e:Nat) (n c:Int):StT (Int×Int×LA) (Int×LA):=fun (a,b,d)=>xjC e n c a b d none inL inR
def xdU:=xvN.l 63 1 [58] [(2,xdT.lp)] Tryz.f76 2 lk0 [0,1,2,6,7,8] [0,1,2,6,7] [] (q6 (xMs 0 0 0) qI (xLW 50 xMi) qI qI qI) (q1 (qB 0 9 58 xMk)) (fun (d,n,_,c,a,b,_) (e,_)=>(xhS d n c,(a,b,e),fun p=>(.leaf (.exit 4) [AV.osl 0 0 0 d,AV.int .i64 n,AV.func 50 [],AV.int .i64 c,AV.int .i64 p.1] [bF 0 9 58 p.2]))) (0,[]) fun (d,n,_,c,_,_,_) _ (a,b,e)=>(((d,n,(),c,a,b,()),(e,())),xjC d n c a b e none)
def xjg (c:Nat) (n a:Int) (b:LA):=Iter (xhS c n a) (0,i64.wrap (2*a),b)
def xjf (c:Nat) (n a:Int) (b:LA):=(xjg c n a b).getD (0,[])
def xje (c:Nat) (n a:Int) (b:LA):=(xjf c n a b).snd
def xfL {T:Type} (c:Nat) (n a:Int) (b:LA) (δ:T) (κl:(Int×LA)->T) (κr:(LA)->T):T:=br (decide (a<n)) (br ((xjg c n a b).isSome) (br (decide (i64.wrap ((xjf c n a b).fst+a)<n)) (br (decide (0+c<=(xje c n a b).length)&&true) δ δ) (κl (i64.wrap (a*2),xje c n a b))) δ) (κr (b))
def xc1 (c:Nat) (n:Int):StT (Int×LA) (LA):=fun (a,b)=>xfL c n a b none inL inR
def xjd:=xvN.l 63 1 [58] [(2,xdT.lp),(9,xdU.lp)] Tryz.f76 1 (lk1 xdU.ok) [0,1,2,6] [] [] (q4 (xMs 0 0 0) qI (xLW 50 xMi) qI) (q1 (qB 0 9 58 xMk)) (fun (c,n,_,a,_) (b,_)=>(xc1 c n,(a,b),fun p=>(.leaf (.exit 2) [] [bF 0 9 58 p]))) [] fun (c,n,_,_,_) _ (a,b)=>(((c,n,(),a,()),(b,())),xfL c n a b none)
def xgI (n:Nat) (k:Int) (a:LA):=(Iter (xb5 n k 20) (0,20,a)).getD (0,[])
def xgH (n:Nat) (k:Int) (a:LA):=xbz n (xgI n k a).fst k (xgI n k a).snd
def xgG (n:Nat) (k:Int) (a:LA):=Iter (xc1 n k) (20,(xgH n k a).getD [])
def xg3 {T:Type} (n:Nat) (k:Int) (a:LA) (δ:T) (κ:LA->T):T:=br ((Iter (xb5 n k 20) (0,20,a)).isSome) (br ((xgH n k a).isSome) (br ((xgG n k a).isSome) (κ ((xgG n k a).getD [])) δ) δ) δ
def xfE (n:Nat) (k:Int) (a:LA):=xg3 n k a none some
def xIF:EO:=xvN.fM Tryz.func76 63 1 [58] [(2,xdT.lp),(9,xdU.lp),(7,xjd.lp)] (lks (lkC xdT.ok (lkC xjd.ok (lkC xdU.ok lkN)))) (u3 (sEq (xMs 0 0 0)) uI (sEq (xLW (50:FuncId) xMi))) (q1 (qB 0 9 58 xMk)) (fun (n,k,_,_) (a,_) _=>xg3 n k a) (fun _ _ p=>(AV.tuple [],([bF 0 9 58 p]:List Box))) []
def xgy {T:Type} (n:Nat) (a:LA) (δ:T) (κ:LA->T):T:=br ((xfE n (↑n:Int) a).isSome) (κ ((xfE n (↑n:Int) a).getD [])) δ
def xfb (n:Nat) (a:LA):=xgy n a none some
def xtu:EO:=xIF.fM Tryz.func49 9 1 [58] [] lk0 (u2 (sEq (xMs 0 0 0)) (sEq (xLW (50:FuncId) xMi))) (q1 (qB 0 9 58 xMk)) (fun (n,_,_) (a,_) _=>xgy n a) (fun _ _ p=>(AV.tuple [],([bF 0 9 58 p]:List Box))) []
def xa2 (b:Int) (a:LA):=(a.getD (0+b.toNat) .top).cells
def xki (b:Int) (d:LA) (e:Nat) (a c:LA):=xsE ((xa2 b a).getD 0 .top).toInt ((xa2 b a).getD 1 .top).toInt ((xa2 b a).getD 2 .top).toList ((xa2 b a).getD 3 .top).toInt ((xa2 b a).getD 4 .top).toInt ((xa2 b a).getD 5 .top).toInt ((xa2 b a).getD 6 .top).toInt ((xa2 b a).getD 7 .top).toInt ((xa2 b a).getD 8 .top).toInt d e c
def xkh (e:Int) (b:LA) (c:Nat) (d a:LA):=(xki e b c d a).getD (false,[],0,[])
def xg9 (e:Int) (b:LA) (c:Nat) (d a:LA):=(xkh e b c d a).snd
def xff (e:Int) (b:LA) (c:Nat) (d a:LA):=(xg9 e b c d a).snd
def xhu {T:Type} (h:Nat) (i:Int) (g:Nat) (e:Int) (c:LA) (d:Nat) (f a b:LA) (δ:T) (κl:(Nat×Int×LA×Nat×LA×LA×LA)->T) (κr:(Nat×LA×Nat×LA×LA)->T):T:=br (decide (e<i)) (br (decide (0<=e)&&decide (e<(↑h:Int))) (br (decide (0+e.toNat<a.length)&&((xa2 e a).length==9&&xLE [Sh.int .i64,Sh.int .i64,Sh.list 3,Sh.int .i64,Sh.int .i64,Sh.int .i64,Sh.int .i64,Sh.int .i64,Sh.int .i64] (xa2 e a) 0)) (br ((xki e c d a b).isSome) (br (!(xkh e c d a b).fst) (br (rmB g f 1 8) (κl (g+1,i64.wrap (e+1),(xg9 e c d a b).fst,(xff e c d a b).fst,f++[AV.int .i64 ((xa2 e a).getD 0 .top).toInt],a,(xff e c d a b).snd)) δ) (κl (g,i64.wrap (e+1),(xg9 e c d a b).fst,(xff e c d a b).fst,f,a,(xff e c d a b).snd))) δ) δ) δ) (κr (g,c,d,f,b))
def xdb (f:Nat) (h:Int):StT (Nat×Int×LA×Nat×LA×LA×LA) (Nat×LA×Nat×LA×LA):=fun (g,i,b,c,d,e,a)=>xhu f h g i b c d e a none inL inR
def xg8:=xtu.l 67 0 [58] [(3000007,xek)] Tryz.f18 0 lk0 [6,7,8,11,32,33,34] [6,7,11] [(11,1,3)] (q7 (xMt 0 0 0 0) (xMt 1 0 0 0) (xLW 47 (q2 (xMt 0 0 0 0) (xMt 1 0 0 0))) (xMs 2 0 0) (xMs 3 0 0) qI qI) (q5 (qB 0 1 26 (q1 (qL 3))) (xMv 0 1 75 false false (q1 (xMs 4 0 0))) (qB 0 1 3 xMk) (qB 0 9 58 xMk) (qB 0 1 4 xMk)) (fun (_,_,(_,_,_),f,g,h,i,_) ((b,_),(c,_),d,e,a,_)=>(xdb g h,(f,i,b,c,d,e,a),fun p=>(.leaf (.exit 2) [AV.own 0 0 0 0,AV.own 1 0 0 0,AV.osl 2 0 0 p.1] [bF 0 1 26 [AV.list 3 p.2.1],⟨0,1,75,[AV.osl 3 0 0 p.2.2.1],false,false⟩,bF 0 1 3 p.2.2.2.1,bF 0 1 4 p.2.2.2.2]))) (0,[],0,[],[]) fun (_,_,(_,_,_),_,g,h,_,_) _ (f,i,b,c,d,e,a)=>((((),(),((),(),()),f,g,h,i,()),((b,()),(c,()),d,e,a,())),xhu g h f i b c d e a none)
def xhv {T:Type} (i:Nat) (g:LA) (h:Int) (d:Nat) (a:Int) (e:Nat) (f c b:LA) (δ:T) (κl:(Nat×Int×Nat×LA×LA×LA)->T) (κr:(Nat×LA×LA)->T):T:=br (decide (a<h)) (br (ixI g a) (br (ixT g a 3 [Sh.list 3,Sh.int .i64,Sh.int .i64] 0) (br (decide (0<=a)&&decide (a<(↑e:Int))) (br (decide (0+a.toNat<b.length)&&xLw Sh.bool ((b.getD (0+a.toNat) .top).cells.getD 0 .top)) (br (!((b.getD (0+a.toNat) .top).cells.getD 0 .top).toBool) (br (rmB d c 1 40) (κl (d+1,i64.wrap (a+1),e,f,c++[AV.agg [AV.list 3 (gC g a 0).toList,AV.int .i64 (gC g a 1).toInt,AV.int .i64 (gC g a 2).toInt]],b)) δ) (κl (d,i64.wrap (a+1),e,f,c,b))) δ) δ) δ) δ) (κr (d,f,c))
def xdc (f:Nat) (g:LA) (h:Int):StT (Nat×Int×Nat×LA×LA×LA) (Nat×LA×LA):=fun (b,i,d,e,a,c)=>xhv f g h b i d e a c none inL inR
def xkj:=xtu.l 67 0 [58] [(3000007,xek),(11,xg8.lp)] Tryz.f18 1 lk0 [7,11,14,48,49,50] [11,14] [(11,1,3),(14,3,60)] (q6 (xMt 0 0 0 0) (xMs 1 0 0) (xMs 2 0 0) (qL 3) qI qI) (q4 (xMv 0 1 75 false false (q1 (xMs 3 0 0))) (qB 0 1 3 xMk) (qB 0 3 60 xMk) (qB 0 1 4 xMk)) (fun (_,d,b,g,h,i,_) ((e,_),f,a,c,_)=>(xdc d g h,(b,i,e,f,a,c),fun p=>(.leaf (.exit 4) [AV.osl 0 0 0 d,AV.osl 1 0 0 p.1] [bF 0 1 3 p.2.1,bF 0 3 60 p.2.2]))) (0,[],[]) fun (_,d,_,g,h,_,_) _ (b,i,e,f,a,c)=>((((),d,b,g,h,i,()),((e,()),f,a,c,())),xhv d g h b i e f a c none)
def xdg:Env:=xtu.E.fn 67 0 (lsOf [58]) (xLV [(3000007,xek),(11,xg8.lp),(18,xkj.lp)])
theorem xtl:xLz P0 (xMf.at 0) xdg:=xtu.ok.fn
theorem xsi:LoOk P0 (xMf.at xdg.pin) xdg (Tryz.f18.body.getD .skip):=xqO (lp0:=xek) (hr:=xqz) (he:=by kernel_rfl) (ls:=[xLD Tryz.f18 0,xLD Tryz.f18 1]) (by kernel_rfl) (fun l b lp a=>by
 simp only [zC,List.not_mem_nil,or_false] at b;rcases b with rfl|rfl
 . rw [show xdg.lp (xLN (xLD Tryz.f18 0))=some xg8.lp by kernel_rfl] at a
   simp only [z6] at a;subst a;exact xg8.ok
 . rw [show xdg.lp (xLN (xLD Tryz.f18 1))=some xkj.lp by kernel_rfl] at a
   simp only [z6] at a;subst a;exact xkj.ok)
def xlO (l a:LA):=Iter (xdb ([]++List.filter opV (xaP l)).length (↑([]++List.filter opV (xaP l)).length:Int)) (0,0,(xbm a).getD [],(↑((xbm a).getD []).length:Int).toNat,[],(xfb ([]++List.filter opV (xaP l)).length ([]++List.filter opV (xaP l))).getD [],List.replicate (↑((xbm a).getD []).length:Int).toNat (AV.bool false))
def xlN (l a:LA):=(xlO l a).getD (0,[],0,[],[])
def xjG (l a:LA):=(xlN l a).fst
def xlM (l a:LA):=(xlN l a).snd
def xmL (l a:LA):=(xlM l a).fst
def xmM (l a:LA):=(xlM l a).snd
def xmK (l a:LA):=(xmM l a).snd
def xmJ (l a:LA):=Iter (xdc (xjG l a) (xmL l a) (↑(xmL l a).length:Int)) (0,0,(xmM l a).fst,(xmK l a).fst,[],(xmK l a).snd)
def xmI (l a:LA):=(xmJ l a).getD (0,[],[])
def xmG (l a:LA):=(xmI l a).fst
def xmH (l a:LA):=(xmI l a).snd
def xmE (l a:LA):=(xmH l a).snd
def xmF (l a:LA):=(xmH l a).fst
def xkp {T:Type} (l a:LA) (δ:T) (κ:LA×LA->T):T:=br ((xbm a).isSome) (br (decide ((↑((xbm a).getD []).length:Int)<=(↑((xbm a).getD []).length:Int))&&(decide (1*(↑((xbm a).getD []).length:Int)<=281474976710656)&&decide ((↑((xbm a).getD []).length:Int)<=4611686018427387904))) (br (rfOk 88 (xaP l) []) (br ((xfb ([]++List.filter opV (xaP l)).length ([]++List.filter opV (xaP l))).isSome) (br ((xlO l a).isSome) (br ((xmJ l a).isSome) (br (decide (0+xjG l a<=(xmF l a).length)&&(decide (0+xmG l a<=(xmE l a).length)&&true)) (κ (List.take (xjG l a) (List.drop 0 (xmF l a)),List.take (xmG l a) (List.drop 0 (xmE l a)))) δ) δ) δ) δ) δ) δ) δ
def xcK (l a:LA):=xkp l a none some
theorem xv3 (l a:LA):Enc (fun (p:LA×LA)=>((AV.tuple [AV.list 1 p.1,AV.list 3 p.2]):AV)) (xcK l a) (XF P0 xdg Tryz.f18 (Tryz.f18.body.getD .skip) [AV.list 9 l,AV.list 3 a]):=by
 have h:XF P0 xdg Tryz.f18 (Tryz.f18.body.getD .skip) [AV.list 9 l,AV.list 3 a]=xkp l a none (fun (p:LA×LA)=>some ((AV.tuple [AV.list 1 p.1,AV.list 3 p.2]):AV)):=by kernel_rfl
 rw [h];unfold xcK xkp;repeat' (first|refine Enc.br ?_ ?_|exact Enc.none|exact Enc.some rfl)
def xv2:LA->Option (Bool×AV):=ocOf (xMh (xMw 9 xMk) (xMh (xMw 3 xMk) xMj)) fun (l,(a,_))=>((xcK l a).isSome,(AV.tuple [AV.list 1 ((xcK l a).getD ([],[])).1,AV.list 3 ((xcK l a).getD ([],[])).2]))
theorem xv1:OcOk P0 xMf 18 (xv2):=xhm fun c g e=>by
 obtain ⟨l,⟨f,_⟩⟩:=c;obtain ⟨a,b⟩:=Prod.mk.inj e;refine xfj (p:=xdg.pin) (xhj xLI (xLJ P0 _) rfl xtl Tryz.func18 rfl (by kernel_rfl) xsi ((xv3 _ _ _ (xbF (d:=([],[])) a)).trans ?_))
 exact congrArg some b
def xIG:EO:=xtu.w xv1
theorem xGR {a b:AV} (x:AV) (h:Sub a b):Sub (.tuple [a,x]) (.tuple [b,x]):=fun w A M v d=>by
 obtain ⟨f,rfl,g,c⟩:=d.tuple_inv;refine .tuple f _ g fun i e=>?_
 match i,e with
 | 0,_=>exact h w A M _ (c 0 (by simp))
 | 1,_=>exact c 1 (by simp)
theorem xIm (a b c d e f g h:Int):Sub (.agg [.int .i64 a,.int .i64 b,.nils,.int .i64 c,.int .i64 d,.int .i64 e,.int .i64 f,.int .i64 g,.int .i64 h]) (.agg [.int .i64 a,.int .i64 b,.list 3 [],.int .i64 c,.int .i64 d,.int .i64 e,.int .i64 f,.int .i64 g,.int .i64 h]) :=
 xCG ⟨rfl,fun i j=>match i,j with
 | 0,_=>Sub.refl _
 | 1,_=>Sub.refl _
 | 2,_=>xs2 3
 | 3,_=>Sub.refl _
 | 4,_=>Sub.refl _
 | 5,_=>Sub.refl _
 | 6,_=>Sub.refl _
 | 7,_=>Sub.refl _
 | 8,_=>Sub.refl _⟩
def findS (p:Bool×(Int×Int×LA×Int×Int×Int×Int×Int×Int×Bool)×(Int×Int×Int×Int×Int×Int×Int×Int×Bool)):Int×Int×LA×Int×Int×Int×Int×Int×Int×Bool:=br p.1 p.2.1 (p.2.2.1,p.2.2.2.1,[],p.2.2.2.2.1,p.2.2.2.2.2.1,p.2.2.2.2.2.2.1,p.2.2.2.2.2.2.2.1,p.2.2.2.2.2.2.2.2.1,p.2.2.2.2.2.2.2.2.2.1,p.2.2.2.2.2.2.2.2.2.2)
def xbR (l:LA) (a:Int):Option (Int×Int×LA×Int×Int×Int×Int×Int×Int×Bool):=(xaY l a).map findS
def xzm:LA->Option (Bool×AV):=ocOf (xMh (xMw 9 xMk) (xMh (sEq (pInt .i64)) xMj)) fun (l,(a,_))=>((xbR l a).isSome,AV.tuple [AV.agg [AV.int .i64 ((xbR l a).getD (0,0,[],0,0,0,0,0,0,false)).1,AV.int .i64 ((xbR l a).getD (0,0,[],0,0,0,0,0,0,false)).2.1,AV.list 3 ((xbR l a).getD (0,0,[],0,0,0,0,0,0,false)).2.2.1,AV.int .i64 ((xbR l a).getD (0,0,[],0,0,0,0,0,0,false)).2.2.2.1,AV.int .i64 ((xbR l a).getD (0,0,[],0,0,0,0,0,0,false)).2.2.2.2.1,AV.int .i64 ((xbR l a).getD (0,0,[],0,0,0,0,0,0,false)).2.2.2.2.2.1,AV.int .i64 ((xbR l a).getD (0,0,[],0,0,0,0,0,0,false)).2.2.2.2.2.2.1,AV.int .i64 ((xbR l a).getD (0,0,[],0,0,0,0,0,0,false)).2.2.2.2.2.2.2.1,AV.int .i64 ((xbR l a).getD (0,0,[],0,0,0,0,0,0,false)).2.2.2.2.2.2.2.2.1],AV.bool ((xbR l a).getD (0,0,[],0,0,0,0,0,0,false)).2.2.2.2.2.2.2.2.2])
theorem xzl:OcOk P0 xMf 78 (xzm):=xhm fun e g f=>by
 obtain ⟨l,⟨d,_⟩⟩:=e;obtain ⟨a,c⟩:=Prod.mk.inj f;unfold xbR at a c;cases hf:xaY l d with
 | none=>rw [hf] at a;simp at a
 | some p =>
  rw [hf] at c;have hx:=xtM l d p hf;have hg:Good P0 xMf 78 _ _:=xfj (p:=xgb.pin) (xhj xLI (xLJ P0 _) rfl xqW Tryz.func78 rfl (by kernel_rfl) xpE hx)
  rw [<-c];refine Good.sub hg ?_;obtain ⟨b,h,i⟩:=p;cases b with
  | true=>exact Sub.refl _
  | false=>exact xGR _ (xIm _ _ _ _ _ _ _ _)
def EKF:EO:=xIG.w xzl
def xha (l a:LA) (b:Int):=((xbR l (gC a b 0).toInt).getD (0,0,[],0,0,0,0,0,0,false)).snd.snd.snd.snd.snd
def xkl (l a:LA) (b:Int):=!(xha l a b).snd.snd.snd.snd
def xeQ {T:Type} (l b:LA) (a d c e f:Int) (δ:T) (κl:(Int×Int×Int×Int×Int)->T) (κr:(Bool×(Int)×(Unit))->T):T:=br ((xbR l (gC b a 0).toInt).isSome) (br (xkl l b a) (κr (true,(11),())) (br (decide ((xha l b a).fst>=c)) (κr (true,(6),())) (κl (i64.wrap (a+1),d,c,e,f)))) δ
def xfG {T:Type} (l c i b:LA) (h a d e f g:Int) (δ:T) (κl:(Int×Int×Int×Int×Int)->T) (κr:(Bool×(Int)×(Unit))->T):T:=br (decide (a<h)) (br (ixI b a) (br (ixS b a (Sh.int .i64) 0) (br (decide (a>0)) (br (decide (0<=i64.wrap (a - 1))&&decide (i64.wrap (a - 1)<(↑c.length:Int))) (br (decide ((i64.wrap (a - 1)).toNat<c.length)&&xLw (Sh.int .i64) ((c.getD (i64.wrap (a - 1)).toNat .top).cells.getD 0 .top)) (br (decide ((gC b a 0).toInt<=((c.getD (i64.wrap (a - 1)).toNat .top).cells.getD 0 .top).toInt)) (κr (true,(9),())) (xeQ l b a d e f g δ κl κr)) δ) δ) (xeQ l b a d e f g δ κl κr)) δ) δ) (κr (false,0,()))
def xcn (l b a c:LA) (d:Int):StT (Int×Int×Int×Int×Int) (Bool×(Int)×(Unit)):=fun (e,f,g,h,i)=>xfG l b a c d e f g h i none inL inR
def xkk:=EKF.l 67 0 [] [] Tryz.f55 0 lk0 [0,1,2,7,23,24,25] [2,8] [] (q7 (qL 9) (qL 1) (qL 3) (xMt 0 0 0 0) (qL 1) qI qI) (q1 (qB 0 10 46 (q1 (xMu (q10 qI qI qI qI pNils pNils pNils pNils pNils pNils))))) (fun (l,b,a,_,c,d,e,_) (((f,g,h,i,_,_,_,_,_,_,_),_),_)=>(xcn l b a c d,(e,f,g,h,i),fun p=>(.node p.1 (.leaf .ret [AV.list 3 a,AV.int .i64 p.2.1] []) (.leaf (.exit 0) [AV.list 3 a,.top] [])))) (false,0,()) fun (l,b,a,_,c,d,_,_) _ (e,f,g,h,i)=>(((l,b,a,(),c,d,e,()),(((f,g,h,i,(),(),(),(),(),(),()),()),())),xfG l b a c d e f g h i none)
def xhw {T:Type} (b:LA) (c a:Int) (δ:T) (κl:(Int)->T) (κr:(Bool×(Int)×(Unit))->T):T:=br (decide (a<c)) (br (ixI b a) (br (ixT b a 3 [Sh.list 3,Sh.int .i64,Sh.int .i64] 0) (br (!xbb (gC b a 1).toInt (gC b a 2).toInt) (κr (true,(8),())) (κl (i64.wrap (a+1)))) δ) δ) (κr (false,0,()))
def xbO (a:LA) (b:Int):StT (Int) (Bool×(Int)×(Unit)):=fun (c)=>xhw a b c none inL inR
def xoJ:=EKF.l 67 0 [] [(4,xkk.lp)] Tryz.f55 1 lk0 [56,57,58] [8] [] (q3 (qL 3) qI qI) xMi (fun (a,b,c,_) _=>(xbO a b,(c),fun p=>(.node p.1 (.leaf .ret [AV.int .i64 p.2.1] []) (.leaf (.exit 2) [.top] [])))) (false,0,()) fun (a,b,_,_) _ (c)=>(((a,b,c,()),()),xhw a b c none)
def xmO (l a d:LA) (f b c e:Int):=Iter (xcn l a d a (↑a.length:Int)) (0,f,b,c,e)
def xmN (l f c:LA) (e a b d:Int):=(xmO l f c e a b d).getD (false,0,())
def xnC {T:Type} (l f a:LA) (e b c d:Int) (δ:T) (κ:Int->T):T:=br (decide (b<0)) (κ (6)) (br (decide (b>=1099511627776)) (κ (6)) (br ((xmO l f a e b c d).isSome) (br ((xmN l f a e b c d).fst) (κ ((xmN l f a e b c d).snd.fst)) (br ((Iter (xbO a (↑a.length:Int)) 0).isSome) (br (((Iter (xbO a (↑a.length:Int)) 0).getD (false,0,())).fst) (κ (((Iter (xbO a (↑a.length:Int)) 0).getD (false,0,())).snd.fst)) (κ (0))) δ)) δ))
def xjx (l f c:LA) (e a b d:Int):=xnC l f c e a b d none some
def xIH:EO:=EKF.f Tryz.func55 67 0 [] [(4,xkk.lp),(15,xoJ.lp)] (lks (lkC xkk.ok (lkC xoJ.ok lkN))) (u4 (uL 9) (uL 1) (uL 3) (xMy (xMh uI (xMh uI (xMh uI (u7 uI (sEq pNils) (sEq pNils) (sEq pNils) (sEq pNils) (sEq pNils) (sEq pNils))))))) (fun (l,g,c,(e,a,b,d,_,_,_,_,_,_,_),_) _=>xnC l g c e a b d) (fun _ p=>AV.int .i64 p) 0
def xsB (x y:Int):Bool:=(br (xeu x) (br (!xeu y) ((true)) ((decide (x<y)))) ((decide (x<y))))
def xC8 {T:Type} (x y:Int) (δ:T) (κ:Bool->T):T:=br (xeu x) (br (!xeu y) (κ (true)) (κ (decide (x<y)))) (κ (decide (x<y)))
def xII:EO:=xIH.fT Tryz.func79 17 0 [] [] lk0 (fun (x,y,_)=>xC8 x y none) (u2 uI uI) (fun (x,y,_)=>xsB x y) (fun _ p=>(AV.bool p))
def xlb (x:Int):Bool:=((x != x))
def xyh {T:Type} (x:Int) (δ:T) (κ:Bool->T):T:=κ (x != x)
def xD2:EO:=xII.fT Tryz.func80 6 0 [] [] lk0 (fun (x,_)=>xyh x none) (u1 uI) (fun (x,_)=>xlb x) (fun _ p=>(AV.bool p))
def xa7 (i j:Int):=i64.wrap ((u64.wrap (i64.wrap (i+j))).fdiv 2)
def xdu {T:Type} (x:LA) (a n i j:Int) (δ:T) (κl:(Int×Int)->T) (κr:(Int)->T):T:=br (decide (i<j)) (br (decide (0<=xa7 i j)&&decide (xa7 i j<x.length)) (br (decide ((xa7 i j).toNat<x.length)&&xLw (Sh.int .i64) ((x.getD (xa7 i j).toNat .top).cells.getD 0 .top)) (br (xsB ((x.getD (xa7 i j).toNat .top).cells.getD 0 .top).toInt a) (κl (i64.wrap (xa7 i j+1),j)) (κl (i,xa7 i j))) δ) δ) (κr (i))
def xba (x:LA) (a n:Int):StT (Int×Int) (Int):=fun (i,j)=>xdu x a n i j none inL inR
def xky:=xD2.l 54 0 [] [] Tryz.f56 0 lk0 [0,1,6,7,8] [0,1,6,7] [] (q5 (qL 1) qI qI qI qI) xMi (fun (x,a,n,i,j,_) _=>(xba x a n,(i,j),fun p=>(.leaf (.exit 0) [AV.list 1 x,AV.int .i64 a,AV.int .i64 n,AV.int .i64 p] []))) 0 fun (x,a,n,_,_,_) _ (i,j)=>(((x,a,n,i,j,()),()),xdu x a n i j none)
def xaW (x:LA) (a:Int):=(Iter (xba x a (↑x.length:Int)) (0,(↑x.length:Int))).getD 0
def xic (x:LA) (a:Int):=decide (0<=xaW x a)&&decide (xaW x a<x.length)
def xid (x:LA) (a:Int):=decide ((xaW x a).toNat<x.length)&&xLw (Sh.int .i64) ((x.getD (xaW x a).toNat .top).cells.getD 0 .top)
def xja {T:Type} (x:LA) (a:Int) (δ:T) (κ:Int×Bool->T):T:=br ((Iter (xba x a (↑x.length:Int)) (0,(↑x.length:Int))).isSome) (br (decide (xaW x a<x.length)) (br (xic x a) (br (xid x a) (br (((x.getD (xaW x a).toNat .top).cells.getD 0 .top).toInt==a) (κ (xaW x a,true)) (br (xic x a) (br (xid x a) (br (xlb ((x.getD (xaW x a).toNat .top).cells.getD 0 .top).toInt) (κ (xaW x a,xlb a)) (κ (xaW x a,false))) δ) δ)) δ) δ) (κ (xaW x a,false))) δ
def xeg (x:LA) (a:Int):=xja x a none some
def xtv:EO:=xD2.f Tryz.func56 54 0 [] [(3,xky.lp)] (lk1 xky.ok) (u2 (uL 1) uI) (fun (x,a,_) _=>xja x a) (fun _ p=>AV.tuple [AV.int .i64 p.1,AV.bool p.2]) (0,false)
def xbQ (a:LA) (b:Int):Nat:=0+(gC a b 2).toList.length
def xlK (g e:LA) (first c h i j k:Int) (a:LA) (l:Int) (f:Nat) (b:Int) (d:LA):=decide (0+xbQ a b<=([]++(gC a b 2).toList).length)&&true
def xlL (g e:LA) (first c h i j k:Int) (a:LA) (l:Int) (f:Nat) (b:Int) (d:LA):=decide (xbQ a b*32<=140737488355328)&&decide (xbQ a b<=4611686018427387904)
def xht {T:Type} (g f:LA) (first e h i j k:Int) (b:LA) (l:Int) (d:Nat) (a:Int) (c:LA) (δ:T) (κl:(Nat×Int×LA)->T):T:=br (xlL g f first e h i j k b l d a c) (br (xlK g f first e h i j k b l d a c) (br (rmB d c 1 88) (κl (d+1,i64.wrap (a+1),c++[AV.agg [AV.int .i64 (gC b a 0).toInt,AV.int .i64 (gC b a 1).toInt,AV.list 3 (List.take (xbQ b a) (List.drop 0 ([]++(gC b a 2).toList))),AV.int .i64 (gC b a 3).toInt,AV.int .i64 (gC b a 4).toInt,AV.int .i64 (gC b a 5).toInt,AV.int .i64 (gC b a 6).toInt,AV.int .i64 (gC b a 7).toInt,AV.int .i64 (gC b a 8).toInt]])) δ) δ) δ
def xjE {T:Type} (f g:LA) (first e h i k l:Int) (b:LA) (j:Int) (d:Nat) (a:Int) (c:LA) (δ:T) (κl:(Nat×Int×LA)->T) (κr:(Nat×LA)->T):T:=br (decide (a<j)) (br (ixI b a) (br (ixT b a 9 [Sh.int .i64,Sh.int .i64,Sh.list 3,Sh.int .i64,Sh.int .i64,Sh.int .i64,Sh.int .i64,Sh.int .i64,Sh.int .i64] 0) (br ((xeg f (gC b a 0).toInt).isSome) (br (((xeg f (gC b a 0).toInt).getD (0,false)).snd) (br (xcZ (gC b a 0).toInt (gC b a 1).toInt (gC b a 2).toList (gC b a 3).toInt (gC b a 4).toInt (gC b a 5).toInt (gC b a 6).toInt (gC b a 7).toInt (gC b a 8).toInt) (br (decide (xbQ b a*32<=140737488355328)&&decide (xbQ b a<=4611686018427387904)) (br (decide (0+xbQ b a<=([]++(gC b a 2).toList).length)&&true) (br (rmB d c 1 88) (κl (d+1,i64.wrap (a+1),c++[AV.agg [AV.int .i64 (gC b a 0).toInt,AV.int .i64 (gC b a 1).toInt,AV.list 3 (List.take (xbQ b a) (List.drop 0 ([]++(gC b a 2).toList))),AV.int .i64 (gC b a 3).toInt,AV.int .i64 (gC b a 4).toInt,AV.int .i64 (gC b a 5).toInt,AV.int .i64 i,AV.int .i64 (gC b a 7).toInt,AV.int .i64 h]])) δ) δ) δ) (xht f g first e h i k l b j d a c δ κl)) (xht f g first e h i k l b j d a c δ κl)) δ) δ) δ) (κr (d,c))
def xfe (e c:LA) (first a f g h i:Int) (j:LA) (k:Int):StT (Nat×Int×LA) (Nat×LA):=fun (d,l,b)=>xjE e c first a f g h i j k d l b none inL inR
def xlJ:=xtv.l 93 0 [4000054,58,5000030,6000009] [] Tryz.f22 0 lk0 [1,2,4,5,9,15,30,31,32] [2,4,5,9,15] [(15,9,58)] (q9 (qL 1) (qL 3) qI qI (xMA 10 0 0 (q1 (xMu (q10 qI qI qI qI pNils pNils pNils pNils pNils pNils)))) (xMs 0 0 0) (qL 9) qI qI) (q1 (qB 0 9 58 xMk)) (fun (i,b,first,a,((e,f,g,h,_,_,_,_,_,_,_),_),d,j,k,m,_) (c,_)=>(xfe i b first a e f g h j k,(d,m,c),fun p=>(.leaf (.exit 0) [AV.list 3 b,AV.int .i64 first,AV.int .i64 a,AV.eptr 10 [AV.agg [AV.int .i64 e,AV.int .i64 f,AV.int .i64 g,AV.int .i64 h,AV.nils,AV.nils,AV.nils,AV.nils,AV.nils,AV.nils]] 0 0,AV.osl 0 0 0 p.1] [bF 0 9 58 p.2]))) (0,[]) fun (i,b,first,a,((e,f,g,h,_,_,_,_,_,_,_),_),_,j,k,_,_) _ (d,m,c)=>(((i,b,first,a,((e,f,g,h,(),(),(),(),(),(),()),()),d,j,k,m,()),(c,())),xjE i b first a e f g h j k d m c none)
def xeY (a:LA) (b:Int):=(gC a b 0).toList.length
def xjF {T:Type} (first e f g i j:Int) (b:LA) (h:Int) (d:Nat) (a:Int) (c:LA) (δ:T) (κl:(Nat×Int×LA)->T) (κr:(Nat×LA)->T):T:=br (decide (a<h)) (br (ixI b a) (br (ixT b a 3 [Sh.list 3,Sh.int .i64,Sh.int .i64] 0) (br (decide (xeY b a*32<=140737488355328)&&decide (xeY b a<=4611686018427387904)) (br (decide (0+xeY b a<=xeY b a)&&true&&true&&true&&true) (br (rmB d c 1 88) (κl (d+1,i64.wrap (a+1),c++[AV.agg [AV.int .i64 (i64.wrap (first+a)),AV.int .i64 e,AV.list 3 (List.take (xeY b a) (List.drop 0 (gC b a 0).toList)),AV.int .i64 (gC b a 1).toInt,AV.int .i64 (gC b a 2).toInt,AV.int .i64 g,AV.int .i64 1099511627776,AV.int .i64 f,AV.int .i64 0]])) δ) δ) δ) δ) δ) (κr (d,c))
def xd1 (first a d e f g:Int) (h:LA) (i:Int):StT (Nat×Int×LA) (Nat×LA):=fun (c,j,b)=>xjF first a d e f g h i c j b none inL inR
def xqy:=xtv.l 93 0 [4000054,58,5000030,6000009] [(6,xlJ.lp)] Tryz.f22 1 lk0 [4,5,9,15,65,66,67] [15] [(15,9,58)] (q7 qI qI (xMA 10 0 0 (q1 (xMu (q10 qI qI qI qI pNils pNils pNils pNils pNils pNils)))) (xMs 0 0 0) (qL 3) qI qI) (q1 (qB 0 9 58 xMk)) (fun (first,a,((d,e,f,g,_,_,_,_,_,_,_),_),c,h,i,j,_) (b,_)=>(xd1 first a d e f g h i,(c,j,b),fun p=>(.leaf (.exit 2) [AV.osl 0 0 0 p.1] [bF 0 9 58 p.2]))) (0,[]) fun (first,a,((d,e,f,g,_,_,_,_,_,_,_),_),_,h,i,_,_) _ (c,j,b)=>(((first,a,((d,e,f,g,(),(),(),(),(),(),()),()),c,h,i,j,()),(b,())),xjF first a d e f g h i c j b none)
def xgM:Env:=xtv.E.fn 93 0 (lsOf [4000054,58,5000030,6000009]) (xLV [(6,xlJ.lp),(15,xqy.lp)])
theorem xus:xLz P0 (xMf.at 0) xgM:=xtv.ok.fn
theorem xtj:LoOk P0 (xMf.at xgM.pin) xgM (Tryz.f22.body.getD .skip):=xkR (ls:=[xLD Tryz.f22 0,xLD Tryz.f22 1]) (by kernel_rfl) (lkC xlJ.ok (lkC xqy.ok lkN))
def xoV (l g d:LA) (f a b e first c:Int):=Iter (xfe g d first c f a b e l (↑l.length:Int)) (0,0,[])
def xoU (l g d:LA) (f a b e first c:Int):=(xoV l g d f a b e first c).getD (0,[])
def xoT (l g a:LA) (f b c e first d:Int):=Iter (xd1 first d f b c e a (↑a.length:Int)) ((xoU l g a f b c e first d).fst,0,(xoU l g a f b c e first d).snd)
def xoS (l g d:LA) (f a b e first c:Int):=(xoT l g d f a b e first c).getD (0,[])
def xoQ (l g d:LA) (f a b e first c:Int):=(xoS l g d f a b e first c).snd
def xoR (l g d:LA) (f a b e first c:Int):=(xoS l g d f a b e first c).fst
def xma {T:Type} (l g c:LA) (f a b d first e:Int) (δ:T) (κ:Bool×(Int)×(LA×Int)->T):T:=br ((xjx l g c f a b d).isSome) (br ((xjx l g c f a b d).getD 0 != 0) (κ (true,((xjx l g c f a b d).getD 0),([],0))) (br ((xoV l g c f a b d first e).isSome) (br ((xoT l g c f a b d first e).isSome) (br (decide (0+xoR l g c f a b d first e<=(xoQ l g c f a b d first e).length)&&true) (κ (false,0,(List.take (xoR l g c f a b d first e) (List.drop 0 (xoQ l g c f a b d first e)),0))) δ) δ) δ)) δ
def xgJ (l g d:LA) (f a b e first c:Int):Option (LA×Int):=xma l g d f a b e first c none (fun (p:Bool×(Int)×(LA×Int))=>some (br p.1 (([],p.2.1)) p.2.2))
theorem xzh (l g d:LA) (f a b e first c:Int):EncS (fun (p:LA×Int)=>(AV.tuple [AV.list 9 p.1,AV.int .i64 p.2]:AV)) (xgJ l g d f a b e first c) (XF P0 xgM Tryz.f22 (Tryz.f22.body.getD .skip) [AV.list 9 l,AV.list 1 g,AV.list 3 d,AV.agg [AV.int .i64 f,AV.int .i64 a,AV.int .i64 b,AV.int .i64 e,AV.nils,AV.nils,AV.nils,AV.nils,AV.nils,AV.nils],AV.int .i64 first,AV.int .i64 c]):=by
 have h:XF P0 xgM Tryz.f22 (Tryz.f22.body.getD .skip) [AV.list 9 l,AV.list 1 g,AV.list 3 d,AV.agg [AV.int .i64 f,AV.int .i64 a,AV.int .i64 b,AV.int .i64 e,AV.nils,AV.nils,AV.nils,AV.nils,AV.nils,AV.nils],AV.int .i64 first,AV.int .i64 c]=xma l g d f a b e first c none (fun (p:Bool×(Int)×(LA×Int))=>some ((br p.1 (AV.tuple [AV.nils,AV.int .i64 p.2.1]) (AV.tuple [AV.list 9 p.2.2.1,AV.int .i64 p.2.2.2])):AV)):=by kernel_rfl
 rw [h];unfold xgJ xma;repeat' (first|exact EncS.none|exact EncS.some (Sub.refl _)|exact EncS.some (xs2 _)|exact EncS.some (xzC _ _)|refine EncS.br ?_ ?_)
def xzg:LA->Option (Bool×AV):=ocOf (xMh (xMw 9 xMk) (xMh (xMw 1 xMk) (xMh (xMw 3 xMk) (xMh (xMy (xMh (sEq (pInt .i64)) (xMh (sEq (pInt .i64)) (xMh (sEq (pInt .i64)) (xMh (sEq (pInt .i64)) (xMh (sEq pNils) (xMh (sEq pNils) (xMh (sEq pNils) (xMh (sEq pNils) (xMh (sEq pNils) (xMh (sEq pNils) xMj))))))))))) (xMh (sEq (pInt .i64)) (xMh (sEq (pInt .i64)) xMj)))))) fun (l,(g,(d,((f,(a,(b,(e,(_,(_,(_,(_,(_,(_,_)))))))))),(first,(c,_))))))=>((xgJ l g d f a b e first c).isSome,(AV.tuple [AV.list 9 ((xgJ l g d f a b e first c).getD ([],0)).1,AV.int .i64 ((xgJ l g d f a b e first c).getD ([],0)).2]))
theorem xzf:OcOk P0 xMf 22 (xzg):=xhm fun i q j=>by
 obtain ⟨l,⟨o,⟨g,⟨⟨k,⟨a,⟨b,⟨h,⟨_,⟨_,⟨_,⟨_,⟨_,⟨_,_⟩⟩⟩⟩⟩⟩⟩⟩⟩⟩,⟨first,⟨c,_⟩⟩⟩⟩⟩⟩:=i
 obtain ⟨e,f⟩:=Prod.mk.inj j;obtain ⟨y,m,n⟩:=xzh _ _ _ _ _ _ _ _ _ _ (xbF (d:=([],0)) e);have hg:Good P0 xMf 22 _ _:=xfj (p:=xgM.pin) (xhj xLI (xLJ P0 _) rfl xus Tryz.func22 rfl (by kernel_rfl) xtj m)
 rw [<-f];exact Good.sub hg n
def xIJ:EO:=xtv.w xzf
def xhB (a b t:Int):Bool:=(br (xbb a b) (br (decide (t>=a)) ((decide (t<b))) ((false))) ((false)))
def xuz {T:Type} (a b t:Int) (δ:T) (κ:Bool->T):T:=br (xbb a b) (br (decide (t>=a)) (κ (decide (t<b))) (κ (false))) (κ (false))
def xJN:EO:=xIJ.fT Tryz.func104 19 0 [] [] lk0 (fun ((a,b,_),t,_)=>xuz a b t none) (u2 (xMy (u2 uI uI)) uI) (fun ((a,b,_),t,_)=>xhB a b t) (fun _ p=>(AV.bool p))
def xrR (f t b a c:Int):Bool:=((xhB f t a))
def xzs {T:Type} (f t b a c:Int) (δ:T) (κ:Bool->T):T:=κ (xhB f t a)
def xJO:EO:=xJN.fT Tryz.func103 8 0 [] [] lk0 (fun ((f,t,_),((b,a,c,_),_),_)=>xzs f t b a c none) (u2 (xMy (u2 uI uI)) (sEq (xMA 3 0 0 (q1 (xMu (q3 qI qI qI)))))) (fun ((f,t,_),((b,a,c,_),_),_)=>xrR f t b a c) (fun _ p=>(AV.bool p))
def xtZ (a:Int):Int×Int×Int:=((1,a,0))
def xBy {T:Type} (a:Int) (δ:T) (κ:Int×Int×Int->T):T:=κ (1,a,0)
def xG7:EO:=xJO.fT Tryz.func87 24 0 [] [] lk0 (fun ((_,a,_,_),_)=>xBy a none) (u1 (xMy (u3 (sEq (pIntL IntKind.i64 1)) uI (sEq (pIntL IntKind.i64 0))))) (fun ((_,a,_,_),_)=>xtZ a) (fun _ p=>(AV.agg [AV.func 103 [AV.eptr 3 [AV.agg [AV.int .i64 p.1,AV.int .i64 p.2.1,AV.int .i64 p.2.2]] 0 0]]))
def xfg (a:LA) (b:Int):Nat:=0+(gC a b 2).toList.length
def xhA {T:Type} (b:LA) (h:Int) (d:Nat) (a e f g:Int) (c:LA) (δ:T) (κl:(Nat×Int×Int×Int×Int×LA)->T) (κr:(Nat×LA)->T):T:=br (decide (a<h)) (br (ixI b a) (br (ixT b a 9 [Sh.int .i64,Sh.int .i64,Sh.list 3,Sh.int .i64,Sh.int .i64,Sh.int .i64,Sh.int .i64,Sh.int .i64,Sh.int .i64] 0) (br (xbb (gC b a 5).toInt (gC b a 6).toInt) (br (xrR (gC b a 5).toInt (gC b a 6).toInt e f g) (br (decide (xfg b a*32<=140737488355328)&&decide (xfg b a<=4611686018427387904)) (br (decide (0+xfg b a<=([]++(gC b a 2).toList).length)&&true) (br (rmB d c 1 88) (κl (d+1,i64.wrap (a+1),e,f,g,c++[AV.agg [AV.int .i64 (gC b a 0).toInt,AV.int .i64 (gC b a 1).toInt,AV.list 3 (List.take (xfg b a) (List.drop 0 ([]++(gC b a 2).toList))),AV.int .i64 (gC b a 3).toInt,AV.int .i64 (gC b a 4).toInt,AV.int .i64 (gC b a 5).toInt,AV.int .i64 (gC b a 6).toInt,AV.int .i64 (gC b a 7).toInt,AV.int .i64 (gC b a 8).toInt]])) δ) δ) δ) (κl (d,i64.wrap (a+1),e,f,g,c))) (κl (d,i64.wrap (a+1),e,f,g,c))) δ) δ) (κr (d,c))
def xdd (c:LA) (d:Int):StT (Nat×Int×Int×Int×Int×LA) (Nat×LA):=fun (b,e,f,g,h,a)=>xhA c d b e f g h a none inL inR
def xoK:=xG7.l 38 0 [4000054] [] Tryz.f66 0 lk0 [5,6,11,12,13] [6] [(6,9,58)] (q5 (xMt 0 0 0 0) (xMs 1 0 0) (qL 9) qI qI) (q2 (qB 0 1 119 (q1 (xMu (q1 (xLW 103 (q1 (xMA 3 0 0 (q1 (xMu (q3 qI qI qI)))))))))) (qB 0 9 58 xMk)) (fun (_,b,c,d,e,_) ((((((f,g,h,_),_),_),_),_),a,_)=>(xdd c d,(b,e,f,g,h,a),fun p=>(.leaf (.exit 0) [AV.osl 0 0 0 p.1] [bF 0 9 58 p.2]))) (0,[]) fun (_,_,c,d,_,_) _ (b,e,f,g,h,a)=>((((),b,c,d,e,()),((((((f,g,h,()),()),()),()),()),a,())),xhA c d b e f g h a none)
def xmX (l:LA) (a:Int):=Iter (xdd l (↑l.length:Int)) (0,0,1,(xtZ a).snd.fst,0,[])
def xmW (l:LA) (a:Int):=(xmX l a).getD (0,[])
def xmU (l:LA) (a:Int):=(xmW l a).snd
def xmV (l:LA) (a:Int):=(xmW l a).fst
def xnO {T:Type} (l:LA) (a:Int) (δ:T) (κ:LA->T):T:=br ((xmX l a).isSome) (br (decide (0+xmV l a<=(xmU l a).length)&&true) (κ (List.take (xmV l a) (List.drop 0 (xmU l a)))) δ) δ
def xhl (l:LA) (a:Int):=xnO l a none some
def xG8:EO:=xG7.f Tryz.func66 38 0 [4000054] [(4,xoK.lp)] (lk1 xoK.ok) (u2 (uL 9) (xMy (u3 (sEq (pIntL IntKind.i64 1)) uI (sEq (pIntL IntKind.i64 0))))) (fun (l,(_,a,_,_),_) _=>xnO l a) (fun _ p=>AV.list 9 p) []
def xdl (a:LA) (b:Int):=(gC a b 2).toList.length
def xiy {T:Type} (c:LA) (e:Int) (d:Nat) (a:Int) (b:LA) (δ:T) (κl:(Nat×Int×LA)->T) (κr:(Nat×LA)->T):T:=br (decide (a<e)) (br (ixI c a) (br (ixT c a 9 [Sh.int .i64,Sh.int .i64,Sh.list 3,Sh.int .i64,Sh.int .i64,Sh.int .i64,Sh.int .i64,Sh.int .i64,Sh.int .i64] 0) (br (decide (xdl c a*32<=140737488355328)&&decide (xdl c a<=4611686018427387904)) (br (decide (0+xdl c a<=xdl c a)&&true&&true&&true&&true) (br (rmB d b 1 40) (κl (d+1,i64.wrap (a+1),b++[AV.agg [AV.list 3 (List.take (xdl c a) (List.drop 0 (gC c a 2).toList)),AV.int .i64 (gC c a 3).toInt,AV.int .i64 (gC c a 4).toInt]])) δ) δ) δ) δ) δ) (κr (d,b))
def xcB (c:LA) (d:Int):StT (Nat×Int×LA) (Nat×LA):=fun (b,e,a)=>xiy c d b e a none inL inR
def xpG:=xG8.l 24 0 [60] [] Tryz.f65 0 lk0 [3,6,7,8] [3] [(3,3,60)] (q4 (xMs 0 0 0) (qL 9) qI qI) (q1 (qB 0 3 60 xMk)) (fun (b,c,d,e,_) (a,_)=>(xcB c d,(b,e,a),fun p=>(.leaf (.exit 0) [AV.osl 0 0 0 p.1] [bF 0 3 60 p.2]))) (0,[]) fun (_,c,d,_,_) _ (b,e,a)=>(((b,c,d,e,()),(a,())),xiy c d b e a none)
def xnN (l:LA):=(Iter (xcB l (↑l.length:Int)) (0,0,[])).getD (0,[])
def xnL (l:LA):=(xnN l).snd
def xnM (l:LA):=(xnN l).fst
def xox {T:Type} (l:LA) (δ:T) (κ:LA->T):T:=br ((Iter (xcB l (↑l.length:Int)) (0,0,[])).isSome) (br (decide (0+xnM l<=(xnL l).length)&&true) (κ (List.take (xnM l) (List.drop 0 (xnL l)))) δ) δ
def xkV (l:LA):=xox l none some
def xJP:EO:=xG8.f Tryz.func65 24 0 [60] [(3,xpG.lp)] (lk1 xpG.ok) (u1 (uL 9)) (fun (l,_) _=>xox l) (fun _ p=>AV.list 3 p) []
def xo0 {T:Type} (l:LA) (a:Int) (δ:T) (κ:LA->T):T:=br ((xhl l a).isSome) (br ((xkV ((xhl l a).getD [])).isSome) (br ((xbm ((xkV ((xhl l a).getD [])).getD [])).isSome) (κ ((xbm ((xkV ((xhl l a).getD [])).getD [])).getD [])) δ) δ) δ
def xbZ (l:LA) (a:Int):=xo0 l a none some
def xJQ:EO:=xJP.f Tryz.func33 11 0 [] [] lk0 (u2 (uL 9) uI) (fun (l,a,_) _=>xo0 l a) (fun _ p=>AV.list 3 p) []
def xrP {T:Type} (l:LA) (δ:T) (κ:Bool->T):T:=br ((xl6 l).isSome) (br ((xnf ((xl6 l).getD []) 16).isSome) (κ ((xnf ((xl6 l).getD []) 16).getD false)) δ) δ
def xrF (l:LA):=xrP l none some
def xD3:EO:=xJQ.f Tryz.func9 6 0 [] [] lk0 (u1 (uL 9)) (fun (l,_) _=>xrP l) (fun _ p=>AV.bool p) false
def xjN (l:LA) (a i:Int):Int:=if (gC l i 5).toInt>a then (gC l i 5).toInt else a
def xgV (l:LA) (i:Int):Int:=if (gC l i 8).toInt>(gC l i 7).toInt then (gC l i 8).toInt else (gC l i 7).toInt
def xb7 (l:LA) (i:Int):=ixI l i
def xks {T:Type} (l:LA) (a c b i:Int) (δ:T) (κl:(Int×Int×Int×Int)->T) (κr:(Int×Int×Int)->T):T:=br (decide (i<l.length)) (br (xb7 l i) (br (ixS l i (Sh.int .i64) 5) (br (xb7 l i) (br (ixS l i (Sh.int .i64) 6) (br (decide ((gC l i 6).toInt<1099511627776)) (br (xb7 l i) (br (ixS l i (Sh.int .i64) 6) (br (xb7 l i) (br (ixS l i (Sh.int .i64) 7) (br (xb7 l i) (br (ixS l i (Sh.int .i64) 8) (br (xb7 l i) (br (ixS l i (Sh.int .i64) 0) (κl (if (gC l i 6).toInt>xjN l a i then (gC l i 6).toInt else xjN l a i,if xgV l i>c then xgV l i else c,if (gC l i 0).toInt>b then (gC l i 0).toInt else b,i64.wrap (i+1))) δ) δ) δ) δ) δ) δ) δ) δ) (br (xb7 l i) (br (ixS l i (Sh.int .i64) 7) (br (xb7 l i) (br (ixS l i (Sh.int .i64) 8) (br (xb7 l i) (br (ixS l i (Sh.int .i64) 0) (κl (xjN l a i,if xgV l i>c then xgV l i else c,if (gC l i 0).toInt>b then (gC l i 0).toInt else b,i64.wrap (i+1))) δ) δ) δ) δ) δ) δ)) δ) δ) δ) δ) (κr (a,c,b))
def xez (l:LA):StT (Int×Int×Int×Int) (Int×Int×Int):=fun (a,c,b,i)=>xks l a c b i none inL inR
def xq6:=xD3.l 61 0 [] [] Tryz.f32 0 lk0 [0,5,6,7,8] [5,6,7] [] (q5 (qL 9) qI qI qI qI) xMi (fun (l,a,c,b,i,_) _=>(xez l,(a,c,b,i),fun p=>(.leaf (.exit 0) [AV.int .i64 p.1,AV.int .i64 p.2.1,AV.int .i64 p.2.2] []))) (0,0,0) fun (l,_,_,_,_,_) _ (a,c,b,i)=>(((l,a,c,b,i,()),()),xks l a c b i none)
def xqf (l:LA):=Iter (xez l) (0,0,0,0)
def xqe (l:LA):=(xqf l).getD (0,0,0)
def xqd (l:LA):=(xqe l).snd
def xq7 {T:Type} (l:LA) (δ:T) (κ:Int×Int×Int->T):T:=br ((xqf l).isSome) (κ ((xqe l).fst,(xqd l).fst,(xqd l).snd)) δ
def xgq (l:LA):=xq7 l none some
def xD4:EO:=xD3.f Tryz.func32 61 0 [] [(3,xq6.lp)] (lk1 xq6.ok) (u1 (uL 9)) (fun (l,_) _=>xq7 l) (fun _ p=>AV.tuple [AV.int .i64 p.1,AV.int .i64 p.2.1,AV.int .i64 p.2.2]) (0,0,0)
end Go.Sim.M
namespace Go.Sim
def stepX (P:Program) (E:Env) (live liveO:List Nat) (conv:List (Nat×Nat×TypeId)) (c:Code) (s:List AV×List Box):Option ((List AV×List Box)⊕{r:Exit×List AV×List Box // r.1≠.normal}) :=
 match XR P E live liveO conv c s.1 s.2 with
 | some (.normal,v,H)=>some (.inl (v,H))
 | some (.exit i,v,H)=>some (.inr ⟨(.exit i,v,H),by simp⟩)
 | some (.ret,v,H)=>some (.inr ⟨(.ret,v,H),by simp⟩)
 | _=>none
def closedLp (P:Program) (E:Env) (live liveO:List Nat) (conv:List (Nat×Nat×TypeId)) (c:Code) (n:Nat):Lp:=⟨live,liveO,conv,fun vals H =>
 match iterN (stepX P E live liveO conv c) n (vals,H) with
 | some r=>some (true,.leaf r.1.1 r.1.2.1 r.1.2.2)
 | none=>none⟩
theorem xuH {P:Program} {Inv:IV} {E:Env} (U:P.follows .mixedOrders=true) (Q:InvOk Inv) (q:Inv.pin=E.pin) (J:xLz P Inv E) {c:Code} (O:LoOk P Inv E c) {live liveO:List Nat} {conv:List (Nat×Nat×TypeId)} {n:Nat} :
  LoopOk P Inv E.nt c (closedLp P E live liveO conv c n):=fun vals H r h=>by
 simp only [closedLp] at h;split at h
 case h_2=>simp at h
 rename_i r0 hr;simp only [z6,zb,true_and] at h;subst h;exact xwg U Q q J O (σ:=List AV×List Box) (ρ:={r:Exit×List AV×List Box // r.1≠.normal}) (step:=stepX P E live liveO conv c) (fun s=>s) (fun r=>.leaf r.1.1 r.1.2.1 r.1.2.2) (fun r=>r.2)
  (fun s r hs=>by
   unfold stepX at hs;split at hs<;>simp only [z6,reduceCtorEq] at hs;all_goals (subst hs;rename_i hx;exact hx)) (s:=(vals,H)) (r:=r0) (xoY.2 ⟨n,hr⟩)
end Go.Sim
namespace Go.Sim.M
open Go.RowKit Go.Proofs
def mmA (g:FuncId):Bool:=([123,125,
 114,138,151,
 90,112,128,
 110,127,144,
 49,76,95,
 116,89,122,100,47]:List Nat).contains g
noncomputable def EA0:Env:={ E0 with ls:=lsOf [54,60,124,58],fuel:=1000 }
theorem xzF:xLz P0 xMf EA0:=xGx
noncomputable def runA (E:Env) (fn:Func):List AV->Option (Bool×AV):=fun xs=>match XF P0 E fn (fn.body.getD .skip) xs with
 | some r=>some (true,r)
 | none=>none
theorem xsq {E:Env} {f:FuncId} {fn:Func} (O:xLz P0 (xMf.at 0) E) (J:E.pin=0) (hf:P0.funcs[f]?=some fn) (hb:fn.body.isSome=true) (q:(fn.name == "runtime.NumGoroutine")=false) (Q:LoOk P0 (xMf.at 0) E (fn.body.getD .skip)):OcOk P0 xMf f (runA E fn):=fun xs r h=>by
 unfold runA at h;split at h
 case h_2=>simp at h
 rename_i r0 hr;simp only [z6,zb,true_and] at h;subst h;exact xfj (p:=0) (xhj xLI (xLJ P0 _) J.symm O hf hb q Q hr)
noncomputable def EAr:Env:={ Env.deep P0 mmA EA0 10 with pin:=0,nt:=60,ls:=lsOf [] }
theorem xDX:xLz P0 (xMf.at 0) EAr:=xlz xLI mmA (xLJ P0 0) xzF (fun _=>rfl) 10
noncomputable def xDW:Lp:=closedLp P0 EAr [3,4,11,12,13] [4] [(4,2,240654483580)] (xLD Tryz.f88 0) 100
noncomputable def EAr1:Env:={ EAr with lp:=xLV [(xLN (xLD Tryz.f88 0),xDW)] }
theorem xHi:xLz P0 (xMf.at 0) EAr1:=xDX
noncomputable def xCA:List AV->Option (Bool×AV):=runA EAr1 Tryz.f88
theorem xH6:OcOk P0 xMf 88 xCA:=xsq xHi rfl Tryz.func88 rfl (by kernel_rfl) (xkR (ls:=[xLD Tryz.f88 0]) (by kernel_rfl) (fun l hl lp hs=>by
 simp only [zC,List.not_mem_nil,or_false] at hl;subst hl;rw [show EAr1.lp (xLN (xLD Tryz.f88 0))=some xDW by kernel_rfl] at hs
 cases hs;exact xuH (E:=EAr) xLI (xLJ P0 _) rfl xDX (xkS fun _=>rfl)))
noncomputable def EAlv (p:Nat):Env:={ Env.deep P0 mmA EA0 6 with pin:=p,nt:=71,ls:=lsOf [] }
theorem xBV (p:Nat):xLz P0 (xMf.at p) (EAlv p):=xnd (xlz xLI mmA (xLJ P0 0) xzF (fun _=>rfl) 6)
noncomputable def xBU (p:Nat):Lp:=closedLp P0 (EAlv p) [0,1,2,3,4] [] [(3,0,0)] (xLD Tryz.f89 0) 100
noncomputable def EAlv1 (p:Nat):Env:={ EAlv p with lp:=xLV [(xLN (xLD Tryz.f89 0),xBU p)] }
theorem xFS (p:Nat):xLz P0 (xMf.at p) (EAlv1 p):=xBV p
noncomputable def xAp:List AV->List Box->Option (Bool×AV×List Box):=fun xs H=>match XFM P0 (EAlv1 H.length) Tryz.f89 (Tryz.f89.body.getD .skip) xs H with
 | some (r,H')=>some (true,r,H')
 | none=>none
theorem xJi:OmOk P0 xMf 89 xAp:=fun xs H r H' h=>by
 unfold xAp at h;split at h
 case h_2=>simp at h
 rename_i r0 H0 hr;simp only [z6,zb,true_and] at h;obtain ⟨rfl,rfl⟩:=h;refine xhy (p:=H.length) (xjw xLI (xLJ P0 _) rfl (xFS H.length) rfl Tryz.func89 rfl (by kernel_rfl) (xkR (ls:=[xLD Tryz.f89 0,xLD Tryz.f89 1]) (by kernel_rfl) (fun l hl lp hs=>?_)) hr)
 simp only [zC,List.not_mem_nil,or_false] at hl;rcases hl with rfl|rfl
 . rw [show (EAlv1 H.length).lp (xLN (xLD Tryz.f89 0))=some (xBU H.length) by kernel_rfl] at hs
   cases hs;exact xuH (E:=EAlv H.length) xLI (xLJ P0 _) rfl (xBV H.length) (xkS fun _=>rfl)
 . rw [show (EAlv1 H.length).lp (xLN (xLD Tryz.f89 1))=none by kernel_rfl] at hs
   simp at hs
noncomputable def EAs:Env:=(EA0.with 88 xCA).withM 89 xAp
theorem xDY:xLz P0 xMf EAs:=(xzF.with xH6).withM xJi
noncomputable def EAd:Env:={ Env.deep P0 mmA EAs 14 with pin:=0 }
theorem xzG:xLz P0 (xMf.at 0) EAd:=xnd (xlz xLI mmA (xLJ P0 0) xDY (fun _=>rfl) 14)
noncomputable def EAf:Env:={ EAd with nt:=18,ls:=lsOf [],lp:=xLV [(3000004,xiP)] }
theorem xIt:xLz P0 (xMf.at 0) EAf:=xzG
noncomputable def xys:List AV->Option (Bool×AV):=runA EAf Tryz.f12
theorem xEB:OcOk P0 xMf 12 xys:=xsq xIt rfl Tryz.func12 rfl (by kernel_rfl) (xqO (ls:=[]) (by kernel_rfl) (fun l hl=>by simp at hl) (lp0:=xiP) xrC (by kernel_rfl))
noncomputable def EAg:Env:={ EAd with nt:=16,ls:=lsOf [],lp:=xLV [(3000003,xj0)] }
theorem xIu:xLz P0 (xMf.at 0) EAg:=xzG
noncomputable def xCg:List AV->Option (Bool×AV):=runA EAg Tryz.f78
theorem xHL:OcOk P0 xMf 78 xCg:=xsq xIu rfl Tryz.func78 rfl (by kernel_rfl) (xqO (ls:=[]) (by kernel_rfl) (fun l hl=>by simp at hl) (lp0:=xj0) xsj (by kernel_rfl))
noncomputable def EAb:Env:={ EAd with nt:=67,ls:=lsOf [58],lp:=xLV [(3000007,xek)] }
theorem xIr:xLz P0 (xMf.at 0) EAb:=xzG
noncomputable def xB2:List AV->Option (Bool×AV):=runA EAb Tryz.f18
theorem xHz:OcOk P0 xMf 18 xB2:=xsq xIr rfl Tryz.func18 rfl (by kernel_rfl) (xqO (ls:=[xLD Tryz.f18 0,xLD Tryz.f18 1]) (by kernel_rfl) (fun l hl lp hs=>by
 simp only [zC,List.not_mem_nil,or_false] at hl;rcases hl with rfl|rfl
 . rw [show EAb.lp (xLN (xLD Tryz.f18 0))=none by kernel_rfl] at hs
   simp at hs
 . rw [show EAb.lp (xLN (xLD Tryz.f18 1))=none by kernel_rfl] at hs
   simp at hs) (lp0:=xek) xqz (by kernel_rfl))
noncomputable def EAt:Env:=((EAs.with 12 xys).with 78 xCg).with 18 xB2
theorem xDZ:xLz P0 xMf EAt:=((xDY.with xEB).with xHL).with xHz
noncomputable def EAtd:Env:={ Env.deep P0 mmA EAt 14 with pin:=0 }
theorem xBW:xLz P0 (xMf.at 0) EAtd:=xnd (xlz xLI mmA (xLJ P0 0) xDZ (fun _=>rfl) 14)
noncomputable def EAa:Env:={ EAtd with ls:=lsOf [4000054,58,5000030,6000009] }
noncomputable def xzT:List AV->Option (Bool×AV):=runA EAa Tryz.f22
theorem xFV:OcOk P0 xMf 22 xzT:=xsq (E:=EAa) xBW rfl Tryz.func22 rfl (by kernel_rfl) (xkS fun _=>rfl)
noncomputable def EAo:Env:={ EAtd with ls:=lsOf [4000054] }
noncomputable def xCH:List AV->Option (Bool×AV):=runA EAo Tryz.f26
theorem xIo:OcOk P0 xMf 26 xCH:=xsq (E:=EAo) xBW rfl Tryz.func26 rfl (by kernel_rfl) (xkS fun _=>rfl)
noncomputable def EAv:Env:={ (EAt.with 22 xzT).with 26 xCH with ls:=EA0.ls }
theorem xIv:xLz P0 xMf EAv:=(xDZ.with xFV).with xIo
noncomputable def EAe:Env:={ Env.deep P0 mmA EAv 14 with pin:=0 }
theorem xIs:xLz P0 (xMf.at 0) EAe:=xnd (xlz xLI mmA (xLJ P0 0) xIv (fun _=>rfl) 14)
theorem xHw:XF P0 EAe Tryz.f10 (Tryz.f10.body.getD .skip) []=some (.bool true):=by kernel_rfl
def xw3:List AV->Option (Bool×AV)
 | []=>some (true,.bool true)
 | _=>none
theorem xHv:OcOk P0 xMf 10 xw3:=fun xs r h=>by
 unfold xw3 at h;split at h
 . simp only [z6,zb,true_and] at h;subst h;exact xfj (p:=0) (xhj xLI (xLJ P0 _) rfl xIs Tryz.func10 rfl (by kernel_rfl) (xkS fun _=>rfl) xHw)
 . simp at h
noncomputable def EEW:Env:=xD4.E.with 10 xw3
theorem xIw:xLz Tryz.prog xMf EEW:=xD4.ok.with xHv
end Go.Sim.M
namespace Go.Sim.M
open Go.IntKind (i64 u64 u8)
open Go.RowKit Go.Proofs
def xco (l:LA):=i64.wrap (((xgq l).getD (0,0,0)).fst+1)
def xfV (l:LA):=i64.wrap (((xgq l).getD (0,0,0)).snd.fst+1)
def xfS (l a:LA):=xgJ l ((xcK l a).getD ([],[])).fst ((xcK l a).getD ([],[])).snd (xfV l) (xco l) 0 0 (i64.wrap (((xgq l).getD (0,0,0)).snd.snd+1)) 0
def xfR (l a:LA):=(xfS l a).getD ([],0)
def xaV (l a:LA):=(xfR l a).fst
def xfU (l a:LA):=xsD (xaV l a) (xfV l)
def xfT (l a:LA):=xk4 ((xfU l a).getD []) l
def xib {T:Type} (l a:LA) (δ:T) (κ:Bool->T):T:=br ((xfU l a).isSome) (br ((xfT l a).isSome) (br ((xfT l a).getD false) (κ (true)) (κ (false))) δ) δ
def xjM {T:Type} (l a:LA) (b:Int) (δ:T) (κ:Bool->T):T:=br ((xrF l).isSome) (br (!(xrF l).getD false) (κ (true)) (br ((xnf a 16).isSome) (br (!(xnf a 16).getD false) (κ (true)) (br ((xpy l).isSome) (br ((xpy l).getD 0 != 0) (κ (true)) (br ((xom l).isSome) (br (!(xom l).getD false) (κ (true)) (br ((xgq l).isSome) (br (decide (((xgq l).getD (0,0,0)).fst>=1099511627775)) (κ (true)) (br (decide (((xgq l).getD (0,0,0)).snd.fst>=1125899906842624)) (κ (true)) (br (decide (((xgq l).getD (0,0,0)).snd.snd>=1125899906842624)) (κ (true)) (br ((xcK l a).isSome) (br ((xfS l a).isSome) (br ((xfR l a).snd != 0) (κ (false)) (br ((xl1 (xaV l a)).isSome) (br ((xl1 (xaV l a)).getD 0 != 0) (κ (false)) (br ((xeK (xaV l a)).isSome) (br ((xgL a).isSome) (br ((xcx ((xeK (xaV l a)).getD []) ((xgL a).getD [])).isSome) (br (!(xcx ((xeK (xaV l a)).getD []) ((xgL a).getD [])).getD false) (κ (false)) (br ((xbZ (xaV l a) (xco l)).isSome) (br ((xgL a).isSome) (br ((xcx ((xbZ (xaV l a) (xco l)).getD []) ((xgL a).getD [])).isSome) (br (!(xcx ((xbZ (xaV l a) (xco l)).getD []) ((xgL a).getD [])).getD false) (κ (false)) (br (decide (b>=xco l)) (xib l a δ κ) (br ((xbZ (xaV l a) b).isSome) (br ((xbZ l b).isSome) (br ((xcx ((xbZ (xaV l a) b).getD []) ((xbZ l b).getD [])).isSome) (br ((xcx ((xbZ (xaV l a) b).getD []) ((xbZ l b).getD [])).getD false) (xib l a δ κ) (κ (false))) δ) δ) δ))) δ) δ) δ)) δ) δ) δ)) δ)) δ) δ)))) δ)) δ)) δ)) δ)) δ
def xkP (l a:LA) (b:Int):=xjM l a b none some
def xsL:LA->Option (Bool×AV):=fnO (u3 (uL 9) (uL 3) uI) (fun (l,a,b,_) _=>xjM l a b) (fun _ p=>AV.bool p) false
theorem xsK:OcOk P0 xMf 8 xsL:=fnC xIw Tryz.func8 121 0 [] [] lk0
end Go.Sim.M
