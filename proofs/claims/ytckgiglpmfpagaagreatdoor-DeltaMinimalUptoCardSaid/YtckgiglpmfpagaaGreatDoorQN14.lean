/- Part 14 of the proof of the law. -/
import Derived.Test.YtckgiglpmfpagaaGreatDoorQN13
import Derived.RangeFuncSeq
set_option linter.unusedVariables false
set_option linter.unusedSimpArgs false
set_option linter.unnecessarySimpa false
set_option maxRecDepth 100000
noncomputable section
namespace Go.Sim
open Go.RowKit
theorem Ev.mv {w w':World} {A A':Nat->Prop} {M M':Id->Option MB} {B n:Nat} {H:List Box} {av:Nat->Prop} (hR:HR w A M B H) (he:Ev ⟨av,w,A,M,n⟩ w' A' M') (hn:H.length<=n):Mv w A M w' A' M' :=
 ⟨he.size,fun b hb hA=>he.keep b hb (.inl hA),he.less,he.more,fun id m hm=>he.ids id m (by
  obtain ⟨bx,h1,_⟩:=hR.box id m hm;exact Nat.lt_of_lt_of_le (xlP h1) hn) hm,⟨fun b hb q=>he.keep b hb (.inr q),he.src⟩⟩
theorem Ev.over {av V:Nat->Prop} {W W2 W2b W3 W3b:World} {A1 A2 A3:Nat->Prop} {M1 M2 M3:Id->Option MB} {n l:Nat} (h1:Ev ⟨av,W,A1,M1,n⟩ W2 A2 M2) (h2:Ev ⟨V,W2b,A2,M2,n⟩ W3 A3 M3)
  (hb:∀ b,b≠l->W2b.heap[b]?=W2.heap[b]?) (hs:W2b.heap.size=W2.heap.size) (h3:∀ b,b≠l->W3b.heap[b]?=W3.heap[b]?) (Z:W3b.heap.size=W3.heap.size) (hl:W3b.heap[l]?=W.heap[l]?):Ev ⟨av,W,A1,M1,n⟩ W3b A3 M3:=by
 have hsz:W.heap.size<=W2.heap.size:=h1.size;have Y:W2b.heap.size<=W3.heap.size:=h2.size;have out:∀ b,b<W.heap.size->(∀ id m,M1 id=some m->0<m.cap->m.b≠b)->∀ id m,M2 id=some m->0<m.cap->m.b≠b:=fun b hb O id m hi h0 e=>by
  rcases h1.src id m hi h0 with ⟨i,m1,e1,e2,e3⟩|e1
  . exact O i m1 e1 e2 (by rw [<-e3,e])
  . simp only at e1;omega
 refine ⟨?_,fun b q J=>?_,fun b q hA=>?_,fun b q hA O=>?_,fun id m hi hm=>?_,fun id m' hi h0=>?_⟩
 . show W.heap.size<=W3b.heap.size;omega
 . simp only at q J |-;by_cases Q:b=l
   . rw [Q,hl]
   . have U:W3.heap[b]?=W2b.heap[b]?:=h2.keep b (by simp only [];omega) (by
      rcases J with J|J
      . exact .inl fun h=>J (h1.less b q h)
      . exact .inr (out b q J))
     rw [h3 b Q,U,hb b Q];exact h1.keep b q J
 . simp only at q;exact h1.less b q (h2.less b (by simp only [];omega) hA)
 . simp only at q hA O;exact h2.more b (by simp only [];omega) (h1.more b q hA O) (out b q O)
 . obtain ⟨m1,e1,e2⟩:=h1.ids id m hi hm;obtain ⟨m2,e3,e4⟩:=h2.ids id m1 hi e1;refine ⟨m2,e3,?_⟩;rcases e2 with rfl|e2<;>rcases e4 with rfl|e4
   . exact .inl rfl
   . exact .inr e4
   . exact .inr e2
   . exact .inr (Nat.lt_trans e2 e4)
 . rcases h2.src id m' hi h0 with ⟨i,m1,e1,e2,e3⟩|e1
   . rcases h1.src i m1 e1 e2 with ⟨i2,m2,g1,g2,g3⟩|g1
     . exact .inl ⟨i2,m2,g1,g2,by rw [e3,g3]⟩
     . exact .inr (by rw [e3];exact g1)
   . simp only at e1;exact .inr (by show W.heap.size<=_;omega)
theorem SR.grow {w0 w w':World} {A0:Cx} {A:Nat->Prop} {M:Id->Option MB} {s:St} {a:Act} (h:SR w0 A0 w A M s a) (hb:Below w.heap.size w w'):SR w0 A0 w' A M s a :=
 ⟨
  h.base.trans (hb.mono h.base.size),h.outer,h.size,fun t ht=>(h.tmps t ht).grow hb,h.heap.grow hb,h.defers.same fun D hD=>hb.block D (xdP hD),
  h.ev.step ⟨hb.size,fun b q _=>hb.block b q,fun _ _ h=>h,fun _ _ h _=>h,MExt.refl M,.of_new hb fun _ _ h=>.inl h⟩⟩
def IterC (P:Program) (Inv:IV) (fo:FuncId) (cl:AV) (xs:List AV) (op:AV->Bool):Prop :=
 Enters P fo/\∀ (w:World) (A:Nat->Prop) (lv:Value),Rel w A xHg lv cl->∀ (l:Nat) (J:List AV->(Nat->Prop)->World->Prop) (Jx:List AV->World->Prop),
  (∀ pre A W W',J pre A W->Below W.heap.size W W'->J pre A W')->(∀ pre W W',Jx pre W->Below W.heap.size W W'->Jx pre W') ->
  (∀ pre A W,J pre A W->Inv W/\∀ b,A b->b<W.heap.size)->(∀ pre W,Jx pre W->Inv W) ->
  (∀ pre v x suf A W,pre++x::suf=xs.filter op->J pre A W->Rel W A xHg v x->YieldAt Fence.wide 0 P l #[v] W fun e W' =>
   (e=.returned (.bool true)/\∃ A',J (pre++[x]) A' W'/\W.heap.size<=W'.heap.size/\(∀ b,b<W.heap.size->A' b->A b)/\∀ b,b<W.heap.size->¬ A b->W'.heap[b]?=W.heap[b]?) \/
   (e=.returned (.bool false)/\Jx (pre++[x]) W')) ->
  J [] A w->CallsIn Fence.wide 0 P fo #[.func (.yield l) #[] #[],lv] w fun e W'=>(∃ v,e=.returned v)/\((∃ A',J (xs.filter op) A' W')\/∃ pre suf,pre++suf=xs.filter op/\Jx pre W')
def stepS {σ ρ:Type} (step:σ->AV->σ⊕ρ):σ⊕ρ->AV->σ⊕ρ
 | .inl s,x=>step s x
 | .inr r,_=>.inr r
theorem xrO {σ ρ:Type} (step:σ->AV->σ⊕ρ) (r:ρ):∀ l:List AV,l.foldl (stepS step) (.inr r)=.inr r
 | []=>rfl
 | x::l=>by simp only [List.foldl_cons,stepS];exact xrO step r l
theorem xBP {L L':List Nat} (h:L.map rmark=L'.map rmark):L=L':=by
 induction L generalizing L' with
 | nil=>cases L'<;>simp_all
 | cons D L ih =>
  cases L' with
  | nil=>simp at h
  | cons D' L' =>
   simp only [zV,List.cons.injEq,rmark,Deferred.mk.injEq,Target.collected.injEq,and_true] at h;obtain ⟨rfl,h⟩:=h;rw [ih h]
theorem xrL {P:Program} {Inv:IV} (a7:InvOk Inv) (az:Inv.top=true) {fo:FuncId} {cl:AV} {xs:List AV} {op:AV->Bool} {g:Operand} {p:Tmp} {U Y:Code} {T:List AV} {n:Nat} {σ ρ:Type}
  (Hs:σ->List Box) (Ho:ρ->List Box) (step:σ->AV->σ⊕ρ) (al:∀ s,(Hs s).length=n) {s0:σ} (hit:IterC P Inv fo cl xs op) (bq:cl.pure=true) (hg:St.eval ⟨T,Hs s0⟩ g=.func fo [cl])
  (ah:∀ pre s x ae,pre++x::ae=xs.filter op->pre.foldl (stepS step) (.inl s0)=.inl s->Does P ⟨Inv.inv,n,false⟩ U (fun e s1=>e=.normal/\Does P ⟨Inv.inv,n,false⟩ Y (fun e s'=>match step s x with
   | .inl s2=>e=.normal/\∃ T',Weak n s' ⟨T',Hs s2⟩
   | .inr r=>e=.ret/\∃ T',Weak n s' ⟨T',Ho r⟩) s1) ⟨T.set p x,Hs s⟩) :
  Does P Inv (.rangeFunc g #[p] U Y) (fun e s'=>match (xs.filter op).foldl (stepS step) (.inl s0) with
   | .inl s=>e=.normal/\s'=⟨T,Hs s⟩
   | .inr r=>e=.ret/\s'=⟨T,Ho r⟩) ⟨T,Hs s0⟩:=by
 intro w0 A0 w A M a Qc hI bw hs hQ ro ao;have ao:=ao az;subst ao;rw [xAr];have ax:=hs.eval g;rw [hg] at ax;obtain ⟨cv,bo,bn,bp⟩:=ax.func_inv;have bi:∃ lv,cv=#[lv]:=by
  obtain ⟨l⟩:=cv;match l,bn with
  | [lv],_=>exact ⟨lv,rfl⟩
 obtain ⟨lv,rfl⟩:=bi;have a0:Rel w A xHg lv cl:=by
  have:=bp 0 (by simp)
  exact (show Rel w A M lv cl by simpa using this).pure bq
 have b0:=hs.heap.lt;obtain ⟨L0,a5,bz,a8⟩:=hs.defers;refine wpIn_rangeFunc ?_;intro fn b1;obtain ⟨q,O⟩:∃ q:LoopState->Option Code->Loop,q=fun st pe=>{ state:=st,pending:=pe,fn:=fn,tmps:=a.tmps,params:=#[p],assign:=U,body:=Y,defers:=w.heap.size }:=⟨_,rfl⟩
 obtain ⟨W1,ag⟩:∃ W1,(w.alloc (.deferred (some []))).alloc (.loop (q .ready none))=W1:=⟨_,rfl⟩;have bg:W1.heap[w.heap.size+1]?=some (.loop (q .ready none)):=by
  rw [<-ag];have:=World.alloc_heap_new (w.alloc (.deferred (some []))) (.loop (q .ready none));rwa [World.size_alloc] at this
 have bc:W1.heap[w.heap.size]?=some (.deferred (some [])):=by
  rw [<-ag];exact (Below.heap_alloc _ _ _ (by simp)).trans (World.alloc_heap_new w _)
 have au:Below w.heap.size w W1:=by
  rw [<-ag];exact ((Below.refl _ w).alloc (zd _) _).alloc (by simp) _
 have bh:w0.heap.size<=w.heap.size:=hs.base.size;have bb:A0.w1.heap.size<=w.heap.size:=hs.ev.size;let J:List AV->(Nat->Prop)->World->Prop:=fun pre A' W=>∃ s,pre.foldl (stepS step) (.inl s0)=.inl s/\(∃ M',SR w0 A0 W A' M' ⟨T,Hs s⟩ a)/\w.heap.size<=W.heap.size /\
  W.heap[w.heap.size+1]?=some (.loop (q .ready none))/\W.heap[w.heap.size]?=some (.deferred (some []))
 let Jx:List AV->World->Prop:=fun pre W=>∃ r,pre.foldl (stepS step) (.inl s0)=.inr r/\(∃ A' M',SR w0 A0 W A' M' ⟨T,Ho r⟩ a) /\
  W.heap[w.heap.size+1]?=some (.loop (q .done (some .ret)))/\W.heap[w.heap.size]?=some (.deferred (some []))
 have aj:∀ (W:World) (A':Nat->Prop) (M':Id->Option MB) (s:St) (o:Loop),SR w0 A0 W A' M' s a->W.heap[w.heap.size+1]?=some (.loop o)->W.heap[w.heap.size]?=some (.deferred (some [])) ->
   ∀ o':Loop,SOk w0 A0 s { a with defers:=[rmark w.heap.size]++a.defers } (W.putObj (w.heap.size+1) (.loop o')):=fun W A' M' s o h h1 h2 o'=>by
  refine ⟨A',M',h.turn (o':=.loop o') h1 ⟨by simp,by simp⟩ (by omega) (by omega) ?_⟩
  have hne:∀ D,D∈L0->D≠w.heap.size:=fun D hD e=>by
   have:=xdP (a8 D hD).2.2;omega
  obtain ⟨L',e1,e2,e3⟩:=h.defers;have:L'=L0:=xBP (e1.symm.trans a5);subst this;refine ⟨w.heap.size::L',by rw [a5];rfl,List.nodup_cons.2 ⟨fun hm=>hne _ hm rfl,e2⟩,fun D hD=>?_⟩
  rcases zC.1 hD with rfl|hD
  . exact ⟨bh,.inr bb,by rw [World.putObj_heap_other (by omega)];exact h2⟩
  . refine ⟨(e3 D hD).1,(e3 D hD).2.1,?_⟩;have:=xdP (a8 D hD).2.2;rw [World.putObj_heap_other (by omega)];exact (e3 D hD).2.2
 refine ⟨w.heap.size+1,[{ target:=.collected w.heap.size,args:=#[] }],W1,{ target:=.fn (.func fo) #[lv],args:=#[.func (.yield (w.heap.size+1)) #[] #[]] },W1,fo,
  #[.func (.yield (w.heap.size+1)) #[] #[]]++#[lv],W1,?_,?_,fun _ _=>trivial,?_,fun h=>by simp [Fence.wide] at h,?_⟩
 . rw [<-ag,O];exact run_enterLoop_outer _ _ _ _ _
 . simp only [Go.resolve,bo];simp [go_sem]
 . simp [invoke,go_sem,xl1 hit.1]
 . refine (hit.2 W1 A lv (a0.grow au) (w.heap.size+1) J Jx ?_ ?_ ?_ ?_ ?_ ?_).mono ?_
   . rintro pre A' W W' ⟨s,h1,⟨M',h2⟩,h4,h5,h6⟩ hb;exact ⟨s,h1,⟨M',h2.grow hb⟩,Nat.le_trans h4 hb.size,by rw [hb.block _ (xdP h5)];exact h5,by rw [hb.block _ (xdP h6)];exact h6⟩
   . rintro pre W W' ⟨r,h1,⟨A',M',h2⟩,h5,h6⟩ hb;exact ⟨r,h1,⟨A',M',h2.grow hb⟩,by rw [hb.block _ (xdP h5)];exact h5,by rw [hb.block _ (xdP h6)];exact h6⟩
   . rintro pre A' W ⟨s,h1,⟨M',h2⟩,h4,h5,h6⟩;exact ⟨a7.below _ _ hI h2.base,h2.heap.lt⟩
   . rintro pre W ⟨r,h1,⟨A',M',h2⟩,h5,h6⟩;exact a7.below _ _ hI h2.base
   ·
    rintro pre v x ae A' W hx ⟨s,h1,⟨M',h2⟩,h4,h5,h6⟩ bv;have a6:=xdP h5;have hy:=run_yield (P:=P) (args:=#[v]) h5 (by rw [O];rfl)
    rw [O] at hy;have hz:(#[p].zip #[v]).foldl (fun tmps (x:Tmp×Value)=>tmps.setIfInBounds x.1 x.2) a.tmps=a.tmps.setIfInBounds p v:=by simp
    refine ⟨fn,_,U,Y,hy,roundIn_of_wpIn trivial ?_⟩;show Code.wpIn (Fence.wide.inRound (w.heap.size+1)) 0 P U _ { tmps:=(#[p].zip #[v]).foldl (fun tmps (x:Tmp×Value)=>tmps.setIfInBounds x.1 x.2) a.tmps,defers:=[] } _
    rw [hz];obtain ⟨av,a9⟩:∃ av:Nat->Prop,av=fun b=>b<w0.heap.size->A0.av b:=⟨_,rfl⟩
    have ay:∀ b,w0.heap.size<=b->av b:=fun b hb=>by rw [a9];intro h;omega
    have ak:∀ b,b<w0.heap.size->(av b↔A0.av b):=fun b hb=>by rw [a9];exact ⟨fun h=>h hb,fun h _=>h⟩
    obtain ⟨p1,p2⟩:=xr1 (d:=some p) h2.size h2.tmps (bv.lift M');have bt:SR w0 ⟨av,W,A',M',n⟩ W A' M' ⟨T.set p x,Hs s⟩ { tmps:=a.tmps.setIfInBounds p v,defers:=[] } :=
     ⟨h2.base,fun b hb=>(h2.outer b hb).trans (ak b hb).symm,p1,p2,h2.heap,DefOk.nil,Ev.refl (C:=⟨av,W,A',M',n⟩)⟩
    refine ah pre s x ae hx h1 w0 ⟨av,W,A',M',n⟩ W A' M' _ _ hI (zd n) bt ?_ (some (w.heap.size+1)) (fun h=>by simp at h)
    rintro e s1 a1 w1 ⟨rfl,ap⟩ ⟨A1,M1,Q⟩;have am:=Q.ev.mv h2.heap (by rw [al];exact zd n)
    have aa:w1.heap[w.heap.size+1]?=some (.loop (q .ready none)):=by rw [am.touch.1 _ a6 (h2.heap.not_box h5 (by simp) (by simp))];exact h5
    have aq:w1.heap[w.heap.size]?=some (.deferred (some [])):=by rw [am.touch.1 _ (xdP h6) (h2.heap.not_box h6 (by simp) (by simp))];exact h6
    refine ⟨_,run_beginRound aa (by rw [O]),?_⟩
    have an:(Obj.loop { q .ready none with state:=.busy })=.loop (q .busy none):=by rw [O]
    rw [an];obtain ⟨w2,V⟩:∃ w2,w2=w1.putObj (w.heap.size+1) (.loop (q .busy none)):=⟨_,rfl⟩;rw [<-V];have ac:w2.heap.size=w1.heap.size:=by rw [V];simp
    have ba:w2.heap[w.heap.size+1]?=some (.loop (q .busy none)):=by rw [V];exact World.putObj_heap_same (xdP aa)
    have aw:∀ b,b≠w.heap.size+1->w2.heap[b]?=w1.heap[b]?:=fun b hb=>by rw [V];exact World.putObj_heap_other hb
    have bu:SR w0 ⟨av,w2,A1,M1,n⟩ w2 A1 M1 s1 a1:=by
     refine ⟨by rw [V];exact xqt Q.base (by omega) _,Q.outer,Q.size,fun t ht=>?_,by rw [V];exact Q.heap.turn aa ⟨by simp,by simp⟩ _,?_,Ev.refl (C:=⟨av,w2,A1,M1,n⟩)⟩
     . rw [V];exact (Q.tmps t ht).turn (by simp) (xpP aa ⟨by simp,by simp⟩)
     . obtain ⟨L,e1,e2,e3⟩:=Q.defers;refine ⟨L,e1,e2,fun D hD=>⟨(e3 D hD).1,.inl (ay _ (by have:=Q.base.size;rw [ac];omega)),?_⟩⟩
       rw [aw D (fun e=>by have:=(e3 D hD).2.2;rw [e,aa] at this;simp at this)];exact (e3 D hD).2.2
    refine ap w0 ⟨av,w2,A1,M1,n⟩ w2 A1 M1 a1 _ hI (zd n) bu ?_ (some (w.heap.size+1)) (fun h=>by simp at h)
    have ab:∀ (s':St) (a3:Act) (W3:World) (T':List AV) (H':List Box),Weak n s' ⟨T',H'⟩->SOk w0 ⟨av,w2,A1,M1,n⟩ s' a3 W3 ->
      ∃ A3 M3,SR w0 A0 (W3.putObj (w.heap.size+1) (.loop (q .ready none))) A3 M3 ⟨T,H'⟩ a/\Mv W A' M' (W3.putObj (w.heap.size+1) (.loop (q .ready none))) A3 M3 /\
       W3.heap[w.heap.size+1]?=some (.loop (q .busy none))/\W3.heap[w.heap.size]?=some (.deferred (some [])):=by
     rintro s' a3 W3 T' H' hw ⟨A2,M2,a4⟩;obtain ⟨A3,M3,Z⟩:=hw w0 _ W3 A2 M2 a3 (zd n) a4;have bm:=Q.heap.not_box aa (by simp) (by simp)
     have ar:W3.heap[w.heap.size+1]?=some (.loop (q .busy none)):=by rw [Z.ev.keep _ (xdP ba) (.inr bm)];exact ba
     have bf:W3.heap[w.heap.size]?=some (.deferred (some [])):=by
      rw [Z.ev.keep _ (by show w.heap.size<w2.heap.size;rw [ac];exact xdP aq) (.inr (Q.heap.not_box aq (by simp) (by simp)))]
      show w2.heap[w.heap.size]?=_;rw [aw _ (by omega)];exact aq
     have be:Ev ⟨av,W,A',M',n⟩ (W3.putObj (w.heap.size+1) (.loop (q .ready none))) A3 M3:=by
      refine Ev.over Q.ev Z.ev (l:=w.heap.size+1) aw (by rw [ac]) (fun b hb=>World.putObj_heap_other hb) (by simp) ?_
      rw [World.putObj_heap_same (xdP ar)];exact h5.symm
     have af:=be.mv h2.heap (by rw [al];exact zd n)
     exact ⟨A3,M3,⟨xqt Z.base (by omega) _,fun b hb=>(Z.outer b hb).trans (ak b hb),h2.size,fun t ht=>af.rel (h2.tmps t ht),Z.heap.turn ar ⟨by simp,by simp⟩ _,h2.defers.mv h2.heap af,h2.ev.step af⟩,af,ar,bf⟩
    have ad:(pre++[x]).foldl (stepS step) (.inl s0)=step s x:=by
     rw [List.foldl_append,h1];rfl
    intro e s' a3 W3 hq a2;cases ai:step s x with
    | inl s2 =>
     rw [ai] at hq;obtain ⟨rfl,T',hw⟩:=hq;obtain ⟨A3,M3,g1,g2,g4,g5⟩:=ab s' a3 W3 T' _ hw a2;have hr:=run_endRound (P:=P) none g4;have he:(Obj.loop { q .busy none with state:=if (none:Option Code).isNone then .ready else .done,pending:=none })=.loop (q .ready none):=by rw [O];rfl
     rw [he] at hr;exact ⟨_,_,hr,.inl ⟨rfl,A3,⟨s2,ad.trans ai,⟨M3,g1⟩,Nat.le_trans h4 g2.size,World.putObj_heap_same (xdP g4),(World.putObj_heap_other (by omega)).trans g5⟩,g2.size,g2.less,g2.keep⟩⟩
    | inr r =>
     rw [ai] at hq;obtain ⟨rfl,T',hw⟩:=hq;obtain ⟨A3,M3,g1,g2,g4,g5⟩:=ab s' a3 W3 T' _ hw a2;have hr:=run_endRound (P:=P) (some .ret) g4;have he:(Obj.loop { q .busy none with state:=if (some Code.ret).isNone then .ready else .done,pending:=some .ret })=.loop (q .done (some .ret)):=by rw [O];rfl
     rw [he] at hr;have bk:W3.putObj (w.heap.size+1) (.loop (q .done (some .ret)))=(W3.putObj (w.heap.size+1) (.loop (q .ready none))).putObj (w.heap.size+1) (.loop (q .done (some .ret))):=by
      simp [World.putObj]
     have g6:(W3.putObj (w.heap.size+1) (.loop (q .ready none))).heap[w.heap.size+1]?=some (.loop (q .ready none)):=World.putObj_heap_same (xdP g4);refine ⟨_,_,hr,.inr ⟨rfl,r,ad.trans ai,⟨A3,M3,?_⟩,World.putObj_heap_same (xdP g4),(World.putObj_heap_other (by omega)).trans g5⟩⟩
     rw [bk];exact g1.turn (o':=.loop (q .done (some .ret))) g6 ⟨by simp,by simp⟩ (by omega) (by omega) (g1.defers.same fun D hD=>World.putObj_heap_other (fun e=>by rw [e] at hD;rw [g6] at hD;simp at hD))
   . exact ⟨s0,rfl,⟨M,hs.grow au⟩,au.size,bg,bc⟩
   ·
    rintro e W2 ⟨⟨v,rfl⟩,⟨A',s,h1,⟨M',h2⟩,h4,h5,h6⟩|⟨pre,ae,bj,r,h1,⟨A',M',h2⟩,h5,h6⟩⟩
    . refine ⟨none,_,by have:=run_endLoop (P:=P) h5 (by rw [O];simp);rw [O] at this;exact this,?_⟩
      refine hQ .normal ⟨T,Hs s⟩ _ _ (by rw [h1];exact ⟨rfl,rfl⟩) ?_
      exact aj W2 A' M' ⟨T,Hs s⟩ _ h2 h5 h6 _
    . refine ⟨some .ret,_,by have:=run_endLoop (P:=P) h5 (by rw [O];simp);rw [O] at this;exact this,?_⟩
      refine wpIn_ret (hQ .ret ⟨T,Ho r⟩ _ _ ?_ (aj W2 A' M' ⟨T,Ho r⟩ _ h2 h5 h6 _));rw [<-bj,List.foldl_append,h1,xrO];exact ⟨rfl,rfl⟩
theorem xuO {P:Program} {Inv:IV} {w0:World} {A0:Cx} (V:InvOk Inv) (hI:Inv w0) {ro:Option Nat} {n:Nat} {ops:Array Oper} {Q:Exit->Act->World->Prop} {rest:List Oper} {l:List Oper} {s s':St} (hp:Path (OpA P Inv) ops l s s') :
  (∀ o,o∈l->∀ c,o.op≠.defer c)->∀ {w:World} {A:Nat->Prop} {M:Id->Option MB} {a:Act},SR w0 A0 w A M s a ->
  (∀ a' w' A' M',SR w0 A0 w' A' M' s' a'->a'.defers=a.defers->Mv w A M w' A' M'->wpListIn (wideR ro) n P ops Q rest a' w')->wpListIn (wideR ro) n P ops Q (l++rest) a w:=by
 induction hp with
 | nil s=>intro _ w A M a hs hK;exact hK a w A M hs rfl Mv.refl
 | run hw h hr ih =>
  intro hd w A M a hs hK;have J:=xhy (w:=w) (A:=A) (M:=M) hs.size (fun j O d _ _ q=>hs.tmps d q) hw
  rw [List.cons_append];unfold wpListIn;rw [if_pos J];exact xqU (hd _ (by simp)) (fun _ _ h=>h) (xwl V hI h hs fun v w' A' M' U Y=>ih (fun o ho=>hd o (by simp [ho])) U fun a2 w2 A2 M2 h2 e2 m2=>hK a2 w2 A2 M2 h2 (e2.trans (xg4 _ _ _)) (Y.trans m2))
 | skip hw hr ih =>
  intro hd w A M a hs hK;have J:=xhy (w:=w) (A:=A) (M:=M) hs.size (fun j O d _ _ q=>hs.tmps d q) hw
  rw [List.cons_append];unfold wpListIn;rw [if_neg (by rw [J];simp)]
  exact ⟨fun _ _=>trivial,ih (fun o ho=>hd o (by simp [ho])) (hs.skip _) fun a2 w2 A2 M2 h2 e2 m2=>hK a2 w2 A2 M2 h2 (e2.trans (xg4 _ _ _)) m2⟩
theorem xsO {P:Program} {Inv:IV} {w0:World} {A0:Cx} (q:InvOk Inv) (hI:Inv w0) {ro:Option Nat} {n:Nat} {ops:Array Oper} {Q:Exit->Act->World->Prop} {l:List Oper} {s s':St} (hp:Path (OpA P Inv) ops l s s') (hd:∀ o,o∈l->∀ c,o.op≠.defer c) {w:World} {A:Nat->Prop} {M:Id->Option MB} {a:Act} (hs:SR w0 A0 w A M s a)
  (hK:∀ a' w' A' M',SR w0 A0 w' A' M' s' a'->a'.defers=a.defers->Q .normal a' w'):wpListIn (wideR ro) n P ops Q l a w:=by
 have h:=xuO (ro:=ro) (n:=n) (ops:=ops) (Q:=Q) (rest:=[]) q hI hp hd hs (fun a' w' A' M' h1 h2 _=>hK a' w' A' M' h1 h2)
 rwa [zD] at h
def XB (P:Program) (E:Env) (assign body:Code) (ts:List AV) (H:List Box):Option (Exit×List Box):=X P E none assign ⟨ts,H⟩ fun e s1=>match e with
 | .normal=>X P E none body s1 fun e2 s2=>match normS E.pin [] [] s2 with
  | some (_,H')=>xHw H' fun H'=>some (e2,H')
  | none=>none
 | _=>none
theorem xrX {P:Program} {Inv:IV} {E:Env} (O:P.follows .mixedOrders=true) (Q:InvOk Inv) (q:Inv.pin=E.pin) (J:xG3 P Inv E) {assign body:Code} (V:LoOk P Inv E assign) (U:LoOk P Inv E body) {ts:List AV} {H H':List Box} {e0:Exit}
  (h:XB P E assign body ts H=some (e0,H')):Does P Inv assign (fun e s1=>e=.normal/\Does P Inv body (fun e s'=>e=e0/\∃ T',Weak Inv.pin s' ⟨T',H'⟩) s1) ⟨ts,H⟩:=by
 unfold XB at h;refine xbB (xgS (good:=fun t=>t=some (e0,H')) O Q q (by simp) J assign _ _ V h) fun e s1 hq=>?_
 cases e with
 | normal =>
  refine ⟨rfl,xbB (xgS (good:=fun t=>t=some (e0,H')) O Q q (by simp) J body _ _ U hq) fun e s2 hq=>?_⟩
  split at hq
  case h_2=>simp at hq
  rename_i vs H1 Y;rw [xcc] at hq;simp only [z6,zb] at hq;obtain ⟨rfl,rfl⟩:=hq;have hw:=xiW Y;rw [<-q] at hw;exact ⟨rfl,_,hw⟩
 | _=>simp at hq
theorem Rel.yld_inv {w:World} {A:Nat->Prop} {M:Id->Option MB} {v:Value} {l:Nat} (h:Rel w A M v (.yld l)):v=.func (.yield l) #[] #[]:=by cases h;rfl
theorem xmk {P:Program} {Inv:IV} {E:Env} (J:xG3 P Inv E) {ops:Array Oper} {l:List Oper} {s s':St} (h:xOps P E none (some true) ops l s some=some s'):Path (OpA P Inv) ops l s s':=by
 have q:¬ (fun t:Option St=>t=some s') none:=by simp
 have hA:∀ o s (K:St->Option St),(fun t:Option St=>t=some s') (xopM P E none (some true) o s K)->∃ s1,OpA P Inv s o s1/\(fun t:Option St=>t=some s') (K s1):=fun o s K h=>xwY (good:=fun t:Option St=>t=some s') q J h
 obtain ⟨s1,h1,h2⟩:=xhz (good:=fun t:Option St=>t=some s') q hA l s some h
 simp only [z6] at h2;exact h2▸h1
theorem xpm {W:World} {A:Nat->Prop} (q:∀ b,A b->b<W.heap.size) {ts:List AV} {b:Act} (hsz:b.tmps.size=ts.length) (hd:b.defers=[]) (hr:∀ t,t<ts.length->Rel W A xHg (b.tmps.getD t undef) (ts.getD t .top)):SR W ⟨A,W,A,xHg,0⟩ W A xHg ⟨ts,[]⟩ b :=
 ⟨Below.refl _ _,fun _ _=>Iff.rfl,hsz,hr,⟨fun id m hm=>by simp [xHg] at hm,fun _ _ _ _ h=>by simp [xHg] at h,q⟩,by rw [hd];exact DefOk.nil,Ev.refl (C:=⟨A,W,A,xHg,0⟩)⟩
theorem SR.pureRel {W w':World} {A A':Nat->Prop} {M':Id->Option MB} {C:Cx} {s':St} {b':Act} (hs:SR W C w' A' M' s' b') (hc:C.av=A) (q:∀ b,A b->b<W.heap.size) {t:Nat} {x:AV} (ht:t<s'.tmps.length) (hx:s'.tmps.getD t .top=x) (hp:x.pure=true):Rel w' A xHg (b'.tmps.getD t undef) x:=by
 have h:=hs.tmps t ht;rw [hx] at h;exact (h.pure (M':=xHg) hp).mono (fun _ _ _=>rfl) (zd _) (fun b _ hb=>(hs.outer b (q b hb)).2 (by rw [hc];exact hb)) (MExt.refl _)
end Go.Sim
namespace Go.Sim.M
open Go.RowKit Go.Proofs
def regs:Code->List Code
 | .region i ops d=>[.region i ops d]
 | .seq a b=>regs a++regs b
 | .block _ c=>regs c
 | .loop c=>regs c
 | .cond _ a b=>regs a++regs b
 | .rangeFunc _ _ a b=>regs a++regs b
 | _=>[]
def regAt (fn:Func) (i:Nat):Code:=(regs (fn.body.getD .skip)).getD i .skip
def opsOf:Code->Array Oper
 | .region _ ops _=>ops
 | _=>#[]
def opsAt (fn:Func) (i:Nat):Array Oper:=opsOf (regAt fn i)
def idOf:Code->Nat
 | .region i _ _=>i
 | _=>0
def rg (fn:Func) (i:Nat):Code:=.region (idOf (regAt fn i)) (opsAt fn i) false
def verA (a b:Int) (r:List AV) (c d e f g h:Int):AV:=.agg [.int .i64 a,.int .i64 b,.list 3 r,.int .i64 c,.int .i64 d,.int .i64 e,.int .i64 f,.int .i64 g,.int .i64 h]
def IsV (x:AV):Prop:=∃ a b r c d e f g h,x=verA a b r c d e f g h
noncomputable def opV:AV->Bool
 | .agg [.int _ a,.int _ b,.list _ r,.int _ c,.int _ d,.int _ e,.int _ f,.int _ g,.int _ h]=>xd3 a b r c d e f g h
 | _=>false
noncomputable abbrev EIt:Env:=xkY.E.fn 20 0 (lsOf []) (xHp [])
theorem xs4:xG3 Tryz.prog (xHL.at 0) EIt:=xkY.ok.fn
def Th (xs:List AV) (l:Nat) (i:Int):List AV:=[.yld l,.eptr 1 [.list 9 xs] 0 0,.top,.top,.top,.list 9 xs,.int .i64 xs.length,.int .i64 i,.top,.top,.top,.top,.top,.top,.top,.top,.top,.top,.top,.top]
def Th8 (xs:List AV) (l:Nat) (i:Int) (t:Bool):List AV:=[.yld l,.eptr 1 [.list 9 xs] 0 0,.top,.top,.top,.list 9 xs,.int .i64 xs.length,.int .i64 i,.bool t,.top,.top,.top,.top,.top,.top,.top,.top,.top,.top,.top]
def Tv (xs:List AV) (l:Nat) (i:Int) (x:AV):List AV:=[.yld l,.eptr 1 [.list 9 xs] 0 0,.top,.top,.own 0 0 0 0,.list 9 xs,.int .i64 xs.length,.int .i64 i,.bool true,.eptr 9 xs i.toNat 0,x,.top,.top,.top,.top,.top,.top,.top,.top,.top]
def Bv (x:AV):List Box:=[⟨0,9,58,[x],false,true⟩]
def Tw (xs:List AV) (l:Nat) (i:Int) (x:AV) (o:Bool):List AV:=[.yld l,.eptr 1 [.list 9 xs] 0 0,.top,.top,.own 0 0 0 0,.list 9 xs,.int .i64 xs.length,.int .i64 i,.bool true,.eptr 9 xs i.toNat 0,x,x,.bool o,.bool true,.yld l,x,.top,.top,.top,.top]
def Tn (xs:List AV) (l:Nat) (i:Int) (x:AV) (o:Bool):List AV:=[.yld l,.eptr 1 [.list 9 xs] 0 0,.top,.top,.own 0 0 0 0,.list 9 xs,.int .i64 xs.length,.int .i64 i,.bool true,.eptr 9 xs i.toNat 0,x,x,.bool o,.bool false,.tuple [],.tuple [],.tuple [],.tuple [],.bool false,.top]
def Ty (xs:List AV) (l:Nat) (i:Int) (b:Bool):List AV:=[.yld l,.eptr 1 [.list 9 xs] 0 0,.top,.top,.top,.list 9 xs,.int .i64 xs.length,.int .i64 i,.top,.top,.top,.top,.top,.bool true,.top,.top,.bool b,.top,.top,.top]
def Tz (xs:List AV) (l:Nat) (i:Int) (b:Bool):List AV:=[.yld l,.eptr 1 [.list 9 xs] 0 0,.top,.top,.top,.list 9 xs,.int .i64 xs.length,.int .i64 i,.top,.top,.top,.top,.top,.bool true,.top,.top,.bool b,.bool !b,.bool !b,.top]
noncomputable abbrev XO (ops:Array Oper) (l:List Oper) (ts:List AV) (H:List Box):Option St:=xOps Tryz.prog EIt none (some true) ops l ⟨ts,H⟩ some
theorem xFJ (xs:List AV) (l:Nat):XO (opsAt Tryz.f67 0) (opsAt Tryz.f67 0).toList ([.yld l,.eptr 1 [.list 9 xs] 0 0]++List.replicate 18 (.tuple [])) [] =
 some ⟨[.yld l,.eptr 1 [.list 9 xs] 0 0,.tuple [],.tuple [],.tuple [],.list 9 xs,.int .i64 xs.length,.int .i64 0]++List.replicate 12 (.tuple []),[]⟩:=by kernel_rfl
theorem xFK (xs:List AV) (l:Nat) (i:Int):XO (opsAt Tryz.f67 1) (opsAt Tryz.f67 1).toList (Th xs l i) []=some ⟨Th8 xs l i (decide (i<(xs.length:Int))),[]⟩:=by kernel_rfl
theorem xFL (xs:List AV) (l:Nat) (i:Int):XO (opsAt Tryz.f67 2) (opsAt Tryz.f67 2).toList (Th8 xs l i true) [] =
 br (decide ((0:Int)<=i)&&decide (i<(xs.length:Int))) (br (decide (i.toNat<xs.length)&&((xs.getD i.toNat AV.top).cells.length==(9:Nat)&&xG8 [Sh.int IntKind.i64,Sh.int IntKind.i64,Sh.list (3:Nat),Sh.int IntKind.i64,Sh.int IntKind.i64,Sh.int IntKind.i64,Sh.int IntKind.i64,Sh.int IntKind.i64,Sh.int IntKind.i64] (xs.getD i.toNat AV.top).cells (0:Nat)))
  (
   let x:=verA ((xs.getD i.toNat AV.top).cells.getD 0 AV.top).toInt ((xs.getD i.toNat AV.top).cells.getD 1 AV.top).toInt ((xs.getD i.toNat AV.top).cells.getD 2 AV.top).toList ((xs.getD i.toNat AV.top).cells.getD 3 AV.top).toInt ((xs.getD i.toNat AV.top).cells.getD 4 AV.top).toInt ((xs.getD i.toNat AV.top).cells.getD 5 AV.top).toInt ((xs.getD i.toNat AV.top).cells.getD 6 AV.top).toInt ((xs.getD i.toNat AV.top).cells.getD 7 AV.top).toInt ((xs.getD i.toNat AV.top).cells.getD 8 AV.top).toInt
   some ⟨Tv xs l i x,Bv x⟩) none) none:=by kernel_rfl
theorem xEU (xs:List AV) (l:Nat) (i:Int) (a b:Int) (r:List AV) (c d e f g h:Int):XO (opsAt Tryz.f67 3) ((opsAt Tryz.f67 3).toList.take 5) (Tv xs l i (verA a b r c d e f g h)) (Bv (verA a b r c d e f g h)) =
 br (xd3 a b r c d e f g h) (some ⟨Tw xs l i (verA a b r c d e f g h) (xd3 a b r c d e f g h),Bv (verA a b r c d e f g h)⟩)
  (some ⟨[.yld l,.eptr 1 [.list 9 xs] 0 0,.top,.top,.own 0 0 0 0,.list 9 xs,.int .i64 xs.length,.int .i64 i,.bool true,.eptr 9 xs i.toNat 0,verA a b r c d e f g h,verA a b r c d e f g h,.bool (xd3 a b r c d e f g h),.bool false,.tuple [],.tuple [],.top,.top,.top,.top],Bv (verA a b r c d e f g h)⟩):=by kernel_rfl
theorem xEW (xs:List AV) (l:Nat) (i:Int) (a b:Int) (r:List AV) (c d e f g h:Int):XO (opsAt Tryz.f67 3) (opsAt Tryz.f67 3).toList (Tv xs l i (verA a b r c d e f g h)) (Bv (verA a b r c d e f g h)) =
 br (xd3 a b r c d e f g h) none (some ⟨Tn xs l i (verA a b r c d e f g h) (xd3 a b r c d e f g h),Bv (verA a b r c d e f g h)⟩):=by kernel_rfl
theorem xEV (xs:List AV) (l:Nat) (i:Int) (b:Bool):XO (opsAt Tryz.f67 3) ((opsAt Tryz.f67 3).toList.drop 6) (Ty xs l i b) []=some ⟨Tz xs l i b,[]⟩:=by kernel_rfl
def Tq (b:Bool):List AV:=[.top,.top,.top,.top,.top,.top,.top,.top,.top,.top,.top,.top,.top,.bool true,.top,.top,.bool false,.top,.top,.top]
theorem xEX:XO (opsAt Tryz.f67 3) ((opsAt Tryz.f67 3).toList.drop 6) (Tq false) []=some ⟨[.top,.top,.top,.top,.top,.top,.top,.top,.top,.top,.top,.top,.top,.bool true,.top,.top,.bool false,.bool true,.bool true,.top],[]⟩:=by kernel_rfl
theorem xFM (xs:List AV) (l:Nat) (i:Int):XO (opsAt Tryz.f67 4) (opsAt Tryz.f67 4).toList (Th xs l i) [] =
 some ⟨[.yld l,.eptr 1 [.list 9 xs] 0 0,.top,.top,.top,.list 9 xs,.int .i64 xs.length,.int .i64 (IntKind.i64.wrap (i+1)),.top,.top,.top,.top,.top,.top,.top,.top,.top,.top,.top,.int .i64 (IntKind.i64.wrap (i+1))],[]⟩:=by kernel_rfl
noncomputable def itCode:Code:=.seq (rg Tryz.f67 0) (.block 0 (.loop (.seq (rg Tryz.f67 1) (.seq (.cond (.tmp 8) .skip (.exit 0)) (.seq (.block 1 (.seq (rg Tryz.f67 2) (.seq (rg Tryz.f67 3) (.cond (.tmp 18) .ret .skip)))) (rg Tryz.f67 4))))))
theorem xDL:Tryz.f67.body=some itCode:=by kernel_rfl
theorem xEP:noDefer (opsAt Tryz.f67 0)=true:=by kernel_rfl
theorem xEQ:noDefer (opsAt Tryz.f67 1)=true:=by kernel_rfl
theorem xER:noDefer (opsAt Tryz.f67 2)=true:=by kernel_rfl
theorem xES:noDefer (opsAt Tryz.f67 3)=true:=by kernel_rfl
theorem xET:noDefer (opsAt Tryz.f67 4)=true:=by kernel_rfl
theorem xvu (i:Nat) (h:i<5):noDefer (opsAt Tryz.f67 i)=true:=by
 have:i=0\/i=1\/i=2\/i=3\/i=4:=by omega
 rcases this with e|e|e|e|e<;>rw [e]
 . exact xEP
 . exact xEQ
 . exact xER
 . exact xES
 . exact xET
theorem xnT {i k:Nat} (hk:k<5) {s s':St} {w0 W:World} {C:Cx} {A:Nat->Prop} {M:Id->Option MB} {b:Act} {Q:Exit->Act->World->Prop} (hI:xHL w0) (hx:xOps Tryz.prog EIt none (some true) (opsAt Tryz.f67 k) (opsAt Tryz.f67 k).toList s some=some s') (hs:SR w0 C W A M s b)
  (hK:∀ a' w' A' M',SR w0 C w' A' M' s' a'->a'.defers=b.defers->Q .normal a' w'):(Code.region i (opsAt Tryz.f67 k) false).wpIn Fence.wide 0 Tryz.prog Q b W:=by
 exact wpIn_region_list (xsO (Inv:=xHL.at 0) (ro:=none) (n:=0) (xHd Tryz.prog _) hI (xmk xs4 hx) (xh1 (xvu k hk)) hs hK)
noncomputable def itY:Oper:=(opsAt Tryz.f67 3).toList.getD 5 default
theorem xBl:itY.op=.call { callee:=.value (.tmp 14),args:=#[.tmp 15],argTypes:=#[58] }:=by kernel_rfl
theorem xy0:itY.dst=some 16:=by kernel_rfl
theorem xBm:(opsAt Tryz.f67 3).toList=(opsAt Tryz.f67 3).toList.take 5++(itY::(opsAt Tryz.f67 3).toList.drop 6):=by kernel_rfl
theorem xCv (xs:List AV) (l:Nat) (i:Int) (x:AV) (o:Bool):xHe (opsAt Tryz.f67 3) (Tw xs l i x o) itY=some true:=by kernel_rfl
theorem xDK {l:Nat} {b:Act} {v:Value} {W:World} {r:Result Next} (h0:b.tmps.getD 14 undef=.func (.yield l) #[] #[]) (h1:b.tmps.getD 15 undef=v) (hy:(Instr.yield l #[v]).run Tryz.prog W=r):(execOp b.eval itY).run Tryz.prog W=r:=by
 simp only [execOp,xBl,Go.resolve,Act.eval,h0,h1,Deferred.ofValue,Sem.run_bind,Sem.run_pure,Result.andThen_ok,invoke];have e:b.eval (.tmp 15)=v:=h1;simpa [e] using hy
structure Hd (xs:List AV) (l:Nat) (i:Int) (W:World) (A:Nat->Prop) (b:Act):Prop where
 size:b.tmps.size=20
 def0:b.defers=[]
 r0:Rel W A xHg (b.tmps.getD 0 undef) (.yld l)
 r1:Rel W A xHg (b.tmps.getD 1 undef) (.eptr 1 [.list 9 xs] 0 0)
 r5:Rel W A xHg (b.tmps.getD 5 undef) (.list 9 xs)
 r6:Rel W A xHg (b.tmps.getD 6 undef) (.int .i64 xs.length)
 r7:Rel W A xHg (b.tmps.getD 7 undef) (.int .i64 i)
theorem lt20 {t:Nat} (h:t<20):t=0\/t=1\/t=2\/t=3\/t=4\/t=5\/t=6\/t=7\/t=8\/t=9\/t=10\/t=11\/t=12\/t=13\/t=14\/t=15\/t=16\/t=17\/t=18\/t=19:=by omega
theorem Hd.sr {xs:List AV} {l:Nat} {i:Int} {W:World} {A:Nat->Prop} {b:Act} (h:Hd xs l i W A b) (q:∀ b,A b->b<W.heap.size):SR W ⟨A,W,A,xHg,0⟩ W A xHg ⟨Th xs l i,[]⟩ b:=by
 refine xpm q h.size h.def0 fun t ht=>?_
 rcases lt20 ht with rfl|rfl|rfl|rfl|rfl|rfl|rfl|rfl|rfl|rfl|rfl|rfl|rfl|rfl|rfl|rfl|rfl|rfl|rfl|rfl <;>
  first|exact Rel.top _|exact h.r0|exact h.r1|exact h.r5|exact h.r6|exact h.r7
theorem Hd.of {xs:List AV} {l:Nat} {i:Int} {W W':World} {A A':Nat->Prop} {M':Id->Option MB} {C:Cx} {s':St} {b':Act} (hs:SR W C W' A' M' s' b') (hc:C.av=A) (q:∀ b,A b->b<W.heap.size) (hd:b'.defers=[]) (hl:s'.tmps.length=20)
  (h0:s'.tmps.getD 0 .top=.yld l) (h1:s'.tmps.getD 1 .top=.eptr 1 [.list 9 xs] 0 0) (h5:s'.tmps.getD 5 .top=.list 9 xs) (h6:s'.tmps.getD 6 .top=.int .i64 xs.length) (h7:s'.tmps.getD 7 .top=.int .i64 i):Hd xs l i W' A b' :=
 ⟨hs.size.trans hl,hd,hs.pureRel hc q (by omega) h0 rfl,hs.pureRel hc q (by omega) h1 rfl,hs.pureRel hc q (by omega) h5 rfl,hs.pureRel hc q (by omega) h6 rfl,hs.pureRel hc q (by omega) h7 rfl⟩
theorem Hd.keep {xs:List AV} {l:Nat} {i:Int} {W W':World} {A A':Nat->Prop} {b:Act} (h:Hd xs l i W A b) (d:Nat) (v:Value) (hd:8<=d) (hs:W.heap.size<=W'.heap.size) (hA:∀ b,b<W.heap.size->A' b->A b) (hk:∀ b,b<W.heap.size->¬ A b->W'.heap[b]?=W.heap[b]?):Hd xs l i W' A' (b.put (some d) v):=by
 have key:∀ t x,t<8->Rel W A xHg (b.tmps.getD t undef) x->Rel W' A' xHg ((b.put (some d) v).tmps.getD t undef) x:=fun t x ht hr=>by
  have e:(b.put (some d) v).tmps.getD t undef=b.tmps.getD t undef:=by
   simp only [Act.put];simp [zu,Array.getElem?_setIfInBounds_ne (show d≠t by omega)]
  rw [e];exact hr.mono hk hs hA (MExt.refl _)
 exact ⟨by simp [Act.put,h.size],h.def0,key 0 _ (by omega) h.r0,key 1 _ (by omega) h.r1,key 5 _ (by omega) h.r5,key 6 _ (by omega) h.r6,key 7 _ (by omega) h.r7⟩
theorem xpO (xs:List AV) (ce:∀ x,x∈xs->IsV x) (ci:xs.length<4611686018427387904):IterC Tryz.prog xHL 67 (.eptr 1 [.list 9 xs] 0 0) xs opV:=by
 refine ⟨⟨Tryz.f67,Tryz.func67,by kernel_rfl,by kernel_rfl⟩,?_⟩
 intro w A lv bn l J Jx aa a3 hJ a4 hY ax;have ch:=fun (e:Ending) (W':World)=>(∃ v,e=.returned v)/\((∃ A',J (xs.filter opV) A' W')\/∃ pre suf,pre++suf=xs.filter opV/\Jx pre W')
 refine callsIn_of_wp (F:=Fence.wide) (n:=0) Tryz.func67 xDL trivial ?_;have a9:∀ (b:Act) (W:World),(results Tryz.f67 b.tmps).run Tryz.prog W=.ok (.tuple #[]) W:=fun b W=>by
  have:Tryz.f67.results=#[]:=by kernel_rfl
  simp [results,this]
 have al:∀ (b:Act) (W:World),b.defers=[]->((∃ A',J (xs.filter opV) A' W)\/∃ pre suf,pre++suf=xs.filter opV/\Jx pre W) ->
   bodyPost Tryz.prog Tryz.f67 (fun e W'=>(∃ v,e=.returned v)/\((∃ A',J (xs.filter opV) A' W')\/∃ pre suf,pre++suf=xs.filter opV/\Jx pre W')) .ret b W:=fun b W hd h =>
  ⟨hd,_,a9 b W,⟨_,rfl⟩,h⟩
 refine wpIn_seq ?_;have an:=hJ _ _ _ ax;have bj:SR w ⟨A,w,A,xHg,0⟩ w A xHg ⟨[.yld l,.eptr 1 [.list 9 xs] 0 0]++List.replicate 18 (.tuple []),[]⟩ { tmps:=#[.func (.yield l) #[] #[],lv]++Array.replicate (Tryz.f67.ntmps - 2) undef,defers:=[] }:=by
  have bu:Tryz.f67.ntmps=20:=by kernel_rfl
  rw [bu];refine xpm an.2 (by simp) rfl fun t ht=>?_
  have ht:t<20:=by simpa using ht
  by_cases h0:t=0
  . subst h0;have e1:(#[Value.func (.yield l) #[] #[],lv]++Array.replicate 18 undef).getD 0 undef=.func (.yield l) #[] #[]:=by simp [Array.getElem?_append]
    show Rel w A xHg ((#[Value.func (.yield l) #[] #[],lv]++Array.replicate 18 undef).getD 0 undef) (.yld l);rw [e1];exact .yld l
  by_cases h1:t=1
  . subst h1;have e1:(#[Value.func (.yield l) #[] #[],lv]++Array.replicate 18 undef).getD 1 undef=lv:=by simp [Array.getElem?_append]
    show Rel w A xHg ((#[Value.func (.yield l) #[] #[],lv]++Array.replicate 18 undef).getD 1 undef) (.eptr 1 [.list 9 xs] 0 0);rw [e1];exact bn
  have e1:(#[Value.func (.yield l) #[] #[],lv]++Array.replicate (20 - 2) undef).getD t undef=undef:=by
   have h2:¬ t<2:=by omega
   have h3:t - 2<18:=by omega
   simp [Array.getElem?_append,h2,h3]
  have e2:([AV.yld l,.eptr 1 [.list 9 xs] 0 0]++List.replicate 18 (AV.tuple [])).getD t .top=.tuple []:=by
   have key:∀ m,t<m+2->([AV.yld l,.eptr 1 [.list 9 xs] 0 0]++List.replicate m (AV.tuple [])).getD t .top=.tuple []:=fun m hm=>by
    obtain ⟨u,rfl⟩:∃ u,t=u+2:=⟨t - 2,by omega⟩
    have hu:u<m:=by omega
    simp [z7,List.getElem?_replicate,hu]
   exact key 18 ht
  show Rel w A xHg ((#[Value.func (.yield l) #[] #[],lv]++Array.replicate (20 - 2) undef).getD t undef) (([AV.yld l,.eptr 1 [.list 9 xs] 0 0]++List.replicate 18 (AV.tuple [])).getD t .top);rw [e1,e2];exact .tuple #[] [] rfl (by simp)
 refine xnT (k:=0) (by omega) an.1 (xFJ xs l) bj fun b0 W0 A0 M0 a7 cc=>?_
 have bw:Hd xs l 0 W0 A b0:=Hd.of a7 rfl an.2 cc rfl rfl rfl rfl rfl rfl;have bo:J [] A W0:=aa _ _ _ _ ax a7.base;refine wpIn_block (wpIn_mono (Q:=fun e b W=>(e=.exit 0/\b.defers=[]/\∃ A',J (xs.filter opV) A' W)\/(e=.ret/\b.defers=[]/\∃ pre suf,pre++suf=xs.filter opV/\Jx pre W)) ?_ ?_)
 rotate_left
 . rintro e b W (⟨rfl,hd,h⟩|⟨rfl,hd,h⟩)
   . exact al b W hd (.inl h)
   . exact al b W hd (.inr h)
 refine wpIn_loop (fun b W=>∃ i:Nat,i<=xs.length/\∃ A',J ((xs.take i).filter opV) A' W/\Hd xs l i W A' b) (fun b W=>match b.tmps.getD 7 undef with|.int _ i=>xs.length - i.toNat|_=>0) ⟨0,zQ _,A,by simpa using bo,bw⟩ ?_
 rintro b W ⟨i,hi,A1,a1,hH⟩;have ai:=hJ _ _ _ a1;have cb:(match b.tmps.getD 7 undef with|.int _ i=>xs.length - i.toNat|_=>0)=xs.length - i:=by
  rw [hH.r7.int_inv];simp
 rw [cb];refine wpIn_seq ?_;refine xnT (k:=1) (by omega) ai.1 (xFK xs l i) (hH.sr ai.2) fun b1 W1 A2 M2 aw bq=>?_
 have Y:Hd xs l i W1 A1 b1:=Hd.of aw rfl ai.2 (bq.trans hH.def0) rfl rfl rfl rfl rfl rfl;have ac:J ((xs.take i).filter opV) A1 W1:=aa _ _ _ _ a1 aw.base;have h8:Rel W1 A1 xHg (b1.tmps.getD 8 undef) (.bool (decide ((i:Int)<(xs.length:Int)))):=aw.pureRel rfl ai.2 (by show 8<20;omega) rfl rfl
 refine wpIn_seq ?_;refine wpIn_cond_split h8.bool_inv (fun hc=>?_) (fun hc=>?_)
 rotate_left
 ·
  have bv:i=xs.length:=by simp at hc;omega
  refine wpIn_exit (.inl ⟨rfl,Y.def0,A1,?_⟩);rw [bv,y4] at ac;exact ac
 have ab:i<xs.length:=by simpa using hc
 refine wpIn_skip ?_;have q:=hJ _ _ _ ac;have ba:xs.getD i .top=xs[i]:=by simp [z7,ab]
 obtain ⟨va,vb,vr,vc,vd,ve,vf,vg,vh,hx⟩:=ce (xs.getD i .top) (xa2 ab);have O:(xs.take (i+1)).filter opV=(xs.take i).filter opV++(if opV (xs.getD i .top)=true then [xs.getD i .top] else []):=by
  rw [List.take_add_one,List.filter_append,ba];simp only [ze ab,Option.toList_some,List.filter_cons,List.filter_nil]
 have bi:SR W1 ⟨A1,W1,A1,xHg,0⟩ W1 A1 xHg ⟨Th8 xs l i true,[]⟩ b1:=by
  refine xpm q.2 Y.size Y.def0 fun t ht=>?_
  have h8':Rel W1 A1 xHg (b1.tmps.getD 8 undef) (.bool true):=by rw [hc] at h8;exact h8
  rcases lt20 ht with rfl|rfl|rfl|rfl|rfl|rfl|rfl|rfl|rfl|rfl|rfl|rfl|rfl|rfl|rfl|rfl|rfl|rfl|rfl|rfl <;>
   first|exact Rel.top _|exact Y.r0|exact Y.r1|exact Y.r5|exact Y.r6|exact Y.r7|exact h8'
 have bt:XO (opsAt Tryz.f67 2) (opsAt Tryz.f67 2).toList (Th8 xs l i true) []=some ⟨Tv xs l i (verA va vb vr vc vd ve vf vg vh),Bv (verA va vb vr vc vd ve vf vg vh)⟩:=by
  rw [xFL];have hx':xs.getD ((i:Int).toNat) .top=verA va vb vr vc vd ve vf vg vh:=by rw [zN];exact hx
  rw [hx'];have e1:(decide ((0:Int)<=(i:Int))&&decide ((i:Int)<(xs.length:Int)))=true:=by simp [ab]
  have e2:(decide ((i:Int).toNat<xs.length)&&((verA va vb vr vc vd ve vf vg vh).cells.length==(9:Nat)&&xG8 [Sh.int IntKind.i64,Sh.int IntKind.i64,Sh.list (3:Nat),Sh.int IntKind.i64,Sh.int IntKind.i64,Sh.int IntKind.i64,Sh.int IntKind.i64,Sh.int IntKind.i64,Sh.int IntKind.i64] (verA va vb vr vc vd ve vf vg vh).cells (0:Nat)))=true:=by
   rw [zN,zf];exact ⟨by simpa using ab,rfl⟩
  rw [e1,e2];rfl
 have ar:∀ (b4:Act) (W4:World) (A4:Nat->Prop),Hd xs l i W4 A4 b4->J ((xs.take (i+1)).filter opV) A4 W4->(Code.region (idOf (regAt Tryz.f67 4)) (opsAt Tryz.f67 4) false).wpIn Fence.wide 0 Tryz.prog (Exit.then (fun a' w'=>(∃ i:Nat,i<=xs.length/\∃ A',J ((xs.take i).filter opV) A' w'/\Hd xs l i w' A' a') /\
   (match a'.tmps.getD 7 undef with|.int _ i=>xs.length - i.toNat|_=>0)<xs.length - i) (fun e b W=>(e=.exit 0/\b.defers=[]/\∃ A',J (xs.filter opV) A' W)\/(e=.ret/\b.defers=[]/\∃ pre suf,pre++suf=xs.filter opV/\Jx pre W))) b4 W4:=fun b4 W4 A4 ah ae=>by
  have au:=hJ _ _ _ ae;refine xnT (k:=4) (by omega) au.1 (xFM xs l i) (ah.sr au.2) fun b5 W5 A5 M5 bc b7=>?_
  have hw:IntKind.i64.wrap ((i:Int)+1)=((i+1:Nat):Int):=by rw [xde (by omega) (by omega)];omega
  have V:Hd xs l ((i+1:Nat):Int) W5 A4 b5:=Hd.of bc rfl au.2 (b7.trans ah.def0) rfl rfl rfl rfl rfl (by show AV.int .i64 (IntKind.i64.wrap ((i:Int)+1))=_;rw [hw])
  refine ⟨⟨i+1,ab,A4,aa _ _ _ _ ae bc.base,V⟩,?_⟩;rw [V.r7.int_inv];simp;omega
 refine wpIn_seq ?_;refine wpIn_block ?_;refine wpIn_seq ?_;refine xnT (k:=2) (by omega) q.1 bt bi fun b2 W2 A3 M3 aq bb=>?_
 have cj:J ((xs.take i).filter opV) A1 W2:=aa _ _ _ _ ac aq.base;refine wpIn_seq ?_;have a2:∀ (b4:Act) (W4:World) (A4:Nat->Prop),Hd xs l i W4 A4 b4->J ((xs.take (i+1)).filter opV) A4 W4->b4.eval (.tmp 18)=.bool false->(Code.cond (.tmp 18) .ret .skip).wpIn Fence.wide 0 Tryz.prog (Exit.inBlock 1 (Exit.then (fun a' w'=>(Code.region (idOf (regAt Tryz.f67 4)) (opsAt Tryz.f67 4) false).wpIn Fence.wide 0 Tryz.prog (Exit.then (fun a' w'=>(∃ i:Nat,i<=xs.length/\∃ A',J ((xs.take i).filter opV) A' w'/\Hd xs l i w' A' a') /\
   (match a'.tmps.getD 7 undef with|.int _ i=>xs.length - i.toNat|_=>0)<xs.length - i) (fun e b W=>(e=.exit 0/\b.defers=[]/\∃ A',J (xs.filter opV) A' W)\/(e=.ret/\b.defers=[]/\∃ pre suf,pre++suf=xs.filter opV/\Jx pre W))) a' w')
   (Exit.then (fun a' w'=>(∃ i:Nat,i<=xs.length/\∃ A',J ((xs.take i).filter opV) A' w'/\Hd xs l i w' A' a') /\
   (match a'.tmps.getD 7 undef with|.int _ i=>xs.length - i.toNat|_=>0)<xs.length - i) (fun e b W=>(e=.exit 0/\b.defers=[]/\∃ A',J (xs.filter opV) A' W)\/(e=.ret/\b.defers=[]/\∃ pre suf,pre++suf=xs.filter opV/\Jx pre W))))) b4 W4:=fun b4 W4 A4 ah ae ca =>
  wpIn_cond_false ca (wpIn_skip (ar b4 W4 A4 ah ae))
 have a8:opV (verA va vb vr vc vd ve vf vg vh)=xd3 va vb vr vc vd ve vf vg vh:=rfl;have ck:verA va vb vr vc vd ve vf vg vh∈xs:=by rw [<-hx];exact xa2 ab
 rw [hx,a8] at O;by_cases ho:xd3 va vb vr vc vd ve vf vg vh=true
 ·
  rw [if_pos ho] at O;refine wpIn_region_list ?_;rw [xBm];have am:xOps Tryz.prog EIt none (some true) (opsAt Tryz.f67 3) ((opsAt Tryz.f67 3).toList.take 5) ⟨Tv xs l i (verA va vb vr vc vd ve vf vg vh),Bv (verA va vb vr vc vd ve vf vg vh)⟩ some=some ⟨Tw xs l i (verA va vb vr vc vd ve vf vg vh) true,Bv (verA va vb vr vc vd ve vf vg vh)⟩:=by
   have:=xEU xs l i va vb vr vc vd ve vf vg vh;rw [ho] at this;exact this
  refine xuO (Inv:=xHL.at 0) (ro:=none) (n:=0) (xHd Tryz.prog _) q.1 (xmk xs4 am) (fun o ho=>xh1 (xvu 3 (by omega)) o (List.mem_of_mem_take ho)) aq fun b3 W3 A4 M4 U ap cg=>?_
  have ag:Hd xs l i W3 A1 b3:=Hd.of U rfl q.2 ((ap.trans bb).trans Y.def0) rfl rfl rfl rfl rfl rfl;have ae:J ((xs.take i).filter opV) A1 W3:=aa _ _ _ _ ac U.base;have bf:Rel W3 A1 xHg (b3.tmps.getD 14 undef) (.yld l):=U.pureRel rfl q.2 (by show 14<20;omega) rfl rfl
  have bh:Rel W3 A1 xHg (b3.tmps.getD 15 undef) (verA va vb vr vc vd ve vf vg vh):=U.pureRel rfl q.2 (by show 15<20;omega) rfl rfl
  have bk:Rel W3 A1 xHg (b3.tmps.getD 13 undef) (.bool true):=U.pureRel rfl q.2 (by show 13<20;omega) rfl rfl
  have ay:b3.tmps.getD 14 undef=.func (.yield l) #[] #[]:=bf.yld_inv;have bg:(xs.take i).filter opV++verA va vb vr vc vd ve vf vg vh::(xs.drop (i+1)).filter opV=xs.filter opV:=by
   rw [show verA va vb vr vc vd ve vf vg vh::(xs.drop (i+1)).filter opV=[verA va vb vr vc vd ve vf vg vh]++(xs.drop (i+1)).filter opV from rfl,<-zw,<-O,<-List.filter_append,List.take_append_drop]
  obtain ⟨fn,tmps,b8,body,hy,aj⟩:=hY _ _ _ _ _ _ bg ae bh;have bp:=xhy (w:=W3) (A:=A4) (M:=M4) (ops:=opsAt Tryz.f67 3) U.size (fun j cf d _ _ bz=>U.tmps d bz) (xCv xs l i (verA va vb vr vc vd ve vf vg vh) true)
  unfold wpListIn;rw [if_pos bp];refine ⟨fun _ _=>trivial,?_⟩
  have be:=xDK ay rfl hy;rw [Oper.semAt_eq _ _ _ (fun c=>by rw [xBl];simp),be,Oper.uponIn_round]
  refine ⟨fun h=>by simp [wideR,Fence.wide] at h,?_⟩
  refine RoundIn.mono (show RoundIn Fence.wide 0 Tryz.prog l fn tmps b8 body W3 _ from aj) ?_
  have a6:∀ y:Bool,(b3.put (some 16) (.bool y)).tmps.getD 13 undef=.bool true:=fun y=>by
   have:(b3.put (some 16) (.bool y)).tmps.getD 13 undef=b3.tmps.getD 13 undef:=by
    simp [Act.put,zu,Array.getElem?_setIfInBounds_ne]
   rw [this,bk.bool_inv]
  have a5:∀ y:Bool,(b3.put (some 16) (.bool y)).tmps.getD 16 undef=.bool y:=fun y=>by
   have:16<b3.tmps.size:=by rw [ag.size];omega
   simp [Act.put,zu,this]
  rintro e W4 (⟨rfl,A5,az,bm,b9,cd⟩|⟨rfl,a0⟩)
  ·
   show wpListIn _ _ _ _ _ _ (b3.put itY.dst (.bool true)) W4;rw [xy0];have ak:=hJ _ _ _ az;have V:Hd xs l i W4 A5 (b3.put (some 16) (.bool true)):=ag.keep 16 _ (by omega) bm b9 cd
   have Z:SR W4 ⟨A5,W4,A5,xHg,0⟩ W4 A5 xHg ⟨Ty xs l i true,[]⟩ (b3.put (some 16) (.bool true)):=by
    refine xpm ak.2 V.size V.def0 fun t ht=>?_
    rcases lt20 ht with rfl|rfl|rfl|rfl|rfl|rfl|rfl|rfl|rfl|rfl|rfl|rfl|rfl|rfl|rfl|rfl|rfl|rfl|rfl|rfl <;>
     first|exact Rel.top _|exact V.r0|exact V.r1|exact V.r5|exact V.r6|exact V.r7|(rw [a6];exact Rel.bool true)|(rw [a5];exact Rel.bool true)
   refine xsO (Inv:=xHL.at 0) (ro:=none) (n:=0) (xHd Tryz.prog _) ak.1 (xmk xs4 (xEV xs l i true)) (fun o ho=>xh1 (xvu 3 (by omega)) o (List.mem_of_mem_drop ho)) Z (fun b6 W6 A6 M6 ad ao=>?_)
   . have af:Rel W6 A5 xHg (b6.tmps.getD 18 undef) (.bool false):=ad.pureRel rfl ak.2 (by show 18<20;omega) rfl rfl
     refine a2 b6 W6 A5 (Hd.of ad rfl ak.2 (ao.trans V.def0) rfl rfl rfl rfl rfl rfl) ?_ af.bool_inv;rw [O];exact aa _ _ _ _ az ad.base
  ·
   show wpListIn _ _ _ _ _ _ (b3.put itY.dst (.bool false)) W4;rw [xy0];have Z:SR W4 ⟨fun _=>False,W4,fun _=>False,xHg,0⟩ W4 (fun _=>False) xHg ⟨Tq false,[]⟩ (b3.put (some 16) (.bool false)):=by
    refine xpm (fun _ h=>h.elim) (by simp [Act.put,ag.size,Tq]) ag.def0 fun t ht=>?_
    rcases lt20 ht with rfl|rfl|rfl|rfl|rfl|rfl|rfl|rfl|rfl|rfl|rfl|rfl|rfl|rfl|rfl|rfl|rfl|rfl|rfl|rfl <;>
     first|exact Rel.top _|(rw [a6];exact Rel.bool true)|(rw [a5];exact Rel.bool false)
   refine xsO (Inv:=xHL.at 0) (ro:=none) (n:=0) (xHd Tryz.prog _) (a4 _ _ a0) (xmk xs4 xEX) (fun o ho=>xh1 (xvu 3 (by omega)) o (List.mem_of_mem_drop ho)) Z (fun b6 W6 A6 M6 ad ao=>?_)
   . have af:Rel W6 (fun _=>False) xHg (b6.tmps.getD 18 undef) (.bool true):=ad.pureRel rfl (fun _ h=>h.elim) (by show 18<20;omega) rfl rfl
     refine wpIn_cond_true af.bool_inv (wpIn_ret (.inr ⟨rfl,ao.trans ag.def0,(xs.take i).filter opV++[verA va vb vr vc vd ve vf vg vh],(xs.drop (i+1)).filter opV,?_,a3 _ _ _ a0 ad.base⟩));rw [<-O,<-List.filter_append,List.take_append_drop]
 ·
  rw [if_neg ho,zD] at O;have ho':xd3 va vb vr vc vd ve vf vg vh=false:=by simpa using ho
  have am:xOps Tryz.prog EIt none (some true) (opsAt Tryz.f67 3) (opsAt Tryz.f67 3).toList ⟨Tv xs l i (verA va vb vr vc vd ve vf vg vh),Bv (verA va vb vr vc vd ve vf vg vh)⟩ some=some ⟨Tn xs l i (verA va vb vr vc vd ve vf vg vh) false,Bv (verA va vb vr vc vd ve vf vg vh)⟩:=by
   have:=xEW xs l i va vb vr vc vd ve vf vg vh;rw [ho'] at this;exact this
  refine xnT (k:=3) (by omega) q.1 am aq fun b3 W3 A4 M4 U ap=>?_
  have af:Rel W3 A1 xHg (b3.tmps.getD 18 undef) (.bool false):=U.pureRel rfl q.2 (by show 18<20;omega) rfl rfl
  refine a2 b3 W3 A1 (Hd.of U rfl q.2 ((ap.trans bb).trans Y.def0) rfl rfl rfl rfl rfl rfl) ?_ af.bool_inv;rw [O];exact aa _ _ _ _ ac U.base
end Go.Sim.M
namespace Go.Sim
theorem xws {β γ:Type} {P:Program} {Inv:IV} {nt:Nat} {l:Code} {live liveO:List Nat} {conv:List (Nat×Nat×TypeId)} {pv:Pat (List AV) β} {pb:Pat (List Box) γ} {g:β->γ->Bool×LR}
  (h:∀ b c r,g b c=(true,r)->Does P Inv l (fun e1 s1=>e1=r.eval.1/\s1=⟨mkTs nt (liveO.zip r.eval.2.1),r.eval.2.2⟩) ⟨mkTs nt (live.zip (pv.enc b)),pb.enc c⟩):PieceOk P Inv nt l (lpOf live liveO conv pv pb g):=fun vals H r e=>by
 unfold lpOf at e;dsimp only at e;split at e
 . rename_i b hb;split at e
   . rename_i c hc;simp only [z6] at e;rw [pv.ok _ _ hb,pb.ok _ _ hc];exact h b c r e
   . simp at e
 . simp at e
def isRng:Code->Bool
 | .rangeFunc ..=>true
 | _=>false
theorem xrZ {P:Program} {Inv:IV} {E:Env} {c:Code} {ls:List Code} (h:xHm c=ls) (hl:∀ l,l∈ls->∀ lp,E.lp (xHh l)=some lp->LoopOk P Inv E.nt l lp) {rc:Code} {lp0:Lp} (hr:PieceOk P Inv E.nt rc lp0) (he:E.lp (condId rc)=some lp0)
  (h1:(xHi c).filter isRng=[rc]:=by kernel_rfl) (h2:((xHi c).all fun d=>isRng d || (E.lp (condId d)).isNone)=true:=by kernel_rfl):LoOk P Inv E c:=by
 refine ⟨fun l hm=>hl l (by rw [<-h];exact hm),fun d hd lp hs=>?_⟩
 cases hg:isRng d with
 | true =>
  have hm:d∈(xHi c).filter isRng:=List.mem_filter.2 ⟨hd,hg⟩;rw [h1,zv] at hm;subst hm;rw [he] at hs;simp only [z6] at hs;exact hs▸hr
 | false =>
  have:=zI.1 h2 d hd;rw [hg,hs] at this;simp at this
end Go.Sim
namespace Go.Sim.M
open Go.RowKit Go.Proofs
def rangesOf:Code->List Code
 | .seq a b=>rangesOf a++rangesOf b
 | .block _ c=>rangesOf c
 | .loop c=>rangesOf c
 | .cond _ a b=>rangesOf a++rangesOf b
 | .rangeFunc g ps a b=>[.rangeFunc g ps a b]
 | _=>[]
noncomputable def rgOf (fn:Func):Code:=(rangesOf (fn.body.getD .skip)).getD 0 .skip
noncomputable def rgA:Code->Code
 | .rangeFunc _ _ a _=>a
 | _=>.skip
noncomputable def rgB:Code->Code
 | .rangeFunc _ _ _ b=>b
 | _=>.skip
def isVb:AV->Bool
 | .agg [.int .i64 _,.int .i64 _,.list 3 _,.int .i64 _,.int .i64 _,.int .i64 _,.int .i64 _,.int .i64 _,.int .i64 _]=>true
 | _=>false
theorem xv9 {x:AV} (h:isVb x=true):IsV x:=by
 unfold isVb at h;split at h
 . exact ⟨_,_,_,_,_,_,_,_,_,rfl⟩
 . simp at h
def factA:AV->AV
 | .agg [_,_,r,c,d,_,_,_,_]=>.agg [r,c,d]
 | x=>x
theorem xo1 (k:AV->AV):∀ (l:List AV) (v:Nat) (ys:List AV),l.foldl (stepS (ρ:=Unit) fun (s:Nat×List AV) x=>Sum.inl (s.1+1,s.2++[k x])) (Sum.inl (v,ys))=Sum.inl (v+l.length,ys++l.map k)
 | [],v,ys=>by simp
 | x::l,v,ys=>by
  rw [List.foldl_cons];show l.foldl _ (Sum.inl (v+1,ys++[k x]))=_;rw [xo1 k l (v+1) (ys++[k x])];simp only [zF,zV,zw,List.singleton_append];congr 2;omega
theorem xo6 {pre q:List AV} {x:AV} {xs:List AV} {op:AV->Bool} (h:pre++x::q=xs.filter op):x∈xs/\pre.length<xs.length:=by
 have hm:x∈xs.filter op:=by rw [<-h];simp
 have hl:=List.length_filter_le op xs;rw [<-h] at hl;simp only [z8,zF] at hl;exact ⟨(List.mem_filter.1 hm).1,by omega⟩
theorem id0:(0:Id)=.b 0:=rfl
theorem id1:(1:Id)=.b 1:=rfl
theorem id2:(2:Id)=.b 2:=rfl
theorem id3:(3:Id)=.b 3:=rfl
theorem id4:(4:Id)=.b 4:=rfl
noncomputable abbrev xzy:Env:=xkY.E.fn 18 2 (lsOf []) (xHp [])
theorem xFD:xG3 Tryz.prog ⟨(xHL).inv,2,false⟩ xzy:=⟨fun g a r h=>xkY.ok.1 g a r h,fun g a H r H' h=>xkY.ok.2 g a H r H' h⟩
noncomputable abbrev xzz (xs:List AV):List AV:=mkTs 18 [(3,.own 0 0 0 0),(6,.func 67 [.eptr 1 [.list 9 xs] 0 0])]
def xvD (s:Nat×List AV):List Box:=[⟨0,1,26,[.osl 1 s.1 0 s.2.length],false,false⟩,⟨s.1,3,60,s.2,false,true⟩]
theorem xFU (xs ys:List AV) (v n:Nat) (a b:Int) (r:List AV) (c d e f g h:Int):XB Tryz.prog xzy (rgA (rgOf Tryz.f12)) (rgB (rgOf Tryz.f12)) ((xzz xs).set 7 (verA a b r c d e f g h)) [⟨0,1,26,[.osl 1 v 0 n],false,false⟩,⟨v,3,60,ys,false,true⟩] =
 br (v==v&&(n==ys.length&&(decide ((n+1)*40<=140737488355328)&&decide (n+1<=4611686018427387904)))) (some (.normal,[⟨0,1,26,[.osl 1 (v+1) 0 (n+1)],false,false⟩,⟨v+1,3,60,ys++[.agg [.list 3 r,.int .i64 c,.int .i64 d]],false,true⟩])) none:=by kernel_rfl
theorem xFB:LoOk Tryz.prog ⟨(xHL).inv,2,false⟩ xzy (rgA (rgOf Tryz.f12)):=xe4 (by kernel_rfl)
theorem xFC:LoOk Tryz.prog ⟨(xHL).inv,2,false⟩ xzy (rgB (rgOf Tryz.f12)):=xe4 (by kernel_rfl)
theorem xDo:rgOf Tryz.f12=.rangeFunc (.tmp 6) #[7] (rgA (rgOf Tryz.f12)) (rgB (rgOf Tryz.f12)):=by kernel_rfl
theorem xFT (xs:List AV) (s:Nat×List AV):normS 0 [] [3] ⟨xzz xs,xvD s⟩=some ([.own 0 0 0 0],[⟨0,1,26,[.osl 1 0 0 s.2.length],false,false⟩,⟨0,3,60,s.2,false,true⟩]):=by
 obtain ⟨v,ys⟩:=s;have hb:Nat.beq v v=true:=Nat.beq_refl v;simp [normS,normH,normF,convs,xHE,xHK,renOk,xHv,rens,ren,renI,gather,refsOf,refsOf.refsL,xHo,xzz,xvD,mkTs,liveOf,pinsOk,nodupB,hb,id0,id1,id2,id3,id4,Id.base,Nat.beq,Nat.blt,Nat.ble]
def rfOk (k:Nat) (xs ys:List AV):Bool:=xs.all isVb&&decide ((ys.length+xs.length)*k<=140737488355328)
noncomputable def xng:Lp:=lpOf [3,6] [3] [(3,3,60)] (xHM (xHZ 0 0 0 0) (xHM (xHq 67 (xHM (pEptr 1 0 0 (xHM (xH3 9 xHQ) xHO)) xHO)) xHO)) (xHM (xH0 0 1 26 false false (xHM (xHY 1 0 0) xHO)) (xHM (xH0 0 3 60 false true xHQ) xHO))
 fun (_,(((xs,_),_),_)) ((n,_),(ys,_))=>(Nat.beq n ys.length&&rfOk 40 xs ys,.leaf .normal [.own 0 0 0 0] [⟨0,1,26,[.osl 1 0 0 (ys++(xs.filter opV).map factA).length],false,false⟩,⟨0,3,60,ys++(xs.filter opV).map factA,false,true⟩])
theorem xtj:PieceOk Tryz.prog (xHL.at 0) 18 (rgOf Tryz.f12) xng:=xws fun vv bb rr hh=>by
 obtain ⟨_,⟨⟨xs,_⟩,_⟩,_⟩:=vv;obtain ⟨⟨n,_⟩,⟨ys,_⟩⟩:=bb;obtain ⟨h1,rfl⟩:=Prod.mk.inj hh;simp only [rfOk,zf,zl] at h1;obtain ⟨hn,hv,hb⟩:=h1;obtain rfl:=zg hn;have hV:∀ x,x∈xs->IsV x:=fun x hx=>xv9 (zI.1 hv x hx)
 rw [xDo];refine xs0 (xbB (xrL (Inv:=xHL.at 0) (xHd Tryz.prog _) rfl (xs:=xs) (op:=opV) (T:=xzz xs) (n:=2) (σ:=Nat×List AV) (ρ:=Unit) xvD (fun _=>[]) (fun s x=>.inl (s.1+1,s.2++[factA x])) (fun _=>rfl) (s0:=(0,ys)) (xpO xs hV (by omega)) rfl rfl ?_) ?_)
 . intro pre s x Q J hf;obtain ⟨hx,hl⟩:=xo6 J;rw [xo1] at hf;simp only [Sum.inl.injEq] at hf;obtain ⟨a,b,r,c,d,e,f,g,h,rfl⟩:=hV x hx;have O:s.2.length=ys.length+pre.length:=by rw [<-hf];simp
   have hc:(s.1==s.1&&(s.2.length==s.2.length&&(decide ((s.2.length+1)*40<=140737488355328)&&decide (s.2.length+1<=4611686018427387904))))=true:=by
    simp only [beq_self_eq_true,Bool.true_and,zf,zl];omega
   have q:=xFU xs s.2 s.1 s.2.length a b r c d e f g h;rw [hc] at q;refine xbB (xrX xHc (xHd Tryz.prog _) rfl xFD xFB xFC q) fun e1 s1 ⟨g1,g2⟩=>⟨g1,xbB g2 fun e2 s2 ⟨k1,T',k2⟩=>⟨k1,T',?_⟩⟩
   have:xvD (s.1+1,s.2++[factA (verA a b r c d e f g h)])=[⟨0,1,26,[.osl 1 (s.1+1) 0 (s.2.length+1)],false,false⟩,⟨s.1+1,3,60,s.2++[.agg [.list 3 r,.int .i64 c,.int .i64 d]],false,true⟩]:=by
    simp [xvD,factA,verA]
   rw [this];exact k2
 . intro e1 s1 hq;rw [xo1] at hq;obtain ⟨rfl,rfl⟩:=hq;exact ⟨_,xiW (xFT xs _),rfl,rfl⟩
noncomputable abbrev xzA:Env:=xkY.E.fn 16 3 (lsOf []) (xHp [])
theorem xDd:xG3 Tryz.prog ⟨(xHL).inv,3,false⟩ xzA:=⟨fun g a r h=>xkY.ok.1 g a r h,fun g a H r H' h=>xkY.ok.2 g a H r H' h⟩
noncomputable abbrev xCb (xs:List AV):List AV:=mkTs 16 [(3,.own 0 0 0 0),(4,.own 1 0 0 0),(5,.own 2 0 0 0),(8,.func 67 [.eptr 1 [.list 9 xs] 0 0])]
def xt6 (id:Int) (z:AV) (t:Bool):List Box:=[⟨0,1,3,[.int .i64 id],false,true⟩,⟨0,9,58,[z],false,true⟩,⟨0,1,4,[.bool t],false,true⟩]
theorem xFV (xs:List AV) (id:Int) (z:AV) (t:Bool) (a b:Int) (r:List AV) (c d e f g h:Int):XB Tryz.prog xzA (rgA (rgOf Tryz.f78)) (rgB (rgOf Tryz.f78)) ((xCb xs).set 9 (verA a b r c d e f g h)) (xt6 id z t) =
 br (a==id) (some (.ret,xt6 id (verA a b r c d e f g h) true)) (some (.normal,xt6 id z t)):=by kernel_rfl
theorem xDb:LoOk Tryz.prog ⟨(xHL).inv,3,false⟩ xzA (rgA (rgOf Tryz.f78)):=xe4 (by kernel_rfl)
theorem xDc:LoOk Tryz.prog ⟨(xHL).inv,3,false⟩ xzA (rgB (rgOf Tryz.f78)):=xe4 (by kernel_rfl)
theorem xDp:rgOf Tryz.f78=.rangeFunc (.tmp 8) #[9] (rgA (rgOf Tryz.f78)) (rgB (rgOf Tryz.f78)):=by kernel_rfl
theorem xED (xs:List AV) (id:Int) (z:AV) (t:Bool):normS 0 [] [4,5] ⟨xCb xs,xt6 id z t⟩=some ([.own 0 0 0 0,.own 1 0 0 0],[⟨0,9,58,[z],false,true⟩,⟨0,1,4,[.bool t],false,true⟩]):=by kernel_rfl
def idA:AV->Int
 | .agg [.int _ a,_,_,_,_,_,_,_,_]=>a
 | _=>0
noncomputable def findA (id:Int) (xs:List AV):Option AV:=(xs.filter opV).find? fun x=>idA x==id
theorem xuC (id:Int):∀ l:List AV,l.foldl (stepS fun (_:Unit) x=>br (idA x==id) (Sum.inr x) (.inl ())) (.inl ())=match l.find? fun x=>idA x==id with|some x=>.inr x|none=>.inl ()
 | []=>rfl
 | x::l=>by
  rw [List.foldl_cons,List.find?_cons];show l.foldl _ (br (idA x==id) (Sum.inr x) (.inl ()))=_;cases h:idA x==id with
  | true=>exact xrO _ _ _
  | false=>exact xuC id l
def exA (x:AV):AV:=.agg [.int .i64 (x.cells.getD 0 .top).toInt,.int .i64 (x.cells.getD 1 .top).toInt,.list 3 (x.cells.getD 2 .top).toList,.int .i64 (x.cells.getD 3 .top).toInt,.int .i64 (x.cells.getD 4 .top).toInt,.int .i64 (x.cells.getD 5 .top).toInt,.int .i64 (x.cells.getD 6 .top).toInt,.int .i64 (x.cells.getD 7 .top).toInt,.int .i64 (x.cells.getD 8 .top).toInt]
theorem xFH {x:AV} (h:IsV x):exA x=x:=by
 obtain ⟨a,b,r,c,d,e,f,g,i,rfl⟩:=h;rfl
noncomputable def xod:Lp:=lpOf [3,4,5,8] [4,5] [] (xHM (xHZ 0 0 0 0) (xHM (xHZ 1 0 0 0) (xHM (xHZ 2 0 0 0) (xHM (xHq 67 (xHM (pEptr 1 0 0 (xHM (xH3 9 xHQ) xHO)) xHO)) xHO)))) (xHM (xH0 0 1 3 false true (xHM (pInt .i64) xHO)) (xHM (xH0 0 9 58 false true (xHM xHQ xHO)) (xHM (xH0 0 1 4 false true (xHM pBool xHO)) xHO)))
 fun (_,(_,(_,(((xs,_),_),_)))) ((id,_),((z,_),((t,_),_)))=>(xs.all isVb&&decide (xs.length<4611686018427387904),
  .node (findA id xs).isSome (.leaf .ret [.own 0 0 0 0,.own 1 0 0 0] [⟨0,9,58,[exA ((findA id xs).getD .top)],false,true⟩,⟨0,1,4,[.bool true],false,true⟩]) (.leaf .normal [.own 0 0 0 0,.own 1 0 0 0] [⟨0,9,58,[z],false,true⟩,⟨0,1,4,[.bool t],false,true⟩]))
theorem xuf:PieceOk Tryz.prog (xHL.at 0) 16 (rgOf Tryz.f78) xod:=xws fun vv bb rr hh=>by
 obtain ⟨_,_,_,⟨⟨xs,_⟩,_⟩,_⟩:=vv;obtain ⟨⟨id,_⟩,⟨z,_⟩,⟨t,_⟩,_⟩:=bb;obtain ⟨h1,rfl⟩:=Prod.mk.inj hh;simp only [zf,zl] at h1;have hV:∀ x,x∈xs->IsV x:=fun x hx=>xv9 (zI.1 h1.1 x hx)
 rw [xDp];refine xs0 (xbB (xrL (Inv:=xHL.at 0) (xHd Tryz.prog _) rfl (xs:=xs) (op:=opV) (T:=xCb xs) (n:=3) (σ:=Unit) (ρ:=AV) (fun _=>xt6 id z t) (fun x=>xt6 id x true) (fun _ x=>br (idA x==id) (.inr x) (.inl ())) (fun _=>rfl) (s0:=()) (xpO xs hV h1.2) rfl rfl ?_) ?_)
 . intro pre s x U Q hf;obtain ⟨hx,hl⟩:=xo6 Q;obtain ⟨a,b,r,c,d,e,f,g,h,rfl⟩:=hV x hx;have q:=xFV xs id z t a b r c d e f g h;have O:idA (verA a b r c d e f g h)=a:=rfl;rw [O];cases hc:a==id with
   | true =>
    rw [hc] at q;exact xbB (xrX xHc (xHd Tryz.prog _) rfl xDd xDb xDc q) fun e1 s1 ⟨g1,g2⟩=>⟨g1,xbB g2 fun e2 s2 ⟨k1,T',k2⟩=>⟨k1,T',k2⟩⟩
   | false =>
    rw [hc] at q;exact xbB (xrX xHc (xHd Tryz.prog _) rfl xDd xDb xDc q) fun e1 s1 ⟨g1,g2⟩=>⟨g1,xbB g2 fun e2 s2 ⟨k1,T',k2⟩=>⟨k1,T',k2⟩⟩
 . intro e1 s1 hq;rw [xuC] at hq;unfold findA;cases hf:(xs.filter opV).find? (fun x=>idA x==id) with
   | some x =>
    rw [hf] at hq;obtain ⟨rfl,rfl⟩:=hq;have J:exA ((some x).getD .top)=x:=xFH (hV x (List.mem_filter.1 (List.mem_of_find?_eq_some hf)).1);refine ⟨_,xiW (xED xs id x true),rfl,?_⟩;simp only [LR.eval,J,zk];rfl
   | none =>
    rw [hf] at hq;obtain ⟨rfl,rfl⟩:=hq;exact ⟨_,xiW (xED xs id z t),rfl,rfl⟩
noncomputable abbrev xzB:Env:=xkY.E.fn 67 5 (lsOf []) (xHp [])
theorem xFG:xG3 Tryz.prog ⟨(xHL).inv,5,false⟩ xzB:=⟨fun g a r h=>xkY.ok.1 g a r h,fun g a H r H' h=>xkY.ok.2 g a H r H' h⟩
noncomputable abbrev xzC (xs:List AV):List AV:=mkTs 67 [(6,.own 0 0 0 0),(7,.own 1 0 0 0),(8,.func 47 [.own 0 0 0 0,.own 1 0 0 0]),(9,.own 2 0 0 0),(24,.func 67 [.eptr 1 [.list 9 xs] 0 0])]
def xsA (nx bs:List AV) (m:Nat) (s:Nat×List AV):List Box:=[⟨0,1,26,[.list 3 nx],false,true⟩,⟨0,1,75,[.osl 3 0 0 m],false,false⟩,⟨0,1,22,[.osl 4 s.1 0 s.2.length],false,false⟩,⟨0,1,4,bs,false,true⟩,⟨s.1,9,58,s.2,false,true⟩]
theorem xFX (xs nx bs ys:List AV) (m v n:Nat) (a b:Int) (r:List AV) (c d e f g h:Int):XB Tryz.prog xzB (rgA (rgOf Tryz.f18)) (rgB (rgOf Tryz.f18)) ((xzC xs).set 25 (verA a b r c d e f g h)) [⟨0,1,26,[.list 3 nx],false,true⟩,⟨0,1,75,[.osl 3 0 0 m],false,false⟩,⟨0,1,22,[.osl 4 v 0 n],false,false⟩,⟨0,1,4,bs,false,true⟩,⟨v,9,58,ys,false,true⟩] =
 br (v==v&&(n==ys.length&&(decide ((n+1)*88<=140737488355328)&&decide (n+1<=4611686018427387904)))) (some (.normal,[⟨0,1,26,[.list 3 nx],false,true⟩,⟨0,1,75,[.osl 3 0 0 m],false,false⟩,⟨0,1,22,[.osl 4 (v+1) 0 (n+1)],false,false⟩,⟨0,1,4,bs,false,true⟩,⟨v+1,9,58,ys++[verA a b r c d e f g h],false,true⟩])) none:=by kernel_rfl
theorem xFE:LoOk Tryz.prog ⟨(xHL).inv,5,false⟩ xzB (rgA (rgOf Tryz.f18)):=xe4 (by kernel_rfl)
theorem xFF:LoOk Tryz.prog ⟨(xHL).inv,5,false⟩ xzB (rgB (rgOf Tryz.f18)):=xe4 (by kernel_rfl)
theorem xDq:rgOf Tryz.f18=.rangeFunc (.tmp 24) #[25] (rgA (rgOf Tryz.f18)) (rgB (rgOf Tryz.f18)):=by kernel_rfl
theorem xFW (xs nx bs:List AV) (m:Nat) (s:Nat×List AV):normS 0 [] [6,7,8,9] ⟨xzC xs,xsA nx bs m s⟩=some ([.own 0 0 0 0,.own 1 0 0 0,.func 47 [.own 0 0 0 0,.own 1 0 0 0],.own 2 0 0 0],xsA nx bs m (0,s.2)):=by
 obtain ⟨v,ys⟩:=s;have hb:Nat.beq v v=true:=Nat.beq_refl v;simp [normS,normH,normF,convs,xHE,xHK,renOk,xHv,rens,ren,renI,gather,refsOf,refsOf.refsL,xHo,xzC,xsA,mkTs,liveOf,pinsOk,nodupB,hb,id0,id1,id2,id3,id4,Id.base,Nat.beq,Nat.blt,Nat.ble]
noncomputable def xd6:Lp:=lpOf [6,7,8,9,24] [6,7,8,9] [(9,9,58)] (xHM (xHZ 0 0 0 0) (xHM (xHZ 1 0 0 0) (xHM (xHq 47 (xHM (xHZ 0 0 0 0) (xHM (xHZ 1 0 0 0) xHO))) (xHM (xHZ 2 0 0 0) (xHM (xHq 67 (xHM (pEptr 1 0 0 (xHM (xH3 9 xHQ) xHO)) xHO)) xHO)))))
  (xHM (xH0 0 1 26 false true (xHM (xH3 3 xHQ) xHO)) (xHM (xH0 0 1 75 false false (xHM (xHY 3 0 0) xHO)) (xHM (xH0 0 1 22 false false (xHM (xHY 4 0 0) xHO)) (xHM (xH0 0 1 4 false true xHQ) (xHM (xH0 0 9 58 false true xHQ) xHO)))))
 fun (_,(_,(_,(_,(((xs,_),_),_))))) ((nx,_),((m,_),((n,_),(bs,(ys,_)))))=>(Nat.beq n ys.length&&rfOk 88 xs ys,
  .leaf .normal [.own 0 0 0 0,.own 1 0 0 0,.func 47 [.own 0 0 0 0,.own 1 0 0 0],.own 2 0 0 0] (xsA nx bs m (0,ys++xs.filter opV)))
theorem xoE:PieceOk Tryz.prog (xHL.at 0) 67 (rgOf Tryz.f18) xd6:=xws fun vv bb rr hh=>by
 obtain ⟨_,_,_,_,⟨⟨xs,_⟩,_⟩,_⟩:=vv;obtain ⟨⟨nx,_⟩,⟨m,_⟩,⟨n,_⟩,bs,ys,_⟩:=bb;obtain ⟨h1,rfl⟩:=Prod.mk.inj hh;simp only [rfOk,zf,zl] at h1;obtain ⟨hn,hv,hb⟩:=h1;obtain rfl:=zg hn;have hV:∀ x,x∈xs->IsV x:=fun x hx=>xv9 (zI.1 hv x hx)
 rw [xDq];refine xs0 (xbB (xrL (Inv:=xHL.at 0) (xHd Tryz.prog _) rfl (xs:=xs) (op:=opV) (T:=xzC xs) (n:=5) (σ:=Nat×List AV) (ρ:=Unit) (xsA nx bs m) (fun _=>[]) (fun s x=>.inl (s.1+1,s.2++[id x])) (fun _=>rfl) (s0:=(0,ys)) (xpO xs hV (by omega)) rfl rfl ?_) ?_)
 . intro pre s x Q J hf;obtain ⟨hx,hl⟩:=xo6 J;rw [xo1] at hf;simp only [Sum.inl.injEq] at hf;obtain ⟨a,b,r,c,d,e,f,g,h,rfl⟩:=hV x hx;have O:s.2.length=ys.length+pre.length:=by rw [<-hf];simp
   have hc:(s.1==s.1&&(s.2.length==s.2.length&&(decide ((s.2.length+1)*88<=140737488355328)&&decide (s.2.length+1<=4611686018427387904))))=true:=by
    simp only [beq_self_eq_true,Bool.true_and,zf,zl];omega
   have q:=xFX xs nx bs s.2 m s.1 s.2.length a b r c d e f g h;rw [hc] at q;refine xbB (xrX xHc (xHd Tryz.prog _) rfl xFG xFE xFF q) fun e1 s1 ⟨g1,g2⟩=>⟨g1,xbB g2 fun e2 s2 ⟨k1,T',k2⟩=>⟨k1,T',?_⟩⟩
   have:xsA nx bs m (s.1+1,s.2++[id (verA a b r c d e f g h)])=[⟨0,1,26,[.list 3 nx],false,true⟩,⟨0,1,75,[.osl 3 0 0 m],false,false⟩,⟨0,1,22,[.osl 4 (s.1+1) 0 (s.2.length+1)],false,false⟩,⟨0,1,4,bs,false,true⟩,⟨s.1+1,9,58,s.2++[verA a b r c d e f g h],false,true⟩]:=by
    simp [xsA]
   rw [this];exact k2
 . intro e1 s1 hq;rw [xo1] at hq;obtain ⟨rfl,rfl⟩:=hq;refine ⟨_,xiW (xFW xs nx bs m _),rfl,?_⟩;simp [LR.eval];rfl
end Go.Sim.M
namespace Go.Sim.M
open Go.IntKind (i64 u64 u8)
open Go.RowKit Go.Proofs
def xoD {T:Type} (a b:LA) (δ:T) (κ:Bool->T):T:=br ((xgX a b).isSome) (κ ((xgX a b).getD 0==0)) δ
def xnR (a b:LA):=xoD a b none some
def xAA:EO:=xkY.f Tryz.func48 9 0 [] [] lk0 (u2 (uL 3) (uL 3)) (fun (a,b,_) _=>xoD a b) (fun _ p=>AV.bool p) false
def xly (b:Int) (a:LA):=decide (0+b.toNat<a.length)
def xjo {T:Type} (h:LA) (o b:Int) (d:LA) (c:Nat) (a:LA) (i j:Int) (e:LA) (f g k l m n:Int) (δ:T) (κl:(Int×LA×Nat×LA×Int×Int×LA×Int×Int×Int×Int×Int×Int)->T) (κr:(Bool×(Bool×LA×Nat×LA)×(LA×Nat×LA))->T):T:=br (decide (b<o)) (br (ixI h b) (br (ixT h b 3 [Sh.list 3,Sh.int .i64,Sh.int .i64] 0) (br (decide (0<=b)&&decide (b<(↑c:Int))) (br (xly b a&&xG1 Sh.bool ((a.getD (0+b.toNat) .top).cells.getD 0 .top)) (br (!((a.getD (0+b.toNat) .top).cells.getD 0 .top).toBool) (br ((gC h b 1).toInt==f&&((gC h b 2).toInt==g&&true)) (br ((xnR (gC h b 0).toList e).isSome) (br ((xnR (gC h b 0).toList e).getD false) (br (decide (0<=b)&&decide (b<(↑c:Int))) (br (xly b a) (κr (true,(true,d,c,a.set (0+b.toNat) (AV.bool true)),([],0,[]))) δ) δ) (κl (i64.wrap (b+1),d,c,a,i,j,e,f,g,k,l,m,n))) δ) (κl (i64.wrap (b+1),d,c,a,i,j,e,f,g,k,l,m,n))) (κl (i64.wrap (b+1),d,c,a,i,j,e,f,g,k,l,m,n))) δ) δ) δ) δ) (κr (false,(false,[],0,[]),(d,c,a)))
def xfl (m:LA) (n:Int):StT (Int×LA×Nat×LA×Int×Int×LA×Int×Int×Int×Int×Int×Int) (Bool×(Bool×LA×Nat×LA)×(LA×Nat×LA)):=fun (o,b,c,a,d,e,f,g,h,i,j,k,l)=>xjo m n o b c a d e f g h i j k l none inL inR
def xoY:=xAA.l 37 3 [] [] Tryz.f47 0 lk0 [2,3,7,8,9] [4] [] (q5 (xHZ 1 0 0 0) (xHZ 3 0 0 0) (qL 3) qI qI) (q4 (qB 0 1 26 (q1 (qL 3))) (xH0 0 1 75 false false (q1 (xHY 2 0 0))) (qB 0 1 4 xHQ) (qB 0 9 58 (q1 (xHx (q9 qI qI (qL 3) qI qI qI qI qI qI))))) (fun (_,_,n,o,q,_) ((b,_),(c,_),a,((d,e,f,g,h,i,j,k,m,_),_),_)=>(xfl n o,(q,b,c,a,d,e,f,g,h,i,j,k,m),fun p=>(.node p.1 (.leaf .ret [AV.bool p.2.1.1] [bF 0 1 26 [AV.list 3 p.2.1.2.1],⟨0,1,75,[AV.osl 2 0 0 p.2.1.2.2.1],false,false⟩,bF 0 1 4 p.2.1.2.2.2]) (.leaf (.exit 0) [.top] [bF 0 1 26 [AV.list 3 p.2.2.1],⟨0,1,75,[AV.osl 2 0 0 p.2.2.2.1],false,false⟩,bF 0 1 4 p.2.2.2.2])))) (false,(false,[],0,[]),([],0,[])) fun (_,_,n,o,_,_) _ (q,b,c,a,d,e,f,g,h,i,j,k,m)=>((((),(),n,o,q,()),((b,()),(c,()),a,((d,e,f,g,h,i,j,k,m,()),()),())),xjo n o q b c a d e f g h i j k m none)
def xol (id c:Int) (r:LA) (f t d e b g:Int) (a:LA) (n:Nat) (h:LA):=Iter (xfl a (↑a.length:Int)) (0,a,n,h,id,c,r,f,t,d,e,b,g)
def xok (id b:Int) (r:LA) (f t c d a e:Int) (g:LA) (n:Nat) (h:LA):=(xol id b r f t c d a e g n h).getD (false,(false,[],0,[]),[],0,[])
def xoj (id b:Int) (r:LA) (f t c d a e:Int) (g:LA) (n:Nat) (h:LA):=(xok id b r f t c d a e g n h).snd
def xoh (id b:Int) (r:LA) (f t c d a e:Int) (g:LA) (n:Nat) (h:LA):=(xoj id b r f t c d a e g n h).snd
def xoi (id b:Int) (r:LA) (f t c d a e:Int) (g:LA) (n:Nat) (h:LA):=(xoj id b r f t c d a e g n h).fst
def xof (id b:Int) (r:LA) (f t c d a e:Int) (g:LA) (n:Nat) (h:LA):=(xoi id b r f t c d a e g n h).snd
def xog (id b:Int) (r:LA) (f t c d a e:Int) (g:LA) (n:Nat) (h:LA):=(xoh id b r f t c d a e g n h).snd
def xoe (id b:Int) (r:LA) (f t c d a e:Int) (g:LA) (n:Nat) (h:LA):=(xof id b r f t c d a e g n h).snd
def xoZ {T:Type} (id b:Int) (r:LA) (f t c d a e:Int) (g:LA) (n:Nat) (h:LA) (δ:T) (κ:Bool×LA×Nat×LA->T):T:=br ((xol id b r f t c d a e g n h).isSome) (br ((xok id b r f t c d a e g n h).fst) (κ ((xoi id b r f t c d a e g n h).fst,(xof id b r f t c d a e g n h).fst,(xoe id b r f t c d a e g n h).fst,(xoe id b r f t c d a e g n h).snd)) (κ (false,(xoh id b r f t c d a e g n h).fst,(xog id b r f t c d a e g n h).fst,(xog id b r f t c d a e g n h).snd))) δ
def xqu (id b:Int) (r:LA) (f t c d a e:Int) (g:LA) (n:Nat) (h:LA):=xoZ id b r f t c d a e g n h none some
def xEq:EO:=xAA.fM Tryz.func47 37 3 [] [(2,xoY.lp)] (lk1 xoY.ok) (u3 (xH2 (xHN uI (xHN uI (u7 (uL 3) uI uI uI uI uI uI)))) (sEq (xHZ 0 0 0 0)) (sEq (xHZ 1 0 0 0))) (q3 (qB 0 1 26 (q1 (qL 3))) (xH0 0 1 75 false false (q1 (xHY 2 0 0))) (qB 0 1 4 xHQ)) (fun ((id,b,r,f,t,c,d,a,e,_),_,_,_) ((g,_),(n,_),h,_) _=>xoZ id b r f t c d a e g n h) (fun _ _ p=>(AV.bool p.1,([bF 0 1 26 [AV.list 3 p.2.1],⟨0,1,75,[AV.osl 2 0 0 p.2.2.1],false,false⟩,bF 0 1 4 p.2.2.2]:List Box))) (false,[],0,[])
def xro (a c:Int) (m:LA) (n o d e f g b h:Int) (p:LA) (q r i j k l:Int):Int:=((xcv a b))
def xw8 {T:Type} (a c:Int) (m:LA) (n o d e f g b h:Int) (p:LA) (q r i j k l:Int) (δ:T) (κ:Int->T):T:=κ (xcv a b)
def xvz:EO:=xEq.fT Tryz.func50 10 0 [] [] lk0 (fun ((a,b,m,n,o,c,d,e,f,_),(g,h,q,r,s,i,j,k,l,_),_)=>xw8 a b m n o c d e f g h q r s i j k l none) (u2 (xH2 (xHN uI (xHN uI (u7 (uL 3) uI uI uI uI uI uI)))) (xH2 (xHN uI (xHN uI (u7 (uL 3) uI uI uI uI uI uI))))) (fun ((a,b,m,n,o,c,d,e,f,_),(g,h,q,r,s,i,j,k,l,_),_)=>xro a b m n o c d e f g h q r s i j k l) (fun _ p=>(AV.int .i64 p))
def xds (a:Nat) (j:Int):=decide (0<=i64.wrap (j - 1))&&decide (i64.wrap (j - 1)<(↑a:Int))
def xak (j:Int) (a:LA):=(a.getD (0+j.toNat) .top).cells
def xb1 (j:Int):Nat:=0+(i64.wrap (j - 1)).toNat
def xdt (a:Nat) (j:Int):=decide (0<=j)&&decide (j<(↑a:Int))
def xfQ (j:Int) (a:LA):=decide (0+j.toNat<a.length)
def xaj (j:Int) (a:LA):=(a.getD (xb1 j) .top).cells
def xfO (j:Int) (a:LA):=xfQ j a&&((xak j a).length==9&&xG8 [Sh.int .i64,Sh.int .i64,Sh.list 3,Sh.int .i64,Sh.int .i64,Sh.int .i64,Sh.int .i64,Sh.int .i64,Sh.int .i64] (xak j a) 0)
def xfN (j:Int) (a:LA):=a.set (0+j.toNat) (AV.agg [AV.int .i64 ((xaj j a).getD 0 .top).toInt,AV.int .i64 ((xaj j a).getD 1 .top).toInt,AV.list 3 ((xaj j a).getD 2 .top).toList,AV.int .i64 ((xaj j a).getD 3 .top).toInt,AV.int .i64 ((xaj j a).getD 4 .top).toInt,AV.int .i64 ((xaj j a).getD 5 .top).toInt,AV.int .i64 ((xaj j a).getD 6 .top).toInt,AV.int .i64 ((xaj j a).getD 7 .top).toInt,AV.int .i64 ((xaj j a).getD 8 .top).toInt])
def xfP (j:Int) (a:LA):=decide (xb1 j<a.length)&&((xaj j a).length==9&&xG8 [Sh.int .i64,Sh.int .i64,Sh.list 3,Sh.int .i64,Sh.int .i64,Sh.int .i64,Sh.int .i64,Sh.int .i64,Sh.int .i64] (xaj j a) 0)
def xf2 {T:Type} (d:Nat) (a b i j:Int) (c:LA) (δ:T) (κl:(Int×LA)->T) (κr:(LA)->T):T:=br (decide (j>a)) (br (xdt d j) (br (xfO j c) (br (xds d j) (br (xfP j c) (br (decide (xro ((xak j c).getD 0 .top).toInt ((xak j c).getD 1 .top).toInt ((xak j c).getD 2 .top).toList ((xak j c).getD 3 .top).toInt ((xak j c).getD 4 .top).toInt ((xak j c).getD 5 .top).toInt ((xak j c).getD 6 .top).toInt ((xak j c).getD 7 .top).toInt ((xak j c).getD 8 .top).toInt ((xaj j c).getD 0 .top).toInt ((xaj j c).getD 1 .top).toInt ((xaj j c).getD 2 .top).toList ((xaj j c).getD 3 .top).toInt ((xaj j c).getD 4 .top).toInt ((xaj j c).getD 5 .top).toInt ((xaj j c).getD 6 .top).toInt ((xaj j c).getD 7 .top).toInt ((xaj j c).getD 8 .top).toInt<0)) (br (xds d j) (br (xfP j c) (br (xdt d j) (br (xfO j c) (br (xdt d j) (br (xfQ j c) (br (xds d j) (br (decide (xb1 j<(xfN j c).length)) (κl (i64.wrap (j - 1),(xfN j c).set (xb1 j) (AV.agg [AV.int .i64 ((xak j c).getD 0 .top).toInt,AV.int .i64 ((xak j c).getD 1 .top).toInt,AV.list 3 ((xak j c).getD 2 .top).toList,AV.int .i64 ((xak j c).getD 3 .top).toInt,AV.int .i64 ((xak j c).getD 4 .top).toInt,AV.int .i64 ((xak j c).getD 5 .top).toInt,AV.int .i64 ((xak j c).getD 6 .top).toInt,AV.int .i64 ((xak j c).getD 7 .top).toInt,AV.int .i64 ((xak j c).getD 8 .top).toInt]))) δ) δ) δ) δ) δ) δ) δ) δ) (κr (c))) δ) δ) δ) δ) (κr (c))
def xbK (d:Nat) (a b i:Int):StT (Int×LA) (LA):=fun (j,c)=>xf2 d a b i j c none inL inR
def xb0:=xvz.l 53 1 [58] [] Tryz.f95 1 lk0 [0,1,2,3,8,9] [0,1,2,3,8] [] (q6 (xHY 0 0 0) qI qI (xHq 50 xHO) qI qI) (q1 (qB 0 9 58 xHQ)) (fun (c,a,b,_,i,j,_) (d,_)=>(xbK c a b i,(j,d),fun p=>(.leaf (.exit 2) [AV.osl 0 0 0 c,AV.int .i64 a,AV.int .i64 b,AV.func 50 [],AV.int .i64 i] [bF 0 9 58 p]))) [] fun (c,a,b,_,i,_,_) _ (j,d)=>(((c,a,b,(),i,j,()),(d,())),xf2 c a b i j d none)
def xf1 {T:Type} (d:Nat) (a b i:Int) (c:LA) (δ:T) (κl:(Int×LA)->T) (κr:(LA)->T):T:=br (decide (i<b)) (br ((Iter (xbK d a b i) (i,c)).isSome) (κl (i64.wrap (i+1),(Iter (xbK d a b i) (i,c)).getD [])) δ) (κr (c))
def xbJ (d:Nat) (a b:Int):StT (Int×LA) (LA):=fun (i,c)=>xf1 d a b i c none inL inR
def xfM:=xvz.l 53 1 [58] [(4,xb0.lp)] Tryz.f95 0 (lk1 xb0.ok) [0,1,2,3,8] [] [] (q5 (xHY 0 0 0) qI qI (xHq 50 xHO) qI) (q1 (qB 0 9 58 xHQ)) (fun (d,a,b,_,i,_) (c,_)=>(xbJ d a b,(i,c),fun p=>(.leaf (.exit 0) [] [bF 0 9 58 p]))) [] fun (d,a,b,_,_,_) _ (i,c)=>(((d,a,b,(),i,()),(c,())),xf1 d a b i c none)
def xeq {T:Type} (n:Nat) (a b:Int) (c:LA) (δ:T) (κ:LA->T):T:=br ((Iter (xbJ n a b) (i64.wrap (a+1),c)).isSome) (κ ((Iter (xbJ n a b) (i64.wrap (a+1),c)).getD [])) δ
def xbs (n:Nat) (a b:Int) (c:LA):=xeq n a b c none some
def xs5:EO:=xvz.fM Tryz.func95 53 1 [58] [(4,xb0.lp),(1,xfM.lp)] (lks (lkC xfM.ok (lkC xb0.ok lkN))) (u4 (sEq (xHY 0 0 0)) uI uI (sEq (xHq (50:FuncId) xHO))) (q1 (qB 0 9 58 xHQ)) (fun (n,a,b,_,_) (c,_) _=>xeq n a b c) (fun _ _ p=>(AV.tuple [],([bF 0 9 58 p]:List Box))) []
def xfo {T:Type} (d:Nat) (n e a b:Int) (c:LA) (δ:T) (κl:(Int×Int×LA)->T) (κr:(Int×LA)->T):T:=br (decide (b<=n)) (br ((xbs d a b c).isSome) (κl (b,i64.wrap (b+e),(xbs d a b c).getD [])) δ) (κr (a,c))
def xbV (e:Nat) (n c:Int):StT (Int×Int×LA) (Int×LA):=fun (a,b,d)=>xfo e n c a b d none inL inR
def xdD:=xs5.l 63 1 [58] [] Tryz.f76 0 lk0 [0,1,2,6,7,8] [0,1,2,6,7] [] (q6 (xHY 0 0 0) qI (xHq 50 xHO) qI qI qI) (q1 (qB 0 9 58 xHQ)) (fun (d,n,_,c,a,b,_) (e,_)=>(xbV d n c,(a,b,e),fun p=>(.leaf (.exit 0) [AV.osl 0 0 0 d,AV.int .i64 n,AV.func 50 [],AV.int .i64 c,AV.int .i64 p.1] [bF 0 9 58 p.2]))) (0,[]) fun (d,n,_,c,_,_,_) _ (a,b,e)=>(((d,n,(),c,a,b,()),(e,())),xfo d n c a b e none)
def xiN {T:Type} (d:Nat) (n e a b:Int) (c:LA) (δ:T) (κl:(Int×Int×LA)->T) (κr:(Int×LA)->T):T:=br (decide (b<=n)) (br (decide (0+d<=c.length)&&true) δ δ) (κr (a,c))
def xhh (e:Nat) (n c:Int):StT (Int×Int×LA) (Int×LA):=fun (a,b,d)=>xiN e n c a b d none inL inR
def xdE:=xs5.l 63 1 [58] [(2,xdD.lp)] Tryz.f76 2 lk0 [0,1,2,6,7,8] [0,1,2,6,7] [] (q6 (xHY 0 0 0) qI (xHq 50 xHO) qI qI qI) (q1 (qB 0 9 58 xHQ)) (fun (d,n,_,c,a,b,_) (e,_)=>(xhh d n c,(a,b,e),fun p=>(.leaf (.exit 4) [AV.osl 0 0 0 d,AV.int .i64 n,AV.func 50 [],AV.int .i64 c,AV.int .i64 p.1] [bF 0 9 58 p.2]))) (0,[]) fun (d,n,_,c,_,_,_) _ (a,b,e)=>(((d,n,(),c,a,b,()),(e,())),xiN d n c a b e none)
def xip (c:Nat) (n a:Int) (b:LA):=Iter (xhh c n a) (0,i64.wrap (2*a),b)
def xio (c:Nat) (n a:Int) (b:LA):=(xip c n a b).getD (0,[])
def xin (c:Nat) (n a:Int) (b:LA):=(xio c n a b).snd
def xfp {T:Type} (c:Nat) (n a:Int) (b:LA) (δ:T) (κl:(Int×LA)->T) (κr:(LA)->T):T:=br (decide (a<n)) (br ((xip c n a b).isSome) (br (decide (i64.wrap ((xio c n a b).fst+a)<n)) (br (decide (0+c<=(xin c n a b).length)&&true) δ δ) (κl (i64.wrap (a*2),xin c n a b))) δ) (κr (b))
def xcK (c:Nat) (n:Int):StT (Int×LA) (LA):=fun (a,b)=>xfp c n a b none inL inR
def xim:=xs5.l 63 1 [58] [(2,xdD.lp),(9,xdE.lp)] Tryz.f76 1 (lk1 xdE.ok) [0,1,2,6] [] [] (q4 (xHY 0 0 0) qI (xHq 50 xHO) qI) (q1 (qB 0 9 58 xHQ)) (fun (c,n,_,a,_) (b,_)=>(xcK c n,(a,b),fun p=>(.leaf (.exit 2) [] [bF 0 9 58 p]))) [] fun (c,n,_,_,_) _ (a,b)=>(((c,n,(),a,()),(b,())),xfp c n a b none)
def xgm (n:Nat) (k:Int) (a:LA):=(Iter (xbV n k 20) (0,20,a)).getD (0,[])
def xgl (n:Nat) (k:Int) (a:LA):=xbs n (xgm n k a).fst k (xgm n k a).snd
def xgk (n:Nat) (k:Int) (a:LA):=Iter (xcK n k) (20,(xgl n k a).getD [])
def xgE {T:Type} (n:Nat) (k:Int) (a:LA) (δ:T) (κ:LA->T):T:=br ((Iter (xbV n k 20) (0,20,a)).isSome) (br ((xgl n k a).isSome) (br ((xgk n k a).isSome) (κ ((xgk n k a).getD [])) δ) δ) δ
def xfj (n:Nat) (k:Int) (a:LA):=xgE n k a none some
def xEr:EO:=xs5.fM Tryz.func76 63 1 [58] [(2,xdD.lp),(9,xdE.lp),(7,xim.lp)] (lks (lkC xdD.ok (lkC xim.ok (lkC xdE.ok lkN)))) (u3 (sEq (xHY 0 0 0)) uI (sEq (xHq (50:FuncId) xHO))) (q1 (qB 0 9 58 xHQ)) (fun (n,k,_,_) (a,_) _=>xgE n k a) (fun _ _ p=>(AV.tuple [],([bF 0 9 58 p]:List Box))) []
def xgc {T:Type} (n:Nat) (a:LA) (δ:T) (κ:LA->T):T:=br ((xfj n (↑n:Int) a).isSome) (κ ((xfj n (↑n:Int) a).getD [])) δ
def xeU (n:Nat) (a:LA):=xgc n a none some
def xrc:EO:=xEr.fM Tryz.func49 9 1 [58] [] lk0 (u2 (sEq (xHY 0 0 0)) (sEq (xHq (50:FuncId) xHO))) (q1 (qB 0 9 58 xHQ)) (fun (n,_,_) (a,_) _=>xgc n a) (fun _ _ p=>(AV.tuple [],([bF 0 9 58 p]:List Box))) []
def xaZ (b:Int) (a:LA):=(a.getD (0+b.toNat) .top).cells
def xjk (b:Int) (d:LA) (e:Nat) (a c:LA):=xqu ((xaZ b a).getD 0 .top).toInt ((xaZ b a).getD 1 .top).toInt ((xaZ b a).getD 2 .top).toList ((xaZ b a).getD 3 .top).toInt ((xaZ b a).getD 4 .top).toInt ((xaZ b a).getD 5 .top).toInt ((xaZ b a).getD 6 .top).toInt ((xaZ b a).getD 7 .top).toInt ((xaZ b a).getD 8 .top).toInt d e c
def xjj (e:Int) (b:LA) (c:Nat) (d a:LA):=(xjk e b c d a).getD (false,[],0,[])
def xgK (e:Int) (b:LA) (c:Nat) (d a:LA):=(xjj e b c d a).snd
def xeX (e:Int) (b:LA) (c:Nat) (d a:LA):=(xgK e b c d a).snd
def xgx {T:Type} (h:Nat) (i:Int) (g:Nat) (e:Int) (c:LA) (d:Nat) (f a b:LA) (δ:T) (κl:(Nat×Int×LA×Nat×LA×LA×LA)->T) (κr:(Nat×LA×Nat×LA×LA)->T):T:=br (decide (e<i)) (br (decide (0<=e)&&decide (e<(↑h:Int))) (br (decide (0+e.toNat<a.length)&&((xaZ e a).length==9&&xG8 [Sh.int .i64,Sh.int .i64,Sh.list 3,Sh.int .i64,Sh.int .i64,Sh.int .i64,Sh.int .i64,Sh.int .i64,Sh.int .i64] (xaZ e a) 0)) (br ((xjk e c d a b).isSome) (br (!(xjj e c d a b).fst) (br (rmB g f 1 8) (κl (g+1,i64.wrap (e+1),(xgK e c d a b).fst,(xeX e c d a b).fst,f++[AV.int .i64 ((xaZ e a).getD 0 .top).toInt],a,(xeX e c d a b).snd)) δ) (κl (g,i64.wrap (e+1),(xgK e c d a b).fst,(xeX e c d a b).fst,f,a,(xeX e c d a b).snd))) δ) δ) δ) (κr (g,c,d,f,b))
def xcU (f:Nat) (h:Int):StT (Nat×Int×LA×Nat×LA×LA×LA) (Nat×LA×Nat×LA×LA):=fun (g,i,b,c,d,e,a)=>xgx f h g i b c d e a none inL inR
def xgJ:=xrc.l 67 0 [58] [(3000007,xd6)] Tryz.f18 0 lk0 [6,7,8,11,32,33,34] [6,7,11] [(11,1,3)] (q7 (xHZ 0 0 0 0) (xHZ 1 0 0 0) (xHq 47 (q2 (xHZ 0 0 0 0) (xHZ 1 0 0 0))) (xHY 2 0 0) (xHY 3 0 0) qI qI) (q5 (qB 0 1 26 (q1 (qL 3))) (xH0 0 1 75 false false (q1 (xHY 4 0 0))) (qB 0 1 3 xHQ) (qB 0 9 58 xHQ) (qB 0 1 4 xHQ)) (fun (_,_,(_,_,_),f,g,h,i,_) ((b,_),(c,_),d,e,a,_)=>(xcU g h,(f,i,b,c,d,e,a),fun p=>(.leaf (.exit 2) [AV.own 0 0 0 0,AV.own 1 0 0 0,AV.osl 2 0 0 p.1] [bF 0 1 26 [AV.list 3 p.2.1],⟨0,1,75,[AV.osl 3 0 0 p.2.2.1],false,false⟩,bF 0 1 3 p.2.2.2.1,bF 0 1 4 p.2.2.2.2]))) (0,[],0,[],[]) fun (_,_,(_,_,_),_,g,h,_,_) _ (f,i,b,c,d,e,a)=>((((),(),((),(),()),f,g,h,i,()),((b,()),(c,()),d,e,a,())),xgx g h f i b c d e a none)
def xg0 {T:Type} (i:Nat) (g:LA) (h:Int) (d:Nat) (a:Int) (e:Nat) (f c b:LA) (δ:T) (κl:(Nat×Int×Nat×LA×LA×LA)->T) (κr:(Nat×LA×LA)->T):T:=br (decide (a<h)) (br (ixI g a) (br (ixT g a 3 [Sh.list 3,Sh.int .i64,Sh.int .i64] 0) (br (decide (0<=a)&&decide (a<(↑e:Int))) (br (decide (0+a.toNat<b.length)&&xG1 Sh.bool ((b.getD (0+a.toNat) .top).cells.getD 0 .top)) (br (!((b.getD (0+a.toNat) .top).cells.getD 0 .top).toBool) (br (rmB d c 1 40) (κl (d+1,i64.wrap (a+1),e,f,c++[AV.agg [AV.list 3 (gC g a 0).toList,AV.int .i64 (gC g a 1).toInt,AV.int .i64 (gC g a 2).toInt]],b)) δ) (κl (d,i64.wrap (a+1),e,f,c,b))) δ) δ) δ) δ) (κr (d,f,c))
def xcV (f:Nat) (g:LA) (h:Int):StT (Nat×Int×Nat×LA×LA×LA) (Nat×LA×LA):=fun (b,i,d,e,a,c)=>xg0 f g h b i d e a c none inL inR
def xjl:=xrc.l 67 0 [58] [(3000007,xd6),(11,xgJ.lp)] Tryz.f18 1 lk0 [7,11,14,48,49,50] [11,14] [(11,1,3),(14,3,60)] (q6 (xHZ 0 0 0 0) (xHY 1 0 0) (xHY 2 0 0) (qL 3) qI qI) (q4 (xH0 0 1 75 false false (q1 (xHY 3 0 0))) (qB 0 1 3 xHQ) (qB 0 3 60 xHQ) (qB 0 1 4 xHQ)) (fun (_,d,b,g,h,i,_) ((e,_),f,a,c,_)=>(xcV d g h,(b,i,e,f,a,c),fun p=>(.leaf (.exit 4) [AV.osl 0 0 0 d,AV.osl 1 0 0 p.1] [bF 0 1 3 p.2.1,bF 0 3 60 p.2.2]))) (0,[],[]) fun (_,d,_,g,h,_,_) _ (b,i,e,f,a,c)=>((((),d,b,g,h,i,()),((e,()),f,a,c,())),xg0 d g h b i e f a c none)
def xcZ:Env:=xrc.E.fn 67 0 (lsOf [58]) (xHp [(3000007,xd6),(11,xgJ.lp),(18,xjl.lp)])
theorem xq6:xG3 P0 (xHL.at 0) xcZ:=xrc.ok.fn
theorem xqe:LoOk P0 (xHL.at xcZ.pin) xcZ (Tryz.f18.body.getD .skip):=xrZ (lp0:=xd6) (hr:=xoE) (he:=by kernel_rfl) (ls:=[xG7 Tryz.f18 0,xG7 Tryz.f18 1]) (by kernel_rfl) (fun l b lp a=>by
 simp only [zC,List.not_mem_nil,or_false] at b;rcases b with rfl|rfl
 . rw [show xcZ.lp (xHh (xG7 Tryz.f18 0))=some xgJ.lp by kernel_rfl] at a
   simp only [z6] at a;subst a;exact xgJ.ok
 . rw [show xcZ.lp (xHh (xG7 Tryz.f18 1))=some xjl.lp by kernel_rfl] at a
   simp only [z6] at a;subst a;exact xjl.ok)
def xkG (l a:LA):=Iter (xcU ([]++List.filter opV (xd1 l)).length (↑([]++List.filter opV (xd1 l)).length:Int)) (0,0,(xcq a).getD [],(↑((xcq a).getD []).length:Int).toNat,[],(xeU ([]++List.filter opV (xd1 l)).length ([]++List.filter opV (xd1 l))).getD [],List.replicate (↑((xcq a).getD []).length:Int).toNat (AV.bool false))
def xkF (l a:LA):=(xkG l a).getD (0,[],0,[],[])
def xiP (l a:LA):=(xkF l a).fst
def xkE (l a:LA):=(xkF l a).snd
def xlv (l a:LA):=(xkE l a).fst
def xlw (l a:LA):=(xkE l a).snd
def xlu (l a:LA):=(xlw l a).snd
def xlt (l a:LA):=Iter (xcV (xiP l a) (xlv l a) (↑(xlv l a).length:Int)) (0,0,(xlw l a).fst,(xlu l a).fst,[],(xlu l a).snd)
def xls (l a:LA):=(xlt l a).getD (0,[],[])
def xlq (l a:LA):=(xls l a).fst
def xlr (l a:LA):=(xls l a).snd
def xlo (l a:LA):=(xlr l a).snd
def xlp (l a:LA):=(xlr l a).fst
def xjn {T:Type} (l a:LA) (δ:T) (κ:LA×LA->T):T:=br ((xcq a).isSome) (br (decide ((↑((xcq a).getD []).length:Int)<=(↑((xcq a).getD []).length:Int))&&(decide (1*(↑((xcq a).getD []).length:Int)<=281474976710656)&&decide ((↑((xcq a).getD []).length:Int)<=4611686018427387904))) (br (rfOk 88 (xd1 l) []) (br ((xeU ([]++List.filter opV (xd1 l)).length ([]++List.filter opV (xd1 l))).isSome) (br ((xkG l a).isSome) (br ((xlt l a).isSome) (br (decide (0+xiP l a<=(xlp l a).length)&&(decide (0+xlq l a<=(xlo l a).length)&&true)) (κ (List.take (xiP l a) (List.drop 0 (xlp l a)),List.take (xlq l a) (List.drop 0 (xlo l a)))) δ) δ) δ) δ) δ) δ) δ
def xa0 (l a:LA):=xjn l a none some
theorem xti (l a:LA):Enc (fun (p:LA×LA)=>((AV.tuple [AV.list 1 p.1,AV.list 3 p.2]):AV)) (xa0 l a) (XF P0 xcZ Tryz.f18 (Tryz.f18.body.getD .skip) [AV.list 9 l,AV.list 3 a]):=by
 have h:XF P0 xcZ Tryz.f18 (Tryz.f18.body.getD .skip) [AV.list 9 l,AV.list 3 a]=xjn l a none (fun (p:LA×LA)=>some ((AV.tuple [AV.list 1 p.1,AV.list 3 p.2]):AV)):=by kernel_rfl
 rw [h];unfold xa0 xjn;repeat' (first|refine Enc.br ?_ ?_|exact Enc.none|exact Enc.some rfl)
def xth:LA->Option (Bool×AV):=ocOf (xHN (xH1 9 xHQ) (xHN (xH1 3 xHQ) xHP)) fun (l,(a,_))=>((xa0 l a).isSome,(AV.tuple [AV.list 1 ((xa0 l a).getD ([],[])).1,AV.list 3 ((xa0 l a).getD ([],[])).2]))
theorem xtg:OcOk P0 xHL 18 (xth):=xlS fun c g e=>by
 obtain ⟨l,⟨f,_⟩⟩:=c;obtain ⟨a,b⟩:=Prod.mk.inj e;refine xiR (p:=xcZ.pin) (xlR xHc (xHd P0 _) rfl xq6 Tryz.func18 rfl (by kernel_rfl) xqe ((xti _ _ _ (xcy (d:=([],[])) a)).trans ?_))
 exact congrArg some b
def xEs:EO:=xrc.w xtg
def xpM {T:Type} (l:LA) (δ:T) (κ:Bool->T):T:=br ((xkU l).isSome) (br ((xlV ((xkU l).getD []) 16).isSome) (κ ((xlV ((xkU l).getD []) 16).getD false)) δ) δ
def xpA (l:LA):=xpM l none some
def xAB:EO:=xEs.f Tryz.func9 6 0 [] [] lk0 (u1 (uL 9)) (fun (l,_) _=>xpM l) (fun _ p=>AV.bool p) false
end Go.Sim.M
namespace Go.Sim
def stepX (P:Program) (E:Env) (live liveO:List Nat) (conv:List (Nat×Nat×TypeId)) (c:Code) (s:List AV×List Box):Option ((List AV×List Box)⊕{r:Exit×List AV×List Box // r.1≠.normal}) :=
 match XR P E live liveO conv c s.1 s.2 with
 | some (.normal,v,H)=>some (.inl (v,H))
 | some (.exit i,v,H)=>some (.inr ⟨(.exit i,v,H),by simp⟩)
 | some (.ret,v,H)=>some (.inr ⟨(.ret,v,H),by simp⟩)
 | _=>none
def closedLp (P:Program) (E:Env) (live liveO:List Nat) (conv:List (Nat×Nat×TypeId)) (c:Code) (n:Nat):Lp:=⟨live,liveO,conv,fun vals H =>
 match iterN (stepX P E live liveO conv c) n (vals,H) with
 | some r=>some (true,.leaf r.1.1 r.1.2.1 r.1.2.2)
 | none=>none⟩
theorem xr9 {P:Program} {Inv:IV} {E:Env} (Q:P.follows .mixedOrders=true) (U:InvOk Inv) (q:Inv.pin=E.pin) (J:xG3 P Inv E) {c:Code} (O:LoOk P Inv E c) {live liveO:List Nat} {conv:List (Nat×Nat×TypeId)} {n:Nat} :
  LoopOk P Inv E.nt c (closedLp P E live liveO conv c n):=fun vals H r h=>by
 simp only [closedLp] at h;split at h
 case h_2=>simp at h
 rename_i r0 hr;simp only [z6,zb,true_and] at h;subst h;exact xtv Q U q J O (σ:=List AV×List Box) (ρ:={r:Exit×List AV×List Box // r.1≠.normal}) (step:=stepX P E live liveO conv c) (fun s=>s) (fun r=>.leaf r.1.1 r.1.2.1 r.1.2.2) (fun r=>r.2)
  (fun s r hs=>by
   unfold stepX at hs;split at hs<;>simp only [z6,reduceCtorEq] at hs;all_goals (subst hs;rename_i hx;exact hx)) (s:=(vals,H)) (r:=r0) (xnh.2 ⟨n,hr⟩)
end Go.Sim
namespace Go.Sim.M
open Go.RowKit Go.Proofs
def mmA (g:FuncId):Bool:=([123,125,
 114,138,151,
 90,112,128,
 110,127,144,
 49,76,95,
 116,89,122,100,47]:List Nat).contains g
noncomputable def EA0:Env:={ E0 with ls:=lsOf [54,60,124,58],fuel:=1000 }
theorem xvv:xG3 P0 xHL EA0:=xC3
noncomputable def runA (E:Env) (fn:Func):List AV->Option (Bool×AV):=fun xs=>match XF P0 E fn (fn.body.getD .skip) xs with
 | some r=>some (true,r)
 | none=>none
theorem xql {E:Env} {f:FuncId} {fn:Func} (Q:xG3 P0 (xHL.at 0) E) (J:E.pin=0) (hf:P0.funcs[f]?=some fn) (hb:fn.body.isSome=true) (q:(fn.name == "runtime.NumGoroutine")=false) (O:LoOk P0 (xHL.at 0) E (fn.body.getD .skip)):OcOk P0 xHL f (runA E fn):=fun xs r h=>by
 unfold runA at h;split at h
 case h_2=>simp at h
 rename_i r0 hr;simp only [z6,zb,true_and] at h;subst h;exact xiR (p:=0) (xlR xHc (xHd P0 _) J.symm Q hf hb q O hr)
noncomputable def EAr:Env:={ Env.deep P0 mmA EA0 10 with pin:=0,nt:=60,ls:=lsOf [] }
theorem xAv:xG3 P0 (xHL.at 0) EAr:=xkr xHc mmA (xHd P0 0) xvv (fun _=>rfl) 10
noncomputable def xAu:Lp:=closedLp P0 EAr [3,4,11,12,13] [4] [(4,2,240654483580)] (xG7 Tryz.f88 0) 100
noncomputable def EAr1:Env:={ EAr with lp:=xHp [(xHh (xG7 Tryz.f88 0),xAu)] }
theorem xDj:xG3 P0 (xHL.at 0) EAr1:=xAv
noncomputable def xzh:List AV->Option (Bool×AV):=runA EAr1 Tryz.f88
theorem xD2:OcOk P0 xHL 88 xzh:=xql xDj rfl Tryz.func88 rfl (by kernel_rfl) (xlA (ls:=[xG7 Tryz.f88 0]) (by kernel_rfl) (fun l hl lp hs=>by
 simp only [zC,List.not_mem_nil,or_false] at hl;subst hl;rw [show EAr1.lp (xHh (xG7 Tryz.f88 0))=some xAu by kernel_rfl] at hs
 cases hs;exact xr9 (E:=EAr) xHc (xHd P0 _) rfl xAv (xjQ fun _=>rfl)))
noncomputable def EAlv (p:Nat):Env:={ Env.deep P0 mmA EA0 6 with pin:=p,nt:=71,ls:=lsOf [] }
theorem xyE (p:Nat):xG3 P0 (xHL.at p) (EAlv p):=xlU (xkr xHc mmA (xHd P0 0) xvv (fun _=>rfl) 6)
noncomputable def xyD (p:Nat):Lp:=closedLp P0 (EAlv p) [0,1,2,3,4] [] [(3,0,0)] (xG7 Tryz.f89 0) 100
noncomputable def EAlv1 (p:Nat):Env:={ EAlv p with lp:=xHp [(xHh (xG7 Tryz.f89 0),xyD p)] }
theorem xB9 (p:Nat):xG3 P0 (xHL.at p) (EAlv1 p):=xyE p
noncomputable def xwe:List AV->List Box->Option (Bool×AV×List Box):=fun xs H=>match XFM P0 (EAlv1 H.length) Tryz.f89 (Tryz.f89.body.getD .skip) xs H with
 | some (r,H')=>some (true,r,H')
 | none=>none
theorem xEx:OmOk P0 xHL 89 xwe:=fun xs H r H' h=>by
 unfold xwe at h;split at h
 case h_2=>simp at h
 rename_i r0 H0 hr;simp only [z6,zb,true_and] at h;obtain ⟨rfl,rfl⟩:=h;refine xg1 (p:=H.length) (xiH xHc (xHd P0 _) rfl (xB9 H.length) rfl Tryz.func89 rfl (by kernel_rfl) (xlA (ls:=[xG7 Tryz.f89 0,xG7 Tryz.f89 1]) (by kernel_rfl) (fun l hl lp hs=>?_)) hr)
 simp only [zC,List.not_mem_nil,or_false] at hl;rcases hl with rfl|rfl
 . rw [show (EAlv1 H.length).lp (xHh (xG7 Tryz.f89 0))=some (xyD H.length) by kernel_rfl] at hs
   cases hs;exact xr9 (E:=EAlv H.length) xHc (xHd P0 _) rfl (xyE H.length) (xjQ fun _=>rfl)
 . rw [show (EAlv1 H.length).lp (xHh (xG7 Tryz.f89 1))=none by kernel_rfl] at hs
   simp at hs
noncomputable def EAs:Env:=(EA0.with 88 xzh).withM 89 xwe
theorem xAw:xG3 P0 xHL EAs:=(xvv.with xD2).withM xEx
noncomputable def EAd:Env:={ Env.deep P0 mmA EAs 14 with pin:=0 }
theorem xvw:xG3 P0 (xHL.at 0) EAd:=xlU (xkr xHc mmA (xHd P0 0) xAw (fun _=>rfl) 14)
noncomputable def EAf:Env:={ EAd with nt:=18,ls:=lsOf [],lp:=xHp [(3000004,xng)] }
theorem xEn:xG3 P0 (xHL.at 0) EAf:=xvw
noncomputable def xuy:List AV->Option (Bool×AV):=runA EAf Tryz.f12
theorem xA5:OcOk P0 xHL 12 xuy:=xql xEn rfl Tryz.func12 rfl (by kernel_rfl) (xrZ (ls:=[]) (by kernel_rfl) (fun l hl=>by simp at hl) (lp0:=xng) xtj (by kernel_rfl))
noncomputable def EAg:Env:={ EAd with nt:=16,ls:=lsOf [],lp:=xHp [(3000003,xod)] }
theorem xEo:xG3 P0 (xHL.at 0) EAg:=xvw
noncomputable def xyZ:List AV->Option (Bool×AV):=runA EAg Tryz.f78
theorem xDG:OcOk P0 xHL 78 xyZ:=xql xEo rfl Tryz.func78 rfl (by kernel_rfl) (xrZ (ls:=[]) (by kernel_rfl) (fun l hl=>by simp at hl) (lp0:=xod) xuf (by kernel_rfl))
noncomputable def EAb:Env:={ EAd with nt:=67,ls:=lsOf [58],lp:=xHp [(3000007,xd6)] }
theorem xEl:xG3 P0 (xHL.at 0) EAb:=xvw
noncomputable def xyM:List AV->Option (Bool×AV):=runA EAb Tryz.f18
theorem xDw:OcOk P0 xHL 18 xyM:=xql xEl rfl Tryz.func18 rfl (by kernel_rfl) (xrZ (ls:=[xG7 Tryz.f18 0,xG7 Tryz.f18 1]) (by kernel_rfl) (fun l hl lp hs=>by
 simp only [zC,List.not_mem_nil,or_false] at hl;rcases hl with rfl|rfl
 . rw [show EAb.lp (xHh (xG7 Tryz.f18 0))=none by kernel_rfl] at hs
   simp at hs
 . rw [show EAb.lp (xHh (xG7 Tryz.f18 1))=none by kernel_rfl] at hs
   simp at hs) (lp0:=xd6) xoE (by kernel_rfl))
noncomputable def EAt:Env:=((EAs.with 12 xuy).with 78 xyZ).with 18 xyM
theorem xAy:xG3 P0 xHL EAt:=((xAw.with xA5).with xDG).with xDw
noncomputable def EAtd:Env:={ Env.deep P0 mmA EAt 14 with pin:=0 }
theorem xyF:xG3 P0 (xHL.at 0) EAtd:=xlU (xkr xHc mmA (xHd P0 0) xAy (fun _=>rfl) 14)
noncomputable def EAa:Env:={ EAtd with ls:=lsOf [4000054,58,5000030,6000009] }
noncomputable def xvI:List AV->Option (Bool×AV):=runA EAa Tryz.f22
theorem xCc:OcOk P0 xHL 22 xvI:=xql (E:=EAa) xyF rfl Tryz.func22 rfl (by kernel_rfl) (xjQ fun _=>rfl)
noncomputable def EAo:Env:={ EAtd with ls:=lsOf [4000054] }
noncomputable def xzn:List AV->Option (Bool×AV):=runA EAo Tryz.f26
theorem xEi:OcOk P0 xHL 26 xzn:=xql (E:=EAo) xyF rfl Tryz.func26 rfl (by kernel_rfl) (xjQ fun _=>rfl)
noncomputable def EAv:Env:={ (EAt.with 22 xvI).with 26 xzn with ls:=EA0.ls }
theorem xEp:xG3 P0 xHL EAv:=(xAy.with xCc).with xEi
noncomputable def EAe:Env:={ Env.deep P0 mmA EAv 14 with pin:=0 }
theorem xEm:xG3 P0 (xHL.at 0) EAe:=xlU (xkr xHc mmA (xHd P0 0) xEp (fun _=>rfl) 14)
theorem xDu:XF P0 EAe Tryz.f10 (Tryz.f10.body.getD .skip) []=some (.bool true):=by kernel_rfl
def xud:List AV->Option (Bool×AV)
 | []=>some (true,.bool true)
 | _=>none
theorem xDt:OcOk P0 xHL 10 xud:=fun xs r h=>by
 unfold xud at h;split at h
 . simp only [z6,zb,true_and] at h;subst h;exact xiR (p:=0) (xlR xHc (xHd P0 _) rfl xEm Tryz.func10 rfl (by kernel_rfl) (xjQ fun _=>rfl) xDu)
 . simp at h
noncomputable def EEW:Env:=xAB.E.with 10 xud
theorem xAz:xG3 Tryz.prog xHL EEW:=xAB.ok.with xDt
noncomputable def xqa:EO:=EO.mk EEW xAz
end Go.Sim.M
namespace Go.Sim.M
open Go.IntKind (i64 u64 u8)
open Go.RowKit Go.Proofs
def xeR {T:Type} (l f c e:LA) (d:Nat) (i:Int) (b:Bool) (k:Int) (a:LA) (δ:T) (κl:(Bool×Int×LA)->T) (κr:(Bool×LA)->T):T:=br (decide (k<c.length)) (br (b) (κl (true,i64.wrap (k+1),a)) (br (ixI c k) (br (ixS c k (Sh.int .i64) 0) (br (ixI l i) (br (ixS l i (Sh.int .i64) 0) (κl ((gC c k 0).toInt==(gC l i 0).toInt,i64.wrap (k+1),a)) δ) δ) δ) δ)) (κr (b,a))
def xbM (l e f d:LA) (b:Nat) (i:Int):StT (Bool×Int×LA) (Bool×LA):=fun (c,k,a)=>xeR l e f d b i c k a none inL inR
def xbg:=xqa.l 239 0 [3000126] [] Tryz.f7 1 lk0 [0,1,5,6,7,8,9,10] [0,1,5,6,7,8,9] [(7,3,60)] (q8 (qL 9) (qL 3) (qL 1) (qL 3) (xHY 0 0 0) qI pBool qI) (q1 (qB 0 3 60 xHQ)) (fun (l,e,f,c,a,i,d,k,_) (b,_)=>(xbM l e f c a i,(d,k,b),fun p=>(.leaf (.exit 2) [AV.list 9 l,AV.list 3 e,AV.list 1 f,AV.list 3 c,AV.osl 0 0 0 a,AV.int .i64 i,AV.bool p.1] [bF 0 3 60 p.2]))) (false,[]) fun (l,e,f,c,a,i,_,_,_) _ (d,k,b)=>(((l,e,f,c,a,i,d,k,()),(b,())),xeR l e f c a i d k b none)
def xdH {T:Type} (l e f b:LA) (d:Nat) (i:Int) (c:Bool) (k:Int) (a:LA) (δ:T) (κl:(Int×LA)->T) (κr:(Bool×(Bool×LA)×(LA))->T):T:=br (decide (k<b.length)) (br (c) (br (ixI b k) (br (ixT b k 3 [Sh.int .i64,Sh.int .i64] 1) (br (ixI l i) (br (ixT l i 9 [Sh.int .i64,Sh.int .i64] 3) (br ((gC b k 1).toInt==(gC l i 3).toInt&&((gC b k 2).toInt==(gC l i 4).toInt&&true)) (br (ixI b k) (br (ixS b k (Sh.list 3) 0) (br (ixI l i) (br (ixS l i (Sh.list 3) 2) (br ((xaU (gC b k 0).toList (gC l i 2).toList).isSome) (br ((xaU (gC b k 0).toList (gC l i 2).toList).getD 0==0) (κr (true,(false,a),[])) (κl (i64.wrap (k+1),a))) δ) δ) δ) δ) δ) (κl (i64.wrap (k+1),a))) δ) δ) δ) δ) (κl (i64.wrap (k+1),a))) (κr (false,(false,[]),(a)))
def xbq (l e f d:LA) (b:Nat) (i:Int) (c:Bool):StT (Int×LA) (Bool×(Bool×LA)×(LA)):=fun (k,a)=>xdH l e f d b i c k a none inL inR
def xbA:=xqa.l 239 0 [3000126] [(14,xbg.lp)] Tryz.f7 2 lk0 [0,1,5,6,7,8,9,11] [0,1,4,5,6,7,8] [(7,3,60)] (q8 (qL 9) (qL 3) (qL 1) (qL 3) (xHY 0 0 0) qI pBool qI) (q1 (qB 0 3 60 xHQ)) (fun (l,e,f,c,a,i,d,k,_) (b,_)=>(xbq l e f c a i d,(k,b),fun p=>(.node p.1 (.leaf .ret [AV.list 9 l,AV.list 3 e,AV.bool p.2.1.1,AV.list 1 f,AV.list 3 c,AV.osl 0 0 0 a,AV.int .i64 i] [bF 0 3 60 p.2.1.2]) (.leaf (.exit 4) [AV.list 9 l,AV.list 3 e,.top,AV.list 1 f,AV.list 3 c,AV.osl 0 0 0 a,AV.int .i64 i] [bF 0 3 60 p.2.2])))) (false,(false,[]),[]) fun (l,e,f,c,a,i,d,_,_) _ (k,b)=>(((l,e,f,c,a,i,d,k,()),(b,())),xdH l e f c a i d k b none)
def xeC (l d e c:LA) (b:Nat) (i:Int) (a:LA):=Iter (xbM l d e c (b+1) i) (false,0,a++[AV.agg [AV.list 3 (gC l i 2).toList,AV.int .i64 (gC l i 3).toInt,AV.int .i64 (gC l i 4).toInt]])
def xc2 (l:LA) (i:Int):=ixI l i
def xeB (l d e c:LA) (b:Nat) (i:Int) (a:LA):=(xeC l d e c b i a).getD (false,[])
def xeA (l d e c:LA) (a:Nat) (i:Int) (b:LA):=Iter (xbq l d e c (a+1) i (xeB l d e c a i b).fst) (0,(xeB l d e c a i b).snd)
def xez (l d e c:LA) (b:Nat) (i:Int) (a:LA):=(xeA l d e c b i a).getD (false,(false,[]),[])
def xgt (l d e c:LA) (b:Nat) (i:Int) (a:LA):=(xez l d e c b i a).snd
def xjN (l d e c:LA) (b:Nat) (i:Int) (a:LA):=(xgt l d e c b i a).fst
def xdG {T:Type} (l d e c:LA) (a:Nat) (i:Int) (b:LA) (δ:T) (κl:(Nat×Int×LA)->T) (κr:(Bool×(Bool×Nat×LA)×(Nat×LA))->T):T:=br (decide (i<l.length)) (br (xc2 l i) (br (ixT l i 9 [Sh.int .i64,Sh.int .i64,Sh.list 3,Sh.int .i64,Sh.int .i64,Sh.int .i64,Sh.int .i64,Sh.int .i64,Sh.int .i64] 0) (br (!xky (gC l i 0).toInt (gC l i 1).toInt (gC l i 2).toList (gC l i 3).toInt (gC l i 4).toInt (gC l i 5).toInt (gC l i 6).toInt (gC l i 7).toInt (gC l i 8).toInt) (κl (a,i64.wrap (i+1),b)) (br (xc2 l i) (br (ixS l i (Sh.list 3) 2) (br (xc2 l i) (br (ixT l i 9 [Sh.int .i64,Sh.int .i64] 3) (br (rmB a b 1 40) (br ((xeC l d e c a i b).isSome) (br ((xeA l d e c a i b).isSome) (br ((xez l d e c a i b).fst) (κr (true,((xjN l d e c a i b).fst,a+1,(xjN l d e c a i b).snd),(0,[]))) (κl (a+1,i64.wrap (i+1),(xgt l d e c a i b).snd))) δ) δ) δ) δ) δ) δ) δ)) δ) δ) (κr (false,(false,0,[]),(a,b)))
def xbp (l d e c:LA):StT (Nat×Int×LA) (Bool×(Bool×Nat×LA)×(Nat×LA)):=fun (b,i,a)=>xdG l d e c b i a none inL inR
def xc1:=xqa.l 239 0 [3000126] [(14,xbg.lp),(18,xbA.lp)] Tryz.f7 0 (lks (lkC xbg.ok (lkC xbA.ok lkN))) [0,1,5,6,7,8] [1,4,5,6,7] [(7,3,60)] (q6 (qL 9) (qL 3) (qL 1) (qL 3) (xHY 0 0 0) qI) (q1 (qB 0 3 60 xHQ)) (fun (l,d,e,c,b,i,_) (a,_)=>(xbp l d e c,(b,i,a),fun p=>(.node p.1 (.leaf .ret [AV.list 3 d,AV.bool p.2.1.1,AV.list 1 e,AV.list 3 c,AV.osl 0 0 0 p.2.1.2.1] [bF 0 3 60 p.2.1.2.2]) (.leaf (.exit 0) [AV.list 3 d,.top,AV.list 1 e,AV.list 3 c,AV.osl 0 0 0 p.2.2.1] [bF 0 3 60 p.2.2.2])))) (false,(false,0,[]),(0,[])) fun (l,d,e,c,_,_,_) _ (b,i,a)=>(((l,d,e,c,b,i,()),(a,())),xdG l d e c b i a none)
def xeS {T:Type} (d c a b:LA) (i n k:Int) (δ:T) (κl:(Int×Int)->T) (κr:(Int)->T):T:=br (decide (k<a.length)) (br (ixI a k) (br (ixT a k 3 [Sh.int .i64,Sh.int .i64] 1) (br (ixI b i) (br (ixT b i 3 [Sh.int .i64,Sh.int .i64] 1) (br ((gC a k 1).toInt==(gC b i 1).toInt&&((gC a k 2).toInt==(gC b i 2).toInt&&true)) (br (ixI a k) (br (ixS a k (Sh.list 3) 0) (br (ixI b i) (br (ixS b i (Sh.list 3) 0) (br ((xaU (gC a k 0).toList (gC b i 0).toList).isSome) (br ((xaU (gC a k 0).toList (gC b i 0).toList).getD 0==0) (κl (i64.wrap (n+1),i64.wrap (k+1))) (κl (n,i64.wrap (k+1)))) δ) δ) δ) δ) δ) (κl (n,i64.wrap (k+1)))) δ) δ) δ) δ) (κr (n))
def xa9 (d c a b:LA) (i:Int):StT (Int×Int) (Int):=fun (n,k)=>xeS d c a b i n k none inL inR
def xc3:=xqa.l 239 0 [3000126] [(14,xbg.lp),(18,xbA.lp),(8,xc1.lp)] Tryz.f7 4 lk0 [5,6,7,13,14,15,16] [5,6,7,13,14,15] [(7,3,60)] (q7 (qL 1) (qL 3) (qL 3) (qL 3) qI qI qI) xHO (fun (d,c,a,b,i,n,k,_) _=>(xa9 d c a b i,(n,k),fun p=>(.leaf (.exit 8) [AV.list 1 d,AV.list 3 c,AV.list 3 a,AV.list 3 b,AV.int .i64 i,AV.int .i64 p] []))) 0 fun (d,c,a,b,i,_,_,_) _ (n,k)=>(((d,c,a,b,i,n,k,()),()),xeS d c a b i n k none)
def xeT {T:Type} (d c a b:LA) (i n m k:Int) (δ:T) (κl:(Int×Int)->T) (κr:(Int)->T):T:=br (decide (k<b.length)) (br (ixI b k) (br (ixT b k 3 [Sh.int .i64,Sh.int .i64] 1) (br (ixI b i) (br (ixT b i 3 [Sh.int .i64,Sh.int .i64] 1) (br ((gC b k 1).toInt==(gC b i 1).toInt&&((gC b k 2).toInt==(gC b i 2).toInt&&true)) (br (ixI b k) (br (ixS b k (Sh.list 3) 0) (br (ixI b i) (br (ixS b i (Sh.list 3) 0) (br ((xaU (gC b k 0).toList (gC b i 0).toList).isSome) (br ((xaU (gC b k 0).toList (gC b i 0).toList).getD 0==0) (κl (i64.wrap (m+1),i64.wrap (k+1))) (κl (m,i64.wrap (k+1)))) δ) δ) δ) δ) δ) (κl (m,i64.wrap (k+1)))) δ) δ) δ) δ) (κr (m))
def xbN (d c a b:LA) (i n:Int):StT (Int×Int) (Int):=fun (m,k)=>xeT d c a b i n m k none inL inR
def xeD:=xqa.l 239 0 [3000126] [(14,xbg.lp),(18,xbA.lp),(8,xc1.lp),(29,xc3.lp)] Tryz.f7 5 lk0 [5,6,7,13,14,15,17,18] [5,6,7,13,14,15,17] [(7,3,60)] (q8 (qL 1) (qL 3) (qL 3) (qL 3) qI qI qI qI) xHO (fun (d,c,a,b,i,n,m,k,_) _=>(xbN d c a b i n,(m,k),fun p=>(.leaf (.exit 10) [AV.list 1 d,AV.list 3 c,AV.list 3 a,AV.list 3 b,AV.int .i64 i,AV.int .i64 n,AV.int .i64 p] []))) 0 fun (d,c,a,b,i,n,_,_,_) _ (m,k)=>(((d,c,a,b,i,n,m,k,()),()),xeT d c a b i n m k none)
def xgu (d c a b:LA) (i:Int):=Iter (xbN d c a b i ((Iter (xa9 d c a b i) (0,0)).getD 0)) (0,0)
def xdI {T:Type} (e c a b:LA) (d:Bool) (i:Int) (δ:T) (κl:(Bool×Int)->T) (κr:(Bool)->T):T:=br (decide (i<b.length)) (br (d) (br ((Iter (xa9 e c a b i) (0,0)).isSome) (br ((xgu e c a b i).isSome) (κl ((Iter (xa9 e c a b i) (0,0)).getD 0==(xgu e c a b i).getD 0,i64.wrap (i+1))) δ) δ) (κr (d))) (κr (d))
def xa8 (e c a b:LA):StT (Bool×Int) (Bool):=fun (d,i)=>xdI e c a b d i none inL inR
def xjO:=xqa.l 239 0 [3000126] [(14,xbg.lp),(18,xbA.lp),(8,xc1.lp),(29,xc3.lp),(35,xeD.lp)] Tryz.f7 3 (lks (lkC xc3.ok (lkC xeD.ok lkN))) [5,6,7,12,13,14] [5,6,12] [(7,3,60)] (q6 (qL 1) (qL 3) (qL 3) pBool (qL 3) qI) xHO (fun (e,c,a,d,b,i,_) _=>(xa8 e c a b,(d,i),fun p=>(.leaf (.exit 6) [AV.list 1 e,AV.list 3 c,AV.bool p] []))) false fun (e,c,a,_,b,_,_) _ (d,i)=>(((e,c,a,d,b,i,()),()),xdI e c a b d i none)
def xfB (l a:LA):=Iter (xbp l a ((xa0 l a).getD ([],[])).fst ((xa0 l a).getD ([],[])).snd) (0,0,[])
def xeh (l a:LA):=(xfB l a).getD (false,(false,0,[]),0,[])
def xfA (l a:LA):=(xeh l a).snd
def xfz (l a:LA):=(xfA l a).snd
def xfw (l a:LA):=(xfz l a).fst
def xfy (l a:LA):=(xfz l a).snd
def xaT (l a:LA):=List.take (xfw l a) (List.drop 0 (xfy l a))
def xfv (l a:LA):=Iter (xa8 ((xa0 l a).getD ([],[])).fst ((xa0 l a).getD ([],[])).snd (xaT l a) ((xcf (xaT l a)).getD [])) ((xoP (xaT l a) a).getD false,0)
def xcW (l a:LA):=(xcf (xaT l a)).isSome
def xfC (l a:LA):=Iter (xa8 ((xa0 l a).getD ([],[])).fst ((xa0 l a).getD ([],[])).snd (xaT l a) ((xcf (xaT l a)).getD [])) (false,0)
def xhC {T:Type} (l a:LA) (κ:Bool->T):T:=br (i64.wrap ((↑((xa0 l a).getD ([],[])).fst.length:Int)+(↑((xa0 l a).getD ([],[])).snd.length:Int))==0) (κ (true)) (κ (false))
def xhD {T:Type} (l a:LA) (δ:T) (κ:Bool->T):T:=br (xcW l a) (br ((xfC l a).isSome) (br (!(xfC l a).getD false) (κ (true)) (xhC l a κ)) δ) δ
def xiS {T:Type} (l a:LA) (δ:T) (κ:Bool->T):T:=br ((xpA l).isSome) (br (!(xpA l).getD false) (κ (true)) (br ((xlV a 16).isSome) (br (!(xlV a 16).getD false) (κ (true)) (br ((xnN l).isSome) (br (!(xnN l).getD false) (κ (true)) (br ((xa0 l a).isSome) (br (decide ((↑((xa0 l a).getD ([],[])).fst.length:Int)>16)) (κ (false)) (br (decide ((↑((xa0 l a).getD ([],[])).snd.length:Int)>256)) (κ (false)) (br ((xfB l a).isSome) (br ((xeh l a).fst) (κ ((xfA l a).fst.fst)) (br (decide (0+xfw l a<=(xfy l a).length)&&true) (br (xcW l a) (br ((↑(xaT l a).length:Int)==(↑((xcf (xaT l a)).getD []).length:Int)) (br (xcW l a) (br ((xcf a).isSome) (br ((↑((xcf (xaT l a)).getD []).length:Int)==(↑((xcf a).getD []).length:Int)) (br ((xoP (xaT l a) a).isSome) (br (xcW l a) (br ((xfv l a).isSome) (br (!(xfv l a).getD false) (κ (true)) (xhC l a κ)) δ) δ) δ) (xhD l a δ κ)) δ) δ) (xhD l a δ κ)) δ) δ)) δ))) δ)) δ)) δ)) δ
def xjM (l a:LA):=xiS l a none some
def xqB:LA->Option (Bool×AV):=fnO (u2 (uL 9) (uL 3)) (fun (l,a,_) _=>xiS l a) (fun _ p=>AV.bool p) false
theorem xqA:OcOk P0 xHL 7 xqB:=fnC xAz Tryz.func7 239 0 [3000126] [(14,xbg.lp),(18,xbA.lp),(8,xc1.lp),(29,xc3.lp),(35,xeD.lp),(25,xjO.lp)] (lks (lkC xc1.ok (lkC xbg.ok (lkC xbA.ok (lkC xjO.ok (lkC xc3.ok (lkC xeD.ok lkN)))))))
end Go.Sim.M
