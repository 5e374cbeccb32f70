/- Part 14 of the proof of the law. -/
import Derived.Test.YtckgiglpmfpagaaGreatDoorQF13
import Derived.RangeFuncSeq
set_option linter.unusedVariables false
set_option linter.unusedSimpArgs false
set_option linter.unnecessarySimpa false
set_option maxRecDepth 100000
noncomputable section
namespace Go.Sim
open Go.RowKit
theorem Ev.mv {w w':World} {A A':Nat->Prop} {M M':Id->Option MB} {B n:Nat} {H:List Box} {av:Nat->Prop} (hR:HR w A M B H) (he:Ev ⟨av,w,A,M,n⟩ w' A' M') (hn:H.length<=n):Mv w A M w' A' M' :=
 ⟨he.size,fun b hb hA=>he.keep b hb (.inl hA),he.less,he.more,fun id m hm=>he.ids id m (by
  obtain ⟨bx,h1,_⟩:=hR.box id m hm;exact Nat.lt_of_lt_of_le (xkH h1) hn) hm,⟨fun b hb q=>he.keep b hb (.inr q),he.src⟩⟩
theorem Ev.over {av V:Nat->Prop} {W W2 W2b W3 W3b:World} {A1 A2 A3:Nat->Prop} {M1 M2 M3:Id->Option MB} {n l:Nat} (h1:Ev ⟨av,W,A1,M1,n⟩ W2 A2 M2) (h2:Ev ⟨V,W2b,A2,M2,n⟩ W3 A3 M3)
  (hb:∀ b,b≠l->W2b.heap[b]?=W2.heap[b]?) (hs:W2b.heap.size=W2.heap.size) (h3:∀ b,b≠l->W3b.heap[b]?=W3.heap[b]?) (Z:W3b.heap.size=W3.heap.size) (hl:W3b.heap[l]?=W.heap[l]?):Ev ⟨av,W,A1,M1,n⟩ W3b A3 M3:=by
 have hsz:W.heap.size<=W2.heap.size:=h1.size;have Y:W2b.heap.size<=W3.heap.size:=h2.size;have out:∀ b,b<W.heap.size->(∀ id m,M1 id=some m->0<m.cap->m.b≠b)->∀ id m,M2 id=some m->0<m.cap->m.b≠b:=fun b hb O id m hi h0 e=>by
  rcases h1.src id m hi h0 with ⟨i,m1,e1,e2,e3⟩|e1
  . exact O i m1 e1 e2 (by rw [<-e3,e])
  . simp only at e1;omega
 refine ⟨?_,fun b q J=>?_,fun b q hA=>?_,fun b q hA O=>?_,fun id m hi hm=>?_,fun id m' hi h0=>?_⟩
 . show W.heap.size<=W3b.heap.size;omega
 . simp only at q J |-;by_cases Q:b=l
   . rw [Q,hl]
   . have U:W3.heap[b]?=W2b.heap[b]?:=h2.keep b (by simp only [];omega) (by
      rcases J with J|J
      . exact .inl fun h=>J (h1.less b q h)
      . exact .inr (out b q J))
     rw [h3 b Q,U,hb b Q];exact h1.keep b q J
 . simp only at q;exact h1.less b q (h2.less b (by simp only [];omega) hA)
 . simp only at q hA O;exact h2.more b (by simp only [];omega) (h1.more b q hA O) (out b q O)
 . obtain ⟨m1,e1,e2⟩:=h1.ids id m hi hm;obtain ⟨m2,e3,e4⟩:=h2.ids id m1 hi e1;refine ⟨m2,e3,?_⟩;rcases e2 with rfl|e2<;>rcases e4 with rfl|e4
   . exact .inl rfl
   . exact .inr e4
   . exact .inr e2
   . exact .inr (Nat.lt_trans e2 e4)
 . rcases h2.src id m' hi h0 with ⟨i,m1,e1,e2,e3⟩|e1
   . rcases h1.src i m1 e1 e2 with ⟨i2,m2,g1,g2,g3⟩|g1
     . exact .inl ⟨i2,m2,g1,g2,by rw [e3,g3]⟩
     . exact .inr (by rw [e3];exact g1)
   . simp only at e1;exact .inr (by show W.heap.size<=_;omega)
theorem SR.grow {w0 w w':World} {A0:Cx} {A:Nat->Prop} {M:Id->Option MB} {s:St} {a:Act} (h:SR w0 A0 w A M s a) (hb:Below w.heap.size w w'):SR w0 A0 w' A M s a :=
 ⟨
  h.base.trans (hb.mono h.base.size),h.outer,h.size,fun t ht=>(h.tmps t ht).grow hb,h.heap.grow hb,h.defers.same fun D hD=>hb.block D (xdn hD),
  h.ev.step ⟨hb.size,fun b q _=>hb.block b q,fun _ _ h=>h,fun _ _ h _=>h,MExt.refl M,.of_new hb fun _ _ h=>.inl h⟩⟩
def IterC (P:Program) (Inv:IV) (fo:FuncId) (cl:AV) (xs:List AV) (op:AV->Bool):Prop :=
 Enters P fo/\∀ (w:World) (A:Nat->Prop) (lv:Value),Rel w A xFO lv cl->∀ (l:Nat) (J:List AV->(Nat->Prop)->World->Prop) (Jx:List AV->World->Prop),
  (∀ pre A W W',J pre A W->Below W.heap.size W W'->J pre A W')->(∀ pre W W',Jx pre W->Below W.heap.size W W'->Jx pre W') ->
  (∀ pre A W,J pre A W->Inv W/\∀ b,A b->b<W.heap.size)->(∀ pre W,Jx pre W->Inv W) ->
  (∀ pre v x suf A W,pre++x::suf=xs.filter op->J pre A W->Rel W A xFO v x->YieldAt Fence.wide 0 P l #[v] W fun e W' =>
   (e=.returned (.bool true)/\∃ A',J (pre++[x]) A' W'/\W.heap.size<=W'.heap.size/\(∀ b,b<W.heap.size->A' b->A b)/\∀ b,b<W.heap.size->¬ A b->W'.heap[b]?=W.heap[b]?) \/
   (e=.returned (.bool false)/\Jx (pre++[x]) W')) ->
  J [] A w->CallsIn Fence.wide 0 P fo #[.func (.yield l) #[] #[],lv] w fun e W'=>(∃ v,e=.returned v)/\((∃ A',J (xs.filter op) A' W')\/∃ pre suf,pre++suf=xs.filter op/\Jx pre W')
def stepS {σ ρ:Type} (step:σ->AV->σ⊕ρ):σ⊕ρ->AV->σ⊕ρ
 | .inl s,x=>step s x
 | .inr r,_=>.inr r
theorem xqy {σ ρ:Type} (step:σ->AV->σ⊕ρ) (r:ρ):∀ l:List AV,l.foldl (stepS step) (.inr r)=.inr r
 | []=>rfl
 | x::l=>by simp only [List.foldl_cons,stepS];exact xqy step r l
theorem xAv {L L':List Nat} (h:L.map rmark=L'.map rmark):L=L':=by
 induction L generalizing L' with
 | nil=>cases L'<;>simp_all
 | cons D L ih =>
  cases L' with
  | nil=>simp at h
  | cons D' L' =>
   simp only [zV,List.cons.injEq,rmark,Deferred.mk.injEq,Target.collected.injEq,and_true] at h;obtain ⟨rfl,h⟩:=h;rw [ih h]
theorem xqv {P:Program} {Inv:IV} (a7:InvOk Inv) (a0:Inv.top=true) {fo:FuncId} {cl:AV} {xs:List AV} {op:AV->Bool} {g:Operand} {p:Tmp} {U Y:Code} {T:List AV} {n:Nat} {σ ρ:Type}
  (Hs:σ->List Box) (Ho:ρ->List Box) (step:σ->AV->σ⊕ρ) (am:∀ s,(Hs s).length=n) {s0:σ} (hit:IterC P Inv fo cl xs op) (bj:cl.pure=true) (hg:St.eval ⟨T,Hs s0⟩ g=.func fo [cl])
  (ah:∀ pre s x af,pre++x::af=xs.filter op->pre.foldl (stepS step) (.inl s0)=.inl s->Does P ⟨Inv.inv,n,false⟩ U (fun e s1=>e=.normal/\Does P ⟨Inv.inv,n,false⟩ Y (fun e s'=>match step s x with
   | .inl s2=>e=.normal/\∃ T',Weak n s' ⟨T',Hs s2⟩
   | .inr r=>e=.ret/\∃ T',Weak n s' ⟨T',Ho r⟩) s1) ⟨T.set p x,Hs s⟩) :
  Does P Inv (.rangeFunc g #[p] U Y) (fun e s'=>match (xs.filter op).foldl (stepS step) (.inl s0) with
   | .inl s=>e=.normal/\s'=⟨T,Hs s⟩
   | .inr r=>e=.ret/\s'=⟨T,Ho r⟩) ⟨T,Hs s0⟩:=by
 intro w0 A0 w A M a Qc hI bw hs hQ ro ar;have ar:=ar a0;subst ar;rw [xy6];have a4:=hs.eval g;rw [hg] at a4;obtain ⟨cv,bm,bu,bt⟩:=a4.func_inv;have bg:∃ lv,cv=#[lv]:=by
  obtain ⟨l⟩:=cv;match l,bu with
  | [lv],_=>exact ⟨lv,rfl⟩
 obtain ⟨lv,rfl⟩:=bg;have ba:Rel w A xFO lv cl:=by
  have:=bt 0 (by simp)
  exact (show Rel w A M lv cl by simpa using this).pure bj
 have b0:=hs.heap.lt;obtain ⟨L0,a6,bz,az⟩:=hs.defers;refine wpIn_rangeFunc ?_;intro fn b1;obtain ⟨q,O⟩:∃ q:LoopState->Option Code->Loop,q=fun st pe=>{ state:=st,pending:=pe,fn:=fn,tmps:=a.tmps,params:=#[p],assign:=U,body:=Y,defers:=w.heap.size }:=⟨_,rfl⟩
 obtain ⟨W1,ai⟩:∃ W1,(w.alloc (.deferred (some []))).alloc (.loop (q .ready none))=W1:=⟨_,rfl⟩;have bh:W1.heap[w.heap.size+1]?=some (.loop (q .ready none)):=by
  rw [<-ai];have:=World.alloc_heap_new (w.alloc (.deferred (some []))) (.loop (q .ready none));rwa [World.size_alloc] at this
 have bo:W1.heap[w.heap.size]?=some (.deferred (some [])):=by
  rw [<-ai];exact (Below.heap_alloc _ _ _ (by simp)).trans (World.alloc_heap_new w _)
 have an:Below w.heap.size w W1:=by
  rw [<-ai];exact ((Below.refl _ w).alloc (zd _) _).alloc (by simp) _
 have bk:w0.heap.size<=w.heap.size:=hs.base.size;have bv:A0.w1.heap.size<=w.heap.size:=hs.ev.size;let J:List AV->(Nat->Prop)->World->Prop:=fun pre A' W=>∃ s,pre.foldl (stepS step) (.inl s0)=.inl s/\(∃ M',SR w0 A0 W A' M' ⟨T,Hs s⟩ a)/\w.heap.size<=W.heap.size /\
  W.heap[w.heap.size+1]?=some (.loop (q .ready none))/\W.heap[w.heap.size]?=some (.deferred (some []))
 let Jx:List AV->World->Prop:=fun pre W=>∃ r,pre.foldl (stepS step) (.inl s0)=.inr r/\(∃ A' M',SR w0 A0 W A' M' ⟨T,Ho r⟩ a) /\
  W.heap[w.heap.size+1]?=some (.loop (q .done (some .ret)))/\W.heap[w.heap.size]?=some (.deferred (some []))
 have aj:∀ (W:World) (A':Nat->Prop) (M':Id->Option MB) (s:St) (o:Loop),SR w0 A0 W A' M' s a->W.heap[w.heap.size+1]?=some (.loop o)->W.heap[w.heap.size]?=some (.deferred (some [])) ->
   ∀ o':Loop,SOk w0 A0 s { a with defers:=[rmark w.heap.size]++a.defers } (W.putObj (w.heap.size+1) (.loop o')):=fun W A' M' s o h h1 h2 o'=>by
  refine ⟨A',M',h.turn (o':=.loop o') h1 ⟨by simp,by simp⟩ (by omega) (by omega) ?_⟩
  have hne:∀ D,D∈L0->D≠w.heap.size:=fun D hD e=>by
   have:=xdn (az D hD).2.2;omega
  obtain ⟨L',e1,e2,e3⟩:=h.defers;have:L'=L0:=xAv (e1.symm.trans a6);subst this;refine ⟨w.heap.size::L',by rw [a6];rfl,List.nodup_cons.2 ⟨fun hm=>hne _ hm rfl,e2⟩,fun D hD=>?_⟩
  rcases zC.1 hD with rfl|hD
  . exact ⟨bk,.inr bv,by rw [World.putObj_heap_other (by omega)];exact h2⟩
  . refine ⟨(e3 D hD).1,(e3 D hD).2.1,?_⟩;have:=xdn (az D hD).2.2;rw [World.putObj_heap_other (by omega)];exact (e3 D hD).2.2
 refine ⟨w.heap.size+1,[{ target:=.collected w.heap.size,args:=#[] }],W1,{ target:=.fn (.func fo) #[lv],args:=#[.func (.yield (w.heap.size+1)) #[] #[]] },W1,fo,
  #[.func (.yield (w.heap.size+1)) #[] #[]]++#[lv],W1,?_,?_,fun _ _=>trivial,?_,fun h=>by simp [Fence.wide] at h,?_⟩
 . rw [<-ai,O];exact run_enterLoop_outer _ _ _ _ _
 . simp only [Go.resolve,bm];simp [go_sem]
 . simp [invoke,go_sem,xkU hit.1]
 . refine (hit.2 W1 A lv (ba.grow an) (w.heap.size+1) J Jx ?_ ?_ ?_ ?_ ?_ ?_).mono ?_
   . rintro pre A' W W' ⟨s,h1,⟨M',h2⟩,h4,h5,h6⟩ hb;exact ⟨s,h1,⟨M',h2.grow hb⟩,Nat.le_trans h4 hb.size,by rw [hb.block _ (xdn h5)];exact h5,by rw [hb.block _ (xdn h6)];exact h6⟩
   . rintro pre W W' ⟨r,h1,⟨A',M',h2⟩,h5,h6⟩ hb;exact ⟨r,h1,⟨A',M',h2.grow hb⟩,by rw [hb.block _ (xdn h5)];exact h5,by rw [hb.block _ (xdn h6)];exact h6⟩
   . rintro pre A' W ⟨s,h1,⟨M',h2⟩,h4,h5,h6⟩;exact ⟨a7.below _ _ hI h2.base,h2.heap.lt⟩
   . rintro pre W ⟨r,h1,⟨A',M',h2⟩,h5,h6⟩;exact a7.below _ _ hI h2.base
   ·
    rintro pre v x af A' W hx ⟨s,h1,⟨M',h2⟩,h4,h5,h6⟩ bf;have a2:=xdn h5;have hy:=run_yield (P:=P) (args:=#[v]) h5 (by rw [O];rfl)
    rw [O] at hy;have hz:(#[p].zip #[v]).foldl (fun tmps (x:Tmp×Value)=>tmps.setIfInBounds x.1 x.2) a.tmps=a.tmps.setIfInBounds p v:=by simp
    refine ⟨fn,_,U,Y,hy,roundIn_of_wpIn trivial ?_⟩;show Code.wpIn (Fence.wide.inRound (w.heap.size+1)) 0 P U _ { tmps:=(#[p].zip #[v]).foldl (fun tmps (x:Tmp×Value)=>tmps.setIfInBounds x.1 x.2) a.tmps,defers:=[] } _
    rw [hz];obtain ⟨av,a8⟩:∃ av:Nat->Prop,av=fun b=>b<w0.heap.size->A0.av b:=⟨_,rfl⟩
    have a5:∀ b,w0.heap.size<=b->av b:=fun b hb=>by rw [a8];intro h;omega
    have ak:∀ b,b<w0.heap.size->(av b↔A0.av b):=fun b hb=>by rw [a8];exact ⟨fun h=>h hb,fun h _=>h⟩
    obtain ⟨p1,p2⟩:=xqM (d:=some p) h2.size h2.tmps (bf.lift M');have bn:SR w0 ⟨av,W,A',M',n⟩ W A' M' ⟨T.set p x,Hs s⟩ { tmps:=a.tmps.setIfInBounds p v,defers:=[] } :=
     ⟨h2.base,fun b hb=>(h2.outer b hb).trans (ak b hb).symm,p1,p2,h2.heap,DefOk.nil,Ev.refl (C:=⟨av,W,A',M',n⟩)⟩
    refine ah pre s x af hx h1 w0 ⟨av,W,A',M',n⟩ W A' M' _ _ hI (zd n) bn ?_ (some (w.heap.size+1)) (fun h=>by simp at h)
    rintro e s1 a1 w1 ⟨rfl,aw⟩ ⟨A1,M1,Q⟩;have al:=Q.ev.mv h2.heap (by rw [am];exact zd n)
    have aa:w1.heap[w.heap.size+1]?=some (.loop (q .ready none)):=by rw [al.touch.1 _ a2 (h2.heap.not_box h5 (by simp) (by simp))];exact h5
    have ap:w1.heap[w.heap.size]?=some (.deferred (some [])):=by rw [al.touch.1 _ (xdn h6) (h2.heap.not_box h6 (by simp) (by simp))];exact h6
    refine ⟨_,run_beginRound aa (by rw [O]),?_⟩
    have au:(Obj.loop { q .ready none with state:=.busy })=.loop (q .busy none):=by rw [O]
    rw [au];obtain ⟨w2,V⟩:∃ w2,w2=w1.putObj (w.heap.size+1) (.loop (q .busy none)):=⟨_,rfl⟩;rw [<-V];have ab:w2.heap.size=w1.heap.size:=by rw [V];simp
    have ax:w2.heap[w.heap.size+1]?=some (.loop (q .busy none)):=by rw [V];exact World.putObj_heap_same (xdn aa)
    have aq:∀ b,b≠w.heap.size+1->w2.heap[b]?=w1.heap[b]?:=fun b hb=>by rw [V];exact World.putObj_heap_other hb
    have bq:SR w0 ⟨av,w2,A1,M1,n⟩ w2 A1 M1 s1 a1:=by
     refine ⟨by rw [V];exact xpi Q.base (by omega) _,Q.outer,Q.size,fun t ht=>?_,by rw [V];exact Q.heap.turn aa ⟨by simp,by simp⟩ _,?_,Ev.refl (C:=⟨av,w2,A1,M1,n⟩)⟩
     . rw [V];exact (Q.tmps t ht).turn (by simp) (xoG aa ⟨by simp,by simp⟩)
     . obtain ⟨L,e1,e2,e3⟩:=Q.defers;refine ⟨L,e1,e2,fun D hD=>⟨(e3 D hD).1,.inl (a5 _ (by have:=Q.base.size;rw [ab];omega)),?_⟩⟩
       rw [aq D (fun e=>by have:=(e3 D hD).2.2;rw [e,aa] at this;simp at this)];exact (e3 D hD).2.2
    refine aw w0 ⟨av,w2,A1,M1,n⟩ w2 A1 M1 a1 _ hI (zd n) bq ?_ (some (w.heap.size+1)) (fun h=>by simp at h)
    have ad:∀ (s':St) (a3:Act) (W3:World) (T':List AV) (H':List Box),Weak n s' ⟨T',H'⟩->SOk w0 ⟨av,w2,A1,M1,n⟩ s' a3 W3 ->
      ∃ A3 M3,SR w0 A0 (W3.putObj (w.heap.size+1) (.loop (q .ready none))) A3 M3 ⟨T,H'⟩ a/\Mv W A' M' (W3.putObj (w.heap.size+1) (.loop (q .ready none))) A3 M3 /\
       W3.heap[w.heap.size+1]?=some (.loop (q .busy none))/\W3.heap[w.heap.size]?=some (.deferred (some [])):=by
     rintro s' a3 W3 T' H' hw ⟨A2,M2,a9⟩;obtain ⟨A3,M3,Z⟩:=hw w0 _ W3 A2 M2 a3 (zd n) a9;have bb:=Q.heap.not_box aa (by simp) (by simp)
     have ao:W3.heap[w.heap.size+1]?=some (.loop (q .busy none)):=by rw [Z.ev.keep _ (xdn ax) (.inr bb)];exact ax
     have be:W3.heap[w.heap.size]?=some (.deferred (some [])):=by
      rw [Z.ev.keep _ (by show w.heap.size<w2.heap.size;rw [ab];exact xdn ap) (.inr (Q.heap.not_box ap (by simp) (by simp)))]
      show w2.heap[w.heap.size]?=_;rw [aq _ (by omega)];exact ap
     have bc:Ev ⟨av,W,A',M',n⟩ (W3.putObj (w.heap.size+1) (.loop (q .ready none))) A3 M3:=by
      refine Ev.over Q.ev Z.ev (l:=w.heap.size+1) aq (by rw [ab]) (fun b hb=>World.putObj_heap_other hb) (by simp) ?_
      rw [World.putObj_heap_same (xdn ao)];exact h5.symm
     have ae:=bc.mv h2.heap (by rw [am];exact zd n)
     exact ⟨A3,M3,⟨xpi Z.base (by omega) _,fun b hb=>(Z.outer b hb).trans (ak b hb),h2.size,fun t ht=>ae.rel (h2.tmps t ht),Z.heap.turn ao ⟨by simp,by simp⟩ _,h2.defers.mv h2.heap ae,h2.ev.step ae⟩,ae,ao,be⟩
    have ac:(pre++[x]).foldl (stepS step) (.inl s0)=step s x:=by
     rw [List.foldl_append,h1];rfl
    intro e s' a3 W3 hq ay;cases ag:step s x with
    | inl s2 =>
     rw [ag] at hq;obtain ⟨rfl,T',hw⟩:=hq;obtain ⟨A3,M3,g1,g2,g4,g5⟩:=ad s' a3 W3 T' _ hw ay;have hr:=run_endRound (P:=P) none g4;have he:(Obj.loop { q .busy none with state:=if (none:Option Code).isNone then .ready else .done,pending:=none })=.loop (q .ready none):=by rw [O];rfl
     rw [he] at hr;exact ⟨_,_,hr,.inl ⟨rfl,A3,⟨s2,ac.trans ag,⟨M3,g1⟩,Nat.le_trans h4 g2.size,World.putObj_heap_same (xdn g4),(World.putObj_heap_other (by omega)).trans g5⟩,g2.size,g2.less,g2.keep⟩⟩
    | inr r =>
     rw [ag] at hq;obtain ⟨rfl,T',hw⟩:=hq;obtain ⟨A3,M3,g1,g2,g4,g5⟩:=ad s' a3 W3 T' _ hw ay;have hr:=run_endRound (P:=P) (some .ret) g4;have he:(Obj.loop { q .busy none with state:=if (some Code.ret).isNone then .ready else .done,pending:=some .ret })=.loop (q .done (some .ret)):=by rw [O];rfl
     rw [he] at hr;have bp:W3.putObj (w.heap.size+1) (.loop (q .done (some .ret)))=(W3.putObj (w.heap.size+1) (.loop (q .ready none))).putObj (w.heap.size+1) (.loop (q .done (some .ret))):=by
      simp [World.putObj]
     have g6:(W3.putObj (w.heap.size+1) (.loop (q .ready none))).heap[w.heap.size+1]?=some (.loop (q .ready none)):=World.putObj_heap_same (xdn g4);refine ⟨_,_,hr,.inr ⟨rfl,r,ac.trans ag,⟨A3,M3,?_⟩,World.putObj_heap_same (xdn g4),(World.putObj_heap_other (by omega)).trans g5⟩⟩
     rw [bp];exact g1.turn (o':=.loop (q .done (some .ret))) g6 ⟨by simp,by simp⟩ (by omega) (by omega) (g1.defers.same fun D hD=>World.putObj_heap_other (fun e=>by rw [e] at hD;rw [g6] at hD;simp at hD))
   . exact ⟨s0,rfl,⟨M,hs.grow an⟩,an.size,bh,bo⟩
   ·
    rintro e W2 ⟨⟨v,rfl⟩,⟨A',s,h1,⟨M',h2⟩,h4,h5,h6⟩|⟨pre,af,bi,r,h1,⟨A',M',h2⟩,h5,h6⟩⟩
    . refine ⟨none,_,by have:=run_endLoop (P:=P) h5 (by rw [O];simp);rw [O] at this;exact this,?_⟩
      refine hQ .normal ⟨T,Hs s⟩ _ _ (by rw [h1];exact ⟨rfl,rfl⟩) ?_
      exact aj W2 A' M' ⟨T,Hs s⟩ _ h2 h5 h6 _
    . refine ⟨some .ret,_,by have:=run_endLoop (P:=P) h5 (by rw [O];simp);rw [O] at this;exact this,?_⟩
      refine wpIn_ret (hQ .ret ⟨T,Ho r⟩ _ _ ?_ (aj W2 A' M' ⟨T,Ho r⟩ _ h2 h5 h6 _));rw [<-bi,List.foldl_append,h1,xqy];exact ⟨rfl,rfl⟩
theorem xtG {P:Program} {Inv:IV} {w0:World} {A0:Cx} (U:InvOk Inv) (hI:Inv w0) {ro:Option Nat} {n:Nat} {ops:Array Oper} {Q:Exit->Act->World->Prop} {rest:List Oper} {l:List Oper} {s s':St} (hp:Path (OpA P Inv) ops l s s') :
  (∀ o,o∈l->∀ c,o.op≠.defer c)->∀ {w:World} {A:Nat->Prop} {M:Id->Option MB} {a:Act},SR w0 A0 w A M s a ->
  (∀ a' w' A' M',SR w0 A0 w' A' M' s' a'->a'.defers=a.defers->Mv w A M w' A' M'->wpListIn (wideR ro) n P ops Q rest a' w')->wpListIn (wideR ro) n P ops Q (l++rest) a w:=by
 induction hp with
 | nil s=>intro _ w A M a hs hK;exact hK a w A M hs rfl Mv.refl
 | run hw h hr ih =>
  intro hd w A M a hs hK;have J:=xgu (w:=w) (A:=A) (M:=M) hs.size (fun j O d _ _ q=>hs.tmps d q) hw
  rw [List.cons_append];unfold wpListIn;rw [if_pos J];exact xpJ (hd _ (by simp)) (fun _ _ h=>h) (xu9 U hI h hs fun v w' A' M' Y V=>ih (fun o ho=>hd o (by simp [ho])) Y fun a2 w2 A2 M2 h2 e2 m2=>hK a2 w2 A2 M2 h2 (e2.trans (xf0 _ _ _)) (V.trans m2))
 | skip hw hr ih =>
  intro hd w A M a hs hK;have J:=xgu (w:=w) (A:=A) (M:=M) hs.size (fun j O d _ _ q=>hs.tmps d q) hw
  rw [List.cons_append];unfold wpListIn;rw [if_neg (by rw [J];simp)]
  exact ⟨fun _ _=>trivial,ih (fun o ho=>hd o (by simp [ho])) (hs.skip _) fun a2 w2 A2 M2 h2 e2 m2=>hK a2 w2 A2 M2 h2 (e2.trans (xf0 _ _ _)) m2⟩
theorem xrG {P:Program} {Inv:IV} {w0:World} {A0:Cx} (q:InvOk Inv) (hI:Inv w0) {ro:Option Nat} {n:Nat} {ops:Array Oper} {Q:Exit->Act->World->Prop} {l:List Oper} {s s':St} (hp:Path (OpA P Inv) ops l s s') (hd:∀ o,o∈l->∀ c,o.op≠.defer c) {w:World} {A:Nat->Prop} {M:Id->Option MB} {a:Act} (hs:SR w0 A0 w A M s a)
  (hK:∀ a' w' A' M',SR w0 A0 w' A' M' s' a'->a'.defers=a.defers->Q .normal a' w'):wpListIn (wideR ro) n P ops Q l a w:=by
 have h:=xtG (ro:=ro) (n:=n) (ops:=ops) (Q:=Q) (rest:=[]) q hI hp hd hs (fun a' w' A' M' h1 h2 _=>hK a' w' A' M' h1 h2)
 rwa [zD] at h
def XB (P:Program) (E:Env) (assign body:Code) (ts:List AV) (H:List Box):Option (Exit×List Box):=X P E none assign ⟨ts,H⟩ fun e s1=>match e with
 | .normal=>X P E none body s1 fun e2 s2=>match normS E.pin [] [] s2 with
  | some (_,H')=>xF3 H' fun H'=>some (e2,H')
  | none=>none
 | _=>none
theorem xqH {P:Program} {Inv:IV} {E:Env} (J:P.follows .mixedOrders=true) (Q:InvOk Inv) (q:Inv.pin=E.pin) (O:xFB P Inv E) {assign body:Code} (U:LoOk P Inv E assign) (V:LoOk P Inv E body) {ts:List AV} {H H':List Box} {e0:Exit}
  (h:XB P E assign body ts H=some (e0,H')):Does P Inv assign (fun e s1=>e=.normal/\Does P Inv body (fun e s'=>e=e0/\∃ T',Weak Inv.pin s' ⟨T',H'⟩) s1) ⟨ts,H⟩:=by
 unfold XB at h;refine xbt (xfQ (good:=fun t=>t=some (e0,H')) J Q q (by simp) O assign _ _ U h) fun e s1 hq=>?_
 cases e with
 | normal =>
  refine ⟨rfl,xbt (xfQ (good:=fun t=>t=some (e0,H')) J Q q (by simp) O body _ _ V hq) fun e s2 hq=>?_⟩
  split at hq
  case h_2=>simp at hq
  rename_i vs H1 Y;rw [xb2] at hq;simp only [z6,zb] at hq;obtain ⟨rfl,rfl⟩:=hq;have hw:=xhx Y;rw [<-q] at hw;exact ⟨rfl,_,hw⟩
 | _=>simp at hq
theorem Rel.yld_inv {w:World} {A:Nat->Prop} {M:Id->Option MB} {v:Value} {l:Nat} (h:Rel w A M v (.yld l)):v=.func (.yield l) #[] #[]:=by cases h;rfl
theorem xld {P:Program} {Inv:IV} {E:Env} (J:xFB P Inv E) {ops:Array Oper} {l:List Oper} {s s':St} (h:xOps P E none (some true) ops l s some=some s'):Path (OpA P Inv) ops l s s':=by
 have q:¬ (fun t:Option St=>t=some s') none:=by simp
 have hA:∀ o s (K:St->Option St),(fun t:Option St=>t=some s') (xopM P E none (some true) o s K)->∃ s1,OpA P Inv s o s1/\(fun t:Option St=>t=some s') (K s1):=fun o s K h=>xvL (good:=fun t:Option St=>t=some s') q J h
 obtain ⟨s1,h1,h2⟩:=xgv (good:=fun t:Option St=>t=some s') q hA l s some h
 simp only [z6] at h2;exact h2▸h1
theorem xod {W:World} {A:Nat->Prop} (q:∀ b,A b->b<W.heap.size) {ts:List AV} {b:Act} (hsz:b.tmps.size=ts.length) (hd:b.defers=[]) (hr:∀ t,t<ts.length->Rel W A xFO (b.tmps.getD t undef) (ts.getD t .top)):SR W ⟨A,W,A,xFO,0⟩ W A xFO ⟨ts,[]⟩ b :=
 ⟨Below.refl _ _,fun _ _=>Iff.rfl,hsz,hr,⟨fun id m hm=>by simp [xFO] at hm,fun _ _ _ _ h=>by simp [xFO] at h,q⟩,by rw [hd];exact DefOk.nil,Ev.refl (C:=⟨A,W,A,xFO,0⟩)⟩
theorem SR.pureRel {W w':World} {A A':Nat->Prop} {M':Id->Option MB} {C:Cx} {s':St} {b':Act} (hs:SR W C w' A' M' s' b') (hc:C.av=A) (q:∀ b,A b->b<W.heap.size) {t:Nat} {x:AV} (ht:t<s'.tmps.length) (hx:s'.tmps.getD t .top=x) (hp:x.pure=true):Rel w' A xFO (b'.tmps.getD t undef) x:=by
 have h:=hs.tmps t ht;rw [hx] at h;exact (h.pure (M':=xFO) hp).mono (fun _ _ _=>rfl) (zd _) (fun b _ hb=>(hs.outer b (q b hb)).2 (by rw [hc];exact hb)) (MExt.refl _)
end Go.Sim
namespace Go.Sim.M
open Go.RowKit Go.Proofs
def regs:Code->List Code
 | .region i ops d=>[.region i ops d]
 | .seq a b=>regs a++regs b
 | .block _ c=>regs c
 | .loop c=>regs c
 | .cond _ a b=>regs a++regs b
 | .rangeFunc _ _ a b=>regs a++regs b
 | _=>[]
def regAt (fn:Func) (i:Nat):Code:=(regs (fn.body.getD .skip)).getD i .skip
def opsOf:Code->Array Oper
 | .region _ ops _=>ops
 | _=>#[]
def opsAt (fn:Func) (i:Nat):Array Oper:=opsOf (regAt fn i)
def idOf:Code->Nat
 | .region i _ _=>i
 | _=>0
def rg (fn:Func) (i:Nat):Code:=.region (idOf (regAt fn i)) (opsAt fn i) false
def verA (a b:Int) (r:List AV) (c d e f g h:Int):AV:=.agg [.int .i64 a,.int .i64 b,.list 3 r,.int .i64 c,.int .i64 d,.int .i64 e,.int .i64 f,.int .i64 g,.int .i64 h]
def IsV (x:AV):Prop:=∃ a b r c d e f g h,x=verA a b r c d e f g h
noncomputable def opV:AV->Bool
 | .agg [.int _ a,.int _ b,.list _ r,.int _ c,.int _ d,.int _ e,.int _ f,.int _ g,.int _ h]=>xdD a b r c d e f g h
 | _=>false
noncomputable abbrev EIt:Env:=xip.E.fn 20 0 (lsOf []) (xFX [])
theorem xrX:xFB Tryz.prog (xGh.at 0) EIt:=xip.ok.fn
def Th (xs:List AV) (l:Nat) (i:Int):List AV:=[.yld l,.eptr 1 [.list 9 xs] 0 0,.top,.top,.top,.list 9 xs,.int .i64 xs.length,.int .i64 i,.top,.top,.top,.top,.top,.top,.top,.top,.top,.top,.top,.top]
def Th8 (xs:List AV) (l:Nat) (i:Int) (t:Bool):List AV:=[.yld l,.eptr 1 [.list 9 xs] 0 0,.top,.top,.top,.list 9 xs,.int .i64 xs.length,.int .i64 i,.bool t,.top,.top,.top,.top,.top,.top,.top,.top,.top,.top,.top]
def Tv (xs:List AV) (l:Nat) (i:Int) (x:AV):List AV:=[.yld l,.eptr 1 [.list 9 xs] 0 0,.top,.top,.own 0 0 0 0,.list 9 xs,.int .i64 xs.length,.int .i64 i,.bool true,.eptr 9 xs i.toNat 0,x,.top,.top,.top,.top,.top,.top,.top,.top,.top]
def Bv (x:AV):List Box:=[⟨0,9,58,[x],false,true⟩]
def Tw (xs:List AV) (l:Nat) (i:Int) (x:AV) (o:Bool):List AV:=[.yld l,.eptr 1 [.list 9 xs] 0 0,.top,.top,.own 0 0 0 0,.list 9 xs,.int .i64 xs.length,.int .i64 i,.bool true,.eptr 9 xs i.toNat 0,x,x,.bool o,.bool true,.yld l,x,.top,.top,.top,.top]
def Tn (xs:List AV) (l:Nat) (i:Int) (x:AV) (o:Bool):List AV:=[.yld l,.eptr 1 [.list 9 xs] 0 0,.top,.top,.own 0 0 0 0,.list 9 xs,.int .i64 xs.length,.int .i64 i,.bool true,.eptr 9 xs i.toNat 0,x,x,.bool o,.bool false,.tuple [],.tuple [],.tuple [],.tuple [],.bool false,.top]
def Ty (xs:List AV) (l:Nat) (i:Int) (b:Bool):List AV:=[.yld l,.eptr 1 [.list 9 xs] 0 0,.top,.top,.top,.list 9 xs,.int .i64 xs.length,.int .i64 i,.top,.top,.top,.top,.top,.bool true,.top,.top,.bool b,.top,.top,.top]
def Tz (xs:List AV) (l:Nat) (i:Int) (b:Bool):List AV:=[.yld l,.eptr 1 [.list 9 xs] 0 0,.top,.top,.top,.list 9 xs,.int .i64 xs.length,.int .i64 i,.top,.top,.top,.top,.top,.bool true,.top,.top,.bool b,.bool !b,.bool !b,.top]
noncomputable abbrev XO (ops:Array Oper) (l:List Oper) (ts:List AV) (H:List Box):Option St:=xOps Tryz.prog EIt none (some true) ops l ⟨ts,H⟩ some
theorem xEp (xs:List AV) (l:Nat):XO (opsAt Tryz.f67 0) (opsAt Tryz.f67 0).toList ([.yld l,.eptr 1 [.list 9 xs] 0 0]++List.replicate 18 (.tuple [])) [] =
 some ⟨[.yld l,.eptr 1 [.list 9 xs] 0 0,.tuple [],.tuple [],.tuple [],.list 9 xs,.int .i64 xs.length,.int .i64 0]++List.replicate 12 (.tuple []),[]⟩:=by kernel_rfl
theorem xEq (xs:List AV) (l:Nat) (i:Int):XO (opsAt Tryz.f67 1) (opsAt Tryz.f67 1).toList (Th xs l i) []=some ⟨Th8 xs l i (decide (i<(xs.length:Int))),[]⟩:=by kernel_rfl
theorem xEr (xs:List AV) (l:Nat) (i:Int):XO (opsAt Tryz.f67 2) (opsAt Tryz.f67 2).toList (Th8 xs l i true) [] =
 br (decide ((0:Int)<=i)&&decide (i<(xs.length:Int))) (br (decide (i.toNat<xs.length)&&((xs.getD i.toNat AV.top).cells.length==(9:Nat)&&xFG [Sh.int IntKind.i64,Sh.int IntKind.i64,Sh.list (3:Nat),Sh.int IntKind.i64,Sh.int IntKind.i64,Sh.int IntKind.i64,Sh.int IntKind.i64,Sh.int IntKind.i64,Sh.int IntKind.i64] (xs.getD i.toNat AV.top).cells (0:Nat)))
  (
   let x:=verA ((xs.getD i.toNat AV.top).cells.getD 0 AV.top).toInt ((xs.getD i.toNat AV.top).cells.getD 1 AV.top).toInt ((xs.getD i.toNat AV.top).cells.getD 2 AV.top).toList ((xs.getD i.toNat AV.top).cells.getD 3 AV.top).toInt ((xs.getD i.toNat AV.top).cells.getD 4 AV.top).toInt ((xs.getD i.toNat AV.top).cells.getD 5 AV.top).toInt ((xs.getD i.toNat AV.top).cells.getD 6 AV.top).toInt ((xs.getD i.toNat AV.top).cells.getD 7 AV.top).toInt ((xs.getD i.toNat AV.top).cells.getD 8 AV.top).toInt
   some ⟨Tv xs l i x,Bv x⟩) none) none:=by kernel_rfl
theorem xDJ (xs:List AV) (l:Nat) (i:Int) (a b:Int) (r:List AV) (c d e f g h:Int):XO (opsAt Tryz.f67 3) ((opsAt Tryz.f67 3).toList.take 5) (Tv xs l i (verA a b r c d e f g h)) (Bv (verA a b r c d e f g h)) =
 br (xdD a b r c d e f g h) (some ⟨Tw xs l i (verA a b r c d e f g h) (xdD a b r c d e f g h),Bv (verA a b r c d e f g h)⟩)
  (some ⟨[.yld l,.eptr 1 [.list 9 xs] 0 0,.top,.top,.own 0 0 0 0,.list 9 xs,.int .i64 xs.length,.int .i64 i,.bool true,.eptr 9 xs i.toNat 0,verA a b r c d e f g h,verA a b r c d e f g h,.bool (xdD a b r c d e f g h),.bool false,.tuple [],.tuple [],.top,.top,.top,.top],Bv (verA a b r c d e f g h)⟩):=by kernel_rfl
theorem xDL (xs:List AV) (l:Nat) (i:Int) (a b:Int) (r:List AV) (c d e f g h:Int):XO (opsAt Tryz.f67 3) (opsAt Tryz.f67 3).toList (Tv xs l i (verA a b r c d e f g h)) (Bv (verA a b r c d e f g h)) =
 br (xdD a b r c d e f g h) none (some ⟨Tn xs l i (verA a b r c d e f g h) (xdD a b r c d e f g h),Bv (verA a b r c d e f g h)⟩):=by kernel_rfl
theorem xDK (xs:List AV) (l:Nat) (i:Int) (b:Bool):XO (opsAt Tryz.f67 3) ((opsAt Tryz.f67 3).toList.drop 6) (Ty xs l i b) []=some ⟨Tz xs l i b,[]⟩:=by kernel_rfl
def Tq (b:Bool):List AV:=[.top,.top,.top,.top,.top,.top,.top,.top,.top,.top,.top,.top,.top,.bool true,.top,.top,.bool false,.top,.top,.top]
theorem xDM:XO (opsAt Tryz.f67 3) ((opsAt Tryz.f67 3).toList.drop 6) (Tq false) []=some ⟨[.top,.top,.top,.top,.top,.top,.top,.top,.top,.top,.top,.top,.top,.bool true,.top,.top,.bool false,.bool true,.bool true,.top],[]⟩:=by kernel_rfl
theorem xEs (xs:List AV) (l:Nat) (i:Int):XO (opsAt Tryz.f67 4) (opsAt Tryz.f67 4).toList (Th xs l i) [] =
 some ⟨[.yld l,.eptr 1 [.list 9 xs] 0 0,.top,.top,.top,.list 9 xs,.int .i64 xs.length,.int .i64 (IntKind.i64.wrap (i+1)),.top,.top,.top,.top,.top,.top,.top,.top,.top,.top,.top,.int .i64 (IntKind.i64.wrap (i+1))],[]⟩:=by kernel_rfl
noncomputable def itCode:Code:=.seq (rg Tryz.f67 0) (.block 0 (.loop (.seq (rg Tryz.f67 1) (.seq (.cond (.tmp 8) .skip (.exit 0)) (.seq (.block 1 (.seq (rg Tryz.f67 2) (.seq (rg Tryz.f67 3) (.cond (.tmp 18) .ret .skip)))) (rg Tryz.f67 4))))))
theorem xCs:Tryz.f67.body=some itCode:=by kernel_rfl
theorem xDE:noDefer (opsAt Tryz.f67 0)=true:=by kernel_rfl
theorem xDF:noDefer (opsAt Tryz.f67 1)=true:=by kernel_rfl
theorem xDG:noDefer (opsAt Tryz.f67 2)=true:=by kernel_rfl
theorem xDH:noDefer (opsAt Tryz.f67 3)=true:=by kernel_rfl
theorem xDI:noDefer (opsAt Tryz.f67 4)=true:=by kernel_rfl
theorem xup (i:Nat) (h:i<5):noDefer (opsAt Tryz.f67 i)=true:=by
 have:i=0\/i=1\/i=2\/i=3\/i=4:=by omega
 rcases this with e|e|e|e|e<;>rw [e]
 . exact xDE
 . exact xDF
 . exact xDG
 . exact xDH
 . exact xDI
theorem xmT {i k:Nat} (hk:k<5) {s s':St} {w0 W:World} {C:Cx} {A:Nat->Prop} {M:Id->Option MB} {b:Act} {Q:Exit->Act->World->Prop} (hI:xGh w0) (hx:xOps Tryz.prog EIt none (some true) (opsAt Tryz.f67 k) (opsAt Tryz.f67 k).toList s some=some s') (hs:SR w0 C W A M s b)
  (hK:∀ a' w' A' M',SR w0 C w' A' M' s' a'->a'.defers=b.defers->Q .normal a' w'):(Code.region i (opsAt Tryz.f67 k) false).wpIn Fence.wide 0 Tryz.prog Q b W:=by
 exact wpIn_region_list (xrG (Inv:=xGh.at 0) (ro:=none) (n:=0) (xFL Tryz.prog _) hI (xld xrX hx) (xg8 (xup k hk)) hs hK)
noncomputable def itY:Oper:=(opsAt Tryz.f67 3).toList.getD 5 default
theorem xzX:itY.op=.call { callee:=.value (.tmp 14),args:=#[.tmp 15],argTypes:=#[58] }:=by kernel_rfl
theorem xwM:itY.dst=some 16:=by kernel_rfl
theorem xzY:(opsAt Tryz.f67 3).toList=(opsAt Tryz.f67 3).toList.take 5++(itY::(opsAt Tryz.f67 3).toList.drop 6):=by kernel_rfl
theorem xBa (xs:List AV) (l:Nat) (i:Int) (x:AV) (o:Bool):xFM (opsAt Tryz.f67 3) (Tw xs l i x o) itY=some true:=by kernel_rfl
theorem xCr {l:Nat} {b:Act} {v:Value} {W:World} {r:Result Next} (h0:b.tmps.getD 14 undef=.func (.yield l) #[] #[]) (h1:b.tmps.getD 15 undef=v) (hy:(Instr.yield l #[v]).run Tryz.prog W=r):(execOp b.eval itY).run Tryz.prog W=r:=by
 simp only [execOp,xzX,Go.resolve,Act.eval,h0,h1,Deferred.ofValue,Sem.run_bind,Sem.run_pure,Result.andThen_ok,invoke];have e:b.eval (.tmp 15)=v:=h1;simpa [e] using hy
structure Hd (xs:List AV) (l:Nat) (i:Int) (W:World) (A:Nat->Prop) (b:Act):Prop where
 size:b.tmps.size=20
 def0:b.defers=[]
 r0:Rel W A xFO (b.tmps.getD 0 undef) (.yld l)
 r1:Rel W A xFO (b.tmps.getD 1 undef) (.eptr 1 [.list 9 xs] 0 0)
 r5:Rel W A xFO (b.tmps.getD 5 undef) (.list 9 xs)
 r6:Rel W A xFO (b.tmps.getD 6 undef) (.int .i64 xs.length)
 r7:Rel W A xFO (b.tmps.getD 7 undef) (.int .i64 i)
theorem lt20 {t:Nat} (h:t<20):t=0\/t=1\/t=2\/t=3\/t=4\/t=5\/t=6\/t=7\/t=8\/t=9\/t=10\/t=11\/t=12\/t=13\/t=14\/t=15\/t=16\/t=17\/t=18\/t=19:=by omega
theorem Hd.sr {xs:List AV} {l:Nat} {i:Int} {W:World} {A:Nat->Prop} {b:Act} (h:Hd xs l i W A b) (q:∀ b,A b->b<W.heap.size):SR W ⟨A,W,A,xFO,0⟩ W A xFO ⟨Th xs l i,[]⟩ b:=by
 refine xod q h.size h.def0 fun t ht=>?_
 rcases lt20 ht with rfl|rfl|rfl|rfl|rfl|rfl|rfl|rfl|rfl|rfl|rfl|rfl|rfl|rfl|rfl|rfl|rfl|rfl|rfl|rfl <;>
  first|exact Rel.top _|exact h.r0|exact h.r1|exact h.r5|exact h.r6|exact h.r7
theorem Hd.of {xs:List AV} {l:Nat} {i:Int} {W W':World} {A A':Nat->Prop} {M':Id->Option MB} {C:Cx} {s':St} {b':Act} (hs:SR W C W' A' M' s' b') (hc:C.av=A) (q:∀ b,A b->b<W.heap.size) (hd:b'.defers=[]) (hl:s'.tmps.length=20)
  (h0:s'.tmps.getD 0 .top=.yld l) (h1:s'.tmps.getD 1 .top=.eptr 1 [.list 9 xs] 0 0) (h5:s'.tmps.getD 5 .top=.list 9 xs) (h6:s'.tmps.getD 6 .top=.int .i64 xs.length) (h7:s'.tmps.getD 7 .top=.int .i64 i):Hd xs l i W' A b' :=
 ⟨hs.size.trans hl,hd,hs.pureRel hc q (by omega) h0 rfl,hs.pureRel hc q (by omega) h1 rfl,hs.pureRel hc q (by omega) h5 rfl,hs.pureRel hc q (by omega) h6 rfl,hs.pureRel hc q (by omega) h7 rfl⟩
theorem Hd.keep {xs:List AV} {l:Nat} {i:Int} {W W':World} {A A':Nat->Prop} {b:Act} (h:Hd xs l i W A b) (d:Nat) (v:Value) (hd:8<=d) (hs:W.heap.size<=W'.heap.size) (hA:∀ b,b<W.heap.size->A' b->A b) (hk:∀ b,b<W.heap.size->¬ A b->W'.heap[b]?=W.heap[b]?):Hd xs l i W' A' (b.put (some d) v):=by
 have key:∀ t x,t<8->Rel W A xFO (b.tmps.getD t undef) x->Rel W' A' xFO ((b.put (some d) v).tmps.getD t undef) x:=fun t x ht hr=>by
  have e:(b.put (some d) v).tmps.getD t undef=b.tmps.getD t undef:=by
   simp only [Act.put];simp [zu,Array.getElem?_setIfInBounds_ne (show d≠t by omega)]
  rw [e];exact hr.mono hk hs hA (MExt.refl _)
 exact ⟨by simp [Act.put,h.size],h.def0,key 0 _ (by omega) h.r0,key 1 _ (by omega) h.r1,key 5 _ (by omega) h.r5,key 6 _ (by omega) h.r6,key 7 _ (by omega) h.r7⟩
theorem xoF (xs:List AV) (b7:∀ x,x∈xs->IsV x) (ch:xs.length<4611686018427387904):IterC Tryz.prog xGh 67 (.eptr 1 [.list 9 xs] 0 0) xs opV:=by
 refine ⟨⟨Tryz.f67,Tryz.func67,by kernel_rfl,by kernel_rfl⟩,?_⟩
 intro w A lv bq l J Jx ab a4 hJ ax hY bb;have cg:=fun (e:Ending) (W':World)=>(∃ v,e=.returned v)/\((∃ A',J (xs.filter opV) A' W')\/∃ pre suf,pre++suf=xs.filter opV/\Jx pre W')
 refine callsIn_of_wp (F:=Fence.wide) (n:=0) Tryz.func67 xCs trivial ?_;have a8:∀ (b:Act) (W:World),(results Tryz.f67 b.tmps).run Tryz.prog W=.ok (.tuple #[]) W:=fun b W=>by
  have:Tryz.f67.results=#[]:=by kernel_rfl
  simp [results,this]
 have al:∀ (b:Act) (W:World),b.defers=[]->((∃ A',J (xs.filter opV) A' W)\/∃ pre suf,pre++suf=xs.filter opV/\Jx pre W) ->
   bodyPost Tryz.prog Tryz.f67 (fun e W'=>(∃ v,e=.returned v)/\((∃ A',J (xs.filter opV) A' W')\/∃ pre suf,pre++suf=xs.filter opV/\Jx pre W')) .ret b W:=fun b W hd h =>
  ⟨hd,_,a8 b W,⟨_,rfl⟩,h⟩
 refine wpIn_seq ?_;have ao:=hJ _ _ _ bb;have bi:SR w ⟨A,w,A,xFO,0⟩ w A xFO ⟨[.yld l,.eptr 1 [.list 9 xs] 0 0]++List.replicate 18 (.tuple []),[]⟩ { tmps:=#[.func (.yield l) #[] #[],lv]++Array.replicate (Tryz.f67.ntmps - 2) undef,defers:=[] }:=by
  have bg:Tryz.f67.ntmps=20:=by kernel_rfl
  rw [bg];refine xod ao.2 (by simp) rfl fun t ht=>?_
  have ht:t<20:=by simpa using ht
  by_cases h0:t=0
  . subst h0;have e1:(#[Value.func (.yield l) #[] #[],lv]++Array.replicate 18 undef).getD 0 undef=.func (.yield l) #[] #[]:=by simp [Array.getElem?_append]
    show Rel w A xFO ((#[Value.func (.yield l) #[] #[],lv]++Array.replicate 18 undef).getD 0 undef) (.yld l);rw [e1];exact .yld l
  by_cases h1:t=1
  . subst h1;have e1:(#[Value.func (.yield l) #[] #[],lv]++Array.replicate 18 undef).getD 1 undef=lv:=by simp [Array.getElem?_append]
    show Rel w A xFO ((#[Value.func (.yield l) #[] #[],lv]++Array.replicate 18 undef).getD 1 undef) (.eptr 1 [.list 9 xs] 0 0);rw [e1];exact bq
  have e1:(#[Value.func (.yield l) #[] #[],lv]++Array.replicate (20 - 2) undef).getD t undef=undef:=by
   have h2:¬ t<2:=by omega
   have h3:t - 2<18:=by omega
   simp [Array.getElem?_append,h2,h3]
  have e2:([AV.yld l,.eptr 1 [.list 9 xs] 0 0]++List.replicate 18 (AV.tuple [])).getD t .top=.tuple []:=by
   have key:∀ m,t<m+2->([AV.yld l,.eptr 1 [.list 9 xs] 0 0]++List.replicate m (AV.tuple [])).getD t .top=.tuple []:=fun m hm=>by
    obtain ⟨u,rfl⟩:∃ u,t=u+2:=⟨t - 2,by omega⟩
    have hu:u<m:=by omega
    simp [z7,List.getElem?_replicate,hu]
   exact key 18 ht
  show Rel w A xFO ((#[Value.func (.yield l) #[] #[],lv]++Array.replicate (20 - 2) undef).getD t undef) (([AV.yld l,.eptr 1 [.list 9 xs] 0 0]++List.replicate 18 (AV.tuple [])).getD t .top);rw [e1,e2];exact .tuple #[] [] rfl (by simp)
 refine xmT (k:=0) (by omega) ao.1 (xEp xs l) bi fun b0 W0 A0 M0 a0 ca=>?_
 have ce:Hd xs l 0 W0 A b0:=Hd.of a0 rfl ao.2 ca rfl rfl rfl rfl rfl rfl;have bk:J [] A W0:=ab _ _ _ _ bb a0.base;refine wpIn_block (wpIn_mono (Q:=fun e b W=>(e=.exit 0/\b.defers=[]/\∃ A',J (xs.filter opV) A' W)\/(e=.ret/\b.defers=[]/\∃ pre suf,pre++suf=xs.filter opV/\Jx pre W)) ?_ ?_)
 rotate_left
 . rintro e b W (⟨rfl,hd,h⟩|⟨rfl,hd,h⟩)
   . exact al b W hd (.inl h)
   . exact al b W hd (.inr h)
 refine wpIn_loop (fun b W=>∃ i:Nat,i<=xs.length/\∃ A',J ((xs.take i).filter opV) A' W/\Hd xs l i W A' b) (fun b W=>match b.tmps.getD 7 undef with|.int _ i=>xs.length - i.toNat|_=>0) ⟨0,zQ _,A,by simpa using bk,ce⟩ ?_
 rintro b W ⟨i,hi,A1,ba,hH⟩;have aj:=hJ _ _ _ ba;have cb:(match b.tmps.getD 7 undef with|.int _ i=>xs.length - i.toNat|_=>0)=xs.length - i:=by
  rw [hH.r7.int_inv];simp
 rw [cb];refine wpIn_seq ?_;refine xmT (k:=1) (by omega) aj.1 (xEq xs l i) (hH.sr aj.2) fun b1 W1 A2 M2 aw bj=>?_
 have Y:Hd xs l i W1 A1 b1:=Hd.of aw rfl aj.2 (bj.trans hH.def0) rfl rfl rfl rfl rfl rfl;have ac:J ((xs.take i).filter opV) A1 W1:=ab _ _ _ _ ba aw.base;have h8:Rel W1 A1 xFO (b1.tmps.getD 8 undef) (.bool (decide ((i:Int)<(xs.length:Int)))):=aw.pureRel rfl aj.2 (by show 8<20;omega) rfl rfl
 refine wpIn_seq ?_;refine wpIn_cond_split h8.bool_inv (fun hc=>?_) (fun hc=>?_)
 rotate_left
 ·
  have bo:i=xs.length:=by simp at hc;omega
  refine wpIn_exit (.inl ⟨rfl,Y.def0,A1,?_⟩);rw [bo,y4] at ac;exact ac
 have aa:i<xs.length:=by simpa using hc
 refine wpIn_skip ?_;have q:=hJ _ _ _ ac;have a1:xs.getD i .top=xs[i]:=by simp [z7,aa]
 obtain ⟨va,vb,vr,vc,vd,ve,vf,vg,vh,hx⟩:=b7 (xs.getD i .top) (xaZ aa);have O:(xs.take (i+1)).filter opV=(xs.take i).filter opV++(if opV (xs.getD i .top)=true then [xs.getD i .top] else []):=by
  rw [List.take_add_one,List.filter_append,a1];simp only [ze aa,Option.toList_some,List.filter_cons,List.filter_nil]
 have bv:SR W1 ⟨A1,W1,A1,xFO,0⟩ W1 A1 xFO ⟨Th8 xs l i true,[]⟩ b1:=by
  refine xod q.2 Y.size Y.def0 fun t ht=>?_
  have h8':Rel W1 A1 xFO (b1.tmps.getD 8 undef) (.bool true):=by rw [hc] at h8;exact h8
  rcases lt20 ht with rfl|rfl|rfl|rfl|rfl|rfl|rfl|rfl|rfl|rfl|rfl|rfl|rfl|rfl|rfl|rfl|rfl|rfl|rfl|rfl <;>
   first|exact Rel.top _|exact Y.r0|exact Y.r1|exact Y.r5|exact Y.r6|exact Y.r7|exact h8'
 have bt:XO (opsAt Tryz.f67 2) (opsAt Tryz.f67 2).toList (Th8 xs l i true) []=some ⟨Tv xs l i (verA va vb vr vc vd ve vf vg vh),Bv (verA va vb vr vc vd ve vf vg vh)⟩:=by
  rw [xEr];have hx':xs.getD ((i:Int).toNat) .top=verA va vb vr vc vd ve vf vg vh:=by rw [zN];exact hx
  rw [hx'];have e1:(decide ((0:Int)<=(i:Int))&&decide ((i:Int)<(xs.length:Int)))=true:=by simp [aa]
  have e2:(decide ((i:Int).toNat<xs.length)&&((verA va vb vr vc vd ve vf vg vh).cells.length==(9:Nat)&&xFG [Sh.int IntKind.i64,Sh.int IntKind.i64,Sh.list (3:Nat),Sh.int IntKind.i64,Sh.int IntKind.i64,Sh.int IntKind.i64,Sh.int IntKind.i64,Sh.int IntKind.i64,Sh.int IntKind.i64] (verA va vb vr vc vd ve vf vg vh).cells (0:Nat)))=true:=by
   rw [zN,zf];exact ⟨by simpa using aa,rfl⟩
  rw [e1,e2];rfl
 have aq:∀ (b4:Act) (W4:World) (A4:Nat->Prop),Hd xs l i W4 A4 b4->J ((xs.take (i+1)).filter opV) A4 W4->(Code.region (idOf (regAt Tryz.f67 4)) (opsAt Tryz.f67 4) false).wpIn Fence.wide 0 Tryz.prog (Exit.then (fun a' w'=>(∃ i:Nat,i<=xs.length/\∃ A',J ((xs.take i).filter opV) A' w'/\Hd xs l i w' A' a') /\
   (match a'.tmps.getD 7 undef with|.int _ i=>xs.length - i.toNat|_=>0)<xs.length - i) (fun e b W=>(e=.exit 0/\b.defers=[]/\∃ A',J (xs.filter opV) A' W)\/(e=.ret/\b.defers=[]/\∃ pre suf,pre++suf=xs.filter opV/\Jx pre W))) b4 W4:=fun b4 W4 A4 ak ae=>by
  have am:=hJ _ _ _ ae;refine xmT (k:=4) (by omega) am.1 (xEs xs l i) (ak.sr am.2) fun b5 W5 A5 M5 bc bu=>?_
  have hw:IntKind.i64.wrap ((i:Int)+1)=((i+1:Nat):Int):=by rw [xcv (by omega) (by omega)];omega
  have V:Hd xs l ((i+1:Nat):Int) W5 A4 b5:=Hd.of bc rfl am.2 (bu.trans ak.def0) rfl rfl rfl rfl rfl (by show AV.int .i64 (IntKind.i64.wrap ((i:Int)+1))=_;rw [hw])
  refine ⟨⟨i+1,aa,A4,ab _ _ _ _ ae bc.base,V⟩,?_⟩;rw [V.r7.int_inv];simp;omega
 refine wpIn_seq ?_;refine wpIn_block ?_;refine wpIn_seq ?_;refine xmT (k:=2) (by omega) q.1 bt bv fun b2 W2 A3 M3 an ay=>?_
 have ck:J ((xs.take i).filter opV) A1 W2:=ab _ _ _ _ ac an.base;refine wpIn_seq ?_;have az:∀ (b4:Act) (W4:World) (A4:Nat->Prop),Hd xs l i W4 A4 b4->J ((xs.take (i+1)).filter opV) A4 W4->b4.eval (.tmp 18)=.bool false->(Code.cond (.tmp 18) .ret .skip).wpIn Fence.wide 0 Tryz.prog (Exit.inBlock 1 (Exit.then (fun a' w'=>(Code.region (idOf (regAt Tryz.f67 4)) (opsAt Tryz.f67 4) false).wpIn Fence.wide 0 Tryz.prog (Exit.then (fun a' w'=>(∃ i:Nat,i<=xs.length/\∃ A',J ((xs.take i).filter opV) A' w'/\Hd xs l i w' A' a') /\
   (match a'.tmps.getD 7 undef with|.int _ i=>xs.length - i.toNat|_=>0)<xs.length - i) (fun e b W=>(e=.exit 0/\b.defers=[]/\∃ A',J (xs.filter opV) A' W)\/(e=.ret/\b.defers=[]/\∃ pre suf,pre++suf=xs.filter opV/\Jx pre W))) a' w')
   (Exit.then (fun a' w'=>(∃ i:Nat,i<=xs.length/\∃ A',J ((xs.take i).filter opV) A' w'/\Hd xs l i w' A' a') /\
   (match a'.tmps.getD 7 undef with|.int _ i=>xs.length - i.toNat|_=>0)<xs.length - i) (fun e b W=>(e=.exit 0/\b.defers=[]/\∃ A',J (xs.filter opV) A' W)\/(e=.ret/\b.defers=[]/\∃ pre suf,pre++suf=xs.filter opV/\Jx pre W))))) b4 W4:=fun b4 W4 A4 ak ae b8 =>
  wpIn_cond_false b8 (wpIn_skip (aq b4 W4 A4 ak ae))
 have a9:opV (verA va vb vr vc vd ve vf vg vh)=xdD va vb vr vc vd ve vf vg vh:=rfl;have cj:verA va vb vr vc vd ve vf vg vh∈xs:=by rw [<-hx];exact xaZ aa
 rw [hx,a9] at O;by_cases ho:xdD va vb vr vc vd ve vf vg vh=true
 ·
  rw [if_pos ho] at O;refine wpIn_region_list ?_;rw [xzY];have ap:xOps Tryz.prog EIt none (some true) (opsAt Tryz.f67 3) ((opsAt Tryz.f67 3).toList.take 5) ⟨Tv xs l i (verA va vb vr vc vd ve vf vg vh),Bv (verA va vb vr vc vd ve vf vg vh)⟩ some=some ⟨Tw xs l i (verA va vb vr vc vd ve vf vg vh) true,Bv (verA va vb vr vc vd ve vf vg vh)⟩:=by
   have:=xDJ xs l i va vb vr vc vd ve vf vg vh;rw [ho] at this;exact this
  refine xtG (Inv:=xGh.at 0) (ro:=none) (n:=0) (xFL Tryz.prog _) q.1 (xld xrX ap) (fun o ho=>xg8 (xup 3 (by omega)) o (List.mem_of_mem_take ho)) an fun b3 W3 A4 M4 U au cf=>?_
  have af:Hd xs l i W3 A1 b3:=Hd.of U rfl q.2 ((au.trans ay).trans Y.def0) rfl rfl rfl rfl rfl rfl;have ae:J ((xs.take i).filter opV) A1 W3:=ab _ _ _ _ ac U.base;have bh:Rel W3 A1 xFO (b3.tmps.getD 14 undef) (.yld l):=U.pureRel rfl q.2 (by show 14<20;omega) rfl rfl
  have bn:Rel W3 A1 xFO (b3.tmps.getD 15 undef) (verA va vb vr vc vd ve vf vg vh):=U.pureRel rfl q.2 (by show 15<20;omega) rfl rfl
  have bp:Rel W3 A1 xFO (b3.tmps.getD 13 undef) (.bool true):=U.pureRel rfl q.2 (by show 13<20;omega) rfl rfl
  have a7:b3.tmps.getD 14 undef=.func (.yield l) #[] #[]:=bh.yld_inv;have bf:(xs.take i).filter opV++verA va vb vr vc vd ve vf vg vh::(xs.drop (i+1)).filter opV=xs.filter opV:=by
   rw [show verA va vb vr vc vd ve vf vg vh::(xs.drop (i+1)).filter opV=[verA va vb vr vc vd ve vf vg vh]++(xs.drop (i+1)).filter opV from rfl,<-zw,<-O,<-List.filter_append,List.take_append_drop]
  obtain ⟨fn,tmps,b9,body,hy,ah⟩:=hY _ _ _ _ _ _ bf ae bn;have bz:=xgu (w:=W3) (A:=A4) (M:=M4) (ops:=opsAt Tryz.f67 3) U.size (fun j ci d _ _ bm=>U.tmps d bm) (xBa xs l i (verA va vb vr vc vd ve vf vg vh) true)
  unfold wpListIn;rw [if_pos bz];refine ⟨fun _ _=>trivial,?_⟩
  have a2:=xCr a7 rfl hy;rw [Oper.semAt_eq _ _ _ (fun c=>by rw [xzX];simp),a2,Oper.uponIn_round]
  refine ⟨fun h=>by simp [wideR,Fence.wide] at h,?_⟩
  refine RoundIn.mono (show RoundIn Fence.wide 0 Tryz.prog l fn tmps b9 body W3 _ from ah) ?_
  have be:∀ y:Bool,(b3.put (some 16) (.bool y)).tmps.getD 13 undef=.bool true:=fun y=>by
   have:(b3.put (some 16) (.bool y)).tmps.getD 13 undef=b3.tmps.getD 13 undef:=by
    simp [Act.put,zu,Array.getElem?_setIfInBounds_ne]
   rw [this,bp.bool_inv]
  have a6:∀ y:Bool,(b3.put (some 16) (.bool y)).tmps.getD 16 undef=.bool y:=fun y=>by
   have:16<b3.tmps.size:=by rw [af.size];omega
   simp [Act.put,zu,this]
  rintro e W4 (⟨rfl,A5,a3,cd,cc,bw⟩|⟨rfl,a5⟩)
  ·
   show wpListIn _ _ _ _ _ _ (b3.put itY.dst (.bool true)) W4;rw [xwM];have ai:=hJ _ _ _ a3;have V:Hd xs l i W4 A5 (b3.put (some 16) (.bool true)):=af.keep 16 _ (by omega) cd cc bw
   have Z:SR W4 ⟨A5,W4,A5,xFO,0⟩ W4 A5 xFO ⟨Ty xs l i true,[]⟩ (b3.put (some 16) (.bool true)):=by
    refine xod ai.2 V.size V.def0 fun t ht=>?_
    rcases lt20 ht with rfl|rfl|rfl|rfl|rfl|rfl|rfl|rfl|rfl|rfl|rfl|rfl|rfl|rfl|rfl|rfl|rfl|rfl|rfl|rfl <;>
     first|exact Rel.top _|exact V.r0|exact V.r1|exact V.r5|exact V.r6|exact V.r7|(rw [be];exact Rel.bool true)|(rw [a6];exact Rel.bool true)
   refine xrG (Inv:=xGh.at 0) (ro:=none) (n:=0) (xFL Tryz.prog _) ai.1 (xld xrX (xDK xs l i true)) (fun o ho=>xg8 (xup 3 (by omega)) o (List.mem_of_mem_drop ho)) Z (fun b6 W6 A6 M6 ad ar=>?_)
   . have ag:Rel W6 A5 xFO (b6.tmps.getD 18 undef) (.bool false):=ad.pureRel rfl ai.2 (by show 18<20;omega) rfl rfl
     refine az b6 W6 A5 (Hd.of ad rfl ai.2 (ar.trans V.def0) rfl rfl rfl rfl rfl rfl) ?_ ag.bool_inv;rw [O];exact ab _ _ _ _ a3 ad.base
  ·
   show wpListIn _ _ _ _ _ _ (b3.put itY.dst (.bool false)) W4;rw [xwM];have Z:SR W4 ⟨fun _=>False,W4,fun _=>False,xFO,0⟩ W4 (fun _=>False) xFO ⟨Tq false,[]⟩ (b3.put (some 16) (.bool false)):=by
    refine xod (fun _ h=>h.elim) (by simp [Act.put,af.size,Tq]) af.def0 fun t ht=>?_
    rcases lt20 ht with rfl|rfl|rfl|rfl|rfl|rfl|rfl|rfl|rfl|rfl|rfl|rfl|rfl|rfl|rfl|rfl|rfl|rfl|rfl|rfl <;>
     first|exact Rel.top _|(rw [be];exact Rel.bool true)|(rw [a6];exact Rel.bool false)
   refine xrG (Inv:=xGh.at 0) (ro:=none) (n:=0) (xFL Tryz.prog _) (ax _ _ a5) (xld xrX xDM) (fun o ho=>xg8 (xup 3 (by omega)) o (List.mem_of_mem_drop ho)) Z (fun b6 W6 A6 M6 ad ar=>?_)
   . have ag:Rel W6 (fun _=>False) xFO (b6.tmps.getD 18 undef) (.bool true):=ad.pureRel rfl (fun _ h=>h.elim) (by show 18<20;omega) rfl rfl
     refine wpIn_cond_true ag.bool_inv (wpIn_ret (.inr ⟨rfl,ar.trans af.def0,(xs.take i).filter opV++[verA va vb vr vc vd ve vf vg vh],(xs.drop (i+1)).filter opV,?_,a4 _ _ _ a5 ad.base⟩));rw [<-O,<-List.filter_append,List.take_append_drop]
 ·
  rw [if_neg ho,zD] at O;have ho':xdD va vb vr vc vd ve vf vg vh=false:=by simpa using ho
  have ap:xOps Tryz.prog EIt none (some true) (opsAt Tryz.f67 3) (opsAt Tryz.f67 3).toList ⟨Tv xs l i (verA va vb vr vc vd ve vf vg vh),Bv (verA va vb vr vc vd ve vf vg vh)⟩ some=some ⟨Tn xs l i (verA va vb vr vc vd ve vf vg vh) false,Bv (verA va vb vr vc vd ve vf vg vh)⟩:=by
   have:=xDL xs l i va vb vr vc vd ve vf vg vh;rw [ho'] at this;exact this
  refine xmT (k:=3) (by omega) q.1 ap an fun b3 W3 A4 M4 U au=>?_
  have ag:Rel W3 A1 xFO (b3.tmps.getD 18 undef) (.bool false):=U.pureRel rfl q.2 (by show 18<20;omega) rfl rfl
  refine az b3 W3 A1 (Hd.of U rfl q.2 ((au.trans ay).trans Y.def0) rfl rfl rfl rfl rfl rfl) ?_ ag.bool_inv;rw [O];exact ab _ _ _ _ ac U.base
end Go.Sim.M
namespace Go.Sim
theorem xvf {β γ:Type} {P:Program} {Inv:IV} {nt:Nat} {l:Code} {live liveO:List Nat} {conv:List (Nat×Nat×TypeId)} {pv:Pat (List AV) β} {pb:Pat (List Box) γ} {g:β->γ->Bool×LR}
  (h:∀ b c r,g b c=(true,r)->Does P Inv l (fun e1 s1=>e1=r.eval.1/\s1=⟨mkTs nt (liveO.zip r.eval.2.1),r.eval.2.2⟩) ⟨mkTs nt (live.zip (pv.enc b)),pb.enc c⟩):PieceOk P Inv nt l (lpOf live liveO conv pv pb g):=fun vals H r e=>by
 unfold lpOf at e;dsimp only at e;split at e
 . rename_i b hb;split at e
   . rename_i c hc;simp only [z6] at e;rw [pv.ok _ _ hb,pb.ok _ _ hc];exact h b c r e
   . simp at e
 . simp at e
def isRng:Code->Bool
 | .rangeFunc ..=>true
 | _=>false
theorem xqJ {P:Program} {Inv:IV} {E:Env} {c:Code} {ls:List Code} (h:xFU c=ls) (hl:∀ l,l∈ls->∀ lp,E.lp (xFP l)=some lp->LoopOk P Inv E.nt l lp) {rc:Code} {lp0:Lp} (hr:PieceOk P Inv E.nt rc lp0) (he:E.lp (condId rc)=some lp0)
  (h1:(xFQ c).filter isRng=[rc]:=by kernel_rfl) (h2:((xFQ c).all fun d=>isRng d || (E.lp (condId d)).isNone)=true:=by kernel_rfl):LoOk P Inv E c:=by
 refine ⟨fun l hm=>hl l (by rw [<-h];exact hm),fun d hd lp hs=>?_⟩
 cases hg:isRng d with
 | true =>
  have hm:d∈(xFQ c).filter isRng:=List.mem_filter.2 ⟨hd,hg⟩;rw [h1,zv] at hm;subst hm;rw [he] at hs;simp only [z6] at hs;exact hs▸hr
 | false =>
  have:=zI.1 h2 d hd;rw [hg,hs] at this;simp at this
end Go.Sim
namespace Go.Sim.M
open Go.RowKit Go.Proofs
def rangesOf:Code->List Code
 | .seq a b=>rangesOf a++rangesOf b
 | .block _ c=>rangesOf c
 | .loop c=>rangesOf c
 | .cond _ a b=>rangesOf a++rangesOf b
 | .rangeFunc g ps a b=>[.rangeFunc g ps a b]
 | _=>[]
noncomputable def rgOf (fn:Func):Code:=(rangesOf (fn.body.getD .skip)).getD 0 .skip
noncomputable def rgA:Code->Code
 | .rangeFunc _ _ a _=>a
 | _=>.skip
noncomputable def rgB:Code->Code
 | .rangeFunc _ _ _ b=>b
 | _=>.skip
def isVb:AV->Bool
 | .agg [.int .i64 _,.int .i64 _,.list 3 _,.int .i64 _,.int .i64 _,.int .i64 _,.int .i64 _,.int .i64 _,.int .i64 _]=>true
 | _=>false
theorem xu0 {x:AV} (h:isVb x=true):IsV x:=by
 unfold isVb at h;split at h
 . exact ⟨_,_,_,_,_,_,_,_,_,rfl⟩
 . simp at h
def factA:AV->AV
 | .agg [_,_,r,c,d,_,_,_,_]=>.agg [r,c,d]
 | x=>x
theorem xnV (k:AV->AV):∀ (l:List AV) (v:Nat) (ys:List AV),l.foldl (stepS (ρ:=Unit) fun (s:Nat×List AV) x=>Sum.inl (s.1+1,s.2++[k x])) (Sum.inl (v,ys))=Sum.inl (v+l.length,ys++l.map k)
 | [],v,ys=>by simp
 | x::l,v,ys=>by
  rw [List.foldl_cons];show l.foldl _ (Sum.inl (v+1,ys++[k x]))=_;rw [xnV k l (v+1) (ys++[k x])];simp only [zF,zV,zw,List.singleton_append];congr 2;omega
theorem xnZ {pre q:List AV} {x:AV} {xs:List AV} {op:AV->Bool} (h:pre++x::q=xs.filter op):x∈xs/\pre.length<xs.length:=by
 have hm:x∈xs.filter op:=by rw [<-h];simp
 have hl:=List.length_filter_le op xs;rw [<-h] at hl;simp only [z8,zF] at hl;exact ⟨(List.mem_filter.1 hm).1,by omega⟩
theorem id0:(0:Id)=.b 0:=rfl
theorem id1:(1:Id)=.b 1:=rfl
theorem id2:(2:Id)=.b 2:=rfl
theorem id3:(3:Id)=.b 3:=rfl
theorem id4:(4:Id)=.b 4:=rfl
noncomputable abbrev xyf:Env:=xip.E.fn 18 2 (lsOf []) (xFX [])
theorem xEk:xFB Tryz.prog ⟨(xGh).inv,2,false⟩ xyf:=⟨fun g a r h=>xip.ok.1 g a r h,fun g a H r H' h=>xip.ok.2 g a H r H' h⟩
noncomputable abbrev xyg (xs:List AV):List AV:=mkTs 18 [(3,.own 0 0 0 0),(6,.func 67 [.eptr 1 [.list 9 xs] 0 0])]
def xuv (s:Nat×List AV):List Box:=[⟨0,1,26,[.osl 1 s.1 0 s.2.length],false,false⟩,⟨s.1,3,60,s.2,false,true⟩]
theorem xEB (xs ys:List AV) (v n:Nat) (a b:Int) (r:List AV) (c d e f g h:Int):XB Tryz.prog xyf (rgA (rgOf Tryz.f12)) (rgB (rgOf Tryz.f12)) ((xyg xs).set 7 (verA a b r c d e f g h)) [⟨0,1,26,[.osl 1 v 0 n],false,false⟩,⟨v,3,60,ys,false,true⟩] =
 br (v==v&&(n==ys.length&&(decide ((n+1)*40<=140737488355328)&&decide (n+1<=4611686018427387904)))) (some (.normal,[⟨0,1,26,[.osl 1 (v+1) 0 (n+1)],false,false⟩,⟨v+1,3,60,ys++[.agg [.list 3 r,.int .i64 c,.int .i64 d]],false,true⟩])) none:=by kernel_rfl
theorem xEi:LoOk Tryz.prog ⟨(xGh).inv,2,false⟩ xyf (rgA (rgOf Tryz.f12)):=xer (by kernel_rfl)
theorem xEj:LoOk Tryz.prog ⟨(xGh).inv,2,false⟩ xyf (rgB (rgOf Tryz.f12)):=xer (by kernel_rfl)
theorem xB5:rgOf Tryz.f12=.rangeFunc (.tmp 6) #[7] (rgA (rgOf Tryz.f12)) (rgB (rgOf Tryz.f12)):=by kernel_rfl
theorem xEA (xs:List AV) (s:Nat×List AV):normS 0 [] [3] ⟨xyg xs,xuv s⟩=some ([.own 0 0 0 0],[⟨0,1,26,[.osl 1 0 0 s.2.length],false,false⟩,⟨0,3,60,s.2,false,true⟩]):=by
 obtain ⟨v,ys⟩:=s;have hb:Nat.beq v v=true:=Nat.beq_refl v;simp [normS,normH,normF,convs,xGa,xGg,renOk,xF2,rens,ren,renI,gather,refsOf,refsOf.refsL,xFW,xyg,xuv,mkTs,liveOf,pinsOk,nodupB,hb,id0,id1,id2,id3,id4,Id.base,Nat.beq,Nat.blt,Nat.ble]
def rfOk (k:Nat) (xs ys:List AV):Bool:=xs.all isVb&&decide ((ys.length+xs.length)*k<=140737488355328)
noncomputable def xg7:Lp:=lpOf [3,6] [3] [(3,3,60)] (xGi (xGv 0 0 0 0) (xGi (xFY 67 (xGi (pEptr 1 0 0 (xGi (xGB 9 xGm) xGk)) xGk)) xGk)) (xGi (xGy 0 1 26 false false (xGi (xGu 1 0 0) xGk)) (xGi (xGy 0 3 60 false true xGm) xGk))
 fun (_,(((xs,_),_),_)) ((n,_),(ys,_))=>(Nat.beq n ys.length&&rfOk 40 xs ys,.leaf .normal [.own 0 0 0 0] [⟨0,1,26,[.osl 1 0 0 (ys++(xs.filter opV).map factA).length],false,false⟩,⟨0,3,60,ys++(xs.filter opV).map factA,false,true⟩])
theorem xoo:PieceOk Tryz.prog (xGh.at 0) 18 (rgOf Tryz.f12) xg7:=xvf fun vv bb rr hh=>by
 obtain ⟨_,⟨⟨xs,_⟩,_⟩,_⟩:=vv;obtain ⟨⟨n,_⟩,⟨ys,_⟩⟩:=bb;obtain ⟨h1,rfl⟩:=Prod.mk.inj hh;simp only [rfOk,zf,zl] at h1;obtain ⟨hn,hv,hb⟩:=h1;obtain rfl:=zg hn;have hV:∀ x,x∈xs->IsV x:=fun x hx=>xu0 (zI.1 hv x hx)
 rw [xB5];refine xrT (xbt (xqv (Inv:=xGh.at 0) (xFL Tryz.prog _) rfl (xs:=xs) (op:=opV) (T:=xyg xs) (n:=2) (σ:=Nat×List AV) (ρ:=Unit) xuv (fun _=>[]) (fun s x=>.inl (s.1+1,s.2++[factA x])) (fun _=>rfl) (s0:=(0,ys)) (xoF xs hV (by omega)) rfl rfl ?_) ?_)
 . intro pre s x O J hf;obtain ⟨hx,hl⟩:=xnZ J;rw [xnV] at hf;simp only [Sum.inl.injEq] at hf;obtain ⟨a,b,r,c,d,e,f,g,h,rfl⟩:=hV x hx;have Q:s.2.length=ys.length+pre.length:=by rw [<-hf];simp
   have hc:(s.1==s.1&&(s.2.length==s.2.length&&(decide ((s.2.length+1)*40<=140737488355328)&&decide (s.2.length+1<=4611686018427387904))))=true:=by
    simp only [beq_self_eq_true,Bool.true_and,zf,zl];omega
   have q:=xEB xs s.2 s.1 s.2.length a b r c d e f g h;rw [hc] at q;refine xbt (xqH xFK (xFL Tryz.prog _) rfl xEk xEi xEj q) fun e1 s1 ⟨g1,g2⟩=>⟨g1,xbt g2 fun e2 s2 ⟨k1,T',k2⟩=>⟨k1,T',?_⟩⟩
   have:xuv (s.1+1,s.2++[factA (verA a b r c d e f g h)])=[⟨0,1,26,[.osl 1 (s.1+1) 0 (s.2.length+1)],false,false⟩,⟨s.1+1,3,60,s.2++[.agg [.list 3 r,.int .i64 c,.int .i64 d]],false,true⟩]:=by
    simp [xuv,factA,verA]
   rw [this];exact k2
 . intro e1 s1 hq;rw [xnV] at hq;obtain ⟨rfl,rfl⟩:=hq;exact ⟨_,xhx (xEA xs _),rfl,rfl⟩
noncomputable abbrev xyh:Env:=xip.E.fn 16 3 (lsOf []) (xFX [])
theorem xBV:xFB Tryz.prog ⟨(xGh).inv,3,false⟩ xyh:=⟨fun g a r h=>xip.ok.1 g a r h,fun g a H r H' h=>xip.ok.2 g a H r H' h⟩
noncomputable abbrev xAP (xs:List AV):List AV:=mkTs 16 [(3,.own 0 0 0 0),(4,.own 1 0 0 0),(5,.own 2 0 0 0),(8,.func 67 [.eptr 1 [.list 9 xs] 0 0])]
def xsX (id:Int) (z:AV) (t:Bool):List Box:=[⟨0,1,3,[.int .i64 id],false,true⟩,⟨0,9,58,[z],false,true⟩,⟨0,1,4,[.bool t],false,true⟩]
theorem xEC (xs:List AV) (id:Int) (z:AV) (t:Bool) (a b:Int) (r:List AV) (c d e f g h:Int):XB Tryz.prog xyh (rgA (rgOf Tryz.f78)) (rgB (rgOf Tryz.f78)) ((xAP xs).set 9 (verA a b r c d e f g h)) (xsX id z t) =
 br (a==id) (some (.ret,xsX id (verA a b r c d e f g h) true)) (some (.normal,xsX id z t)):=by kernel_rfl
theorem xBT:LoOk Tryz.prog ⟨(xGh).inv,3,false⟩ xyh (rgA (rgOf Tryz.f78)):=xer (by kernel_rfl)
theorem xBU:LoOk Tryz.prog ⟨(xGh).inv,3,false⟩ xyh (rgB (rgOf Tryz.f78)):=xer (by kernel_rfl)
theorem xB6:rgOf Tryz.f78=.rangeFunc (.tmp 8) #[9] (rgA (rgOf Tryz.f78)) (rgB (rgOf Tryz.f78)):=by kernel_rfl
theorem xDp (xs:List AV) (id:Int) (z:AV) (t:Bool):normS 0 [] [4,5] ⟨xAP xs,xsX id z t⟩=some ([.own 0 0 0 0,.own 1 0 0 0],[⟨0,9,58,[z],false,true⟩,⟨0,1,4,[.bool t],false,true⟩]):=by kernel_rfl
def idA:AV->Int
 | .agg [.int _ a,_,_,_,_,_,_,_,_]=>a
 | _=>0
noncomputable def findA (id:Int) (xs:List AV):Option AV:=(xs.filter opV).find? fun x=>idA x==id
theorem xtt (id:Int):∀ l:List AV,l.foldl (stepS fun (_:Unit) x=>br (idA x==id) (Sum.inr x) (.inl ())) (.inl ())=match l.find? fun x=>idA x==id with|some x=>.inr x|none=>.inl ()
 | []=>rfl
 | x::l=>by
  rw [List.foldl_cons,List.find?_cons];show l.foldl _ (br (idA x==id) (Sum.inr x) (.inl ()))=_;cases h:idA x==id with
  | true=>exact xqy _ _ _
  | false=>exact xtt id l
def exA (x:AV):AV:=.agg [.int .i64 (x.cells.getD 0 .top).toInt,.int .i64 (x.cells.getD 1 .top).toInt,.list 3 (x.cells.getD 2 .top).toList,.int .i64 (x.cells.getD 3 .top).toInt,.int .i64 (x.cells.getD 4 .top).toInt,.int .i64 (x.cells.getD 5 .top).toInt,.int .i64 (x.cells.getD 6 .top).toInt,.int .i64 (x.cells.getD 7 .top).toInt,.int .i64 (x.cells.getD 8 .top).toInt]
theorem xEo {x:AV} (h:IsV x):exA x=x:=by
 obtain ⟨a,b,r,c,d,e,f,g,i,rfl⟩:=h;rfl
noncomputable def xnf:Lp:=lpOf [3,4,5,8] [4,5] [] (xGi (xGv 0 0 0 0) (xGi (xGv 1 0 0 0) (xGi (xGv 2 0 0 0) (xGi (xFY 67 (xGi (pEptr 1 0 0 (xGi (xGB 9 xGm) xGk)) xGk)) xGk)))) (xGi (xGy 0 1 3 false true (xGi (pInt .i64) xGk)) (xGi (xGy 0 9 58 false true (xGi xGm xGk)) (xGi (xGy 0 1 4 false true (xGi pBool xGk)) xGk)))
 fun (_,(_,(_,(((xs,_),_),_)))) ((id,_),((z,_),((t,_),_)))=>(xs.all isVb&&decide (xs.length<4611686018427387904),
  .node (findA id xs).isSome (.leaf .ret [.own 0 0 0 0,.own 1 0 0 0] [⟨0,9,58,[exA ((findA id xs).getD .top)],false,true⟩,⟨0,1,4,[.bool true],false,true⟩]) (.leaf .normal [.own 0 0 0 0,.own 1 0 0 0] [⟨0,9,58,[z],false,true⟩,⟨0,1,4,[.bool t],false,true⟩]))
theorem xs6:PieceOk Tryz.prog (xGh.at 0) 16 (rgOf Tryz.f78) xnf:=xvf fun vv bb rr hh=>by
 obtain ⟨_,_,_,⟨⟨xs,_⟩,_⟩,_⟩:=vv;obtain ⟨⟨id,_⟩,⟨z,_⟩,⟨t,_⟩,_⟩:=bb;obtain ⟨h1,rfl⟩:=Prod.mk.inj hh;simp only [zf,zl] at h1;have hV:∀ x,x∈xs->IsV x:=fun x hx=>xu0 (zI.1 h1.1 x hx)
 rw [xB6];refine xrT (xbt (xqv (Inv:=xGh.at 0) (xFL Tryz.prog _) rfl (xs:=xs) (op:=opV) (T:=xAP xs) (n:=3) (σ:=Unit) (ρ:=AV) (fun _=>xsX id z t) (fun x=>xsX id x true) (fun _ x=>br (idA x==id) (.inr x) (.inl ())) (fun _=>rfl) (s0:=()) (xoF xs hV h1.2) rfl rfl ?_) ?_)
 . intro pre s x U J hf;obtain ⟨hx,hl⟩:=xnZ J;obtain ⟨a,b,r,c,d,e,f,g,h,rfl⟩:=hV x hx;have q:=xEC xs id z t a b r c d e f g h;have O:idA (verA a b r c d e f g h)=a:=rfl;rw [O];cases hc:a==id with
   | true =>
    rw [hc] at q;exact xbt (xqH xFK (xFL Tryz.prog _) rfl xBV xBT xBU q) fun e1 s1 ⟨g1,g2⟩=>⟨g1,xbt g2 fun e2 s2 ⟨k1,T',k2⟩=>⟨k1,T',k2⟩⟩
   | false =>
    rw [hc] at q;exact xbt (xqH xFK (xFL Tryz.prog _) rfl xBV xBT xBU q) fun e1 s1 ⟨g1,g2⟩=>⟨g1,xbt g2 fun e2 s2 ⟨k1,T',k2⟩=>⟨k1,T',k2⟩⟩
 . intro e1 s1 hq;rw [xtt] at hq;unfold findA;cases hf:(xs.filter opV).find? (fun x=>idA x==id) with
   | some x =>
    rw [hf] at hq;obtain ⟨rfl,rfl⟩:=hq;have Q:exA ((some x).getD .top)=x:=xEo (hV x (List.mem_filter.1 (List.mem_of_find?_eq_some hf)).1);refine ⟨_,xhx (xDp xs id x true),rfl,?_⟩;simp only [LR.eval,Q,zk];rfl
   | none =>
    rw [hf] at hq;obtain ⟨rfl,rfl⟩:=hq;exact ⟨_,xhx (xDp xs id z t),rfl,rfl⟩
noncomputable abbrev xyi:Env:=xip.E.fn 67 5 (lsOf []) (xFX [])
theorem xEn:xFB Tryz.prog ⟨(xGh).inv,5,false⟩ xyi:=⟨fun g a r h=>xip.ok.1 g a r h,fun g a H r H' h=>xip.ok.2 g a H r H' h⟩
noncomputable abbrev xyj (xs:List AV):List AV:=mkTs 67 [(6,.own 0 0 0 0),(7,.own 1 0 0 0),(8,.func 47 [.own 0 0 0 0,.own 1 0 0 0]),(9,.own 2 0 0 0),(24,.func 67 [.eptr 1 [.list 9 xs] 0 0])]
def xrs (nx bs:List AV) (m:Nat) (s:Nat×List AV):List Box:=[⟨0,1,26,[.list 3 nx],false,true⟩,⟨0,1,75,[.osl 3 0 0 m],false,false⟩,⟨0,1,22,[.osl 4 s.1 0 s.2.length],false,false⟩,⟨0,1,4,bs,false,true⟩,⟨s.1,9,58,s.2,false,true⟩]
theorem xEE (xs nx bs ys:List AV) (m v n:Nat) (a b:Int) (r:List AV) (c d e f g h:Int):XB Tryz.prog xyi (rgA (rgOf Tryz.f18)) (rgB (rgOf Tryz.f18)) ((xyj xs).set 25 (verA a b r c d e f g h)) [⟨0,1,26,[.list 3 nx],false,true⟩,⟨0,1,75,[.osl 3 0 0 m],false,false⟩,⟨0,1,22,[.osl 4 v 0 n],false,false⟩,⟨0,1,4,bs,false,true⟩,⟨v,9,58,ys,false,true⟩] =
 br (v==v&&(n==ys.length&&(decide ((n+1)*88<=140737488355328)&&decide (n+1<=4611686018427387904)))) (some (.normal,[⟨0,1,26,[.list 3 nx],false,true⟩,⟨0,1,75,[.osl 3 0 0 m],false,false⟩,⟨0,1,22,[.osl 4 (v+1) 0 (n+1)],false,false⟩,⟨0,1,4,bs,false,true⟩,⟨v+1,9,58,ys++[verA a b r c d e f g h],false,true⟩])) none:=by kernel_rfl
theorem xEl:LoOk Tryz.prog ⟨(xGh).inv,5,false⟩ xyi (rgA (rgOf Tryz.f18)):=xer (by kernel_rfl)
theorem xEm:LoOk Tryz.prog ⟨(xGh).inv,5,false⟩ xyi (rgB (rgOf Tryz.f18)):=xer (by kernel_rfl)
theorem xB7:rgOf Tryz.f18=.rangeFunc (.tmp 24) #[25] (rgA (rgOf Tryz.f18)) (rgB (rgOf Tryz.f18)):=by kernel_rfl
theorem xED (xs nx bs:List AV) (m:Nat) (s:Nat×List AV):normS 0 [] [6,7,8,9] ⟨xyj xs,xrs nx bs m s⟩=some ([.own 0 0 0 0,.own 1 0 0 0,.func 47 [.own 0 0 0 0,.own 1 0 0 0],.own 2 0 0 0],xrs nx bs m (0,s.2)):=by
 obtain ⟨v,ys⟩:=s;have hb:Nat.beq v v=true:=Nat.beq_refl v;simp [normS,normH,normF,convs,xGa,xGg,renOk,xF2,rens,ren,renI,gather,refsOf,refsOf.refsL,xFW,xyj,xrs,mkTs,liveOf,pinsOk,nodupB,hb,id0,id1,id2,id3,id4,Id.base,Nat.beq,Nat.blt,Nat.ble]
noncomputable def xko:Lp:=lpOf [6,7,8,9,24] [6,7,8,9] [(9,9,58)] (xGi (xGv 0 0 0 0) (xGi (xGv 1 0 0 0) (xGi (xFY 47 (xGi (xGv 0 0 0 0) (xGi (xGv 1 0 0 0) xGk))) (xGi (xGv 2 0 0 0) (xGi (xFY 67 (xGi (pEptr 1 0 0 (xGi (xGB 9 xGm) xGk)) xGk)) xGk)))))
  (xGi (xGy 0 1 26 false true (xGi (xGB 3 xGm) xGk)) (xGi (xGy 0 1 75 false false (xGi (xGu 3 0 0) xGk)) (xGi (xGy 0 1 22 false false (xGi (xGu 4 0 0) xGk)) (xGi (xGy 0 1 4 false true xGm) (xGi (xGy 0 9 58 false true xGm) xGk)))))
 fun (_,(_,(_,(_,(((xs,_),_),_))))) ((nx,_),((m,_),((n,_),(bs,(ys,_)))))=>(Nat.beq n ys.length&&rfOk 88 xs ys,
  .leaf .normal [.own 0 0 0 0,.own 1 0 0 0,.func 47 [.own 0 0 0 0,.own 1 0 0 0],.own 2 0 0 0] (xrs nx bs m (0,ys++xs.filter opV)))
theorem xqQ:PieceOk Tryz.prog (xGh.at 0) 67 (rgOf Tryz.f18) xko:=xvf fun vv bb rr hh=>by
 obtain ⟨_,_,_,_,⟨⟨xs,_⟩,_⟩,_⟩:=vv;obtain ⟨⟨nx,_⟩,⟨m,_⟩,⟨n,_⟩,bs,ys,_⟩:=bb;obtain ⟨h1,rfl⟩:=Prod.mk.inj hh;simp only [rfOk,zf,zl] at h1;obtain ⟨hn,hv,hb⟩:=h1;obtain rfl:=zg hn;have hV:∀ x,x∈xs->IsV x:=fun x hx=>xu0 (zI.1 hv x hx)
 rw [xB7];refine xrT (xbt (xqv (Inv:=xGh.at 0) (xFL Tryz.prog _) rfl (xs:=xs) (op:=opV) (T:=xyj xs) (n:=5) (σ:=Nat×List AV) (ρ:=Unit) (xrs nx bs m) (fun _=>[]) (fun s x=>.inl (s.1+1,s.2++[id x])) (fun _=>rfl) (s0:=(0,ys)) (xoF xs hV (by omega)) rfl rfl ?_) ?_)
 . intro pre s x O J hf;obtain ⟨hx,hl⟩:=xnZ J;rw [xnV] at hf;simp only [Sum.inl.injEq] at hf;obtain ⟨a,b,r,c,d,e,f,g,h,rfl⟩:=hV x hx;have Q:s.2.length=ys.length+pre.length:=by rw [<-hf];simp
   have hc:(s.1==s.1&&(s.2.length==s.2.length&&(decide ((s.2.length+1)*88<=140737488355328)&&decide (s.2.length+1<=4611686018427387904))))=true:=by
    simp only [beq_self_eq_true,Bool.true_and,zf,zl];omega
   have q:=xEE xs nx bs s.2 m s.1 s.2.length a b r c d e f g h;rw [hc] at q;refine xbt (xqH xFK (xFL Tryz.prog _) rfl xEn xEl xEm q) fun e1 s1 ⟨g1,g2⟩=>⟨g1,xbt g2 fun e2 s2 ⟨k1,T',k2⟩=>⟨k1,T',?_⟩⟩
   have:xrs nx bs m (s.1+1,s.2++[id (verA a b r c d e f g h)])=[⟨0,1,26,[.list 3 nx],false,true⟩,⟨0,1,75,[.osl 3 0 0 m],false,false⟩,⟨0,1,22,[.osl 4 (s.1+1) 0 (s.2.length+1)],false,false⟩,⟨0,1,4,bs,false,true⟩,⟨s.1+1,9,58,s.2++[verA a b r c d e f g h],false,true⟩]:=by
    simp [xrs]
   rw [this];exact k2
 . intro e1 s1 hq;rw [xnV] at hq;obtain ⟨rfl,rfl⟩:=hq;refine ⟨_,xhx (xED xs nx bs m _),rfl,?_⟩;simp [LR.eval];rfl
end Go.Sim.M
namespace Go.Sim.M
open Go.IntKind (i64 u64 u8)
open Go.RowKit Go.Proofs
def xfp:Env:=xip.E.fn 18 0 (lsOf []) (xFX [(3000004,xg7)])
theorem xqU:xFB P0 (xGh.at 0) xfp:=xip.ok.fn
theorem xpW:LoOk P0 (xGh.at xfp.pin) xfp (Tryz.f12.body.getD .skip):=xqJ (ls:=[]) (by kernel_rfl) (fun l a=>by simp at a) (lp0:=xg7) xoo (by kernel_rfl)
def xl7 (l:LA):=xiw (List.take ([]++List.map factA (List.filter opV (xd3 l))).length (List.drop 0 ([]++List.map factA (List.filter opV (xd3 l)))))
def xjW {T:Type} (l:LA) (δ:T) (κ:LA->T):T:=br (rfOk 40 (xd3 l) []) (br (decide (0+([]++List.map factA (List.filter opV (xd3 l))).length<=([]++List.map factA (List.filter opV (xd3 l))).length)&&true) (br ((xl7 l).isSome) (κ ((xl7 l).getD [])) δ) δ) δ
def xeF (l:LA):=xjW l none some
theorem xua (l:LA):Enc (fun (p:LA)=>((AV.list 3 p):AV)) (xeF l) (XF P0 xfp Tryz.f12 (Tryz.f12.body.getD .skip) [AV.list 9 l]):=by
 have h:XF P0 xfp Tryz.f12 (Tryz.f12.body.getD .skip) [AV.list 9 l]=xjW l none (fun (p:LA)=>some ((AV.list 3 p):AV)):=by kernel_rfl
 rw [h];unfold xeF xjW;repeat' (first|refine Enc.br ?_ ?_|exact Enc.none|exact Enc.some rfl)
def xt9:LA->Option (Bool×AV):=ocOf (xGj (xGz 9 xGm) xGl) fun (l,_)=>((xeF l).isSome,(AV.list 3 ((xeF l).getD [])))
theorem xt8:OcOk P0 xGh 12 (xt9):=xkL fun c f e=>by
 obtain ⟨l,_⟩:=c;obtain ⟨a,b⟩:=Prod.mk.inj e;refine xhV (p:=xfp.pin) (xkJ xFK (xFL P0 _) rfl xqU Tryz.func12 rfl (by kernel_rfl) xpW ((xua _ _ (xcl (d:=[]) a)).trans ?_))
 exact congrArg some b
def xDc:EO:=xip.w xt8
def xmI (d e:Int) (i:LA) (g h f b c a:Int):Bool:=(br (decide (d>=1)) (br (decide (c>=1)) (br (decide (e>=0)) (br (decide (a>=0)) (br (xbs g h) (br (xbs f b) (br (a==0) ((true)) (br (decide (a>c)) ((b != 1099511627776)) ((false)))) ((false))) ((false))) ((false))) ((false))) ((false))) ((false)))
def xub {T:Type} (d e:Int) (i:LA) (g h f b c a:Int) (δ:T) (κ:Bool->T):T:=br (decide (d>=1)) (br (decide (c>=1)) (br (decide (e>=0)) (br (decide (a>=0)) (br (xbs g h) (br (xbs f b) (br (a==0) (κ (true)) (br (decide (a>c)) (κ (b != 1099511627776)) (κ (false)))) (κ (false))) (κ (false))) (κ (false))) (κ (false))) (κ (false))) (κ (false))
def xDd:EO:=xDc.fT Tryz.func40 49 0 [] [] lk0 (fun ((a,b,g,h,i,c,d,e,f,_),_)=>xub a b g h i c d e f none) (u1 (xGA (xGj uI (xGj uI (u7 (uL 3) uI uI uI uI uI uI))))) (fun ((a,b,g,h,i,c,d,e,f,_),_)=>xmI a b g h i c d e f) (fun _ p=>(AV.bool p))
def xk6 (a g:Int) (o:LA) (e p b h i j c k:Int) (q:LA) (f r d l m n:Int):Bool:=((decide (xjK (xbp a c) (xbp b d) (xbp e f)<0)))
def xs5 {T:Type} (a g:Int) (o:LA) (e p b h i j c k:Int) (q:LA) (f r d l m n:Int) (δ:T) (κ:Bool->T):T:=κ (decide (xjK (xbp a c) (xbp b d) (xbp e f)<0))
def xze:EO:=xDd.fT Tryz.func41 27 0 [] [] lk0 (fun ((a,b,m,n,o,c,d,e,f,_),(g,h,q,r,s,i,j,k,l,_),_)=>xs5 a b m n o c d e f g h q r s i j k l none) (u2 (xGA (xGj uI (xGj uI (u7 (uL 3) uI uI uI uI uI uI)))) (xGA (xGj uI (xGj uI (u7 (uL 3) uI uI uI uI uI uI))))) (fun ((a,b,m,n,o,c,d,e,f,_),(g,h,q,r,s,i,j,k,l,_),_)=>xk6 a b m n o c d e f g h q r s i j k l) (fun _ p=>(AV.bool p))
def xg5 {T:Type} (b c:LA) (d a:Int) (δ:T) (κl:(Int)->T) (κr:(Bool×(Bool)×(Unit))->T):T:=br (decide (a<d)) (br (ixI b a) (br (ixT b a 3 [Sh.int .i64,Sh.int .i64,Sh.str] 0) (br (ixI c a) (br (ixT c a 3 [Sh.int .i64,Sh.int .i64,Sh.str] 0) (br (!((gC b a 0).toInt==(gC c a 0).toInt&&((gC b a 1).toInt==(gC c a 1).toInt&&((gC b a 2).toStr==(gC c a 2).toStr&&true)))) (κr (true,(false),())) (κl (i64.wrap (a+1)))) δ) δ) δ) δ) (κr (false,false,()))
def xce (c d:LA) (a:Int):StT (Int) (Bool×(Bool)×(Unit)):=fun (b)=>xg5 c d a b none inL inR
def xnb:=xze.l 26 0 [] [] Tryz.f74 0 lk0 [0,1,12,13] [4] [] (q4 (qL 3) (qL 3) qI qI) xGk (fun (c,d,a,b,_) _=>(xce c d a,(b),fun p=>(.node p.1 (.leaf .ret [AV.bool p.2.1] []) (.leaf (.exit 0) [.top] [])))) (false,false,()) fun (c,d,a,_,_) _ (b)=>(((c,d,a,b,()),()),xg5 c d a b none)
def xmB {T:Type} (a b:LA) (δ:T) (κ:Bool->T):T:=br ((↑a.length:Int) != (↑b.length:Int)) (κ (false)) (br ((Iter (xce a b (↑a.length:Int)) 0).isSome) (br (((Iter (xce a b (↑a.length:Int)) 0).getD (false,false,())).fst) (κ (((Iter (xce a b (↑a.length:Int)) 0).getD (false,false,())).snd.fst)) (κ (true))) δ)
def xlN (a b:LA):=xmB a b none some
def xDe:EO:=xze.f Tryz.func74 26 0 [] [(4,xnb.lp)] (lk1 xnb.ok) (u2 (uL 3) (uL 3)) (fun (a,b,_) _=>xmB a b) (fun _ p=>AV.bool p) false
def xl8 {T:Type} (i c:Int) (a:LA) (o p j k d e l f:Int) (b:LA) (q r m n g h:Int) (δ:T) (κ:Bool->T):T:=br (c==f) (br (d==g) (br (e==h) (br ((xlN a b).isSome) (κ ((xlN a b).getD false)) δ) (κ (false))) (κ (false))) (κ (false))
def xnS (a b:Int) (m:LA) (n o c d e f g h:Int) (p:LA) (q r i j k l:Int):=xl8 a b m n o c d e f g h p q r i j k l none some
def xDf:EO:=xDe.f Tryz.func42 31 0 [] [] lk0 (u2 (xGA (xGj uI (xGj uI (u7 (uL 3) uI uI uI uI uI uI)))) (xGA (xGj uI (xGj uI (u7 (uL 3) uI uI uI uI uI uI))))) (fun ((a,b,n,o,q,c,d,e,g,_),(h,i,r,s,t,j,k,l,m,_),_) _=>xl8 a b n o q c d e g h i r s t j k l m) (fun _ p=>AV.bool p) false
def xfZ (a b c d:Int):Bool:=(br (xbs a b) (br (xbs c d) (br (decide (a<d)) ((decide (c<b))) ((false))) ((false))) ((false)))
def xqV {T:Type} (a b c d:Int) (δ:T) (κ:Bool->T):T:=br (xbs a b) (br (xbs c d) (br (decide (a<d)) (κ (decide (c<b))) (κ (false))) (κ (false))) (κ (false))
def xrZ:EO:=xDf.fT Tryz.func43 25 0 [] [] lk0 (fun ((a,b,_),(c,d,_),_)=>xqV a b c d none) (u2 (xGA (u2 uI uI)) (xGA (u2 uI uI))) (fun ((a,b,_),(c,d,_),_)=>xfZ a b c d) (fun _ p=>(AV.bool p))
def xaM (l:LA) (a:Int):=(l.getD (i64.wrap (a - 1)).toNat .top).cells
def xgL (l b:LA) (a:Int):=xnS ((xaM l a).getD 0 .top).toInt ((xaM l a).getD 1 .top).toInt ((xaM l a).getD 2 .top).toList ((xaM l a).getD 3 .top).toInt ((xaM l a).getD 4 .top).toInt ((xaM l a).getD 5 .top).toInt ((xaM l a).getD 6 .top).toInt ((xaM l a).getD 7 .top).toInt ((xaM l a).getD 8 .top).toInt (gC b a 0).toInt (gC b a 1).toInt (gC b a 2).toList (gC b a 3).toInt (gC b a 4).toInt (gC b a 5).toInt (gC b a 6).toInt (gC b a 7).toInt (gC b a 8).toInt
def xft {T:Type} (l b:LA) (c a:Int) (δ:T) (κl:(Int)->T) (κr:(Bool×(Int)×(Unit))->T):T:=br (decide (a<c)) (br (ixI b a) (br (ixT b a 9 [Sh.int .i64,Sh.int .i64,Sh.list 3,Sh.int .i64,Sh.int .i64,Sh.int .i64,Sh.int .i64,Sh.int .i64,Sh.int .i64] 0) (br (!xmI (gC b a 0).toInt (gC b a 1).toInt (gC b a 2).toList (gC b a 3).toInt (gC b a 4).toInt (gC b a 5).toInt (gC b a 6).toInt (gC b a 7).toInt (gC b a 8).toInt) (κr (true,(8),())) (br (a==0) (κl (i64.wrap (a+1))) (br (decide (0<=i64.wrap (a - 1))&&decide (i64.wrap (a - 1)<(↑l.length:Int))) (br (decide ((i64.wrap (a - 1)).toNat<l.length)&&((xaM l a).length==9&&xFG [Sh.int .i64,Sh.int .i64,Sh.list 3,Sh.int .i64,Sh.int .i64,Sh.int .i64,Sh.int .i64,Sh.int .i64,Sh.int .i64] (xaM l a) 0)) (br (!xk6 ((xaM l a).getD 0 .top).toInt ((xaM l a).getD 1 .top).toInt ((xaM l a).getD 2 .top).toList ((xaM l a).getD 3 .top).toInt ((xaM l a).getD 4 .top).toInt ((xaM l a).getD 5 .top).toInt ((xaM l a).getD 6 .top).toInt ((xaM l a).getD 7 .top).toInt ((xaM l a).getD 8 .top).toInt (gC b a 0).toInt (gC b a 1).toInt (gC b a 2).toList (gC b a 3).toInt (gC b a 4).toInt (gC b a 5).toInt (gC b a 6).toInt (gC b a 7).toInt (gC b a 8).toInt) (κr (true,(9),())) (br (decide (((xaM l a).getD 7 .top).toInt>(gC b a 7).toInt)) (κr (true,(24),())) (br (((xaM l a).getD 0 .top).toInt==(gC b a 0).toInt) (br ((xgL l b a).isSome) (br (!(xgL l b a).getD false) (κr (true,(24),())) (κl (i64.wrap (a+1)))) δ) (κl (i64.wrap (a+1)))))) δ) δ))) δ) δ) (κr (false,0,()))
def xbw (l a:LA) (b:Int):StT (Int) (Bool×(Int)×(Unit)):=fun (c)=>xft l a b c none inL inR
def xgK:=xrZ.l 85 0 [] [] Tryz.f14 0 lk0 [0,10,11,12] [0,2] [] (q4 (qL 9) (qL 9) qI qI) xGk (fun (l,a,b,c,_) _=>(xbw l a b,(c),fun p=>(.node p.1 (.leaf .ret [AV.list 9 l,AV.int .i64 p.2.1] []) (.leaf (.exit 0) [AV.list 9 l,.top] [])))) (false,0,()) fun (l,a,b,_,_) _ (c)=>(((l,a,b,c,()),()),xft l a b c none)
def xhT {T:Type} (l n:LA) (o p:Int) (b:LA) (m a c h:Int) (i:LA) (d e f g j k:Int) (δ:T) (κl:(Int×Int×Int×LA×Int×Int×Int×Int×Int×Int)->T) (κr:(Bool×(Unit)×(Int))->T):T:=br (decide (a<m)) (br (ixI b a) (br (ixT b a 9 [Sh.int .i64,Sh.int .i64,Sh.list 3,Sh.int .i64,Sh.int .i64,Sh.int .i64,Sh.int .i64,Sh.int .i64,Sh.int .i64] 0) (br ((gC b a 0).toInt != c) (κr (true,(),0)) (br (xfZ d e (gC b a 3).toInt (gC b a 4).toInt) (br (xfZ f g (gC b a 5).toInt (gC b a 6).toInt) (κr (false,(),(24))) (κl (i64.wrap (a+1),c,h,i,d,e,f,g,j,k))) (κl (i64.wrap (a+1),c,h,i,d,e,f,g,j,k)))) δ) δ) (κr (true,(),0))
def xdm (l a:LA) (b c:Int) (d:LA) (e:Int):StT (Int×Int×Int×LA×Int×Int×Int×Int×Int×Int) (Bool×(Unit)×(Int)):=fun (f,g,h,i,j,k,m,n,o,p)=>xhT l a b c d e f g h i j k m n o p none inL inR
def xgN:=xrZ.l 85 0 [] [(2,xgK.lp)] Tryz.f14 2 lk0 [0,7,50,51,52,60,61,62] [0,2,50,51,52] [] (q8 (qL 9) (xGv 0 0 0 0) (qL 9) qI qI (qL 9) qI qI) (q1 (qB 0 9 58 (q1 (xGw (q9 qI qI (qL 3) qI qI qI qI qI qI))))) (fun (l,_,a,b,c,d,e,f,_) (((g,h,i,j,k,m,n,o,q,_),_),_)=>(xdm l a b c d e,(f,g,h,i,j,k,m,n,o,q),fun p=>(.node p.1 (.leaf (.exit 4) [AV.list 9 l,.top,AV.list 9 a,AV.int .i64 b,AV.int .i64 c] []) (.leaf .ret [AV.list 9 l,AV.int .i64 p.2.2,AV.list 9 a,AV.int .i64 b,AV.int .i64 c] [])))) (false,(),0) fun (l,_,a,b,c,d,e,_,_) _ (f,g,h,i,j,k,m,n,o,q)=>(((l,(),a,b,c,d,e,f,()),(((g,h,i,j,k,m,n,o,q,()),()),())),xhT l a b c d e f g h i j k m n o q none)
def xgM (l:LA) (a:Int):=List.take (l.length - (i64.wrap (a+1)).toNat) (List.drop (i64.wrap (a+1)).toNat l)
def xjC (l b:LA) (c a:Int):=Iter (xdm l b c a (xgM l a) (↑(xgM l a).length:Int)) (0,(gC b a 0).toInt,(gC b a 1).toInt,(gC b a 2).toList,(gC b a 3).toInt,(gC b a 4).toInt,(gC b a 5).toInt,(gC b a 6).toInt,(gC b a 7).toInt,(gC b a 8).toInt)
def xjB (l a:LA) (b c:Int):=(xjC l a b c).getD (false,(),0)
def xhS {T:Type} (l b:LA) (c a:Int) (δ:T) (κl:(Int)->T) (κr:(Bool×(Int)×(Unit))->T):T:=br (decide (a<c)) (br (ixI b a) (br (ixT b a 9 [Sh.int .i64,Sh.int .i64,Sh.list 3,Sh.int .i64,Sh.int .i64,Sh.int .i64,Sh.int .i64,Sh.int .i64,Sh.int .i64] 0) (br (decide (0<=i64.wrap (a+1))&&decide (i64.wrap (a+1)<=(↑l.length:Int))) (br ((xjC l b c a).isSome) (br ((xjB l b c a).fst) (κl (i64.wrap (a+1))) (κr (true,((xjB l b c a).snd.snd),()))) δ) δ) δ) δ) (κr (false,0,()))
def xbS (l a:LA) (b:Int):StT (Int) (Bool×(Int)×(Unit)):=fun (c)=>xhS l a b c none inL inR
def xnw:=xrZ.l 85 0 [] [(2,xgK.lp),(17,xgN.lp)] Tryz.f14 1 (lk1 xgN.ok) [0,50,51,52] [2] [] (q4 (qL 9) (qL 9) qI qI) xGk (fun (l,a,b,c,_) _=>(xbS l a b,(c),fun p=>(.node p.1 (.leaf .ret [AV.int .i64 p.2.1] []) (.leaf (.exit 2) [.top] [])))) (false,0,()) fun (l,a,b,_,_) _ (c)=>(((l,a,b,c,()),()),xhS l a b c none)
def xne {T:Type} (l:LA) (δ:T) (κ:Int->T):T:=br ((Iter (xbw l l (↑l.length:Int)) 0).isSome) (br (((Iter (xbw l l (↑l.length:Int)) 0).getD (false,0,())).fst) (κ (((Iter (xbw l l (↑l.length:Int)) 0).getD (false,0,())).snd.fst)) (br ((Iter (xbS l l (↑l.length:Int)) 0).isSome) (br (((Iter (xbS l l (↑l.length:Int)) 0).getD (false,0,())).fst) (κ (((Iter (xbS l l (↑l.length:Int)) 0).getD (false,0,())).snd.fst)) (κ (0))) δ)) δ
def xmH (l:LA):=xne l none some
def xDg:EO:=xrZ.f Tryz.func14 85 0 [] [(2,xgK.lp),(17,xgN.lp),(14,xnw.lp)] (lks (lkC xgK.ok (lkC xnw.ok (lkC xgN.ok lkN)))) (u1 (uL 9)) (fun (l,_) _=>xne l) (fun _ p=>AV.int .i64 p) 0
def xoD {T:Type} (l:LA) (δ:T) (κ:Bool->T):T:=br ((xjR l).isSome) (br ((xou ((xjR l).getD []) 16).isSome) (κ ((xou ((xjR l).getD []) 16).getD false)) δ) δ
def xor (l:LA):=xoD l none some
def xzf:EO:=xDg.f Tryz.func9 6 0 [] [] lk0 (u1 (uL 9)) (fun (l,_) _=>xoD l) (fun _ p=>AV.bool p) false
end Go.Sim.M
namespace Go.Sim
def stepX (P:Program) (E:Env) (live liveO:List Nat) (conv:List (Nat×Nat×TypeId)) (c:Code) (s:List AV×List Box):Option ((List AV×List Box)⊕{r:Exit×List AV×List Box // r.1≠.normal}) :=
 match XR P E live liveO conv c s.1 s.2 with
 | some (.normal,v,H)=>some (.inl (v,H))
 | some (.exit i,v,H)=>some (.inr ⟨(.exit i,v,H),by simp⟩)
 | some (.ret,v,H)=>some (.inr ⟨(.ret,v,H),by simp⟩)
 | _=>none
def closedLp (P:Program) (E:Env) (live liveO:List Nat) (conv:List (Nat×Nat×TypeId)) (c:Code) (n:Nat):Lp:=⟨live,liveO,conv,fun vals H =>
 match iterN (stepX P E live liveO conv c) n (vals,H) with
 | some r=>some (true,.leaf r.1.1 r.1.2.1 r.1.2.2)
 | none=>none⟩
theorem xq1 {P:Program} {Inv:IV} {E:Env} (O:P.follows .mixedOrders=true) (U:InvOk Inv) (q:Inv.pin=E.pin) (Q:xFB P Inv E) {c:Code} (J:LoOk P Inv E c) {live liveO:List Nat} {conv:List (Nat×Nat×TypeId)} {n:Nat} :
  LoopOk P Inv E.nt c (closedLp P E live liveO conv c n):=fun vals H r h=>by
 simp only [closedLp] at h;split at h
 case h_2=>simp at h
 rename_i r0 hr;simp only [z6,zb,true_and] at h;subst h;exact xsl O U q Q J (σ:=List AV×List Box) (ρ:={r:Exit×List AV×List Box // r.1≠.normal}) (step:=stepX P E live liveO conv c) (fun s=>s) (fun r=>.leaf r.1.1 r.1.2.1 r.1.2.2) (fun r=>r.2)
  (fun s r hs=>by
   unfold stepX at hs;split at hs<;>simp only [z6,reduceCtorEq] at hs;all_goals (subst hs;rename_i hx;exact hx)) (s:=(vals,H)) (r:=r0) (xma.2 ⟨n,hr⟩)
end Go.Sim
namespace Go.Sim.M
open Go.RowKit Go.Proofs
def mmA (g:FuncId):Bool:=([123,125,
 114,138,151,
 90,112,128,
 110,127,144,
 49,76,95,
 116,89,122,100,47]:List Nat).contains g
noncomputable def EA0:Env:={ E0 with ls:=lsOf [54,60,124,58],fuel:=1000 }
theorem xuq:xFB P0 xGh EA0:=xBL
noncomputable def runA (E:Env) (fn:Func):List AV->Option (Bool×AV):=fun xs=>match XF P0 E fn (fn.body.getD .skip) xs with
 | some r=>some (true,r)
 | none=>none
theorem xpb {E:Env} {f:FuncId} {fn:Func} (Q:xFB P0 (xGh.at 0) E) (J:E.pin=0) (hf:P0.funcs[f]?=some fn) (hb:fn.body.isSome=true) (q:(fn.name == "runtime.NumGoroutine")=false) (O:LoOk P0 (xGh.at 0) E (fn.body.getD .skip)):OcOk P0 xGh f (runA E fn):=fun xs r h=>by
 unfold runA at h;split at h
 case h_2=>simp at h
 rename_i r0 hr;simp only [z6,zb,true_and] at h;subst h;exact xhV (p:=0) (xkJ xFK (xFL P0 _) J.symm Q hf hb q O hr)
noncomputable def EAr:Env:={ Env.deep P0 mmA EA0 10 with pin:=0,nt:=60,ls:=lsOf [] }
theorem xza:xFB P0 (xGh.at 0) EAr:=xjq xFK mmA (xFL P0 0) xuq (fun _=>rfl) 10
noncomputable def xy9:Lp:=closedLp P0 EAr [3,4,11,12,13] [4] [(4,2,240654483580)] (xFF Tryz.f88 0) 100
noncomputable def EAr1:Env:={ EAr with lp:=xFX [(xFP (xFF Tryz.f88 0),xy9)] }
theorem xB1:xFB P0 (xGh.at 0) EAr1:=xza
noncomputable def xwx:List AV->Option (Bool×AV):=runA EAr1 Tryz.f88
theorem xCJ:OcOk P0 xGh 88 xwx:=xpb xB1 rfl Tryz.func88 rfl (by kernel_rfl) (xkr (ls:=[xFF Tryz.f88 0]) (by kernel_rfl) (fun l hl lp hs=>by
 simp only [zC,List.not_mem_nil,or_false] at hl;subst hl;rw [show EAr1.lp (xFP (xFF Tryz.f88 0))=some xy9 by kernel_rfl] at hs
 cases hs;exact xq1 (E:=EAr) xFK (xFL P0 _) rfl xza (xiO fun _=>rfl)))
noncomputable def EAlv (p:Nat):Env:={ Env.deep P0 mmA EA0 6 with pin:=p,nt:=71,ls:=lsOf [] }
theorem xwo (p:Nat):xFB P0 (xGh.at p) (EAlv p):=xkN (xjq xFK mmA (xFL P0 0) xuq (fun _=>rfl) 6)
noncomputable def xwn (p:Nat):Lp:=closedLp P0 (EAlv p) [0,1,2,3,4] [] [(3,0,0)] (xFF Tryz.f89 0) 100
noncomputable def EAlv1 (p:Nat):Env:={ EAlv p with lp:=xFX [(xFP (xFF Tryz.f89 0),xwn p)] }
theorem xAN (p:Nat):xFB P0 (xGh.at p) (EAlv1 p):=xwo p
noncomputable def xu3:List AV->List Box->Option (Bool×AV×List Box):=fun xs H=>match XFM P0 (EAlv1 H.length) Tryz.f89 (Tryz.f89.body.getD .skip) xs H with
 | some (r,H')=>some (true,r,H')
 | none=>none
theorem xDP:OmOk P0 xGh 89 xu3:=fun xs H r H' h=>by
 unfold xu3 at h;split at h
 case h_2=>simp at h
 rename_i r0 H0 hr;simp only [z6,zb,true_and] at h;obtain ⟨rfl,rfl⟩:=h;refine xfX (p:=H.length) (xhL xFK (xFL P0 _) rfl (xAN H.length) rfl Tryz.func89 rfl (by kernel_rfl) (xkr (ls:=[xFF Tryz.f89 0,xFF Tryz.f89 1]) (by kernel_rfl) (fun l hl lp hs=>?_)) hr)
 simp only [zC,List.not_mem_nil,or_false] at hl;rcases hl with rfl|rfl
 . rw [show (EAlv1 H.length).lp (xFP (xFF Tryz.f89 0))=some (xwn H.length) by kernel_rfl] at hs
   cases hs;exact xq1 (E:=EAlv H.length) xFK (xFL P0 _) rfl (xwo H.length) (xiO fun _=>rfl)
 . rw [show (EAlv1 H.length).lp (xFP (xFF Tryz.f89 1))=none by kernel_rfl] at hs
   simp at hs
noncomputable def EAs:Env:=(EA0.with 88 xwx).withM 89 xu3
theorem xzb:xFB P0 xGh EAs:=(xuq.with xCJ).withM xDP
noncomputable def EAd:Env:={ Env.deep P0 mmA EAs 14 with pin:=0 }
theorem xur:xFB P0 (xGh.at 0) EAd:=xkN (xjq xFK mmA (xFL P0 0) xzb (fun _=>rfl) 14)
noncomputable def EAf:Env:={ EAd with nt:=18,ls:=lsOf [],lp:=xFX [(3000004,xg7)] }
theorem xC3:xFB P0 (xGh.at 0) EAf:=xur
noncomputable def xtp:List AV->Option (Bool×AV):=runA EAf Tryz.f12
theorem xzH:OcOk P0 xGh 12 xtp:=xpb xC3 rfl Tryz.func12 rfl (by kernel_rfl) (xqJ (ls:=[]) (by kernel_rfl) (fun l hl=>by simp at hl) (lp0:=xg7) xoo (by kernel_rfl))
noncomputable def EAg:Env:={ EAd with nt:=16,ls:=lsOf [],lp:=xFX [(3000003,xnf)] }
theorem xC4:xFB P0 (xGh.at 0) EAg:=xur
noncomputable def xwK:List AV->Option (Bool×AV):=runA EAg Tryz.f78
theorem xCn:OcOk P0 xGh 78 xwK:=xpb xC4 rfl Tryz.func78 rfl (by kernel_rfl) (xqJ (ls:=[]) (by kernel_rfl) (fun l hl=>by simp at hl) (lp0:=xnf) xs6 (by kernel_rfl))
noncomputable def EAb:Env:={ EAd with nt:=67,ls:=lsOf [58],lp:=xFX [(3000007,xko)] }
theorem xC1:xFB P0 (xGh.at 0) EAb:=xur
noncomputable def xww:List AV->Option (Bool×AV):=runA EAb Tryz.f18
theorem xCd:OcOk P0 xGh 18 xww:=xpb xC1 rfl Tryz.func18 rfl (by kernel_rfl) (xqJ (ls:=[xFF Tryz.f18 0,xFF Tryz.f18 1]) (by kernel_rfl) (fun l hl lp hs=>by
 simp only [zC,List.not_mem_nil,or_false] at hl;rcases hl with rfl|rfl
 . rw [show EAb.lp (xFP (xFF Tryz.f18 0))=none by kernel_rfl] at hs
   simp at hs
 . rw [show EAb.lp (xFP (xFF Tryz.f18 1))=none by kernel_rfl] at hs
   simp at hs) (lp0:=xko) xqQ (by kernel_rfl))
noncomputable def EAt:Env:=((EAs.with 12 xtp).with 78 xwK).with 18 xww
theorem xzc:xFB P0 xGh EAt:=((xzb.with xzH).with xCn).with xCd
noncomputable def EAtd:Env:={ Env.deep P0 mmA EAt 14 with pin:=0 }
theorem xwp:xFB P0 (xGh.at 0) EAtd:=xkN (xjq xFK mmA (xFL P0 0) xzc (fun _=>rfl) 14)
noncomputable def EAa:Env:={ EAtd with ls:=lsOf [4000054,58,5000030,6000009] }
noncomputable def xuB:List AV->Option (Bool×AV):=runA EAa Tryz.f22
theorem xAQ:OcOk P0 xGh 22 xuB:=xpb (E:=EAa) xwp rfl Tryz.func22 rfl (by kernel_rfl) (xiO fun _=>rfl)
noncomputable def EAo:Env:={ EAtd with ls:=lsOf [4000054] }
noncomputable def xw4:List AV->Option (Bool×AV):=runA EAo Tryz.f26
theorem xCZ:OcOk P0 xGh 26 xw4:=xpb (E:=EAo) xwp rfl Tryz.func26 rfl (by kernel_rfl) (xiO fun _=>rfl)
noncomputable def EAv:Env:={ (EAt.with 22 xuB).with 26 xw4 with ls:=EA0.ls }
theorem xC5:xFB P0 xGh EAv:=(xzc.with xAQ).with xCZ
noncomputable def EAe:Env:={ Env.deep P0 mmA EAv 14 with pin:=0 }
theorem xC2:xFB P0 (xGh.at 0) EAe:=xkN (xjq xFK mmA (xFL P0 0) xC5 (fun _=>rfl) 14)
theorem xCb:XF P0 EAe Tryz.f10 (Tryz.f10.body.getD .skip) []=some (.bool true):=by kernel_rfl
def xs3:List AV->Option (Bool×AV)
 | []=>some (true,.bool true)
 | _=>none
theorem xCa:OcOk P0 xGh 10 xs3:=fun xs r h=>by
 unfold xs3 at h;split at h
 . simp only [z6,zb,true_and] at h;subst h;exact xhV (p:=0) (xkJ xFK (xFL P0 _) rfl xC2 Tryz.func10 rfl (by kernel_rfl) (xiO fun _=>rfl) xCb)
 . simp at h
noncomputable def EEW:Env:=xzf.E.with 10 xs3
theorem xC6:xFB Tryz.prog xGh EEW:=xzf.ok.with xCa
end Go.Sim.M
namespace Go.Sim.M
open Go.IntKind (i64 u64 u8)
open Go.RowKit Go.Proofs
def xiM {T:Type} (l:LA) (δ:T) (κ:Bool->T):T:=br ((xor l).isSome) (br (!(xor l).getD false) (κ (true)) (br ((xeF l).isSome) (br ((xjS l).isSome) (br ((xgc ((xeF l).getD []) ((xjS l).getD [])).isSome) (br ((xgc ((xeF l).getD []) ((xjS l).getD [])).getD false) (br ((xmH l).isSome) (br ((xmO l).isSome) (br ((xmH l).getD 0==(xmO l).getD 0) (κ (true)) (κ (false))) δ) δ) (κ (false))) δ) δ) δ)) δ
def xkq (l:LA):=xiM l none some
def xqg:LA->Option (Bool×AV):=fnO (u1 (uL 9)) (fun (l,_) _=>xiM l) (fun _ p=>AV.bool p) false
theorem xqf:OcOk P0 xGh 3 xqg:=fnC xC6 Tryz.func3 22 0 [] [] lk0
end Go.Sim.M
