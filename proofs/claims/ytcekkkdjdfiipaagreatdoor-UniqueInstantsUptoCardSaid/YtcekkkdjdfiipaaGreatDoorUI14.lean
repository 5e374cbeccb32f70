/- Part 14 of the proof of the law. -/
import Derived.Test.YtcekkkdjdfiipaaGreatDoorUI13
import Derived.Maps.RangeRun
set_option linter.unusedVariables false
set_option linter.unusedSimpArgs false
set_option linter.unnecessarySimpa false
noncomputable section
namespace Go.Sim
open Go.RowKit
theorem Ev.mv {w w':World} {A A':Nat->Prop} {M M':Id->Option MB} {B n:Nat} {H:List Box} {av df:Nat->Prop} (hR:HR w A M B H) (he:Ev ⟨av,w,A,M,n,df⟩ w' A' M') (hn:H.length<=n):Mv w A M w' A' M' :=
 ⟨he.size,fun b hb hA=>he.keep b hb (.inl hA),he.less,he.more,fun id m hm=>he.ids id m (by
  obtain ⟨bx,h1,_⟩:=hR.box id m hm;exact Nat.lt_of_lt_of_le (xlt h1) hn) hm,⟨fun b hb q=>he.keep b hb (.inr q),he.src⟩⟩
theorem SR.grow {w0 w w':World} {A0:Cx} {A:Nat->Prop} {M:Id->Option MB} {s:St} {a:Act} (h:SR w0 A0 w A M s a) (hb:Below w.heap.size w w'):SR w0 A0 w' A M s a :=
 ⟨
  h.base.trans (hb.mono h.base.size),h.outer,h.size,fun t ht=>(h.tmps t ht).grow hb,h.heap.grow hb,h.defers.same fun D hD=>hb.block D (xlv hD),
  h.ev.step ⟨hb.size,fun b q _=>hb.block b q,fun _ _ h=>h,fun _ _ h _=>h,MExt.refl M,.of_new hb fun _ _ h=>.inl h⟩⟩
theorem SR.door {w0 w:World} {A0:Cx} {A:Nat->Prop} {M:Id->Option MB} {s:St} {a:Act} (h:SR w0 A0 w A M s a) (n:Nat):SR w0 ⟨A0.av,w,A,M,n,fun D=>A0.df D\/A0.w1.heap.size<=D⟩ w A M s a :=
 ⟨h.base,h.outer,h.size,h.tmps,h.heap,by
  obtain ⟨L,e1,e2,e3⟩:=h.defers;exact ⟨L,e1,e2,fun D hD=>⟨(e3 D hD).1,.inl (e3 D hD).2.1,(e3 D hD).2.2⟩⟩,Ev.refl (C:=⟨A0.av,w,A,M,n,_⟩)⟩
theorem SR.undoor {w0 w w':World} {A0:Cx} {A A':Nat->Prop} {M M':Id->Option MB} {s s':St} {a a':Act} {n:Nat} (h:SR w0 A0 w A M s a) (hn:s.heap.length<=n) (h':SR w0 ⟨A0.av,w,A,M,n,fun D=>A0.df D\/A0.w1.heap.size<=D⟩ w' A' M' s' a'):SR w0 A0 w' A' M' s' a'/\Mv w A M w' A' M':=by
 have q:=h'.ev.mv h.heap hn;refine ⟨⟨h'.base,h'.outer,h'.size,h'.tmps,h'.heap,?_,h.ev.step q⟩,q⟩;obtain ⟨L,e1,e2,e3⟩:=h'.defers;refine ⟨L,e1,e2,fun D hD=>⟨(e3 D hD).1,?_,(e3 D hD).2.2⟩⟩
 rcases (e3 D hD).2.1 with h1|h1
 . exact h1
 . exact .inr (Nat.le_trans h.ev.size h1)
structure Itr (w:World) (A:Nat->Prop) (M:Id->Option MB) (r bm:Nat) (e1 es:Array MapEntry) (clock:Nat) (seen:Array Nat) (kv:List (List UInt8×AV)) (done:List Nat):Prop where
 it:w.heap[r]?=some (.mapIter (some bm) clock seen clock)
 map:w.heap[bm]?=some (.map e1 clock)
 av:¬ A bm
 perm:MapP e1 es clock
 size:es.size=kv.length
 keys:∀ (i:Nat) (x:MapEntry),es[i]?=some x->∃ t:ByteArray,x.key=.string t/\(kv.getD i ([],.top)).1=t.data.toList
 vals:∀ (i:Nat) (x:MapEntry),es[i]?=some x->Rel w A M x.val (kv.getD i ([],.top)).2
 seen:∀ (i:Nat) (x:MapEntry),es[i]?=some x->(seen.contains x.born=true↔i∈done)
 nodup:done.Nodup
 lt:∀ i,i∈done->i<kv.length
section
variable {P : Program} {w w' : World} {A A' : Nat -> Prop} {M M' : Id -> Option MB} {r bm clock B : Nat} {e1 es : Array MapEntry} {seen : Array Nat} {kv : List (List UInt8 × AV)} {done : List Nat} {H : List Box}
theorem Itr.mv (h:Itr w A M r bm e1 es clock seen kv done) (hR:HR w A M B H) (hm:Mv w A M w' A' M'):Itr w' A' M' r bm e1 es clock seen kv done :=
 ⟨(hm.touch.1 r (xlv h.it) (hR.not_box h.it (by simp) (by simp))).trans h.it,(hm.keep bm (xlv h.map) h.av).trans h.map,fun hA=>h.av (hm.less bm (xlv h.map) hA),h.perm,h.size,h.keys,fun i x hx=>hm.rel (h.vals i x hx),h.seen,h.nodup,h.lt⟩
theorem getElem?_ext_lt {α:Type} {es:Array α} {i:Nat} {x:α} (h:es[i]?=some x):i<es.size:=by
 rcases zI i es.size with h'|h'
 . exact h'
 . rw [Array.getElem?_eq_none h'] at h;simp at h
theorem Itr.next (h:Itr w A M r bm e1 es clock seen kv done) (ty:TypeId) :
  (done.Perm (List.range kv.length)/\(Instr.next (.pointer (some ⟨r,0,none⟩)) false ty).run P w=.ok (.tuple #[.bool false]) w) \/
  ∃ (i:Nat) (e:MapEntry) (w1:World) (q:Array Nat),i<kv.length/\i∉done/\es[i]?=some e/\Below w.heap.size w w1/\(∀ a u,w.cell? a=some u->w1.cell? a=some u)/\w1.heap[r]?=some (.mapIter (some bm) clock seen clock) /\
   (Instr.next (.pointer (some ⟨r,0,none⟩)) false ty).run P w=.ok (.tuple #[.bool true,e.key,e.val]) (w1.putObj r (.mapIter (some bm) clock q clock))/\Itr (w1.putObj r (.mapIter (some bm) clock q clock)) A M r bm e1 es clock q kv (done++[i]) /\
   (∀ w2 A2 M2,Itr w2 A2 M2 r bm e1 es clock q kv (done++[i])->(Instr.entry (.pointer (some ⟨r,0,none⟩))).run P w2=.ok (.tuple #[e.key,e.val]) w2)/\(leftOf e1 q).size<(leftOf e1 seen).size:=by
 obtain ⟨hp,Y,aa⟩:=h.perm;have Z:(e1.toList.map (·.born)).Nodup:=((hp.map _).nodup_iff).2 aa;have U:∀ i x,es[i]?=some x->i<kv.length:=fun i x hx=>by rw [<-h.size];exact getElem?_ext_lt hx
 rcases run_next_at (P:=P) w ty r bm clock clock seen e1 clock h.it h.map (fun x hx=>Y x (hp.mem_iff.1 hx)) (zb _) with ⟨h0,O⟩|⟨e,he,w1,J,O⟩
 . refine .inl ⟨?_,O⟩;refine (List.perm_ext_iff_of_nodup h.nodup List.nodup_range).2 fun i=>⟨fun hi=>List.mem_range.2 (h.lt i hi),fun hi=>?_⟩
   have hi':i<es.size:=by rw [h.size];exact List.mem_range.1 hi
   have hx:es[i]?=some es[i]:=by simp [hi']
   exact (h.seen i _ hx).1 (all_seen e1 seen h0 _ (hp.mem_iff.2 (by simp)))
 . obtain ⟨ab,ad⟩:=mem_left he;obtain ⟨i,hi⟩:=List.mem_iff_getElem?.1 (hp.mem_iff.1 ab);have hi:es[i]?=some e:=by simpa using hi
   have hb:Below w.heap.size w w1:=by
    rcases J with rfl|rfl
    . exact Below.refl _ _
    . exact ⟨rfl,rfl,rfl,zb _,fun _ _=>rfl⟩
   have hc:∀ a u,w.cell? a=some u->w1.cell? a=some u:=fun a u hu=>by rcases J with rfl|rfl<;>exact hu
   have hsz:w1.heap.size=w.heap.size:=by rcases J with rfl|rfl<;>rfl
   have W:w1.heap[r]?=some (.mapIter (some bm) clock seen clock):=by rcases J with rfl|rfl<;>exact h.it
   have ag:w1.heap[bm]?=some (.map e1 clock):=by rcases J with rfl|rfl<;>exact h.map
   have hne:bm≠r:=fun e=>by have:=h.map;rw [e,h.it] at this;simp at this
   have Q:i∉done:=fun hd=>by rw [(h.seen i e hi).2 hd] at ad;cases ad
   have ae:(w1.putObj r (.mapIter (some bm) clock (seen.push e.born) clock)).heap[bm]?=some (.map e1 clock):=(World.putObj_heap_other hne).trans ag;have af:(w1.putObj r (.mapIter (some bm) clock (seen.push e.born) clock)).heap[r]?=some (.mapIter (some bm) clock (seen.push e.born) clock):=World.putObj_heap_same (xlv W);refine .inr ⟨i,e,w1,seen.push e.born,U i e hi,Q,hi,hb,hc,W,O,⟨af,ae,h.av,h.perm,h.size,h.keys,fun k x hx=>?_,fun k x hx=>?_,?_,fun k hk=>?_⟩,fun w2 A2 M2 h2=>run_entry_at _ r bm clock seen e1 clock e h2.it h2.map ab Z,left_shrinks e1 seen e he⟩
   . exact ((h.vals k x hx).grow hb).turn (by simp) (xrf W ⟨by simp,by simp⟩)
   . rw [contains_push,Bool.or_eq_true,h.seen k x hx,zF,zu,beq_iff_eq];constructor
     . rintro (h1|h1)
       . exact .inl h1
       . right;have hk:=getElem?_ext_lt hx;have ac:=getElem?_ext_lt hi;have e3:es[k]=x:=by simpa [hk] using hx
         have e4:es[i]=e:=by simpa [ac] using hi
         have:=(List.getElem_inj (i:=k) (j:=i) (h₀:=by simpa using hk) (h₁:=by simpa using ac) aa).1 (by simp [e3,e4,h1])
         exact this
     . rintro (h1|rfl)
       . exact .inl h1
       . right;rw [hi] at hx;simp only [z1] at hx;rw [hx]
   . rw [List.nodup_append];exact ⟨h.nodup,by simp,fun a ha c hc=>by simp only [zu] at hc;rintro rfl;exact Q (hc▸ha)⟩
   . rcases zF.1 hk with hk|hk
     . exact h.lt k hk
     . simp only [zu] at hk;subst hk;exact U k e hi
end
def stepI {σ ρ:Type} (step:σ->Nat->σ⊕ρ):σ⊕ρ->Nat->σ⊕ρ
 | .inl s,x=>step s x
 | .inr r,_=>.inr r
theorem xtG {σ ρ:Type} (step:σ->Nat->σ⊕ρ) (r:ρ):∀ l:List Nat,l.foldl (stepI step) (.inr r)=.inr r
 | []=>rfl
 | x::l=>by simp only [List.foldl_cons,stepI];exact xtG step r l
theorem xDC {P:Program} {ro:Option Nat} {c:Code} {Qc:Exit->Act->World->Prop} (I:Nat->Act->World->Prop)
  (J:∀ n a w,I n a w->c.wpIn (wideR ro) 0 P (fun e a' w'=>match e with|.normal=>∃ n',n'<n/\I n' a' w'|e=>Qc e a' w') a w) (n:Nat) (a:Act) (w:World) (h:I n a w):(Code.loop c).wpIn (wideR ro) 0 P Qc a w:=by
 intro b k cs hb _ _;have hb:b.roundOf=ro:=hb;subst hb;have key:∀ n a w,I n a w->∃ e a' w',Qc e a' w'/\ArrivesIn (Machine.fenced P (wideR b.roundOf)) P (lone (b.atR a (.code c::.inLoop c::k)) cs w) b k cs e a' w':=by
  intro n;induction n using Nat.strongRecOn with
  | _ n ih =>
   intro a w hI;obtain ⟨e,a₁,w₁,hq,q⟩:=J n a w hI b (.inLoop c::k) cs rfl (xvf _ _) (xsE _ _);cases e with
   | normal =>
    obtain ⟨n',k1,k2⟩:=hq;obtain ⟨e₂,a₂,w₂,Q,O⟩:=ih n' k1 a₁ w₁ k2;exact ⟨e₂,a₂,w₂,Q,.of_steps (StepsIn.trans q (.one (xnN _ P _) stepR_inLoop)) O⟩
   | exit id=>exact ⟨_,a₁,w₁,hq,.pass (x:=.inLoop c) rfl (fun _ _=>.inl (by simp)) q⟩
   | goto l=>exact ⟨_,a₁,w₁,hq,.pass (x:=.inLoop c) rfl (fun _ _=>.inl (by simp)) q⟩
   | ret=>exact ⟨_,a₁,w₁,hq,.pass (x:=.inLoop c) rfl (fun _ _=>.inl (by simp)) q⟩
   | panic ch=>exact ⟨_,a₁,w₁,hq,.pass (x:=.inLoop c) rfl (fun _ _=>.inl (by simp)) q⟩
   | outgrown=>exact ⟨_,a₁,w₁,hq,.pass (x:=.inLoop c) rfl (fun _ _=>.inl (by simp)) q⟩
 obtain ⟨e,a',w',hq,q⟩:=key n a w h;exact ⟨e,a',w',hq,.of_steps (.one (xnN _ P _) stepR_loop) q⟩
theorem xEI {P:Program} {Inv:IV} {w0:World} {A0:Cx} (Y:InvOk Inv) (hI:Inv w0) {ops:Array Oper} {Q:Exit->Act->World->Prop} {rest:List Oper} {l:List Oper} {s s':St} (hp:Path (OpA P Inv) ops l s s') :
  ∀ {w:World} {A:Nat->Prop} {M:Id->Option MB} {a:Act},SR w0 A0 w A M s a ->
  (∀ a' w' A' M',SR w0 A0 w' A' M' s' a'->Mv w A M w' A' M'->wpList P ops Q rest a' w')->wpList P ops Q (l++rest) a w:=by
 induction hp with
 | nil s=>intro w A M a hs hK;exact hK a w A M hs Mv.refl
 | run hw h hr ih =>
  intro w A M a hs hK;have q:=xhR (w:=w) (A:=A) (M:=M) hs.size (fun j O d _ _ J=>hs.tmps d J) hw
  rw [List.cons_append];unfold wpList;rw [if_pos q];exact .inl (xsh Y hI h hs fun v w' A' M' U W=>ih U fun a2 w2 A2 M2 h2 m2=>hK a2 w2 A2 M2 h2 (W.trans m2))
 | skip hw hr ih =>
  intro w A M a hs hK;have q:=xhR (w:=w) (A:=A) (M:=M) hs.size (fun j O d _ _ J=>hs.tmps d J) hw
  rw [List.cons_append];unfold wpList;rw [if_neg (by rw [q];simp)]
  exact ih (hs.skip _) fun a2 w2 A2 M2 h2 m2=>hK a2 w2 A2 M2 h2 m2
def keyAt (bx:Box) (k:Nat):List UInt8:=match (bx.xs.getD k .top).cells.getD 0 .top with
 | .str s=>s
 | _=>[]
def valAt (nb:Nat) (bx:Box) (k:Nat):AV:=xLK nb k 1 bx.ty ((bx.xs.getD k .top).cells.getD 1 .top)
def kvOf (nb:Nat) (bx:Box):List (List UInt8×AV):=(List.range bx.xs.length).map fun k=>(keyAt bx k,valAt nb bx k)
theorem xkD (nb:Nat) (bx:Box):(kvOf nb bx).length=bx.xs.length:=by simp [kvOf]
theorem xr8 {nb:Nat} {bx:Box} {k:Nat} (h:k<bx.xs.length):(kvOf nb bx).getD k ([],.top)=(keyAt bx k,valAt nb bx k):=by
 simp [kvOf,z6,h]
def rngCode (i9:Nat) (O:Array Oper) (ex i0:Nat) (q:Array Oper) (tb:Tmp) (ib i1:Nat) (J:Array Oper) (Q:Code):Code :=
 .seq (.region i9 O false) (.block ex (.loop (.seq (.region i0 q false) (.seq (.cond (.tmp tb) .skip (.exit ex)) (.block ib (.seq (.region i1 J false) Q))))))
def stepT (Lr:List AV) (tn tb te:Tmp) (k:List UInt8) (v:AV):List AV:=((Lr.set tn (.tuple [.bool true,.str k,v])).set tb (.bool true)).set te (.tuple [.str k,v])
section
variable {P : Program} {w : World} {A : Nat -> Prop} {M : Id -> Option MB} {B : Nat} {H : List Box}
theorem xGe (hR:HR w A M B H) {v:Value} {n ver i j:Nat} {bx:Box} (h:Rel w A M v (.own (.b n) ver i j)) (J:H[n]?=some bx) (O:bx.ver=ver) (q:xLn bx.ty=true) :
  ∃ m,M (.b n)=some m/\BoxAt w A M B (.b n) m bx/\v=.map (some m.b)/\0<m.cap:=by
 obtain ⟨m,hm,hv,h1,he⟩:=Rel.own_inv h;obtain ⟨bx',h2,h3⟩:=hR.box _ m hm;rw [xba,J] at h2;cases h2;refine ⟨m,hm,h3,?_⟩;have Q:xLn m.ty=true:=by rw [<-h3.ty];exact xl1 q
 have h0:=he (by rw [<-O,h3.ver])
 unfold ptrOf at h0;rw [Q] at h0;cases hc:m.cap with
 | zero =>
  rw [hc] at h0;simp only at h0;rw [h0] at h1;cases h1
 | succ k =>
  rw [hc] at h0;exact ⟨h0,Nat.succ_pos k⟩
theorem xEz (hR:HR w A M B H) {v:Value} {n ver i j:Nat} {bx:Box} (h:Rel w A M v (.own (.b n) ver i j)) (aa:H[n]?=some bx) (ae:bx.ver=ver) (W:xLn bx.ty=true) (Z:xLm bx.ty 0=false) (ac:bx.sz=2) (ab:bx.pm=true) (ad:bx.frz=true) {t kt et:TypeId} (af:P.underlying t=some (.map kt et)) :
  ∃ bm e1 es clock,(Instr.range t v).run P w=.ok (.pointer (some ⟨w.heap.size,0,none⟩)) (w.alloc (.mapIter (some bm) clock #[] clock))/\Itr (w.alloc (.mapIter (some bm) clock #[] clock)) A M w.heap.size bm e1 es clock #[] (kvOf n bx) []:=by
 obtain ⟨m,hm,O,rfl,hcap⟩:=xGe hR h aa ae W;obtain ⟨es,clock,q,_,U⟩:=O.mapKs W Z ac ab hcap;obtain ⟨e1,Q,hP⟩:=q.heap;have J:=xe5 w (.mapIter (some m.b) clock #[] clock);have Y:∀ k x,es[k]?=some x->k<bx.xs.length:=fun k x hx=>by rw [<-q.size];exact getElem?_ext_lt hx
 refine ⟨m.b,e1,es,clock,run_range_map w t kt et m.b e1 clock af Q,heap_alloc_new w _,(J.block _ (xlv Q)).trans Q,fun hA=>?_,hP,by rw [q.size,xkD],fun k x hx=>?_,fun k x hx=>?_,fun k x _=>by simp,List.nodup_nil,by simp⟩
 . have:=(O.guard hcap).2 hA;rw [ad] at this;cases this
 . obtain ⟨t,h1,h2,_⟩:=q.keys k x hx;refine ⟨t,h1,?_⟩;rw [xr8 (Y k x hx)];show keyAt bx k=_;unfold keyAt;rw [h2]
 . rw [xr8 (Y k x hx)];exact ((U k x hx).unmv).grow J
end
theorem xyD {n:Nat} {l:List Nat} (hn:l.Nodup) (hl:∀ i,i∈l->i<n):∃ l',(l++l').Perm (List.range n):=by
 refine ⟨(List.range n).filter fun i=>!l.contains i,(List.perm_ext_iff_of_nodup ?_ List.nodup_range).2 fun i=>?_⟩
 . rw [List.nodup_append];refine ⟨hn,List.nodup_range.filter _,fun a ha b hb=>?_⟩
   rintro rfl;have:=(List.mem_filter.1 hb).2;simp [ha] at this
 . rw [zF,List.mem_filter,List.mem_range];constructor
   . rintro (h|h)
     . exact hl i h
     . exact h.1
   . intro h;by_cases hi:i∈l
     . exact .inl hi
     . exact .inr ⟨h,by simp [hi]⟩
theorem xuc {P:Program} {Inv:IV} (aw:InvOk Inv) {σ ρ:Type} {i9 ex i0 ib i1:Nat} {ag ap ae:Array Oper} {a4:Code} {pre exts:List Oper} {o9 o0 o1 oe:Oper} {it tn tb te:Tmp} {tyM kt et:TypeId} {mo:Operand}
  (bh:ag.toList=pre++[o9]) (b6:noDefer ag=true) (co:o9.op=.range tyM mo) (cv:o9.dst=some it) (ct:o9.guard=none) (cq:P.underlying tyM=some (.map kt et))
  (bq:ap.toList=[o0,o1]) (cm:noDefer ap=true) (bz:o0.op=.next (.tmp it) false) (cg:o0.dst=some tn) (c4:o0.guard=none) (cf:o1.op=.extract (.tmp tn) 0) (b0:o1.dst=some tb) (ch:o1.guard=none)
  (bf:ae.toList=oe::exts) (cc:noDefer ae=true) (c5:oe.op=.entry (.tmp it)) (cy:oe.dst=some te) (c2:oe.guard=none)
  (b7:it≠tn) (cl:it≠tb) (c9:tn≠tb)
  {s s1:St} (cd:Path (OpA P Inv) ag pre s s1) {nb ver i j:Nat} (hm:s1.eval mo=.own (.b nb) ver i j) {bx:Box} (hb:(freeze s1.heap [nb])[nb]?=some bx) (b5:bx.ver=ver) (cx:xLn bx.ty=true) (h0:xLm bx.ty 0=false) (hsz:bx.sz=2) (c6:bx.pm=true) (cp:bx.frz=true)
  {n:Nat} (cw:(freeze s1.heap [nb]).length<=n) (Lf:σ->Nat->List AV) (Hf:σ->List Box) (Lo:ρ->List AV) (Ho:ρ->List Box) (step:σ->Nat->σ⊕ρ) (s0:σ)
  (a6:∀ s,(Hf s).length<=n) (a8:∀ s r,(Lf s r)[it]?=some (.gptr r)) (b8:∀ s r,tn<(Lf s r).length) (ci:∀ s r,tb<(Lf s r).length)
  (bc:∀ r,Weak n ⟨s1.tmps.set it (.gptr r),freeze s1.heap [nb]⟩ ⟨Lf s0 r,Hf s0⟩)
  (az:∀ (r:Nat) (done:List Nat) (s:σ) (k:Nat),k<bx.xs.length->k∉done->done.Nodup->(∀ i,i∈done->i<bx.xs.length)->done.foldl (stepI step) (.inl s0)=.inl s->∃ s2,Path (OpA P ⟨Inv.inv,n,Inv.top⟩) ae exts ⟨stepT (Lf s r) tn tb te (keyAt bx k) (valAt nb bx k),Hf s⟩ s2 /\
   Does P ⟨Inv.inv,n,Inv.top⟩ a4 (fun e s'=>match step s k with
    | .inl s3=>e=.normal/\Weak n s' ⟨Lf s3 r,Hf s3⟩
    | .inr q=>e=.ret/\Weak n s' ⟨Lo q,Ho q⟩) s2) :
  Does P Inv (rngCode i9 ag ex i0 ap tb ib i1 ae a4) (fun e s'=>∃ ord:List Nat,ord.Perm (List.range bx.xs.length)/\match ord.foldl (stepI step) (.inl s0) with
   | .inl s=>e=.normal/\∃ r,s'=⟨((Lf s r).set tn (.tuple [.bool false])).set tb (.bool false),Hf s⟩
   | .inr q=>e=.ret/\s'=⟨Lo q,Ho q⟩) s:=by
 intro w0 A0 w A M a Qc hI c8 hs hQ ro c0;unfold rngCode;refine wpIn_seq (wpIn_region_list (xlJ ro 0 _ (xjw b6) _ _ ?_));rw [bh];refine xEI aw hI cd hs fun a1 w1 A1 M1 a0 ck=>wpList_plain ct fun K hK=>?_
 obtain ⟨A2,ar,b9⟩:=a0.refreeze (HSub.freeze s1.heap [nb]);have bj:=ar.eval mo;rw [show St.eval ⟨s1.tmps,freeze s1.heap [nb]⟩ mo=s1.eval mo from by cases mo<;>rfl,hm] at bj
 obtain ⟨bm,e1,es,clock,J,Q⟩:=xEz ar.heap bj hb b5 cx h0 hsz c6 cp cq;obtain ⟨w3,bi⟩:∃ w3,w3=w1.alloc (.mapIter (some bm) clock #[] clock):=⟨_,rfl⟩;rw [<-bi] at J Q;have ao:Below w1.heap.size w1 w3:=by rw [bi];exact xe5 w1 _
 obtain ⟨r,hr⟩:∃ r,r=w1.heap.size:=⟨_,rfl⟩;rw [<-hr] at J Q;have Z:=ar.grow ao;have Z:=Z.put (d:=some it) Z.base Z.outer Mv.refl Z.heap (Rel.gptr (w:=w3) (A:=A2) (M:=M1) r);have c3:w0.heap.size<=r:=by rw [hr];exact a0.base.size
 have cz:A0.w1.heap.size<=r:=by rw [hr];exact a0.ev.size
 unfold Oper.wp;simp only [execOp,co,J,Sem.run_bind,Result.andThen_ok,Sem.run_pure];show K (a1.put o9.dst (.pointer (some ⟨r,0,none⟩))) w3;rw [cv];refine hK _ _ ?_;obtain ⟨A4,M4,ay⟩:=bc r w0 _ w3 A2 M1 _ (zb n) (Z.door n);obtain ⟨ay,a5⟩:=Z.undoor cw ay;have ak:=Q.mv Z.heap a5;refine wpIn_block ?_;refine xDC (fun N a' w'=>∃ done s' A' M' seen,SR w0 A0 w' A' M' ⟨Lf s' r,Hf s'⟩ a'/\Itr w' A' M' r bm e1 es clock seen (kvOf nb bx) done/\done.foldl (stepI step) (.inl s0)=.inl s'/\(leftOf e1 seen).size=N) ?_ _ _ _ ⟨[],s0,A4,M4,#[],ay,ak,rfl,rfl⟩
 clear ay ak a5 Q Z J ao bi bj ar b9 hK a0 ck;rintro N a' w' ⟨done,s',A',M',seen,aj,al,W,rfl⟩;have ce:a'.eval (.tmp it)=.pointer (some ⟨r,0,none⟩):=by
  have:=aj.eval (.tmp it);have e:St.eval ⟨Lf s' r,Hf s'⟩ (.tmp it)=.gptr r:=by show (Lf s' r).getD it .top=_;rw [z6,a8 s' r];rfl
  rw [e] at this;generalize a'.eval (.tmp it)=v at this;cases this;rfl
 refine wpIn_seq (wpIn_region_list (xlJ ro 0 _ (xjw cm) _ _ ?_));rw [bq];refine wpList_plain c4 fun K hK=>?_
 rcases al.next (P:=P) o0.type with ⟨aq,J⟩|⟨k,e,wd,ab,hk,b3,b1,c7,da,ca,J,ad,bw,cb⟩
 ·
  unfold Oper.wp;simp only [execOp,bz,ce,J,Sem.run_bind,Result.andThen_ok,Sem.run_pure];show K (a'.put o0.dst (.tuple #[.bool false])) w';rw [cg];refine hK _ _ (wpList_plain ch fun K2 be=>?_)
  have ai:=aj.put (d:=some tn) aj.base aj.outer Mv.refl aj.heap (Rel.tuple (w:=w') (A:=A') (M:=M') #[.bool false] [.bool false] rfl (fun i hi=>by
   rcases i with _|i
   . exact .bool false
   . simp at hi))
  have bg:OpA P Inv ⟨putT (Lf s' r) (some tn) (.tuple [.bool false]),Hf s'⟩ o1 ⟨putT (putT (Lf s' r) (some tn) (.tuple [.bool false])) o1.dst (.bool false),Hf s'++(none:Option Box).toList⟩:=by
   refine .inl (.inl ⟨.bool false,none,.inl ?_,rfl⟩);rw [cf];simp [fop,St.eval,putT,z6,b8 s' r]
  refine xsh aw hI bg ai fun v w6 A6 M6 ac _=>be _ _ ?_
  rw [b0] at ac |-;simp only [Option.toList,zC,putT] at ac;have an:(a'.put (some tn) (.tuple #[.bool false]) |>.put (some tb) v).eval (.tmp tb)=.bool false:=by
   have:=ac.eval (.tmp tb);have e:St.eval ⟨((Lf s' r).set tn (.tuple [.bool false])).set tb (.bool false),Hf s'⟩ (.tmp tb)=.bool false:=by simp [St.eval,z6,ci s' r]
   rw [e] at this;exact this.bool_inv
  refine wpIn_seq (wpIn_cond_split an (fun h=>by cases h) fun _=>wpIn_exit ?_)
  show Exit.inBlock ex Qc (.exit ex) _ _;simp only [Exit.inBlock,if_true];rw [xkD] at aq;exact hQ .normal _ _ _ ⟨done,aq,by rw [W];exact ⟨rfl,r,rfl⟩⟩ ⟨A6,M6,ac⟩
 ·
  rw [xkD] at hk;unfold Oper.wp;simp only [execOp,bz,ce,J,Sem.run_bind,Result.andThen_ok,Sem.run_pure];obtain ⟨w5,bv⟩:∃ w5,w5=wd.putObj r (.mapIter (some bm) clock ab clock):=⟨_,rfl⟩;rw [<-bv] at ad;show K (a'.put o0.dst (.tuple #[.bool true,e.key,e.val])) (wd.putObj r (.mapIter (some bm) clock ab clock));rw [<-bv,cg];refine hK _ _ (wpList_plain ch fun K2 be=>?_)
  have b2:=aj.grow c7;have ai:SR w0 A0 w5 A' M' ⟨Lf s' r,Hf s'⟩ a':=by
   rw [bv];exact b2.turn (ds:=a'.defers) ca ⟨by simp,by simp⟩ c3 cz _ (b2.defers.same fun D hD=>World.putObj_heap_other (fun e=>by rw [e,ca] at hD;simp at hD))
  obtain ⟨tk,a2,U⟩:=ad.keys k e b1;rw [xr8 hk] at U;have ah:=ad.vals k e b1;rw [xr8 hk] at ah;simp only at U ah;have cu:Rel w5 A' M' e.key (.str (keyAt bx k)):=by rw [a2,U];exact .str tk
  have ac:=ai.put (d:=some tn) ai.base ai.outer Mv.refl ai.heap (Rel.tuple (w:=w5) (A:=A') (M:=M') #[.bool true,e.key,e.val] [.bool true,.str (keyAt bx k),valAt nb bx k] rfl (fun i hi=>by
   rcases i with _|_|_|i
   . exact .bool true
   . exact cu
   . exact ah
   . simp at hi;omega))
  have bg:OpA P Inv ⟨putT (Lf s' r) (some tn) (.tuple [.bool true,.str (keyAt bx k),valAt nb bx k]),Hf s'⟩ o1 ⟨putT (putT (Lf s' r) (some tn) (.tuple [.bool true,.str (keyAt bx k),valAt nb bx k])) o1.dst (.bool true),Hf s'++(none:Option Box).toList⟩:=by
   refine .inl (.inl ⟨.bool true,none,.inl ?_,rfl⟩);rw [cf];simp [fop,St.eval,putT,z6,b8 s' r]
  refine xsh aw hI bg ac fun v w7 A7 M7 Y ba=>be _ _ ?_
  have af:=ad.mv ac.heap ba;rw [b0] at Y |-;simp only [Option.toList,zC,putT] at Y;have an:((a'.put (some tn) (.tuple #[.bool true,e.key,e.val])).put (some tb) v).eval (.tmp tb)=.bool true:=by
   have:=Y.eval (.tmp tb);have e:St.eval ⟨((Lf s' r).set tn (.tuple [.bool true,.str (keyAt bx k),valAt nb bx k])).set tb (.bool true),Hf s'⟩ (.tmp tb)=.bool true:=by simp [St.eval,z6,ci s' r]
   rw [e] at this;exact this.bool_inv
  refine wpIn_seq (wpIn_cond_split an (fun _=>wpIn_skip ?_) (fun h=>by cases h))
  refine wpIn_block (wpIn_seq (wpIn_region_list (xlJ ro 0 _ (xjw cc) _ _ ?_)));rw [bf];refine wpList_plain c2 fun K3 c1=>?_
  have a3:((a'.put (some tn) (.tuple #[.bool true,e.key,e.val])).put (some tb) v).eval (.tmp it)=.pointer (some ⟨r,0,none⟩):=by
   have:=Y.eval (.tmp it);have e:St.eval ⟨((Lf s' r).set tn (.tuple [.bool true,.str (keyAt bx k),valAt nb bx k])).set tb (.bool true),Hf s'⟩ (.tmp it)=.gptr r:=by
    simp [St.eval,z6,List.getElem?_set,Ne.symm b7,Ne.symm cl,a8 s' r]
   rw [e] at this;generalize Act.eval _ (.tmp it)=u at this;cases this;rfl
  generalize ((a'.put (some tn) (.tuple #[.bool true,e.key,e.val])).put (some tb) v)=a7 at Y a3;have bu:=bw w7 A7 M7 af;unfold Oper.wp;simp only [execOp,c5,a3,bu,Sem.run_bind,Result.andThen_ok,Sem.run_pure];show K3 (a7.put oe.dst (.tuple #[e.key,e.val])) w7;rw [cy];refine c1 _ _ ?_;have cj:Rel w7 A7 M7 e.key (.str (keyAt bx k)):=by rw [a2,U];exact .str tk
  have bk:Rel w7 A7 M7 e.val (valAt nb bx k):=ba.rel ah;have au:=Y.put (d:=some te) Y.base Y.outer Mv.refl Y.heap (Rel.tuple (w:=w7) (A:=A7) (M:=M7) #[e.key,e.val] [.str (keyAt bx k),valAt nb bx k] rfl (fun i hi=>by
   rcases i with _|_|i
   . exact cj
   . exact bk
   . simp at hi;omega))
  obtain ⟨s2,cr,bo⟩:=az r done s' k hk b3 al.nodup (fun i hi=>by have:=al.lt i hi;rwa [xkD] at this) W
  have bp:=au.door n;refine xvF (Inv:=⟨Inv.inv,n,Inv.top⟩) ⟨aw.below⟩ hI cr bp fun a9 w9 ⟨A9,M9,hs9⟩=>?_
  refine bo w0 _ w9 A9 M9 a9 _ hI (zb n) hs9 ?_ ro c0;rintro ee ss aa ww hq ⟨A10,M10,bb⟩;cases ax:step s' k with
  | inl s3 =>
   rw [ax] at hq;obtain ⟨rfl,bt⟩:=hq;obtain ⟨A11,M11,O⟩:=bt w0 _ ww A10 M10 aa (zb n) bb;obtain ⟨O,am⟩:=au.undoor (a6 s') O;have bn:=af.mv au.heap am;exact ⟨_,cb,done++[k],s3,A11,M11,ab,O,bn,by rw [List.foldl_append,W];exact ax,rfl⟩
  | inr q =>
   rw [ax] at hq;obtain ⟨rfl,bt⟩:=hq;obtain ⟨A11,M11,O⟩:=bt w0 _ ww A10 M10 aa (zb n) bb;obtain ⟨O,am⟩:=au.undoor (a6 s') O;obtain ⟨l',b4⟩:=xyD af.nodup af.lt;rw [xkD] at b4;refine hQ .ret _ _ _ ⟨(done++[k])++l',b4,?_⟩ ⟨A11,M11,O⟩;rw [List.foldl_append,List.foldl_append,W];show match List.foldl (stepI step) (step s' k) l' with|.inl _=>_|.inr _=>_
   rw [ax,xtG];exact ⟨rfl,rfl⟩
theorem xyE {α β:Type} (f:α->β):∀ {l':List β} {l:List α},l'.Perm (l.map f)->∃ q:List α,q.Perm l/\q.map f=l'
 | [],l,h=>by
  have:l.map f=[]:=List.nil_perm.1 h;exact ⟨[],by rw [List.map_eq_nil_iff.1 this],rfl⟩
 | y::t,l,h=>by
  have hy:y∈l.map f:=h.mem_iff.1 (by simp)
  obtain ⟨x,hx,rfl⟩:=zJ.1 hy;obtain ⟨a,b,rfl⟩:=List.append_of_mem hx;have h1:t.Perm ((a++b).map f):=by
   rw [zw] at h |-;rw [zU] at h;exact List.Perm.cons_inv (h.trans List.perm_middle)
  obtain ⟨q,g1,g2⟩:=xyE f h1;exact ⟨x::q,(g1.cons x).trans List.perm_middle.symm,by simp [g2]⟩
section
variable {w : World} {A : Nat -> Prop} {M : Id -> Option MB} {B : Nat} {H : List Box}
theorem HR.permM (hR:HR w A M B H) {n:Nat} {bx:Box} (Z:H[n]?=some bx) (ag:xLn bx.ty=true) (af:xLm bx.ty 0=false) (ak:xLm bx.ty 1=false) (ap:bx.sz=2) (ai:bx.pm=true) {mn:MB} (a2:M (.b n)=some mn) {ys:List AV} (hp:ys.Perm bx.xs) :
  HR w A M B (H.set n ⟨bx.ver,bx.sz,bx.ty,ys,bx.frz,bx.pm⟩):=by
 have ae:n<H.length:=xcy Z;have O:ys.length=bx.xs.length:=hp.length_eq;refine hR.rebuild (fun k=>k=n) (fun k hk _=>zW (fun e=>hk e.symm)) (fun _ _=>rfl) (fun x m0 hx h0 c0=>⟨rfl,fun h=>h⟩) (fun _ _ _=>rfl) (zb _) (fun _ _ h=>h) (MExt.refl M) (fun x m0 hx h0=>?_) (fun x m1 x' m2 _ h1 h2 c1 c2 he=>hR.inj x x' m1 m2 h1 h2 c1 c2 he) (fun b hb=>hR.lt b hb)
 obtain ⟨rb,k1,k2⟩:=hR.box _ m0 h0;cases x with
 | b k =>
  have hx:k=n:=hx;subst hx;rw [xba,Z] at k1;cases k1;refine ⟨⟨bx.ver,bx.sz,bx.ty,ys,bx.frz,bx.pm⟩,by rw [xba];exact zK ae,k2.ver,k2.sz,k2.ty,k2.capm,by show ys.length<=_;rw [O];exact k2.fits,fun y hy=>k2.ok y (hp.mem_iff.1 hy),k2.low,k2.lt,fun a1=>?_,k2.guard⟩
  obtain ⟨c,c1,c2,c3⟩:=k2.cells a1;have an:xLn m0.ty=true:=by rw [<-k2.ty];exact xl1 ag
  have hsz:m0.sz=2:=by rw [<-k2.sz];exact ap
  unfold HoldsC at c1;rw [an] at c1;obtain ⟨es,clock,⟨e1,d0,d1,au,az⟩,d2,d3,d4,d5,d6⟩:=c1;have a0:(es.toList.zip bx.xs).map (·.2)=bx.xs:=List.map_snd_zip (by simp [d2])
  obtain ⟨zs,al,aq⟩:=xyE (fun z:MapEntry×AV=>z.2) (l':=ys) (l:=es.toList.zip bx.xs) (by rw [a0];exact hp)
  have aw:(es.toList.zip bx.xs).map (·.1)=es.toList:=List.map_fst_zip (by simp [d2])
  have aa:(zs.map (·.1)).Perm es.toList:=by rw [<-aw];exact al.map _
  have hq:∀ z,z∈zs->Rel w A xLz z.1.key (z.2.cells.getD 0 .top)/\Rel w A xLz z.1.val (z.2.cells.getD 1 .top)/\∃ t:ByteArray,z.1.key=.string t/\t.size<=maxLen:=fun z hz=>by
   obtain ⟨i,hi⟩:=List.mem_iff_getElem?.1 (al.mem_iff.1 hz);rw [List.getElem?_zip_eq_some] at hi;obtain ⟨U,ay⟩:=hi;have U:es[i]?=some z.1:=by simpa using U
   have ar:i<bx.xs.length:=by rw [<-d2];exact getElem?_ext_lt U
   have am:bx.xs.getD i .top=z.2:=by rw [z6,ay];rfl
   have W:∀ j,j<2->xLm bx.ty j=false->Rel w A xLz (c.getD (i*m0.sz+j) undef) (z.2.cells.getD j .top):=fun j hj aj=>by
    have h4:=c3 i j ar (by rw [hsz];exact hj)
    unfold MV xLK at h4;simp only [aj,ai] at h4;rw [am] at h4;exact h4
   have g0:=W 0 (by omega) af
   have g1:=W 1 (by omega) ak
   rw [Nat.add_zero,(d4 i _ U).1] at g0;rw [(d4 i _ U).2] at g1;exact ⟨g0,g1,d5 i _ U⟩
  have ah:zs.length=bx.xs.length:=by rw [<-O,<-aq];simp
  obtain ⟨q,ad⟩:∃ q:Array MapEntry,q=(zs.map (·.1)).toArray:=⟨_,rfl⟩;have Q:q.size=bx.xs.length:=by rw [ad];simpa using ah
  have J:q.toList=zs.map (·.1):=by rw [ad]
  have hget':∀ (k:Nat) (x:MapEntry),q[k]?=some x->k<bx.xs.length/\∃ z,z∈zs/\z.1=x/\ys.getD k .top=z.2:=fun k x hx=>by
   have hk:k<q.size:=getElem?_ext_lt hx;have hx':(zs.map (·.1))[k]?=some x:=by rw [<-J];simpa using hx
   rw [List.getElem?_map] at hx';cases Y:zs[k]? with
   | none=>rw [Y] at hx';simp at hx'
   | some z =>
    rw [Y] at hx';simp only [Option.map_some,z1] at hx';refine ⟨by rw [<-Q];exact hk,z,List.mem_of_getElem? Y,hx',?_⟩
    rw [<-aq,z6,List.getElem?_map,Y];rfl
  let c':Array Value:=Array.ofFn (n:=maxLen*2) fun k=>match q[k.val / 2]? with
   | some x=>if k.val % 2=0 then x.key else x.val
   | none=>undef
  have a5:q.size<=maxLen:=by rw [Q,<-d3];exact k2.fits
  have hc':∀ (k:Nat) (x:MapEntry),q[k]?=some x->c'.getD (k*m0.sz) undef=x.key/\c'.getD (k*m0.sz+1) undef=x.val:=fun k x hx=>by
   have hk:=getElem?_ext_lt hx;rw [hsz];have e1:k*2<maxLen*2:=by omega
   have e2:k*2+1<maxLen*2:=by omega
   constructor
   . rw [zt,Array.getElem?_ofFn,dif_pos e1];simp only [zg,Nat.mul_div_cancel _ (by omega:0<2),hx,Nat.mul_mod_left,if_true]
   . rw [zt,Array.getElem?_ofFn,dif_pos e2];have d1:(k*2+1) / 2=k:=by omega
     have d2:¬ (k*2+1) % 2=0:=by omega
     simp only [zg,d1,hx,d2,if_false]
  refine ⟨c',?_,by rw [d3,hsz];exact Array.size_ofFn,fun i j hi hj=>?_⟩
  . unfold HoldsC;rw [an];refine ⟨q,clock,⟨e1,d0,?_,fun x hx=>au x (aa.mem_iff.1 (by rw [<-J];exact hx)),?_⟩,by rw [Q];exact O.symm,d3,hc',fun k x hx=>?_,?_⟩
    . rw [J];exact d1.trans aa.symm
    . rw [J];exact ((aa.map _).nodup_iff).2 az
    . obtain ⟨_,z,h1,rfl,_⟩:=hget' k x hx;exact (hq z h1).2.2
    . have a3:(es.toList.map (·.key)).Nodup:=by
       refine zA.2 fun i j hi hj a4 e=>?_
       have hi':i<es.size:=by simpa using hi
       have hj':j<es.size:=by simpa using hj
       simp only [List.getElem_map,Array.getElem_toList] at e;have:=d6 i j es[i] es[j] (by simp [hi']) (by simp [hj']) e
       omega
      have hnd':(q.toList.map (·.key)).Nodup:=by rw [J];exact ((aa.map _).nodup_iff).2 a3
      intro k l x y hx hy e;have hk:=getElem?_ext_lt hx;have hl:=getElem?_ext_lt hy;have e3:q[k]=x:=by simpa [hk] using hx
      have e4:q[l]=y:=by simpa [hl] using hy
      exact (List.getElem_inj (i:=k) (j:=l) (h₀:=by simpa using hk) (h₁:=by simpa using hl) hnd').1 (by simp [e3,e4,e])
  . have hi:i<bx.xs.length:=by rw [<-O];exact hi
    have hi':i<q.size:=by rw [Q];exact hi
    obtain ⟨x,hx⟩:∃ x,q[i]?=some x:=⟨q[i],by simp [hi']⟩
    obtain ⟨_,z,h1,rfl,h3⟩:=hget' i x hx;have aj:∀ j,j<2->xLm bx.ty j=false:=fun j hj=>by
     rcases j with _|_|j
     . exact af
     . exact ak
     . omega
    rw [hsz] at hj;unfold MV xLK;simp only [aj j hj,ai];show Rel _ A xLz _ _;rw [h3];rcases j with _|_|j
    . rw [Nat.add_zero,(hc' i _ hx).1];exact (hq z h1).1
    . rw [(hc' i _ hx).2];exact (hq z h1).2.1
    . omega
 | r k i' j' =>
  have hx:k=n:=hx;subst hx;have ao:isC bx.ty=true:=by
   cases hc:isC bx.ty with
   | true=>rfl
   | false=>rw [xau hc] at ag;cases ag
  obtain ⟨e2,e3,e4,e5⟩:=xf8 Z ao k1;have a6:2<=j':=by
   rcases j' with _|_|j'
   . rw [af] at e2;cases e2
   . rw [ak] at e2;cases e2
   . omega
  have ab:∀ x,x∈bx.xs->x.okElem 2=true:=fun x hx=>by
   obtain ⟨bx',q1,q2⟩:=hR.box _ mn a2;rw [xba,Z] at q1;cases q1;have:=q2.ok x hx;rw [<-q2.sz,ap] at this;exact this
  have ac:∀ (xs:List AV),(∀ x,x∈xs->x.okElem 2=true)->(xs.getD i' .top).cells.getD j' .top=.top:=fun xs ax=>by
   rcases zI i' xs.length with h|h
   . have:=xan (ax _ (xat h));rw [z6 (l:=(xs.getD i' .top).cells),zy (by omega)];rfl
   . have:xs.getD i' .top=.top:=by rw [z6,zy h];rfl
     rw [this,z6,zy (by simp [AV.cells];omega)];rfl
  refine ⟨rb,?_,k2⟩;rw [xdi (zK ae) (by exact ao) (by exact e2) (by exact ai) (by show i'<ys.length;omega),e5,ac bx.xs ab]
  exact congrArg (fun y=>some (xLN _ y)) (ac ys fun x hx=>ab x (hp.mem_iff.1 hx))
end
theorem xFo {p t n ver i j:Nat} {T:List AV} {H:List Box} {bx:Box} (ht:T[t]?=some (.own (.b n) ver i j)) (Q:H[n]?=some bx) (q:xLn bx.ty=true) (O:xLm bx.ty 0=false) (Y:xLm bx.ty 1=false) (W:bx.sz=2) (U:bx.pm=true) {ys:List AV} (hp:ys.Perm bx.xs) :
  Weak p ⟨T,H⟩ ⟨T,H.set n ⟨bx.ver,bx.sz,bx.ty,ys,bx.frz,bx.pm⟩⟩:=fun w0 A0 w A M a _ hs=>by
 have J:t<T.length:=(List.getElem?_eq_some_iff.1 ht).1;have h:=hs.tmps t J;rw [show (St.tmps ⟨T,H⟩).getD t .top=.own (.b n) ver i j from by show T.getD t .top=_;rw [z6,ht];rfl] at h
 obtain ⟨m,hm,_⟩:=Rel.own_inv h;exact ⟨A,M,hs.base,hs.outer,hs.size,hs.tmps,hs.heap.permM Q q O Y W U hm hp,hs.defers,hs.ev⟩
def isRm:Code->Bool
 | .seq _ _=>true
 | _=>false
theorem xCa {P:Program} {Inv:IV} {E:Env} {c:Code} {ls:List Code} (h:xLF c=ls) (hl:∀ l,l∈ls->∀ lp,E.lp (xLA l)=some lp->LoopOk P Inv E.nt l lp) {rc:Code} {lp0:Lp} (hr:PieceOk P Inv E.nt rc lp0) (he:E.lp (condId rc)=some lp0)
  (h1:(xLB c).filter isRm=[rc]:=by kernel_rfl) (h2:((xLB c).all fun d=>isRm d || (E.lp (condId d)).isNone)=true:=by kernel_rfl):LoOk P Inv E c:=by
 refine ⟨fun l hm=>hl l (by rw [<-h];exact hm),fun d hd lp hs=>?_⟩
 cases hg:isRm d with
 | true =>
  have hm:d∈(xLB c).filter isRm:=List.mem_filter.2 ⟨hd,hg⟩;rw [h1,zu] at hm;subst hm;rw [he] at hs;simp only [z1] at hs;exact hs▸hr
 | false =>
  have:=zH.1 h2 d hd;rw [hg,hs] at this;simp at this
theorem xET {β γ:Type} {P:Program} {Inv:IV} {nt:Nat} {l:Code} {live liveO:List Nat} {conv:List (Nat×Nat×TypeId)} {pv:Pat (List AV) β} {pb:Pat (List Box) γ} {g:β->γ->Bool×LR}
  (h:∀ b c r,g b c=(true,r)->Does P Inv l (fun e1 s1=>e1=r.eval.1/\s1=⟨mkTs nt (liveO.zip r.eval.2.1),r.eval.2.2⟩) ⟨mkTs nt (live.zip (pv.enc b)),pb.enc c⟩):PieceOk P Inv nt l (lpOf live liveO conv pv pb g):=fun vals H r e=>by
 unfold lpOf at e;dsimp only at e;split at e
 . rename_i b hb;split at e
   . rename_i c hc;simp only [z1] at e;rw [pv.ok _ _ hb,pb.ok _ _ hc];exact h b c r e
   . simp at e
 . simp at e
def rmsOf:Code->List Code
 | .seq a b=>match isRng a with
  | true=>[.seq a b]
  | false=>rmsOf a++rmsOf b
 | .block _ c=>rmsOf c
 | .loop c=>rmsOf c
 | .cond _ a b=>rmsOf a++rmsOf b
 | _=>[]
noncomputable def rmOf (fn:Func):Code:=(rmsOf (fn.body.getD .skip)).getD 0 .skip
noncomputable def rmBody:Code->Code
 | .seq _ (.block _ (.loop (.seq _ (.seq _ (.block _ (.seq _ b))))))=>b
 | _=>.skip
noncomputable def rmOps1:Code->Array Oper
 | .seq _ (.block _ (.loop (.seq _ (.seq _ (.block _ (.seq (.region _ ops _) _))))))=>ops
 | _=>#[]
def XM (P:Program) (E:Env) (ops:Array Oper) (q:Code) (live:List Nat) (ts:List AV) (H:List Box):Option (Exit×List AV×List Box):=xOps P E none (some true) ops (ops.toList.drop 1) ⟨ts,H⟩ fun s1=>X P E none q s1 fun e2 s2=>match normS E.pin [] live s2 with
 | some (vs,H')=>xMe vs fun vs=>xLP H' fun H'=>br (Nat.beq s2.tmps.length E.nt) (some (e2,vs,H')) none
 | none=>none
theorem xpI {P:Program} {Inv:IV} {E:Env} (J:xLl P Inv E) {ops:Array Oper} {l:List Oper} {s:St} {T:Type} {r:T} {K:St->Option T} (h:xOps P E none (some true) ops l s K=some r):∃ s',Path (OpA P Inv) ops l s s'/\K s'=some r:=by
 have q:¬ (fun t:Option T=>t=some r) none:=by simp
 have hA:∀ o s (K:St->Option T),(fun t:Option T=>t=some r) (xopM P E none (some true) o s K)->∃ s1,OpA P Inv s o s1/\(fun t:Option T=>t=some r) (K s1):=fun o s K h=>xA7 (good:=fun t:Option T=>t=some r) q J h
 exact xgT (good:=fun t:Option T=>t=some r) q hA l s K h
theorem xwr {P:Program} {Inv:IV} {E:Env} (W:P.follows .mixedOrders=true) (Y:InvOk Inv) (J:Inv.pin=E.pin) (O:xLl P Inv E) {ops:Array Oper} {q:Code} (U:LoOk P Inv E q) {live:List Nat} {ts vs:List AV} {H H':List Box} {e0:Exit}
  (h:XM P E ops q live ts H=some (e0,vs,H')):∃ s2,Path (OpA P Inv) ops (ops.toList.drop 1) ⟨ts,H⟩ s2/\Does P Inv q (fun e s'=>e=e0/\Weak Inv.pin s' ⟨mkTs E.nt (live.zip vs),H'⟩) s2:=by
 unfold XM at h;obtain ⟨s2,h1,h2⟩:=xpI O h;refine ⟨s2,h1,xcE (xhe (good:=fun t=>t=some (e0,vs,H')) W Y J (by simp) O q _ _ U h2) fun e s' hq=>?_⟩
 split at hq
 case h_2=>simp at hq
 rename_i Z H1 Q;rw [xa9,xbt] at hq;obtain ⟨h3,h4⟩:=xbI (good:=fun t=>t=some (e0,vs,H')) (by simp) hq
 simp only [z1,za] at h4;obtain ⟨rfl,rfl,rfl⟩:=h4;have hw:=xeP Q;rw [zf h3,<-J] at hw;exact ⟨rfl,hw⟩
end Go.Sim
end
noncomputable section
set_option maxRecDepth 100000
namespace Go.Sim.M
open Go.RowKit Go.Proofs
noncomputable def rmOps9:Code->Array Oper
 | .seq (.region _ ops _) _=>ops
 | _=>#[]
noncomputable def rmOps0:Code->Array Oper
 | .seq _ (.block _ (.loop (.seq (.region _ ops _) _)))=>ops
 | _=>#[]
theorem Weak.trans {p:Nat} {s1 s2 s3:St} (h:Weak p s1 s2) (g:Weak p s2 s3):Weak p s1 s3:=fun w0 A0 w A M a hp hs=>by
 obtain ⟨A1,M1,h1⟩:=h w0 A0 w A M a hp hs;exact g w0 A0 w A1 M1 a hp h1
def rowK (xs:List AV) (k:Nat):List AV:=((xs.getD k .top).cells.getD 1 .top).toList
def keyK (xs:List AV) (k:Nat):List UInt8:=match (xs.getD k .top).cells.getD 0 .top with
 | .str s=>s
 | _=>[]
def keysD (xs:List AV):Bool:=(List.range xs.length).all fun i=>(List.range xs.length).all fun j=>Nat.beq i j || !(keyK xs i==keyK xs j)
noncomputable def crowdV (l:List AV):List AV:=(xeE ((xij l).getD []) 2).getD []
noncomputable def crowdOk (l:List AV):Bool:=(xij l).isSome&&(xeE ((xij l).getD []) 2).isSome
noncomputable def entC (xs:List AV) (k:Nat):AV:=.agg [.str (keyK xs k),.list 2 (crowdV (rowK xs k))]
noncomputable def piecesOk (xs:List AV):Bool:=keysD xs&&(decide (xs.length<4611686018427387904)&&(List.range xs.length).all fun k=>xL0 3 ((xs.getD k .top).cells.getD 1 .top)&&(crowdOk (rowK xs k)&&decide ((keyK xs k).length<=4611686018427387904)))
noncomputable def outC (xs:List AV):List AV:=(List.range xs.length).map (entC xs)
theorem xF2 {xs:List AV} (h:keysD xs=true) {i j:Nat} (hi:i<xs.length) (hj:j<xs.length) (hne:i≠j):keyK xs i≠keyK xs j:=fun e=>by
 have h1:=zH.1 (zH.1 h i (List.mem_range.2 hi)) j (List.mem_range.2 hj);rw [e] at h1;simp only [beq_self_eq_true,Bool.not_true,Bool.or_false] at h1;exact hne (zf h1)
noncomputable def stepC (xs:List AV) (ys:List AV) (k:Nat):List AV⊕Unit:=.inl (xLC ys (keyK xs k) (.list 2 (crowdV (rowK xs k))))
theorem xr3 {xs:List AV} (hd:keysD xs=true):∀ (ord pre:List Nat),(pre++ord).Nodup->(∀ k,k∈pre++ord->k<xs.length)->ord.foldl (stepI (stepC xs)) (.inl (pre.map (entC xs)))=.inl ((pre++ord).map (entC xs))
 | [],pre,_,_=>by simp
 | k::ord,pre,hn,hl=>by
  rw [List.foldl_cons];have hk:k<xs.length:=hl k (by simp)
  have q:xLC (pre.map (entC xs)) (keyK xs k) (.list 2 (crowdV (rowK xs k)))=(pre++[k]).map (entC xs):=by
   unfold xLC;rw [xph fun i hi=>?_]
   . simp [entC]
   . rw [z8] at hi;have e:((pre.map (entC xs)).getD i .top)=entC xs pre[i]:=by simp [z6,hi]
     rw [e];show (keyK xs pre[i]==keyK xs k)=false;rw [beq_eq_false_iff_ne];refine xF2 hd (hl _ (by simp)) hk fun e=>?_
     have:=List.nodup_append.1 hn;exact this.2.2 pre[i] (by simp) k (by simp) e
  show ord.foldl (stepI (stepC xs)) (Sum.inl (xLC _ _ _))=_;rw [q,xr3 hd ord (pre++[k]) (by simpa using hn) (by simpa using hl)]
  simp
noncomputable abbrev xGQ:Env:=xn0.E.fn 38 0 (lsOf []) (xLI [])
theorem xIX:xLl Tryz.prog (xL2.at 0) xGQ:=xn0.ok.fn
noncomputable abbrev xFz:Env:=xn0.E.fn 38 2 (lsOf []) (xLI [])
theorem xJN:xLl Tryz.prog (xL2.at 2) xFz:=xn0.ok.fn
theorem xJL:LoOk Tryz.prog (xL2.at 2) xFz (rmBody (rmOf Tryz.f30)):=xhW (by kernel_rfl)
theorem xG5:rmOf Tryz.f30=rngCode 9 (rmOps9 (rmOf Tryz.f30)) 2 10 (rmOps0 (rmOf Tryz.f30)) 28 3 11 (rmOps1 (rmOf Tryz.f30)) (rmBody (rmOf Tryz.f30)):=by kernel_rfl
noncomputable abbrev xuK:List AV:=mkTs 38 [(5,.func vpF [.own 0 0 0 0]),(9,.own 1 0 0 0)]
noncomputable abbrev xuJ (_:List AV) (r:Nat):List AV:=mkTs 38 [(9,.own 1 0 0 0),(26,.gptr r)]
def xkZ (xs:List AV) (z:Bool) (ys:List AV):List Box:=[⟨0,2,1208926202420975661744128,xs,z,true⟩,⟨0,2,1208925819614912709656576,ys,false,true⟩]
theorem xKa (xs ys:List AV) (k r:Nat) (s:List UInt8) (n:Nat):XM Tryz.prog xFz (rmOps1 (rmOf Tryz.f30)) (rmBody (rmOf Tryz.f30)) [9,26] (stepT (mkTs 38 [(9,.own (.b 1) 0 0 0),(26,.gptr r)]) 27 28 29 s (.osl (.r 0 k 1) (2*n) 0 n)) [⟨0,2,1208926202420975661744128,xs,true,true⟩,⟨0,2,1208925819614912709656576,ys,false,true⟩] =
 br (decide (k<xs.length)&&(xL0 (3:Nat) ((xs.getD k AV.top).cells.getD (1:Nat) AV.top)&&(2:Nat)*((xs.getD k AV.top).cells.getD (1:Nat) AV.top).toList.length==(2:Nat)*n)&&decide ((0:Nat)+n<=((xs.getD k AV.top).cells.getD (1:Nat) AV.top).toList.length)&&true) (br (xij (List.take n (List.drop (0:Nat) ((xs.getD k AV.top).cells.getD (1:Nat) AV.top).toList))).isSome (br (xeE ((xij (List.take n (List.drop (0:Nat) ((xs.getD k AV.top).cells.getD (1:Nat) AV.top).toList))).getD []) (2:Int)).isSome (br (decide (ys.length<(4611686018427387904:Nat))&&decide (s.length<=(4611686018427387904:Nat))) (some (Exit.normal,[AV.own (Id.b (1:Nat)) (0:Nat) (0:Nat) (0:Nat),AV.gptr r],[{ ver:=(0:Nat),sz:=(2:Nat),ty:=(1208926202420975661744128:Nat),xs:=xs,frz:=true,pm:=true },{ ver:=(0:Nat),sz:=(2:Nat),ty:=(1208925819614912709656576:Nat),xs:=xLC ys s (AV.list (2:Nat) ((xeE ((xij (List.take n (List.drop (0:Nat) ((xs.getD k AV.top).cells.getD (1:Nat) AV.top).toList))).getD []) (2:Int)).getD [])),frz:=false,pm:=true }])) none) none) none) none:=by kernel_rfl
theorem xIY (xs ys:List AV):xOps Tryz.prog xGQ none (some true) (rmOps9 (rmOf Tryz.f30)) (rmOps9 (rmOf Tryz.f30)).toList.dropLast ⟨xuK,xkZ xs false ys⟩ some=some ⟨xuK.set 25 (.own 0 0 0 0),xkZ xs false ys⟩:=by kernel_rfl
theorem xJ9 (xs ys:List AV) (r:Nat):normS 2 [] [9,26] ⟨(xuK.set 25 (.own 0 0 0 0)).set 26 (.gptr r),xkZ xs true ys⟩=some ([.own 1 0 0 0,.gptr r],xkZ xs true ys):=by kernel_rfl
theorem xJ7 (xs ys:List AV) (r:Nat):normS 0 [] [9] ⟨((xuJ ys r).set 27 (.tuple [.bool false])).set 28 (.bool false),xkZ xs true ys⟩=some ([.own 0 0 0 0],[⟨0,2,1208925819614912709656576,ys,false,true⟩]):=by kernel_rfl
theorem xD5 (ys:List AV) (r:Nat):(xuJ ys r).length=38:=by kernel_rfl
theorem xG9 (xs ys:List AV):(xkZ xs true ys).length=2:=by kernel_rfl
theorem xJ8 (xs:List AV) (r:Nat):Weak 2 ⟨(xuK.set 25 (.own 0 0 0 0)).set 26 (.gptr r),freeze (xkZ xs false []) [0]⟩ ⟨xuJ [] r,xkZ xs true []⟩:=by
 have e1:freeze (xkZ xs false []) [0]=xkZ xs true []:=by kernel_rfl
 have e2:mkTs ((xuK.set 25 (.own 0 0 0 0)).set 26 (.gptr r)).length ([9,26].zip [.own 1 0 0 0,.gptr r])=xuJ [] r:=by kernel_rfl
 have h:=xeP (xJ9 xs [] r);rw [e1,<-e2];exact h
noncomputable def xlZ:Lp:=lpOf [5,9] [9] [] (xL3 (xLJ 1099511627776 (xL3 (xMg 0 0 0 0) xL5)) (xL3 (xMg 1 0 0 0) xL5)) (xL3 (xMi 0 2 1208926202420975661744128 false true xL7) (xL3 (xMi 0 2 1208925819614912709656576 false true xL7) xL5))
 fun _ (xs,(ys,_))=>(piecesOk xs&&ys.isEmpty,.leaf .normal [.own 0 0 0 0] [⟨0,2,1208925819614912709656576,outC xs,false,true⟩])
theorem xFC:(rmOps9 (rmOf Tryz.f30)).toList=(rmOps9 (rmOf Tryz.f30)).toList.dropLast++[(rmOps9 (rmOf Tryz.f30)).toList.getLastD default]:=by kernel_rfl
theorem xG8:noDefer (rmOps9 (rmOf Tryz.f30))=true:=by kernel_rfl
theorem xIT:((rmOps9 (rmOf Tryz.f30)).toList.getLastD default).op=.range 85 (.tmp 25):=by kernel_rfl
theorem xIL:((rmOps9 (rmOf Tryz.f30)).toList.getLastD default).dst=some 26:=by kernel_rfl
theorem xIP:((rmOps9 (rmOf Tryz.f30)).toList.getLastD default).guard=none:=by kernel_rfl
theorem xIV:Tryz.prog.underlying 85=some (.map 9 86):=by kernel_rfl
theorem xFA:(rmOps0 (rmOf Tryz.f30)).toList=[(rmOps0 (rmOf Tryz.f30)).toList.getD 0 default,(rmOps0 (rmOf Tryz.f30)).toList.getD 1 default]:=by kernel_rfl
theorem xG6:noDefer (rmOps0 (rmOf Tryz.f30))=true:=by kernel_rfl
theorem xIR:((rmOps0 (rmOf Tryz.f30)).toList.getD 0 default).op=.next (.tmp 26) false:=by kernel_rfl
theorem xIJ:((rmOps0 (rmOf Tryz.f30)).toList.getD 0 default).dst=some 27:=by kernel_rfl
theorem xIN:((rmOps0 (rmOf Tryz.f30)).toList.getD 0 default).guard=none:=by kernel_rfl
theorem xIS:((rmOps0 (rmOf Tryz.f30)).toList.getD 1 default).op=.extract (.tmp 27) 0:=by kernel_rfl
theorem xIK:((rmOps0 (rmOf Tryz.f30)).toList.getD 1 default).dst=some 28:=by kernel_rfl
theorem xIO:((rmOps0 (rmOf Tryz.f30)).toList.getD 1 default).guard=none:=by kernel_rfl
theorem xFB:(rmOps1 (rmOf Tryz.f30)).toList=((rmOps1 (rmOf Tryz.f30)).toList.getD 0 default)::(rmOps1 (rmOf Tryz.f30)).toList.drop 1:=by kernel_rfl
theorem xG7:noDefer (rmOps1 (rmOf Tryz.f30))=true:=by kernel_rfl
theorem xIU:((rmOps1 (rmOf Tryz.f30)).toList.getD 0 default).op=.entry (.tmp 26):=by kernel_rfl
theorem xIM:((rmOps1 (rmOf Tryz.f30)).toList.getD 0 default).dst=some 29:=by kernel_rfl
theorem xIQ:((rmOps1 (rmOf Tryz.f30)).toList.getD 0 default).guard=none:=by kernel_rfl
theorem xJJ (xs:List AV):St.eval ⟨xuK.set 25 (.own 0 0 0 0),xkZ xs false []⟩ (.tmp 25)=.own (.b 0) 0 0 0:=by kernel_rfl
theorem xJI (xs:List AV):(freeze (xkZ xs false []) [0])[0]?=some ⟨0,2,1208926202420975661744128,xs,true,true⟩:=by kernel_rfl
theorem xJM:xLn 1208926202420975661744128=true:=by kernel_rfl
theorem xJR:xLm 1208926202420975661744128 0=false:=by kernel_rfl
theorem xJH (xs:List AV):(freeze (xkZ xs false []) [0]).length=2:=by kernel_rfl
theorem xJK (ys:List AV) (r:Nat):(xuJ ys r)[26]?=some (.gptr r):=by kernel_rfl
theorem xJS:xLm 1208926202420975661744128 1=true:=by kernel_rfl
theorem xJO:xLm 1208925819614912709656576 0=false:=by kernel_rfl
theorem xJP:xLm 1208925819614912709656576 1=false:=by kernel_rfl
theorem xJQ:xLn 1208925819614912709656576=true:=by kernel_rfl
theorem xIW (ys:List AV) (r:Nat):(((xuJ ys r).set 27 (.tuple [.bool false])).set 28 (.bool false))[9]?=some (.own (.b 1) 0 0 0):=by kernel_rfl
theorem xy4:PieceOk Tryz.prog (xL2.at 0) 38 (rmOf Tryz.f30) xlZ:=xET fun vv bb rr hh=>by
 obtain ⟨⟨_,_⟩,_,_⟩:=vv;obtain ⟨xs,ys,_⟩:=bb;obtain ⟨h1,rfl⟩:=Prod.mk.inj hh;simp only [piecesOk,ze,zk,List.isEmpty_iff] at h1;obtain ⟨⟨hd,ai,U⟩,rfl⟩:=h1;have Y:∀ k,k<xs.length->∃ rows,(xs.getD k .top).cells.getD 1 .top=.list 3 rows/\crowdOk rows=true/\(keyK xs k).length<=4611686018427387904:=fun k hk=>by
  have h2:=zH.1 U k (List.mem_range.2 hk);simp only [ze,zk] at h2;obtain ⟨h3,h4,h5⟩:=h2;obtain ⟨rows,h6⟩:=xdx h3;refine ⟨rows,h6,?_,h5⟩;unfold rowK at h4;rw [h6] at h4;exact h4
 obtain ⟨s1,hp,af⟩:=xpI xIX (K:=some) (xIY xs []);cases af;rw [xG5];refine xAU (xcE (xuc (Inv:=xL2.at 0) (xLv Tryz.prog _) (σ:=List AV) (ρ:=Unit) (pre:=(rmOps9 (rmOf Tryz.f30)).toList.dropLast) (exts:=(rmOps1 (rmOf Tryz.f30)).toList.drop 1) (o9:=(rmOps9 (rmOf Tryz.f30)).toList.getLastD default) (o0:=(rmOps0 (rmOf Tryz.f30)).toList.getD 0 default) (o1:=(rmOps0 (rmOf Tryz.f30)).toList.getD 1 default) (oe:=(rmOps1 (rmOf Tryz.f30)).toList.getD 0 default)
  (it:=26) (tn:=27) (tb:=28) (te:=29) (tyM:=85) (kt:=9) (et:=86) (mo:=.tmp 25)
  xFC xG8 xIT xIL xIP xIV xFA xG6 xIR xIJ xIN xIS xIK xIO xFB xG7 xIU xIM xIQ
  (by decide) (by decide) (by decide)
  hp (s1:=⟨xuK.set 25 (.own 0 0 0 0),xkZ xs false []⟩) (nb:=0) (ver:=0) (i:=0) (j:=0) (xJJ xs) (bx:=⟨0,2,1208926202420975661744128,xs,true,true⟩) (xJI xs) rfl xJM xJR rfl rfl rfl
  (n:=2) (Nat.le_of_eq (xJH xs)) xuJ (xkZ xs true) (fun _=>[]) (fun _=>[]) (stepC xs) []
  (fun ys=>by rw [xG9];exact zb 2) (fun ys r=>xJK ys r) (fun ys r=>by rw [xD5];decide) (fun ys r=>by rw [xD5];decide)
  (fun r=>xJ8 xs r) ?_) fun e s' hq=>?_)
 . intro r done s k hk aj O aa hf;obtain ⟨rows,hr,J,ab⟩:=Y k hk;have hs:s=done.map (entC xs):=by
    have:=xr3 hd done [] (by simpa using O) (by simpa using aa)
    rw [zV] at this;rw [this] at hf;simpa using hf.symm
   have ad:s.length<4611686018427387904:=by
    obtain ⟨l',ac⟩:=xyD O aa;have:=ac.length_eq;rw [hs];simp at this |-;omega
   have Z:valAt 0 ⟨0,2,1208926202420975661744128,xs,true,true⟩ k=.osl (.r 0 k 1) (2*rows.length) 0 rows.length:=by
    unfold valAt xLK;rw [xJS];simp only [hr];rfl
   have Q:keyAt ⟨0,2,1208926202420975661744128,xs,true,true⟩ k=keyK xs k:=rfl;simp only [crowdOk,ze] at J;have hx:=xKa xs s k r (keyK xs k) rows.length;rw [hr] at hx;simp only [AV.toList,zq,y3,hk,J.1,J.2,ad,ab,xL0,zm,zG,zb,beq_self_eq_true,zR,xab,show Nat.beq 3 3=true from rfl,sUF] at hx
   obtain ⟨s2,h1,h2⟩:=xwr xLu (xLv Tryz.prog _) rfl xJN xJL hx;rw [Z,Q];refine ⟨s2,h1,xcE h2 fun e s' ⟨he,hw⟩=>?_⟩
   have ah:rowK xs k=rows:=by unfold rowK;rw [hr];rfl
   simp only [stepC,ah];exact ⟨he,hw⟩
 . obtain ⟨ord,q,hq⟩:=hq;have ae:ord.Nodup:=(q.nodup_iff).2 List.nodup_range;have ag:∀ k,k∈ord->k<xs.length:=fun k hk=>List.mem_range.1 (q.mem_iff.1 hk)
   have W:=xr3 hd ord [] (by simpa using ae) (by simpa using ag)
   rw [zV] at W;rw [W] at hq;obtain ⟨rfl,r,rfl⟩:=hq;refine ⟨_,?_,rfl,rfl⟩;refine Weak.trans (xFo (t:=9) (n:=1) (ver:=0) (i:=0) (j:=0) (xIW _ r) (bx:=⟨0,2,1208925819614912709656576,([]++ord).map (entC xs),false,true⟩) rfl xJQ xJO xJP rfl rfl (ys:=(List.range xs.length).map (entC xs)) ?_) (xeP (xJ7 xs ((List.range xs.length).map (entC xs)) r));exact (q.symm.map _)
end Go.Sim.M
end
noncomputable section
set_option maxRecDepth 100000
namespace Go.Sim.M
open Go.IntKind (i64 u64 u8)
open Go.RowKit Go.Proofs
def xlY (a:List UInt8) (b c d e f:LA) (g:Int) (h:LA):=crowds1 (gC f g 0).toList (gC f g 1).toInt (gC f g 2).toInt a b c d e h
def xnQ {T:Type} (a:List UInt8) (b c d e h:LA) (i f:Int) (g:LA) (δ:T) (κl:(Int×LA)->T) (κr:(LA)->T):T:=br (decide (f<i)) (br (ixI h f) (br (ixT h f 3 [Sh.list 3,Sh.int .i64,Sh.int .i64] 0) (br ((xlY a b c d e h f g).isSome) (κl (i64.wrap (f+1),(xlY a b c d e h f g).getD [])) δ) δ) δ) (κr (g))
def xdI (a:List UInt8) (b c d e g:LA) (h:Int):StT (Int×LA) (LA):=fun (i,f)=>xnQ a b c d e g h i f none inL inR
def xpz:=xn0.l 38 0 [1000027,10000013,11000005] [(4000009,xlZ)] Tryz.f30 0 lk0 [5,6,14,15,16] [5] [] (q5 (xLJ 1099511627776 (q1 (xMg 0 0 0 0))) (xLJ 52 (q2 (xMm 5 0 0 (q1 (xMh (q5 pStr (qL 3) (qL 1) (qL 2) (qL 7))))) (xLJ 1099511627776 (q1 (xMg 0 0 0 0))))) (qL 3) qI qI) (q1 (qB 0 2 1208926202420975661744128 xL7)) (fun ((_,_),(((a,b,c,d,e,_),_),(_,_),_),g,h,i,_) (f,_)=>(xdI a b c d e g h,(i,f),fun p=>(.leaf (.exit 0) [AV.func 1099511627776 [AV.own 0 0 0 0]] [bF 0 2 1208926202420975661744128 p]))) [] fun ((_,_),(((a,b,c,d,e,_),_),(_,_),_),g,h,_,_) _ (i,f)=>(((((),()),(((a,b,c,d,e,()),()),((),()),()),g,h,i,()),(f,())),xnQ a b c d e g h i f none)
def xjn:Env:=xn0.E.fn 38 0 (lsOf [1000027,10000013,11000005]) (xLI [(4000009,xlZ),(4,xpz.lp)])
theorem xzZ:xLl P0 (xL2.at 0) xjn:=xn0.ok.fn
theorem xwq:LoOk P0 (xL2.at xjn.pin) xjn (Tryz.f30.body.getD .skip):=xCa (lp0:=xlZ) (hr:=xy4) (he:=by kernel_rfl) (ls:=[xLp Tryz.f30 0]) (by kernel_rfl) (fun l b lp a=>by
 simp only [zB,List.not_mem_nil,or_false] at b;rcases b with rfl
 . rw [show xjn.lp (xLA (xLp Tryz.f30 0))=some (xpz.lp) by kernel_rfl] at a
   simp only [z1] at a;subst a;exact xpz.ok)
def xrx {T:Type} (e:List UInt8) (b a c d l:LA) (δ:T) (κ:LA->T):T:=br ((Iter (xdI e b a c d l (↑l.length:Int)) (0,[])).isSome) (br (piecesOk ((Iter (xdI e b a c d l (↑l.length:Int)) (0,[])).getD [])&&true) (κ (outC ((Iter (xdI e b a c d l (↑l.length:Int)) (0,[])).getD []))) δ) δ
def crowds (e:List UInt8) (b a c d l:LA):=xrx e b a c d l none some
theorem xFO (e:List UInt8) (b a c d l:LA):Enc (fun (p:LA)=>(((AV.own 0 0 0 0,([⟨0,2,1208925819614912709656576,p,false,true⟩]:List Box))):(AV×List Box))) (crowds e b a c d l) (XFM P0 xjn Tryz.f30 (Tryz.f30.body.getD .skip) [AV.agg [AV.str e,AV.list 3 b,AV.list 1 a,AV.list 2 c,AV.list 7 d],AV.list 3 l] []):=by
 have h:XFM P0 xjn Tryz.f30 (Tryz.f30.body.getD .skip) [AV.agg [AV.str e,AV.list 3 b,AV.list 1 a,AV.list 2 c,AV.list 7 d],AV.list 3 l] []=xrx e b a c d l none (fun (p:LA)=>some (((AV.own 0 0 0 0,([⟨0,2,1208925819614912709656576,p,false,true⟩]:List Box))):(AV×List Box))):=by kernel_rfl
 rw [h];unfold crowds xrx;repeat' (first|refine Enc.br ?_ ?_|exact Enc.none|exact Enc.some rfl)
def xFN:LA->List Box->Option (Bool×AV×List Box):=omOf (xL4 (xMk (xL4 (sEq pStr) (xL4 (xMj 3 xL7) (xL4 (xMj 1 xL7) (xL4 (xMj 2 xL7) (xL4 (xMj 7 xL7) xL6)))))) (xL4 (xMj 3 xL7) xL6)) xL5 fun ((e,(b,(a,(c,(d,_))))),(l,_)) _=>((crowds e b a c d l).isSome,((AV.own 0 0 0 0,([⟨0,2,1208925819614912709656576,((crowds e b a c d l).getD []),false,true⟩]:List Box))))
theorem xFM:OmOk P0 xL2 30 (xFN):=xtZ fun c k m g e=>by
 obtain ⟨⟨n,⟨h,⟨f,⟨i,⟨j,_⟩⟩⟩⟩⟩,⟨l,_⟩⟩:=c;obtain ⟨a,b⟩:=Prod.mk.inj e;refine xqH (p:=xjn.pin) (xqG xLu (xLv P0 _) rfl xzZ rfl Tryz.func30 rfl (by kernel_rfl) xwq ((xFO _ _ _ _ _ _ _ (xa6 (d:=[]) a)).trans ?_))
 exact congrArg some b
def xpt:EO:=xn0.wM xFM
end Go.Sim.M
end
noncomputable section
set_option maxRecDepth 100000
namespace Go.Sim.M
open Go.RowKit Go.Proofs
def anyC (ys:List AV):Bool:=(List.range ys.length).any fun k=>decide ((↑(rowK ys k).length:Int)>0)
def rowsC (ys:List AV):Bool:=(List.range ys.length).all fun k=>xL0 2 ((ys.getD k .top).cells.getD 1 .top)
def stepH (ys:List AV) (_:Unit) (k:Nat):Unit⊕Unit:=br (decide ((↑(rowK ys k).length:Int)>0)) (.inr ()) (.inl ())
theorem xvy (ys:List AV):∀ ord:List Nat,ord.foldl (stepI (stepH ys)) (.inl ())=br (ord.any fun k=>decide ((↑(rowK ys k).length:Int)>0)) (.inr ()) (.inl ())
 | []=>rfl
 | k::ord=>by
  rw [List.foldl_cons];show ord.foldl (stepI (stepH ys)) (br (decide ((↑(rowK ys k).length:Int)>0)) (Sum.inr ()) (.inl ()))=_;rw [List.any_cons];cases decide ((↑(rowK ys k).length:Int)>0) with
  | true=>exact xtG _ _ _
  | false=>exact xvy ys ord
theorem xFE {p:Nat->Bool} {l l':List Nat} (h:l.Perm l'):l.any p=l'.any p:=by
 rw [Bool.eq_iff_iff,List.any_eq_true,List.any_eq_true];exact ⟨fun ⟨x,h1,h2⟩=>⟨x,h.mem_iff.1 h1,h2⟩,fun ⟨x,h1,h2⟩=>⟨x,h.mem_iff.2 h1,h2⟩⟩
noncomputable abbrev xGN:Env:=xpt.E.fn 18 0 (lsOf [1000027]) (xLI [])
theorem xIG:xLl Tryz.prog (xL2.at 0) xGN:=xpt.ok.fn
noncomputable abbrev xFu:Env:=xpt.E.fn 18 1 (lsOf [1000027]) (xLI [])
theorem xGP:xLl Tryz.prog (xL2.at 1) xFu:=xpt.ok.fn
theorem xGO:LoOk Tryz.prog (xL2.at 1) xFu (rmBody (rmOf Tryz.f10)):=xhW (by kernel_rfl)
theorem xG1:rmOf Tryz.f10=rngCode 1 (rmOps9 (rmOf Tryz.f10)) 0 2 (rmOps0 (rmOf Tryz.f10)) 12 1 3 (rmOps1 (rmOf Tryz.f10)) (rmBody (rmOf Tryz.f10)):=by kernel_rfl
noncomputable abbrev xII (tn:List UInt8) (tcs tkey tfs tck:List AV):AV:=.agg [.str tn,.list 3 tcs,.list 1 tkey,.list 2 tfs,.list 7 tck]
noncomputable abbrev xIr (tn:List UInt8) (tcs tkey tfs tck l:List AV):List AV:=mkTs 18 [(1,.list 3 l),(2,.eptr 5 [xII tn tcs tkey tfs tck] 0 0)]
noncomputable abbrev xtO (tn:List UInt8) (tcs tkey tfs tck l:List AV):List AV:=(((xIr tn tcs tkey tfs tck l).set 7 (xII tn tcs tkey tfs tck)).set 8 (.list 3 l)).set 9 (.own (.b 0) 0 0 0)
noncomputable abbrev xwi (_:Unit) (r:Nat):List AV:=mkTs 18 [(4,.top),(10,.gptr r)]
def xkY (z:Bool) (ys:List AV):List Box:=[⟨0,2,1208925819614912709656576,ys,z,true⟩]
theorem xJ6 (ys ps:List AV) (k r:Nat) (s:List UInt8):XM Tryz.prog xFu (rmOps1 (rmOf Tryz.f10)) (rmBody (rmOf Tryz.f10)) [4,10] (stepT (mkTs 18 [(4,.top),(10,.gptr r)]) 11 12 13 s (.list 2 ps)) [⟨0,2,1208925819614912709656576,ys,true,true⟩] =
 br (decide ((↑ps.length:Int)>(0:Int))) (some (Exit.ret,[AV.bool false,AV.gptr r],[{ ver:=(0:Nat),sz:=(2:Nat),ty:=(1208925819614912709656576:Nat),xs:=ys,frz:=true,pm:=true }])) (some (Exit.normal,[AV.top,AV.gptr r],[{ ver:=(0:Nat),sz:=(2:Nat),ty:=(1208925819614912709656576:Nat),xs:=ys,frz:=true,pm:=true }])):=by kernel_rfl
theorem xIH (tn:List UInt8) (O q J Q l:List AV):xOps Tryz.prog xGN none (some true) (rmOps9 (rmOf Tryz.f10)) (rmOps9 (rmOf Tryz.f10)).toList.dropLast ⟨xIr tn O q J Q l,[]⟩ some=br (crowds tn O q J Q l).isSome (some ⟨xtO tn O q J Q l,xkY false ((crowds tn O q J Q l).getD [])⟩) none:=by kernel_rfl
theorem xJ4 (tn:List UInt8) (O q J Q l ys:List AV) (r:Nat):normS 1 [] [4,10] ⟨(xtO tn O q J Q l).set 10 (.gptr r),xkY true ys⟩=some ([.top,.gptr r],xkY true ys):=by kernel_rfl
theorem xJ5 (ys:List AV) (r:Nat):normS 1 [] [4] ⟨mkTs 18 [(4,.bool false),(10,.gptr r)],xkY true ys⟩=some ([.bool false],xkY true ys):=by kernel_rfl
theorem xJE (ys:List AV):normS 0 [] [4] ⟨mkTs 18 [(4,.bool false)],xkY true ys⟩=some ([.bool false],[]):=by kernel_rfl
theorem xJ2 (ys:List AV) (r:Nat):normS 0 [] [4] ⟨((xwi () r).set 11 (.tuple [.bool false])).set 12 (.bool false),xkY true ys⟩=some ([.top],[]):=by kernel_rfl
theorem xFy:(rmOps9 (rmOf Tryz.f10)).toList=(rmOps9 (rmOf Tryz.f10)).toList.dropLast++[(rmOps9 (rmOf Tryz.f10)).toList.getLastD default]:=by kernel_rfl
theorem xG4:noDefer (rmOps9 (rmOf Tryz.f10))=true:=by kernel_rfl
theorem xID:((rmOps9 (rmOf Tryz.f10)).toList.getLastD default).op=.range 66 (.tmp 9):=by kernel_rfl
theorem xIu:((rmOps9 (rmOf Tryz.f10)).toList.getLastD default).dst=some 10:=by kernel_rfl
theorem xIz:((rmOps9 (rmOf Tryz.f10)).toList.getLastD default).guard=none:=by kernel_rfl
theorem xIF:Tryz.prog.underlying 66=some (.map 9 41):=by kernel_rfl
theorem xFv:(rmOps0 (rmOf Tryz.f10)).toList=[(rmOps0 (rmOf Tryz.f10)).toList.getD 0 default,(rmOps0 (rmOf Tryz.f10)).toList.getD 1 default]:=by kernel_rfl
theorem xG2:noDefer (rmOps0 (rmOf Tryz.f10))=true:=by kernel_rfl
theorem xIB:((rmOps0 (rmOf Tryz.f10)).toList.getD 0 default).op=.next (.tmp 10) false:=by kernel_rfl
theorem xIs:((rmOps0 (rmOf Tryz.f10)).toList.getD 0 default).dst=some 11:=by kernel_rfl
theorem xIw:((rmOps0 (rmOf Tryz.f10)).toList.getD 0 default).guard=none:=by kernel_rfl
theorem xIC:((rmOps0 (rmOf Tryz.f10)).toList.getD 1 default).op=.extract (.tmp 11) 0:=by kernel_rfl
theorem xIt:((rmOps0 (rmOf Tryz.f10)).toList.getD 1 default).dst=some 12:=by kernel_rfl
theorem xIy:((rmOps0 (rmOf Tryz.f10)).toList.getD 1 default).guard=none:=by kernel_rfl
theorem xFw:(rmOps1 (rmOf Tryz.f10)).toList=((rmOps1 (rmOf Tryz.f10)).toList.getD 0 default)::(rmOps1 (rmOf Tryz.f10)).toList.drop 1:=by kernel_rfl
theorem xG3:noDefer (rmOps1 (rmOf Tryz.f10))=true:=by kernel_rfl
theorem xIE:((rmOps1 (rmOf Tryz.f10)).toList.getD 0 default).op=.entry (.tmp 10):=by kernel_rfl
theorem xIv:((rmOps1 (rmOf Tryz.f10)).toList.getD 0 default).dst=some 13:=by kernel_rfl
theorem xIA:((rmOps1 (rmOf Tryz.f10)).toList.getD 0 default).guard=none:=by kernel_rfl
theorem xJB (tn:List UInt8) (O q J Q l ys:List AV):St.eval ⟨xtO tn O q J Q l,xkY false ys⟩ (.tmp 9)=.own (.b 0) 0 0 0:=by kernel_rfl
theorem xCy (ys:List AV):freeze (xkY false ys) [0]=xkY true ys:=by kernel_rfl
theorem xJD:xLn 1208925819614912709656576=true:=by kernel_rfl
theorem xJF:xLm 1208925819614912709656576 0=false:=by kernel_rfl
theorem xJG:xLm 1208925819614912709656576 1=false:=by kernel_rfl
theorem xJC (s:Unit) (r:Nat):(xwi s r)[10]?=some (.gptr r):=by kernel_rfl
theorem xD4 (s:Unit) (r:Nat):(xwi s r).length=18:=by kernel_rfl
theorem xJ3 (tn:List UInt8) (O q J Q l ys:List AV) (r:Nat):Weak 1 ⟨(xtO tn O q J Q l).set 10 (.gptr r),freeze (xkY false ys) [0]⟩ ⟨xwi () r,xkY true ys⟩:=by
 have e2:mkTs ((xtO tn O q J Q l).set 10 (.gptr r)).length ([4,10].zip [.top,.gptr r])=xwi () r:=by kernel_rfl
 have h:=xeP (xJ4 tn O q J Q l ys r);rw [xCy,<-e2];exact h
noncomputable def xrb:Lp:=lpOf [1,2] [4] [] (xL3 (xMl 3 xL7) (xL3 (xMm 5 0 0 (xL3 (xMh (xL3 pStr (xL3 (xMl 3 xL7) (xL3 (xMl 1 xL7) (xL3 (xMl 2 xL7) (xL3 (xMl 7 xL7) xL5)))))) xL5)) xL5)) xL5
 fun (l,(((tn,(O,(q,(J,(Q,_))))),_),_)) _=>((crowds tn O q J Q l).isSome&&rowsC ((crowds tn O q J Q l).getD []),.node (anyC ((crowds tn O q J Q l).getD [])) (.leaf .ret [.bool false] []) (.leaf .normal [.top] []))
theorem xAg:PieceOk Tryz.prog (xL2.at 0) 18 (rmOf Tryz.f10) xrb:=xET fun vv bb rr hh=>by
 obtain ⟨l,⟨⟨tn,Q,q,J,O,_⟩,_⟩,_⟩:=vv;obtain ⟨h1,rfl⟩:=Prod.mk.inj hh;simp only [ze] at h1;obtain ⟨hc,W⟩:=h1;have U:=xIH tn Q q J O l;rw [hc] at U;generalize (crowds tn Q q J O l).getD []=ys at *;have Z:∀ k,k<ys.length->(ys.getD k .top).cells.getD 1 .top=.list 2 (rowK ys k):=fun k hk=>by
  obtain ⟨rows,h6⟩:=xdx (zH.1 W k (List.mem_range.2 hk));unfold rowK;rw [h6];rfl
 obtain ⟨s1,hp,ab⟩:=xpI xIG (K:=some) U;cases ab;rw [xG1];refine xAU (xcE (xuc (Inv:=xL2.at 0) (xLv Tryz.prog _) (σ:=Unit) (ρ:=Unit) (pre:=(rmOps9 (rmOf Tryz.f10)).toList.dropLast) (exts:=(rmOps1 (rmOf Tryz.f10)).toList.drop 1) (o9:=(rmOps9 (rmOf Tryz.f10)).toList.getLastD default) (o0:=(rmOps0 (rmOf Tryz.f10)).toList.getD 0 default) (o1:=(rmOps0 (rmOf Tryz.f10)).toList.getD 1 default) (oe:=(rmOps1 (rmOf Tryz.f10)).toList.getD 0 default)
  (it:=10) (tn:=11) (tb:=12) (te:=13) (tyM:=66) (kt:=9) (et:=41) (mo:=.tmp 9)
  xFy xG4 xID xIu xIz xIF xFv xG2 xIB xIs xIw xIC xIt xIy xFw xG3 xIE xIv xIA
  (by decide) (by decide) (by decide)
  hp (s1:=⟨xtO tn Q q J O l,xkY false ys⟩) (nb:=0) (ver:=0) (i:=0) (j:=0) (xJB tn Q q J O l ys) (bx:=⟨0,2,1208925819614912709656576,ys,true,true⟩) (by rw [xCy];rfl) rfl xJD xJF rfl rfl rfl
  (n:=1) (by rw [xCy];exact zb 1) xwi (fun _=>xkY true ys) (fun _=>mkTs 18 [(4,.bool false)]) (fun _=>xkY true ys) (stepH ys) ()
  (fun _=>zb 1) xJC (fun s r=>by rw [xD4];decide) (fun s r=>by rw [xD4];decide)
  (fun r=>xJ3 tn Q q J O l ys r) ?_) fun e s' hq=>?_)
 . intro r done s k hk ac ad ae hf;have aa:valAt 0 ⟨0,2,1208925819614912709656576,ys,true,true⟩ k=.list 2 (rowK ys k):=by
    unfold valAt xLK;rw [xJG];exact Z k hk
   have hx:=xJ6 ys (rowK ys k) k r (keyAt ⟨0,2,1208925819614912709656576,ys,true,true⟩ k);rw [aa];unfold stepH;cases hb:decide ((↑(rowK ys k).length:Int)>0) with
   | true =>
    rw [hb] at hx;obtain ⟨s2,h1,h2⟩:=xwr xLu (xLv Tryz.prog _) rfl xGP xGO hx;exact ⟨s2,h1,xcE h2 fun e s' ⟨he,hw⟩=>⟨he,Weak.trans hw (xeP (xJ5 ys r))⟩⟩
   | false =>
    rw [hb] at hx;obtain ⟨s2,h1,h2⟩:=xwr xLu (xLv Tryz.prog _) rfl xGP xGO hx;exact ⟨s2,h1,xcE h2 fun e s' ⟨he,hw⟩=>⟨he,hw⟩⟩
 . obtain ⟨ord,Y,hq⟩:=hq;rw [xvy,xFE Y] at hq;unfold anyC;simp only [LR.eval];cases hb:(List.range ys.length).any fun k=>decide ((↑(rowK ys k).length:Int)>0) with
   | true =>
    rw [hb] at hq;obtain ⟨rfl,rfl⟩:=hq;exact ⟨_,xeP (xJE ys),rfl,rfl⟩
   | false =>
    rw [hb] at hq;obtain ⟨rfl,r,rfl⟩:=hq;exact ⟨_,xeP (xJ2 ys r),rfl,rfl⟩
end Go.Sim.M
end
noncomputable section
set_option maxRecDepth 100000
namespace Go.Sim.M
open Go.IntKind (i64 u64 u8)
open Go.RowKit Go.Proofs
def xeA:Env:=xpt.E.fn 18 0 (lsOf [1000027]) (xLI [(4000001,xrb)])
theorem xtJ:xLl P0 (xL2.at 0) xeA:=xpt.ok.fn
theorem xsD:LoOk P0 (xL2.at xeA.pin) xeA (Tryz.f10.body.getD .skip):=xCa (ls:=[]) (by kernel_rfl) (fun l a=>by simp at a) (lp0:=xrb) xAg (by kernel_rfl)
def xj9 {T:Type} (e:List UInt8) (b a c d l:LA) (δ:T) (κ:Bool->T):T:=br ((crowds e b a c d l).isSome&&rowsC ((crowds e b a c d l).getD [])) (br (anyC ((crowds e b a c d l).getD [])) (κ (false)) (κ (true))) δ
def xcf (e:List UInt8) (b a c d l:LA):=xj9 e b a c d l none some
theorem xwR (e:List UInt8) (b a c d l:LA):Enc (fun (p:Bool)=>((AV.bool p):AV)) (xcf e b a c d l) (XF P0 xeA Tryz.f10 (Tryz.f10.body.getD .skip) [AV.agg [AV.str e,AV.list 3 b,AV.list 1 a,AV.list 2 c,AV.list 7 d],AV.list 3 l]):=by
 have h:XF P0 xeA Tryz.f10 (Tryz.f10.body.getD .skip) [AV.agg [AV.str e,AV.list 3 b,AV.list 1 a,AV.list 2 c,AV.list 7 d],AV.list 3 l]=xj9 e b a c d l none (fun (p:Bool)=>some ((AV.bool p):AV)):=by kernel_rfl
 rw [h];unfold xcf xj9;repeat' (first|refine Enc.br ?_ ?_|exact Enc.none|exact Enc.some rfl)
def xwQ:LA->Option (Bool×AV):=ocOf (xL4 (xMk (xL4 (sEq pStr) (xL4 (xMj 3 xL7) (xL4 (xMj 1 xL7) (xL4 (xMj 2 xL7) (xL4 (xMj 7 xL7) xL6)))))) (xL4 (xMj 3 xL7) xL6)) fun ((e,(b,(a,(c,(d,_))))),(l,_))=>((xcf e b a c d l).isSome,(AV.bool ((xcf e b a c d l).getD false)))
theorem xrW:OcOk P0 xL2 10 (xwQ):=xhh fun h k i=>by
 obtain ⟨⟨j,⟨e,⟨a,⟨f,⟨g,_⟩⟩⟩⟩⟩,⟨l,_⟩⟩:=h;obtain ⟨b,c⟩:=Prod.mk.inj i;refine xjq (p:=xeA.pin) (xlu xLu (xLv P0 _) rfl xtJ Tryz.func10 rfl (by kernel_rfl) xsD ((xwR _ _ _ _ _ _ _ (xa6 (d:=false) b)).trans ?_))
 exact congrArg some c
def xIp:EO:=xpt.w xrW
def xoW {T:Type} (a b:LA) (δ:T) (κ:Bool->T):T:=br ((xcg a b).isSome) (κ ((xcg a b).getD 0==0)) δ
def xnx (a b:LA):=xoW a b none some
def xD2:EO:=xIp.f Tryz.func71 9 0 [] [] lk0 (u2 (uL 3) (uL 3)) (fun (a,b,_) _=>xoW a b) (fun _ p=>AV.bool p) false
def xis {T:Type} (j c:LA) (k:Int) (d:Nat) (a:Int) (e:List UInt8) (f g h i b:LA) (δ:T) (κl:(Nat×Int×List UInt8×LA×LA×LA×LA×LA)->T) (κr:(Nat×LA)->T):T:=br (decide (a<k)) (br (ixI c a) (br (ixT c a 3 [Sh.list 3,Sh.int .i64,Sh.int .i64] 0) (br ((xdq e f g h i (gC c a 0).toList).isSome) (br ((xnx ((xdq e f g h i (gC c a 0).toList).getD []) j).isSome) (br ((xnx ((xdq e f g h i (gC c a 0).toList).getD []) j).getD false) (br (rmB d b 1 40) (κl (d+1,i64.wrap (a+1),e,f,g,h,i,b++[AV.agg [AV.list 3 (gC c a 0).toList,AV.int .i64 (gC c a 1).toInt,AV.int .i64 (gC c a 2).toInt]])) δ) (κl (d,i64.wrap (a+1),e,f,g,h,i,b))) δ) δ) δ) δ) (κr (d,b))
def xcO (c d:LA) (e:Int):StT (Nat×Int×List UInt8×LA×LA×LA×LA×LA) (Nat×LA):=fun (b,f,g,h,i,j,k,a)=>xis c d e b f g h i j k a none inL inR
def xpa:=xD2.l 28 0 [] [] Tryz.f40 0 lk0 [2,3,7,10,11,12] [7] [(7,3,58)] (q6 (qL 3) (xMg 0 0 0 0) (xMf 1 0 0) (qL 3) qI qI) (q2 (qB 0 5 27 (q1 (xMh (q5 pStr (qL 3) (qL 1) (qL 2) (qL 7))))) (qB 0 3 58 xL7)) (fun (c,_,b,d,e,f,_) (((g,h,i,j,k,_),_),a,_)=>(xcO c d e,(b,f,g,h,i,j,k,a),fun p=>(.leaf (.exit 0) [AV.osl 0 0 0 p.1] [bF 0 3 58 p.2]))) (0,[]) fun (c,_,_,d,e,_,_) _ (b,f,g,h,i,j,k,a)=>(((c,(),b,d,e,f,()),(((g,h,i,j,k,()),()),a,())),xis c d e b f g h i j k a none)
def xnM (e:List UInt8) (b a c d l f:LA):=Iter (xcO f l (↑l.length:Int)) (0,0,e,b,a,c,d,[])
def xnL (e:List UInt8) (b a c d l f:LA):=(xnM e b a c d l f).getD (0,[])
def xnJ (e:List UInt8) (b a c d l f:LA):=(xnL e b a c d l f).snd
def xnK (e:List UInt8) (b a c d l f:LA):=(xnL e b a c d l f).fst
def xox {T:Type} (e:List UInt8) (b a c d l f:LA) (δ:T) (κ:LA->T):T:=br ((xnM e b a c d l f).isSome) (br (decide (0+xnK e b a c d l f<=(xnJ e b a c d l f).length)&&true) (κ (List.take (xnK e b a c d l f) (List.drop 0 (xnJ e b a c d l f)))) δ) δ
def xch (e:List UInt8) (b a c d l f:LA):=xox e b a c d l f none some
def xzH:EO:=xD2.f Tryz.func40 28 0 [] [(3,xpa.lp)] (lk1 xpa.ok) (u3 (xMk (u5 (sEq pStr) (uL 3) (uL 1) (uL 2) (uL 7))) (uL 3) (uL 3)) (fun ((e,b,a,c,d,_),l,g,_) _=>xox e b a c d l g) (fun _ p=>AV.list 3 p) []
def xe4 {T:Type} (d:LA) (e:Int) (c:Nat) (a:Int) (b:LA) (δ:T) (κl:(Nat×Int×LA)->T) (κr:(Nat×LA)->T):T:=br (decide (a<e)) (br (ixI d a) (br (ixT d a 3 [Sh.list 3,Sh.int .i64,Sh.int .i64] 0) (br (rmB c b 1 16) (κl (c+1,i64.wrap (a+1),b++[AV.agg [AV.int .i64 (gC d a 1).toInt,AV.int .i64 (gC d a 2).toInt]])) δ) δ) δ) (κr (c,b))
def xcA (c:LA) (d:Int):StT (Nat×Int×LA) (Nat×LA):=fun (b,e,a)=>xe4 c d b e a none inL inR
def xlG:=xzH.l 27 0 [] [] Tryz.f19 0 lk0 [7,13,14,15] [7] [(7,2,50)] (q4 (xMf 0 0 0) (qL 3) qI qI) (q1 (qB 0 2 50 xL7)) (fun (b,c,d,e,_) (a,_)=>(xcA c d,(b,e,a),fun p=>(.leaf (.exit 0) [AV.osl 0 0 0 p.1] [bF 0 2 50 p.2]))) (0,[]) fun (_,c,d,_,_) _ (b,e,a)=>(((b,c,d,e,()),(a,())),xe4 c d b e a none)
def xjN (e:List UInt8) (b a c d l f:LA):=Iter (xcA ((xch e b a c d l f).getD []) (↑((xch e b a c d l f).getD []).length:Int)) (0,0,[])
def xjM (e:List UInt8) (b a c d l f:LA):=(xjN e b a c d l f).getD (0,[])
def xjK (e:List UInt8) (b a c d l f:LA):=(xjM e b a c d l f).fst
def xjL (e:List UInt8) (b a c d l f:LA):=(xjM e b a c d l f).snd
def xjJ (e:List UInt8) (b a c d l f:LA):=xlC (List.take (xjK e b a c d l f) (List.drop 0 (xjL e b a c d l f)))
def xkA {T:Type} (e:List UInt8) (b a c d l f:LA) (δ:T) (κ:LA->T):T:=br ((xch e b a c d l f).isSome) (br ((xjN e b a c d l f).isSome) (br (decide (0+xjK e b a c d l f<=(xjL e b a c d l f).length)&&true) (br ((xjJ e b a c d l f).isSome) (κ ((xjJ e b a c d l f).getD [])) δ) δ) δ) δ
def xja (e:List UInt8) (b a c d l f:LA):=xkA e b a c d l f none some
def xua:LA->Option (Bool×AV):=fnO (u3 (xMk (u5 (sEq pStr) (uL 3) (uL 1) (uL 2) (uL 7))) (uL 3) (uL 3)) (fun ((e,b,a,c,d,_),l,f,_) _=>xkA e b a c d l f) (fun _ p=>AV.list 2 p) []
theorem xo9:OcOk P0 xL2 19 xua:=fnC xzH.ok Tryz.func19 27 0 [] [(3,xlG.lp)] (lk1 xlG.ok)
def xvh:EO:=xzH.w xo9
def xd5 {T:Type} (g:List UInt8) (i j k l b:LA) (m n:Int) (o:LA) (p q:Int) (e:LA) (h:Int) (d:Nat) (c:Int) (f a:LA) (δ:T) (κl:(Nat×Int×LA×LA)->T) (κr:(Nat×LA×LA)->T):T:=br (decide (c<h)) (br (ixI e c) (br (ixT e c 2 [Sh.int .i64,Sh.int .i64] 0) (br (decide (b.length*32<=140737488355328)&&decide (b.length<=4611686018427387904)) (br (decide (0+b.length<=b.length)&&true&&true&&true&&true) (br (rmB d a 1 72) (κl (d+1,i64.wrap (c+1),f,a++[AV.agg [AV.int .i64 2,AV.str g,AV.int .i64 0,AV.list 3 (List.take b.length (List.drop 0 b)),AV.int .i64 (gC e c 0).toInt,AV.int .i64 (gC e c 1).toInt]])) δ) δ) δ) δ) δ) (κr (d,f,a))
def xbs (d:List UInt8) (e f g h i:LA) (j k:Int) (l:LA) (m n:Int) (o:LA) (p:Int):StT (Nat×Int×LA×LA) (Nat×LA×LA):=fun (b,q,c,a)=>xd5 d e f g h i j k l m n o p b q c a none inL inR
def xdF:=xvh.l 51 0 [52,1000027,8000000,5000021,6000008,5000037,6000010] [] Tryz.f13 1 lk0 [2,5,6,8,15,16,17,31,32,33] [2,5,6,15,16,17] [(6,6,52)] (q10 (xMm 5 0 0 (q1 (xMh (q5 pStr (qL 3) (qL 1) (qL 2) (qL 7))))) (xMg 0 0 0 0) (xMf 1 0 0) (xMm 3 0 0 (q1 (xMh (q3 (qL 3) qI qI)))) (qL 3) qI qI (qL 2) qI qI) (q2 (qB 0 2 1208925819614912709656576 xL7) (qB 0 6 52 xL7)) (fun (((d,e,f,g,h,_),_),_,b,((m,n,o,_),_),i,j,k,q,r,s,_) (c,a,_)=>(xbs d e f g h m n o i j k q r,(b,s,c,a),fun p=>(.leaf (.exit 2) [AV.eptr 5 [AV.agg [AV.str d,AV.list 3 e,AV.list 1 f,AV.list 2 g,AV.list 7 h]] 0 0,AV.own 0 0 0 0,AV.osl 1 0 0 p.1,AV.list 3 i,AV.int .i64 j,AV.int .i64 k] [bF 0 2 1208925819614912709656576 p.2.1,bF 0 6 52 p.2.2]))) (0,[],[]) fun (((d,e,f,g,h,_),_),_,_,((m,n,o,_),_),i,j,k,q,r,_,_) _ (b,s,c,a)=>(((((d,e,f,g,h,()),()),(),b,((m,n,o,()),()),i,j,k,q,r,s,()),(c,a,())),xd5 d e f g h m n o i j k q r b s c a none)
def xbK (a:List UInt8) (b c d e f:LA) (g:Int):=(xgf ((xdq a b c d e (gC f g 0).toList).getD [])).getD []
def xdE (d:List UInt8) (e f g h a:LA) (b:Int) (c:LA):=xhw [AV.agg [AV.int .i64 (gC a b 1).toInt,AV.int .i64 (gC a b 2).toInt]] (lookL c (xbK d e f g h a b))
def xdD (b:List UInt8) (c d e f g:LA) (h:Int) (a:LA):=(xdE b c d e f g h a).getD []
def xdC (d:List UInt8) (e f g h a:LA) (k:Int) (j:Nat) (b:Int) (c i:LA):=Iter (xbs d e f g h (gC a b 0).toList (gC a b 1).toInt (gC a b 2).toInt a k b (xdD d e f g h a b c) (↑(xdD d e f g h a b c).length:Int)) (j,0,c,i)
def xdB (d:List UInt8) (e f g h i:LA) (j:Int) (b:Nat) (k:Int) (c a:LA):=(xdC d e f g h i j b k c a).getD (0,[],[])
def xdA (d:List UInt8) (e f g h i:LA) (j:Int) (b:Nat) (k:Int) (c a:LA):=(xdB d e f g h i j b k c a).snd
def xd4 {T:Type} (d:List UInt8) (e f g h b:LA) (k:Int) (j:Nat) (a:Int) (i c:LA) (δ:T) (κl:(Nat×Int×LA×LA)->T) (κr:(Nat×LA)->T):T:=br (decide (a<k)) (br (ixI b a) (br (ixT b a 3 [Sh.list 3,Sh.int .i64,Sh.int .i64] 0) (br ((xdq d e f g h (gC b a 0).toList).isSome) (br ((xgf ((xdq d e f g h (gC b a 0).toList).getD [])).isSome) (br (decide ((xbK d e f g h b a).length<=4611686018427387904)&&(!xLQ i (xbK d e f g h b a) || xL0 2 (xLE AV.nils i (xbK d e f g h b a)))) (br ((xdE d e f g h b a i).isSome) (br ((xdC d e f g h b k j a i c).isSome) (κl ((xdB d e f g h b k j a i c).fst,i64.wrap (a+1),(xdA d e f g h b k j a i c).fst,(xdA d e f g h b k j a i c).snd)) δ) δ) δ) δ) δ) δ) δ) (κr (j,c))
def xbr (d:List UInt8) (e f g h i:LA) (j:Int):StT (Nat×Int×LA×LA) (Nat×LA):=fun (b,k,c,a)=>xd4 d e f g h i j b k c a none inL inR
def xkc:=xvh.l 51 0 [52,1000027,8000000,5000021,6000008,5000037,6000010] [(7,xdF.lp)] Tryz.f13 0 (lk1 xdF.ok) [2,5,6,15,16,17] [6] [(6,6,52)] (q6 (xMm 5 0 0 (q1 (xMh (q5 pStr (qL 3) (qL 1) (qL 2) (qL 7))))) (xMg 0 0 0 0) (xMf 1 0 0) (qL 3) qI qI) (q2 (qB 0 2 1208925819614912709656576 xL7) (qB 0 6 52 xL7)) (fun (((d,e,f,g,h,_),_),_,b,i,j,k,_) (c,a,_)=>(xbr d e f g h i j,(b,k,c,a),fun p=>(.leaf (.exit 0) [AV.osl 0 0 0 p.1] [bF 0 6 52 p.2]))) (0,[]) fun (((d,e,f,g,h,_),_),_,_,i,j,_,_) _ (b,k,c,a)=>(((((d,e,f,g,h,()),()),(),b,i,j,k,()),(c,a,())),xd4 d e f g h i j b k c a none)
def xiq (e:List UInt8) (b a c d l:LA):=Iter (xbr e b a c d ((xjd l).getD []) (↑((xjd l).getD []).length:Int)) (0,0,(crowds e b a c d l).getD [],[])
def xip (e:List UInt8) (b a c d l:LA):=(xiq e b a c d l).getD (0,[])
def xin (e:List UInt8) (b a c d l:LA):=(xip e b a c d l).fst
def xio (e:List UInt8) (b a c d l:LA):=(xip e b a c d l).snd
def xiY {T:Type} (e:List UInt8) (b a c d l:LA) (δ:T) (κ:LA->T):T:=br ((crowds e b a c d l).isSome) (br ((xjd l).isSome) (br ((xiq e b a c d l).isSome) (br (decide (0+xin e b a c d l<=(xio e b a c d l).length)&&true) (κ (List.take (xin e b a c d l) (List.drop 0 (xio e b a c d l)))) δ) δ) δ) δ
def xeL (e:List UInt8) (b a c d l:LA):=xiY e b a c d l none some
def xs0:LA->Option (Bool×AV):=fnO (u2 (xMk (u5 (sEq pStr) (uL 3) (uL 1) (uL 2) (uL 7))) (uL 3)) (fun ((e,b,a,c,d,_),l,_) _=>xiY e b a c d l) (fun _ p=>AV.list 6 p) []
theorem xmT:OcOk P0 xL2 13 xs0:=fnC xvh.ok Tryz.func13 51 0 [52,1000027,8000000,5000021,6000008,5000037,6000010] [(7,xdF.lp),(4,xkc.lp)] (lks (lkC xkc.ok (lkC xdF.ok lkN)))
def xIq:EO:=xvh.w xmT
end Go.Sim.M
end
