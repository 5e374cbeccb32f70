/- Part 15 of the proof of the law. -/
import Derived.Test.YtodofdnlhoknhaaGreatDoorSP14
import Derived.Maps.RangeRun
set_option linter.defProp false
set_option linter.unusedVariables false
set_option linter.unusedSimpArgs false
set_option linter.unnecessarySimpa false
noncomputable section
namespace Go.Sim
open Go.RowKit
def Ev.mv {w w':World} {A A':Nat->Prop} {M M':Id->Option MB} {B n:Nat} {H:List Box} {av df:Nat->Prop} (hR:HR w A M B H) (he:Ev ⟨av,w,A,M,n,df⟩ w' A' M') (hn:H.length<=n):Mv w A M w' A' M' :=
 ⟨he.size,fun b hb hA=>he.keep b hb (.inl hA),he.less,he.more,fun id m hm=>he.ids id m (by
  obtain ⟨bx,h1,_⟩:=hR.box id m hm;exact Nat.lt_of_lt_of_le (xjX h1) hn) hm,⟨fun b hb q=>he.keep b hb (.inr q),he.src⟩⟩
def SR.grow {w0 w w':World} {A0:Cx} {A:Nat->Prop} {M:Id->Option MB} {s:St} {a:Act} (h:SR w0 A0 w A M s a) (hb:Below w.heap.size w w'):SR w0 A0 w' A M s a :=
 ⟨
  h.base.trans (hb.mono h.base.size),h.outer,h.size,fun t ht=>(h.tmps t ht).grow hb,h.heap.grow hb,h.defers.same fun D hD=>hb.block D (xjY hD),
  h.ev.step ⟨hb.size,fun b q _=>hb.block b q,fun _ _ h=>h,fun _ _ h _=>h,MExt.refl M,.of_new hb fun _ _ h=>.inl h⟩⟩
def SR.door {w0 w:World} {A0:Cx} {A:Nat->Prop} {M:Id->Option MB} {s:St} {a:Act} (h:SR w0 A0 w A M s a) (n:Nat):SR w0 ⟨A0.av,w,A,M,n,fun D=>A0.df D\/A0.w1.heap.size<=D⟩ w A M s a :=
 ⟨h.base,h.outer,h.size,h.tmps,h.heap,by
  obtain ⟨L,e1,e2,e3⟩:=h.defers;exact ⟨L,e1,e2,fun D hD=>⟨(e3 D hD).1,.inl (e3 D hD).2.1,(e3 D hD).2.2⟩⟩,Ev.refl (C:=⟨A0.av,w,A,M,n,_⟩)⟩
def SR.undoor {w0 w w':World} {A0:Cx} {A A':Nat->Prop} {M M':Id->Option MB} {s s':St} {a a':Act} {n:Nat} (h:SR w0 A0 w A M s a) (hn:s.heap.length<=n) (h':SR w0 ⟨A0.av,w,A,M,n,fun D=>A0.df D\/A0.w1.heap.size<=D⟩ w' A' M' s' a'):SR w0 A0 w' A' M' s' a'/\Mv w A M w' A' M':=by
 have q:=h'.ev.mv h.heap hn;refine ⟨⟨h'.base,h'.outer,h'.size,h'.tmps,h'.heap,?_,h.ev.step q⟩,q⟩;obtain ⟨L,e1,e2,e3⟩:=h'.defers;refine ⟨L,e1,e2,fun D hD=>⟨(e3 D hD).1,?_,(e3 D hD).2.2⟩⟩
 rcases (e3 D hD).2.1 with h1|h1
 . exact h1
 . exact .inr (Nat.le_trans h.ev.size h1)
structure Itr (w:World) (A:Nat->Prop) (M:Id->Option MB) (r bm:Nat) (e1 es:Array MapEntry) (clock:Nat) (seen:Array Nat) (kv:List (List UInt8×AV)) (done:List Nat):Prop where
 it:w.heap[r]?=some (.mapIter (some bm) clock seen clock)
 map:w.heap[bm]?=some (.map e1 clock)
 av:¬ A bm
 perm:MapP e1 es clock
 size:es.size=kv.length
 keys:∀ (i:Nat) (x:MapEntry),es[i]?=some x->∃ t:ByteArray,x.key=.string t/\(kv.getD i ([],.top)).1=t.data.toList
 vals:∀ (i:Nat) (x:MapEntry),es[i]?=some x->Rel w A M x.val (kv.getD i ([],.top)).2
 seen:∀ (i:Nat) (x:MapEntry),es[i]?=some x->(seen.contains x.born=true↔i∈done)
 nodup:done.Nodup
 lt:∀ i,i∈done->i<kv.length
section
variable {P : Program} {w w' : World} {A A' : Nat -> Prop} {M M' : Id -> Option MB} {r bm clock B : Nat} {e1 es : Array MapEntry} {seen : Array Nat} {kv : List (List UInt8 × AV)} {done : List Nat} {H : List Box}
def Itr.mv (h:Itr w A M r bm e1 es clock seen kv done) (hR:HR w A M B H) (hm:Mv w A M w' A' M'):Itr w' A' M' r bm e1 es clock seen kv done :=
 ⟨(hm.touch.1 r (xjY h.it) (hR.not_box h.it (by simp) (by simp))).trans h.it,(hm.keep bm (xjY h.map) h.av).trans h.map,fun hA=>h.av (hm.less bm (xjY h.map) hA),h.perm,h.size,h.keys,fun i x hx=>hm.rel (h.vals i x hx),h.seen,h.nodup,h.lt⟩
def getElem?_ext_lt {α:Type} {es:Array α} {i:Nat} {x:α} (h:es[i]?=some x):i<es.size:=by
 rcases zJ i es.size with h'|h'
 . exact h'
 . rw [Array.getElem?_eq_none h'] at h;simp at h
def Itr.next (h:Itr w A M r bm e1 es clock seen kv done) (ty:TypeId) :
  (done.Perm (List.range kv.length)/\(Instr.next (.pointer (some ⟨r,0,none⟩)) false ty).run P w=.ok (.tuple #[.bool false]) w) \/
  ∃ (i:Nat) (e:MapEntry) (w1:World) (q:Array Nat),i<kv.length/\i∉done/\es[i]?=some e/\Below w.heap.size w w1/\(∀ a u,w.cell? a=some u->w1.cell? a=some u)/\w1.heap[r]?=some (.mapIter (some bm) clock seen clock) /\
   (Instr.next (.pointer (some ⟨r,0,none⟩)) false ty).run P w=.ok (.tuple #[.bool true,e.key,e.val]) (w1.putObj r (.mapIter (some bm) clock q clock))/\Itr (w1.putObj r (.mapIter (some bm) clock q clock)) A M r bm e1 es clock q kv (done++[i]) /\
   (∀ w2 A2 M2,Itr w2 A2 M2 r bm e1 es clock q kv (done++[i])->(Instr.entry (.pointer (some ⟨r,0,none⟩))).run P w2=.ok (.tuple #[e.key,e.val]) w2)/\(leftOf e1 q).size<(leftOf e1 seen).size:=by
 obtain ⟨hp,Y,ad⟩:=h.perm;have aa:(e1.toList.map (·.born)).Nodup:=((hp.map _).nodup_iff).2 ad;have V:∀ i x,es[i]?=some x->i<kv.length:=fun i x hx=>by rw [<-h.size];exact getElem?_ext_lt hx
 rcases run_next_at (P:=P) w ty r bm clock clock seen e1 clock h.it h.map (fun x hx=>Y x (hp.mem_iff.1 hx)) (zd _) with ⟨h0,O⟩|⟨e,he,w1,J,O⟩
 . refine .inl ⟨?_,O⟩;refine (List.perm_ext_iff_of_nodup h.nodup List.nodup_range).2 fun i=>⟨fun hi=>List.mem_range.2 (h.lt i hi),fun hi=>?_⟩
   have hi':i<es.size:=by rw [h.size];exact List.mem_range.1 hi
   have hx:es[i]?=some es[i]:=by simp [hi']
   exact (h.seen i _ hx).1 (all_seen e1 seen h0 _ (hp.mem_iff.2 (by simp)))
 . obtain ⟨ac,ab⟩:=mem_left he;obtain ⟨i,hi⟩:=List.mem_iff_getElem?.1 (hp.mem_iff.1 ac);have hi:es[i]?=some e:=by simpa using hi
   have hb:Below w.heap.size w w1:=by
    rcases J with rfl|rfl
    . exact Below.refl _ _
    . exact ⟨rfl,rfl,rfl,zd _,fun _ _=>rfl⟩
   have hc:∀ a u,w.cell? a=some u->w1.cell? a=some u:=fun a u hu=>by rcases J with rfl|rfl<;>exact hu
   have hsz:w1.heap.size=w.heap.size:=by rcases J with rfl|rfl<;>rfl
   have W:w1.heap[r]?=some (.mapIter (some bm) clock seen clock):=by rcases J with rfl|rfl<;>exact h.it
   have ae:w1.heap[bm]?=some (.map e1 clock):=by rcases J with rfl|rfl<;>exact h.map
   have hne:bm≠r:=fun e=>by have:=h.map;rw [e,h.it] at this;simp at this
   have Q:i∉done:=fun hd=>by rw [(h.seen i e hi).2 hd] at ab;cases ab
   have ag:(w1.putObj r (.mapIter (some bm) clock (seen.push e.born) clock)).heap[bm]?=some (.map e1 clock):=(World.putObj_heap_other hne).trans ae;have af:(w1.putObj r (.mapIter (some bm) clock (seen.push e.born) clock)).heap[r]?=some (.mapIter (some bm) clock (seen.push e.born) clock):=World.putObj_heap_same (xjY W);refine .inr ⟨i,e,w1,seen.push e.born,V i e hi,Q,hi,hb,hc,W,O,⟨af,ag,h.av,h.perm,h.size,h.keys,fun k x hx=>?_,fun k x hx=>?_,?_,fun k hk=>?_⟩,fun w2 A2 M2 h2=>run_entry_at _ r bm clock seen e1 clock e h2.it h2.map ac aa,left_shrinks e1 seen e he⟩
   . exact ((h.vals k x hx).grow hb).turn (by simp) (xn7 W ⟨by simp,by simp⟩)
   . rw [contains_push,Bool.or_eq_true,h.seen k x hx,zG,zv,beq_iff_eq];constructor
     . rintro (h1|h1)
       . exact .inl h1
       . right;have hk:=getElem?_ext_lt hx;have Z:=getElem?_ext_lt hi;have e3:es[k]=x:=by simpa [hk] using hx
         have e4:es[i]=e:=by simpa [Z] using hi
         have:=(List.getElem_inj (i:=k) (j:=i) (h₀:=by simpa using hk) (h₁:=by simpa using Z) ad).1 (by simp [e3,e4,h1])
         exact this
     . rintro (h1|rfl)
       . exact .inl h1
       . right;rw [hi] at hx;simp only [z6] at hx;rw [hx]
   . rw [List.nodup_append];exact ⟨h.nodup,by simp,fun a ha c hc=>by simp only [zv] at hc;rintro rfl;exact Q (hc▸ha)⟩
   . rcases zG.1 hk with hk|hk
     . exact h.lt k hk
     . simp only [zv] at hk;subst hk;exact V k e hi
end
def stepI {σ ρ:Type} (step:σ->Nat->σ⊕ρ):σ⊕ρ->Nat->σ⊕ρ
 | .inl s,x=>step s x
 | .inr r,_=>.inr r
def xuh {σ ρ:Type} (step:σ->Nat->σ⊕ρ) (r:ρ):∀ l:List Nat,l.foldl (stepI step) (.inr r)=.inr r
 | []=>rfl
 | x::l=>by simp only [List.foldl_cons,stepI];exact xuh step r l
def xpo {P:Program} {ro:Option Nat} {c:Code} {Qc:Exit->Act->World->Prop} (I:Nat->Act->World->Prop)
  (O:∀ n a w,I n a w->c.wpIn (wideR ro) 0 P (fun e a' w'=>match e with|.normal=>∃ n',n'<n/\I n' a' w'|e=>Qc e a' w') a w) (n:Nat) (a:Act) (w:World) (h:I n a w):(Code.loop c).wpIn (wideR ro) 0 P Qc a w:=by
 intro b k cs hb _ _;have hb:b.roundOf=ro:=hb;subst hb;have key:∀ n a w,I n a w->∃ e a' w',Qc e a' w'/\ArrivesIn (Machine.fenced P (wideR b.roundOf)) P (lone (b.atR a (.code c::.inLoop c::k)) cs w) b k cs e a' w':=by
  intro n;induction n using Nat.strongRecOn with
  | _ n ih =>
   intro a w hI;obtain ⟨e,a₁,w₁,hq,q⟩:=O n a w hI b (.inLoop c::k) cs rfl (xrQ _ _) (xpm _ _);cases e with
   | normal =>
    obtain ⟨n',k1,k2⟩:=hq;obtain ⟨e₂,a₂,w₂,Q,J⟩:=ih n' k1 a₁ w₁ k2;exact ⟨e₂,a₂,w₂,Q,.of_steps (StepsIn.trans q (.one (xly _ P _) stepR_inLoop)) J⟩
   | exit id=>exact ⟨_,a₁,w₁,hq,.pass (x:=.inLoop c) rfl (fun _ _=>.inl (by simp)) q⟩
   | goto l=>exact ⟨_,a₁,w₁,hq,.pass (x:=.inLoop c) rfl (fun _ _=>.inl (by simp)) q⟩
   | ret=>exact ⟨_,a₁,w₁,hq,.pass (x:=.inLoop c) rfl (fun _ _=>.inl (by simp)) q⟩
   | panic ch=>exact ⟨_,a₁,w₁,hq,.pass (x:=.inLoop c) rfl (fun _ _=>.inl (by simp)) q⟩
   | outgrown=>exact ⟨_,a₁,w₁,hq,.pass (x:=.inLoop c) rfl (fun _ _=>.inl (by simp)) q⟩
 obtain ⟨e,a',w',hq,q⟩:=key n a w h;exact ⟨e,a',w',hq,.of_steps (.one (xly _ P _) stepR_loop) q⟩
def xdF {P:Program} {Inv:IV} {w0:World} {A0:Cx} (W:InvOk Inv) (hI:Inv w0) {ops:Array Oper} {Q:Exit->Act->World->Prop} {rest:List Oper} {l:List Oper} {s s':St} (hp:Path (OpA P Inv) ops l s s') :
  ∀ {w:World} {A:Nat->Prop} {M:Id->Option MB} {a:Act},SR w0 A0 w A M s a ->
  (∀ a' w' A' M',SR w0 A0 w' A' M' s' a'->Mv w A M w' A' M'->wpList P ops Q rest a' w')->wpList P ops Q (l++rest) a w:=by
 induction hp with
 | nil s=>intro w A M a hs hK;exact hK a w A M hs Mv.refl
 | run hw h hr ih =>
  intro w A M a hs hK;have q:=xg1 (w:=w) (A:=A) (M:=M) hs.size (fun j O d _ _ J=>hs.tmps d J) hw
  rw [List.cons_append];unfold wpList;rw [if_pos q];exact .inl (xiq W hI h hs fun v w' A' M' V Y=>ih V fun a2 w2 A2 M2 h2 m2=>hK a2 w2 A2 M2 h2 (Y.trans m2))
 | skip hw hr ih =>
  intro w A M a hs hK;have q:=xg1 (w:=w) (A:=A) (M:=M) hs.size (fun j O d _ _ J=>hs.tmps d J) hw
  rw [List.cons_append];unfold wpList;rw [if_neg (by rw [q];simp)]
  exact ih (hs.skip _) fun a2 w2 A2 M2 h2 m2=>hK a2 w2 A2 M2 h2 m2
def keyAt (bx:Box) (k:Nat):List UInt8:=match (bx.xs.getD k .top).cells.getD 0 .top with
 | .str s=>s
 | _=>[]
def valAt (nb:Nat) (bx:Box) (k:Nat):AV:=xIk nb k 1 bx.ty ((bx.xs.getD k .top).cells.getD 1 .top)
def kvOf (nb:Nat) (bx:Box):List (List UInt8×AV):=(List.range bx.xs.length).map fun k=>(keyAt bx k,valAt nb bx k)
def xjo (nb:Nat) (bx:Box):(kvOf nb bx).length=bx.xs.length:=by simp [kvOf]
def xoX {nb:Nat} {bx:Box} {k:Nat} (h:k<bx.xs.length):(kvOf nb bx).getD k ([],.top)=(keyAt bx k,valAt nb bx k):=by
 simp [kvOf,z7,h]
def rngCode (i9:Nat) (Q:Array Oper) (ex i0:Nat) (J:Array Oper) (tb:Tmp) (ib i1:Nat) (q:Array Oper) (O:Code):Code :=
 .seq (.region i9 Q false) (.block ex (.loop (.seq (.region i0 J false) (.seq (.cond (.tmp tb) .skip (.exit ex)) (.block ib (.seq (.region i1 q false) O))))))
def stepT (Lr:List AV) (tn tb te:Tmp) (k:List UInt8) (v:AV):List AV:=((Lr.set tn (.tuple [.bool true,.str k,v])).set tb (.bool true)).set te (.tuple [.str k,v])
section
variable {P : Program} {w : World} {A : Nat -> Prop} {M : Id -> Option MB} {B : Nat} {H : List Box}
def xCo (hR:HR w A M B H) {v:Value} {n ver i j:Nat} {bx:Box} (h:Rel w A M v (.own (.b n) ver i j)) (O:H[n]?=some bx) (Q:bx.ver=ver) (J:xHZ bx.ty=true) :
  ∃ m,M (.b n)=some m/\BoxAt w A M B (.b n) m bx/\v=.map (some m.b)/\0<m.cap:=by
 obtain ⟨m,hm,hv,h1,he⟩:=Rel.own_inv h;obtain ⟨bx',h2,h3⟩:=hR.box _ m hm;rw [xbM,O] at h2;cases h2;refine ⟨m,hm,h3,?_⟩;have q:xHZ m.ty=true:=by rw [<-h3.ty];exact xmB J
 have h0:=he (by rw [<-Q,h3.ver])
 unfold ptrOf at h0;rw [q] at h0;cases hc:m.cap with
 | zero =>
  rw [hc] at h0;simp only at h0;rw [h0] at h1;cases h1
 | succ k =>
  rw [hc] at h0;exact ⟨h0,Nat.succ_pos k⟩
def xAS (hR:HR w A M B H) {v:Value} {n ver i j:Nat} {bx:Box} (h:Rel w A M v (.own (.b n) ver i j)) (Z:H[n]?=some bx) (aa:bx.ver=ver) (W:xHZ bx.ty=true) (ae:xHY bx.ty 0=false) (ab:bx.sz=2) (ac:bx.pm=true) (af:bx.frz=true) {t kt et:TypeId} (ad:P.underlying t=some (.map kt et)) :
  ∃ bm e1 es clock,(Instr.range t v).run P w=.ok (.pointer (some ⟨w.heap.size,0,none⟩)) (w.alloc (.mapIter (some bm) clock #[] clock))/\Itr (w.alloc (.mapIter (some bm) clock #[] clock)) A M w.heap.size bm e1 es clock #[] (kvOf n bx) []:=by
 obtain ⟨m,hm,J,rfl,hcap⟩:=xCo hR h Z aa W;obtain ⟨es,clock,q,_,Q⟩:=J.mapKs W ae ab ac hcap;obtain ⟨e1,V,hP⟩:=q.heap;have O:=xfa w (.mapIter (some m.b) clock #[] clock);have Y:∀ k x,es[k]?=some x->k<bx.xs.length:=fun k x hx=>by rw [<-q.size];exact getElem?_ext_lt hx
 refine ⟨m.b,e1,es,clock,run_range_map w t kt et m.b e1 clock ad V,heap_alloc_new w _,(O.block _ (xjY V)).trans V,fun hA=>?_,hP,by rw [q.size,xjo],fun k x hx=>?_,fun k x hx=>?_,fun k x _=>by simp,List.nodup_nil,by simp⟩
 . have:=(J.guard hcap).2 hA;rw [af] at this;cases this
 . obtain ⟨t,h1,h2,_⟩:=q.keys k x hx;refine ⟨t,h1,?_⟩;rw [xoX (Y k x hx)];show keyAt bx k=_;unfold keyAt;rw [h2]
 . rw [xoX (Y k x hx)];exact ((Q k x hx).unmv).grow O
end
def xt2 {n:Nat} {l:List Nat} (hn:l.Nodup) (hl:∀ i,i∈l->i<n):∃ l',(l++l').Perm (List.range n):=by
 refine ⟨(List.range n).filter fun i=>!l.contains i,(List.perm_ext_iff_of_nodup ?_ List.nodup_range).2 fun i=>?_⟩
 . rw [List.nodup_append];refine ⟨hn,List.nodup_range.filter _,fun a ha b hb=>?_⟩
   rintro rfl;have:=(List.mem_filter.1 hb).2;simp [ha] at this
 . rw [zG,List.mem_filter,List.mem_range];constructor
   . rintro (h|h)
     . exact hl i h
     . exact h.1
   . intro h;by_cases hi:i∈l
     . exact .inl hi
     . exact .inr ⟨h,by simp [hi]⟩
def xwq {P:Program} {Inv:IV} (aw:InvOk Inv) {σ ρ:Type} {i9 ex i0 ib i1:Nat} {ag an ae:Array Oper} {ba:Code} {pre exts:List Oper} {o9 o0 o1 oe:Oper} {it tn tb te:Tmp} {tyM kt et:TypeId} {mo:Operand}
  (bc:ag.toList=pre++[o9]) (ce:noDefer ag=true) (c3:o9.op=.range tyM mo) (c2:o9.dst=some it) (cp:o9.guard=none) (c7:P.underlying tyM=some (.map kt et))
  (bh:an.toList=[o0,o1]) (cg:noDefer an=true) (b3:o0.op=.next (.tmp it) false) (b6:o0.dst=some tn) (cq:o0.guard=none) (b0:o1.op=.extract (.tmp tn) 0) (b5:o1.dst=some tb) (b4:o1.guard=none)
  (bu:ae.toList=oe::exts) (ch:noDefer ae=true) (cu:oe.op=.entry (.tmp it)) (c4:oe.dst=some te) (cn:oe.guard=none)
  (cj:it≠tn) (cb:it≠tb) (c9:tn≠tb)
  {s s1:St} (bz:Path (OpA P Inv) ag pre s s1) {nb ver i j:Nat} (hm:s1.eval mo=.own (.b nb) ver i j) {bx:Box} (hb:(freeze s1.heap [nb])[nb]?=some bx) (b9:bx.ver=ver) (cr:xHZ bx.ty=true) (h0:xHY bx.ty 0=false) (hsz:bx.sz=2) (cy:bx.pm=true) (cw:bx.frz=true)
  {n:Nat} (cv:(freeze s1.heap [nb]).length<=n) (Lf:σ->Nat->List AV) (Hf:σ->List Box) (Lo:ρ->List AV) (Ho:ρ->List Box) (step:σ->Nat->σ⊕ρ) (s0:σ)
  (bb:∀ s,(Hf s).length<=n) (a3:∀ s r,(Lf s r)[it]?=some (.gptr r)) (cf:∀ s r,tn<(Lf s r).length) (b2:∀ s r,tb<(Lf s r).length)
  (bi:∀ r,Weak n ⟨s1.tmps.set it (.gptr r),freeze s1.heap [nb]⟩ ⟨Lf s0 r,Hf s0⟩)
  (az:∀ (r:Nat) (done:List Nat) (s:σ) (k:Nat),k<bx.xs.length->k∉done->done.Nodup->(∀ i,i∈done->i<bx.xs.length)->done.foldl (stepI step) (.inl s0)=.inl s->∃ s2,Path (OpA P ⟨Inv.inv,n,Inv.top⟩) ae exts ⟨stepT (Lf s r) tn tb te (keyAt bx k) (valAt nb bx k),Hf s⟩ s2 /\
   Does P ⟨Inv.inv,n,Inv.top⟩ ba (fun e s'=>match step s k with
    | .inl s3=>e=.normal/\Weak n s' ⟨Lf s3 r,Hf s3⟩
    | .inr q=>e=.ret/\Weak n s' ⟨Lo q,Ho q⟩) s2) :
  Does P Inv (rngCode i9 ag ex i0 an tb ib i1 ae ba) (fun e s'=>∃ ord:List Nat,ord.Perm (List.range bx.xs.length)/\match ord.foldl (stepI step) (.inl s0) with
   | .inl s=>e=.normal/\∃ r,s'=⟨((Lf s r).set tn (.tuple [.bool false])).set tb (.bool false),Hf s⟩
   | .inr q=>e=.ret/\s'=⟨Lo q,Ho q⟩) s:=by
 intro w0 A0 w A M a Qc hI c8 hs hQ ro c6;unfold rngCode;refine wpIn_seq (wpIn_region_list (xdi ro 0 _ (xbX ce) _ _ ?_));rw [bc];refine xdF aw hI bz hs fun a1 w1 A1 M1 ax bw=>wpList_plain cp fun K hK=>?_
 obtain ⟨A2,ay,cl⟩:=ax.refreeze (HSub.freeze s1.heap [nb]);have bp:=ay.eval mo;rw [show St.eval ⟨s1.tmps,freeze s1.heap [nb]⟩ mo=s1.eval mo from by cases mo<;>rfl,hm] at bp
 obtain ⟨bm,e1,es,clock,J,W⟩:=xAS ay.heap bp hb b9 cr h0 hsz cy cw c7;obtain ⟨w3,bg⟩:∃ w3,w3=w1.alloc (.mapIter (some bm) clock #[] clock):=⟨_,rfl⟩;rw [<-bg] at J W;have ao:Below w1.heap.size w1 w3:=by rw [bg];exact xfa w1 _
 obtain ⟨r,hr⟩:∃ r,r=w1.heap.size:=⟨_,rfl⟩;rw [<-hr] at J W;have Q:=ay.grow ao;have Q:=Q.put (d:=some it) Q.base Q.outer Mv.refl Q.heap (Rel.gptr (w:=w3) (A:=A2) (M:=M1) r);have c0:w0.heap.size<=r:=by rw [hr];exact ax.base.size
 have c5:A0.w1.heap.size<=r:=by rw [hr];exact ax.ev.size
 unfold Oper.wp;simp only [execOp,c3,J,Sem.run_bind,Result.andThen_ok,Sem.run_pure];show K (a1.put o9.dst (.pointer (some ⟨r,0,none⟩))) w3;rw [c2];refine hK _ _ ?_;obtain ⟨A4,M4,a0⟩:=bi r w0 _ w3 A2 M1 _ (zd n) (Q.door n);obtain ⟨a0,a5⟩:=Q.undoor cv a0;have al:=W.mv Q.heap a5;refine wpIn_block ?_;refine xpo (fun N a' w'=>∃ done s' A' M' seen,SR w0 A0 w' A' M' ⟨Lf s' r,Hf s'⟩ a'/\Itr w' A' M' r bm e1 es clock seen (kvOf nb bx) done/\done.foldl (stepI step) (.inl s0)=.inl s'/\(leftOf e1 seen).size=N) ?_ _ _ _ ⟨[],s0,A4,M4,#[],a0,al,rfl,rfl⟩
 clear a0 al a5 W Q J ao bg bp ay cl hK ax bw;rintro N a' w' ⟨done,s',A',M',seen,ai,aq,Z,rfl⟩;have ci:a'.eval (.tmp it)=.pointer (some ⟨r,0,none⟩):=by
  have:=ai.eval (.tmp it);have e:St.eval ⟨Lf s' r,Hf s'⟩ (.tmp it)=.gptr r:=by show (Lf s' r).getD it .top=_;rw [z7,a3 s' r];rfl
  rw [e] at this;generalize a'.eval (.tmp it)=v at this;cases this;rfl
 refine wpIn_seq (wpIn_region_list (xdi ro 0 _ (xbX cg) _ _ ?_));rw [bh];refine wpList_plain cq fun K hK=>?_
 rcases aq.next (P:=P) o0.type with ⟨ak,J⟩|⟨k,e,wd,ac,hk,b1,b8,ct,da,cm,J,ah,b7,ck⟩
 ·
  unfold Oper.wp;simp only [execOp,b3,ci,J,Sem.run_bind,Result.andThen_ok,Sem.run_pure];show K (a'.put o0.dst (.tuple #[.bool false])) w';rw [b6];refine hK _ _ (wpList_plain b4 fun K2 bo=>?_)
  have aj:=ai.put (d:=some tn) ai.base ai.outer Mv.refl ai.heap (Rel.tuple (w:=w') (A:=A') (M:=M') #[.bool false] [.bool false] rfl (fun i hi=>by
   rcases i with _|i
   . exact .bool false
   . simp at hi))
  have bv:OpA P Inv ⟨putT (Lf s' r) (some tn) (.tuple [.bool false]),Hf s'⟩ o1 ⟨putT (putT (Lf s' r) (some tn) (.tuple [.bool false])) o1.dst (.bool false),Hf s'++(none:Option Box).toList⟩:=by
   refine .inl (.inl ⟨.bool false,none,.inl ?_,rfl⟩);rw [b0];simp [fop,St.eval,putT,z7,cf s' r]
  refine xiq aw hI bv aj fun v w6 A6 M6 ab _=>bo _ _ ?_
  rw [b5] at ab |-;simp only [Option.toList,zD,putT] at ab;have am:(a'.put (some tn) (.tuple #[.bool false]) |>.put (some tb) v).eval (.tmp tb)=.bool false:=by
   have:=ab.eval (.tmp tb);have e:St.eval ⟨((Lf s' r).set tn (.tuple [.bool false])).set tb (.bool false),Hf s'⟩ (.tmp tb)=.bool false:=by simp [St.eval,z7,b2 s' r]
   rw [e] at this;exact this.bool_inv
  refine wpIn_seq (wpIn_cond_split am (fun h=>by cases h) fun _=>wpIn_exit ?_)
  show Exit.inBlock ex Qc (.exit ex) _ _;simp only [Exit.inBlock,if_true];rw [xjo] at ak;exact hQ .normal _ _ _ ⟨done,ak,by rw [Z];exact ⟨rfl,r,rfl⟩⟩ ⟨A6,M6,ab⟩
 ·
  rw [xjo] at hk;unfold Oper.wp;simp only [execOp,b3,ci,J,Sem.run_bind,Result.andThen_ok,Sem.run_pure];obtain ⟨w5,bk⟩:∃ w5,w5=wd.putObj r (.mapIter (some bm) clock ac clock):=⟨_,rfl⟩;rw [<-bk] at ah;show K (a'.put o0.dst (.tuple #[.bool true,e.key,e.val])) (wd.putObj r (.mapIter (some bm) clock ac clock));rw [<-bk,b6];refine hK _ _ (wpList_plain b4 fun K2 bo=>?_)
  have ca:=ai.grow ct;have aj:SR w0 A0 w5 A' M' ⟨Lf s' r,Hf s'⟩ a':=by
   rw [bk];exact ca.turn (ds:=a'.defers) cm ⟨by simp,by simp⟩ c0 c5 _ (ca.defers.same fun D hD=>World.putObj_heap_other (fun e=>by rw [e,cm] at hD;simp at hD))
  obtain ⟨tk,a4,Y⟩:=ah.keys k e b8;rw [xoX hk] at Y;have ad:=ah.vals k e b8;rw [xoX hk] at ad;simp only at Y ad;have cz:Rel w5 A' M' e.key (.str (keyAt bx k)):=by rw [a4,Y];exact .str tk
  have ab:=aj.put (d:=some tn) aj.base aj.outer Mv.refl aj.heap (Rel.tuple (w:=w5) (A:=A') (M:=M') #[.bool true,e.key,e.val] [.bool true,.str (keyAt bx k),valAt nb bx k] rfl (fun i hi=>by
   rcases i with _|_|_|i
   . exact .bool true
   . exact cz
   . exact ad
   . simp at hi;omega))
  have bv:OpA P Inv ⟨putT (Lf s' r) (some tn) (.tuple [.bool true,.str (keyAt bx k),valAt nb bx k]),Hf s'⟩ o1 ⟨putT (putT (Lf s' r) (some tn) (.tuple [.bool true,.str (keyAt bx k),valAt nb bx k])) o1.dst (.bool true),Hf s'++(none:Option Box).toList⟩:=by
   refine .inl (.inl ⟨.bool true,none,.inl ?_,rfl⟩);rw [b0];simp [fop,St.eval,putT,z7,cf s' r]
  refine xiq aw hI bv ab fun v w7 A7 M7 V a6=>bo _ _ ?_
  have af:=ah.mv ab.heap a6;rw [b5] at V |-;simp only [Option.toList,zD,putT] at V;have am:((a'.put (some tn) (.tuple #[.bool true,e.key,e.val])).put (some tb) v).eval (.tmp tb)=.bool true:=by
   have:=V.eval (.tmp tb);have e:St.eval ⟨((Lf s' r).set tn (.tuple [.bool true,.str (keyAt bx k),valAt nb bx k])).set tb (.bool true),Hf s'⟩ (.tmp tb)=.bool true:=by simp [St.eval,z7,b2 s' r]
   rw [e] at this;exact this.bool_inv
  refine wpIn_seq (wpIn_cond_split am (fun _=>wpIn_skip ?_) (fun h=>by cases h))
  refine wpIn_block (wpIn_seq (wpIn_region_list (xdi ro 0 _ (xbX ch) _ _ ?_)));rw [bu];refine wpList_plain cn fun K3 co=>?_
  have a8:((a'.put (some tn) (.tuple #[.bool true,e.key,e.val])).put (some tb) v).eval (.tmp it)=.pointer (some ⟨r,0,none⟩):=by
   have:=V.eval (.tmp it);have e:St.eval ⟨((Lf s' r).set tn (.tuple [.bool true,.str (keyAt bx k),valAt nb bx k])).set tb (.bool true),Hf s'⟩ (.tmp it)=.gptr r:=by
    simp [St.eval,z7,List.getElem?_set,Ne.symm cj,Ne.symm cb,a3 s' r]
   rw [e] at this;generalize Act.eval _ (.tmp it)=u at this;cases this;rfl
  generalize ((a'.put (some tn) (.tuple #[.bool true,e.key,e.val])).put (some tb) v)=a7 at V a8;have bj:=b7 w7 A7 M7 af;unfold Oper.wp;simp only [execOp,cu,a8,bj,Sem.run_bind,Result.andThen_ok,Sem.run_pure];show K3 (a7.put oe.dst (.tuple #[e.key,e.val])) w7;rw [c4];refine co _ _ ?_;have cc:Rel w7 A7 M7 e.key (.str (keyAt bx k)):=by rw [a4,Y];exact .str tk
  have bf:Rel w7 A7 M7 e.val (valAt nb bx k):=a6.rel ad;have ar:=V.put (d:=some te) V.base V.outer Mv.refl V.heap (Rel.tuple (w:=w7) (A:=A7) (M:=M7) #[e.key,e.val] [.str (keyAt bx k),valAt nb bx k] rfl (fun i hi=>by
   rcases i with _|_|i
   . exact cc
   . exact bf
   . simp at hi;omega))
  obtain ⟨s2,cx,be⟩:=az r done s' k hk b1 aq.nodup (fun i hi=>by have:=aq.lt i hi;rwa [xjo] at this) Z
  have bq:=ar.door n;refine xse (Inv:=⟨Inv.inv,n,Inv.top⟩) ⟨aw.below⟩ hI cx bq fun a9 w9 ⟨A9,M9,hs9⟩=>?_
  refine be w0 _ w9 A9 M9 a9 _ hI (zd n) hs9 ?_ ro c6;rintro ee ss aa ww hq ⟨A10,M10,a2⟩;cases au:step s' k with
  | inl s3 =>
   rw [au] at hq;obtain ⟨rfl,bt⟩:=hq;obtain ⟨A11,M11,O⟩:=bt w0 _ ww A10 M10 aa (zd n) a2;obtain ⟨O,ap⟩:=ar.undoor (bb s') O;have bn:=af.mv ar.heap ap;exact ⟨_,ck,done++[k],s3,A11,M11,ac,O,bn,by rw [List.foldl_append,Z];exact au,rfl⟩
  | inr q =>
   rw [au] at hq;obtain ⟨rfl,bt⟩:=hq;obtain ⟨A11,M11,O⟩:=bt w0 _ ww A10 M10 aa (zd n) a2;obtain ⟨O,ap⟩:=ar.undoor (bb s') O;obtain ⟨l',cd⟩:=xt2 af.nodup af.lt;rw [xjo] at cd;refine hQ .ret _ _ _ ⟨(done++[k])++l',cd,?_⟩ ⟨A11,M11,O⟩;rw [List.foldl_append,List.foldl_append,Z];show match List.foldl (stepI step) (step s' k) l' with|.inl _=>_|.inr _=>_
   rw [au,xuh];exact ⟨rfl,rfl⟩
section
variable {w : World} {A : Nat -> Prop} {M : Id -> Option MB} {B : Nat} {H : List Box}
end
def rmsOf:Code->List Code
 | .seq a b=>match isRng a with
  | true=>[.seq a b]
  | false=>rmsOf a++rmsOf b
 | .block _ c=>rmsOf c
 | .loop c=>rmsOf c
 | .cond _ a b=>rmsOf a++rmsOf b
 | _=>[]
noncomputable def rmOf (fn:Func):Code:=(rmsOf (fn.body.getD .skip)).getD 0 .skip
noncomputable def rmBody:Code->Code
 | .seq _ (.block _ (.loop (.seq _ (.seq _ (.block _ (.seq _ b))))))=>b
 | _=>.skip
noncomputable def rmOps1:Code->Array Oper
 | .seq _ (.block _ (.loop (.seq _ (.seq _ (.block _ (.seq (.region _ ops _) _))))))=>ops
 | _=>#[]
def XM (P:Program) (E:Env) (ops:Array Oper) (q:Code) (live:List Nat) (ts:List AV) (H:List Box):Option (Exit×List AV×List Box):=xOps P E none (some true) ops (ops.toList.drop 1) ⟨ts,H⟩ fun s1=>X P E none q s1 fun e2 s2=>match normS E.pin [] live s2 with
 | some (vs,H')=>xIQ vs fun vs=>xIp H' fun H'=>br (Nat.beq s2.tmps.length E.nt) (some (e2,vs,H')) none
 | none=>none
def xbY {P:Program} {Inv:IV} {E:Env} (J:xHX P Inv E) {ops:Array Oper} {l:List Oper} {s:St} {T:Type} {r:T} {K:St->Option T} (h:xOps P E none (some true) ops l s K=some r):∃ s',Path (OpA P Inv) ops l s s'/\K s'=some r:=by
 have q:¬ (fun t:Option T=>t=some r) none:=by simp
 have hA:∀ o s (K:St->Option T),(fun t:Option T=>t=some r) (xopM P E none (some true) o s K)->∃ s1,OpA P Inv s o s1/\(fun t:Option T=>t=some r) (K s1):=fun o s K h=>xwf (good:=fun t:Option T=>t=some r) q J h
 exact xgb (good:=fun t:Option T=>t=some r) q hA l s K h
def xDq {P:Program} {Inv:IV} {E:Env} (W:P.follows .mixedOrders=true) (V:InvOk Inv) (J:Inv.pin=E.pin) (O:xHX P Inv E) {ops:Array Oper} {q:Code} (Q:LoOk P Inv E q) {live:List Nat} {ts vs:List AV} {H H':List Box} {e0:Exit}
  (h:XM P E ops q live ts H=some (e0,vs,H')):∃ s2,Path (OpA P Inv) ops (ops.toList.drop 1) ⟨ts,H⟩ s2/\Does P Inv q (fun e s'=>e=e0/\Weak Inv.pin s' ⟨mkTs E.nt (live.zip vs),H'⟩) s2:=by
 unfold XM at h;obtain ⟨s2,h1,h2⟩:=xbY O h;refine ⟨s2,h1,xb6 (xdS (good:=fun t=>t=some (e0,vs,H')) W V J (by simp) O q _ _ Q h2) fun e s' hq=>?_⟩
 split at hq
 case h_2=>simp at hq
 rename_i Z H1 Y;rw [xaY,xbk] at hq;obtain ⟨h3,h4⟩:=xbs (good:=fun t=>t=some (e0,vs,H')) (by simp) hq
 simp only [z6,zb] at h4;obtain ⟨rfl,rfl,rfl⟩:=h4;have hw:=xfQ Y;rw [zg h3,<-J] at hw;exact ⟨rfl,hw⟩
end Go.Sim
end
noncomputable section
set_option maxRecDepth 10000
namespace Go.Sim
open Go.RowKit
def MR (p:Id->Bool) (M:Id->Option MB):Id->Option MB:=fun id=>match p id with
 | true=>M id
 | false=>none
def xgy {p:Id->Bool} {M:Id->Option MB} {id:Id} {m:MB} (h:MR p M id=some m):p id=true/\M id=some m:=by
 unfold MR at h;cases hp:p id with
 | true=>rw [hp] at h;exact ⟨rfl,h⟩
 | false=>rw [hp] at h;simp at h
def xrU {p:Id->Bool} {M:Id->Option MB} {id:Id} {m:MB} (hp:p id=true) (h:M id=some m):MR p M id=some m:=by unfold MR;rw [hp];exact h
mutual
def AV.inP (p:Id->Bool):AV->Bool
 | .agg cs=>AV.inPs p cs
 | .own id _ _ _=>p id
 | .osl id _ _ _=>p id
 | .func _ cs=>AV.inPs p cs
 | .tuple vs=>AV.inPs p vs
 | _=>true
def AV.inPs (p:Id->Bool):List AV->Bool
 | []=>true
 | x::xs=>AV.inP p x&&AV.inPs p xs
end
def xlO {p:Id->Bool}:∀ {xs:List AV},AV.inPs p xs=true->∀ i,AV.inP p (xs.getD i .top)=true
 | [],_,i=>by simp [AV.inP]
 | x::xs,h,i=>by
  rw [AV.inPs,zf] at h;cases i with
  | zero=>simpa using h.1
  | succ i=>simpa using xlO h.2 i
def Rel.part {w:World} {A:Nat->Prop} {M:Id->Option MB} {v:Value} {x:AV} (h:Rel w A M v x) (p:Id->Bool) (hx:x.inP p=true):Rel w A (MR p M) v x:=by
 induction h with
 | top v=>exact .top v
 | bool b=>exact .bool b
 | int k n=>exact .int k n
 | str s=>exact .str s
 | agg vs cs h hr ih=>exact .agg vs cs h fun i hi=>ih i hi (xlO (by simpa [AV.inP] using hx) i)
 | nils=>exact .nils
 | list0 a cap sz=>exact .list0 a cap sz
 | list b off cap sz xs val ha hb hne hcap hsz hcc hr ih=>exact .list b off cap sz xs val ha hb hne hcap hsz hcc hr
 | eptr b off sz xs i0 j0 val ha hb hi hsz hcc hr ih=>exact .eptr b off sz xs i0 j0 val ha hb hi hsz hcc hr
 | own v id ver i j m hm hv h1 he=>exact .own v id ver i j m (xrU (by simpa [AV.inP] using hx) hm) hv h1 he
 | osl v id ver off len m hm hv h1 he=>exact .osl v id ver off len m (xrU (by simpa [AV.inP] using hx) hm) hv h1 he
 | nilptr=>exact .nilptr
 | func f vs cs h hr hf ih=>exact .func f vs cs h (fun i hi=>ih i hi (xlO (by simpa [AV.inP] using hx) i)) hf
 | vptr b off v0 x ha hb hc hr ih=>exact .vptr b off v0 x ha hb hc (ih (by simpa [AV.inP,AV.inPs] using hx))
 | nilfn=>exact .nilfn
 | nmap=>exact .nmap
 | empt a=>exact .empt a
 | tuple vs cs h hr ih=>exact .tuple vs cs h fun i hi=>ih i hi (xlO (by simpa [AV.inP] using hx) i)
 | gptr g=>exact .gptr g
 | yld l=>exact .yld l
def boxIn (p:Id->Bool) (bx:Box):Bool:=match bx.pm with
 | true=>!(isC bx.ty&&!xHZ bx.ty)
 | false=>!(isC bx.ty)&&bx.xs.all fun x=>AV.inPs p x.cells
def xDE {p:Id->Bool} {M:Id->Option MB} {bx:Box} {j:Nat} (hs:xHY bx.ty j=false):MV (MR p M) bx j=MR p (MV M bx j):=by
 unfold MV MP;rw [hs];cases bx.pm
 . rfl
 . funext id;unfold MR xH9;cases p id<;>rfl
def BoxAt.part {w:World} {A:Nat->Prop} {M:Id->Option MB} {B:Nat} {id:Id} {m:MB} {bx:Box} (h:BoxAt w A M B id m bx) {p:Id->Bool} (hp:boxIn p bx=true) (hs:∀ j,j<bx.sz->xHY bx.ty j=false):BoxAt w A (MR p M) B id m bx:=by
 refine ⟨h.ver,h.sz,h.ty,h.capm,h.fits,h.ok,h.low,h.lt,fun h0=>?_,h.guard⟩
 obtain ⟨c,h1,h2,h3⟩:=h.cells h0;refine ⟨c,h1,h2,fun i j hi hj=>?_⟩
 have h4:=h3 i j hi hj
 replace hs:=hs j (by rw [h.sz];exact hj)
 rw [xDE hs];cases q:bx.pm with
 | true =>
  have e:MV M bx j=xH9:=by unfold MV MP;rw [hs,q]
  rw [e] at h4 |-;have e2:MR p xH9=xH9:=by
   funext id;unfold MR xH9;cases p id<;>rfl
  rw [e2];exact h4
 | false =>
  have e:MV M bx j=M:=by unfold MV MP;rw [hs,q]
  rw [e] at h4 |-;have e3:xIk id.base i j bx.ty ((bx.xs.getD i .top).cells.getD j .top)=(bx.xs.getD i .top).cells.getD j .top:=by unfold xIk;rw [hs]
  rw [e3] at h4 |-;refine h4.part p (xlO ?_ j);unfold boxIn at hp;rw [q] at hp;simp only [zf,zI] at hp;refine hp.2 _ ?_;rw [z7,ze hi];exact zo hi
def pB (q:Nat->Bool):Id->Bool
 | .b n=>q n
 | .r _ _ _=>false
def HR.part {w:World} {A:Nat->Prop} {M:Id->Option MB} {B:Nat} {H:List Box} (h:HR w A M B H) {q:Nat->Bool} (hq:∀ n bx,H[n]?=some bx->q n=true->boxIn (pB q) bx=true/\∀ j,j<bx.sz->xHY bx.ty j=false):HR w A (MR (pB q) M) B H:=by
 refine ⟨fun id m hm=>?_,fun id id' m m' h1 h2=>h.inj id id' m m' (xgy h1).2 (xgy h2).2,h.lt⟩
 obtain ⟨hp,hm⟩:=xgy hm;obtain ⟨bx,hb,J⟩:=h.box id m hm;refine ⟨bx,hb,?_⟩;cases id with
 | r n i j=>simp [pB] at hp
 | b n =>
  obtain ⟨h1,h2⟩:=hq n bx hb hp;exact J.part h1 h2
def HR.swap {w:World} {A:Nat->Prop} {M:Id->Option MB} {B:Nat} {H H':List Box} {q:Nat->Bool} (h:HR w A (MR (pB q) M) B H) (hq:∀ n,q n=true->H'[n]?=H[n]?):HR w A (MR (pB q) M) B H':=by
 refine ⟨fun id m hm=>?_,h.inj,h.lt⟩
 obtain ⟨bx,hb,J⟩:=h.box id m hm;refine ⟨bx,?_,J⟩;obtain ⟨hp,_⟩:=xgy hm;cases id with
 | r n i j=>simp [pB] at hp
 | b n =>
  show H'[n]?=some bx;rw [hq n hp];exact hb
def HR.apart {w w':World} {A A':Nat->Prop} {M M' N:Id->Option MB} {B:Nat} {H:List Box} (h:HR w A N B H) (hm:Mv w A M w' A' M') (O:∀ b,A' b->b<w'.heap.size) (hd:∀ id m id' m',N id=some m->0<m.cap->M id'=some m'->0<m'.cap->m.b≠m'.b):HR w' A' N B H:=by
 have J:∀ id m,N id=some m->0<m.cap->∀ id' m',M id'=some m'->0<m'.cap->m'.b≠m.b:=fun id m h1 h2 id' m' h3 h4 e=>hd id m id' m' h1 h2 h3 h4 e.symm
 refine ⟨fun id m hi=>?_,h.inj,O⟩
 obtain ⟨bx,hb,q⟩:=h.box id m hi;refine ⟨bx,hb,q.mono (fun h0=>hm.touch.1 _ (q.lt h0) (J id m hi h0)) hm.keep hm.size hm.less (fun h0=>?_) (fun id m h=>⟨m,h,.inl rfl⟩)⟩
 rw [q.guard h0];exact ⟨fun ha=>hm.more _ (q.lt h0) ha (J id m hi h0),fun ha=>hm.less _ (q.lt h0) ha⟩
def MJ (M N:Id->Option MB):Id->Option MB:=fun id=>match id with
 | .b 0=>M id
 | .r _ _ _=>none
 | .b _=>N id
end Go.Sim
end
noncomputable section
set_option maxRecDepth 10000
namespace Go.Sim
open Go.RowKit
structure EntV where
 g:Nat
 row:List AV
 a:List AV
 b:List AV
 va:Nat
 vb:Nat
def EntV.E (e:EntV):Box:=⟨0,3,94,[.agg [.list 3 e.row,.osl (.b 2) e.va 0 e.a.length,.osl (.b 3) e.vb 0 e.b.length]],false,false⟩
def EntV.A (e:EntV):Box:=⟨e.va,3,100,e.a,false,true⟩
def EntV.B (e:EntV):Box:=⟨e.vb,3,100,e.b,false,true⟩
def q0 (n:Nat):Bool:=Nat.beq n 0
def qe1:Nat->Bool
 | 1=>true
 | 2=>true
 | 3=>true
 | _=>false
def box0:Box:=⟨0,0,0,[],false,true⟩
structure EntAt (w:World) (A:Nat->Prop) (B F:Nat) (e:EntV) (N:Id->Option MB):Prop where
 hr:HR w A N B [box0,e.E,e.A,e.B]
 ids:∀ id m,N id=some m->pB qe1 id=true
 one:∃ m,N (.b 1)=some m/\0<m.cap/\m.b=e.g
 two:∃ m,N (.b 2)=some m
 three:∃ m,N (.b 3)=some m
 fresh:∀ id m,N id=some m->0<m.cap->F<=m.b
def Apart (M N:Id->Option MB):Prop:=∀ id m id' m',M id=some m->0<m.cap->N id'=some m'->0<m'.cap->m.b≠m'.b
def Apart.symm {M N:Id->Option MB} (h:Apart M N):Apart N M:=fun id m id' m' h1 h2 h3 h4 e=>h id' m' id m h3 h4 h1 h2 e.symm
section
variable {w w' w0 : World} {A A' : Nat -> Prop} {M M' N : Id -> Option MB} {B F : Nat} {e : EntV} {A0 : Cx} {a : Act}
def EntAt.go (h:EntAt w A B F e N) (hm:Mv w A M w' A' M') (q:∀ b,A' b->b<w'.heap.size) (hd:Apart N M):EntAt w' A' B F e N :=
 ⟨h.hr.apart hm q hd,h.ids,h.one,h.two,h.three,h.fresh⟩
def EntAt.lt (h:EntAt w A B F e N) {id:Id} {m:MB} (hi:N id=some m) (h0:0<m.cap):m.b<w.heap.size:=by
 obtain ⟨bx,_,hb⟩:=h.hr.box id m hi;exact hb.lt h0
def Apart.go (h:EntAt w A B F e N) (hd:Apart N M) (hm:Mv w A M w' A' M'):Apart N M':=fun id m id' m' h1 h2 h3 h4 he=>by
 have q:=h.lt h1 h2;rcases hm.touch.2 id' m' h3 h4 with ⟨i,m1,g1,g2,g3⟩|g
 . exact hd id m i m1 h1 h2 g1 g2 (by rw [he,g3])
 . omega
def EntAt.own (h:EntAt w A B F e N) {v:Value} (hv:v=.pointer (some ⟨e.g,0,none⟩)):Rel w A N v (.own (.b 1) 0 0 0):=by
 obtain ⟨m,h1,h2,h3⟩:=h.one;obtain ⟨bx,hb,q⟩:=h.hr.box _ _ h1;obtain rfl:e.E=bx:=by simpa [getB] using hb
 have O:m.ver=0:=q.ver.symm;have J:xHZ m.ty=false:=by rw [<-q.ty];rfl
 subst hv;refine .own _ (.b 1) 0 0 0 m h1 (zQ _) rfl fun _=>?_
 unfold ptrOf;rw [J,h3];simp
def xpK {id:Id} {m:MB} (h:MJ M N id=some m):(id=.b 0/\M id=some m)\/(∃ k,id=.b (k+1)/\N id=some m):=by
 unfold MJ at h;split at h
 . exact .inl ⟨rfl,h⟩
 . simp at h
 . rename_i n hn;cases n with
   | zero=>exact absurd rfl hn
   | succ k=>exact .inr ⟨k,rfl,h⟩
def xvE (hM:∀ id m,M id=some m->pB q0 id=true):MExt M (MJ M N):=fun id m h=>by
 refine ⟨m,?_,.inl rfl⟩;have:=hM id m h;cases id with
 | r n i j=>simp [pB] at this
 | b n =>
  cases n with
  | zero=>exact h
  | succ k=>simp [pB,q0] at this
def xrz (hN:∀ id m,N id=some m->pB qe1 id=true):MExt N (MJ M N):=fun id m h=>by
 refine ⟨m,?_,.inl rfl⟩;have:=hN id m h;cases id with
 | r n i j=>simp [pB] at this
 | b n =>
  cases n with
  | zero=>simp [pB,qe1] at this
  | succ k=>exact h
def HR.join {b0:Box} (h0:HR w A M B [b0]) (hM:∀ id m,M id=some m->pB q0 id=true) (he:EntAt w A B F e N) (hd:Apart N M):HR w A (MJ M N) B [b0,e.E,e.A,e.B]:=by
 refine ⟨fun id m h=>?_,fun id id' m m' h h' c c' hb=>?_,h0.lt⟩
 . rcases xpK h with ⟨rfl,h⟩|⟨k,rfl,h⟩
   . obtain ⟨bx,hb,q⟩:=h0.box _ _ h;refine ⟨bx,?_,q.mono (fun _=>rfl) (fun _ _ _=>rfl) (zd _) (fun _ _ h=>h) q.guard (xvE hM)⟩
     simpa [getB] using hb
   . obtain ⟨bx,hb,q⟩:=he.hr.box _ _ h;refine ⟨bx,?_,q.mono (fun _=>rfl) (fun _ _ _=>rfl) (zd _) (fun _ _ h=>h) q.guard (xrz he.ids)⟩
     simpa [getB] using hb
 . rcases xpK h with ⟨rfl,h⟩|⟨k,rfl,h⟩<;>rcases xpK h' with ⟨rfl,h'⟩|⟨k',rfl,h'⟩
   . rfl
   . exact absurd hb.symm (hd _ _ _ _ h' c' h c)
   . exact absurd hb (hd _ _ _ _ h c h' c')
   . exact he.hr.inj _ _ _ _ h h' c c' hb
def SR.join {b0:Box} {ts:List AV} (hs:SR w0 A0 w A M ⟨ts,[b0]⟩ a) (hM:∀ id m,M id=some m->pB q0 id=true) (hp:A0.pin=0) (he:EntAt w A w0.heap.size A0.w1.heap.size e N) (hd:Apart N M):SR w0 A0 w A (MJ M N) ⟨ts,[b0,e.E,e.A,e.B]⟩ a :=
 ⟨hs.base,hs.outer,hs.size,fun t ht=>(hs.tmps t ht).mono (fun _ _ _=>rfl) (zd _) (fun _ _ h=>h) (xvE hM),hs.heap.join hM he hd,hs.defers,
  ⟨hs.ev.size,hs.ev.keep,hs.ev.less,hs.ev.more,fun id m h=>by rw [hp] at h;exact absurd h (Nat.not_lt_zero _),fun id m h h0=>by
   rcases xpK h with ⟨rfl,h⟩|⟨k,rfl,h⟩
   . exact hs.ev.src _ _ h h0
   . exact .inr (he.fresh _ _ h h0)⟩⟩
def cutT (ts:List AV):List AV:=ts.map fun x=>match x.inP (pB q0) with
 | true=>x
 | false=>.top
def SR.cut {b0:Box} {T:List Box} {ts:List AV} (hs:SR w0 A0 w A M ⟨ts,b0::T⟩ a) (hp:A0.pin=0) (h0:boxIn (pB q0) b0=true) (J:∀ j,j<b0.sz->xHY b0.ty j=false):SR w0 A0 w A (MR (pB q0) M) ⟨cutT ts,[b0]⟩ a:=by
 refine ⟨hs.base,hs.outer,by rw [hs.size];simp [cutT],fun t ht=>?_,?_,hs.defers,⟨hs.ev.size,hs.ev.keep,hs.ev.less,hs.ev.more,fun id m h=>by rw [hp] at h;exact absurd h (Nat.not_lt_zero _),fun id m h h0=>hs.ev.src _ _ (xgy h).2 h0⟩⟩
 . have ht':t<ts.length:=by simpa [cutT] using ht
   have h1:=hs.tmps t ht';have e:(cutT ts).getD t .top=match (ts.getD t .top).inP (pB q0) with
    | true=>ts.getD t .top
    | false=>.top:=by
    unfold cutT;simp only [z7,List.getElem?_map,ze ht',Option.map_some,zh]
   show Rel w A _ _ ((cutT ts).getD t .top);rw [e];cases hc:(ts.getD t .top).inP (pB q0) with
   | true=>exact h1.part _ hc
   | false=>exact .top _
 . refine (hs.heap.part (q:=q0) fun n bx hb hq=>?_).swap fun n hq=>?_
   . cases n with
     | succ n=>simp [q0] at hq
     | zero =>
      obtain rfl:b0=bx:=by simpa using hb
      exact ⟨h0,J⟩
   . cases n with
     | succ n=>simp [q0] at hq
     | zero=>rfl
end
end Go.Sim
end
noncomputable section
set_option maxRecDepth 100000
namespace Go.Sim
open Go.RowKit
section
variable {P : Program} {Inv : IV} {w0 w : World} {A0 : Cx} {A : Nat -> Prop} {M : Id -> Option MB} {a : Act}
def xrI (J:InvOk Inv) (hI:Inv w0) {ro:Option Nat} {id:Nat} {ops:Array Oper} {Q:Exit->Act->World->Prop} {s s':St} (q:noDefer ops=true) (hp:Path (OpA P Inv) ops ops.toList s s') (hs:SR w0 A0 w A M s a)
  (hK:∀ a' w' A' M',SR w0 A0 w' A' M' s' a'->Mv w A M w' A' M'->Q .normal a' w'):(Code.region id ops false).wpIn (wideR ro) 0 P Q a w:=by
 refine wpIn_region_list (xdi ro 0 _ (xbX q) _ _ ?_);rw [<-zD ops.toList];exact xdF J hI hp hs fun a' w' A' M' h1 h2=>wpList_nil (hK a' w' A' M' h1 h2)
end
end Go.Sim
namespace Go.Sim.M
open Go.RowKit Go.Proofs
noncomputable def regOf:Code->Nat->Code
 | .region id ops d,n=>match Nat.beq id n with
  | true=>.region id ops d
  | false=>.skip
 | .seq a b,n=>match regOf a n with
  | .skip=>regOf b n
  | c=>c
 | .cond _ a b,n=>match regOf a n with
  | .skip=>regOf b n
  | c=>c
 | .block _ c,n=>regOf c n
 | .loop c,n=>regOf c n
 | _,_=>.skip
noncomputable def opsOf:Code->Array Oper
 | .region _ ops _=>ops
 | _=>#[]
noncomputable abbrev gB:Code:=Tryz.f105.body.getD .skip
noncomputable abbrev gO (n:Nat):Array Oper:=opsOf (regOf gB n)
noncomputable abbrev EG:Env:=xrR.E.fn 19 0 (lsOf [94]) (xIi [])
def xGm:gB=.seq (.region 0 (gO 0) false) (.seq (.region 1 (gO 1) false) (.seq (.seq (.region 2 (gO 2) false) (.cond (.tmp 10) (.region 3 (gO 3) false) .skip)) (.seq (.region 4 (gO 4) false) .ret))):=by kernel_rfl
noncomputable def mapB (ms:List AV):Box:=⟨0,2,mapTy 88,ms,false,true⟩
noncomputable def boxN (row:List AV):Box:=⟨0,3,94,[.agg [.list 3 row,.nils,.nils]],false,true⟩
def gT (row:List AV) (x:Nat->AV):List AV:=[.list 3 row,.func vpF [.own (.b 0) 0 0 0],x 2,x 3,x 4,x 5,x 6,x 7,x 8,x 9,x 10,x 11,x 12,x 13,x 14,x 15,x 16,x 17,x 18]
def gU:AV:=.tuple []
def gT0 (row:List AV):List AV:=gT row fun _=>gU
def xGu:noDefer (gO 0)=true:=by kernel_rfl
def xGv:noDefer (gO 1)=true:=by kernel_rfl
def xGw:noDefer (gO 2)=true:=by kernel_rfl
def xGy:noDefer (gO 3)=true:=by kernel_rfl
def xGz:noDefer (gO 4)=true:=by kernel_rfl
noncomputable def gT1 (row:List AV) (k:List UInt8):List AV:=((((gT0 row).set 3 .nilptr).set 5 (.list 3 row)).set 6 (.str k)).set 4 (.str k)
def xGx (row ms:List AV):xOps Tryz.prog EG none (some true) (gO 0) (gO 0).toList ⟨gT0 row,[mapB ms]⟩ some=some ⟨(gT0 row).set 3 .nilptr,[mapB ms]⟩:=by kernel_rfl
def xG0 (row ms:List AV):xOps Tryz.prog EG none (some true) (gO 1) (gO 1).toList ⟨(gT0 row).set 3 .nilptr,[mapB ms]⟩ some=br (xau row).isSome (some ⟨gT1 row ((xau row).getD []),[mapB ms]⟩) none:=by kernel_rfl
def xGC (row ms:List AV) (k:List UInt8):xOps Tryz.prog EG none (some true) (gO 2) ((gO 2).toList.take 2) ⟨gT1 row k,[mapB ms]⟩ some=some ⟨((gT1 row k).set 7 (.own (.b 0) 0 0 0)).set 8 (.str k),[mapB ms]⟩:=by kernel_rfl
def xGT:(gO 2).toList=(gO 2).toList.take 2++[(gO 2).toList.getD 2 default,(gO 2).toList.getD 3 default]:=by kernel_rfl
def xGW:((gO 2).toList.getD 2 default).op=.lookup 88 (.tmp 7) (.tmp 8) false:=by kernel_rfl
def xGO:((gO 2).toList.getD 2 default).dst=some 9:=by kernel_rfl
def xGQ:((gO 2).toList.getD 2 default).guard=none:=by kernel_rfl
def xFm:((gO 2).toList.getD 3 default).dst=some 10:=by kernel_rfl
def xGR:((gO 2).toList.getD 3 default).guard=none:=by kernel_rfl
def xG1:(xHW Tryz.prog 90).map (·.zero)=some .nilptr:=by kernel_rfl
def xGZ:∃ d,Tryz.prog.underlying 90=some (.pointer d):=⟨94,by kernel_rfl⟩
def xCc:Tryz.prog.underlying 88=some (.map 9 90):=by kernel_rfl
def xFs:Tryz.prog.underlying 9=some .string:=by kernel_rfl
def xCb:xHZ (mapTy 88)=true:=by kernel_rfl
def xs5:xHY (mapTy 88) 0=false:=by kernel_rfl
def xs6:xHY (mapTy 88) 1=false:=by kernel_rfl
def xyj {ρ:Operand->AV} {t1 t2:Tmp} {ms:List AV} {T:List Box} {k:List UInt8} (h1:ρ (.tmp t1)=.own (.b 0) 0 0 0) (h2:ρ (.tmp t2)=.str k) (hk:k.length<=xIL):iop Tryz.prog ρ (mapB ms::T) (.lookup 88 (.tmp t1) (.tmp t2) false)=some (xIe .nilptr ms k,mapB ms::T):=by
 obtain ⟨e,he⟩:=xGZ;have h7:getMap (mapB ms::T) 0 0=some (mapB ms):=by
  unfold getMap;show (if _ then _ else _)=_
  rw [if_pos];exact ⟨rfl,xCb,xs5,xs6,rfl,rfl⟩
 have q:=xG1;cases hd:xHW Tryz.prog 90 with
 | none=>rw [hd] at q;simp at q
 | some d =>
  rw [hd] at q;simp only [Option.map_some,z6] at q;simp only [iop,h1,h2,absLookL,absLookM,xCc,xFs,he,hd,h7,q,hk,if_true];rfl
def xDv (g:Nat) (w:World):(binOp .eql 90 (.pointer (some ⟨g,0,none⟩)) (.pointer none)).run Tryz.prog w=.ok (.bool false) w:=by rfl
def xB6 (w:World):(binOp .eql 90 (.pointer none) (.pointer none)).run Tryz.prog w=.ok (.bool true) w:=by rfl
noncomputable def gT2 (row:List AV) (k:List UInt8):List AV:=((gT1 row k).set 7 (.own (.b 0) 0 0 0)).set 8 (.str k)
noncomputable def gT3 (row:List AV) (k:List UInt8) (x:AV) (b:Bool):List AV:=((gT2 row k).set 9 x).set 10 (.bool b)
noncomputable def gT4 (row:List AV) (k:List UInt8):List AV:=(((((gT3 row k .nilptr true).set 11 (.own (.b 0) 0 0 0)).set 12 (.str k)).set 13 (.list 3 row)).set 14 (.agg [.list 3 row,.nils,.nils])).set 15 (.own (.b 1) 0 0 0)
def xGD (row ms:List AV) (k:List UInt8):xOps Tryz.prog EG none (some true) (gO 3) ((gO 3).toList.take 5) ⟨gT3 row k .nilptr true,[mapB ms]⟩ some=some ⟨gT4 row k,[mapB ms,boxN row]⟩:=by kernel_rfl
def xGU:(gO 3).toList=(gO 3).toList.take 5++[(gO 3).toList.getD 5 default]:=by kernel_rfl
def xGX:((gO 3).toList.getD 5 default).op=.mapUpdate 88 (.tmp 11) (.tmp 12) (.tmp 15):=by kernel_rfl
def xGP:((gO 3).toList.getD 5 default).dst=none:=by kernel_rfl
def xGS:((gO 3).toList.getD 5 default).guard=none:=by kernel_rfl
def xGV:(gO 4).toList=(gO 4).toList.take 2++[(gO 4).toList.getD 2 default,(gO 4).toList.getD 3 default]:=by kernel_rfl
def xGA:((gO 4).toList.getD 2 default).op=.lookup 88 (.tmp 16) (.tmp 17) false:=by kernel_rfl
def xGn:((gO 4).toList.getD 2 default).dst=some 18:=by kernel_rfl
def xGs:((gO 4).toList.getD 2 default).guard=none:=by kernel_rfl
def xGB:((gO 4).toList.getD 3 default).op=.assign (.tmp 18):=by kernel_rfl
def xGo:((gO 4).toList.getD 3 default).dst=some 3:=by kernel_rfl
def xGt:((gO 4).toList.getD 3 default).guard=none:=by kernel_rfl
def xFq:((gO 2).toList.getD 3 default).op=.binOp .eql 90 (.tmp 9) (.const (.pointer none)) 90:=by kernel_rfl
def xGG:Tryz.f105.results.toList=[.tmp 3]:=by kernel_rfl
def xFH {ρ:Operand->AV} {t1 t2 t3:Tmp} {ms:List AV} {T:List Box} {k:List UInt8} {g:Nat} (h1:ρ (.tmp t1)=.own (.b 0) 0 0 0) (h2:ρ (.tmp t2)=.str k) (h3:ρ (.tmp t3)=.gptr g) (hk:k.length<=xIL) (hm:ms.length<xIL):iop Tryz.prog ρ (mapB ms::T) (.mapUpdate 88 (.tmp t1) (.tmp t2) (.tmp t3))=some (.tuple [],mapB (xIc ms k (.gptr g))::T):=by
 have h7:getMap (mapB ms::T) 0 0=some (mapB ms):=by
  unfold getMap;show (if _ then _ else _)=_
  rw [if_pos];exact ⟨rfl,xCb,xs5,xs6,rfl,rfl⟩
 have h8:(mapB ms).frz=false/\(AV.gptr g).one=true/\(AV.gptr g).pure=true/\(mapB ms).xs.length<xIL/\k.length<=xIL:=⟨rfl,rfl,rfl,hm,hk⟩;simp only [iop,h1,h2,h3,absPutM,xCc,xFs,h7,h8,and_self,if_true];rfl
def xqZ {k:List UInt8}:∀ {ms:List AV} {j:Nat},mapIx ms k=some j->∀ i,i<j->isKey k ((ms.getD i .top).cells.getD 0 .top)=false
 | [],j,h,_,_=>by simp [mapIx] at h
 | e::es,j,h,i,hi=>by
  rw [mapIx] at h;cases hc:isKey k (e.cells.getD 0 .top) with
  | true=>rw [hc] at h;simp only [z6] at h;omega
  | false =>
   rw [hc] at h;cases hm:mapIx es k with
   | none=>rw [hm] at h;simp at h
   | some j' =>
    rw [hm] at h;simp only [Option.map_some,z6] at h;cases i with
    | zero=>simpa using hc
    | succ i=>simpa using xqZ hm i (by omega)
def xqx {k:List UInt8}:∀ {ms:List AV},mapIx ms k=none->∀ i,i<ms.length->isKey k ((ms.getD i .top).cells.getD 0 .top)=false
 | [],_,i,hi=>by simp at hi
 | e::es,h,i,hi=>by
  rw [mapIx] at h;cases hc:isKey k (e.cells.getD 0 .top) with
  | true=>rw [hc] at h;simp at h
  | false =>
   rw [hc] at h;cases hm:mapIx es k with
   | some j'=>rw [hm] at h;simp at h
   | none =>
    cases i with
    | zero=>simpa using hc
    | succ i=>simpa using xqx hm i (by simpa using hi)
def xDy {k:List UInt8} {v:AV}:∀ {ms:List AV},xIe .nilptr (xIc ms k v) k=v
 | ms=>by
  have q:putIx ms k<(xIc ms k v).length:=by
   unfold xIc putIx;cases h:mapIx ms k with
   | some i=>simpa using xin h
   | none=>simp
  have h1:(xIc ms k v).getD (putIx ms k) .top=.agg [.str k,v]:=by rw [xkw,if_pos rfl]
  have h2:mapIx (xIc ms k v) k=some (putIx ms k):=by
   refine xmD q (by rw [h1];simp [AV.cells,isKey]) fun i hi=>?_
   rw [xkw,if_neg (by omega)]
   unfold putIx at hi;cases h:mapIx ms k with
   | some j =>
    rw [h] at hi;exact xqZ h i hi
   | none =>
    rw [h] at hi;exact xqx h i hi
  unfold xIe;rw [h2];dsimp only;rw [h1];rfl
end Go.Sim.M
end
noncomputable section
set_option maxRecDepth 100000
namespace Go.Sim.M
open Go.RowKit Go.Proofs
def hIoG (n:Nat):InvOk (xIE.at n):=xH6 Tryz.prog n
def orcG:xHX Tryz.prog (xIE.at 0) EG:=xrR.ok.fn
def gS5 (ts:List AV) (k:List UInt8):List AV:=(ts.set 16 (.own (.b 0) 0 0 0)).set 17 (.str k)
def gS6 (ts:List AV) (k:List UInt8) (g:Nat):List AV:=((gS5 ts k).set 18 (.gptr g)).set 3 (.gptr g)
def xFr {ts:List AV} (hl:ts.length=19) (k:List UInt8) (g:Nat) (H:List Box):resAllM Tryz.prog ⟨gS6 ts k g,H⟩ Tryz.f105.results.toList=some [.gptr g]:=by
 have e:(gS6 ts k g).getD 3 .top=.gptr g:=by
  unfold gS6 gS5;simp [z7,hl]
 rw [xGG];have e2:resVal Tryz.prog ⟨gS6 ts k g,H⟩ (.tmp 3)=some (.gptr g):=by
  show some ((gS6 ts k g).getD 3 .top)=_;rw [e]
 simp only [resAllM,e2]
def xm6 {ops:Array Oper} {l:List Oper} {s s':St} (h:xOps Tryz.prog EG none (some true) ops l s some=some s'):Path (OpA Tryz.prog (xIE.at 0)) ops l s s':=by
 obtain ⟨s1,h1,h2⟩:=xbY orcG h;cases h2;exact h1
section
variable {w0 w : World} {A0 : Cx} {A : Nat -> Prop} {M : Id -> Option MB} {a : Act}
def xAO (hI:xIE w0) {ts ms:List AV} {k:List UInt8} {T:List Box} {g:Nat} (q:ts.length=19) (hp:xOps Tryz.prog EG none (some true) (gO 4) ((gO 4).toList.take 2) ⟨ts,mapB ms::T⟩ some=some ⟨gS5 ts k,mapB ms::T⟩) (O:k.length<=xIL) (hg:xIe .nilptr ms k=.gptr g) (hs:SR w0 A0 w A M ⟨ts,mapB ms::T⟩ a) {Q:Exit->Act->World->Prop}
  (hK:∀ a' w' A' M',SR w0 A0 w' A' M' ⟨gS6 ts k g,mapB ms::T⟩ a'->Mv w A M w' A' M'->Q .normal a' w'):(Code.region 4 (gO 4) false).wpIn (wideR none) 0 Tryz.prog Q a w:=by
 refine wpIn_region_list (xdi none 0 _ (xbX xGz) _ _ ?_);rw [xGV];refine xdF (hIoG 0) hI (xm6 hp) hs fun a1 w1 A1 M1 Z V=>wpList_plain xGs fun K Y=>?_
 have hl:OpA Tryz.prog (xIE.at 0) ⟨gS5 ts k,mapB ms::T⟩ ((gO 4).toList.getD 2 default) ⟨(gS5 ts k).set 18 (.gptr g),mapB ms::T⟩:=by
  refine .inr (.inl (.inl ⟨.gptr g,mapB ms::T,?_,?_⟩))
  . rw [xGA,<-hg];exact xyj (by simp [St.eval,gS5,z7,q]) (by simp [St.eval,gS5,z7,q]) O
  . rw [xGn];rfl
 refine xiq (hIoG 0) hI hl Z fun v w2 A2 M2 W mv2=>Y _ _ (wpList_plain xGt fun K2 ab=>?_)
 have aa:OpA Tryz.prog (xIE.at 0) ⟨(gS5 ts k).set 18 (.gptr g),mapB ms::T⟩ ((gO 4).toList.getD 3 default) ⟨gS6 ts k g,(mapB ms::T)++(none:Option Box).toList⟩:=by
  refine .inl (.inl ⟨.gptr g,none,.inl ?_,?_⟩)
  . rw [xGB];simp [fop,St.eval,gS5,z7,q]
  . rw [xGo];rfl
 refine xiq (hIoG 0) hI aa W fun v2 w3 A3 M3 J mv3=>ab _ _ (wpList_nil ?_)
 simp only [Option.toList,zD] at J;exact hK _ _ _ _ J ((V.trans mv2).trans mv3)
def xGE (row ms:List AV) (k:List UInt8) (g:Nat):xOps Tryz.prog EG none (some true) (gO 4) ((gO 4).toList.take 2) ⟨gT3 row k (.gptr g) false,[mapB ms]⟩ some=some ⟨gS5 (gT3 row k (.gptr g) false) k,[mapB ms]⟩:=by kernel_rfl
noncomputable def gT7 (row:List AV) (k:List UInt8) (g:Nat):List AV:=(gT4 row k).set 15 (.gptr g)
def xGF (row ms:List AV) (k:List UInt8) (g:Nat):xOps Tryz.prog EG none (some true) (gO 4) ((gO 4).toList.take 2) ⟨gT7 row k g,[mapB ms,boxN row]⟩ some=some ⟨gS5 (gT7 row k g) k,[mapB ms,boxN row]⟩:=by kernel_rfl
end
def xGp (row:List AV) (k:List UInt8) (g:Nat) (H:List Box):St.eval ⟨gT7 row k g,H⟩ (.tmp 11)=.own (.b 0) 0 0 0:=by kernel_rfl
def xGq (row:List AV) (k:List UInt8) (g:Nat) (H:List Box):St.eval ⟨gT7 row k g,H⟩ (.tmp 12)=.str k:=by kernel_rfl
def xGr (row:List AV) (k:List UInt8) (g:Nat) (H:List Box):St.eval ⟨gT7 row k g,H⟩ (.tmp 15)=.gptr g:=by kernel_rfl
def xFo (row:List AV) (k:List UInt8) (g:Nat):(gT7 row k g).length=19:=by kernel_rfl
def xFn (row:List AV) (k:List UInt8) (y:AV) (b:Bool):(gT3 row k y b).length=19:=by kernel_rfl
def xGY (row:List AV) (k:List UInt8) (g:Nat):putT (gT7 row k g) none (.tuple [])=gT7 row k g:=by rfl
def GetPost (row ms:List AV) (k:List UInt8) (g:Nat) (H:List Box) (M':Id->Option MB):Prop :=
 (xIe .nilptr ms k=.gptr g/\H=[mapB ms]) \/
 (xIe .nilptr ms k=.nilptr/\H=[mapB (xIc ms k (.gptr g)),boxN row]/\∃ m,M' (.b 1)=some m/\0<m.cap/\m.b=g)
section
variable {w0 w : World} {A0 : Cx} {A : Nat -> Prop} {M : Id -> Option MB} {a : Act}
def HR.same {w':World} {A':Nat->Prop} {M':Id->Option MB} {B n:Nat} {H H':List Box} {bx bx':Box} {m:MB} (h:HR w A M B H) (h':HR w' A' M' B H') (hx:MExt M M') (hb:H[n]?=some bx) (q:H'[n]?=some bx') (hv:bx'.ver=bx.ver) (hm:M (.b n)=some m):M' (.b n)=some m:=by
 obtain ⟨m',h1,h2⟩:=hx _ _ hm;obtain ⟨c,g1,g2⟩:=h.box _ _ hm;obtain ⟨c',g3,g4⟩:=h'.box _ _ h1;have e1:bx=c:=Option.some.inj (hb.symm.trans g1);have e2:bx'=c':=Option.some.inj (q.symm.trans g3);subst e1 e2;have:=g2.ver;have:=g4.ver;rcases h2 with rfl|h2
 . exact h1
 . omega
set_option maxHeartbeats 2000000 in
def xCe (hI:xIE w0) {row ms:List AV} {k:List UInt8} (hk:xau row=some k) (Y:k.length<=xIL) (hm:ms.length<xIL) (ay:xIe .nilptr ms k=.nilptr\/∃ g,xIe .nilptr ms k=.gptr g) (ar:SR w0 A0 w A M ⟨gT0 row,[mapB ms]⟩ a) {Q:Exit->Act->World->Prop}
  (hQ:∀ a' w' A' M' ts H g,SR w0 A0 w' A' M' ⟨gS6 ts k g,H⟩ a'->ts.length=19->Mv w A M w' A' M'->GetPost row ms k g H M'->Q .ret a' w'):gB.wpIn (wideR none) 0 Tryz.prog Q a w:=by
 rw [xGm];refine wpIn_seq (xrI (hIoG 0) hI xGu (xm6 (xGx row ms)) ar fun a1 w1 A1 M1 ao a0=>?_)
 have p1:=xG0 row ms;rw [hk,zk,xaa,zh] at p1;refine wpIn_seq (xrI (hIoG 0) hI xGv (xm6 p1) ao fun a2 w2 A2 M2 aq mv2=>?_)
 refine wpIn_seq (wpIn_seq (wpIn_region_list (xdi none 0 _ (xbX xGw) _ _ ?_)));rw [xGT];refine xdF (hIoG 0) hI (xm6 (xGC row ms k)) aq fun a3 w3 A3 M3 aj mv3=>wpList_plain xGQ fun K an=>?_
 have hl:OpA Tryz.prog (xIE.at 0) ⟨gT2 row k,[mapB ms]⟩ ((gO 2).toList.getD 2 default) ⟨(gT2 row k).set 9 (xIe .nilptr ms k),[mapB ms]⟩:=by
  refine .inr (.inl (.inl ⟨xIe .nilptr ms k,[mapB ms],?_,?_⟩))
  . rw [xGW];exact xyj rfl rfl Y
  . rw [xGO];rfl
 refine xiq (hIoG 0) hI hl aj fun v w4 A4 M4 q a7=>an _ _ (wpList_plain xGR fun K2 ah=>?_)
 have aa:=((a0.trans mv2).trans mv3).trans a7;generalize a3.put _ v=a4 at q;have h9:=q.eval (.tmp 9);have e9:St.eval ⟨(gT2 row k).set 9 (xIe .nilptr ms k),[mapB ms]⟩ (.tmp 9)=xIe .nilptr ms k:=rfl;rw [e9] at h9;have hc:a4.eval (.const (.pointer none))=.pointer none:=rfl;unfold Oper.wp;rcases ay with hn|⟨g,hg⟩
 ·
  rw [hn] at h9 q;have v9:a4.eval (.tmp 9)=.pointer none:=by
   generalize a4.eval (.tmp 9)=u at h9;cases h9;rfl
  simp only [execOp,xFq,v9,hc,xB6,Sem.run_bind,Result.andThen_ok,Sem.run_pure];show K2 (a4.put ((gO 2).toList.getD 3 default).dst (.bool true)) w4;rw [xFm];refine ah _ _ (wpList_nil ?_);have J:=q.put (d:=some 10) q.base q.outer Mv.refl q.heap (Rel.bool (w:=w4) (A:=A4) (M:=M4) true);have J:SR w0 A0 w4 A4 M4 ⟨gT3 row k .nilptr true,[mapB ms]⟩ (a4.put (some 10) (.bool true)):=J;generalize a4.put (some 10) (.bool true)=a5 at J;have ac:a5.eval (.tmp 10)=.bool true:=by
   have:=J.eval (.tmp 10);exact this.bool_inv
  refine wpIn_cond_split ac (fun _=>?_) (fun h=>by cases h)
  refine wpIn_region_list (xdi none 0 _ (xbX xGy) _ _ ?_);rw [xGU];refine xdF (hIoG 0) hI (xm6 (xGD row ms k)) J fun a6 w6 A6 M6 O mv6=>wpList_plain xGS fun K3 ak=>?_
  have W:=O.eval (.tmp 15);have W:Rel w6 A6 M6 (a6.eval (.tmp 15)) (.own (.b 1) 0 0 0):=W;obtain ⟨m,ae,al⟩:∃ m,M6 (.b 1)=some m/\(m.ver=0->a6.eval (.tmp 15)=ptrOf m 0 0):=by
   generalize a6.eval (.tmp 15)=u at W;cases W with
   | own v id ver i j m hm hv h1 he=>exact ⟨m,hm,fun h=>he h.symm⟩
  obtain ⟨bx,ax,ad⟩:=O.heap.box _ _ ae;obtain rfl:boxN row=bx:=by simpa [getB] using ax
  have ag:m.ver=0:=ad.ver.symm;have aw:xHZ m.ty=false:=by rw [<-ad.ty];kernel_rfl
  have hcap:0<m.cap:=Nat.lt_of_lt_of_le (by simp [boxN]) ad.fits
  have au:a6.eval (.tmp 15)=.pointer (some ⟨m.b,0,none⟩):=by
   rw [al ag];unfold ptrOf;rw [aw];simp
  have af:SR w0 A0 w6 A6 M6 ⟨gT7 row k m.b,[mapB ms,boxN row]⟩ a6:=by
   refine ⟨O.base,O.outer,by rw [O.size];rfl,fun t ht=>?_,O.heap,O.defers,O.ev⟩
   by_cases h:t=15
   . subst h;show Rel w6 A6 M6 (a6.tmps.getD 15 undef) (.gptr m.b);have:a6.tmps.getD 15 undef=.pointer (some ⟨m.b,0,none⟩):=au;rw [this];exact .gptr _
   . have h1:=O.tmps t (by simpa [gT7] using ht)
     have e:(gT7 row k m.b).getD t .top=(gT4 row k).getD t .top:=by
      unfold gT7;simp only [z7,List.getElem?_set,Ne.symm h,if_false]
     show Rel w6 A6 M6 _ ((gT7 row k m.b).getD t .top);rw [e];exact h1
  have ap:OpA Tryz.prog (xIE.at 0) ⟨gT7 row k m.b,[mapB ms,boxN row]⟩ ((gO 3).toList.getD 5 default) ⟨gT7 row k m.b,[mapB (xIc ms k (.gptr m.b)),boxN row]⟩:=by
   refine .inr (.inl (.inl ⟨.tuple [],[mapB (xIc ms k (.gptr m.b)),boxN row],?_,?_⟩))
   . rw [xGX];exact xFH (xGp row k m.b _) (xGq row k m.b _) (xGr row k m.b _) Y hm
   . rw [xGP];exact congrArg (fun t=>(⟨t,_⟩:St)) (xGY row k m.b).symm
  refine xiq (hIoG 0) hI ap af fun v8 w8 A8 M8 ab ai=>ak _ _ (wpList_nil ?_)
  have am:=HR.same af.heap ab.heap ai.ext (n:=1) rfl rfl rfl ae;refine wpIn_seq (xAO hI (xFo row k m.b) (xGF row _ k m.b) Y xDy ab fun a9 w9 A9 M9 Z V=>?_)
  have az:=HR.same ab.heap Z.heap V.ext (n:=1) rfl rfl rfl am;refine wpIn_ret (hQ _ _ _ _ _ _ m.b Z (xFo row k m.b) (((aa.trans mv6).trans ai).trans V) (.inr ⟨hn,rfl,m,az,hcap,rfl⟩))
 . rw [hg] at h9 q;have v9:a4.eval (.tmp 9)=.pointer (some ⟨g,0,none⟩):=by
    generalize a4.eval (.tmp 9)=u at h9;cases h9;rfl
   simp only [execOp,xFq,v9,hc,xDv,Sem.run_bind,Result.andThen_ok,Sem.run_pure];show K2 (a4.put ((gO 2).toList.getD 3 default).dst (.bool false)) w4;rw [xFm];refine ah _ _ (wpList_nil ?_);have J:=q.put (d:=some 10) q.base q.outer Mv.refl q.heap (Rel.bool (w:=w4) (A:=A4) (M:=M4) false);have J:SR w0 A0 w4 A4 M4 ⟨gT3 row k (.gptr g) false,[mapB ms]⟩ (a4.put (some 10) (.bool false)):=J;generalize a4.put (some 10) (.bool false)=a5 at J;have ac:a5.eval (.tmp 10)=.bool false:=by
    have:=J.eval (.tmp 10);exact this.bool_inv
   refine wpIn_cond_split ac (fun h=>by cases h) (fun _=>wpIn_skip ?_)
   refine wpIn_seq (xAO hI (xFn row k (.gptr g) false) (xGE row ms k g) Y hg J fun a9 w9 A9 M9 Z V=>?_)
   exact wpIn_ret (hQ _ _ _ _ _ _ g Z (xFn row k (.gptr g) false) (aa.trans V) (.inl ⟨hg,rfl⟩))
end
end Go.Sim.M
end
noncomputable section
set_option maxRecDepth 100000
namespace Go.Sim.M
open Go.RowKit Go.Proofs
def xFl:Tryz.f105.body=some gB:=by kernel_rfl
def xFp:Tryz.f105.ntmps=19:=by kernel_rfl
def xoS {args:List AV} {n t:Nat} (h:t<args.length):(args++List.replicate n (AV.tuple [])).getD t .top=args.getD t .top:=by
 simp [z7,zP,h]
def xoT {args:List AV} {n t:Nat} (h1:¬ t<args.length) (h2:t - args.length<n):(args++List.replicate n (AV.tuple [])).getD t .top=.tuple []:=by
 simp [z7,zP,h1,List.getElem?_replicate,h2]
def xAL (row:List AV):gT0 row=[AV.list 3 row,.func vpF [.own (.b 0) 0 0 0]]++List.replicate 17 (.tuple []):=by rfl
def xtK {w0 w:World} {A:Nat->Prop} {M:Id->Option MB} {vs:List Value} {row ms:List AV} {k:List UInt8} (hI:xIE w0) (Q:Below w0.heap.size w0 w) (hR:HR w A M w0.heap.size [mapB ms]) (V:RC w A M vs [.list 3 row,.func vpF [.own (.b 0) 0 0 0]])
  (hk:xau row=some k) (Z:k.length<=xIL) (hm:ms.length<xIL) (ac:xIe .nilptr ms k=.nilptr\/∃ g,xIe .nilptr ms k=.gptr g) :
  Calls Tryz.prog 105 vs.toArray w fun e w'=>∃ v A' M' g,e=.returned v/\v=.pointer (some ⟨g,0,none⟩)/\Below w0.heap.size w0 w'/\(∀ b,b<w0.heap.size->(A' b↔A b))/\Mv w A M w' A' M'/\∃ H,HR w' A' M' w0.heap.size H/\GetPost row ms k g H M':=by
 refine callsIn_wide.1 (callsIn_of_wp_marks (F:=Fence.wide) (n:=0) Tryz.func105 xFl trivial ?_);refine xCe (A0:=⟨A,w,A,M,1,fun _=>False⟩) (A:=A) (M:=M) (k:=k) (row:=row) (ms:=ms) hI hk Z hm ac ⟨Q,fun _ _=>Iff.rfl,?_,fun t ht=>?_,hR,DefOk.nil,Ev.refl (C:=⟨A,w,A,M,1,fun _=>False⟩)⟩ ?_
 . rw [xFp];have:=V.1;simp [xAL,this]
 . have hl:=V.1;have hl:vs.length=2:=hl;rw [xFp];show Rel w A M _ ((gT0 row).getD t .top);rw [xAL];by_cases O:t<2
   . have e1:(vs.toArray++Array.replicate (19 - vs.toArray.size) undef).getD t undef=vs.getD t undef:=by
      have:t<vs.length:=by omega
      simp [z7,Array.getElem?_append,this]
     rw [e1,xoS O];exact V.2 t O
   . have ht:t<19:=by
      have h0:(gT0 row).length=19:=rfl;rw [<-h0];exact ht
     have h1:¬ t<vs.length:=by omega
     have e1:(vs.toArray++Array.replicate (19 - vs.toArray.size) undef).getD t undef=undef:=by
      have h2:t - vs.length<19 - vs.length:=by omega
      simp [Array.getElem?_append,h1,h2]
     rw [e1,xoT O (show t - 2<17 by omega)]
     exact .tuple #[] [] rfl (by simp)
 . intro a' w' A' M' ts H g aa Y ad W;show LeavesInM Fence.wide 0 Tryz.prog Tryz.f105 a'.tmps _ a'.defers .returning w';refine xlP (fun _ h=>h) aa fun w2 J=>?_
   obtain ⟨v,hv,q⟩:=xkI (P:=Tryz.prog) J (xFr Y k g H);have ab:v=.pointer (some ⟨g,0,none⟩):=by
    have q:Rel w2 A' M' v (.gptr g):=q;cases q;rfl
   exact ⟨v,hv,v,A',M',g,rfl,ab,J.base,J.outer,J.ev.mv hR (zd 1),H,J.heap,W⟩
end Go.Sim.M
end
noncomputable section
set_option maxRecDepth 100000
namespace Go.Sim
open Go.RowKit
def keepT (live:List Nat) (ts:List AV):List AV:=mkTs ts.length (live.zip (liveOf live ts))
def keepS (live:List Nat) (s:St):St:=⟨keepT live s.tmps,s.heap⟩
section
variable {P : Program} {Inv : IV} {w0 w w' : World} {A0 : Cx} {A A' : Nat -> Prop} {M M' N N' : Id -> Option MB} {a : Act} {B F : Nat} {e : EntV}
def SR.mask {s:St} (h:SR w0 A0 w A M s a) (live:List Nat):SR w0 A0 w A M (keepS live s) a:=by
 have hl:(keepT live s.tmps).length=s.tmps.length:=xhg _ _;refine ⟨h.base,h.outer,h.size.trans hl.symm,fun t ht=>?_,h.heap,h.defers,h.ev⟩
 have ht':t<s.tmps.length:=by rw [<-hl];exact ht
 show Rel w A M _ ((keepT live s.tmps).getD t .top);rcases xqc s.tmps.length s.tmps rfl t live with e|e
 . unfold keepT;rw [e];exact h.tmps t ht'
 . unfold keepT;rw [e];exact .top _
def xeO {E:Env} (q:xHX P Inv E) (J:InvOk Inv) (hI:Inv w0) {ro:Option Nat} {id:Nat} {ops:Array Oper} {Q:Exit->Act->World->Prop} {s s':St} {live:List Nat} (O:noDefer ops=true) (hp:xOps P E none (some true) ops ops.toList s (fun s=>some (keepS live s))=some s') (hs:SR w0 A0 w A M s a)
  (hK:∀ a' w' A' M',SR w0 A0 w' A' M' s' a'->Mv w A M w' A' M'->Q .normal a' w'):(Code.region id ops false).wpIn (wideR ro) 0 P Q a w:=by
 obtain ⟨s1,h1,h2⟩:=xbY q hp;cases h2;exact xrI J hI O h1 hs fun a' w' A' M' k1 k2=>hK a' w' A' M' (k1.mask live) k2
def callX {o:Oper} {c:Call} {s:St} {g:FuncId} {args:List AV} {R:Value->World->Prop} (ho:o.op=.call c) (q:xIK s c=some (g,args)) (he:Enters P g) (hs:SR w0 A0 w A M s a)
  (J:∀ vs,RC w A M vs args->Calls P g vs.toArray w fun e w'=>∃ v,e=.returned v/\R v w') {K:Act->World->Prop} {Q:Exit->Act->World->Prop} (hK:∀ v w',R v w'->K (a.put o.dst v) w'):o.wp P a w K Q:=by
 unfold xIK at q;split at q
 case h_2=>simp at q
 rename_i fo V;split at q
 case h_2=>simp at q
 rename_i g' Y aa;split at q
 . simp at q
 rename_i Z;simp only [z6,zb] at q;obtain ⟨rfl,rfl⟩:=q;have W:=hs.eval fo;rw [aa] at W;obtain ⟨cv,ae,ad,ab⟩:=W.func_inv Z;have O:=xow (w:=w) (A:=A) (M:=M) (l:=c.args.toList) (ρc:=a.eval) (ρ:=s.eval) (fun x _=>hs.eval x)
 have ac:RC w A M (c.args.toList.map a.eval++cv.toList) (c.args.toList.map s.eval++Y):=RC.append ⟨O.1,O.2⟩ ⟨by simpa using ad,fun i hi=>by have:=ab i hi;simpa [z7,zu] using this⟩
 unfold Oper.wp;rw [xrn ho V ae he,Oper.upon_enter];refine (J _ ac).mono ?_;rintro e w' ⟨v,rfl,hr⟩;exact hK v w' hr
def SR.settle1 {ts:List AV} {H:List Box} (h:SR w0 A0 w A M ⟨ts,H⟩ a) {t:Nat} {y:AV} (hy:resolve H xIg (ts.getD t .top)=some y):∃ A1,SR w0 A0 w A1 M ⟨ts.set t y,freeze H (reach H xIg (ts.getD t .top))⟩ a/\Mv w A M w A1 M :=
 h.settle (s1:=⟨ts.set t y,freeze H (reach H xIg (ts.getD t .top))⟩) ⟨_,rfl,by simp,fun t'=>by
  by_cases hd:t=t'
  . subst hd;by_cases q:t<ts.length
    . right;simp only [xcp q];exact ⟨hy,fun _ h=>h⟩
    . left;simp only [List.set_eq_of_length_le (Nat.le_of_not_lt q)]
  . left;simp only [xcq hd]⟩
def SR.setT {ts:List AV} {H:List Box} (h:SR w0 A0 w A M ⟨ts,H⟩ a) {t:Nat} {y:AV} (hy:t<ts.length->Rel w A M (a.tmps.getD t undef) y):SR w0 A0 w A M ⟨ts.set t y,H⟩ a:=by
 refine ⟨h.base,h.outer,by rw [h.size];simp,fun t' ht=>?_,h.heap,h.defers,h.ev⟩
 have ht':t'<ts.length:=by simpa using ht
 show Rel w A M _ ((ts.set t y).getD t' .top);by_cases hd:t=t'
 . subst hd;rw [xcp ht'];exact hy ht'
 . rw [xcq hd];exact h.tmps t' ht'
def Apart.joined (h1:Apart N M) (h2:Apart N N'):Apart N (MJ M N'):=fun id m id' m' g1 g2 g3 g4=>by
 rcases xpK g3 with ⟨rfl,h⟩|⟨k,rfl,h⟩
 . exact h1 _ _ _ _ g1 g2 h g4
 . exact h2 _ _ _ _ g1 g2 h g4
def Apart.part {q:Id->Bool} (h:Apart N M):Apart N (MR q M):=fun id m id' m' g1 g2 g3 g4=>h id m id' m' g1 g2 (xgy g3).2 g4
def HR.split {H:List Box} (h:HR w A M B H):Apart (MR (pB qe1) M) (MR (pB q0) M):=fun id m id' m' g1 g2 g3 g4 he=>by
 obtain ⟨p1,h1⟩:=xgy g1;obtain ⟨p2,h2⟩:=xgy g3;have:=h.inj id id' m m' h1 h2 g2 g4 he;subst this;cases id with
 | r n i j=>simp [pB] at p1
 | b n=>cases n<;>simp [pB,q0,qe1] at p1 p2
def xg2 (M:Id->Option MB):∀ id m,MR (pB q0) M id=some m->pB q0 id=true:=fun id m h=>(xgy h).1
end
def xDt (e:EntV):boxIn (pB qe1) e.E=true:=by
 simp only [boxIn,EntV.E,List.all_cons,List.all_nil,zS,AV.cells,AV.inPs,AV.inP,pB,qe1,Bool.and_self];rfl
def xDr (e:EntV):boxIn (pB qe1) e.A=true:=by rfl
def xDs (e:EntV):boxIn (pB qe1) e.B=true:=by rfl
section
variable {w0 w w' : World} {A0 : Cx} {A A' : Nat -> Prop} {M M' N N' : Id -> Option MB} {a : Act} {F : Nat} {e : EntV}
def SR.out {b0:Box} {T:List Box} {ts:List AV} (hs:SR w0 A0 w A M ⟨ts,b0::e.E::e.A::e.B::T⟩ a) (O:∀ id,A0.M1 id=none) {m:MB} (hm:M (.b 1)=some m) (hg:m.b=e.g) (h2:∃ m,M (.b 2)=some m) (h3:∃ m,M (.b 3)=some m):EntAt w A w0.heap.size A0.w1.heap.size e (MR (pB qe1) M):=by
 refine ⟨?_,fun id m h=>(xgy h).1,⟨m,xrU rfl hm,?_,hg⟩,?_,?_,fun id m h h0=>?_⟩
 . refine (hs.heap.part (q:=qe1) fun n bx hb hq=>?_).swap fun n hq=>?_
   . match n,hq with
     | 1,_ =>
      obtain rfl:e.E=bx:=by simpa using hb
      exact ⟨xDt e,fun j _=>rfl⟩
     | 2,_ =>
      obtain rfl:e.A=bx:=by simpa using hb
      exact ⟨xDr e,fun j _=>rfl⟩
     | 3,_ =>
      obtain rfl:e.B=bx:=by simpa using hb
      exact ⟨xDs e,fun j _=>rfl⟩
   . match n,hq with
     | 1,_=>rfl
     | 2,_=>rfl
     | 3,_=>rfl
 . obtain ⟨bx,hb,J⟩:=hs.heap.box _ _ hm;obtain rfl:e.E=bx:=by simpa [getB] using hb
   exact Nat.lt_of_lt_of_le (by simp [EntV.E]) J.fits
 . obtain ⟨m,h⟩:=h2;exact ⟨m,xrU rfl h⟩
 . obtain ⟨m,h⟩:=h3;exact ⟨m,xrU rfl h⟩
 . rcases hs.ev.src _ _ (xgy h).2 h0 with ⟨i,m1,h1,_⟩|h1
   . rw [O] at h1;cases h1
   . exact h1
def SR.newE {b0:Box} {ts row:List AV} {g:Nat} (hs:SR w0 A0 w A M ⟨ts,[b0,⟨0,3,94,[.agg [.list 3 row,.nils,.nils]],false,true⟩]⟩ a) {m:MB} (hm:M (.b 1)=some m) (hg:m.b=g) :
  ∃ M',SR w0 A0 w A M' ⟨ts,[b0,EntV.E ⟨g,row,[],[],0,0⟩,EntV.A ⟨g,row,[],[],0,0⟩,EntV.B ⟨g,row,[],[],0,0⟩]⟩ a/\Mv w A M w A M'/\M' (.b 1)=some m/\(∃ m,M' (.b 2)=some m)/\∃ m,M' (.b 3)=some m:=by
 obtain ⟨M1,h1,v1⟩:=hs.heap.cellnilJ (n:=2) (j0:=1) 100 (id:=1) rfl rfl rfl rfl;obtain ⟨M2,h2,v2⟩:=h1.cellnilJ (n:=2) (j0:=2) 100 (id:=1) rfl rfl rfl rfl;have hv:=v1.trans v2;have h3:HR w A M2 w0.heap.size [b0,EntV.E ⟨g,row,[],[],0,0⟩,EntV.A ⟨g,row,[],[],0,0⟩,EntV.B ⟨g,row,[],[],0,0⟩]:=h2;have J:M2 (.b 1)=some m:=_root_.Go.Sim.M.HR.same hs.heap h3 hv.ext (n:=1) rfl rfl rfl hm;obtain ⟨bx,hb,q⟩:=h3.box _ _ J;obtain rfl:EntV.E ⟨g,row,[],[],0,0⟩=bx:=by simpa [getB] using hb
 have hcap:0<m.cap:=Nat.lt_of_lt_of_le (by simp [EntV.E]) q.fits
 obtain ⟨c,_,_,hc⟩:=q.cells hcap;have hsz:m.sz=3:=q.sz.symm;refine ⟨M2,⟨hs.base,hs.outer,hs.size,fun t ht=>hv.rel (hs.tmps t ht),h3,hs.defers,hs.ev.step hv⟩,hv,J,?_,?_⟩
 . have h:=hc 0 1 (by simp [EntV.E]) (by omega)
   have h:Rel w A M2 (c.getD (0*m.sz+1) undef) (.osl (.b 2) 0 0 0):=h;generalize c.getD (0*m.sz+1) undef=v at h;cases h with
   | osl v id ver off len m hm hv h1 he=>exact ⟨_,hm⟩
 . have h:=hc 0 2 (by simp [EntV.E]) (by omega)
   have h:Rel w A M2 (c.getD (0*m.sz+2) undef) (.osl (.b 3) 0 0 0):=h;generalize c.getD (0*m.sz+2) undef=v at h;cases h with
   | osl v id ver off len m hm hv h1 he=>exact ⟨_,hm⟩
end
end Go.Sim
end
noncomputable section
set_option maxRecDepth 100000
namespace Go.Sim.M
open Go.RowKit Go.Proofs
noncomputable abbrev cB:Code:=Tryz.f75.body.getD .skip
noncomputable abbrev cO (n:Nat):Array Oper:=opsOf (regOf cB n)
noncomputable abbrev EC (p:Nat):Env:=xrR.E.fn 62 p (lsOf []) (xIi [])
def orcC (p:Nat):xHX Tryz.prog (xIE.at p) (EC p):=xrR.ok.fn
def vC:AV:=.func vpF [.own (.b 0) 0 0 0]
noncomputable def lpA:Code:=.seq (.region 4 (cO 4) false) (.seq (.cond (.tmp 18) .skip (.exit 0)) (.seq (.block 1 (.seq (.region 5 (cO 5) false) (.seq (.region 6 (cO 6) false) (.region 7 (cO 7) true)))) (.region 8 (cO 8) false)))
noncomputable def lpB:Code:=.seq (.region 10 (cO 10) false) (.seq (.cond (.tmp 41) .skip (.exit 2)) (.seq (.block 3 (.seq (.region 11 (cO 11) false) (.seq (.region 12 (cO 12) false) (.region 13 (cO 13) true)))) (.region 14 (cO 14) false)))
def xF5:cB=.seq (.region 0 (cO 0) false) (.seq (.region 1 (cO 1) false) (.seq (.region 2 (cO 2) false) (.seq (.seq (.region 3 (cO 3) false) (.block 0 (.loop lpA))) (.seq (.seq (.region 9 (cO 9) false) (.block 2 (.loop lpB))) (.seq (.region 15 (cO 15) false) .ret))))):=by kernel_rfl
def callOf:Op->Call
 | .call c=>c
 | _=>default
def xvn:Enters Tryz.prog 105:=⟨_,Tryz.func105,by kernel_rfl,by kernel_rfl⟩
def rowF (f:AV):List AV:=(f.cells.getD 0 .top).toList
def cntF (f:AV):AV:=.agg [.int .i64 (f.cells.getD 1 .top).toInt,.int .i64 (f.cells.getD 2 .top).toInt,.int .i64 1]
noncomputable def keyF (f:AV):List UInt8:=(xau (rowF f)).getD []
noncomputable def okF (f:AV):Bool:=Nat.beq f.cells.length 3&&(xH1 [.list 3,.int .i64,.int .i64] f.cells 0&&(f.one==false&&(xau (rowF f)).isSome&&decide ((keyF f).length<=4611686018427387904)))
def boxF (f:AV):Box:=⟨0,3,54,[f],false,true⟩
abbrev PE:Type:=List UInt8×List AV×List AV×List AV
def strip (x:List UInt8×EntV):PE:=(x.1,x.2.row,x.2.a,x.2.b)
def ixP (ps:List PE) (k:List UInt8):Option Nat:=ps.findIdx? fun x=>x.1==k
def msOf (es:List (List UInt8×EntV)):List AV:=es.map fun x=>.agg [.str x.1,.gptr x.2.g]
def xlh (es:List (List UInt8×EntV)):(msOf es).length=es.length:=by simp [msOf]
def xmC (k:List UInt8):∀ es:List (List UInt8×EntV),mapIx (msOf es) k=ixP (es.map strip) k
 | []=>rfl
 | x::es=>by
  have ih:=xmC k es;unfold ixP at ih |-;simp only [msOf,zV,mapIx,AV.cells,List.getD_cons_zero,isKey,List.findIdx?_cons];cases h:(x.1==k) with
  | true=>simp [strip,h]
  | false =>
   simp only [strip,h];rw [show List.map (fun x=>AV.agg [AV.str x.fst,AV.gptr x.snd.g]) es=msOf es from rfl,ih]
   simp [strip]
def defP:PE:=([],[],[],[])
def putPA (ps:List PE) (k:List UInt8) (row:List AV) (c:AV):List PE:=match ixP ps k with
 | some j=>ps.set j ((ps.getD j defP).1,(ps.getD j defP).2.1,(ps.getD j defP).2.2.1++[c],(ps.getD j defP).2.2.2)
 | none=>ps++[(k,row,[c],[])]
def putPB (ps:List PE) (k:List UInt8) (row:List AV) (c:AV):List PE:=match ixP ps k with
 | some j=>ps.set j ((ps.getD j defP).1,(ps.getD j defP).2.1,(ps.getD j defP).2.2.1,(ps.getD j defP).2.2.2++[c])
 | none=>ps++[(k,row,[],[c])]
noncomputable def stepPA (ps:List PE) (f:AV):List PE:=putPA ps (keyF f) (rowF f) (cntF f)
noncomputable def stepPB (ps:List PE) (f:AV):List PE:=putPB ps (keyF f) (rowF f) (cntF f)
def _root_.Go.Sim.EntV.addA (e:EntV) (c:AV):EntV:={ e with a:=e.a++[c],va:=e.va+1 }
def _root_.Go.Sim.EntV.addB (e:EntV) (c:AV):EntV:={ e with b:=e.b++[c],vb:=e.vb+1 }
structure Ents (w:World) (A:Nat->Prop) (B F c:Nat) (es:List (List UInt8×EntV)) (Ns:Nat->Id->Option MB) (M:Id->Option MB):Prop where
 ent:∀ (i:Nat) (x:List UInt8×EntV),es[i]?=some x->EntAt w A B F x.2 (Ns i)
 apart:∀ i j,i<es.length->j<es.length->i≠j->Apart (Ns i) (Ns j)
 apm:∀ i,i<es.length->Apart (Ns i) M
 bnd:∀ (i:Nat) (x:List UInt8×EntV),es[i]?=some x->x.2.a.length<=c/\x.2.b.length<=c
 cnt:es.length<=c
def xiI {α:Type} {l:List α} {i:Nat} {x:α} (h:l[i]?=some x):i<l.length:=by
 rcases zJ i l.length with h'|h'
 . exact h'
 . rw [zz h'] at h;cases h
section
variable {w w' : World} {A A' : Nat -> Prop} {B F c : Nat} {es : List (List UInt8 × EntV)} {Ns : Nat -> Id -> Option MB} {M M' M1 : Id -> Option MB}
def Ents.go (h:Ents w A B F c es Ns M) (hm:Mv w A M w' A' M') (q:∀ b,A' b->b<w'.heap.size):Ents w' A' B F c es Ns M' :=
 ⟨fun i x hx=>(h.ent i x hx).go hm q (h.apm i (xiI hx)),h.apart,fun i hi=>by
  obtain ⟨x,hx⟩:∃ x,es[i]?=some x:=⟨es[i],ze hi⟩;exact (h.apm i hi).go (h.ent i x hx) hm,h.bnd,h.cnt⟩
def Ents.part {q:Id->Bool} (h:Ents w A B F c es Ns M):Ents w A B F c es Ns (MR q M):=⟨h.ent,h.apart,fun i hi=>(h.apm i hi).part,h.bnd,h.cnt⟩
def Ents.upd (h:Ents w A B F c es Ns M) {j:Nat} {k:List UInt8} {e':EntV} (hj:j<es.length) (hm:Mv w A (MJ M (Ns j)) w' A' M1) (V:∀ b,A' b->b<w'.heap.size) (he:EntAt w' A' B F e' (MR (pB qe1) M1)) (hs:Apart (MR (pB qe1) M1) (MR (pB q0) M1)) (hb:e'.a.length<=c+1/\e'.b.length<=c+1) :
  Ents w' A' B F (c+1) (es.set j (k,e')) (fun i=>if i=j then MR (pB qe1) M1 else Ns i) (MR (pB q0) M1):=by
 have Q:∀ i,i<es.length->i≠j->Apart (Ns i) M1:=fun i hi hne=>by
  obtain ⟨x,hx⟩:∃ x,es[i]?=some x:=⟨es[i],ze hi⟩;exact ((h.apm i hi).joined (h.apart i j hi hj hne)).go (h.ent i x hx) hm
 refine ⟨fun i x hx=>?_,fun i i' hi O hne=>?_,fun i hi=>?_,fun i x hx=>?_,?_⟩
 . by_cases q:i=j
   . subst q;rw [zL hj] at hx;cases hx;simpa using he
   . rw [zX (fun e=>q e.symm)] at hx
     simp only [q,if_false];exact (h.ent i x hx).go hm V ((h.apm i (xiI hx)).joined (h.apart i j (xiI hx) hj q))
 . rw [y4] at hi O;by_cases q:i=j
   . have J:i'≠j:=fun e=>hne (q.trans e.symm)
     simp only [q,J,if_true,if_false];exact (Apart.part (Q i' O J)).symm
   . by_cases J:i'=j
     . simp only [q,J,if_true,if_false];exact Apart.part (Q i hi q)
     . simp only [q,J,if_false];exact h.apart i i' hi O hne
 . rw [y4] at hi;by_cases q:i=j
   . simp only [q,if_true];exact hs
   . simp only [q,if_false];exact Apart.part (Q i hi q)
 . by_cases q:i=j
   . subst q;rw [zL hj] at hx;cases hx;exact hb
   . rw [zX (fun e=>q e.symm)] at hx
     have:=h.bnd i x hx;omega
 . rw [y4];have:=h.cnt;omega
def Ents.add (h:Ents w A B F c es Ns M) {k:List UInt8} {e':EntV} (hm:Mv w A M w' A' M1) (Q:∀ b,A' b->b<w'.heap.size) (he:EntAt w' A' B F e' (MR (pB qe1) M1)) (hs:Apart (MR (pB qe1) M1) (MR (pB q0) M1)) (hb:e'.a.length<=c+1/\e'.b.length<=c+1) :
  Ents w' A' B F (c+1) (es++[(k,e')]) (fun i=>if i=es.length then MR (pB qe1) M1 else Ns i) (MR (pB q0) M1):=by
 have O:∀ i,i<es.length->Apart (Ns i) M1:=fun i hi=>by
  obtain ⟨x,hx⟩:∃ x,es[i]?=some x:=⟨es[i],ze hi⟩;exact (h.apm i hi).go (h.ent i x hx) hm
 have hl:(es++[(k,e')]).length=es.length+1:=by simp
 refine ⟨fun i x hx=>?_,fun i i' hi V hne=>?_,fun i hi=>?_,fun i x hx=>?_,?_⟩
 . have hi:=xiI hx;by_cases q:i=es.length
   . subst q;simp at hx;subst hx;simpa using he
   . rw [zO (by omega)] at hx
     simp only [q,if_false];exact (h.ent i x hx).go hm Q (h.apm i (xiI hx))
 . by_cases q:i=es.length
   . have J:i'≠es.length:=fun e=>hne (q.trans e.symm)
     simp only [q,J,if_true,if_false];exact (Apart.part (O i' (by omega))).symm
   . by_cases J:i'=es.length
     . simp only [q,J,if_true,if_false];exact Apart.part (O i (by omega))
     . simp only [q,J,if_false];exact h.apart i i' (by omega) (by omega) hne
 . by_cases q:i=es.length
   . simp only [q,if_true];exact hs
   . simp only [q,if_false];exact Apart.part (O i (by omega))
 . have hi:=xiI hx;by_cases q:i=es.length
   . subst q;simp at hx;subst hx;exact hb
   . rw [zO (by omega)] at hx
     have:=h.bnd i x hx;omega
 . have:=h.cnt;omega
end
end Go.Sim.M
end
noncomputable section
set_option maxRecDepth 100000
namespace Go.Sim.M
open Go.RowKit Go.Proofs
def xnM {ops:Array Oper} {l:List Oper} {s s':St} (h:xOps Tryz.prog (EC 0) none (some true) ops l s some=some s'):Path (OpA Tryz.prog (xIE.at 0)) ops l s s':=by
 obtain ⟨s1,h1,h2⟩:=xbY (orcC 0) h;cases h2;exact h1
def xqG {es:List (List UInt8×EntV)} {j:Nat} {x:List UInt8×EntV} (h:es[j]?=some x):(msOf es).getD j .top=.agg [.str x.1,.gptr x.2.g]:=by
 simp [msOf,z7,h]
def xCg {ps:List PE} {k:List UInt8} {j:Nat} (h:ixP ps k=some j):j<ps.length/\(ps.getD j defP).1=k:=by
 unfold ixP at h;obtain ⟨h1,h2,_⟩:=List.findIdx?_eq_some_iff_getElem.1 h;exact ⟨h1,by simpa [z7,h1] using h2⟩
def xAN (es:List (List UInt8×EntV)) (k:List UInt8):xIe .nilptr (msOf es) k=.nilptr\/∃ g,xIe .nilptr (msOf es) k=.gptr g:=by
 unfold xIe;cases h:mapIx (msOf es) k with
 | none=>exact .inl rfl
 | some j =>
  have hj:=xin h;rw [xlh] at hj;obtain ⟨x,hx⟩:∃ x,es[j]?=some x:=⟨es[j],ze hj⟩;right;dsimp only;rw [xqG hx];exact ⟨_,rfl⟩
def xtL {es:List (List UInt8×EntV)} {k:List UInt8} {g:Nat} (h:xIe .nilptr (msOf es) k=.gptr g):∃ j x,es[j]?=some x/\x.1=k/\x.2.g=g/\ixP (es.map strip) k=some j:=by
 unfold xIe at h;cases hi:mapIx (msOf es) k with
 | none=>rw [hi] at h;cases h
 | some j =>
  have hj:=xin hi;rw [xlh] at hj;obtain ⟨x,hx⟩:∃ x,es[j]?=some x:=⟨es[j],ze hj⟩;rw [hi] at h;dsimp only at h;rw [xqG hx] at h;rw [xmC] at hi;have h2:=(xCg hi).2;have e:(es.map strip).getD j defP=strip x:=by simp [z7,hx]
  rw [e] at h2;refine ⟨j,x,hx,h2,?_,hi⟩;have h:AV.gptr x.2.g=.gptr g:=h;injection h
def xyc {es:List (List UInt8×EntV)} {k:List UInt8} (h:xIe .nilptr (msOf es) k=.nilptr):mapIx (msOf es) k=none:=by
 unfold xIe at h;cases hi:mapIx (msOf es) k with
 | none=>rfl
 | some j =>
  have hj:=xin hi;rw [xlh] at hj;obtain ⟨x,hx⟩:∃ x,es[j]?=some x:=⟨es[j],ze hj⟩;rw [hi] at h;dsimp only at h;rw [xqG hx] at h;cases h
def xvG {es:List (List UInt8×EntV)} {j:Nat} {x:List UInt8×EntV} {e':EntV} (h:es[j]?=some x) (hg:e'.g=x.2.g):msOf (es.set j (x.1,e'))=msOf es:=by
 unfold msOf;rw [List.map_set];apply List.ext_getElem?;intro i;by_cases hi:j=i
 . subst hi;have:=xiI h;rw [zL (by simpa using this)]
   simp [h,hg]
 . rw [zX hi]
def xvF {es:List (List UInt8×EntV)} {k:List UInt8} {e':EntV} (h:mapIx (msOf es) k=none):msOf (es++[(k,e')])=xIc (msOf es) k (.gptr e'.g):=by
 unfold xIc;rw [h];simp [msOf]
def xzK {es:List (List UInt8×EntV)} {j:Nat} {x:List UInt8×EntV} {k:List UInt8} {row:List AV} {c:AV} (h:es[j]?=some x) (hi:ixP (es.map strip) k=some j):(es.set j (x.1,x.2.addA c)).map strip=putPA (es.map strip) k row c:=by
 have e:(es.map strip).getD j defP=strip x:=by simp [z7,h]
 unfold putPA;rw [hi];dsimp only;rw [e,List.map_set];rfl
def xzL {es:List (List UInt8×EntV)} {j:Nat} {x:List UInt8×EntV} {k:List UInt8} {row:List AV} {c:AV} (h:es[j]?=some x) (hi:ixP (es.map strip) k=some j):(es.set j (x.1,x.2.addB c)).map strip=putPB (es.map strip) k row c:=by
 have e:(es.map strip).getD j defP=strip x:=by simp [z7,h]
 unfold putPB;rw [hi];dsimp only;rw [e,List.map_set];rfl
def xzI {es:List (List UInt8×EntV)} {k:List UInt8} {row:List AV} {c:AV} {g:Nat} (hi:mapIx (msOf es) k=none):(es++[(k,(⟨g,row,[],[],0,0⟩:EntV).addA c)]).map strip=putPA (es.map strip) k row c:=by
 rw [xmC] at hi;unfold putPA;rw [hi];simp [strip,EntV.addA]
def xzJ {es:List (List UInt8×EntV)} {k:List UInt8} {row:List AV} {c:AV} {g:Nat} (hi:mapIx (msOf es) k=none):(es++[(k,(⟨g,row,[],[],0,0⟩:EntV).addB c)]).map strip=putPB (es.map strip) k row c:=by
 rw [xmC] at hi;unfold putPB;rw [hi];simp [strip,EntV.addB]
def entV (row a b:List AV):AV:=.eptr 3 [.agg [.list 3 row,.list 3 a,.list 3 b]] 0 0
def outE (p:PE):AV:=.agg [.str p.1,entV p.2.1 p.2.2.1 p.2.2.2]
def outOf (ps:List PE):List AV:=ps.map outE
def xtj {H:List Box} {n k ver sz:Nat} {ty:TypeId} {xs:List AV} (hb:H[k]?=some ⟨ver,sz,ty,xs,false,true⟩) (hc:isC ty=false):resolve H (n+1) (.osl (.b k) ver 0 xs.length)=some (.list sz xs):=by
 have hm:xHZ ty=false:=xaG hc;have h1:xHx H (.b k) ver=some ⟨ver,sz,ty,xs,false,true⟩:=by
  unfold xHx;rw [xbM,hb];simp [hm]
 have h2:rowsOk ⟨ver,sz,ty,xs,false,true⟩ xs=true:=by unfold rowsOk;rw [hc]
 unfold resolve;simp [AV.pure,h1,mapE,h2]
def xCC {H:List Box} (e:EntV) (h3:xHx H (.b 1) 0=some e.E) (h1:resolve H 3 (.osl (.b 2) e.va 0 e.a.length)=some (.list 3 e.a)) (h2:resolve H 3 (.osl (.b 3) e.vb 0 e.b.length)=some (.list 3 e.b)):resolve H 4 (.own (.b 1) 0 0 0)=some (entV e.row e.a e.b):=by
 have h0:resolve H 3 (.list 3 e.row)=some (.list 3 e.row):=by
  unfold resolve;simp [AV.pure]
 unfold resolve;simp only [AV.pure,h3];simp only [EntV.E,mapE,mapO,resE,h0,h1,h2];rfl
def xDQ (e:EntV):resolve [box0,e.E,e.A,e.B] 4 (.own (.b 1) 0 0 0)=some (entV e.row e.a e.b):=xCC e rfl (xtj rfl rfl) (xtj rfl rfl)
section
variable {w0 w : World} {A0 : Cx} {A A' : Nat -> Prop} {M N : Id -> Option MB} {a : Act} {B F : Nat} {e : EntV}
def _root_.Go.Sim.EntAt.froz (h:EntAt w A B F e N) (hA:∀ b,A' b->A b) (q:∀ id m,N id=some m->0<m.cap->¬ A' m.b) {v:Value} (hv:v=.pointer (some ⟨e.g,0,none⟩)):Rel w A' xH9 v (entV e.row e.a e.b) :=
 xcs h.hr (fun b _=>hA b) 4 v _ _ (h.own hv) (xDQ e) fun id _ m hm h0=>q id m hm h0
def xFz {es:List (List UInt8×EntV)} {j:Nat} {x:List UInt8×EntV} (h:es[j]?=some x):(outOf (es.map strip)).getD j .top=.agg [.str x.1,entV x.2.row x.2.a x.2.b]:=by
 simp [outOf,outE,strip,z7,h]
def SR.final {ts:List AV} {es:List (List UInt8×EntV)} {Ns:Nat->Id->Option MB} {c:Nat} (hs:SR w0 A0 w A M ⟨ts,[mapB (msOf es)]⟩ a) (hE:Ents w A w0.heap.size A0.w1.heap.size c es Ns M) (hM:∀ id m,M id=some m->pB q0 id=true) (hp:A0.pin=0) :
  ∃ A',SR w0 A0 w A' M ⟨ts,[mapB (outOf (es.map strip))]⟩ a:=by
 obtain ⟨A',Y⟩:∃ A':Nat->Prop,A'=fun b=>A b/\∀ i id m,i<es.length->Ns i id=some m->0<m.cap->m.b≠b:=⟨_,rfl⟩
 have J:∀ b,A' b->A b:=fun b h=>by rw [Y] at h;exact h.1
 have W:∀ b,A b->(∀ i id m,i<es.length->Ns i id=some m->0<m.cap->m.b≠b)->A' b:=fun b h1 h2=>by rw [Y];exact ⟨h1,h2⟩
 have ac:∀ i,i<es.length->∀ id m,Ns i id=some m->0<m.cap->¬ A' m.b:=fun i hi id m h1 h2 h3=>by
  rw [Y] at h3;exact h3.2 i id m hi h1 h2 rfl
 have O:∀ i,i<es.length->∃ x,es[i]?=some x/\EntAt w A w0.heap.size A0.w1.heap.size x.2 (Ns i):=fun i hi=>⟨es[i],ze hi,hE.ent i _ (ze hi)⟩
 refine ⟨A',hs.base,fun b hb=>⟨fun h=>(hs.outer b hb).1 (J b h),fun h=>W b ((hs.outer b hb).2 h) fun i id m hi h1 h2 he=>?_⟩,hs.size,fun t ht=>(hs.tmps t ht).mono (fun _ _ _=>rfl) (zd _) (fun b _ h=>J b h) (MExt.refl _),⟨fun id m hm=>?_,hs.heap.inj,fun b h=>hs.heap.lt b (J b h)⟩,hs.defers,
  ⟨hs.ev.size,hs.ev.keep,fun b hb h=>hs.ev.less b hb (J b h),fun b hb h hn=>W b (hs.ev.more b hb h hn) fun i id m hi h1 h2 he=>?_,fun id m h=>by rw [hp] at h;exact absurd h (Nat.not_lt_zero _),hs.ev.src⟩⟩
 . obtain ⟨x,hx,Q⟩:=O i hi;obtain ⟨bx,_,q⟩:=Q.hr.box id m h1;have:=q.low h2;omega
 . have ab:=hM id m hm;cases id with
   | r n i j=>simp [pB] at ab
   | b n =>
    cases n with
    | succ n=>simp [pB,q0] at ab
    | zero =>
     obtain ⟨bx,hb,q⟩:=hs.heap.box _ _ hm;obtain rfl:mapB (msOf es)=bx:=by simpa [getB] using hb
     have hsz:m.sz=2:=q.sz.symm;have V:(outOf (es.map strip)).length=(msOf es).length:=by simp [outOf,msOf]
     refine ⟨mapB (outOf (es.map strip)),rfl,q.ver,q.sz,q.ty,q.capm,by show (outOf (es.map strip)).length<=_;rw [V];exact q.fits,fun x hx=>?_,q.low,q.lt,fun h0=>?_,fun h0=>?_⟩
     . have hx:x∈outOf (es.map strip):=hx;unfold outOf at hx;obtain ⟨p,_,rfl⟩:=zK.1 hx;rw [hsz];rfl
     . obtain ⟨cc,c1,c2,c3⟩:=q.cells h0;refine ⟨cc,by show HoldsC w m (outOf (es.map strip)).length cc;rw [V];exact c1,c2,fun i j hi hj=>?_⟩
       have hi':i<es.length:=by
        have hi:i<(outOf (es.map strip)).length:=hi;simpa [outOf] using hi
       have h3:=c3 i j (by show i<(msOf es).length;rw [xlh];exact hi') hj
       obtain ⟨x,hx,Q⟩:=O i hi';have aa:xHY (mapB (msOf es)).ty j=false:=by
        rcases j with _|_|j
        . exact xs5
        . exact xs6
        . omega
       unfold xIk MV at h3 |-;have Z:xHY (mapB (outOf (es.map strip))).ty j=false:=aa;rw [aa] at h3;rw [Z];have h3:Rel w A xH9 (cc.getD (i*m.sz+j) undef) (((msOf es).getD i .top).cells.getD j .top):=h3;show Rel w A' xH9 (cc.getD (i*m.sz+j) undef) (((outOf (es.map strip)).getD i .top).cells.getD j .top);rw [xqG hx] at h3;rw [xFz hx];generalize cc.getD (i*m.sz+j) undef=v at h3;rcases j with _|_|j
       . exact h3.mono (fun _ _ _=>rfl) (zd _) (fun b _ h=>J b h) (MExt.refl _)
       . have h3:Rel w A xH9 v (.gptr x.2.g):=h3;cases h3;exact Q.froz J (ac i hi') rfl
       . omega
     . have h1:=q.guard h0;refine ⟨fun h=>W _ (h1.1 h) fun i id m' hi h2 h3 he=>hE.apm i hi id m' _ m h2 h3 hm h0 he,fun h=>h1.2 (J _ h)⟩
 . obtain ⟨x,hx,Q⟩:=O i hi;have:=Q.fresh id m h1 h2;omega
end
end Go.Sim.M
end
noncomputable section
set_option maxRecDepth 100000
namespace Go.Sim.M
open Go.RowKit Go.Proofs
def lvA:List Nat:=[1,5,6,15,16,17]
noncomputable def hdA (fb l:List AV) (n i:Int):List AV:=mkTs 62 [(1,.list 3 fb),(5,vC),(6,.func 105 [vC]),(15,.list 3 l),(16,.int .i64 n),(17,.int .i64 i)]
def ndA4:noDefer (cO 4)=true:=by kernel_rfl
def ndA5:noDefer (cO 5)=true:=by kernel_rfl
def ndA6:noDefer (cO 6)=true:=by kernel_rfl
def ndA8:noDefer (cO 8)=true:=by kernel_rfl
def rA4 (fb l ms:List AV) (n i:Int):xOps Tryz.prog (EC 0) none (some true) (cO 4) (cO 4).toList ⟨hdA fb l n i,[mapB ms]⟩ (fun s=>some (keepS (18::lvA) s))=some ⟨(hdA fb l n i).set 18 (.bool (decide (i<n))),[mapB ms]⟩:=by kernel_rfl
def rA5 (fb l ms:List AV) (n i:Int):xOps Tryz.prog (EC 0) none (some true) (cO 5) (cO 5).toList ⟨(hdA fb l n i).set 18 (.bool true),[mapB ms]⟩ (fun s=>some (keepS (8::lvA) s)) =
 br (decide ((0:Int)<=i)&&decide (i<(l.length:Int))) (br (decide (i.toNat<l.length)&&((l.getD i.toNat .top).cells.length==3&&xH1 [.list 3,.int .i64,.int .i64] (l.getD i.toNat .top).cells 0))
  (some ⟨(hdA fb l n i).set 8 (.own (.b 1) 0 0 0),[mapB ms,boxF (.agg [.list 3 ((l.getD i.toNat .top).cells.getD 0 .top).toList,.int .i64 ((l.getD i.toNat .top).cells.getD 1 .top).toInt,.int .i64 ((l.getD i.toNat .top).cells.getD 2 .top).toInt])]⟩) none) none:=by kernel_rfl
noncomputable def h8A (fb l:List AV) (n i:Int) (row:List AV) (ff ft:Int):List AV:=(hdA fb l n i).set 8 (.eptr 3 [.agg [.list 3 row,.int .i64 ff,.int .i64 ft]] 0 0)
noncomputable def h9A (fb l:List AV) (n i:Int) (row:List AV) (ff ft:Int):List AV:=(((h8A fb l n i row ff ft).set 21 (.func 105 [vC])).set 22 (.eptr 3 [.agg [.list 3 row,.int .i64 ff,.int .i64 ft]] 0 0)).set 23 (.list 3 row)
def rA6 (fb l ms:List AV) (n i:Int) (row:List AV) (ff ft:Int):xOps Tryz.prog (EC 0) none (some true) (cO 6) ((cO 6).toList.take 3) ⟨h8A fb l n i row ff ft,[mapB ms]⟩ some=some ⟨h9A fb l n i row ff ft,[mapB ms]⟩:=by kernel_rfl
def lA6:(cO 6).toList=(cO 6).toList.take 3++[(cO 6).toList.getD 3 default,(cO 6).toList.getD 4 default]:=by kernel_rfl
def oA3:((cO 6).toList.getD 3 default).op=.call (callOf ((cO 6).toList.getD 3 default).op):=by kernel_rfl
def tA3 (fb l ms:List AV) (n i:Int) (row:List AV) (ff ft:Int):xIK ⟨h9A fb l n i row ff ft,[mapB ms]⟩ (callOf ((cO 6).toList.getD 3 default).op)=some (105,[.list 3 row,vC]):=by kernel_rfl
def dA3:((cO 6).toList.getD 3 default).dst=some 24:=by kernel_rfl
def gA3:((cO 6).toList.getD 3 default).guard=none:=by kernel_rfl
def rA6f (fb l ms:List AV) (n i:Int) (row:List AV) (ff ft:Int) (g:Nat):xOps Tryz.prog (EC 0) none (some true) (cO 6) [(cO 6).toList.getD 4 default] ⟨(h9A fb l n i row ff ft).set 24 (.gptr g),[mapB ms]⟩ (fun s=>some (keepS (8::9::lvA) s))=some ⟨(h8A fb l n i row ff ft).set 9 (.gptr g),[mapB ms]⟩:=by kernel_rfl
def rA6n (fb l ms:List AV) (n i:Int) (row:List AV) (ff ft:Int) (g:Nat):xOps Tryz.prog (EC 0) none (some true) (cO 6) [(cO 6).toList.getD 4 default] ⟨(h9A fb l n i row ff ft).set 24 (.gptr g),[mapB ms,boxN row]⟩ (fun s=>some (keepS (8::9::lvA) s))=some ⟨(h8A fb l n i row ff ft).set 9 (.gptr g),[mapB ms,boxN row]⟩:=by kernel_rfl
def boxA (e:EntV):Box:=⟨0,3,94,[.agg [.list 3 e.row,.osl (.b 2) (e.va+1) 0 (e.a.length+1),.osl (.b 3) e.vb 0 e.b.length]],false,false⟩
def xDa (e:EntV) (c:AV):boxA e=(e.addA c).E:=by
 unfold boxA EntV.E EntV.addA;simp
def rA7 (fb l ms:List AV) (n i:Int) (row:List AV) (ff ft:Int) (er ea eb:List AV) (g va vb:Nat):X Tryz.prog (EC 4) none (.region 7 (cO 7) true) ⟨(h8A fb l n i row ff ft).set 9 (.own (.b 1) 0 0 0),[mapB ms,EntV.E ⟨g,er,ea,eb,va,vb⟩,EntV.A ⟨g,er,ea,eb,va,vb⟩,EntV.B ⟨g,er,ea,eb,va,vb⟩]⟩ (fun ex s=>some (ex,keepS lvA s)) =
 br (va==va&&(ea.length==ea.length&&(decide ((ea.length+1)*24<=140737488355328)&&decide (ea.length+1<=4611686018427387904))))
  (some (.normal,⟨hdA fb l n i,[mapB ms,boxA ⟨g,er,ea,eb,va,vb⟩,((⟨g,er,ea,eb,va,vb⟩:EntV).addA (.agg [.int .i64 ff,.int .i64 ft,.int .i64 1])).A,((⟨g,er,ea,eb,va,vb⟩:EntV).addA (.agg [.int .i64 ff,.int .i64 ft,.int .i64 1])).B,⟨0,3,100,[.agg [.int .i64 ff,.int .i64 ft,.int .i64 1]],false,true⟩]⟩)) none:=by kernel_rfl
def lkA:LoOk Tryz.prog (xIE.at 4) (EC 4) (.region 7 (cO 7) true):=xgd rfl
def rA8 (fb l ms:List AV) (n i:Int):xOps Tryz.prog (EC 0) none (some true) (cO 8) (cO 8).toList ⟨hdA fb l n i,[mapB ms]⟩ (fun s=>some (keepS lvA s))=some ⟨hdA fb l n (IntKind.i64.wrap (i+1)),[mapB ms]⟩:=by kernel_rfl
def cutA (fb l:List AV) (n i:Int):cutT (hdA fb l n i)=hdA fb l n i:=by kernel_rfl
def cutA8 (fb l:List AV) (n i:Int) (row:List AV) (ff ft:Int):cutT (h8A fb l n i row ff ft)=h8A fb l n i row ff ft:=by kernel_rfl
def xkz (ms:List AV):boxIn (pB q0) (mapB ms)=true:=by kernel_rfl
def xkA (ms:List AV) (j:Nat) (hj:j<(mapB ms).sz):xHY (mapB ms).ty j=false:=by
 have hj:j<2:=hj;rcases j with _|_|j
 . exact xs5
 . exact xs6
 . omega
section
variable {w0 w : World} {A0 : Cx} {A : Nat -> Prop} {M : Id -> Option MB} {a : Act}
def tailA (hI:xIE w0) (hp:A0.pin=0) (Z:∀ id,A0.M1 id=none) {fb l ms row:List AV} {n i ff ft:Int} {e:EntV} {m:MB}
  (hs:SR w0 A0 w A M ⟨(h8A fb l n i row ff ft).set 9 (.own (.b 1) 0 0 0),[mapB ms,e.E,e.A,e.B]⟩ a) (hm:M (.b 1)=some m) (hg:m.b=e.g) (h2:∃ m,M (.b 2)=some m) (h3:∃ m,M (.b 3)=some m) (hb:e.a.length<4294967296) {Q:Exit->Act->World->Prop}
  (hK:∀ a' w' A' M',SR w0 A0 w' A' (MR (pB q0) M') ⟨hdA fb l n i,[mapB ms]⟩ a'->Mv w A M w' A' M'->(∀ b,A' b->b<w'.heap.size)->EntAt w' A' w0.heap.size A0.w1.heap.size (e.addA (.agg [.int .i64 ff,.int .i64 ft,.int .i64 1])) (MR (pB qe1) M')->Apart (MR (pB qe1) M') (MR (pB q0) M')->Q .normal a' w') :
  (Code.region 7 (cO 7) true).wpIn (wideR none) 0 Tryz.prog Q a w:=by
 obtain ⟨V,O⟩:∃ t:St,t=⟨hdA fb l n i,[mapB ms,(e.addA (.agg [.int .i64 ff,.int .i64 ft,.int .i64 1])).E,(e.addA (.agg [.int .i64 ff,.int .i64 ft,.int .i64 1])).A,(e.addA (.agg [.int .i64 ff,.int .i64 ft,.int .i64 1])).B,⟨0,3,100,[.agg [.int .i64 ff,.int .i64 ft,.int .i64 1]],false,true⟩]⟩:=⟨_,rfl⟩;have hx:=rA7 fb l ms n i row ff ft e.row e.a e.b e.g e.va e.vb;have hc:(e.va==e.va&&(e.a.length==e.a.length&&(decide ((e.a.length+1)*24<=140737488355328)&&decide (e.a.length+1<=4611686018427387904))))=true:=by
  simp only [beq_self_eq_true,Bool.true_and,zf,zl];omega
 rw [hc] at hx;have hx:X Tryz.prog (EC 4) none (.region 7 (cO 7) true) ⟨(h8A fb l n i row ff ft).set 9 (.own (.b 1) 0 0 0),[mapB ms,e.E,e.A,e.B]⟩ (fun ex s=>some (ex,keepS lvA s))=some (.normal,V):=by
  rw [O,<-xDa];exact hx
 have hd:=xdS (P:=Tryz.prog) (Inv:=xIE.at 4) (E:=EC 4) (T:=Option (Exit×St)) (good:=fun o=>o=some (.normal,V)) (bad:=none) xH5 (hIoG 4) rfl (by simp) (orcC 4) _ _ _ lkA hx
 refine hd w0 _ w A M a _ hI (zd 4) (hs.door 4) ?_ none (fun _=>rfl)
 rintro ex s' a' w' hq ⟨A',M',Y⟩;simp only [z6,zb] at hq;obtain ⟨rfl,hk⟩:=hq;obtain ⟨aa,J⟩:=hs.undoor (zd 4) Y;have q:=aa.mask lvA;rw [hk,O] at q;have ab:M' (.b 1)=some m:=HR.same hs.heap q.heap J.ext (n:=1) rfl rfl rfl hm;have h2':∃ m,M' (.b 2)=some m:=by
  obtain ⟨m2,h⟩:=h2;obtain ⟨m',h',_⟩:=J.ext _ _ h;exact ⟨m',h'⟩
 have h3':∃ m,M' (.b 3)=some m:=by
  obtain ⟨m2,h⟩:=h3;obtain ⟨m',h',_⟩:=J.ext _ _ h;exact ⟨m',h'⟩
 have W:=q.cut hp (xkz ms) (xkA ms);rw [cutA] at W;exact hK _ _ _ _ W J q.heap.lt (q.out Z ab hg h2' h3') q.heap.split
end
end Go.Sim.M
end
noncomputable section
set_option maxRecDepth 100000
namespace Go.Sim.M
open Go.RowKit Go.Proofs
def cutA9 (fb l:List AV) (n i:Int) (row:List AV) (ff ft:Int) (g:Nat):cutT ((h8A fb l n i row ff ft).set 9 (.gptr g))=(h8A fb l n i row ff ft).set 9 (.gptr g):=by kernel_rfl
def getA9 (fb l:List AV) (n i:Int) (row:List AV) (ff ft:Int) (g:Nat):((h8A fb l n i row ff ft).set 9 (.gptr g)).getD 9 .top=.gptr g:=by kernel_rfl
def resA (ms:List AV) (fb l:List AV) (n i:Int) (f:AV):resolve [mapB ms,boxF f] xIg (((hdA fb l n i).set 8 (.own (.b 1) 0 0 0)).getD 8 .top)=some (.eptr 3 [f] 0 0):=by kernel_rfl
def reaA (ms:List AV) (fb l:List AV) (n i:Int) (f:AV):freeze [mapB ms,boxF f] (reach [mapB ms,boxF f] xIg (((hdA fb l n i).set 8 (.own (.b 1) 0 0 0)).getD 8 .top))=[mapB ms,⟨0,3,54,[f],true,true⟩]:=by kernel_rfl
def setA8 (fb l:List AV) (n i:Int) (row:List AV) (ff ft:Int):((hdA fb l n i).set 8 (.own (.b 1) 0 0 0)).set 8 (.eptr 3 [.agg [.list 3 row,.int .i64 ff,.int .i64 ft]] 0 0)=h8A fb l n i row ff ft:=by kernel_rfl
def xA3 {f:AV} (h:okF f=true):(f.cells.length==3&&xH1 [.list 3,.int .i64,.int .i64] f.cells 0)=true:=by
 unfold okF at h;simp only [zf] at h;rw [zf];exact ⟨beq_iff_eq.2 (zg h.1),h.2.1⟩
def xCk {f:AV} (h:okF f=true):xau (rowF f)=some (keyF f)/\(keyF f).length<=4611686018427387904:=by
 unfold okF at h;simp only [zf,zl] at h;obtain ⟨_,_,⟨_,h1⟩,h2⟩:=h;obtain ⟨k,hk⟩:=Option.isSome_iff_exists.1 h1;refine ⟨?_,h2⟩;unfold keyF;rw [hk];rfl
section
variable {w0 w : World} {A0 : Cx} {A : Nat -> Prop} {M : Id -> Option MB} {a : Act}
set_option maxHeartbeats 2000000 in
def callA (hI:xIE w0) (hp:A0.pin=0) (ar:∀ id,A0.M1 id=none) {fb l:List AV} {n i:Int} {f:AV} {es:List (List UInt8×EntV)} {Ns:Nat->Id->Option MB} {c:Nat}
  (hs:SR w0 A0 w A M ⟨h8A fb l n i (rowF f) (f.cells.getD 1 .top).toInt (f.cells.getD 2 .top).toInt,[mapB (msOf es)]⟩ a) (hE:Ents w A w0.heap.size A0.w1.heap.size c es Ns M) (hM:∀ id m,M id=some m->pB q0 id=true) (hf:okF f=true) (hc:c<4294967295) {Q:Exit->Act->World->Prop}
  (hK:∀ a' w' A' M' es' Ns',SR w0 A0 w' A' M' ⟨hdA fb l n i,[mapB (msOf es')]⟩ a'->(∀ id m,M' id=some m->pB q0 id=true)->Ents w' A' w0.heap.size A0.w1.heap.size (c+1) es' Ns' M'->es'.map strip=stepPA (es.map strip) f->Q .normal a' w') :
  (Code.seq (.region 6 (cO 6) false) (.region 7 (cO 7) true)).wpIn (wideR none) 0 Tryz.prog Q a w:=by
 obtain ⟨am,a0⟩:=xCk hf;refine wpIn_seq (wpIn_region_list (xdi none 0 _ (xbX ndA6) _ _ ?_));rw [lA6];refine xdF (hIoG 0) hI (xnM (rA6 fb l (msOf es) n i (rowF f) (f.cells.getD 1 .top).toInt (f.cells.getD 2 .top).toInt)) hs fun a1 w1 A1 M1 W a8=>wpList_plain gA3 fun K az=>?_
 have ay:=hE.go a8 W.heap.lt;have bb:=hE.cnt;refine callX oA3 (tA3 fb l (msOf es) n i (rowF f) (f.cells.getD 1 .top).toInt (f.cells.getD 2 .top).toInt) xvn W (R:=fun v w'=>∃ A' M' g,v=.pointer (some ⟨g,0,none⟩)/\Below w0.heap.size w0 w'/\(∀ b,b<w0.heap.size->(A' b↔A1 b))/\Mv w1 A1 M1 w' A' M'/\∃ H,HR w' A' M' w0.heap.size H/\GetPost (rowF f) (msOf es) (keyF f) g H M') (fun vs ax=>?_) fun v w2 hr=>?_
 . refine (xtK (w0:=w0) hI W.base W.heap ax am a0 (by rw [xlh];show es.length<4611686018427387904;omega) (xAN es (keyF f))).mono ?_
   rintro e w' ⟨v,A',M',g,h1,h2,h3,h4,h5,h6⟩;exact ⟨v,h1,A',M',g,h2,h3,h4,h5,h6⟩
 . obtain ⟨A2,M2,g,rfl,ap,aq,mv2,H,a5,ag⟩:=hr;have Y:=W.put (d:=((cO 6).toList.getD 3 default).dst) ap (fun b hb=>(aq b hb).trans (W.outer b hb)) mv2 a5 (Rel.gptr (w:=w2) (A:=A2) (M:=M2) g)
   have an:=ay.go mv2 Y.heap.lt;refine az _ _ ?_;rw [dA3] at Y |-;generalize a1.put (some 24) (.pointer (some ⟨g,0,none⟩))=a2 at Y;rcases ag with ⟨ab,rfl⟩|⟨ab,rfl,m,hm,hcap,ac⟩
   ·
    obtain ⟨j,x,hx,be,a9,aw⟩:=xtL ab;have hj:=xiI hx;obtain ⟨s3,p3,e3⟩:=xbY (orcC 0) (rA6f fb l (msOf es) n i (rowF f) (f.cells.getD 1 .top).toInt (f.cells.getD 2 .top).toInt g);simp only [z6] at e3;rw [<-zD [_]];refine xdF (hIoG 0) hI p3 Y fun a3 w3 A3 M3 J mv3=>wpList_nil ?_
    have J:=J.mask (8::9::lvA);rw [e3] at J;have ao:=J.cut hp (xkz _) (xkA _);rw [cutA9] at ao;have Z:=(an.go mv3 J.heap.lt).part (q:=pB q0);have O:=Z.ent j x hx;have V:=ao.join (xg2 M3) hp O (Z.apm j hj);have aa:=V.setT (t:=9) (y:=.own (.b 1) 0 0 0) fun ht=>by
     have h:=V.tmps 9 ht;rw [getA9] at h;have hv:a3.tmps.getD 9 undef=.pointer (some ⟨x.2.g,0,none⟩):=by
      rw [a9];generalize a3.tmps.getD 9 undef=u at h;cases h;rfl
     exact (O.own hv).mono (fun _ _ _=>rfl) (zd _) (fun _ _ h=>h) (xrz O.ids)
    rw [List.set_set] at aa;obtain ⟨m,hm,hcap,ac⟩:=O.one;have hb:x.2.a.length<=c:=(Z.bnd j x hx).1;refine tailA hI hp ar aa (m:=m) hm ac O.two O.three (by omega) fun a' w' A' M' ae ak aj he af=>?_
    have bc:=Z.bnd j x hx;have ai:=Z.upd (k:=x.1) hj ak aj he af (by simp only [EntV.addA,z8,zj];omega)
    refine hK a' w' A' _ _ _ ?_ (xg2 M') ai ?_
    . rw [xvG (e':=x.2.addA (.agg [.int .i64 (f.cells.getD 1 .top).toInt,.int .i64 (f.cells.getD 2 .top).toInt,.int .i64 1])) hx rfl];exact ae
    . exact xzK hx aw
   ·
    have ad:=xyc ab;obtain ⟨s3,p3,e3⟩:=xbY (orcC 0) (rA6n fb l (xIc (msOf es) (keyF f) (.gptr g)) n i (rowF f) (f.cells.getD 1 .top).toInt (f.cells.getD 2 .top).toInt g);simp only [z6] at e3;rw [<-zD [_]];refine xdF (hIoG 0) hI p3 Y fun a3 w3 A3 M3 J mv3=>wpList_nil ?_
    have J:=J.mask (8::9::lvA);rw [e3] at J;have a4:=HR.same Y.heap J.heap mv3.ext (n:=1) rfl rfl rfl hm;obtain ⟨M5,V,a6,ah,h2,h3⟩:=J.newE a4 ac;have au:=(an.go mv3 J.heap.lt);have aa:=V.setT (t:=9) (y:=.own (.b 1) 0 0 0) fun ht=>by
     have h:=V.tmps 9 ht;rw [getA9] at h;obtain ⟨bx,hb,al⟩:=V.heap.box _ _ ah;obtain rfl:EntV.E ⟨g,rowF f,[],[],0,0⟩=bx:=by simpa [getB] using hb
     have ba:m.ver=0:=al.ver.symm;have a7:xHZ m.ty=false:=by rw [<-al.ty];rfl
     generalize a3.tmps.getD 9 undef=u at h;cases h;refine .own _ (.b 1) 0 0 0 m ah (zQ _) rfl fun _=>?_
     unfold ptrOf;rw [a7,ac];simp
    rw [List.set_set] at aa;refine tailA hI hp ar aa (m:=m) ah ac h2 h3 (by simp) fun a' w' A' M' ae ak aj he af=>?_
    have ai:=au.add (k:=keyF f) (a6.trans ak) aj he af (by simp [EntV.addA])
    refine hK a' w' A' _ _ _ ?_ (xg2 M') ai ?_
    . rw [xvF ad];exact ae
    . exact xzI ad
end
end Go.Sim.M
end
noncomputable section
set_option maxRecDepth 100000
namespace Go.Sim.M
open Go.RowKit Go.Proofs
def evA18 (fb l ms:List AV) (n i:Int) (b:Bool):St.eval ⟨(hdA fb l n i).set 18 (.bool b),[mapB ms]⟩ (.tmp 18)=.bool b:=by kernel_rfl
def keA18 (fb l ms:List AV) (n i:Int) (b:Bool):keepS lvA ⟨(hdA fb l n i).set 18 (.bool b),[mapB ms]⟩=⟨hdA fb l n i,[mapB ms]⟩:=by kernel_rfl
section
variable {w0 w : World} {A0 : Cx} {A : Nat -> Prop} {M : Id -> Option MB} {a : Act}
set_option maxHeartbeats 2000000 in
def loopA (hI:xIE w0) (hp:A0.pin=0) (ak:∀ id,A0.M1 id=none) {fb l:List AV} {es:List (List UInt8×EntV)} {Ns:Nat->Id->Option MB} {c:Nat}
  (hs:SR w0 A0 w A M ⟨hdA fb l l.length ((0:Nat):Int),[mapB (msOf es)]⟩ a) (hE:Ents w A w0.heap.size A0.w1.heap.size c es Ns M) (hM:∀ id m,M id=some m->pB q0 id=true) (hf:∀ i,i<l.length->okF (l.getD i .top)=true) (hc:c+l.length<4294967295) {Q:Exit->Act->World->Prop}
  (hK:∀ a' w' A' M' J Ns',SR w0 A0 w' A' M' ⟨hdA fb l l.length l.length,[mapB (msOf J)]⟩ a'->(∀ id m,M' id=some m->pB q0 id=true)->Ents w' A' w0.heap.size A0.w1.heap.size (c+l.length) J Ns' M'->J.map strip=l.foldl stepPA (es.map strip)->Q (.exit 0) a' w') :
  (Code.loop lpA).wpIn (wideR none) 0 Tryz.prog Q a w:=by
 refine xpo (fun N a' w'=>∃ (i:Nat) (J:List (List UInt8×EntV)) (Ns':Nat->Id->Option MB) (A':Nat->Prop) (M':Id->Option MB),N=l.length - i/\i<=l.length/\SR w0 A0 w' A' M' ⟨hdA fb l l.length (i:Int),[mapB (msOf J)]⟩ a'/\(∀ id m,M' id=some m->pB q0 id=true)/\Ents w' A' w0.heap.size A0.w1.heap.size (c+i) J Ns' M'/\J.map strip=(l.take i).foldl stepPA (es.map strip)) ?_ l.length a w ⟨0,es,Ns,A,M,rfl,zQ _,hs,hM,hE,rfl⟩
 rintro N a' w' ⟨i,J,Ns',A',M',rfl,hi,ai,ap,aa,af⟩;unfold lpA;refine wpIn_seq (xeO (orcC 0) (hIoG 0) hI ndA4 (rA4 fb l (msOf J) l.length i) ai fun a1 w1 A1 M1 W ad=>?_)
 have an:a1.eval (.tmp 18)=.bool (decide ((i:Int)<l.length)):=by
  have h:=W.eval (.tmp 18);rw [evA18] at h;exact h.bool_inv
 refine wpIn_seq (wpIn_cond_split an (fun ht=>wpIn_skip ?_) fun hn=>wpIn_exit ?_)
 ·
  have O:i<l.length:=by simpa using ht
  rw [ht] at W;have h5:=rA5 fb l (msOf J) l.length i;rw [zN,xA3 (hf i O)] at h5;have c1:(decide ((0:Int)<=i)&&decide ((i:Int)<(l.length:Int)))=true:=by simp [O]
  have c2:(decide (i<l.length)&&true)=true:=by simp [O]
  rw [c1,c2] at h5;refine wpIn_seq (wpIn_block (wpIn_seq (xeO (orcC 0) (hIoG 0) hI ndA5 h5 W fun a2 w2 A2 M2 Y mv2=>?_)))
  obtain ⟨A3,V,mv3⟩:=Y.settle1 (t:=8) (resA (msOf J) fb l l.length i _);rw [reaA,setA8] at V;have ae:=V.cut hp (xkz _) (xkA _);rw [cutA8] at ae;have am:=(aa.go ((ad.trans mv2).trans mv3) V.heap.lt).part (q:=pB q0);refine callA hI hp ak ae am (xg2 M2) (hf i O) (by omega) fun a5 w5 A5 M5 ac Ns5 al ao aj ab=>?_
  refine xeO (orcC 0) (hIoG 0) hI ndA8 (rA8 fb l (msOf ac) l.length i) al fun a6 w6 A6 M6 Z mv6=>?_
  have hw:IntKind.i64.wrap ((i:Int)+1)=((i+1:Nat):Int):=by
   rw [xay (by omega) (by omega)];omega
  rw [hw] at Z;have ag:=Z.cut hp (xkz _) (xkA _);rw [cutA] at ag;refine ⟨l.length - (i+1),by omega,i+1,ac,Ns5,A6,_,rfl,O,ag,xg2 M6,(aj.go mv6 Z.heap.lt).part,?_⟩
  rw [ab,af];have e:l.take (i+1)=l.take i++[l.getD i .top]:=by
   rw [List.take_add_one,ze O];simp [z7,O]
  rw [e,List.foldl_append];rfl
 ·
  have ah:i=l.length:=by
   have:¬ ((i:Int)<l.length):=by simpa using hn
   omega
  subst ah;have Y:=W.mask lvA;rw [keA18] at Y;have V:=Y.cut hp (xkz _) (xkA _);rw [cutA] at V;have hst':J.map strip=l.foldl stepPA (es.map strip):=by rw [af,y6]
  exact hK a1 w1 A1 _ J Ns' V (xg2 M1) (aa.go ad W.heap.lt).part hst'
end
end Go.Sim.M
end
noncomputable section
set_option maxRecDepth 100000
namespace Go.Sim.M
open Go.RowKit Go.Proofs
def lvB:List Nat:=[1,5,6,38,39,40]
noncomputable def hdB (fb l:List AV) (n i:Int):List AV:=mkTs 62 [(1,.list 3 fb),(5,vC),(6,.func 105 [vC]),(38,.list 3 l),(39,.int .i64 n),(40,.int .i64 i)]
def ndB4:noDefer (cO 10)=true:=by kernel_rfl
def ndB5:noDefer (cO 11)=true:=by kernel_rfl
def ndB6:noDefer (cO 12)=true:=by kernel_rfl
def ndB8:noDefer (cO 14)=true:=by kernel_rfl
def rB4 (fb l ms:List AV) (n i:Int):xOps Tryz.prog (EC 0) none (some true) (cO 10) (cO 10).toList ⟨hdB fb l n i,[mapB ms]⟩ (fun s=>some (keepS (41::lvB) s))=some ⟨(hdB fb l n i).set 41 (.bool (decide (i<n))),[mapB ms]⟩:=by kernel_rfl
def rB5 (fb l ms:List AV) (n i:Int):xOps Tryz.prog (EC 0) none (some true) (cO 11) (cO 11).toList ⟨(hdB fb l n i).set 41 (.bool true),[mapB ms]⟩ (fun s=>some (keepS (11::lvB) s)) =
 br (decide ((0:Int)<=i)&&decide (i<(l.length:Int))) (br (decide (i.toNat<l.length)&&((l.getD i.toNat .top).cells.length==3&&xH1 [.list 3,.int .i64,.int .i64] (l.getD i.toNat .top).cells 0))
  (some ⟨(hdB fb l n i).set 11 (.own (.b 1) 0 0 0),[mapB ms,boxF (.agg [.list 3 ((l.getD i.toNat .top).cells.getD 0 .top).toList,.int .i64 ((l.getD i.toNat .top).cells.getD 1 .top).toInt,.int .i64 ((l.getD i.toNat .top).cells.getD 2 .top).toInt])]⟩) none) none:=by kernel_rfl
noncomputable def h8B (fb l:List AV) (n i:Int) (row:List AV) (ff ft:Int):List AV:=(hdB fb l n i).set 11 (.eptr 3 [.agg [.list 3 row,.int .i64 ff,.int .i64 ft]] 0 0)
noncomputable def h9B (fb l:List AV) (n i:Int) (row:List AV) (ff ft:Int):List AV:=(((h8B fb l n i row ff ft).set 44 (.func 105 [vC])).set 45 (.eptr 3 [.agg [.list 3 row,.int .i64 ff,.int .i64 ft]] 0 0)).set 46 (.list 3 row)
def rB6 (fb l ms:List AV) (n i:Int) (row:List AV) (ff ft:Int):xOps Tryz.prog (EC 0) none (some true) (cO 12) ((cO 12).toList.take 3) ⟨h8B fb l n i row ff ft,[mapB ms]⟩ some=some ⟨h9B fb l n i row ff ft,[mapB ms]⟩:=by kernel_rfl
def lB6:(cO 12).toList=(cO 12).toList.take 3++[(cO 12).toList.getD 3 default,(cO 12).toList.getD 4 default]:=by kernel_rfl
def oB3:((cO 12).toList.getD 3 default).op=.call (callOf ((cO 12).toList.getD 3 default).op):=by kernel_rfl
def tB3 (fb l ms:List AV) (n i:Int) (row:List AV) (ff ft:Int):xIK ⟨h9B fb l n i row ff ft,[mapB ms]⟩ (callOf ((cO 12).toList.getD 3 default).op)=some (105,[.list 3 row,vC]):=by kernel_rfl
def dB3:((cO 12).toList.getD 3 default).dst=some 47:=by kernel_rfl
def gB3:((cO 12).toList.getD 3 default).guard=none:=by kernel_rfl
def rB6f (fb l ms:List AV) (n i:Int) (row:List AV) (ff ft:Int) (g:Nat):xOps Tryz.prog (EC 0) none (some true) (cO 12) [(cO 12).toList.getD 4 default] ⟨(h9B fb l n i row ff ft).set 47 (.gptr g),[mapB ms]⟩ (fun s=>some (keepS (11::12::lvB) s))=some ⟨(h8B fb l n i row ff ft).set 12 (.gptr g),[mapB ms]⟩:=by kernel_rfl
def rB6n (fb l ms:List AV) (n i:Int) (row:List AV) (ff ft:Int) (g:Nat):xOps Tryz.prog (EC 0) none (some true) (cO 12) [(cO 12).toList.getD 4 default] ⟨(h9B fb l n i row ff ft).set 47 (.gptr g),[mapB ms,boxN row]⟩ (fun s=>some (keepS (11::12::lvB) s))=some ⟨(h8B fb l n i row ff ft).set 12 (.gptr g),[mapB ms,boxN row]⟩:=by kernel_rfl
def boxB (e:EntV):Box:=⟨0,3,94,[.agg [.list 3 e.row,.osl (.b 2) e.va 0 e.a.length,.osl (.b 3) (e.vb+1) 0 (e.b.length+1)]],false,false⟩
def xDb (e:EntV) (c:AV):boxB e=(e.addB c).E:=by
 unfold boxB EntV.E EntV.addB;simp
def rB7 (fb l ms:List AV) (n i:Int) (row:List AV) (ff ft:Int) (er ea eb:List AV) (g va vb:Nat):X Tryz.prog (EC 4) none (.region 13 (cO 13) true) ⟨(h8B fb l n i row ff ft).set 12 (.own (.b 1) 0 0 0),[mapB ms,EntV.E ⟨g,er,ea,eb,va,vb⟩,EntV.A ⟨g,er,ea,eb,va,vb⟩,EntV.B ⟨g,er,ea,eb,va,vb⟩]⟩ (fun ex s=>some (ex,keepS lvB s)) =
 br (vb==vb&&(eb.length==eb.length&&(decide ((eb.length+1)*24<=140737488355328)&&decide (eb.length+1<=4611686018427387904))))
  (some (.normal,⟨hdB fb l n i,[mapB ms,boxB ⟨g,er,ea,eb,va,vb⟩,((⟨g,er,ea,eb,va,vb⟩:EntV).addB (.agg [.int .i64 ff,.int .i64 ft,.int .i64 1])).A,((⟨g,er,ea,eb,va,vb⟩:EntV).addB (.agg [.int .i64 ff,.int .i64 ft,.int .i64 1])).B,⟨0,3,100,[.agg [.int .i64 ff,.int .i64 ft,.int .i64 1]],false,true⟩]⟩)) none:=by kernel_rfl
def lkB:LoOk Tryz.prog (xIE.at 4) (EC 4) (.region 13 (cO 13) true):=xgd rfl
def rB8 (fb l ms:List AV) (n i:Int):xOps Tryz.prog (EC 0) none (some true) (cO 14) (cO 14).toList ⟨hdB fb l n i,[mapB ms]⟩ (fun s=>some (keepS lvB s))=some ⟨hdB fb l n (IntKind.i64.wrap (i+1)),[mapB ms]⟩:=by kernel_rfl
def cutB (fb l:List AV) (n i:Int):cutT (hdB fb l n i)=hdB fb l n i:=by kernel_rfl
def cutB8 (fb l:List AV) (n i:Int) (row:List AV) (ff ft:Int):cutT (h8B fb l n i row ff ft)=h8B fb l n i row ff ft:=by kernel_rfl
def xqa (ms:List AV):boxIn (pB q0) (mapB ms)=true:=by kernel_rfl
def xqb (ms:List AV) (j:Nat) (hj:j<(mapB ms).sz):xHY (mapB ms).ty j=false:=by
 have hj:j<2:=hj;rcases j with _|_|j
 . exact xs5
 . exact xs6
 . omega
section
variable {w0 w : World} {A0 : Cx} {A : Nat -> Prop} {M : Id -> Option MB} {a : Act}
def tailB (hI:xIE w0) (hp:A0.pin=0) (Z:∀ id,A0.M1 id=none) {fb l ms row:List AV} {n i ff ft:Int} {e:EntV} {m:MB}
  (hs:SR w0 A0 w A M ⟨(h8B fb l n i row ff ft).set 12 (.own (.b 1) 0 0 0),[mapB ms,e.E,e.A,e.B]⟩ a) (hm:M (.b 1)=some m) (hg:m.b=e.g) (h2:∃ m,M (.b 2)=some m) (h3:∃ m,M (.b 3)=some m) (hb:e.b.length<4294967296) {Q:Exit->Act->World->Prop}
  (hK:∀ a' w' A' M',SR w0 A0 w' A' (MR (pB q0) M') ⟨hdB fb l n i,[mapB ms]⟩ a'->Mv w A M w' A' M'->(∀ b,A' b->b<w'.heap.size)->EntAt w' A' w0.heap.size A0.w1.heap.size (e.addB (.agg [.int .i64 ff,.int .i64 ft,.int .i64 1])) (MR (pB qe1) M')->Apart (MR (pB qe1) M') (MR (pB q0) M')->Q .normal a' w') :
  (Code.region 13 (cO 13) true).wpIn (wideR none) 0 Tryz.prog Q a w:=by
 obtain ⟨V,O⟩:∃ t:St,t=⟨hdB fb l n i,[mapB ms,(e.addB (.agg [.int .i64 ff,.int .i64 ft,.int .i64 1])).E,(e.addB (.agg [.int .i64 ff,.int .i64 ft,.int .i64 1])).A,(e.addB (.agg [.int .i64 ff,.int .i64 ft,.int .i64 1])).B,⟨0,3,100,[.agg [.int .i64 ff,.int .i64 ft,.int .i64 1]],false,true⟩]⟩:=⟨_,rfl⟩;have hx:=rB7 fb l ms n i row ff ft e.row e.a e.b e.g e.va e.vb;have hc:(e.vb==e.vb&&(e.b.length==e.b.length&&(decide ((e.b.length+1)*24<=140737488355328)&&decide (e.b.length+1<=4611686018427387904))))=true:=by
  simp only [beq_self_eq_true,Bool.true_and,zf,zl];omega
 rw [hc] at hx;have hx:X Tryz.prog (EC 4) none (.region 13 (cO 13) true) ⟨(h8B fb l n i row ff ft).set 12 (.own (.b 1) 0 0 0),[mapB ms,e.E,e.A,e.B]⟩ (fun ex s=>some (ex,keepS lvB s))=some (.normal,V):=by
  rw [O,<-xDb];exact hx
 have hd:=xdS (P:=Tryz.prog) (Inv:=xIE.at 4) (E:=EC 4) (T:=Option (Exit×St)) (good:=fun o=>o=some (.normal,V)) (bad:=none) xH5 (hIoG 4) rfl (by simp) (orcC 4) _ _ _ lkB hx
 refine hd w0 _ w A M a _ hI (zd 4) (hs.door 4) ?_ none (fun _=>rfl)
 rintro ex s' a' w' hq ⟨A',M',Y⟩;simp only [z6,zb] at hq;obtain ⟨rfl,hk⟩:=hq;obtain ⟨aa,J⟩:=hs.undoor (zd 4) Y;have q:=aa.mask lvB;rw [hk,O] at q;have ab:M' (.b 1)=some m:=HR.same hs.heap q.heap J.ext (n:=1) rfl rfl rfl hm;have h2':∃ m,M' (.b 2)=some m:=by
  obtain ⟨m2,h⟩:=h2;obtain ⟨m',h',_⟩:=J.ext _ _ h;exact ⟨m',h'⟩
 have h3':∃ m,M' (.b 3)=some m:=by
  obtain ⟨m2,h⟩:=h3;obtain ⟨m',h',_⟩:=J.ext _ _ h;exact ⟨m',h'⟩
 have W:=q.cut hp (xqa ms) (xqb ms);rw [cutB] at W;exact hK _ _ _ _ W J q.heap.lt (q.out Z ab hg h2' h3') q.heap.split
end
end Go.Sim.M
end
noncomputable section
set_option maxRecDepth 100000
namespace Go.Sim.M
open Go.RowKit Go.Proofs
def cutB9 (fb l:List AV) (n i:Int) (row:List AV) (ff ft:Int) (g:Nat):cutT ((h8B fb l n i row ff ft).set 12 (.gptr g))=(h8B fb l n i row ff ft).set 12 (.gptr g):=by kernel_rfl
def getB9 (fb l:List AV) (n i:Int) (row:List AV) (ff ft:Int) (g:Nat):((h8B fb l n i row ff ft).set 12 (.gptr g)).getD 12 .top=.gptr g:=by kernel_rfl
def resB (ms:List AV) (fb l:List AV) (n i:Int) (f:AV):resolve [mapB ms,boxF f] xIg (((hdB fb l n i).set 11 (.own (.b 1) 0 0 0)).getD 11 .top)=some (.eptr 3 [f] 0 0):=by kernel_rfl
def reaB (ms:List AV) (fb l:List AV) (n i:Int) (f:AV):freeze [mapB ms,boxF f] (reach [mapB ms,boxF f] xIg (((hdB fb l n i).set 11 (.own (.b 1) 0 0 0)).getD 11 .top))=[mapB ms,⟨0,3,54,[f],true,true⟩]:=by kernel_rfl
def setB8 (fb l:List AV) (n i:Int) (row:List AV) (ff ft:Int):((hdB fb l n i).set 11 (.own (.b 1) 0 0 0)).set 11 (.eptr 3 [.agg [.list 3 row,.int .i64 ff,.int .i64 ft]] 0 0)=h8B fb l n i row ff ft:=by kernel_rfl
def xA4 {f:AV} (h:okF f=true):(f.cells.length==3&&xH1 [.list 3,.int .i64,.int .i64] f.cells 0)=true:=by
 unfold okF at h;simp only [zf] at h;rw [zf];exact ⟨beq_iff_eq.2 (zg h.1),h.2.1⟩
def xCl {f:AV} (h:okF f=true):xau (rowF f)=some (keyF f)/\(keyF f).length<=4611686018427387904:=by
 unfold okF at h;simp only [zf,zl] at h;obtain ⟨_,_,⟨_,h1⟩,h2⟩:=h;obtain ⟨k,hk⟩:=Option.isSome_iff_exists.1 h1;refine ⟨?_,h2⟩;unfold keyF;rw [hk];rfl
section
variable {w0 w : World} {A0 : Cx} {A : Nat -> Prop} {M : Id -> Option MB} {a : Act}
set_option maxHeartbeats 2000000 in
def callB (hI:xIE w0) (hp:A0.pin=0) (ar:∀ id,A0.M1 id=none) {fb l:List AV} {n i:Int} {f:AV} {es:List (List UInt8×EntV)} {Ns:Nat->Id->Option MB} {c:Nat}
  (hs:SR w0 A0 w A M ⟨h8B fb l n i (rowF f) (f.cells.getD 1 .top).toInt (f.cells.getD 2 .top).toInt,[mapB (msOf es)]⟩ a) (hE:Ents w A w0.heap.size A0.w1.heap.size c es Ns M) (hM:∀ id m,M id=some m->pB q0 id=true) (hf:okF f=true) (hc:c<4294967295) {Q:Exit->Act->World->Prop}
  (hK:∀ a' w' A' M' es' Ns',SR w0 A0 w' A' M' ⟨hdB fb l n i,[mapB (msOf es')]⟩ a'->(∀ id m,M' id=some m->pB q0 id=true)->Ents w' A' w0.heap.size A0.w1.heap.size (c+1) es' Ns' M'->es'.map strip=stepPB (es.map strip) f->Q .normal a' w') :
  (Code.seq (.region 12 (cO 12) false) (.region 13 (cO 13) true)).wpIn (wideR none) 0 Tryz.prog Q a w:=by
 obtain ⟨am,a0⟩:=xCl hf;refine wpIn_seq (wpIn_region_list (xdi none 0 _ (xbX ndB6) _ _ ?_));rw [lB6];refine xdF (hIoG 0) hI (xnM (rB6 fb l (msOf es) n i (rowF f) (f.cells.getD 1 .top).toInt (f.cells.getD 2 .top).toInt)) hs fun a1 w1 A1 M1 W a8=>wpList_plain gB3 fun K az=>?_
 have ay:=hE.go a8 W.heap.lt;have bb:=hE.cnt;refine callX oB3 (tB3 fb l (msOf es) n i (rowF f) (f.cells.getD 1 .top).toInt (f.cells.getD 2 .top).toInt) xvn W (R:=fun v w'=>∃ A' M' g,v=.pointer (some ⟨g,0,none⟩)/\Below w0.heap.size w0 w'/\(∀ b,b<w0.heap.size->(A' b↔A1 b))/\Mv w1 A1 M1 w' A' M'/\∃ H,HR w' A' M' w0.heap.size H/\GetPost (rowF f) (msOf es) (keyF f) g H M') (fun vs ax=>?_) fun v w2 hr=>?_
 . refine (xtK (w0:=w0) hI W.base W.heap ax am a0 (by rw [xlh];show es.length<4611686018427387904;omega) (xAN es (keyF f))).mono ?_
   rintro e w' ⟨v,A',M',g,h1,h2,h3,h4,h5,h6⟩;exact ⟨v,h1,A',M',g,h2,h3,h4,h5,h6⟩
 . obtain ⟨A2,M2,g,rfl,ap,aq,mv2,H,a5,ag⟩:=hr;have Y:=W.put (d:=((cO 12).toList.getD 3 default).dst) ap (fun b hb=>(aq b hb).trans (W.outer b hb)) mv2 a5 (Rel.gptr (w:=w2) (A:=A2) (M:=M2) g)
   have an:=ay.go mv2 Y.heap.lt;refine az _ _ ?_;rw [dB3] at Y |-;generalize a1.put (some 47) (.pointer (some ⟨g,0,none⟩))=a2 at Y;rcases ag with ⟨ab,rfl⟩|⟨ab,rfl,m,hm,hcap,ac⟩
   ·
    obtain ⟨j,x,hx,be,a9,aw⟩:=xtL ab;have hj:=xiI hx;obtain ⟨s3,p3,e3⟩:=xbY (orcC 0) (rB6f fb l (msOf es) n i (rowF f) (f.cells.getD 1 .top).toInt (f.cells.getD 2 .top).toInt g);simp only [z6] at e3;rw [<-zD [_]];refine xdF (hIoG 0) hI p3 Y fun a3 w3 A3 M3 J mv3=>wpList_nil ?_
    have J:=J.mask (11::12::lvB);rw [e3] at J;have ao:=J.cut hp (xqa _) (xqb _);rw [cutB9] at ao;have Z:=(an.go mv3 J.heap.lt).part (q:=pB q0);have O:=Z.ent j x hx;have V:=ao.join (xg2 M3) hp O (Z.apm j hj);have aa:=V.setT (t:=12) (y:=.own (.b 1) 0 0 0) fun ht=>by
     have h:=V.tmps 12 ht;rw [getB9] at h;have hv:a3.tmps.getD 12 undef=.pointer (some ⟨x.2.g,0,none⟩):=by
      rw [a9];generalize a3.tmps.getD 12 undef=u at h;cases h;rfl
     exact (O.own hv).mono (fun _ _ _=>rfl) (zd _) (fun _ _ h=>h) (xrz O.ids)
    rw [List.set_set] at aa;obtain ⟨m,hm,hcap,ac⟩:=O.one;have hb:x.2.b.length<=c:=(Z.bnd j x hx).2;refine tailB hI hp ar aa (m:=m) hm ac O.two O.three (by omega) fun a' w' A' M' ae ak aj he af=>?_
    have bc:=Z.bnd j x hx;have ai:=Z.upd (k:=x.1) hj ak aj he af (by simp only [EntV.addB,z8,zj];omega)
    refine hK a' w' A' _ _ _ ?_ (xg2 M') ai ?_
    . rw [xvG (e':=x.2.addB (.agg [.int .i64 (f.cells.getD 1 .top).toInt,.int .i64 (f.cells.getD 2 .top).toInt,.int .i64 1])) hx rfl];exact ae
    . exact xzL hx aw
   ·
    have ad:=xyc ab;obtain ⟨s3,p3,e3⟩:=xbY (orcC 0) (rB6n fb l (xIc (msOf es) (keyF f) (.gptr g)) n i (rowF f) (f.cells.getD 1 .top).toInt (f.cells.getD 2 .top).toInt g);simp only [z6] at e3;rw [<-zD [_]];refine xdF (hIoG 0) hI p3 Y fun a3 w3 A3 M3 J mv3=>wpList_nil ?_
    have J:=J.mask (11::12::lvB);rw [e3] at J;have a4:=HR.same Y.heap J.heap mv3.ext (n:=1) rfl rfl rfl hm;obtain ⟨M5,V,a6,ah,h2,h3⟩:=J.newE a4 ac;have au:=(an.go mv3 J.heap.lt);have aa:=V.setT (t:=12) (y:=.own (.b 1) 0 0 0) fun ht=>by
     have h:=V.tmps 12 ht;rw [getB9] at h;obtain ⟨bx,hb,al⟩:=V.heap.box _ _ ah;obtain rfl:EntV.E ⟨g,rowF f,[],[],0,0⟩=bx:=by simpa [getB] using hb
     have ba:m.ver=0:=al.ver.symm;have a7:xHZ m.ty=false:=by rw [<-al.ty];rfl
     generalize a3.tmps.getD 12 undef=u at h;cases h;refine .own _ (.b 1) 0 0 0 m ah (zQ _) rfl fun _=>?_
     unfold ptrOf;rw [a7,ac];simp
    rw [List.set_set] at aa;refine tailB hI hp ar aa (m:=m) ah ac h2 h3 (by simp) fun a' w' A' M' ae ak aj he af=>?_
    have ai:=au.add (k:=keyF f) (a6.trans ak) aj he af (by simp [EntV.addB])
    refine hK a' w' A' _ _ _ ?_ (xg2 M') ai ?_
    . rw [xvF ad];exact ae
    . exact xzJ ad
end
end Go.Sim.M
end
noncomputable section
set_option maxRecDepth 100000
namespace Go.Sim.M
open Go.RowKit Go.Proofs
def evB18 (fb l ms:List AV) (n i:Int) (b:Bool):St.eval ⟨(hdB fb l n i).set 41 (.bool b),[mapB ms]⟩ (.tmp 41)=.bool b:=by kernel_rfl
def keB18 (fb l ms:List AV) (n i:Int) (b:Bool):keepS lvB ⟨(hdB fb l n i).set 41 (.bool b),[mapB ms]⟩=⟨hdB fb l n i,[mapB ms]⟩:=by kernel_rfl
section
variable {w0 w : World} {A0 : Cx} {A : Nat -> Prop} {M : Id -> Option MB} {a : Act}
set_option maxHeartbeats 2000000 in
def loopB (hI:xIE w0) (hp:A0.pin=0) (ak:∀ id,A0.M1 id=none) {fb l:List AV} {es:List (List UInt8×EntV)} {Ns:Nat->Id->Option MB} {c:Nat}
  (hs:SR w0 A0 w A M ⟨hdB fb l l.length ((0:Nat):Int),[mapB (msOf es)]⟩ a) (hE:Ents w A w0.heap.size A0.w1.heap.size c es Ns M) (hM:∀ id m,M id=some m->pB q0 id=true) (hf:∀ i,i<l.length->okF (l.getD i .top)=true) (hc:c+l.length<4294967295) {Q:Exit->Act->World->Prop}
  (hK:∀ a' w' A' M' J Ns',SR w0 A0 w' A' M' ⟨hdB fb l l.length l.length,[mapB (msOf J)]⟩ a'->(∀ id m,M' id=some m->pB q0 id=true)->Ents w' A' w0.heap.size A0.w1.heap.size (c+l.length) J Ns' M'->J.map strip=l.foldl stepPB (es.map strip)->Q (.exit 2) a' w') :
  (Code.loop lpB).wpIn (wideR none) 0 Tryz.prog Q a w:=by
 refine xpo (fun N a' w'=>∃ (i:Nat) (J:List (List UInt8×EntV)) (Ns':Nat->Id->Option MB) (A':Nat->Prop) (M':Id->Option MB),N=l.length - i/\i<=l.length/\SR w0 A0 w' A' M' ⟨hdB fb l l.length (i:Int),[mapB (msOf J)]⟩ a'/\(∀ id m,M' id=some m->pB q0 id=true)/\Ents w' A' w0.heap.size A0.w1.heap.size (c+i) J Ns' M'/\J.map strip=(l.take i).foldl stepPB (es.map strip)) ?_ l.length a w ⟨0,es,Ns,A,M,rfl,zQ _,hs,hM,hE,rfl⟩
 rintro N a' w' ⟨i,J,Ns',A',M',rfl,hi,ai,ap,aa,af⟩;unfold lpB;refine wpIn_seq (xeO (orcC 0) (hIoG 0) hI ndB4 (rB4 fb l (msOf J) l.length i) ai fun a1 w1 A1 M1 W ad=>?_)
 have an:a1.eval (.tmp 41)=.bool (decide ((i:Int)<l.length)):=by
  have h:=W.eval (.tmp 41);rw [evB18] at h;exact h.bool_inv
 refine wpIn_seq (wpIn_cond_split an (fun ht=>wpIn_skip ?_) fun hn=>wpIn_exit ?_)
 ·
  have O:i<l.length:=by simpa using ht
  rw [ht] at W;have h5:=rB5 fb l (msOf J) l.length i;rw [zN,xA4 (hf i O)] at h5;have c1:(decide ((0:Int)<=i)&&decide ((i:Int)<(l.length:Int)))=true:=by simp [O]
  have c2:(decide (i<l.length)&&true)=true:=by simp [O]
  rw [c1,c2] at h5;refine wpIn_seq (wpIn_block (wpIn_seq (xeO (orcC 0) (hIoG 0) hI ndB5 h5 W fun a2 w2 A2 M2 Y mv2=>?_)))
  obtain ⟨A3,V,mv3⟩:=Y.settle1 (t:=11) (resB (msOf J) fb l l.length i _);rw [reaB,setB8] at V;have ae:=V.cut hp (xqa _) (xqb _);rw [cutB8] at ae;have am:=(aa.go ((ad.trans mv2).trans mv3) V.heap.lt).part (q:=pB q0);refine callB hI hp ak ae am (xg2 M2) (hf i O) (by omega) fun a5 w5 A5 M5 ac Ns5 al ao aj ab=>?_
  refine xeO (orcC 0) (hIoG 0) hI ndB8 (rB8 fb l (msOf ac) l.length i) al fun a6 w6 A6 M6 Z mv6=>?_
  have hw:IntKind.i64.wrap ((i:Int)+1)=((i+1:Nat):Int):=by
   rw [xay (by omega) (by omega)];omega
  rw [hw] at Z;have ag:=Z.cut hp (xqa _) (xqb _);rw [cutB] at ag;refine ⟨l.length - (i+1),by omega,i+1,ac,Ns5,A6,_,rfl,O,ag,xg2 M6,(aj.go mv6 Z.heap.lt).part,?_⟩
  rw [ab,af];have e:l.take (i+1)=l.take i++[l.getD i .top]:=by
   rw [List.take_add_one,ze O];simp [z7,O]
  rw [e,List.foldl_append];rfl
 ·
  have ah:i=l.length:=by
   have:¬ ((i:Int)<l.length):=by simpa using hn
   omega
  subst ah;have Y:=W.mask lvB;rw [keB18] at Y;have V:=Y.cut hp (xqa _) (xqb _);rw [cutB] at V;have hst':J.map strip=l.foldl stepPB (es.map strip):=by rw [af,y6]
  exact hK a1 w1 A1 _ J Ns' V (xg2 M1) (aa.go ad W.heap.lt).part hst'
end
end Go.Sim.M
end
noncomputable section
set_option maxRecDepth 100000
namespace Go.Sim.M
open Go.RowKit Go.Proofs
noncomputable def colV (xa xb:List AV):List PE:=xb.foldl stepPB (xa.foldl stepPA [])
noncomputable def colOk (xa xb:List AV):Bool:=(List.range xa.length).all (fun i=>okF (xa.getD i .top))&&((List.range xb.length).all (fun i=>okF (xb.getD i .top))&&decide (xa.length+xb.length<4294967295))
noncomputable def cT0 (fa fb:List AV):List AV:=[.list 3 fa,.list 3 fb]++List.replicate 60 (.tuple [])
noncomputable def cT1 (fa fb:List AV):List AV:=mkTs 62 [(0,.list 3 fa),(1,.list 3 fb)]
noncomputable def cT2 (fa fb:List AV):List AV:=mkTs 62 [(0,.list 3 fa),(1,.list 3 fb),(5,vC)]
noncomputable def cT3 (fa fb:List AV):List AV:=mkTs 62 [(0,.list 3 fa),(1,.list 3 fb),(5,vC),(6,.func 105 [vC])]
noncomputable def cT9:List AV:=mkTs 62 [(4,.own (.b 0) 0 0 0)]
def boxM:Box:=⟨0,1,88,[.own (.b 0) 0 0 0],false,false⟩
def ndC0:noDefer (cO 0)=true:=by kernel_rfl
def ndC1:noDefer (cO 1)=true:=by kernel_rfl
def ndC2:noDefer (cO 2)=true:=by kernel_rfl
def ndC3:noDefer (cO 3)=true:=by kernel_rfl
def ndC9:noDefer (cO 9)=true:=by kernel_rfl
def ndC15:noDefer (cO 15)=true:=by kernel_rfl
def cgR0 (fa fb:List AV):xOps Tryz.prog (EC 0) none (some true) (cO 0) (cO 0).toList ⟨cT0 fa fb,[]⟩ (fun s=>some (keepS [0,1] s))=some ⟨cT1 fa fb,[]⟩:=by kernel_rfl
def cR1 (fa fb:List AV):xOps Tryz.prog (EC 0) none (some true) (cO 1) (cO 1).toList ⟨cT1 fa fb,[]⟩ (fun s=>some (keepS [0,1,5] s))=some ⟨(cT1 fa fb).set 5 (.own (.b 1) 0 0 0),[mapB [],boxM]⟩:=by kernel_rfl
def cgV1 (fa fb:List AV):((cT1 fa fb).set 5 (.own (.b 1) 0 0 0)).getD 5 .top=.own (.b 1) 0 0 0:=by kernel_rfl
def cgV2:varOf [mapB [],boxM] 1 0 0 0=some (.own (.b 0) 0 0 0):=by kernel_rfl
def cV3 (fa fb:List AV):cutT (((cT1 fa fb).set 5 (.own (.b 1) 0 0 0)).set 5 (.func vpF [.own (.b 0) 0 0 0]))=cT2 fa fb:=by kernel_rfl
def cR2 (fa fb:List AV):xOps Tryz.prog (EC 0) none (some true) (cO 2) (cO 2).toList ⟨cT2 fa fb,[mapB []]⟩ (fun s=>some (keepS [0,1,5,6] s))=some ⟨cT3 fa fb,[mapB []]⟩:=by kernel_rfl
def cR3 (fa fb:List AV):xOps Tryz.prog (EC 0) none (some true) (cO 3) (cO 3).toList ⟨cT3 fa fb,[mapB []]⟩ (fun s=>some (keepS lvA s))=some ⟨hdA fb fa fa.length ((0:Nat):Int),[mapB (msOf [])]⟩:=by kernel_rfl
def cR9 (fb l ms:List AV) (n i:Int):xOps Tryz.prog (EC 0) none (some true) (cO 9) (cO 9).toList ⟨hdA fb l n i,[mapB ms]⟩ (fun s=>some (keepS lvB s))=some ⟨hdB fb fb fb.length ((0:Nat):Int),[mapB ms]⟩:=by kernel_rfl
def cR15 (fb l ms:List AV) (n i:Int):xOps Tryz.prog (EC 0) none (some true) (cO 15) (cO 15).toList ⟨hdB fb l n i,[mapB ms]⟩ (fun s=>some (keepS [4] s))=some ⟨cT9,[mapB ms]⟩:=by kernel_rfl
def cC9:cutT cT9=cT9:=by kernel_rfl
def cRes (H:List Box):resAllM Tryz.prog ⟨cT9,H⟩ Tryz.f75.results.toList=some [.own (.b 0) 0 0 0]:=by kernel_rfl
def cNt:Tryz.f75.ntmps=62:=by kernel_rfl
def cBody:Tryz.f75.body=some cB:=by kernel_rfl
def cEnters:Enters Tryz.prog 75:=⟨_,Tryz.func75,by kernel_rfl,by kernel_rfl⟩
section
variable {w0 w : World} {A0 : Cx} {A : Nat -> Prop} {M : Id -> Option MB} {a : Act}
set_option maxHeartbeats 2000000 in
def xBX (hI:xIE w0) (hp:A0.pin=0) (ac:∀ id,A0.M1 id=none) {fa fb:List AV} (Z:colOk fa fb=true) (hs:SR w0 A0 w A M ⟨cT0 fa fb,[]⟩ a) {Q:Exit->Act->World->Prop}
  (hQ:∀ a' w' A' M',SR w0 A0 w' A' M' ⟨cT9,[mapB (outOf (colV fa fb))]⟩ a'->Q .ret a' w'):cB.wpIn (wideR none) 0 Tryz.prog Q a w:=by
 unfold colOk at Z;simp only [zf,zI,List.mem_range,zl] at Z;obtain ⟨ai,af,au⟩:=Z;rw [xF5];refine wpIn_seq (xeO (orcC 0) (hIoG 0) hI ndC0 (cgR0 fa fb) hs fun a1 w1 A1 M1 ak _=>?_)
 refine wpIn_seq (xeO (orcC 0) (hIoG 0) hI ndC1 (cR1 fa fb) ak fun a2 w2 A2 M2 am _=>?_)
 obtain ⟨A3,V⟩:=am.vptr (cgV1 fa fb) cgV2;have V:=V.cut (b0:=mapB []) (T:=[{ boxM with frz:=true }]) hp (xkz _) (xkA _);rw [cV3] at V;refine wpIn_seq (xeO (orcC 0) (hIoG 0) hI ndC2 (cR2 fa fb) V fun a4 w4 A4 M4 ao _=>?_)
 refine wpIn_seq (wpIn_seq (xeO (orcC 0) (hIoG 0) hI ndC3 (cR3 fa fb) ao fun a5 w5 A5 M5 W _=>?_))
 have W:=W.cut hp (xkz _) (xkA _);rw [cutA] at W;have ad:Ents w5 A5 w0.heap.size A0.w1.heap.size 0 [] (fun _=>xH9) (MR (pB q0) M5):=⟨fun i x h=>by simp at h,fun i j h=>by simp at h,fun i h=>by simp at h,fun i x h=>by simp at h,zd _⟩
 refine wpIn_block (loopA hI hp ac W ad (xg2 M5) ai (by omega) fun a6 w6 A6 M6 aj Ns6 an ax al aa=>?_)
 simp only [Exit.inBlock,if_true];show Exit.then _ _ .normal a6 w6
 refine wpIn_seq (wpIn_seq (xeO (orcC 0) (hIoG 0) hI ndC9 (cR9 fb fa (msOf aj) fa.length fa.length) an fun a7 w7 A7 M7 J mv7=>?_))
 have ar:=(al.go mv7 J.heap.lt).part (q:=pB q0);have J:=J.cut hp (xkz _) (xkA _);rw [cutB] at J;refine wpIn_block (loopB hI hp ac J ar (xg2 M7) af (by omega) fun a8 w8 A8 M8 ah Ns8 ae aw aq ab=>?_)
 simp only [Exit.inBlock,if_true];show Exit.then _ _ .normal a8 w8
 refine wpIn_seq (xeO (orcC 0) (hIoG 0) hI ndC15 (cR15 fb fb (msOf ah) fb.length fb.length) ae fun a9 w9 A9 M9 O ag=>?_)
 have ap:=(aq.go ag O.heap.lt).part (q:=pB q0);have O:=O.cut hp (xkz _) (xkA _);rw [cC9] at O;obtain ⟨A10,Y⟩:=SR.final O ap (xg2 M9) hp;rw [ab,aa] at Y;exact wpIn_ret (hQ _ _ _ _ Y)
end
def xBY {fa fb:List AV} (Z:colOk fa fb=true):GoodM Tryz.prog xIE 75 [.list 3 fa,.list 3 fb] [] (.own (.b 0) 0 0 0) [mapB (outOf (colV fa fb))]:=by
 refine ⟨cEnters,fun w0 w A M vs hI O hR Q=>?_⟩
 have Y:∀ id,M id=none:=fun id=>by
  cases h:M id with
  | none=>rfl
  | some m =>
   obtain ⟨bx,hb,_⟩:=hR.box id m h;cases id<;>simp [getB] at hb
 refine callsIn_wide.1 (callsIn_of_wp_marks (F:=Fence.wide) (n:=0) Tryz.func75 cBody trivial ?_);refine xBX (A0:=⟨A,w,A,M,0,fun _=>False⟩) (A:=A) (M:=M) (fa:=fa) (fb:=fb) hI rfl Y Z ⟨O,fun _ _=>Iff.rfl,?_,fun t ht=>?_,hR,DefOk.nil,Ev.refl (C:=⟨A,w,A,M,0,fun _=>False⟩)⟩ ?_
 . rw [cNt];have:=Q.1;simp [cT0] at this |-;omega
 . have hl:vs.length=2:=Q.1;rw [cNt];show Rel w A M _ ((cT0 fa fb).getD t .top);unfold cT0;by_cases J:t<2
   . have e1:(vs.toArray++Array.replicate (62 - vs.toArray.size) undef).getD t undef=vs.getD t undef:=by
      have:t<vs.length:=by omega
      simp [z7,Array.getElem?_append,this]
     rw [e1,xoS J];exact Q.2 t J
   . have ht:t<62:=by
      have h0:(cT0 fa fb).length=62:=by rfl
      rw [<-h0];exact ht
     have h1:¬ t<vs.length:=by omega
     have e1:(vs.toArray++Array.replicate (62 - vs.toArray.size) undef).getD t undef=undef:=by
      have h2:t - vs.length<62 - vs.length:=by omega
      simp [Array.getElem?_append,h1,h2]
     rw [e1,xoT J (show t - 2<60 by omega)]
     exact .tuple #[] [] rfl (by simp)
 . intro a' w' A' M' W;show LeavesInM Fence.wide 0 Tryz.prog Tryz.f75 a'.tmps _ a'.defers .returning w';refine xlP (fun _ h=>h) W fun w2 q=>?_
   obtain ⟨v,hv,V⟩:=xkI (P:=Tryz.prog) q (cRes _);exact ⟨v,hv,v,A',M',rfl,q.base,q.outer,q.ev,q.heap,V⟩
noncomputable def xtA:List AV->List Box->Option (Bool×AV×List Box):=omOf (xIG (xIV 3 xIJ) (xIG (xIV 3 xIJ) xII)) xIH fun (xa,(xb,_)) _=>(colOk xa xb,.own (.b 0) 0 0 0,[⟨0,2,mapTy 88,outOf (colV xa xb),false,true⟩])
def xAp:OmOk Tryz.prog xIE 75 xtA:=xlj fun b c r H' h=>by
 obtain ⟨xa,xb,_⟩:=b;obtain ⟨h1,h2⟩:=Prod.mk.inj h;obtain ⟨rfl,rfl⟩:=Prod.mk.inj h2;exact xBY h1
end Go.Sim.M
end
noncomputable section
set_option maxRecDepth 100000
namespace Go.Sim.M
open Go.RowKit Go.Proofs
def pGptr:Pat AV Nat:=⟨.gptr,fun v=>match v with
 | .gptr g=>some g
 | _=>none,fun a b h=>by
  split at h
  . simp only [z6] at h;rw [h]
  . simp at h⟩
noncomputable def EKCo:Env:=xsW.E.withM 75 xtA
def xsX:xHX Tryz.prog xIE EKCo:=xsW.ok.withM xAp
noncomputable def cmL:Code:=(xIf (rmBody (rmOf Tryz.f42))).getD 0 .skip
def cellR:Box:=⟨0,2,25,[.agg [.nils,.nils]],false,true⟩
noncomputable def boxC (ms:List AV):Box:=⟨0,2,mapTy 88,ms,true,true⟩
def boxO (v:Nat) (xs:List AV):Box:=⟨v,3,54,xs,false,true⟩
noncomputable def xpV {T:Type} (row lv:List AV) (c:Int) (v n:Nat) (i:Int) (xs:List AV) (δ:T) (κl κr:T):T:=br (decide (i<c)) (br (decide ((0:Int)<=i)&&decide (i<(↑lv.length:Int))) (br (decide (i.toNat<lv.length)&&((lv.getD i.toNat AV.top).cells.length==(2:Nat)&&xH1 [Sh.int IntKind.i64,Sh.int IntKind.i64] (lv.getD i.toNat AV.top).cells (0:Nat))) (br (v==v&&(n==xs.length&&(decide ((n+(1:Nat))*(40:Nat)<=(140737488355328:Nat))&&decide (n+(1:Nat)<=(4611686018427387904:Nat))))) κl δ) δ) δ) κr
noncomputable def xcb (row lv:List AV) (c:Int):Nat×Nat×Int×List AV->Option ((Nat×Nat×Int×List AV)⊕(Nat×Nat×List AV)):=fun (v,n,i,xs) =>
 xpV row lv c v n i xs none (some (.inl (v+1,n+1,IntKind.i64.wrap (i+1),xs++[.agg [.list 3 row,.int .i64 ((lv.getD i.toNat AV.top).cells.getD 0 AV.top).toInt,.int .i64 ((lv.getD i.toNat AV.top).cells.getD 1 AV.top).toInt]]))) (some (.inr (v,n,xs)))
end Go.Sim.M
end
noncomputable section
set_option maxRecDepth 100000
namespace Go.Sim
open Go.RowKit
def Weak.trans {p:Nat} {s1 s2 s3:St} (h:Weak p s1 s2) (g:Weak p s2 s3):Weak p s1 s3:=fun w0 A0 w A M a hp hs=>by
 obtain ⟨A1,M1,h1⟩:=h w0 A0 w A M a hp hs;exact g w0 A0 w A1 M1 a hp h1
def xol {p:Nat} {ts:List AV} {H:List Box} {t:Nat} {y:AV} (hy:resolve H xIg (ts.getD t .top)=some y):Weak p ⟨ts,H⟩ ⟨ts.set t y,freeze H (reach H xIg (ts.getD t .top))⟩:=fun w0 A0 w A M a hp hs=>by
 obtain ⟨A1,h1,_⟩:=hs.settle1 hy;exact ⟨A1,M,h1⟩
def xnx {p:Nat} (live:List Nat) (s:St):Weak p s (keepS live s):=fun w0 A0 w A M a hp hs=>⟨A,M,hs.mask live⟩
def xB7 {P:Program} {ls:TypeId->Bool} {rs:List ResultVar} {e:Exit} {s:St} {r:AV} (h:endK P ls rs e s=some r):(e=.ret\/e=.normal)/\resultOf P rs s=some r:=by
 have q:∀ s,finK P ls rs s=some r->resultOf P rs s=some r:=fun s h=>by
  unfold finK at h;split at h
  case h_2=>simp at h
  rename_i b xs hx;obtain ⟨rfl,h⟩:=xbs (good:=fun t=>t=some r) (by simp) h
  rw [xaY] at h;unfold resultOf;rw [xnh hx];exact h
 cases e with
 | ret=>exact ⟨.inl rfl,q s h⟩
 | normal=>exact ⟨.inr rfl,q s h⟩
 | _=>simp [endK] at h
end Go.Sim
namespace Go.Sim.M
open Go.RowKit Go.Proofs
noncomputable def rmOps9:Code->Array Oper
 | .seq (.region _ ops _) _=>ops
 | _=>#[]
noncomputable def rmOps0:Code->Array Oper
 | .seq _ (.block _ (.loop (.seq (.region _ ops _) _)))=>ops
 | _=>#[]
def relV (ks fs:List AV):AV:=.agg [.list 1 ks,.list 3 fs]
noncomputable abbrev cmO (n:Nat):Array Oper:=opsOf (regOf (Tryz.f42.body.getD .skip) n)
def boxR (ks fs:List AV) (z:Bool):Box:=⟨0,2,25,[relV ks fs],z,true⟩
def perOk (q:AV):Bool:=q.cells.length==2&&xH1 [Sh.int IntKind.i64,Sh.int IntKind.i64] q.cells (0:Nat)
def factA (row:List AV) (q:AV):AV:=.agg [.list 3 row,.int .i64 (q.cells.getD 0 .top).toInt,.int .i64 (q.cells.getD 1 .top).toInt]
def xw0 (row lv:List AV) (J:∀ i,i<lv.length->perOk (lv.getD i .top)=true):∀ (d i v:Nat) (xs:List AV),i+d=lv.length->xs.length+d<=1099511627776->lv.length<=1099511627776 ->
  Iter (xcb row lv (lv.length:Nat)) (v,xs.length,(i:Int),xs)=some (v+d,xs.length+d,xs++(lv.drop i).map (factA row))
 | 0,i,v,xs,hi,hx,hl=>by
  have e:xcb row lv (lv.length:Nat) (v,xs.length,(i:Int),xs)=some (.inr (v,xs.length,xs)):=by
   have h1:decide ((i:Int)<(lv.length:Nat))=false:=by simp;omega
   simp only [xcb,xpV,h1,br]
  rw [xac e];simp [show i=lv.length by omega]
 | d+1,i,v,xs,hi,hx,hl=>by
  have q:i<lv.length:=by omega
  have hq:=J i q;unfold perOk at hq;have hw:IntKind.i64.wrap ((i:Int)+1)=((i+1:Nat):Int):=by rw [xay (by omega) (by omega)];omega
  have e:xcb row lv (lv.length:Nat) (v,xs.length,(i:Int),xs)=some (.inl (v+1,(xs++[factA row (lv.getD i .top)]).length,((i+1:Nat):Int),xs++[factA row (lv.getD i .top)])):=by
   have h1:decide ((i:Int)<(lv.length:Nat))=true:=by simp;omega
   have h2:(decide ((0:Int)<=i)&&decide ((i:Int)<(lv.length:Nat)))=true:=by simp;omega
   have h3:(decide (i<lv.length)&&((lv.getD i AV.top).cells.length==(2:Nat)&&xH1 [Sh.int IntKind.i64,Sh.int IntKind.i64] (lv.getD i AV.top).cells (0:Nat)))=true:=by rw [hq];simp [q]
   have h4:(v==v&&(xs.length==xs.length&&(decide ((xs.length+(1:Nat))*(40:Nat)<=(140737488355328:Nat))&&decide (xs.length+(1:Nat)<=(4611686018427387904:Nat)))))=true:=by
    simp only [beq_self_eq_true,Bool.true_and,zf,zl];omega
   simp only [xcb,xpV,zN,h1,h2,h3,h4,br,hw];simp [factA]
  rw [xal e,xw0 row lv J d (i+1) (v+1) (xs++[factA row (lv.getD i .top)]) (by omega) (by simp;omega) hl]
  have e2:lv.drop i=lv.getD i .top::lv.drop (i+1):=by
   rw [List.drop_eq_getElem_cons q];simp [z7,q]
  rw [e2];simp;omega
def stepF (fk:Nat->List AV) (s:Nat×List AV) (k:Nat):(Nat×List AV)⊕Unit:=.inl (s.1+(fk k).length,s.2++fk k)
def xvk (fk:Nat->List AV):∀ (ord:List Nat) (v:Nat) (xs:List AV),∃ v',ord.foldl (stepI (stepF fk)) (.inl (v,xs))=.inl (v',xs++ord.flatMap fk)
 | [],v,xs=>⟨v,by simp⟩
 | k::ord,v,xs=>by
  obtain ⟨v',h⟩:=xvk fk ord (v+(fk k).length) (xs++fk k);refine ⟨v',?_⟩;rw [List.foldl_cons];show ord.foldl (stepI (stepF fk)) (Sum.inl (v+(fk k).length,xs++fk k))=_;rw [h];simp
def xs8 {fk:Nat->List AV} {done:List Nat} {n:Nat} (h1:done.Nodup) (h2:∀ i,i∈done->i<n):(done.flatMap fk).length<=((List.range n).flatMap fk).length:=by
 obtain ⟨l',q⟩:=xt2 h1 h2;have:=(q.flatMap_right fk).length_eq;rw [List.flatMap_append,z8] at this;omega
def xuz {fk:Nat->List AV} {done:List Nat} {k n:Nat} (h1:done.Nodup) (h2:∀ i,i∈done->i<n) (h3:k∉done) (h4:k<n):(done.flatMap fk).length+(fk k).length<=((List.range n).flatMap fk).length:=by
 have:=xs8 (fk:=fk) (done:=done++[k]) (n:=n) (by
  rw [List.nodup_append];exact ⟨h1,by simp,fun a ha b hb=>by simp at hb;subst hb;exact fun e=>h3 (e▸ha)⟩) (fun i hi=>by
  rcases zG.1 hi with h|h
  . exact h2 i h
  . simp at h;omega)
 simpa using this
noncomputable def lvOf (op:List AV->List AV->Option (List AV)) (p:PE):List AV:=(xav ((op ((xag p.2.2.1).getD []) ((xag p.2.2.2).getD [])).getD [])).getD []
noncomputable def lvOk (op:List AV->List AV->Option (List AV)) (p:PE):Bool:=(xag p.2.2.1).isSome&&((xag p.2.2.2).isSome&&((op ((xag p.2.2.1).getD []) ((xag p.2.2.2).getD [])).isSome&&((xav ((op ((xag p.2.2.1).getD []) ((xag p.2.2.2).getD [])).getD [])).isSome &&
 (List.range (lvOf op p).length).all fun i=>perOk ((lvOf op p).getD i .top))))
noncomputable def fkOf (op:List AV->List AV->Option (List AV)) (ps:List PE) (k:Nat):List AV:=(lvOf op (ps.getD k defP)).map (factA (ps.getD k defP).2.1)
noncomputable def flatOf (op:List AV->List AV->Option (List AV)) (ps:List PE):List AV:=(List.range ps.length).flatMap (fkOf op ps)
open Classical in
noncomputable def cmbOk (op:List AV->List AV->Option (List AV)) (fa fb:List AV):Bool:=colOk fa fb&&((List.range (colV fa fb).length).all (fun k=>lvOk op ((colV fa fb).getD k defP))&&(decide ((flatOf op (colV fa fb)).length<=1099511627776) &&
 (decide (∀ ord:List Nat,ord.Perm (List.range (colV fa fb).length)->xbz (ord.flatMap (fkOf op (colV fa fb)))=xbz (flatOf op (colV fa fb)))&&(xbz (flatOf op (colV fa fb))).isSome)))
noncomputable def cmbV (op:List AV->List AV->Option (List AV)) (fa fb:List AV):Option (List AV):=match cmbOk op fa fb with
 | true=>xbz (flatOf op (colV fa fb))
 | false=>none
def xAl {op:List AV->List AV->Option (List AV)} {fa fb:List AV} (h:(cmbV op fa fb).isSome=true):cmbOk op fa fb=true/\cmbV op fa fb=xbz (flatOf op (colV fa fb)):=by
 unfold cmbV at h |-;cases hc:cmbOk op fa fb with
 | true=>exact ⟨rfl,rfl⟩
 | false=>rw [hc] at h;simp at h
end Go.Sim.M
end
noncomputable section
set_option maxRecDepth 100000
namespace Go.Sim.M
open Go.RowKit Go.Proofs
variable (g : FuncId)
noncomputable abbrev xy3:Env:=EKCo.fn 57 3 (lsOf [54]) (xIi [])
def xE5:xHX Tryz.prog (xIE.at 3) xy3:=xsX.fn
def xE1:LoOk Tryz.prog (xIE.at 3) xy3 cmL:=xgd (by kernel_rfl)
def xpU (ra row ea eb lv ms:List AV) (r:Nat) (c:Int):Nat×Nat×Int×List AV->List AV×List Box:=fun (v,n,i,xs)=>([.func g [],.eptr 2 ra 0 0,.own 0 0 0 0,.osl 1 v 0 n,.eptr 3 [.agg [.list 3 row,.list 3 ea,.list 3 eb]] 0 0,.gptr r,.list 2 lv,.int .i64 c,.int .i64 i],[⟨0,2,25,[.agg [.nils,.nils]],false,true⟩,⟨v,3,54,xs,false,true⟩,⟨0,2,mapTy 88,ms,true,true⟩])
def xoo (ra ms:List AV) (r:Nat):Nat×Nat×List AV->LR:=fun p=>.leaf (.exit 2) [.func g [],.eptr 2 ra 0 0,.own 0 0 0 0,.osl 1 p.1 0 p.2.1,.gptr r] [⟨0,2,25,[.agg [.nils,.nils]],false,true⟩,⟨p.1,3,54,p.2.2,false,true⟩,⟨0,2,mapTy 88,ms,true,true⟩]
noncomputable abbrev xEN (vals:List AV) (H:List Box):=XR Tryz.prog xy3 [2,3,6,7,9,17,34,35,36] [2,3,6,7,17] [(7,3,54)] cmL vals H
def xGN (ra row ea eb lv ms:List AV) (r:Nat) (c:Int) (s:Nat×Nat×Int×List AV):Enc (encR ((xpU g) ra row ea eb lv ms r c) ((xoo g) ra ms r)) (xcb row lv c s) (xEN ((xpU g) ra row ea eb lv ms r c s).1 ((xpU g) ra row ea eb lv ms r c s).2):=by
 obtain ⟨v,n,i,xs⟩:=s;have h:xEN ((xpU g) ra row ea eb lv ms r c (v,n,i,xs)).1 ((xpU g) ra row ea eb lv ms r c (v,n,i,xs)).2=xpV row lv c v n i xs none (some (encR ((xpU g) ra row ea eb lv ms r c) ((xoo g) ra ms r) (.inl (v+1,n+1,IntKind.i64.wrap (i+1),xs++[.agg [.list 3 row,.int .i64 ((lv.getD i.toNat AV.top).cells.getD 0 AV.top).toInt,.int .i64 ((lv.getD i.toNat AV.top).cells.getD 1 AV.top).toInt]])))) (some (encR ((xpU g) ra row ea eb lv ms r c) ((xoo g) ra ms r) (.inr (v,n,xs)))):=by kernel_rfl
 rw [h];unfold xcb xpV;repeat' (first|refine Enc.br ?_ ?_|exact Enc.none|exact Enc.some rfl)
noncomputable def xy6:Lp:=lpOf [2,3,6,7,9,17,34,35,36] [2,3,6,7,17] [(7,3,54)] (xIF (xIj g xIH) (xIF (pEptr 2 0 0 xIJ) (xIF (xIS 0 0 0 0) (xIF (pOslV 1 0) (xIF (pEptr 3 0 0 (xIF (xIT (xIF (xIX 3 xIJ) (xIF (xIX 3 xIJ) (xIF (xIX 3 xIJ) xIH)))) xIH)) (xIF pGptr (xIF (xIX 2 xIJ) (xIF (pInt .i64) (xIF (pInt .i64) xIH)))))))))
 (xIF (xIU 0 2 25 false true (xIF (xIT (xIF pNils (xIF pNils xIH))) xIH)) (xIF (pBoxV 3 54 false true xIJ) (xIF (xIU 0 2 (mapTy 88) true true xIJ) xIH)))
 fun (_,(ra,(_,((v,n),((((row,(ea,(eb,_))),_)),(r,(lv,(c,(i,_))))))))) (_,((v',xs),(ms,_)))=>(Nat.beq v v'&&(Iter (xcb row lv c) (v,n,i,xs)).isSome,(xoo g) ra ms r ((Iter (xcb row lv c) (v,n,i,xs)).getD (0,0,[])))
def xE4:LoopOk Tryz.prog (xIE.at 3) 57 cmL (xy6 g):=xAY fun vv bb rr hh=>by
 obtain ⟨_,⟨ra,⟨_,⟨⟨v,n⟩,⟨⟨⟨row,⟨ea,⟨eb,_⟩⟩⟩,_⟩,⟨r,⟨lv,⟨c,⟨i,_⟩⟩⟩⟩⟩⟩⟩⟩⟩:=vv;obtain ⟨_,⟨⟨v',xs⟩,⟨ms,_⟩⟩⟩:=bb;obtain ⟨q,rfl⟩:=Prod.mk.inj hh;rw [zf] at q;obtain ⟨hv,q⟩:=q;have hv:=zg hv;subst hv;exact xsi xH5 (xH6 Tryz.prog _) rfl xE5 xE1 ((xpU g) ra row ea eb lv ms r c) ((xoo g) ra ms r) (fun p=>by simp only [xoo,LR.eval];simp) ((xGN g) ra row ea eb lv ms r c) (s:=(v,n,i,xs)) (xdV q)
end Go.Sim.M
end
noncomputable section
set_option maxRecDepth 100000
namespace Go.Sim.M
open Go.RowKit Go.Proofs
variable (g : FuncId)
noncomputable abbrev xuL:Env:=EKCo.fn 57 3 (lsOf [54]) (xIi [(6,(xy6 g))])
def xE6:xHX Tryz.prog (xIE.at 3) (xuL g):=xsX.fn
noncomputable abbrev xmy:Env:=EKCo.fn 57 0 (lsOf [54]) (xIi [])
def xu3:xHX Tryz.prog (xIE.at 0) xmy:=xsX.fn
def xE2:LoOk Tryz.prog (xIE.at 3) (xuL g) (rmBody (rmOf Tryz.f42)):=xlg (ls:=[cmL]) (by kernel_rfl) (fun l hl lp hs=>by
 simp only [zC,List.not_mem_nil,or_false] at hl;rcases hl with rfl;rw [show (xuL g).lp (xIa cmL)=some (xy6 g) by kernel_rfl] at hs
 cases hs;exact (xE4 g))
noncomputable def xnD (ra:List AV) (v n r:Nat):List AV:=mkTs 57 [(2,.func g []),(3,.eptr 2 ra 0 0),(6,.own 0 0 0 0),(7,.osl 1 v 0 n),(17,.gptr r)]
def CmX (g:FuncId) (o:List AV->List AV->Option (List AV)):Prop:=∀ (ra row ea eb ms xs:List AV) (s:List UInt8) (v n r:Nat),XM Tryz.prog (xuL g) (rmOps1 (rmOf Tryz.f42)) (rmBody (rmOf Tryz.f42)) [2,3,6,7,17] (stepT ((xnD g) ra v n r) 18 19 20 s (entV row ea eb)) [cellR,boxO v xs,boxC ms] =
 br (xag ea).isSome (br (xag eb).isSome (br (o ((xag ea).getD []) ((xag eb).getD [])).isSome (br (xav ((o ((xag ea).getD []) ((xag eb).getD [])).getD [])).isSome (br (v.beq v&&(Iter (xcb row ((xav ((o ((xag ea).getD []) ((xag eb).getD [])).getD [])).getD []) (↑((xav ((o ((xag ea).getD []) ((xag eb).getD [])).getD [])).getD []).length:Int)) (v,n,(0:Int),xs)).isSome)
  (some (Exit.normal,[AV.func g [],AV.eptr 2 ra 0 0,AV.own 0 0 0 0,AV.osl 1 ((Iter (xcb row ((xav ((o ((xag ea).getD []) ((xag eb).getD [])).getD [])).getD []) (↑((xav ((o ((xag ea).getD []) ((xag eb).getD [])).getD [])).getD []).length:Int)) (v,n,(0:Int),xs)).getD ((0:Nat),(0:Nat),[])).fst 0 ((Iter (xcb row ((xav ((o ((xag ea).getD []) ((xag eb).getD [])).getD [])).getD []) (↑((xav ((o ((xag ea).getD []) ((xag eb).getD [])).getD [])).getD []).length:Int)) (v,n,(0:Int),xs)).getD ((0:Nat),(0:Nat),[])).snd.fst,AV.gptr r],
   [cellR,boxO ((Iter (xcb row ((xav ((o ((xag ea).getD []) ((xag eb).getD [])).getD [])).getD []) (↑((xav ((o ((xag ea).getD []) ((xag eb).getD [])).getD [])).getD []).length:Int)) (v,n,(0:Int),xs)).getD ((0:Nat),(0:Nat),[])).fst ((Iter (xcb row ((xav ((o ((xag ea).getD []) ((xag eb).getD [])).getD [])).getD []) (↑((xav ((o ((xag ea).getD []) ((xag eb).getD [])).getD [])).getD []).length:Int)) (v,n,(0:Int),xs)).getD ((0:Nat),(0:Nat),[])).snd.snd,boxC ms])) none) none) none) none) none
noncomputable def xu2 (ka fa kb fb:List AV):List AV:=mkTs 57 [(2,.func g []),(3,.eptr 2 [relV ka fa] 0 0),(4,.eptr 2 [relV kb fb] 0 0),(6,.own 0 0 0 0),(7,.osl 1 0 0 0)]
noncomputable def xrZ (ka fa kb fb:List AV):List AV:=(((((xu2 g) ka fa kb fb).set 12 (.eptr 2 [relV ka fa] 0 1)).set 13 (.list 3 fa)).set 14 (.eptr 2 [relV kb fb] 0 1)).set 15 (.list 3 fb)
def xE7 (ka fa kb fb:List AV):xOps Tryz.prog xmy none (some true) (rmOps9 (rmOf Tryz.f42)) (rmOps9 (rmOf Tryz.f42)).toList.dropLast ⟨(xu2 g) ka fa kb fb,[cellR,boxO 0 []]⟩ some =
 br (colOk fa fb) (some ⟨((xrZ g) ka fa kb fb).set 16 (.own 2 0 0 0),[cellR,boxO 0 [],mapB (outOf (colV fa fb))]⟩) none:=by kernel_rfl
def xDi:Tryz.f42.body.getD .skip=.seq (.region 0 (cmO 0) false) (.seq (.region 1 (cmO 1) false) (.seq (rmOf Tryz.f42) (.seq (.region 10 (cmO 10) false) .ret))):=by kernel_rfl
def xE8:rmOf Tryz.f42=rngCode 2 (rmOps9 (rmOf Tryz.f42)) 0 3 (rmOps0 (rmOf Tryz.f42)) 19 1 4 (rmOps1 (rmOf Tryz.f42)) (rmBody (rmOf Tryz.f42)):=by kernel_rfl
noncomputable def xy4 (ka fa kb fb:List AV):List AV:=[relV ka fa,relV kb fb,.func g []]++List.replicate 54 (.tuple [])
noncomputable def xlA (ka fa kb fb:List AV):List AV:=((((xy4 g) ka fa kb fb).set 3 (.own 0 0 0 0)).set 4 (.own 1 0 0 0)).set 6 (.own 2 0 0 0)
def xGh (ka fa kb fb:List AV):xOps Tryz.prog xmy none (some true) (cmO 0) (cmO 0).toList ⟨(xy4 g) ka fa kb fb,[]⟩ some=some ⟨(xlA g) ka fa kb fb,[boxR ka fa false,boxR kb fb false,cellR]⟩:=by kernel_rfl
def xGi (ka fa kb fb:List AV):xOps Tryz.prog xmy none (some true) (cmO 1) (cmO 1).toList ⟨(xlA g) ka fa kb fb,[boxR ka fa false,boxR kb fb false,cellR]⟩ some=some ⟨((xlA g) ka fa kb fb).set 7 .nils,[boxR ka fa false,boxR kb fb false,cellR]⟩:=by kernel_rfl
def xGd:noDefer (cmO 0)=true:=by kernel_rfl
def xGe:noDefer (cmO 1)=true:=by kernel_rfl
def xGk (ka fa kb fb:List AV):resolve [boxR ka fa false,boxR kb fb false,cellR] xIg ((((xlA g) ka fa kb fb).set 7 .nils).getD 3 .top)=some (.eptr 2 [relV ka fa] 0 0):=by kernel_rfl
def xF6 (ka fa kb fb:List AV):freeze [boxR ka fa false,boxR kb fb false,cellR] (reach [boxR ka fa false,boxR kb fb false,cellR] xIg ((((xlA g) ka fa kb fb).set 7 .nils).getD 3 .top))=[boxR ka fa true,boxR kb fb false,cellR]:=by kernel_rfl
def xGl (ka fa kb fb:List AV):resolve [boxR ka fa true,boxR kb fb false,cellR] xIg (((((xlA g) ka fa kb fb).set 7 .nils).set 3 (.eptr 2 [relV ka fa] 0 0)).getD 4 .top)=some (.eptr 2 [relV kb fb] 0 0):=by kernel_rfl
def xF7 (ka fa kb fb:List AV):freeze [boxR ka fa true,boxR kb fb false,cellR] (reach [boxR ka fa true,boxR kb fb false,cellR] xIg (((((xlA g) ka fa kb fb).set 7 .nils).set 3 (.eptr 2 [relV ka fa] 0 0)).getD 4 .top))=[boxR ka fa true,boxR kb fb true,cellR]:=by kernel_rfl
def xGg (ka fa kb fb:List AV):normS 0 [(7,3,54)] [2,3,4,6,7] ⟨((((xlA g) ka fa kb fb).set 7 .nils).set 3 (.eptr 2 [relV ka fa] 0 0)).set 4 (.eptr 2 [relV kb fb] 0 0),[boxR ka fa true,boxR kb fb true,cellR]⟩=some ([.func g [],.eptr 2 [relV ka fa] 0 0,.eptr 2 [relV kb fb] 0 0,.own 0 0 0 0,.osl 1 0 0 0],[cellR,boxO 0 []]):=by kernel_rfl
def xGc (ka fa kb fb:List AV):mkTs (((((xlA g) ka fa kb fb).set 7 .nils).set 3 (.eptr 2 [relV ka fa] 0 0)).set 4 (.eptr 2 [relV kb fb] 0 0)).length ([2,3,4,6,7].zip [.func g [],.eptr 2 [relV ka fa] 0 0,.eptr 2 [relV kb fb] 0 0,.own 0 0 0 0,.osl 1 0 0 0])=(xu2 g) ka fa kb fb:=by kernel_rfl
def xGj (ka fa kb fb:List AV):Weak 0 ⟨((xlA g) ka fa kb fb).set 7 .nils,[boxR ka fa false,boxR kb fb false,cellR]⟩ ⟨(xu2 g) ka fa kb fb,[cellR,boxO 0 []]⟩:=by
 have h1:=xol (p:=0) ((xGk g) ka fa kb fb);rw [(xF6 g)] at h1;have h2:=xol (p:=0) ((xGl g) ka fa kb fb);rw [(xF7 g)] at h2;have h3:=xfQ ((xGg g) ka fa kb fb);rw [(xGc g)] at h3;exact (h1.trans h2).trans h3
noncomputable def xEO (ra:List AV) (v n:Nat):List AV:=mkTs 57 [(3,.eptr 2 ra 0 0),(6,.own 0 0 0 0),(7,.osl 1 v 0 n)]
def xGa (ra:List AV) (v n r:Nat) (H:List Box):keepS [3,6,7] ⟨(((xnD g) ra v n r).set 18 (.tuple [.bool false])).set 19 (.bool false),H⟩=⟨xEO ra v n,H⟩:=by kernel_rfl
def xEP (ka fa xs ms:List AV) (v n:Nat):X Tryz.prog xmy none (.seq (.region 10 (cmO 10) false) .ret) ⟨xEO [relV ka fa] v n,[cellR,boxO v xs,boxC ms]⟩ (endK Tryz.prog xmy.ls Tryz.f42.results.toList) =
 br (decide (((0:Nat)+ka.length)*(8:Nat)<=(140737488355328:Nat))&&decide ((0:Nat)+ka.length<=(4611686018427387904:Nat))) (br (v==v&&decide ((0:Nat)+n<=xs.length)&&true) (br (xbz (List.take n (List.drop (0:Nat) xs))).isSome (br (decide ((0:Nat)+((0:Nat)+ka.length)<=([]++ka).length)&&true&&true) (some (AV.agg [AV.list (1:Nat) (List.take ((0:Nat)+ka.length) (List.drop (0:Nat) ([]++ka))),AV.list (3:Nat) ((xbz (List.take n (List.drop (0:Nat) xs))).getD [])])) none) none) none) none:=by kernel_rfl
def xE3:LoOk Tryz.prog (xIE.at 0) xmy (.seq (.region 10 (cmO 10) false) .ret):=xgd (by kernel_rfl)
def xBQ:(rmOps9 (rmOf Tryz.f42)).toList=(rmOps9 (rmOf Tryz.f42)).toList.dropLast++[(rmOps9 (rmOf Tryz.f42)).toList.getLastD default]:=by kernel_rfl
def xDl:noDefer (rmOps9 (rmOf Tryz.f42))=true:=by kernel_rfl
def xEx:((rmOps9 (rmOf Tryz.f42)).toList.getLastD default).op=.range 88 (.tmp 16):=by kernel_rfl
def xES:((rmOps9 (rmOf Tryz.f42)).toList.getLastD default).dst=some 17:=by kernel_rfl
def xEW:((rmOps9 (rmOf Tryz.f42)).toList.getLastD default).guard=none:=by kernel_rfl
def xBO:(rmOps0 (rmOf Tryz.f42)).toList=[(rmOps0 (rmOf Tryz.f42)).toList.getD 0 default,(rmOps0 (rmOf Tryz.f42)).toList.getD 1 default]:=by kernel_rfl
def xDj:noDefer (rmOps0 (rmOf Tryz.f42))=true:=by kernel_rfl
def xEY:((rmOps0 (rmOf Tryz.f42)).toList.getD 0 default).op=.next (.tmp 17) false:=by kernel_rfl
def xEQ:((rmOps0 (rmOf Tryz.f42)).toList.getD 0 default).dst=some 18:=by kernel_rfl
def xEU:((rmOps0 (rmOf Tryz.f42)).toList.getD 0 default).guard=none:=by kernel_rfl
def xEZ:((rmOps0 (rmOf Tryz.f42)).toList.getD 1 default).op=.extract (.tmp 18) 0:=by kernel_rfl
def xER:((rmOps0 (rmOf Tryz.f42)).toList.getD 1 default).dst=some 19:=by kernel_rfl
def xEV:((rmOps0 (rmOf Tryz.f42)).toList.getD 1 default).guard=none:=by kernel_rfl
def xBP:(rmOps1 (rmOf Tryz.f42)).toList=((rmOps1 (rmOf Tryz.f42)).toList.getD 0 default)::(rmOps1 (rmOf Tryz.f42)).toList.drop 1:=by kernel_rfl
def xDk:noDefer (rmOps1 (rmOf Tryz.f42))=true:=by kernel_rfl
def xE0:((rmOps1 (rmOf Tryz.f42)).toList.getD 0 default).op=.entry (.tmp 17):=by kernel_rfl
def xET:((rmOps1 (rmOf Tryz.f42)).toList.getD 0 default).dst=some 20:=by kernel_rfl
def xEX:((rmOps1 (rmOf Tryz.f42)).toList.getD 0 default).guard=none:=by kernel_rfl
def xF8 (ka fa kb fb:List AV) (H:List Box):St.eval ⟨((xrZ g) ka fa kb fb).set 16 (.own 2 0 0 0),H⟩ (.tmp 16)=.own (.b 2) 0 0 0:=by kernel_rfl
def xy5 (ms:List AV):freeze [cellR,boxO 0 [],mapB ms] [2]=[cellR,boxO 0 [],boxC ms]:=by kernel_rfl
def xGf (ka fa kb fb ms:List AV) (r:Nat):normS 3 [] [2,3,6,7,17] ⟨(((xrZ g) ka fa kb fb).set 16 (.own 2 0 0 0)).set 17 (.gptr r),[cellR,boxO 0 [],boxC ms]⟩=some ([.func g [],.eptr 2 [relV ka fa] 0 0,.own 0 0 0 0,.osl 1 0 0 0,.gptr r],[cellR,boxO 0 [],boxC ms]):=by kernel_rfl
def xGb (ka fa kb fb:List AV) (r:Nat):mkTs ((((xrZ g) ka fa kb fb).set 16 (.own 2 0 0 0)).set 17 (.gptr r)).length ([2,3,6,7,17].zip [.func g [],.eptr 2 [relV ka fa] 0 0,.own 0 0 0 0,.osl 1 0 0 0,.gptr r])=(xnD g) [relV ka fa] 0 0 r:=by kernel_rfl
def xF9 (ra:List AV) (v n r:Nat):((xnD g) ra v n r)[17]?=some (.gptr r):=by kernel_rfl
def xAk (ra:List AV) (v n r:Nat):((xnD g) ra v n r).length=57:=by kernel_rfl
end Go.Sim.M
end
noncomputable section
set_option maxRecDepth 100000
namespace Go.Sim.M
open Go.RowKit Go.Proofs
variable (g : FuncId)
def xDg (ka fa kb fb:List AV):([relV ka fa,relV kb fb,.func g []]:List AV)++List.replicate (Tryz.f42.ntmps - ([relV ka fa,relV kb fb,.func g []]:List AV).length) (.tuple [])=(xy4 g) ka fa kb fb:=by kernel_rfl
def xDh:Tryz.f42.body=some (Tryz.f42.body.getD .skip):=by kernel_rfl
def xGM (ka fa kb fb:List AV) (h:colOk fa fb=true):Path (OpA Tryz.prog (xIE.at 0)) (rmOps9 (rmOf Tryz.f42)) (rmOps9 (rmOf Tryz.f42)).toList.dropLast ⟨(xu2 g) ka fa kb fb,[cellR,boxO 0 []]⟩ ⟨((xrZ g) ka fa kb fb).set 16 (.own 2 0 0 0),[cellR,boxO 0 [],mapB (outOf (colV fa fb))]⟩:=by
 have h1:=(xE7 g) ka fa kb fb;rw [h] at h1;obtain ⟨s1,h2,h3⟩:=xbY xu3 (K:=some) h1;cases h3;exact h2
def xw1 {ops:Array Oper} {l:List Oper} {s s':St} (h:xOps Tryz.prog xmy none (some true) ops l s some=some s'):Path (OpA Tryz.prog (xIE.at 0)) ops l s s':=by
 obtain ⟨s1,h2,h3⟩:=xbY xu3 h;cases h3;exact h2
def xBR {o:List AV->List AV->Option (List AV)} (Q:CmX g o) {ra:List AV} {ps:List PE} (V:∀ k,k<ps.length->lvOk o (ps.getD k defP)=true) {s:Nat×List AV} {k r:Nat} (hk:k<ps.length) (hl:s.2.length+(fkOf o ps k).length<=1099511627776) :
  ∃ s2,Path (OpA Tryz.prog (xIE.at 3)) (rmOps1 (rmOf Tryz.f42)) ((rmOps1 (rmOf Tryz.f42)).toList.drop 1) ⟨stepT ((xnD g) ra s.1 s.2.length r) 18 19 20 (keyAt (boxC (outOf ps)) k) (valAt 2 (boxC (outOf ps)) k),[cellR,boxO s.1 s.2,boxC (outOf ps)]⟩ s2 /\
   Does Tryz.prog (xIE.at 3) (rmBody (rmOf Tryz.f42)) (fun e s'=>e=.normal/\Weak 3 s' ⟨(xnD g) ra (s.1+(fkOf o ps k).length) (s.2++fkOf o ps k).length r,[cellR,boxO (s.1+(fkOf o ps k).length) (s.2++fkOf o ps k),boxC (outOf ps)]⟩) s2:=by
 have J:valAt 2 (boxC (outOf ps)) k=entV (ps.getD k defP).2.1 (ps.getD k defP).2.2.1 (ps.getD k defP).2.2.2:=by
  have e:(outOf ps).getD k .top=outE (ps.getD k defP):=by simp [outOf,z7,hk]
  have e2:(boxC (outOf ps)).xs=outOf ps:=rfl;have e3:xHY (boxC (outOf ps)).ty 1=false:=xs6;unfold valAt xIk;rw [e3,e2,e];rfl
 rw [J];have hv:=V k hk;unfold lvOk at hv;simp only [zf,zI,List.mem_range] at hv;obtain ⟨h1,h2,h3,h4,h5⟩:=hv;have q:(fkOf o ps k).length=(lvOf o (ps.getD k defP)).length:=by simp [fkOf]
 have hit:Iter (xcb (ps.getD k defP).2.1 (lvOf o (ps.getD k defP)) (↑(lvOf o (ps.getD k defP)).length:Int)) (s.1,s.2.length,(0:Int),s.2)=some (s.1+(lvOf o (ps.getD k defP)).length,s.2.length+(lvOf o (ps.getD k defP)).length,s.2++((lvOf o (ps.getD k defP)).drop 0).map (factA (ps.getD k defP).2.1)) :=
  xw0 (ps.getD k defP).2.1 (lvOf o (ps.getD k defP)) h5 (lvOf o (ps.getD k defP)).length 0 s.1 s.2 (by omega) (by omega) (by omega)
 have hx:=Q ra (ps.getD k defP).2.1 (ps.getD k defP).2.2.1 (ps.getD k defP).2.2.2 (outOf ps) s.2 (keyAt (boxC (outOf ps)) k) s.1 s.2.length r;have O:s.1.beq s.1=true:=Nat.beq_refl _;rw [h1,h2,h3,h4] at hx;simp only [xaa,sUF] at hx;rw [show (xav ((o ((xag (ps.getD k defP).2.2.1).getD []) ((xag (ps.getD k defP).2.2.2).getD [])).getD [])).getD []=lvOf o (ps.getD k defP) from rfl,hit,O] at hx
 simp only [zk,Bool.and_self,xaa,zh,zr,sUF] at hx;obtain ⟨s2,g1,g2⟩:=xDq xH5 (xH6 Tryz.prog _) rfl (xE6 g) (xE2 g) hx;refine ⟨s2,g1,xb6 g2 fun e s' ⟨he,hw⟩=>⟨he,?_⟩⟩
 rw [q];have hn:s.2.length+(lvOf o (ps.getD k defP)).length=(s.2++fkOf o ps k).length:=by rw [z8,q]
 rw [hn] at hw;exact hw
def xAq {o:List AV->List AV->Option (List AV)} (ad:CmX g o) {ka fa kb fb:List AV} (hk:ka.length<=1099511627776) (h:cmbOk o fa fb=true):Good Tryz.prog xIE 42 [relV ka fa,relV kb fb,.func g []] (.agg [.list 1 ka,.list 3 ((xbz (flatOf o (colV fa fb))).getD [])]):=by
 unfold cmbOk at h;simp only [zf,zI,List.mem_range,zl] at h;obtain ⟨aa,af,ab,J,O⟩:=h;refine xlc (p:=0) (xyd (xH6 Tryz.prog _) Tryz.func42 xDh (by kernel_rfl) ?_)
 rw [(xDg g),xDi];refine xfG (xpb (xH6 Tryz.prog _) xGd (xw1 ((xGh g) ka fa kb fb)) ?_);refine xfG (xpb (xH6 Tryz.prog _) xGe (xw1 ((xGi g) ka fa kb fb)) ?_);refine xgZ ((xGj g) ka fa kb fb) (xfG ?_);rw [xE8];refine xb6 (xwq (Inv:=xIE.at 0) (xH6 Tryz.prog _) (σ:=Nat×List AV) (ρ:=Unit) (pre:=(rmOps9 (rmOf Tryz.f42)).toList.dropLast) (exts:=(rmOps1 (rmOf Tryz.f42)).toList.drop 1) (o9:=(rmOps9 (rmOf Tryz.f42)).toList.getLastD default) (o0:=(rmOps0 (rmOf Tryz.f42)).toList.getD 0 default) (o1:=(rmOps0 (rmOf Tryz.f42)).toList.getD 1 default) (oe:=(rmOps1 (rmOf Tryz.f42)).toList.getD 0 default)
  (it:=17) (tn:=18) (tb:=19) (te:=20) (tyM:=88) (kt:=9) (et:=90) (mo:=.tmp 16)
  xBQ xDl xEx xES xEW xCc xBO xDj xEY xEQ xEU xEZ xER xEV xBP xDk xE0 xET xEX
  (by decide) (by decide) (by decide)
  ((xGM g) ka fa kb fb aa) (nb:=2) (ver:=0) (i:=0) (j:=0) ((xF8 g) ka fa kb fb _) (bx:=boxC (outOf (colV fa fb))) (by rw [xy5];rfl) rfl xCb xs5 rfl rfl rfl
  (n:=3) (by rw [xy5];exact zd 3) (fun s r=>(xnD g) [relV ka fa] s.1 s.2.length r) (fun s=>[cellR,boxO s.1 s.2,boxC (outOf (colV fa fb))]) (fun _=>[]) (fun _=>[]) (stepF (fkOf o (colV fa fb))) (0,[])
  (fun s=>zd 3) (fun s r=>(xF9 g) _ _ _ r) (fun s r=>by rw [(xAk g)];decide) (fun s r=>by rw [(xAk g)];decide)
  (fun r=>?_) ?_) fun e s' hq=>?_
 . have h:=xfQ ((xGf g) ka fa kb fb (outOf (colV fa fb)) r);rw [(xGb g)] at h;rw [xy5];exact h
 . intro r done s k V Y ae Z hf;have Q:(boxC (outOf (colV fa fb))).xs.length=(colV fa fb).length:=by
    show (outOf (colV fa fb)).length=_;simp [outOf]
   rw [Q] at V Z;obtain ⟨v',W⟩:=xvk (fkOf o (colV fa fb)) done 0 [];rw [W] at hf;have hs:s=(v',[]++done.flatMap (fkOf o (colV fa fb))):=by
    injection hf with hf;exact hf.symm
   have hl:s.2.length+(fkOf o (colV fa fb) k).length<=1099511627776:=by
    rw [hs];have:=xuz (fk:=fkOf o (colV fa fb)) ae Z Y V;simp only [zU];exact Nat.le_trans this ab
   obtain ⟨s2,g1,g2⟩:=xBR g ad (ra:=[relV ka fa]) af (s:=s) (r:=r) V hl;exact ⟨s2,g1,g2⟩
 . obtain ⟨ord,q,hq⟩:=hq;have Q:(boxC (outOf (colV fa fb))).xs.length=(colV fa fb).length:=by
    show (outOf (colV fa fb)).length=_;simp [outOf]
   rw [Q] at q;obtain ⟨v',W⟩:=xvk (fkOf o (colV fa fb)) ord 0 [];rw [W] at hq;obtain ⟨rfl,r,rfl⟩:=hq;show Does Tryz.prog (xIE.at 0) _ _ _;refine xgZ (xnx [3,6,7] _) ?_;rw [(xGa g)];have ac:=J ord q;have hx:=xEP ka fa ([]++ord.flatMap (fkOf o (colV fa fb))) (outOf (colV fa fb)) v' ([]++ord.flatMap (fkOf o (colV fa fb))).length;have c1:(decide (((0:Nat)+ka.length)*(8:Nat)<=(140737488355328:Nat))&&decide ((0:Nat)+ka.length<=(4611686018427387904:Nat)))=true:=by
    simp only [zf,zl];omega
   have c2:∀ n:Nat,(v'==v'&&decide ((0:Nat)+n<=n)&&true)=true:=fun n=>by simp
   have c3:(decide ((0:Nat)+((0:Nat)+ka.length)<=([]++ka).length)&&true&&true)=true:=by simp
   rw [c1,c2,c3,zU,zr,y6,ac,O] at hx;simp only [xaa,zU,zr,zH,y6,sUF] at hx;have hd:=xdS (P:=Tryz.prog) (Inv:=xIE.at 0) (E:=xmy) (good:=fun z=>z=some (AV.agg [.list 1 ka,.list 3 ((xbz (flatOf o (colV fa fb))).getD [])])) (bad:=none) xH5 (xH6 Tryz.prog _) rfl (by simp) xu3 _ _ _ xE3 hx
   refine xb6 hd fun e s hq=>?_
   exact xB7 hq
end Go.Sim.M
end
noncomputable section
set_option maxRecDepth 100000
namespace Go.Sim.M
open Go.RowKit Go.Proofs
def cmxA:CmX 43 xlx:=fun ra row ea eb ms xs s v n r=>by kernel_rfl
def cmxM:CmX 53 xl1:=fun ra row ea eb ms xs s v n r=>by kernel_rfl
def cmxX:CmX 45 xgK:=fun ra row ea eb ms xs s v n r=>by kernel_rfl
noncomputable def xpd (fa fb:List AV):Option (List AV):=cmbV xlx fa fb
noncomputable def xpe (fa fb:List AV):Option (List AV):=cmbV xl1 fa fb
noncomputable def xpf (fa fb:List AV):Option (List AV):=cmbV xgK fa fb
noncomputable def xr2 (g:FuncId) (f:List AV->List AV->Option (List AV)):List AV->Option (Bool×AV):=ocOf (xIG (xIW (xIG (xIV 1 xIJ) (xIG (xIV 3 xIJ) xII))) (xIG (xIW (xIG (xIV 1 xIJ) (xIG (xIV 3 xIJ) xII))) (xIG (sEq (xIj g xIH)) xII))) fun ((ka,(fa,_)),((kb,(fb,_)),_))=>(decide (ka.length<=1099511627776)&&(f fa fb).isSome,.agg [.list 1 ka,.list 3 ((f fa fb).getD [])])
def xva {g:FuncId} {o:List AV->List AV->Option (List AV)} (q:CmX g o):OcOk Tryz.prog xIE 42 (xr2 g (cmbV o)):=xli fun vv rr hh=>by
 obtain ⟨⟨ka,fa,_⟩,⟨kb,fb,_⟩,_⟩:=vv;obtain ⟨h1,rfl⟩:=Prod.mk.inj hh;simp only [zf,zl] at h1;obtain ⟨h2,h3⟩:=xAl (op:=o) h1.2;have h:=xAq g q (ka:=ka) (kb:=kb) h1.1 h2;rw [<-h3] at h;exact h
noncomputable def EKSJ:Env:=(((xzZ.E.withM 132 xmg).with 42 (xr2 43 xpd)).with 42 (xr2 53 xpe)).with 42 (xr2 45 xpf)
def xwW:xHX Tryz.prog xIE EKSJ:=(((xzZ.ok.withM xuG).with (xva cmxA)).with (xva cmxM)).with (xva cmxX)
noncomputable def xC4:EO:=EO.mk EKSJ xwW
abbrev En:=List UInt8×List AV
def encEn (e:En):AV:=.agg [.str e.1,.list 2 e.2]
def encDe (s:List UInt8) (n:Int):AV:=.agg [.str s,.int .i64 n]
def ixE:List En->List UInt8->Option Nat
 | [],_=>none
 | e::es,s=>match e.1==s with
  | true=>some 0
  | false=>(ixE es s).map (·+1)
def xim (s:List UInt8):∀ es:List En,mapIx (es.map encEn) s=ixE es s
 | []=>rfl
 | e::es=>by
  rw [zV,mapIx,ixE,xim s es];rfl
def xm0 {s:List UInt8}:∀ {es:List En} {i:Nat},ixE es s=some i->i<es.length
 | [],i,h=>by simp [ixE] at h
 | e::es,i,h=>by
  rw [ixE] at h;split at h
  . cases h;simp
  . cases hm:ixE es s with
    | none=>rw [hm] at h;simp at h
    | some j =>
     rw [hm] at h;simp only [Option.map_some,z6] at h;have:=xm0 hm;subst h;simp;omega
def xyh {s:List UInt8}:∀ {es:List En} {i:Nat},ixE es s=some i->(es.getD i default).1=s
 | [],i,h=>by simp [ixE] at h
 | e::es,i,h=>by
  rw [ixE] at h;split at h
  . rename_i he;cases h;simpa using he
  . cases hm:ixE es s with
    | none=>rw [hm] at h;simp at h
    | some j =>
     rw [hm] at h;simp only [Option.map_some,z6] at h;subst h;simpa using xyh hm
def addE:List En->List UInt8->AV->List En
 | [],s,p=>[(s,[p])]
 | e::es,s,p=>match e.1==s with
  | true=>(e.1,e.2++[p])::es
  | false=>e::addE es s p
def xpQ {s:List UInt8} {p:AV}:∀ {es:List En},ixE es s=none->addE es s p=es++[(s,[p])]
 | [],_=>rfl
 | e::es,h=>by
  rw [ixE] at h;split at h
  . simp at h
  . rename_i he;cases hm:ixE es s with
    | some j=>rw [hm] at h;simp at h
    | none=>rw [addE,he,xpQ hm];rfl
def xpR {s:List UInt8} {p:AV}:∀ {es:List En} {i:Nat},ixE es s=some i->addE es s p=es.set i (s,(es.getD i default).2++[p])
 | [],i,h=>by simp [ixE] at h
 | e::es,i,h=>by
  rw [ixE] at h;split at h
  . rename_i he;cases h;have e1:e.1=s:=by simpa using he
    rw [addE,he];simp [e1]
  . rename_i he;cases hm:ixE es s with
    | none=>rw [hm] at h;simp at h
    | some j =>
     rw [hm] at h;simp only [Option.map_some,z6] at h;subst h;rw [addE,he,xpR hm];simp
def lookE:List En->List UInt8->List AV
 | [],_=>[]
 | e::es,s=>match e.1==s with
  | true=>e.2
  | false=>lookE es s
def xsg {s:List UInt8}:∀ {es:List En},ixE es s=none->lookE es s=[]
 | [],_=>rfl
 | e::es,h=>by
  rw [ixE] at h;split at h
  . simp at h
  . rename_i he;cases hm:ixE es s with
    | some j=>rw [hm] at h;simp at h
    | none=>rw [lookE,he];exact xsg hm
def xsh {s:List UInt8}:∀ {es:List En} {i:Nat},ixE es s=some i->lookE es s=(es.getD i default).2
 | [],i,h=>by simp [ixE] at h
 | e::es,i,h=>by
  rw [ixE] at h;split at h
  . rename_i he;cases h;rw [lookE,he];rfl
  . rename_i he;cases hm:ixE es s with
    | none=>rw [hm] at h;simp at h
    | some j =>
     rw [hm] at h;simp only [Option.map_some,z6] at h;subst h;rw [lookE,he];simpa using xsh hm
def xvA (s s':List UInt8) (p:AV):∀ es:List En,lookE (addE es s p) s'=lookE es s'++if s==s' then [p] else []
 | []=>by simp only [addE,lookE];cases s==s'<;>simp
 | e::es=>by
  have ih:=xvA s s' p es;rw [addE];cases he:e.1==s with
  | true =>
   have e1:e.1=s:=by simpa using he
   dsimp only;rw [lookE,lookE,e1];cases h:s==s' with
   | true=>simp
   | false=>simp
  | false =>
   dsimp only;rw [lookE,lookE,ih];cases h:e.1==s' with
   | false=>rfl
   | true =>
    have e1:e.1=s':=by simpa using h
    have:(s==s')=false:=by
     rw [<-e1,Bool.eq_false_iff];intro hh;rw [show s=e.1 by simpa using hh] at he
     simp at he
    simp [this]
def xuY (s:List UInt8) (p:AV):∀ es:List En,(addE es s p).length<=es.length+1
 | []=>by simp [addE]
 | e::es=>by
  have:=xuY s p es;rw [addE];cases e.1==s<;>simp<;>omega
def xtU {α:Type} (k:α->List UInt8) (f:α->AV) (s:List UInt8):∀ (l:List α) (es:List En),lookE (l.foldl (fun es x=>addE es (k x) (f x)) es) s=lookE es s++(l.filter fun x=>k x==s).map f
 | [],es=>by simp
 | x::l,es=>by
  rw [List.foldl_cons,xtU k f s l,xvA,List.filter_cons];cases k x==s<;>simp
def cEn1 (e:En):(encEn e).cells.getD 1 .top=.list 2 e.2:=rfl
def lEn (e:En):(encEn e).cells.length=2:=rfl
def xsl (es:List En) (s:List UInt8):xIq (es.map encEn) s=(ixE es s).isSome:=by unfold xIq;rw [xim]
def xzp {es:List En} {s:List UInt8} {i:Nat} (h:ixE es s=some i):putIx (es.map encEn) s=i:=by unfold putIx;rw [xim,h]
def xp8 {s:List UInt8} {n:Int}:∀ {es:List En} {i:Nat},ixE es s=some i->mapIx ((es.map encEn).set i (encDe s n)) s=some i
 | [],i,h=>by simp [ixE] at h
 | e::es,i,h=>by
  rw [ixE] at h;split at h
  . cases h;simp [mapIx,encDe,AV.cells,isKey]
  . rename_i he;cases hm:ixE es s with
    | none=>rw [hm] at h;simp at h
    | some j =>
     rw [hm] at h;simp only [Option.map_some,z6] at h;subst h;rw [zV,List.set_cons_succ,mapIx,xp8 hm];have:isKey s ((encEn e).cells.getD 0 .top)=false:=he;rw [this];rfl
def xwB {es:List En} {s:List UInt8} {i:Nat} (h:ixE es s=some i) (n:Int) (p:AV):xIc ((es.map encEn).set i (encDe s n)) s (.list 2 ((es.getD i default).2++[p]))=(addE es s p).map encEn:=by
 unfold xIc;rw [xp8 h,xpR h];dsimp only;rw [List.set_set,List.map_set];rfl
def xzm {es:List En} {s:List UInt8} (h:ixE es s=none) (p:AV):xIc (es.map encEn) s (.list 2 [p])=(addE es s p).map encEn:=by
 unfold xIc;rw [xim,h,xpQ h,zx];rfl
def xAv {es:List En} {s:List UInt8} {i:Nat} (h:ixE es s=some i) {n:Nat}:deadR ((es.map encEn).set i (encDe s (n:Int))) s (n+1)=true:=by
 have hi:i<((es.map encEn).set i (encDe s (n:Int))).length:=by rw [y4,za];exact xm0 h
 unfold deadR;rw [xp8 h];have:((es.map encEn).set i (encDe s (n:Int))).getD i .top=encDe s (n:Int):=by
  rw [z7,zL (by simpa using hi)];rfl
 dsimp only;rw [this];show (match deadLen (AV.int .i64 (n:Int)) with|some l0=>decide (l0<n+1)|none=>false)=true
 simp [deadLen]
def xAu {es:List En} {s:List UInt8} (h:ixE es s=none) (n:Nat):deadR (es.map encEn) s n=true:=by unfold deadR;rw [xim,h]
end Go.Sim.M
end
noncomputable section
set_option maxRecDepth 100000
namespace Go.Sim.M
open Go.IntKind (i64 u64 u8)
open Go.RowKit Go.Proofs
def xcm:Env:=EKSJ.fn 36 0 (lsOf []) (xIi [])
def xpI:xHX P0 (xIE.at 0) xcm:=xwW.fn
def xoD:LoOk P0 (xIE.at xcm.pin) xcm (Tryz.f99.body.getD .skip):=xlg (ls:=[xH0 Tryz.f99 0,xH0 Tryz.f99 1]) (by kernel_rfl) (fun l b lp a=>by
 simp only [zC,List.not_mem_nil,or_false] at b;rcases b with rfl|rfl
 . rw [show xcm.lp (xIa (xH0 Tryz.f99 0))=none by kernel_rfl] at a
   simp at a
 . rw [show xcm.lp (xIa (xH0 Tryz.f99 1))=none by kernel_rfl] at a
   simp at a)
def xg9 (a b:LA):=i64.wrap (i64.wrap (0+(↑a.length:Int))+(↑b.length:Int))
def xfp (a b:LA):Nat:=0+a.length+b.length
def xhX {T:Type} (a b:LA) (δ:T) (κ:LA->T):T:=br (decide (i64.wrap (0+(↑a.length:Int))<0)) δ (br (decide (xg9 a b<0)) δ (br (decide (0<=xg9 a b)&&decide (xg9 a b<=4398046511104)) (br (decide ((0+a.length)*32<=140737488355328)&&decide (0+a.length<=4611686018427387904)) (br (0+a.length==([]++a).length&&(decide (xfp a b*32<=140737488355328)&&decide (xfp a b<=4611686018427387904))) (br (decide (0+xfp a b<=([]++a++b).length)&&true) (κ (List.take (xfp a b) (List.drop 0 ([]++a++b)))) δ) δ) δ) δ))
def xdJ (a b:LA):=xhX a b none some
def xsF (a b:LA):Enc (fun (p:LA)=>((AV.list 3 p):AV)) (xdJ a b) (XF P0 xcm Tryz.f99 (Tryz.f99.body.getD .skip) [AV.list 1 [AV.list 3 a,AV.list 3 b]]):=by
 have h:XF P0 xcm Tryz.f99 (Tryz.f99.body.getD .skip) [AV.list 1 [AV.list 3 a,AV.list 3 b]]=xhX a b none (fun (p:LA)=>some ((AV.list 3 p):AV)):=by kernel_rfl
 rw [h];unfold xdJ xhX;repeat' (first|refine Enc.br ?_ ?_|exact Enc.none|exact Enc.some rfl)
def xsE:LA->Option (Bool×AV):=ocOf (xIG (xIV 1 (xIF (xIX 3 xIJ) (xIF (xIX 3 xIJ) xIH))) xII) fun ((a,(b,_)),_)=>((xdJ a b).isSome,(AV.list 3 ((xdJ a b).getD [])))
def xsD:OcOk P0 xIE 99 (xsE):=xli fun f h g=>by
 obtain ⟨⟨a,⟨b,_⟩⟩,_⟩:=f;obtain ⟨c,e⟩:=Prod.mk.inj g;refine xlc (p:=xcm.pin) (xos xH5 (xH6 P0 _) rfl xpI Tryz.func99 rfl (by kernel_rfl) xoD ((xsF _ _ _ (xdV (d:=[]) c)).trans ?_))
 exact congrArg some e
def xEu:EO:=xC4.w xsD
def xlw {T:Type} (a b:LA) (δ:T) (κ:LA->T):T:=br ((xdJ a b).isSome) (κ ((xdJ a b).getD [])) δ
def xiG (a b:LA):=xlw a b none some
def xEv:EO:=xEu.f Tryz.func64 9 0 [] [] lk0 (u2 (uL 3) (uL 3)) (fun (a,b,_) _=>xlw a b) (fun _ p=>AV.list 3 p) []
def xpZ (a:LA):LA:=((a))
def xs4 {T:Type} (a:LA) (δ:T) (κ:LA->T):T:=κ (a)
def xEw:EO:=xEv.fT Tryz.func58 4 0 [] [] lk0 (fun (a,_)=>xs4 a none) (u1 (uL 3)) (fun (a,_)=>xpZ a) (fun _ p=>(AV.list 3 p))
def xgA (a:LA) (n:Int):Int:=if (↑a.length:Int)<n then (↑a.length:Int) else n
def xl5 {T:Type} (a:LA) (n:Int) (δ:T) (κ:LA->T):T:=br (decide (0<=xgA a n)&&decide (xgA a n<=a.length)&&true) (κ (List.take ((xgA a n).toNat - 0) (List.drop 0 a))) δ
def xgc (a:LA) (n:Int):=xl5 a n none some
def xrS:EO:=xEw.fM Tryz.func59 10 0 [] [] lk0 (u2 (uL 3) (sEq (xIj (1099511627776:FuncId) (q1 qI)))) xIH (fun (a,(n,_),_) _ _=>xl5 a n) (fun _ _ p=>(AV.list 3 p,([]:List Box))) []
end Go.Sim.M
end
noncomputable section
set_option maxRecDepth 100000
namespace Go.Sim.M
open Go.RowKit Go.Proofs
noncomputable abbrev pB:Code:=Tryz.f60.body.getD .skip
noncomputable abbrev pO (n:Nat):Array Oper:=opsOf (regOf pB n)
noncomputable abbrev EPr:Env:=xrS.E.fn 45 0 (lsOf []) (xIi [])
def orP:xHX Tryz.prog (xIE.at 0) EPr:=xrS.ok.fn
def tyP:Nat:=1208926121356027683143680
def contB (ms:List AV):Box:=⟨0,2,tyP,ms,false,true⟩
def boxW (rows:List AV):Box:=⟨0,1,47,rows,false,true⟩
noncomputable def lpP:Code:=.seq (.region 4 (pO 4) false) (.seq (.cond (.tmp 16) .skip (.exit 0)) (.seq (.block 1 (.seq (.region 5 (pO 5) false) (.seq (.region 6 (pO 6) false) (.seq (.region 7 (pO 7) false) (.seq (.seq (.region 8 (pO 8) false) (.cond (.tmp 28) (.region 9 (pO 9) false) .skip)) (.region 10 (pO 10) false)))))) (.region 11 (pO 11) false)))
def xGI:pB=.seq (.region 0 (pO 0) false) (.seq (.region 1 (pO 1) false) (.seq (.region 2 (pO 2) false) (.seq (.seq (.region 3 (pO 3) false) (.block 0 (.loop lpP))) (.seq (.region 12 (pO 12) false) .ret)))):=by kernel_rfl
def perA (f:AV):AV:=.agg [.int .i64 (f.cells.getD 1 .top).toInt,.int .i64 (f.cells.getD 2 .top).toInt]
def xDu (w:World):(binOp .eql 64 (.slice none 0 0) (.slice none 0 0)).run Tryz.prog w=.ok (.bool true) w:=by rfl
def xB5 (a:Addr) (n c:Nat) (w:World):(binOp .eql 64 (.slice (some a) n c) (.slice none 0 0)).run Tryz.prog w=.ok (.bool false) w:=by rfl
def NilIs (s:St) (t:Tmp) (b:Bool):Prop:=(b=true/\s.eval (.tmp t)=.nils)\/(b=false/\∃ id len rb,s.eval (.tmp t)=.osl id rb.ver 0 len/\0<len/\getB s.heap id=some rb)
def xBq {id:Nat} {ops:Array Oper} {Q:Exit->St->Prop} {s s3:St} {n:Nat} {o:Oper} {t d:Tmp} {ty:TypeId} {b:Bool} (W:noDefer ops=true) (hl:ops.toList=ops.toList.take n++[o]) (hp:Path (OpA Tryz.prog (xIE.at 0)) ops (ops.toList.take n) s s3)
  (ho:o.op=.binOp .eql 64 (.tmp t) (.const (.slice none 0 0)) ty) (hg:o.guard=none) (hd:o.dst=some d) (hn:NilIs s3 t b) (h:Q .normal ⟨s3.tmps.set d (.bool b),s3.heap⟩):Does Tryz.prog (xIE.at 0) (.region id ops false) Q s:=by
 intro w0 A0 w A M a Qc hI Y hs hQ ro aa;refine wpIn_region_list (xdi ro 0 _ (xbX W) _ _ ?_);rw [hl];refine xdF (xH6 Tryz.prog _) hI hp hs fun a1 w1 A1 M1 q _=>wpList_plain hg fun K hK=>?_
 have hv:=q.eval (.tmp t);have hc:a1.eval (.const (.slice none 0 0))=.slice none 0 0:=rfl;have J:SR w0 A0 w1 A1 M1 ⟨s3.tmps.set d (.bool b),s3.heap⟩ (a1.put (some d) (.bool b)):=q.put (d:=some d) q.base q.outer Mv.refl q.heap (Rel.bool (w:=w1) (A:=A1) (M:=M1) b);unfold Oper.wp;rcases hn with ⟨rfl,hx⟩|⟨rfl,id',len,rb,hx,Z,hb⟩
 . rw [hx] at hv;have e:a1.eval (.tmp t)=.slice none 0 0:=by
    generalize a1.eval (.tmp t)=v at hv;cases hv;rfl
   simp only [execOp,ho,e,hc,xDu,Sem.run_bind,Result.andThen_ok,Sem.run_pure];show K (a1.put o.dst (.bool true)) w1;rw [hd];exact hK _ _ (wpList_nil (hQ _ _ _ _ h ⟨A1,M1,J⟩))
 . rw [hx] at hv;have e:∃ a2 c2,a1.eval (.tmp t)=.slice (some a2) len c2:=by
    generalize a1.eval (.tmp t)=v at hv;cases hv with
    | osl v id ver off len m hm hle h1 he =>
     obtain ⟨bx,O,V⟩:=q.heap.box _ _ hm;rw [hb] at O;obtain rfl:rb=bx:=Option.some.inj O;obtain ⟨g1,a2,g2,g3⟩:=he V.ver;rw [g3 (by omega)] at g2
     exact ⟨_,_,g2⟩
   obtain ⟨a2,c2,e⟩:=e;simp only [execOp,ho,e,hc,xB5,Sem.run_bind,Result.andThen_ok,Sem.run_pure];show K (a1.put o.dst (.bool false)) w1;rw [hd];exact hK _ _ (wpList_nil (hQ _ _ _ _ h ⟨A1,M1,J⟩))
def lvPA:List Nat:=[1,6,7,13,14,15]
noncomputable def f9 (fr:List AV) (ff ft:Int):Box:=⟨0,3,54,[.agg [.list 3 fr,.int .i64 ff,.int .i64 ft]],false,true⟩
def lvPU:List Nat:=[1,6,7,9,10,11,13,14,15]
def toListL (z:Nat) (ys:List AV):(AV.list z ys).toList=ys:=rfl
def isRowL (ys:List AV):xIC 2 (.list 2 ys)=true:=rfl
def enT1 (e:En):List.take 1 (encEn e).cells=[.str e.1]:=rfl
def enD2 (e:En):List.drop 2 (encEn e).cells=[]:=rfl
def xDA {es:List En} {k:List UInt8} {j:Nat} (h:ixE es k=some j):(es.map encEn).getD j .top=encEn (es.getD j default):=by
 have:=xm0 h;simp [z7,this]
section
variable {Q : Exit -> St -> Prop}
def xiH {live liveO:List Nat} {vals q:List AV} {H H':List Box} {id:Nat} {ops:Array Oper} {y:Code} (h:XC Tryz.prog EPr live liveO (.region id ops false) vals H=some (LR.leaf .normal q H').eval) (hq:Does Tryz.prog (xIE.at 0) y Q ⟨mkTs 45 (liveO.zip q),H'⟩):Does Tryz.prog (xIE.at 0) (.seq (.region id ops false) y) Q ⟨mkTs 45 (live.zip vals),H⟩ :=
 xfG (xb6 (xq3 xH5 (xH6 Tryz.prog _) rfl orP (xgd rfl rfl) h) fun e s ⟨he,hs⟩=>by
  subst he hs;exact hq)
def xoM {live liveO:List Nat} {vals q:List AV} {H H':List Box} {id:Nat} {ops:Array Oper} (h:XC Tryz.prog EPr live liveO (.region id ops false) vals H=some (LR.leaf .normal q H').eval) (hq:Q .normal ⟨mkTs 45 (liveO.zip q),H'⟩):Does Tryz.prog (xIE.at 0) (.region id ops false) Q ⟨mkTs 45 (live.zip vals),H⟩ :=
 xb6 (xq3 xH5 (xH6 Tryz.prog _) rfl orP (xgd rfl rfl) h) fun e s ⟨he,hs⟩=>by
  subst he hs;exact hq
end
def ndP8:noDefer (pO 8)=true:=by kernel_rfl
def lP8:(pO 8).toList=(pO 8).toList.take 3++[(pO 8).toList.getD 3 default]:=by kernel_rfl
def oP8:((pO 8).toList.getD 3 default).op=.binOp .eql 64 (.tmp 27) (.const (.slice none 0 0)) 64:=by kernel_rfl
def gP8:((pO 8).toList.getD 3 default).guard=none:=by kernel_rfl
def dP8:((pO 8).toList.getD 3 default).dst=some 28:=by kernel_rfl
def plainP (ms:List AV):Box:=⟨0,2,mapTy 67,ms,true,true⟩
def xyJ:xHZ tyP=true:=by kernel_rfl
def xBD:xHY tyP 0=false:=by kernel_rfl
def xsR:xHY tyP 1=true:=by kernel_rfl
def xDL:rty (mapTy 67)=mapTy 67:=by kernel_rfl
def xyv:xHZ (mapTy 67)=true:=by kernel_rfl
def xFC:xHY (mapTy 67) 0=false:=by kernel_rfl
def xFD:xHY (mapTy 67) 1=false:=by kernel_rfl
def xyK:isC (rowTy tyP)=false:=by kernel_rfl
section
variable {w : World} {A : Nat -> Prop} {M : Id -> Option MB} {B : Nat}
def MPl (M:Id->Option MB):Id->Option MB:=fun id=>match id with
 | .b 0=>(M (.b 0)).map fun m=>⟨m.b,m.ver,m.sz,m.cap,mapTy 67⟩
 | _=>none
def xqv {id:Id} {m:MB} (h:MPl M id=some m):∃ m0,id=.b 0/\M (.b 0)=some m0/\m=⟨m0.b,m0.ver,m0.sz,m0.cap,mapTy 67⟩:=by
 unfold MPl at h;split at h
 . cases hm:M (.b 0) with
   | none=>rw [hm] at h;simp at h
   | some m0 =>
    rw [hm] at h;simp only [Option.map_some,z6] at h;exact ⟨m0,rfl,rfl,h.symm⟩
 . simp at h
def xDR {H:List Box} {i:Nat} {ys:List AV} {k:List UInt8} {ms:List AV} (h0:H=[⟨0,2,tyP,ms,true,true⟩]) (hi:i<ms.length) (hx:ms.getD i .top=.agg [.str k,.list 2 ys]):resolve H 4 (xI0 0 i 1 (.list 2 ys))=some (.list 2 ys):=by
 have hg:getB H (.r 0 i 1)=some ⟨2*ys.length,2,rowTy tyP,ys,true,true⟩:=by
  subst h0;have hc:isC tyP=true:=by kernel_rfl
  have h1:=xdr (H:=[⟨0,2,tyP,ms,true,true⟩]) (n:=0) (i:=i) (j:=1) (bx:=⟨0,2,tyP,ms,true,true⟩) rfl hc xsR rfl hi;rw [h1];show some (xIn _ ((ms.getD i .top).cells.getD 1 .top))=_;rw [hx];rfl
 have q:xHx H (.r 0 i 1) (2*ys.length)=some ⟨2*ys.length,2,rowTy tyP,ys,true,true⟩:=by
  unfold xHx;rw [hg];simp [xaG xyK]
 have J:rowsOk ⟨2*ys.length,2,rowTy tyP,ys,true,true⟩ ys=true:=by unfold rowsOk;rw [xyK]
 unfold xI0 resolve;simp [AV.pure,rowLen,q,mapE,J]
def HR.plain {ms:List AV} (h:HR w A M B [⟨0,2,tyP,ms,true,true⟩]) (ab:∀ i,i<ms.length->∃ k ys,ms.getD i .top=.agg [.str k,.list 2 ys]):HR w A (MPl M) B [plainP ms]:=by
 refine ⟨fun id m hm=>?_,fun id id' m m' h1 h2 _ _ _=>?_,h.lt⟩
 . obtain ⟨m0,rfl,W,rfl⟩:=xqv hm;obtain ⟨bx,hb,q⟩:=h.box _ _ W;obtain rfl:(⟨0,2,tyP,ms,true,true⟩:Box)=bx:=by simpa [getB] using hb
   have hsz:m0.sz=2:=q.sz.symm;have Z:m0.ty=tyP:=q.ty.symm;have Y:∀ (id:Id) (m:MB),id.base=0->M id=some m->0<m.cap->¬ A m.b:=fun id m hi hm h0 hA=>by
    obtain ⟨b2,V,O⟩:=h.box _ _ hm;have ad:b2.frz=true:=by
     cases id with
     | b n =>
      have hn:n=0:=hi;subst hn;have e:(⟨0,2,tyP,ms,true,true⟩:Box)=b2:=by simpa [getB] using V
      rw [<-e]
     | r n i j =>
      have hn:n=0:=hi;subst hn;have hc:isC tyP=true:=by kernel_rfl
      have h1:=xfD (H:=[⟨0,2,tyP,ms,true,true⟩]) (bx:=⟨0,2,tyP,ms,true,true⟩) rfl hc V;rw [h1.2.2.2,xo7]
    have:=(O.guard h0).2 hA;rw [ad] at this;simp at this
   refine ⟨plainP ms,rfl,q.ver,q.sz,xDL,q.capm,q.fits,q.ok,q.low,q.lt,fun h0=>?_,fun h0=>⟨fun h=>Bool.noConfusion h,fun hA=>absurd hA (Y (.b 0) m0 rfl W h0)⟩⟩
   obtain ⟨c,c1,c2,c3⟩:=q.cells h0;refine ⟨c,?_,c2,fun i j hi hj=>?_⟩
   . unfold HoldsC at c1 |-;rw [Z,xyJ] at c1;dsimp only;rw [xyv];exact c1
   . have hi:i<ms.length:=hi;have h3:=c3 i j hi hj;have hj:j<m0.sz:=hj;obtain ⟨k,ys,hx⟩:=ab i hi;have hp:(plainP ms).ty=mapTy 67:=rfl;show Rel w A (MV (MPl M) (plainP ms) j) (c.getD (i*m0.sz+j) undef) (xIk 0 i j (plainP ms).ty (((plainP ms).xs.getD i .top).cells.getD j .top));have ac:(plainP ms).xs.getD i .top=.agg [.str k,.list 2 ys]:=hx;rw [ac];have h3:Rel w A (MV M ⟨0,2,tyP,ms,true,true⟩ j) (c.getD (i*m0.sz+j) undef) (xIk 0 i j tyP ((ms.getD i .top).cells.getD j .top)):=h3;rw [hx] at h3;generalize c.getD (i*m0.sz+j) undef=v at h3;rcases j with _|_|j
     . unfold xIk MV at h3 |-;rw [show xHY (⟨0,2,tyP,ms,true,true⟩:Box).ty 0=false from xBD] at h3
       rw [hp,xFC]
       try rw [xBD] at h3
       exact h3
     . unfold xIk MV at h3 |-;rw [show xHY (⟨0,2,tyP,ms,true,true⟩:Box).ty 1=true from xsR] at h3
       rw [hp,xFD]
       try rw [xsR] at h3
       have h3:Rel w A M v (xI0 0 i 1 (.list 2 ys)):=h3;exact xcs h (A':=A) (fun _ _ h=>h) 4 v _ _ h3 (xDR rfl hi hx) fun id J m hm h0=>by
        have hb:id.base=0:=by
         have J:id.base∈reach [⟨0,2,tyP,ms,true,true⟩] 4 (.osl (.r 0 i 1) (2*ys.length) 0 ys.length):=J;unfold reach at J;simp only [AV.pure,zT,if_false,zC] at J;rcases J with h|h
         . exact h
         . split at h
           . rename_i bx hb;split at h
             . simp at h
             . rename_i aa;have:=xlC hb;exact absurd this aa
           . simp at h
        exact Y id m hb hm h0
     . omega
 . obtain ⟨_,rfl,_⟩:=xqv h1;obtain ⟨_,rfl,_⟩:=xqv h2;rfl
end
def xFf (rows ms:List AV):normS 0 [] [4,5] ⟨mkTs 45 ([4,5].zip [.own 0 0 0 0,.list 1 rows]),[contB ms,⟨0,1,47,rows,true,true⟩]⟩=some ([.own 0 0 0 0,.list 1 rows],[contB ms]):=by kernel_rfl
def xFe (rows:List AV):mkTs (mkTs 45 ([4,5].zip [AV.own 0 0 0 0,.list 1 rows])).length ([4,5].zip [.own 0 0 0 0,.list 1 rows])=mkTs 45 ([4,5].zip [.own 0 0 0 0,.list 1 rows]):=by kernel_rfl
def xAE (rows:List AV) (n:Nat):(mkTs 45 ([4,5].zip [AV.own 0 0 0 0,.osl 1 0 0 n])).getD 5 .top=.osl (.b 1) 0 0 n:=by kernel_rfl
def xFg (rows:List AV) (n:Nat):(mkTs 45 ([4,5].zip [AV.own 0 0 0 0,.osl 1 0 0 n])).set 5 (.list 1 rows)=mkTs 45 ([4,5].zip [.own 0 0 0 0,.list 1 rows]):=by kernel_rfl
def xFd (rows ms:List AV) (n:Nat):freeze [contB ms,boxW rows] (reach [contB ms,boxW rows] xIg (.osl (.b 1) 0 0 n))=[contB ms,⟨0,1,47,rows,true,true⟩]:=by kernel_rfl
def endW (rows ms:List AV):Weak 0 ⟨mkTs 45 ([4,5].zip [.own 0 0 0 0,.osl 1 0 0 rows.length]),[contB ms,boxW rows]⟩ ⟨mkTs 45 ([4,5].zip [.own 0 0 0 0,.list 1 rows]),[contB ms]⟩:=by
 have h1:resolve [contB ms,boxW rows] xIg ((mkTs 45 ([4,5].zip [AV.own 0 0 0 0,.osl 1 0 0 rows.length])).getD 5 .top)=some (.list 1 rows):=by
  rw [xAE rows];exact xtj rfl rfl
 have h2:=xol (p:=0) h1;rw [xAE rows,xFd,xFg] at h2;have h3:=xfQ (xFf rows ms);rw [xFe] at h3;exact h2.trans h3
def pRes (rows:List AV) (H:List Box):resAllM Tryz.prog ⟨mkTs 45 ([4,5].zip [.own 0 0 0 0,.list 1 rows]),H⟩ Tryz.f60.results.toList=some [.own 0 0 0 0,.list 1 rows]:=by kernel_rfl
def pNt:Tryz.f60.ntmps=45:=by kernel_rfl
def pBody:Tryz.f60.body=some pB:=by kernel_rfl
def pEnters:Enters Tryz.prog 60:=⟨_,Tryz.func60,by kernel_rfl,by kernel_rfl⟩
def xCq {l rows:List AV} {pv:AV} {es:List En} (h:Does Tryz.prog (xIE.at 0) pB (fun e s=>e=.ret/\s=⟨mkTs 45 ([4,5].zip [.own 0 0 0 0,.list 1 rows]),[contB (es.map encEn)]⟩) ⟨[.list 3 l,pv]++List.replicate 43 (.tuple []),[]⟩):GoodM Tryz.prog xIE 60 [.list 3 l,pv] [] (.tuple [.own (.b 0) 0 0 0,.list 1 rows]) [plainP (es.map encEn)]:=by
 refine ⟨pEnters,fun w0 w A M vs hI V hR W=>?_⟩
 refine callsIn_wide.1 (callsIn_of_wp_marks (F:=Fence.wide) (n:=0) Tryz.func60 pBody trivial ?_);refine h w0 ⟨A,w,A,M,0,fun _=>False⟩ w A M _ _ hI (zd 0) ⟨V,fun _ _=>Iff.rfl,?_,fun t ht=>?_,hR,DefOk.nil,Ev.refl (C:=⟨A,w,A,M,0,fun _=>False⟩)⟩ ?_ none (fun _=>rfl)
 . rw [pNt];have:=W.1;simp at this |-;omega
 . have hl:vs.length=2:=W.1;rw [pNt];show Rel w A M _ (([.list 3 l,pv]++List.replicate 43 (.tuple []):List AV).getD t .top);by_cases O:t<2
   . have e1:(vs.toArray++Array.replicate (45 - vs.toArray.size) undef).getD t undef=vs.getD t undef:=by
      have:t<vs.length:=by omega
      simp [z7,Array.getElem?_append,this]
     rw [e1,xoS O];exact W.2 t O
   . have ht:t<45:=by simpa using ht
     have h1:¬ t<vs.length:=by omega
     have e1:(vs.toArray++Array.replicate (45 - vs.toArray.size) undef).getD t undef=undef:=by
      have h2:t - vs.length<45 - vs.length:=by omega
      simp [Array.getElem?_append,h1,h2]
     rw [e1,xoT O (show t - 2<43 by omega)]
     exact .tuple #[] [] rfl (by simp)
 . rintro e s' a' w' ⟨rfl,rfl⟩ ⟨A',M',aa⟩;show LeavesInM Fence.wide 0 Tryz.prog Tryz.f60 a'.tmps _ a'.defers .returning w';obtain ⟨A1,ad,_⟩:=aa.refreeze (H:=[⟨0,2,tyP,es.map encEn,true,true⟩]) (by
    have h1:=HSub.freeze [contB (es.map encEn)] [0];exact h1)
   refine xlP (fun _ h=>h) ad fun w2 q=>?_
   obtain ⟨v,hv,J⟩:=xkI (P:=Tryz.prog) q (pRes rows _);refine ⟨v,hv,v,A1,MPl M',rfl,q.base,q.outer,⟨q.ev.size,q.ev.keep,q.ev.less,q.ev.more,fun id m h=>absurd h (Nat.not_lt_zero _),fun id m h h0=>?_⟩,HR.plain q.heap fun i hi=>?_,?_⟩
   . obtain ⟨m0,rfl,ab,rfl⟩:=xqv h;exact q.ev.src (.b 0) m0 ab h0
   . have hi:i<es.length:=by simpa using hi
     exact ⟨(es.getD i default).1,(es.getD i default).2,by simp [encEn,z7,hi]⟩
   . have J:Rel w2 A1 M' v (.tuple [.own (.b 0) 0 0 0,.list 1 rows]):=J;obtain ⟨us,rfl,hsz,ac⟩:=J.tuple_inv;refine .tuple us _ hsz fun i hi=>?_
     have h1:=ac i hi;rcases i with _|_|i
     . have h1:Rel w2 A1 M' (us.getD 0 undef) (.own (.b 0) 0 0 0):=h1;show Rel w2 A1 (MPl M') (us.getD 0 undef) (.own (.b 0) 0 0 0);generalize us.getD 0 undef=u at h1;cases h1 with
       | own v id ver i j m hm hle h1 he =>
        obtain ⟨bx,hb,Z⟩:=q.heap.box _ _ hm;obtain rfl:(⟨0,2,tyP,es.map encEn,true,true⟩:Box)=bx:=by simpa [getB] using hb
        have Y:m.ty=tyP:=Z.ty.symm;refine .own _ _ 0 0 0 ⟨m.b,m.ver,m.sz,m.cap,mapTy 67⟩ (by unfold MPl;rw [hm];rfl) hle h1 fun h=>?_
        rw [he h];unfold ptrOf;rw [Y,xyJ];dsimp only;rw [xyv]
     . have h1:Rel w2 A1 M' (us.getD 1 undef) (.list 1 rows):=h1;exact h1.pure rfl
     . simp at hi;omega
end Go.Sim.M
end
noncomputable section
set_option maxRecDepth 100000
namespace Go.Sim.M
open Go.RowKit Go.Proofs
noncomputable def ptQ (q:Option Int) (row:List AV):List AV:=match q with
 | none=>xpZ row
 | some nn=>(xgc row nn).getD []
noncomputable def okQ (q:Option Int) (row:List AV):Bool:=match q with
 | none=>true
 | some nn=>(xgc row nn).isSome
noncomputable def kyQ (q:Option Int) (row:List AV):List UInt8:=(xau (ptQ q row)).getD []
noncomputable def foQ (q:Option Int) (f:AV):Bool:=(f.cells.length==3&&xH1 [.list 3,.int .i64,.int .i64] f.cells 0)&&(okQ q (rowF f)&&((xau (ptQ q (rowF f))).isSome&&decide ((kyQ q (rowF f)).length<=4611686018427387904)))
noncomputable def pvQ (q:Option Int):AV:=match q with
 | none=>.func 58 []
 | some nn=>.func 59 [.func 1099511627776 [.int .i64 nn]]
noncomputable def vQA (q:Option Int) (l:List AV) (rn:Nat) (i:Int):List AV:=[pvQ q,.own 0 0 0 0,.osl 1 0 0 rn,.list 3 l,.int .i64 l.length,.int .i64 i]
def xQ4 (q:Option Int) (l ms rows:List AV) (rn:Nat) (i:Int):XC Tryz.prog EPr lvPA (16::lvPA) (.region 4 (pO 4) false) (vQA q l rn i) [contB ms,boxW rows]=some (LR.leaf .normal (.bool (decide (i<(l.length:Int)))::vQA q l rn i) [contB ms,boxW rows]).eval:=by cases q<;>kernel_rfl
noncomputable def vQ5 (q:Option Int) (l:List AV) (rn:Nat) (i:Int):List AV:=[pvQ q,.own 0 0 0 0,.osl 1 0 0 rn,.own 2 0 0 0,.list 3 l,.int .i64 l.length,.int .i64 i]
def xQ5 (q:Option Int) (l ms rows:List AV) (rn:Nat) (i:Int):XC Tryz.prog EPr (16::lvPA) [1,6,7,9,13,14,15] (.region 5 (pO 5) false) (.bool true::vQA q l rn i) [contB ms,boxW rows] =
 br (decide ((0:Int)<=i)&&decide (i<(l.length:Int))) (br (decide (i.toNat<l.length)&&((l.getD i.toNat .top).cells.length==3&&xH1 [.list 3,.int .i64,.int .i64] (l.getD i.toNat .top).cells 0))
  (some (LR.leaf .normal (vQ5 q l rn i) [contB ms,boxW rows,f9 ((l.getD i.toNat .top).cells.getD 0 .top).toList ((l.getD i.toNat .top).cells.getD 1 .top).toInt ((l.getD i.toNat .top).cells.getD 2 .top).toInt]).eval) none) none:=by cases q<;>kernel_rfl
noncomputable def vQ6 (q:Option Int) (l:List AV) (rn:Nat) (i:Int) (row:List AV):List AV:=[pvQ q,.own 0 0 0 0,.osl 1 0 0 rn,.own 2 0 0 0,.list 3 row,.list 3 l,.int .i64 l.length,.int .i64 i]
def xQ6 (q:Option Int) (l ms rows:List AV) (rn:Nat) (i:Int) (fr:List AV) (ff ft:Int):XC Tryz.prog EPr [1,6,7,9,13,14,15] [1,6,7,9,10,13,14,15] (.region 6 (pO 6) false) (vQ5 q l rn i) [contB ms,boxW rows,f9 fr ff ft] =
 br (okQ q fr) (some (LR.leaf .normal (vQ6 q l rn i (ptQ q fr)) [contB ms,boxW rows,f9 fr ff ft]).eval) none:=by cases q<;>kernel_rfl
noncomputable def vQ7 (q:Option Int) (l:List AV) (rn:Nat) (i:Int) (row:List AV) (k:List UInt8):List AV:=[pvQ q,.own 0 0 0 0,.osl 1 0 0 rn,.own 2 0 0 0,.list 3 row,.str k,.list 3 l,.int .i64 l.length,.int .i64 i]
def xQ7 (q:Option Int) (l ms rows:List AV) (rn:Nat) (i:Int) (fr row:List AV) (ff ft:Int):XC Tryz.prog EPr [1,6,7,9,10,13,14,15] lvPU (.region 7 (pO 7) false) (vQ6 q l rn i row) [contB ms,boxW rows,f9 fr ff ft] =
 br (xau row).isSome (some (LR.leaf .normal (vQ7 q l rn i row ((xau row).getD [])) [contB ms,boxW rows,f9 fr ff ft]).eval) none:=by cases q<;>kernel_rfl
noncomputable def uQ (q:Option Int) (l:List AV) (rn:Nat) (i:Int) (row:List AV) (k:List UInt8):List AV:=mkTs 45 (lvPU.zip (vQ7 q l rn i row k))
noncomputable def uQ8 (q:Option Int) (l:List AV) (rn:Nat) (i:Int) (row:List AV) (k:List UInt8) (x:AV):List AV:=(((uQ q l rn i row k).set 25 (.own 0 0 0 0)).set 26 (.str k)).set 27 x
def xQ8 (q:Option Int) (l ms rows:List AV) (rn:Nat) (i:Int) (fr row:List AV) (ff ft:Int) (k:List UInt8):xOps Tryz.prog EPr none (some true) (pO 8) ((pO 8).toList.take 3) ⟨uQ q l rn i row k,[contB ms,boxW rows,f9 fr ff ft]⟩ some =
 br (decide (k.length<=(4611686018427387904:Nat))) (br (xIq ms k) (br (xIC (2:Nat) ((ms.getD (putIx ms k) AV.top).cells.getD (1:Nat) AV.top)) (some ⟨uQ8 q l rn i row k (.osl (.r 0 (putIx ms k) 1) (2*((ms.getD (putIx ms k) AV.top).cells.getD (1:Nat) AV.top).toList.length) 0 ((ms.getD (putIx ms k) AV.top).cells.getD (1:Nat) AV.top).toList.length),[contB ms,boxW rows,f9 fr ff ft]⟩) none)
  (some ⟨uQ8 q l rn i row k .nils,[contB ms,boxW rows,f9 fr ff ft]⟩)) none:=by cases q<;>kernel_rfl
def eQ27 (q:Option Int) (l:List AV) (rn:Nat) (i:Int) (row:List AV) (k:List UInt8) (x:AV) (H:List Box):St.eval ⟨uQ8 q l rn i row k x,H⟩ (.tmp 27)=x:=by cases q<;>kernel_rfl
def eQ28 (q:Option Int) (l:List AV) (rn:Nat) (i:Int) (row:List AV) (k:List UInt8) (x:AV) (b:Bool) (H:List Box):St.eval ⟨(uQ8 q l rn i row k x).set 28 (.bool b),H⟩ (.tmp 28)=.bool b:=by cases q<;>kernel_rfl
def kQ28 (q:Option Int) (l:List AV) (rn:Nat) (i:Int) (row:List AV) (k:List UInt8) (x:AV) (b:Bool) (H:List Box):keepS lvPU ⟨(uQ8 q l rn i row k x).set 28 (.bool b),H⟩=⟨uQ q l rn i row k,H⟩:=by cases q<;>kernel_rfl
def xQ9 (q:Option Int) (l ms rows:List AV) (rn:Nat) (i:Int) (fr row:List AV) (ff ft:Int) (k:List UInt8):XC Tryz.prog EPr lvPU lvPU (.region 9 (pO 9) false) (vQ7 q l rn i row k) [contB ms,boxW rows,f9 fr ff ft] =
 br (rn==rows.length&&(decide ((rn+(1:Nat))*(24:Nat)<=(140737488355328:Nat))&&decide (rn+(1:Nat)<=(4611686018427387904:Nat)))) (some (LR.leaf .normal (vQ7 q l (rn+1) i row k) [contB ms,boxW (rows++[.list 3 row]),f9 fr ff ft]).eval) none:=by cases q<;>kernel_rfl
def xQ10 (q:Option Int) (l ms rows:List AV) (rn:Nat) (i:Int) (fr row:List AV) (ff ft:Int) (k:List UInt8):XC Tryz.prog EPr lvPU lvPA (.region 10 (pO 10) false) (vQ7 q l rn i row k) [contB ms,boxW rows,f9 fr ff ft] =
 br (decide (k.length<=(4611686018427387904:Nat))) (br (xIq ms k) (br (xIC (2:Nat) ((ms.getD (putIx ms k) AV.top).cells.getD (1:Nat) AV.top)) (br (decide (putIx ms k<ms.length)&&(xIC (2:Nat) ((ms.getD (putIx ms k) AV.top).cells.getD (1:Nat) AV.top)&&((ms.getD (putIx ms k) AV.top).cells.length==(2:Nat)&&((2:Nat)*((ms.getD (putIx ms k) AV.top).cells.getD (1:Nat) AV.top).toList.length==(2:Nat)*((ms.getD (putIx ms k) AV.top).cells.getD (1:Nat) AV.top).toList.length&&(((ms.getD (putIx ms k) AV.top).cells.getD (1:Nat) AV.top).toList.length==((ms.getD (putIx ms k) AV.top).cells.getD (1:Nat) AV.top).toList.length&&(((ms.getD (putIx ms k) AV.top).cells.getD (1:Nat) AV.top).toList.length==((ms.getD (putIx ms k) AV.top).cells.getD (1:Nat) AV.top).toList.length&&(decide ((((ms.getD (putIx ms k) AV.top).cells.getD (1:Nat) AV.top).toList.length+(1:Nat))*(16:Nat)<=(140737488355328:Nat))&&decide (((ms.getD (putIx ms k) AV.top).cells.getD (1:Nat) AV.top).toList.length+(1:Nat)<=(4611686018427387904:Nat))))))))) (br (((ms.getD (putIx ms k) AV.top).cells.getD (1:Nat) AV.top).toList.length+(1:Nat)==(((ms.getD (putIx ms k) AV.top).cells.getD (1:Nat) AV.top).toList++[AV.agg [AV.int IntKind.i64 ff,AV.int IntKind.i64 ft]]).length&&(decide ((ms.set (putIx ms k) (AV.agg (List.take (1:Nat) (ms.getD (putIx ms k) AV.top).cells++[AV.int IntKind.i64 (↑((ms.getD (putIx ms k) AV.top).cells.getD (1:Nat) AV.top).toList.length:Int)]++List.drop (2:Nat) (ms.getD (putIx ms k) AV.top).cells))).length<(4611686018427387904:Nat))&&(decide (k.length<=(4611686018427387904:Nat))&&deadR (ms.set (putIx ms k) (AV.agg (List.take (1:Nat) (ms.getD (putIx ms k) AV.top).cells++[AV.int IntKind.i64 (↑((ms.getD (putIx ms k) AV.top).cells.getD (1:Nat) AV.top).toList.length:Int)]++List.drop (2:Nat) (ms.getD (putIx ms k) AV.top).cells))) k (((ms.getD (putIx ms k) AV.top).cells.getD (1:Nat) AV.top).toList.length+(1:Nat)))))
  (some (LR.leaf .normal (vQA q l rn i) [contB (xIc (ms.set (putIx ms k) (AV.agg (List.take (1:Nat) (ms.getD (putIx ms k) AV.top).cells++[AV.int IntKind.i64 (↑((ms.getD (putIx ms k) AV.top).cells.getD (1:Nat) AV.top).toList.length:Int)]++List.drop (2:Nat) (ms.getD (putIx ms k) AV.top).cells))) k (AV.list (2:Nat) (((ms.getD (putIx ms k) AV.top).cells.getD (1:Nat) AV.top).toList++[AV.agg [AV.int IntKind.i64 ff,AV.int IntKind.i64 ft]]))),boxW rows]).eval) none) none) none)
  (br (decide (ms.length<(4611686018427387904:Nat))&&(decide (k.length<=(4611686018427387904:Nat))&&deadR ms k (1:Nat))) (some (LR.leaf .normal (vQA q l rn i) [contB (xIc ms k (AV.list (2:Nat) [AV.agg [AV.int IntKind.i64 ff,AV.int IntKind.i64 ft]])),boxW rows]).eval) none)) none:=by cases q<;>kernel_rfl
def xQ11 (q:Option Int) (l ms rows:List AV) (rn:Nat) (i:Int):XC Tryz.prog EPr lvPA lvPA (.region 11 (pO 11) false) (vQA q l rn i) [contB ms,boxW rows]=some (LR.leaf .normal (vQA q l rn (IntKind.i64.wrap (i+1))) [contB ms,boxW rows]).eval:=by cases q<;>kernel_rfl
noncomputable def sqQ (q:Option Int) (s:List En×List AV) (f:AV):List En×List AV:=(addE s.1 (kyQ q (rowF f)) (perA f),match ixE s.1 (kyQ q (rowF f)) with
 | none=>s.2++[.list 3 (ptQ q (rowF f))]
 | some _=>s.2)
noncomputable def fqQ (q:Option Int) (l:List AV):List En×List AV:=l.foldl (sqQ q) ([],[])
def c16Q (q:Option Int) (l:List AV) (rn:Nat) (i:Int) (b:Bool) (H:List Box):St.eval ⟨mkTs 45 ((16::lvPA).zip (.bool b::vQA q l rn i)),H⟩ (.tmp 16)=.bool b:=by cases q<;>kernel_rfl
section
variable {Q : Exit -> St -> Prop}
set_option maxHeartbeats 1000000 in
def turnQ (q:Option Int) {l:List AV} {i:Nat} (hi:i<l.length) (hl:l.length<2147483648) (hf:foQ q (l.getD i .top)=true) {es:List En} {rows:List AV} (he:es.length<=i) (hr:rows.length<=i) (hp:∀ e,e∈es->e.2≠[]/\e.2.length<=i)
  (hq:Q .normal ⟨mkTs 45 (lvPA.zip (vQA q l (sqQ q (es,rows) (l.getD i .top)).2.length ((i+1:Nat):Int))),[contB ((sqQ q (es,rows) (l.getD i .top)).1.map encEn),boxW (sqQ q (es,rows) (l.getD i .top)).2]⟩) :
  Does Tryz.prog (xIE.at 0) (.seq (.block 1 (.seq (.region 5 (pO 5) false) (.seq (.region 6 (pO 6) false) (.seq (.region 7 (pO 7) false) (.seq (.seq (.region 8 (pO 8) false) (.cond (.tmp 28) (.region 9 (pO 9) false) .skip)) (.region 10 (pO 10) false)))))) (.region 11 (pO 11) false)) Q ⟨mkTs 45 ((16::lvPA).zip (.bool true::vQA q l rows.length (i:Int))),[contB (es.map encEn),boxW rows]⟩:=by
 unfold foQ at hf;simp only [zf,zl] at hf;obtain ⟨⟨ap,an⟩,ah,Z,ac⟩:=hf;have aj:((l.getD i .top).cells.length==3&&xH1 [.list 3,.int .i64,.int .i64] (l.getD i .top).cells 0)=true:=by rw [zf];exact ⟨ap,an⟩
 obtain ⟨f,af⟩:∃ f,f=l.getD i .top:=⟨_,rfl⟩;rw [<-af] at aj ah Z ac hq;have ae:(xau (ptQ q (rowF f))).getD []=kyQ q (rowF f):=rfl;obtain ⟨k,hk⟩:∃ k,k=kyQ q (rowF f):=⟨_,rfl⟩;have al:IntKind.i64.wrap ((i:Int)+1)=((i+1:Nat):Int):=by rw [xay (by omega) (by omega)];omega
 have V:∀ (ms rs:List AV) (rn:Nat),Q .normal ⟨mkTs 45 (lvPA.zip (vQA q l rn ((i+1:Nat):Int))),[contB ms,boxW rs]⟩->Does Tryz.prog (xIE.at 0) (.region 11 (pO 11) false) Q ⟨mkTs 45 (lvPA.zip (vQA q l rn (i:Int))),[contB ms,boxW rs]⟩:=fun ms rs rn h=>by
  have hx:=xQ11 q l ms rs rn (i:Int);rw [al] at hx;exact xoM hx h
 refine xfG (xqk ?_);have h5:=xQ5 q l (es.map encEn) rows rows.length (i:Int);rw [zN,<-af,aj] at h5;have c1:(decide ((0:Int)<=i)&&decide ((i:Int)<(l.length:Int)))=true:=by simp [hi]
 have c2:(decide (i<l.length)&&true)=true:=by simp [hi]
 rw [c1,c2] at h5;refine xiH h5 ?_;have h6:=xQ6 q l (es.map encEn) rows rows.length (i:Int) (rowF f) (f.cells.getD 1 .top).toInt (f.cells.getD 2 .top).toInt;rw [ah] at h6;refine xiH h6 ?_;have h7:=xQ7 q l (es.map encEn) rows rows.length (i:Int) (rowF f) (ptQ q (rowF f)) (f.cells.getD 1 .top).toInt (f.cells.getD 2 .top).toInt;rw [Z,ae,<-hk] at h7;refine xiH h7 ?_;rw [<-hk] at ac;have ab:decide (k.length<=(4611686018427387904:Nat))=true:=decide_eq_true ac;have h8:=xQ8 q l (es.map encEn) rows rows.length (i:Int) (rowF f) (ptQ q (rowF f)) (f.cells.getD 1 .top).toInt (f.cells.getD 2 .top).toInt k;have h9:=xQ9 q l (es.map encEn) rows rows.length (i:Int) (rowF f) (ptQ q (rowF f)) (f.cells.getD 1 .top).toInt (f.cells.getD 2 .top).toInt k;rw [ab] at h8;have aq:sqQ q (es,rows) f=(addE es k (perA f),match ixE es k with
  | none=>rows++[.list 3 (ptQ q (rowF f))]
  | some _=>rows):=by unfold sqQ;rw [<-hk]
 rw [aq] at hq;have J:=fun rs rn=>xQ10 q l (es.map encEn) rs rn (i:Int) (rowF f) (ptQ q (rowF f)) (f.cells.getD 1 .top).toInt (f.cells.getD 2 .top).toInt k
 have hml:(es.map encEn).length<4611686018427387904:=by rw [za];omega
 cases hj:ixE es k with
 | none =>
  rw [hj] at hq;have O:xIq (es.map encEn) k=false:=by rw [xsl,hj];rfl
  rw [O] at h8;obtain ⟨s3,p3,e3⟩:=xbY orP (K:=some) h8;cases e3;refine xfG (xfG (xBq (b:=true) ndP8 lP8 p3 oP8 gP8 dP8 (.inl ⟨rfl,eQ27 ..⟩) (xo9 (eQ28 ..) (fun _=>?_) (fun h=>by cases h))))
  refine xgZ (xnx lvPU _) ?_;rw [kQ28];have c9:(rows.length==rows.length&&(decide ((rows.length+(1:Nat))*(24:Nat)<=(140737488355328:Nat))&&decide (rows.length+(1:Nat)<=(4611686018427387904:Nat))))=true:=by
   simp only [beq_self_eq_true,Bool.true_and,zf,zl];omega
  rw [c9] at h9;refine xoM h9 ?_;have J:=J (rows++[.list 3 (ptQ q (rowF f))]) (rows.length+1);have ad:(decide ((es.map encEn).length<(4611686018427387904:Nat))&&(true&&deadR (es.map encEn) k (1:Nat)))=true:=by
   rw [xAu hj];simp only [Bool.and_self,zS,zl];exact hml
  rw [ab,O,ad,xzm hj] at J;refine xoM J (V _ _ _ ?_);have hn:(rows++[AV.list 3 (ptQ q (rowF f))]).length=rows.length+1:=by simp
  rw [<-hn];exact hq
 | some j =>
  rw [hj] at hq;have ag:=xm0 hj;have O:xIq (es.map encEn) k=true:=by rw [xsl,hj];rfl
  have aa:putIx (es.map encEn) k=j:=xzp hj;have Y:=xDA hj;have hkey':(es.getD j default).1=k:=xyh hj;obtain ⟨hne,ao⟩:=hp (es.getD j default) (by simp [z7,ag])
  obtain ⟨ys,W⟩:∃ ys,ys=(es.getD j default).2:=⟨_,rfl⟩;rw [O,aa,Y,cEn1,toListL,isRowL,<-W] at h8;rw [<-W] at hne ao;have ak:0<ys.length:=List.length_pos_iff.2 hne;obtain ⟨s3,p3,e3⟩:=xbY orP (K:=some) h8;cases e3;have ai:getB [contB (es.map encEn),boxW rows,f9 (rowF f) (f.cells.getD 1 .top).toInt (f.cells.getD 2 .top).toInt] (.r 0 j 1)=some (xIn (contB (es.map encEn)) (.list 2 ys)):=by
   have hc:isC (contB (es.map encEn)).ty=true:=by cases q<;>kernel_rfl
   have h1:=xdr (H:=[contB (es.map encEn),boxW rows,f9 (rowF f) (f.cells.getD 1 .top).toInt (f.cells.getD 2 .top).toInt]) (n:=0) (i:=j) (j:=1) (bx:=contB (es.map encEn)) rfl hc xsR rfl (by show j<(es.map encEn).length;simpa using ag)
   rw [h1];show some (xIn _ (((es.map encEn).getD j .top).cells.getD 1 .top))=_;rw [Y,cEn1,<-W]
  refine xfG (xfG (xBq (b:=false) ndP8 lP8 p3 oP8 gP8 dP8 (.inr ⟨rfl,.r 0 j 1,ys.length,xIn (contB (es.map encEn)) (.list 2 ys),by rw [eQ27];rfl,ak,ai⟩) (xo9 (eQ28 ..) (fun h=>by cases h) (fun _=>xrL ?_))))
  refine xgZ (xnx lvPU _) ?_;rw [kQ28];have J:=J rows rows.length;rw [ab,O,aa,Y,enT1,enD2,cEn1,toListL,isRowL,lEn,hkey',<-W] at J;have e1:([AV.str k]++[AV.int IntKind.i64 (ys.length:Int)]++([]:List AV))=[AV.str k,AV.int IntKind.i64 (ys.length:Int)]:=rfl;rw [e1] at J;have e2:(es.map encEn).set j (.agg [AV.str k,AV.int IntKind.i64 (ys.length:Int)])=(es.map encEn).set j (encDe k (ys.length:Int)):=rfl;rw [e2] at J;have ad:(decide (j<(es.map encEn).length)&&(true&&((2:Nat)==(2:Nat)&&((2:Nat)*ys.length==(2:Nat)*ys.length&&(ys.length==ys.length&&(ys.length==ys.length&&(decide ((ys.length+(1:Nat))*(16:Nat)<=(140737488355328:Nat))&&decide (ys.length+(1:Nat)<=(4611686018427387904:Nat)))))))))=true:=by
   simp only [beq_self_eq_true,Bool.true_and,zf,zl,za];omega
  rw [ad] at J;have am:(ys.length+(1:Nat)==(ys++[AV.agg [AV.int IntKind.i64 (f.cells.getD 1 .top).toInt,AV.int IntKind.i64 (f.cells.getD 2 .top).toInt]]).length&&(decide (((es.map encEn).set j (encDe k (ys.length:Int))).length<(4611686018427387904:Nat))&&(true&&deadR ((es.map encEn).set j (encDe k (ys.length:Int))) k (ys.length+(1:Nat)))))=true:=by
   rw [xAv hj];simp only [z8,zj,y4,beq_self_eq_true,Bool.true_and,zf,zl];exact ⟨hml,trivial⟩
  rw [am,W,xwB hj] at J;exact xoM J (V _ _ _ hq)
end
end Go.Sim.M
end
noncomputable section
set_option maxRecDepth 100000
namespace Go.Sim.M
open Go.RowKit Go.Proofs
def invQ (q:Option Int) {es:List En} {rows:List AV} {i:Nat} (f:AV) (he:es.length<=i) (hr:rows.length<=i) (hp:∀ e,e∈es->e.2≠[]/\e.2.length<=i) :
  (sqQ q (es,rows) f).1.length<=i+1/\(sqQ q (es,rows) f).2.length<=i+1/\∀ e,e∈(sqQ q (es,rows) f).1->e.2≠[]/\e.2.length<=i+1:=by
 unfold sqQ;dsimp only;generalize kyQ q (rowF f)=k;refine ⟨Nat.le_trans (xuY k _ es) (by omega),?_,fun e hm=>?_⟩
 . cases ixE es k with
   | none=>simp;omega
   | some j=>simp;omega
 . cases hj:ixE es k with
   | none =>
    rw [xpQ hj] at hm;rcases zG.1 hm with h|h
    . have:=hp e h;exact ⟨this.1,by omega⟩
    . simp only [zv] at h;subst h;exact ⟨by simp,by simp⟩
   | some j =>
    rw [xpR hj] at hm;have J:=xm0 hj;rcases List.mem_or_eq_of_mem_set hm with h|h
    . have:=hp e h;exact ⟨this.1,by omega⟩
    . subst h;have:=hp (es.getD j default) (by simp [z7,J])
      refine ⟨by simp,?_⟩
      simp only [z8,zj];omega
def xya (q:Option Int) (l:List AV):∀ i,i<=l.length->((l.take i).foldl (sqQ q) ([],[])).1.length<=i/\((l.take i).foldl (sqQ q) ([],[])).2.length<=i/\∀ e,e∈((l.take i).foldl (sqQ q) ([],[])).1->e.2≠[]/\e.2.length<=i
 | 0,_=>by simp
 | i+1,hi=>by
  obtain ⟨h1,h2,h3⟩:=xya q l i (by omega)
  have e:l.take (i+1)=l.take i++[l.getD i .top]:=by
   rw [List.take_add_one,ze (by omega)]
   simp [z7,show i<l.length by omega]
  rw [e,List.foldl_append];exact invQ q (l.getD i .top) h1 h2 h3
def loopQ (q:Option Int) {l:List AV} (hl:l.length<2147483648) (hf:∀ i,i<l.length->foQ q (l.getD i .top)=true):Does Tryz.prog (xIE.at 0) (.loop lpP) (fun e s=>e=.exit 0/\s=⟨mkTs 45 ((16::lvPA).zip (.bool false::vQA q l (fqQ q l).2.length (l.length:Int))),[contB ((fqQ q l).1.map encEn),boxW (fqQ q l).2]⟩) ⟨mkTs 45 (lvPA.zip (vQA q l 0 ((0:Nat):Int))),[contB [],boxW []]⟩:=by
 refine xtk (xql (fun n s=>∃ i,n=l.length - i/\i<=l.length/\s=⟨mkTs 45 (lvPA.zip (vQA q l ((l.take i).foldl (sqQ q) ([],[])).2.length (i:Int))),[contB (((l.take i).foldl (sqQ q) ([],[])).1.map encEn),boxW ((l.take i).foldl (sqQ q) ([],[])).2]⟩) (n0:=l.length) (Weak.refl _ _) ⟨0,by omega,zQ _,rfl⟩ ?_)
 rintro n s ⟨i,rfl,hi,rfl⟩;obtain ⟨h1,h2,h3⟩:=xya q l i hi;have e:i<l.length->l.take (i+1)=l.take i++[l.getD i .top]:=fun h=>by
  rw [List.take_add_one,ze h];simp [z7,h]
 obtain ⟨st,J⟩:∃ st,st=(l.take i).foldl (sqQ q) ([],[]):=⟨_,rfl⟩;rw [<-J] at h1 h2 h3 |-;obtain ⟨es,rows⟩:=st;unfold lpP;refine xiH (xQ4 q l (es.map encEn) rows rows.length (i:Int)) ?_;refine xfG (xo9 (c16Q ..) (fun hb=>xrL ?_) fun hb=>xvY ?_)
 . have O:i<l.length:=by simpa using hb
   show Does Tryz.prog (xIE.at 0) _ _ _;rw [hb];refine turnQ q O hl (hf i O) h1 h2 h3 ?_;refine ⟨l.length - (i+1),_,by omega,Weak.refl _ _,i+1,rfl,O,?_⟩
   rw [e O,List.foldl_append,<-J];rfl
 . have Q:i=l.length:=by
    have:¬ ((i:Int)<l.length):=by simpa using hb
    omega
   show _/\_;subst Q;rw [y6] at J;have V:fqQ q l=(es,rows):=J.symm;rw [hb,V];exact ⟨rfl,rfl⟩
def yQa (q:Option Int) (l:List AV):keepS [0,1] ⟨[.list 3 l,pvQ q]++List.replicate 43 (.tuple []),[]⟩=⟨mkTs 45 ([0,1].zip [.list 3 l,pvQ q]),[]⟩:=by cases q<;>kernel_rfl
def yQ0 (q:Option Int) (l:List AV):XC Tryz.prog EPr [0,1] [0,1] (.region 0 (pO 0) false) [.list 3 l,pvQ q] []=some (LR.leaf .normal [.list 3 l,pvQ q] []).eval:=by cases q<;>kernel_rfl
def yQ1 (q:Option Int) (l:List AV):XC Tryz.prog EPr [0,1] [0,1,6] (.region 1 (pO 1) false) [.list 3 l,pvQ q] []=some (LR.leaf .normal [.list 3 l,pvQ q,.own 0 0 0 0] [contB []]).eval:=by cases q<;>kernel_rfl
def yQ2 (q:Option Int) (l:List AV):XC Tryz.prog EPr [0,1,6] [0,1,6,7] (.region 2 (pO 2) false) [.list 3 l,pvQ q,.own 0 0 0 0] [contB []]=some (LR.leaf .normal [.list 3 l,pvQ q,.own 0 0 0 0,.nils] [contB []]).eval:=by cases q<;>kernel_rfl
def yQ3 (q:Option Int) (l:List AV):XC Tryz.prog EPr [0,1,6,7] lvPA (.region 3 (pO 3) false) [.list 3 l,pvQ q,.own 0 0 0 0,.nils] [contB []]=some (LR.leaf .normal [pvQ q,.own 0 0 0 0,.nils,.list 3 l,.int .i64 l.length,.int .i64 0] [contB []]).eval:=by cases q<;>kernel_rfl
def yQn (q:Option Int) (l:List AV):normS 0 [(7,1,47)] lvPA ⟨mkTs 45 (lvPA.zip [pvQ q,.own 0 0 0 0,.nils,.list 3 l,.int .i64 l.length,.int .i64 0]),[contB []]⟩=some (vQA q l 0 ((0:Nat):Int),[contB [],boxW []]):=by cases q<;>kernel_rfl
def yQm (q:Option Int) (l:List AV):mkTs (mkTs 45 (lvPA.zip [pvQ q,.own 0 0 0 0,.nils,.list 3 l,.int .i64 l.length,.int .i64 0])).length (lvPA.zip (vQA q l 0 ((0:Nat):Int)))=mkTs 45 (lvPA.zip (vQA q l 0 ((0:Nat):Int))):=by cases q<;>kernel_rfl
def yQ12 (q:Option Int) (l ms rows:List AV) (rn:Nat) (i:Int):XC Tryz.prog EPr (16::lvPA) [4,5] (.region 12 (pO 12) false) (.bool false::vQA q l rn i) [contB ms,boxW rows]=some (LR.leaf .normal [.own 0 0 0 0,.osl 1 0 0 rn] [contB ms,boxW rows]).eval:=by cases q<;>kernel_rfl
def bodyQ (q:Option Int) {l:List AV} (hl:l.length<2147483648) (hf:∀ i,i<l.length->foQ q (l.getD i .top)=true):Does Tryz.prog (xIE.at 0) pB (fun e s=>e=.ret/\s=⟨mkTs 45 ([4,5].zip [.own 0 0 0 0,.list 1 (fqQ q l).2]),[contB ((fqQ q l).1.map encEn)]⟩) ⟨[.list 3 l,pvQ q]++List.replicate 43 (.tuple []),[]⟩:=by
 refine xgZ (xnx [0,1] _) ?_;rw [yQa,xGI];refine xiH (yQ0 q l) (xiH (yQ1 q l) (xiH (yQ2 q l) (xfG (xiH (yQ3 q l) ?_))));have hw:=xfQ (yQn q l);rw [yQm] at hw;refine xgZ hw (xqk (xb6 (loopQ q hl hf) fun e s ⟨he,hs⟩=>?_))
 subst he hs;show Does Tryz.prog (xIE.at 0) _ _ _;refine xiH (yQ12 q l _ _ _ _) (xvZ (xyE ?_));refine ⟨_,?_,rfl,rfl⟩;exact endW (fqQ q l).2 ((fqQ q l).1.map encEn)
def xt1 (q:Option Int) {l:List AV} (hl:l.length<2147483648) (hf:∀ i,i<l.length->foQ q (l.getD i .top)=true):GoodM Tryz.prog xIE 60 [.list 3 l,pvQ q] [] (.tuple [.own (.b 0) 0 0 0,.list 1 (fqQ q l).2]) [plainP ((fqQ q l).1.map encEn)] :=
 xCq (bodyQ q hl hf)
noncomputable def xmN (l:List AV):Bool:=decide (l.length<2147483648)&&(List.range l.length).all fun i=>foQ none (l.getD i .top)
noncomputable def xge (l:List AV):List AV:=(fqQ none l).1.map encEn
noncomputable def xqe (l:List AV):List AV:=(fqQ none l).2
noncomputable def xoy (l:List AV) (n:Int):Bool:=decide (l.length<2147483648)&&(List.range l.length).all fun i=>foQ (some n) (l.getD i .top)
noncomputable def xm7 (l:List AV) (n:Int):List AV:=(fqQ (some n) l).1.map encEn
noncomputable def xnN (l:List AV) (n:Int):List AV:=(fqQ (some n) l).2
noncomputable def xBa:List AV->List Box->Option (Bool×AV×List Box):=omOf (xIG (xIV 3 xIJ) (xIG (sEq (xIj 58 xIH)) xII)) xIH fun (l,_) _=>(xmN l,.tuple [.own (.b 0) 0 0 0,.list 1 (xqe l)],[⟨0,2,mapTy 67,xge l,true,true⟩])
noncomputable def xA9:List AV->List Box->Option (Bool×AV×List Box):=omOf (xIG (xIV 3 xIJ) (xIG (sEq (xIj 59 (xIF (xIj 1099511627776 (xIF (pInt .i64) xIH)) xIH))) xII)) xIH fun (l,(((n,_),_),_)) _=>(xoy l n,.tuple [.own (.b 0) 0 0 0,.list 1 (xnN l n)],[⟨0,2,mapTy 67,xm7 l n,true,true⟩])
def xFB:OmOk Tryz.prog xIE 60 xBa:=xlj fun b c r H' h=>by
 obtain ⟨l,_,_⟩:=b;obtain ⟨h1,h2⟩:=Prod.mk.inj h;obtain ⟨rfl,rfl⟩:=Prod.mk.inj h2;simp only [xmN,zf,zl,zI,List.mem_range] at h1;exact xt1 none h1.1 h1.2
def xFA:OmOk Tryz.prog xIE 60 xA9:=xlj fun b c r H' h=>by
 obtain ⟨l,⟨⟨n,_⟩,_⟩,_⟩:=b;obtain ⟨h1,h2⟩:=Prod.mk.inj h;obtain ⟨rfl,rfl⟩:=Prod.mk.inj h2;simp only [xoy,zf,zl,zI,List.mem_range] at h1;exact xt1 (some n) h1.1 h1.2
noncomputable def EKPer:Env:=(xrS.E.withM 60 xBa).withM 60 xA9
def xBI:xHX Tryz.prog xIE EKPer:=(xrS.ok.withM xFB).withM xFA
noncomputable def xBH:EO:=EO.mk EKPer xBI
end Go.Sim.M
end
noncomputable section
set_option maxRecDepth 100000
namespace Go.Sim.M
open Go.IntKind (i64 u64 u8)
open Go.RowKit Go.Proofs
def xjO {T:Type} (a b:LA) (δ:T) (κ:LA×LA->T):T:=br (decide (a.length*8<=140737488355328)&&decide (a.length<=4611686018427387904)) (br ((xgz b).isSome) (br (decide (0+a.length<=a.length)&&true&&true) (κ (List.take a.length (List.drop 0 a),(xgz b).getD [])) δ) δ) δ
def xdb (a b:LA):=xjO a b none some
def xEy:EO:=xBH.f Tryz.func19 11 0 [] [] lk0 (u1 (xIW (u2 (uL 1) (uL 3)))) (fun ((a,b,_),_) _=>xjO a b) (fun _ p=>AV.agg [AV.list 1 p.1,AV.list 3 p.2]) ([],[])
def xmf {T:Type} (a b d c:LA) (δ:T) (κ:LA×LA->T):T:=br (decide (a.length<=1099511627776)&&(xpd b c).isSome) (κ (a,(xpd b c).getD [])) δ
def xlH (a b c d:LA):=xmf a b c d none some
def xEz:EO:=xEy.f Tryz.func13 8 0 [] [] lk0 (u2 (xIW (u2 (uL 1) (uL 3))) (xIW (u2 (uL 1) (uL 3)))) (fun ((a,b,_),(c,d,_),_) _=>xmf a b c d) (fun _ p=>AV.agg [AV.list 1 p.1,AV.list 3 p.2]) ([],[])
def xls {T:Type} (a b d c:LA) (δ:T) (κ:LA×LA->T):T:=br (decide (a.length<=1099511627776)&&(xpf b c).isSome) (κ (a,(xpf b c).getD [])) δ
def xkK (a b c d:LA):=xls a b c d none some
def xEA:EO:=xEz.f Tryz.func15 8 0 [] [] lk0 (u2 (xIW (u2 (uL 1) (uL 3))) (xIW (u2 (uL 1) (uL 3)))) (fun ((a,b,_),(c,d,_),_) _=>xls a b c d) (fun _ p=>AV.agg [AV.list 1 p.1,AV.list 3 p.2]) ([],[])
def xjc {T:Type} (a b d c:LA) (δ:T) (κ:LA×LA->T):T:=br (decide (a.length<=1099511627776)&&(xpe b c).isSome) (κ (a,(xpe b c).getD [])) δ
def xhU (a b c d:LA):=xjc a b c d none some
def xrT:EO:=xEA.f Tryz.func17 8 0 [] [] lk0 (u2 (xIW (u2 (uL 1) (uL 3))) (xIW (u2 (uL 1) (uL 3)))) (fun ((a,b,_),(c,d,_),_) _=>xjc a b c d) (fun _ p=>AV.agg [AV.list 1 p.1,AV.list 3 p.2]) ([],[])
def xck (h a:LA) (b:Int):=(xau ((xiG h (gC a b 0).toList).getD [])).getD []
def xcl (a:LA) (b:Int):=(xau (gC a b 0).toList).getD []
def xgq {T:Type} (n:Int) (k:LA) (m:Nat) (h o:LA) (p q:Int) (d:LA) (j:Int) (l:LA) (c:Int) (g i b e a f:LA) (δ:T) (κl:(LA×Int×LA×LA×LA×LA×LA×LA)->T) (κr:(LA×LA×LA×LA×LA×LA×LA)->T):T:=br (decide (c<j)) (br (ixI d c) (br (ixS d c (Sh.list 3) 0) (br ((xau (gC d c 0).toList).isSome) (br (decide ((xcl d c).length<=4611686018427387904)&&(!xIq a (xcl d c) || xIC 2 (xIe AV.nils a (xcl d c)))) (br ((xiG h (gC d c 0).toList).isSome) (br ((xau ((xiG h (gC d c 0).toList).getD [])).isSome) (br (decide ((xck h d c).length<=4611686018427387904)&&(!xIq b (xck h d c) || xIC 2 (xIe AV.nils b (xck h d c)))) (br ((xeP (lookL a (xcl d c)) (lookL b (xck h d c))).isSome) (br ((xeP l ((xeP (lookL a (xcl d c)) (lookL b (xck h d c))).getD [])).isSome) (κl ((xeP l ((xeP (lookL a (xcl d c)) (lookL b (xck h d c))).getD [])).getD [],i64.wrap (c+1),g,i,b,e,a,f)) δ) δ) δ) δ) δ) δ) δ) δ) δ) (κr (l,g,i,b,e,a,f))
def xcz (n:Int) (e:LA) (f:Nat) (h g:LA) (i j:Int) (k:LA) (m:Int):StT (LA×Int×LA×LA×LA×LA×LA×LA) (LA×LA×LA×LA×LA×LA×LA):=fun (l,o,p,q,b,c,a,d)=>xgq n e f h g i j k m l o p q b c a d none inL inR
def xee:=xrT.l 110 0 [10000034,11000005,8000000] [] Tryz.f23 1 lk0 [2,4,5,8,10,12,13,14,16,17,56,57,58,67,68,69] [2,4,5,8,10,12,13,14,16,17,56,57,58] [(14,3,54),(14,3,54)] (xIF (xIS 0 0 0 0) (xIF (xIS 1 0 0 0) (xIF (xIj 1099511627776 (q1 qI)) (xIF (xIS 2 0 0 0) (xIF (xIS 3 0 0 0) (xIF (xIS 4 0 0 0) (q10 (qL 1) (xIR 5 0 0) (qL 3) (qL 2) (qL 1) qI qI (qL 1) qI qI))))))) (q6 (qB 0 2 25 (q1 (xIT (q2 (qL 1) (qL 3))))) (qB 0 2 25 (q1 (xIT (q2 pNils pNils)))) (xIU 0 2 1208925819614917004623872 true true xIJ) (xIU 0 2 1208925819614917004623872 true true xIJ) (xIU 0 2 1208925819614917004623872 true true xIJ) (qB 0 3 54 xIJ)) (fun (_,_,(n,_),_,_,_,d,e,h,l,g,i,j,k,m,o,_) (((q,r,_),_),((_,_,_),_),b,c,a,f,_)=>(xcz n d e h g i j k m,(l,o,q,r,b,c,a,f),fun p=>(.leaf (.exit 2) [AV.own 0 0 0 0,AV.own 1 0 0 0,AV.func 1099511627776 [AV.int .i64 n],AV.own 2 0 0 0,AV.own 3 0 0 0,AV.own 4 0 0 0,AV.list 1 d,AV.osl 5 0 0 e,AV.list 3 h,AV.list 2 p.1,AV.list 1 g,AV.int .i64 i,AV.int .i64 j] [bF 0 2 25 [AV.agg [AV.list 1 p.2.1,AV.list 3 p.2.2.1]],bF 0 2 25 [AV.agg [AV.nils,AV.nils]],⟨0,2,1208925819614917004623872,p.2.2.2.1,true,true⟩,⟨0,2,1208925819614917004623872,p.2.2.2.2.1,true,true⟩,⟨0,2,1208925819614917004623872,p.2.2.2.2.2.1,true,true⟩,bF 0 3 54 p.2.2.2.2.2.2]))) ([],[],[],[],[],[],[]) fun (_,_,(n,_),_,_,_,d,e,h,_,g,i,j,k,m,_,_) _ (l,o,q,r,b,c,a,f)=>((((),(),(n,()),(),(),(),d,e,h,l,g,i,j,k,m,o,()),(((q,r,()),()),(((),(),()),()),b,c,a,f,())),xgq n d e h g i j k m l o q r b c a f none)
def xgr {T:Type} (n:Int) (l h m:LA) (o p:Int) (g:LA) (k:Int) (f:Nat) (e:Int) (i j b c a d:LA) (δ:T) (κl:(Nat×Int×LA×LA×LA×LA×LA×LA)->T) (κr:(Nat×LA×LA×LA×LA×LA×LA)->T):T:=br (decide (e<k)) (br (ixI g e) (br (ixT g e 2 [Sh.int .i64,Sh.int .i64] 0) (br (rmB f d 1 40) (κl (f+1,i64.wrap (e+1),i,j,b,c,a,d++[AV.agg [AV.list 3 h,AV.int .i64 (gC g e 0).toInt,AV.int .i64 (gC g e 1).toInt]])) δ) δ) δ) (κr (f,i,j,b,c,a,d))
def xcA (n:Int) (e h g:LA) (i j:Int) (k:LA) (l:Int):StT (Nat×Int×LA×LA×LA×LA×LA×LA) (Nat×LA×LA×LA×LA×LA×LA):=fun (f,m,o,p,b,c,a,d)=>xgr n e h g i j k l f m o p b c a d none inL inR
def xfX:=xrT.l 110 0 [10000034,11000005,8000000] [(13,xee.lp)] Tryz.f23 2 lk0 [2,4,5,8,10,12,13,14,16,56,57,58,87,88,89] [2,4,5,8,10,12,13,14,56,57,58] [(14,3,54),(14,3,54)] (xIF (xIS 0 0 0 0) (xIF (xIS 1 0 0 0) (xIF (xIj 1099511627776 (q1 qI)) (xIF (xIS 2 0 0 0) (xIF (xIS 3 0 0 0) (q10 (xIS 4 0 0 0) (qL 1) (xIR 5 0 0) (qL 3) (qL 1) qI qI (qL 2) qI qI)))))) (q6 (qB 0 2 25 (q1 (xIT (q2 (qL 1) (qL 3))))) (qB 0 2 25 (q1 (xIT (q2 pNils pNils)))) (xIU 0 2 1208925819614917004623872 true true xIJ) (xIU 0 2 1208925819614917004623872 true true xIJ) (xIU 0 2 1208925819614917004623872 true true xIJ) (qB 0 3 54 xIJ)) (fun (_,_,(n,_),_,_,_,d,f,h,g,i,j,k,m,o,_) (((q,r,_),_),((_,_,_),_),b,c,a,e,_)=>(xcA n d h g i j k m,(f,o,q,r,b,c,a,e),fun p=>(.leaf (.exit 4) [AV.own 0 0 0 0,AV.own 1 0 0 0,AV.func 1099511627776 [AV.int .i64 n],AV.own 2 0 0 0,AV.own 3 0 0 0,AV.own 4 0 0 0,AV.list 1 d,AV.osl 5 0 0 p.1,AV.list 1 g,AV.int .i64 i,AV.int .i64 j] [bF 0 2 25 [AV.agg [AV.list 1 p.2.1,AV.list 3 p.2.2.1]],bF 0 2 25 [AV.agg [AV.nils,AV.nils]],⟨0,2,1208925819614917004623872,p.2.2.2.1,true,true⟩,⟨0,2,1208925819614917004623872,p.2.2.2.2.1,true,true⟩,⟨0,2,1208925819614917004623872,p.2.2.2.2.2.1,true,true⟩,bF 0 3 54 p.2.2.2.2.2.2]))) (0,[],[],[],[],[],[]) fun (_,_,(n,_),_,_,_,d,_,h,g,i,j,k,m,_,_) _ (f,o,q,r,b,c,a,e)=>((((),(),(n,()),(),(),(),d,f,h,g,i,j,k,m,o,()),(((q,r,()),()),(((),(),()),()),b,c,a,e,())),xgr n d h g i j k m f o q r b c a e none)
def xcR (a:LA) (b:Int):=(xau (gC a b 0).toList).getD []
def xaX (n:Int) (b e:LA) (i:Int) (h:Nat) (f:Int) (j k d a c g:LA):=Iter (xcz n b h (gC e f 0).toList e i f b (↑b.length:Int)) ((xhj (lookL a (xcR e f))).getD [],0,j,k,d,a,c,g)
def xbn (n:Int) (e g:LA) (i:Int) (f:Nat) (h:Int) (j k b c a d:LA):=Iter (xcA n e (gC g h 0).toList g i h (((xaX n e g i f h j k b c a d).getD ([],[],[],[],[],[],[])).fst) (↑(((xaX n e g i f h j k b c a d).getD ([],[],[],[],[],[],[])).fst).length:Int)) (f,0,(((xaX n e g i f h j k b c a d).getD ([],[],[],[],[],[],[])).snd).fst,((((xaX n e g i f h j k b c a d).getD ([],[],[],[],[],[],[])).snd).snd).fst,(((((xaX n e g i f h j k b c a d).getD ([],[],[],[],[],[],[])).snd).snd).snd).fst,((((((xaX n e g i f h j k b c a d).getD ([],[],[],[],[],[],[])).snd).snd).snd).snd).fst,(((((((xaX n e g i f h j k b c a d).getD ([],[],[],[],[],[],[])).snd).snd).snd).snd).snd).fst,(((((((xaX n e g i f h j k b c a d).getD ([],[],[],[],[],[],[])).snd).snd).snd).snd).snd).snd)
def xgp {T:Type} (n:Int) (h g:LA) (i:Int) (f:Nat) (e:Int) (j k c a b d:LA) (δ:T) (κl:(Nat×Int×LA×LA×LA×LA×LA×LA)->T) (κr:(Nat×LA×LA×LA)->T):T:=br (decide (e<i)) (br (ixI g e) (br (ixS g e (Sh.list 3) 0) (br ((xau (gC g e 0).toList).isSome) (br (decide ((xcR g e).length<=4611686018427387904)&&(!xIq a (xcR g e) || xIC 2 (xIe AV.nils a (xcR g e)))) (br ((xhj (lookL a (xcR g e))).isSome) (br ((xaX n h g i f e j k c a b d).isSome) (br ((xbn n h g i f e j k c a b d).isSome) (κl (((xbn n h g i f e j k c a b d).getD (0,[],[],[],[],[],[])).fst,i64.wrap (e+1),(((xbn n h g i f e j k c a b d).getD (0,[],[],[],[],[],[])).snd).fst,((((xbn n h g i f e j k c a b d).getD (0,[],[],[],[],[],[])).snd).snd).fst,(((((xbn n h g i f e j k c a b d).getD (0,[],[],[],[],[],[])).snd).snd).snd).fst,((((((xbn n h g i f e j k c a b d).getD (0,[],[],[],[],[],[])).snd).snd).snd).snd).fst,(((((((xbn n h g i f e j k c a b d).getD (0,[],[],[],[],[],[])).snd).snd).snd).snd).snd).fst,(((((((xbn n h g i f e j k c a b d).getD (0,[],[],[],[],[],[])).snd).snd).snd).snd).snd).snd)) δ) δ) δ) δ) δ) δ) δ) (κr (f,j,k,d))
def xcy (n:Int) (e g:LA) (h:Int):StT (Nat×Int×LA×LA×LA×LA×LA×LA) (Nat×LA×LA×LA):=fun (f,i,j,k,b,c,a,d)=>xgp n e g h f i j k b c a d none inL inR
def xlV:=xrT.l 110 0 [10000034,11000005,8000000] [(13,xee.lp),(18,xfX.lp)] Tryz.f23 0 (lks (lkC xee.ok (lkC xfX.ok lkN))) [2,4,5,8,10,12,13,14,56,57,58] [2,4,5,14] [(14,3,54),(14,3,54)] (xIF (xIS 0 0 0 0) (q10 (xIS 1 0 0 0) (xIj 1099511627776 (q1 qI)) (xIS 2 0 0 0) (xIS 3 0 0 0) (xIS 4 0 0 0) (qL 1) (xIR 5 0 0) (qL 1) qI qI)) (q6 (qB 0 2 25 (q1 (xIT (q2 (qL 1) (qL 3))))) (qB 0 2 25 (q1 (xIT (q2 pNils pNils)))) (xIU 0 2 1208925819614917004623872 true true xIJ) (xIU 0 2 1208925819614917004623872 true true xIJ) (xIU 0 2 1208925819614917004623872 true true xIJ) (qB 0 3 54 xIJ)) (fun (_,_,(n,_),_,_,_,e,f,g,h,i,_) (((j,k,_),_),((_,_,_),_),b,c,a,d,_)=>(xcy n e g h,(f,i,j,k,b,c,a,d),fun p=>(.leaf (.exit 0) [AV.own 0 0 0 0,AV.own 1 0 0 0,AV.func 1099511627776 [AV.int .i64 n],AV.osl 2 0 0 p.1] [bF 0 2 25 [AV.agg [AV.list 1 p.2.1,AV.list 3 p.2.2.1]],bF 0 2 25 [AV.agg [AV.nils,AV.nils]],bF 0 3 54 p.2.2.2]))) (0,[],[],[]) fun (_,_,(n,_),_,_,_,e,_,g,h,_,_) _ (f,i,j,k,b,c,a,d)=>((((),(),(n,()),(),(),(),e,f,g,h,i,()),(((j,k,()),()),(((),(),()),()),b,c,a,d,())),xgp n e g h f i j k b c a d none)
def xg7 (a b:LA):Int:=if i64.wrap ((↑a.length:Int) - (↑b.length:Int))<(↑a.length:Int) then i64.wrap ((↑a.length:Int) - (↑b.length:Int)) else (↑a.length:Int)
def xbL (a b:LA):Int:=if xg7 a b>0 then xg7 a b else 0
def xg6 (a b c d:LA):=Iter (xcy (xbL a c) (xqe d) (xnN b (xbL a c)) (↑(xnN b (xbL a c)).length:Int)) (0,0,a,b,xge b,xm7 b (xbL a c),xge d,[])
def xdw (a b c d:LA):=(xg6 a b c d).getD (0,[],[],[])
def xkJ (a b c d:LA):=xgz (List.take ((xdw a b c d).fst) (List.drop 0 (((xdw a b c d).snd).snd.snd)))
def xhT (a c b d:LA):=List.take ((xbL a b).toNat - 0) (List.drop 0 (((xdw a c b d).snd).fst))
def xfY (a b c d:LA):Nat:=0+(xhT a b c d).length
def xlr {T:Type} (a c b d:LA) (δ:T) (κ:LA×LA->T):T:=br (xmN c) (br (xoy c (xbL a b)) (br (xmN d) (br ((xg6 a c b d).isSome) (br (decide (0<=xbL a b)&&decide (xbL a b<=(↑(((xdw a c b d).snd).fst).length:Int))&&true) (br (decide (xfY a c b d*8<=140737488355328)&&decide (xfY a c b d<=4611686018427387904)) (br (decide (0+((xdw a c b d).fst)<=(((xdw a c b d).snd).snd.snd).length)&&true) (br ((xkJ a c b d).isSome) (br (decide (0+xfY a c b d<=([]++xhT a c b d).length)&&true&&true) (κ (List.take (xfY a c b d) (List.drop 0 ([]++xhT a c b d)),(xkJ a c b d).getD [])) δ) δ) δ) δ) δ) δ) δ) δ) δ
def xcj (a b c d:LA):=xlr a b c d none some
def xz4:EO:=xrT.f Tryz.func23 110 0 [10000034,11000005,8000000] [(13,xee.lp),(18,xfX.lp),(9,xlV.lp)] (lks (lkC xlV.ok (lkC xee.ok (lkC xfX.ok lkN)))) (u2 (xIW (u2 (uL 1) (uL 3))) (xIW (u2 (uL 1) (uL 3)))) (fun ((a,b,_),(c,d,_),_) _=>xlr a b c d) (fun _ p=>AV.agg [AV.list 1 p.1,AV.list 3 p.2]) ([],[])
def xfv {T:Type} (b i:Int) (d:LA) (c:Nat) (a:LA) (δ:T) (κl:(Int×LA×Nat×LA)->T) (κr:(Nat×LA×LA)->T):T:=br (decide (i<b)) (br (rmB c a 1 8) (κl (i64.wrap (i+1),d,c+1,a++[AV.int .i64 1])) δ) (κr (c,d,a))
def xbx (a:Int):StT (Int×LA×Nat×LA) (Nat×LA×LA):=fun (i,c,d,b)=>xfv a i c d b none inL inR
def xkv:=xz4.l 20 0 [] [] Tryz.f40 0 lk0 [0,4,5,6] [4,5] [(5,1,3)] (q4 qI (xIS 0 0 0 0) (xIS 1 0 0 0) qI) (q3 (qB 0 2 25 (q1 (xIT (q2 pNils pNils)))) (xIU 0 2 25 false false (q1 (xIT (q2 (xIR 2 0 0) (qL 3))))) (qB 0 1 3 xIJ)) (fun (a,_,_,i,_) (((_,_,_),_),((c,d,_),_),b,_)=>(xbx a,(i,d,c,b),fun p=>(.leaf (.exit 0) [AV.own 0 0 0 0,AV.own 1 0 0 0] [bF 0 2 25 [AV.agg [AV.nils,AV.nils]],⟨0,2,25,[AV.agg [AV.osl 2 0 0 p.1,AV.list 3 p.2.1]],false,false⟩,bF 0 1 3 p.2.2]))) (0,[],[]) fun (a,_,_,_,_) _ (i,d,c,b)=>(((a,(),(),i,()),((((),(),()),()),((c,d,()),()),b,())),xfv a i d c b none)
def xi5 (a:Int) (l:LA):=Iter (xbx a) (0,l,0,[])
def xdA (a:Int) (l:LA):=(xi5 a l).getD (0,[],[])
def xjL {T:Type} (a:Int) (l:LA) (δ:T) (κ:LA×LA->T):T:=br ((xi5 a l).isSome) (br (decide (0+((xdA a l).fst)<=(((xdA a l).snd).snd).length)&&true&&true) (κ (List.take ((xdA a l).fst) (List.drop 0 (((xdA a l).snd).snd)),((xdA a l).snd).fst)) δ) δ
def xc7 (a:Int) (l:LA):=xjL a l none some
def xzx:EO:=xz4.f Tryz.func40 20 0 [] [(3,xkv.lp)] (lk1 xkv.ok) (u2 uI (uL 3)) (fun (a,l,_) _=>xjL a l) (fun _ p=>AV.agg [AV.list 1 p.1,AV.list 3 p.2]) ([],[])
def xhP {T:Type} (b:LA) (i c d f g:Int) (e:Nat) (a:LA) (δ:T) (κl:(Int×Int×Int×Int×Int×Nat×LA)->T) (κr:(Int×Int×Nat×Int×Int×LA)->T):T:=br (decide (i<b.length)) (br (ixI b i) (br (ixS b i (Sh.int .i64) 0) (br (rmB e a 1 32) (κl (i64.wrap (i+1),c,d,f,g,e+1,a++[AV.agg [AV.int .i64 1,AV.int .i64 (gC b i 0).toInt,AV.str []]])) δ) δ) δ) (κr (c,d,e,f,g,a))
def xc6 (d:LA):StT (Int×Int×Int×Int×Int×Nat×LA) (Int×Int×Nat×Int×Int×LA):=fun (i,b,c,e,f,g,a)=>xhP d i b c e f g a none inL inR
def xm1:=xzx.l 30 0 [] [] Tryz.f41 0 lk0 [2,6,7,8] [6,7] [(7,3,87)] (q4 (qL 1) (xIS 0 0 0 0) (xIS 1 0 0 0) qI) (q3 (qB 0 3 54 (q1 (xIT (q3 pNils qI qI)))) (xIU 0 3 54 false false (q1 (xIT (q3 (xIR 2 0 0) qI qI)))) (qB 0 3 87 xIJ)) (fun (d,_,_,i,_) (((_,b,c,_),_),((e,f,g,_),_),a,_)=>(xc6 d,(i,b,c,f,g,e,a),fun p=>(.leaf (.exit 0) [AV.own 0 0 0 0,AV.own 1 0 0 0] [bF 0 3 54 [AV.agg [AV.nils,AV.int .i64 p.1,AV.int .i64 p.2.1]],⟨0,3,54,[AV.agg [AV.osl 2 0 0 p.2.2.1,AV.int .i64 p.2.2.2.1,AV.int .i64 p.2.2.2.2.1]],false,false⟩,bF 0 3 87 p.2.2.2.2.2]))) (0,0,0,0,0,[]) fun (d,_,_,_,_) _ (i,b,c,f,g,e,a)=>(((d,(),(),i,()),((((),b,c,()),()),((e,f,g,()),()),a,())),xhP d i b c f g e a none)
def xl7 (a b:Int) (c:LA):=Iter (xc6 c) (0,0,0,a,b,0,[])
def xeN (a b:Int) (c:LA):=((xl7 a b c).getD (0,0,0,0,0,[])).snd.snd
def xm2 {T:Type} (a b:Int) (c:LA) (δ:T) (κ:LA×Int×Int->T):T:=br ((xl7 a b c).isSome) (br (decide (0+((xeN a b c).fst)<=((((xeN a b c).snd).snd).snd).length)&&true&&true) (κ (List.take ((xeN a b c).fst) (List.drop 0 ((((xeN a b c).snd).snd).snd)),((xeN a b c).snd).fst,(((xeN a b c).snd).snd).fst)) δ) δ
def xao (a b:Int) (c:LA):=xm2 a b c none some
def xEh:EO:=xzx.f Tryz.func41 30 0 [] [(3,xm1.lp)] (lk1 xm1.ok) (u3 uI uI (uL 1)) (fun (a,b,c,_) _=>xm2 a b c) (fun _ p=>AV.agg [AV.list 3 p.1,AV.int .i64 p.2.1,AV.int .i64 p.2.2]) ([],0,0)
def xhA:=(xao 0 6 [AV.int .i64 1,AV.int .i64 5]).getD ([],0,0)
def xhB:=(xao 0 9 [AV.int .i64 2,AV.int .i64 5]).getD ([],0,0)
def xhC:=(xao 3 9 [AV.int .i64 1,AV.int .i64 6]).getD ([],0,0)
def xfP:=(xao 0 9 [AV.int .i64 1]).isSome
def xhD:=(xao 7 9 [AV.int .i64 1]).getD ([],0,0)
def xhE:=(xao 8 9 [AV.int .i64 2]).getD ([],0,0)
def xhF:=(xao 4 8 [AV.int .i64 6]).getD ([],0,0)
def xhG:=(xao 4 5 [AV.int .i64 1]).getD ([],0,0)
def xhH:=(xao 0 6 [AV.int .i64 1]).getD ([],0,0)
def xhI:=(xao 0 4 [AV.int .i64 2]).getD ([],0,0)
def xdu:=(xao 0 9 [AV.int .i64 1]).getD ([],0,0)
def xhJ:=(xao 2 7 [AV.int .i64 1]).getD ([],0,0)
def xhK:=(xao 1 9 [AV.int .i64 5]).getD ([],0,0)
def xhL:=(xao 0 5 [AV.int .i64 1]).getD ([],0,0)
def xhM:=(xao 2 5 [AV.int .i64 1]).getD ([],0,0)
def xhN:=(xao 4 7 [AV.int .i64 1]).getD ([],0,0)
def xhO:=(xao 2 4 [AV.int .i64 1]).getD ([],0,0)
def xb7:=xdu.snd
def xhs:=xc7 2 [AV.agg [AV.list 3 xhA.fst,AV.int .i64 xhA.snd.fst,AV.int .i64 xhA.snd.snd],AV.agg [AV.list 3 xhC.fst,AV.int .i64 xhC.snd.fst,AV.int .i64 xhC.snd.snd],AV.agg [AV.list 3 xhB.fst,AV.int .i64 xhB.snd.fst,AV.int .i64 xhB.snd.snd]]
def xhu:=xc7 1 [AV.agg [AV.list 3 xhK.fst,AV.int .i64 xhK.snd.fst,AV.int .i64 xhK.snd.snd],AV.agg [AV.list 3 xhF.fst,AV.int .i64 xhF.snd.fst,AV.int .i64 xhF.snd.snd]]
def xhv:=xc7 1 [AV.agg [AV.list 3 xdu.fst,AV.int .i64 xb7.fst,AV.int .i64 xb7.snd],AV.agg [AV.list 3 xhM.fst,AV.int .i64 xhM.snd.fst,AV.int .i64 xhM.snd.snd]]
def xhz:=xc7 1 [AV.agg [AV.list 3 xhN.fst,AV.int .i64 xhN.snd.fst,AV.int .i64 xhN.snd.snd]]
def xkt:=xhs.getD ([],[])
def xku:=xhu.getD ([],[])
def xht:=xhv.getD ([],[])
def xhy:=xhz.getD ([],[])
def xiL:=xcj xkt.fst xkt.snd xku.fst xku.snd
def xc4:=xht.snd
def xc5:=xht.fst
def xez:=xhy.snd
def xfO:=xhy.fst
def xiK:=xbm (xiL.getD ([],[])).snd [AV.agg [AV.list 3 xhH.fst,AV.int .i64 xhH.snd.fst,AV.int .i64 xhH.snd.snd],AV.agg [AV.list 3 xhI.fst,AV.int .i64 xhI.snd.fst,AV.int .i64 xhI.snd.snd],AV.agg [AV.list 3 xhE.fst,AV.int .i64 xhE.snd.fst,AV.int .i64 xhE.snd.snd]]
def xiP:=xkK xc5 xc4 xfO xez
def xiQ:=xhU xc5 xc4 xfO xez
def xiR:=xlH xc5 xc4 xfO xez
def xhw:=xbm ((xdb xc5 xc4).getD ([],[])).snd [AV.agg [AV.list 3 xdu.fst,AV.int .i64 xb7.fst,AV.int .i64 xb7.snd]]
def xiM:=xbm (xiP.getD ([],[])).snd [AV.agg [AV.list 3 xhL.fst,AV.int .i64 xhL.snd.fst,AV.int .i64 xhL.snd.snd],AV.agg [AV.list 3 xhO.fst,AV.int .i64 xhO.snd.fst,AV.int .i64 xhO.snd.snd],AV.agg [AV.list 3 xhD.fst,AV.int .i64 xhD.snd.fst,AV.int .i64 xhD.snd.snd]]
def xiN:=xbm (xiR.getD ([],[])).snd [AV.agg [AV.list 3 xdu.fst,AV.int .i64 xb7.fst,AV.int .i64 xb7.snd],AV.agg [AV.list 3 xhJ.fst,AV.int .i64 xhJ.snd.fst,AV.int .i64 xhJ.snd.snd],AV.agg [AV.list 3 xhG.fst,AV.int .i64 xhG.snd.fst,AV.int .i64 xhG.snd.snd]]
def xiO:=xbm (xiQ.getD ([],[])).snd xez
def xl6 {T:Type} (δ:T) (κ:Bool->T):T:=br (xfP) (br ((xao 2 5 [AV.int .i64 1]).isSome) (br (xhv.isSome) (br ((xao 4 7 [AV.int .i64 1]).isSome) (br (xhz.isSome) (br ((xao 0 6 [AV.int .i64 1,AV.int .i64 5]).isSome) (br ((xao 3 9 [AV.int .i64 1,AV.int .i64 6]).isSome) (br ((xao 0 9 [AV.int .i64 2,AV.int .i64 5]).isSome) (br (xhs.isSome) (br ((xao 1 9 [AV.int .i64 5]).isSome) (br ((xao 4 8 [AV.int .i64 6]).isSome) (br (xhu.isSome) (br (xiR.isSome) (br (xfP) (br ((xao 2 7 [AV.int .i64 1]).isSome) (br ((xao 4 5 [AV.int .i64 1]).isSome) (br (xiN.isSome) (br (xiN.getD false) (br (xiP.isSome) (br ((xao 0 5 [AV.int .i64 1]).isSome) (br ((xao 2 4 [AV.int .i64 1]).isSome) (br ((xao 7 9 [AV.int .i64 1]).isSome) (br (xiM.isSome) (br (xiM.getD false) (br (xiQ.isSome) (br (xiO.isSome) (br (xiO.getD false) (br ((xdb xc5 xc4).isSome) (br (xfP) (br (xhw.isSome) (br (xhw.getD false) (br (xiL.isSome) (br ((xao 0 6 [AV.int .i64 1]).isSome) (br ((xao 0 4 [AV.int .i64 2]).isSome) (br ((xao 8 9 [AV.int .i64 2]).isSome) (br (xiK.isSome) (κ (xiK.getD false)) δ) δ) δ) δ) δ) (κ (false))) δ) δ) δ) (κ (false))) δ) δ) (κ (false))) δ) δ) δ) δ) δ) (κ (false))) δ) δ) δ) δ) δ) δ) δ) δ) δ) δ) δ) δ) δ) δ) δ) δ) δ
def xdn:Option (Bool):=xl6 none some
def xuO:EO:=xEh.f Tryz.func11 87 0 [] [] lk0 xII (fun _ _=>xl6) (fun _ p=>AV.bool p) false
def xdt {T:Type} (b a c:LA) (i k:Int) (d e f g h j:LA) (δ:T) (κl:(Int×LA×LA×LA×LA×LA×LA)->T) (κr:(Bool×(Bool×LA×LA×LA×LA×LA×LA)×(LA×LA×LA×LA×LA×LA))->T):T:=br (decide (k<a.length)) (br (ixI b i) (br (ixS b i (Sh.list 3) 0) (br (ixI a k) (br (ixS a k (Sh.list 3) 0) (br ((xed (gC b i 0).toList (gC a k 0).toList).isSome) (br ((xhi c ((xed (gC b i 0).toList (gC a k 0).toList).getD [])).isSome) (br ((xhi c ((xed (gC b i 0).toList (gC a k 0).toList).getD [])).getD 0==0) (κr (true,(false,d,e,f,g,h,j),([],[],[],[],[],[]))) (κl (i64.wrap (k+1),d,e,f,g,h,j))) δ) δ) δ) δ) δ) δ) (κr (false,(false,[],[],[],[],[],[]),(d,e,f,g,h,j)))
def xaR (a b c:LA) (i:Int):StT (Int×LA×LA×LA×LA×LA×LA) (Bool×(Bool×LA×LA×LA×LA×LA×LA)×(LA×LA×LA×LA×LA×LA)):=fun (k,d,e,f,g,h,j)=>xdt a b c i k d e f g h j none inL inR
def xdj:=xuO.l 80 0 [] [] Tryz.f9 1 lk0 [3,4,7,8,9,10,11,12] [3,4,6,7,8,9,10,11] [] (q8 (xIS 0 0 0 0) (xIS 1 0 0 0) (xIS 2 0 0 0) (qL 1) (qL 1) (qL 1) qI qI) (q3 (qB 0 2 25 (q1 (xIT (q2 (qL 1) (qL 3))))) (qB 0 2 25 (q1 (xIT (q2 (qL 1) (qL 3))))) (qB 0 2 25 (q1 (xIT (q2 (qL 1) (qL 3)))))) (fun (_,_,_,a,b,c,i,k,_) (((d,e,_),_),((f,g,_),_),((h,j,_),_),_)=>(xaR a b c i,(k,d,e,f,g,h,j),fun p=>(.node p.1 (.leaf .ret [AV.own 0 0 0 0,AV.own 1 0 0 0,AV.bool p.2.1.1,AV.own 2 0 0 0,AV.list 1 a,AV.list 1 b,AV.list 1 c,AV.int .i64 i] [bF 0 2 25 [AV.agg [AV.list 1 p.2.1.2.1,AV.list 3 p.2.1.2.2.1]],bF 0 2 25 [AV.agg [AV.list 1 p.2.1.2.2.2.1,AV.list 3 p.2.1.2.2.2.2.1]],bF 0 2 25 [AV.agg [AV.list 1 p.2.1.2.2.2.2.2.1,AV.list 3 p.2.1.2.2.2.2.2.2]]]) (.leaf (.exit 2) [AV.own 0 0 0 0,AV.own 1 0 0 0,.top,AV.own 2 0 0 0,AV.list 1 a,AV.list 1 b,AV.list 1 c,AV.int .i64 i] [bF 0 2 25 [AV.agg [AV.list 1 p.2.2.1,AV.list 3 p.2.2.2.1]],bF 0 2 25 [AV.agg [AV.list 1 p.2.2.2.2.1,AV.list 3 p.2.2.2.2.2.1]],bF 0 2 25 [AV.agg [AV.list 1 p.2.2.2.2.2.2.1,AV.list 3 p.2.2.2.2.2.2.2]]])))) (false,(false,[],[],[],[],[],[]),([],[],[],[],[],[])) fun (_,_,_,a,b,c,i,_,_) _ (k,d,e,f,g,h,j)=>((((),(),(),a,b,c,i,k,()),(((d,e,()),()),((f,g,()),()),((h,j,()),()),())),xdt a b c i k d e f g h j none)
def xaf (a b c:LA) (i:Int) (d e f g h j:LA):=(Iter (xaR a b c i) (0,d,e,f,g,h,j)).getD (false,(false,[],[],[],[],[],[]),[],[],[],[],[],[])
def xds {T:Type} (a b c:LA) (i:Int) (d e f g h j:LA) (δ:T) (κl:(Int×LA×LA×LA×LA×LA×LA)->T) (κr:(Bool×(Bool×LA×LA×LA×LA×LA×LA)×(LA×LA×LA×LA×LA×LA))->T):T:=br (decide (i<a.length)) (br ((Iter (xaR a b c i) (0,d,e,f,g,h,j)).isSome) (br ((xaf a b c i d e f g h j).fst) (κr (true,((((xaf a b c i d e f g h j).snd).fst).fst,((((xaf a b c i d e f g h j).snd).fst).snd).fst,(((((xaf a b c i d e f g h j).snd).fst).snd).snd).fst,((((((xaf a b c i d e f g h j).snd).fst).snd).snd).snd).fst,(((((((xaf a b c i d e f g h j).snd).fst).snd).snd).snd).snd).fst,((((((((xaf a b c i d e f g h j).snd).fst).snd).snd).snd).snd).snd).fst,((((((((xaf a b c i d e f g h j).snd).fst).snd).snd).snd).snd).snd).snd),([],[],[],[],[],[]))) (κl (i64.wrap (i+1),(((xaf a b c i d e f g h j).snd).snd).fst,((((xaf a b c i d e f g h j).snd).snd).snd).fst,(((((xaf a b c i d e f g h j).snd).snd).snd).snd).fst,((((((xaf a b c i d e f g h j).snd).snd).snd).snd).snd).fst,(((((((xaf a b c i d e f g h j).snd).snd).snd).snd).snd).snd).fst,(((((((xaf a b c i d e f g h j).snd).snd).snd).snd).snd).snd).snd))) δ) (κr (false,(false,[],[],[],[],[],[]),(d,e,f,g,h,j)))
def xaQ (a b c:LA):StT (Int×LA×LA×LA×LA×LA×LA) (Bool×(Bool×LA×LA×LA×LA×LA×LA)×(LA×LA×LA×LA×LA×LA)):=fun (i,d,e,f,g,h,j)=>xds a b c i d e f g h j none inL inR
def xhr:=xuO.l 80 0 [] [(11,xdj.lp)] Tryz.f9 0 (lk1 xdj.ok) [3,4,7,8,9,10,11] [3,4,6,7] [] (q7 (xIS 0 0 0 0) (xIS 1 0 0 0) (xIS 2 0 0 0) (qL 1) (qL 1) (qL 1) qI) (q3 (qB 0 2 25 (q1 (xIT (q2 (qL 1) (qL 3))))) (qB 0 2 25 (q1 (xIT (q2 (qL 1) (qL 3))))) (qB 0 2 25 (q1 (xIT (q2 (qL 1) (qL 3)))))) (fun (_,_,_,a,b,c,i,_) (((d,e,_),_),((f,g,_),_),((h,j,_),_),_)=>(xaQ a b c,(i,d,e,f,g,h,j),fun p=>(.node p.1 (.leaf .ret [AV.own 0 0 0 0,AV.own 1 0 0 0,AV.bool p.2.1.1,AV.own 2 0 0 0] [bF 0 2 25 [AV.agg [AV.list 1 p.2.1.2.1,AV.list 3 p.2.1.2.2.1]],bF 0 2 25 [AV.agg [AV.list 1 p.2.1.2.2.2.1,AV.list 3 p.2.1.2.2.2.2.1]],bF 0 2 25 [AV.agg [AV.list 1 p.2.1.2.2.2.2.2.1,AV.list 3 p.2.1.2.2.2.2.2.2]]]) (.leaf (.exit 0) [AV.own 0 0 0 0,AV.own 1 0 0 0,.top,AV.own 2 0 0 0] [bF 0 2 25 [AV.agg [AV.list 1 p.2.2.1,AV.list 3 p.2.2.2.1]],bF 0 2 25 [AV.agg [AV.list 1 p.2.2.2.2.1,AV.list 3 p.2.2.2.2.2.1]],bF 0 2 25 [AV.agg [AV.list 1 p.2.2.2.2.2.2.1,AV.list 3 p.2.2.2.2.2.2.2]]])))) (false,(false,[],[],[],[],[],[]),([],[],[],[],[],[])) fun (_,_,_,a,b,c,_,_) _ (i,d,e,f,g,h,j)=>((((),(),(),a,b,c,i,()),(((d,e,()),()),((f,g,()),()),((h,j,()),()),())),xds a b c i d e f g h j none)
def xdK (c a d b:LA) (t:Int):=Iter (xaQ ((xdx ((xcj c a d b).getD ([],[])).snd t).getD []) ((xdx b t).getD []) ((xdx a t).getD [])) (0,c,a,d,b,((xcj c a d b).getD ([],[])).fst,((xcj c a d b).getD ([],[])).snd)
def xar (a b c d:LA) (t:Int):=(xdK a b c d t).getD (false,(false,[],[],[],[],[],[]),[],[],[],[],[],[])
def xcV (a b c d:LA) (t:Int):=xdb (((xar a b c d t).snd).snd).fst ((((xar a b c d t).snd).snd).snd).fst
def xcU (a b c d:LA) (t:Int):=xdb (((((xar a b c d t).snd).snd).snd).snd).fst ((((((xar a b c d t).snd).snd).snd).snd).snd).fst
def xcT (a b c d:LA) (t:Int):=xcj ((xcV a b c d t).getD ([],[])).fst ((xcV a b c d t).getD ([],[])).snd ((xcU a b c d t).getD ([],[])).fst ((xcU a b c d t).getD ([],[])).snd
def xd9 (a b c d:LA) (t:Int):=xjr ((xcT a b c d t).getD ([],[])).fst ((xcT a b c d t).getD ([],[])).snd (((((((xar a b c d t).snd).snd).snd).snd).snd).snd).fst (((((((xar a b c d t).snd).snd).snd).snd).snd).snd).snd
def xgD {T:Type} (c a d b:LA) (t:Int) (δ:T) (κ:Bool->T):T:=br ((xjZ c a).isSome) (br (!(xjZ c a).getD false) (br (xdn.isSome) (κ (xdn.getD false)) δ) (br ((xjZ d b).isSome) (br (!(xjZ d b).getD false) (br (xdn.isSome) (κ (xdn.getD false)) δ) (br ((xhS c a d b).isSome) (br (!(xhS c a d b).getD false) (br (xdn.isSome) (κ (xdn.getD false)) δ) (br ((xcj c a d b).isSome) (br ((xdx ((xcj c a d b).getD ([],[])).snd t).isSome) (br ((xdx b t).isSome) (br ((xdx a t).isSome) (br (decide ((↑((xdx ((xcj c a d b).getD ([],[])).snd t).getD []).length:Int)>16)) (κ (false)) (br ((xdK c a d b t).isSome) (br ((xar c a d b t).fst) (κ (((xar c a d b t).snd).fst.fst)) (br ((xcV c a d b t).isSome) (br ((xcU c a d b t).isSome) (br ((xcT c a d b t).isSome) (br ((xd9 c a d b t).isSome) (br ((xd9 c a d b t).getD false) (br (xdn.isSome) (κ (xdn.getD false)) δ) (κ (false))) δ) δ) δ) δ)) δ)) δ) δ) δ) δ)) δ)) δ)) δ
def xho (a b c d:LA) (t:Int):=xgD a b c d t none some
def xov:LA->Option (Bool×AV):=fnO (u3 (xIW (u2 (uL 1) (uL 3))) (xIW (u2 (uL 1) (uL 3))) uI) (fun ((a,b,_),(c,d,_),t,_) _=>xgD a b c d t) (fun _ p=>AV.bool p) false
def xou:OcOk P0 xIE 9 xov:=fnC xuO.ok Tryz.func9 80 0 [] [(11,xdj.lp),(8,xhr.lp)] (lks (lkC xhr.ok (lkC xdj.ok lkN)))
end Go.Sim.M
end
