/- Part 14 of the proof of the law. -/
import Derived.Test.YtcekkkdjdfiipaaGreatDoorUV13
import Derived.Maps.RangeRun
set_option linter.unusedVariables false
set_option linter.unusedSimpArgs false
set_option linter.unnecessarySimpa false
noncomputable section
namespace Go.Sim
open Go.RowKit
theorem Ev.mv {w w':World} {A A':Nat->Prop} {M M':Id->Option MB} {B n:Nat} {H:List Box} {av df:Nat->Prop} (hR:HR w A M B H) (he:Ev ⟨av,w,A,M,n,df⟩ w' A' M') (hn:H.length<=n):Mv w A M w' A' M' :=
 ⟨he.size,fun b hb hA=>he.keep b hb (.inl hA),he.less,he.more,fun id m hm=>he.ids id m (by
  obtain ⟨bx,h1,_⟩:=hR.box id m hm;exact Nat.lt_of_lt_of_le (xnc h1) hn) hm,⟨fun b hb q=>he.keep b hb (.inr q),he.src⟩⟩
theorem SR.grow {w0 w w':World} {A0:Cx} {A:Nat->Prop} {M:Id->Option MB} {s:St} {a:Act} (h:SR w0 A0 w A M s a) (hb:Below w.heap.size w w'):SR w0 A0 w' A M s a :=
 ⟨
  h.base.trans (hb.mono h.base.size),h.outer,h.size,fun t ht=>(h.tmps t ht).grow hb,h.heap.grow hb,h.defers.same fun D hD=>hb.block D (xnf hD),
  h.ev.step ⟨hb.size,fun b q _=>hb.block b q,fun _ _ h=>h,fun _ _ h _=>h,MExt.refl M,.of_new hb fun _ _ h=>.inl h⟩⟩
theorem SR.door {w0 w:World} {A0:Cx} {A:Nat->Prop} {M:Id->Option MB} {s:St} {a:Act} (h:SR w0 A0 w A M s a) (n:Nat):SR w0 ⟨A0.av,w,A,M,n,fun D=>A0.df D\/A0.w1.heap.size<=D⟩ w A M s a :=
 ⟨h.base,h.outer,h.size,h.tmps,h.heap,by
  obtain ⟨L,e1,e2,e3⟩:=h.defers;exact ⟨L,e1,e2,fun D hD=>⟨(e3 D hD).1,.inl (e3 D hD).2.1,(e3 D hD).2.2⟩⟩,Ev.refl (C:=⟨A0.av,w,A,M,n,_⟩)⟩
theorem SR.undoor {w0 w w':World} {A0:Cx} {A A':Nat->Prop} {M M':Id->Option MB} {s s':St} {a a':Act} {n:Nat} (h:SR w0 A0 w A M s a) (hn:s.heap.length<=n) (h':SR w0 ⟨A0.av,w,A,M,n,fun D=>A0.df D\/A0.w1.heap.size<=D⟩ w' A' M' s' a'):SR w0 A0 w' A' M' s' a'/\Mv w A M w' A' M':=by
 have q:=h'.ev.mv h.heap hn;refine ⟨⟨h'.base,h'.outer,h'.size,h'.tmps,h'.heap,?_,h.ev.step q⟩,q⟩;obtain ⟨L,e1,e2,e3⟩:=h'.defers;refine ⟨L,e1,e2,fun D hD=>⟨(e3 D hD).1,?_,(e3 D hD).2.2⟩⟩
 rcases (e3 D hD).2.1 with h1|h1
 . exact h1
 . exact .inr (Nat.le_trans h.ev.size h1)
structure Itr (w:World) (A:Nat->Prop) (M:Id->Option MB) (r bm:Nat) (e1 es:Array MapEntry) (clock:Nat) (seen:Array Nat) (kv:List (List UInt8×AV)) (done:List Nat):Prop where
 it:w.heap[r]?=some (.mapIter (some bm) clock seen clock)
 map:w.heap[bm]?=some (.map e1 clock)
 av:¬ A bm
 perm:MapP e1 es clock
 size:es.size=kv.length
 keys:∀ (i:Nat) (x:MapEntry),es[i]?=some x->∃ t:ByteArray,x.key=.string t/\(kv.getD i ([],.top)).1=t.data.toList
 vals:∀ (i:Nat) (x:MapEntry),es[i]?=some x->Rel w A M x.val (kv.getD i ([],.top)).2
 seen:∀ (i:Nat) (x:MapEntry),es[i]?=some x->(seen.contains x.born=true↔i∈done)
 nodup:done.Nodup
 lt:∀ i,i∈done->i<kv.length
section
variable {P : Program} {w w' : World} {A A' : Nat -> Prop} {M M' : Id -> Option MB} {r bm clock B : Nat} {e1 es : Array MapEntry} {seen : Array Nat} {kv : List (List UInt8 × AV)} {done : List Nat} {H : List Box}
theorem Itr.mv (h:Itr w A M r bm e1 es clock seen kv done) (hR:HR w A M B H) (hm:Mv w A M w' A' M'):Itr w' A' M' r bm e1 es clock seen kv done :=
 ⟨(hm.touch.1 r (xnf h.it) (hR.not_box h.it (by simp) (by simp))).trans h.it,(hm.keep bm (xnf h.map) h.av).trans h.map,fun hA=>h.av (hm.less bm (xnf h.map) hA),h.perm,h.size,h.keys,fun i x hx=>hm.rel (h.vals i x hx),h.seen,h.nodup,h.lt⟩
theorem getElem?_ext_lt {α:Type} {es:Array α} {i:Nat} {x:α} (h:es[i]?=some x):i<es.size:=by
 rcases zJ i es.size with h'|h'
 . exact h'
 . rw [Array.getElem?_eq_none h'] at h;simp at h
theorem Itr.next (h:Itr w A M r bm e1 es clock seen kv done) (ty:TypeId) :
  (done.Perm (List.range kv.length)/\(Instr.next (.pointer (some ⟨r,0,none⟩)) false ty).run P w=.ok (.tuple #[.bool false]) w) \/
  ∃ (i:Nat) (e:MapEntry) (w1:World) (q:Array Nat),i<kv.length/\i∉done/\es[i]?=some e/\Below w.heap.size w w1/\(∀ a u,w.cell? a=some u->w1.cell? a=some u)/\w1.heap[r]?=some (.mapIter (some bm) clock seen clock) /\
   (Instr.next (.pointer (some ⟨r,0,none⟩)) false ty).run P w=.ok (.tuple #[.bool true,e.key,e.val]) (w1.putObj r (.mapIter (some bm) clock q clock))/\Itr (w1.putObj r (.mapIter (some bm) clock q clock)) A M r bm e1 es clock q kv (done++[i]) /\
   (∀ w2 A2 M2,Itr w2 A2 M2 r bm e1 es clock q kv (done++[i])->(Instr.entry (.pointer (some ⟨r,0,none⟩))).run P w2=.ok (.tuple #[e.key,e.val]) w2)/\(leftOf e1 q).size<(leftOf e1 seen).size:=by
 obtain ⟨hp,Y,ab⟩:=h.perm;have Z:(e1.toList.map (·.born)).Nodup:=((hp.map _).nodup_iff).2 ab;have Q:∀ i x,es[i]?=some x->i<kv.length:=fun i x hx=>by rw [<-h.size];exact getElem?_ext_lt hx
 rcases run_next_at (P:=P) w ty r bm clock clock seen e1 clock h.it h.map (fun x hx=>Y x (hp.mem_iff.1 hx)) (zd _) with ⟨h0,J⟩|⟨e,he,w1,O,J⟩
 . refine .inl ⟨?_,J⟩;refine (List.perm_ext_iff_of_nodup h.nodup List.nodup_range).2 fun i=>⟨fun hi=>List.mem_range.2 (h.lt i hi),fun hi=>?_⟩
   have hi':i<es.size:=by rw [h.size];exact List.mem_range.1 hi
   have hx:es[i]?=some es[i]:=by simp [hi']
   exact (h.seen i _ hx).1 (all_seen e1 seen h0 _ (hp.mem_iff.2 (by simp)))
 . obtain ⟨ad,aa⟩:=mem_left he;obtain ⟨i,hi⟩:=List.mem_iff_getElem?.1 (hp.mem_iff.1 ad);have hi:es[i]?=some e:=by simpa using hi
   have hb:Below w.heap.size w w1:=by
    rcases O with rfl|rfl
    . exact Below.refl _ _
    . exact ⟨rfl,rfl,rfl,zd _,fun _ _=>rfl⟩
   have hc:∀ a u,w.cell? a=some u->w1.cell? a=some u:=fun a u hu=>by rcases O with rfl|rfl<;>exact hu
   have hsz:w1.heap.size=w.heap.size:=by rcases O with rfl|rfl<;>rfl
   have W:w1.heap[r]?=some (.mapIter (some bm) clock seen clock):=by rcases O with rfl|rfl<;>exact h.it
   have ag:w1.heap[bm]?=some (.map e1 clock):=by rcases O with rfl|rfl<;>exact h.map
   have hne:bm≠r:=fun e=>by have:=h.map;rw [e,h.it] at this;simp at this
   have U:i∉done:=fun hd=>by rw [(h.seen i e hi).2 hd] at aa;cases aa
   have af:(w1.putObj r (.mapIter (some bm) clock (seen.push e.born) clock)).heap[bm]?=some (.map e1 clock):=(World.putObj_heap_other hne).trans ag;have ae:(w1.putObj r (.mapIter (some bm) clock (seen.push e.born) clock)).heap[r]?=some (.mapIter (some bm) clock (seen.push e.born) clock):=World.putObj_heap_same (xnf W);refine .inr ⟨i,e,w1,seen.push e.born,Q i e hi,U,hi,hb,hc,W,J,⟨ae,af,h.av,h.perm,h.size,h.keys,fun k x hx=>?_,fun k x hx=>?_,?_,fun k hk=>?_⟩,fun w2 A2 M2 h2=>run_entry_at _ r bm clock seen e1 clock e h2.it h2.map ad Z,left_shrinks e1 seen e he⟩
   . exact ((h.vals k x hx).grow hb).turn (by simp) (xtJ W ⟨by simp,by simp⟩)
   . rw [contains_push,Bool.or_eq_true,h.seen k x hx,zG,zv,beq_iff_eq];constructor
     . rintro (h1|h1)
       . exact .inl h1
       . right;have hk:=getElem?_ext_lt hx;have ac:=getElem?_ext_lt hi;have e3:es[k]=x:=by simpa [hk] using hx
         have e4:es[i]=e:=by simpa [ac] using hi
         have:=(List.getElem_inj (i:=k) (j:=i) (h₀:=by simpa using hk) (h₁:=by simpa using ac) ab).1 (by simp [e3,e4,h1])
         exact this
     . rintro (h1|rfl)
       . exact .inl h1
       . right;rw [hi] at hx;simp only [z6] at hx;rw [hx]
   . rw [List.nodup_append];exact ⟨h.nodup,by simp,fun a ha c hc=>by simp only [zv] at hc;rintro rfl;exact U (hc▸ha)⟩
   . rcases zG.1 hk with hk|hk
     . exact h.lt k hk
     . simp only [zv] at hk;subst hk;exact Q k e hi
end
def stepI {σ ρ:Type} (step:σ->Nat->σ⊕ρ):σ⊕ρ->Nat->σ⊕ρ
 | .inl s,x=>step s x
 | .inr r,_=>.inr r
theorem xwe {σ ρ:Type} (step:σ->Nat->σ⊕ρ) (r:ρ):∀ l:List Nat,l.foldl (stepI step) (.inr r)=.inr r
 | []=>rfl
 | x::l=>by simp only [List.foldl_cons,stepI];exact xwe step r l
theorem xGG {P:Program} {ro:Option Nat} {c:Code} {Qc:Exit->Act->World->Prop} (I:Nat->Act->World->Prop)
  (O:∀ n a w,I n a w->c.wpIn (wideR ro) 0 P (fun e a' w'=>match e with|.normal=>∃ n',n'<n/\I n' a' w'|e=>Qc e a' w') a w) (n:Nat) (a:Act) (w:World) (h:I n a w):(Code.loop c).wpIn (wideR ro) 0 P Qc a w:=by
 intro b k cs hb _ _;have hb:b.roundOf=ro:=hb;subst hb;have key:∀ n a w,I n a w->∃ e a' w',Qc e a' w'/\ArrivesIn (Machine.fenced P (wideR b.roundOf)) P (lone (b.atR a (.code c::.inLoop c::k)) cs w) b k cs e a' w':=by
  intro n;induction n using Nat.strongRecOn with
  | _ n ih =>
   intro a w hI;obtain ⟨e,a₁,w₁,hq,q⟩:=O n a w hI b (.inLoop c::k) cs rfl (xyP _ _) (xva _ _);cases e with
   | normal =>
    obtain ⟨n',k1,k2⟩:=hq;obtain ⟨e₂,a₂,w₂,Q,J⟩:=ih n' k1 a₁ w₁ k2;exact ⟨e₂,a₂,w₂,Q,.of_steps (StepsIn.trans q (.one (xp6 _ P _) stepR_inLoop)) J⟩
   | exit id=>exact ⟨_,a₁,w₁,hq,.pass (x:=.inLoop c) rfl (fun _ _=>.inl (by simp)) q⟩
   | goto l=>exact ⟨_,a₁,w₁,hq,.pass (x:=.inLoop c) rfl (fun _ _=>.inl (by simp)) q⟩
   | ret=>exact ⟨_,a₁,w₁,hq,.pass (x:=.inLoop c) rfl (fun _ _=>.inl (by simp)) q⟩
   | panic ch=>exact ⟨_,a₁,w₁,hq,.pass (x:=.inLoop c) rfl (fun _ _=>.inl (by simp)) q⟩
   | outgrown=>exact ⟨_,a₁,w₁,hq,.pass (x:=.inLoop c) rfl (fun _ _=>.inl (by simp)) q⟩
 obtain ⟨e,a',w',hq,q⟩:=key n a w h;exact ⟨e,a',w',hq,.of_steps (.one (xp6 _ P _) stepR_loop) q⟩
theorem xHY {P:Program} {Inv:IV} {w0:World} {A0:Cx} (U:InvOk Inv) (hI:Inv w0) {ops:Array Oper} {Q:Exit->Act->World->Prop} {rest:List Oper} {l:List Oper} {s s':St} (hp:Path (OpA P Inv) ops l s s') :
  ∀ {w:World} {A:Nat->Prop} {M:Id->Option MB} {a:Act},SR w0 A0 w A M s a ->
  (∀ a' w' A' M',SR w0 A0 w' A' M' s' a'->Mv w A M w' A' M'->wpList P ops Q rest a' w')->wpList P ops Q (l++rest) a w:=by
 induction hp with
 | nil s=>intro w A M a hs hK;exact hK a w A M hs Mv.refl
 | run hw h hr ih =>
  intro w A M a hs hK;have J:=xix (w:=w) (A:=A) (M:=M) hs.size (fun j O d _ _ q=>hs.tmps d q) hw
  rw [List.cons_append];unfold wpList;rw [if_pos J];exact .inl (xuP U hI h hs fun v w' A' M' Y W=>ih Y fun a2 w2 A2 M2 h2 m2=>hK a2 w2 A2 M2 h2 (W.trans m2))
 | skip hw hr ih =>
  intro w A M a hs hK;have J:=xix (w:=w) (A:=A) (M:=M) hs.size (fun j O d _ _ q=>hs.tmps d q) hw
  rw [List.cons_append];unfold wpList;rw [if_neg (by rw [J];simp)]
  exact ih (hs.skip _) fun a2 w2 A2 M2 h2 m2=>hK a2 w2 A2 M2 h2 m2
def keyAt (bx:Box) (k:Nat):List UInt8:=match (bx.xs.getD k .top).cells.getD 0 .top with
 | .str s=>s
 | _=>[]
def valAt (nb:Nat) (bx:Box) (k:Nat):AV:=xO7 nb k 1 bx.ty ((bx.xs.getD k .top).cells.getD 1 .top)
def kvOf (nb:Nat) (bx:Box):List (List UInt8×AV):=(List.range bx.xs.length).map fun k=>(keyAt bx k,valAt nb bx k)
theorem xl9 (nb:Nat) (bx:Box):(kvOf nb bx).length=bx.xs.length:=by simp [kvOf]
theorem xuH {nb:Nat} {bx:Box} {k:Nat} (h:k<bx.xs.length):(kvOf nb bx).getD k ([],.top)=(keyAt bx k,valAt nb bx k):=by
 simp [kvOf,z7,h]
def rngCode (i9:Nat) (O:Array Oper) (ex i0:Nat) (Q:Array Oper) (tb:Tmp) (ib i1:Nat) (q:Array Oper) (J:Code):Code :=
 .seq (.region i9 O false) (.block ex (.loop (.seq (.region i0 Q false) (.seq (.cond (.tmp tb) .skip (.exit ex)) (.block ib (.seq (.region i1 q false) J))))))
def stepT (Lr:List AV) (tn tb te:Tmp) (k:List UInt8) (v:AV):List AV:=((Lr.set tn (.tuple [.bool true,.str k,v])).set tb (.bool true)).set te (.tuple [.str k,v])
section
variable {P : Program} {w : World} {A : Nat -> Prop} {M : Id -> Option MB} {B : Nat} {H : List Box}
theorem xJs (hR:HR w A M B H) {v:Value} {n ver i j:Nat} {bx:Box} (h:Rel w A M v (.own (.b n) ver i j)) (Q:H[n]?=some bx) (J:bx.ver=ver) (q:xOM bx.ty=true) :
  ∃ m,M (.b n)=some m/\BoxAt w A M B (.b n) m bx/\v=.map (some m.b)/\0<m.cap:=by
 obtain ⟨m,hm,hv,h1,he⟩:=Rel.own_inv h;obtain ⟨bx',h2,h3⟩:=hR.box _ m hm;rw [xaP,Q] at h2;cases h2;refine ⟨m,hm,h3,?_⟩;have O:xOM m.ty=true:=by rw [<-h3.ty];exact xnN q
 have h0:=he (by rw [<-J,h3.ver])
 unfold ptrOf at h0;rw [O] at h0;cases hc:m.cap with
 | zero =>
  rw [hc] at h0;simp only at h0;rw [h0] at h1;cases h1
 | succ k =>
  rw [hc] at h0;exact ⟨h0,Nat.succ_pos k⟩
theorem xHP (hR:HR w A M B H) {v:Value} {n ver i j:Nat} {bx:Box} (h:Rel w A M v (.own (.b n) ver i j)) (ae:H[n]?=some bx) (ab:bx.ver=ver) (W:xOM bx.ty=true) (aa:xOL bx.ty 0=false) (af:bx.sz=2) (Z:bx.pm=true) (ad:bx.frz=true) {t kt et:TypeId} (ac:P.underlying t=some (.map kt et)) :
  ∃ bm e1 es clock,(Instr.range t v).run P w=.ok (.pointer (some ⟨w.heap.size,0,none⟩)) (w.alloc (.mapIter (some bm) clock #[] clock))/\Itr (w.alloc (.mapIter (some bm) clock #[] clock)) A M w.heap.size bm e1 es clock #[] (kvOf n bx) []:=by
 obtain ⟨m,hm,J,rfl,hcap⟩:=xJs hR h ae ab W;obtain ⟨es,clock,q,_,U⟩:=J.mapKs W aa af Z hcap;obtain ⟨e1,Q,hP⟩:=q.heap;have O:=xgy w (.mapIter (some m.b) clock #[] clock);have Y:∀ k x,es[k]?=some x->k<bx.xs.length:=fun k x hx=>by rw [<-q.size];exact getElem?_ext_lt hx
 refine ⟨m.b,e1,es,clock,run_range_map w t kt et m.b e1 clock ac Q,heap_alloc_new w _,(O.block _ (xnf Q)).trans Q,fun hA=>?_,hP,by rw [q.size,xl9],fun k x hx=>?_,fun k x hx=>?_,fun k x _=>by simp,List.nodup_nil,by simp⟩
 . have:=(J.guard hcap).2 hA;rw [ad] at this;cases this
 . obtain ⟨t,h1,h2,_⟩:=q.keys k x hx;refine ⟨t,h1,?_⟩;rw [xuH (Y k x hx)];show keyAt bx k=_;unfold keyAt;rw [h2]
 . rw [xuH (Y k x hx)];exact ((U k x hx).unmv).grow O
end
theorem xBj {n:Nat} {l:List Nat} (hn:l.Nodup) (hl:∀ i,i∈l->i<n):∃ l',(l++l').Perm (List.range n):=by
 refine ⟨(List.range n).filter fun i=>!l.contains i,(List.perm_ext_iff_of_nodup ?_ List.nodup_range).2 fun i=>?_⟩
 . rw [List.nodup_append];refine ⟨hn,List.nodup_range.filter _,fun a ha b hb=>?_⟩
   rintro rfl;have:=(List.mem_filter.1 hb).2;simp [ha] at this
 . rw [zG,List.mem_filter,List.mem_range];constructor
   . rintro (h|h)
     . exact hl i h
     . exact h.1
   . intro h;by_cases hi:i∈l
     . exact .inl hi
     . exact .inr ⟨h,by simp [hi]⟩
theorem xwJ {P:Program} {Inv:IV} (az:InvOk Inv) {σ ρ:Type} {i9 ex i0 ib i1:Nat} {ad al ah:Array Oper} {a3:Code} {pre exts:List Oper} {o9 o0 o1 oe:Oper} {it tn tb te:Tmp} {tyM kt et:TypeId} {mo:Operand}
  (bn:ad.toList=pre++[o9]) (b4:noDefer ad=true) (cv:o9.op=.range tyM mo) (c7:o9.dst=some it) (co:o9.guard=none) (cw:P.underlying tyM=some (.map kt et))
  (bj:al.toList=[o0,o1]) (b3:noDefer al=true) (bw:o0.op=.next (.tmp it) false) (ci:o0.dst=some tn) (cp:o0.guard=none) (cb:o1.op=.extract (.tmp tn) 0) (cd:o1.dst=some tb) (b9:o1.guard=none)
  (bh:ah.toList=oe::exts) (b5:noDefer ah=true) (cz:oe.op=.entry (.tmp it)) (cy:oe.dst=some te) (c4:oe.guard=none)
  (ch:it≠tn) (b8:it≠tb) (c9:tn≠tb)
  {s s1:St} (cc:Path (OpA P Inv) ad pre s s1) {nb ver i j:Nat} (hm:s1.eval mo=.own (.b nb) ver i j) {bx:Box} (hb:(freeze s1.heap [nb])[nb]?=some bx) (ca:bx.ver=ver) (cx:xOM bx.ty=true) (h0:xOL bx.ty 0=false) (hsz:bx.sz=2) (cr:bx.pm=true) (c6:bx.frz=true)
  {n:Nat} (c1:(freeze s1.heap [nb]).length<=n) (Lf:σ->Nat->List AV) (Hf:σ->List Box) (Lo:ρ->List AV) (Ho:ρ->List Box) (step:σ->Nat->σ⊕ρ) (s0:σ)
  (a5:∀ s,(Hf s).length<=n) (a6:∀ s r,(Lf s r)[it]?=some (.gptr r)) (b0:∀ s r,tn<(Lf s r).length) (b7:∀ s r,tb<(Lf s r).length)
  (bq:∀ r,Weak n ⟨s1.tmps.set it (.gptr r),freeze s1.heap [nb]⟩ ⟨Lf s0 r,Hf s0⟩)
  (aw:∀ (r:Nat) (done:List Nat) (s:σ) (k:Nat),k<bx.xs.length->k∉done->done.Nodup->(∀ i,i∈done->i<bx.xs.length)->done.foldl (stepI step) (.inl s0)=.inl s->∃ s2,Path (OpA P ⟨Inv.inv,n,Inv.top⟩) ah exts ⟨stepT (Lf s r) tn tb te (keyAt bx k) (valAt nb bx k),Hf s⟩ s2 /\
   Does P ⟨Inv.inv,n,Inv.top⟩ a3 (fun e s'=>match step s k with
    | .inl s3=>e=.normal/\Weak n s' ⟨Lf s3 r,Hf s3⟩
    | .inr q=>e=.ret/\Weak n s' ⟨Lo q,Ho q⟩) s2) :
  Does P Inv (rngCode i9 ad ex i0 al tb ib i1 ah a3) (fun e s'=>∃ ord:List Nat,ord.Perm (List.range bx.xs.length)/\match ord.foldl (stepI step) (.inl s0) with
   | .inl s=>e=.normal/\∃ r,s'=⟨((Lf s r).set tn (.tuple [.bool false])).set tb (.bool false),Hf s⟩
   | .inr q=>e=.ret/\s'=⟨Lo q,Ho q⟩) s:=by
 intro w0 A0 w A M a Qc hI c8 hs hQ ro c0;unfold rngCode;refine wpIn_seq (wpIn_region_list (xnt ro 0 _ (xkR b4) _ _ ?_));rw [bn];refine xHY az hI cc hs fun a1 w1 A1 M1 ax cm=>wpList_plain co fun K hK=>?_
 obtain ⟨A2,ar,b2⟩:=ax.refreeze (HSub.freeze s1.heap [nb]);have bo:=ar.eval mo;rw [show St.eval ⟨s1.tmps,freeze s1.heap [nb]⟩ mo=s1.eval mo from by cases mo<;>rfl,hm] at bo
 obtain ⟨bm,e1,es,clock,J,Q⟩:=xHP ar.heap bo hb ca cx h0 hsz cr c6 cw;obtain ⟨w3,bf⟩:∃ w3,w3=w1.alloc (.mapIter (some bm) clock #[] clock):=⟨_,rfl⟩;rw [<-bf] at J Q;have an:Below w1.heap.size w1 w3:=by rw [bf];exact xgy w1 _
 obtain ⟨r,hr⟩:∃ r,r=w1.heap.size:=⟨_,rfl⟩;rw [<-hr] at J Q;have W:=ar.grow an;have W:=W.put (d:=some it) W.base W.outer Mv.refl W.heap (Rel.gptr (w:=w3) (A:=A2) (M:=M1) r);have cq:w0.heap.size<=r:=by rw [hr];exact ax.base.size
 have cu:A0.w1.heap.size<=r:=by rw [hr];exact ax.ev.size
 unfold Oper.wp;simp only [execOp,cv,J,Sem.run_bind,Result.andThen_ok,Sem.run_pure];show K (a1.put o9.dst (.pointer (some ⟨r,0,none⟩))) w3;rw [c7];refine hK _ _ ?_;obtain ⟨A4,M4,au⟩:=bq r w0 _ w3 A2 M1 _ (zd n) (W.door n);obtain ⟨au,a8⟩:=W.undoor c1 au;have ak:=Q.mv W.heap a8;refine wpIn_block ?_;refine xGG (fun N a' w'=>∃ done s' A' M' seen,SR w0 A0 w' A' M' ⟨Lf s' r,Hf s'⟩ a'/\Itr w' A' M' r bm e1 es clock seen (kvOf nb bx) done/\done.foldl (stepI step) (.inl s0)=.inl s'/\(leftOf e1 seen).size=N) ?_ _ _ _ ⟨[],s0,A4,M4,#[],au,ak,rfl,rfl⟩
 clear au ak a8 Q W J an bf bo ar b2 hK ax cm;rintro N a' w' ⟨done,s',A',M',seen,ai,aq,U,rfl⟩;have b1:a'.eval (.tmp it)=.pointer (some ⟨r,0,none⟩):=by
  have:=ai.eval (.tmp it);have e:St.eval ⟨Lf s' r,Hf s'⟩ (.tmp it)=.gptr r:=by show (Lf s' r).getD it .top=_;rw [z7,a6 s' r];rfl
  rw [e] at this;generalize a'.eval (.tmp it)=v at this;cases this;rfl
 refine wpIn_seq (wpIn_region_list (xnt ro 0 _ (xkR b3) _ _ ?_));rw [bj];refine wpList_plain cp fun K hK=>?_
 rcases aq.next (P:=P) o0.type with ⟨am,J⟩|⟨k,e,wd,ab,hk,cj,b6,c3,da,ck,J,af,cl,cf⟩
 ·
  unfold Oper.wp;simp only [execOp,bw,b1,J,Sem.run_bind,Result.andThen_ok,Sem.run_pure];show K (a'.put o0.dst (.tuple #[.bool false])) w';rw [ci];refine hK _ _ (wpList_plain b9 fun K2 be=>?_)
  have aj:=ai.put (d:=some tn) ai.base ai.outer Mv.refl ai.heap (Rel.tuple (w:=w') (A:=A') (M:=M') #[.bool false] [.bool false] rfl (fun i hi=>by
   rcases i with _|i
   . exact .bool false
   . simp at hi))
  have bt:OpA P Inv ⟨putT (Lf s' r) (some tn) (.tuple [.bool false]),Hf s'⟩ o1 ⟨putT (putT (Lf s' r) (some tn) (.tuple [.bool false])) o1.dst (.bool false),Hf s'++(none:Option Box).toList⟩:=by
   refine .inl (.inl ⟨.bool false,none,.inl ?_,rfl⟩);rw [cb];simp [fop,St.eval,putT,z7,b0 s' r]
  refine xuP az hI bt aj fun v w6 A6 M6 ac _=>be _ _ ?_
  rw [cd] at ac |-;simp only [Option.toList,zD,putT] at ac;have ap:(a'.put (some tn) (.tuple #[.bool false]) |>.put (some tb) v).eval (.tmp tb)=.bool false:=by
   have:=ac.eval (.tmp tb);have e:St.eval ⟨((Lf s' r).set tn (.tuple [.bool false])).set tb (.bool false),Hf s'⟩ (.tmp tb)=.bool false:=by simp [St.eval,z7,b7 s' r]
   rw [e] at this;exact this.bool_inv
  refine wpIn_seq (wpIn_cond_split ap (fun h=>by cases h) fun _=>wpIn_exit ?_)
  show Exit.inBlock ex Qc (.exit ex) _ _;simp only [Exit.inBlock,if_true];rw [xl9] at am;exact hQ .normal _ _ _ ⟨done,am,by rw [U];exact ⟨rfl,r,rfl⟩⟩ ⟨A6,M6,ac⟩
 ·
  rw [xl9] at hk;unfold Oper.wp;simp only [execOp,bw,b1,J,Sem.run_bind,Result.andThen_ok,Sem.run_pure];obtain ⟨w5,bu⟩:∃ w5,w5=wd.putObj r (.mapIter (some bm) clock ab clock):=⟨_,rfl⟩;rw [<-bu] at af;show K (a'.put o0.dst (.tuple #[.bool true,e.key,e.val])) (wd.putObj r (.mapIter (some bm) clock ab clock));rw [<-bu,ci];refine hK _ _ (wpList_plain b9 fun K2 be=>?_)
  have cg:=ai.grow c3;have aj:SR w0 A0 w5 A' M' ⟨Lf s' r,Hf s'⟩ a':=by
   rw [bu];exact cg.turn (ds:=a'.defers) ck ⟨by simp,by simp⟩ cq cu _ (cg.defers.same fun D hD=>World.putObj_heap_other (fun e=>by rw [e,ck] at hD;simp at hD))
  obtain ⟨tk,a2,Z⟩:=af.keys k e b6;rw [xuH hk] at Z;have ae:=af.vals k e b6;rw [xuH hk] at ae;simp only at Z ae;have ct:Rel w5 A' M' e.key (.str (keyAt bx k)):=by rw [a2,Z];exact .str tk
  have ac:=aj.put (d:=some tn) aj.base aj.outer Mv.refl aj.heap (Rel.tuple (w:=w5) (A:=A') (M:=M') #[.bool true,e.key,e.val] [.bool true,.str (keyAt bx k),valAt nb bx k] rfl (fun i hi=>by
   rcases i with _|_|_|i
   . exact .bool true
   . exact ct
   . exact ae
   . simp at hi;omega))
  have bt:OpA P Inv ⟨putT (Lf s' r) (some tn) (.tuple [.bool true,.str (keyAt bx k),valAt nb bx k]),Hf s'⟩ o1 ⟨putT (putT (Lf s' r) (some tn) (.tuple [.bool true,.str (keyAt bx k),valAt nb bx k])) o1.dst (.bool true),Hf s'++(none:Option Box).toList⟩:=by
   refine .inl (.inl ⟨.bool true,none,.inl ?_,rfl⟩);rw [cb];simp [fop,St.eval,putT,z7,b0 s' r]
  refine xuP az hI bt ac fun v w7 A7 M7 Y bb=>be _ _ ?_
  have ag:=af.mv ac.heap bb;rw [cd] at Y |-;simp only [Option.toList,zD,putT] at Y;have ap:((a'.put (some tn) (.tuple #[.bool true,e.key,e.val])).put (some tb) v).eval (.tmp tb)=.bool true:=by
   have:=Y.eval (.tmp tb);have e:St.eval ⟨((Lf s' r).set tn (.tuple [.bool true,.str (keyAt bx k),valAt nb bx k])).set tb (.bool true),Hf s'⟩ (.tmp tb)=.bool true:=by simp [St.eval,z7,b7 s' r]
   rw [e] at this;exact this.bool_inv
  refine wpIn_seq (wpIn_cond_split ap (fun _=>wpIn_skip ?_) (fun h=>by cases h))
  refine wpIn_block (wpIn_seq (wpIn_region_list (xnt ro 0 _ (xkR b5) _ _ ?_)));rw [bh];refine wpList_plain c4 fun K3 c2=>?_
  have a4:((a'.put (some tn) (.tuple #[.bool true,e.key,e.val])).put (some tb) v).eval (.tmp it)=.pointer (some ⟨r,0,none⟩):=by
   have:=Y.eval (.tmp it);have e:St.eval ⟨((Lf s' r).set tn (.tuple [.bool true,.str (keyAt bx k),valAt nb bx k])).set tb (.bool true),Hf s'⟩ (.tmp it)=.gptr r:=by
    simp [St.eval,z7,List.getElem?_set,Ne.symm ch,Ne.symm b8,a6 s' r]
   rw [e] at this;generalize Act.eval _ (.tmp it)=u at this;cases this;rfl
  generalize ((a'.put (some tn) (.tuple #[.bool true,e.key,e.val])).put (some tb) v)=a7 at Y a4;have bp:=cl w7 A7 M7 ag;unfold Oper.wp;simp only [execOp,cz,a4,bp,Sem.run_bind,Result.andThen_ok,Sem.run_pure];show K3 (a7.put oe.dst (.tuple #[e.key,e.val])) w7;rw [cy];refine c2 _ _ ?_;have ce:Rel w7 A7 M7 e.key (.str (keyAt bx k)):=by rw [a2,Z];exact .str tk
  have bv:Rel w7 A7 M7 e.val (valAt nb bx k):=bb.rel ae;have a0:=Y.put (d:=some te) Y.base Y.outer Mv.refl Y.heap (Rel.tuple (w:=w7) (A:=A7) (M:=M7) #[e.key,e.val] [.str (keyAt bx k),valAt nb bx k] rfl (fun i hi=>by
   rcases i with _|_|i
   . exact ce
   . exact bv
   . simp at hi;omega))
  obtain ⟨s2,c5,bk⟩:=aw r done s' k hk cj aq.nodup (fun i hi=>by have:=aq.lt i hi;rwa [xl9] at this) U
  have bg:=a0.door n;refine xzg (Inv:=⟨Inv.inv,n,Inv.top⟩) ⟨az.below⟩ hI c5 bg fun a9 w9 ⟨A9,M9,hs9⟩=>?_
  refine bk w0 _ w9 A9 M9 a9 _ hI (zd n) hs9 ?_ ro c0;rintro ee ss aa ww hq ⟨A10,M10,ba⟩;cases ay:step s' k with
  | inl s3 =>
   rw [ay] at hq;obtain ⟨rfl,bi⟩:=hq;obtain ⟨A11,M11,O⟩:=bi w0 _ ww A10 M10 aa (zd n) ba;obtain ⟨O,ao⟩:=a0.undoor (a5 s') O;have bc:=ag.mv a0.heap ao;exact ⟨_,cf,done++[k],s3,A11,M11,ab,O,bc,by rw [List.foldl_append,U];exact ay,rfl⟩
  | inr q =>
   rw [ay] at hq;obtain ⟨rfl,bi⟩:=hq;obtain ⟨A11,M11,O⟩:=bi w0 _ ww A10 M10 aa (zd n) ba;obtain ⟨O,ao⟩:=a0.undoor (a5 s') O;obtain ⟨l',bz⟩:=xBj ag.nodup ag.lt;rw [xl9] at bz;refine hQ .ret _ _ _ ⟨(done++[k])++l',bz,?_⟩ ⟨A11,M11,O⟩;rw [List.foldl_append,List.foldl_append,U];show match List.foldl (stepI step) (step s' k) l' with|.inl _=>_|.inr _=>_
   rw [ay,xwe];exact ⟨rfl,rfl⟩
theorem xBk {α β:Type} (f:α->β):∀ {l':List β} {l:List α},l'.Perm (l.map f)->∃ q:List α,q.Perm l/\q.map f=l'
 | [],l,h=>by
  have:l.map f=[]:=List.nil_perm.1 h;exact ⟨[],by rw [List.map_eq_nil_iff.1 this],rfl⟩
 | y::t,l,h=>by
  have hy:y∈l.map f:=h.mem_iff.1 (by simp)
  obtain ⟨x,hx,rfl⟩:=zK.1 hy;obtain ⟨a,b,rfl⟩:=List.append_of_mem hx;have h1:t.Perm ((a++b).map f):=by
   rw [zx] at h |-;rw [zV] at h;exact List.Perm.cons_inv (h.trans List.perm_middle)
  obtain ⟨q,g1,g2⟩:=xBk f h1;exact ⟨x::q,(g1.cons x).trans List.perm_middle.symm,by simp [g2]⟩
section
variable {w : World} {A : Nat -> Prop} {M : Id -> Option MB} {B : Nat} {H : List Box}
theorem HR.permM (hR:HR w A M B H) {n:Nat} {bx:Box} (aa:H[n]?=some bx) (ai:xOM bx.ty=true) (ah:xOL bx.ty 0=false) (ak:xOL bx.ty 1=false) (al:bx.sz=2) (aj:bx.pm=true) {mn:MB} (au:M (.b n)=some mn) {ys:List AV} (hp:ys.Perm bx.xs) :
  HR w A M B (H.set n ⟨bx.ver,bx.sz,bx.ty,ys,bx.frz,bx.pm⟩):=by
 have ab:n<H.length:=xb2 aa;have Q:ys.length=bx.xs.length:=hp.length_eq;refine hR.rebuild (fun k=>k=n) (fun k hk _=>zX (fun e=>hk e.symm)) (fun _ _=>rfl) (fun x m0 hx h0 c0=>⟨rfl,fun h=>h⟩) (fun _ _ _=>rfl) (zd _) (fun _ _ h=>h) (MExt.refl M) (fun x m0 hx h0=>?_) (fun x m1 x' m2 _ h1 h2 c1 c2 he=>hR.inj x x' m1 m2 h1 h2 c1 c2 he) (fun b hb=>hR.lt b hb)
 obtain ⟨rb,k1,k2⟩:=hR.box _ m0 h0;cases x with
 | b k =>
  have hx:k=n:=hx;subst hx;rw [xaP,aa] at k1;cases k1;refine ⟨⟨bx.ver,bx.sz,bx.ty,ys,bx.frz,bx.pm⟩,by rw [xaP];exact zL ab,k2.ver,k2.sz,k2.ty,k2.capm,by show ys.length<=_;rw [Q];exact k2.fits,fun y hy=>k2.ok y (hp.mem_iff.1 hy),k2.low,k2.lt,fun az=>?_,k2.guard⟩
  obtain ⟨c,c1,c2,c3⟩:=k2.cells az;have aq:xOM m0.ty=true:=by rw [<-k2.ty];exact xnN ai
  have hsz:m0.sz=2:=by rw [<-k2.sz];exact al
  unfold HoldsC at c1;rw [aq] at c1;obtain ⟨es,clock,⟨e1,d0,d1,a2,ax⟩,d2,d3,d4,d5,d6⟩:=c1;have a1:(es.toList.zip bx.xs).map (·.2)=bx.xs:=List.map_snd_zip (by simp [d2])
  obtain ⟨zs,am,an⟩:=xBk (fun z:MapEntry×AV=>z.2) (l':=ys) (l:=es.toList.zip bx.xs) (by rw [a1];exact hp)
  have a0:(es.toList.zip bx.xs).map (·.1)=es.toList:=List.map_fst_zip (by simp [d2])
  have Y:(zs.map (·.1)).Perm es.toList:=by rw [<-a0];exact am.map _
  have hq:∀ z,z∈zs->Rel w A xOX z.1.key (z.2.cells.getD 0 .top)/\Rel w A xOX z.1.val (z.2.cells.getD 1 .top)/\∃ t:ByteArray,z.1.key=.string t/\t.size<=maxLen:=fun z hz=>by
   obtain ⟨i,hi⟩:=List.mem_iff_getElem?.1 (am.mem_iff.1 hz);rw [List.getElem?_zip_eq_some] at hi;obtain ⟨U,a3⟩:=hi;have U:es[i]?=some z.1:=by simpa using U
   have ar:i<bx.xs.length:=by rw [<-d2];exact getElem?_ext_lt U
   have ap:bx.xs.getD i .top=z.2:=by rw [z7,a3];rfl
   have W:∀ j,j<2->xOL bx.ty j=false->Rel w A xOX (c.getD (i*m0.sz+j) undef) (z.2.cells.getD j .top):=fun j hj af=>by
    have h4:=c3 i j ar (by rw [hsz];exact hj)
    unfold MV xO7 at h4;simp only [af,aj] at h4;rw [ap] at h4;exact h4
   have g0:=W 0 (by omega) ah
   have g1:=W 1 (by omega) ak
   rw [Nat.add_zero,(d4 i _ U).1] at g0;rw [(d4 i _ U).2] at g1;exact ⟨g0,g1,d5 i _ U⟩
  have ag:zs.length=bx.xs.length:=by rw [<-Q,<-an];simp
  obtain ⟨q,ac⟩:∃ q:Array MapEntry,q=(zs.map (·.1)).toArray:=⟨_,rfl⟩;have O:q.size=bx.xs.length:=by rw [ac];simpa using ag
  have J:q.toList=zs.map (·.1):=by rw [ac]
  have hget':∀ (k:Nat) (x:MapEntry),q[k]?=some x->k<bx.xs.length/\∃ z,z∈zs/\z.1=x/\ys.getD k .top=z.2:=fun k x hx=>by
   have hk:k<q.size:=getElem?_ext_lt hx;have hx':(zs.map (·.1))[k]?=some x:=by rw [<-J];simpa using hx
   rw [List.getElem?_map] at hx';cases Z:zs[k]? with
   | none=>rw [Z] at hx';simp at hx'
   | some z =>
    rw [Z] at hx';simp only [Option.map_some,z6] at hx';refine ⟨by rw [<-O];exact hk,z,List.mem_of_getElem? Z,hx',?_⟩
    rw [<-an,z7,List.getElem?_map,Z];rfl
  let c':Array Value:=Array.ofFn (n:=maxLen*2) fun k=>match q[k.val / 2]? with
   | some x=>if k.val % 2=0 then x.key else x.val
   | none=>undef
  have a6:q.size<=maxLen:=by rw [O,<-d3];exact k2.fits
  have hc':∀ (k:Nat) (x:MapEntry),q[k]?=some x->c'.getD (k*m0.sz) undef=x.key/\c'.getD (k*m0.sz+1) undef=x.val:=fun k x hx=>by
   have hk:=getElem?_ext_lt hx;rw [hsz];have e1:k*2<maxLen*2:=by omega
   have e2:k*2+1<maxLen*2:=by omega
   constructor
   . rw [zu,Array.getElem?_ofFn,dif_pos e1];simp only [zh,Nat.mul_div_cancel _ (by omega:0<2),hx,Nat.mul_mod_left,if_true]
   . rw [zu,Array.getElem?_ofFn,dif_pos e2];have d1:(k*2+1) / 2=k:=by omega
     have d2:¬ (k*2+1) % 2=0:=by omega
     simp only [zh,d1,hx,d2,if_false]
  refine ⟨c',?_,by rw [d3,hsz];exact Array.size_ofFn,fun i j hi hj=>?_⟩
  . unfold HoldsC;rw [aq];refine ⟨q,clock,⟨e1,d0,?_,fun x hx=>a2 x (Y.mem_iff.1 (by rw [<-J];exact hx)),?_⟩,by rw [O];exact Q.symm,d3,hc',fun k x hx=>?_,?_⟩
    . rw [J];exact d1.trans Y.symm
    . rw [J];exact ((Y.map _).nodup_iff).2 ax
    . obtain ⟨_,z,h1,rfl,_⟩:=hget' k x hx;exact (hq z h1).2.2
    . have aw:(es.toList.map (·.key)).Nodup:=by
       refine zB.2 fun i j hi hj a5 e=>?_
       have hi':i<es.size:=by simpa using hi
       have hj':j<es.size:=by simpa using hj
       simp only [List.getElem_map,Array.getElem_toList] at e;have:=d6 i j es[i] es[j] (by simp [hi']) (by simp [hj']) e
       omega
      have hnd':(q.toList.map (·.key)).Nodup:=by rw [J];exact ((Y.map _).nodup_iff).2 aw
      intro k l x y hx hy e;have hk:=getElem?_ext_lt hx;have hl:=getElem?_ext_lt hy;have e3:q[k]=x:=by simpa [hk] using hx
      have e4:q[l]=y:=by simpa [hl] using hy
      exact (List.getElem_inj (i:=k) (j:=l) (h₀:=by simpa using hk) (h₁:=by simpa using hl) hnd').1 (by simp [e3,e4,e])
  . have hi:i<bx.xs.length:=by rw [<-Q];exact hi
    have hi':i<q.size:=by rw [O];exact hi
    obtain ⟨x,hx⟩:∃ x,q[i]?=some x:=⟨q[i],by simp [hi']⟩
    obtain ⟨_,z,h1,rfl,h3⟩:=hget' i x hx;have af:∀ j,j<2->xOL bx.ty j=false:=fun j hj=>by
     rcases j with _|_|j
     . exact ah
     . exact ak
     . omega
    rw [hsz] at hj;unfold MV xO7;simp only [af j hj,aj];show Rel _ A xOX _ _;rw [h3];rcases j with _|_|j
    . rw [Nat.add_zero,(hc' i _ hx).1];exact (hq z h1).1
    . rw [(hc' i _ hx).2];exact (hq z h1).2.1
    . omega
 | r k i' j' =>
  have hx:k=n:=hx;subst hx;have ao:isC bx.ty=true:=by
   cases hc:isC bx.ty with
   | true=>rfl
   | false=>rw [xaw hc] at ai;cases ai
  obtain ⟨e2,e3,e4,e5⟩:=xha aa ao k1;have a4:2<=j':=by
   rcases j' with _|_|j'
   . rw [ah] at e2;cases e2
   . rw [ak] at e2;cases e2
   . omega
  have ae:∀ x,x∈bx.xs->x.okElem 2=true:=fun x hx=>by
   obtain ⟨bx',q1,q2⟩:=hR.box _ mn au;rw [xaP,aa] at q1;cases q1;have:=q2.ok x hx;rw [<-q2.sz,al] at this;exact this
  have ad:∀ (xs:List AV),(∀ x,x∈xs->x.okElem 2=true)->(xs.getD i' .top).cells.getD j' .top=.top:=fun xs ay=>by
   rcases zJ i' xs.length with h|h
   . have:=xao (ay _ (xav h));rw [z7 (l:=(xs.getD i' .top).cells),zz (by omega)];rfl
   . have:xs.getD i' .top=.top:=by rw [z7,zz h];rfl
     rw [this,z7,zz (by simp [AV.cells];omega)];rfl
  refine ⟨rb,?_,k2⟩;rw [xeb (zL ab) (by exact ao) (by exact e2) (by exact aj) (by show i'<ys.length;omega),e5,ad bx.xs ae]
  exact congrArg (fun y=>some (xPa _ y)) (ad ys fun x hx=>ae x (hp.mem_iff.1 hx))
end
theorem xIE {p t n ver i j:Nat} {T:List AV} {H:List Box} {bx:Box} (ht:T[t]?=some (.own (.b n) ver i j)) (U:H[n]?=some bx) (Q:xOM bx.ty=true) (O:xOL bx.ty 0=false) (Y:xOL bx.ty 1=false) (q:bx.sz=2) (J:bx.pm=true) {ys:List AV} (hp:ys.Perm bx.xs) :
  Weak p ⟨T,H⟩ ⟨T,H.set n ⟨bx.ver,bx.sz,bx.ty,ys,bx.frz,bx.pm⟩⟩:=fun w0 A0 w A M a _ hs=>by
 have W:t<T.length:=(List.getElem?_eq_some_iff.1 ht).1;have h:=hs.tmps t W;rw [show (St.tmps ⟨T,H⟩).getD t .top=.own (.b n) ver i j from by show T.getD t .top=_;rw [z7,ht];rfl] at h
 obtain ⟨m,hm,_⟩:=Rel.own_inv h;exact ⟨A,M,hs.base,hs.outer,hs.size,hs.tmps,hs.heap.permM U Q O Y q J hm hp,hs.defers,hs.ev⟩
def isRm:Code->Bool
 | .seq _ _=>true
 | _=>false
theorem xE8 {P:Program} {Inv:IV} {E:Env} {c:Code} {ls:List Code} (h:xO2 c=ls) (hl:∀ l,l∈ls->∀ lp,E.lp (xOY l)=some lp->LoopOk P Inv E.nt l lp) {rc:Code} {lp0:Lp} (hr:PieceOk P Inv E.nt rc lp0) (he:E.lp (condId rc)=some lp0)
  (h1:(xOZ c).filter isRm=[rc]:=by kernel_rfl) (h2:((xOZ c).all fun d=>isRm d || (E.lp (condId d)).isNone)=true:=by kernel_rfl):LoOk P Inv E c:=by
 refine ⟨fun l hm=>hl l (by rw [<-h];exact hm),fun d hd lp hs=>?_⟩
 cases hg:isRm d with
 | true =>
  have hm:d∈(xOZ c).filter isRm:=List.mem_filter.2 ⟨hd,hg⟩;rw [h1,zv] at hm;subst hm;rw [he] at hs;simp only [z6] at hs;exact hs▸hr
 | false =>
  have:=zI.1 h2 d hd;rw [hg,hs] at this;simp at this
theorem xH8 {β γ:Type} {P:Program} {Inv:IV} {nt:Nat} {l:Code} {live liveO:List Nat} {conv:List (Nat×Nat×TypeId)} {pv:Pat (List AV) β} {pb:Pat (List Box) γ} {g:β->γ->Bool×LR}
  (h:∀ b c r,g b c=(true,r)->Does P Inv l (fun e1 s1=>e1=r.eval.1/\s1=⟨mkTs nt (liveO.zip r.eval.2.1),r.eval.2.2⟩) ⟨mkTs nt (live.zip (pv.enc b)),pb.enc c⟩):PieceOk P Inv nt l (lpOf live liveO conv pv pb g):=fun vals H r e=>by
 unfold lpOf at e;dsimp only at e;split at e
 . rename_i b hb;split at e
   . rename_i c hc;simp only [z6] at e;rw [pv.ok _ _ hb,pb.ok _ _ hc];exact h b c r e
   . simp at e
 . simp at e
def rmsOf:Code->List Code
 | .seq a b=>match isRng a with
  | true=>[.seq a b]
  | false=>rmsOf a++rmsOf b
 | .block _ c=>rmsOf c
 | .loop c=>rmsOf c
 | .cond _ a b=>rmsOf a++rmsOf b
 | _=>[]
noncomputable def rmOf (fn:Func):Code:=(rmsOf (fn.body.getD .skip)).getD 0 .skip
noncomputable def rmBody:Code->Code
 | .seq _ (.block _ (.loop (.seq _ (.seq _ (.block _ (.seq _ b))))))=>b
 | _=>.skip
noncomputable def rmOps1:Code->Array Oper
 | .seq _ (.block _ (.loop (.seq _ (.seq _ (.block _ (.seq (.region _ ops _) _))))))=>ops
 | _=>#[]
def XM (P:Program) (E:Env) (ops:Array Oper) (q:Code) (live:List Nat) (ts:List AV) (H:List Box):Option (Exit×List AV×List Box):=xOps P E none (some true) ops (ops.toList.drop 1) ⟨ts,H⟩ fun s1=>X P E none q s1 fun e2 s2=>match normS E.pin [] live s2 with
 | some (vs,H')=>xPD vs fun vs=>xPc H' fun H'=>br (Nat.beq s2.tmps.length E.nt) (some (e2,vs,H')) none
 | none=>none
theorem xsc {P:Program} {Inv:IV} {E:Env} (J:xOK P Inv E) {ops:Array Oper} {l:List Oper} {s:St} {T:Type} {r:T} {K:St->Option T} (h:xOps P E none (some true) ops l s K=some r):∃ s',Path (OpA P Inv) ops l s s'/\K s'=some r:=by
 have q:¬ (fun t:Option T=>t=some r) none:=by simp
 have hA:∀ o s (K:St->Option T),(fun t:Option T=>t=some r) (xopM P E none (some true) o s K)->∃ s1,OpA P Inv s o s1/\(fun t:Option T=>t=some r) (K s1):=fun o s K h=>xDV (good:=fun t:Option T=>t=some r) q J h
 exact xhP (good:=fun t:Option T=>t=some r) q hA l s K h
theorem xz9 {P:Program} {Inv:IV} {E:Env} (Y:P.follows .mixedOrders=true) (Q:InvOk Inv) (J:Inv.pin=E.pin) (O:xOK P Inv E) {ops:Array Oper} {q:Code} (W:LoOk P Inv E q) {live:List Nat} {ts vs:List AV} {H H':List Box} {e0:Exit}
  (h:XM P E ops q live ts H=some (e0,vs,H')):∃ s2,Path (OpA P Inv) ops (ops.toList.drop 1) ⟨ts,H⟩ s2/\Does P Inv q (fun e s'=>e=e0/\Weak Inv.pin s' ⟨mkTs E.nt (live.zip vs),H'⟩) s2:=by
 unfold XM at h;obtain ⟨s2,h1,h2⟩:=xsc O h;refine ⟨s2,h1,xde (xic (good:=fun t=>t=some (e0,vs,H')) Y Q J (by simp) O q _ _ W h2) fun e s' hq=>?_⟩
 split at hq
 case h_2=>simp at hq
 rename_i Z H1 U;rw [xbg,xbE] at hq;obtain ⟨h3,h4⟩:=xbV (good:=fun t=>t=some (e0,vs,H')) (by simp) hq
 simp only [z6,zb] at h4;obtain ⟨rfl,rfl,rfl⟩:=h4;have hw:=xgc U;rw [zg h3,<-J] at hw;exact ⟨rfl,hw⟩
end Go.Sim
end
noncomputable section
set_option maxRecDepth 100000
namespace Go.Sim.M
open Go.RowKit Go.Proofs
noncomputable def rmOps9:Code->Array Oper
 | .seq (.region _ ops _) _=>ops
 | _=>#[]
noncomputable def rmOps0:Code->Array Oper
 | .seq _ (.block _ (.loop (.seq (.region _ ops _) _)))=>ops
 | _=>#[]
theorem Weak.trans {p:Nat} {s1 s2 s3:St} (h:Weak p s1 s2) (g:Weak p s2 s3):Weak p s1 s3:=fun w0 A0 w A M a hp hs=>by
 obtain ⟨A1,M1,h1⟩:=h w0 A0 w A M a hp hs;exact g w0 A0 w A1 M1 a hp h1
def rowK (xs:List AV) (k:Nat):List AV:=((xs.getD k .top).cells.getD 1 .top).toList
def keyK (xs:List AV) (k:Nat):List UInt8:=match (xs.getD k .top).cells.getD 0 .top with
 | .str s=>s
 | _=>[]
def keysD (xs:List AV):Bool:=(List.range xs.length).all fun i=>(List.range xs.length).all fun j=>Nat.beq i j || !(keyK xs i==keyK xs j)
noncomputable def crowdV (l:List AV):List AV:=(xf0 ((xjv l).getD []) 2).getD []
noncomputable def crowdOk (l:List AV):Bool:=(xjv l).isSome&&(xf0 ((xjv l).getD []) 2).isSome
noncomputable def entC (xs:List AV) (k:Nat):AV:=.agg [.str (keyK xs k),.list 2 (crowdV (rowK xs k))]
noncomputable def piecesOk (xs:List AV):Bool:=keysD xs&&(decide (xs.length<4611686018427387904)&&(List.range xs.length).all fun k=>xPo 3 ((xs.getD k .top).cells.getD 1 .top)&&(crowdOk (rowK xs k)&&decide ((keyK xs k).length<=4611686018427387904)))
noncomputable def outC (xs:List AV):List AV:=(List.range xs.length).map (entC xs)
theorem xJi {xs:List AV} (h:keysD xs=true) {i j:Nat} (hi:i<xs.length) (hj:j<xs.length) (hne:i≠j):keyK xs i≠keyK xs j:=fun e=>by
 have h1:=zI.1 (zI.1 h i (List.mem_range.2 hi)) j (List.mem_range.2 hj);rw [e] at h1;simp only [beq_self_eq_true,Bool.not_true,Bool.or_false] at h1;exact hne (zg h1)
noncomputable def stepC (xs:List AV) (ys:List AV) (k:Nat):List AV⊕Unit:=.inl (xOx ys (keyK xs k) (.list 2 (crowdV (rowK xs k))))
theorem xuD {xs:List AV} (hd:keysD xs=true):∀ (ord pre:List Nat),(pre++ord).Nodup->(∀ k,k∈pre++ord->k<xs.length)->ord.foldl (stepI (stepC xs)) (.inl (pre.map (entC xs)))=.inl ((pre++ord).map (entC xs))
 | [],pre,_,_=>by simp
 | k::ord,pre,hn,hl=>by
  rw [List.foldl_cons];have hk:k<xs.length:=hl k (by simp)
  have q:xOx (pre.map (entC xs)) (keyK xs k) (.list 2 (crowdV (rowK xs k)))=(pre++[k]).map (entC xs):=by
   unfold xOx;rw [xrL fun i hi=>?_]
   . simp [entC]
   . rw [za] at hi;have e:((pre.map (entC xs)).getD i .top)=entC xs pre[i]:=by simp [z7,hi]
     rw [e];show (keyK xs pre[i]==keyK xs k)=false;rw [beq_eq_false_iff_ne];refine xJi hd (hl _ (by simp)) hk fun e=>?_
     have:=List.nodup_append.1 hn;exact this.2.2 pre[i] (by simp) k (by simp) e
  show ord.foldl (stepI (stepC xs)) (Sum.inl (xOx _ _ _))=_;rw [q,xuD hd ord (pre++[k]) (by simpa using hn) (by simpa using hl)]
  simp
noncomputable abbrev xJ5:Env:=xqk.E.fn 38 0 (lsOf []) (xO5 [])
theorem xMe:xOK Tryz.prog (xPq.at 0) xJ5:=xqk.ok.fn
noncomputable abbrev xIO:Env:=xqk.E.fn 38 2 (lsOf []) (xO5 [])
theorem xM5:xOK Tryz.prog (xPq.at 2) xIO:=xqk.ok.fn
theorem xM3:LoOk Tryz.prog (xPq.at 2) xIO (rmBody (rmOf Tryz.f30)):=xfx (by kernel_rfl)
theorem xKm:rmOf Tryz.f30=rngCode 9 (rmOps9 (rmOf Tryz.f30)) 2 10 (rmOps0 (rmOf Tryz.f30)) 28 3 11 (rmOps1 (rmOf Tryz.f30)) (rmBody (rmOf Tryz.f30)):=by kernel_rfl
noncomputable abbrev xyf:List AV:=mkTs 38 [(5,.func vpF [.own 0 0 0 0]),(9,.own 1 0 0 0)]
noncomputable abbrev xye (_:List AV) (r:Nat):List AV:=mkTs 38 [(9,.own 1 0 0 0),(26,.gptr r)]
def xmz (xs:List AV) (z:Bool) (ys:List AV):List Box:=[⟨0,2,1208926202420975661744128,xs,z,true⟩,⟨0,2,1208925819614912709656576,ys,false,true⟩]
theorem xNv (xs ys:List AV) (k r:Nat) (s:List UInt8) (n:Nat):XM Tryz.prog xIO (rmOps1 (rmOf Tryz.f30)) (rmBody (rmOf Tryz.f30)) [9,26] (stepT (mkTs 38 [(9,.own (.b 1) 0 0 0),(26,.gptr r)]) 27 28 29 s (.osl (.r 0 k 1) (2*n) 0 n)) [⟨0,2,1208926202420975661744128,xs,true,true⟩,⟨0,2,1208925819614912709656576,ys,false,true⟩] =
 br (decide (k<xs.length)&&(xPo (3:Nat) ((xs.getD k AV.top).cells.getD (1:Nat) AV.top)&&(2:Nat)*((xs.getD k AV.top).cells.getD (1:Nat) AV.top).toList.length==(2:Nat)*n)&&decide ((0:Nat)+n<=((xs.getD k AV.top).cells.getD (1:Nat) AV.top).toList.length)&&true) (br (xjv (List.take n (List.drop (0:Nat) ((xs.getD k AV.top).cells.getD (1:Nat) AV.top).toList))).isSome (br (xf0 ((xjv (List.take n (List.drop (0:Nat) ((xs.getD k AV.top).cells.getD (1:Nat) AV.top).toList))).getD []) (2:Int)).isSome (br (decide (ys.length<(4611686018427387904:Nat))&&decide (s.length<=(4611686018427387904:Nat))) (some (Exit.normal,[AV.own (Id.b (1:Nat)) (0:Nat) (0:Nat) (0:Nat),AV.gptr r],[{ ver:=(0:Nat),sz:=(2:Nat),ty:=(1208926202420975661744128:Nat),xs:=xs,frz:=true,pm:=true },{ ver:=(0:Nat),sz:=(2:Nat),ty:=(1208925819614912709656576:Nat),xs:=xOx ys s (AV.list (2:Nat) ((xf0 ((xjv (List.take n (List.drop (0:Nat) ((xs.getD k AV.top).cells.getD (1:Nat) AV.top).toList))).getD []) (2:Int)).getD [])),frz:=false,pm:=true }])) none) none) none) none:=by kernel_rfl
theorem xMf (xs ys:List AV):xOps Tryz.prog xJ5 none (some true) (rmOps9 (rmOf Tryz.f30)) (rmOps9 (rmOf Tryz.f30)).toList.dropLast ⟨xyf,xmz xs false ys⟩ some=some ⟨xyf.set 25 (.own 0 0 0 0),xmz xs false ys⟩:=by kernel_rfl
theorem xNu (xs ys:List AV) (r:Nat):normS 2 [] [9,26] ⟨(xyf.set 25 (.own 0 0 0 0)).set 26 (.gptr r),xmz xs true ys⟩=some ([.own 1 0 0 0,.gptr r],xmz xs true ys):=by kernel_rfl
theorem xNs (xs ys:List AV) (r:Nat):normS 0 [] [9] ⟨((xye ys r).set 27 (.tuple [.bool false])).set 28 (.bool false),xmz xs true ys⟩=some ([.own 0 0 0 0],[⟨0,2,1208925819614912709656576,ys,false,true⟩]):=by kernel_rfl
theorem xHl (ys:List AV) (r:Nat):(xye ys r).length=38:=by kernel_rfl
theorem xKq (xs ys:List AV):(xmz xs true ys).length=2:=by kernel_rfl
theorem xNt (xs:List AV) (r:Nat):Weak 2 ⟨(xyf.set 25 (.own 0 0 0 0)).set 26 (.gptr r),freeze (xmz xs false []) [0]⟩ ⟨xye [] r,xmz xs true []⟩:=by
 have e1:freeze (xmz xs false []) [0]=xmz xs true []:=by kernel_rfl
 have e2:mkTs ((xyf.set 25 (.own 0 0 0 0)).set 26 (.gptr r)).length ([9,26].zip [.own 1 0 0 0,.gptr r])=xye [] r:=by kernel_rfl
 have h:=xgc (xNu xs [] r);rw [e1,<-e2];exact h
noncomputable def xnK:Lp:=lpOf [5,9] [9] [] (xPr (xO6 1099511627776 (xPr (xPF 0 0 0 0) xPt)) (xPr (xPF 1 0 0 0) xPt)) (xPr (xPH 0 2 1208926202420975661744128 false true xPv) (xPr (xPH 0 2 1208925819614912709656576 false true xPv) xPt))
 fun _ (xs,(ys,_))=>(piecesOk xs&&ys.isEmpty,.leaf .normal [.own 0 0 0 0] [⟨0,2,1208925819614912709656576,outC xs,false,true⟩])
theorem xIR:(rmOps9 (rmOf Tryz.f30)).toList=(rmOps9 (rmOf Tryz.f30)).toList.dropLast++[(rmOps9 (rmOf Tryz.f30)).toList.getLastD default]:=by kernel_rfl
theorem xKp:noDefer (rmOps9 (rmOf Tryz.f30))=true:=by kernel_rfl
theorem xMa:((rmOps9 (rmOf Tryz.f30)).toList.getLastD default).op=.range 85 (.tmp 25):=by kernel_rfl
theorem xL2:((rmOps9 (rmOf Tryz.f30)).toList.getLastD default).dst=some 26:=by kernel_rfl
theorem xL6:((rmOps9 (rmOf Tryz.f30)).toList.getLastD default).guard=none:=by kernel_rfl
theorem xMc:Tryz.prog.underlying 85=some (.map 9 86):=by kernel_rfl
theorem xIP:(rmOps0 (rmOf Tryz.f30)).toList=[(rmOps0 (rmOf Tryz.f30)).toList.getD 0 default,(rmOps0 (rmOf Tryz.f30)).toList.getD 1 default]:=by kernel_rfl
theorem xKn:noDefer (rmOps0 (rmOf Tryz.f30))=true:=by kernel_rfl
theorem xL8:((rmOps0 (rmOf Tryz.f30)).toList.getD 0 default).op=.next (.tmp 26) false:=by kernel_rfl
theorem xL0:((rmOps0 (rmOf Tryz.f30)).toList.getD 0 default).dst=some 27:=by kernel_rfl
theorem xL4:((rmOps0 (rmOf Tryz.f30)).toList.getD 0 default).guard=none:=by kernel_rfl
theorem xL9:((rmOps0 (rmOf Tryz.f30)).toList.getD 1 default).op=.extract (.tmp 27) 0:=by kernel_rfl
theorem xL1:((rmOps0 (rmOf Tryz.f30)).toList.getD 1 default).dst=some 28:=by kernel_rfl
theorem xL5:((rmOps0 (rmOf Tryz.f30)).toList.getD 1 default).guard=none:=by kernel_rfl
theorem xIQ:(rmOps1 (rmOf Tryz.f30)).toList=((rmOps1 (rmOf Tryz.f30)).toList.getD 0 default)::(rmOps1 (rmOf Tryz.f30)).toList.drop 1:=by kernel_rfl
theorem xKo:noDefer (rmOps1 (rmOf Tryz.f30))=true:=by kernel_rfl
theorem xMb:((rmOps1 (rmOf Tryz.f30)).toList.getD 0 default).op=.entry (.tmp 26):=by kernel_rfl
theorem xL3:((rmOps1 (rmOf Tryz.f30)).toList.getD 0 default).dst=some 29:=by kernel_rfl
theorem xL7:((rmOps1 (rmOf Tryz.f30)).toList.getD 0 default).guard=none:=by kernel_rfl
theorem xM1 (xs:List AV):St.eval ⟨xyf.set 25 (.own 0 0 0 0),xmz xs false []⟩ (.tmp 25)=.own (.b 0) 0 0 0:=by kernel_rfl
theorem xM0 (xs:List AV):(freeze (xmz xs false []) [0])[0]?=some ⟨0,2,1208926202420975661744128,xs,true,true⟩:=by kernel_rfl
theorem xM4:xOM 1208926202420975661744128=true:=by kernel_rfl
theorem xM9:xOL 1208926202420975661744128 0=false:=by kernel_rfl
theorem xMx (xs:List AV):(freeze (xmz xs false []) [0]).length=2:=by kernel_rfl
theorem xM2 (ys:List AV) (r:Nat):(xye ys r)[26]?=some (.gptr r):=by kernel_rfl
theorem xNa:xOL 1208926202420975661744128 1=true:=by kernel_rfl
theorem xM6:xOL 1208925819614912709656576 0=false:=by kernel_rfl
theorem xM7:xOL 1208925819614912709656576 1=false:=by kernel_rfl
theorem xM8:xOM 1208925819614912709656576=true:=by kernel_rfl
theorem xMd (ys:List AV) (r:Nat):(((xye ys r).set 27 (.tuple [.bool false])).set 28 (.bool false))[9]?=some (.own (.b 1) 0 0 0):=by kernel_rfl
theorem xBM:PieceOk Tryz.prog (xPq.at 0) 38 (rmOf Tryz.f30) xnK:=xH8 fun vv bb rr hh=>by
 obtain ⟨⟨_,_⟩,_,_⟩:=vv;obtain ⟨xs,ys,_⟩:=bb;obtain ⟨h1,rfl⟩:=Prod.mk.inj hh;simp only [piecesOk,zf,zl,List.isEmpty_iff] at h1;obtain ⟨⟨hd,ai,U⟩,rfl⟩:=h1;have W:∀ k,k<xs.length->∃ rows,(xs.getD k .top).cells.getD 1 .top=.list 3 rows/\crowdOk rows=true/\(keyK xs k).length<=4611686018427387904:=fun k hk=>by
  have h2:=zI.1 U k (List.mem_range.2 hk);simp only [zf,zl] at h2;obtain ⟨h3,h4,h5⟩:=h2;obtain ⟨rows,h6⟩:=xe5 h3;refine ⟨rows,h6,?_,h5⟩;unfold rowK at h4;rw [h6] at h4;exact h4
 obtain ⟨s1,hp,ae⟩:=xsc xMe (K:=some) (xMf xs []);cases ae;rw [xKm];refine xDF (xde (xwJ (Inv:=xPq.at 0) (xOU Tryz.prog _) (σ:=List AV) (ρ:=Unit) (pre:=(rmOps9 (rmOf Tryz.f30)).toList.dropLast) (exts:=(rmOps1 (rmOf Tryz.f30)).toList.drop 1) (o9:=(rmOps9 (rmOf Tryz.f30)).toList.getLastD default) (o0:=(rmOps0 (rmOf Tryz.f30)).toList.getD 0 default) (o1:=(rmOps0 (rmOf Tryz.f30)).toList.getD 1 default) (oe:=(rmOps1 (rmOf Tryz.f30)).toList.getD 0 default)
  (it:=26) (tn:=27) (tb:=28) (te:=29) (tyM:=85) (kt:=9) (et:=86) (mo:=.tmp 25)
  xIR xKp xMa xL2 xL6 xMc xIP xKn xL8 xL0 xL4 xL9 xL1 xL5 xIQ xKo xMb xL3 xL7
  (by decide) (by decide) (by decide)
  hp (s1:=⟨xyf.set 25 (.own 0 0 0 0),xmz xs false []⟩) (nb:=0) (ver:=0) (i:=0) (j:=0) (xM1 xs) (bx:=⟨0,2,1208926202420975661744128,xs,true,true⟩) (xM0 xs) rfl xM4 xM9 rfl rfl rfl
  (n:=2) (Nat.le_of_eq (xMx xs)) xye (xmz xs true) (fun _=>[]) (fun _=>[]) (stepC xs) []
  (fun ys=>by rw [xKq];exact zd 2) (fun ys r=>xM2 ys r) (fun ys r=>by rw [xHl];decide) (fun ys r=>by rw [xHl];decide)
  (fun r=>xNt xs r) ?_) fun e s' hq=>?_)
 . intro r done s k hk aj Z O hf;obtain ⟨rows,hr,J,ah⟩:=W k hk;have hs:s=done.map (entC xs):=by
    have:=xuD hd done [] (by simpa using Z) (by simpa using O)
    rw [zW] at this;rw [this] at hf;simpa using hf.symm
   have af:s.length<4611686018427387904:=by
    obtain ⟨l',ac⟩:=xBj Z O;have:=ac.length_eq;rw [hs];simp at this |-;omega
   have aa:valAt 0 ⟨0,2,1208926202420975661744128,xs,true,true⟩ k=.osl (.r 0 k 1) (2*rows.length) 0 rows.length:=by
    unfold valAt xO7;rw [xNa];simp only [hr];rfl
   have Q:keyAt ⟨0,2,1208926202420975661744128,xs,true,true⟩ k=keyK xs k:=rfl;simp only [crowdOk,zf] at J;have hx:=xNv xs s k r (keyK xs k) rows.length;rw [hr] at hx;simp only [AV.toList,zr,y4,hk,J.1,J.2,af,ah,xPo,zn,zH,zd,beq_self_eq_true,zS,xab,show Nat.beq 3 3=true from rfl,sUF] at hx
   obtain ⟨s2,h1,h2⟩:=xz9 xOT (xOU Tryz.prog _) rfl xM5 xM3 hx;rw [aa,Q];refine ⟨s2,h1,xde h2 fun e s' ⟨he,hw⟩=>?_⟩
   have ad:rowK xs k=rows:=by unfold rowK;rw [hr];rfl
   simp only [stepC,ad];exact ⟨he,hw⟩
 . obtain ⟨ord,q,hq⟩:=hq;have ab:ord.Nodup:=(q.nodup_iff).2 List.nodup_range;have ag:∀ k,k∈ord->k<xs.length:=fun k hk=>List.mem_range.1 (q.mem_iff.1 hk)
   have Y:=xuD hd ord [] (by simpa using ab) (by simpa using ag)
   rw [zW] at Y;rw [Y] at hq;obtain ⟨rfl,r,rfl⟩:=hq;refine ⟨_,?_,rfl,rfl⟩;refine Weak.trans (xIE (t:=9) (n:=1) (ver:=0) (i:=0) (j:=0) (xMd _ r) (bx:=⟨0,2,1208925819614912709656576,([]++ord).map (entC xs),false,true⟩) rfl xM8 xM6 xM7 rfl rfl (ys:=(List.range xs.length).map (entC xs)) ?_) (xgc (xNs xs ((List.range xs.length).map (entC xs)) r));exact (q.symm.map _)
end Go.Sim.M
end
noncomputable section
set_option maxRecDepth 100000
namespace Go.Sim.M
open Go.IntKind (i64 u64 u8)
open Go.RowKit Go.Proofs
def xnJ (a:List UInt8) (b c d e f:LA) (g:Int) (h:LA):=crowds1 (gC f g 0).toList (gC f g 1).toInt (gC f g 2).toInt a b c d e h
def xp9 {T:Type} (a:List UInt8) (b c d e h:LA) (i f:Int) (g:LA) (δ:T) (κl:(Int×LA)->T) (κr:(LA)->T):T:=br (decide (f<i)) (br (ixI h f) (br (ixT h f 3 [Sh.list 3,Sh.int .i64,Sh.int .i64] 0) (br ((xnJ a b c d e h f g).isSome) (κl (i64.wrap (f+1),(xnJ a b c d e h f g).getD [])) δ) δ) δ) (κr (g))
def xeM (a:List UInt8) (b c d e g:LA) (h:Int):StT (Int×LA) (LA):=fun (i,f)=>xp9 a b c d e g h i f none inL inR
def xr2:=xqk.l 38 0 [1000027,10000013,11000005] [(4000009,xnK)] Tryz.f30 0 lk0 [5,6,14,15,16] [5] [] (q5 (xO6 1099511627776 (q1 (xPF 0 0 0 0))) (xO6 52 (q2 (xPL 5 0 0 (q1 (xPG (q5 pStr (qL 3) (qL 1) (qL 2) (qL 7))))) (xO6 1099511627776 (q1 (xPF 0 0 0 0))))) (qL 3) qI qI) (q1 (qB 0 2 1208926202420975661744128 xPv)) (fun ((_,_),(((a,b,c,d,e,_),_),(_,_),_),g,h,i,_) (f,_)=>(xeM a b c d e g h,(i,f),fun p=>(.leaf (.exit 0) [AV.func 1099511627776 [AV.own 0 0 0 0]] [bF 0 2 1208926202420975661744128 p]))) [] fun ((_,_),(((a,b,c,d,e,_),_),(_,_),_),g,h,_,_) _ (i,f)=>(((((),()),(((a,b,c,d,e,()),()),((),()),()),g,h,i,()),(f,())),xp9 a b c d e g h i f none)
def xkL:Env:=xqk.E.fn 38 0 (lsOf [1000027,10000013,11000005]) (xO5 [(4000009,xnK),(4,xr2.lp)])
theorem xCH:xOK P0 (xPq.at 0) xkL:=xqk.ok.fn
theorem xz8:LoOk P0 (xPq.at xkL.pin) xkL (Tryz.f30.body.getD .skip):=xE8 (lp0:=xnK) (hr:=xBM) (he:=by kernel_rfl) (ls:=[xOO Tryz.f30 0]) (by kernel_rfl) (fun l b lp a=>by
 simp only [zC,List.not_mem_nil,or_false] at b;rcases b with rfl
 . rw [show xkL.lp (xOY (xOO Tryz.f30 0))=some (xr2.lp) by kernel_rfl] at a
   simp only [z6] at a;subst a;exact xr2.ok)
def xuy {T:Type} (e:List UInt8) (b a c d l:LA) (δ:T) (κ:LA->T):T:=br ((Iter (xeM e b a c d l (↑l.length:Int)) (0,[])).isSome) (br (piecesOk ((Iter (xeM e b a c d l (↑l.length:Int)) (0,[])).getD [])&&true) (κ (outC ((Iter (xeM e b a c d l (↑l.length:Int)) (0,[])).getD []))) δ) δ
def crowds (e:List UInt8) (b a c d l:LA):=xuy e b a c d l none some
theorem xI4 (e:List UInt8) (b a c d l:LA):Enc (fun (p:LA)=>(((AV.own 0 0 0 0,([⟨0,2,1208925819614912709656576,p,false,true⟩]:List Box))):(AV×List Box))) (crowds e b a c d l) (XFM P0 xkL Tryz.f30 (Tryz.f30.body.getD .skip) [AV.agg [AV.str e,AV.list 3 b,AV.list 1 a,AV.list 2 c,AV.list 7 d],AV.list 3 l] []):=by
 have h:XFM P0 xkL Tryz.f30 (Tryz.f30.body.getD .skip) [AV.agg [AV.str e,AV.list 3 b,AV.list 1 a,AV.list 2 c,AV.list 7 d],AV.list 3 l] []=xuy e b a c d l none (fun (p:LA)=>some (((AV.own 0 0 0 0,([⟨0,2,1208925819614912709656576,p,false,true⟩]:List Box))):(AV×List Box))):=by kernel_rfl
 rw [h];unfold crowds xuy;repeat' (first|refine Enc.br ?_ ?_|exact Enc.none|exact Enc.some rfl)
def xI3:LA->List Box->Option (Bool×AV×List Box):=omOf (xPs (xPJ (xPs (sEq pStr) (xPs (xPI 3 xPv) (xPs (xPI 1 xPv) (xPs (xPI 2 xPv) (xPs (xPI 7 xPv) xPu)))))) (xPs (xPI 3 xPv) xPu)) xPt fun ((e,(b,(a,(c,(d,_))))),(l,_)) _=>((crowds e b a c d l).isSome,((AV.own 0 0 0 0,([⟨0,2,1208925819614912709656576,((crowds e b a c d l).getD []),false,true⟩]:List Box))))
theorem xI2:OmOk P0 xPq 30 (xI3):=xrW fun c k m g e=>by
 obtain ⟨⟨n,⟨h,⟨f,⟨i,⟨j,_⟩⟩⟩⟩⟩,⟨l,_⟩⟩:=c;obtain ⟨a,b⟩:=Prod.mk.inj e;refine xne (p:=xkL.pin) (xnd xOT (xOU P0 _) rfl xCH rfl Tryz.func30 rfl (by kernel_rfl) xz8 ((xI4 _ _ _ _ _ _ _ (xaJ (d:=[]) a)).trans ?_))
 exact congrArg some b
def xrY:EO:=xqk.wM xI2
end Go.Sim.M
end
noncomputable section
set_option maxRecDepth 100000
namespace Go.Sim.M
open Go.RowKit Go.Proofs
def anyC (ys:List AV):Bool:=(List.range ys.length).any fun k=>decide ((↑(rowK ys k).length:Int)>0)
def rowsC (ys:List AV):Bool:=(List.range ys.length).all fun k=>xPo 2 ((ys.getD k .top).cells.getD 1 .top)
def stepH (ys:List AV) (_:Unit) (k:Nat):Unit⊕Unit:=br (decide ((↑(rowK ys k).length:Int)>0)) (.inr ()) (.inl ())
theorem xy9 (ys:List AV):∀ ord:List Nat,ord.foldl (stepI (stepH ys)) (.inl ())=br (ord.any fun k=>decide ((↑(rowK ys k).length:Int)>0)) (.inr ()) (.inl ())
 | []=>rfl
 | k::ord=>by
  rw [List.foldl_cons];show ord.foldl (stepI (stepH ys)) (br (decide ((↑(rowK ys k).length:Int)>0)) (Sum.inr ()) (.inl ()))=_;rw [List.any_cons];cases decide ((↑(rowK ys k).length:Int)>0) with
  | true=>exact xwe _ _ _
  | false=>exact xy9 ys ord
theorem xIT {p:Nat->Bool} {l l':List Nat} (h:l.Perm l'):l.any p=l'.any p:=by
 rw [Bool.eq_iff_iff,List.any_eq_true,List.any_eq_true];exact ⟨fun ⟨x,h1,h2⟩=>⟨x,h.mem_iff.1 h1,h2⟩,fun ⟨x,h1,h2⟩=>⟨x,h.mem_iff.2 h1,h2⟩⟩
noncomputable abbrev xJ2:Env:=xrY.E.fn 18 0 (lsOf [1000027]) (xO5 [])
theorem xLY:xOK Tryz.prog (xPq.at 0) xJ2:=xrY.ok.fn
noncomputable abbrev xIK:Env:=xrY.E.fn 18 1 (lsOf [1000027]) (xO5 [])
theorem xJ4:xOK Tryz.prog (xPq.at 1) xIK:=xrY.ok.fn
theorem xJ3:LoOk Tryz.prog (xPq.at 1) xIK (rmBody (rmOf Tryz.f10)):=xfx (by kernel_rfl)
theorem xKi:rmOf Tryz.f10=rngCode 1 (rmOps9 (rmOf Tryz.f10)) 0 2 (rmOps0 (rmOf Tryz.f10)) 12 1 3 (rmOps1 (rmOf Tryz.f10)) (rmBody (rmOf Tryz.f10)):=by kernel_rfl
noncomputable abbrev xLx (tn:List UInt8) (tcs tkey tfs tck:List AV):AV:=.agg [.str tn,.list 3 tcs,.list 1 tkey,.list 2 tfs,.list 7 tck]
noncomputable abbrev xLK (tn:List UInt8) (tcs tkey tfs tck l:List AV):List AV:=mkTs 18 [(1,.list 3 l),(2,.eptr 5 [xLx tn tcs tkey tfs tck] 0 0)]
noncomputable abbrev xwm (tn:List UInt8) (tcs tkey tfs tck l:List AV):List AV:=(((xLK tn tcs tkey tfs tck l).set 7 (xLx tn tcs tkey tfs tck)).set 8 (.list 3 l)).set 9 (.own (.b 0) 0 0 0)
noncomputable abbrev xz0 (_:Unit) (r:Nat):List AV:=mkTs 18 [(4,.top),(10,.gptr r)]
def xmy (z:Bool) (ys:List AV):List Box:=[⟨0,2,1208925819614912709656576,ys,z,true⟩]
theorem xNr (ys ps:List AV) (k r:Nat) (s:List UInt8):XM Tryz.prog xIK (rmOps1 (rmOf Tryz.f10)) (rmBody (rmOf Tryz.f10)) [4,10] (stepT (mkTs 18 [(4,.top),(10,.gptr r)]) 11 12 13 s (.list 2 ps)) [⟨0,2,1208925819614912709656576,ys,true,true⟩] =
 br (decide ((↑ps.length:Int)>(0:Int))) (some (Exit.ret,[AV.bool false,AV.gptr r],[{ ver:=(0:Nat),sz:=(2:Nat),ty:=(1208925819614912709656576:Nat),xs:=ys,frz:=true,pm:=true }])) (some (Exit.normal,[AV.top,AV.gptr r],[{ ver:=(0:Nat),sz:=(2:Nat),ty:=(1208925819614912709656576:Nat),xs:=ys,frz:=true,pm:=true }])):=by kernel_rfl
theorem xLZ (tn:List UInt8) (Q q O J l:List AV):xOps Tryz.prog xJ2 none (some true) (rmOps9 (rmOf Tryz.f10)) (rmOps9 (rmOf Tryz.f10)).toList.dropLast ⟨xLK tn Q q O J l,[]⟩ some=br (crowds tn Q q O J l).isSome (some ⟨xwm tn Q q O J l,xmy false ((crowds tn Q q O J l).getD [])⟩) none:=by kernel_rfl
theorem xNp (tn:List UInt8) (Q q O J l ys:List AV) (r:Nat):normS 1 [] [4,10] ⟨(xwm tn Q q O J l).set 10 (.gptr r),xmy true ys⟩=some ([.top,.gptr r],xmy true ys):=by kernel_rfl
theorem xNq (ys:List AV) (r:Nat):normS 1 [] [4] ⟨mkTs 18 [(4,.bool false),(10,.gptr r)],xmy true ys⟩=some ([.bool false],xmy true ys):=by kernel_rfl
theorem xMX (ys:List AV):normS 0 [] [4] ⟨mkTs 18 [(4,.bool false)],xmy true ys⟩=some ([.bool false],[]):=by kernel_rfl
theorem xNn (ys:List AV) (r:Nat):normS 0 [] [4] ⟨((xz0 () r).set 11 (.tuple [.bool false])).set 12 (.bool false),xmy true ys⟩=some ([.top],[]):=by kernel_rfl
theorem xIN:(rmOps9 (rmOf Tryz.f10)).toList=(rmOps9 (rmOf Tryz.f10)).toList.dropLast++[(rmOps9 (rmOf Tryz.f10)).toList.getLastD default]:=by kernel_rfl
theorem xKl:noDefer (rmOps9 (rmOf Tryz.f10))=true:=by kernel_rfl
theorem xLV:((rmOps9 (rmOf Tryz.f10)).toList.getLastD default).op=.range 66 (.tmp 9):=by kernel_rfl
theorem xLN:((rmOps9 (rmOf Tryz.f10)).toList.getLastD default).dst=some 10:=by kernel_rfl
theorem xLR:((rmOps9 (rmOf Tryz.f10)).toList.getLastD default).guard=none:=by kernel_rfl
theorem xLX:Tryz.prog.underlying 66=some (.map 9 41):=by kernel_rfl
theorem xIL:(rmOps0 (rmOf Tryz.f10)).toList=[(rmOps0 (rmOf Tryz.f10)).toList.getD 0 default,(rmOps0 (rmOf Tryz.f10)).toList.getD 1 default]:=by kernel_rfl
theorem xKj:noDefer (rmOps0 (rmOf Tryz.f10))=true:=by kernel_rfl
theorem xLT:((rmOps0 (rmOf Tryz.f10)).toList.getD 0 default).op=.next (.tmp 10) false:=by kernel_rfl
theorem xLL:((rmOps0 (rmOf Tryz.f10)).toList.getD 0 default).dst=some 11:=by kernel_rfl
theorem xLP:((rmOps0 (rmOf Tryz.f10)).toList.getD 0 default).guard=none:=by kernel_rfl
theorem xLU:((rmOps0 (rmOf Tryz.f10)).toList.getD 1 default).op=.extract (.tmp 11) 0:=by kernel_rfl
theorem xLM:((rmOps0 (rmOf Tryz.f10)).toList.getD 1 default).dst=some 12:=by kernel_rfl
theorem xLQ:((rmOps0 (rmOf Tryz.f10)).toList.getD 1 default).guard=none:=by kernel_rfl
theorem xIM:(rmOps1 (rmOf Tryz.f10)).toList=((rmOps1 (rmOf Tryz.f10)).toList.getD 0 default)::(rmOps1 (rmOf Tryz.f10)).toList.drop 1:=by kernel_rfl
theorem xKk:noDefer (rmOps1 (rmOf Tryz.f10))=true:=by kernel_rfl
theorem xLW:((rmOps1 (rmOf Tryz.f10)).toList.getD 0 default).op=.entry (.tmp 10):=by kernel_rfl
theorem xLO:((rmOps1 (rmOf Tryz.f10)).toList.getD 0 default).dst=some 13:=by kernel_rfl
theorem xLS:((rmOps1 (rmOf Tryz.f10)).toList.getD 0 default).guard=none:=by kernel_rfl
theorem xMU (tn:List UInt8) (Q q O J l ys:List AV):St.eval ⟨xwm tn Q q O J l,xmy false ys⟩ (.tmp 9)=.own (.b 0) 0 0 0:=by kernel_rfl
theorem xFy (ys:List AV):freeze (xmy false ys) [0]=xmy true ys:=by kernel_rfl
theorem xMW:xOM 1208925819614912709656576=true:=by kernel_rfl
theorem xMY:xOL 1208925819614912709656576 0=false:=by kernel_rfl
theorem xMZ:xOL 1208925819614912709656576 1=false:=by kernel_rfl
theorem xMV (s:Unit) (r:Nat):(xz0 s r)[10]?=some (.gptr r):=by kernel_rfl
theorem xHk (s:Unit) (r:Nat):(xz0 s r).length=18:=by kernel_rfl
theorem xNo (tn:List UInt8) (Q q O J l ys:List AV) (r:Nat):Weak 1 ⟨(xwm tn Q q O J l).set 10 (.gptr r),freeze (xmy false ys) [0]⟩ ⟨xz0 () r,xmy true ys⟩:=by
 have e2:mkTs ((xwm tn Q q O J l).set 10 (.gptr r)).length ([4,10].zip [.top,.gptr r])=xz0 () r:=by kernel_rfl
 have h:=xgc (xNp tn Q q O J l ys r);rw [xFy,<-e2];exact h
noncomputable def xtH:Lp:=lpOf [1,2] [4] [] (xPr (xPK 3 xPv) (xPr (xPL 5 0 0 (xPr (xPG (xPr pStr (xPr (xPK 3 xPv) (xPr (xPK 1 xPv) (xPr (xPK 2 xPv) (xPr (xPK 7 xPv) xPt)))))) xPt)) xPt)) xPt
 fun (l,(((tn,(Q,(q,(O,(J,_))))),_),_)) _=>((crowds tn Q q O J l).isSome&&rowsC ((crowds tn Q q O J l).getD []),.node (anyC ((crowds tn Q q O J l).getD [])) (.leaf .ret [.bool false] []) (.leaf .normal [.top] []))
theorem xCX:PieceOk Tryz.prog (xPq.at 0) 18 (rmOf Tryz.f10) xtH:=xH8 fun vv bb rr hh=>by
 obtain ⟨l,⟨⟨tn,Q,q,J,O,_⟩,_⟩,_⟩:=vv;obtain ⟨h1,rfl⟩:=Prod.mk.inj hh;simp only [zf] at h1;obtain ⟨hc,W⟩:=h1;have U:=xLZ tn Q q J O l;rw [hc] at U;generalize (crowds tn Q q J O l).getD []=ys at *;have Z:∀ k,k<ys.length->(ys.getD k .top).cells.getD 1 .top=.list 2 (rowK ys k):=fun k hk=>by
  obtain ⟨rows,h6⟩:=xe5 (zI.1 W k (List.mem_range.2 hk));unfold rowK;rw [h6];rfl
 obtain ⟨s1,hp,ab⟩:=xsc xLY (K:=some) U;cases ab;rw [xKi];refine xDF (xde (xwJ (Inv:=xPq.at 0) (xOU Tryz.prog _) (σ:=Unit) (ρ:=Unit) (pre:=(rmOps9 (rmOf Tryz.f10)).toList.dropLast) (exts:=(rmOps1 (rmOf Tryz.f10)).toList.drop 1) (o9:=(rmOps9 (rmOf Tryz.f10)).toList.getLastD default) (o0:=(rmOps0 (rmOf Tryz.f10)).toList.getD 0 default) (o1:=(rmOps0 (rmOf Tryz.f10)).toList.getD 1 default) (oe:=(rmOps1 (rmOf Tryz.f10)).toList.getD 0 default)
  (it:=10) (tn:=11) (tb:=12) (te:=13) (tyM:=66) (kt:=9) (et:=41) (mo:=.tmp 9)
  xIN xKl xLV xLN xLR xLX xIL xKj xLT xLL xLP xLU xLM xLQ xIM xKk xLW xLO xLS
  (by decide) (by decide) (by decide)
  hp (s1:=⟨xwm tn Q q J O l,xmy false ys⟩) (nb:=0) (ver:=0) (i:=0) (j:=0) (xMU tn Q q J O l ys) (bx:=⟨0,2,1208925819614912709656576,ys,true,true⟩) (by rw [xFy];rfl) rfl xMW xMY rfl rfl rfl
  (n:=1) (by rw [xFy];exact zd 1) xz0 (fun _=>xmy true ys) (fun _=>mkTs 18 [(4,.bool false)]) (fun _=>xmy true ys) (stepH ys) ()
  (fun _=>zd 1) xMV (fun s r=>by rw [xHk];decide) (fun s r=>by rw [xHk];decide)
  (fun r=>xNo tn Q q J O l ys r) ?_) fun e s' hq=>?_)
 . intro r done s k hk ac ae ad hf;have aa:valAt 0 ⟨0,2,1208925819614912709656576,ys,true,true⟩ k=.list 2 (rowK ys k):=by
    unfold valAt xO7;rw [xMZ];exact Z k hk
   have hx:=xNr ys (rowK ys k) k r (keyAt ⟨0,2,1208925819614912709656576,ys,true,true⟩ k);rw [aa];unfold stepH;cases hb:decide ((↑(rowK ys k).length:Int)>0) with
   | true =>
    rw [hb] at hx;obtain ⟨s2,h1,h2⟩:=xz9 xOT (xOU Tryz.prog _) rfl xJ4 xJ3 hx;exact ⟨s2,h1,xde h2 fun e s' ⟨he,hw⟩=>⟨he,Weak.trans hw (xgc (xNq ys r))⟩⟩
   | false =>
    rw [hb] at hx;obtain ⟨s2,h1,h2⟩:=xz9 xOT (xOU Tryz.prog _) rfl xJ4 xJ3 hx;exact ⟨s2,h1,xde h2 fun e s' ⟨he,hw⟩=>⟨he,hw⟩⟩
 . obtain ⟨ord,Y,hq⟩:=hq;rw [xy9,xIT Y] at hq;unfold anyC;simp only [LR.eval];cases hb:(List.range ys.length).any fun k=>decide ((↑(rowK ys k).length:Int)>0) with
   | true =>
    rw [hb] at hq;obtain ⟨rfl,rfl⟩:=hq;exact ⟨_,xgc (xMX ys),rfl,rfl⟩
   | false =>
    rw [hb] at hq;obtain ⟨rfl,r,rfl⟩:=hq;exact ⟨_,xgc (xNn ys r),rfl,rfl⟩
end Go.Sim.M
end
noncomputable section
set_option maxRecDepth 100000
namespace Go.Sim.M
open Go.IntKind (i64 u64 u8)
open Go.RowKit Go.Proofs
def xfX:Env:=xrY.E.fn 18 0 (lsOf [1000027]) (xO5 [(4000001,xtH)])
theorem xwh:xOK P0 (xPq.at 0) xfX:=xrY.ok.fn
theorem xu9:LoOk P0 (xPq.at xfX.pin) xfX (Tryz.f10.body.getD .skip):=xE8 (ls:=[]) (by kernel_rfl) (fun l a=>by simp at a) (lp0:=xtH) xCX (by kernel_rfl)
def xlE {T:Type} (e:List UInt8) (b a c d l:LA) (δ:T) (κ:Bool->T):T:=br ((crowds e b a c d l).isSome&&rowsC ((crowds e b a c d l).getD [])) (br (anyC ((crowds e b a c d l).getD [])) (κ (false)) (κ (true))) δ
def xb5 (e:List UInt8) (b a c d l:LA):=xlE e b a c d l none some
theorem xAz (e:List UInt8) (b a c d l:LA):Enc (fun (p:Bool)=>((AV.bool p):AV)) (xb5 e b a c d l) (XF P0 xfX Tryz.f10 (Tryz.f10.body.getD .skip) [AV.agg [AV.str e,AV.list 3 b,AV.list 1 a,AV.list 2 c,AV.list 7 d],AV.list 3 l]):=by
 have h:XF P0 xfX Tryz.f10 (Tryz.f10.body.getD .skip) [AV.agg [AV.str e,AV.list 3 b,AV.list 1 a,AV.list 2 c,AV.list 7 d],AV.list 3 l]=xlE e b a c d l none (fun (p:Bool)=>some ((AV.bool p):AV)):=by kernel_rfl
 rw [h];unfold xb5 xlE;repeat' (first|refine Enc.br ?_ ?_|exact Enc.none|exact Enc.some rfl)
def xAy:LA->Option (Bool×AV):=ocOf (xPs (xPJ (xPs (sEq pStr) (xPs (xPI 3 xPv) (xPs (xPI 1 xPv) (xPs (xPI 2 xPv) (xPs (xPI 7 xPv) xPu)))))) (xPs (xPI 3 xPv) xPu)) fun ((e,(b,(a,(c,(d,_))))),(l,_))=>((xb5 e b a c d l).isSome,(AV.bool ((xb5 e b a c d l).getD false)))
theorem xut:OcOk P0 xPq 10 (xAy):=xgE fun h k i=>by
 obtain ⟨⟨j,⟨e,⟨a,⟨f,⟨g,_⟩⟩⟩⟩⟩,⟨l,_⟩⟩:=h;obtain ⟨b,c⟩:=Prod.mk.inj i;refine xi3 (p:=xfX.pin) (xlf xOT (xOU P0 _) rfl xwh Tryz.func10 rfl (by kernel_rfl) xu9 ((xAz _ _ _ _ _ _ _ (xaJ (d:=false) b)).trans ?_))
 exact congrArg some c
def xLI:EO:=xrY.w xut
def xro {T:Type} (a b:LA) (δ:T) (κ:Bool->T):T:=br ((xcJ a b).isSome) (κ ((xcJ a b).getD 0==0)) δ
def xqj (a b:LA):=xro a b none some
def xHi:EO:=xLI.f Tryz.func71 9 0 [] [] lk0 (u2 (uL 3) (uL 3)) (fun (a,b,_) _=>xro a b) (fun _ p=>AV.bool p) false
def xjF {T:Type} (j c:LA) (k:Int) (d:Nat) (a:Int) (e:List UInt8) (f g h i b:LA) (δ:T) (κl:(Nat×Int×List UInt8×LA×LA×LA×LA×LA)->T) (κr:(Nat×LA)->T):T:=br (decide (a<k)) (br (ixI c a) (br (ixT c a 3 [Sh.list 3,Sh.int .i64,Sh.int .i64] 0) (br ((xeg e f g h i (gC c a 0).toList).isSome) (br ((xqj ((xeg e f g h i (gC c a 0).toList).getD []) j).isSome) (br ((xqj ((xeg e f g h i (gC c a 0).toList).getD []) j).getD false) (br (rmB d b 1 40) (κl (d+1,i64.wrap (a+1),e,f,g,h,i,b++[AV.agg [AV.list 3 (gC c a 0).toList,AV.int .i64 (gC c a 1).toInt,AV.int .i64 (gC c a 2).toInt]])) δ) (κl (d,i64.wrap (a+1),e,f,g,h,i,b))) δ) δ) δ) δ) (κr (d,b))
def xdA (c d:LA) (e:Int):StT (Nat×Int×List UInt8×LA×LA×LA×LA×LA) (Nat×LA):=fun (b,f,g,h,i,j,k,a)=>xjF c d e b f g h i j k a none inL inR
def xrE:=xHi.l 28 0 [] [] Tryz.f40 0 lk0 [2,3,7,10,11,12] [7] [(7,3,58)] (q6 (qL 3) (xPF 0 0 0 0) (xPE 1 0 0) (qL 3) qI qI) (q2 (qB 0 5 27 (q1 (xPG (q5 pStr (qL 3) (qL 1) (qL 2) (qL 7))))) (qB 0 3 58 xPv)) (fun (c,_,b,d,e,f,_) (((g,h,i,j,k,_),_),a,_)=>(xdA c d e,(b,f,g,h,i,j,k,a),fun p=>(.leaf (.exit 0) [AV.osl 0 0 0 p.1] [bF 0 3 58 p.2]))) (0,[]) fun (c,_,_,d,e,_,_) _ (b,f,g,h,i,j,k,a)=>(((c,(),b,d,e,f,()),(((g,h,i,j,k,()),()),a,())),xjF c d e b f g h i j k a none)
def xp5 (e:List UInt8) (b a c d l f:LA):=Iter (xdA f l (↑l.length:Int)) (0,0,e,b,a,c,d,[])
def xp4 (e:List UInt8) (b a c d l f:LA):=(xp5 e b a c d l f).getD (0,[])
def xp2 (e:List UInt8) (b a c d l f:LA):=(xp4 e b a c d l f).snd
def xp3 (e:List UInt8) (b a c d l f:LA):=(xp4 e b a c d l f).fst
def xrs {T:Type} (e:List UInt8) (b a c d l f:LA) (δ:T) (κ:LA->T):T:=br ((xp5 e b a c d l f).isSome) (br (decide (0+xp3 e b a c d l f<=(xp2 e b a c d l f).length)&&true) (κ (List.take (xp3 e b a c d l f) (List.drop 0 (xp2 e b a c d l f)))) δ) δ
def xcK (e:List UInt8) (b a c d l f:LA):=xrs e b a c d l f none some
def xCm:EO:=xHi.f Tryz.func40 28 0 [] [(3,xrE.lp)] (lk1 xrE.ok) (u3 (xPJ (u5 (sEq pStr) (uL 3) (uL 1) (uL 2) (uL 7))) (uL 3) (uL 3)) (fun ((e,b,a,c,d,_),l,g,_) _=>xrs e b a c d l g) (fun _ p=>AV.list 3 p) []
def xgw {T:Type} (d:LA) (e:Int) (c:Nat) (a:Int) (b:LA) (δ:T) (κl:(Nat×Int×LA)->T) (κr:(Nat×LA)->T):T:=br (decide (a<e)) (br (ixI d a) (br (ixT d a 3 [Sh.list 3,Sh.int .i64,Sh.int .i64] 0) (br (rmB c b 1 16) (κl (c+1,i64.wrap (a+1),b++[AV.agg [AV.int .i64 (gC d a 1).toInt,AV.int .i64 (gC d a 2).toInt]])) δ) δ) δ) (κr (c,b))
def xc9 (c:LA) (d:Int):StT (Nat×Int×LA) (Nat×LA):=fun (b,e,a)=>xgw c d b e a none inL inR
def xnq:=xCm.l 27 0 [] [] Tryz.f19 0 lk0 [7,13,14,15] [7] [(7,2,50)] (q4 (xPE 0 0 0) (qL 3) qI qI) (q1 (qB 0 2 50 xPv)) (fun (b,c,d,e,_) (a,_)=>(xc9 c d,(b,e,a),fun p=>(.leaf (.exit 0) [AV.osl 0 0 0 p.1] [bF 0 2 50 p.2]))) (0,[]) fun (_,c,d,_,_) _ (b,e,a)=>(((b,c,d,e,()),(a,())),xgw c d b e a none)
def xlc (e:List UInt8) (b a c d l f:LA):=Iter (xc9 ((xcK e b a c d l f).getD []) (↑((xcK e b a c d l f).getD []).length:Int)) (0,0,[])
def xlb (e:List UInt8) (b a c d l f:LA):=(xlc e b a c d l f).getD (0,[])
def xk9 (e:List UInt8) (b a c d l f:LA):=(xlb e b a c d l f).fst
def xla (e:List UInt8) (b a c d l f:LA):=(xlb e b a c d l f).snd
def xk8 (e:List UInt8) (b a c d l f:LA):=xnl (List.take (xk9 e b a c d l f) (List.drop 0 (xla e b a c d l f)))
def xl6 {T:Type} (e:List UInt8) (b a c d l f:LA) (δ:T) (κ:LA->T):T:=br ((xcK e b a c d l f).isSome) (br ((xlc e b a c d l f).isSome) (br (decide (0+xk9 e b a c d l f<=(xla e b a c d l f).length)&&true) (br ((xk8 e b a c d l f).isSome) (κ ((xk8 e b a c d l f).getD [])) δ) δ) δ) δ
def xku (e:List UInt8) (b a c d l f:LA):=xl6 e b a c d l f none some
def xwH:LA->Option (Bool×AV):=fnO (u3 (xPJ (u5 (sEq pStr) (uL 3) (uL 1) (uL 2) (uL 7))) (uL 3) (uL 3)) (fun ((e,b,a,c,d,_),l,f,_) _=>xl6 e b a c d l f) (fun _ p=>AV.list 2 p) []
theorem xrD:OcOk P0 xPq 19 xwH:=fnC xCm.ok Tryz.func19 27 0 [] [(3,xnq.lp)] (lk1 xnq.ok)
def xyV:EO:=xCm.w xrD
def xfo {T:Type} (g:List UInt8) (i j k l b:LA) (m n:Int) (o:LA) (p q:Int) (e:LA) (h:Int) (d:Nat) (c:Int) (f a:LA) (δ:T) (κl:(Nat×Int×LA×LA)->T) (κr:(Nat×LA×LA)->T):T:=br (decide (c<h)) (br (ixI e c) (br (ixT e c 2 [Sh.int .i64,Sh.int .i64] 0) (br (decide (b.length*32<=140737488355328)&&decide (b.length<=4611686018427387904)) (br (decide (0+b.length<=b.length)&&true&&true&&true&&true) (br (rmB d a 1 72) (κl (d+1,i64.wrap (c+1),f,a++[AV.agg [AV.int .i64 2,AV.str g,AV.int .i64 0,AV.list 3 (List.take b.length (List.drop 0 b)),AV.int .i64 (gC e c 0).toInt,AV.int .i64 (gC e c 1).toInt]])) δ) δ) δ) δ) δ) (κr (d,f,a))
def xbD (d:List UInt8) (e f g h i:LA) (j k:Int) (l:LA) (m n:Int) (o:LA) (p:Int):StT (Nat×Int×LA×LA) (Nat×LA×LA):=fun (b,q,c,a)=>xfo d e f g h i j k l m n o p b q c a none inL inR
def xeG:=xyV.l 51 0 [52,1000027,8000000,5000021,6000008,5000037,6000010] [] Tryz.f13 1 lk0 [2,5,6,8,15,16,17,31,32,33] [2,5,6,15,16,17] [(6,6,52)] (q10 (xPL 5 0 0 (q1 (xPG (q5 pStr (qL 3) (qL 1) (qL 2) (qL 7))))) (xPF 0 0 0 0) (xPE 1 0 0) (xPL 3 0 0 (q1 (xPG (q3 (qL 3) qI qI)))) (qL 3) qI qI (qL 2) qI qI) (q2 (qB 0 2 1208925819614912709656576 xPv) (qB 0 6 52 xPv)) (fun (((d,e,f,g,h,_),_),_,b,((m,n,o,_),_),i,j,k,q,r,s,_) (c,a,_)=>(xbD d e f g h m n o i j k q r,(b,s,c,a),fun p=>(.leaf (.exit 2) [AV.eptr 5 [AV.agg [AV.str d,AV.list 3 e,AV.list 1 f,AV.list 2 g,AV.list 7 h]] 0 0,AV.own 0 0 0 0,AV.osl 1 0 0 p.1,AV.list 3 i,AV.int .i64 j,AV.int .i64 k] [bF 0 2 1208925819614912709656576 p.2.1,bF 0 6 52 p.2.2]))) (0,[],[]) fun (((d,e,f,g,h,_),_),_,_,((m,n,o,_),_),i,j,k,q,r,_,_) _ (b,s,c,a)=>(((((d,e,f,g,h,()),()),(),b,((m,n,o,()),()),i,j,k,q,r,s,()),(c,a,())),xfo d e f g h m n o i j k q r b s c a none)
def xbX (a:List UInt8) (b c d e f:LA) (g:Int):=(xhi ((xeg a b c d e (gC f g 0).toList).getD [])).getD []
def xeF (d:List UInt8) (e f g h a:LA) (b:Int) (c:LA):=xiF [AV.agg [AV.int .i64 (gC a b 1).toInt,AV.int .i64 (gC a b 2).toInt]] (lookL c (xbX d e f g h a b))
def xeE (b:List UInt8) (c d e f g:LA) (h:Int) (a:LA):=(xeF b c d e f g h a).getD []
def xeD (d:List UInt8) (e f g h a:LA) (k:Int) (j:Nat) (b:Int) (c i:LA):=Iter (xbD d e f g h (gC a b 0).toList (gC a b 1).toInt (gC a b 2).toInt a k b (xeE d e f g h a b c) (↑(xeE d e f g h a b c).length:Int)) (j,0,c,i)
def xeC (d:List UInt8) (e f g h i:LA) (j:Int) (b:Nat) (k:Int) (c a:LA):=(xeD d e f g h i j b k c a).getD (0,[],[])
def xeB (d:List UInt8) (e f g h i:LA) (j:Int) (b:Nat) (k:Int) (c a:LA):=(xeC d e f g h i j b k c a).snd
def xfn {T:Type} (d:List UInt8) (e f g h b:LA) (k:Int) (j:Nat) (a:Int) (i c:LA) (δ:T) (κl:(Nat×Int×LA×LA)->T) (κr:(Nat×LA)->T):T:=br (decide (a<k)) (br (ixI b a) (br (ixT b a 3 [Sh.list 3,Sh.int .i64,Sh.int .i64] 0) (br ((xeg d e f g h (gC b a 0).toList).isSome) (br ((xhi ((xeg d e f g h (gC b a 0).toList).getD [])).isSome) (br (decide ((xbX d e f g h b a).length<=4611686018427387904)&&(!xPd i (xbX d e f g h b a) || xPo 2 (xO1 AV.nils i (xbX d e f g h b a)))) (br ((xeF d e f g h b a i).isSome) (br ((xeD d e f g h b k j a i c).isSome) (κl ((xeC d e f g h b k j a i c).fst,i64.wrap (a+1),(xeB d e f g h b k j a i c).fst,(xeB d e f g h b k j a i c).snd)) δ) δ) δ) δ) δ) δ) δ) (κr (j,c))
def xbC (d:List UInt8) (e f g h i:LA) (j:Int):StT (Nat×Int×LA×LA) (Nat×LA):=fun (b,k,c,a)=>xfn d e f g h i j b k c a none inL inR
def xlH:=xyV.l 51 0 [52,1000027,8000000,5000021,6000008,5000037,6000010] [(7,xeG.lp)] Tryz.f13 0 (lk1 xeG.ok) [2,5,6,15,16,17] [6] [(6,6,52)] (q6 (xPL 5 0 0 (q1 (xPG (q5 pStr (qL 3) (qL 1) (qL 2) (qL 7))))) (xPF 0 0 0 0) (xPE 1 0 0) (qL 3) qI qI) (q2 (qB 0 2 1208925819614912709656576 xPv) (qB 0 6 52 xPv)) (fun (((d,e,f,g,h,_),_),_,b,i,j,k,_) (c,a,_)=>(xbC d e f g h i j,(b,k,c,a),fun p=>(.leaf (.exit 0) [AV.osl 0 0 0 p.1] [bF 0 6 52 p.2]))) (0,[]) fun (((d,e,f,g,h,_),_),_,_,i,j,_,_) _ (b,k,c,a)=>(((((d,e,f,g,h,()),()),(),b,i,j,k,()),(c,a,())),xfn d e f g h i j b k c a none)
def xjD (e:List UInt8) (b a c d l:LA):=Iter (xbC e b a c d ((xkA l).getD []) (↑((xkA l).getD []).length:Int)) (0,0,(crowds e b a c d l).getD [],[])
def xjC (e:List UInt8) (b a c d l:LA):=(xjD e b a c d l).getD (0,[])
def xjA (e:List UInt8) (b a c d l:LA):=(xjC e b a c d l).fst
def xjB (e:List UInt8) (b a c d l:LA):=(xjC e b a c d l).snd
def xke {T:Type} (e:List UInt8) (b a c d l:LA) (δ:T) (κ:LA->T):T:=br ((crowds e b a c d l).isSome) (br ((xkA l).isSome) (br ((xjD e b a c d l).isSome) (br (decide (0+xjA e b a c d l<=(xjB e b a c d l).length)&&true) (κ (List.take (xjA e b a c d l) (List.drop 0 (xjB e b a c d l)))) δ) δ) δ) δ
def xdf (e:List UInt8) (b a c d l:LA):=xke e b a c d l none some
def xvz:LA->Option (Bool×AV):=fnO (u2 (xPJ (u5 (sEq pStr) (uL 3) (uL 1) (uL 2) (uL 7))) (uL 3)) (fun ((e,b,a,c,d,_),l,_) _=>xke e b a c d l) (fun _ p=>AV.list 6 p) []
theorem xo1:OcOk P0 xPq 13 xvz:=fnC xyV.ok Tryz.func13 51 0 [52,1000027,8000000,5000021,6000008,5000037,6000010] [(7,xeG.lp),(4,xlH.lp)] (lks (lkC xlH.ok (lkC xeG.ok lkN)))
def xLJ:EO:=xyV.w xo1
end Go.Sim.M
end
