/- Part 14 of the proof of the law. -/
import Derived.Test.YtefdfdjimkinpaaGreatDoorTA13
import Derived.Maps.RangeRun
set_option linter.defProp false
set_option linter.unusedVariables false
set_option linter.unusedSimpArgs false
set_option linter.unnecessarySimpa false
noncomputable section
namespace Go.Sim
open Go.RowKit
def Ev.mv {w w':World} {A A':Nat->Prop} {M M':Id->Option MB} {B n:Nat} {H:List Box} {av df:Nat->Prop} (hR:HR w A M B H) (he:Ev ⟨av,w,A,M,n,df⟩ w' A' M') (hn:H.length<=n):Mv w A M w' A' M' :=
 ⟨he.size,fun b hb hA=>he.keep b hb (.inl hA),he.less,he.more,fun id m hm=>he.ids id m (by
  obtain ⟨bx,h1,_⟩:=hR.box id m hm;exact Nat.lt_of_lt_of_le (xjX h1) hn) hm,⟨fun b hb q=>he.keep b hb (.inr q),he.src⟩⟩
def SR.grow {w0 w w':World} {A0:Cx} {A:Nat->Prop} {M:Id->Option MB} {s:St} {a:Act} (h:SR w0 A0 w A M s a) (hb:Below w.heap.size w w'):SR w0 A0 w' A M s a :=
 ⟨
  h.base.trans (hb.mono h.base.size),h.outer,h.size,fun t ht=>(h.tmps t ht).grow hb,h.heap.grow hb,h.defers.same fun D hD=>hb.block D (xjZ hD),
  h.ev.step ⟨hb.size,fun b q _=>hb.block b q,fun _ _ h=>h,fun _ _ h _=>h,MExt.refl M,.of_new hb fun _ _ h=>.inl h⟩⟩
def SR.door {w0 w:World} {A0:Cx} {A:Nat->Prop} {M:Id->Option MB} {s:St} {a:Act} (h:SR w0 A0 w A M s a) (n:Nat):SR w0 ⟨A0.av,w,A,M,n,fun D=>A0.df D\/A0.w1.heap.size<=D⟩ w A M s a :=
 ⟨h.base,h.outer,h.size,h.tmps,h.heap,by
  obtain ⟨L,e1,e2,e3⟩:=h.defers;exact ⟨L,e1,e2,fun D hD=>⟨(e3 D hD).1,.inl (e3 D hD).2.1,(e3 D hD).2.2⟩⟩,Ev.refl (C:=⟨A0.av,w,A,M,n,_⟩)⟩
def SR.undoor {w0 w w':World} {A0:Cx} {A A':Nat->Prop} {M M':Id->Option MB} {s s':St} {a a':Act} {n:Nat} (h:SR w0 A0 w A M s a) (hn:s.heap.length<=n) (h':SR w0 ⟨A0.av,w,A,M,n,fun D=>A0.df D\/A0.w1.heap.size<=D⟩ w' A' M' s' a'):SR w0 A0 w' A' M' s' a'/\Mv w A M w' A' M':=by
 have q:=h'.ev.mv h.heap hn;refine ⟨⟨h'.base,h'.outer,h'.size,h'.tmps,h'.heap,?_,h.ev.step q⟩,q⟩;obtain ⟨L,e1,e2,e3⟩:=h'.defers;refine ⟨L,e1,e2,fun D hD=>⟨(e3 D hD).1,?_,(e3 D hD).2.2⟩⟩
 rcases (e3 D hD).2.1 with h1|h1
 . exact h1
 . exact .inr (Nat.le_trans h.ev.size h1)
structure Itr (w:World) (A:Nat->Prop) (M:Id->Option MB) (r bm:Nat) (e1 es:Array MapEntry) (clock:Nat) (seen:Array Nat) (kv:List (List UInt8×AV)) (done:List Nat):Prop where
 it:w.heap[r]?=some (.mapIter (some bm) clock seen clock)
 map:w.heap[bm]?=some (.map e1 clock)
 av:¬ A bm
 perm:MapP e1 es clock
 size:es.size=kv.length
 keys:∀ (i:Nat) (x:MapEntry),es[i]?=some x->∃ t:ByteArray,x.key=.string t/\(kv.getD i ([],.top)).1=t.data.toList
 vals:∀ (i:Nat) (x:MapEntry),es[i]?=some x->Rel w A M x.val (kv.getD i ([],.top)).2
 seen:∀ (i:Nat) (x:MapEntry),es[i]?=some x->(seen.contains x.born=true↔i∈done)
 nodup:done.Nodup
 lt:∀ i,i∈done->i<kv.length
section
variable {P : Program} {w w' : World} {A A' : Nat -> Prop} {M M' : Id -> Option MB} {r bm clock B : Nat} {e1 es : Array MapEntry} {seen : Array Nat} {kv : List (List UInt8 × AV)} {done : List Nat} {H : List Box}
def Itr.mv (h:Itr w A M r bm e1 es clock seen kv done) (hR:HR w A M B H) (hm:Mv w A M w' A' M'):Itr w' A' M' r bm e1 es clock seen kv done :=
 ⟨(hm.touch.1 r (xjZ h.it) (hR.not_box h.it (by simp) (by simp))).trans h.it,(hm.keep bm (xjZ h.map) h.av).trans h.map,fun hA=>h.av (hm.less bm (xjZ h.map) hA),h.perm,h.size,h.keys,fun i x hx=>hm.rel (h.vals i x hx),h.seen,h.nodup,h.lt⟩
def getElem?_ext_lt {α:Type} {es:Array α} {i:Nat} {x:α} (h:es[i]?=some x):i<es.size:=by
 rcases zK i es.size with h'|h'
 . exact h'
 . rw [Array.getElem?_eq_none h'] at h;simp at h
def Itr.next (h:Itr w A M r bm e1 es clock seen kv done) (ty:TypeId) :
  (done.Perm (List.range kv.length)/\(Instr.next (.pointer (some ⟨r,0,none⟩)) false ty).run P w=.ok (.tuple #[.bool false]) w) \/
  ∃ (i:Nat) (e:MapEntry) (w1:World) (q:Array Nat),i<kv.length/\i∉done/\es[i]?=some e/\Below w.heap.size w w1/\(∀ a u,w.cell? a=some u->w1.cell? a=some u)/\w1.heap[r]?=some (.mapIter (some bm) clock seen clock) /\
   (Instr.next (.pointer (some ⟨r,0,none⟩)) false ty).run P w=.ok (.tuple #[.bool true,e.key,e.val]) (w1.putObj r (.mapIter (some bm) clock q clock))/\Itr (w1.putObj r (.mapIter (some bm) clock q clock)) A M r bm e1 es clock q kv (done++[i]) /\
   (∀ w2 A2 M2,Itr w2 A2 M2 r bm e1 es clock q kv (done++[i])->(Instr.entry (.pointer (some ⟨r,0,none⟩))).run P w2=.ok (.tuple #[e.key,e.val]) w2)/\(leftOf e1 q).size<(leftOf e1 seen).size:=by
 obtain ⟨hp,W,Z⟩:=h.perm;have ac:(e1.toList.map (·.born)).Nodup:=((hp.map _).nodup_iff).2 Z;have O:∀ i x,es[i]?=some x->i<kv.length:=fun i x hx=>by rw [<-h.size];exact getElem?_ext_lt hx
 rcases run_next_at (P:=P) w ty r bm clock clock seen e1 clock h.it h.map (fun x hx=>W x (hp.mem_iff.1 hx)) (zd _) with ⟨h0,D⟩|⟨e,he,w1,J,D⟩
 . refine .inl ⟨?_,D⟩;refine (List.perm_ext_iff_of_nodup h.nodup List.nodup_range).2 fun i=>⟨fun hi=>List.mem_range.2 (h.lt i hi),fun hi=>?_⟩
   have hi':i<es.size:=by rw [h.size];exact List.mem_range.1 hi
   have hx:es[i]?=some es[i]:=by simp [hi']
   exact (h.seen i _ hx).1 (all_seen e1 seen h0 _ (hp.mem_iff.2 (by simp)))
 . obtain ⟨Y,ab⟩:=mem_left he;obtain ⟨i,hi⟩:=List.mem_iff_getElem?.1 (hp.mem_iff.1 Y);have hi:es[i]?=some e:=by simpa using hi
   have hb:Below w.heap.size w w1:=by
    rcases J with rfl|rfl
    . exact Below.refl _ _
    . exact ⟨rfl,rfl,rfl,zd _,fun _ _=>rfl⟩
   have hc:∀ a u,w.cell? a=some u->w1.cell? a=some u:=fun a u hu=>by rcases J with rfl|rfl<;>exact hu
   have hsz:w1.heap.size=w.heap.size:=by rcases J with rfl|rfl<;>rfl
   have V:w1.heap[r]?=some (.mapIter (some bm) clock seen clock):=by rcases J with rfl|rfl<;>exact h.it
   have af:w1.heap[bm]?=some (.map e1 clock):=by rcases J with rfl|rfl<;>exact h.map
   have hne:bm≠r:=fun e=>by have:=h.map;rw [e,h.it] at this;simp at this
   have Q:i∉done:=fun hd=>by rw [(h.seen i e hi).2 hd] at ab;cases ab
   have ae:(w1.putObj r (.mapIter (some bm) clock (seen.push e.born) clock)).heap[bm]?=some (.map e1 clock):=(World.putObj_heap_other hne).trans af;have ad:(w1.putObj r (.mapIter (some bm) clock (seen.push e.born) clock)).heap[r]?=some (.mapIter (some bm) clock (seen.push e.born) clock):=World.putObj_heap_same (xjZ V);refine .inr ⟨i,e,w1,seen.push e.born,O i e hi,Q,hi,hb,hc,V,D,⟨ad,ae,h.av,h.perm,h.size,h.keys,fun k x hx=>?_,fun k x hx=>?_,?_,fun k hk=>?_⟩,fun w2 A2 M2 h2=>run_entry_at _ r bm clock seen e1 clock e h2.it h2.map Y ac,left_shrinks e1 seen e he⟩
   . exact ((h.vals k x hx).grow hb).turn (by simp) (xoe V ⟨by simp,by simp⟩)
   . rw [contains_push,Bool.or_eq_true,h.seen k x hx,zH,zw,beq_iff_eq];constructor
     . rintro (h1|h1)
       . exact .inl h1
       . right;have hk:=getElem?_ext_lt hx;have aa:=getElem?_ext_lt hi;have e3:es[k]=x:=by simpa [hk] using hx
         have e4:es[i]=e:=by simpa [aa] using hi
         have:=(List.getElem_inj (i:=k) (j:=i) (h₀:=by simpa using hk) (h₁:=by simpa using aa) Z).1 (by simp [e3,e4,h1])
         exact this
     . rintro (h1|rfl)
       . exact .inl h1
       . right;rw [hi] at hx;simp only [z6] at hx;rw [hx]
   . rw [List.nodup_append];exact ⟨h.nodup,by simp,fun a ha c hc=>by simp only [zw] at hc;rintro rfl;exact Q (hc▸ha)⟩
   . rcases zH.1 hk with hk|hk
     . exact h.lt k hk
     . simp only [zw] at hk;subst hk;exact O k e hi
end
def stepI {σ ρ:Type} (step:σ->Nat->σ⊕ρ):σ⊕ρ->Nat->σ⊕ρ
 | .inl s,x=>step s x
 | .inr r,_=>.inr r
def xuy {σ ρ:Type} (step:σ->Nat->σ⊕ρ) (r:ρ):∀ l:List Nat,l.foldl (stepI step) (.inr r)=.inr r
 | []=>rfl
 | x::l=>by simp only [List.foldl_cons,stepI];exact xuy step r l
def xs4 {P:Program} {ro:Option Nat} {c:Code} {Qc:Exit->Act->World->Prop} (I:Nat->Act->World->Prop)
  (D:∀ n a w,I n a w->c.wpIn (wideR ro) 0 P (fun e a' w'=>match e with|.normal=>∃ n',n'<n/\I n' a' w'|e=>Qc e a' w') a w) (n:Nat) (a:Act) (w:World) (h:I n a w):(Code.loop c).wpIn (wideR ro) 0 P Qc a w:=by
 intro b k cs hb _ _;have hb:b.roundOf=ro:=hb;subst hb;have key:∀ n a w,I n a w->∃ e a' w',Qc e a' w'/\ArrivesIn (Machine.fenced P (wideR b.roundOf)) P (lone (b.atR a (.code c::.inLoop c::k)) cs w) b k cs e a' w':=by
  intro n;induction n using Nat.strongRecOn with
  | _ n ih =>
   intro a w hI;obtain ⟨e,a₁,w₁,hq,q⟩:=D n a w hI b (.inLoop c::k) cs rfl (xsc _ _) (xpr _ _);cases e with
   | normal =>
    obtain ⟨n',k1,k2⟩:=hq;obtain ⟨e₂,a₂,w₂,O,J⟩:=ih n' k1 a₁ w₁ k2;exact ⟨e₂,a₂,w₂,O,.of_steps (StepsIn.trans q (.one (xlE _ P _) stepR_inLoop)) J⟩
   | exit id=>exact ⟨_,a₁,w₁,hq,.pass (x:=.inLoop c) rfl (fun _ _=>.inl (by simp)) q⟩
   | goto l=>exact ⟨_,a₁,w₁,hq,.pass (x:=.inLoop c) rfl (fun _ _=>.inl (by simp)) q⟩
   | ret=>exact ⟨_,a₁,w₁,hq,.pass (x:=.inLoop c) rfl (fun _ _=>.inl (by simp)) q⟩
   | panic ch=>exact ⟨_,a₁,w₁,hq,.pass (x:=.inLoop c) rfl (fun _ _=>.inl (by simp)) q⟩
   | outgrown=>exact ⟨_,a₁,w₁,hq,.pass (x:=.inLoop c) rfl (fun _ _=>.inl (by simp)) q⟩
 obtain ⟨e,a',w',hq,q⟩:=key n a w h;exact ⟨e,a',w',hq,.of_steps (.one (xlE _ P _) stepR_loop) q⟩
def xgW {P:Program} {Inv:IV} {w0:World} {A0:Cx} (W:InvOk Inv) (hI:Inv w0) {ops:Array Oper} {Q:Exit->Act->World->Prop} {rest:List Oper} {l:List Oper} {s s':St} (hp:Path (OpA P Inv) ops l s s') :
  ∀ {w:World} {A:Nat->Prop} {M:Id->Option MB} {a:Act},SR w0 A0 w A M s a ->
  (∀ a' w' A' M',SR w0 A0 w' A' M' s' a'->Mv w A M w' A' M'->wpList P ops Q rest a' w')->wpList P ops Q (l++rest) a w:=by
 induction hp with
 | nil s=>intro w A M a hs hK;exact hK a w A M hs Mv.refl
 | run hw h hr ih =>
  intro w A M a hs hK;have D:=xfd (w:=w) (A:=A) (M:=M) hs.size (fun j J d _ _ q=>hs.tmps d q) hw
  rw [List.cons_append];unfold wpList;rw [if_pos D];exact .inl (xik W hI h hs fun v w' A' M' O V=>ih O fun a2 w2 A2 M2 h2 m2=>hK a2 w2 A2 M2 h2 (V.trans m2))
 | skip hw hr ih =>
  intro w A M a hs hK;have D:=xfd (w:=w) (A:=A) (M:=M) hs.size (fun j J d _ _ q=>hs.tmps d q) hw
  rw [List.cons_append];unfold wpList;rw [if_neg (by rw [D];simp)]
  exact ih (hs.skip _) fun a2 w2 A2 M2 h2 m2=>hK a2 w2 A2 M2 h2 m2
def keyAt (bx:Box) (k:Nat):List UInt8:=match (bx.xs.getD k .top).cells.getD 0 .top with
 | .str s=>s
 | _=>[]
def valAt (nb:Nat) (bx:Box) (k:Nat):AV:=xIw nb k 1 bx.ty ((bx.xs.getD k .top).cells.getD 1 .top)
def kvOf (nb:Nat) (bx:Box):List (List UInt8×AV):=(List.range bx.xs.length).map fun k=>(keyAt bx k,valAt nb bx k)
def xjd (nb:Nat) (bx:Box):(kvOf nb bx).length=bx.xs.length:=by simp [kvOf]
def xo1 {nb:Nat} {bx:Box} {k:Nat} (h:k<bx.xs.length):(kvOf nb bx).getD k ([],.top)=(keyAt bx k,valAt nb bx k):=by
 simp [kvOf,z7,h]
def rngCode (i9:Nat) (D:Array Oper) (ex i0:Nat) (q:Array Oper) (tb:Tmp) (ib i1:Nat) (O:Array Oper) (J:Code):Code :=
 .seq (.region i9 D false) (.block ex (.loop (.seq (.region i0 q false) (.seq (.cond (.tmp tb) .skip (.exit ex)) (.block ib (.seq (.region i1 O false) J))))))
def stepT (Lr:List AV) (tn tb te:Tmp) (k:List UInt8) (v:AV):List AV:=((Lr.set tn (.tuple [.bool true,.str k,v])).set tb (.bool true)).set te (.tuple [.str k,v])
section
variable {P : Program} {w : World} {A : Nat -> Prop} {M : Id -> Option MB} {B : Nat} {H : List Box}
def xCv (hR:HR w A M B H) {v:Value} {n ver i j:Nat} {bx:Box} (h:Rel w A M v (.own (.b n) ver i j)) (J:H[n]?=some bx) (D:bx.ver=ver) (O:xIa bx.ty=true) :
  ∃ m,M (.b n)=some m/\BoxAt w A M B (.b n) m bx/\v=.map (some m.b)/\0<m.cap:=by
 obtain ⟨m,hm,hv,h1,he⟩:=Rel.own_inv h;obtain ⟨bx',h2,h3⟩:=hR.box _ m hm;rw [xbG,J] at h2;cases h2;refine ⟨m,hm,h3,?_⟩;have q:xIa m.ty=true:=by rw [<-h3.ty];exact xmH O
 have h0:=he (by rw [<-D,h3.ver])
 unfold ptrOf at h0;rw [q] at h0;cases hc:m.cap with
 | zero =>
  rw [hc] at h0;simp only at h0;rw [h0] at h1;cases h1
 | succ k =>
  rw [hc] at h0;exact ⟨h0,Nat.succ_pos k⟩
def xAY (hR:HR w A M B H) {v:Value} {n ver i j:Nat} {bx:Box} (h:Rel w A M v (.own (.b n) ver i j)) (ad:H[n]?=some bx) (ab:bx.ver=ver) (W:xIa bx.ty=true) (ac:xH9 bx.ty 0=false) (aa:bx.sz=2) (Z:bx.pm=true) (ae:bx.frz=true) {t kt et:TypeId} (Y:P.underlying t=some (.map kt et)) :
  ∃ bm e1 es clock,(Instr.range t v).run P w=.ok (.pointer (some ⟨w.heap.size,0,none⟩)) (w.alloc (.mapIter (some bm) clock #[] clock))/\Itr (w.alloc (.mapIter (some bm) clock #[] clock)) A M w.heap.size bm e1 es clock #[] (kvOf n bx) []:=by
 obtain ⟨m,hm,D,rfl,hcap⟩:=xCv hR h ad ab W;obtain ⟨es,clock,q,_,O⟩:=D.mapKs W ac aa Z hcap;obtain ⟨e1,Q,hP⟩:=q.heap;have J:=xe9 w (.mapIter (some m.b) clock #[] clock);have V:∀ k x,es[k]?=some x->k<bx.xs.length:=fun k x hx=>by rw [<-q.size];exact getElem?_ext_lt hx
 refine ⟨m.b,e1,es,clock,run_range_map w t kt et m.b e1 clock Y Q,heap_alloc_new w _,(J.block _ (xjZ Q)).trans Q,fun hA=>?_,hP,by rw [q.size,xjd],fun k x hx=>?_,fun k x hx=>?_,fun k x _=>by simp,List.nodup_nil,by simp⟩
 . have:=(D.guard hcap).2 hA;rw [ae] at this;cases this
 . obtain ⟨t,h1,h2,_⟩:=q.keys k x hx;refine ⟨t,h1,?_⟩;rw [xo1 (V k x hx)];show keyAt bx k=_;unfold keyAt;rw [h2]
 . rw [xo1 (V k x hx)];exact ((O k x hx).unmv).grow J
end
def xuj {n:Nat} {l:List Nat} (hn:l.Nodup) (hl:∀ i,i∈l->i<n):∃ l',(l++l').Perm (List.range n):=by
 refine ⟨(List.range n).filter fun i=>!l.contains i,(List.perm_ext_iff_of_nodup ?_ List.nodup_range).2 fun i=>?_⟩
 . rw [List.nodup_append];refine ⟨hn,List.nodup_range.filter _,fun a ha b hb=>?_⟩
   rintro rfl;have:=(List.mem_filter.1 hb).2;simp [ha] at this
 . rw [zH,List.mem_filter,List.mem_range];constructor
   . rintro (h|h)
     . exact hl i h
     . exact h.1
   . intro h;by_cases hi:i∈l
     . exact .inl hi
     . exact .inr ⟨h,by simp [hi]⟩
def xwy {P:Program} {Inv:IV} (ay:InvOk Inv) {σ ρ:Type} {i9 ex i0 ib i1:Nat} {ae ak af:Array Oper} {ba:Code} {pre exts:List Oper} {o9 o0 o1 oe:Oper} {it tn tb te:Tmp} {tyM kt et:TypeId} {mo:Operand}
  (bi:ae.toList=pre++[o9]) (cb:noDefer ae=true) (c4:o9.op=.range tyM mo) (c6:o9.dst=some it) (c5:o9.guard=none) (cr:P.underlying tyM=some (.map kt et))
  (bl:ak.toList=[o0,o1]) (bz:noDefer ak=true) (bv:o0.op=.next (.tmp it) false) (ce:o0.dst=some tn) (co:o0.guard=none) (cc:o1.op=.extract (.tmp tn) 0) (ca:o1.dst=some tb) (b3:o1.guard=none)
  (bk:af.toList=oe::exts) (cg:noDefer af=true) (c2:oe.op=.entry (.tmp it)) (cx:oe.dst=some te) (c3:oe.guard=none)
  (cl:it≠tn) (cj:it≠tb) (c8:tn≠tb)
  {s s1:St} (ck:Path (OpA P Inv) ae pre s s1) {nb ver i j:Nat} (hm:s1.eval mo=.own (.b nb) ver i j) {bx:Box} (hb:(freeze s1.heap [nb])[nb]?=some bx) (b2:bx.ver=ver) (cz:xIa bx.ty=true) (h0:xH9 bx.ty 0=false) (hsz:bx.sz=2) (cn:bx.pm=true) (cv:bx.frz=true)
  {n:Nat} (cu:(freeze s1.heap [nb]).length<=n) (Lf:σ->Nat->List AV) (Hf:σ->List Box) (Lo:ρ->List AV) (Ho:ρ->List Box) (step:σ->Nat->σ⊕ρ) (s0:σ)
  (a5:∀ s,(Hf s).length<=n) (a8:∀ s r,(Lf s r)[it]?=some (.gptr r)) (bw:∀ s r,tn<(Lf s r).length) (b1:∀ s r,tb<(Lf s r).length)
  (be:∀ r,Weak n ⟨s1.tmps.set it (.gptr r),freeze s1.heap [nb]⟩ ⟨Lf s0 r,Hf s0⟩)
  (aw:∀ (r:Nat) (done:List Nat) (s:σ) (k:Nat),k<bx.xs.length->k∉done->done.Nodup->(∀ i,i∈done->i<bx.xs.length)->done.foldl (stepI step) (.inl s0)=.inl s->∃ s2,Path (OpA P ⟨Inv.inv,n,Inv.top⟩) af exts ⟨stepT (Lf s r) tn tb te (keyAt bx k) (valAt nb bx k),Hf s⟩ s2 /\
   Does P ⟨Inv.inv,n,Inv.top⟩ ba (fun e s'=>match step s k with
    | .inl s3=>e=.normal/\Weak n s' ⟨Lf s3 r,Hf s3⟩
    | .inr q=>e=.ret/\Weak n s' ⟨Lo q,Ho q⟩) s2) :
  Does P Inv (rngCode i9 ae ex i0 ak tb ib i1 af ba) (fun e s'=>∃ ord:List Nat,ord.Perm (List.range bx.xs.length)/\match ord.foldl (stepI step) (.inl s0) with
   | .inl s=>e=.normal/\∃ r,s'=⟨((Lf s r).set tn (.tuple [.bool false])).set tb (.bool false),Hf s⟩
   | .inr q=>e=.ret/\s'=⟨Lo q,Ho q⟩) s:=by
 intro w0 A0 w A M a Qc hI c7 hs hQ ro cq;unfold rngCode;refine wpIn_seq (wpIn_region_list (xey ro 0 _ (xcQ cb) _ _ ?_));rw [bi];refine xgW ay hI ck hs fun a1 w1 A1 M1 a2 b7=>wpList_plain c5 fun K hK=>?_
 obtain ⟨A2,au,b4⟩:=a2.refreeze (HSub.freeze s1.heap [nb]);have bn:=au.eval mo;rw [show St.eval ⟨s1.tmps,freeze s1.heap [nb]⟩ mo=s1.eval mo from by cases mo<;>rfl,hm] at bn
 obtain ⟨bm,e1,es,clock,J,V⟩:=xAY au.heap bn hb b2 cz h0 hsz cn cv cr;obtain ⟨w3,bt⟩:∃ w3,w3=w1.alloc (.mapIter (some bm) clock #[] clock):=⟨_,rfl⟩;rw [<-bt] at J V;have am:Below w1.heap.size w1 w3:=by rw [bt];exact xe9 w1 _
 obtain ⟨r,hr⟩:∃ r,r=w1.heap.size:=⟨_,rfl⟩;rw [<-hr] at J V;have Q:=au.grow am;have Q:=Q.put (d:=some it) Q.base Q.outer Mv.refl Q.heap (Rel.gptr (w:=w3) (A:=A2) (M:=M1) r);have c0:w0.heap.size<=r:=by rw [hr];exact a2.base.size
 have ct:A0.w1.heap.size<=r:=by rw [hr];exact a2.ev.size
 unfold Oper.wp;simp only [execOp,c4,J,Sem.run_bind,Result.andThen_ok,Sem.run_pure];show K (a1.put o9.dst (.pointer (some ⟨r,0,none⟩))) w3;rw [c6];refine hK _ _ ?_;obtain ⟨A4,M4,a0⟩:=be r w0 _ w3 A2 M1 _ (zd n) (Q.door n);obtain ⟨a0,bc⟩:=Q.undoor cu a0;have ap:=V.mv Q.heap bc;refine wpIn_block ?_;refine xs4 (fun N a' w'=>∃ done s' A' M' seen,SR w0 A0 w' A' M' ⟨Lf s' r,Hf s'⟩ a'/\Itr w' A' M' r bm e1 es clock seen (kvOf nb bx) done/\done.foldl (stepI step) (.inl s0)=.inl s'/\(leftOf e1 seen).size=N) ?_ _ _ _ ⟨[],s0,A4,M4,#[],a0,ap,rfl,rfl⟩
 clear a0 ap bc V Q J am bt bn au b4 hK a2 b7;rintro N a' w' ⟨done,s',A',M',seen,aj,an,Y,rfl⟩;have ch:a'.eval (.tmp it)=.pointer (some ⟨r,0,none⟩):=by
  have:=aj.eval (.tmp it);have e:St.eval ⟨Lf s' r,Hf s'⟩ (.tmp it)=.gptr r:=by show (Lf s' r).getD it .top=_;rw [z7,a8 s' r];rfl
  rw [e] at this;generalize a'.eval (.tmp it)=v at this;cases this;rfl
 refine wpIn_seq (wpIn_region_list (xey ro 0 _ (xcQ bz) _ _ ?_));rw [bl];refine wpList_plain co fun K hK=>?_
 rcases an.next (P:=P) o0.type with ⟨al,J⟩|⟨k,e,wd,ac,hk,b9,cd,cp,c9,cf,J,ag,b8,b0⟩
 ·
  unfold Oper.wp;simp only [execOp,bv,ch,J,Sem.run_bind,Result.andThen_ok,Sem.run_pure];show K (a'.put o0.dst (.tuple #[.bool false])) w';rw [ce];refine hK _ _ (wpList_plain b3 fun K2 bu=>?_)
  have ai:=aj.put (d:=some tn) aj.base aj.outer Mv.refl aj.heap (Rel.tuple (w:=w') (A:=A') (M:=M') #[.bool false] [.bool false] rfl (fun i hi=>by
   rcases i with _|i
   . exact .bool false
   . simp at hi))
  have bq:OpA P Inv ⟨putT (Lf s' r) (some tn) (.tuple [.bool false]),Hf s'⟩ o1 ⟨putT (putT (Lf s' r) (some tn) (.tuple [.bool false])) o1.dst (.bool false),Hf s'++(none:Option Box).toList⟩:=by
   refine .inl (.inl ⟨.bool false,none,.inl ?_,rfl⟩);rw [cc];simp [fop,St.eval,putT,z7,bw s' r]
  refine xik ay hI bq ai fun v w6 A6 M6 ab _=>bu _ _ ?_
  rw [ca] at ab |-;simp only [Option.toList,zF,putT] at ab;have ao:(a'.put (some tn) (.tuple #[.bool false]) |>.put (some tb) v).eval (.tmp tb)=.bool false:=by
   have:=ab.eval (.tmp tb);have e:St.eval ⟨((Lf s' r).set tn (.tuple [.bool false])).set tb (.bool false),Hf s'⟩ (.tmp tb)=.bool false:=by simp [St.eval,z7,b1 s' r]
   rw [e] at this;exact this.bool_inv
  refine wpIn_seq (wpIn_cond_split ao (fun h=>by cases h) fun _=>wpIn_exit ?_)
  show Exit.inBlock ex Qc (.exit ex) _ _;simp only [Exit.inBlock,if_true];rw [xjd] at al;exact hQ .normal _ _ _ ⟨done,al,by rw [Y];exact ⟨rfl,r,rfl⟩⟩ ⟨A6,M6,ab⟩
 ·
  rw [xjd] at hk;unfold Oper.wp;simp only [execOp,bv,ch,J,Sem.run_bind,Result.andThen_ok,Sem.run_pure];obtain ⟨w5,bp⟩:∃ w5,w5=wd.putObj r (.mapIter (some bm) clock ac clock):=⟨_,rfl⟩;rw [<-bp] at ag;show K (a'.put o0.dst (.tuple #[.bool true,e.key,e.val])) (wd.putObj r (.mapIter (some bm) clock ac clock));rw [<-bp,ce];refine hK _ _ (wpList_plain b3 fun K2 bu=>?_)
  have b5:=aj.grow cp;have ai:SR w0 A0 w5 A' M' ⟨Lf s' r,Hf s'⟩ a':=by
   rw [bp];exact b5.turn (ds:=a'.defers) cf ⟨by simp,by simp⟩ c0 ct _ (b5.defers.same fun D hD=>World.putObj_heap_other (fun e=>by rw [e,cf] at hD;simp at hD))
  obtain ⟨tk,bb,W⟩:=ag.keys k e cd;rw [xo1 hk] at W;have ah:=ag.vals k e cd;rw [xo1 hk] at ah;simp only at W ah;have cm:Rel w5 A' M' e.key (.str (keyAt bx k)):=by rw [bb,W];exact .str tk
  have ab:=ai.put (d:=some tn) ai.base ai.outer Mv.refl ai.heap (Rel.tuple (w:=w5) (A:=A') (M:=M') #[.bool true,e.key,e.val] [.bool true,.str (keyAt bx k),valAt nb bx k] rfl (fun i hi=>by
   rcases i with _|_|_|i
   . exact .bool true
   . exact cm
   . exact ah
   . simp at hi;omega))
  have bq:OpA P Inv ⟨putT (Lf s' r) (some tn) (.tuple [.bool true,.str (keyAt bx k),valAt nb bx k]),Hf s'⟩ o1 ⟨putT (putT (Lf s' r) (some tn) (.tuple [.bool true,.str (keyAt bx k),valAt nb bx k])) o1.dst (.bool true),Hf s'++(none:Option Box).toList⟩:=by
   refine .inl (.inl ⟨.bool true,none,.inl ?_,rfl⟩);rw [cc];simp [fop,St.eval,putT,z7,bw s' r]
  refine xik ay hI bq ab fun v w7 A7 M7 Z a6=>bu _ _ ?_
  have ad:=ag.mv ab.heap a6;rw [ca] at Z |-;simp only [Option.toList,zF,putT] at Z;have ao:((a'.put (some tn) (.tuple #[.bool true,e.key,e.val])).put (some tb) v).eval (.tmp tb)=.bool true:=by
   have:=Z.eval (.tmp tb);have e:St.eval ⟨((Lf s' r).set tn (.tuple [.bool true,.str (keyAt bx k),valAt nb bx k])).set tb (.bool true),Hf s'⟩ (.tmp tb)=.bool true:=by simp [St.eval,z7,b1 s' r]
   rw [e] at this;exact this.bool_inv
  refine wpIn_seq (wpIn_cond_split ao (fun _=>wpIn_skip ?_) (fun h=>by cases h))
  refine wpIn_block (wpIn_seq (wpIn_region_list (xey ro 0 _ (xcQ cg) _ _ ?_)));rw [bk];refine wpList_plain c3 fun K3 cw=>?_
  have a3:((a'.put (some tn) (.tuple #[.bool true,e.key,e.val])).put (some tb) v).eval (.tmp it)=.pointer (some ⟨r,0,none⟩):=by
   have:=Z.eval (.tmp it);have e:St.eval ⟨((Lf s' r).set tn (.tuple [.bool true,.str (keyAt bx k),valAt nb bx k])).set tb (.bool true),Hf s'⟩ (.tmp it)=.gptr r:=by
    simp [St.eval,z7,List.getElem?_set,Ne.symm cl,Ne.symm cj,a8 s' r]
   rw [e] at this;generalize Act.eval _ (.tmp it)=u at this;cases this;rfl
  generalize ((a'.put (some tn) (.tuple #[.bool true,e.key,e.val])).put (some tb) v)=a7 at Z a3;have bd:=b8 w7 A7 M7 ad;unfold Oper.wp;simp only [execOp,c2,a3,bd,Sem.run_bind,Result.andThen_ok,Sem.run_pure];show K3 (a7.put oe.dst (.tuple #[e.key,e.val])) w7;rw [cx];refine cw _ _ ?_;have b6:Rel w7 A7 M7 e.key (.str (keyAt bx k)):=by rw [bb,W];exact .str tk
  have bo:Rel w7 A7 M7 e.val (valAt nb bx k):=a6.rel ah;have az:=Z.put (d:=some te) Z.base Z.outer Mv.refl Z.heap (Rel.tuple (w:=w7) (A:=A7) (M:=M7) #[e.key,e.val] [.str (keyAt bx k),valAt nb bx k] rfl (fun i hi=>by
   rcases i with _|_|i
   . exact b6
   . exact bo
   . simp at hi;omega))
  obtain ⟨s2,cy,bj⟩:=aw r done s' k hk b9 an.nodup (fun i hi=>by have:=an.lt i hi;rwa [xjd] at this) Y
  have bh:=az.door n;refine xsA (Inv:=⟨Inv.inv,n,Inv.top⟩) ⟨ay.below⟩ hI cy bh fun a9 w9 ⟨A9,M9,hs9⟩=>?_
  refine bj w0 _ w9 A9 M9 a9 _ hI (zd n) hs9 ?_ ro cq;rintro ee ss aa ww hq ⟨A10,M10,a4⟩;cases ax:step s' k with
  | inl s3 =>
   rw [ax] at hq;obtain ⟨rfl,bf⟩:=hq;obtain ⟨A11,M11,O⟩:=bf w0 _ ww A10 M10 aa (zd n) a4;obtain ⟨O,aq⟩:=az.undoor (a5 s') O;have bg:=ad.mv az.heap aq;exact ⟨_,b0,done++[k],s3,A11,M11,ac,O,bg,by rw [List.foldl_append,Y];exact ax,rfl⟩
  | inr q =>
   rw [ax] at hq;obtain ⟨rfl,bf⟩:=hq;obtain ⟨A11,M11,O⟩:=bf w0 _ ww A10 M10 aa (zd n) a4;obtain ⟨O,aq⟩:=az.undoor (a5 s') O;obtain ⟨l',ci⟩:=xuj ad.nodup ad.lt;rw [xjd] at ci;refine hQ .ret _ _ _ ⟨(done++[k])++l',ci,?_⟩ ⟨A11,M11,O⟩;rw [List.foldl_append,List.foldl_append,Y];show match List.foldl (stepI step) (step s' k) l' with|.inl _=>_|.inr _=>_
   rw [ax,xuy];exact ⟨rfl,rfl⟩
section
variable {w : World} {A : Nat -> Prop} {M : Id -> Option MB} {B : Nat} {H : List Box}
end
def rmsOf:Code->List Code
 | .seq a b=>match isRng a with
  | true=>[.seq a b]
  | false=>rmsOf a++rmsOf b
 | .block _ c=>rmsOf c
 | .loop c=>rmsOf c
 | .cond _ a b=>rmsOf a++rmsOf b
 | _=>[]
noncomputable def rmOf (fn:Func):Code:=(rmsOf (fn.body.getD .skip)).getD 0 .skip
noncomputable def rmBody:Code->Code
 | .seq _ (.block _ (.loop (.seq _ (.seq _ (.block _ (.seq _ b))))))=>b
 | _=>.skip
noncomputable def rmOps1:Code->Array Oper
 | .seq _ (.block _ (.loop (.seq _ (.seq _ (.block _ (.seq (.region _ ops _) _))))))=>ops
 | _=>#[]
def XM (P:Program) (E:Env) (ops:Array Oper) (q:Code) (live:List Nat) (ts:List AV) (H:List Box):Option (Exit×List AV×List Box):=xOps P E none (some true) ops (ops.toList.drop 1) ⟨ts,H⟩ fun s1=>X P E none q s1 fun e2 s2=>match normS E.pin [] live s2 with
 | some (vs,H')=>xI1 vs fun vs=>xIC H' fun H'=>br (Nat.beq s2.tmps.length E.nt) (some (e2,vs,H')) none
 | none=>none
def xek {P:Program} {Inv:IV} {E:Env} (D:xH8 P Inv E) {ops:Array Oper} {l:List Oper} {s:St} {T:Type} {r:T} {K:St->Option T} (h:xOps P E none (some true) ops l s K=some r):∃ s',Path (OpA P Inv) ops l s s'/\K s'=some r:=by
 have q:¬ (fun t:Option T=>t=some r) none:=by simp
 have hA:∀ o s (K:St->Option T),(fun t:Option T=>t=some r) (xopM P E none (some true) o s K)->∃ s1,OpA P Inv s o s1/\(fun t:Option T=>t=some r) (K s1):=fun o s K h=>xwo (good:=fun t:Option T=>t=some r) q D h
 exact xgc (good:=fun t:Option T=>t=some r) q hA l s K h
def xDL {P:Program} {Inv:IV} {E:Env} (W:P.follows .mixedOrders=true) (V:InvOk Inv) (D:Inv.pin=E.pin) (J:xH8 P Inv E) {ops:Array Oper} {q:Code} (Q:LoOk P Inv E q) {live:List Nat} {ts vs:List AV} {H H':List Box} {e0:Exit}
  (h:XM P E ops q live ts H=some (e0,vs,H')):∃ s2,Path (OpA P Inv) ops (ops.toList.drop 1) ⟨ts,H⟩ s2/\Does P Inv q (fun e s'=>e=e0/\Weak Inv.pin s' ⟨mkTs E.nt (live.zip vs),H'⟩) s2:=by
 unfold XM at h;obtain ⟨s2,h1,h2⟩:=xek J h;refine ⟨s2,h1,xdw (xfe (good:=fun t=>t=some (e0,vs,H')) W V D (by simp) J q _ _ Q h2) fun e s' hq=>?_⟩
 split at hq
 case h_2=>simp at hq
 rename_i Y H1 O;rw [xbb,xbl] at hq;obtain ⟨h3,h4⟩:=xbi (good:=fun t=>t=some (e0,vs,H')) (by simp) hq
 simp only [z6,zb] at h4;obtain ⟨rfl,rfl,rfl⟩:=h4;have hw:=xkP O;rw [zh h3,<-D] at hw;exact ⟨rfl,hw⟩
end Go.Sim
end
noncomputable section
set_option maxRecDepth 10000
namespace Go.Sim
open Go.RowKit
def MR (p:Id->Bool) (M:Id->Option MB):Id->Option MB:=fun id=>match p id with
 | true=>M id
 | false=>none
def xgy {p:Id->Bool} {M:Id->Option MB} {id:Id} {m:MB} (h:MR p M id=some m):p id=true/\M id=some m:=by
 unfold MR at h;cases hp:p id with
 | true=>rw [hp] at h;exact ⟨rfl,h⟩
 | false=>rw [hp] at h;simp at h
def xse {p:Id->Bool} {M:Id->Option MB} {id:Id} {m:MB} (hp:p id=true) (h:M id=some m):MR p M id=some m:=by unfold MR;rw [hp];exact h
mutual
def AV.inP (p:Id->Bool):AV->Bool
 | .agg cs=>AV.inPs p cs
 | .own id _ _ _=>p id
 | .osl id _ _ _=>p id
 | .func _ cs=>AV.inPs p cs
 | .tuple vs=>AV.inPs p vs
 | _=>true
def AV.inPs (p:Id->Bool):List AV->Bool
 | []=>true
 | x::xs=>AV.inP p x&&AV.inPs p xs
end
def xlx {p:Id->Bool}:∀ {xs:List AV},AV.inPs p xs=true->∀ i,AV.inP p (xs.getD i .top)=true
 | [],_,i=>by simp [AV.inP]
 | x::xs,h,i=>by
  rw [AV.inPs,zg] at h;cases i with
  | zero=>simpa using h.1
  | succ i=>simpa using xlx h.2 i
def Rel.part {w:World} {A:Nat->Prop} {M:Id->Option MB} {v:Value} {x:AV} (h:Rel w A M v x) (p:Id->Bool) (hx:x.inP p=true):Rel w A (MR p M) v x:=by
 induction h with
 | top v=>exact .top v
 | bool b=>exact .bool b
 | int k n=>exact .int k n
 | str s=>exact .str s
 | agg vs cs h hr ih=>exact .agg vs cs h fun i hi=>ih i hi (xlx (by simpa [AV.inP] using hx) i)
 | nils=>exact .nils
 | list0 a cap sz=>exact .list0 a cap sz
 | list b off cap sz xs val ha hb hne hcap hsz hcc hr ih=>exact .list b off cap sz xs val ha hb hne hcap hsz hcc hr
 | eptr b off sz xs i0 j0 val ha hb hi hsz hcc hr ih=>exact .eptr b off sz xs i0 j0 val ha hb hi hsz hcc hr
 | own v id ver i j m hm hv h1 he=>exact .own v id ver i j m (xse (by simpa [AV.inP] using hx) hm) hv h1 he
 | osl v id ver off len m hm hv h1 he=>exact .osl v id ver off len m (xse (by simpa [AV.inP] using hx) hm) hv h1 he
 | nilptr=>exact .nilptr
 | func f vs cs h hr hf ih=>exact .func f vs cs h (fun i hi=>ih i hi (xlx (by simpa [AV.inP] using hx) i)) hf
 | vptr b off v0 x ha hb hc hr ih=>exact .vptr b off v0 x ha hb hc (ih (by simpa [AV.inP,AV.inPs] using hx))
 | nilfn=>exact .nilfn
 | nmap=>exact .nmap
 | empt a=>exact .empt a
 | tuple vs cs h hr ih=>exact .tuple vs cs h fun i hi=>ih i hi (xlx (by simpa [AV.inP] using hx) i)
 | gptr g=>exact .gptr g
 | yld l=>exact .yld l
def boxIn (p:Id->Bool) (bx:Box):Bool:=match bx.pm with
 | true=>!(isC bx.ty&&!xIa bx.ty)
 | false=>!(isC bx.ty)&&bx.xs.all fun x=>AV.inPs p x.cells
def xDZ {p:Id->Bool} {M:Id->Option MB} {bx:Box} {j:Nat} (hs:xH9 bx.ty j=false):MV (MR p M) bx j=MR p (MV M bx j):=by
 unfold MV MP;rw [hs];cases bx.pm
 . rfl
 . funext id;unfold MR xIl;cases p id<;>rfl
def BoxAt.part {w:World} {A:Nat->Prop} {M:Id->Option MB} {B:Nat} {id:Id} {m:MB} {bx:Box} (h:BoxAt w A M B id m bx) {p:Id->Bool} (hp:boxIn p bx=true) (hs:∀ j,j<bx.sz->xH9 bx.ty j=false):BoxAt w A (MR p M) B id m bx:=by
 refine ⟨h.ver,h.sz,h.ty,h.capm,h.fits,h.ok,h.low,h.lt,fun h0=>?_,h.guard⟩
 obtain ⟨c,h1,h2,h3⟩:=h.cells h0;refine ⟨c,h1,h2,fun i j hi hj=>?_⟩
 have h4:=h3 i j hi hj
 replace hs:=hs j (by rw [h.sz];exact hj)
 rw [xDZ hs];cases q:bx.pm with
 | true =>
  have e:MV M bx j=xIl:=by unfold MV MP;rw [hs,q]
  rw [e] at h4 |-;have e2:MR p xIl=xIl:=by
   funext id;unfold MR xIl;cases p id<;>rfl
  rw [e2];exact h4
 | false =>
  have e:MV M bx j=M:=by unfold MV MP;rw [hs,q]
  rw [e] at h4 |-;have e3:xIw id.base i j bx.ty ((bx.xs.getD i .top).cells.getD j .top)=(bx.xs.getD i .top).cells.getD j .top:=by unfold xIw;rw [hs]
  rw [e3] at h4 |-;refine h4.part p (xlx ?_ j);unfold boxIn at hp;rw [q] at hp;simp only [zg,zJ] at hp;refine hp.2 _ ?_;rw [z7,zf hi];exact zp hi
def pB (q:Nat->Bool):Id->Bool
 | .b n=>q n
 | .r _ _ _=>false
def HR.part {w:World} {A:Nat->Prop} {M:Id->Option MB} {B:Nat} {H:List Box} (h:HR w A M B H) {q:Nat->Bool} (hq:∀ n bx,H[n]?=some bx->q n=true->boxIn (pB q) bx=true/\∀ j,j<bx.sz->xH9 bx.ty j=false):HR w A (MR (pB q) M) B H:=by
 refine ⟨fun id m hm=>?_,fun id id' m m' h1 h2=>h.inj id id' m m' (xgy h1).2 (xgy h2).2,h.lt⟩
 obtain ⟨hp,hm⟩:=xgy hm;obtain ⟨bx,hb,D⟩:=h.box id m hm;refine ⟨bx,hb,?_⟩;cases id with
 | r n i j=>simp [pB] at hp
 | b n =>
  obtain ⟨h1,h2⟩:=hq n bx hb hp;exact D.part h1 h2
def HR.swap {w:World} {A:Nat->Prop} {M:Id->Option MB} {B:Nat} {H H':List Box} {q:Nat->Bool} (h:HR w A (MR (pB q) M) B H) (hq:∀ n,q n=true->H'[n]?=H[n]?):HR w A (MR (pB q) M) B H':=by
 refine ⟨fun id m hm=>?_,h.inj,h.lt⟩
 obtain ⟨bx,hb,D⟩:=h.box id m hm;refine ⟨bx,?_,D⟩;obtain ⟨hp,_⟩:=xgy hm;cases id with
 | r n i j=>simp [pB] at hp
 | b n =>
  show H'[n]?=some bx;rw [hq n hp];exact hb
def HR.apart {w w':World} {A A':Nat->Prop} {M M' N:Id->Option MB} {B:Nat} {H:List Box} (h:HR w A N B H) (hm:Mv w A M w' A' M') (J:∀ b,A' b->b<w'.heap.size) (hd:∀ id m id' m',N id=some m->0<m.cap->M id'=some m'->0<m'.cap->m.b≠m'.b):HR w' A' N B H:=by
 have D:∀ id m,N id=some m->0<m.cap->∀ id' m',M id'=some m'->0<m'.cap->m'.b≠m.b:=fun id m h1 h2 id' m' h3 h4 e=>hd id m id' m' h1 h2 h3 h4 e.symm
 refine ⟨fun id m hi=>?_,h.inj,J⟩
 obtain ⟨bx,hb,q⟩:=h.box id m hi;refine ⟨bx,hb,q.mono (fun h0=>hm.touch.1 _ (q.lt h0) (D id m hi h0)) hm.keep hm.size hm.less (fun h0=>?_) (fun id m h=>⟨m,h,.inl rfl⟩)⟩
 rw [q.guard h0];exact ⟨fun ha=>hm.more _ (q.lt h0) ha (D id m hi h0),fun ha=>hm.less _ (q.lt h0) ha⟩
def MJ (M N:Id->Option MB):Id->Option MB:=fun id=>match id with
 | .b 0=>M id
 | .r _ _ _=>none
 | .b _=>N id
end Go.Sim
end
noncomputable section
set_option maxRecDepth 10000
namespace Go.Sim
open Go.RowKit
structure EntV where
 g:Nat
 row:List AV
 a:List AV
 b:List AV
 va:Nat
 vb:Nat
def EntV.E (e:EntV):Box:=⟨0,3,89,[.agg [.list 3 e.row,.osl (.b 2) e.va 0 e.a.length,.osl (.b 3) e.vb 0 e.b.length]],false,false⟩
def EntV.A (e:EntV):Box:=⟨e.va,3,107,e.a,false,true⟩
def EntV.B (e:EntV):Box:=⟨e.vb,3,107,e.b,false,true⟩
def q0 (n:Nat):Bool:=Nat.beq n 0
def qe1:Nat->Bool
 | 1=>true
 | 2=>true
 | 3=>true
 | _=>false
def box0:Box:=⟨0,0,0,[],false,true⟩
structure EntAt (w:World) (A:Nat->Prop) (B F:Nat) (e:EntV) (N:Id->Option MB):Prop where
 hr:HR w A N B [box0,e.E,e.A,e.B]
 ids:∀ id m,N id=some m->pB qe1 id=true
 one:∃ m,N (.b 1)=some m/\0<m.cap/\m.b=e.g
 two:∃ m,N (.b 2)=some m
 three:∃ m,N (.b 3)=some m
 fresh:∀ id m,N id=some m->0<m.cap->F<=m.b
def Apart (M N:Id->Option MB):Prop:=∀ id m id' m',M id=some m->0<m.cap->N id'=some m'->0<m'.cap->m.b≠m'.b
def Apart.symm {M N:Id->Option MB} (h:Apart M N):Apart N M:=fun id m id' m' h1 h2 h3 h4 e=>h id' m' id m h3 h4 h1 h2 e.symm
section
variable {w w' w0 : World} {A A' : Nat -> Prop} {M M' N : Id -> Option MB} {B F : Nat} {e : EntV} {A0 : Cx} {a : Act}
def EntAt.go (h:EntAt w A B F e N) (hm:Mv w A M w' A' M') (q:∀ b,A' b->b<w'.heap.size) (hd:Apart N M):EntAt w' A' B F e N :=
 ⟨h.hr.apart hm q hd,h.ids,h.one,h.two,h.three,h.fresh⟩
def EntAt.lt (h:EntAt w A B F e N) {id:Id} {m:MB} (hi:N id=some m) (h0:0<m.cap):m.b<w.heap.size:=by
 obtain ⟨bx,_,hb⟩:=h.hr.box id m hi;exact hb.lt h0
def Apart.go (h:EntAt w A B F e N) (hd:Apart N M) (hm:Mv w A M w' A' M'):Apart N M':=fun id m id' m' h1 h2 h3 h4 he=>by
 have q:=h.lt h1 h2;rcases hm.touch.2 id' m' h3 h4 with ⟨i,m1,g1,g2,g3⟩|g
 . exact hd id m i m1 h1 h2 g1 g2 (by rw [he,g3])
 . omega
def EntAt.own (h:EntAt w A B F e N) {v:Value} (hv:v=.pointer (some ⟨e.g,0,none⟩)):Rel w A N v (.own (.b 1) 0 0 0):=by
 obtain ⟨m,h1,h2,h3⟩:=h.one;obtain ⟨bx,hb,q⟩:=h.hr.box _ _ h1;obtain rfl:e.E=bx:=by simpa [getB] using hb
 have J:m.ver=0:=q.ver.symm;have D:xIa m.ty=false:=by rw [<-q.ty];rfl
 subst hv;refine .own _ (.b 1) 0 0 0 m h1 (zR _) rfl fun _=>?_
 unfold ptrOf;rw [D,h3];simp
def xpV {id:Id} {m:MB} (h:MJ M N id=some m):(id=.b 0/\M id=some m)\/(∃ k,id=.b (k+1)/\N id=some m):=by
 unfold MJ at h;split at h
 . exact .inl ⟨rfl,h⟩
 . simp at h
 . rename_i n hn;cases n with
   | zero=>exact absurd rfl hn
   | succ k=>exact .inr ⟨k,rfl,h⟩
def xvV (hM:∀ id m,M id=some m->pB q0 id=true):MExt M (MJ M N):=fun id m h=>by
 refine ⟨m,?_,.inl rfl⟩;have:=hM id m h;cases id with
 | r n i j=>simp [pB] at this
 | b n =>
  cases n with
  | zero=>exact h
  | succ k=>simp [pB,q0] at this
def xvW (hN:∀ id m,N id=some m->pB qe1 id=true):MExt N (MJ M N):=fun id m h=>by
 refine ⟨m,?_,.inl rfl⟩;have:=hN id m h;cases id with
 | r n i j=>simp [pB] at this
 | b n =>
  cases n with
  | zero=>simp [pB,qe1] at this
  | succ k=>exact h
def HR.join {b0:Box} (h0:HR w A M B [b0]) (hM:∀ id m,M id=some m->pB q0 id=true) (he:EntAt w A B F e N) (hd:Apart N M):HR w A (MJ M N) B [b0,e.E,e.A,e.B]:=by
 refine ⟨fun id m h=>?_,fun id id' m m' h h' c c' hb=>?_,h0.lt⟩
 . rcases xpV h with ⟨rfl,h⟩|⟨k,rfl,h⟩
   . obtain ⟨bx,hb,q⟩:=h0.box _ _ h;refine ⟨bx,?_,q.mono (fun _=>rfl) (fun _ _ _=>rfl) (zd _) (fun _ _ h=>h) q.guard (xvV hM)⟩
     simpa [getB] using hb
   . obtain ⟨bx,hb,q⟩:=he.hr.box _ _ h;refine ⟨bx,?_,q.mono (fun _=>rfl) (fun _ _ _=>rfl) (zd _) (fun _ _ h=>h) q.guard (xvW he.ids)⟩
     simpa [getB] using hb
 . rcases xpV h with ⟨rfl,h⟩|⟨k,rfl,h⟩<;>rcases xpV h' with ⟨rfl,h'⟩|⟨k',rfl,h'⟩
   . rfl
   . exact absurd hb.symm (hd _ _ _ _ h' c' h c)
   . exact absurd hb (hd _ _ _ _ h c h' c')
   . exact he.hr.inj _ _ _ _ h h' c c' hb
def SR.join {b0:Box} {ts:List AV} (hs:SR w0 A0 w A M ⟨ts,[b0]⟩ a) (hM:∀ id m,M id=some m->pB q0 id=true) (hp:A0.pin=0) (he:EntAt w A w0.heap.size A0.w1.heap.size e N) (hd:Apart N M):SR w0 A0 w A (MJ M N) ⟨ts,[b0,e.E,e.A,e.B]⟩ a :=
 ⟨hs.base,hs.outer,hs.size,fun t ht=>(hs.tmps t ht).mono (fun _ _ _=>rfl) (zd _) (fun _ _ h=>h) (xvV hM),hs.heap.join hM he hd,hs.defers,
  ⟨hs.ev.size,hs.ev.keep,hs.ev.less,hs.ev.more,fun id m h=>by rw [hp] at h;exact absurd h (Nat.not_lt_zero _),fun id m h h0=>by
   rcases xpV h with ⟨rfl,h⟩|⟨k,rfl,h⟩
   . exact hs.ev.src _ _ h h0
   . exact .inr (he.fresh _ _ h h0)⟩⟩
def cutT (ts:List AV):List AV:=ts.map fun x=>match x.inP (pB q0) with
 | true=>x
 | false=>.top
def SR.cut {b0:Box} {T:List Box} {ts:List AV} (hs:SR w0 A0 w A M ⟨ts,b0::T⟩ a) (hp:A0.pin=0) (h0:boxIn (pB q0) b0=true) (D:∀ j,j<b0.sz->xH9 b0.ty j=false):SR w0 A0 w A (MR (pB q0) M) ⟨cutT ts,[b0]⟩ a:=by
 refine ⟨hs.base,hs.outer,by rw [hs.size];simp [cutT],fun t ht=>?_,?_,hs.defers,⟨hs.ev.size,hs.ev.keep,hs.ev.less,hs.ev.more,fun id m h=>by rw [hp] at h;exact absurd h (Nat.not_lt_zero _),fun id m h h0=>hs.ev.src _ _ (xgy h).2 h0⟩⟩
 . have ht':t<ts.length:=by simpa [cutT] using ht
   have h1:=hs.tmps t ht';have e:(cutT ts).getD t .top=match (ts.getD t .top).inP (pB q0) with
    | true=>ts.getD t .top
    | false=>.top:=by
    unfold cutT;simp only [z7,List.getElem?_map,zf ht',Option.map_some,zi]
   show Rel w A _ _ ((cutT ts).getD t .top);rw [e];cases hc:(ts.getD t .top).inP (pB q0) with
   | true=>exact h1.part _ hc
   | false=>exact .top _
 . refine (hs.heap.part (q:=q0) fun n bx hb hq=>?_).swap fun n hq=>?_
   . cases n with
     | succ n=>simp [q0] at hq
     | zero =>
      obtain rfl:b0=bx:=by simpa using hb
      exact ⟨h0,D⟩
   . cases n with
     | succ n=>simp [q0] at hq
     | zero=>rfl
end
end Go.Sim
end
noncomputable section
set_option maxRecDepth 100000
namespace Go.Sim
open Go.RowKit
section
variable {P : Program} {Inv : IV} {w0 w : World} {A0 : Cx} {A : Nat -> Prop} {M : Id -> Option MB} {a : Act}
def xr4 (q:InvOk Inv) (hI:Inv w0) {ro:Option Nat} {id:Nat} {ops:Array Oper} {Q:Exit->Act->World->Prop} {s s':St} (D:noDefer ops=true) (hp:Path (OpA P Inv) ops ops.toList s s') (hs:SR w0 A0 w A M s a)
  (hK:∀ a' w' A' M',SR w0 A0 w' A' M' s' a'->Mv w A M w' A' M'->Q .normal a' w'):(Code.region id ops false).wpIn (wideR ro) 0 P Q a w:=by
 refine wpIn_region_list (xey ro 0 _ (xcQ D) _ _ ?_);rw [<-zF ops.toList];exact xgW q hI hp hs fun a' w' A' M' h1 h2=>wpList_nil (hK a' w' A' M' h1 h2)
end
end Go.Sim
namespace Go.Sim.M
open Go.RowKit Go.Proofs
noncomputable def regOf:Code->Nat->Code
 | .region id ops d,n=>match Nat.beq id n with
  | true=>.region id ops d
  | false=>.skip
 | .seq a b,n=>match regOf a n with
  | .skip=>regOf b n
  | c=>c
 | .cond _ a b,n=>match regOf a n with
  | .skip=>regOf b n
  | c=>c
 | .block _ c,n=>regOf c n
 | .loop c,n=>regOf c n
 | _,_=>.skip
noncomputable def opsOf:Code->Array Oper
 | .region _ ops _=>ops
 | _=>#[]
noncomputable abbrev gB:Code:=Tryz.f75.body.getD .skip
noncomputable abbrev gO (n:Nat):Array Oper:=opsOf (regOf gB n)
noncomputable abbrev EG:Env:=xsd.E.fn 19 0 (lsOf [89]) (xIu [])
def xGG:gB=.seq (.region 0 (gO 0) false) (.seq (.region 1 (gO 1) false) (.seq (.seq (.region 2 (gO 2) false) (.cond (.tmp 10) (.region 3 (gO 3) false) .skip)) (.seq (.region 4 (gO 4) false) .ret))):=by kernel_rfl
noncomputable def mapB (ms:List AV):Box:=⟨0,2,mapTy 83,ms,false,true⟩
noncomputable def boxN (row:List AV):Box:=⟨0,3,89,[.agg [.list 3 row,.nils,.nils]],false,true⟩
def gT (row:List AV) (x:Nat->AV):List AV:=[.list 3 row,.func vpF [.own (.b 0) 0 0 0],x 2,x 3,x 4,x 5,x 6,x 7,x 8,x 9,x 10,x 11,x 12,x 13,x 14,x 15,x 16,x 17,x 18]
def gU:AV:=.tuple []
def gT0 (row:List AV):List AV:=gT row fun _=>gU
def xGO:noDefer (gO 0)=true:=by kernel_rfl
def xGP:noDefer (gO 1)=true:=by kernel_rfl
def xGQ:noDefer (gO 2)=true:=by kernel_rfl
def xGR:noDefer (gO 3)=true:=by kernel_rfl
def xGS:noDefer (gO 4)=true:=by kernel_rfl
noncomputable def gT1 (row:List AV) (k:List UInt8):List AV:=((((gT0 row).set 3 .nilptr).set 5 (.list 3 row)).set 6 (.str k)).set 4 (.str k)
def xHh (row ms:List AV):xOps Tryz.prog EG none (some true) (gO 0) (gO 0).toList ⟨gT0 row,[mapB ms]⟩ some=some ⟨(gT0 row).set 3 .nilptr,[mapB ms]⟩:=by kernel_rfl
def xHi (row ms:List AV):xOps Tryz.prog EG none (some true) (gO 1) (gO 1).toList ⟨(gT0 row).set 3 .nilptr,[mapB ms]⟩ some=br (xb8 row).isSome (some ⟨gT1 row ((xb8 row).getD []),[mapB ms]⟩) none:=by kernel_rfl
def xGV (row ms:List AV) (k:List UInt8):xOps Tryz.prog EG none (some true) (gO 2) ((gO 2).toList.take 2) ⟨gT1 row k,[mapB ms]⟩ some=some ⟨((gT1 row k).set 7 (.own (.b 0) 0 0 0)).set 8 (.str k),[mapB ms]⟩:=by kernel_rfl
def xHa:(gO 2).toList=(gO 2).toList.take 2++[(gO 2).toList.getD 2 default,(gO 2).toList.getD 3 default]:=by kernel_rfl
def xHd:((gO 2).toList.getD 2 default).op=.lookup 83 (.tmp 7) (.tmp 8) false:=by kernel_rfl
def xG5:((gO 2).toList.getD 2 default).dst=some 9:=by kernel_rfl
def xG7:((gO 2).toList.getD 2 default).guard=none:=by kernel_rfl
def xFK:((gO 2).toList.getD 3 default).dst=some 10:=by kernel_rfl
def xG8:((gO 2).toList.getD 3 default).guard=none:=by kernel_rfl
def xHj:(xH7 Tryz.prog 85).map (·.zero)=some .nilptr:=by kernel_rfl
def xHg:∃ d,Tryz.prog.underlying 85=some (.pointer d):=⟨89,by kernel_rfl⟩
def xCf:Tryz.prog.underlying 83=some (.map 9 85):=by kernel_rfl
def xFQ:Tryz.prog.underlying 9=some .string:=by kernel_rfl
def xCe:xIa (mapTy 83)=true:=by kernel_rfl
def xvE:xH9 (mapTy 83) 0=false:=by kernel_rfl
def xvF:xH9 (mapTy 83) 1=false:=by kernel_rfl
def xyt {ρ:Operand->AV} {t1 t2:Tmp} {ms:List AV} {T:List Box} {k:List UInt8} (h1:ρ (.tmp t1)=.own (.b 0) 0 0 0) (h2:ρ (.tmp t2)=.str k) (hk:k.length<=xIX):iop Tryz.prog ρ (mapB ms::T) (.lookup 83 (.tmp t1) (.tmp t2) false)=some (xIq .nilptr ms k,mapB ms::T):=by
 obtain ⟨e,he⟩:=xHg;have h7:getMap (mapB ms::T) 0 0=some (mapB ms):=by
  unfold getMap;show (if _ then _ else _)=_
  rw [if_pos];exact ⟨rfl,xCe,xvE,xvF,rfl,rfl⟩
 have q:=xHj;cases hd:xH7 Tryz.prog 85 with
 | none=>rw [hd] at q;simp at q
 | some d =>
  rw [hd] at q;simp only [Option.map_some,z6] at q;simp only [iop,h1,h2,absLookL,absLookM,xCf,xFQ,he,hd,h7,q,hk,if_true];rfl
def xDP (g:Nat) (w:World):(binOp .eql 85 (.pointer (some ⟨g,0,none⟩)) (.pointer none)).run Tryz.prog w=.ok (.bool false) w:=by rfl
def xB5 (w:World):(binOp .eql 85 (.pointer none) (.pointer none)).run Tryz.prog w=.ok (.bool true) w:=by rfl
noncomputable def gT2 (row:List AV) (k:List UInt8):List AV:=((gT1 row k).set 7 (.own (.b 0) 0 0 0)).set 8 (.str k)
noncomputable def gT3 (row:List AV) (k:List UInt8) (x:AV) (b:Bool):List AV:=((gT2 row k).set 9 x).set 10 (.bool b)
noncomputable def gT4 (row:List AV) (k:List UInt8):List AV:=(((((gT3 row k .nilptr true).set 11 (.own (.b 0) 0 0 0)).set 12 (.str k)).set 13 (.list 3 row)).set 14 (.agg [.list 3 row,.nils,.nils])).set 15 (.own (.b 1) 0 0 0)
def xGW (row ms:List AV) (k:List UInt8):xOps Tryz.prog EG none (some true) (gO 3) ((gO 3).toList.take 5) ⟨gT3 row k .nilptr true,[mapB ms]⟩ some=some ⟨gT4 row k,[mapB ms,boxN row]⟩:=by kernel_rfl
def xHb:(gO 3).toList=(gO 3).toList.take 5++[(gO 3).toList.getD 5 default]:=by kernel_rfl
def xHe:((gO 3).toList.getD 5 default).op=.mapUpdate 83 (.tmp 11) (.tmp 12) (.tmp 15):=by kernel_rfl
def xG6:((gO 3).toList.getD 5 default).dst=none:=by kernel_rfl
def xG9:((gO 3).toList.getD 5 default).guard=none:=by kernel_rfl
def xHc:(gO 4).toList=(gO 4).toList.take 2++[(gO 4).toList.getD 2 default,(gO 4).toList.getD 3 default]:=by kernel_rfl
def xGT:((gO 4).toList.getD 2 default).op=.lookup 83 (.tmp 16) (.tmp 17) false:=by kernel_rfl
def xGH:((gO 4).toList.getD 2 default).dst=some 18:=by kernel_rfl
def xGM:((gO 4).toList.getD 2 default).guard=none:=by kernel_rfl
def xGU:((gO 4).toList.getD 3 default).op=.assign (.tmp 18):=by kernel_rfl
def xGI:((gO 4).toList.getD 3 default).dst=some 3:=by kernel_rfl
def xGN:((gO 4).toList.getD 3 default).guard=none:=by kernel_rfl
def xFO:((gO 2).toList.getD 3 default).op=.binOp .eql 85 (.tmp 9) (.const (.pointer none)) 85:=by kernel_rfl
def xGZ:Tryz.f75.results.toList=[.tmp 3]:=by kernel_rfl
def xF0 {ρ:Operand->AV} {t1 t2 t3:Tmp} {ms:List AV} {T:List Box} {k:List UInt8} {g:Nat} (h1:ρ (.tmp t1)=.own (.b 0) 0 0 0) (h2:ρ (.tmp t2)=.str k) (h3:ρ (.tmp t3)=.gptr g) (hk:k.length<=xIX) (hm:ms.length<xIX):iop Tryz.prog ρ (mapB ms::T) (.mapUpdate 83 (.tmp t1) (.tmp t2) (.tmp t3))=some (.tuple [],mapB (xIo ms k (.gptr g))::T):=by
 have h7:getMap (mapB ms::T) 0 0=some (mapB ms):=by
  unfold getMap;show (if _ then _ else _)=_
  rw [if_pos];exact ⟨rfl,xCe,xvE,xvF,rfl,rfl⟩
 have h8:(mapB ms).frz=false/\(AV.gptr g).one=true/\(AV.gptr g).pure=true/\(mapB ms).xs.length<xIX/\k.length<=xIX:=⟨rfl,rfl,rfl,hm,hk⟩;simp only [iop,h1,h2,h3,absPutM,xCf,xFQ,h7,h8,and_self,if_true];rfl
def xre {k:List UInt8}:∀ {ms:List AV} {j:Nat},mapIx ms k=some j->∀ i,i<j->isKey k ((ms.getD i .top).cells.getD 0 .top)=false
 | [],j,h,_,_=>by simp [mapIx] at h
 | e::es,j,h,i,hi=>by
  rw [mapIx] at h;cases hc:isKey k (e.cells.getD 0 .top) with
  | true=>rw [hc] at h;simp only [z6] at h;omega
  | false =>
   rw [hc] at h;cases hm:mapIx es k with
   | none=>rw [hm] at h;simp at h
   | some j' =>
    rw [hm] at h;simp only [Option.map_some,z6] at h;cases i with
    | zero=>simpa using hc
    | succ i=>simpa using xre hm i (by omega)
def xrf {k:List UInt8}:∀ {ms:List AV},mapIx ms k=none->∀ i,i<ms.length->isKey k ((ms.getD i .top).cells.getD 0 .top)=false
 | [],_,i,hi=>by simp at hi
 | e::es,h,i,hi=>by
  rw [mapIx] at h;cases hc:isKey k (e.cells.getD 0 .top) with
  | true=>rw [hc] at h;simp at h
  | false =>
   rw [hc] at h;cases hm:mapIx es k with
   | some j'=>rw [hm] at h;simp at h
   | none =>
    cases i with
    | zero=>simpa using hc
    | succ i=>simpa using xrf hm i (by simpa using hi)
def xDS {k:List UInt8} {v:AV}:∀ {ms:List AV},xIq .nilptr (xIo ms k v) k=v
 | ms=>by
  have q:putIx ms k<(xIo ms k v).length:=by
   unfold xIo putIx;cases h:mapIx ms k with
   | some i=>simpa using xif h
   | none=>simp
  have h1:(xIo ms k v).getD (putIx ms k) .top=.agg [.str k,v]:=by rw [xkA,if_pos rfl]
  have h2:mapIx (xIo ms k v) k=some (putIx ms k):=by
   refine xmJ q (by rw [h1];simp [AV.cells,isKey]) fun i hi=>?_
   rw [xkA,if_neg (by omega)]
   unfold putIx at hi;cases h:mapIx ms k with
   | some j =>
    rw [h] at hi;exact xre h i hi
   | none =>
    rw [h] at hi;exact xrf h i hi
  unfold xIq;rw [h2];dsimp only;rw [h1];rfl
end Go.Sim.M
end
noncomputable section
set_option maxRecDepth 100000
namespace Go.Sim.M
open Go.RowKit Go.Proofs
def hIoG (n:Nat):InvOk (xIQ.at n):=xIi Tryz.prog n
def orcG:xH8 Tryz.prog (xIQ.at 0) EG:=xsd.ok.fn
def gS5 (ts:List AV) (k:List UInt8):List AV:=(ts.set 16 (.own (.b 0) 0 0 0)).set 17 (.str k)
def gS6 (ts:List AV) (k:List UInt8) (g:Nat):List AV:=((gS5 ts k).set 18 (.gptr g)).set 3 (.gptr g)
def xFP {ts:List AV} (hl:ts.length=19) (k:List UInt8) (g:Nat) (H:List Box):resAllM Tryz.prog ⟨gS6 ts k g,H⟩ Tryz.f75.results.toList=some [.gptr g]:=by
 have e:(gS6 ts k g).getD 3 .top=.gptr g:=by
  unfold gS6 gS5;simp [z7,hl]
 rw [xGZ];have e2:resVal Tryz.prog ⟨gS6 ts k g,H⟩ (.tmp 3)=some (.gptr g):=by
  show some ((gS6 ts k g).getD 3 .top)=_;rw [e]
 simp only [resAllM,e2]
def xnb {ops:Array Oper} {l:List Oper} {s s':St} (h:xOps Tryz.prog EG none (some true) ops l s some=some s'):Path (OpA Tryz.prog (xIQ.at 0)) ops l s s':=by
 obtain ⟨s1,h1,h2⟩:=xek orcG h;cases h2;exact h1
section
variable {w0 w : World} {A0 : Cx} {A : Nat -> Prop} {M : Id -> Option MB} {a : Act}
def xAQ (hI:xIQ w0) {ts ms:List AV} {k:List UInt8} {T:List Box} {g:Nat} (q:ts.length=19) (hp:xOps Tryz.prog EG none (some true) (gO 4) ((gO 4).toList.take 2) ⟨ts,mapB ms::T⟩ some=some ⟨gS5 ts k,mapB ms::T⟩) (O:k.length<=xIX) (hg:xIq .nilptr ms k=.gptr g) (hs:SR w0 A0 w A M ⟨ts,mapB ms::T⟩ a) {Q:Exit->Act->World->Prop}
  (hK:∀ a' w' A' M',SR w0 A0 w' A' M' ⟨gS6 ts k g,mapB ms::T⟩ a'->Mv w A M w' A' M'->Q .normal a' w'):(Code.region 4 (gO 4) false).wpIn (wideR none) 0 Tryz.prog Q a w:=by
 refine wpIn_region_list (xey none 0 _ (xcQ xGS) _ _ ?_);rw [xHc];refine xgW (hIoG 0) hI (xnb hp) hs fun a1 w1 A1 M1 Y J=>wpList_plain xGM fun K aa=>?_
 have hl:OpA Tryz.prog (xIQ.at 0) ⟨gS5 ts k,mapB ms::T⟩ ((gO 4).toList.getD 2 default) ⟨(gS5 ts k).set 18 (.gptr g),mapB ms::T⟩:=by
  refine .inr (.inl (.inl ⟨.gptr g,mapB ms::T,?_,?_⟩))
  . rw [xGT,<-hg];exact xyt (by simp [St.eval,gS5,z7,q]) (by simp [St.eval,gS5,z7,q]) O
  . rw [xGH];rfl
 refine xik (hIoG 0) hI hl Y fun v w2 A2 M2 Z mv2=>aa _ _ (wpList_plain xGN fun K2 W=>?_)
 have V:OpA Tryz.prog (xIQ.at 0) ⟨(gS5 ts k).set 18 (.gptr g),mapB ms::T⟩ ((gO 4).toList.getD 3 default) ⟨gS6 ts k g,(mapB ms::T)++(none:Option Box).toList⟩:=by
  refine .inl (.inl ⟨.gptr g,none,.inl ?_,?_⟩)
  . rw [xGU];simp [fop,St.eval,gS5,z7,q]
  . rw [xGI];rfl
 refine xik (hIoG 0) hI V Z fun v2 w3 A3 M3 D mv3=>W _ _ (wpList_nil ?_)
 simp only [Option.toList,zF] at D;exact hK _ _ _ _ D ((J.trans mv2).trans mv3)
def xGX (row ms:List AV) (k:List UInt8) (g:Nat):xOps Tryz.prog EG none (some true) (gO 4) ((gO 4).toList.take 2) ⟨gT3 row k (.gptr g) false,[mapB ms]⟩ some=some ⟨gS5 (gT3 row k (.gptr g) false) k,[mapB ms]⟩:=by kernel_rfl
noncomputable def gT7 (row:List AV) (k:List UInt8) (g:Nat):List AV:=(gT4 row k).set 15 (.gptr g)
def xGY (row ms:List AV) (k:List UInt8) (g:Nat):xOps Tryz.prog EG none (some true) (gO 4) ((gO 4).toList.take 2) ⟨gT7 row k g,[mapB ms,boxN row]⟩ some=some ⟨gS5 (gT7 row k g) k,[mapB ms,boxN row]⟩:=by kernel_rfl
end
def xGJ (row:List AV) (k:List UInt8) (g:Nat) (H:List Box):St.eval ⟨gT7 row k g,H⟩ (.tmp 11)=.own (.b 0) 0 0 0:=by kernel_rfl
def xGK (row:List AV) (k:List UInt8) (g:Nat) (H:List Box):St.eval ⟨gT7 row k g,H⟩ (.tmp 12)=.str k:=by kernel_rfl
def xGL (row:List AV) (k:List UInt8) (g:Nat) (H:List Box):St.eval ⟨gT7 row k g,H⟩ (.tmp 15)=.gptr g:=by kernel_rfl
def xFM (row:List AV) (k:List UInt8) (g:Nat):(gT7 row k g).length=19:=by kernel_rfl
def xFL (row:List AV) (k:List UInt8) (y:AV) (b:Bool):(gT3 row k y b).length=19:=by kernel_rfl
def xHf (row:List AV) (k:List UInt8) (g:Nat):putT (gT7 row k g) none (.tuple [])=gT7 row k g:=by rfl
def GetPost (row ms:List AV) (k:List UInt8) (g:Nat) (H:List Box) (M':Id->Option MB):Prop :=
 (xIq .nilptr ms k=.gptr g/\H=[mapB ms]) \/
 (xIq .nilptr ms k=.nilptr/\H=[mapB (xIo ms k (.gptr g)),boxN row]/\∃ m,M' (.b 1)=some m/\0<m.cap/\m.b=g)
section
variable {w0 w : World} {A0 : Cx} {A : Nat -> Prop} {M : Id -> Option MB} {a : Act}
def HR.same {w':World} {A':Nat->Prop} {M':Id->Option MB} {B n:Nat} {H H':List Box} {bx bx':Box} {m:MB} (h:HR w A M B H) (h':HR w' A' M' B H') (hx:MExt M M') (hb:H[n]?=some bx) (q:H'[n]?=some bx') (hv:bx'.ver=bx.ver) (hm:M (.b n)=some m):M' (.b n)=some m:=by
 obtain ⟨m',h1,h2⟩:=hx _ _ hm;obtain ⟨c,g1,g2⟩:=h.box _ _ hm;obtain ⟨c',g3,g4⟩:=h'.box _ _ h1;have e1:bx=c:=Option.some.inj (hb.symm.trans g1);have e2:bx'=c':=Option.some.inj (q.symm.trans g3);subst e1 e2;have:=g2.ver;have:=g4.ver;rcases h2 with rfl|h2
 . exact h1
 . omega
set_option maxHeartbeats 2000000 in
def xCh (hI:xIQ w0) {row ms:List AV} {k:List UInt8} (hk:xb8 row=some k) (W:k.length<=xIX) (hm:ms.length<xIX) (a0:xIq .nilptr ms k=.nilptr\/∃ g,xIq .nilptr ms k=.gptr g) (ao:SR w0 A0 w A M ⟨gT0 row,[mapB ms]⟩ a) {Q:Exit->Act->World->Prop}
  (hQ:∀ a' w' A' M' ts H g,SR w0 A0 w' A' M' ⟨gS6 ts k g,H⟩ a'->ts.length=19->Mv w A M w' A' M'->GetPost row ms k g H M'->Q .ret a' w'):gB.wpIn (wideR none) 0 Tryz.prog Q a w:=by
 rw [xGG];refine wpIn_seq (xr4 (hIoG 0) hI xGO (xnb (xHh row ms)) ao fun a1 w1 A1 M1 az aw=>?_)
 have p1:=xHi row ms;rw [hk,zl,xaa,zi] at p1;refine wpIn_seq (xr4 (hIoG 0) hI xGP (xnb p1) az fun a2 w2 A2 M2 al mv2=>?_)
 refine wpIn_seq (wpIn_seq (wpIn_region_list (xey none 0 _ (xcQ xGQ) _ _ ?_)));rw [xHa];refine xgW (hIoG 0) hI (xnb (xGV row ms k)) al fun a3 w3 A3 M3 ai mv3=>wpList_plain xG7 fun K an=>?_
 have hl:OpA Tryz.prog (xIQ.at 0) ⟨gT2 row k,[mapB ms]⟩ ((gO 2).toList.getD 2 default) ⟨(gT2 row k).set 9 (xIq .nilptr ms k),[mapB ms]⟩:=by
  refine .inr (.inl (.inl ⟨xIq .nilptr ms k,[mapB ms],?_,?_⟩))
  . rw [xHd];exact xyt rfl rfl W
  . rw [xG5];rfl
 refine xik (hIoG 0) hI hl ai fun v w4 A4 M4 q ak=>an _ _ (wpList_plain xG8 fun K2 ag=>?_)
 have Z:=((aw.trans mv2).trans mv3).trans ak;generalize a3.put _ v=a4 at q;have h9:=q.eval (.tmp 9);have e9:St.eval ⟨(gT2 row k).set 9 (xIq .nilptr ms k),[mapB ms]⟩ (.tmp 9)=xIq .nilptr ms k:=rfl;rw [e9] at h9;have hc:a4.eval (.const (.pointer none))=.pointer none:=rfl;unfold Oper.wp;rcases a0 with hn|⟨g,hg⟩
 ·
  rw [hn] at h9 q;have v9:a4.eval (.tmp 9)=.pointer none:=by
   generalize a4.eval (.tmp 9)=u at h9;cases h9;rfl
  simp only [execOp,xFO,v9,hc,xB5,Sem.run_bind,Result.andThen_ok,Sem.run_pure];show K2 (a4.put ((gO 2).toList.getD 3 default).dst (.bool true)) w4;rw [xFK];refine ag _ _ (wpList_nil ?_);have D:=q.put (d:=some 10) q.base q.outer Mv.refl q.heap (Rel.bool (w:=w4) (A:=A4) (M:=M4) true);have D:SR w0 A0 w4 A4 M4 ⟨gT3 row k .nilptr true,[mapB ms]⟩ (a4.put (some 10) (.bool true)):=D;generalize a4.put (some 10) (.bool true)=a5 at D;have aa:a5.eval (.tmp 10)=.bool true:=by
   have:=D.eval (.tmp 10);exact this.bool_inv
  refine wpIn_cond_split aa (fun _=>?_) (fun h=>by cases h)
  refine wpIn_region_list (xey none 0 _ (xcQ xGR) _ _ ?_);rw [xHb];refine xgW (hIoG 0) hI (xnb (xGW row ms k)) D fun a6 w6 A6 M6 J mv6=>wpList_plain xG9 fun K3 ax=>?_
  have O:=J.eval (.tmp 15);have O:Rel w6 A6 M6 (a6.eval (.tmp 15)) (.own (.b 1) 0 0 0):=O;obtain ⟨m,ah,aq⟩:∃ m,M6 (.b 1)=some m/\(m.ver=0->a6.eval (.tmp 15)=ptrOf m 0 0):=by
   generalize a6.eval (.tmp 15)=u at O;cases O with
   | own v id ver i j m hm hv h1 he=>exact ⟨m,hm,fun h=>he h.symm⟩
  obtain ⟨bx,a7,ac⟩:=J.heap.box _ _ ah;obtain rfl:boxN row=bx:=by simpa [getB] using a7
  have ad:m.ver=0:=ac.ver.symm;have am:xIa m.ty=false:=by rw [<-ac.ty];kernel_rfl
  have hcap:0<m.cap:=Nat.lt_of_lt_of_le (by simp [boxN]) ac.fits
  have aj:a6.eval (.tmp 15)=.pointer (some ⟨m.b,0,none⟩):=by
   rw [aq ad];unfold ptrOf;rw [am];simp
  have af:SR w0 A0 w6 A6 M6 ⟨gT7 row k m.b,[mapB ms,boxN row]⟩ a6:=by
   refine ⟨J.base,J.outer,by rw [J.size];rfl,fun t ht=>?_,J.heap,J.defers,J.ev⟩
   by_cases h:t=15
   . subst h;show Rel w6 A6 M6 (a6.tmps.getD 15 undef) (.gptr m.b);have:a6.tmps.getD 15 undef=.pointer (some ⟨m.b,0,none⟩):=aj;rw [this];exact .gptr _
   . have h1:=J.tmps t (by simpa [gT7] using ht)
     have e:(gT7 row k m.b).getD t .top=(gT4 row k).getD t .top:=by
      unfold gT7;simp only [z7,List.getElem?_set,Ne.symm h,if_false]
     show Rel w6 A6 M6 _ ((gT7 row k m.b).getD t .top);rw [e];exact h1
  have au:OpA Tryz.prog (xIQ.at 0) ⟨gT7 row k m.b,[mapB ms,boxN row]⟩ ((gO 3).toList.getD 5 default) ⟨gT7 row k m.b,[mapB (xIo ms k (.gptr m.b)),boxN row]⟩:=by
   refine .inr (.inl (.inl ⟨.tuple [],[mapB (xIo ms k (.gptr m.b)),boxN row],?_,?_⟩))
   . rw [xHe];exact xF0 (xGJ row k m.b _) (xGK row k m.b _) (xGL row k m.b _) W hm
   . rw [xG6];exact congrArg (fun t=>(⟨t,_⟩:St)) (xHf row k m.b).symm
  refine xik (hIoG 0) hI au af fun v8 w8 A8 M8 ab ae=>ax _ _ (wpList_nil ?_)
  have ap:=HR.same af.heap ab.heap ae.ext (n:=1) rfl rfl rfl ah;refine wpIn_seq (xAQ hI (xFM row k m.b) (xGY row _ k m.b) W xDS ab fun a9 w9 A9 M9 Y V=>?_)
  have ay:=HR.same ab.heap Y.heap V.ext (n:=1) rfl rfl rfl ap;refine wpIn_ret (hQ _ _ _ _ _ _ m.b Y (xFM row k m.b) (((Z.trans mv6).trans ae).trans V) (.inr ⟨hn,rfl,m,ay,hcap,rfl⟩))
 . rw [hg] at h9 q;have v9:a4.eval (.tmp 9)=.pointer (some ⟨g,0,none⟩):=by
    generalize a4.eval (.tmp 9)=u at h9;cases h9;rfl
   simp only [execOp,xFO,v9,hc,xDP,Sem.run_bind,Result.andThen_ok,Sem.run_pure];show K2 (a4.put ((gO 2).toList.getD 3 default).dst (.bool false)) w4;rw [xFK];refine ag _ _ (wpList_nil ?_);have D:=q.put (d:=some 10) q.base q.outer Mv.refl q.heap (Rel.bool (w:=w4) (A:=A4) (M:=M4) false);have D:SR w0 A0 w4 A4 M4 ⟨gT3 row k (.gptr g) false,[mapB ms]⟩ (a4.put (some 10) (.bool false)):=D;generalize a4.put (some 10) (.bool false)=a5 at D;have aa:a5.eval (.tmp 10)=.bool false:=by
    have:=D.eval (.tmp 10);exact this.bool_inv
   refine wpIn_cond_split aa (fun h=>by cases h) (fun _=>wpIn_skip ?_)
   refine wpIn_seq (xAQ hI (xFL row k (.gptr g) false) (xGX row ms k g) W hg D fun a9 w9 A9 M9 Y V=>?_)
   exact wpIn_ret (hQ _ _ _ _ _ _ g Y (xFL row k (.gptr g) false) (Z.trans V) (.inl ⟨hg,rfl⟩))
end
end Go.Sim.M
end
noncomputable section
set_option maxRecDepth 100000
namespace Go.Sim.M
open Go.RowKit Go.Proofs
def xFJ:Tryz.f75.body=some gB:=by kernel_rfl
def xFN:Tryz.f75.ntmps=19:=by kernel_rfl
def xsv {args:List AV} {n t:Nat} (h:t<args.length):(args++List.replicate n (AV.tuple [])).getD t .top=args.getD t .top:=by
 simp [z7,zQ,h]
def xsw {args:List AV} {n t:Nat} (h1:¬ t<args.length) (h2:t - args.length<n):(args++List.replicate n (AV.tuple [])).getD t .top=.tuple []:=by
 simp [z7,zQ,h1,List.getElem?_replicate,h2]
def xAM (row:List AV):gT0 row=[AV.list 3 row,.func vpF [.own (.b 0) 0 0 0]]++List.replicate 17 (.tuple []):=by rfl
def xAO {w0 w:World} {A:Nat->Prop} {M:Id->Option MB} {vs:List Value} {row ms:List AV} {k:List UInt8} (hI:xIQ w0) (O:Below w0.heap.size w0 w) (hR:HR w A M w0.heap.size [mapB ms]) (J:RC w A M vs [.list 3 row,.func vpF [.own (.b 0) 0 0 0]])
  (hk:xb8 row=some k) (aa:k.length<=xIX) (hm:ms.length<xIX) (Y:xIq .nilptr ms k=.nilptr\/∃ g,xIq .nilptr ms k=.gptr g) :
  Calls Tryz.prog 75 vs.toArray w fun e w'=>∃ v A' M' g,e=.returned v/\v=.pointer (some ⟨g,0,none⟩)/\Below w0.heap.size w0 w'/\(∀ b,b<w0.heap.size->(A' b↔A b))/\Mv w A M w' A' M'/\∃ H,HR w' A' M' w0.heap.size H/\GetPost row ms k g H M':=by
 refine callsIn_wide.1 (callsIn_of_wp_marks (F:=Fence.wide) (n:=0) Tryz.func75 xFJ trivial ?_);refine xCh (A0:=⟨A,w,A,M,1,fun _=>False⟩) (A:=A) (M:=M) (k:=k) (row:=row) (ms:=ms) hI hk aa hm Y ⟨O,fun _ _=>Iff.rfl,?_,fun t ht=>?_,hR,DefOk.nil,Ev.refl (C:=⟨A,w,A,M,1,fun _=>False⟩)⟩ ?_
 . rw [xFN];have:=J.1;simp [xAM,this]
 . have hl:=J.1;have hl:vs.length=2:=hl;rw [xFN];show Rel w A M _ ((gT0 row).getD t .top);rw [xAM];by_cases V:t<2
   . have e1:(vs.toArray++Array.replicate (19 - vs.toArray.size) undef).getD t undef=vs.getD t undef:=by
      have:t<vs.length:=by omega
      simp [z7,Array.getElem?_append,this]
     rw [e1,xsv V];exact J.2 t V
   . have ht:t<19:=by
      have h0:(gT0 row).length=19:=rfl;rw [<-h0];exact ht
     have h1:¬ t<vs.length:=by omega
     have e1:(vs.toArray++Array.replicate (19 - vs.toArray.size) undef).getD t undef=undef:=by
      have h2:t - vs.length<19 - vs.length:=by omega
      simp [Array.getElem?_append,h1,h2]
     rw [e1,xsw V (show t - 2<17 by omega)]
     exact .tuple #[] [] rfl (by simp)
 . intro a' w' A' M' ts H g Z W ac Q;show LeavesInM Fence.wide 0 Tryz.prog Tryz.f75 a'.tmps _ a'.defers .returning w';refine xnT (fun _ h=>h) Z fun w2 D=>?_
   obtain ⟨v,hv,q⟩:=xnm (P:=Tryz.prog) D (xFP W k g H);have ab:v=.pointer (some ⟨g,0,none⟩):=by
    have q:Rel w2 A' M' v (.gptr g):=q;cases q;rfl
   exact ⟨v,hv,v,A',M',g,rfl,ab,D.base,D.outer,D.ev.mv hR (zd 1),H,D.heap,Q⟩
end Go.Sim.M
end
noncomputable section
set_option maxRecDepth 100000
namespace Go.Sim
open Go.RowKit
def keepT (live:List Nat) (ts:List AV):List AV:=mkTs ts.length (live.zip (liveOf live ts))
def keepS (live:List Nat) (s:St):St:=⟨keepT live s.tmps,s.heap⟩
section
variable {P : Program} {Inv : IV} {w0 w w' : World} {A0 : Cx} {A A' : Nat -> Prop} {M M' N N' : Id -> Option MB} {a : Act} {B F : Nat} {e : EntV}
def SR.mask {s:St} (h:SR w0 A0 w A M s a) (live:List Nat):SR w0 A0 w A M (keepS live s) a:=by
 have hl:(keepT live s.tmps).length=s.tmps.length:=xhv _ _;refine ⟨h.base,h.outer,h.size.trans hl.symm,fun t ht=>?_,h.heap,h.defers,h.ev⟩
 have ht':t<s.tmps.length:=by rw [<-hl];exact ht
 show Rel w A M _ ((keepT live s.tmps).getD t .top);rcases xql s.tmps.length s.tmps rfl t live with e|e
 . unfold keepT;rw [e];exact h.tmps t ht'
 . unfold keepT;rw [e];exact .top _
def xg8 {E:Env} (D:xH8 P Inv E) (q:InvOk Inv) (hI:Inv w0) {ro:Option Nat} {id:Nat} {ops:Array Oper} {Q:Exit->Act->World->Prop} {s s':St} {live:List Nat} (J:noDefer ops=true) (hp:xOps P E none (some true) ops ops.toList s (fun s=>some (keepS live s))=some s') (hs:SR w0 A0 w A M s a)
  (hK:∀ a' w' A' M',SR w0 A0 w' A' M' s' a'->Mv w A M w' A' M'->Q .normal a' w'):(Code.region id ops false).wpIn (wideR ro) 0 P Q a w:=by
 obtain ⟨s1,h1,h2⟩:=xek D hp;cases h2;exact xr4 q hI J h1 hs fun a' w' A' M' k1 k2=>hK a' w' A' M' (k1.mask live) k2
def callX {o:Oper} {c:Call} {s:St} {g:FuncId} {args:List AV} {R:Value->World->Prop} (ho:o.op=.call c) (q:xIW s c=some (g,args)) (he:Enters P g) (hs:SR w0 A0 w A M s a)
  (D:∀ vs,RC w A M vs args->Calls P g vs.toArray w fun e w'=>∃ v,e=.returned v/\R v w') {K:Act->World->Prop} {Q:Exit->Act->World->Prop} (hK:∀ v w',R v w'->K (a.put o.dst v) w'):o.wp P a w K Q:=by
 unfold xIW at q;split at q
 case h_2=>simp at q
 rename_i fo V;split at q
 case h_2=>simp at q
 rename_i g' W Z;split at q
 . simp at q
 rename_i ad;simp only [z6,zb] at q;obtain ⟨rfl,rfl⟩:=q;have J:=hs.eval fo;rw [Z] at J;obtain ⟨cv,ac,aa,ab⟩:=J.func_inv ad;have O:=xmS (w:=w) (A:=A) (M:=M) (l:=c.args.toList) (ρc:=a.eval) (ρ:=s.eval) (fun x _=>hs.eval x)
 have Y:RC w A M (c.args.toList.map a.eval++cv.toList) (c.args.toList.map s.eval++W):=RC.append ⟨O.1,O.2⟩ ⟨by simpa using aa,fun i hi=>by have:=ab i hi;simpa [z7,zv] using this⟩
 unfold Oper.wp;rw [xoU ho V ac he,Oper.upon_enter];refine (D _ Y).mono ?_;rintro e w' ⟨v,rfl,hr⟩;exact hK v w' hr
def SR.settle1 {ts:List AV} {H:List Box} (h:SR w0 A0 w A M ⟨ts,H⟩ a) {t:Nat} {y:AV} (hy:resolve H xIs (ts.getD t .top)=some y):∃ A1,SR w0 A0 w A1 M ⟨ts.set t y,freeze H (reach H xIs (ts.getD t .top))⟩ a/\Mv w A M w A1 M :=
 h.settle (s1:=⟨ts.set t y,freeze H (reach H xIs (ts.getD t .top))⟩) ⟨_,rfl,by simp,fun t'=>by
  by_cases hd:t=t'
  . subst hd;by_cases q:t<ts.length
    . right;simp only [xcc q];exact ⟨hy,fun _ h=>h⟩
    . left;simp only [List.set_eq_of_length_le (Nat.le_of_not_lt q)]
  . left;simp only [xcd hd]⟩
def SR.setT {ts:List AV} {H:List Box} (h:SR w0 A0 w A M ⟨ts,H⟩ a) {t:Nat} {y:AV} (hy:t<ts.length->Rel w A M (a.tmps.getD t undef) y):SR w0 A0 w A M ⟨ts.set t y,H⟩ a:=by
 refine ⟨h.base,h.outer,by rw [h.size];simp,fun t' ht=>?_,h.heap,h.defers,h.ev⟩
 have ht':t'<ts.length:=by simpa using ht
 show Rel w A M _ ((ts.set t y).getD t' .top);by_cases hd:t=t'
 . subst hd;rw [xcc ht'];exact hy ht'
 . rw [xcd hd];exact h.tmps t' ht'
def Apart.joined (h1:Apart N M) (h2:Apart N N'):Apart N (MJ M N'):=fun id m id' m' g1 g2 g3 g4=>by
 rcases xpV g3 with ⟨rfl,h⟩|⟨k,rfl,h⟩
 . exact h1 _ _ _ _ g1 g2 h g4
 . exact h2 _ _ _ _ g1 g2 h g4
def Apart.part {q:Id->Bool} (h:Apart N M):Apart N (MR q M):=fun id m id' m' g1 g2 g3 g4=>h id m id' m' g1 g2 (xgy g3).2 g4
def HR.split {H:List Box} (h:HR w A M B H):Apart (MR (pB qe1) M) (MR (pB q0) M):=fun id m id' m' g1 g2 g3 g4 he=>by
 obtain ⟨p1,h1⟩:=xgy g1;obtain ⟨p2,h2⟩:=xgy g3;have:=h.inj id id' m m' h1 h2 g2 g4 he;subst this;cases id with
 | r n i j=>simp [pB] at p1
 | b n=>cases n<;>simp [pB,q0,qe1] at p1 p2
def xmB (M:Id->Option MB):∀ id m,MR (pB q0) M id=some m->pB q0 id=true:=fun id m h=>(xgy h).1
end
def xDO (e:EntV):boxIn (pB qe1) e.E=true:=by
 simp only [boxIn,EntV.E,List.all_cons,List.all_nil,zT,AV.cells,AV.inPs,AV.inP,pB,qe1,Bool.and_self];rfl
def xDM (e:EntV):boxIn (pB qe1) e.A=true:=by rfl
def xDN (e:EntV):boxIn (pB qe1) e.B=true:=by rfl
section
variable {w0 w w' : World} {A0 : Cx} {A A' : Nat -> Prop} {M M' N N' : Id -> Option MB} {a : Act} {F : Nat} {e : EntV}
def SR.out {b0:Box} {T:List Box} {ts:List AV} (hs:SR w0 A0 w A M ⟨ts,b0::e.E::e.A::e.B::T⟩ a) (J:∀ id,A0.M1 id=none) {m:MB} (hm:M (.b 1)=some m) (hg:m.b=e.g) (h2:∃ m,M (.b 2)=some m) (h3:∃ m,M (.b 3)=some m):EntAt w A w0.heap.size A0.w1.heap.size e (MR (pB qe1) M):=by
 refine ⟨?_,fun id m h=>(xgy h).1,⟨m,xse rfl hm,?_,hg⟩,?_,?_,fun id m h h0=>?_⟩
 . refine (hs.heap.part (q:=qe1) fun n bx hb hq=>?_).swap fun n hq=>?_
   . match n,hq with
     | 1,_ =>
      obtain rfl:e.E=bx:=by simpa using hb
      exact ⟨xDO e,fun j _=>rfl⟩
     | 2,_ =>
      obtain rfl:e.A=bx:=by simpa using hb
      exact ⟨xDM e,fun j _=>rfl⟩
     | 3,_ =>
      obtain rfl:e.B=bx:=by simpa using hb
      exact ⟨xDN e,fun j _=>rfl⟩
   . match n,hq with
     | 1,_=>rfl
     | 2,_=>rfl
     | 3,_=>rfl
 . obtain ⟨bx,hb,D⟩:=hs.heap.box _ _ hm;obtain rfl:e.E=bx:=by simpa [getB] using hb
   exact Nat.lt_of_lt_of_le (by simp [EntV.E]) D.fits
 . obtain ⟨m,h⟩:=h2;exact ⟨m,xse rfl h⟩
 . obtain ⟨m,h⟩:=h3;exact ⟨m,xse rfl h⟩
 . rcases hs.ev.src _ _ (xgy h).2 h0 with ⟨i,m1,h1,_⟩|h1
   . rw [J] at h1;cases h1
   . exact h1
def SR.newE {b0:Box} {ts row:List AV} {g:Nat} (hs:SR w0 A0 w A M ⟨ts,[b0,⟨0,3,89,[.agg [.list 3 row,.nils,.nils]],false,true⟩]⟩ a) {m:MB} (hm:M (.b 1)=some m) (hg:m.b=g) :
  ∃ M',SR w0 A0 w A M' ⟨ts,[b0,EntV.E ⟨g,row,[],[],0,0⟩,EntV.A ⟨g,row,[],[],0,0⟩,EntV.B ⟨g,row,[],[],0,0⟩]⟩ a/\Mv w A M w A M'/\M' (.b 1)=some m/\(∃ m,M' (.b 2)=some m)/\∃ m,M' (.b 3)=some m:=by
 obtain ⟨M1,h1,v1⟩:=hs.heap.cellnilJ (n:=2) (j0:=1) 107 (id:=1) rfl rfl rfl rfl;obtain ⟨M2,h2,v2⟩:=h1.cellnilJ (n:=2) (j0:=2) 107 (id:=1) rfl rfl rfl rfl;have hv:=v1.trans v2;have h3:HR w A M2 w0.heap.size [b0,EntV.E ⟨g,row,[],[],0,0⟩,EntV.A ⟨g,row,[],[],0,0⟩,EntV.B ⟨g,row,[],[],0,0⟩]:=h2;have D:M2 (.b 1)=some m:=_root_.Go.Sim.M.HR.same hs.heap h3 hv.ext (n:=1) rfl rfl rfl hm;obtain ⟨bx,hb,q⟩:=h3.box _ _ D;obtain rfl:EntV.E ⟨g,row,[],[],0,0⟩=bx:=by simpa [getB] using hb
 have hcap:0<m.cap:=Nat.lt_of_lt_of_le (by simp [EntV.E]) q.fits
 obtain ⟨c,_,_,hc⟩:=q.cells hcap;have hsz:m.sz=3:=q.sz.symm;refine ⟨M2,⟨hs.base,hs.outer,hs.size,fun t ht=>hv.rel (hs.tmps t ht),h3,hs.defers,hs.ev.step hv⟩,hv,D,?_,?_⟩
 . have h:=hc 0 1 (by simp [EntV.E]) (by omega)
   have h:Rel w A M2 (c.getD (0*m.sz+1) undef) (.osl (.b 2) 0 0 0):=h;generalize c.getD (0*m.sz+1) undef=v at h;cases h with
   | osl v id ver off len m hm hv h1 he=>exact ⟨_,hm⟩
 . have h:=hc 0 2 (by simp [EntV.E]) (by omega)
   have h:Rel w A M2 (c.getD (0*m.sz+2) undef) (.osl (.b 3) 0 0 0):=h;generalize c.getD (0*m.sz+2) undef=v at h;cases h with
   | osl v id ver off len m hm hv h1 he=>exact ⟨_,hm⟩
end
end Go.Sim
end
noncomputable section
set_option maxRecDepth 100000
namespace Go.Sim.M
open Go.RowKit Go.Proofs
noncomputable abbrev cB:Code:=Tryz.f48.body.getD .skip
noncomputable abbrev cO (n:Nat):Array Oper:=opsOf (regOf cB n)
noncomputable abbrev EC (p:Nat):Env:=xsd.E.fn 62 p (lsOf []) (xIu [])
def orcC (p:Nat):xH8 Tryz.prog (xIQ.at p) (EC p):=xsd.ok.fn
def vC:AV:=.func vpF [.own (.b 0) 0 0 0]
def uT (q:Bool) (n:Nat):Nat:=cond q (n+23) n
def uE (q:Bool) (n:Nat):Nat:=cond q (n+3) n
def uR (q:Bool) (n:Nat):Nat:=cond q (n+6) n
def uB (q:Bool) (n:Nat):Nat:=cond q (n+2) n
noncomputable def lpJj (q:Bool):Code:=.seq (.region (uR q 4) (cO (uR q 4)) false) (.seq (.cond (.tmp (uT q 18)) .skip (.exit (uB q 0))) (.seq (.block (uB q 1) (.seq (.region (uR q 5) (cO (uR q 5)) false) (.seq (.region (uR q 6) (cO (uR q 6)) false) (.region (uR q 7) (cO (uR q 7)) true)))) (.region (uR q 8) (cO (uR q 8)) false)))
def xGo:cB=.seq (.region 0 (cO 0) false) (.seq (.region 1 (cO 1) false) (.seq (.region 2 (cO 2) false) (.seq (.seq (.region 3 (cO 3) false) (.block 0 (.loop (lpJj false)))) (.seq (.seq (.region 9 (cO 9) false) (.block 2 (.loop (lpJj true)))) (.seq (.region 15 (cO 15) false) .ret))))):=by kernel_rfl
def callOf:Op->Call
 | .call c=>c
 | _=>default
def xCd:Enters Tryz.prog 75:=⟨_,Tryz.func75,by kernel_rfl,by kernel_rfl⟩
def rowF (f:AV):List AV:=(f.cells.getD 0 .top).toList
def cntF (f:AV):AV:=.agg [.int .i64 (f.cells.getD 1 .top).toInt,.int .i64 (f.cells.getD 2 .top).toInt,.int .i64 1]
noncomputable def keyF (f:AV):List UInt8:=(xb8 (rowF f)).getD []
noncomputable def okF (f:AV):Bool:=Nat.beq f.cells.length 3&&(xId [.list 3,.int .i64,.int .i64] f.cells 0&&(f.one==false&&(xb8 (rowF f)).isSome&&decide ((keyF f).length<=4611686018427387904)))
def boxF (f:AV):Box:=⟨0,3,51,[f],false,true⟩
abbrev PE:Type:=List UInt8×List AV×List AV×List AV
def strip (x:List UInt8×EntV):PE:=(x.1,x.2.row,x.2.a,x.2.b)
def ixP (ps:List PE) (k:List UInt8):Option Nat:=ps.findIdx? fun x=>x.1==k
def msOf (es:List (List UInt8×EntV)):List AV:=es.map fun x=>.agg [.str x.1,.gptr x.2.g]
def xna (es:List (List UInt8×EntV)):(msOf es).length=es.length:=by simp [msOf]
def xo3 (k:List UInt8):∀ es:List (List UInt8×EntV),mapIx (msOf es) k=ixP (es.map strip) k
 | []=>rfl
 | x::es=>by
  have ih:=xo3 k es;unfold ixP at ih |-;simp only [msOf,zW,mapIx,AV.cells,List.getD_cons_zero,isKey,List.findIdx?_cons];cases h:(x.1==k) with
  | true=>simp [strip,h]
  | false =>
   simp only [strip,h];rw [show List.map (fun x=>AV.agg [AV.str x.fst,AV.gptr x.snd.g]) es=msOf es from rfl,ih]
   simp [strip]
def defP:PE:=([],[],[],[])
def putP (q:Bool) (ps:List PE) (k:List UInt8) (row:List AV) (c:AV):List PE:=match ixP ps k with
 | some j=>ps.set j ((ps.getD j defP).1,(ps.getD j defP).2.1,cond q (ps.getD j defP).2.2.1 ((ps.getD j defP).2.2.1++[c]),cond q ((ps.getD j defP).2.2.2++[c]) (ps.getD j defP).2.2.2)
 | none=>ps++[(k,row,cond q [] [c],cond q [c] [])]
noncomputable def stepP (q:Bool) (ps:List PE) (f:AV):List PE:=putP q ps (keyF f) (rowF f) (cntF f)
def _root_.Go.Sim.EntV.add (q:Bool) (e:EntV) (c:AV):EntV:=cond q { e with b:=e.b++[c],vb:=e.vb+1 } { e with a:=e.a++[c],va:=e.va+1 }
def _root_.Go.Sim.EntV.sl (q:Bool) (e:EntV):List AV:=cond q e.b e.a
def _root_.Go.Sim.EntV.vr (q:Bool) (e:EntV):Nat:=cond q e.vb e.va
def _root_.Go.Sim.EntV.add_g (q:Bool) (e:EntV) (c:AV):(e.add q c).g=e.g:=by cases q<;>rfl
structure Ents (w:World) (A:Nat->Prop) (B F c:Nat) (es:List (List UInt8×EntV)) (Ns:Nat->Id->Option MB) (M:Id->Option MB):Prop where
 ent:∀ (i:Nat) (x:List UInt8×EntV),es[i]?=some x->EntAt w A B F x.2 (Ns i)
 apart:∀ i j,i<es.length->j<es.length->i≠j->Apart (Ns i) (Ns j)
 apm:∀ i,i<es.length->Apart (Ns i) M
 bnd:∀ (i:Nat) (x:List UInt8×EntV),es[i]?=some x->x.2.a.length<=c/\x.2.b.length<=c
 cnt:es.length<=c
def xjY {α:Type} {l:List α} {i:Nat} {x:α} (h:l[i]?=some x):i<l.length:=by
 rcases zK i l.length with h'|h'
 . exact h'
 . rw [zA h'] at h;cases h
section
variable {w w' : World} {A A' : Nat -> Prop} {B F c : Nat} {es : List (List UInt8 × EntV)} {Ns : Nat -> Id -> Option MB} {M M' M1 : Id -> Option MB}
def Ents.go (h:Ents w A B F c es Ns M) (hm:Mv w A M w' A' M') (q:∀ b,A' b->b<w'.heap.size):Ents w' A' B F c es Ns M' :=
 ⟨fun i x hx=>(h.ent i x hx).go hm q (h.apm i (xjY hx)),h.apart,fun i hi=>by
  obtain ⟨x,hx⟩:∃ x,es[i]?=some x:=⟨es[i],zf hi⟩;exact (h.apm i hi).go (h.ent i x hx) hm,h.bnd,h.cnt⟩
def Ents.part {q:Id->Bool} (h:Ents w A B F c es Ns M):Ents w A B F c es Ns (MR q M):=⟨h.ent,h.apart,fun i hi=>(h.apm i hi).part,h.bnd,h.cnt⟩
def Ents.upd (h:Ents w A B F c es Ns M) {j:Nat} {k:List UInt8} {e':EntV} (hj:j<es.length) (hm:Mv w A (MJ M (Ns j)) w' A' M1) (Q:∀ b,A' b->b<w'.heap.size) (he:EntAt w' A' B F e' (MR (pB qe1) M1)) (hs:Apart (MR (pB qe1) M1) (MR (pB q0) M1)) (hb:e'.a.length<=c+1/\e'.b.length<=c+1) :
  Ents w' A' B F (c+1) (es.set j (k,e')) (fun i=>if i=j then MR (pB qe1) M1 else Ns i) (MR (pB q0) M1):=by
 have O:∀ i,i<es.length->i≠j->Apart (Ns i) M1:=fun i hi hne=>by
  obtain ⟨x,hx⟩:∃ x,es[i]?=some x:=⟨es[i],zf hi⟩;exact ((h.apm i hi).joined (h.apart i j hi hj hne)).go (h.ent i x hx) hm
 refine ⟨fun i x hx=>?_,fun i i' hi J hne=>?_,fun i hi=>?_,fun i x hx=>?_,?_⟩
 . by_cases q:i=j
   . subst q;rw [zM hj] at hx;cases hx;simpa using he
   . rw [zY (fun e=>q e.symm)] at hx
     simp only [q,if_false];exact (h.ent i x hx).go hm Q ((h.apm i (xjY hx)).joined (h.apart i j (xjY hx) hj q))
 . rw [y8] at hi J;by_cases q:i=j
   . have D:i'≠j:=fun e=>hne (q.trans e.symm)
     simp only [q,D,if_true,if_false];exact (Apart.part (O i' J D)).symm
   . by_cases D:i'=j
     . simp only [q,D,if_true,if_false];exact Apart.part (O i hi q)
     . simp only [q,D,if_false];exact h.apart i i' hi J hne
 . rw [y8] at hi;by_cases q:i=j
   . simp only [q,if_true];exact hs
   . simp only [q,if_false];exact Apart.part (O i hi q)
 . by_cases q:i=j
   . subst q;rw [zM hj] at hx;cases hx;exact hb
   . rw [zY (fun e=>q e.symm)] at hx
     have:=h.bnd i x hx;omega
 . rw [y8];have:=h.cnt;omega
def Ents.add (h:Ents w A B F c es Ns M) {k:List UInt8} {e':EntV} (hm:Mv w A M w' A' M1) (O:∀ b,A' b->b<w'.heap.size) (he:EntAt w' A' B F e' (MR (pB qe1) M1)) (hs:Apart (MR (pB qe1) M1) (MR (pB q0) M1)) (hb:e'.a.length<=c+1/\e'.b.length<=c+1) :
  Ents w' A' B F (c+1) (es++[(k,e')]) (fun i=>if i=es.length then MR (pB qe1) M1 else Ns i) (MR (pB q0) M1):=by
 have J:∀ i,i<es.length->Apart (Ns i) M1:=fun i hi=>by
  obtain ⟨x,hx⟩:∃ x,es[i]?=some x:=⟨es[i],zf hi⟩;exact (h.apm i hi).go (h.ent i x hx) hm
 have hl:(es++[(k,e')]).length=es.length+1:=by simp
 refine ⟨fun i x hx=>?_,fun i i' hi Q hne=>?_,fun i hi=>?_,fun i x hx=>?_,?_⟩
 . have hi:=xjY hx;by_cases q:i=es.length
   . subst q;simp at hx;subst hx;simpa using he
   . rw [zP (by omega)] at hx
     simp only [q,if_false];exact (h.ent i x hx).go hm O (h.apm i (xjY hx))
 . by_cases q:i=es.length
   . have D:i'≠es.length:=fun e=>hne (q.trans e.symm)
     simp only [q,D,if_true,if_false];exact (Apart.part (J i' (by omega))).symm
   . by_cases D:i'=es.length
     . simp only [q,D,if_true,if_false];exact Apart.part (J i (by omega))
     . simp only [q,D,if_false];exact h.apart i i' (by omega) (by omega) hne
 . by_cases q:i=es.length
   . simp only [q,if_true];exact hs
   . simp only [q,if_false];exact Apart.part (J i (by omega))
 . have hi:=xjY hx;by_cases q:i=es.length
   . subst q;simp at hx;subst hx;exact hb
   . rw [zP (by omega)] at hx
     have:=h.bnd i x hx;omega
 . have:=h.cnt;omega
end
end Go.Sim.M
end
noncomputable section
set_option maxRecDepth 100000
namespace Go.Sim.M
open Go.RowKit Go.Proofs
def xsI {ops:Array Oper} {l:List Oper} {s s':St} (h:xOps Tryz.prog (EC 0) none (some true) ops l s some=some s'):Path (OpA Tryz.prog (xIQ.at 0)) ops l s s':=by
 obtain ⟨s1,h1,h2⟩:=xek (orcC 0) h;cases h2;exact h1
def xqN {es:List (List UInt8×EntV)} {j:Nat} {x:List UInt8×EntV} (h:es[j]?=some x):(msOf es).getD j .top=.agg [.str x.1,.gptr x.2.g]:=by
 simp [msOf,z7,h]
def xCk {ps:List PE} {k:List UInt8} {j:Nat} (h:ixP ps k=some j):j<ps.length/\(ps.getD j defP).1=k:=by
 unfold ixP at h;obtain ⟨h1,h2,_⟩:=List.findIdx?_eq_some_iff_getElem.1 h;exact ⟨h1,by simpa [z7,h1] using h2⟩
def xFR (es:List (List UInt8×EntV)) (k:List UInt8):xIq .nilptr (msOf es) k=.nilptr\/∃ g,xIq .nilptr (msOf es) k=.gptr g:=by
 unfold xIq;cases h:mapIx (msOf es) k with
 | none=>exact .inl rfl
 | some j =>
  have hj:=xif h;rw [xna] at hj;obtain ⟨x,hx⟩:∃ x,es[j]?=some x:=⟨es[j],zf hj⟩;right;dsimp only;rw [xqN hx];exact ⟨_,rfl⟩
def xAP {es:List (List UInt8×EntV)} {k:List UInt8} {g:Nat} (h:xIq .nilptr (msOf es) k=.gptr g):∃ j x,es[j]?=some x/\x.1=k/\x.2.g=g/\ixP (es.map strip) k=some j:=by
 unfold xIq at h;cases hi:mapIx (msOf es) k with
 | none=>rw [hi] at h;cases h
 | some j =>
  have hj:=xif hi;rw [xna] at hj;obtain ⟨x,hx⟩:∃ x,es[j]?=some x:=⟨es[j],zf hj⟩;rw [hi] at h;dsimp only at h;rw [xqN hx] at h;rw [xo3] at hi;have h2:=(xCk hi).2;have e:(es.map strip).getD j defP=strip x:=by simp [z7,hx]
  rw [e] at h2;refine ⟨j,x,hx,h2,?_,hi⟩;have h:AV.gptr x.2.g=.gptr g:=h;injection h
def xDR {es:List (List UInt8×EntV)} {k:List UInt8} (h:xIq .nilptr (msOf es) k=.nilptr):mapIx (msOf es) k=none:=by
 unfold xIq at h;cases hi:mapIx (msOf es) k with
 | none=>rfl
 | some j =>
  have hj:=xif hi;rw [xna] at hj;obtain ⟨x,hx⟩:∃ x,es[j]?=some x:=⟨es[j],zf hj⟩;rw [hi] at h;dsimp only at h;rw [xqN hx] at h;cases h
def xCq {es:List (List UInt8×EntV)} {j:Nat} {x:List UInt8×EntV} {e':EntV} (h:es[j]?=some x) (hg:e'.g=x.2.g):msOf (es.set j (x.1,e'))=msOf es:=by
 unfold msOf;rw [List.map_set];apply List.ext_getElem?;intro i;by_cases hi:j=i
 . subst hi;have:=xjY h;rw [zM (by simpa using this)]
   simp [h,hg]
 . rw [zY hi]
def xCp {es:List (List UInt8×EntV)} {k:List UInt8} {e':EntV} (h:mapIx (msOf es) k=none):msOf (es++[(k,e')])=xIo (msOf es) k (.gptr e'.g):=by
 unfold xIo;rw [h];simp [msOf]
def xBu (q:Bool) {es:List (List UInt8×EntV)} {j:Nat} {x:List UInt8×EntV} {k:List UInt8} {row:List AV} {c:AV} (h:es[j]?=some x) (hi:ixP (es.map strip) k=some j):(es.set j (x.1,x.2.add q c)).map strip=putP q (es.map strip) k row c:=by
 have e:(es.map strip).getD j defP=strip x:=by simp [z7,h]
 unfold putP;rw [hi];dsimp only;rw [e,List.map_set];cases q<;>rfl
def xBt (q:Bool) {es:List (List UInt8×EntV)} {k:List UInt8} {row:List AV} {c:AV} {g:Nat} (hi:mapIx (msOf es) k=none):(es++[(k,(⟨g,row,[],[],0,0⟩:EntV).add q c)]).map strip=putP q (es.map strip) k row c:=by
 rw [xo3] at hi;unfold putP;rw [hi];cases q<;>simp [strip,EntV.add]
def entV (row a b:List AV):AV:=.eptr 3 [.agg [.list 3 row,.list 3 a,.list 3 b]] 0 0
def outE (p:PE):AV:=.agg [.str p.1,entV p.2.1 p.2.2.1 p.2.2.2]
def outOf (ps:List PE):List AV:=ps.map outE
def xyH {H:List Box} {n k ver sz:Nat} {ty:TypeId} {xs:List AV} (hb:H[k]?=some ⟨ver,sz,ty,xs,false,true⟩) (hc:isC ty=false):resolve H (n+1) (.osl (.b k) ver 0 xs.length)=some (.list sz xs):=by
 have hm:xIa ty=false:=xaH hc;have h1:xIb H (.b k) ver=some ⟨ver,sz,ty,xs,false,true⟩:=by
  unfold xIb;rw [xbG,hb];simp [hm]
 have h2:rowsOk ⟨ver,sz,ty,xs,false,true⟩ xs=true:=by unfold rowsOk;rw [hc]
 unfold resolve;simp [AV.pure,h1,mapE,h2]
def xCH {H:List Box} (e:EntV) (h3:xIb H (.b 1) 0=some e.E) (h1:resolve H 3 (.osl (.b 2) e.va 0 e.a.length)=some (.list 3 e.a)) (h2:resolve H 3 (.osl (.b 3) e.vb 0 e.b.length)=some (.list 3 e.b)):resolve H 4 (.own (.b 1) 0 0 0)=some (entV e.row e.a e.b):=by
 have h0:resolve H 3 (.list 3 e.row)=some (.list 3 e.row):=by
  unfold resolve;simp [AV.pure]
 unfold resolve;simp only [AV.pure,h3];simp only [EntV.E,mapE,mapO,resE,h0,h1,h2];rfl
def xD9 (e:EntV):resolve [box0,e.E,e.A,e.B] 4 (.own (.b 1) 0 0 0)=some (entV e.row e.a e.b):=xCH e rfl (xyH rfl rfl) (xyH rfl rfl)
section
variable {w0 w : World} {A0 : Cx} {A A' : Nat -> Prop} {M N : Id -> Option MB} {a : Act} {B F : Nat} {e : EntV}
def _root_.Go.Sim.EntAt.froz (h:EntAt w A B F e N) (hA:∀ b,A' b->A b) (q:∀ id m,N id=some m->0<m.cap->¬ A' m.b) {v:Value} (hv:v=.pointer (some ⟨e.g,0,none⟩)):Rel w A' xIl v (entV e.row e.a e.b) :=
 xcV h.hr (fun b _=>hA b) 4 v _ _ (h.own hv) (xD9 e) fun id _ m hm h0=>q id m hm h0
def xFZ {es:List (List UInt8×EntV)} {j:Nat} {x:List UInt8×EntV} (h:es[j]?=some x):(outOf (es.map strip)).getD j .top=.agg [.str x.1,entV x.2.row x.2.a x.2.b]:=by
 simp [outOf,outE,strip,z7,h]
def SR.final {ts:List AV} {es:List (List UInt8×EntV)} {Ns:Nat->Id->Option MB} {c:Nat} (hs:SR w0 A0 w A M ⟨ts,[mapB (msOf es)]⟩ a) (hE:Ents w A w0.heap.size A0.w1.heap.size c es Ns M) (hM:∀ id m,M id=some m->pB q0 id=true) (hp:A0.pin=0) :
  ∃ A',SR w0 A0 w A' M ⟨ts,[mapB (outOf (es.map strip))]⟩ a:=by
 obtain ⟨A',W⟩:∃ A':Nat->Prop,A'=fun b=>A b/\∀ i id m,i<es.length->Ns i id=some m->0<m.cap->m.b≠b:=⟨_,rfl⟩
 have D:∀ b,A' b->A b:=fun b h=>by rw [W] at h;exact h.1
 have V:∀ b,A b->(∀ i id m,i<es.length->Ns i id=some m->0<m.cap->m.b≠b)->A' b:=fun b h1 h2=>by rw [W];exact ⟨h1,h2⟩
 have ab:∀ i,i<es.length->∀ id m,Ns i id=some m->0<m.cap->¬ A' m.b:=fun i hi id m h1 h2 h3=>by
  rw [W] at h3;exact h3.2 i id m hi h1 h2 rfl
 have J:∀ i,i<es.length->∃ x,es[i]?=some x/\EntAt w A w0.heap.size A0.w1.heap.size x.2 (Ns i):=fun i hi=>⟨es[i],zf hi,hE.ent i _ (zf hi)⟩
 refine ⟨A',hs.base,fun b hb=>⟨fun h=>(hs.outer b hb).1 (D b h),fun h=>V b ((hs.outer b hb).2 h) fun i id m hi h1 h2 he=>?_⟩,hs.size,fun t ht=>(hs.tmps t ht).mono (fun _ _ _=>rfl) (zd _) (fun b _ h=>D b h) (MExt.refl _),⟨fun id m hm=>?_,hs.heap.inj,fun b h=>hs.heap.lt b (D b h)⟩,hs.defers,
  ⟨hs.ev.size,hs.ev.keep,fun b hb h=>hs.ev.less b hb (D b h),fun b hb h hn=>V b (hs.ev.more b hb h hn) fun i id m hi h1 h2 he=>?_,fun id m h=>by rw [hp] at h;exact absurd h (Nat.not_lt_zero _),hs.ev.src⟩⟩
 . obtain ⟨x,hx,O⟩:=J i hi;obtain ⟨bx,_,q⟩:=O.hr.box id m h1;have:=q.low h2;omega
 . have aa:=hM id m hm;cases id with
   | r n i j=>simp [pB] at aa
   | b n =>
    cases n with
    | succ n=>simp [pB,q0] at aa
    | zero =>
     obtain ⟨bx,hb,q⟩:=hs.heap.box _ _ hm;obtain rfl:mapB (msOf es)=bx:=by simpa [getB] using hb
     have hsz:m.sz=2:=q.sz.symm;have Q:(outOf (es.map strip)).length=(msOf es).length:=by simp [outOf,msOf]
     refine ⟨mapB (outOf (es.map strip)),rfl,q.ver,q.sz,q.ty,q.capm,by show (outOf (es.map strip)).length<=_;rw [Q];exact q.fits,fun x hx=>?_,q.low,q.lt,fun h0=>?_,fun h0=>?_⟩
     . have hx:x∈outOf (es.map strip):=hx;unfold outOf at hx;obtain ⟨p,_,rfl⟩:=zL.1 hx;rw [hsz];rfl
     . obtain ⟨cc,c1,c2,c3⟩:=q.cells h0;refine ⟨cc,by show HoldsC w m (outOf (es.map strip)).length cc;rw [Q];exact c1,c2,fun i j hi hj=>?_⟩
       have hi':i<es.length:=by
        have hi:i<(outOf (es.map strip)).length:=hi;simpa [outOf] using hi
       have h3:=c3 i j (by show i<(msOf es).length;rw [xna];exact hi') hj
       obtain ⟨x,hx,O⟩:=J i hi';have Y:xH9 (mapB (msOf es)).ty j=false:=by
        rcases j with _|_|j
        . exact xvE
        . exact xvF
        . omega
       unfold xIw MV at h3 |-;have Z:xH9 (mapB (outOf (es.map strip))).ty j=false:=Y;rw [Y] at h3;rw [Z];have h3:Rel w A xIl (cc.getD (i*m.sz+j) undef) (((msOf es).getD i .top).cells.getD j .top):=h3;show Rel w A' xIl (cc.getD (i*m.sz+j) undef) (((outOf (es.map strip)).getD i .top).cells.getD j .top);rw [xqN hx] at h3;rw [xFZ hx];generalize cc.getD (i*m.sz+j) undef=v at h3;rcases j with _|_|j
       . exact h3.mono (fun _ _ _=>rfl) (zd _) (fun b _ h=>D b h) (MExt.refl _)
       . have h3:Rel w A xIl v (.gptr x.2.g):=h3;cases h3;exact O.froz D (ab i hi') rfl
       . omega
     . have h1:=q.guard h0;refine ⟨fun h=>V _ (h1.1 h) fun i id m' hi h2 h3 he=>hE.apm i hi id m' _ m h2 h3 hm h0 he,fun h=>h1.2 (D _ h)⟩
 . obtain ⟨x,hx,O⟩:=J i hi;have:=O.fresh id m h1 h2;omega
end
end Go.Sim.M
end
noncomputable section
set_option maxRecDepth 100000
namespace Go.Sim.M
open Go.RowKit Go.Proofs
def lvJj (q:Bool):List Nat:=[1,5,6,(uT q 15),(uT q 16),(uT q 17)]
noncomputable def hdJj (q:Bool) (fb l:List AV) (n i:Int):List AV:=mkTs 62 [(1,.list 3 fb),(5,vC),(6,.func 75 [vC]),((uT q 15),.list 3 l),((uT q 16),.int .i64 n),((uT q 17),.int .i64 i)]
def ndJj4 (q:Bool):noDefer (cO (uR q 4))=true:=by cases q<;>kernel_rfl
def ndJj5 (q:Bool):noDefer (cO (uR q 5))=true:=by cases q<;>kernel_rfl
def ndJj6 (q:Bool):noDefer (cO (uR q 6))=true:=by cases q<;>kernel_rfl
def ndJj8 (q:Bool):noDefer (cO (uR q 8))=true:=by cases q<;>kernel_rfl
def rJj4 (q:Bool) (fb l ms:List AV) (n i:Int):xOps Tryz.prog (EC 0) none (some true) (cO (uR q 4)) (cO (uR q 4)).toList ⟨(hdJj q) fb l n i,[mapB ms]⟩ (fun s=>some (keepS ((uT q 18)::(lvJj q)) s))=some ⟨((hdJj q) fb l n i).set (uT q 18) (.bool (decide (i<n))),[mapB ms]⟩:=by cases q<;>kernel_rfl
def rJj5 (q:Bool) (fb l ms:List AV) (n i:Int):xOps Tryz.prog (EC 0) none (some true) (cO (uR q 5)) (cO (uR q 5)).toList ⟨((hdJj q) fb l n i).set (uT q 18) (.bool true),[mapB ms]⟩ (fun s=>some (keepS ((uE q 8)::(lvJj q)) s)) =
 br (decide ((0:Int)<=i)&&decide (i<(l.length:Int))) (br (decide (i.toNat<l.length)&&((l.getD i.toNat .top).cells.length==3&&xId [.list 3,.int .i64,.int .i64] (l.getD i.toNat .top).cells 0))
  (some ⟨((hdJj q) fb l n i).set (uE q 8) (.own (.b 1) 0 0 0),[mapB ms,boxF (.agg [.list 3 ((l.getD i.toNat .top).cells.getD 0 .top).toList,.int .i64 ((l.getD i.toNat .top).cells.getD 1 .top).toInt,.int .i64 ((l.getD i.toNat .top).cells.getD 2 .top).toInt])]⟩) none) none:=by cases q<;>kernel_rfl
noncomputable def h8Jj (q:Bool) (fb l:List AV) (n i:Int) (row:List AV) (ff ft:Int):List AV:=((hdJj q) fb l n i).set (uE q 8) (.eptr 3 [.agg [.list 3 row,.int .i64 ff,.int .i64 ft]] 0 0)
noncomputable def h9Jj (q:Bool) (fb l:List AV) (n i:Int) (row:List AV) (ff ft:Int):List AV:=((((h8Jj q) fb l n i row ff ft).set (uT q 21) (.func 75 [vC])).set (uT q 22) (.eptr 3 [.agg [.list 3 row,.int .i64 ff,.int .i64 ft]] 0 0)).set (uT q 23) (.list 3 row)
def rJj6 (q:Bool) (fb l ms:List AV) (n i:Int) (row:List AV) (ff ft:Int):xOps Tryz.prog (EC 0) none (some true) (cO (uR q 6)) ((cO (uR q 6)).toList.take 3) ⟨(h8Jj q) fb l n i row ff ft,[mapB ms]⟩ some=some ⟨(h9Jj q) fb l n i row ff ft,[mapB ms]⟩:=by cases q<;>kernel_rfl
def lJj6 (q:Bool):(cO (uR q 6)).toList=(cO (uR q 6)).toList.take 3++[(cO (uR q 6)).toList.getD 3 default,(cO (uR q 6)).toList.getD 4 default]:=by cases q<;>kernel_rfl
def oJj3 (q:Bool):((cO (uR q 6)).toList.getD 3 default).op=.call (callOf ((cO (uR q 6)).toList.getD 3 default).op):=by cases q<;>kernel_rfl
def tJj3 (q:Bool) (fb l ms:List AV) (n i:Int) (row:List AV) (ff ft:Int):xIW ⟨(h9Jj q) fb l n i row ff ft,[mapB ms]⟩ (callOf ((cO (uR q 6)).toList.getD 3 default).op)=some (75,[.list 3 row,vC]):=by cases q<;>kernel_rfl
def dJj3 (q:Bool):((cO (uR q 6)).toList.getD 3 default).dst=some (uT q 24):=by cases q<;>kernel_rfl
def gJj3 (q:Bool):((cO (uR q 6)).toList.getD 3 default).guard=none:=by cases q<;>kernel_rfl
def rJj6f (q:Bool) (fb l ms:List AV) (n i:Int) (row:List AV) (ff ft:Int) (g:Nat):xOps Tryz.prog (EC 0) none (some true) (cO (uR q 6)) [(cO (uR q 6)).toList.getD 4 default] ⟨((h9Jj q) fb l n i row ff ft).set (uT q 24) (.gptr g),[mapB ms]⟩ (fun s=>some (keepS ((uE q 8)::(uE q 9)::(lvJj q)) s))=some ⟨((h8Jj q) fb l n i row ff ft).set (uE q 9) (.gptr g),[mapB ms]⟩:=by cases q<;>kernel_rfl
def rJj6n (q:Bool) (fb l ms:List AV) (n i:Int) (row:List AV) (ff ft:Int) (g:Nat):xOps Tryz.prog (EC 0) none (some true) (cO (uR q 6)) [(cO (uR q 6)).toList.getD 4 default] ⟨((h9Jj q) fb l n i row ff ft).set (uT q 24) (.gptr g),[mapB ms,boxN row]⟩ (fun s=>some (keepS ((uE q 8)::(uE q 9)::(lvJj q)) s))=some ⟨((h8Jj q) fb l n i row ff ft).set (uE q 9) (.gptr g),[mapB ms,boxN row]⟩:=by cases q<;>kernel_rfl
def boxJj (q:Bool) (e:EntV):Box:=⟨0,3,89,[.agg (cond q [.list 3 e.row,.osl (.b 2) e.va 0 e.a.length,.osl (.b 3) (e.vb+1) 0 (e.b.length+1)] [.list 3 e.row,.osl (.b 2) (e.va+1) 0 (e.a.length+1),.osl (.b 3) e.vb 0 e.b.length])],false,false⟩
def xBL (q:Bool) (e:EntV) (c:AV):boxJj q e=(e.add q c).E:=by
 cases q<;>(unfold boxJj EntV.E EntV.add;simp)
def rJj7 (q:Bool) (fb l ms:List AV) (n i:Int) (row:List AV) (ff ft:Int) (e:EntV):X Tryz.prog (EC 4) none (.region (uR q 7) (cO (uR q 7)) true) ⟨((h8Jj q) fb l n i row ff ft).set (uE q 9) (.own (.b 1) 0 0 0),[mapB ms,e.E,e.A,e.B]⟩ (fun ex s=>some (ex,keepS (lvJj q) s)) =
 br (e.vr q==e.vr q&&((e.sl q).length==(e.sl q).length&&(decide (((e.sl q).length+1)*24<=140737488355328)&&decide ((e.sl q).length+1<=4611686018427387904))))
  (some (.normal,⟨(hdJj q) fb l n i,[mapB ms,boxJj q e,(e.add q (.agg [.int .i64 ff,.int .i64 ft,.int .i64 1])).A,(e.add q (.agg [.int .i64 ff,.int .i64 ft,.int .i64 1])).B,⟨0,3,107,[.agg [.int .i64 ff,.int .i64 ft,.int .i64 1]],false,true⟩]⟩)) none:=by cases q<;>kernel_rfl
def lkJj (q:Bool):LoOk Tryz.prog (xIQ.at 4) (EC 4) (.region (uR q 7) (cO (uR q 7)) true):=xdY rfl
def rJj8 (q:Bool) (fb l ms:List AV) (n i:Int):xOps Tryz.prog (EC 0) none (some true) (cO (uR q 8)) (cO (uR q 8)).toList ⟨(hdJj q) fb l n i,[mapB ms]⟩ (fun s=>some (keepS (lvJj q) s))=some ⟨(hdJj q) fb l n (IntKind.i64.wrap (i+1)),[mapB ms]⟩:=by cases q<;>kernel_rfl
def cutJj (q:Bool) (fb l:List AV) (n i:Int):cutT ((hdJj q) fb l n i)=(hdJj q) fb l n i:=by cases q<;>kernel_rfl
def cutJj8 (q:Bool) (fb l:List AV) (n i:Int) (row:List AV) (ff ft:Int):cutT ((h8Jj q) fb l n i row ff ft)=(h8Jj q) fb l n i row ff ft:=by cases q<;>kernel_rfl
def xiH (ms:List AV):boxIn (pB q0) (mapB ms)=true:=by kernel_rfl
def xiI (ms:List AV) (j:Nat) (hj:j<(mapB ms).sz):xH9 (mapB ms).ty j=false:=by
 have hj:j<2:=hj;rcases j with _|_|j
 . exact xvE
 . exact xvF
 . omega
section
variable {w0 w : World} {A0 : Cx} {A : Nat -> Prop} {M : Id -> Option MB} {a : Act}
def tailJj (q:Bool) (hI:xIQ w0) (hp:A0.pin=0) (Z:∀ id,A0.M1 id=none) {fb l ms row:List AV} {n i ff ft:Int} {e:EntV} {m:MB}
  (hs:SR w0 A0 w A M ⟨((h8Jj q) fb l n i row ff ft).set (uE q 9) (.own (.b 1) 0 0 0),[mapB ms,e.E,e.A,e.B]⟩ a) (hm:M (.b 1)=some m) (hg:m.b=e.g) (h2:∃ m,M (.b 2)=some m) (h3:∃ m,M (.b 3)=some m) (hb:(e.sl q).length<4294967296) {Q:Exit->Act->World->Prop}
  (hK:∀ a' w' A' M',SR w0 A0 w' A' (MR (pB q0) M') ⟨(hdJj q) fb l n i,[mapB ms]⟩ a'->Mv w A M w' A' M'->(∀ b,A' b->b<w'.heap.size)->EntAt w' A' w0.heap.size A0.w1.heap.size (e.add q (.agg [.int .i64 ff,.int .i64 ft,.int .i64 1])) (MR (pB qe1) M')->Apart (MR (pB qe1) M') (MR (pB q0) M')->Q .normal a' w') :
  (Code.region (uR q 7) (cO (uR q 7)) true).wpIn (wideR none) 0 Tryz.prog Q a w:=by
 obtain ⟨W,O⟩:∃ t:St,t=⟨(hdJj q) fb l n i,[mapB ms,(e.add q (.agg [.int .i64 ff,.int .i64 ft,.int .i64 1])).E,(e.add q (.agg [.int .i64 ff,.int .i64 ft,.int .i64 1])).A,(e.add q (.agg [.int .i64 ff,.int .i64 ft,.int .i64 1])).B,⟨0,3,107,[.agg [.int .i64 ff,.int .i64 ft,.int .i64 1]],false,true⟩]⟩:=⟨_,rfl⟩;have hx:=(rJj7 q) fb l ms n i row ff ft e;have hc:(e.vr q==e.vr q&&((e.sl q).length==(e.sl q).length&&(decide (((e.sl q).length+1)*24<=140737488355328)&&decide ((e.sl q).length+1<=4611686018427387904))))=true:=by
  simp only [beq_self_eq_true,Bool.true_and,zg,zm];omega
 rw [hc] at hx;have hx:X Tryz.prog (EC 4) none (.region (uR q 7) (cO (uR q 7)) true) ⟨((h8Jj q) fb l n i row ff ft).set (uE q 9) (.own (.b 1) 0 0 0),[mapB ms,e.E,e.A,e.B]⟩ (fun ex s=>some (ex,keepS (lvJj q) s))=some (.normal,W):=by
  rw [O,<-(xBL q)];exact hx
 have hd:=xfe (P:=Tryz.prog) (Inv:=xIQ.at 4) (E:=EC 4) (T:=Option (Exit×St)) (good:=fun o=>o=some (.normal,W)) (bad:=none) xIh (hIoG 4) rfl (by simp) (orcC 4) _ _ _ (lkJj q) hx
 refine hd w0 _ w A M a _ hI (zd 4) (hs.door 4) ?_ none (fun _=>rfl)
 rintro ex s' a' w' hq ⟨A',M',Y⟩;simp only [z6,zb] at hq;obtain ⟨rfl,hk⟩:=hq;obtain ⟨ab,J⟩:=hs.undoor (zd 4) Y;have D:=ab.mask (lvJj q);rw [hk,O] at D;have aa:M' (.b 1)=some m:=HR.same hs.heap D.heap J.ext (n:=1) rfl rfl rfl hm;have h2':∃ m,M' (.b 2)=some m:=by
  obtain ⟨m2,h⟩:=h2;obtain ⟨m',h',_⟩:=J.ext _ _ h;exact ⟨m',h'⟩
 have h3':∃ m,M' (.b 3)=some m:=by
  obtain ⟨m2,h⟩:=h3;obtain ⟨m',h',_⟩:=J.ext _ _ h;exact ⟨m',h'⟩
 have V:=D.cut hp (xiH ms) (xiI ms);rw [(cutJj q)] at V;exact hK _ _ _ _ V J D.heap.lt (D.out Z aa (hg.trans (EntV.add_g q e _).symm) h2' h3') D.heap.split
end
end Go.Sim.M
end
noncomputable section
set_option maxRecDepth 100000
namespace Go.Sim.M
open Go.RowKit Go.Proofs
def cutJj9 (q:Bool) (fb l:List AV) (n i:Int) (row:List AV) (ff ft:Int) (g:Nat):cutT (((h8Jj q) fb l n i row ff ft).set (uE q 9) (.gptr g))=((h8Jj q) fb l n i row ff ft).set (uE q 9) (.gptr g):=by cases q<;>kernel_rfl
def getJj9 (q:Bool) (fb l:List AV) (n i:Int) (row:List AV) (ff ft:Int) (g:Nat):(((h8Jj q) fb l n i row ff ft).set (uE q 9) (.gptr g)).getD (uE q 9) .top=.gptr g:=by cases q<;>kernel_rfl
def resJj (q:Bool) (ms:List AV) (fb l:List AV) (n i:Int) (f:AV):resolve [mapB ms,boxF f] xIs ((((hdJj q) fb l n i).set (uE q 8) (.own (.b 1) 0 0 0)).getD (uE q 8) .top)=some (.eptr 3 [f] 0 0):=by cases q<;>kernel_rfl
def reaJj (q:Bool) (ms:List AV) (fb l:List AV) (n i:Int) (f:AV):freeze [mapB ms,boxF f] (reach [mapB ms,boxF f] xIs ((((hdJj q) fb l n i).set (uE q 8) (.own (.b 1) 0 0 0)).getD (uE q 8) .top))=[mapB ms,⟨0,3,51,[f],true,true⟩]:=by cases q<;>kernel_rfl
def setJj8 (q:Bool) (fb l:List AV) (n i:Int) (row:List AV) (ff ft:Int):(((hdJj q) fb l n i).set (uE q 8) (.own (.b 1) 0 0 0)).set (uE q 8) (.eptr 3 [.agg [.list 3 row,.int .i64 ff,.int .i64 ft]] 0 0)=(h8Jj q) fb l n i row ff ft:=by cases q<;>kernel_rfl
def xCr {f:AV} (h:okF f=true):(f.cells.length==3&&xId [.list 3,.int .i64,.int .i64] f.cells 0)=true:=by
 unfold okF at h;simp only [zg] at h;rw [zg];exact ⟨beq_iff_eq.2 (zh h.1),h.2.1⟩
def xD0 {f:AV} (h:okF f=true):xb8 (rowF f)=some (keyF f)/\(keyF f).length<=4611686018427387904:=by
 unfold okF at h;simp only [zg,zm] at h;obtain ⟨_,_,⟨_,h1⟩,h2⟩:=h;obtain ⟨k,hk⟩:=Option.isSome_iff_exists.1 h1;refine ⟨?_,h2⟩;unfold keyF;rw [hk];rfl
section
variable {w0 w : World} {A0 : Cx} {A : Nat -> Prop} {M : Id -> Option MB} {a : Act}
set_option maxHeartbeats 2000000 in
def callJj (q:Bool) (hI:xIQ w0) (hp:A0.pin=0) (ak:∀ id,A0.M1 id=none) {fb l:List AV} {n i:Int} {f:AV} {es:List (List UInt8×EntV)} {Ns:Nat->Id->Option MB} {c:Nat}
  (hs:SR w0 A0 w A M ⟨(h8Jj q) fb l n i (rowF f) (f.cells.getD 1 .top).toInt (f.cells.getD 2 .top).toInt,[mapB (msOf es)]⟩ a) (hE:Ents w A w0.heap.size A0.w1.heap.size c es Ns M) (hM:∀ id m,M id=some m->pB q0 id=true) (hf:okF f=true) (hc:c<4294967295) {Q:Exit->Act->World->Prop}
  (hK:∀ a' w' A' M' es' Ns',SR w0 A0 w' A' M' ⟨(hdJj q) fb l n i,[mapB (msOf es')]⟩ a'->(∀ id m,M' id=some m->pB q0 id=true)->Ents w' A' w0.heap.size A0.w1.heap.size (c+1) es' Ns' M'->es'.map strip=(stepP q) (es.map strip) f->Q .normal a' w') :
  (Code.seq (.region (uR q 6) (cO (uR q 6)) false) (.region (uR q 7) (cO (uR q 7)) true)).wpIn (wideR none) 0 Tryz.prog Q a w:=by
 obtain ⟨ap,a8⟩:=xD0 hf;refine wpIn_seq (wpIn_region_list (xey none 0 _ (xcQ (ndJj6 q)) _ _ ?_));rw [(lJj6 q)];refine xgW (hIoG 0) hI (xsI ((rJj6 q) fb l (msOf es) n i (rowF f) (f.cells.getD 1 .top).toInt (f.cells.getD 2 .top).toInt)) hs fun a1 w1 A1 M1 W a5=>wpList_plain (gJj3 q) fun K az=>?_
 have a0:=hE.go a5 W.heap.lt;have ba:=hE.cnt;refine callX (oJj3 q) ((tJj3 q) fb l (msOf es) n i (rowF f) (f.cells.getD 1 .top).toInt (f.cells.getD 2 .top).toInt) xCd W (R:=fun v w'=>∃ A' M' g,v=.pointer (some ⟨g,0,none⟩)/\Below w0.heap.size w0 w'/\(∀ b,b<w0.heap.size->(A' b↔A1 b))/\Mv w1 A1 M1 w' A' M'/\∃ H,HR w' A' M' w0.heap.size H/\GetPost (rowF f) (msOf es) (keyF f) g H M') (fun vs a6=>?_) fun v w2 hr=>?_
 . refine (xAO (w0:=w0) hI W.base W.heap a6 ap a8 (by rw [xna];show es.length<4611686018427387904;omega) (xFR es (keyF f))).mono ?_
   rintro e w' ⟨v,A',M',g,h1,h2,h3,h4,h5,h6⟩;exact ⟨v,h1,A',M',g,h2,h3,h4,h5,h6⟩
 . obtain ⟨A2,M2,g,rfl,am,al,mv2,H,a4,aj⟩:=hr;have O:=W.put (d:=((cO (uR q 6)).toList.getD 3 default).dst) am (fun b hb=>(al b hb).trans (W.outer b hb)) mv2 a4 (Rel.gptr (w:=w2) (A:=A2) (M:=M2) g)
   have ao:=a0.go mv2 O.heap.lt;refine az _ _ ?_;rw [(dJj3 q)] at O |-;generalize a1.put (some (uT q 24)) (.pointer (some ⟨g,0,none⟩))=a2 at O;rcases aj with ⟨Z,rfl⟩|⟨Z,rfl,m,hm,hcap,aa⟩
   ·
    obtain ⟨j,x,hx,bd,aw,au⟩:=xAP Z;have hj:=xjY hx;obtain ⟨s3,p3,e3⟩:=xek (orcC 0) ((rJj6f q) fb l (msOf es) n i (rowF f) (f.cells.getD 1 .top).toInt (f.cells.getD 2 .top).toInt g);simp only [z6] at e3;rw [<-zF [_]];refine xgW (hIoG 0) hI p3 O fun a3 w3 A3 M3 D mv3=>wpList_nil ?_
    have D:=D.mask ((uE q 8)::(uE q 9)::(lvJj q));rw [e3] at D;have aq:=D.cut hp (xiH _) (xiI _);rw [(cutJj9 q)] at aq;have ab:=(ao.go mv3 D.heap.lt).part (q:=pB q0);have J:=ab.ent j x hx;have V:=aq.join (xmB M3) hp J (ab.apm j hj);have Y:=V.setT (t:=uE q 9) (y:=.own (.b 1) 0 0 0) fun ht=>by
     have h:=V.tmps (uE q 9) ht;rw [(getJj9 q)] at h;have hv:a3.tmps.getD (uE q 9) undef=.pointer (some ⟨x.2.g,0,none⟩):=by
      rw [aw];generalize a3.tmps.getD (uE q 9) undef=u at h;cases h;rfl
     exact (J.own hv).mono (fun _ _ _=>rfl) (zd _) (fun _ _ h=>h) (xvW J.ids)
    rw [List.set_set] at Y;obtain ⟨m,hm,hcap,aa⟩:=J.one;have hb:(x.2.sl q).length<=c:=by
     have:=ab.bnd j x hx;cases q
     . exact this.1
     . exact this.2
    refine (tailJj q) hI hp ak Y (m:=m) hm aa J.two J.three (by omega) fun a' w' A' M' ag ai ae he ah=>?_
    have bc:=ab.bnd j x hx;have af:=ab.upd (k:=x.1) hj ai ae he ah (by cases q<;>simp only [EntV.add,cond,z8,zk]<;>omega)
    refine hK a' w' A' _ _ _ ?_ (xmB M') af ?_
    . rw [xCq (e':=x.2.add q (.agg [.int .i64 (f.cells.getD 1 .top).toInt,.int .i64 (f.cells.getD 2 .top).toInt,.int .i64 1])) hx (by cases q<;>rfl)];exact ag
    . exact xBu q hx au
   ·
    have ac:=xDR Z;obtain ⟨s3,p3,e3⟩:=xek (orcC 0) ((rJj6n q) fb l (xIo (msOf es) (keyF f) (.gptr g)) n i (rowF f) (f.cells.getD 1 .top).toInt (f.cells.getD 2 .top).toInt g);simp only [z6] at e3;rw [<-zF [_]];refine xgW (hIoG 0) hI p3 O fun a3 w3 A3 M3 D mv3=>wpList_nil ?_
    have D:=D.mask ((uE q 8)::(uE q 9)::(lvJj q));rw [e3] at D;have a9:=HR.same O.heap D.heap mv3.ext (n:=1) rfl rfl rfl hm;obtain ⟨M5,V,a7,ad,h2,h3⟩:=D.newE a9 aa;have ax:=(ao.go mv3 D.heap.lt);have Y:=V.setT (t:=uE q 9) (y:=.own (.b 1) 0 0 0) fun ht=>by
     have h:=V.tmps (uE q 9) ht;rw [(getJj9 q)] at h;obtain ⟨bx,hb,an⟩:=V.heap.box _ _ ad;obtain rfl:EntV.E ⟨g,rowF f,[],[],0,0⟩=bx:=by simpa [getB] using hb
     have bb:m.ver=0:=an.ver.symm;have ay:xIa m.ty=false:=by rw [<-an.ty];rfl
     generalize a3.tmps.getD (uE q 9) undef=u at h;cases h;refine .own _ (.b 1) 0 0 0 m ad (zR _) rfl fun _=>?_
     unfold ptrOf;rw [ay,aa];simp
    rw [List.set_set] at Y;refine (tailJj q) hI hp ak Y (m:=m) ad aa h2 h3 (by cases q<;>simp [EntV.sl]) fun a' w' A' M' ag ai ae he ah=>?_
    have af:=ax.add (k:=keyF f) (a7.trans ai) ae he ah (by cases q<;>simp [EntV.add])
    refine hK a' w' A' _ _ _ ?_ (xmB M') af ?_
    . rw [xCp ac,EntV.add_g];exact ag
    . exact xBt q ac
end
end Go.Sim.M
end
noncomputable section
set_option maxRecDepth 100000
namespace Go.Sim.M
open Go.RowKit Go.Proofs
def evJj18 (q:Bool) (fb l ms:List AV) (n i:Int) (b:Bool):St.eval ⟨((hdJj q) fb l n i).set (uT q 18) (.bool b),[mapB ms]⟩ (.tmp (uT q 18))=.bool b:=by cases q<;>kernel_rfl
def keJj18 (q:Bool) (fb l ms:List AV) (n i:Int) (b:Bool):keepS (lvJj q) ⟨((hdJj q) fb l n i).set (uT q 18) (.bool b),[mapB ms]⟩=⟨(hdJj q) fb l n i,[mapB ms]⟩:=by cases q<;>kernel_rfl
section
variable {w0 w : World} {A0 : Cx} {A : Nat -> Prop} {M : Id -> Option MB} {a : Act}
set_option maxHeartbeats 2000000 in
def loopJj (q:Bool) (hI:xIQ w0) (hp:A0.pin=0) (aj:∀ id,A0.M1 id=none) {fb l:List AV} {es:List (List UInt8×EntV)} {Ns:Nat->Id->Option MB} {c:Nat}
  (hs:SR w0 A0 w A M ⟨(hdJj q) fb l l.length ((0:Nat):Int),[mapB (msOf es)]⟩ a) (hE:Ents w A w0.heap.size A0.w1.heap.size c es Ns M) (hM:∀ id m,M id=some m->pB q0 id=true) (hf:∀ i,i<l.length->okF (l.getD i .top)=true) (hc:c+l.length<4294967295) {Q:Exit->Act->World->Prop}
  (hK:∀ a' w' A' M' D Ns',SR w0 A0 w' A' M' ⟨(hdJj q) fb l l.length l.length,[mapB (msOf D)]⟩ a'->(∀ id m,M' id=some m->pB q0 id=true)->Ents w' A' w0.heap.size A0.w1.heap.size (c+l.length) D Ns' M'->D.map strip=l.foldl (stepP q) (es.map strip)->Q (.exit (uB q 0)) a' w') :
  (Code.loop (lpJj q)).wpIn (wideR none) 0 Tryz.prog Q a w:=by
 refine xs4 (fun N a' w'=>∃ (i:Nat) (D:List (List UInt8×EntV)) (Ns':Nat->Id->Option MB) (A':Nat->Prop) (M':Id->Option MB),N=l.length - i/\i<=l.length/\SR w0 A0 w' A' M' ⟨(hdJj q) fb l l.length (i:Int),[mapB (msOf D)]⟩ a'/\(∀ id m,M' id=some m->pB q0 id=true)/\Ents w' A' w0.heap.size A0.w1.heap.size (c+i) D Ns' M'/\D.map strip=(l.take i).foldl (stepP q) (es.map strip)) ?_ l.length a w ⟨0,es,Ns,A,M,rfl,zR _,hs,hM,hE,rfl⟩
 rintro N a' w' ⟨i,D,Ns',A',M',rfl,hi,ah,an,aa,ab⟩;unfold lpJj;refine wpIn_seq (xg8 (orcC 0) (hIoG 0) hI (ndJj4 q) ((rJj4 q) fb l (msOf D) l.length i) ah fun a1 w1 A1 M1 V Z=>?_)
 have am:a1.eval (.tmp (uT q 18))=.bool (decide ((i:Int)<l.length)):=by
  have h:=V.eval (.tmp (uT q 18));rw [(evJj18 q)] at h;exact h.bool_inv
 refine wpIn_seq (wpIn_cond_split am (fun ht=>wpIn_skip ?_) fun hn=>wpIn_exit ?_)
 ·
  have J:i<l.length:=by simpa using ht
  rw [ht] at V;have h5:=(rJj5 q) fb l (msOf D) l.length i;rw [zO,xCr (hf i J)] at h5;have c1:(decide ((0:Int)<=i)&&decide ((i:Int)<(l.length:Int)))=true:=by simp [J]
  have c2:(decide (i<l.length)&&true)=true:=by simp [J]
  rw [c1,c2] at h5;refine wpIn_seq (wpIn_block (wpIn_seq (xg8 (orcC 0) (hIoG 0) hI (ndJj5 q) h5 V fun a2 w2 A2 M2 W mv2=>?_)))
  obtain ⟨A3,O,mv3⟩:=W.settle1 (t:=(uE q 8)) ((resJj q) (msOf D) fb l l.length i _);rw [(reaJj q),(setJj8 q)] at O;have ac:=O.cut hp (xiH _) (xiI _);rw [(cutJj8 q)] at ac;have al:=(aa.go ((Z.trans mv2).trans mv3) O.heap.lt).part (q:=pB q0);refine (callJj q) hI hp aj ac al (xmB M2) (hf i J) (by omega) fun a5 w5 A5 M5 ad Ns5 ai ao ak af=>?_
  refine xg8 (orcC 0) (hIoG 0) hI (ndJj8 q) ((rJj8 q) fb l (msOf ad) l.length i) ai fun a6 w6 A6 M6 Y mv6=>?_
  have hw:IntKind.i64.wrap ((i:Int)+1)=((i+1:Nat):Int):=by
   rw [xaK (by omega) (by omega)];omega
  rw [hw] at Y;have ae:=Y.cut hp (xiH _) (xiI _);rw [(cutJj q)] at ae;refine ⟨l.length - (i+1),by omega,i+1,ad,Ns5,A6,_,rfl,J,ae,xmB M6,(ak.go mv6 Y.heap.lt).part,?_⟩
  rw [af,ab];have e:l.take (i+1)=l.take i++[l.getD i .top]:=by
   rw [List.take_add_one,zf J];simp [z7,J]
  rw [e,List.foldl_append];rfl
 ·
  have ag:i=l.length:=by
   have:¬ ((i:Int)<l.length):=by simpa using hn
   omega
  subst ag;have W:=V.mask (lvJj q);rw [(keJj18 q)] at W;have O:=W.cut hp (xiH _) (xiI _);rw [(cutJj q)] at O;have hst':D.map strip=l.foldl (stepP q) (es.map strip):=by rw [ab,ya]
  exact hK a1 w1 A1 _ D Ns' O (xmB M1) (aa.go Z V.heap.lt).part hst'
end
end Go.Sim.M
end
noncomputable section
set_option maxRecDepth 100000
namespace Go.Sim.M
open Go.RowKit Go.Proofs
noncomputable def colV (xa xb:List AV):List PE:=xb.foldl (stepP true) (xa.foldl (stepP false) [])
noncomputable def colOk (xa xb:List AV):Bool:=(List.range xa.length).all (fun i=>okF (xa.getD i .top))&&((List.range xb.length).all (fun i=>okF (xb.getD i .top))&&decide (xa.length+xb.length<4294967295))
noncomputable def cT0 (fa fb:List AV):List AV:=[.list 3 fa,.list 3 fb]++List.replicate 60 (.tuple [])
noncomputable def cT1 (fa fb:List AV):List AV:=mkTs 62 [(0,.list 3 fa),(1,.list 3 fb)]
noncomputable def cT2 (fa fb:List AV):List AV:=mkTs 62 [(0,.list 3 fa),(1,.list 3 fb),(5,vC)]
noncomputable def cT3 (fa fb:List AV):List AV:=mkTs 62 [(0,.list 3 fa),(1,.list 3 fb),(5,vC),(6,.func 75 [vC])]
noncomputable def cT9:List AV:=mkTs 62 [(4,.own (.b 0) 0 0 0)]
def boxM:Box:=⟨0,1,83,[.own (.b 0) 0 0 0],false,false⟩
def ndC0:noDefer (cO 0)=true:=by kernel_rfl
def ndC1:noDefer (cO 1)=true:=by kernel_rfl
def ndC2:noDefer (cO 2)=true:=by kernel_rfl
def ndC3:noDefer (cO 3)=true:=by kernel_rfl
def ndC9:noDefer (cO 9)=true:=by kernel_rfl
def ndC15:noDefer (cO 15)=true:=by kernel_rfl
def cgR0 (fa fb:List AV):xOps Tryz.prog (EC 0) none (some true) (cO 0) (cO 0).toList ⟨cT0 fa fb,[]⟩ (fun s=>some (keepS [0,1] s))=some ⟨cT1 fa fb,[]⟩:=by kernel_rfl
def cR1 (fa fb:List AV):xOps Tryz.prog (EC 0) none (some true) (cO 1) (cO 1).toList ⟨cT1 fa fb,[]⟩ (fun s=>some (keepS [0,1,5] s))=some ⟨(cT1 fa fb).set 5 (.own (.b 1) 0 0 0),[mapB [],boxM]⟩:=by kernel_rfl
def cgV1 (fa fb:List AV):((cT1 fa fb).set 5 (.own (.b 1) 0 0 0)).getD 5 .top=.own (.b 1) 0 0 0:=by kernel_rfl
def cgV2:varOf [mapB [],boxM] 1 0 0 0=some (.own (.b 0) 0 0 0):=by kernel_rfl
def cV3 (fa fb:List AV):cutT (((cT1 fa fb).set 5 (.own (.b 1) 0 0 0)).set 5 (.func vpF [.own (.b 0) 0 0 0]))=cT2 fa fb:=by kernel_rfl
def cR2 (fa fb:List AV):xOps Tryz.prog (EC 0) none (some true) (cO 2) (cO 2).toList ⟨cT2 fa fb,[mapB []]⟩ (fun s=>some (keepS [0,1,5,6] s))=some ⟨cT3 fa fb,[mapB []]⟩:=by kernel_rfl
def cR3 (fa fb:List AV):xOps Tryz.prog (EC 0) none (some true) (cO 3) (cO 3).toList ⟨cT3 fa fb,[mapB []]⟩ (fun s=>some (keepS (lvJj false) s))=some ⟨hdJj false fb fa fa.length ((0:Nat):Int),[mapB (msOf [])]⟩:=by kernel_rfl
def cR9 (fb l ms:List AV) (n i:Int):xOps Tryz.prog (EC 0) none (some true) (cO 9) (cO 9).toList ⟨hdJj false fb l n i,[mapB ms]⟩ (fun s=>some (keepS (lvJj true) s))=some ⟨hdJj true fb fb fb.length ((0:Nat):Int),[mapB ms]⟩:=by kernel_rfl
def cR15 (fb l ms:List AV) (n i:Int):xOps Tryz.prog (EC 0) none (some true) (cO 15) (cO 15).toList ⟨hdJj true fb l n i,[mapB ms]⟩ (fun s=>some (keepS [4] s))=some ⟨cT9,[mapB ms]⟩:=by kernel_rfl
def cC9:cutT cT9=cT9:=by kernel_rfl
def cRes (H:List Box):resAllM Tryz.prog ⟨cT9,H⟩ Tryz.f48.results.toList=some [.own (.b 0) 0 0 0]:=by kernel_rfl
def cNt:Tryz.f48.ntmps=62:=by kernel_rfl
def cBody:Tryz.f48.body=some cB:=by kernel_rfl
def cEnters:Enters Tryz.prog 48:=⟨_,Tryz.func48,by kernel_rfl,by kernel_rfl⟩
section
variable {w0 w : World} {A0 : Cx} {A : Nat -> Prop} {M : Id -> Option MB} {a : Act}
set_option maxHeartbeats 2000000 in
def xBX (hI:xIQ w0) (hp:A0.pin=0) (Z:∀ id,A0.M1 id=none) {fa fb:List AV} (Y:colOk fa fb=true) (hs:SR w0 A0 w A M ⟨cT0 fa fb,[]⟩ a) {Q:Exit->Act->World->Prop}
  (hQ:∀ a' w' A' M',SR w0 A0 w' A' M' ⟨cT9,[mapB (outOf (colV fa fb))]⟩ a'->Q .ret a' w'):cB.wpIn (wideR none) 0 Tryz.prog Q a w:=by
 unfold colOk at Y;simp only [zg,zJ,List.mem_range,zm] at Y;obtain ⟨ac,ao,au⟩:=Y;rw [xGo];refine wpIn_seq (xg8 (orcC 0) (hIoG 0) hI ndC0 (cgR0 fa fb) hs fun a1 w1 A1 M1 an _=>?_)
 refine wpIn_seq (xg8 (orcC 0) (hIoG 0) hI ndC1 (cR1 fa fb) an fun a2 w2 A2 M2 ah _=>?_)
 obtain ⟨A3,O⟩:=ah.vptr (cgV1 fa fb) cgV2;have O:=O.cut (b0:=mapB []) (T:=[{ boxM with frz:=true }]) hp (xiH _) (xiI _);rw [cV3] at O;refine wpIn_seq (xg8 (orcC 0) (hIoG 0) hI ndC2 (cR2 fa fb) O fun a4 w4 A4 M4 am _=>?_)
 refine wpIn_seq (wpIn_seq (xg8 (orcC 0) (hIoG 0) hI ndC3 (cR3 fa fb) am fun a5 w5 A5 M5 V _=>?_))
 have V:=V.cut hp (xiH _) (xiI _);rw [cutJj false] at V;have af:Ents w5 A5 w0.heap.size A0.w1.heap.size 0 [] (fun _=>xIl) (MR (pB q0) M5):=⟨fun i x h=>by simp at h,fun i j h=>by simp at h,fun i h=>by simp at h,fun i x h=>by simp at h,zd _⟩
 refine wpIn_block (loopJj false hI hp Z V af (xmB M5) ac (by omega) fun a6 w6 A6 M6 aq Ns6 ag ax ad aa=>?_)
 simp only [Exit.inBlock,uB,cond,if_true];show Exit.then _ _ .normal a6 w6
 refine wpIn_seq (wpIn_seq (xg8 (orcC 0) (hIoG 0) hI ndC9 (cR9 fb fa (msOf aq) fa.length fa.length) ag fun a7 w7 A7 M7 D mv7=>?_))
 have ai:=(ad.go mv7 D.heap.lt).part (q:=pB q0);have D:=D.cut hp (xiH _) (xiI _);rw [cutJj true] at D;refine wpIn_block (loopJj true hI hp Z D ai (xmB M7) ao (by omega) fun a8 w8 A8 M8 al Ns8 ak aw ae ab=>?_)
 simp only [Exit.inBlock,uB,cond,if_true];show Exit.then _ _ .normal a8 w8
 refine wpIn_seq (xg8 (orcC 0) (hIoG 0) hI ndC15 (cR15 fb fb (msOf al) fb.length fb.length) ak fun a9 w9 A9 M9 J aj=>?_)
 have ap:=(ae.go aj J.heap.lt).part (q:=pB q0);have J:=J.cut hp (xiH _) (xiI _);rw [cC9] at J;obtain ⟨A10,W⟩:=SR.final J ap (xmB M9) hp;rw [ab,aa] at W;exact wpIn_ret (hQ _ _ _ _ W)
end
def xBY {fa fb:List AV} (Y:colOk fa fb=true):GoodM Tryz.prog xIQ 48 [.list 3 fa,.list 3 fb] [] (.own (.b 0) 0 0 0) [mapB (outOf (colV fa fb))]:=by
 refine ⟨cEnters,fun w0 w A M vs hI J hR D=>?_⟩
 have W:∀ id,M id=none:=fun id=>by
  cases h:M id with
  | none=>rfl
  | some m =>
   obtain ⟨bx,hb,_⟩:=hR.box id m h;cases id<;>simp [getB] at hb
 refine callsIn_wide.1 (callsIn_of_wp_marks (F:=Fence.wide) (n:=0) Tryz.func48 cBody trivial ?_);refine xBX (A0:=⟨A,w,A,M,0,fun _=>False⟩) (A:=A) (M:=M) (fa:=fa) (fb:=fb) hI rfl W Y ⟨J,fun _ _=>Iff.rfl,?_,fun t ht=>?_,hR,DefOk.nil,Ev.refl (C:=⟨A,w,A,M,0,fun _=>False⟩)⟩ ?_
 . rw [cNt];have:=D.1;simp [cT0] at this |-;omega
 . have hl:vs.length=2:=D.1;rw [cNt];show Rel w A M _ ((cT0 fa fb).getD t .top);unfold cT0;by_cases O:t<2
   . have e1:(vs.toArray++Array.replicate (62 - vs.toArray.size) undef).getD t undef=vs.getD t undef:=by
      have:t<vs.length:=by omega
      simp [z7,Array.getElem?_append,this]
     rw [e1,xsv O];exact D.2 t O
   . have ht:t<62:=by
      have h0:(cT0 fa fb).length=62:=by rfl
      rw [<-h0];exact ht
     have h1:¬ t<vs.length:=by omega
     have e1:(vs.toArray++Array.replicate (62 - vs.toArray.size) undef).getD t undef=undef:=by
      have h2:t - vs.length<62 - vs.length:=by omega
      simp [Array.getElem?_append,h1,h2]
     rw [e1,xsw O (show t - 2<60 by omega)]
     exact .tuple #[] [] rfl (by simp)
 . intro a' w' A' M' V;show LeavesInM Fence.wide 0 Tryz.prog Tryz.f48 a'.tmps _ a'.defers .returning w';refine xnT (fun _ h=>h) V fun w2 q=>?_
   obtain ⟨v,hv,Q⟩:=xnm (P:=Tryz.prog) q (cRes _);exact ⟨v,hv,v,A',M',rfl,q.base,q.outer,q.ev,q.heap,Q⟩
noncomputable def xtO:List AV->List Box->Option (Bool×AV×List Box):=omOf (xIS (xI6 3 xIV) (xIS (xI6 3 xIV) xIU)) xIT fun (xa,(xb,_)) _=>(colOk xa xb,.own (.b 0) 0 0 0,[⟨0,2,mapTy 83,outOf (colV xa xb),false,true⟩])
def xAv:OmOk Tryz.prog xIQ 48 xtO:=xoI fun b c r H' h=>by
 obtain ⟨xa,xb,_⟩:=b;obtain ⟨h1,h2⟩:=Prod.mk.inj h;obtain ⟨rfl,rfl⟩:=Prod.mk.inj h2;exact xBY h1
end Go.Sim.M
end
noncomputable section
set_option maxRecDepth 100000
namespace Go.Sim.M
open Go.RowKit Go.Proofs
def pGptr:Pat AV Nat:=⟨.gptr,fun v=>match v with
 | .gptr g=>some g
 | _=>none,fun a b h=>by
  split at h
  . simp only [z6] at h;rw [h]
  . simp at h⟩
noncomputable def EKCo:Env:=xu3.E.withM 48 xtO
def xs8:xH8 Tryz.prog xIQ EKCo:=xu3.ok.withM xAv
noncomputable def cmL:Code:=(xIr (rmBody (rmOf Tryz.f30))).getD 0 .skip
def cellR:Box:=⟨0,2,25,[.agg [.nils,.nils]],false,true⟩
noncomputable def boxC (ms:List AV):Box:=⟨0,2,mapTy 83,ms,true,true⟩
def boxO (v:Nat) (xs:List AV):Box:=⟨v,3,51,xs,false,true⟩
noncomputable def xp3 {T:Type} (row lv:List AV) (c:Int) (v n:Nat) (i:Int) (xs:List AV) (δ:T) (κl κr:T):T:=br (decide (i<c)) (br (decide ((0:Int)<=i)&&decide (i<(↑lv.length:Int))) (br (decide (i.toNat<lv.length)&&((lv.getD i.toNat AV.top).cells.length==(2:Nat)&&xId [Sh.int IntKind.i64,Sh.int IntKind.i64] (lv.getD i.toNat AV.top).cells (0:Nat))) (br (v==v&&(n==xs.length&&(decide ((n+(1:Nat))*(40:Nat)<=(140737488355328:Nat))&&decide (n+(1:Nat)<=(4611686018427387904:Nat))))) κl δ) δ) δ) κr
noncomputable def xbZ (row lv:List AV) (c:Int):Nat×Nat×Int×List AV->Option ((Nat×Nat×Int×List AV)⊕(Nat×Nat×List AV)):=fun (v,n,i,xs) =>
 xp3 row lv c v n i xs none (some (.inl (v+1,n+1,IntKind.i64.wrap (i+1),xs++[.agg [.list 3 row,.int .i64 ((lv.getD i.toNat AV.top).cells.getD 0 AV.top).toInt,.int .i64 ((lv.getD i.toNat AV.top).cells.getD 1 AV.top).toInt]]))) (some (.inr (v,n,xs)))
end Go.Sim.M
end
noncomputable section
set_option maxRecDepth 100000
namespace Go.Sim
open Go.RowKit
def Weak.trans {p:Nat} {s1 s2 s3:St} (h:Weak p s1 s2) (g:Weak p s2 s3):Weak p s1 s3:=fun w0 A0 w A M a hp hs=>by
 obtain ⟨A1,M1,h1⟩:=h w0 A0 w A M a hp hs;exact g w0 A0 w A1 M1 a hp h1
def xru {p:Nat} {ts:List AV} {H:List Box} {t:Nat} {y:AV} (hy:resolve H xIs (ts.getD t .top)=some y):Weak p ⟨ts,H⟩ ⟨ts.set t y,freeze H (reach H xIs (ts.getD t .top))⟩:=fun w0 A0 w A M a hp hs=>by
 obtain ⟨A1,h1,_⟩:=hs.settle1 hy;exact ⟨A1,M,h1⟩
def xBE {p:Nat} (live:List Nat) (s:St):Weak p s (keepS live s):=fun w0 A0 w A M a hp hs=>⟨A,M,hs.mask live⟩
def xB8 {P:Program} {ls:TypeId->Bool} {rs:List ResultVar} {e:Exit} {s:St} {r:AV} (h:endK P ls rs e s=some r):(e=.ret\/e=.normal)/\resultOf P rs s=some r:=by
 have q:∀ s,finK P ls rs s=some r->resultOf P rs s=some r:=fun s h=>by
  unfold finK at h;split at h
  case h_2=>simp at h
  rename_i b xs hx;obtain ⟨rfl,h⟩:=xbi (good:=fun t=>t=some r) (by simp) h
  rw [xbb] at h;unfold resultOf;rw [xnl hx];exact h
 cases e with
 | ret=>exact ⟨.inl rfl,q s h⟩
 | normal=>exact ⟨.inr rfl,q s h⟩
 | _=>simp [endK] at h
end Go.Sim
namespace Go.Sim.M
open Go.RowKit Go.Proofs
noncomputable def rmOps9:Code->Array Oper
 | .seq (.region _ ops _) _=>ops
 | _=>#[]
noncomputable def rmOps0:Code->Array Oper
 | .seq _ (.block _ (.loop (.seq (.region _ ops _) _)))=>ops
 | _=>#[]
def relV (ks fs:List AV):AV:=.agg [.list 1 ks,.list 3 fs]
noncomputable abbrev cmO (n:Nat):Array Oper:=opsOf (regOf (Tryz.f30.body.getD .skip) n)
def boxR (ks fs:List AV) (z:Bool):Box:=⟨0,2,25,[relV ks fs],z,true⟩
def perOk (q:AV):Bool:=q.cells.length==2&&xId [Sh.int IntKind.i64,Sh.int IntKind.i64] q.cells (0:Nat)
def factA (row:List AV) (q:AV):AV:=.agg [.list 3 row,.int .i64 (q.cells.getD 0 .top).toInt,.int .i64 (q.cells.getD 1 .top).toInt]
def xyd (row lv:List AV) (D:∀ i,i<lv.length->perOk (lv.getD i .top)=true):∀ (d i v:Nat) (xs:List AV),i+d=lv.length->xs.length+d<=1099511627776->lv.length<=1099511627776 ->
  Iter (xbZ row lv (lv.length:Nat)) (v,xs.length,(i:Int),xs)=some (v+d,xs.length+d,xs++(lv.drop i).map (factA row))
 | 0,i,v,xs,hi,hx,hl=>by
  have e:xbZ row lv (lv.length:Nat) (v,xs.length,(i:Int),xs)=some (.inr (v,xs.length,xs)):=by
   have h1:decide ((i:Int)<(lv.length:Nat))=false:=by simp;omega
   simp only [xbZ,xp3,h1,br]
  rw [xah e];simp [show i=lv.length by omega]
 | d+1,i,v,xs,hi,hx,hl=>by
  have q:i<lv.length:=by omega
  have hq:=D i q;unfold perOk at hq;have hw:IntKind.i64.wrap ((i:Int)+1)=((i+1:Nat):Int):=by rw [xaK (by omega) (by omega)];omega
  have e:xbZ row lv (lv.length:Nat) (v,xs.length,(i:Int),xs)=some (.inl (v+1,(xs++[factA row (lv.getD i .top)]).length,((i+1:Nat):Int),xs++[factA row (lv.getD i .top)])):=by
   have h1:decide ((i:Int)<(lv.length:Nat))=true:=by simp;omega
   have h2:(decide ((0:Int)<=i)&&decide ((i:Int)<(lv.length:Nat)))=true:=by simp;omega
   have h3:(decide (i<lv.length)&&((lv.getD i AV.top).cells.length==(2:Nat)&&xId [Sh.int IntKind.i64,Sh.int IntKind.i64] (lv.getD i AV.top).cells (0:Nat)))=true:=by rw [hq];simp [q]
   have h4:(v==v&&(xs.length==xs.length&&(decide ((xs.length+(1:Nat))*(40:Nat)<=(140737488355328:Nat))&&decide (xs.length+(1:Nat)<=(4611686018427387904:Nat)))))=true:=by
    simp only [beq_self_eq_true,Bool.true_and,zg,zm];omega
   simp only [xbZ,xp3,zO,h1,h2,h3,h4,br,hw];simp [factA]
  rw [xaq e,xyd row lv D d (i+1) (v+1) (xs++[factA row (lv.getD i .top)]) (by omega) (by simp;omega) hl]
  have e2:lv.drop i=lv.getD i .top::lv.drop (i+1):=by
   rw [List.drop_eq_getElem_cons q];simp [z7,q]
  rw [e2];simp;omega
def stepF (fk:Nat->List AV) (s:Nat×List AV) (k:Nat):(Nat×List AV)⊕Unit:=.inl (s.1+(fk k).length,s.2++fk k)
def xvB (fk:Nat->List AV):∀ (ord:List Nat) (v:Nat) (xs:List AV),∃ v',ord.foldl (stepI (stepF fk)) (.inl (v,xs))=.inl (v',xs++ord.flatMap fk)
 | [],v,xs=>⟨v,by simp⟩
 | k::ord,v,xs=>by
  obtain ⟨v',h⟩:=xvB fk ord (v+(fk k).length) (xs++fk k);refine ⟨v',?_⟩;rw [List.foldl_cons];show ord.foldl (stepI (stepF fk)) (Sum.inl (v+(fk k).length,xs++fk k))=_;rw [h];simp
def xtn {fk:Nat->List AV} {done:List Nat} {n:Nat} (h1:done.Nodup) (h2:∀ i,i∈done->i<n):(done.flatMap fk).length<=((List.range n).flatMap fk).length:=by
 obtain ⟨l',q⟩:=xuj h1 h2;have:=(q.flatMap_right fk).length_eq;rw [List.flatMap_append,z8] at this;omega
def xuN {fk:Nat->List AV} {done:List Nat} {k n:Nat} (h1:done.Nodup) (h2:∀ i,i∈done->i<n) (h3:k∉done) (h4:k<n):(done.flatMap fk).length+(fk k).length<=((List.range n).flatMap fk).length:=by
 have:=xtn (fk:=fk) (done:=done++[k]) (n:=n) (by
  rw [List.nodup_append];exact ⟨h1,by simp,fun a ha b hb=>by simp at hb;subst hb;exact fun e=>h3 (e▸ha)⟩) (fun i hi=>by
  rcases zH.1 hi with h|h
  . exact h2 i h
  . simp at h;omega)
 simpa using this
noncomputable def lvOf (op:List AV->List AV->Option (List AV)) (p:PE):List AV:=(xas ((op ((xaf p.2.2.1).getD []) ((xaf p.2.2.2).getD [])).getD [])).getD []
noncomputable def lvOk (op:List AV->List AV->Option (List AV)) (p:PE):Bool:=(xaf p.2.2.1).isSome&&((xaf p.2.2.2).isSome&&((op ((xaf p.2.2.1).getD []) ((xaf p.2.2.2).getD [])).isSome&&((xas ((op ((xaf p.2.2.1).getD []) ((xaf p.2.2.2).getD [])).getD [])).isSome &&
 (List.range (lvOf op p).length).all fun i=>perOk ((lvOf op p).getD i .top))))
noncomputable def fkOf (op:List AV->List AV->Option (List AV)) (ps:List PE) (k:Nat):List AV:=(lvOf op (ps.getD k defP)).map (factA (ps.getD k defP).2.1)
noncomputable def flatOf (op:List AV->List AV->Option (List AV)) (ps:List PE):List AV:=(List.range ps.length).flatMap (fkOf op ps)
open Classical in
noncomputable def cmbOk (op:List AV->List AV->Option (List AV)) (fa fb:List AV):Bool:=colOk fa fb&&((List.range (colV fa fb).length).all (fun k=>lvOk op ((colV fa fb).getD k defP))&&(decide ((flatOf op (colV fa fb)).length<=1099511627776) &&
 (decide (∀ ord:List Nat,ord.Perm (List.range (colV fa fb).length)->xak (ord.flatMap (fkOf op (colV fa fb)))=xak (flatOf op (colV fa fb)))&&(xak (flatOf op (colV fa fb))).isSome)))
noncomputable def cmbV (op:List AV->List AV->Option (List AV)) (fa fb:List AV):Option (List AV):=match cmbOk op fa fb with
 | true=>xak (flatOf op (colV fa fb))
 | false=>none
def xAr {op:List AV->List AV->Option (List AV)} {fa fb:List AV} (h:(cmbV op fa fb).isSome=true):cmbOk op fa fb=true/\cmbV op fa fb=xak (flatOf op (colV fa fb)):=by
 unfold cmbV at h |-;cases hc:cmbOk op fa fb with
 | true=>exact ⟨rfl,rfl⟩
 | false=>rw [hc] at h;simp at h
end Go.Sim.M
end
noncomputable section
set_option maxRecDepth 100000
namespace Go.Sim.M
open Go.RowKit Go.Proofs
variable (g : FuncId)
noncomputable abbrev xy6:Env:=EKCo.fn 57 3 (lsOf [51]) (xIu [])
def xFA:xH8 Tryz.prog (xIQ.at 3) xy6:=xs8.fn
def xFv:LoOk Tryz.prog (xIQ.at 3) xy6 cmL:=xdY (by kernel_rfl)
def xp2 (ra row ea eb lv ms:List AV) (r:Nat) (c:Int):Nat×Nat×Int×List AV->List AV×List Box:=fun (v,n,i,xs)=>([.func g [],.eptr 2 ra 0 0,.own 0 0 0 0,.osl 1 v 0 n,.eptr 3 [.agg [.list 3 row,.list 3 ea,.list 3 eb]] 0 0,.gptr r,.list 2 lv,.int .i64 c,.int .i64 i],[⟨0,2,25,[.agg [.nils,.nils]],false,true⟩,⟨v,3,51,xs,false,true⟩,⟨0,2,mapTy 83,ms,true,true⟩])
def xoB (ra ms:List AV) (r:Nat):Nat×Nat×List AV->LR:=fun p=>.leaf (.exit 2) [.func g [],.eptr 2 ra 0 0,.own 0 0 0 0,.osl 1 p.1 0 p.2.1,.gptr r] [⟨0,2,25,[.agg [.nils,.nils]],false,true⟩,⟨p.1,3,51,p.2.2,false,true⟩,⟨0,2,mapTy 83,ms,true,true⟩]
noncomputable abbrev xFg (vals:List AV) (H:List Box):=XR Tryz.prog xy6 [2,3,6,7,9,17,34,35,36] [2,3,6,7,17] [(7,3,51)] cmL vals H
def xG4 (ra row ea eb lv ms:List AV) (r:Nat) (c:Int) (s:Nat×Nat×Int×List AV):Enc (encR ((xp2 g) ra row ea eb lv ms r c) ((xoB g) ra ms r)) (xbZ row lv c s) (xFg ((xp2 g) ra row ea eb lv ms r c s).1 ((xp2 g) ra row ea eb lv ms r c s).2):=by
 obtain ⟨v,n,i,xs⟩:=s;have h:xFg ((xp2 g) ra row ea eb lv ms r c (v,n,i,xs)).1 ((xp2 g) ra row ea eb lv ms r c (v,n,i,xs)).2=xp3 row lv c v n i xs none (some (encR ((xp2 g) ra row ea eb lv ms r c) ((xoB g) ra ms r) (.inl (v+1,n+1,IntKind.i64.wrap (i+1),xs++[.agg [.list 3 row,.int .i64 ((lv.getD i.toNat AV.top).cells.getD 0 AV.top).toInt,.int .i64 ((lv.getD i.toNat AV.top).cells.getD 1 AV.top).toInt]])))) (some (encR ((xp2 g) ra row ea eb lv ms r c) ((xoB g) ra ms r) (.inr (v,n,xs)))):=by kernel_rfl
 rw [h];unfold xbZ xp3;repeat' (first|refine Enc.br ?_ ?_|exact Enc.none|exact Enc.some rfl)
noncomputable def xy9:Lp:=lpOf [2,3,6,7,9,17,34,35,36] [2,3,6,7,17] [(7,3,51)] (xIR (xIv g xIT) (xIR (xI9 2 0 0 xIV) (xIR (xI3 0 0 0 0) (xIR (pOslV 1 0) (xIR (xI9 3 0 0 (xIR (xI4 (xIR (xI8 3 xIV) (xIR (xI8 3 xIV) (xIR (xI8 3 xIV) xIT)))) xIT)) (xIR pGptr (xIR (xI8 2 xIV) (xIR (pInt .i64) (xIR (pInt .i64) xIT)))))))))
 (xIR (xI5 0 2 25 false true (xIR (xI4 (xIR pNils (xIR pNils xIT))) xIT)) (xIR (pBoxV 3 51 false true xIV) (xIR (xI5 0 2 (mapTy 83) true true xIV) xIT)))
 fun (_,(ra,(_,((v,n),((((row,(ea,(eb,_))),_)),(r,(lv,(c,(i,_))))))))) (_,((v',xs),(ms,_)))=>(Nat.beq v v'&&(Iter (xbZ row lv c) (v,n,i,xs)).isSome,(xoB g) ra ms r ((Iter (xbZ row lv c) (v,n,i,xs)).getD (0,0,[])))
def xFz:LoopOk Tryz.prog (xIQ.at 3) 57 cmL (xy9 g):=xm8 fun vv bb rr hh=>by
 obtain ⟨_,⟨ra,⟨_,⟨⟨v,n⟩,⟨⟨⟨row,⟨ea,⟨eb,_⟩⟩⟩,_⟩,⟨r,⟨lv,⟨c,⟨i,_⟩⟩⟩⟩⟩⟩⟩⟩⟩:=vv;obtain ⟨_,⟨⟨v',xs⟩,⟨ms,_⟩⟩⟩:=bb;obtain ⟨q,rfl⟩:=Prod.mk.inj hh;rw [zg] at q;obtain ⟨hv,q⟩:=q;have hv:=zh hv;subst hv;exact xg4 xIh (xIi Tryz.prog _) rfl xFA xFv ((xp2 g) ra row ea eb lv ms r c) ((xoB g) ra ms r) (fun p=>by simp only [xoB,LR.eval];simp) ((xG4 g) ra row ea eb lv ms r c) (s:=(v,n,i,xs)) (xaE q)
end Go.Sim.M
end
noncomputable section
set_option maxRecDepth 100000
namespace Go.Sim.M
open Go.RowKit Go.Proofs
variable (g : FuncId)
noncomputable abbrev xu2:Env:=EKCo.fn 57 3 (lsOf [51]) (xIu [(6,(xy9 g))])
def xFB:xH8 Tryz.prog (xIQ.at 3) (xu2 g):=xs8.fn
noncomputable abbrev xmD:Env:=EKCo.fn 57 0 (lsOf [51]) (xIu [])
def xvl:xH8 Tryz.prog (xIQ.at 0) xmD:=xs8.fn
def xFw:LoOk Tryz.prog (xIQ.at 3) (xu2 g) (rmBody (rmOf Tryz.f30)):=xgd (ls:=[cmL]) (by kernel_rfl) (fun l hl lp hs=>by
 simp only [zD,List.not_mem_nil,or_false] at hl;rcases hl with rfl;rw [show (xu2 g).lp (xIm cmL)=some (xy9 g) by kernel_rfl] at hs
 cases hs;exact (xFz g))
noncomputable def xnH (ra:List AV) (v n r:Nat):List AV:=mkTs 57 [(2,.func g []),(3,.eptr 2 ra 0 0),(6,.own 0 0 0 0),(7,.osl 1 v 0 n),(17,.gptr r)]
def CmX (g:FuncId) (o:List AV->List AV->Option (List AV)):Prop:=∀ (ra row ea eb ms xs:List AV) (s:List UInt8) (v n r:Nat),XM Tryz.prog (xu2 g) (rmOps1 (rmOf Tryz.f30)) (rmBody (rmOf Tryz.f30)) [2,3,6,7,17] (stepT ((xnH g) ra v n r) 18 19 20 s (entV row ea eb)) [cellR,boxO v xs,boxC ms] =
 br (xaf ea).isSome (br (xaf eb).isSome (br (o ((xaf ea).getD []) ((xaf eb).getD [])).isSome (br (xas ((o ((xaf ea).getD []) ((xaf eb).getD [])).getD [])).isSome (br (v.beq v&&(Iter (xbZ row ((xas ((o ((xaf ea).getD []) ((xaf eb).getD [])).getD [])).getD []) (↑((xas ((o ((xaf ea).getD []) ((xaf eb).getD [])).getD [])).getD []).length:Int)) (v,n,(0:Int),xs)).isSome)
  (some (Exit.normal,[AV.func g [],AV.eptr 2 ra 0 0,AV.own 0 0 0 0,AV.osl 1 ((Iter (xbZ row ((xas ((o ((xaf ea).getD []) ((xaf eb).getD [])).getD [])).getD []) (↑((xas ((o ((xaf ea).getD []) ((xaf eb).getD [])).getD [])).getD []).length:Int)) (v,n,(0:Int),xs)).getD ((0:Nat),(0:Nat),[])).fst 0 ((Iter (xbZ row ((xas ((o ((xaf ea).getD []) ((xaf eb).getD [])).getD [])).getD []) (↑((xas ((o ((xaf ea).getD []) ((xaf eb).getD [])).getD [])).getD []).length:Int)) (v,n,(0:Int),xs)).getD ((0:Nat),(0:Nat),[])).snd.fst,AV.gptr r],
   [cellR,boxO ((Iter (xbZ row ((xas ((o ((xaf ea).getD []) ((xaf eb).getD [])).getD [])).getD []) (↑((xas ((o ((xaf ea).getD []) ((xaf eb).getD [])).getD [])).getD []).length:Int)) (v,n,(0:Int),xs)).getD ((0:Nat),(0:Nat),[])).fst ((Iter (xbZ row ((xas ((o ((xaf ea).getD []) ((xaf eb).getD [])).getD [])).getD []) (↑((xas ((o ((xaf ea).getD []) ((xaf eb).getD [])).getD [])).getD []).length:Int)) (v,n,(0:Int),xs)).getD ((0:Nat),(0:Nat),[])).snd.snd,boxC ms])) none) none) none) none) none
noncomputable def xvk (ka fa kb fb:List AV):List AV:=mkTs 57 [(2,.func g []),(3,.eptr 2 [relV ka fa] 0 0),(4,.eptr 2 [relV kb fb] 0 0),(6,.own 0 0 0 0),(7,.osl 1 0 0 0)]
noncomputable def xsi (ka fa kb fb:List AV):List AV:=(((((xvk g) ka fa kb fb).set 12 (.eptr 2 [relV ka fa] 0 1)).set 13 (.list 3 fa)).set 14 (.eptr 2 [relV kb fb] 0 1)).set 15 (.list 3 fb)
def xFC (ka fa kb fb:List AV):xOps Tryz.prog xmD none (some true) (rmOps9 (rmOf Tryz.f30)) (rmOps9 (rmOf Tryz.f30)).toList.dropLast ⟨(xvk g) ka fa kb fb,[cellR,boxO 0 []]⟩ some =
 br (colOk fa fb) (some ⟨((xsi g) ka fa kb fb).set 16 (.own 2 0 0 0),[cellR,boxO 0 [],mapB (outOf (colV fa fb))]⟩) none:=by kernel_rfl
def xDD:Tryz.f30.body.getD .skip=.seq (.region 0 (cmO 0) false) (.seq (.region 1 (cmO 1) false) (.seq (rmOf Tryz.f30) (.seq (.region 10 (cmO 10) false) .ret))):=by kernel_rfl
def xFD:rmOf Tryz.f30=rngCode 2 (rmOps9 (rmOf Tryz.f30)) 0 3 (rmOps0 (rmOf Tryz.f30)) 19 1 4 (rmOps1 (rmOf Tryz.f30)) (rmBody (rmOf Tryz.f30)):=by kernel_rfl
noncomputable def xy7 (ka fa kb fb:List AV):List AV:=[relV ka fa,relV kb fb,.func g []]++List.replicate 54 (.tuple [])
noncomputable def xlG (ka fa kb fb:List AV):List AV:=((((xy7 g) ka fa kb fb).set 3 (.own 0 0 0 0)).set 4 (.own 1 0 0 0)).set 6 (.own 2 0 0 0)
def xGB (ka fa kb fb:List AV):xOps Tryz.prog xmD none (some true) (cmO 0) (cmO 0).toList ⟨(xy7 g) ka fa kb fb,[]⟩ some=some ⟨(xlG g) ka fa kb fb,[boxR ka fa false,boxR kb fb false,cellR]⟩:=by kernel_rfl
def xGC (ka fa kb fb:List AV):xOps Tryz.prog xmD none (some true) (cmO 1) (cmO 1).toList ⟨(xlG g) ka fa kb fb,[boxR ka fa false,boxR kb fb false,cellR]⟩ some=some ⟨((xlG g) ka fa kb fb).set 7 .nils,[boxR ka fa false,boxR kb fb false,cellR]⟩:=by kernel_rfl
def xGw:noDefer (cmO 0)=true:=by kernel_rfl
def xGy:noDefer (cmO 1)=true:=by kernel_rfl
def xGE (ka fa kb fb:List AV):resolve [boxR ka fa false,boxR kb fb false,cellR] xIs ((((xlG g) ka fa kb fb).set 7 .nils).getD 3 .top)=some (.eptr 2 [relV ka fa] 0 0):=by kernel_rfl
def xGp (ka fa kb fb:List AV):freeze [boxR ka fa false,boxR kb fb false,cellR] (reach [boxR ka fa false,boxR kb fb false,cellR] xIs ((((xlG g) ka fa kb fb).set 7 .nils).getD 3 .top))=[boxR ka fa true,boxR kb fb false,cellR]:=by kernel_rfl
def xGF (ka fa kb fb:List AV):resolve [boxR ka fa true,boxR kb fb false,cellR] xIs (((((xlG g) ka fa kb fb).set 7 .nils).set 3 (.eptr 2 [relV ka fa] 0 0)).getD 4 .top)=some (.eptr 2 [relV kb fb] 0 0):=by kernel_rfl
def xGq (ka fa kb fb:List AV):freeze [boxR ka fa true,boxR kb fb false,cellR] (reach [boxR ka fa true,boxR kb fb false,cellR] xIs (((((xlG g) ka fa kb fb).set 7 .nils).set 3 (.eptr 2 [relV ka fa] 0 0)).getD 4 .top))=[boxR ka fa true,boxR kb fb true,cellR]:=by kernel_rfl
def xGA (ka fa kb fb:List AV):normS 0 [(7,3,51)] [2,3,4,6,7] ⟨((((xlG g) ka fa kb fb).set 7 .nils).set 3 (.eptr 2 [relV ka fa] 0 0)).set 4 (.eptr 2 [relV kb fb] 0 0),[boxR ka fa true,boxR kb fb true,cellR]⟩=some ([.func g [],.eptr 2 [relV ka fa] 0 0,.eptr 2 [relV kb fb] 0 0,.own 0 0 0 0,.osl 1 0 0 0],[cellR,boxO 0 []]):=by kernel_rfl
def xGv (ka fa kb fb:List AV):mkTs (((((xlG g) ka fa kb fb).set 7 .nils).set 3 (.eptr 2 [relV ka fa] 0 0)).set 4 (.eptr 2 [relV kb fb] 0 0)).length ([2,3,4,6,7].zip [.func g [],.eptr 2 [relV ka fa] 0 0,.eptr 2 [relV kb fb] 0 0,.own 0 0 0 0,.osl 1 0 0 0])=(xvk g) ka fa kb fb:=by kernel_rfl
def xGD (ka fa kb fb:List AV):Weak 0 ⟨((xlG g) ka fa kb fb).set 7 .nils,[boxR ka fa false,boxR kb fb false,cellR]⟩ ⟨(xvk g) ka fa kb fb,[cellR,boxO 0 []]⟩:=by
 have h1:=xru (p:=0) ((xGE g) ka fa kb fb);rw [(xGp g)] at h1;have h2:=xru (p:=0) ((xGF g) ka fa kb fb);rw [(xGq g)] at h2;have h3:=xkP ((xGA g) ka fa kb fb);rw [(xGv g)] at h3;exact (h1.trans h2).trans h3
noncomputable def xFh (ra:List AV) (v n:Nat):List AV:=mkTs 57 [(3,.eptr 2 ra 0 0),(6,.own 0 0 0 0),(7,.osl 1 v 0 n)]
def xGt (ra:List AV) (v n r:Nat) (H:List Box):keepS [3,6,7] ⟨(((xnH g) ra v n r).set 18 (.tuple [.bool false])).set 19 (.bool false),H⟩=⟨xFh ra v n,H⟩:=by kernel_rfl
def xFi (ka fa xs ms:List AV) (v n:Nat):X Tryz.prog xmD none (.seq (.region 10 (cmO 10) false) .ret) ⟨xFh [relV ka fa] v n,[cellR,boxO v xs,boxC ms]⟩ (endK Tryz.prog xmD.ls Tryz.f30.results.toList) =
 br (decide (((0:Nat)+ka.length)*(8:Nat)<=(140737488355328:Nat))&&decide ((0:Nat)+ka.length<=(4611686018427387904:Nat))) (br (v==v&&decide ((0:Nat)+n<=xs.length)&&true) (br (xak (List.take n (List.drop (0:Nat) xs))).isSome (br (decide ((0:Nat)+((0:Nat)+ka.length)<=([]++ka).length)&&true&&true) (some (AV.agg [AV.list (1:Nat) (List.take ((0:Nat)+ka.length) (List.drop (0:Nat) ([]++ka))),AV.list (3:Nat) ((xak (List.take n (List.drop (0:Nat) xs))).getD [])])) none) none) none) none:=by kernel_rfl
def xFy:LoOk Tryz.prog (xIQ.at 0) xmD (.seq (.region 10 (cmO 10) false) .ret):=xdY (by kernel_rfl)
def xBQ:(rmOps9 (rmOf Tryz.f30)).toList=(rmOps9 (rmOf Tryz.f30)).toList.dropLast++[(rmOps9 (rmOf Tryz.f30)).toList.getLastD default]:=by kernel_rfl
def xDG:noDefer (rmOps9 (rmOf Tryz.f30))=true:=by kernel_rfl
def xFt:((rmOps9 (rmOf Tryz.f30)).toList.getLastD default).op=.range 83 (.tmp 16):=by kernel_rfl
def xFl:((rmOps9 (rmOf Tryz.f30)).toList.getLastD default).dst=some 17:=by kernel_rfl
def xFp:((rmOps9 (rmOf Tryz.f30)).toList.getLastD default).guard=none:=by kernel_rfl
def xBO:(rmOps0 (rmOf Tryz.f30)).toList=[(rmOps0 (rmOf Tryz.f30)).toList.getD 0 default,(rmOps0 (rmOf Tryz.f30)).toList.getD 1 default]:=by kernel_rfl
def xDE:noDefer (rmOps0 (rmOf Tryz.f30))=true:=by kernel_rfl
def xFr:((rmOps0 (rmOf Tryz.f30)).toList.getD 0 default).op=.next (.tmp 17) false:=by kernel_rfl
def xFj:((rmOps0 (rmOf Tryz.f30)).toList.getD 0 default).dst=some 18:=by kernel_rfl
def xFn:((rmOps0 (rmOf Tryz.f30)).toList.getD 0 default).guard=none:=by kernel_rfl
def xFs:((rmOps0 (rmOf Tryz.f30)).toList.getD 1 default).op=.extract (.tmp 18) 0:=by kernel_rfl
def xFk:((rmOps0 (rmOf Tryz.f30)).toList.getD 1 default).dst=some 19:=by kernel_rfl
def xFo:((rmOps0 (rmOf Tryz.f30)).toList.getD 1 default).guard=none:=by kernel_rfl
def xBP:(rmOps1 (rmOf Tryz.f30)).toList=((rmOps1 (rmOf Tryz.f30)).toList.getD 0 default)::(rmOps1 (rmOf Tryz.f30)).toList.drop 1:=by kernel_rfl
def xDF:noDefer (rmOps1 (rmOf Tryz.f30))=true:=by kernel_rfl
def xFu:((rmOps1 (rmOf Tryz.f30)).toList.getD 0 default).op=.entry (.tmp 17):=by kernel_rfl
def xFm:((rmOps1 (rmOf Tryz.f30)).toList.getD 0 default).dst=some 20:=by kernel_rfl
def xFq:((rmOps1 (rmOf Tryz.f30)).toList.getD 0 default).guard=none:=by kernel_rfl
def xGr (ka fa kb fb:List AV) (H:List Box):St.eval ⟨((xsi g) ka fa kb fb).set 16 (.own 2 0 0 0),H⟩ (.tmp 16)=.own (.b 2) 0 0 0:=by kernel_rfl
def xy8 (ms:List AV):freeze [cellR,boxO 0 [],mapB ms] [2]=[cellR,boxO 0 [],boxC ms]:=by kernel_rfl
def xGz (ka fa kb fb ms:List AV) (r:Nat):normS 3 [] [2,3,6,7,17] ⟨(((xsi g) ka fa kb fb).set 16 (.own 2 0 0 0)).set 17 (.gptr r),[cellR,boxO 0 [],boxC ms]⟩=some ([.func g [],.eptr 2 [relV ka fa] 0 0,.own 0 0 0 0,.osl 1 0 0 0,.gptr r],[cellR,boxO 0 [],boxC ms]):=by kernel_rfl
def xGu (ka fa kb fb:List AV) (r:Nat):mkTs ((((xsi g) ka fa kb fb).set 16 (.own 2 0 0 0)).set 17 (.gptr r)).length ([2,3,6,7,17].zip [.func g [],.eptr 2 [relV ka fa] 0 0,.own 0 0 0 0,.osl 1 0 0 0,.gptr r])=(xnH g) [relV ka fa] 0 0 r:=by kernel_rfl
def xGs (ra:List AV) (v n r:Nat):((xnH g) ra v n r)[17]?=some (.gptr r):=by kernel_rfl
def xAq (ra:List AV) (v n r:Nat):((xnH g) ra v n r).length=57:=by kernel_rfl
end Go.Sim.M
end
noncomputable section
set_option maxRecDepth 100000
namespace Go.Sim.M
open Go.RowKit Go.Proofs
variable (g : FuncId)
def xDB (ka fa kb fb:List AV):([relV ka fa,relV kb fb,.func g []]:List AV)++List.replicate (Tryz.f30.ntmps - ([relV ka fa,relV kb fb,.func g []]:List AV).length) (.tuple [])=(xy7 g) ka fa kb fb:=by kernel_rfl
def xDC:Tryz.f30.body=some (Tryz.f30.body.getD .skip):=by kernel_rfl
def xG3 (ka fa kb fb:List AV) (h:colOk fa fb=true):Path (OpA Tryz.prog (xIQ.at 0)) (rmOps9 (rmOf Tryz.f30)) (rmOps9 (rmOf Tryz.f30)).toList.dropLast ⟨(xvk g) ka fa kb fb,[cellR,boxO 0 []]⟩ ⟨((xsi g) ka fa kb fb).set 16 (.own 2 0 0 0),[cellR,boxO 0 [],mapB (outOf (colV fa fb))]⟩:=by
 have h1:=(xFC g) ka fa kb fb;rw [h] at h1;obtain ⟨s1,h2,h3⟩:=xek xvl (K:=some) h1;cases h3;exact h2
def xye {ops:Array Oper} {l:List Oper} {s s':St} (h:xOps Tryz.prog xmD none (some true) ops l s some=some s'):Path (OpA Tryz.prog (xIQ.at 0)) ops l s s':=by
 obtain ⟨s1,h2,h3⟩:=xek xvl h;cases h3;exact h2
def xBR {o:List AV->List AV->Option (List AV)} (J:CmX g o) {ra:List AV} {ps:List PE} (Q:∀ k,k<ps.length->lvOk o (ps.getD k defP)=true) {s:Nat×List AV} {k r:Nat} (hk:k<ps.length) (hl:s.2.length+(fkOf o ps k).length<=1099511627776) :
  ∃ s2,Path (OpA Tryz.prog (xIQ.at 3)) (rmOps1 (rmOf Tryz.f30)) ((rmOps1 (rmOf Tryz.f30)).toList.drop 1) ⟨stepT ((xnH g) ra s.1 s.2.length r) 18 19 20 (keyAt (boxC (outOf ps)) k) (valAt 2 (boxC (outOf ps)) k),[cellR,boxO s.1 s.2,boxC (outOf ps)]⟩ s2 /\
   Does Tryz.prog (xIQ.at 3) (rmBody (rmOf Tryz.f30)) (fun e s'=>e=.normal/\Weak 3 s' ⟨(xnH g) ra (s.1+(fkOf o ps k).length) (s.2++fkOf o ps k).length r,[cellR,boxO (s.1+(fkOf o ps k).length) (s.2++fkOf o ps k),boxC (outOf ps)]⟩) s2:=by
 have q:valAt 2 (boxC (outOf ps)) k=entV (ps.getD k defP).2.1 (ps.getD k defP).2.2.1 (ps.getD k defP).2.2.2:=by
  have e:(outOf ps).getD k .top=outE (ps.getD k defP):=by simp [outOf,z7,hk]
  have e2:(boxC (outOf ps)).xs=outOf ps:=rfl;have e3:xH9 (boxC (outOf ps)).ty 1=false:=xvF;unfold valAt xIw;rw [e3,e2,e];rfl
 rw [q];have hv:=Q k hk;unfold lvOk at hv;simp only [zg,zJ,List.mem_range] at hv;obtain ⟨h1,h2,h3,h4,h5⟩:=hv;have D:(fkOf o ps k).length=(lvOf o (ps.getD k defP)).length:=by simp [fkOf]
 have hit:Iter (xbZ (ps.getD k defP).2.1 (lvOf o (ps.getD k defP)) (↑(lvOf o (ps.getD k defP)).length:Int)) (s.1,s.2.length,(0:Int),s.2)=some (s.1+(lvOf o (ps.getD k defP)).length,s.2.length+(lvOf o (ps.getD k defP)).length,s.2++((lvOf o (ps.getD k defP)).drop 0).map (factA (ps.getD k defP).2.1)) :=
  xyd (ps.getD k defP).2.1 (lvOf o (ps.getD k defP)) h5 (lvOf o (ps.getD k defP)).length 0 s.1 s.2 (by omega) (by omega) (by omega)
 have hx:=J ra (ps.getD k defP).2.1 (ps.getD k defP).2.2.1 (ps.getD k defP).2.2.2 (outOf ps) s.2 (keyAt (boxC (outOf ps)) k) s.1 s.2.length r;have O:s.1.beq s.1=true:=Nat.beq_refl _;rw [h1,h2,h3,h4] at hx;simp only [xaa,sUF] at hx;rw [show (xas ((o ((xaf (ps.getD k defP).2.2.1).getD []) ((xaf (ps.getD k defP).2.2.2).getD [])).getD [])).getD []=lvOf o (ps.getD k defP) from rfl,hit,O] at hx
 simp only [zl,Bool.and_self,xaa,zi,zt,sUF] at hx;obtain ⟨s2,g1,g2⟩:=xDL xIh (xIi Tryz.prog _) rfl (xFB g) (xFw g) hx;refine ⟨s2,g1,xdw g2 fun e s' ⟨he,hw⟩=>⟨he,?_⟩⟩
 rw [D];have hn:s.2.length+(lvOf o (ps.getD k defP)).length=(s.2++fkOf o ps k).length:=by rw [z8,D]
 rw [hn] at hw;exact hw
def xAw {o:List AV->List AV->Option (List AV)} (ab:CmX g o) {ka fa kb fb:List AV} (hk:ka.length<=1099511627776) (h:cmbOk o fa fb=true):Good Tryz.prog xIQ 30 [relV ka fa,relV kb fb,.func g []] (.agg [.list 1 ka,.list 3 ((xak (flatOf o (colV fa fb))).getD [])]):=by
 unfold cmbOk at h;simp only [zg,zJ,List.mem_range,zm] at h;obtain ⟨W,ae,Z,O,J⟩:=h;refine xfp (p:=0) (xyp (xIi Tryz.prog _) Tryz.func30 xDC (by kernel_rfl) ?_)
 rw [(xDB g),xDD];refine xqQ (xpi (xIi Tryz.prog _) xGw (xye ((xGB g) ka fa kb fb)) ?_);refine xqQ (xpi (xIi Tryz.prog _) xGy (xye ((xGC g) ka fa kb fb)) ?_);refine xnK ((xGD g) ka fa kb fb) (xqQ ?_);rw [xFD];refine xdw (xwy (Inv:=xIQ.at 0) (xIi Tryz.prog _) (σ:=Nat×List AV) (ρ:=Unit) (pre:=(rmOps9 (rmOf Tryz.f30)).toList.dropLast) (exts:=(rmOps1 (rmOf Tryz.f30)).toList.drop 1) (o9:=(rmOps9 (rmOf Tryz.f30)).toList.getLastD default) (o0:=(rmOps0 (rmOf Tryz.f30)).toList.getD 0 default) (o1:=(rmOps0 (rmOf Tryz.f30)).toList.getD 1 default) (oe:=(rmOps1 (rmOf Tryz.f30)).toList.getD 0 default)
  (it:=17) (tn:=18) (tb:=19) (te:=20) (tyM:=83) (kt:=9) (et:=85) (mo:=.tmp 16)
  xBQ xDG xFt xFl xFp xCf xBO xDE xFr xFj xFn xFs xFk xFo xBP xDF xFu xFm xFq
  (by decide) (by decide) (by decide)
  ((xG3 g) ka fa kb fb W) (nb:=2) (ver:=0) (i:=0) (j:=0) ((xGr g) ka fa kb fb _) (bx:=boxC (outOf (colV fa fb))) (by rw [xy8];rfl) rfl xCe xvE rfl rfl rfl
  (n:=3) (by rw [xy8];exact zd 3) (fun s r=>(xnH g) [relV ka fa] s.1 s.2.length r) (fun s=>[cellR,boxO s.1 s.2,boxC (outOf (colV fa fb))]) (fun _=>[]) (fun _=>[]) (stepF (fkOf o (colV fa fb))) (0,[])
  (fun s=>zd 3) (fun s r=>(xGs g) _ _ _ r) (fun s r=>by rw [(xAq g)];decide) (fun s r=>by rw [(xAq g)];decide)
  (fun r=>?_) ?_) fun e s' hq=>?_
 . have h:=xkP ((xGz g) ka fa kb fb (outOf (colV fa fb)) r);rw [(xGu g)] at h;rw [xy8];exact h
 . intro r done s k V Y ad aa hf;have D:(boxC (outOf (colV fa fb))).xs.length=(colV fa fb).length:=by
    show (outOf (colV fa fb)).length=_;simp [outOf]
   rw [D] at V aa;obtain ⟨v',Q⟩:=xvB (fkOf o (colV fa fb)) done 0 [];rw [Q] at hf;have hs:s=(v',[]++done.flatMap (fkOf o (colV fa fb))):=by
    injection hf with hf;exact hf.symm
   have hl:s.2.length+(fkOf o (colV fa fb) k).length<=1099511627776:=by
    rw [hs];have:=xuN (fk:=fkOf o (colV fa fb)) ad aa Y V;simp only [zV];exact Nat.le_trans this Z
   obtain ⟨s2,g1,g2⟩:=xBR g ab (ra:=[relV ka fa]) ae (s:=s) (r:=r) V hl;exact ⟨s2,g1,g2⟩
 . obtain ⟨ord,q,hq⟩:=hq;have D:(boxC (outOf (colV fa fb))).xs.length=(colV fa fb).length:=by
    show (outOf (colV fa fb)).length=_;simp [outOf]
   rw [D] at q;obtain ⟨v',Q⟩:=xvB (fkOf o (colV fa fb)) ord 0 [];rw [Q] at hq;obtain ⟨rfl,r,rfl⟩:=hq;show Does Tryz.prog (xIQ.at 0) _ _ _;refine xnK (xBE [3,6,7] _) ?_;rw [(xGt g)];have ac:=O ord q;have hx:=xFi ka fa ([]++ord.flatMap (fkOf o (colV fa fb))) (outOf (colV fa fb)) v' ([]++ord.flatMap (fkOf o (colV fa fb))).length;have c1:(decide (((0:Nat)+ka.length)*(8:Nat)<=(140737488355328:Nat))&&decide ((0:Nat)+ka.length<=(4611686018427387904:Nat)))=true:=by
    simp only [zg,zm];omega
   have c2:∀ n:Nat,(v'==v'&&decide ((0:Nat)+n<=n)&&true)=true:=fun n=>by simp
   have c3:(decide ((0:Nat)+((0:Nat)+ka.length)<=([]++ka).length)&&true&&true)=true:=by simp
   rw [c1,c2,c3,zV,zt,ya,ac,J] at hx;simp only [xaa,zV,zt,zI,ya,sUF] at hx;have hd:=xfe (P:=Tryz.prog) (Inv:=xIQ.at 0) (E:=xmD) (good:=fun z=>z=some (AV.agg [.list 1 ka,.list 3 ((xak (flatOf o (colV fa fb))).getD [])])) (bad:=none) xIh (xIi Tryz.prog _) rfl (by simp) xvl _ _ _ xFy hx
   refine xdw hd fun e s hq=>?_
   exact xB8 hq
end Go.Sim.M
end
noncomputable section
set_option maxRecDepth 100000
namespace Go.Sim.M
open Go.RowKit Go.Proofs
def cmxA:CmX 31 xl2:=fun ra row ea eb ms xs s v n r=>by kernel_rfl
noncomputable def xpk (fa fb:List AV):Option (List AV):=cmbV xl2 fa fb
noncomputable def xAy (g:FuncId) (f:List AV->List AV->Option (List AV)):List AV->Option (Bool×AV):=ocOf (xIS (xI7 (xIS (xI6 1 xIV) (xIS (xI6 3 xIV) xIU))) (xIS (xI7 (xIS (xI6 1 xIV) (xIS (xI6 3 xIV) xIU))) (xIS (sEq (xIv g xIT)) xIU))) fun ((ka,(fa,_)),((kb,(fb,_)),_))=>(decide (ka.length<=1099511627776)&&(f fa fb).isSome,.agg [.list 1 ka,.list 3 ((f fa fb).getD [])])
def xFF {g:FuncId} {o:List AV->List AV->Option (List AV)} (q:CmX g o):OcOk Tryz.prog xIQ 30 (xAy g (cmbV o)):=xdB fun vv rr hh=>by
 obtain ⟨⟨ka,fa,_⟩,⟨kb,fb,_⟩,_⟩:=vv;obtain ⟨h1,rfl⟩:=Prod.mk.inj hh;simp only [zg,zm] at h1;obtain ⟨h2,h3⟩:=xAr (op:=o) h1.2;have h:=xAw g q (ka:=ka) (kb:=kb) h1.1 h2;rw [<-h3] at h;exact h
noncomputable def EKSJ:Env:=xw3.E.with 30 (xAy 31 xpk)
def xDe:xH8 Tryz.prog xIQ EKSJ:=xw3.ok.with (xFF cmxA)
noncomputable def xDd:EO:=EO.mk EKSJ xDe
end Go.Sim.M
end
noncomputable section
set_option maxRecDepth 100000
namespace Go.Sim.M
open Go.IntKind (i64 u64 u8)
open Go.RowKit Go.Proofs
def xmk {T:Type} (a b d c:LA) (δ:T) (κ:LA×LA->T):T:=br (decide (a.length<=1099511627776)&&(xpk b c).isSome) (κ (a,(xpk b c).getD [])) δ
def xlN (a b c d:LA):=xmk a b c d none some
def xzx:EO:=xDd.f Tryz.func13 8 0 [] [] lk0 (u2 (xI7 (u2 (uL 1) (uL 3))) (xI7 (u2 (uL 1) (uL 3)))) (fun ((a,b,_),(c,d,_),_) _=>xmk a b c d) (fun _ p=>AV.agg [AV.list 1 p.1,AV.list 3 p.2]) ([],[])
def xcu {T:Type} (b:List UInt8) (c a:Int) (δ:T) (κl:(Int)->T) (κr:(Bool×(Bool)×(Unit))->T):T:=br (decide (a<c)) (br (decide (0<=a)&&decide (a<b.length)) (br (decide ((↑(b.getD a.toNat (0:UInt8)).toNat:Int)<32)) (κr (true,(false),())) (br (decide (0<=a)&&decide (a<b.length)) (br (decide ((↑(b.getD a.toNat (0:UInt8)).toNat:Int)>126)) (κr (true,(false),())) (κl (i64.wrap (a+1)))) δ)) δ) (κr (false,false,()))
def xaD (a:List UInt8) (b:Int):StT (Int) (Bool×(Bool)×(Unit)):=fun (c)=>xcu a b c none inL inR
def xj9:=xzx.l 20 0 [] [] Tryz.f126 0 lk0 [0,5,6] [2] [] (q3 pStr qI qI) xIT (fun (a,b,c,_) _=>(xaD a b,(c),fun p=>(.node p.1 (.leaf .ret [AV.bool p.2.1] []) (.leaf (.exit 0) [.top] [])))) (false,false,()) fun (a,b,_,_) _ (c)=>(((a,b,c,()),()),xcu a b c none)
def xi7 {T:Type} (a:List UInt8) (δ:T) (κ:Bool->T):T:=br ((Iter (xaD a (↑a.length:Int)) 0).isSome) (br (((Iter (xaD a (↑a.length:Int)) 0).getD (false,false,())).fst) (κ (((Iter (xaD a (↑a.length:Int)) 0).getD (false,false,())).snd.fst)) (κ (true))) δ
def xhW (a:List UInt8):=xi7 a none some
def xEI:EO:=xzx.f Tryz.func126 20 0 [] [(2,xj9.lp)] (lk1 xj9.ok) (u1 (sEq pStr)) (fun (a,_) _=>xi7 a) (fun _ p=>AV.bool p) false
def xmp {T:Type} (c a:Int) (b:List UInt8) (δ:T) (κ:Bool->T):T:=br (c==0) (br (a==0) (κ (b==[])) (κ (false))) (br (c==1) (br (b==[]) (br (decide (a>=(-1125899906842624))) (κ (decide (a<=1125899906842624))) (κ (false))) (κ (false))) (br (c==2) (br (a==0) (br (decide ((↑b.length:Int)<=200)) (br ((xhW b).isSome) (κ ((xhW b).getD false)) δ) (κ (false))) (κ (false))) (br (c==3) (br (b==[]) (br (a==0) (κ (true)) (κ (a==1))) (κ (false))) (κ (false)))))
def xgi (a b:Int) (c:List UInt8):=xmp a b c none some
def xEJ:EO:=xEI.f Tryz.func91 61 0 [] [] lk0 (u1 (xI7 (u3 uI uI (sEq pStr)))) (fun ((a,b,c,_),_) _=>xmp a b c) (fun _ p=>AV.bool p) false
def xzO:Int×Int×List UInt8:=((0,0,[]))
def xwk {T:Type} (δ:T) (κ:Int×Int×List UInt8->T):T:=κ (0,0,[])
def xEK:EO:=xEJ.fT Tryz.func59 2 0 [] [] lk0 (fun _=>xwk none) xIU (fun _=>xzO) (fun _ p=>(AV.agg [AV.int .i64 p.1,AV.int .i64 p.2.1,AV.str p.2.2]))
def xlD {T:Type} (a b:Int) (c:List UInt8) (δ:T) (κ:Int×Int×List UInt8->T):T:=br ((xgi a b c).isSome) (br (!(xgi a b c).getD false) (κ (0,0,[])) (κ (a,b,c))) δ
def xdA (a b:Int) (c:List UInt8):=xlD a b c none some
def xEL:EO:=xEK.f Tryz.func129 8 0 [] [] lk0 (u1 (xI7 (u3 uI uI (sEq pStr)))) (fun ((a,b,c,_),_) _=>xlD a b c) (fun _ p=>AV.agg [AV.int .i64 p.1,AV.int .i64 p.2.1,AV.str p.2.2]) (0,0,[])
def xos {T:Type} (n:Int) (δ:T) (κ:Int×Int×List UInt8->T):T:=br ((xdA 1 n []).isSome) (κ (((xdA 1 n []).getD (0,0,[])).fst,((xdA 1 n []).getD (0,0,[])).snd.fst,((xdA 1 n []).getD (0,0,[])).snd.snd)) δ
def xaQ (n:Int):=xos n none some
def xEM:EO:=xEL.f Tryz.func98 6 0 [] [] lk0 (u1 uI) (fun (n,_) _=>xos n) (fun _ p=>AV.agg [AV.int .i64 p.1,AV.int .i64 p.2.1,AV.str p.2.2]) (0,0,[])
def xmo (a:List UInt8):=((xdA 2 0 a).getD (0,0,[])).snd
def xnA {T:Type} (a:List UInt8) (δ:T) (κ:Int×Int×List UInt8->T):T:=br ((xdA 2 0 a).isSome) (κ (((xdA 2 0 a).getD (0,0,[])).fst,(xmo a).fst,(xmo a).snd)) δ
def xmP (a:List UInt8):=xnA a none some
def xEN:EO:=xEM.f Tryz.func99 6 0 [] [] lk0 (u1 (sEq pStr)) (fun (a,_) _=>xnA a) (fun _ p=>AV.agg [AV.int .i64 p.1,AV.int .i64 p.2.1,AV.str p.2.2]) (0,0,[])
def xct (b:Bool):Int×Int×List UInt8:=(br (b) ((3,1,[])) ((3,0,[])))
def xwi {T:Type} (b:Bool) (δ:T) (κ:Int×Int×List UInt8->T):T:=br (b) (κ (3,1,[])) (κ (3,0,[]))
def xEO:EO:=xEN.fT Tryz.func62 8 0 [] [] lk0 (fun (b,_)=>xwi b none) (u1 (sEq pBool)) (fun (b,_)=>xct b) (fun _ p=>(AV.agg [AV.int .i64 p.1,AV.int .i64 p.2.1,AV.str p.2.2]))
def xiz (a d:Int) (e:List UInt8) (b f:Int) (g:List UInt8) (c:Bool):Int:=(br (a==0) ((1)) (br (a != b) ((1)) (br (c) ((2)) ((0)))))
def xtG {T:Type} (a d:Int) (e:List UInt8) (b f:Int) (g:List UInt8) (c:Bool) (δ:T) (κ:Int->T):T:=br (a==0) (κ (1)) (br (a != b) (κ (1)) (br (c) (κ (2)) (κ (0))))
def xEP:EO:=xEO.fT Tryz.func130 20 0 [] [] lk0 (fun ((a,b,c,_),(d,e,f,_),g,_)=>xtG a b c d e f g none) (u3 (xI7 (u3 uI uI (sEq pStr))) (xI7 (u3 uI uI (sEq pStr))) (sEq pBool)) (fun ((a,b,c,_),(d,e,f,_),g,_)=>xiz a b c d e f g) (fun _ p=>(AV.int .i64 p))
def xjl (a b:Int) (c:List UInt8) (d e:Int) (f:List UInt8):Int:=((xiz a b c d e f (xaF a b c d e f==0)))
def xux {T:Type} (a b:Int) (c:List UInt8) (d e:Int) (f:List UInt8) (δ:T) (κ:Int->T):T:=κ (xiz a b c d e f (xaF a b c d e f==0))
def xEQ:EO:=xEP.fT Tryz.func102 12 0 [] [] lk0 (fun ((a,b,c,_),(d,e,f,_),_)=>xux a b c d e f none) (u2 (xI7 (u3 uI uI (sEq pStr))) (xI7 (u3 uI uI (sEq pStr)))) (fun ((a,b,c,_),(d,e,f,_),_)=>xjl a b c d e f) (fun _ p=>(AV.int .i64 p))
def xe8 (a b:Int) (c:List UInt8) (d e:Int) (f:List UInt8):Int:=((xiz a b c d e f (decide (xaF a b c d e f<0))))
def xwj {T:Type} (a b:Int) (c:List UInt8) (d e:Int) (f:List UInt8) (δ:T) (κ:Int->T):T:=κ (xiz a b c d e f (decide (xaF a b c d e f<0)))
def xDf:EO:=xEQ.fT Tryz.func103 12 0 [] [] lk0 (fun ((a,b,c,_),(d,e,f,_),_)=>xwj a b c d e f none) (u2 (xI7 (u3 uI uI (sEq pStr))) (xI7 (u3 uI uI (sEq pStr)))) (fun ((a,b,c,_),(d,e,f,_),_)=>xe8 a b c d e f) (fun _ p=>(AV.int .i64 p))
def xbD (t:Int):Int:=(br (t != 0) (br (t != 2) ((1)) ((t))) ((t)))
def xtH {T:Type} (t:Int) (δ:T) (κ:Int->T):T:=br (t != 0) (br (t != 2) (κ (1)) (κ (t))) (κ (t))
def xDg:EO:=xDf.fT Tryz.func101 10 0 [] [] lk0 (fun (t,_)=>xtH t none) (u1 uI) (fun (t,_)=>xbD t) (fun _ p=>(AV.int .i64 p))
def xca (a:Int):Int:=((i64.wrap (2 - xbD a)))
def xwZ {T:Type} (a:Int) (δ:T) (κ:Int->T):T:=κ (i64.wrap (2 - xbD a))
def xw4:EO:=xDg.fT Tryz.func93 6 0 [] [] lk0 (fun (a,_)=>xwZ a none) (u1 uI) (fun (a,_)=>xca a) (fun _ p=>(AV.int .i64 p))
def xnB {T:Type} (b:LA) (c t a:Int) (δ:T) (κl:(Int×Int)->T) (κr:(Int)->T):T:=br (decide (a<c)) (br (ixI b a) (br (ixS b a (Sh.int .i64) 0) (κl (if xbD (gC b a 0).toInt<t then xbD (gC b a 0).toInt else t,i64.wrap (a+1))) δ) δ) (κr (t))
def xfH (a:LA) (b:Int):StT (Int×Int) (Int):=fun (t,c)=>xnB a b t c none inL inR
def xmA:=xw4.l 18 0 [] [] Tryz.f128 0 lk0 [3,6,7,8] [3] [] (q4 qI (qL 1) qI qI) xIT (fun (t,a,b,c,_) _=>(xfH a b,(t,c),fun p=>(.leaf (.exit 0) [AV.int .i64 p] []))) 0 fun (_,a,b,_,_) _ (t,c)=>(((t,a,b,c,()),()),xnB a b t c none)
def xmq {T:Type} (l:LA) (δ:T) (κ:Int->T):T:=br ((Iter (xfH l (↑l.length:Int)) (2,0)).isSome) (κ ((Iter (xfH l (↑l.length:Int)) (2,0)).getD 0)) δ
def xhC (l:LA):=xmq l none some
def xDh:EO:=xw4.f Tryz.func128 18 0 [] [(3,xmA.lp)] (lk1 xmA.ok) (u1 (uL 1)) (fun (l,_) _=>xmq l) (fun _ p=>AV.int .i64 p) 0
def xor {T:Type} (a b:Int) (δ:T) (κ:Int->T):T:=br ((xhC [AV.int .i64 a,AV.int .i64 b]).isSome) (κ ((xhC [AV.int .i64 a,AV.int .i64 b]).getD 0)) δ
def xqC (a b:Int):=xor a b none some
def xDi:EO:=xDh.f Tryz.func94 9 0 [] [] lk0 (u2 uI uI) (fun (a,b,_) _=>xor a b) (fun _ p=>AV.int .i64 p) 0
def xpp {T:Type} (a b:Int) (δ:T) (κ:Int->T):T:=br ((xhC [AV.int .i64 (xca a),AV.int .i64 (xca b)]).isSome) (κ (xca ((xhC [AV.int .i64 (xca a),AV.int .i64 (xca b)]).getD 0))) δ
def xsa (a b:Int):=xpp a b none some
def xDj:EO:=xDi.f Tryz.func95 12 0 [] [] lk0 (u2 uI uI) (fun (a,b,_) _=>xpp a b) (fun _ p=>AV.int .i64 p) 0
def xdm (a b:Int) (c:List UInt8):Int:=(br (a==3&&(b==1&&(c==[]&&true))) ((2)) (br (a==3&&(b==0&&(c==[]&&true))) ((0)) ((1))))
def xu0 {T:Type} (a b:Int) (c:List UInt8) (δ:T) (κ:Int->T):T:=br (a==3&&(b==1&&(c==[]&&true))) (κ (2)) (br (a==3&&(b==0&&(c==[]&&true))) (κ (0)) (κ (1)))
def xDk:EO:=xDj.fT Tryz.func73 10 0 [] [] lk0 (fun ((a,b,c,_),_)=>xu0 a b c none) (u1 (xI7 (u3 uI uI (sEq pStr)))) (fun ((a,b,c,_),_)=>xdm a b c) (fun _ p=>(AV.int .i64 p))
def xjT (t:Int):Int×Int×List UInt8:=(br (xbD t==1) ((0,0,[])) (((xct (xbD t==2)).fst,(xct (xbD t==2)).snd.fst,(xct (xbD t==2)).snd.snd)))
def xzP {T:Type} (t:Int) (δ:T) (κ:Int×Int×List UInt8->T):T:=br (xbD t==1) (κ (0,0,[])) (κ ((xct (xbD t==2)).fst,(xct (xbD t==2)).snd.fst,(xct (xbD t==2)).snd.snd))
def xDl:EO:=xDk.fT Tryz.func66 11 0 [] [] lk0 (fun (t,_)=>xzP t none) (u1 uI) (fun (t,_)=>xjT t) (fun _ p=>(AV.agg [AV.int .i64 p.1,AV.int .i64 p.2.1,AV.str p.2.2]))
def xpo {T:Type} (a:LA) (i:Int) (δ:T) (κ:Int×Int×List UInt8->T):T:=br (decide (i<0)) (κ (0,0,[])) (br (decide (i>=a.length)) (κ (0,0,[])) (br (ixI a i) (br (ixT a i 3 [Sh.int .i64,Sh.int .i64,Sh.str] 0) (κ ((gC a i 0).toInt,(gC a i 1).toInt,(gC a i 2).toStr)) δ) δ))
def xpn (a:LA) (i:Int):=xpo a i none some
def xz0:EO:=xDl.f Tryz.func127 18 0 [] [] lk0 (u2 (uL 3) uI) (fun (a,i,_) _=>xpo a i) (fun _ p=>AV.agg [AV.int .i64 p.1,AV.int .i64 p.2.1,AV.str p.2.2]) (0,0,[])
def xhc (a b:LA) (c:Int):=(xpn a (gC b c 0).toInt).getD (0,0,[])
def xla {T:Type} (e c:LA) (f:Int) (d:Nat) (a:Int) (b:LA) (δ:T) (κl:(Nat×Int×LA)->T) (κr:(Nat×LA)->T):T:=br (decide (a<f)) (br (ixI c a) (br (ixS c a (Sh.int .i64) 0) (br ((xpn e (gC c a 0).toInt).isSome) (br (rmB d b 1 32) (κl (d+1,i64.wrap (a+1),b++[AV.agg [AV.int .i64 (xhc e c a).fst,AV.int .i64 ((xhc e c a).snd).fst,AV.str ((xhc e c a).snd).snd]])) δ) δ) δ) δ) (κr (d,b))
def xdh (c d:LA) (e:Int):StT (Nat×Int×LA) (Nat×LA):=fun (b,f,a)=>xla c d e b f a none inL inR
def xny:=xz0.l 25 0 [] [] Tryz.f92 0 lk0 [0,5,11,12,13] [5] [(5,3,27)] (q5 (qL 3) (xI2 0 0 0) (qL 1) qI qI) (q1 (qB 0 3 27 xIV)) (fun (c,b,d,e,f,_) (a,_)=>(xdh c d e,(b,f,a),fun p=>(.leaf (.exit 0) [AV.osl 0 0 0 p.1] [bF 0 3 27 p.2]))) (0,[]) fun (c,_,d,e,_,_) _ (b,f,a)=>(((c,b,d,e,f,()),(a,())),xla c d e b f a none)
def xhq (a l:LA):=(Iter (xdh a l (↑l.length:Int)) (0,0,[])).getD (0,[])
def xnz {T:Type} (a l:LA) (δ:T) (κ:LA->T):T:=br (decide (32*(↑l.length:Int)<=281474976710656)&&decide ((↑l.length:Int)<=4611686018427387904)) (br ((Iter (xdh a l (↑l.length:Int)) (0,0,[])).isSome) (br (decide (0+((xhq a l).fst)<=((xhq a l).snd).length)&&true) (κ (List.take ((xhq a l).fst) (List.drop 0 ((xhq a l).snd)))) δ) δ) δ
def xiQ (a l:LA):=xnz a l none some
def xER:EO:=xz0.f Tryz.func92 25 0 [] [(3,xny.lp)] (lk1 xny.ok) (u2 (uL 3) (uL 1)) (fun (a,l,_) _=>xnz a l) (fun _ p=>AV.list 3 p) []
def xht (a n:Int):Bool×Bool:=(br (a==1) ((n==0,true)) (br (a==2) ((n==0,true)) (br (a==4) ((n==1,true)) (br (a==18) ((n==1,true)) (br (a==20) ((n==1,true)) (br (a==21) ((n==1,true)) (br (a==7) ((n==2,true)) (br (a==8) ((n==2,true)) (br (a==9) ((n==2,true)) (br (a==10) ((n==2,true)) (br (a==11) ((n==2,true)) (br (a==12) ((n==2,true)) (br (a==13) ((n==2,true)) (br (a==14) ((n==2,true)) (br (a==15) ((n==2,true)) (br (a==16) ((n==2,true)) (br (a==17) ((n==2,true)) (br (a==19) ((n==2,true)) (br (a==5) ((decide (n>=2),true)) (br (a==6) ((decide (n>=2),true)) (br (a==22) ((n==3,true)) (br (a==23) ((decide (n>=1),true)) (br (a==24) ((n==4,true)) ((false,false)))))))))))))))))))))))))
def xuJ {T:Type} (a n:Int) (δ:T) (κ:Bool×Bool->T):T:=br (a==1) (κ (n==0,true)) (br (a==2) (κ (n==0,true)) (br (a==4) (κ (n==1,true)) (br (a==18) (κ (n==1,true)) (br (a==20) (κ (n==1,true)) (br (a==21) (κ (n==1,true)) (br (a==7) (κ (n==2,true)) (br (a==8) (κ (n==2,true)) (br (a==9) (κ (n==2,true)) (br (a==10) (κ (n==2,true)) (br (a==11) (κ (n==2,true)) (br (a==12) (κ (n==2,true)) (br (a==13) (κ (n==2,true)) (br (a==14) (κ (n==2,true)) (br (a==15) (κ (n==2,true)) (br (a==16) (κ (n==2,true)) (br (a==17) (κ (n==2,true)) (br (a==19) (κ (n==2,true)) (br (a==5) (κ (decide (n>=2),true)) (br (a==6) (κ (decide (n>=2),true)) (br (a==22) (κ (n==3,true)) (br (a==23) (κ (decide (n>=1),true)) (br (a==24) (κ (n==4,true)) (κ (false,false))))))))))))))))))))))))
def xES:EO:=xER.fT Tryz.func90 51 0 [7000000] [] lk0 (fun (a,n,_)=>xuJ a n none) (u2 uI uI) (fun (a,n,_)=>xht a n) (fun _ p=>(AV.tuple [AV.bool p.1,AV.bool p.2]))
def xl8 {T:Type} (d e a b:Int) (c f:List UInt8) (g:LA) (δ:T) (κ:Bool->T):T:=br (!(xht d (↑g.length:Int)).fst) (κ (false)) (br (!f==[]) (κ (false)) (br (d==1) (br (e==0) (br ((xgi a b c).isSome) (κ ((xgi a b c).getD false)) δ) (κ (false))) (br (d==24) (br (decide (e<0)) (κ (false)) (br (decide (e>=13)) (κ (false)) (κ (a==0&&(b==0&&(c==[]&&true)))))) (br (d==2) (κ (a==0&&(b==0&&(c==[]&&true)))) (br (e==0) (κ (a==0&&(b==0&&(c==[]&&true)))) (κ (false)))))))
def xjb (a b c d:Int) (e f:List UInt8) (g:LA):=xl8 a b c d e f g none some
def xET:EO:=xES.f Tryz.func58 58 0 [] [] lk0 (u1 (xI7 (u7 uI uI uI uI (sEq pStr) (sEq pStr) (uL 7)))) (fun ((a,b,c,d,e,g,h,_),_) _=>xl8 a b c d e g h) (fun _ p=>AV.bool p) false
def xch (a:LA) (i:Int):=(((xiQ a [AV.int .i64 i]).getD []).getD 0 .top).cells
def xlo (a:LA) (i:Int):=xgi ((xch a i).getD 0 .top).toInt ((xch a i).getD 1 .top).toInt ((xch a i).getD 2 .top).toStr
def xl7 {T:Type} (a:LA) (i:Int) (δ:T) (κ:Int×Int×List UInt8->T):T:=br ((xiQ a [AV.int .i64 i]).isSome) (br (decide (0<(↑((xiQ a [AV.int .i64 i]).getD []).length:Int))) (br (decide (0<((xiQ a [AV.int .i64 i]).getD []).length)&&((xch a i).length==3&&xId [Sh.int .i64,Sh.int .i64,Sh.str] (xch a i) 0)) (br ((xlo a i).isSome) (br (!(xlo a i).getD false) (κ (0,0,[])) (κ (((xch a i).getD 0 .top).toInt,((xch a i).getD 1 .top).toInt,((xch a i).getD 2 .top).toStr))) δ) δ) δ) δ
def xhs (a:LA) (i:Int):=xl7 a i none some
def xEU:EO:=xET.f Tryz.func60 17 0 [] [] lk0 (u2 (uL 3) uI) (fun (a,i,_) _=>xl7 a i) (fun _ p=>AV.agg [AV.int .i64 p.1,AV.int .i64 p.2.1,AV.str p.2.2]) (0,0,[])
def xn6 (c a:Int) (e:List UInt8) (d b:Int) (f:List UInt8):Int×Int×Bool:=(br (c==1) ((a,b,d==1)) ((a,b,false)))
def xuK {T:Type} (c a:Int) (e:List UInt8) (d b:Int) (f:List UInt8) (δ:T) (κ:Int×Int×Bool->T):T:=br (c==1) (κ (a,b,d==1)) (κ (a,b,false))
def xEV:EO:=xEU.fT Tryz.func96 19 0 [1000027] [] lk0 (fun ((a,b,c,_),(d,e,f,_),_)=>xuK a b c d e f none) (u2 (xI7 (u3 uI uI (sEq pStr))) (xI7 (u3 uI uI (sEq pStr)))) (fun ((a,b,c,_),(d,e,f,_),_)=>xn6 a b c d e f) (fun _ p=>(AV.tuple [AV.agg [AV.int .i64 p.1,AV.int .i64 p.2.1],AV.bool p.2.2]))
def xoy (a c b d:Int):Int×Bool:=(br (!xaO a c) ((0,false)) (br (!xaO b d) ((0,false)) (br (decide (c<b)) ((0,true)) (br (c==b) ((1,true)) (br (decide (d<a)) ((12,true)) (br (d==a) ((11,true)) (br (a==b&&(c==d&&true)) ((6,true)) (br (a==b) (br (decide (c<d)) ((3,true)) (br (a==b) ((9,true)) (br (c==d) (br (decide (a>b)) ((5,true)) (br (c==d) ((7,true)) (br (decide (a<b)) (br (decide (d<c)) ((8,true)) (br (decide (b<a)) (br (decide (c<d)) ((4,true)) (br (decide (a<b)) ((2,true)) ((10,true)))) (br (decide (a<b)) ((2,true)) ((10,true))))) (br (decide (b<a)) (br (decide (c<d)) ((4,true)) (br (decide (a<b)) ((2,true)) ((10,true)))) (br (decide (a<b)) ((2,true)) ((10,true))))))) (br (c==d) ((7,true)) (br (decide (a<b)) (br (decide (d<c)) ((8,true)) (br (decide (b<a)) (br (decide (c<d)) ((4,true)) (br (decide (a<b)) ((2,true)) ((10,true)))) (br (decide (a<b)) ((2,true)) ((10,true))))) (br (decide (b<a)) (br (decide (c<d)) ((4,true)) (br (decide (a<b)) ((2,true)) ((10,true)))) (br (decide (a<b)) ((2,true)) ((10,true))))))))) (br (a==b) ((9,true)) (br (c==d) (br (decide (a>b)) ((5,true)) (br (c==d) ((7,true)) (br (decide (a<b)) (br (decide (d<c)) ((8,true)) (br (decide (b<a)) (br (decide (c<d)) ((4,true)) (br (decide (a<b)) ((2,true)) ((10,true)))) (br (decide (a<b)) ((2,true)) ((10,true))))) (br (decide (b<a)) (br (decide (c<d)) ((4,true)) (br (decide (a<b)) ((2,true)) ((10,true)))) (br (decide (a<b)) ((2,true)) ((10,true))))))) (br (c==d) ((7,true)) (br (decide (a<b)) (br (decide (d<c)) ((8,true)) (br (decide (b<a)) (br (decide (c<d)) ((4,true)) (br (decide (a<b)) ((2,true)) ((10,true)))) (br (decide (a<b)) ((2,true)) ((10,true))))) (br (decide (b<a)) (br (decide (c<d)) ((4,true)) (br (decide (a<b)) ((2,true)) ((10,true)))) (br (decide (a<b)) ((2,true)) ((10,true))))))))))))))))
def xlR {T:Type} (a c b d:Int) (κ:Int×Bool->T):T:=br (decide (b<a)) (br (decide (c<d)) (κ (4,true)) (br (decide (a<b)) (κ (2,true)) (κ (10,true)))) (br (decide (a<b)) (κ (2,true)) (κ (10,true)))
def xlQ {T:Type} (b a d c:Int) (κ:Int×Bool->T):T:=br (a==c) (κ (7,true)) (br (decide (b<d)) (br (decide (c<a)) (κ (8,true)) (xlR b a d c κ)) (xlR b a d c κ))
def xlS {T:Type} (a b c d:Int) (κ:Int×Bool->T):T:=br (a==c) (κ (9,true)) (br (b==d) (br (decide (a>c)) (κ (5,true)) (xlQ a b c d κ)) (xlQ a b c d κ))
def xrB {T:Type} (a b c d:Int) (δ:T) (κ:Int×Bool->T):T:=br (!xaO a b) (κ (0,false)) (br (!xaO c d) (κ (0,false)) (br (decide (b<c)) (κ (0,true)) (br (b==c) (κ (1,true)) (br (decide (d<a)) (κ (12,true)) (br (d==a) (κ (11,true)) (br (a==c&&(b==d&&true)) (κ (6,true)) (br (a==c) (br (decide (b<d)) (κ (3,true)) (xlS a b c d κ)) (xlS a b c d κ))))))))
def xEW:EO:=xEV.fT Tryz.func97 112 0 [] [] lk0 (fun ((a,b,_),(c,d,_),_)=>xrB a b c d none) (u2 (xI7 (u2 uI uI)) (xI7 (u2 uI uI))) (fun ((a,b,_),(c,d,_),_)=>xoy a b c d) (fun _ p=>(AV.tuple [AV.int .i64 p.1,AV.bool p.2]))
def xhM (l:LA):=xn6 ((l.getD 0 .top).cells.getD 0 .top).toInt ((l.getD 0 .top).cells.getD 1 .top).toInt ((l.getD 0 .top).cells.getD 2 .top).toStr ((l.getD 1 .top).cells.getD 0 .top).toInt ((l.getD 1 .top).cells.getD 1 .top).toInt ((l.getD 1 .top).cells.getD 2 .top).toStr
def xhN (l:LA):=xn6 ((l.getD 2 .top).cells.getD 0 .top).toInt ((l.getD 2 .top).cells.getD 1 .top).toInt ((l.getD 2 .top).cells.getD 2 .top).toStr ((l.getD 3 .top).cells.getD 0 .top).toInt ((l.getD 3 .top).cells.getD 1 .top).toInt ((l.getD 3 .top).cells.getD 2 .top).toStr
def xkt (l:LA):=xoy (xhM l).fst ((xhM l).snd).fst (xhN l).fst ((xhN l).snd).fst
def xhL (a:Int) (l:LA):=xct ((xkt l).fst==a)
def xlq {T:Type} (a:Int) (l:LA) (δ:T) (κ:Int×Int×List UInt8->T):T:=br (decide (0<(↑l.length:Int))) (br (decide (0<l.length)&&((l.getD 0 .top).cells.length==3&&xId [Sh.int .i64,Sh.int .i64,Sh.str] (l.getD 0 .top).cells 0)) (br (decide (1<(↑l.length:Int))) (br (decide (1<l.length)&&((l.getD 1 .top).cells.length==3&&xId [Sh.int .i64,Sh.int .i64,Sh.str] (l.getD 1 .top).cells 0)) (br (decide (2<(↑l.length:Int))) (br (decide (2<l.length)&&((l.getD 2 .top).cells.length==3&&xId [Sh.int .i64,Sh.int .i64,Sh.str] (l.getD 2 .top).cells 0)) (br (decide (3<(↑l.length:Int))) (br (decide (3<l.length)&&((l.getD 3 .top).cells.length==3&&xId [Sh.int .i64,Sh.int .i64,Sh.str] (l.getD 3 .top).cells 0)) (br (!((xhM l).snd).snd) (κ (0,0,[])) (br (!((xhN l).snd).snd) (κ (0,0,[])) (br (!(xkt l).snd) (κ (0,0,[])) (κ ((xhL a l).fst,((xhL a l).snd).fst,((xhL a l).snd).snd))))) δ) δ) δ) δ) δ) δ) δ) δ
def xgG (a:Int) (l:LA):=xlq a l none some
def xu5:EO:=xEW.f Tryz.func63 52 0 [] [] lk0 (u2 uI (uL 3)) (fun (a,l,_) _=>xlq a l) (fun _ p=>AV.agg [AV.int .i64 p.1,AV.int .i64 p.2.1,AV.str p.2.2]) (0,0,[])
def xjL (a:LA) (t b:Int):=xqC t (xdm (gC a b 0).toInt (gC a b 1).toInt (gC a b 2).toStr)
def xhJ {T:Type} (b:LA) (f t a c d:Int) (e:List UInt8) (δ:T) (κl:(Int×Int×Int×Int×List UInt8)->T) (κr:(Int×Int×Int×List UInt8)->T):T:=br (decide (a<f)) (br (ixI b a) (br (ixT b a 3 [Sh.int .i64,Sh.int .i64,Sh.str] 0) (br ((xjL b t a).isSome) (κl ((xjL b t a).getD 0,i64.wrap (a+1),c,d,e)) δ) δ) δ) (κr (t,c,d,e))
def xeg (d:LA) (e:Int):StT (Int×Int×Int×Int×List UInt8) (Int×Int×Int×List UInt8):=fun (t,f,a,b,c)=>xhJ d e t f a b c none inL inR
def xjK:=xu5.l 48 0 [] [] Tryz.f61 0 lk0 [4,5,35,36,37] [4,5] [] (q5 (xI3 0 0 0 0) qI (qL 3) qI qI) (q1 (qB 0 3 27 (q1 (xI4 (q3 qI qI pStr))))) (fun (_,t,d,e,f,_) (((a,b,c,_),_),_)=>(xeg d e,(t,f,a,b,c),fun p=>(.leaf (.exit 3) [AV.own 0 0 0 0,AV.int .i64 p.1] [bF 0 3 27 [AV.agg [AV.int .i64 p.2.1,AV.int .i64 p.2.2.1,AV.str p.2.2.2]]]))) (0,0,0,[]) fun (_,_,d,e,_,_) _ (t,f,a,b,c)=>((((),t,d,e,f,()),(((a,b,c,()),()),())),xhJ d e t f a b c none)
def xjM (a:LA) (t b:Int):=xsa t (xdm (gC a b 0).toInt (gC a b 1).toInt (gC a b 2).toStr)
def xhK {T:Type} (b:LA) (f t a c d:Int) (e:List UInt8) (δ:T) (κl:(Int×Int×Int×Int×List UInt8)->T) (κr:(Int×Int×Int×List UInt8)->T):T:=br (decide (a<f)) (br (ixI b a) (br (ixT b a 3 [Sh.int .i64,Sh.int .i64,Sh.str] 0) (br ((xjM b t a).isSome) (κl ((xjM b t a).getD 0,i64.wrap (a+1),c,d,e)) δ) δ) δ) (κr (t,c,d,e))
def xeh (d:LA) (e:Int):StT (Int×Int×Int×Int×List UInt8) (Int×Int×Int×List UInt8):=fun (t,f,a,b,c)=>xhK d e t f a b c none inL inR
def xm2:=xu5.l 48 0 [] [(12,xjK.lp)] Tryz.f61 1 lk0 [4,5,16,17,18] [4,5] [] (q5 (xI3 0 0 0 0) qI (qL 3) qI qI) (q1 (qB 0 3 27 (q1 (xI4 (q3 qI qI pStr))))) (fun (_,t,d,e,f,_) (((a,b,c,_),_),_)=>(xeh d e,(t,f,a,b,c),fun p=>(.leaf (.exit 1) [AV.own 0 0 0 0,AV.int .i64 p.1] [bF 0 3 27 [AV.agg [AV.int .i64 p.2.1,AV.int .i64 p.2.2.1,AV.str p.2.2.2]]]))) (0,0,0,[]) fun (_,_,d,e,_,_) _ (t,f,a,b,c)=>((((),t,d,e,f,()),(((a,b,c,()),()),())),xhK d e t f a b c none)
def xjv (l:LA):=xdm ((l.getD 0 .top).cells.getD 0 .top).toInt ((l.getD 0 .top).cells.getD 1 .top).toInt ((l.getD 0 .top).cells.getD 2 .top).toStr
def xl9 (l:LA):=Iter (xeh (List.take (l.length - 1) (List.drop 1 l)) (↑(List.take (l.length - 1) (List.drop 1 l)).length:Int)) (xjv l,0,0,0,[])
def xma (l:LA):=Iter (xeg (List.take (l.length - 1) (List.drop 1 l)) (↑(List.take (l.length - 1) (List.drop 1 l)).length:Int)) (xjv l,0,0,0,[])
def xju (l:LA):=xjT (xca (xjv l))
def xjs (l:LA):=xjT ((xl9 l).getD (0,0,0,[])).fst
def xjt (l:LA):=xjT ((xma l).getD (0,0,0,[])).fst
def xm3 {T:Type} (a:Int) (l:LA) (δ:T) (κ:Int×Int×List UInt8->T):T:=br (decide (0<(↑l.length:Int))) (br (decide (0<l.length)&&((l.getD 0 .top).cells.length==3&&xId [Sh.int .i64,Sh.int .i64,Sh.str] (l.getD 0 .top).cells 0)) (br (a==4) (κ ((xju l).fst,((xju l).snd).fst,((xju l).snd).snd)) (br (a==5) (br (decide (1<=(↑l.length:Int))) (br ((xma l).isSome) (κ ((xjt l).fst,((xjt l).snd).fst,((xjt l).snd).snd)) δ) δ) (br (decide (1<=(↑l.length:Int))) (br ((xl9 l).isSome) (κ ((xjs l).fst,((xjs l).snd).fst,((xjs l).snd).snd)) δ) δ))) δ) δ
def xkq (a:Int) (l:LA):=xm3 a l none some
def xEX:EO:=xu5.f Tryz.func61 48 0 [] [(12,xjK.lp),(4,xm2.lp)] (lks (lkC xjK.ok (lkC xm2.ok lkN))) (u2 uI (uL 3)) (fun (a,l,_) _=>xm3 a l) (fun _ p=>AV.agg [AV.int .i64 p.1,AV.int .i64 p.2.1,AV.str p.2.2]) (0,0,[])
def xnM (g a b:Int) (c:List UInt8) (d e:Int) (f:List UInt8):Int:=(br (g==7) ((xjl a b c d e f)) (br (g==8) ((xca (xjl a b c d e f))) (br (g==9) ((xe8 a b c d e f)) (br (g==11) ((xe8 d e f a b c)) (br (g==10) ((xca (xe8 d e f a b c))) ((xca (xe8 a b c d e f))))))))
def xqV {T:Type} (g a b:Int) (c:List UInt8) (d e:Int) (f:List UInt8) (δ:T) (κ:Int->T):T:=br (g==7) (κ (xjl a b c d e f)) (br (g==8) (κ (xca (xjl a b c d e f))) (br (g==9) (κ (xe8 a b c d e f)) (br (g==11) (κ (xe8 d e f a b c)) (br (g==10) (κ (xca (xe8 d e f a b c))) (κ (xca (xe8 a b c d e f)))))))
def xw5:EO:=xEX.fT Tryz.func67 39 0 [] [] lk0 (fun (g,(a,b,c,_),(d,e,f,_),_)=>xqV g a b c d e f none) (u3 uI (xI7 (u3 uI uI (sEq pStr))) (xI7 (u3 uI uI (sEq pStr)))) (fun (g,(a,b,c,_),(d,e,f,_),_)=>xnM g a b c d e f) (fun _ p=>(AV.int .i64 p))
def xiB {T:Type} (h:Int) (b:LA) (g n:Int) (f:List UInt8) (a c d:Int) (e:List UInt8) (δ:T) (κl:(Int×List UInt8×Int×Int×Int×List UInt8)->T) (κr:(Bool×(Int×List UInt8×Int×Int×List UInt8)×(Int×List UInt8×Int×Int×List UInt8))->T):T:=br (decide (a<g)) (br (ixI b a) (br (ixT b a 3 [Sh.int .i64,Sh.int .i64,Sh.str] 0) (br ((gC b a 0).toInt != 2) (κr (true,(n,f,0,0,[]),(0,[],0,0,[]))) (br (decide (f.length+(gC b a 2).toStr.length<=4611686018427387904)) (κl (i64.wrap (n+(↑(gC b a 2).toStr.length:Int)),f++(gC b a 2).toStr,i64.wrap (a+1),c,d,e)) δ)) δ) δ) (κr (false,(0,[],0,0,[]),(n,f,c,d,e)))
def xeS (f:Int) (g:LA) (d:Int):StT (Int×List UInt8×Int×Int×Int×List UInt8) (Bool×(Int×List UInt8×Int×Int×List UInt8)×(Int×List UInt8×Int×Int×List UInt8)):=fun (n,h,e,a,b,c)=>xiB f g d n h e a b c none inL inR
def xnN:=xw5.l 35 0 [] [] Tryz.f64 0 lk0 [0,4,5,6,9,10,11] [0,4,5,6] [] (q7 qI (xI3 0 0 0 0) qI pStr (qL 3) qI qI) (q1 (qB 0 3 27 (q1 (xI4 (q3 qI qI pStr))))) (fun (f,_,n,g,h,d,e,_) (((a,b,c,_),_),_)=>(xeS f h d,(n,g,e,a,b,c),fun p=>(.node p.1 (.leaf .ret [AV.int .i64 f,AV.own 0 0 0 0,AV.int .i64 p.2.1.1,AV.str p.2.1.2.1] [bF 0 3 27 [AV.agg [AV.int .i64 p.2.1.2.2.1,AV.int .i64 p.2.1.2.2.2.1,AV.str p.2.1.2.2.2.2]]]) (.leaf (.exit 0) [AV.int .i64 f,AV.own 0 0 0 0,AV.int .i64 p.2.2.1,AV.str p.2.2.2.1] [bF 0 3 27 [AV.agg [AV.int .i64 p.2.2.2.2.1,AV.int .i64 p.2.2.2.2.2.1,AV.str p.2.2.2.2.2.2]]])))) (false,(0,[],0,0,[]),(0,[],0,0,[])) fun (f,_,_,_,h,d,_,_) _ (n,g,e,a,b,c)=>(((f,(),n,g,h,d,e,()),(((a,b,c,()),()),())),xiB f h d n g e a b c none)
def xmb (a:Int) (l:LA):=Iter (xeS a l (↑l.length:Int)) (0,[],0,0,0,[])
def xcS (a:Int) (l:LA):=(xmb a l).getD (false,(0,[],0,0,[]),0,[],0,0,[])
def xku (a:Int) (l:LA):=(xmP (((xcS a l).snd).snd).snd.fst).getD (0,0,[])
def xkv (a:Int) (l:LA):=(xaQ (((xcS a l).snd).snd).fst).getD (0,0,[])
def xn7 {T:Type} (a:Int) (l:LA) (δ:T) (κ:Int×Int×List UInt8->T):T:=br ((xmb a l).isSome) (br ((xcS a l).fst) (κ ((((xcS a l).snd).fst.snd.snd).fst,((((xcS a l).snd).fst.snd.snd).snd).fst,((((xcS a l).snd).fst.snd.snd).snd).snd)) (br (a==20) (br ((xaQ (((xcS a l).snd).snd).fst).isSome) (κ ((xkv a l).fst,((xkv a l).snd).fst,((xkv a l).snd).snd)) δ) (br ((xmP (((xcS a l).snd).snd).snd.fst).isSome) (κ ((xku a l).fst,((xku a l).snd).fst,((xku a l).snd).snd)) δ))) δ
def xlY (a:Int) (l:LA):=xn7 a l none some
def xDm:EO:=xw5.f Tryz.func64 35 0 [] [(3,xnN.lp)] (lk1 xnN.ok) (u2 uI (uL 3)) (fun (a,l,_) _=>xn7 a l) (fun _ p=>AV.agg [AV.int .i64 p.1,AV.int .i64 p.2.1,AV.str p.2.2]) (0,0,[])
def xkr (a:Int):Int:=if i64.wrap (0 - a)>a then i64.wrap (0 - a) else a
def xks (a b:Int):=((xaQ (i64.wrap (a*b))).getD (0,0,[])).snd
def xjN {T:Type} (a b:Int) (δ:T) (κ:Int×Int×List UInt8->T):T:=br ((xaQ (i64.wrap (a*b))).isSome) (κ (((xaQ (i64.wrap (a*b))).getD (0,0,[])).fst,(xks a b).fst,(xks a b).snd)) δ
def xlp {T:Type} (a b:Int) (δ:T) (κ:Int×Int×List UInt8->T):T:=br (a != 0) (br (!xkr a==0) (br (decide ((if i64.wrap (0 - b)>b then i64.wrap (0 - b) else b)>i64.wrap (Int.tdiv 1125899906842624 (xkr a)))) (κ (0,0,[])) (xjN a b δ κ)) δ) (xjN a b δ κ)
def xgF (a b:Int):=xlp a b none some
def xw6:EO:=xDm.f Tryz.func100 24 0 [] [] lk0 (u2 uI uI) (fun (a,b,_) _=>xlp a b) (fun _ p=>AV.agg [AV.int .i64 p.1,AV.int .i64 p.2.1,AV.str p.2.2]) (0,0,[])
def xe0 {T:Type} (g:Int) (l e:LA) (f a b c:Int) (d:List UInt8) (δ:T) (κl:(Int×Int×Int×List UInt8)->T) (κr:(Bool×(Int×Int×List UInt8)×(Int×Int×List UInt8))->T):T:=br (decide (a<f)) (br (ixI e a) (br (ixT e a 3 [Sh.int .i64,Sh.int .i64,Sh.str] 0) (br ((gC e a 0).toInt != 1) (κr (true,(0,0,[]),(0,0,[]))) (κl (i64.wrap (a+1),b,c,d))) δ) δ) (κr (false,(0,0,[]),(b,c,d)))
def xcv (f:Int) (l g:LA) (d:Int):StT (Int×Int×Int×List UInt8) (Bool×(Int×Int×List UInt8)×(Int×Int×List UInt8)):=fun (e,a,b,c)=>xe0 f l g d e a b c none inL inR
def xjW:=xw6.l 67 0 [] [] Tryz.f65 0 lk0 [0,1,4,9,10,11] [0,1,4] [] (q6 qI (qL 3) (xI3 0 0 0 0) (qL 3) qI qI) (q1 (qB 0 3 27 (q1 (xI4 (q3 qI qI pStr))))) (fun (f,l,_,g,d,e,_) (((a,b,c,_),_),_)=>(xcv f l g d,(e,a,b,c),fun p=>(.node p.1 (.leaf .ret [AV.int .i64 f,AV.list 3 l,AV.own 0 0 0 0] [bF 0 3 27 [AV.agg [AV.int .i64 p.2.1.1,AV.int .i64 p.2.1.2.1,AV.str p.2.1.2.2]]]) (.leaf (.exit 0) [AV.int .i64 f,AV.list 3 l,AV.own 0 0 0 0] [bF 0 3 27 [AV.agg [AV.int .i64 p.2.2.1,AV.int .i64 p.2.2.2.1,AV.str p.2.2.2.2]]])))) (false,(0,0,[]),(0,0,[])) fun (f,l,_,g,d,_,_) _ (e,a,b,c)=>(((f,l,(),g,d,e,()),(((a,b,c,()),()),())),xe0 f l g d e a b c none)
def xae (l:LA):=((l.getD (i64.wrap ((↑l.length:Int) - 1)).toNat .top).cells.getD 1 .top).toInt
def xag (l:LA):=((l.getD 0 .top).cells.getD 1 .top).toInt
def xh8 (a:Int) (l:LA):=Iter (xcv a l l (↑l.length:Int)) (0,0,0,[])
def xef (a:Int) (l:LA):=(xh8 a l).getD (false,(0,0,[]),0,0,[])
def xh9 (l:LA):=((xaQ (i64.wrap (xag l+xae l))).getD (0,0,[])).snd
def xia (l:LA):=((xaQ (i64.wrap (xag l - xae l))).getD (0,0,[])).snd
def xfT (l:LA):=(xaQ (i64.wrap (0 - xag l))).getD (0,0,[])
def xiR {T:Type} (a:Int) (l:LA) (δ:T) (κ:Int×Int×List UInt8->T):T:=br ((xh8 a l).isSome) (br ((xef a l).fst) (κ (((xef a l).snd.fst).fst,(((xef a l).snd.fst).snd).fst,(((xef a l).snd.fst).snd).snd)) (br (decide (0<(↑l.length:Int))) (br (decide (0<l.length)&&xH6 (Sh.int .i64) ((l.getD 0 .top).cells.getD 1 .top)) (br (decide (0<=i64.wrap ((↑l.length:Int) - 1))&&decide (i64.wrap ((↑l.length:Int) - 1)<(↑l.length:Int))) (br (decide ((i64.wrap ((↑l.length:Int) - 1)).toNat<l.length)&&xH6 (Sh.int .i64) ((l.getD (i64.wrap ((↑l.length:Int) - 1)).toNat .top).cells.getD 1 .top)) (br (a==13) (br ((xaQ (i64.wrap (xag l+xae l))).isSome) (κ (((xaQ (i64.wrap (xag l+xae l))).getD (0,0,[])).fst,(xh9 l).fst,(xh9 l).snd)) δ) (br (a==14) (br ((xaQ (i64.wrap (xag l - xae l))).isSome) (κ (((xaQ (i64.wrap (xag l - xae l))).getD (0,0,[])).fst,(xia l).fst,(xia l).snd)) δ) (br (a==15) (br ((xgF (xag l) (xae l)).isSome) (κ (((xgF (xag l) (xae l)).getD (0,0,[])).fst,((xgF (xag l) (xae l)).getD (0,0,[])).snd.fst,((xgF (xag l) (xae l)).getD (0,0,[])).snd.snd)) δ) (br (a==18) (br ((xaQ (i64.wrap (0 - xag l))).isSome) (κ ((xfT l).fst,((xfT l).snd).fst,((xfT l).snd).snd)) δ) (br (xae l==0) (κ (0,0,[])) (br (a==16) (br (!xae l==0) (br ((xaQ (i64.wrap ((xag l).tdiv (xae l)))).isSome) (κ (((xaQ (i64.wrap ((xag l).tdiv (xae l)))).getD (0,0,[])).fst,((xaQ (i64.wrap ((xag l).tdiv (xae l)))).getD (0,0,[])).snd.fst,((xaQ (i64.wrap ((xag l).tdiv (xae l)))).getD (0,0,[])).snd.snd)) δ) δ) (br (!xae l==0) (br ((xaQ ((xag l).tmod (xae l))).isSome) (κ (((xaQ ((xag l).tmod (xae l))).getD (0,0,[])).fst,((xaQ ((xag l).tmod (xae l))).getD (0,0,[])).snd.fst,((xaQ ((xag l).tmod (xae l))).getD (0,0,[])).snd.snd)) δ) δ))))))) δ) δ) δ) δ)) δ
def xfS (a:Int) (l:LA):=xiR a l none some
def xhr:EO:=xw6.f Tryz.func65 67 0 [] [(2,xjW.lp)] (lk1 xjW.ok) (u2 uI (uL 3)) (fun (a,l,_) _=>xiR a l) (fun _ p=>AV.agg [AV.int .i64 p.1,AV.int .i64 p.2.1,AV.str p.2.2]) (0,0,[])
def xc5 (R:Int->Int->Int->Int->List UInt8->List UInt8->LA->LA->Option (Int×Int×List UInt8)):LA->Option (Bool×AV):=ocOf (xIS (xI7 (xIS (sEq (pInt .i64)) (xIS (sEq (pInt .i64)) (xIS (sEq (pInt .i64)) (xIS (sEq (pInt .i64)) (xIS (sEq pStr) (xIS (sEq pStr) (xIS (xI6 7 xIV) xIU)))))))) (xIS (xI6 3 xIV) xIU)) fun ((b,(c,(d,(e,(f,(g,(h,_))))))),(a,_))=>((R b c d e f g h a).isSome,AV.agg [AV.int .i64 (((R b c d e f g h a).getD (0,0,[]))).1,AV.int .i64 (((R b c d e f g h a).getD (0,0,[]))).2.1,AV.str (((R b c d e f g h a).getD (0,0,[]))).2.2])
def xqU (k:Go.FuncId) (R:Nat->Int->Int->Int->Int->List UInt8->List UInt8->LA->LA->Option (Int×Int×List UInt8)) (j:∀ n,OcOk P0 xIQ k (xc5 (R n))):OcOk P0 xIQ k (xc5 (fun b c d e f g i a=>limN fun n=>R n b c d e f g i a)):=xo6 j fun v h=>by
 obtain ⟨⟨b,⟨c,⟨d,⟨e,⟨f,⟨g,⟨i,_⟩⟩⟩⟩⟩⟩⟩,⟨a,_⟩⟩:=v;obtain ⟨n,l⟩:=xjx (R:=fun n=>R n b c d e f g i a) h
 exact ⟨n,congrArg (fun o=>(Option.isSome o,(AV.agg [AV.int .i64 ((Option.getD o (0,0,[]))).1,AV.int .i64 ((Option.getD o (0,0,[]))).2.1,AV.str ((Option.getD o (0,0,[]))).2.2]:AV))) l⟩
def xcC (R:Int->Int->Int->Int->List UInt8->List UInt8->LA->LA->Option (Int×Int×List UInt8)):Prop:=OcOk P0 xIQ 39 (xc5 R)
def xfL (R:Int->Int->Int->Int->List UInt8->List UInt8->LA->LA->Option (Int×Int×List UInt8)):Env:=(xhr.E.with 39 (xc5 R)).fn 9 0 (lsOf []) (xIu [])
abbrev xjJ (R:Int->Int->Int->Int->List UInt8->List UInt8->LA->LA->Option (Int×Int×List UInt8)):Prop:=xcC R
def xrI (R:Int->Int->Int->Int->List UInt8->List UInt8->LA->LA->Option (Int×Int×List UInt8)) (a:xjJ R):xH8 P0 (xIQ.at 0) (xfL R):=(xhr.ok.with a).fn
def xp7 (R:Int->Int->Int->Int->List UInt8->List UInt8->LA->LA->Option (Int×Int×List UInt8)) (a:xjJ R):LoOk P0 (xIQ.at (xfL R).pin) (xfL R) (Tryz.f45.body.getD .skip):=xdY (by kernel_rfl)
def xkp {T:Type} (R:Int->Int->Int->Int->List UInt8->List UInt8->LA->LA->Option (Int×Int×List UInt8)) (b c d e:Int) (f g:List UInt8) (h a:LA) (δ:T) (κ:Int->T):T:=br ((R b c d e f g h a).isSome) (κ (xdm ((R b c d e f g h a).getD (0,0,[])).fst ((R b c d e f g h a).getD (0,0,[])).snd.fst ((R b c d e f g h a).getD (0,0,[])).snd.snd)) δ
def xiA (R:Int->Int->Int->Int->List UInt8->List UInt8->LA->LA->Option (Int×Int×List UInt8)) (b c d e:Int) (f g:List UInt8) (h a:LA):=xkp R b c d e f g h a none some
def xvv (R:Int->Int->Int->Int->List UInt8->List UInt8->LA->LA->Option (Int×Int×List UInt8)) (b c d e:Int) (f g:List UInt8) (i a:LA):Enc (fun (p:Int)=>((AV.int .i64 p):AV)) (xiA R b c d e f g i a) (XF P0 (xfL R) Tryz.f45 (Tryz.f45.body.getD .skip) [AV.agg [AV.int .i64 b,AV.int .i64 c,AV.int .i64 d,AV.int .i64 e,AV.str f,AV.str g,AV.list 7 i],AV.list 3 a]):=by
 have h:XF P0 (xfL R) Tryz.f45 (Tryz.f45.body.getD .skip) [AV.agg [AV.int .i64 b,AV.int .i64 c,AV.int .i64 d,AV.int .i64 e,AV.str f,AV.str g,AV.list 7 i],AV.list 3 a]=xkp R b c d e f g i a none (fun (p:Int)=>some ((AV.int .i64 p):AV)):=by kernel_rfl
 rw [h];unfold xiA xkp;repeat' (first|refine Enc.br ?_ ?_|exact Enc.none|exact Enc.some rfl)
def xko (R:Int->Int->Int->Int->List UInt8->List UInt8->LA->LA->Option (Int×Int×List UInt8)):LA->Option (Bool×AV):=ocOf (xIS (xI7 (xIS (sEq (pInt .i64)) (xIS (sEq (pInt .i64)) (xIS (sEq (pInt .i64)) (xIS (sEq (pInt .i64)) (xIS (sEq pStr) (xIS (sEq pStr) (xIS (xI6 7 xIV) xIU)))))))) (xIS (xI6 3 xIV) xIU)) fun ((b,(c,(d,(e,(f,(g,(h,_))))))),(a,_))=>((xiA R b c d e f g h a).isSome,(AV.int .i64 ((xiA R b c d e f g h a).getD 0)))
def xm1 (R:Int->Int->Int->Int->List UInt8->List UInt8->LA->LA->Option (Int×Int×List UInt8)) (a:xjJ R):OcOk P0 xIQ 45 (xko R):=xdB fun e h f=>by
 obtain ⟨⟨i,⟨j,⟨k,⟨l,⟨m,⟨n,⟨o,_⟩⟩⟩⟩⟩⟩⟩,⟨g,_⟩⟩:=e;obtain ⟨b,c⟩:=Prod.mk.inj f;refine xfp (p:=(xfL R).pin) (xhu xIh (xIi P0 _) rfl (xrI R a) Tryz.func45 rfl (by kernel_rfl) (xp7 R a) ((xvv R _ _ _ _ _ _ _ _ _ (xaE (d:=0) b)).trans ?_))
 exact congrArg some c
def xgA (R:Int->Int->Int->Int->List UInt8->List UInt8->LA->LA->Option (Int×Int×List UInt8)):Env:=((xhr.E.with 39 (xc5 R)).with 45 (xko R)).fn 132 0 (lsOf [7000000,1000030]) (xIu [])
abbrev xkk (R:Int->Int->Int->Int->List UInt8->List UInt8->LA->LA->Option (Int×Int×List UInt8)):Prop:=xcC R
def xsp (R:Int->Int->Int->Int->List UInt8->List UInt8->LA->LA->Option (Int×Int×List UInt8)) (a:xkk R):xH8 P0 (xIQ.at 0) (xgA R):=((xhr.ok.with a).with (xm1 R a)).fn
def xpK (R:Int->Int->Int->Int->List UInt8->List UInt8->LA->LA->Option (Int×Int×List UInt8)) (a:xkk R):LoOk P0 (xIQ.at (xgA R).pin) (xgA R) (xIc Tryz.f39 0):=xdY (by kernel_rfl)
def xkm (R:Int->Int->Int->Int->List UInt8->List UInt8->LA->LA->Option (Int×Int×List UInt8)) (c a:LA) (b:Int):Option (Int×Int×List UInt8):=R (gC a b 0).toInt (gC a b 1).toInt (gC a b 2).toInt (gC a b 3).toInt (gC a b 4).toStr (gC a b 5).toStr (gC a b 6).toList c
def xhI (R:Int->Int->Int->Int->List UInt8->List UInt8->LA->LA->Option (Int×Int×List UInt8)) (a b:LA) (c:Int):Int×Int×List UInt8:=(xkm R a b c).getD (0,0,[])
def xgC {T:Type} (R:Int->Int->Int->Int->List UInt8->List UInt8->LA->LA->Option (Int×Int×List UInt8)) (d:LA) (j k l m:Int) (n o:List UInt8) (p:LA) (h:Nat) (b:LA) (i a e f:Int) (g:List UInt8) (c:LA) (δ:T) (κl:(Int×Int×Int×List UInt8×LA)->T) (κr:(Int×Int×List UInt8×LA)->T):T:=br (decide (a<i)) (br (ixI b a) (br (ixT b a 7 [Sh.int .i64,Sh.int .i64,Sh.int .i64,Sh.int .i64,Sh.str,Sh.str,Sh.list 7] 0) (br ((xkm R d b a).isSome) (br (decide (0<=a)&&decide (a<(↑h:Int))) (br (decide (0+a.toNat<c.length)) (κl (i64.wrap (a+1),e,f,g,c.set (0+a.toNat) (AV.agg [AV.int .i64 (xhI R d b a).fst,AV.int .i64 ((xhI R d b a).snd).fst,AV.str ((xhI R d b a).snd).snd]))) δ) δ) δ) δ) δ) (κr (e,f,g,c))
def xbR (R:Int->Int->Int->Int->List UInt8->List UInt8->LA->LA->Option (Int×Int×List UInt8)) (e:LA) (f g h i:Int) (j k:List UInt8) (l:LA) (m:Nat) (n:LA) (o:Int):StT (Int×Int×Int×List UInt8×LA) (Int×Int×List UInt8×LA):=fun (p,a,b,c,d)=>xgC R e f g h i j k l m n o p a b c d none inL inR
def xc3 (R:Int->Int->Int->Int->List UInt8->List UInt8->LA->LA->Option (Int×Int×List UInt8)) (e:LA) (f g h i:Int) (j k:List UInt8) (l:LA) (m:Nat) (n:LA) (o:Int):(Int×Int×Int×List UInt8×LA)->LA×List Box:=fun (p,a,b,c,d)=>([AV.list 3 e,AV.eptr 7 [AV.agg [AV.int .i64 f,AV.int .i64 g,AV.int .i64 h,AV.int .i64 i,AV.str j,AV.str k,AV.list 7 l]] 0 0,AV.own 0 0 0 0,AV.osl 1 0 0 m,AV.list 7 n,AV.int .i64 o,AV.int .i64 p],[⟨0,3,27,[AV.agg [AV.int .i64 a,AV.int .i64 b,AV.str c]],false,true⟩,⟨0,3,27,d,false,true⟩])
def xdT (R:Int->Int->Int->Int->List UInt8->List UInt8->LA->LA->Option (Int×Int×List UInt8)) (i:LA) (a b c d:Int) (e f:List UInt8) (g:LA) (h:Nat) (j:LA) (k:Int):(Int×Int×List UInt8×LA)->LR:=fun p=>(.leaf (.exit 1) [AV.eptr 7 [AV.agg [AV.int .i64 a,AV.int .i64 b,AV.int .i64 c,AV.int .i64 d,AV.str e,AV.str f,AV.list 7 g]] 0 0,AV.own 0 0 0 0,AV.osl 1 0 0 h] [⟨0,3,27,[AV.agg [AV.int .i64 p.1,AV.int .i64 p.2.1,AV.str p.2.2.1]],false,true⟩,⟨0,3,27,p.2.2.2,false,true⟩])
abbrev xoE (R:Int->Int->Int->Int->List UInt8->List UInt8->LA->LA->Option (Int×Int×List UInt8)) (a:LA) (H:List Box):=XR P0 (xgA R) [1,2,4,5,52,53,54] [2,4,5] [] (xIc Tryz.f39 0) a H
def xtj (R:Int->Int->Int->Int->List UInt8->List UInt8->LA->LA->Option (Int×Int×List UInt8)) (a:LA) (b c d e:Int) (f g:List UInt8) (i:LA) (j:Nat) (k:LA) (l:Int) (s:Int×Int×Int×List UInt8×LA):Enc (encR (xc3 R a b c d e f g i j k l) (xdT R a b c d e f g i j k l)) (xbR R a b c d e f g i j k l s) (xoE R (xc3 R a b c d e f g i j k l s).1 (xc3 R a b c d e f g i j k l s).2):=by
 obtain ⟨r,m,n,o,q⟩:=s;have h:xoE R (xc3 R a b c d e f g i j k l (r,m,n,o,q)).1 (xc3 R a b c d e f g i j k l (r,m,n,o,q)).2=xgC R a b c d e f g i j k l r m n o q none (fun s=>some (encR (xc3 R a b c d e f g i j k l) (xdT R a b c d e f g i j k l) (.inl s))) (fun p=>some (encR (xc3 R a b c d e f g i j k l) (xdT R a b c d e f g i j k l) (.inr p))):=by kernel_rfl
 rw [h];unfold xbR xgC;repeat' (first|refine Enc.br ?_ ?_|exact Enc.none|exact Enc.some rfl)
def xhH (R:Int->Int->Int->Int->List UInt8->List UInt8->LA->LA->Option (Int×Int×List UInt8)):Lp:=lpOf [1,2,4,5,52,53,54] [2,4,5] [] (xIR (xI8 3 xIV) (xIR (xI9 7 0 0 (xIR (xI4 (xIR (pInt .i64) (xIR (pInt .i64) (xIR (pInt .i64) (xIR (pInt .i64) (xIR pStr (xIR pStr (xIR (xI8 7 xIV) xIT)))))))) xIT)) (xIR (xI3 0 0 0 0) (xIR (xI2 1 0 0) (xIR (xI8 7 xIV) (xIR (pInt .i64) (xIR (pInt .i64) xIT))))))) (xIR (xI5 0 3 27 false true (xIR (xI4 (xIR (pInt .i64) (xIR (pInt .i64) (xIR pStr xIT)))) xIT)) (xIR (xI5 0 3 27 false true xIV) xIT)) fun (a,(((b,(c,(d,(e,(f,(g,(h,_))))))),_),(_,(i,(j,(k,(p,_))))))) (((l,(m,(n,_))),_),(o,_))=>((Iter (xbR R a b c d e f g h i j k) (p,l,m,n,o)).isSome,xdT R a b c d e f g h i j k ((Iter (xbR R a b c d e f g h i j k) (p,l,m,n,o)).getD (0,0,[],[])))
def xrG (R:Int->Int->Int->Int->List UInt8->List UInt8->LA->LA->Option (Int×Int×List UInt8)) (q:xkk R):LoopOk P0 (xIQ.at (xgA R).pin) (xgA R).nt (xIc Tryz.f39 0) (xhH R):=xm8 fun u v x w=>by
 obtain ⟨a,⟨⟨⟨b,⟨c,⟨d,⟨e,⟨f,⟨g,⟨h,_⟩⟩⟩⟩⟩⟩⟩,_⟩,⟨_,⟨i,⟨j,⟨k,⟨r,_⟩⟩⟩⟩⟩⟩⟩:=u;obtain ⟨⟨⟨l,⟨m,⟨n,_⟩⟩⟩,_⟩,⟨o,_⟩⟩:=v;obtain ⟨t,rfl⟩:=Prod.mk.inj w;exact xg4 xIh (xIi P0 _) rfl (xsp R q) (xpK R q) (xc3 R a b c d e f g h i j k) (xdT R a b c d e f g h i j k) (fun p=>by simp only [xdT,LR.eval];first|(simp;done)|(repeat' split<;>simp)) (xtj R a b c d e f g h i j k) (s:=(r,l,m,n,o)) (xaE t)
def xgB (R:Int->Int->Int->Int->List UInt8->List UInt8->LA->LA->Option (Int×Int×List UInt8)):Env:=((xhr.E.with 39 (xc5 R)).with 45 (xko R)).fn 132 0 (lsOf [7000000,1000030]) (xIu [(14,xhH R)])
abbrev xkl (R:Int->Int->Int->Int->List UInt8->List UInt8->LA->LA->Option (Int×Int×List UInt8)):Prop:=xcC R
def xsq (R:Int->Int->Int->Int->List UInt8->List UInt8->LA->LA->Option (Int×Int×List UInt8)) (a:xkl R):xH8 P0 (xIQ.at 0) (xgB R):=((xhr.ok.with a).with (xm1 R a)).fn
def xpL (R:Int->Int->Int->Int->List UInt8->List UInt8->LA->LA->Option (Int×Int×List UInt8)) (a:xkl R):LoOk P0 (xIQ.at (xgB R).pin) (xgB R) (xIc Tryz.f39 1):=xdY (by kernel_rfl)
def xdr (b:Int) (a:LA):=(a.getD (0+b.toNat) .top).cells
def xgD {T:Type} (R:Int->Int->Int->Int->List UInt8->List UInt8->LA->LA->Option (Int×Int×List UInt8)) (f:Nat) (g b c d:Int) (e:List UInt8) (a:LA) (δ:T) (κl:(Int×Int×Int×List UInt8×LA)->T) (κr:(Bool×(Int×Int×List UInt8)×(Int×Int×List UInt8))->T):T:=br (decide (b<g)) (br (decide (0<=b)&&decide (b<(↑f:Int))) (br (decide (0+b.toNat<a.length)&&((xdr b a).length==3&&xId [Sh.int .i64,Sh.int .i64,Sh.str] (xdr b a) 0)) (br (((xdr b a).getD 0 .top).toInt != 0) (κr (true,(((xdr b a).getD 0 .top).toInt,((xdr b a).getD 1 .top).toInt,((xdr b a).getD 2 .top).toStr),(0,0,[]))) (κl (i64.wrap (b+1),c,d,e,a))) δ) δ) (κr (false,(0,0,[]),(c,d,e)))
def xbS (R:Int->Int->Int->Int->List UInt8->List UInt8->LA->LA->Option (Int×Int×List UInt8)) (b:Nat) (f:Int):StT (Int×Int×Int×List UInt8×LA) (Bool×(Int×Int×List UInt8)×(Int×Int×List UInt8)):=fun (g,c,d,e,a)=>xgD R b f g c d e a none inL inR
def xc4 (R:Int->Int->Int->Int->List UInt8->List UInt8->LA->LA->Option (Int×Int×List UInt8)) (b:Nat) (f:Int):(Int×Int×Int×List UInt8×LA)->LA×List Box:=fun (g,c,d,e,a)=>([AV.own 0 0 0 0,AV.osl 1 0 0 b,AV.int .i64 f,AV.int .i64 g],[⟨0,3,27,[AV.agg [AV.int .i64 c,AV.int .i64 d,AV.str e]],false,true⟩,⟨0,3,27,a,false,true⟩])
def xdU (R:Int->Int->Int->Int->List UInt8->List UInt8->LA->LA->Option (Int×Int×List UInt8)) (a:Nat) (b:Int):(Bool×(Int×Int×List UInt8)×(Int×Int×List UInt8))->LR:=fun p=>(.node p.1 (.leaf .ret [AV.own 0 0 0 0] [⟨0,3,27,[AV.agg [AV.int .i64 p.2.1.1,AV.int .i64 p.2.1.2.1,AV.str p.2.1.2.2]],false,true⟩]) (.leaf (.exit 4) [AV.own 0 0 0 0] [⟨0,3,27,[AV.agg [AV.int .i64 p.2.2.1,AV.int .i64 p.2.2.2.1,AV.str p.2.2.2.2]],false,true⟩]))
abbrev xoF (R:Int->Int->Int->Int->List UInt8->List UInt8->LA->LA->Option (Int×Int×List UInt8)) (a:LA) (H:List Box):=XR P0 (xgB R) [4,86,87,88] [4] [] (xIc Tryz.f39 1) a H
def xtk (R:Int->Int->Int->Int->List UInt8->List UInt8->LA->LA->Option (Int×Int×List UInt8)) (a:Nat) (b:Int) (s:Int×Int×Int×List UInt8×LA):Enc (encR (xc4 R a b) (xdU R a b)) (xbS R a b s) (xoF R (xc4 R a b s).1 (xc4 R a b s).2):=by
 obtain ⟨g,d,e,f,c⟩:=s;have h:xoF R (xc4 R a b (g,d,e,f,c)).1 (xc4 R a b (g,d,e,f,c)).2=xgD R a b g d e f c none (fun s=>some (encR (xc4 R a b) (xdU R a b) (.inl s))) (fun p=>some (encR (xc4 R a b) (xdU R a b) (.inr p))):=by kernel_rfl
 rw [h];unfold xbS xgD;repeat' (first|refine Enc.br ?_ ?_|exact Enc.none|exact Enc.some rfl)
def xkn (R:Int->Int->Int->Int->List UInt8->List UInt8->LA->LA->Option (Int×Int×List UInt8)):Lp:=lpOf [4,86,87,88] [4] [] (xIR (xI3 0 0 0 0) (xIR (xI2 1 0 0) (xIR (pInt .i64) (xIR (pInt .i64) xIT)))) (xIR (xI5 0 3 27 false true (xIR (xI4 (xIR (pInt .i64) (xIR (pInt .i64) (xIR pStr xIT)))) xIT)) (xIR (xI5 0 3 27 false true xIV) xIT)) fun (_,(a,(c,(g,_)))) (((d,(e,(f,_))),_),(b,_))=>((Iter (xbS R a c) (g,d,e,f,b)).isSome,xdU R a c ((Iter (xbS R a c) (g,d,e,f,b)).getD (false,(0,0,[]),(0,0,[]))))
def xrH (R:Int->Int->Int->Int->List UInt8->List UInt8->LA->LA->Option (Int×Int×List UInt8)) (g:xkl R):LoopOk P0 (xIQ.at (xgB R).pin) (xgB R).nt (xIc Tryz.f39 1) (xkn R):=xm8 fun j k m l=>by
 obtain ⟨_,⟨a,⟨b,⟨h,_⟩⟩⟩⟩:=j;obtain ⟨⟨⟨d,⟨e,⟨f,_⟩⟩⟩,_⟩,⟨c,_⟩⟩:=k;obtain ⟨i,rfl⟩:=Prod.mk.inj l;exact xg4 xIh (xIi P0 _) rfl (xsq R g) (xpL R g) (xc4 R a b) (xdU R a b) (fun p=>by simp only [xdU,LR.eval];first|(simp;done)|(repeat' split<;>simp)) (xtk R a b) (s:=(h,d,e,f,c)) (xaE i)
def xee (R:Int->Int->Int->Int->List UInt8->List UInt8->LA->LA->Option (Int×Int×List UInt8)):Env:=((xhr.E.with 39 (xc5 R)).with 45 (xko R)).fn 132 0 (lsOf [7000000,1000030]) (xIu [(14,xhH R),(27,xkn R)])
def xsr (R:Int->Int->Int->Int->List UInt8->List UInt8->LA->LA->Option (Int×Int×List UInt8)) (a:xcC R):xH8 P0 (xIQ.at 0) (xee R):=((xhr.ok.with a).with (xm1 R a)).fn
def xqT (R:Int->Int->Int->Int->List UInt8->List UInt8->LA->LA->Option (Int×Int×List UInt8)) (b:xcC R):LoOk P0 (xIQ.at (xee R).pin) (xee R) (Tryz.f39.body.getD .skip):=xgd (ls:=[xIc Tryz.f39 0,xIc Tryz.f39 1]) (by kernel_rfl) (fun l c lp a=>by
 simp only [zD,List.not_mem_nil,or_false] at c;rcases c with rfl|rfl
 . rw [show (xee R).lp (xIm (xIc Tryz.f39 0))=some (xhH R) by kernel_rfl] at a
   simp only [z6] at a;subst a;exact xrG R b
 . rw [show (xee R).lp (xIm (xIc Tryz.f39 1))=some (xkn R) by kernel_rfl] at a
   simp only [z6] at a;subst a;exact xrH R b)
def xjm (R:Int->Int->Int->Int->List UInt8->List UInt8->LA->LA->Option (Int×Int×List UInt8)) (a b:LA):Option Int:=xiA R ((a.getD 0 .top).cells.getD 0 .top).toInt ((a.getD 0 .top).cells.getD 1 .top).toInt ((a.getD 0 .top).cells.getD 2 .top).toInt ((a.getD 0 .top).cells.getD 3 .top).toInt ((a.getD 0 .top).cells.getD 4 .top).toStr ((a.getD 0 .top).cells.getD 5 .top).toStr ((a.getD 0 .top).cells.getD 6 .top).toList b
def xjn (R:Int->Int->Int->Int->List UInt8->List UInt8->LA->LA->Option (Int×Int×List UInt8)) (a b:LA):Option (Int×Int×List UInt8):=R ((a.getD 1 .top).cells.getD 0 .top).toInt ((a.getD 1 .top).cells.getD 1 .top).toInt ((a.getD 1 .top).cells.getD 2 .top).toInt ((a.getD 1 .top).cells.getD 3 .top).toInt ((a.getD 1 .top).cells.getD 4 .top).toStr ((a.getD 1 .top).cells.getD 5 .top).toStr ((a.getD 1 .top).cells.getD 6 .top).toList b
def xjo (R:Int->Int->Int->Int->List UInt8->List UInt8->LA->LA->Option (Int×Int×List UInt8)) (a b:LA):Option (Int×Int×List UInt8):=R ((a.getD 2 .top).cells.getD 0 .top).toInt ((a.getD 2 .top).cells.getD 1 .top).toInt ((a.getD 2 .top).cells.getD 2 .top).toInt ((a.getD 2 .top).cells.getD 3 .top).toInt ((a.getD 2 .top).cells.getD 4 .top).toStr ((a.getD 2 .top).cells.getD 5 .top).toStr ((a.getD 2 .top).cells.getD 6 .top).toList b
def xa5 (R:Int->Int->Int->Int->List UInt8->List UInt8->LA->LA->Option (Int×Int×List UInt8)) (c d e f:Int) (g h:List UInt8) (a b:LA):Option (Int×Int×List UInt8×LA):=Iter (xbR R b c d e f g h a (↑a.length:Int).toNat a (↑a.length:Int)) (0,0,0,[],List.replicate (↑a.length:Int).toNat (AV.agg [AV.int .i64 0,AV.int .i64 0,AV.str []]))
def xhf (R:Int->Int->Int->Int->List UInt8->List UInt8->LA->LA->Option (Int×Int×List UInt8)) (b a:LA):Int×Int×List UInt8:=(xjo R b a).getD (0,0,[])
def xhg (R:Int->Int->Int->Int->List UInt8->List UInt8->LA->LA->Option (Int×Int×List UInt8)) (b a:LA):Int×Int×List UInt8:=(xjn R b a).getD (0,0,[])
def xgE (R:Int->Int->Int->Int->List UInt8->List UInt8->LA->LA->Option (Int×Int×List UInt8)) (c d e f:Int) (g h:List UInt8) (a b:LA):Bool:=decide (0+(↑a.length:Int).toNat<=(((((xa5 R c d e f g h a b).getD (0,0,[],[])).snd).snd).snd).length)&&true
def xfm (R:Int->Int->Int->Int->List UInt8->List UInt8->LA->LA->Option (Int×Int×List UInt8)) (c d e f:Int) (g h:List UInt8) (b a:LA):Option (Bool×(Int×Int×List UInt8)×Int×Int×List UInt8):=Iter (xbS R (↑b.length:Int).toNat (↑(↑b.length:Int).toNat:Int)) (0,((xa5 R c d e f g h b a).getD (0,0,[],[])).fst,(((xa5 R c d e f g h b a).getD (0,0,[],[])).snd).fst,((((xa5 R c d e f g h b a).getD (0,0,[],[])).snd).snd).fst,(((((xa5 R c d e f g h b a).getD (0,0,[],[])).snd).snd).snd))
def xfn (R:Int->Int->Int->Int->List UInt8->List UInt8->LA->LA->Option (Int×Int×List UInt8)) (b c d e:Int) (f g:List UInt8) (h a:LA):LA:=((((((xa5 R b c d e f g h a).getD (0,0,[],[])).snd).snd).snd).getD 1 .top).cells
def xbO (R:Int->Int->Int->Int->List UInt8->List UInt8->LA->LA->Option (Int×Int×List UInt8)) (b c d e:Int) (f g:List UInt8) (h a:LA):LA:=((((((xa5 R b c d e f g h a).getD (0,0,[],[])).snd).snd).snd).getD 0 .top).cells
def xaX (R:Int->Int->Int->Int->List UInt8->List UInt8->LA->LA->Option (Int×Int×List UInt8)) (c d e f:Int) (g h:List UInt8) (a b:LA):LA:=List.take (↑a.length:Int).toNat (List.drop 0 (((((xa5 R c d e f g h a b).getD (0,0,[],[])).snd).snd).snd))
def xh7 (R:Int->Int->Int->Int->List UInt8->List UInt8->LA->LA->Option (Int×Int×List UInt8)) (b c d e:Int) (f g:List UInt8) (h a:LA):Int×Int×List UInt8:=xjT (xnM b ((xbO R b c d e f g h a).getD 0 .top).toInt ((xbO R b c d e f g h a).getD 1 .top).toInt ((xbO R b c d e f g h a).getD 2 .top).toStr ((xfn R b c d e f g h a).getD 0 .top).toInt ((xfn R b c d e f g h a).getD 1 .top).toInt ((xfn R b c d e f g h a).getD 2 .top).toStr)
def xjp (R:Int->Int->Int->Int->List UInt8->List UInt8->LA->LA->Option (Int×Int×List UInt8)) (a c d e:Int) (f g:List UInt8) (h b:LA):Int×List UInt8:=((xkq a (xaX R a c d e f g h b)).getD (0,0,[])).snd
def xjq (R:Int->Int->Int->Int->List UInt8->List UInt8->LA->LA->Option (Int×Int×List UInt8)) (a c d e:Int) (f g:List UInt8) (h b:LA):Int×List UInt8:=((xfS a (xaX R a c d e f g h b)).getD (0,0,[])).snd
def xjr (R:Int->Int->Int->Int->List UInt8->List UInt8->LA->LA->Option (Int×Int×List UInt8)) (a c d e:Int) (f g:List UInt8) (h b:LA):Int×List UInt8:=((xlY a (xaX R a c d e f g h b)).getD (0,0,[])).snd
def xcR {T:Type} (R:Int->Int->Int->Int->List UInt8->List UInt8->LA->LA->Option (Int×Int×List UInt8)) (b c d e:Int) (f g:List UInt8) (h a:LA) (δ:T) (κ:Int×Int×List UInt8->T):T:=br (xgE R b c d e f g h a) (br ((xfS b (xaX R b c d e f g h a)).isSome) (κ (((xfS b (xaX R b c d e f g h a)).getD (0,0,[])).fst,(xjq R b c d e f g h a).fst,(xjq R b c d e f g h a).snd)) δ) δ
def xfK {T:Type} (R:Int->Int->Int->Int->List UInt8->List UInt8->LA->LA->Option (Int×Int×List UInt8)) (b c d e:Int) (f g:List UInt8) (h a:LA) (δ:T) (κ:Int×Int×List UInt8->T):T:=br (xgE R b c d e f g h a) (br ((xkq b (xaX R b c d e f g h a)).isSome) (κ (((xkq b (xaX R b c d e f g h a)).getD (0,0,[])).fst,(xjp R b c d e f g h a).fst,(xjp R b c d e f g h a).snd)) δ) δ
def xhe {T:Type} (R:Int->Int->Int->Int->List UInt8->List UInt8->LA->LA->Option (Int×Int×List UInt8)) (b c d e:Int) (f g:List UInt8) (h a:LA) (δ:T) (κ:Int×Int×List UInt8->T):T:=br (xgE R b c d e f g h a) (br ((xlY b (xaX R b c d e f g h a)).isSome) (κ (((xlY b (xaX R b c d e f g h a)).getD (0,0,[])).fst,(xjr R b c d e f g h a).fst,(xjr R b c d e f g h a).snd)) δ) δ
def xja {T:Type} (R:Int->Int->Int->Int->List UInt8->List UInt8->LA->LA->Option (Int×Int×List UInt8)) (c d e f:Int) (g h:List UInt8) (b a:LA) (δ:T) (κ:Int×Int×List UInt8->T):T:=br ((xjb c d e f g h b).isSome) (br (!(xjb c d e f g h b).getD false) (κ (0,0,[])) (br (c==1) (κ (e,f,g)) (br (c==2) (br ((xhs a d).isSome) (κ (((xhs a d).getD (0,0,[])).fst,((xhs a d).getD (0,0,[])).snd.fst,((xhs a d).getD (0,0,[])).snd.snd)) δ) (br (c==22) (br (decide (0<(↑b.length:Int))) (br (decide (0<b.length)&&((b.getD 0 .top).cells.length==7&&xId [Sh.int .i64,Sh.int .i64,Sh.int .i64,Sh.int .i64,Sh.str,Sh.str,Sh.list 7] (b.getD 0 .top).cells 0)) (br ((xjm R b a).isSome) (br ((xjm R b a).getD 0==2) (br (decide (1<(↑b.length:Int))) (br (decide (1<b.length)&&((b.getD 1 .top).cells.length==7&&xId [Sh.int .i64,Sh.int .i64,Sh.int .i64,Sh.int .i64,Sh.str,Sh.str,Sh.list 7] (b.getD 1 .top).cells 0)) (br ((xjn R b a).isSome) (κ ((xhg R b a).fst,((xhg R b a).snd).fst,((xhg R b a).snd).snd)) δ) δ) δ) (br (decide (2<(↑b.length:Int))) (br (decide (2<b.length)&&((b.getD 2 .top).cells.length==7&&xId [Sh.int .i64,Sh.int .i64,Sh.int .i64,Sh.int .i64,Sh.str,Sh.str,Sh.list 7] (b.getD 2 .top).cells 0)) (br ((xjo R b a).isSome) (κ ((xhf R b a).fst,((xhf R b a).snd).fst,((xhf R b a).snd).snd)) δ) δ) δ)) δ) δ) δ) (br (decide ((↑b.length:Int)<=(↑b.length:Int))&&(decide (32*(↑b.length:Int)<=281474976710656)&&decide ((↑b.length:Int)<=4611686018427387904))) (br ((xa5 R c d e f g h b a).isSome) (br (c==4) (xfK R c d e f g h b a δ κ) (br (c==5) (xfK R c d e f g h b a δ κ) (br (c==6) (xfK R c d e f g h b a δ κ) (br (c==21) (br (decide (0<(↑(↑b.length:Int).toNat:Int))) (br ((decide (0<(((((xa5 R c d e f g h b a).getD (0,0,[],[])).snd).snd).snd).length))&&xH6 (Sh.int .i64) ((xbO R c d e f g h b a).getD 0 .top)) (κ ((xct (((xbO R c d e f g h b a).getD 0 .top).toInt==0)).fst,(xct (((xbO R c d e f g h b a).getD 0 .top).toInt==0)).snd.fst,(xct (((xbO R c d e f g h b a).getD 0 .top).toInt==0)).snd.snd)) δ) δ) (br (c==23) (br ((xfm R c d e f g h b a).isSome) (br (((xfm R c d e f g h b a).getD (false,(0,0,[]),0,0,[])).fst) (κ ((((xfm R c d e f g h b a).getD (false,(0,0,[]),0,0,[])).snd.fst).fst,((((xfm R c d e f g h b a).getD (false,(0,0,[]),0,0,[])).snd.fst).snd).fst,((((xfm R c d e f g h b a).getD (false,(0,0,[]),0,0,[])).snd.fst).snd).snd)) (κ (0,0,[]))) δ) (br (c==24) (br (xgE R c d e f g h b a) (br ((xgG d (xaX R c d e f g h b a)).isSome) (κ (((xgG d (xaX R c d e f g h b a)).getD (0,0,[])).fst,(((xgG d (xaX R c d e f g h b a)).getD (0,0,[])).snd).fst,(((xgG d (xaX R c d e f g h b a)).getD (0,0,[])).snd).snd)) δ) δ) (br (c==19) (xhe R c d e f g h b a δ κ) (br (c==20) (xhe R c d e f g h b a δ κ) (br (c==13) (xcR R c d e f g h b a δ κ) (br (c==14) (xcR R c d e f g h b a δ κ) (br (c==15) (xcR R c d e f g h b a δ κ) (br (c==16) (xcR R c d e f g h b a δ κ) (br (c==17) (xcR R c d e f g h b a δ κ) (br (c==18) (xcR R c d e f g h b a δ κ) (br (decide (0<(↑(↑b.length:Int).toNat:Int))) (br ((decide (0<(((((xa5 R c d e f g h b a).getD (0,0,[],[])).snd).snd).snd).length))&&((xbO R c d e f g h b a).length==3&&xId [Sh.int .i64,Sh.int .i64,Sh.str] (xbO R c d e f g h b a) 0)) (br (decide (1<(↑(↑b.length:Int).toNat:Int))) (br (decide (1<(((((xa5 R c d e f g h b a).getD (0,0,[],[])).snd).snd).snd).length)&&((xfn R c d e f g h b a).length==3&&xId [Sh.int .i64,Sh.int .i64,Sh.str] (xfn R c d e f g h b a) 0)) (κ ((xh7 R c d e f g h b a).fst,((xh7 R c d e f g h b a).snd).fst,((xh7 R c d e f g h b a).snd).snd)) δ) δ) δ) δ))))))))))))))) δ) δ))))) δ
def xdG (R:Int->Int->Int->Int->List UInt8->List UInt8->LA->LA->Option (Int×Int×List UInt8)) (b c d e:Int) (f g:List UInt8) (h a:LA):=xja R b c d e f g h a none some
def xwC (R:Int->Int->Int->Int->List UInt8->List UInt8->LA->LA->Option (Int×Int×List UInt8)) (b c d e:Int) (f g:List UInt8) (i a:LA):Enc (fun (p:Int×Int×List UInt8)=>((AV.agg [AV.int .i64 p.1,AV.int .i64 p.2.1,AV.str p.2.2]):AV)) (xdG R b c d e f g i a) (XF P0 (xee R) Tryz.f39 (Tryz.f39.body.getD .skip) [AV.agg [AV.int .i64 b,AV.int .i64 c,AV.int .i64 d,AV.int .i64 e,AV.str f,AV.str g,AV.list 7 i],AV.list 3 a]):=by
 have h:XF P0 (xee R) Tryz.f39 (Tryz.f39.body.getD .skip) [AV.agg [AV.int .i64 b,AV.int .i64 c,AV.int .i64 d,AV.int .i64 e,AV.str f,AV.str g,AV.list 7 i],AV.list 3 a]=xja R b c d e f g i a none (fun (p:Int×Int×List UInt8)=>some ((AV.agg [AV.int .i64 p.1,AV.int .i64 p.2.1,AV.str p.2.2]):AV)):=by kernel_rfl
 rw [h];unfold xdG xja xcR xfK xhe;repeat' (first|refine Enc.br ?_ ?_|exact Enc.none|exact Enc.some rfl)
def xwB (R:Int->Int->Int->Int->List UInt8->List UInt8->LA->LA->Option (Int×Int×List UInt8)):LA->Option (Bool×AV):=ocOf (xIS (xI7 (xIS (sEq (pInt .i64)) (xIS (sEq (pInt .i64)) (xIS (sEq (pInt .i64)) (xIS (sEq (pInt .i64)) (xIS (sEq pStr) (xIS (sEq pStr) (xIS (xI6 7 xIV) xIU)))))))) (xIS (xI6 3 xIV) xIU)) fun ((b,(c,(d,(e,(f,(g,(h,_))))))),(a,_))=>((xdG R b c d e f g h a).isSome,(AV.agg [AV.int .i64 ((xdG R b c d e f g h a).getD (0,0,[])).1,AV.int .i64 ((xdG R b c d e f g h a).getD (0,0,[])).2.1,AV.str ((xdG R b c d e f g h a).getD (0,0,[])).2.2]))
def xwA (R:Int->Int->Int->Int->List UInt8->List UInt8->LA->LA->Option (Int×Int×List UInt8)) (a:xcC R):OcOk P0 xIQ 39 (xwB R):=xdB fun e h f=>by
 obtain ⟨⟨i,⟨j,⟨k,⟨l,⟨m,⟨n,⟨o,_⟩⟩⟩⟩⟩⟩⟩,⟨g,_⟩⟩:=e;obtain ⟨b,c⟩:=Prod.mk.inj f;refine xfp (p:=(xee R).pin) (xhu xIh (xIi P0 _) rfl (xsr R a) Tryz.func39 rfl (by kernel_rfl) (xqT R a) ((xwC R _ _ _ _ _ _ _ _ _ (xaE (d:=(0,0,[])) b)).trans ?_))
 exact congrArg some c
def xbd:Nat->Int->Int->Int->Int->List UInt8->List UInt8->LA->LA->Option (Int×Int×List UInt8)
 | 0=>fun _ _ _ _ _ _ _ _=>none
 | fu_+1=>fun b c d e f g h a=>xdG (xbd fu_) b c d e f g h a
def xoD:∀ n,xcC (xbd n)
 | 0=>xdB fun _ _ h=>absurd (Prod.mk.inj h).1 Bool.false_ne_true
 | fu_+1=>fun a r h=>xwA (xbd fu_) (xoD fu_) a r h
def xbE:Int->Int->Int->Int->List UInt8->List UInt8->LA->LA->Option (Int×Int×List UInt8):=fun b c d e f g h a=>limN fun n=>xbd n b c d e f g h a
def xti:xcC xbE:=xqU 39 xbd xoD
def xz1:Env:=xhr.E.with 39 (xc5 xbE)
def xz3:xH8 P0 xIQ xz1:=xhr.ok.with xti
def xz2:EO:=EO.mk xz1 xz3
def xl6 {T:Type} (a b c d:Int) (e f:List UInt8) (g h:LA) (δ:T) (κ:Int->T):T:=br ((xbE a b c d e f g h).isSome) (κ (xdm ((xbE a b c d e f g h).getD (0,0,[])).fst ((xbE a b c d e f g h).getD (0,0,[])).snd.fst ((xbE a b c d e f g h).getD (0,0,[])).snd.snd)) δ
def xbe (a b c d:Int) (e f:List UInt8) (g h:LA):=xl6 a b c d e f g h none some
def xEY:EO:=xz2.f Tryz.func45 9 0 [] [] lk0 (u2 (xI7 (u7 uI uI uI uI (sEq pStr) (sEq pStr) (uL 7))) (uL 3)) (fun ((a,b,c,d,e,g,h,_),i,_) _=>xl6 a b c d e g h i) (fun _ p=>AV.int .i64 p) 0
def xf2 (a b c d:Int):Bool:=(br (xaO a b) (br (xaO c d) (br (decide (a<d)) ((decide (c<b))) ((false))) ((false))) ((false)))
def xqW {T:Type} (a b c d:Int) (δ:T) (κ:Bool->T):T:=br (xaO a b) (br (xaO c d) (br (decide (a<d)) (κ (decide (c<b))) (κ (false))) (κ (false))) (κ (false))
def xEZ:EO:=xEY.fT Tryz.func72 25 0 [] [] lk0 (fun ((a,b,_),(c,d,_),_)=>xqW a b c d none) (u2 (xI7 (u2 uI uI)) (xI7 (u2 uI uI))) (fun ((a,b,_),(c,d,_),_)=>xf2 a b c d) (fun _ p=>(AV.bool p))
def xan (a b c d:Int):Int×Int×Bool:=(br (!xf2 a b c d) ((0,0,false)) ((if c>a then c else a,if d<b then d else b,true)))
def xqp {T:Type} (a b c d:Int) (δ:T) (κ:Int×Int×Bool->T):T:=br (!xf2 a b c d) (κ (0,0,false)) (κ (if c>a then c else a,if d<b then d else b,true))
def xu6:EO:=xEZ.fT Tryz.func44 22 0 [] [] lk0 (fun ((a,b,_),(c,d,_),_)=>xqp a b c d none) (u2 (xI7 (u2 uI uI)) (xI7 (u2 uI uI))) (fun ((a,b,_),(c,d,_),_)=>xan a b c d) (fun _ p=>(AV.tuple [AV.agg [AV.int .i64 p.1,AV.int .i64 p.2.1],AV.bool p.2.2]))
def xb4:Env:=xu6.E.fn 52 0 (lsOf []) (xIu [])
def xoJ:xH8 P0 (xIQ.at 0) xb4:=xu6.ok.fn
def xnE:LoOk P0 (xIQ.at xb4.pin) xb4 (Tryz.f27.body.getD .skip):=xgd (ls:=[xIc Tryz.f27 0]) (by kernel_rfl) (fun l a lp b=>by
 simp only [zD,List.not_mem_nil,or_false] at a;rcases a with rfl
 . rw [show xb4.lp (xIm (xIc Tryz.f27 0))=none by kernel_rfl] at b
   simp at b)
def xim (b a c d:Int):=!((xan b a c d).snd.fst==0&&(a==0&&true))
def xfG {T:Type} (b a c d:Int) (κ:Bool×(Unit)×(LA)->T):T:=br (xim b a c d) (br (xaO (xan b a c d).snd.fst a) (κ (false,(),([AV.agg [AV.int .i64 (xan b a c d).snd.fst,AV.int .i64 a]]))) (κ (true,(),[]))) (κ (true,(),[]))
def xgp {T:Type} (a b c d:Int) (δ:T) (κ:Bool×(Unit)×(LA)->T):T:=br (!xaO a b) (κ (true,(),[])) (br (!(xan a b c d).snd.snd) (κ (false,(),([AV.agg [AV.int .i64 a,AV.int .i64 b]]))) (br (!(a==0&&((xan a b c d).fst==0&&true))) (br (xaO a (xan a b c d).fst) (br (xim a b c d) (br (xaO (xan a b c d).snd.fst b) (κ (false,(),([AV.agg [AV.int .i64 a,AV.int .i64 (xan a b c d).fst],AV.agg [AV.int .i64 (xan a b c d).snd.fst,AV.int .i64 b]]))) (κ (false,(),([AV.agg [AV.int .i64 a,AV.int .i64 (xan a b c d).fst]])))) (κ (false,(),([AV.agg [AV.int .i64 a,AV.int .i64 (xan a b c d).fst]])))) (xfG a b c d κ)) (xfG a b c d κ)))
def xcE (a b c d:Int):Option (LA):=xgp a b c d none (fun (p:Bool×(Unit)×(LA))=>some (br p.1 ([]) p.2.2))
def xqZ (a b c d:Int):EncS (fun (p:LA)=>(AV.list 2 p:AV)) (xcE a b c d) (XF P0 xb4 Tryz.f27 (Tryz.f27.body.getD .skip) [AV.agg [AV.int .i64 a,AV.int .i64 b],AV.agg [AV.int .i64 c,AV.int .i64 d]]):=by
 have h:XF P0 xb4 Tryz.f27 (Tryz.f27.body.getD .skip) [AV.agg [AV.int .i64 a,AV.int .i64 b],AV.agg [AV.int .i64 c,AV.int .i64 d]]=xgp a b c d none (fun (p:Bool×(Unit)×(LA))=>some ((br p.1 (AV.nils) (AV.list 2 p.2.2)):AV)):=by kernel_rfl
 rw [h];unfold xcE xgp xfG;repeat' (first|exact EncS.none|exact EncS.some (Sub.refl _)|exact EncS.some (xnw _)|exact EncS.some (xpI _ _)|refine EncS.br ?_ ?_)
def xqY:LA->Option (Bool×AV):=ocOf (xIS (xI7 (xIS (sEq (pInt .i64)) (xIS (sEq (pInt .i64)) xIU))) (xIS (xI7 (xIS (sEq (pInt .i64)) (xIS (sEq (pInt .i64)) xIU))) xIU)) fun ((a,(b,_)),((c,(d,_)),_))=>((xcE a b c d).isSome,(AV.list 2 ((xcE a b c d).getD [])))
def xqX:OcOk P0 xIQ 27 (xqY):=xdB fun c l e=>by
 obtain ⟨⟨f,⟨g,_⟩⟩,⟨⟨j,⟨k,_⟩⟩,_⟩⟩:=c;obtain ⟨a,b⟩:=Prod.mk.inj e;obtain ⟨y,h,i⟩:=xqZ _ _ _ _ _ (xaE (d:=[]) a);have hg:Good P0 xIQ 27 _ _:=xfp (p:=xb4.pin) (xhu xIh (xIi P0 _) rfl xoJ Tryz.func27 rfl (by kernel_rfl) xnE h)
 rw [<-b];exact Good.sub hg i
def xz4:EO:=xu6.w xqX
def xf1 {T:Type} (e d:LA) (f:Int) (c:Nat) (b:Int) (a:LA) (δ:T) (κl:(Nat×Int×LA)->T) (κr:(Nat×LA)->T):T:=br (decide (b<f)) (br (ixI d b) (br (ixT d b 2 [Sh.int .i64,Sh.int .i64] 0) (br (rmB c a 1 40) (κl (c+1,i64.wrap (b+1),a++[AV.agg [AV.list 3 e,AV.int .i64 (gC d b 0).toInt,AV.int .i64 (gC d b 1).toInt]])) δ) δ) δ) (κr (c,a))
def xbY (c e:LA) (f:Int):StT (Nat×Int×LA) (Nat×LA):=fun (b,d,a)=>xf1 c e f b d a none inL inR
def xlk:=xz4.l 22 0 [] [] Tryz.f19 0 lk0 [0,5,8,9,10] [5] [(5,3,51)] (q5 (qL 3) (xI2 0 0 0) (qL 2) qI qI) (q1 (qB 0 3 51 xIV)) (fun (c,b,e,f,d,_) (a,_)=>(xbY c e f,(b,d,a),fun p=>(.leaf (.exit 0) [AV.osl 0 0 0 p.1] [bF 0 3 51 p.2]))) (0,[]) fun (c,_,e,f,_,_) _ (b,d,a)=>(((c,b,e,f,d,()),(a,())),xf1 c e f b d a none)
def xfu (a l:LA):=(Iter (xbY a l (↑l.length:Int)) (0,0,[])).getD (0,[])
def xkO {T:Type} (a l:LA) (δ:T) (κ:LA->T):T:=br ((Iter (xbY a l (↑l.length:Int)) (0,0,[])).isSome) (br (decide (0+((xfu a l).fst)<=((xfu a l).snd).length)&&true) (κ (List.take ((xfu a l).fst) (List.drop 0 ((xfu a l).snd)))) δ) δ
def xbu (a l:LA):=xkO a l none some
def xEx:EO:=xz4.f Tryz.func19 22 0 [] [(3,xlk.lp)] (lk1 xlk.ok) (u2 (uL 3) (uL 2)) (fun (a,l,_) _=>xkO a l) (fun _ p=>AV.list 3 p) []
def xkM {T:Type} (l:LA) (c d e f g h:Int) (i j:List UInt8) (k:LA) (a b:Int) (δ:T) (κ:Int×Int×Bool->T):T:=br ((xan c d a b).snd.snd) (br ((xbe e f g h i j k l).isSome) (κ ((xan c d a b).fst,(xan c d a b).snd.fst,(xbe e f g h i j k l).getD 0==2)) δ) (κ ((xan c d a b).fst,(xan c d a b).snd.fst,false))
def xaL (j:LA) (k l a b c d:Int) (e f:List UInt8) (g:LA) (h i:Int):=xkM j k l a b c d e f g h i none some
def xE0:EO:=xEx.f Tryz.func26 26 0 [1000051,1000030,1000032] [] lk0 (u3 (xI7 (u3 (uL 3) uI uI)) (xI7 (u7 uI uI uI uI (sEq pStr) (sEq pStr) (uL 7))) (xI7 (u2 uI uI))) (fun ((k,l,m,_),(a,b,c,d,e,g,h,_),(i,j,_),_) _=>xkM k l m a b c d e g h i j) (fun _ p=>AV.tuple [AV.agg [AV.int .i64 p.1,AV.int .i64 p.2.1],AV.bool p.2.2]) (0,0,false)
def xiU {T:Type} (r:LA) (a b:Int) (δ:T) (κ:LA->T):T:=br ((xbu r [AV.agg [AV.int .i64 a,AV.int .i64 b]]).isSome) (κ ((xbu r [AV.agg [AV.int .i64 a,AV.int .i64 b]]).getD [])) δ
def xfX (r:LA) (a b:Int):=xiU r a b none some
def xz5:EO:=xE0.f Tryz.func18 8 0 [] [] lk0 (u2 (uL 3) (sEq (xI9 2 0 0 (q1 (xI4 (q2 qI qI)))))) (fun (r,((a,b,_),_),_) _=>xiU r a b) (fun _ p=>AV.list 3 p) []
def xfF (b c:Int) (e:LA) (a:Nat) (d:Int):=a+((xfX (gC e d 0).toList b c).getD []).length
def xih {T:Type} (d e:Int) (f:LA) (g:Int) (a:Nat) (b:Int) (c:LA) (δ:T) (κl:(Nat×Int×LA)->T) (κr:(Nat×LA)->T):T:=br (decide (b<g)) (br (ixI f b) (br (ixS f b (Sh.list 3) 0) (br ((xfX (gC f b 0).toList d e).isSome) (br (a==c.length&&(decide (xfF d e f a b*40<=140737488355328)&&decide (xfF d e f a b<=4611686018427387904))) (κl (xfF d e f a b,i64.wrap (b+1),c++(xfX (gC f b 0).toList d e).getD [])) δ) δ) δ) δ) (κr (a,c))
def xbX (c d:Int) (f:LA) (g:Int):StT (Nat×Int×LA) (Nat×LA):=fun (b,e,a)=>xih c d f g b e a none inL inR
def xlh:=xz5.l 21 0 [] [] Tryz.f17 0 lk0 [1,5,8,9,10] [5] [(5,3,51)] (q5 (xIv 18 (q1 (xI9 2 0 0 (q1 (xI4 (q2 qI qI)))))) (xI2 0 0 0) (qL 1) qI qI) (q1 (qB 0 3 51 xIV)) (fun ((((c,d,_),_),_),b,f,g,e,_) (a,_)=>(xbX c d f g,(b,e,a),fun p=>(.leaf (.exit 0) [AV.osl 0 0 0 p.1] [bF 0 3 51 p.2]))) (0,[]) fun ((((c,d,_),_),_),_,f,g,_,_) _ (b,e,a)=>((((((c,d,()),()),()),b,f,g,e,()),(a,())),xih c d f g b e a none)
def xfs (l:LA) (a b:Int):=(Iter (xbX a b l (↑l.length:Int)) (0,0,[])).getD (0,[])
def xkJ {T:Type} (l:LA) (a b:Int) (δ:T) (κ:LA->T):T:=br ((Iter (xbX a b l (↑l.length:Int)) (0,0,[])).isSome) (br (decide (0+((xfs l a b).fst)<=((xfs l a b).snd).length)&&true) (κ (List.take ((xfs l a b).fst) (List.drop 0 ((xfs l a b).snd)))) δ) δ
def xfN (l:LA) (a b:Int):=xkJ l a b none some
def xE1:EO:=xz5.f Tryz.func17 21 0 [] [(3,xlh.lp)] (lk1 xlh.ok) (u2 (uL 1) (sEq (xIv (18:FuncId) (q1 (xI9 2 0 0 (q1 (xI4 (q2 qI qI)))))))) (fun (l,(((a,b,_),_),_),_) _=>xkJ l a b) (fun _ p=>AV.list 3 p) []
def xfr (l a:LA) (b c:Int):Nat:=0+l.length+((xfN a b c).getD []).length
def xjQ (l a:LA) (b c:Int):=xak (List.take (xfr l a b c) (List.drop 0 ([]++l++(xfN a b c).getD [])))
def xkE {T:Type} (l a:LA) (b c:Int) (δ:T) (κ:LA->T):T:=br ((xfN a b c).isSome) (br (decide ((0+l.length)*40<=140737488355328)&&decide (0+l.length<=4611686018427387904)) (br (0+l.length==([]++l).length&&(decide (xfr l a b c*40<=140737488355328)&&decide (xfr l a b c<=4611686018427387904))) (br (decide (0+xfr l a b c<=([]++l++(xfN a b c).getD []).length)&&true) (br ((xjQ l a b c).isSome) (κ ((xjQ l a b c).getD [])) δ) δ) δ) δ) δ
def xme (l a:LA) (b c:Int):=xkE l a b c none some
def xu7:EO:=xE1.f Tryz.func4 17 0 [1000032] [] lk0 (u3 (uL 3) (uL 1) (xI7 (u2 uI uI))) (fun (l,a,(b,c,_),_) _=>xkE l a b c) (fun _ p=>AV.list 3 p) []
def xci:Env:=xu7.E.fn 21 0 (lsOf [1000051]) (xIu [])
def xnD:xH8 P0 (xIQ.at 0) xci:=xu7.ok.fn
def xmL:LoOk P0 (xIQ.at xci.pin) xci (Tryz.f28.body.getD .skip):=xdY (by kernel_rfl)
def xg5 (r:LA) (f t a i b c:Int) (d e:List UInt8) (g:LA) (h j:Int):=xbu r [AV.agg [AV.int .i64 ((xaL r f t a i b c d e g h j).getD (0,0,false)).fst,AV.int .i64 ((xaL r f t a i b c d e g h j).getD (0,0,false)).snd.fst]]
def xfE {T:Type} (r:LA) (f t a i b c:Int) (d e:List UInt8) (g:LA) (h j:Int) (δ:T) (κ:Bool×(Unit)×(LA)->T):T:=br ((xaL r f t a i b c d e g h j).isSome) (br (!((xaL r f t a i b c d e g h j).getD (0,0,false)).snd.snd) (κ (true,(),[])) (br ((xg5 r f t a i b c d e g h j).isSome) (κ (false,(),((xg5 r f t a i b c d e g h j).getD []))) δ)) δ
def xcz (r:LA) (f t a i b c:Int) (d e:List UInt8) (g:LA) (h j:Int):Option (LA):=xfE r f t a i b c d e g h j none (fun (p:Bool×(Unit)×(LA))=>some (br p.1 ([]) p.2.2))
def xpO (r:LA) (f t a i b c:Int) (d e:List UInt8) (g:LA) (j k:Int):EncS (fun (p:LA)=>(AV.list 3 p:AV)) (xcz r f t a i b c d e g j k) (XF P0 xci Tryz.f28 (Tryz.f28.body.getD .skip) [AV.agg [AV.list 3 r,AV.int .i64 f,AV.int .i64 t],AV.eptr 7 [AV.agg [AV.int .i64 a,AV.int .i64 i,AV.int .i64 b,AV.int .i64 c,AV.str d,AV.str e,AV.list 7 g]] 0 0,AV.eptr 2 [AV.agg [AV.int .i64 j,AV.int .i64 k]] 0 0]):=by
 have h:XF P0 xci Tryz.f28 (Tryz.f28.body.getD .skip) [AV.agg [AV.list 3 r,AV.int .i64 f,AV.int .i64 t],AV.eptr 7 [AV.agg [AV.int .i64 a,AV.int .i64 i,AV.int .i64 b,AV.int .i64 c,AV.str d,AV.str e,AV.list 7 g]] 0 0,AV.eptr 2 [AV.agg [AV.int .i64 j,AV.int .i64 k]] 0 0]=xfE r f t a i b c d e g j k none (fun (p:Bool×(Unit)×(LA))=>some ((br p.1 (AV.nils) (AV.list 3 p.2.2)):AV)):=by kernel_rfl
 rw [h];unfold xcz xfE;repeat' (first|exact EncS.none|exact EncS.some (Sub.refl _)|exact EncS.some (xnw _)|exact EncS.some (xpI _ _)|refine EncS.br ?_ ?_)
def xpN:LA->Option (Bool×AV):=ocOf (xIS (xI7 (xIS (xI6 3 xIV) (xIS (sEq (pInt .i64)) (xIS (sEq (pInt .i64)) xIU)))) (xIS (sEq (xI9 7 0 0 (xIR (xI4 (xIR (pInt .i64) (xIR (pInt .i64) (xIR (pInt .i64) (xIR (pInt .i64) (xIR pStr (xIR pStr (xIR (xI8 7 xIV) xIT)))))))) xIT))) (xIS (sEq (xI9 2 0 0 (xIR (xI4 (xIR (pInt .i64) (xIR (pInt .i64) xIT))) xIT))) xIU))) fun ((r,(f,(t,_))),(((a,(i,(b,(c,(d,(e,(g,_))))))),_),(((h,(j,_)),_),_)))=>((xcz r f t a i b c d e g h j).isSome,(AV.list 3 ((xcz r f t a i b c d e g h j).getD [])))
def xpM:OcOk P0 xIQ 28 (xpN):=xdB fun c j e=>by
 obtain ⟨⟨r,⟨f,⟨t,_⟩⟩⟩,⟨⟨⟨k,⟨i,⟨l,⟨m,⟨n,⟨o,⟨q,_⟩⟩⟩⟩⟩⟩⟩,_⟩,⟨⟨⟨s,⟨u,_⟩⟩,_⟩,_⟩⟩⟩:=c;obtain ⟨a,b⟩:=Prod.mk.inj e;obtain ⟨y,g,h⟩:=xpO _ _ _ _ _ _ _ _ _ _ _ _ _ (xaE (d:=[]) a);have hg:Good P0 xIQ 28 _ _:=xfp (p:=xci.pin) (xhu xIh (xIi P0 _) rfl xnD Tryz.func28 rfl (by kernel_rfl) xmL g)
 rw [<-b];exact Good.sub hg h
def xz6:EO:=xu7.w xpM
def xcI (c d e f:Int) (g h:List UInt8) (i:LA) (j k:Int) (b:LA) (a:Int):=xcz (gC b a 0).toList (gC b a 1).toInt (gC b a 2).toInt c d e f g h i j k
def xfY {T:Type} (d e f g:Int) (h i:List UInt8) (j:LA) (k l:Int) (m:LA) (n:Int) (a:Nat) (b:Int) (c:LA) (δ:T) (κl:(Nat×Int×LA)->T) (κr:(Nat×LA)->T):T:=br (decide (b<n)) (br (ixI m b) (br (ixT m b 3 [Sh.list 3,Sh.int .i64,Sh.int .i64] 0) (br ((xcI d e f g h i j k l m b).isSome) (br (a==c.length&&(decide ((a+((xcI d e f g h i j k l m b).getD []).length)*40<=140737488355328)&&decide ((a+((xcI d e f g h i j k l m b).getD []).length)<=4611686018427387904))) (κl ((a+((xcI d e f g h i j k l m b).getD []).length),i64.wrap (b+1),c++((xcI d e f g h i j k l m b).getD []))) δ) δ) δ) δ) (κr (a,c))
def xaS (c d e f:Int) (g h:List UInt8) (i:LA) (j k:Int) (m:LA) (n:Int):StT (Nat×Int×LA) (Nat×LA):=fun (b,l,a)=>xfY c d e f g h i j k m n b l a none inL inR
def xlf:=xz6.l 21 0 [] [] Tryz.f24 0 lk0 [1,5,8,9,10] [5] [(5,3,51)] (q5 (xIv 28 (q2 (xI9 7 0 0 (q1 (xI4 (q7 qI qI qI qI pStr pStr (qL 7))))) (xI9 2 0 0 (q1 (xI4 (q2 qI qI)))))) (xI2 0 0 0) (qL 3) qI qI) (q1 (qB 0 3 51 xIV)) (fun ((((c,d,e,f,g,h,i,_),_),((j,k,_),_),_),b,n,o,m,_) (a,_)=>(xaS c d e f g h i j k n o,(b,m,a),fun p=>(.leaf (.exit 0) [AV.osl 0 0 0 p.1] [bF 0 3 51 p.2]))) (0,[]) fun ((((c,d,e,f,g,h,i,_),_),((j,k,_),_),_),_,n,o,_,_) _ (b,m,a)=>((((((c,d,e,f,g,h,i,()),()),((j,k,()),()),()),b,n,o,m,()),(a,())),xfY c d e f g h i j k n o b m a none)
def xkH {T:Type} (l:LA) (a i b c:Int) (d e:List UInt8) (f:LA) (g h:Int) (δ:T) (κ:LA->T):T:=br ((Iter (xaS a i b c d e f g h l (↑l.length:Int)) (0,0,[])).isSome) (br (decide (0+(((Iter (xaS a i b c d e f g h l (↑l.length:Int)) (0,0,[])).getD (0,[])).fst)<=(((Iter (xaS a i b c d e f g h l (↑l.length:Int)) (0,0,[])).getD (0,[])).snd).length)&&true) (κ (List.take (((Iter (xaS a i b c d e f g h l (↑l.length:Int)) (0,0,[])).getD (0,[])).fst) (List.drop 0 (((Iter (xaS a i b c d e f g h l (↑l.length:Int)) (0,0,[])).getD (0,[])).snd)))) δ) δ
def xhi (l:LA) (a i b c:Int) (d e:List UInt8) (f:LA) (g h:Int):=xkH l a i b c d e f g h none some
def xE2:EO:=xz6.f Tryz.func24 21 0 [] [(3,xlf.lp)] (lk1 xlf.ok) (u2 (uL 3) (sEq (xIv (28:FuncId) (q2 (xI9 7 0 0 (q1 (xI4 (q7 qI qI qI qI pStr pStr (qL 7))))) (xI9 2 0 0 (q1 (xI4 (q2 qI qI)))))))) (fun (l,(((a,i,b,c,d,e,g,_),_),((h,j,_),_),_),_) _=>xkH l a i b c d e g h j) (fun _ p=>AV.list 3 p) []
def xiS {T:Type} (l:LA) (a b c d:Int) (e f:List UInt8) (g:LA) (h i:Int) (δ:T) (κ:LA->T):T:=br ((xhi l a b c d e f g h i).isSome) (br ((xak ((xhi l a b c d e f g h i).getD [])).isSome) (κ ((xak ((xhi l a b c d e f g h i).getD [])).getD [])) δ) δ
def xcD (l:LA) (a b c d:Int) (e f:List UInt8) (g:LA) (h i:Int):=xiS l a b c d e f g h i none some
def xE3:EO:=xE2.f Tryz.func11 11 0 [1000030,1000032] [] lk0 (u3 (uL 3) (xI7 (u7 uI uI uI uI (sEq pStr) (sEq pStr) (uL 7))) (xI7 (u2 uI uI))) (fun (l,(a,b,c,d,e,g,h,_),(i,j,_),_) _=>xiS l a b c d e g h i j) (fun _ p=>AV.list 3 p) []
def xfW (r:LA) (f t a i b c:Int) (d e:List UInt8) (g:LA) (h j:Int):=xcE f t ((xaL r f t a i b c d e g h j).getD (0,0,false)).fst ((xaL r f t a i b c d e g h j).getD (0,0,false)).snd.fst
def xiT {T:Type} (r:LA) (f t a i b c:Int) (d e:List UInt8) (g:LA) (h j:Int) (δ:T) (κ:LA->T):T:=br ((xaL r f t a i b c d e g h j).isSome) (br (!((xaL r f t a i b c d e g h j).getD (0,0,false)).snd.snd) (br ((xbu r [AV.agg [AV.int .i64 f,AV.int .i64 t]]).isSome) (κ ((xbu r [AV.agg [AV.int .i64 f,AV.int .i64 t]]).getD [])) δ) (br ((xfW r f t a i b c d e g h j).isSome) (br ((xbu r ((xfW r f t a i b c d e g h j).getD [])).isSome) (κ ((xbu r ((xfW r f t a i b c d e g h j).getD [])).getD [])) δ) δ)) δ
def xkC (r:LA) (f t a i b c:Int) (d e:List UInt8) (g:LA) (h j:Int):=xiT r f t a i b c d e g h j none some
def xz7:EO:=xE3.f Tryz.func25 29 0 [1000051] [] lk0 (u3 (xI7 (u3 (uL 3) uI uI)) (sEq (xI9 7 0 0 (q1 (xI4 (q7 qI qI qI qI pStr pStr (qL 7)))))) (sEq (xI9 2 0 0 (q1 (xI4 (q2 qI qI)))))) (fun ((r,f,t,_),((a,i,b,c,d,e,g,_),_),((h,j,_),_),_) _=>xiT r f t a i b c d e g h j) (fun _ p=>AV.list 3 p) []
def xcJ (c d e f:Int) (g h:List UInt8) (i:LA) (j k:Int) (b:LA) (a:Int):=xkC (gC b a 0).toList (gC b a 1).toInt (gC b a 2).toInt c d e f g h i j k
def xfZ {T:Type} (d e f g:Int) (h i:List UInt8) (j:LA) (k l:Int) (m:LA) (n:Int) (a:Nat) (b:Int) (c:LA) (δ:T) (κl:(Nat×Int×LA)->T) (κr:(Nat×LA)->T):T:=br (decide (b<n)) (br (ixI m b) (br (ixT m b 3 [Sh.list 3,Sh.int .i64,Sh.int .i64] 0) (br ((xcJ d e f g h i j k l m b).isSome) (br (a==c.length&&(decide ((a+((xcJ d e f g h i j k l m b).getD []).length)*40<=140737488355328)&&decide ((a+((xcJ d e f g h i j k l m b).getD []).length)<=4611686018427387904))) (κl ((a+((xcJ d e f g h i j k l m b).getD []).length),i64.wrap (b+1),c++((xcJ d e f g h i j k l m b).getD []))) δ) δ) δ) δ) (κr (a,c))
def xaT (c d e f:Int) (g h:List UInt8) (i:LA) (j k:Int) (m:LA) (n:Int):StT (Nat×Int×LA) (Nat×LA):=fun (b,l,a)=>xfZ c d e f g h i j k m n b l a none inL inR
def xlg:=xz7.l 21 0 [] [] Tryz.f24 0 lk0 [1,5,8,9,10] [5] [(5,3,51)] (q5 (xIv 25 (q2 (xI9 7 0 0 (q1 (xI4 (q7 qI qI qI qI pStr pStr (qL 7))))) (xI9 2 0 0 (q1 (xI4 (q2 qI qI)))))) (xI2 0 0 0) (qL 3) qI qI) (q1 (qB 0 3 51 xIV)) (fun ((((c,d,e,f,g,h,i,_),_),((j,k,_),_),_),b,n,o,m,_) (a,_)=>(xaT c d e f g h i j k n o,(b,m,a),fun p=>(.leaf (.exit 0) [AV.osl 0 0 0 p.1] [bF 0 3 51 p.2]))) (0,[]) fun ((((c,d,e,f,g,h,i,_),_),((j,k,_),_),_),_,n,o,_,_) _ (b,m,a)=>((((((c,d,e,f,g,h,i,()),()),((j,k,()),()),()),b,n,o,m,()),(a,())),xfZ c d e f g h i j k n o b m a none)
def xkI {T:Type} (l:LA) (a i b c:Int) (d e:List UInt8) (f:LA) (g h:Int) (δ:T) (κ:LA->T):T:=br ((Iter (xaT a i b c d e f g h l (↑l.length:Int)) (0,0,[])).isSome) (br (decide (0+(((Iter (xaT a i b c d e f g h l (↑l.length:Int)) (0,0,[])).getD (0,[])).fst)<=(((Iter (xaT a i b c d e f g h l (↑l.length:Int)) (0,0,[])).getD (0,[])).snd).length)&&true) (κ (List.take (((Iter (xaT a i b c d e f g h l (↑l.length:Int)) (0,0,[])).getD (0,[])).fst) (List.drop 0 (((Iter (xaT a i b c d e f g h l (↑l.length:Int)) (0,0,[])).getD (0,[])).snd)))) δ) δ
def xhj (l:LA) (a i b c:Int) (d e:List UInt8) (f:LA) (g h:Int):=xkI l a i b c d e f g h none some
def xDn:EO:=xz7.f Tryz.func24 21 0 [] [(3,xlg.lp)] (lk1 xlg.ok) (u2 (uL 3) (sEq (xIv (25:FuncId) (q2 (xI9 7 0 0 (q1 (xI4 (q7 qI qI qI qI pStr pStr (qL 7))))) (xI9 2 0 0 (q1 (xI4 (q2 qI qI)))))))) (fun (l,(((a,i,b,c,d,e,g,_),_),((h,j,_),_),_),_) _=>xkI l a i b c d e g h j) (fun _ p=>AV.list 3 p) []
def xkD {T:Type} (l:LA) (a b c d:Int) (e f:List UInt8) (g:LA) (h i:Int) (δ:T) (κ:LA->T):T:=br ((xhj l a b c d e f g h i).isSome) (br ((xak ((xhj l a b c d e f g h i).getD [])).isSome) (κ ((xak ((xhj l a b c d e f g h i).getD [])).getD [])) δ) δ
def xeR (l:LA) (a b c d:Int) (e f:List UInt8) (g:LA) (h i:Int):=xkD l a b c d e f g h i none some
def xw7:EO:=xDn.f Tryz.func10 11 0 [1000030,1000032] [] lk0 (u3 (uL 3) (xI7 (u7 uI uI uI uI (sEq pStr) (sEq pStr) (uL 7))) (xI7 (u2 uI uI))) (fun (l,(a,b,c,d,e,g,h,_),(i,j,_),_) _=>xkD l a b c d e g h i j) (fun _ p=>AV.list 3 p) []
def xkN {T:Type} (e d:LA) (f:Int) (c:Nat) (b:Int) (a:LA) (δ:T) (κl:(Nat×Int×LA)->T) (κr:(Nat×LA)->T):T:=br (decide (b<f)) (br (ixI d b) (br (ixT d b 2 [Sh.int .i64,Sh.int .i64] 0) (br (rmB c a 1 40) (κl (c+1,i64.wrap (b+1),a++[AV.agg [AV.list 3 e,AV.int .i64 (gC d b 0).toInt,AV.int .i64 (gC d b 1).toInt]])) δ) δ) δ) (κr (c,a))
def xdJ (c e:LA) (f:Int):StT (Nat×Int×LA) (Nat×LA):=fun (b,d,a)=>xkN c e f b d a none inL inR
def xj0:=xw7.l 22 0 [] [] Tryz.f19 0 lk0 [0,5,8,9,10] [5] [(5,3,51)] (q5 (qL 3) (xI2 0 0 0) (qL 2) qI qI) (q1 (qB 0 3 51 xIV)) (fun (c,b,e,f,d,_) (a,_)=>(xdJ c e f,(b,d,a),fun p=>(.leaf (.exit 0) [AV.osl 0 0 0 p.1] [bF 0 3 51 p.2]))) (0,[]) fun (c,_,e,f,_,_) _ (b,d,a)=>(((c,b,e,f,d,()),(a,())),xkN c e f b d a none)
def xii (r l:LA):=(Iter (xdJ r l (↑l.length:Int)) (0,0,[])).getD (0,[])
def xiW {T:Type} (r l:LA) (δ:T) (κ:Nat×LA->T):T:=br ((Iter (xdJ r l (↑l.length:Int)) (0,0,[])).isSome) (κ ((xii r l).fst,(xii r l).snd)) δ
def xaB (r l:LA):=xiW r l none some
def xDo:EO:=xw7.fM Tryz.func19 22 0 [] [(3,xj0.lp)] (lk1 xj0.ok) (u2 (uL 3) (uL 2)) xIT (fun (r,l,_) _ _=>xiW r l) (fun _ _ p=>(AV.osl 0 0 0 p.1,([bF 0 3 51 p.2]:List Box))) (0,[])
def xig {T:Type} (a i b c:Int) (d e:List UInt8) (g r:LA) (f t:Int) (δ:T) (κ:LA->T):T:=br ((xbE a i b c d e g r).isSome) (κ ([AV.agg [AV.int .i64 ((xbE a i b c d e g r).getD (0,0,[])).fst,AV.int .i64 ((xbE a i b c d e g r).getD (0,0,[])).snd.fst,AV.str ((xbE a i b c d e g r).getD (0,0,[])).snd.snd]])) δ
def xjR (a i b c:Int) (d e:List UInt8) (g r:LA) (f t:Int):=xig a i b c d e g r f t none some
def xz8:EO:=xDo.f Tryz.func38 9 0 [1000030] [] lk0 (u2 (xI7 (u7 uI uI uI uI (sEq pStr) (sEq pStr) (uL 7))) (sEq (xI9 3 0 0 (q1 (xI4 (q3 (qL 3) qI qI)))))) (fun ((a,i,b,c,d,e,g,_),((r,f,t,_),_),_) _=>xig a i b c d e g r f t) (fun _ p=>AV.list 3 p) []
def xcL (c:LA) (d e:Int) (b:LA) (a:Int):=xjR (gC b a 0).toInt (gC b a 1).toInt (gC b a 2).toInt (gC b a 3).toInt (gC b a 4).toStr (gC b a 5).toStr (gC b a 6).toList c d e
def xf0 {T:Type} (d:LA) (e f:Int) (g:LA) (h:Int) (a:Nat) (b:Int) (c:LA) (δ:T) (κl:(Nat×Int×LA)->T) (κr:(Nat×LA)->T):T:=br (decide (b<h)) (br (ixI g b) (br (ixT g b 7 [Sh.int .i64,Sh.int .i64,Sh.int .i64,Sh.int .i64,Sh.str,Sh.str,Sh.list 7] 0) (br ((xcL d e f g b).isSome) (br (a==c.length&&(decide ((a+((xcL d e f g b).getD []).length)*32<=140737488355328)&&decide ((a+((xcL d e f g b).getD []).length)<=4611686018427387904))) (κl ((a+((xcL d e f g b).getD []).length),i64.wrap (b+1),c++((xcL d e f g b).getD []))) δ) δ) δ) δ) (κr (a,c))
def xbA (c:LA) (d e:Int) (g:LA) (h:Int):StT (Nat×Int×LA) (Nat×LA):=fun (b,f,a)=>xf0 c d e g h b f a none inL inR
def xlj:=xz8.l 21 0 [] [] Tryz.f37 0 lk0 [1,5,8,9,10] [5] [(5,3,27)] (q5 (xIv 38 (q1 (xI9 3 0 0 (q1 (xI4 (q3 (qL 3) qI qI)))))) (xI2 0 0 0) (qL 7) qI qI) (q1 (qB 0 3 27 xIV)) (fun ((((c,d,e,_),_),_),b,g,h,f,_) (a,_)=>(xbA c d e g h,(b,f,a),fun p=>(.leaf (.exit 0) [AV.osl 0 0 0 p.1] [bF 0 3 27 p.2]))) (0,[]) fun ((((c,d,e,_),_),_),_,g,h,_,_) _ (b,f,a)=>((((((c,d,e,()),()),()),b,g,h,f,()),(a,())),xf0 c d e g h b f a none)
def xft (l r:LA) (f t:Int):=(Iter (xbA r f t l (↑l.length:Int)) (0,0,[])).getD (0,[])
def xkL {T:Type} (l r:LA) (f t:Int) (δ:T) (κ:LA->T):T:=br ((Iter (xbA r f t l (↑l.length:Int)) (0,0,[])).isSome) (br (decide (0+((xft l r f t).fst)<=((xft l r f t).snd).length)&&true) (κ (List.take ((xft l r f t).fst) (List.drop 0 ((xft l r f t).snd)))) δ) δ
def xjy (l r:LA) (f t:Int):=xkL l r f t none some
def xE4:EO:=xz8.f Tryz.func37 21 0 [] [(3,xlj.lp)] (lk1 xlj.ok) (u2 (uL 7) (sEq (xIv (38:FuncId) (q1 (xI9 3 0 0 (q1 (xI4 (q3 (qL 3) qI qI)))))))) (fun (l,(((r,f,t,_),_),_),_) _=>xkL l r f t) (fun _ p=>AV.list 3 p) []
def xa3 (r:LA) (f t a i b c:Int) (d e:List UInt8) (g:LA) (h j:Int) (k:LA):=xaB ((xjy k r f t).getD []) [AV.agg [AV.int .i64 ((xaL r f t a i b c d e g h j).getD (0,0,false)).fst,AV.int .i64 (((xaL r f t a i b c d e g h j).getD (0,0,false)).snd.fst)]]
def xbq (r:LA) (f t a i b c:Int) (d e:List UInt8) (g:LA) (h j:Int):=xcE f t ((xaL r f t a i b c d e g h j).getD (0,0,false)).fst (((xaL r f t a i b c d e g h j).getD (0,0,false)).snd.fst)
def xej (r:LA) (f t a i b c:Int) (d e:List UInt8) (g:LA) (h j:Int) (k:LA):=(((xaB r ((xbq r f t a i b c d e g h j).getD [])).getD (0,[])).fst)+(List.take (((xa3 r f t a i b c d e g h j k).getD (0,[])).fst) (List.drop 0 (((xa3 r f t a i b c d e g h j k).getD (0,[])).snd))).length
def xiV {T:Type} (r:LA) (f t a i b c:Int) (d e:List UInt8) (g:LA) (h j:Int) (k:LA) (δ:T) (κ:LA->T):T:=br ((xaL r f t a i b c d e g h j).isSome) (br (!((xaL r f t a i b c d e g h j).getD (0,0,false)).snd.snd) (br ((xaB r [AV.agg [AV.int .i64 f,AV.int .i64 t]]).isSome) (br (decide (0+((xaB r [AV.agg [AV.int .i64 f,AV.int .i64 t]]).getD (0,[])).fst<=((xaB r [AV.agg [AV.int .i64 f,AV.int .i64 t]]).getD (0,[])).snd.length)&&true) (κ (List.take ((xaB r [AV.agg [AV.int .i64 f,AV.int .i64 t]]).getD (0,[])).fst (List.drop 0 ((xaB r [AV.agg [AV.int .i64 f,AV.int .i64 t]]).getD (0,[])).snd))) δ) δ) (br ((xjy k r f t).isSome) (br ((xbq r f t a i b c d e g h j).isSome) (br ((xaB r ((xbq r f t a i b c d e g h j).getD [])).isSome) (br ((xa3 r f t a i b c d e g h j k).isSome) (br (decide (0+(((xa3 r f t a i b c d e g h j k).getD (0,[])).fst)<=(((xa3 r f t a i b c d e g h j k).getD (0,[])).snd).length)&&((((xaB r ((xbq r f t a i b c d e g h j).getD [])).getD (0,[])).fst)==(((xaB r ((xbq r f t a i b c d e g h j).getD [])).getD (0,[])).snd).length&&(decide (xej r f t a i b c d e g h j k*40<=140737488355328)&&decide (xej r f t a i b c d e g h j k<=4611686018427387904)))) (br (decide (0+xej r f t a i b c d e g h j k<=((((xaB r ((xbq r f t a i b c d e g h j).getD [])).getD (0,[])).snd)++(List.take (((xa3 r f t a i b c d e g h j k).getD (0,[])).fst) (List.drop 0 (((xa3 r f t a i b c d e g h j k).getD (0,[])).snd)))).length)&&true) (κ (List.take (xej r f t a i b c d e g h j k) (List.drop 0 ((((xaB r ((xbq r f t a i b c d e g h j).getD [])).getD (0,[])).snd)++(List.take (((xa3 r f t a i b c d e g h j k).getD (0,[])).fst) (List.drop 0 (((xa3 r f t a i b c d e g h j k).getD (0,[])).snd))))))) δ) δ) δ) δ) δ) δ)) δ
def xkF (r:LA) (f t a i b c:Int) (d e:List UInt8) (g:LA) (h j:Int) (k:LA):=xiV r f t a i b c d e g h j k none some
def xz9:EO:=xE4.f Tryz.func36 39 0 [1000051,12000019] [] lk0 (u4 (xI7 (u3 (uL 3) uI uI)) (sEq (xI9 7 0 0 (q1 (xI4 (q7 qI qI qI qI pStr pStr (qL 7)))))) (sEq (xI9 2 0 0 (q1 (xI4 (q2 qI qI))))) (sEq (xI9 1 0 0 (q1 (qL 7))))) (fun ((r,f,t,_),((a,i,b,c,d,e,g,_),_),((h,j,_),_),(k,_),_) _=>xiV r f t a i b c d e g h j k) (fun _ p=>AV.list 3 p) []
def xcK (c d e f:Int) (g h:List UInt8) (i:LA) (j k:Int) (l b:LA) (a:Int):=xkF (gC b a 0).toList (gC b a 1).toInt (gC b a 2).toInt c d e f g h i j k l
def xfx {T:Type} (d e f g:Int) (h i:List UInt8) (j:LA) (k l:Int) (m n:LA) (o:Int) (a:Nat) (b:Int) (c:LA) (δ:T) (κl:(Nat×Int×LA)->T) (κr:(Nat×LA)->T):T:=br (decide (b<o)) (br (ixI n b) (br (ixT n b 3 [Sh.list 3,Sh.int .i64,Sh.int .i64] 0) (br ((xcK d e f g h i j k l m n b).isSome) (br (a==c.length&&(decide ((a+((xcK d e f g h i j k l m n b).getD []).length)*40<=140737488355328)&&decide ((a+((xcK d e f g h i j k l m n b).getD []).length)<=4611686018427387904))) (κl ((a+((xcK d e f g h i j k l m n b).getD []).length),i64.wrap (b+1),c++((xcK d e f g h i j k l m n b).getD []))) δ) δ) δ) δ) (κr (a,c))
def xaU (c d e f:Int) (g h:List UInt8) (i:LA) (j k:Int) (l n:LA) (o:Int):StT (Nat×Int×LA) (Nat×LA):=fun (b,m,a)=>xfx c d e f g h i j k l n o b m a none inL inR
def xli:=xz9.l 21 0 [] [] Tryz.f24 0 lk0 [1,5,8,9,10] [5] [(5,3,51)] (q5 (xIv 36 (q3 (xI9 7 0 0 (q1 (xI4 (q7 qI qI qI qI pStr pStr (qL 7))))) (xI9 2 0 0 (q1 (xI4 (q2 qI qI)))) (xI9 1 0 0 (q1 (qL 7))))) (xI2 0 0 0) (qL 3) qI qI) (q1 (qB 0 3 51 xIV)) (fun ((((c,d,e,f,g,h,i,_),_),((j,k,_),_),(m,_),_),b,o,q,n,_) (a,_)=>(xaU c d e f g h i j k m o q,(b,n,a),fun p=>(.leaf (.exit 0) [AV.osl 0 0 0 p.1] [bF 0 3 51 p.2]))) (0,[]) fun ((((c,d,e,f,g,h,i,_),_),((j,k,_),_),(m,_),_),_,o,q,_,_) _ (b,n,a)=>((((((c,d,e,f,g,h,i,()),()),((j,k,()),()),(m,()),()),b,o,q,n,()),(a,())),xfx c d e f g h i j k m o q b n a none)
def xkK {T:Type} (l:LA) (a i b c:Int) (d e:List UInt8) (f:LA) (g h:Int) (j:LA) (δ:T) (κ:LA->T):T:=br ((Iter (xaU a i b c d e f g h j l (↑l.length:Int)) (0,0,[])).isSome) (br (decide (0+(((Iter (xaU a i b c d e f g h j l (↑l.length:Int)) (0,0,[])).getD (0,[])).fst)<=(((Iter (xaU a i b c d e f g h j l (↑l.length:Int)) (0,0,[])).getD (0,[])).snd).length)&&true) (κ (List.take (((Iter (xaU a i b c d e f g h j l (↑l.length:Int)) (0,0,[])).getD (0,[])).fst) (List.drop 0 (((Iter (xaU a i b c d e f g h j l (↑l.length:Int)) (0,0,[])).getD (0,[])).snd)))) δ) δ
def xhk (l:LA) (a i b c:Int) (d e:List UInt8) (f:LA) (g h:Int) (j:LA):=xkK l a i b c d e f g h j none some
def xE5:EO:=xz9.f Tryz.func24 21 0 [] [(3,xli.lp)] (lk1 xli.ok) (u2 (uL 3) (sEq (xIv (36:FuncId) (q3 (xI9 7 0 0 (q1 (xI4 (q7 qI qI qI qI pStr pStr (qL 7))))) (xI9 2 0 0 (q1 (xI4 (q2 qI qI)))) (xI9 1 0 0 (q1 (qL 7))))))) (fun (l,(((a,i,b,c,d,e,g,_),_),((h,j,_),_),(k,_),_),_) _=>xkK l a i b c d e g h j k) (fun _ p=>AV.list 3 p) []
def xkG {T:Type} (l:LA) (a b c d:Int) (e f:List UInt8) (g h:LA) (i j:Int) (δ:T) (κ:LA->T):T:=br ((xhk l a b c d e f g i j h).isSome) (br ((xak ((xhk l a b c d e f g i j h).getD [])).isSome) (κ ((xak ((xhk l a b c d e f g i j h).getD [])).getD [])) δ) δ
def xhh (l:LA) (a b c d:Int) (e f:List UInt8) (g h:LA) (i j:Int):=xkG l a b c d e f g h i j none some
def xou:EO:=xE5.f Tryz.func15 13 0 [1000030,1000032,1000028] [] lk0 (u4 (uL 3) (xI7 (u7 uI uI uI uI (sEq pStr) (sEq pStr) (uL 7))) (uL 7) (xI7 (u2 uI uI))) (fun (l,(a,b,c,d,e,g,h,_),i,(j,k,_),_) _=>xkG l a b c d e g h i j k) (fun _ p=>AV.list 3 p) []
def xdE (R:Int->Int->Int->Int->List UInt8->List UInt8->LA->Int->Option (Int)):LA->Option (Bool×AV):=ocOf (xIS (xI7 (xIS (sEq (pInt .i64)) (xIS (sEq (pInt .i64)) (xIS (sEq (pInt .i64)) (xIS (sEq (pInt .i64)) (xIS (sEq pStr) (xIS (sEq pStr) (xIS (xI6 7 xIV) xIU)))))))) (xIS (sEq (pInt .i64)) xIU)) fun ((c,(i,(d,(e,(f,(g,(a,_))))))),(b,_))=>((R c i d e f g a b).isSome,AV.int .i64 ((R c i d e f g a b).getD 0))
def xpf (k:Go.FuncId) (R:Nat->Int->Int->Int->Int->List UInt8->List UInt8->LA->Int->Option (Int)) (j:∀ n,OcOk P0 xIQ k (xdE (R n))):OcOk P0 xIQ k (xdE (fun c i d e f g a b=>limN fun n=>R n c i d e f g a b)):=xo6 j fun v h=>by
 obtain ⟨⟨c,⟨i,⟨d,⟨e,⟨f,⟨g,⟨a,_⟩⟩⟩⟩⟩⟩⟩,⟨b,_⟩⟩:=v;obtain ⟨n,l⟩:=xjx (R:=fun n=>R n c i d e f g a b) h
 exact ⟨n,congrArg (fun o=>(Option.isSome o,(AV.int .i64 (Option.getD o 0):AV))) l⟩
def xdd (R:Int->Int->Int->Int->List UInt8->List UInt8->LA->Int->Option (Int)):Prop:=OcOk P0 xIQ 22 (xdE R)
def xeE (R:Int->Int->Int->Int->List UInt8->List UInt8->LA->Int->Option (Int)):Env:=(xou.E.with 22 (xdE R)).fn 31 0 (lsOf [1000030]) (xIu [])
abbrev xin (R:Int->Int->Int->Int->List UInt8->List UInt8->LA->Int->Option (Int)):Prop:=xdd R
def xqu (R:Int->Int->Int->Int->List UInt8->List UInt8->LA->Int->Option (Int)) (a:xin R):xH8 P0 (xIQ.at 0) (xeE R):=(xou.ok.with a).fn
def xoh (R:Int->Int->Int->Int->List UInt8->List UInt8->LA->Int->Option (Int)) (a:xin R):LoOk P0 (xIQ.at (xeE R).pin) (xeE R) (xIc Tryz.f22 0):=xdY (by kernel_rfl)
def xbI (R:Int->Int->Int->Int->List UInt8->List UInt8->LA->Int->Option Int) (b:Int) (a:LA) (n i:Int):=R (gC a i 0).toInt (gC a i 1).toInt (gC a i 2).toInt (gC a i 3).toInt (gC a i 4).toStr (gC a i 5).toStr (gC a i 6).toList (i64.wrap (b - n))
def xbs {T:Type} (R:Int->Int->Int->Int->List UInt8->List UInt8->LA->Int->Option Int) (b c d e f:Int) (g h:List UInt8) (a:LA) (n i:Int) (δ:T) (κl:(Int×Int)->T) (κr:(Int)->T):T:=br (decide (i<a.length)) (br (decide (n<b)) (br (decide (0<=i)&&(decide (i<a.length))) (br (ixT a i 7 [Sh.int .i64,Sh.int .i64,Sh.int .i64,Sh.int .i64,Sh.str,Sh.str,Sh.list 7] 0) (br ((xbI R b a n i).isSome) (κl (i64.wrap (n+(xbI R b a n i).getD 0),i64.wrap (i+1))) δ) δ) δ) (κr (n))) (κr (n))
def xai (R:Int->Int->Int->Int->List UInt8->List UInt8->LA->Int->Option Int) (a b c d e:Int) (f g:List UInt8) (h:LA):StT (Int×Int) (Int):=fun (n,i)=>xbs R a b c d e f g h n i none inL inR
def xbT (R:Int->Int->Int->Int->List UInt8->List UInt8->LA->Int->Option Int) (a b c d e:Int) (f g:List UInt8) (h:LA):(Int×Int)->LA×List Box:=fun (n,i)=>([AV.int .i64 a,AV.eptr 7 [AV.agg [AV.int .i64 b,AV.int .i64 c,AV.int .i64 d,AV.int .i64 e,AV.str f,AV.str g,AV.list 7 h]] 0 0,AV.int .i64 n,AV.int .i64 i],[])
def xcN (R:Int->Int->Int->Int->List UInt8->List UInt8->LA->Int->Option Int) (a b c d e:Int) (f g:List UInt8) (h:LA):(Int)->LR:=fun p=>(.leaf (.exit 0) [AV.int .i64 p] [])
abbrev xmt (R:Int->Int->Int->Int->List UInt8->List UInt8->LA->Int->Option Int) (a:LA) (H:List Box):=XR P0 (xeE R) [1,2,5,6] [5] [] (xIc Tryz.f22 0) a H
def xq4 (R:Int->Int->Int->Int->List UInt8->List UInt8->LA->Int->Option Int) (a b c d e:Int) (f g:List UInt8) (j:LA) (s:Int×Int):Enc (encR (xbT R a b c d e f g j) (xcN R a b c d e f g j)) (xai R a b c d e f g j s) (xmt R (xbT R a b c d e f g j s).1 (xbT R a b c d e f g j s).2):=by
 obtain ⟨n,i⟩:=s;have h:xmt R (xbT R a b c d e f g j (n,i)).1 (xbT R a b c d e f g j (n,i)).2=xbs R a b c d e f g j n i none (fun s=>some (encR (xbT R a b c d e f g j) (xcN R a b c d e f g j) (.inl s))) (fun p=>some (encR (xbT R a b c d e f g j) (xcN R a b c d e f g j) (.inr p))):=by kernel_rfl
 rw [h];unfold xai xbs;repeat' (first|refine Enc.br ?_ ?_|exact Enc.none|exact Enc.some rfl)
def xio (R:Int->Int->Int->Int->List UInt8->List UInt8->LA->Int->Option Int):Lp:=lpOf [1,2,5,6] [5] [] (xIR (pInt .i64) (xIR (xI9 7 0 0 (xIR (xI4 (xIR (pInt .i64) (xIR (pInt .i64) (xIR (pInt .i64) (xIR (pInt .i64) (xIR pStr (xIR pStr (xIR (xI8 7 xIV) xIT)))))))) xIT)) (xIR (pInt .i64) (xIR (pInt .i64) xIT)))) xIT fun (a,(((b,(c,(d,(e,(f,(g,(h,_))))))),_),(n,(i,_)))) _=>((Iter (xai R a b c d e f g h) (n,i)).isSome,xcN R a b c d e f g h ((Iter (xai R a b c d e f g h) (n,i)).getD 0))
def xpT (R:Int->Int->Int->Int->List UInt8->List UInt8->LA->Int->Option Int) (j:xin R):LoopOk P0 (xIQ.at (xeE R).pin) (xeE R).nt (xIc Tryz.f22 0) (xio R):=xm8 fun l o q m=>by
 obtain ⟨a,⟨⟨⟨b,⟨c,⟨d,⟨e,⟨f,⟨g,⟨h,_⟩⟩⟩⟩⟩⟩⟩,_⟩,⟨n,⟨i,_⟩⟩⟩⟩:=l;obtain ⟨k,rfl⟩:=Prod.mk.inj m;exact xg4 xIh (xIi P0 _) rfl (xqu R j) (xoh R j) (xbT R a b c d e f g h) (xcN R a b c d e f g h) (fun p=>by simp only [xcN,LR.eval];first|(simp;done)|(repeat' split<;>simp)) (xq4 R a b c d e f g h) (s:=(n,i)) (xaE k)
def xdv (R:Int->Int->Int->Int->List UInt8->List UInt8->LA->Int->Option (Int)):Env:=(xou.E.with 22 (xdE R)).fn 31 0 (lsOf [1000030]) (xIu [(3,xio R)])
def xqv (R:Int->Int->Int->Int->List UInt8->List UInt8->LA->Int->Option (Int)) (a:xdd R):xH8 P0 (xIQ.at 0) (xdv R):=(xou.ok.with a).fn
def xpe (R:Int->Int->Int->Int->List UInt8->List UInt8->LA->Int->Option (Int)) (c:xdd R):LoOk P0 (xIQ.at (xdv R).pin) (xdv R) (Tryz.f22.body.getD .skip):=xgd (ls:=[xIc Tryz.f22 0]) (by kernel_rfl) (fun l b lp a=>by
 simp only [zD,List.not_mem_nil,or_false] at b;rcases b with rfl
 . rw [show (xdv R).lp (xIm (xIc Tryz.f22 0))=some (xio R) by kernel_rfl] at a
   simp only [z6] at a;subst a;exact xpT R c)
def xgJ {T:Type} (R:Int->Int->Int->Int->List UInt8->List UInt8->LA->Int->Option Int) (c i d e:Int) (f g:List UInt8) (a:LA) (b:Int) (δ:T) (κ:Int->T):T:=br ((Iter (xai R b c i d e f g a) (1,0)).isSome) (κ ((Iter (xai R b c i d e f g a) (1,0)).getD 0)) δ
def xdu (R:Int->Int->Int->Int->List UInt8->List UInt8->LA->Int->Option Int) (c i d e:Int) (f g:List UInt8) (a:LA) (b:Int):=xgJ R c i d e f g a b none some
def xtz (R:Int->Int->Int->Int->List UInt8->List UInt8->LA->Int->Option Int) (c i d e:Int) (f g:List UInt8) (a:LA) (b:Int):Enc (fun (p:Int)=>((AV.int .i64 p):AV)) (xdu R c i d e f g a b) (XF P0 (xdv R) Tryz.f22 (Tryz.f22.body.getD .skip) [AV.agg [AV.int .i64 c,AV.int .i64 i,AV.int .i64 d,AV.int .i64 e,AV.str f,AV.str g,AV.list 7 a],AV.int .i64 b]):=by
 have h:XF P0 (xdv R) Tryz.f22 (Tryz.f22.body.getD .skip) [AV.agg [AV.int .i64 c,AV.int .i64 i,AV.int .i64 d,AV.int .i64 e,AV.str f,AV.str g,AV.list 7 a],AV.int .i64 b]=xgJ R c i d e f g a b none (fun (p:Int)=>some ((AV.int .i64 p):AV)):=by kernel_rfl
 rw [h];unfold xdu xgJ;repeat' (first|refine Enc.br ?_ ?_|exact Enc.none|exact Enc.some rfl)
def xty (R:Int->Int->Int->Int->List UInt8->List UInt8->LA->Int->Option Int):LA->Option (Bool×AV):=ocOf (xIS (xI7 (xIS (sEq (pInt .i64)) (xIS (sEq (pInt .i64)) (xIS (sEq (pInt .i64)) (xIS (sEq (pInt .i64)) (xIS (sEq pStr) (xIS (sEq pStr) (xIS (xI6 7 xIV) xIU)))))))) (xIS (sEq (pInt .i64)) xIU)) fun ((c,(i,(d,(e,(f,(g,(a,_))))))),(b,_))=>((xdu R c i d e f g a b).isSome,(AV.int .i64 ((xdu R c i d e f g a b).getD 0)))
def xtw (R:Int->Int->Int->Int->List UInt8->List UInt8->LA->Int->Option Int) (a:xdd R):OcOk P0 xIQ 22 (xty R):=xdB fun e j f=>by
 obtain ⟨⟨k,⟨i,⟨l,⟨m,⟨n,⟨o,⟨g,_⟩⟩⟩⟩⟩⟩⟩,⟨h,_⟩⟩:=e;obtain ⟨b,c⟩:=Prod.mk.inj f;refine xfp (p:=(xdv R).pin) (xhu xIh (xIi P0 _) rfl (xqv R a) Tryz.func22 rfl (by kernel_rfl) (xpe R a) ((xtz R _ _ _ _ _ _ _ _ _ (xaE (d:=0) b)).trans ?_))
 exact congrArg some c
def xap:Nat->Int->Int->Int->Int->List UInt8->List UInt8->LA->Int->Option (Int)
 | 0=>fun _ _ _ _ _ _ _ _=>none
 | fu_+1=>fun c i d e f g a b=>xdu (xap fu_) c i d e f g a b
def xms:∀ n,xdd (xap n)
 | 0=>xdB fun _ _ h=>absurd (Prod.mk.inj h).1 Bool.false_ne_true
 | fu_+1=>fun a r h=>xtw (xap fu_) (xms fu_) a r h
def xd3:Int->Int->Int->Int->List UInt8->List UInt8->LA->Int->Option (Int):=fun c i d e f g a b=>limN fun n=>xap n c i d e f g a b
def xq3:xdd xd3:=xpf 22 xap xms
def xAa:Env:=xou.E.with 22 (xdE xd3)
def xAc:xH8 P0 xIQ xAa:=xou.ok.with xq3
def xAb:EO:=EO.mk xAa xAc
def xmi {T:Type} (l:LA) (a:Int) (δ:T) (κ:Bool->T):T:=br ((xd3 0 0 0 0 [] [] l (i64.wrap (a+2))).isSome) (κ (decide ((xd3 0 0 0 0 [] [] l (i64.wrap (a+2))).getD 0<=i64.wrap (a+1)))) δ
def xog (l:LA) (a:Int):=xmi l a none some
def xE6:EO:=xAb.f Tryz.func7 13 0 [] [] lk0 (u2 (uL 7) uI) (fun (l,a,_) _=>xmi l a) (fun _ p=>AV.bool p) false
def xhy (a:Int):Int×Int:=(br (a==1) ((0,0)) (br (a==2) ((0,0)) (br (a==4) ((1,1)) (br (a==18) ((1,1)) (br (a==20) ((1,1)) (br (a==21) ((1,1)) (br (a==5) ((2,1099511627776)) (br (a==6) ((2,1099511627776)) (br (a==7) ((2,2)) (br (a==8) ((2,2)) (br (a==9) ((2,2)) (br (a==10) ((2,2)) (br (a==11) ((2,2)) (br (a==12) ((2,2)) (br (a==13) ((2,2)) (br (a==14) ((2,2)) (br (a==15) ((2,2)) (br (a==16) ((2,2)) (br (a==17) ((2,2)) (br (a==19) ((2,2)) (br (a==22) ((3,3)) (br (a==23) ((1,1099511627776)) (br (a==24) ((4,4)) (((-1),0)))))))))))))))))))))))))
def xuR {T:Type} (a:Int) (δ:T) (κ:Int×Int->T):T:=br (a==1) (κ (0,0)) (br (a==2) (κ (0,0)) (br (a==4) (κ (1,1)) (br (a==18) (κ (1,1)) (br (a==20) (κ (1,1)) (br (a==21) (κ (1,1)) (br (a==5) (κ (2,1099511627776)) (br (a==6) (κ (2,1099511627776)) (br (a==7) (κ (2,2)) (br (a==8) (κ (2,2)) (br (a==9) (κ (2,2)) (br (a==10) (κ (2,2)) (br (a==11) (κ (2,2)) (br (a==12) (κ (2,2)) (br (a==13) (κ (2,2)) (br (a==14) (κ (2,2)) (br (a==15) (κ (2,2)) (br (a==16) (κ (2,2)) (br (a==17) (κ (2,2)) (br (a==19) (κ (2,2)) (br (a==22) (κ (3,3)) (br (a==23) (κ (1,1099511627776)) (br (a==24) (κ (4,4)) (κ ((-1),0))))))))))))))))))))))))
def xE7:EO:=xE6.fT Tryz.func69 35 0 [7000000] [] lk0 (fun (a,_)=>xuR a none) (u1 uI) (fun (a,_)=>xhy a) (fun _ p=>(AV.tuple [AV.int .i64 p.1,AV.int .i64 p.2]))
def xlu {T:Type} (a e b c:Int) (d g:List UInt8) (f:LA) (δ:T) (κ:Bool->T):T:=br (decide ((xhy a).fst<0)) (κ (false)) (br (decide ((↑f.length:Int)<(xhy a).fst)) (κ (false)) (br (decide ((↑f.length:Int)>(xhy a).snd)) (κ (false)) (br (!g==[]) (κ (false)) (br (a==1) (br (e==0) (br ((xhw b c d).isSome) (κ ((xhw b c d).getD false)) δ) (κ (false))) (br (a==2) (κ (b==0&&(c==0&&(d==[]&&true)))) (br (a==24) (br (b==0&&(c==0&&(d==[]&&true))) (br (decide (e>=0)) (κ (decide (e<13))) (κ (false))) (κ (false))) (br (e==0) (κ (b==0&&(c==0&&(d==[]&&true)))) (κ (false)))))))))
def xkW (a b c d:Int) (e f:List UInt8) (g:LA):=xlu a b c d e f g none some
def xov:EO:=xE7.f Tryz.func70 75 0 [] [] lk0 (u1 (xI7 (u7 uI uI uI uI (sEq pStr) (sEq pStr) (uL 7)))) (fun ((a,b,c,d,e,g,h,_),_) _=>xlu a b c d e g h) (fun _ p=>AV.bool p) false
def xd2 (R:Int->Int->Int->Int->List UInt8->List UInt8->LA->Option (Int)):LA->Option (Bool×AV):=ocOf (xIS (xI7 (xIS (sEq (pInt .i64)) (xIS (sEq (pInt .i64)) (xIS (sEq (pInt .i64)) (xIS (sEq (pInt .i64)) (xIS (sEq pStr) (xIS (sEq pStr) (xIS (xI6 7 xIV) xIU)))))))) xIU) fun ((b,(i,(c,(d,(e,(f,(a,_))))))),_)=>((R b i c d e f a).isSome,AV.int .i64 ((R b i c d e f a).getD 0))
def xpS (k:Go.FuncId) (R:Nat->Int->Int->Int->Int->List UInt8->List UInt8->LA->Option (Int)) (g:∀ n,OcOk P0 xIQ k (xd2 (R n))):OcOk P0 xIQ k (xd2 (fun b i c d e f a=>limN fun n=>R n b i c d e f a)):=xo6 g fun v h=>by
 obtain ⟨⟨b,⟨i,⟨c,⟨d,⟨e,⟨f,⟨a,_⟩⟩⟩⟩⟩⟩⟩,_⟩:=v;obtain ⟨n,j⟩:=xjx (R:=fun n=>R n b i c d e f a) h
 exact ⟨n,congrArg (fun o=>(Option.isSome o,(AV.int .i64 (Option.getD o 0):AV))) j⟩
def xdD (R:Int->Int->Int->Int->List UInt8->List UInt8->LA->Option (Int)):Prop:=OcOk P0 xIQ 42 (xd2 R)
def xfj (R:Int->Int->Int->Int->List UInt8->List UInt8->LA->Option (Int)):Env:=(xov.E.with 42 (xd2 R)).fn 22 0 (lsOf [1000030]) (xIu [])
abbrev xix (R:Int->Int->Int->Int->List UInt8->List UInt8->LA->Option (Int)):Prop:=xdD R
def xq1 (R:Int->Int->Int->Int->List UInt8->List UInt8->LA->Option (Int)) (a:xix R):xH8 P0 (xIQ.at 0) (xfj R):=(xov.ok.with a).fn
def xoM (R:Int->Int->Int->Int->List UInt8->List UInt8->LA->Option (Int)) (a:xix R):LoOk P0 (xIQ.at (xfj R).pin) (xfj R) (xIc Tryz.f42 0):=xdY (by kernel_rfl)
def xeU (R:Int->Int->Int->Int->List UInt8->List UInt8->LA->Option Int) (a:LA) (i:Int):=R (gC a i 0).toInt (gC a i 1).toInt (gC a i 2).toInt (gC a i 3).toInt (gC a i 4).toStr (gC a i 5).toStr (gC a i 6).toList
def xfw {T:Type} (R:Int->Int->Int->Int->List UInt8->List UInt8->LA->Option Int) (b c d e:Int) (f g:List UInt8) (a:LA) (n i:Int) (δ:T) (κl:(Int×Int)->T) (κr:(Int)->T):T:=br (decide (i<a.length)) (br (decide (0<=i)&&(decide (i<a.length))) (br (ixT a i 7 [Sh.int .i64,Sh.int .i64,Sh.int .i64,Sh.int .i64,Sh.str,Sh.str,Sh.list 7] 0) (br ((xeU R a i).isSome) (κl (if ((xeU R a i).getD 0)>n then ((xeU R a i).getD 0) else n,i64.wrap (i+1))) δ) δ) δ) (κr (n))
def xa6 (R:Int->Int->Int->Int->List UInt8->List UInt8->LA->Option Int) (a b c d:Int) (e f:List UInt8) (g:LA):StT (Int×Int) (Int):=fun (n,i)=>xfw R a b c d e f g n i none inL inR
def xb7 (R:Int->Int->Int->Int->List UInt8->List UInt8->LA->Option Int) (a b c d:Int) (e f:List UInt8) (g:LA):(Int×Int)->LA×List Box:=fun (n,i)=>([AV.eptr 7 [AV.agg [AV.int .i64 a,AV.int .i64 b,AV.int .i64 c,AV.int .i64 d,AV.str e,AV.str f,AV.list 7 g]] 0 0,AV.int .i64 n,AV.int .i64 i],[])
def xdc (R:Int->Int->Int->Int->List UInt8->List UInt8->LA->Option Int) (a b c d:Int) (e f:List UInt8) (g:LA):(Int)->LR:=fun p=>(.leaf (.exit 0) [AV.int .i64 p] [])
abbrev xnk (R:Int->Int->Int->Int->List UInt8->List UInt8->LA->Option Int) (a:LA) (H:List Box):=XR P0 (xfj R) [1,3,4] [3] [] (xIc Tryz.f42 0) a H
def xr3 (R:Int->Int->Int->Int->List UInt8->List UInt8->LA->Option Int) (a b c d:Int) (e f:List UInt8) (g:LA) (s:Int×Int):Enc (encR (xb7 R a b c d e f g) (xdc R a b c d e f g)) (xa6 R a b c d e f g s) (xnk R (xb7 R a b c d e f g s).1 (xb7 R a b c d e f g s).2):=by
 obtain ⟨n,i⟩:=s;have h:xnk R (xb7 R a b c d e f g (n,i)).1 (xb7 R a b c d e f g (n,i)).2=xfw R a b c d e f g n i none (fun s=>some (encR (xb7 R a b c d e f g) (xdc R a b c d e f g) (.inl s))) (fun p=>some (encR (xb7 R a b c d e f g) (xdc R a b c d e f g) (.inr p))):=by kernel_rfl
 rw [h];unfold xa6 xfw;repeat' (first|refine Enc.br ?_ ?_|exact Enc.none|exact Enc.some rfl)
def xi0 (R:Int->Int->Int->Int->List UInt8->List UInt8->LA->Option Int):Lp:=lpOf [1,3,4] [3] [] (xIR (xI9 7 0 0 (xIR (xI4 (xIR (pInt .i64) (xIR (pInt .i64) (xIR (pInt .i64) (xIR (pInt .i64) (xIR pStr (xIR pStr (xIR (xI8 7 xIV) xIT)))))))) xIT)) (xIR (pInt .i64) (xIR (pInt .i64) xIT))) xIT fun (((a,(b,(c,(d,(e,(f,(g,_))))))),_),(n,(i,_))) _=>((Iter (xa6 R a b c d e f g) (n,i)).isSome,xdc R a b c d e f g ((Iter (xa6 R a b c d e f g) (n,i)).getD 0))
def xqt (R:Int->Int->Int->Int->List UInt8->List UInt8->LA->Option Int) (h:xix R):LoopOk P0 (xIQ.at (xfj R).pin) (xfj R).nt (xIc Tryz.f42 0) (xi0 R):=xm8 fun k m o l=>by
 obtain ⟨⟨⟨a,⟨b,⟨c,⟨d,⟨e,⟨f,⟨g,_⟩⟩⟩⟩⟩⟩⟩,_⟩,⟨n,⟨i,_⟩⟩⟩:=k;obtain ⟨j,rfl⟩:=Prod.mk.inj l;exact xg4 xIh (xIi P0 _) rfl (xq1 R h) (xoM R h) (xb7 R a b c d e f g) (xdc R a b c d e f g) (fun p=>by simp only [xdc,LR.eval];first|(simp;done)|(repeat' split<;>simp)) (xr3 R a b c d e f g) (s:=(n,i)) (xaE j)
def xd1 (R:Int->Int->Int->Int->List UInt8->List UInt8->LA->Option (Int)):Env:=(xov.E.with 42 (xd2 R)).fn 22 0 (lsOf [1000030]) (xIu [(3,xi0 R)])
def xq2 (R:Int->Int->Int->Int->List UInt8->List UInt8->LA->Option (Int)) (a:xdD R):xH8 P0 (xIQ.at 0) (xd1 R):=(xov.ok.with a).fn
def xpR (R:Int->Int->Int->Int->List UInt8->List UInt8->LA->Option (Int)) (c:xdD R):LoOk P0 (xIQ.at (xd1 R).pin) (xd1 R) (Tryz.f42.body.getD .skip):=xgd (ls:=[xIc Tryz.f42 0]) (by kernel_rfl) (fun l b lp a=>by
 simp only [zD,List.not_mem_nil,or_false] at b;rcases b with rfl
 . rw [show (xd1 R).lp (xIm (xIc Tryz.f42 0))=some (xi0 R) by kernel_rfl] at a
   simp only [z6] at a;subst a;exact xqt R c)
def xjB {T:Type} (R:Int->Int->Int->Int->List UInt8->List UInt8->LA->Option Int) (b i c d:Int) (e f:List UInt8) (a:LA) (δ:T) (κ:Int->T):T:=br ((Iter (xa6 R b i c d e f a) (0,0)).isSome) (κ (i64.wrap ((Iter (xa6 R b i c d e f a) (0,0)).getD 0+1))) δ
def xgf (R:Int->Int->Int->Int->List UInt8->List UInt8->LA->Option Int) (b i c d:Int) (e f:List UInt8) (a:LA):=xjB R b i c d e f a none some
def xuX (R:Int->Int->Int->Int->List UInt8->List UInt8->LA->Option Int) (b i c d:Int) (e f:List UInt8) (a:LA):Enc (fun (p:Int)=>((AV.int .i64 p):AV)) (xgf R b i c d e f a) (XF P0 (xd1 R) Tryz.f42 (Tryz.f42.body.getD .skip) [AV.agg [AV.int .i64 b,AV.int .i64 i,AV.int .i64 c,AV.int .i64 d,AV.str e,AV.str f,AV.list 7 a]]):=by
 have h:XF P0 (xd1 R) Tryz.f42 (Tryz.f42.body.getD .skip) [AV.agg [AV.int .i64 b,AV.int .i64 i,AV.int .i64 c,AV.int .i64 d,AV.str e,AV.str f,AV.list 7 a]]=xjB R b i c d e f a none (fun (p:Int)=>some ((AV.int .i64 p):AV)):=by kernel_rfl
 rw [h];unfold xgf xjB;repeat' (first|refine Enc.br ?_ ?_|exact Enc.none|exact Enc.some rfl)
def xuW (R:Int->Int->Int->Int->List UInt8->List UInt8->LA->Option Int):LA->Option (Bool×AV):=ocOf (xIS (xI7 (xIS (sEq (pInt .i64)) (xIS (sEq (pInt .i64)) (xIS (sEq (pInt .i64)) (xIS (sEq (pInt .i64)) (xIS (sEq pStr) (xIS (sEq pStr) (xIS (xI6 7 xIV) xIU)))))))) xIU) fun ((b,(i,(c,(d,(e,(f,(a,_))))))),_)=>((xgf R b i c d e f a).isSome,(AV.int .i64 ((xgf R b i c d e f a).getD 0)))
def xuV (R:Int->Int->Int->Int->List UInt8->List UInt8->LA->Option Int) (a:xdD R):OcOk P0 xIQ 42 (xuW R):=xdB fun e h f=>by
 obtain ⟨⟨j,⟨i,⟨k,⟨l,⟨m,⟨n,⟨g,_⟩⟩⟩⟩⟩⟩⟩,_⟩:=e;obtain ⟨b,c⟩:=Prod.mk.inj f;refine xfp (p:=(xd1 R).pin) (xhu xIh (xIi P0 _) rfl (xq2 R a) Tryz.func42 rfl (by kernel_rfl) (xpR R a) ((xuX R _ _ _ _ _ _ _ _ (xaE (d:=0) b)).trans ?_))
 exact congrArg some c
def xcU:Nat->Int->Int->Int->Int->List UInt8->List UInt8->LA->Option (Int)
 | 0=>fun _ _ _ _ _ _ _=>none
 | fu_+1=>fun b i c d e f a=>xgf (xcU fu_) b i c d e f a
def xnj:∀ n,xdD (xcU n)
 | 0=>xdB fun _ _ h=>absurd (Prod.mk.inj h).1 Bool.false_ne_true
 | fu_+1=>fun a r h=>xuV (xcU fu_) (xnj fu_) a r h
def xhn:Int->Int->Int->Int->List UInt8->List UInt8->LA->Option (Int):=fun b i c d e f a=>limN fun n=>xcU n b i c d e f a
def xr2:xdD xhn:=xpS 42 xcU xnj
def xAd:Env:=xov.E.with 42 (xd2 xhn)
def xAe:xH8 P0 xIQ xAd:=xov.ok.with xr2
def xtJ:EO:=EO.mk xAd xAe
def xgq {T:Type} (l:LA) (i:Int) (δ:T) (κl:(Int×Int)->T):T:=br (ixI l i) (br (ixS l i (Sh.int .i64) 0) (κl ((gC l i 0).toInt,i64.wrap (i+1))) δ) δ
def xhQ {T:Type} (l:LA) (k i:Int) (δ:T) (κl:(Int×Int)->T) (κr:(Bool×(Int×Bool×Int)×(Int))->T):T:=br (decide (i<l.length)) (br (ixI l i) (br (ixS l i (Sh.int .i64) 0) (br ((gC l i 0).toInt==0) (κl (k,i64.wrap (i+1))) (br (k != 0) (br (ixI l i) (br (ixS l i (Sh.int .i64) 0) (br (k != (gC l i 0).toInt) (κr (true,(0,false,k),0)) (xgq l i δ κl)) δ) δ) (xgq l i δ κl))) δ) δ) (κr (false,(0,false,0),(k)))
def xc9 (l:LA):StT (Int×Int) (Bool×(Int×Bool×Int)×(Int)):=fun (k,i)=>xhQ l k i none inL inR
def xnf:=xtJ.l 32 0 [] [] Tryz.f106 0 lk0 [0,4,5] [2,3,4] [] (q3 (qL 1) qI qI) xIT (fun (l,k,i,_) _=>(xc9 l,(k,i),fun p=>(.node p.1 (.leaf .ret [AV.int .i64 p.2.1.1,AV.bool p.2.1.2.1,AV.int .i64 p.2.1.2.2] []) (.leaf (.exit 0) [.top,.top,AV.int .i64 p.2.2] [])))) (false,(0,false,0),0) fun (l,_,_,_) _ (k,i)=>(((l,k,i,()),()),xhQ l k i none)
def xhm (l:LA):=(Iter (xc9 l) (0,0)).getD (false,(0,false,0),0)
def xng {T:Type} (l:LA) (δ:T) (κ:Int×Bool->T):T:=br ((Iter (xc9 l) (0,0)).isSome) (br ((xhm l).fst) (κ ((((xhm l).snd).fst).fst,(((xhm l).snd).fst).snd.fst)) (κ (((xhm l).snd).snd,true))) δ
def xdt (l:LA):=xng l none some
def xAf:EO:=xtJ.f Tryz.func106 32 0 [] [(3,xnf.lp)] (lk1 xnf.ok) (u1 (uL 1)) (fun (l,_) _=>xng l) (fun _ p=>AV.tuple [AV.int .i64 p.1,AV.bool p.2]) (0,false)
def xiJ {T:Type} (l:LA) (a i:Int) (δ:T) (κl:(Int)->T) (κr:(Bool×(Bool)×(Unit))->T):T:=br (decide (i<l.length)) (br (ixI l i) (br (ixS l i (Sh.int .i64) 0) (br ((gC l i 0).toInt != a) (br (ixI l i) (br (ixS l i (Sh.int .i64) 0) (br ((gC l i 0).toInt != 0) (κr (true,(false),())) (κl (i64.wrap (i+1)))) δ) δ) (κl (i64.wrap (i+1)))) δ) δ) (κr (false,false,()))
def xcA (l:LA) (a:Int):StT (Int) (Bool×(Bool)×(Unit)):=fun (i)=>xiJ l a i none inL inR
def xnY:=xAf.l 25 0 [] [] Tryz.f105 0 lk0 [0,1,5] [4] [] (q3 (qL 1) qI qI) xIT (fun (l,a,i,_) _=>(xcA l a,(i),fun p=>(.node p.1 (.leaf .ret [AV.bool p.2.1] []) (.leaf (.exit 0) [.top] [])))) (false,false,()) fun (l,a,_,_) _ (i)=>(((l,a,i,()),()),xiJ l a i none)
def xof {T:Type} (l:LA) (a:Int) (δ:T) (κ:Bool->T):T:=br ((Iter (xcA l a) 0).isSome) (br (((Iter (xcA l a) 0).getD (false,false,())).fst) (κ (((Iter (xcA l a) 0).getD (false,false,())).snd.fst)) (κ (true))) δ
def xcF (l:LA) (a:Int):=xof l a none some
def xE8:EO:=xAf.f Tryz.func105 25 0 [] [(2,xnY.lp)] (lk1 xnY.ok) (u2 (uL 1) uI) (fun (l,a,_) _=>xof l a) (fun _ p=>AV.bool p) false
def xcX {T:Type} (l:LA) (δ:T) (κ:Int×Bool->T):T:=br ((xdt l).isSome) (κ (3,((xdt l).getD (0,false)).snd)) δ
def xcY {T:Type} (l:LA) (δ:T) (κ:Int×Bool->T):T:=br ((xcF l 1).isSome) (κ (1,(xcF l 1).getD false)) δ
def xg7 {T:Type} (l:LA) (δ:T) (κ:Int×Bool->T):T:=br ((xcF l 3).isSome) (κ (3,(xcF l 3).getD false)) δ
def xlz {T:Type} (a c d e:Int) (f g:List UInt8) (h l b:LA) (δ:T) (κ:Int×Bool->T):T:=br (a==1) (κ (d,true)) (br (a==2) (br (ixI b c) (br (ixS b c (Sh.int .i64) 0) (κ ((gC b c 0).toInt,true)) δ) δ) (br (a==4) (xg7 l δ κ) (br (a==5) (xg7 l δ κ) (br (a==6) (xg7 l δ κ) (br (a==7) (xcX l δ κ) (br (a==8) (xcX l δ κ) (br (a==9) (xcX l δ κ) (br (a==10) (xcX l δ κ) (br (a==11) (xcX l δ κ) (br (a==12) (xcX l δ κ) (br (a==13) (xcY l δ κ) (br (a==14) (xcY l δ κ) (br (a==15) (xcY l δ κ) (br (a==16) (xcY l δ κ) (br (a==17) (xcY l δ κ) (br (a==18) (xcY l δ κ) (br (a==19) (br ((xcF l 2).isSome) (κ (2,(xcF l 2).getD false)) δ) (br (a==20) (br ((xcF l 2).isSome) (κ (1,(xcF l 2).getD false)) δ) (br (a==21) (κ (3,true)) (br (a==22) (br (decide (1<=(↑l.length:Int))) (br ((xdt (List.take (l.length - 1) (List.drop 1 l))).isSome) (br (((xdt (List.take (l.length - 1) (List.drop 1 l))).getD (0,false)).snd) (br (decide (1<=(↑l.length:Int))&&true) (br ((xcF (List.take 1 (List.drop 0 l)) 3).isSome) (κ (((xdt (List.take (l.length - 1) (List.drop 1 l))).getD (0,false)).fst,(xcF (List.take 1 (List.drop 0 l)) 3).getD false)) δ) δ) (κ (((xdt (List.take (l.length - 1) (List.drop 1 l))).getD (0,false)).fst,false))) δ) δ) (br (a==23) (br ((xdt l).isSome) (κ (((xdt l).getD (0,false)).fst,((xdt l).getD (0,false)).snd)) δ) (br ((xcF l 1).isSome) (κ (3,(xcF l 1).getD false)) δ))))))))))))))))))))))
def xgI (b c d e:Int) (f g:List UInt8) (h l a:LA):=xlz b c d e f g h l a none some
def xow:EO:=xE8.f Tryz.func71 87 0 [7000000] [] lk0 (u3 (xI7 (u7 uI uI uI uI (sEq pStr) (sEq pStr) (uL 7))) (uL 1) (uL 1)) (fun ((b,c,d,e,g,h,i,_),l,a,_) _=>xlz b c d e g h i l a) (fun _ p=>AV.tuple [AV.int .i64 p.1,AV.bool p.2]) (0,false)
def xd0 (R:Int->Int->Int->Int->List UInt8->List UInt8->LA->LA->Option (Int×Int)):LA->Option (Bool×AV):=ocOf (xIS (xI7 (xIS (sEq (pInt .i64)) (xIS (sEq (pInt .i64)) (xIS (sEq (pInt .i64)) (xIS (sEq (pInt .i64)) (xIS (sEq pStr) (xIS (sEq pStr) (xIS (xI6 7 xIV) xIU)))))))) (xIS (xI6 1 xIV) xIU)) fun ((b,(i,(c,(d,(e,(f,(a,_))))))),(g,_))=>((R b i c d e f a g).isSome,AV.tuple [AV.int .i64 (((R b i c d e f a g).getD (0,0))).1,AV.int .i64 (((R b i c d e f a g).getD (0,0))).2])
def xpQ (k:Go.FuncId) (R:Nat->Int->Int->Int->Int->List UInt8->List UInt8->LA->LA->Option (Int×Int)) (j:∀ n,OcOk P0 xIQ k (xd0 (R n))):OcOk P0 xIQ k (xd0 (fun b i c d e f a g=>limN fun n=>R n b i c d e f a g)):=xo6 j fun v h=>by
 obtain ⟨⟨b,⟨i,⟨c,⟨d,⟨e,⟨f,⟨a,_⟩⟩⟩⟩⟩⟩⟩,⟨g,_⟩⟩:=v;obtain ⟨n,l⟩:=xjx (R:=fun n=>R n b i c d e f a g) h
 exact ⟨n,congrArg (fun o=>(Option.isSome o,(AV.tuple [AV.int .i64 ((Option.getD o (0,0))).1,AV.int .i64 ((Option.getD o (0,0))).2]:AV))) l⟩
def xdC (R:Int->Int->Int->Int->List UInt8->List UInt8->LA->LA->Option (Int×Int)):Prop:=OcOk P0 xIQ 43 (xd0 R)
def xfi (R:Int->Int->Int->Int->List UInt8->List UInt8->LA->LA->Option (Int×Int)):Env:=(xow.E.with 43 (xd0 R)).fn 75 0 (lsOf [1000030]) (xIu [])
abbrev xiY (R:Int->Int->Int->Int->List UInt8->List UInt8->LA->LA->Option (Int×Int)):Prop:=xdC R
def xqx (R:Int->Int->Int->Int->List UInt8->List UInt8->LA->LA->Option (Int×Int)) (a:xiY R):xH8 P0 (xIQ.at 0) (xfi R):=(xow.ok.with a).fn
def xoL (R:Int->Int->Int->Int->List UInt8->List UInt8->LA->LA->Option (Int×Int)) (a:xiY R):LoOk P0 (xIQ.at (xfi R).pin) (xfi R) (xIc Tryz.f43 0):=xdY (by kernel_rfl)
def xgr (R:Int->Int->Int->Int->List UInt8->List UInt8->LA->LA->Option (Int×Int)) (b a:LA) (i:Int):Option (Int×Int):=R (gC a i 0).toInt (gC a i 1).toInt (gC a i 2).toInt (gC a i 3).toInt (gC a i 4).toStr (gC a i 5).toStr (gC a i 6).toList b
def xeT (R:Int->Int->Int->Int->List UInt8->List UInt8->LA->LA->Option (Int×Int)) (a b:LA) (i:Int):Int×Int:=(xgr R a b i).getD (0,0)
def xfv {T:Type} (R:Int->Int->Int->Int->List UInt8->List UInt8->LA->LA->Option (Int×Int)) (a:LA) (e f g h:Int) (j k:List UInt8) (b:LA) (d:Nat) (i:Int) (c:LA) (δ:T) (κl:(Nat×Int×LA)->T) (κr:(Bool×(Int×Int×Nat×LA)×(Nat×LA))->T):T:=br (decide (i<b.length)) (br (decide (0<=i)&&(decide (i<b.length))) (br (ixT b i 7 [Sh.int .i64,Sh.int .i64,Sh.int .i64,Sh.int .i64,Sh.str,Sh.str,Sh.list 7] 0) (br ((xgr R a b i).isSome) (br (((xeT R a b i).snd) != 0) (κr (true,(0,((xeT R a b i).snd),d,c),(0,[]))) (br (rmB d c 1 8) (κl (d+1,i64.wrap (i+1),c++[AV.int .i64 (xeT R a b i).fst])) δ)) δ) δ) δ) (κr (false,(0,0,0,[]),(d,c)))
def xbr (R:Int->Int->Int->Int->List UInt8->List UInt8->LA->LA->Option (Int×Int)) (a:LA) (c d e f:Int) (g h:List UInt8) (j:LA):StT (Nat×Int×LA) (Bool×(Int×Int×Nat×LA)×(Nat×LA)):=fun (k,i,b)=>xfv R a c d e f g h j k i b none inL inR
def xb6 (R:Int->Int->Int->Int->List UInt8->List UInt8->LA->LA->Option (Int×Int)) (a:LA) (c d e f:Int) (g h:List UInt8) (j:LA):(Nat×Int×LA)->LA×List Box:=fun (k,i,b)=>([AV.list 1 a,AV.eptr 7 [AV.agg [AV.int .i64 c,AV.int .i64 d,AV.int .i64 e,AV.int .i64 f,AV.str g,AV.str h,AV.list 7 j]] 0 0,AV.osl 0 0 0 k,AV.int .i64 i],[⟨0,1,3,b,false,true⟩])
def xda (R:Int->Int->Int->Int->List UInt8->List UInt8->LA->LA->Option (Int×Int)) (a:LA) (b c d e:Int) (f g:List UInt8) (h:LA):(Bool×(Int×Int×Nat×LA)×(Nat×LA))->LR:=fun p=>(.node p.1 (.leaf .ret [AV.list 1 a,AV.eptr 7 [AV.agg [AV.int .i64 b,AV.int .i64 c,AV.int .i64 d,AV.int .i64 e,AV.str f,AV.str g,AV.list 7 h]] 0 0,AV.int .i64 p.2.1.1,AV.int .i64 p.2.1.2.1,AV.osl 0 0 0 p.2.1.2.2.1] [⟨0,1,3,p.2.1.2.2.2,false,true⟩]) (.leaf (.exit 0) [AV.list 1 a,AV.eptr 7 [AV.agg [AV.int .i64 b,AV.int .i64 c,AV.int .i64 d,AV.int .i64 e,AV.str f,AV.str g,AV.list 7 h]] 0 0,.top,.top,AV.osl 0 0 0 p.2.2.1] [⟨0,1,3,p.2.2.2,false,true⟩]))
abbrev xni (R:Int->Int->Int->Int->List UInt8->List UInt8->LA->LA->Option (Int×Int)) (a:LA) (H:List Box):=XR P0 (xfi R) [1,2,8,9] [1,2,4,5,8] [(8,1,3)] (xIc Tryz.f43 0) a H
def xr1 (R:Int->Int->Int->Int->List UInt8->List UInt8->LA->LA->Option (Int×Int)) (a:LA) (b c d e:Int) (f g:List UInt8) (j:LA) (s:Nat×Int×LA):Enc (encR (xb6 R a b c d e f g j) (xda R a b c d e f g j)) (xbr R a b c d e f g j s) (xni R (xb6 R a b c d e f g j s).1 (xb6 R a b c d e f g j s).2):=by
 obtain ⟨l,i,k⟩:=s;have h:xni R (xb6 R a b c d e f g j (l,i,k)).1 (xb6 R a b c d e f g j (l,i,k)).2=xfv R a b c d e f g j l i k none (fun s=>some (encR (xb6 R a b c d e f g j) (xda R a b c d e f g j) (.inl s))) (fun p=>some (encR (xb6 R a b c d e f g j) (xda R a b c d e f g j) (.inr p))):=by kernel_rfl
 rw [h];unfold xbr xfv;repeat' (first|refine Enc.br ?_ ?_|exact Enc.none|exact Enc.some rfl)
def xiZ (R:Int->Int->Int->Int->List UInt8->List UInt8->LA->LA->Option (Int×Int)):Lp:=lpOf [1,2,8,9] [1,2,4,5,8] [(8,1,3)] (xIR (xI8 1 xIV) (xIR (xI9 7 0 0 (xIR (xI4 (xIR (pInt .i64) (xIR (pInt .i64) (xIR (pInt .i64) (xIR (pInt .i64) (xIR pStr (xIR pStr (xIR (xI8 7 xIV) xIT)))))))) xIT)) (xIR (xI2 0 0 0) (xIR (pInt .i64) xIT)))) (xIR (xI5 0 1 3 false true xIV) xIT) fun (a,(((b,(c,(d,(e,(f,(g,(h,_))))))),_),(k,(i,_)))) (j,_)=>((Iter (xbr R a b c d e f g h) (k,i,j)).isSome,xda R a b c d e f g h ((Iter (xbr R a b c d e f g h) (k,i,j)).getD (false,(0,0,0,[]),(0,[]))))
def xqs (R:Int->Int->Int->Int->List UInt8->List UInt8->LA->LA->Option (Int×Int)) (k:xiY R):LoopOk P0 (xIQ.at (xfi R).pin) (xfi R).nt (xIc Tryz.f43 0) (xiZ R):=xm8 fun n o r q=>by
 obtain ⟨a,⟨⟨⟨b,⟨c,⟨d,⟨e,⟨f,⟨g,⟨h,_⟩⟩⟩⟩⟩⟩⟩,_⟩,⟨l,⟨i,_⟩⟩⟩⟩:=n;obtain ⟨j,_⟩:=o;obtain ⟨m,rfl⟩:=Prod.mk.inj q;exact xg4 xIh (xIi P0 _) rfl (xqx R k) (xoL R k) (xb6 R a b c d e f g h) (xda R a b c d e f g h) (fun p=>by simp only [xda,LR.eval];first|(simp;done)|(repeat' split<;>simp)) (xr1 R a b c d e f g h) (s:=(l,i,j)) (xaE m)
def xdx (R:Int->Int->Int->Int->List UInt8->List UInt8->LA->LA->Option (Int×Int)):Env:=(xow.E.with 43 (xd0 R)).fn 75 0 (lsOf [1000030]) (xIu [(10,xiZ R)])
def xq0 (R:Int->Int->Int->Int->List UInt8->List UInt8->LA->LA->Option (Int×Int)) (a:xdC R):xH8 P0 (xIQ.at 0) (xdx R):=(xow.ok.with a).fn
def xpP (R:Int->Int->Int->Int->List UInt8->List UInt8->LA->LA->Option (Int×Int)) (c:xdC R):LoOk P0 (xIQ.at (xdx R).pin) (xdx R) (Tryz.f43.body.getD .skip):=xgd (ls:=[xIc Tryz.f43 0]) (by kernel_rfl) (fun l b lp a=>by
 simp only [zD,List.not_mem_nil,or_false] at b;rcases b with rfl
 . rw [show (xdx R).lp (xIm (xIc Tryz.f43 0))=some (xiZ R) by kernel_rfl] at a
   simp only [z6] at a;subst a;exact xqs R c)
def xly (R:Int->Int->Int->Int->List UInt8->List UInt8->LA->LA->Option (Int×Int)) (b i c d:Int) (e f:List UInt8) (a g:LA):Option (Bool×(Int×Int×Nat×LA)×Nat×LA):=Iter (xbr R g b i c d e f a) (0,0,[])
def xdb (R:Int->Int->Int->Int->List UInt8->List UInt8->LA->LA->Option (Int×Int)) (b i c d:Int) (e f:List UInt8) (a g:LA):Bool×(Int×Int×Nat×LA)×Nat×LA:=(xly R b i c d e f a g).getD (false,(0,0,0,[]),0,[])
def xlw (R:Int->Int->Int->Int->List UInt8->List UInt8->LA->LA->Option (Int×Int)) (b i c d:Int) (e f:List UInt8) (a g:LA):Option (Int×Bool):=xgI b i c d e f a (List.take ((((xdb R b i c d e f a g).snd).snd).fst) (List.drop 0 ((((xdb R b i c d e f a g).snd).snd).snd))) g
def xlv (R:Int->Int->Int->Int->List UInt8->List UInt8->LA->LA->Option (Int×Int)) (b i c d:Int) (e f:List UInt8) (a g:LA):Int×Bool:=(xlw R b i c d e f a g).getD (0,false)
def xhR {T:Type} (R:Int->Int->Int->Int->List UInt8->List UInt8->LA->LA->Option (Int×Int)) (b i c d:Int) (e f:List UInt8) (a g:LA) (δ:T) (κ:Int×Int->T):T:=br ((xly R b i c d e f a g).isSome) (br ((xdb R b i c d e f a g).fst) (κ ((((xdb R b i c d e f a g).snd).fst).fst,(((xdb R b i c d e f a g).snd).fst).snd.fst)) (br (decide (0+((((xdb R b i c d e f a g).snd).snd).fst)<=((((xdb R b i c d e f a g).snd).snd).snd).length)&&true) (br ((xlw R b i c d e f a g).isSome) (br (!(xlv R b i c d e f a g).snd) (κ (0,7)) (κ ((xlv R b i c d e f a g).fst,0))) δ) δ)) δ
def xjA {T:Type} (R:Int->Int->Int->Int->List UInt8->List UInt8->LA->LA->Option (Int×Int)) (b i c d:Int) (e f:List UInt8) (a g:LA) (δ:T) (κ:Int×Int->T):T:=br (decide ((xhy b).fst<0)) (κ (0,7)) (br ((xkW b i c d e f a).isSome) (br (!(xkW b i c d e f a).getD false) (κ (0,8)) (br (b==2) (br (decide (i<0)) (κ (0,13)) (br (decide (i>=g.length)) (κ (0,13)) (xhR R b i c d e f a g δ κ))) (xhR R b i c d e f a g δ κ))) δ)
def xfc (R:Int->Int->Int->Int->List UInt8->List UInt8->LA->LA->Option (Int×Int)) (b i c d:Int) (e f:List UInt8) (a g:LA):=xjA R b i c d e f a g none some
def xuU (R:Int->Int->Int->Int->List UInt8->List UInt8->LA->LA->Option (Int×Int)) (b i c d:Int) (e f:List UInt8) (a g:LA):Enc (fun (p:Int×Int)=>((AV.tuple [AV.int .i64 p.1,AV.int .i64 p.2]):AV)) (xfc R b i c d e f a g) (XF P0 (xdx R) Tryz.f43 (Tryz.f43.body.getD .skip) [AV.agg [AV.int .i64 b,AV.int .i64 i,AV.int .i64 c,AV.int .i64 d,AV.str e,AV.str f,AV.list 7 a],AV.list 1 g]):=by
 have h:XF P0 (xdx R) Tryz.f43 (Tryz.f43.body.getD .skip) [AV.agg [AV.int .i64 b,AV.int .i64 i,AV.int .i64 c,AV.int .i64 d,AV.str e,AV.str f,AV.list 7 a],AV.list 1 g]=xjA R b i c d e f a g none (fun (p:Int×Int)=>some ((AV.tuple [AV.int .i64 p.1,AV.int .i64 p.2]):AV)):=by kernel_rfl
 rw [h];unfold xfc xjA xhR;repeat' (first|refine Enc.br ?_ ?_|exact Enc.none|exact Enc.some rfl)
def xuT (R:Int->Int->Int->Int->List UInt8->List UInt8->LA->LA->Option (Int×Int)):LA->Option (Bool×AV):=ocOf (xIS (xI7 (xIS (sEq (pInt .i64)) (xIS (sEq (pInt .i64)) (xIS (sEq (pInt .i64)) (xIS (sEq (pInt .i64)) (xIS (sEq pStr) (xIS (sEq pStr) (xIS (xI6 7 xIV) xIU)))))))) (xIS (xI6 1 xIV) xIU)) fun ((b,(i,(c,(d,(e,(f,(a,_))))))),(g,_))=>((xfc R b i c d e f a g).isSome,(AV.tuple [AV.int .i64 ((xfc R b i c d e f a g).getD (0,0)).1,AV.int .i64 ((xfc R b i c d e f a g).getD (0,0)).2]))
def xuS (R:Int->Int->Int->Int->List UInt8->List UInt8->LA->LA->Option (Int×Int)) (a:xdC R):OcOk P0 xIQ 43 (xuT R):=xdB fun e h f=>by
 obtain ⟨⟨j,⟨i,⟨k,⟨l,⟨m,⟨n,⟨g,_⟩⟩⟩⟩⟩⟩⟩,⟨o,_⟩⟩:=e;obtain ⟨b,c⟩:=Prod.mk.inj f;refine xfp (p:=(xdx R).pin) (xhu xIh (xIi P0 _) rfl (xq0 R a) Tryz.func43 rfl (by kernel_rfl) (xpP R a) ((xuU R _ _ _ _ _ _ _ _ _ (xaE (d:=(0,0)) b)).trans ?_))
 exact congrArg some c
def xcT:Nat->Int->Int->Int->Int->List UInt8->List UInt8->LA->LA->Option (Int×Int)
 | 0=>fun _ _ _ _ _ _ _ _=>none
 | fu_+1=>fun b i c d e f a g=>xfc (xcT fu_) b i c d e f a g
def xnh:∀ n,xdC (xcT n)
 | 0=>xdB fun _ _ h=>absurd (Prod.mk.inj h).1 Bool.false_ne_true
 | fu_+1=>fun a r h=>xuS (xcT fu_) (xnh fu_) a r h
def xfO:Int->Int->Int->Int->List UInt8->List UInt8->LA->LA->Option (Int×Int):=fun b i c d e f a g=>limN fun n=>xcT n b i c d e f a g
def xr0:xdC xfO:=xpQ 43 xcT xnh
def xAg:Env:=xow.E.with 43 (xd0 xfO)
def xAi:xH8 P0 xIQ xAg:=xow.ok.with xr0
def xAh:EO:=EO.mk xAg xAi
def xmg {T:Type} (a b c d:Int) (e f:List UInt8) (g h:LA) (δ:T) (κ:Int×Int->T):T:=br ((xhn a b c d e f g).isSome) (br (decide ((xhn a b c d e f g).getD 0>24)) (κ (0,26)) (br ((xfO a b c d e f g h).isSome) (κ (((xfO a b c d e f g h).getD (0,0)).fst,((xfO a b c d e f g h).getD (0,0)).snd)) δ)) δ
def xge (b c d e:Int) (f g:List UInt8) (h a:LA):=xmg b c d e f g h a none some
def xDp:EO:=xAh.f Tryz.func23 14 0 [] [] lk0 (u2 (xI7 (u7 uI uI uI uI (sEq pStr) (sEq pStr) (uL 7))) (uL 1)) (fun ((b,c,d,e,g,h,i,_),a,_) _=>xmg b c d e g h i a) (fun _ p=>AV.tuple [AV.int .i64 p.1,AV.int .i64 p.2]) (0,0)
def xi1 {T:Type} (b c d e:Int) (f g:List UInt8) (h a:LA) (δ:T) (κ:Int->T):T:=br ((xge b c d e f g h a).isSome) (br (((xge b c d e f g h a).getD (0,0)).snd != 0) (κ (((xge b c d e f g h a).getD (0,0)).snd)) (br (((xge b c d e f g h a).getD (0,0)).fst != 3) (br (((xge b c d e f g h a).getD (0,0)).fst != 0) (κ (7)) (κ (0))) (κ (0)))) δ
def xhS (b c d e:Int) (f g:List UInt8) (h a:LA):=xi1 b c d e f g h a none some
def xs9:EO:=xDp.f Tryz.func8 22 0 [] [] lk0 (u2 (xI7 (u7 uI uI uI uI (sEq pStr) (sEq pStr) (uL 7))) (uL 1)) (fun ((b,c,d,e,g,h,i,_),a,_) _=>xi1 b c d e g h i a) (fun _ p=>AV.int .i64 p) 0
def xdo {T:Type} (n:Int) (b:Nat) (i:Int) (a:LA) (δ:T) (κl:(Nat×Int×LA)->T) (κr:(Nat×LA)->T):T:=br (decide (i<n)) (br (rmB b a 1 88) (κl (b+1,i64.wrap (i+1),a++[AV.agg [AV.int .i64 2,AV.int .i64 i,AV.int .i64 0,AV.int .i64 0,AV.str [],AV.str [],AV.nils]])) δ) (κr (b,a))
def xaN (n:Int):StT (Nat×Int×LA) (Nat×LA):=fun (b,i,a)=>xdo n b i a none inL inR
def xhF:=xs9.l 16 0 [] [] Tryz.f16 0 lk0 [0,3,4] [3] [(3,7,30)] (q3 qI (xI2 0 0 0) qI) (q1 (qB 0 7 30 xIV)) (fun (n,b,i,_) (a,_)=>(xaN n,(b,i,a),fun p=>(.leaf (.exit 0) [AV.osl 0 0 0 p.1] [bF 0 7 30 p.2]))) (0,[]) fun (n,_,_,_) _ (b,i,a)=>(((n,b,i,()),(a,())),xdo n b i a none)
def xcO (n:Int):=(Iter (xaN n) (0,0,[])).getD (0,[])
def xgz {T:Type} (n:Int) (δ:T) (κ:LA->T):T:=br ((Iter (xaN n) (0,0,[])).isSome) (br (decide (0+((xcO n).fst)<=((xcO n).snd).length)&&true) (κ (List.take ((xcO n).fst) (List.drop 0 ((xcO n).snd)))) δ) δ
def xdK (n:Int):=xgz n none some
def xoz:LA->Option (Bool×AV):=fnO (u1 uI) (fun (n,_) _=>xgz n) (fun _ p=>AV.list 7 p) []
def xjV:OcOk P0 xIQ 16 xoz:=fnC xs9.ok Tryz.func16 16 0 [] [(3,xhF.lp)] (lk1 xhF.ok)
def xw8:EO:=xs9.w xjV
end Go.Sim.M
end
noncomputable section
set_option maxRecDepth 100000
namespace Go.Sim.M
open Go.RowKit Go.Proofs
def xCV {sz:Nat} {xs ys:List AV} (hl:ys.length=xs.length) (q:∀ i,i<xs.length->(xs.getD i .top).okElem sz=true->(ys.getD i .top).okElem sz=true)
  (h:∀ i j,i<xs.length->j<sz->Sub ((xs.getD i .top).cells.getD j .top) ((ys.getD i .top).cells.getD j .top)):Sub (.list sz xs) (.list sz ys):=fun w A M v hr=>by
 cases hr with
 | list0 a cap _ =>
  have:ys=[]:=List.length_eq_zero_iff.1 hl;subst this;exact .list0 _ _ _
 | list b off cap _ _ val ha hb hne hcap hsz hc hr =>
  rw [<-hl];refine .list b off cap sz ys val ha hb (fun e=>hne (List.length_eq_zero_iff.1 (by rw [<-hl,e];rfl))) (by omega) (fun y hy=>?_) (fun i j hi hj=>hc i j (by omega) hj) fun i j hi hj=>h i j (by omega) hj _ _ _ _ (hr i j (by omega) hj)
  obtain ⟨i,hi,rfl⟩:=xfq hy;exact q i (by omega) (hsz _ (xaI (by omega)))
def normE:AV->AV
 | .agg [a,b,c,d,e,f,.nils]=>.agg [a,b,c,d,e,f,.list 7 []]
 | x=>x
def xue (x:AV) (j:Nat):(x.okElem 7=true->(normE x).okElem 7=true)/\Sub (x.cells.getD j .top) ((normE x).cells.getD j .top):=by
 unfold normE;split
 . rename_i a b c d e f;refine ⟨fun h=>h,?_⟩
   match j with
   | 0=>exact Sub.refl _
   | 1=>exact Sub.refl _
   | 2=>exact Sub.refl _
   | 3=>exact Sub.refl _
   | 4=>exact Sub.refl _
   | 5=>exact Sub.refl _
   | 6=>exact xnw 7
   | j+7=>exact Sub.refl _
 . exact ⟨fun h=>h,Sub.refl _⟩
def xCW (xs:List AV):Sub (.list 7 xs) (.list 7 (xs.map normE)):=by
 have e:∀ i,i<xs.length->(xs.map normE).getD i .top=normE (xs.getD i .top):=fun i hi=>by simp [z7,hi]
 exact xCV (by simp) (fun i hi=>by rw [e i hi];exact (xue _ 0).1) fun i j hi _=>by rw [e i hi];exact (xue _ j).2
noncomputable def beginS (n:Int):Option (List AV):=(xdK n).map fun l=>l.map normE
noncomputable def xvd:List AV->Option (Bool×AV):=ocOf (xIS (sEq (pInt .i64)) xIU) fun (n,_)=>((beginS n).isSome,AV.list 7 ((beginS n).getD []))
def xBJ:OcOk Tryz.prog xIQ 16 xvd:=xdB fun vv rr hh=>by
 obtain ⟨n,_⟩:=vv;obtain ⟨q,D⟩:=Prod.mk.inj hh;unfold beginS at q D;cases hf:xdK n with
 | none=>rw [hf] at q;simp at q
 | some l =>
  rw [hf] at D;have hg:Good Tryz.prog xIQ 16 _ (.list 7 l):=xjV [.int .i64 n] _ (by
   show some ((xdK n).isSome,AV.list 7 ((xdK n).getD []))=_;rw [hf];rfl)
  rw [<-D];exact Good.sub hg (xCW l)
noncomputable def EBeg:Env:=xw8.E.with 16 xvd
def xDc:xH8 Tryz.prog xIQ EBeg:=xw8.ok.with xBJ
end Go.Sim.M
end
noncomputable section
set_option maxRecDepth 100000
namespace Go.Sim.M
open Go.IntKind (i64 u64 u8)
open Go.RowKit Go.Proofs
def xdQ (b a:LA) (c d e f:Int) (g h:List UInt8) (i:LA) (j k:Int):=xeF ((xlN b ((xeR a c d e f g h i j k).getD []) b ((xcD a c d e f g h i j k).getD [])).getD ([],[])).snd ((xak a).getD [])
def xce:=xme [] [AV.list 3 [AV.agg [AV.int .i64 1,AV.int .i64 1,AV.str []]]] 0 2
def xcf (a b c d:Int) (e f:List UInt8) (g:LA):=xog [AV.agg [AV.int .i64 a,AV.int .i64 b,AV.int .i64 c,AV.int .i64 d,AV.str e,AV.str f,AV.list 7 g]] 40
def xeb {T:Type} (k a:LA) (b c d e:Int) (f g:List UInt8) (h:LA) (i j:Int) (δ:T) (κ:Bool->T):T:=br (xce.isSome) (br ((↑(xce.getD []).length:Int) != 1) (κ (false)) (br (decide ((↑k.length:Int)>8)) (κ (true)) (br ((xnZ a 8).isSome) (br (!(xnZ a 8).getD false) (κ (true)) (br ((xlL k a).isSome) (br (!(xlL k a).getD false) (κ (true)) (br ((xcf b c d e f g h).isSome) (br (!(xcf b c d e f g h).getD false) (κ (true)) (br ((xhS b c d e f g h k).isSome) (br ((xhS b c d e f g h k).getD 0 != 0) (κ (true)) (br (!xjh i j) (κ (true)) (br ((xeR a b c d e f g h i j).isSome) (br ((xcD a b c d e f g h i j).isSome) (br ((xlN k ((xeR a b c d e f g h i j).getD []) k ((xcD a b c d e f g h i j).getD [])).isSome) (br ((xak a).isSome) (br ((xdQ k a b c d e f g h i j).isSome) (br (!(xdQ k a b c d e f g h i j).getD false) (κ (false)) (br ((beginS (↑k.length:Int)).isSome) (br ((xhh a b c d e f g h ((beginS (↑k.length:Int)).getD []) i j).isSome) (br ((xak a).isSome) (br ((xeF ((xhh a b c d e f g h ((beginS (↑k.length:Int)).getD []) i j).getD []) ((xak a).getD [])).isSome) (br ((xeF ((xhh a b c d e f g h ((beginS (↑k.length:Int)).getD []) i j).getD []) ((xak a).getD [])).getD false) (br ((xcD ((xeR a b c d e f g h i j).getD []) b c d e f g h i j).isSome) (κ ((↑((xcD ((xeR a b c d e f g h i j).getD []) b c d e f g h i j).getD []).length:Int)==0)) δ) (κ (false))) δ) δ) δ) δ)) δ) δ) δ) δ) δ))) δ)) δ)) δ)) δ))) δ
def xdi (a b:LA) (c d e f:Int) (g h:List UInt8) (i:LA) (j k:Int):=xeb a b c d e f g h i j k none some
def xlV:LA->Option (Bool×AV):=fnO (u3 (xI7 (u2 (uL 1) (uL 3))) (xI7 (u7 uI uI uI uI (sEq pStr) (sEq pStr) (uL 7))) (xI7 (u2 uI uI))) (fun ((a,b,_),(c,d,e,f,g,h,i,_),(j,k,_),_) _=>xeb a b c d e f g h i j k) (fun _ p=>AV.bool p) false
def xlU:OcOk P0 xIQ 3 xlV:=fnC xDc Tryz.func3 103 0 [1000025,1000030,1000032] [] lk0
end Go.Sim.M
end
