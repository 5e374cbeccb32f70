/- Part 15 of the proof of the law. -/
import Derived.Test.YtodofdnlhoknhaaGreatDoorSU14
import Derived.Maps.RangeRun
set_option linter.defProp false
set_option linter.unusedVariables false
set_option linter.unusedSimpArgs false
set_option linter.unnecessarySimpa false
noncomputable section
set_option maxRecDepth 10000
namespace Go.Sim
open Go.RowKit
def Ev.mv {w w':World} {A A':Nat->Prop} {M M':Id->Option MB} {B n:Nat} {H:List Box} {av df:Nat->Prop} (hR:HR w A M B H) (he:Ev ⟨av,w,A,M,n,df⟩ w' A' M') (hn:H.length<=n):Mv w A M w' A' M' :=
 ⟨he.size,fun b hb hA=>he.keep b hb (.inl hA),he.less,he.more,fun id m hm=>he.ids id m (by
  obtain ⟨bx,h1,_⟩:=hR.box id m hm;exact Nat.lt_of_lt_of_le (xkJ h1) hn) hm,⟨fun b hb q=>he.keep b hb (.inr q),he.src⟩⟩
def SR.grow {w0 w w':World} {A0:Cx} {A:Nat->Prop} {M:Id->Option MB} {s:St} {a:Act} (h:SR w0 A0 w A M s a) (hb:Below w.heap.size w w'):SR w0 A0 w' A M s a :=
 ⟨
  h.base.trans (hb.mono h.base.size),h.outer,h.size,fun t ht=>(h.tmps t ht).grow hb,h.heap.grow hb,h.defers.same fun D hD=>hb.block D (xkL hD),
  h.ev.step ⟨hb.size,fun b q _=>hb.block b q,fun _ _ h=>h,fun _ _ h _=>h,MExt.refl M,.of_new hb fun _ _ h=>.inl h⟩⟩
def SR.door {w0 w:World} {A0:Cx} {A:Nat->Prop} {M:Id->Option MB} {s:St} {a:Act} (h:SR w0 A0 w A M s a) (n:Nat):SR w0 ⟨A0.av,w,A,M,n,fun D=>A0.df D\/A0.w1.heap.size<=D⟩ w A M s a :=
 ⟨h.base,h.outer,h.size,h.tmps,h.heap,by
  obtain ⟨L,e1,e2,e3⟩:=h.defers;exact ⟨L,e1,e2,fun D hD=>⟨(e3 D hD).1,.inl (e3 D hD).2.1,(e3 D hD).2.2⟩⟩,Ev.refl (C:=⟨A0.av,w,A,M,n,_⟩)⟩
def SR.undoor {w0 w w':World} {A0:Cx} {A A':Nat->Prop} {M M':Id->Option MB} {s s':St} {a a':Act} {n:Nat} (h:SR w0 A0 w A M s a) (hn:s.heap.length<=n) (h':SR w0 ⟨A0.av,w,A,M,n,fun D=>A0.df D\/A0.w1.heap.size<=D⟩ w' A' M' s' a'):SR w0 A0 w' A' M' s' a'/\Mv w A M w' A' M':=by
 have q:=h'.ev.mv h.heap hn;refine ⟨⟨h'.base,h'.outer,h'.size,h'.tmps,h'.heap,?_,h.ev.step q⟩,q⟩;obtain ⟨L,e1,e2,e3⟩:=h'.defers;refine ⟨L,e1,e2,fun D hD=>⟨(e3 D hD).1,?_,(e3 D hD).2.2⟩⟩
 rcases (e3 D hD).2.1 with h1|h1
 . exact h1
 . exact .inr (Nat.le_trans h.ev.size h1)
structure Itr (w:World) (A:Nat->Prop) (M:Id->Option MB) (r bm:Nat) (e1 es:Array MapEntry) (clock:Nat) (seen:Array Nat) (kv:List (List UInt8×AV)) (done:List Nat):Prop where
 it:w.heap[r]?=some (.mapIter (some bm) clock seen clock)
 map:w.heap[bm]?=some (.map e1 clock)
 av:¬ A bm
 perm:MapP e1 es clock
 size:es.size=kv.length
 keys:∀ (i:Nat) (x:MapEntry),es[i]?=some x->∃ t:ByteArray,x.key=.string t/\(kv.getD i ([],.top)).1=t.data.toList
 vals:∀ (i:Nat) (x:MapEntry),es[i]?=some x->Rel w A M x.val (kv.getD i ([],.top)).2
 seen:∀ (i:Nat) (x:MapEntry),es[i]?=some x->(seen.contains x.born=true↔i∈done)
 nodup:done.Nodup
 lt:∀ i,i∈done->i<kv.length
section
variable {P : Program} {w w' : World} {A A' : Nat -> Prop} {M M' : Id -> Option MB} {r bm clock B : Nat} {e1 es : Array MapEntry} {seen : Array Nat} {kv : List (List UInt8 × AV)} {done : List Nat} {H : List Box}
def Itr.mv (h:Itr w A M r bm e1 es clock seen kv done) (hR:HR w A M B H) (hm:Mv w A M w' A' M'):Itr w' A' M' r bm e1 es clock seen kv done :=
 ⟨(hm.touch.1 r (xkL h.it) (hR.not_box h.it (by simp) (by simp))).trans h.it,(hm.keep bm (xkL h.map) h.av).trans h.map,fun hA=>h.av (hm.less bm (xkL h.map) hA),h.perm,h.size,h.keys,fun i x hx=>hm.rel (h.vals i x hx),h.seen,h.nodup,h.lt⟩
def getElem?_ext_lt {α:Type} {es:Array α} {i:Nat} {x:α} (h:es[i]?=some x):i<es.size:=by
 rcases zJ i es.size with h'|h'
 . exact h'
 . rw [Array.getElem?_eq_none h'] at h;simp at h
def Itr.next (h:Itr w A M r bm e1 es clock seen kv done) (ty:TypeId) :
  (done.Perm (List.range kv.length)/\(Instr.next (.pointer (some ⟨r,0,none⟩)) false ty).run P w=.ok (.tuple #[.bool false]) w) \/
  ∃ (i:Nat) (e:MapEntry) (w1:World) (q:Array Nat),i<kv.length/\i∉done/\es[i]?=some e/\Below w.heap.size w w1/\(∀ a u,w.cell? a=some u->w1.cell? a=some u)/\w1.heap[r]?=some (.mapIter (some bm) clock seen clock) /\
   (Instr.next (.pointer (some ⟨r,0,none⟩)) false ty).run P w=.ok (.tuple #[.bool true,e.key,e.val]) (w1.putObj r (.mapIter (some bm) clock q clock))/\Itr (w1.putObj r (.mapIter (some bm) clock q clock)) A M r bm e1 es clock q kv (done++[i]) /\
   (∀ w2 A2 M2,Itr w2 A2 M2 r bm e1 es clock q kv (done++[i])->(Instr.entry (.pointer (some ⟨r,0,none⟩))).run P w2=.ok (.tuple #[e.key,e.val]) w2)/\(leftOf e1 q).size<(leftOf e1 seen).size:=by
 obtain ⟨hp,W,Z⟩:=h.perm;have ad:(e1.toList.map (·.born)).Nodup:=((hp.map _).nodup_iff).2 Z;have V:∀ i x,es[i]?=some x->i<kv.length:=fun i x hx=>by rw [<-h.size];exact getElem?_ext_lt hx
 rcases run_next_at (P:=P) w ty r bm clock clock seen e1 clock h.it h.map (fun x hx=>W x (hp.mem_iff.1 hx)) (zd _) with ⟨h0,J⟩|⟨e,he,w1,O,J⟩
 . refine .inl ⟨?_,J⟩;refine (List.perm_ext_iff_of_nodup h.nodup List.nodup_range).2 fun i=>⟨fun hi=>List.mem_range.2 (h.lt i hi),fun hi=>?_⟩
   have hi':i<es.size:=by rw [h.size];exact List.mem_range.1 hi
   have hx:es[i]?=some es[i]:=by simp [hi']
   exact (h.seen i _ hx).1 (all_seen e1 seen h0 _ (hp.mem_iff.2 (by simp)))
 . obtain ⟨ac,aa⟩:=mem_left he;obtain ⟨i,hi⟩:=List.mem_iff_getElem?.1 (hp.mem_iff.1 ac);have hi:es[i]?=some e:=by simpa using hi
   have hb:Below w.heap.size w w1:=by
    rcases O with rfl|rfl
    . exact Below.refl _ _
    . exact ⟨rfl,rfl,rfl,zd _,fun _ _=>rfl⟩
   have hc:∀ a u,w.cell? a=some u->w1.cell? a=some u:=fun a u hu=>by rcases O with rfl|rfl<;>exact hu
   have hsz:w1.heap.size=w.heap.size:=by rcases O with rfl|rfl<;>rfl
   have Y:w1.heap[r]?=some (.mapIter (some bm) clock seen clock):=by rcases O with rfl|rfl<;>exact h.it
   have ae:w1.heap[bm]?=some (.map e1 clock):=by rcases O with rfl|rfl<;>exact h.map
   have hne:bm≠r:=fun e=>by have:=h.map;rw [e,h.it] at this;simp at this
   have Q:i∉done:=fun hd=>by rw [(h.seen i e hi).2 hd] at aa;cases aa
   have ag:(w1.putObj r (.mapIter (some bm) clock (seen.push e.born) clock)).heap[bm]?=some (.map e1 clock):=(World.putObj_heap_other hne).trans ae;have af:(w1.putObj r (.mapIter (some bm) clock (seen.push e.born) clock)).heap[r]?=some (.mapIter (some bm) clock (seen.push e.born) clock):=World.putObj_heap_same (xkL Y);refine .inr ⟨i,e,w1,seen.push e.born,V i e hi,Q,hi,hb,hc,Y,J,⟨af,ag,h.av,h.perm,h.size,h.keys,fun k x hx=>?_,fun k x hx=>?_,?_,fun k hk=>?_⟩,fun w2 A2 M2 h2=>run_entry_at _ r bm clock seen e1 clock e h2.it h2.map ac ad,left_shrinks e1 seen e he⟩
   . exact ((h.vals k x hx).grow hb).turn (by simp) (xoI Y ⟨by simp,by simp⟩)
   . rw [contains_push,Bool.or_eq_true,h.seen k x hx,zG,zv,beq_iff_eq];constructor
     . rintro (h1|h1)
       . exact .inl h1
       . right;have hk:=getElem?_ext_lt hx;have ab:=getElem?_ext_lt hi;have e3:es[k]=x:=by simpa [hk] using hx
         have e4:es[i]=e:=by simpa [ab] using hi
         have:=(List.getElem_inj (i:=k) (j:=i) (h₀:=by simpa using hk) (h₁:=by simpa using ab) Z).1 (by simp [e3,e4,h1])
         exact this
     . rintro (h1|rfl)
       . exact .inl h1
       . right;rw [hi] at hx;simp only [z6] at hx;rw [hx]
   . rw [List.nodup_append];exact ⟨h.nodup,by simp,fun a ha c hc=>by simp only [zv] at hc;rintro rfl;exact Q (hc▸ha)⟩
   . rcases zG.1 hk with hk|hk
     . exact h.lt k hk
     . simp only [zv] at hk;subst hk;exact V k e hi
end
def waw {σ ρ:Type} (step:σ->Nat->σ⊕ρ):σ⊕ρ->Nat->σ⊕ρ
 | .inl s,x=>step s x
 | .inr r,_=>.inr r
def xuA {σ ρ:Type} (step:σ->Nat->σ⊕ρ) (r:ρ):∀ l:List Nat,l.foldl (waw step) (.inr r)=.inr r
 | []=>rfl
 | x::l=>by simp only [List.foldl_cons,waw];exact xuA step r l
def xpQ {P:Program} {ro:Option Nat} {c:Code} {Qc:Exit->Act->World->Prop} (I:Nat->Act->World->Prop)
  (O:∀ n a w,I n a w->c.wpIn (wideR ro) 0 P (fun e a' w'=>match e with|.normal=>∃ n',n'<n/\I n' a' w'|e=>Qc e a' w') a w) (n:Nat) (a:Act) (w:World) (h:I n a w):(Code.loop c).wpIn (wideR ro) 0 P Qc a w:=by
 intro b k cs hb _ _;have hb:b.roundOf=ro:=hb;subst hb;have key:∀ n a w,I n a w->∃ e a' w',Qc e a' w'/\ArrivesIn (Machine.fenced P (wideR b.roundOf)) P (lone (b.atR a (.code c::.inLoop c::k)) cs w) b k cs e a' w':=by
  intro n;induction n using Nat.strongRecOn with
  | _ n ih =>
   intro a w hI;obtain ⟨e,a₁,w₁,hq,q⟩:=O n a w hI b (.inLoop c::k) cs rfl (xsc _ _) (xpO _ _);cases e with
   | normal =>
    obtain ⟨n',k1,k2⟩:=hq;obtain ⟨e₂,a₂,w₂,Q,J⟩:=ih n' k1 a₁ w₁ k2;exact ⟨e₂,a₂,w₂,Q,.of_steps (StepsIn.trans q (.one (xl9 _ P _) stepR_inLoop)) J⟩
   | exit id=>exact ⟨_,a₁,w₁,hq,.pass (x:=.inLoop c) rfl (fun _ _=>.inl (by simp)) q⟩
   | goto l=>exact ⟨_,a₁,w₁,hq,.pass (x:=.inLoop c) rfl (fun _ _=>.inl (by simp)) q⟩
   | ret=>exact ⟨_,a₁,w₁,hq,.pass (x:=.inLoop c) rfl (fun _ _=>.inl (by simp)) q⟩
   | panic ch=>exact ⟨_,a₁,w₁,hq,.pass (x:=.inLoop c) rfl (fun _ _=>.inl (by simp)) q⟩
   | outgrown=>exact ⟨_,a₁,w₁,hq,.pass (x:=.inLoop c) rfl (fun _ _=>.inl (by simp)) q⟩
 obtain ⟨e,a',w',hq,q⟩:=key n a w h;exact ⟨e,a',w',hq,.of_steps (.one (xl9 _ P _) stepR_loop) q⟩
def xet {P:Program} {Inv:IV} {w0:World} {A0:Cx} (Y:InvOk Inv) (hI:Inv w0) {ops:Array Oper} {Q:Exit->Act->World->Prop} {rest:List Oper} {l:List Oper} {s s':St} (hp:Path (OpA P Inv) ops l s s') :
  ∀ {w:World} {A:Nat->Prop} {M:Id->Option MB} {a:Act},SR w0 A0 w A M s a ->
  (∀ a' w' A' M',SR w0 A0 w' A' M' s' a'->Mv w A M w' A' M'->wpList P ops Q rest a' w')->wpList P ops Q (l++rest) a w:=by
 induction hp with
 | nil s=>intro w A M a hs hK;exact hK a w A M hs Mv.refl
 | run hw h hr ih =>
  intro w A M a hs hK;have J:=xhS (w:=w) (A:=A) (M:=M) hs.size (fun j O d _ _ q=>hs.tmps d q) hw
  rw [List.cons_append];unfold wpList;rw [if_pos J];exact .inl (xjg Y hI h hs fun v w' A' M' V W=>ih V fun a2 w2 A2 M2 h2 m2=>hK a2 w2 A2 M2 h2 (W.trans m2))
 | skip hw hr ih =>
  intro w A M a hs hK;have J:=xhS (w:=w) (A:=A) (M:=M) hs.size (fun j O d _ _ q=>hs.tmps d q) hw
  rw [List.cons_append];unfold wpList;rw [if_neg (by rw [J];simp)]
  exact ih (hs.skip _) fun a2 w2 A2 M2 h2 m2=>hK a2 w2 A2 M2 h2 m2
def wam (bx:Box) (k:Nat):List UInt8:=match (bx.xs.getD k .top).cells.getD 0 .top with
 | .str s=>s
 | _=>[]
def wao (nb:Nat) (bx:Box) (k:Nat):AV:=xIu nb k 1 bx.ty ((bx.xs.getD k .top).cells.getD 1 .top)
def kvOf (nb:Nat) (bx:Box):List (List UInt8×AV):=(List.range bx.xs.length).map fun k=>(wam bx k,wao nb bx k)
def xj9 (nb:Nat) (bx:Box):(kvOf nb bx).length=bx.xs.length:=by simp [kvOf]
def xpr {nb:Nat} {bx:Box} {k:Nat} (h:k<bx.xs.length):(kvOf nb bx).getD k ([],.top)=(wam bx k,wao nb bx k):=by
 simp [kvOf,z7,h]
def wa3 (i9:Nat) (q:Array Oper) (ex i0:Nat) (J:Array Oper) (tb:Tmp) (ib i1:Nat) (O:Array Oper) (Q:Code):Code :=
 .seq (.region i9 q false) (.block ex (.loop (.seq (.region i0 J false) (.seq (.cond (.tmp tb) .skip (.exit ex)) (.block ib (.seq (.region i1 O false) Q))))))
def stepT (Lr:List AV) (tn tb te:Tmp) (k:List UInt8) (v:AV):List AV:=((Lr.set tn (.tuple [.bool true,.str k,v])).set tb (.bool true)).set te (.tuple [.str k,v])
section
variable {P : Program} {w : World} {A : Nat -> Prop} {M : Id -> Option MB} {B : Nat} {H : List Box}
def xCj (hR:HR w A M B H) {v:Value} {n ver i j:Nat} {bx:Box} (h:Rel w A M v (.own (.b n) ver i j)) (J:H[n]?=some bx) (Q:bx.ver=ver) (O:xH8 bx.ty=true) :
  ∃ m,M (.b n)=some m/\BoxAt w A M B (.b n) m bx/\v=.map (some m.b)/\0<m.cap:=by
 obtain ⟨m,hm,hv,h1,he⟩:=Rel.own_inv h;obtain ⟨bx',h2,h3⟩:=hR.box _ m hm;rw [xcb,J] at h2;cases h2;refine ⟨m,hm,h3,?_⟩;have q:xH8 m.ty=true:=by rw [<-h3.ty];exact xnf O
 have h0:=he (by rw [<-Q,h3.ver])
 unfold ptrOf at h0;rw [q] at h0;cases hc:m.cap with
 | zero =>
  rw [hc] at h0;simp only at h0;rw [h0] at h1;cases h1
 | succ k =>
  rw [hc] at h0;exact ⟨h0,Nat.succ_pos k⟩
def xAR (hR:HR w A M B H) {v:Value} {n ver i j:Nat} {bx:Box} (h:Rel w A M v (.own (.b n) ver i j)) (ab:H[n]?=some bx) (ae:bx.ver=ver) (Y:xH8 bx.ty=true) (af:xH7 bx.ty 0=false) (Z:bx.sz=2) (ac:bx.pm=true) (ad:bx.frz=true) {t kt et:TypeId} (aa:P.underlying t=some (.map kt et)) :
  ∃ bm e1 es clock,(Instr.range t v).run P w=.ok (.pointer (some ⟨w.heap.size,0,none⟩)) (w.alloc (.mapIter (some bm) clock #[] clock))/\Itr (w.alloc (.mapIter (some bm) clock #[] clock)) A M w.heap.size bm e1 es clock #[] (kvOf n bx) []:=by
 obtain ⟨m,hm,J,rfl,hcap⟩:=xCj hR h ab ae Y;obtain ⟨es,clock,q,_,Q⟩:=J.mapKs Y af Z ac hcap;obtain ⟨e1,V,hP⟩:=q.heap;have O:=xfO w (.mapIter (some m.b) clock #[] clock);have W:∀ k x,es[k]?=some x->k<bx.xs.length:=fun k x hx=>by rw [<-q.size];exact getElem?_ext_lt hx
 refine ⟨m.b,e1,es,clock,run_range_map w t kt et m.b e1 clock aa V,heap_alloc_new w _,(O.block _ (xkL V)).trans V,fun hA=>?_,hP,by rw [q.size,xj9],fun k x hx=>?_,fun k x hx=>?_,fun k x _=>by simp,List.nodup_nil,by simp⟩
 . have:=(J.guard hcap).2 hA;rw [ad] at this;cases this
 . obtain ⟨t,h1,h2,_⟩:=q.keys k x hx;refine ⟨t,h1,?_⟩;rw [xpr (W k x hx)];show wam bx k=_;unfold wam;rw [h2]
 . rw [xpr (W k x hx)];exact ((Q k x hx).unmv).grow O
end
def xuk {n:Nat} {l:List Nat} (hn:l.Nodup) (hl:∀ i,i∈l->i<n):∃ l',(l++l').Perm (List.range n):=by
 refine ⟨(List.range n).filter fun i=>!l.contains i,(List.perm_ext_iff_of_nodup ?_ List.nodup_range).2 fun i=>?_⟩
 . rw [List.nodup_append];refine ⟨hn,List.nodup_range.filter _,fun a ha b hb=>?_⟩
   rintro rfl;have:=(List.mem_filter.1 hb).2;simp [ha] at this
 . rw [zG,List.mem_filter,List.mem_range];constructor
   . rintro (h|h)
     . exact hl i h
     . exact h.1
   . intro h;by_cases hi:i∈l
     . exact .inl hi
     . exact .inr ⟨h,by simp [hi]⟩
def xww {P:Program} {Inv:IV} (au:InvOk Inv) {σ ρ:Type} {i9 ex i0 ib i1:Nat} {af ak ad:Array Oper} {a5:Code} {pre exts:List Oper} {o9 o0 o1 oe:Oper} {it tn tb te:Tmp} {tyM kt et:TypeId} {mo:Operand}
  (bo:af.toList=pre++[o9]) (b6:noDefer af=true) (co:o9.op=.range tyM mo) (c7:o9.dst=some it) (c0:o9.guard=none) (cx:P.underlying tyM=some (.map kt et))
  (bq:ak.toList=[o0,o1]) (cg:noDefer ak=true) (b1:o0.op=.next (.tmp it) false) (b2:o0.dst=some tn) (cy:o0.guard=none) (bz:o1.op=.extract (.tmp tn) 0) (b9:o1.dst=some tb) (ce:o1.guard=none)
  (bt:ad.toList=oe::exts) (ci:noDefer ad=true) (cp:oe.op=.entry (.tmp it)) (c4:oe.dst=some te) (c2:oe.guard=none)
  (cb:it≠tn) (b0:it≠tb) (c8:tn≠tb)
  {s s1:St} (cj:Path (OpA P Inv) af pre s s1) {nb ver i j:Nat} (hm:s1.eval mo=.own (.b nb) ver i j) {bx:Box} (hb:(freeze s1.heap [nb])[nb]?=some bx) (b7:bx.ver=ver) (cq:xH8 bx.ty=true) (h0:xH7 bx.ty 0=false) (hsz:bx.sz=2) (c6:bx.pm=true) (cz:bx.frz=true)
  {n:Nat} (cu:(freeze s1.heap [nb]).length<=n) (Lf:σ->Nat->List AV) (Hf:σ->List Box) (Lo:ρ->List AV) (Ho:ρ->List Box) (step:σ->Nat->σ⊕ρ) (s0:σ)
  (bb:∀ s,(Hf s).length<=n) (a8:∀ s r,(Lf s r)[it]?=some (.gptr r)) (cl:∀ s r,tn<(Lf s r).length) (cf:∀ s r,tb<(Lf s r).length)
  (bi:∀ r,Weak n ⟨s1.tmps.set it (.gptr r),freeze s1.heap [nb]⟩ ⟨Lf s0 r,Hf s0⟩)
  (ar:∀ (r:Nat) (done:List Nat) (s:σ) (k:Nat),k<bx.xs.length->k∉done->done.Nodup->(∀ i,i∈done->i<bx.xs.length)->done.foldl (waw step) (.inl s0)=.inl s->∃ s2,Path (OpA P ⟨Inv.inv,n,Inv.top⟩) ad exts ⟨stepT (Lf s r) tn tb te (wam bx k) (wao nb bx k),Hf s⟩ s2 /\
   Does P ⟨Inv.inv,n,Inv.top⟩ a5 (fun e s'=>match step s k with
    | .inl s3=>e=.normal/\Weak n s' ⟨Lf s3 r,Hf s3⟩
    | .inr q=>e=.ret/\Weak n s' ⟨Lo q,Ho q⟩) s2) :
  Does P Inv (wa3 i9 af ex i0 ak tb ib i1 ad a5) (fun e s'=>∃ ord:List Nat,ord.Perm (List.range bx.xs.length)/\match ord.foldl (waw step) (.inl s0) with
   | .inl s=>e=.normal/\∃ r,s'=⟨((Lf s r).set tn (.tuple [.bool false])).set tb (.bool false),Hf s⟩
   | .inr q=>e=.ret/\s'=⟨Lo q,Ho q⟩) s:=by
 intro w0 A0 w A M a Qc hI c9 hs hQ ro cr;unfold wa3;refine wpIn_seq (wpIn_region_list (xd7 ro 0 _ (xcE b6) _ _ ?_));rw [bo];refine xet au hI cj hs fun a1 w1 A1 M1 a0 cm=>wpList_plain c0 fun K hK=>?_
 obtain ⟨A2,aw,ca⟩:=a0.refreeze (HSub.freeze s1.heap [nb]);have bu:=aw.eval mo;rw [show St.eval ⟨s1.tmps,freeze s1.heap [nb]⟩ mo=s1.eval mo from by cases mo<;>rfl,hm] at bu
 obtain ⟨bm,e1,es,clock,J,Y⟩:=xAR aw.heap bu hb b7 cq h0 hsz c6 cz cx;obtain ⟨w3,bv⟩:∃ w3,w3=w1.alloc (.mapIter (some bm) clock #[] clock):=⟨_,rfl⟩;rw [<-bv] at J Y;have al:Below w1.heap.size w1 w3:=by rw [bv];exact xfO w1 _
 obtain ⟨r,hr⟩:∃ r,r=w1.heap.size:=⟨_,rfl⟩;rw [<-hr] at J Y;have Q:=aw.grow al;have Q:=Q.put (d:=some it) Q.base Q.outer Mv.refl Q.heap (Rel.gptr (w:=w3) (A:=A2) (M:=M1) r);have cw:w0.heap.size<=r:=by rw [hr];exact a0.base.size
 have c5:A0.w1.heap.size<=r:=by rw [hr];exact a0.ev.size
 unfold Oper.wp;simp only [execOp,co,J,Sem.run_bind,Result.andThen_ok,Sem.run_pure];show K (a1.put o9.dst (.pointer (some ⟨r,0,none⟩))) w3;rw [c7];refine hK _ _ ?_;obtain ⟨A4,M4,az⟩:=bi r w0 _ w3 A2 M1 _ (zd n) (Q.door n);obtain ⟨az,a3⟩:=Q.undoor cu az;have ap:=Y.mv Q.heap a3;refine wpIn_block ?_;refine xpQ (fun N a' w'=>∃ done s' A' M' seen,SR w0 A0 w' A' M' ⟨Lf s' r,Hf s'⟩ a'/\Itr w' A' M' r bm e1 es clock seen (kvOf nb bx) done/\done.foldl (waw step) (.inl s0)=.inl s'/\(leftOf e1 seen).size=N) ?_ _ _ _ ⟨[],s0,A4,M4,#[],az,ap,rfl,rfl⟩
 clear az ap a3 Y Q J al bv bu aw ca hK a0 cm;rintro N a' w' ⟨done,s',A',M',seen,aj,ao,V,rfl⟩;have bw:a'.eval (.tmp it)=.pointer (some ⟨r,0,none⟩):=by
  have:=aj.eval (.tmp it);have e:St.eval ⟨Lf s' r,Hf s'⟩ (.tmp it)=.gptr r:=by show (Lf s' r).getD it .top=_;rw [z7,a8 s' r];rfl
  rw [e] at this;generalize a'.eval (.tmp it)=v at this;cases this;rfl
 refine wpIn_seq (wpIn_region_list (xd7 ro 0 _ (xcE cg) _ _ ?_));rw [bq];refine wpList_plain cy fun K hK=>?_
 rcases ao.next (P:=P) o0.type with ⟨an,J⟩|⟨k,e,wd,ab,hk,b5,b4,cv,da,ck,J,ah,ch,b3⟩
 ·
  unfold Oper.wp;simp only [execOp,b1,bw,J,Sem.run_bind,Result.andThen_ok,Sem.run_pure];show K (a'.put o0.dst (.tuple #[.bool false])) w';rw [b2];refine hK _ _ (wpList_plain ce fun K2 be=>?_)
  have ai:=aj.put (d:=some tn) aj.base aj.outer Mv.refl aj.heap (Rel.tuple (w:=w') (A:=A') (M:=M') #[.bool false] [.bool false] rfl (fun i hi=>by
   rcases i with _|i
   . exact .bool false
   . simp at hi))
  have bp:OpA P Inv ⟨putT (Lf s' r) (some tn) (.tuple [.bool false]),Hf s'⟩ o1 ⟨putT (putT (Lf s' r) (some tn) (.tuple [.bool false])) o1.dst (.bool false),Hf s'++(none:Option Box).toList⟩:=by
   refine .inl (.inl ⟨.bool false,none,.inl ?_,rfl⟩);rw [bz];simp [fop,St.eval,putT,z7,cl s' r]
  refine xjg au hI bp ai fun v w6 A6 M6 ac _=>be _ _ ?_
  rw [b9] at ac |-;simp only [Option.toList,zD,putT] at ac;have am:(a'.put (some tn) (.tuple #[.bool false]) |>.put (some tb) v).eval (.tmp tb)=.bool false:=by
   have:=ac.eval (.tmp tb);have e:St.eval ⟨((Lf s' r).set tn (.tuple [.bool false])).set tb (.bool false),Hf s'⟩ (.tmp tb)=.bool false:=by simp [St.eval,z7,cf s' r]
   rw [e] at this;exact this.bool_inv
  refine wpIn_seq (wpIn_cond_split am (fun h=>by cases h) fun _=>wpIn_exit ?_)
  show Exit.inBlock ex Qc (.exit ex) _ _;simp only [Exit.inBlock,if_true];rw [xj9] at an;exact hQ .normal _ _ _ ⟨done,an,by rw [V];exact ⟨rfl,r,rfl⟩⟩ ⟨A6,M6,ac⟩
 ·
  rw [xj9] at hk;unfold Oper.wp;simp only [execOp,b1,bw,J,Sem.run_bind,Result.andThen_ok,Sem.run_pure];obtain ⟨w5,bk⟩:∃ w5,w5=wd.putObj r (.mapIter (some bm) clock ab clock):=⟨_,rfl⟩;rw [<-bk] at ah;show K (a'.put o0.dst (.tuple #[.bool true,e.key,e.val])) (wd.putObj r (.mapIter (some bm) clock ab clock));rw [<-bk,b2];refine hK _ _ (wpList_plain ce fun K2 be=>?_)
  have cd:=aj.grow cv;have ai:SR w0 A0 w5 A' M' ⟨Lf s' r,Hf s'⟩ a':=by
   rw [bk];exact cd.turn (ds:=a'.defers) ck ⟨by simp,by simp⟩ cw c5 _ (cd.defers.same fun D hD=>World.putObj_heap_other (fun e=>by rw [e,ck] at hD;simp at hD))
  obtain ⟨tk,a6,Z⟩:=ah.keys k e b4;rw [xpr hk] at Z;have ag:=ah.vals k e b4;rw [xpr hk] at ag;simp only at Z ag;have cn:Rel w5 A' M' e.key (.str (wam bx k)):=by rw [a6,Z];exact .str tk
  have ac:=ai.put (d:=some tn) ai.base ai.outer Mv.refl ai.heap (Rel.tuple (w:=w5) (A:=A') (M:=M') #[.bool true,e.key,e.val] [.bool true,.str (wam bx k),wao nb bx k] rfl (fun i hi=>by
   rcases i with _|_|_|i
   . exact .bool true
   . exact cn
   . exact ag
   . simp at hi;omega))
  have bp:OpA P Inv ⟨putT (Lf s' r) (some tn) (.tuple [.bool true,.str (wam bx k),wao nb bx k]),Hf s'⟩ o1 ⟨putT (putT (Lf s' r) (some tn) (.tuple [.bool true,.str (wam bx k),wao nb bx k])) o1.dst (.bool true),Hf s'++(none:Option Box).toList⟩:=by
   refine .inl (.inl ⟨.bool true,none,.inl ?_,rfl⟩);rw [bz];simp [fop,St.eval,putT,z7,cl s' r]
  refine xjg au hI bp ac fun v w7 A7 M7 W a2=>be _ _ ?_
  have ae:=ah.mv ac.heap a2;rw [b9] at W |-;simp only [Option.toList,zD,putT] at W;have am:((a'.put (some tn) (.tuple #[.bool true,e.key,e.val])).put (some tb) v).eval (.tmp tb)=.bool true:=by
   have:=W.eval (.tmp tb);have e:St.eval ⟨((Lf s' r).set tn (.tuple [.bool true,.str (wam bx k),wao nb bx k])).set tb (.bool true),Hf s'⟩ (.tmp tb)=.bool true:=by simp [St.eval,z7,cf s' r]
   rw [e] at this;exact this.bool_inv
  refine wpIn_seq (wpIn_cond_split am (fun _=>wpIn_skip ?_) (fun h=>by cases h))
  refine wpIn_block (wpIn_seq (wpIn_region_list (xd7 ro 0 _ (xcE ci) _ _ ?_)));rw [bt];refine wpList_plain c2 fun K3 ct=>?_
  have a4:((a'.put (some tn) (.tuple #[.bool true,e.key,e.val])).put (some tb) v).eval (.tmp it)=.pointer (some ⟨r,0,none⟩):=by
   have:=W.eval (.tmp it);have e:St.eval ⟨((Lf s' r).set tn (.tuple [.bool true,.str (wam bx k),wao nb bx k])).set tb (.bool true),Hf s'⟩ (.tmp it)=.gptr r:=by
    simp [St.eval,z7,List.getElem?_set,Ne.symm cb,Ne.symm b0,a8 s' r]
   rw [e] at this;generalize Act.eval _ (.tmp it)=u at this;cases this;rfl
  generalize ((a'.put (some tn) (.tuple #[.bool true,e.key,e.val])).put (some tb) v)=a7 at W a4;have bn:=ch w7 A7 M7 ae;unfold Oper.wp;simp only [execOp,cp,a4,bn,Sem.run_bind,Result.andThen_ok,Sem.run_pure];show K3 (a7.put oe.dst (.tuple #[e.key,e.val])) w7;rw [c4];refine ct _ _ ?_;have b8:Rel w7 A7 M7 e.key (.str (wam bx k)):=by rw [a6,Z];exact .str tk
  have bf:Rel w7 A7 M7 e.val (wao nb bx k):=a2.rel ag;have ax:=W.put (d:=some te) W.base W.outer Mv.refl W.heap (Rel.tuple (w:=w7) (A:=A7) (M:=M7) #[e.key,e.val] [.str (wam bx k),wao nb bx k] rfl (fun i hi=>by
   rcases i with _|_|i
   . exact b8
   . exact bf
   . simp at hi;omega))
  obtain ⟨s2,c3,bj⟩:=ar r done s' k hk b5 ao.nodup (fun i hi=>by have:=ao.lt i hi;rwa [xj9] at this) V
  have bg:=ax.door n;refine xsD (Inv:=⟨Inv.inv,n,Inv.top⟩) ⟨au.below⟩ hI c3 bg fun a9 w9 ⟨A9,M9,hs9⟩=>?_
  refine bj w0 _ w9 A9 M9 a9 _ hI (zd n) hs9 ?_ ro cr;rintro ee ss aa ww hq ⟨A10,M10,ba⟩;cases ay:step s' k with
  | inl s3 =>
   rw [ay] at hq;obtain ⟨rfl,bc⟩:=hq;obtain ⟨A11,M11,O⟩:=bc w0 _ ww A10 M10 aa (zd n) ba;obtain ⟨O,aq⟩:=ax.undoor (bb s') O;have bh:=ae.mv ax.heap aq;exact ⟨_,b3,done++[k],s3,A11,M11,ab,O,bh,by rw [List.foldl_append,V];exact ay,rfl⟩
  | inr q =>
   rw [ay] at hq;obtain ⟨rfl,bc⟩:=hq;obtain ⟨A11,M11,O⟩:=bc w0 _ ww A10 M10 aa (zd n) ba;obtain ⟨O,aq⟩:=ax.undoor (bb s') O;obtain ⟨l',cc⟩:=xuk ae.nodup ae.lt;rw [xj9] at cc;refine hQ .ret _ _ _ ⟨(done++[k])++l',cc,?_⟩ ⟨A11,M11,O⟩;rw [List.foldl_append,List.foldl_append,V];show match List.foldl (waw step) (step s' k) l' with|.inl _=>_|.inr _=>_
   rw [ay,xuA];exact ⟨rfl,rfl⟩
section
variable {w : World} {A : Nat -> Prop} {M : Id -> Option MB} {B : Nat} {H : List Box}
end
def wa0:Code->List Code
 | .seq a b=>match isRng a with
  | true=>[.seq a b]
  | false=>wa0 a++wa0 b
 | .block _ c=>wa0 c
 | .loop c=>wa0 c
 | .cond _ a b=>wa0 a++wa0 b
 | _=>[]
noncomputable def rmOf (fn:Func):Code:=(wa0 (fn.body.getD .skip)).getD 0 .skip
def waz:Code->Code
 | .seq _ (.block _ (.loop (.seq _ (.seq _ (.block _ (.seq _ b))))))=>b
 | _=>.skip
def wai:Code->Array Oper
 | .seq _ (.block _ (.loop (.seq _ (.seq _ (.block _ (.seq (.region _ ops _) _))))))=>ops
 | _=>#[]
def XM (P:Program) (E:Env) (ops:Array Oper) (q:Code) (live:List Nat) (ts:List AV) (H:List Box):Option (Exit×List AV×List Box):=xOps P E none (some true) ops (ops.toList.drop 1) ⟨ts,H⟩ fun s1=>X P E none q s1 fun e2 s2=>match normS E.pin [] live s2 with
 | some (vs,H')=>xIx vs fun vs=>xIA H' fun H'=>br (Nat.beq s2.tmps.length E.nt) (some (e2,vs,H')) none
 | none=>none
def xcF {P:Program} {Inv:IV} {E:Env} (J:xH6 P Inv E) {ops:Array Oper} {l:List Oper} {s:St} {T:Type} {r:T} {K:St->Option T} (h:xOps P E none (some true) ops l s K=some r):∃ s',Path (OpA P Inv) ops l s s'/\K s'=some r:=by
 have q:¬ (fun t:Option T=>t=some r) none:=by simp
 have hA:∀ o s (K:St->Option T),(fun t:Option T=>t=some r) (xopM P E none (some true) o s K)->∃ s1,OpA P Inv s o s1/\(fun t:Option T=>t=some r) (K s1):=fun o s K h=>xwn (good:=fun t:Option T=>t=some r) q J h
 exact xgZ (good:=fun t:Option T=>t=some r) q hA l s K h
def xDq {P:Program} {Inv:IV} {E:Env} (Q:P.follows .mixedOrders=true) (Y:InvOk Inv) (J:Inv.pin=E.pin) (O:xH6 P Inv E) {ops:Array Oper} {q:Code} (V:LoOk P Inv E q) {live:List Nat} {ts vs:List AV} {H H':List Box} {e0:Exit}
  (h:XM P E ops q live ts H=some (e0,vs,H')):∃ s2,Path (OpA P Inv) ops (ops.toList.drop 1) ⟨ts,H⟩ s2/\Does P Inv q (fun e s'=>e=e0/\Weak Inv.pin s' ⟨mkTs E.nt (live.zip vs),H'⟩) s2:=by
 unfold XM at h;obtain ⟨s2,h1,h2⟩:=xcF O h;refine ⟨s2,h1,xcO (xeF (good:=fun t=>t=some (e0,vs,H')) Q Y J (by simp) O q _ _ V h2) fun e s' hq=>?_⟩
 split at hq
 case h_2=>simp at hq
 rename_i Z H1 W;rw [xbA,xbx] at hq;obtain ⟨h3,h4⟩:=xb8 (good:=fun t=>t=some (e0,vs,H')) (by simp) hq
 simp only [z6,zb] at h4;obtain ⟨rfl,rfl,rfl⟩:=h4;have hw:=xgv W;rw [zg h3,<-J] at hw;exact ⟨rfl,hw⟩
def MR (p:Id->Bool) (M:Id->Option MB):Id->Option MB:=fun id=>match p id with
 | true=>M id
 | false=>none
def xho {p:Id->Bool} {M:Id->Option MB} {id:Id} {m:MB} (h:MR p M id=some m):p id=true/\M id=some m:=by
 unfold MR at h;cases hp:p id with
 | true=>rw [hp] at h;exact ⟨rfl,h⟩
 | false=>rw [hp] at h;simp at h
def xsg {p:Id->Bool} {M:Id->Option MB} {id:Id} {m:MB} (hp:p id=true) (h:M id=some m):MR p M id=some m:=by unfold MR;rw [hp];exact h
mutual
def AV.inP (p:Id->Bool):AV->Bool
 | .agg cs=>AV.inPs p cs
 | .own id _ _ _=>p id
 | .osl id _ _ _=>p id
 | .func _ cs=>AV.inPs p cs
 | .tuple vs=>AV.inPs p vs
 | _=>true
def AV.inPs (p:Id->Bool):List AV->Bool
 | []=>true
 | x::xs=>AV.inP p x&&AV.inPs p xs
end
def xmu {p:Id->Bool}:∀ {xs:List AV},AV.inPs p xs=true->∀ i,AV.inP p (xs.getD i .top)=true
 | [],_,i=>by simp [AV.inP]
 | x::xs,h,i=>by
  rw [AV.inPs,zf] at h;cases i with
  | zero=>simpa using h.1
  | succ i=>simpa using xmu h.2 i
def Rel.part {w:World} {A:Nat->Prop} {M:Id->Option MB} {v:Value} {x:AV} (h:Rel w A M v x) (p:Id->Bool) (hx:x.inP p=true):Rel w A (MR p M) v x:=by
 induction h with
 | top v=>exact .top v
 | bool b=>exact .bool b
 | int k n=>exact .int k n
 | str s=>exact .str s
 | agg vs cs h hr ih=>exact .agg vs cs h fun i hi=>ih i hi (xmu (by simpa [AV.inP] using hx) i)
 | nils=>exact .nils
 | list0 a cap sz=>exact .list0 a cap sz
 | list b off cap sz xs val ha hb hne hcap hsz hcc hr ih=>exact .list b off cap sz xs val ha hb hne hcap hsz hcc hr
 | eptr b off sz xs i0 j0 val ha hb hi hsz hcc hr ih=>exact .eptr b off sz xs i0 j0 val ha hb hi hsz hcc hr
 | own v id ver i j m hm hv h1 he=>exact .own v id ver i j m (xsg (by simpa [AV.inP] using hx) hm) hv h1 he
 | osl v id ver off len m hm hv h1 he=>exact .osl v id ver off len m (xsg (by simpa [AV.inP] using hx) hm) hv h1 he
 | nilptr=>exact .nilptr
 | func f vs cs h hr hf ih=>exact .func f vs cs h (fun i hi=>ih i hi (xmu (by simpa [AV.inP] using hx) i)) hf
 | vptr b off v0 x ha hb hc hr ih=>exact .vptr b off v0 x ha hb hc (ih (by simpa [AV.inP,AV.inPs] using hx))
 | nilfn=>exact .nilfn
 | nmap=>exact .nmap
 | empt a=>exact .empt a
 | tuple vs cs h hr ih=>exact .tuple vs cs h fun i hi=>ih i hi (xmu (by simpa [AV.inP] using hx) i)
 | gptr g=>exact .gptr g
 | yld l=>exact .yld l
def wat (p:Id->Bool) (bx:Box):Bool:=match bx.pm with
 | true=>!(isC bx.ty&&!xH8 bx.ty)
 | false=>!(isC bx.ty)&&bx.xs.all fun x=>AV.inPs p x.cells
def xDF {p:Id->Bool} {M:Id->Option MB} {bx:Box} {j:Nat} (hs:xH7 bx.ty j=false):MV (MR p M) bx j=MR p (MV M bx j):=by
 unfold MV MP;rw [hs];cases bx.pm
 . rfl
 . funext id;unfold MR xIj;cases p id<;>rfl
def BoxAt.part {w:World} {A:Nat->Prop} {M:Id->Option MB} {B:Nat} {id:Id} {m:MB} {bx:Box} (h:BoxAt w A M B id m bx) {p:Id->Bool} (hp:wat p bx=true) (hs:∀ j,j<bx.sz->xH7 bx.ty j=false):BoxAt w A (MR p M) B id m bx:=by
 refine ⟨h.ver,h.sz,h.ty,h.capm,h.fits,h.ok,h.low,h.lt,fun h0=>?_,h.guard⟩
 obtain ⟨c,h1,h2,h3⟩:=h.cells h0;refine ⟨c,h1,h2,fun i j hi hj=>?_⟩
 have h4:=h3 i j hi hj
 replace hs:=hs j (by rw [h.sz];exact hj)
 rw [xDF hs];cases q:bx.pm with
 | true =>
  have e:MV M bx j=xIj:=by unfold MV MP;rw [hs,q]
  rw [e] at h4 |-;have e2:MR p xIj=xIj:=by
   funext id;unfold MR xIj;cases p id<;>rfl
  rw [e2];exact h4
 | false =>
  have e:MV M bx j=M:=by unfold MV MP;rw [hs,q]
  rw [e] at h4 |-;have e3:xIu id.base i j bx.ty ((bx.xs.getD i .top).cells.getD j .top)=(bx.xs.getD i .top).cells.getD j .top:=by unfold xIu;rw [hs]
  rw [e3] at h4 |-;refine h4.part p (xmu ?_ j);unfold wat at hp;rw [q] at hp;simp only [zf,zI] at hp;refine hp.2 _ ?_;rw [z7,ze hi];exact zo hi
def pB (q:Nat->Bool):Id->Bool
 | .b n=>q n
 | .r _ _ _=>false
def HR.part {w:World} {A:Nat->Prop} {M:Id->Option MB} {B:Nat} {H:List Box} (h:HR w A M B H) {q:Nat->Bool} (hq:∀ n bx,H[n]?=some bx->q n=true->wat (pB q) bx=true/\∀ j,j<bx.sz->xH7 bx.ty j=false):HR w A (MR (pB q) M) B H:=by
 refine ⟨fun id m hm=>?_,fun id id' m m' h1 h2=>h.inj id id' m m' (xho h1).2 (xho h2).2,h.lt⟩
 obtain ⟨hp,hm⟩:=xho hm;obtain ⟨bx,hb,J⟩:=h.box id m hm;refine ⟨bx,hb,?_⟩;cases id with
 | r n i j=>simp [pB] at hp
 | b n =>
  obtain ⟨h1,h2⟩:=hq n bx hb hp;exact J.part h1 h2
def HR.swap {w:World} {A:Nat->Prop} {M:Id->Option MB} {B:Nat} {H H':List Box} {q:Nat->Bool} (h:HR w A (MR (pB q) M) B H) (hq:∀ n,q n=true->H'[n]?=H[n]?):HR w A (MR (pB q) M) B H':=by
 refine ⟨fun id m hm=>?_,h.inj,h.lt⟩
 obtain ⟨bx,hb,J⟩:=h.box id m hm;refine ⟨bx,?_,J⟩;obtain ⟨hp,_⟩:=xho hm;cases id with
 | r n i j=>simp [pB] at hp
 | b n =>
  show H'[n]?=some bx;rw [hq n hp];exact hb
def HR.apart {w w':World} {A A':Nat->Prop} {M M' N:Id->Option MB} {B:Nat} {H:List Box} (h:HR w A N B H) (hm:Mv w A M w' A' M') (O:∀ b,A' b->b<w'.heap.size) (hd:∀ id m id' m',N id=some m->0<m.cap->M id'=some m'->0<m'.cap->m.b≠m'.b):HR w' A' N B H:=by
 have J:∀ id m,N id=some m->0<m.cap->∀ id' m',M id'=some m'->0<m'.cap->m'.b≠m.b:=fun id m h1 h2 id' m' h3 h4 e=>hd id m id' m' h1 h2 h3 h4 e.symm
 refine ⟨fun id m hi=>?_,h.inj,O⟩
 obtain ⟨bx,hb,q⟩:=h.box id m hi;refine ⟨bx,hb,q.mono (fun h0=>hm.touch.1 _ (q.lt h0) (J id m hi h0)) hm.keep hm.size hm.less (fun h0=>?_) (fun id m h=>⟨m,h,.inl rfl⟩)⟩
 rw [q.guard h0];exact ⟨fun ha=>hm.more _ (q.lt h0) ha (J id m hi h0),fun ha=>hm.less _ (q.lt h0) ha⟩
def MJ (M N:Id->Option MB):Id->Option MB:=fun id=>match id with
 | .b 0=>M id
 | .r _ _ _=>none
 | .b _=>N id
structure EntV where
 g:Nat
 row:List AV
 a:List AV
 b:List AV
 va:Nat
 vb:Nat
def EntV.E (e:EntV):Box:=⟨0,3,94,[.agg [.list 3 e.row,.osl (.b 2) e.va 0 e.a.length,.osl (.b 3) e.vb 0 e.b.length]],false,false⟩
def EntV.A (e:EntV):Box:=⟨e.va,3,100,e.a,false,true⟩
def EntV.B (e:EntV):Box:=⟨e.vb,3,100,e.b,false,true⟩
def q0 (n:Nat):Bool:=Nat.beq n 0
def qe1:Nat->Bool
 | 1=>true
 | 2=>true
 | 3=>true
 | _=>false
def box0:Box:=⟨0,0,0,[],false,true⟩
structure EntAt (w:World) (A:Nat->Prop) (B F:Nat) (e:EntV) (N:Id->Option MB):Prop where
 hr:HR w A N B [box0,e.E,e.A,e.B]
 ids:∀ id m,N id=some m->pB qe1 id=true
 one:∃ m,N (.b 1)=some m/\0<m.cap/\m.b=e.g
 two:∃ m,N (.b 2)=some m
 three:∃ m,N (.b 3)=some m
 fresh:∀ id m,N id=some m->0<m.cap->F<=m.b
def wae (M N:Id->Option MB):Prop:=∀ id m id' m',M id=some m->0<m.cap->N id'=some m'->0<m'.cap->m.b≠m'.b
def wae.symm {M N:Id->Option MB} (h:wae M N):wae N M:=fun id m id' m' h1 h2 h3 h4 e=>h id' m' id m h3 h4 h1 h2 e.symm
section
variable {w w' w0 : World} {A A' : Nat -> Prop} {M M' N : Id -> Option MB} {B F : Nat} {e : EntV} {A0 : Cx} {a : Act}
def EntAt.go (h:EntAt w A B F e N) (hm:Mv w A M w' A' M') (q:∀ b,A' b->b<w'.heap.size) (hd:wae N M):EntAt w' A' B F e N :=
 ⟨h.hr.apart hm q hd,h.ids,h.one,h.two,h.three,h.fresh⟩
def EntAt.lt (h:EntAt w A B F e N) {id:Id} {m:MB} (hi:N id=some m) (h0:0<m.cap):m.b<w.heap.size:=by
 obtain ⟨bx,_,hb⟩:=h.hr.box id m hi;exact hb.lt h0
def wae.go (h:EntAt w A B F e N) (hd:wae N M) (hm:Mv w A M w' A' M'):wae N M':=fun id m id' m' h1 h2 h3 h4 he=>by
 have q:=h.lt h1 h2;rcases hm.touch.2 id' m' h3 h4 with ⟨i,m1,g1,g2,g3⟩|g
 . exact hd id m i m1 h1 h2 g1 g2 (by rw [he,g3])
 . omega
def EntAt.own (h:EntAt w A B F e N) {v:Value} (hv:v=.pointer (some ⟨e.g,0,none⟩)):Rel w A N v (.own (.b 1) 0 0 0):=by
 obtain ⟨m,h1,h2,h3⟩:=h.one;obtain ⟨bx,hb,q⟩:=h.hr.box _ _ h1;obtain rfl:e.E=bx:=by simpa [getB] using hb
 have O:m.ver=0:=q.ver.symm;have J:xH8 m.ty=false:=by rw [<-q.ty];rfl
 subst hv;refine .own _ (.b 1) 0 0 0 m h1 (zQ _) rfl fun _=>?_
 unfold ptrOf;rw [J,h3];simp
def xp8 {id:Id} {m:MB} (h:MJ M N id=some m):(id=.b 0/\M id=some m)\/(∃ k,id=.b (k+1)/\N id=some m):=by
 unfold MJ at h;split at h
 . exact .inl ⟨rfl,h⟩
 . simp at h
 . rename_i n hn;cases n with
   | zero=>exact absurd rfl hn
   | succ k=>exact .inr ⟨k,rfl,h⟩
def xvM (hM:∀ id m,M id=some m->pB q0 id=true):MExt M (MJ M N):=fun id m h=>by
 refine ⟨m,?_,.inl rfl⟩;have:=hM id m h;cases id with
 | r n i j=>simp [pB] at this
 | b n =>
  cases n with
  | zero=>exact h
  | succ k=>simp [pB,q0] at this
def xrY (hN:∀ id m,N id=some m->pB qe1 id=true):MExt N (MJ M N):=fun id m h=>by
 refine ⟨m,?_,.inl rfl⟩;have:=hN id m h;cases id with
 | r n i j=>simp [pB] at this
 | b n =>
  cases n with
  | zero=>simp [pB,qe1] at this
  | succ k=>exact h
def HR.join {b0:Box} (h0:HR w A M B [b0]) (hM:∀ id m,M id=some m->pB q0 id=true) (he:EntAt w A B F e N) (hd:wae N M):HR w A (MJ M N) B [b0,e.E,e.A,e.B]:=by
 refine ⟨fun id m h=>?_,fun id id' m m' h h' c c' hb=>?_,h0.lt⟩
 . rcases xp8 h with ⟨rfl,h⟩|⟨k,rfl,h⟩
   . obtain ⟨bx,hb,q⟩:=h0.box _ _ h;refine ⟨bx,?_,q.mono (fun _=>rfl) (fun _ _ _=>rfl) (zd _) (fun _ _ h=>h) q.guard (xvM hM)⟩
     simpa [getB] using hb
   . obtain ⟨bx,hb,q⟩:=he.hr.box _ _ h;refine ⟨bx,?_,q.mono (fun _=>rfl) (fun _ _ _=>rfl) (zd _) (fun _ _ h=>h) q.guard (xrY he.ids)⟩
     simpa [getB] using hb
 . rcases xp8 h with ⟨rfl,h⟩|⟨k,rfl,h⟩<;>rcases xp8 h' with ⟨rfl,h'⟩|⟨k',rfl,h'⟩
   . rfl
   . exact absurd hb.symm (hd _ _ _ _ h' c' h c)
   . exact absurd hb (hd _ _ _ _ h c h' c')
   . exact he.hr.inj _ _ _ _ h h' c c' hb
def SR.join {b0:Box} {ts:List AV} (hs:SR w0 A0 w A M ⟨ts,[b0]⟩ a) (hM:∀ id m,M id=some m->pB q0 id=true) (hp:A0.pin=0) (he:EntAt w A w0.heap.size A0.w1.heap.size e N) (hd:wae N M):SR w0 A0 w A (MJ M N) ⟨ts,[b0,e.E,e.A,e.B]⟩ a :=
 ⟨hs.base,hs.outer,hs.size,fun t ht=>(hs.tmps t ht).mono (fun _ _ _=>rfl) (zd _) (fun _ _ h=>h) (xvM hM),hs.heap.join hM he hd,hs.defers,
  ⟨hs.ev.size,hs.ev.keep,hs.ev.less,hs.ev.more,fun id m h=>by rw [hp] at h;exact absurd h (Nat.not_lt_zero _),fun id m h h0=>by
   rcases xp8 h with ⟨rfl,h⟩|⟨k,rfl,h⟩
   . exact hs.ev.src _ _ h h0
   . exact .inr (he.fresh _ _ h h0)⟩⟩
def cutT (ts:List AV):List AV:=ts.map fun x=>match x.inP (pB q0) with
 | true=>x
 | false=>.top
def SR.cut {b0:Box} {T:List Box} {ts:List AV} (hs:SR w0 A0 w A M ⟨ts,b0::T⟩ a) (hp:A0.pin=0) (h0:wat (pB q0) b0=true) (J:∀ j,j<b0.sz->xH7 b0.ty j=false):SR w0 A0 w A (MR (pB q0) M) ⟨cutT ts,[b0]⟩ a:=by
 refine ⟨hs.base,hs.outer,by rw [hs.size];simp [cutT],fun t ht=>?_,?_,hs.defers,⟨hs.ev.size,hs.ev.keep,hs.ev.less,hs.ev.more,fun id m h=>by rw [hp] at h;exact absurd h (Nat.not_lt_zero _),fun id m h h0=>hs.ev.src _ _ (xho h).2 h0⟩⟩
 . have ht':t<ts.length:=by simpa [cutT] using ht
   have h1:=hs.tmps t ht';have e:(cutT ts).getD t .top=match (ts.getD t .top).inP (pB q0) with
    | true=>ts.getD t .top
    | false=>.top:=by
    unfold cutT;simp only [z7,List.getElem?_map,ze ht',Option.map_some,zh]
   show Rel w A _ _ ((cutT ts).getD t .top);rw [e];cases hc:(ts.getD t .top).inP (pB q0) with
   | true=>exact h1.part _ hc
   | false=>exact .top _
 . refine (hs.heap.part (q:=q0) fun n bx hb hq=>?_).swap fun n hq=>?_
   . cases n with
     | succ n=>simp [q0] at hq
     | zero =>
      obtain rfl:b0=bx:=by simpa using hb
      exact ⟨h0,J⟩
   . cases n with
     | succ n=>simp [q0] at hq
     | zero=>rfl
end
end Go.Sim
end
noncomputable section
set_option maxRecDepth 100000
namespace Go.Sim
open Go.RowKit
section
variable {P : Program} {Inv : IV} {w0 w : World} {A0 : Cx} {A : Nat -> Prop} {M : Id -> Option MB} {a : Act}
def xr4 (J:InvOk Inv) (hI:Inv w0) {ro:Option Nat} {id:Nat} {ops:Array Oper} {Q:Exit->Act->World->Prop} {s s':St} (q:noDefer ops=true) (hp:Path (OpA P Inv) ops ops.toList s s') (hs:SR w0 A0 w A M s a)
  (hK:∀ a' w' A' M',SR w0 A0 w' A' M' s' a'->Mv w A M w' A' M'->Q .normal a' w'):(Code.region id ops false).wpIn (wideR ro) 0 P Q a w:=by
 refine wpIn_region_list (xd7 ro 0 _ (xcE q) _ _ ?_);rw [<-zD ops.toList];exact xet J hI hp hs fun a' w' A' M' h1 h2=>wpList_nil (hK a' w' A' M' h1 h2)
end
end Go.Sim
namespace Go.Sim.M
open Go.RowKit Go.Proofs
def war:Code->Nat->Code
 | .region id ops d,n=>match Nat.beq id n with
  | true=>.region id ops d
  | false=>.skip
 | .seq a b,n=>match war a n with
  | .skip=>war b n
  | c=>c
 | .cond _ a b,n=>match war a n with
  | .skip=>war b n
  | c=>c
 | .block _ c,n=>war c n
 | .loop c,n=>war c n
 | _,_=>.skip
def opsOf:Code->Array Oper
 | .region _ ops _=>ops
 | _=>#[]
noncomputable abbrev gB:Code:=Tryz.f105.body.getD .skip
noncomputable abbrev gO (n:Nat):Array Oper:=opsOf (war gB n)
noncomputable abbrev EG:Env:=xsd.E.fn 19 0 (lsOf [94]) (xIs [])
def xGn:gB=.seq (.region 0 (gO 0) false) (.seq (.region 1 (gO 1) false) (.seq (.seq (.region 2 (gO 2) false) (.cond (.tmp 10) (.region 3 (gO 3) false) .skip)) (.seq (.region 4 (gO 4) false) .ret))):=by kernel_rfl
def mapB (ms:List AV):Box:=⟨0,2,mapTy 88,ms,false,true⟩
def boxN (row:List AV):Box:=⟨0,3,94,[.agg [.list 3 row,.nils,.nils]],false,true⟩
def gT (row:List AV) (x:Nat->AV):List AV:=[.list 3 row,.func vpF [.own (.b 0) 0 0 0],x 2,x 3,x 4,x 5,x 6,x 7,x 8,x 9,x 10,x 11,x 12,x 13,x 14,x 15,x 16,x 17,x 18]
def gU:AV:=.tuple []
def gT0 (row:List AV):List AV:=gT row fun _=>gU
def xGv:noDefer (gO 0)=true:=by kernel_rfl
def xGw:noDefer (gO 1)=true:=by kernel_rfl
def xGy:noDefer (gO 2)=true:=by kernel_rfl
def xGz:noDefer (gO 3)=true:=by kernel_rfl
def xGA:noDefer (gO 4)=true:=by kernel_rfl
def gT1 (row:List AV) (k:List UInt8):List AV:=((((gT0 row).set 3 .nilptr).set 5 (.list 3 row)).set 6 (.str k)).set 4 (.str k)
def xG0 (row ms:List AV):xOps Tryz.prog EG none (some true) (gO 0) (gO 0).toList ⟨gT0 row,[mapB ms]⟩ some=some ⟨(gT0 row).set 3 .nilptr,[mapB ms]⟩:=by kernel_rfl
def xG1 (row ms:List AV):xOps Tryz.prog EG none (some true) (gO 1) (gO 1).toList ⟨(gT0 row).set 3 .nilptr,[mapB ms]⟩ some=br (xa0 row).isSome (some ⟨gT1 row ((xa0 row).getD []),[mapB ms]⟩) none:=by kernel_rfl
def xGD (row ms:List AV) (k:List UInt8):xOps Tryz.prog EG none (some true) (gO 2) ((gO 2).toList.take 2) ⟨gT1 row k,[mapB ms]⟩ some=some ⟨((gT1 row k).set 7 (.own (.b 0) 0 0 0)).set 8 (.str k),[mapB ms]⟩:=by kernel_rfl
def xGU:(gO 2).toList=(gO 2).toList.take 2++[(gO 2).toList.getD 2 default,(gO 2).toList.getD 3 default]:=by kernel_rfl
def xGX:((gO 2).toList.getD 2 default).op=.lookup 88 (.tmp 7) (.tmp 8) false:=by kernel_rfl
def xGP:((gO 2).toList.getD 2 default).dst=some 9:=by kernel_rfl
def xGR:((gO 2).toList.getD 2 default).guard=none:=by kernel_rfl
def xFm:((gO 2).toList.getD 3 default).dst=some 10:=by kernel_rfl
def xGS:((gO 2).toList.getD 3 default).guard=none:=by kernel_rfl
def xG2:(xH5 Tryz.prog 90).map (·.zero)=some .nilptr:=by kernel_rfl
def xGx:∃ d,Tryz.prog.underlying 90=some (.pointer d):=⟨94,by kernel_rfl⟩
def xB8:Tryz.prog.underlying 88=some (.map 9 90):=by kernel_rfl
def xFs:Tryz.prog.underlying 9=some .string:=by kernel_rfl
def xB7:xH8 (mapTy 88)=true:=by kernel_rfl
def xts:xH7 (mapTy 88) 0=false:=by kernel_rfl
def xtt:xH7 (mapTy 88) 1=false:=by kernel_rfl
def xym {ρ:Operand->AV} {t1 t2:Tmp} {ms:List AV} {T:List Box} {k:List UInt8} (h1:ρ (.tmp t1)=.own (.b 0) 0 0 0) (h2:ρ (.tmp t2)=.str k) (hk:k.length<=xIV):iop Tryz.prog ρ (mapB ms::T) (.lookup 88 (.tmp t1) (.tmp t2) false)=some (xIo .nilptr ms k,mapB ms::T):=by
 obtain ⟨e,he⟩:=xGx;have h7:getMap (mapB ms::T) 0 0=some (mapB ms):=by
  unfold getMap;show (if _ then _ else _)=_
  rw [if_pos];exact ⟨rfl,xB7,xts,xtt,rfl,rfl⟩
 have q:=xG2;cases hd:xH5 Tryz.prog 90 with
 | none=>rw [hd] at q;simp at q
 | some d =>
  rw [hd] at q;simp only [Option.map_some,z6] at q;simp only [iop,h1,h2,absLookL,absLookM,xB8,xFs,he,hd,h7,q,hk,if_true];rfl
def xDv (g:Nat) (w:World):(binOp .eql 90 (.pointer (some ⟨g,0,none⟩)) (.pointer none)).run Tryz.prog w=.ok (.bool false) w:=by rfl
def xB2 (w:World):(binOp .eql 90 (.pointer none) (.pointer none)).run Tryz.prog w=.ok (.bool true) w:=by rfl
def gT2 (row:List AV) (k:List UInt8):List AV:=((gT1 row k).set 7 (.own (.b 0) 0 0 0)).set 8 (.str k)
def gT3 (row:List AV) (k:List UInt8) (x:AV) (b:Bool):List AV:=((gT2 row k).set 9 x).set 10 (.bool b)
def gT4 (row:List AV) (k:List UInt8):List AV:=(((((gT3 row k .nilptr true).set 11 (.own (.b 0) 0 0 0)).set 12 (.str k)).set 13 (.list 3 row)).set 14 (.agg [.list 3 row,.nils,.nils])).set 15 (.own (.b 1) 0 0 0)
def xGE (row ms:List AV) (k:List UInt8):xOps Tryz.prog EG none (some true) (gO 3) ((gO 3).toList.take 5) ⟨gT3 row k .nilptr true,[mapB ms]⟩ some=some ⟨gT4 row k,[mapB ms,boxN row]⟩:=by kernel_rfl
def xGV:(gO 3).toList=(gO 3).toList.take 5++[(gO 3).toList.getD 5 default]:=by kernel_rfl
def xGY:((gO 3).toList.getD 5 default).op=.mapUpdate 88 (.tmp 11) (.tmp 12) (.tmp 15):=by kernel_rfl
def xGQ:((gO 3).toList.getD 5 default).dst=none:=by kernel_rfl
def xGT:((gO 3).toList.getD 5 default).guard=none:=by kernel_rfl
def xGW:(gO 4).toList=(gO 4).toList.take 2++[(gO 4).toList.getD 2 default,(gO 4).toList.getD 3 default]:=by kernel_rfl
def xGB:((gO 4).toList.getD 2 default).op=.lookup 88 (.tmp 16) (.tmp 17) false:=by kernel_rfl
def xGo:((gO 4).toList.getD 2 default).dst=some 18:=by kernel_rfl
def xGt:((gO 4).toList.getD 2 default).guard=none:=by kernel_rfl
def xGC:((gO 4).toList.getD 3 default).op=.assign (.tmp 18):=by kernel_rfl
def xGp:((gO 4).toList.getD 3 default).dst=some 3:=by kernel_rfl
def xGu:((gO 4).toList.getD 3 default).guard=none:=by kernel_rfl
def xFq:((gO 2).toList.getD 3 default).op=.binOp .eql 90 (.tmp 9) (.const (.pointer none)) 90:=by kernel_rfl
def xGH:Tryz.f105.results.toList=[.tmp 3]:=by kernel_rfl
def xFH {ρ:Operand->AV} {t1 t2 t3:Tmp} {ms:List AV} {T:List Box} {k:List UInt8} {g:Nat} (h1:ρ (.tmp t1)=.own (.b 0) 0 0 0) (h2:ρ (.tmp t2)=.str k) (h3:ρ (.tmp t3)=.gptr g) (hk:k.length<=xIV) (hm:ms.length<xIV):iop Tryz.prog ρ (mapB ms::T) (.mapUpdate 88 (.tmp t1) (.tmp t2) (.tmp t3))=some (.tuple [],mapB (xIm ms k (.gptr g))::T):=by
 have h7:getMap (mapB ms::T) 0 0=some (mapB ms):=by
  unfold getMap;show (if _ then _ else _)=_
  rw [if_pos];exact ⟨rfl,xB7,xts,xtt,rfl,rfl⟩
 have h8:(mapB ms).frz=false/\(AV.gptr g).one=true/\(AV.gptr g).pure=true/\(mapB ms).xs.length<xIV/\k.length<=xIV:=⟨rfl,rfl,rfl,hm,hk⟩;simp only [iop,h1,h2,h3,absPutM,xB8,xFs,h7,h8,and_self,if_true];rfl
def xrn {k:List UInt8}:∀ {ms:List AV} {j:Nat},mapIx ms k=some j->∀ i,i<j->isKey k ((ms.getD i .top).cells.getD 0 .top)=false
 | [],j,h,_,_=>by simp [mapIx] at h
 | e::es,j,h,i,hi=>by
  rw [mapIx] at h;cases hc:isKey k (e.cells.getD 0 .top) with
  | true=>rw [hc] at h;simp only [z6] at h;omega
  | false =>
   rw [hc] at h;cases hm:mapIx es k with
   | none=>rw [hm] at h;simp at h
   | some j' =>
    rw [hm] at h;simp only [Option.map_some,z6] at h;cases i with
    | zero=>simpa using hc
    | succ i=>simpa using xrn hm i (by omega)
def xro {k:List UInt8}:∀ {ms:List AV},mapIx ms k=none->∀ i,i<ms.length->isKey k ((ms.getD i .top).cells.getD 0 .top)=false
 | [],_,i,hi=>by simp at hi
 | e::es,h,i,hi=>by
  rw [mapIx] at h;cases hc:isKey k (e.cells.getD 0 .top) with
  | true=>rw [hc] at h;simp at h
  | false =>
   rw [hc] at h;cases hm:mapIx es k with
   | some j'=>rw [hm] at h;simp at h
   | none =>
    cases i with
    | zero=>simpa using hc
    | succ i=>simpa using xro hm i (by simpa using hi)
def xDy {k:List UInt8} {v:AV}:∀ {ms:List AV},xIo .nilptr (xIm ms k v) k=v
 | ms=>by
  have q:putIx ms k<(xIm ms k v).length:=by
   unfold xIm putIx;cases h:mapIx ms k with
   | some i=>simpa using xjd h
   | none=>simp
  have h1:(xIm ms k v).getD (putIx ms k) .top=.agg [.str k,v]:=by rw [xlj,if_pos rfl]
  have h2:mapIx (xIm ms k v) k=some (putIx ms k):=by
   refine xni q (by rw [h1];simp [AV.cells,isKey]) fun i hi=>?_
   rw [xlj,if_neg (by omega)]
   unfold putIx at hi;cases h:mapIx ms k with
   | some j =>
    rw [h] at hi;exact xrn h i hi
   | none =>
    rw [h] at hi;exact xro h i hi
  unfold xIo;rw [h2];dsimp only;rw [h1];rfl
end Go.Sim.M
end
noncomputable section
set_option maxRecDepth 100000
namespace Go.Sim.M
open Go.RowKit Go.Proofs
def hIoG (n:Nat):InvOk (xIO.at n):=xIg Tryz.prog n
def orcG:xH6 Tryz.prog (xIO.at 0) EG:=xsd.ok.fn
def gS5 (ts:List AV) (k:List UInt8):List AV:=(ts.set 16 (.own (.b 0) 0 0 0)).set 17 (.str k)
def gS6 (ts:List AV) (k:List UInt8) (g:Nat):List AV:=((gS5 ts k).set 18 (.gptr g)).set 3 (.gptr g)
def xFr {ts:List AV} (hl:ts.length=19) (k:List UInt8) (g:Nat) (H:List Box):resAllM Tryz.prog ⟨gS6 ts k g,H⟩ Tryz.f105.results.toList=some [.gptr g]:=by
 have e:(gS6 ts k g).getD 3 .top=.gptr g:=by
  unfold gS6 gS5;simp [z7,hl]
 rw [xGH];have e2:resVal Tryz.prog ⟨gS6 ts k g,H⟩ (.tmp 3)=some (.gptr g):=by
  show some ((gS6 ts k g).getD 3 .top)=_;rw [e]
 simp only [resAllM,e2]
def xnO {ops:Array Oper} {l:List Oper} {s s':St} (h:xOps Tryz.prog EG none (some true) ops l s some=some s'):Path (OpA Tryz.prog (xIO.at 0)) ops l s s':=by
 obtain ⟨s1,h1,h2⟩:=xcF orcG h;cases h2;exact h1
section
variable {w0 w : World} {A0 : Cx} {A : Nat -> Prop} {M : Id -> Option MB} {a : Act}
def xAN (hI:xIO w0) {ts ms:List AV} {k:List UInt8} {T:List Box} {g:Nat} (q:ts.length=19) (hp:xOps Tryz.prog EG none (some true) (gO 4) ((gO 4).toList.take 2) ⟨ts,mapB ms::T⟩ some=some ⟨gS5 ts k,mapB ms::T⟩) (V:k.length<=xIV) (hg:xIo .nilptr ms k=.gptr g) (hs:SR w0 A0 w A M ⟨ts,mapB ms::T⟩ a) {Q:Exit->Act->World->Prop}
  (hK:∀ a' w' A' M',SR w0 A0 w' A' M' ⟨gS6 ts k g,mapB ms::T⟩ a'->Mv w A M w' A' M'->Q .normal a' w'):(Code.region 4 (gO 4) false).wpIn (wideR none) 0 Tryz.prog Q a w:=by
 refine wpIn_region_list (xd7 none 0 _ (xcE xGA) _ _ ?_);rw [xGW];refine xet (hIoG 0) hI (xnO hp) hs fun a1 w1 A1 M1 aa O=>wpList_plain xGt fun K Z=>?_
 have hl:OpA Tryz.prog (xIO.at 0) ⟨gS5 ts k,mapB ms::T⟩ ((gO 4).toList.getD 2 default) ⟨(gS5 ts k).set 18 (.gptr g),mapB ms::T⟩:=by
  refine .inr (.inl (.inl ⟨.gptr g,mapB ms::T,?_,?_⟩))
  . rw [xGB,<-hg];exact xym (by simp [St.eval,gS5,z7,q]) (by simp [St.eval,gS5,z7,q]) V
  . rw [xGo];rfl
 refine xjg (hIoG 0) hI hl aa fun v w2 A2 M2 ab mv2=>Z _ _ (wpList_plain xGu fun K2 W=>?_)
 have Y:OpA Tryz.prog (xIO.at 0) ⟨(gS5 ts k).set 18 (.gptr g),mapB ms::T⟩ ((gO 4).toList.getD 3 default) ⟨gS6 ts k g,(mapB ms::T)++(none:Option Box).toList⟩:=by
  refine .inl (.inl ⟨.gptr g,none,.inl ?_,?_⟩)
  . rw [xGC];simp [fop,St.eval,gS5,z7,q]
  . rw [xGp];rfl
 refine xjg (hIoG 0) hI Y ab fun v2 w3 A3 M3 J mv3=>W _ _ (wpList_nil ?_)
 simp only [Option.toList,zD] at J;exact hK _ _ _ _ J ((O.trans mv2).trans mv3)
def xGF (row ms:List AV) (k:List UInt8) (g:Nat):xOps Tryz.prog EG none (some true) (gO 4) ((gO 4).toList.take 2) ⟨gT3 row k (.gptr g) false,[mapB ms]⟩ some=some ⟨gS5 (gT3 row k (.gptr g) false) k,[mapB ms]⟩:=by kernel_rfl
def gT7 (row:List AV) (k:List UInt8) (g:Nat):List AV:=(gT4 row k).set 15 (.gptr g)
def xGG (row ms:List AV) (k:List UInt8) (g:Nat):xOps Tryz.prog EG none (some true) (gO 4) ((gO 4).toList.take 2) ⟨gT7 row k g,[mapB ms,boxN row]⟩ some=some ⟨gS5 (gT7 row k g) k,[mapB ms,boxN row]⟩:=by kernel_rfl
end
def xGq (row:List AV) (k:List UInt8) (g:Nat) (H:List Box):St.eval ⟨gT7 row k g,H⟩ (.tmp 11)=.own (.b 0) 0 0 0:=by kernel_rfl
def xGr (row:List AV) (k:List UInt8) (g:Nat) (H:List Box):St.eval ⟨gT7 row k g,H⟩ (.tmp 12)=.str k:=by kernel_rfl
def xGs (row:List AV) (k:List UInt8) (g:Nat) (H:List Box):St.eval ⟨gT7 row k g,H⟩ (.tmp 15)=.gptr g:=by kernel_rfl
def xFo (row:List AV) (k:List UInt8) (g:Nat):(gT7 row k g).length=19:=by kernel_rfl
def xFn (row:List AV) (k:List UInt8) (y:AV) (b:Bool):(gT3 row k y b).length=19:=by kernel_rfl
def xGZ (row:List AV) (k:List UInt8) (g:Nat):putT (gT7 row k g) none (.tuple [])=gT7 row k g:=by rfl
def wav (row ms:List AV) (k:List UInt8) (g:Nat) (H:List Box) (M':Id->Option MB):Prop :=
 (xIo .nilptr ms k=.gptr g/\H=[mapB ms]) \/
 (xIo .nilptr ms k=.nilptr/\H=[mapB (xIm ms k (.gptr g)),boxN row]/\∃ m,M' (.b 1)=some m/\0<m.cap/\m.b=g)
section
variable {w0 w : World} {A0 : Cx} {A : Nat -> Prop} {M : Id -> Option MB} {a : Act}
def HR.same {w':World} {A':Nat->Prop} {M':Id->Option MB} {B n:Nat} {H H':List Box} {bx bx':Box} {m:MB} (h:HR w A M B H) (h':HR w' A' M' B H') (hx:MExt M M') (hb:H[n]?=some bx) (q:H'[n]?=some bx') (hv:bx'.ver=bx.ver) (hm:M (.b n)=some m):M' (.b n)=some m:=by
 obtain ⟨m',h1,h2⟩:=hx _ _ hm;obtain ⟨c,g1,g2⟩:=h.box _ _ hm;obtain ⟨c',g3,g4⟩:=h'.box _ _ h1;have e1:bx=c:=Option.some.inj (hb.symm.trans g1);have e2:bx'=c':=Option.some.inj (q.symm.trans g3);subst e1 e2;have:=g2.ver;have:=g4.ver;rcases h2 with rfl|h2
 . exact h1
 . omega
set_option maxHeartbeats 2000000 in
def xCa (hI:xIO w0) {row ms:List AV} {k:List UInt8} (hk:xa0 row=some k) (Y:k.length<=xIV) (hm:ms.length<xIV) (al:xIo .nilptr ms k=.nilptr\/∃ g,xIo .nilptr ms k=.gptr g) (az:SR w0 A0 w A M ⟨gT0 row,[mapB ms]⟩ a) {Q:Exit->Act->World->Prop}
  (hQ:∀ a' w' A' M' ts H g,SR w0 A0 w' A' M' ⟨gS6 ts k g,H⟩ a'->ts.length=19->Mv w A M w' A' M'->wav row ms k g H M'->Q .ret a' w'):gB.wpIn (wideR none) 0 Tryz.prog Q a w:=by
 rw [xGn];refine wpIn_seq (xr4 (hIoG 0) hI xGv (xnO (xG0 row ms)) az fun a1 w1 A1 M1 a7 aj=>?_)
 have p1:=xG1 row ms;rw [hk,zk,xaj,zh] at p1;refine wpIn_seq (xr4 (hIoG 0) hI xGw (xnO p1) a7 fun a2 w2 A2 M2 ap mv2=>?_)
 refine wpIn_seq (wpIn_seq (wpIn_region_list (xd7 none 0 _ (xcE xGy) _ _ ?_)));rw [xGU];refine xet (hIoG 0) hI (xnO (xGD row ms k)) ap fun a3 w3 A3 M3 am mv3=>wpList_plain xGR fun K aq=>?_
 have hl:OpA Tryz.prog (xIO.at 0) ⟨gT2 row k,[mapB ms]⟩ ((gO 2).toList.getD 2 default) ⟨(gT2 row k).set 9 (xIo .nilptr ms k),[mapB ms]⟩:=by
  refine .inr (.inl (.inl ⟨xIo .nilptr ms k,[mapB ms],?_,?_⟩))
  . rw [xGX];exact xym rfl rfl Y
  . rw [xGP];rfl
 refine xjg (hIoG 0) hI hl am fun v w4 A4 M4 q an=>aq _ _ (wpList_plain xGS fun K2 ae=>?_)
 have aa:=((aj.trans mv2).trans mv3).trans an;generalize a3.put _ v=a4 at q;have h9:=q.eval (.tmp 9);have e9:St.eval ⟨(gT2 row k).set 9 (xIo .nilptr ms k),[mapB ms]⟩ (.tmp 9)=xIo .nilptr ms k:=rfl;rw [e9] at h9;have hc:a4.eval (.const (.pointer none))=.pointer none:=rfl;unfold Oper.wp;rcases al with hn|⟨g,hg⟩
 ·
  rw [hn] at h9 q;have v9:a4.eval (.tmp 9)=.pointer none:=by
   generalize a4.eval (.tmp 9)=u at h9;cases h9;rfl
  simp only [execOp,xFq,v9,hc,xB2,Sem.run_bind,Result.andThen_ok,Sem.run_pure];show K2 (a4.put ((gO 2).toList.getD 3 default).dst (.bool true)) w4;rw [xFm];refine ae _ _ (wpList_nil ?_);have J:=q.put (d:=some 10) q.base q.outer Mv.refl q.heap (Rel.bool (w:=w4) (A:=A4) (M:=M4) true);have J:SR w0 A0 w4 A4 M4 ⟨gT3 row k .nilptr true,[mapB ms]⟩ (a4.put (some 10) (.bool true)):=J;generalize a4.put (some 10) (.bool true)=a5 at J;have ad:a5.eval (.tmp 10)=.bool true:=by
   have:=J.eval (.tmp 10);exact this.bool_inv
  refine wpIn_cond_split ad (fun _=>?_) (fun h=>by cases h)
  refine wpIn_region_list (xd7 none 0 _ (xcE xGz) _ _ ?_);rw [xGV];refine xet (hIoG 0) hI (xnO (xGE row ms k)) J fun a6 w6 A6 M6 O mv6=>wpList_plain xGT fun K3 ao=>?_
  have Z:=O.eval (.tmp 15);have Z:Rel w6 A6 M6 (a6.eval (.tmp 15)) (.own (.b 1) 0 0 0):=Z;obtain ⟨m,ag,aw⟩:∃ m,M6 (.b 1)=some m/\(m.ver=0->a6.eval (.tmp 15)=ptrOf m 0 0):=by
   generalize a6.eval (.tmp 15)=u at Z;cases Z with
   | own v id ver i j m hm hv h1 he=>exact ⟨m,hm,fun h=>he h.symm⟩
  obtain ⟨bx,au,ac⟩:=O.heap.box _ _ ag;obtain rfl:boxN row=bx:=by simpa [getB] using au
  have ah:m.ver=0:=ac.ver.symm;have ay:xH8 m.ty=false:=by rw [<-ac.ty];kernel_rfl
  have hcap:0<m.cap:=Nat.lt_of_lt_of_le (by simp [boxN]) ac.fits
  have ak:a6.eval (.tmp 15)=.pointer (some ⟨m.b,0,none⟩):=by
   rw [aw ah];unfold ptrOf;rw [ay];simp
  have af:SR w0 A0 w6 A6 M6 ⟨gT7 row k m.b,[mapB ms,boxN row]⟩ a6:=by
   refine ⟨O.base,O.outer,by rw [O.size];rfl,fun t ht=>?_,O.heap,O.defers,O.ev⟩
   by_cases h:t=15
   . subst h;show Rel w6 A6 M6 (a6.tmps.getD 15 undef) (.gptr m.b);have:a6.tmps.getD 15 undef=.pointer (some ⟨m.b,0,none⟩):=ak;rw [this];exact .gptr _
   . have h1:=O.tmps t (by simpa [gT7] using ht)
     have e:(gT7 row k m.b).getD t .top=(gT4 row k).getD t .top:=by
      unfold gT7;simp only [z7,List.getElem?_set,Ne.symm h,if_false]
     show Rel w6 A6 M6 _ ((gT7 row k m.b).getD t .top);rw [e];exact h1
  have a0:OpA Tryz.prog (xIO.at 0) ⟨gT7 row k m.b,[mapB ms,boxN row]⟩ ((gO 3).toList.getD 5 default) ⟨gT7 row k m.b,[mapB (xIm ms k (.gptr m.b)),boxN row]⟩:=by
   refine .inr (.inl (.inl ⟨.tuple [],[mapB (xIm ms k (.gptr m.b)),boxN row],?_,?_⟩))
   . rw [xGY];exact xFH (xGq row k m.b _) (xGr row k m.b _) (xGs row k m.b _) Y hm
   . rw [xGQ];exact congrArg (fun t=>(⟨t,_⟩:St)) (xGZ row k m.b).symm
  refine xjg (hIoG 0) hI a0 af fun v8 w8 A8 M8 ab ai=>ao _ _ (wpList_nil ?_)
  have ax:=HR.same af.heap ab.heap ai.ext (n:=1) rfl rfl rfl ag;refine wpIn_seq (xAN hI (xFo row k m.b) (xGG row _ k m.b) Y xDy ab fun a9 w9 A9 M9 V W=>?_)
  have ar:=HR.same ab.heap V.heap W.ext (n:=1) rfl rfl rfl ax;refine wpIn_ret (hQ _ _ _ _ _ _ m.b V (xFo row k m.b) (((aa.trans mv6).trans ai).trans W) (.inr ⟨hn,rfl,m,ar,hcap,rfl⟩))
 . rw [hg] at h9 q;have v9:a4.eval (.tmp 9)=.pointer (some ⟨g,0,none⟩):=by
    generalize a4.eval (.tmp 9)=u at h9;cases h9;rfl
   simp only [execOp,xFq,v9,hc,xDv,Sem.run_bind,Result.andThen_ok,Sem.run_pure];show K2 (a4.put ((gO 2).toList.getD 3 default).dst (.bool false)) w4;rw [xFm];refine ae _ _ (wpList_nil ?_);have J:=q.put (d:=some 10) q.base q.outer Mv.refl q.heap (Rel.bool (w:=w4) (A:=A4) (M:=M4) false);have J:SR w0 A0 w4 A4 M4 ⟨gT3 row k (.gptr g) false,[mapB ms]⟩ (a4.put (some 10) (.bool false)):=J;generalize a4.put (some 10) (.bool false)=a5 at J;have ad:a5.eval (.tmp 10)=.bool false:=by
    have:=J.eval (.tmp 10);exact this.bool_inv
   refine wpIn_cond_split ad (fun h=>by cases h) (fun _=>wpIn_skip ?_)
   refine wpIn_seq (xAN hI (xFn row k (.gptr g) false) (xGF row ms k g) Y hg J fun a9 w9 A9 M9 V W=>?_)
   exact wpIn_ret (hQ _ _ _ _ _ _ g V (xFn row k (.gptr g) false) (aa.trans W) (.inl ⟨hg,rfl⟩))
end
def xFl:Tryz.f105.body=some gB:=by kernel_rfl
def xFp:Tryz.f105.ntmps=19:=by kernel_rfl
def xpm {args:List AV} {n t:Nat} (h:t<args.length):(args++List.replicate n (AV.tuple [])).getD t .top=args.getD t .top:=by
 simp [z7,zP,h]
def xpn {args:List AV} {n t:Nat} (h1:¬ t<args.length) (h2:t - args.length<n):(args++List.replicate n (AV.tuple [])).getD t .top=.tuple []:=by
 simp [z7,zP,h1,List.getElem?_replicate,h2]
def xAJ (row:List AV):gT0 row=[AV.list 3 row,.func vpF [.own (.b 0) 0 0 0]]++List.replicate 17 (.tuple []):=by rfl
def xt4 {w0 w:World} {A:Nat->Prop} {M:Id->Option MB} {vs:List Value} {row ms:List AV} {k:List UInt8} (hI:xIO w0) (W:Below w0.heap.size w0 w) (hR:HR w A M w0.heap.size [mapB ms]) (V:RC w A M vs [.list 3 row,.func vpF [.own (.b 0) 0 0 0]])
  (hk:xa0 row=some k) (aa:k.length<=xIV) (hm:ms.length<xIV) (ac:xIo .nilptr ms k=.nilptr\/∃ g,xIo .nilptr ms k=.gptr g) :
  Calls Tryz.prog 105 vs.toArray w fun e w'=>∃ v A' M' g,e=.returned v/\v=.pointer (some ⟨g,0,none⟩)/\Below w0.heap.size w0 w'/\(∀ b,b<w0.heap.size->(A' b↔A b))/\Mv w A M w' A' M'/\∃ H,HR w' A' M' w0.heap.size H/\wav row ms k g H M':=by
 refine callsIn_wide.1 (callsIn_of_wp_marks (F:=Fence.wide) (n:=0) Tryz.func105 xFl trivial ?_);refine xCa (A0:=⟨A,w,A,M,1,fun _=>False⟩) (A:=A) (M:=M) (k:=k) (row:=row) (ms:=ms) hI hk aa hm ac ⟨W,fun _ _=>Iff.rfl,?_,fun t ht=>?_,hR,DefOk.nil,Ev.refl (C:=⟨A,w,A,M,1,fun _=>False⟩)⟩ ?_
 . rw [xFp];have:=V.1;simp [xAJ,this]
 . have hl:=V.1;have hl:vs.length=2:=hl;rw [xFp];show Rel w A M _ ((gT0 row).getD t .top);rw [xAJ];by_cases O:t<2
   . have e1:(vs.toArray++Array.replicate (19 - vs.toArray.size) undef).getD t undef=vs.getD t undef:=by
      have:t<vs.length:=by omega
      simp [z7,Array.getElem?_append,this]
     rw [e1,xpm O];exact V.2 t O
   . have ht:t<19:=by
      have h0:(gT0 row).length=19:=rfl;rw [<-h0];exact ht
     have h1:¬ t<vs.length:=by omega
     have e1:(vs.toArray++Array.replicate (19 - vs.toArray.size) undef).getD t undef=undef:=by
      have h2:t - vs.length<19 - vs.length:=by omega
      simp [Array.getElem?_append,h1,h2]
     rw [e1,xpn O (show t - 2<17 by omega)]
     exact .tuple #[] [] rfl (by simp)
 . intro a' w' A' M' ts H g Z Y ad Q;show LeavesInM Fence.wide 0 Tryz.prog Tryz.f105 a'.tmps _ a'.defers .returning w';refine xmv (fun _ h=>h) Z fun w2 J=>?_
   obtain ⟨v,hv,q⟩:=xlt (P:=Tryz.prog) J (xFr Y k g H);have ab:v=.pointer (some ⟨g,0,none⟩):=by
    have q:Rel w2 A' M' v (.gptr g):=q;cases q;rfl
   exact ⟨v,hv,v,A',M',g,rfl,ab,J.base,J.outer,J.ev.mv hR (zd 1),H,J.heap,Q⟩
end Go.Sim.M
end
noncomputable section
set_option maxRecDepth 100000
namespace Go.Sim
open Go.RowKit
def keepT (live:List Nat) (ts:List AV):List AV:=mkTs ts.length (live.zip (liveOf live ts))
def wag (live:List Nat) (s:St):St:=⟨keepT live s.tmps,s.heap⟩
section
variable {P : Program} {Inv : IV} {w0 w w' : World} {A0 : Cx} {A A' : Nat -> Prop} {M M' N N' : Id -> Option MB} {a : Act} {B F : Nat} {e : EntV}
def SR.mask {s:St} (h:SR w0 A0 w A M s a) (live:List Nat):SR w0 A0 w A M (wag live s) a:=by
 have hl:(keepT live s.tmps).length=s.tmps.length:=xh9 _ _;refine ⟨h.base,h.outer,h.size.trans hl.symm,fun t ht=>?_,h.heap,h.defers,h.ev⟩
 have ht':t<s.tmps.length:=by rw [<-hl];exact ht
 show Rel w A M _ ((keepT live s.tmps).getD t .top);rcases xqD s.tmps.length s.tmps rfl t live with e|e
 . unfold keepT;rw [e];exact h.tmps t ht'
 . unfold keepT;rw [e];exact .top _
def xfs {E:Env} (J:xH6 P Inv E) (O:InvOk Inv) (hI:Inv w0) {ro:Option Nat} {id:Nat} {ops:Array Oper} {Q:Exit->Act->World->Prop} {s s':St} {live:List Nat} (q:noDefer ops=true) (hp:xOps P E none (some true) ops ops.toList s (fun s=>some (wag live s))=some s') (hs:SR w0 A0 w A M s a)
  (hK:∀ a' w' A' M',SR w0 A0 w' A' M' s' a'->Mv w A M w' A' M'->Q .normal a' w'):(Code.region id ops false).wpIn (wideR ro) 0 P Q a w:=by
 obtain ⟨s1,h1,h2⟩:=xcF J hp;cases h2;exact xr4 O hI q h1 hs fun a' w' A' M' k1 k2=>hK a' w' A' M' (k1.mask live) k2
def callX {o:Oper} {c:Call} {s:St} {g:FuncId} {args:List AV} {R:Value->World->Prop} (ho:o.op=.call c) (q:xIU s c=some (g,args)) (he:Enters P g) (hs:SR w0 A0 w A M s a)
  (J:∀ vs,RC w A M vs args->Calls P g vs.toArray w fun e w'=>∃ v,e=.returned v/\R v w') {K:Act->World->Prop} {Q:Exit->Act->World->Prop} (hK:∀ v w',R v w'->K (a.put o.dst v) w'):o.wp P a w K Q:=by
 unfold xIU at q;split at q
 case h_2=>simp at q
 rename_i fo Y;split at q
 case h_2=>simp at q
 rename_i g' W ac;split at q
 . simp at q
 rename_i ae;simp only [z6,zb] at q;obtain ⟨rfl,rfl⟩:=q;have O:=hs.eval fo;rw [ac] at O;obtain ⟨cv,Z,aa,ab⟩:=O.func_inv ae;have V:=xo1 (w:=w) (A:=A) (M:=M) (l:=c.args.toList) (ρc:=a.eval) (ρ:=s.eval) (fun x _=>hs.eval x)
 have ad:RC w A M (c.args.toList.map a.eval++cv.toList) (c.args.toList.map s.eval++W):=RC.append ⟨V.1,V.2⟩ ⟨by simpa using aa,fun i hi=>by have:=ab i hi;simpa [z7,zu] using this⟩
 unfold Oper.wp;rw [xrM ho Y Z he,Oper.upon_enter];refine (J _ ad).mono ?_;rintro e w' ⟨v,rfl,hr⟩;exact hK v w' hr
def SR.settle1 {ts:List AV} {H:List Box} (h:SR w0 A0 w A M ⟨ts,H⟩ a) {t:Nat} {y:AV} (hy:resolve H xIq (ts.getD t .top)=some y):∃ A1,SR w0 A0 w A1 M ⟨ts.set t y,freeze H (reach H xIq (ts.getD t .top))⟩ a/\Mv w A M w A1 M :=
 h.settle (s1:=⟨ts.set t y,freeze H (reach H xIq (ts.getD t .top))⟩) ⟨_,rfl,by simp,fun t'=>by
  by_cases hd:t=t'
  . subst hd;by_cases q:t<ts.length
    . right;simp only [xcK q];exact ⟨hy,fun _ h=>h⟩
    . left;simp only [List.set_eq_of_length_le (Nat.le_of_not_lt q)]
  . left;simp only [xcL hd]⟩
def SR.setT {ts:List AV} {H:List Box} (h:SR w0 A0 w A M ⟨ts,H⟩ a) {t:Nat} {y:AV} (hy:t<ts.length->Rel w A M (a.tmps.getD t undef) y):SR w0 A0 w A M ⟨ts.set t y,H⟩ a:=by
 refine ⟨h.base,h.outer,by rw [h.size];simp,fun t' ht=>?_,h.heap,h.defers,h.ev⟩
 have ht':t'<ts.length:=by simpa using ht
 show Rel w A M _ ((ts.set t y).getD t' .top);by_cases hd:t=t'
 . subst hd;rw [xcK ht'];exact hy ht'
 . rw [xcL hd];exact h.tmps t' ht'
def wae.joined (h1:wae N M) (h2:wae N N'):wae N (MJ M N'):=fun id m id' m' g1 g2 g3 g4=>by
 rcases xp8 g3 with ⟨rfl,h⟩|⟨k,rfl,h⟩
 . exact h1 _ _ _ _ g1 g2 h g4
 . exact h2 _ _ _ _ g1 g2 h g4
def wae.part {q:Id->Bool} (h:wae N M):wae N (MR q M):=fun id m id' m' g1 g2 g3 g4=>h id m id' m' g1 g2 (xho g3).2 g4
def HR.split {H:List Box} (h:HR w A M B H):wae (MR (pB qe1) M) (MR (pB q0) M):=fun id m id' m' g1 g2 g3 g4 he=>by
 obtain ⟨p1,h1⟩:=xho g1;obtain ⟨p2,h2⟩:=xho g3;have:=h.inj id id' m m' h1 h2 g2 g4 he;subst this;cases id with
 | r n i j=>simp [pB] at p1
 | b n=>cases n<;>simp [pB,q0,qe1] at p1 p2
def xhT (M:Id->Option MB):∀ id m,MR (pB q0) M id=some m->pB q0 id=true:=fun id m h=>(xho h).1
end
def xDt (e:EntV):wat (pB qe1) e.E=true:=by
 simp only [wat,EntV.E,List.all_cons,List.all_nil,zS,AV.cells,AV.inPs,AV.inP,pB,qe1,Bool.and_self];rfl
def xDr (e:EntV):wat (pB qe1) e.A=true:=by rfl
def xDs (e:EntV):wat (pB qe1) e.B=true:=by rfl
section
variable {w0 w w' : World} {A0 : Cx} {A A' : Nat -> Prop} {M M' N N' : Id -> Option MB} {a : Act} {F : Nat} {e : EntV}
def SR.out {b0:Box} {T:List Box} {ts:List AV} (hs:SR w0 A0 w A M ⟨ts,b0::e.E::e.A::e.B::T⟩ a) (O:∀ id,A0.M1 id=none) {m:MB} (hm:M (.b 1)=some m) (hg:m.b=e.g) (h2:∃ m,M (.b 2)=some m) (h3:∃ m,M (.b 3)=some m):EntAt w A w0.heap.size A0.w1.heap.size e (MR (pB qe1) M):=by
 refine ⟨?_,fun id m h=>(xho h).1,⟨m,xsg rfl hm,?_,hg⟩,?_,?_,fun id m h h0=>?_⟩
 . refine (hs.heap.part (q:=qe1) fun n bx hb hq=>?_).swap fun n hq=>?_
   . match n,hq with
     | 1,_ =>
      obtain rfl:e.E=bx:=by simpa using hb
      exact ⟨xDt e,fun j _=>rfl⟩
     | 2,_ =>
      obtain rfl:e.A=bx:=by simpa using hb
      exact ⟨xDr e,fun j _=>rfl⟩
     | 3,_ =>
      obtain rfl:e.B=bx:=by simpa using hb
      exact ⟨xDs e,fun j _=>rfl⟩
   . match n,hq with
     | 1,_=>rfl
     | 2,_=>rfl
     | 3,_=>rfl
 . obtain ⟨bx,hb,J⟩:=hs.heap.box _ _ hm;obtain rfl:e.E=bx:=by simpa [getB] using hb
   exact Nat.lt_of_lt_of_le (by simp [EntV.E]) J.fits
 . obtain ⟨m,h⟩:=h2;exact ⟨m,xsg rfl h⟩
 . obtain ⟨m,h⟩:=h3;exact ⟨m,xsg rfl h⟩
 . rcases hs.ev.src _ _ (xho h).2 h0 with ⟨i,m1,h1,_⟩|h1
   . rw [O] at h1;cases h1
   . exact h1
def SR.newE {b0:Box} {ts row:List AV} {g:Nat} (hs:SR w0 A0 w A M ⟨ts,[b0,⟨0,3,94,[.agg [.list 3 row,.nils,.nils]],false,true⟩]⟩ a) {m:MB} (hm:M (.b 1)=some m) (hg:m.b=g) :
  ∃ M',SR w0 A0 w A M' ⟨ts,[b0,EntV.E ⟨g,row,[],[],0,0⟩,EntV.A ⟨g,row,[],[],0,0⟩,EntV.B ⟨g,row,[],[],0,0⟩]⟩ a/\Mv w A M w A M'/\M' (.b 1)=some m/\(∃ m,M' (.b 2)=some m)/\∃ m,M' (.b 3)=some m:=by
 obtain ⟨M1,h1,v1⟩:=hs.heap.cellnilJ (n:=2) (j0:=1) 100 (id:=1) rfl rfl rfl rfl;obtain ⟨M2,h2,v2⟩:=h1.cellnilJ (n:=2) (j0:=2) 100 (id:=1) rfl rfl rfl rfl;have hv:=v1.trans v2;have h3:HR w A M2 w0.heap.size [b0,EntV.E ⟨g,row,[],[],0,0⟩,EntV.A ⟨g,row,[],[],0,0⟩,EntV.B ⟨g,row,[],[],0,0⟩]:=h2;have J:M2 (.b 1)=some m:=_root_.Go.Sim.M.HR.same hs.heap h3 hv.ext (n:=1) rfl rfl rfl hm;obtain ⟨bx,hb,q⟩:=h3.box _ _ J;obtain rfl:EntV.E ⟨g,row,[],[],0,0⟩=bx:=by simpa [getB] using hb
 have hcap:0<m.cap:=Nat.lt_of_lt_of_le (by simp [EntV.E]) q.fits
 obtain ⟨c,_,_,hc⟩:=q.cells hcap;have hsz:m.sz=3:=q.sz.symm;refine ⟨M2,⟨hs.base,hs.outer,hs.size,fun t ht=>hv.rel (hs.tmps t ht),h3,hs.defers,hs.ev.step hv⟩,hv,J,?_,?_⟩
 . have h:=hc 0 1 (by simp [EntV.E]) (by omega)
   have h:Rel w A M2 (c.getD (0*m.sz+1) undef) (.osl (.b 2) 0 0 0):=h;generalize c.getD (0*m.sz+1) undef=v at h;cases h with
   | osl v id ver off len m hm hv h1 he=>exact ⟨_,hm⟩
 . have h:=hc 0 2 (by simp [EntV.E]) (by omega)
   have h:Rel w A M2 (c.getD (0*m.sz+2) undef) (.osl (.b 3) 0 0 0):=h;generalize c.getD (0*m.sz+2) undef=v at h;cases h with
   | osl v id ver off len m hm hv h1 he=>exact ⟨_,hm⟩
end
end Go.Sim
end
noncomputable section
set_option maxRecDepth 100000
namespace Go.Sim.M
open Go.RowKit Go.Proofs
noncomputable abbrev cB:Code:=Tryz.f75.body.getD .skip
noncomputable abbrev cO (n:Nat):Array Oper:=opsOf (war cB n)
noncomputable abbrev EC (p:Nat):Env:=xsd.E.fn 62 p (lsOf []) (xIs [])
def orcC (p:Nat):xH6 Tryz.prog (xIO.at p) (EC p):=xsd.ok.fn
def vC:AV:=.func vpF [.own (.b 0) 0 0 0]
noncomputable def lpA:Code:=.seq (.region 4 (cO 4) false) (.seq (.cond (.tmp 18) .skip (.exit 0)) (.seq (.block 1 (.seq (.region 5 (cO 5) false) (.seq (.region 6 (cO 6) false) (.region 7 (cO 7) true)))) (.region 8 (cO 8) false)))
noncomputable def lpB:Code:=.seq (.region 10 (cO 10) false) (.seq (.cond (.tmp 41) .skip (.exit 2)) (.seq (.block 3 (.seq (.region 11 (cO 11) false) (.seq (.region 12 (cO 12) false) (.region 13 (cO 13) true)))) (.region 14 (cO 14) false)))
def xF6:cB=.seq (.region 0 (cO 0) false) (.seq (.region 1 (cO 1) false) (.seq (.region 2 (cO 2) false) (.seq (.seq (.region 3 (cO 3) false) (.block 0 (.loop lpA))) (.seq (.seq (.region 9 (cO 9) false) (.block 2 (.loop lpB))) (.seq (.region 15 (cO 15) false) .ret))))):=by kernel_rfl
def wa4:Op->Call
 | .call c=>c
 | _=>default
def xvz:Enters Tryz.prog 105:=⟨_,Tryz.func105,by kernel_rfl,by kernel_rfl⟩
def rowF (f:AV):List AV:=(f.cells.getD 0 .top).toList
def cntF (f:AV):AV:=.agg [.int .i64 (f.cells.getD 1 .top).toInt,.int .i64 (f.cells.getD 2 .top).toInt,.int .i64 1]
def keyF (f:AV):List UInt8:=(xa0 (rowF f)).getD []
def okF (f:AV):Bool:=Nat.beq f.cells.length 3&&(xIb [.list 3,.int .i64,.int .i64] f.cells 0&&(f.one==false&&(xa0 (rowF f)).isSome&&decide ((keyF f).length<=4611686018427387904)))
def boxF (f:AV):Box:=⟨0,3,54,[f],false,true⟩
abbrev PE:Type:=List UInt8×List AV×List AV×List AV
def wac (x:List UInt8×EntV):PE:=(x.1,x.2.row,x.2.a,x.2.b)
def ixP (ps:List PE) (k:List UInt8):Option Nat:=ps.findIdx? fun x=>x.1==k
def msOf (es:List (List UInt8×EntV)):List AV:=es.map fun x=>.agg [.str x.1,.gptr x.2.g]
def xl0 (es:List (List UInt8×EntV)):(msOf es).length=es.length:=by simp [msOf]
def xnh (k:List UInt8):∀ es:List (List UInt8×EntV),mapIx (msOf es) k=ixP (es.map wac) k
 | []=>rfl
 | x::es=>by
  have ih:=xnh k es;unfold ixP at ih |-;simp only [msOf,zV,mapIx,AV.cells,List.getD_cons_zero,isKey,List.findIdx?_cons];cases h:(x.1==k) with
  | true=>simp [wac,h]
  | false =>
   simp only [wac,h];rw [show List.map (fun x=>AV.agg [AV.str x.fst,AV.gptr x.snd.g]) es=msOf es from rfl,ih]
   simp [wac]
def defP:PE:=([],[],[],[])
def way (ps:List PE) (k:List UInt8) (row:List AV) (c:AV):List PE:=match ixP ps k with
 | some j=>ps.set j ((ps.getD j defP).1,(ps.getD j defP).2.1,(ps.getD j defP).2.2.1++[c],(ps.getD j defP).2.2.2)
 | none=>ps++[(k,row,[c],[])]
def wax (ps:List PE) (k:List UInt8) (row:List AV) (c:AV):List PE:=match ixP ps k with
 | some j=>ps.set j ((ps.getD j defP).1,(ps.getD j defP).2.1,(ps.getD j defP).2.2.1,(ps.getD j defP).2.2.2++[c])
 | none=>ps++[(k,row,[],[c])]
def waq (ps:List PE) (f:AV):List PE:=way ps (keyF f) (rowF f) (cntF f)
def wap (ps:List PE) (f:AV):List PE:=wax ps (keyF f) (rowF f) (cntF f)
def _root_.Go.Sim.EntV.addA (e:EntV) (c:AV):EntV:={ e with a:=e.a++[c],va:=e.va+1 }
def _root_.Go.Sim.EntV.addB (e:EntV) (c:AV):EntV:={ e with b:=e.b++[c],vb:=e.vb+1 }
structure Ents (w:World) (A:Nat->Prop) (B F c:Nat) (es:List (List UInt8×EntV)) (Ns:Nat->Id->Option MB) (M:Id->Option MB):Prop where
 ent:∀ (i:Nat) (x:List UInt8×EntV),es[i]?=some x->EntAt w A B F x.2 (Ns i)
 apart:∀ i j,i<es.length->j<es.length->i≠j->wae (Ns i) (Ns j)
 apm:∀ i,i<es.length->wae (Ns i) M
 bnd:∀ (i:Nat) (x:List UInt8×EntV),es[i]?=some x->x.2.a.length<=c/\x.2.b.length<=c
 cnt:es.length<=c
def xjw {α:Type} {l:List α} {i:Nat} {x:α} (h:l[i]?=some x):i<l.length:=by
 rcases zJ i l.length with h'|h'
 . exact h'
 . rw [zz h'] at h;cases h
section
variable {w w' : World} {A A' : Nat -> Prop} {B F c : Nat} {es : List (List UInt8 × EntV)} {Ns : Nat -> Id -> Option MB} {M M' M1 : Id -> Option MB}
def Ents.go (h:Ents w A B F c es Ns M) (hm:Mv w A M w' A' M') (q:∀ b,A' b->b<w'.heap.size):Ents w' A' B F c es Ns M' :=
 ⟨fun i x hx=>(h.ent i x hx).go hm q (h.apm i (xjw hx)),h.apart,fun i hi=>by
  obtain ⟨x,hx⟩:∃ x,es[i]?=some x:=⟨es[i],ze hi⟩;exact (h.apm i hi).go (h.ent i x hx) hm,h.bnd,h.cnt⟩
def Ents.part {q:Id->Bool} (h:Ents w A B F c es Ns M):Ents w A B F c es Ns (MR q M):=⟨h.ent,h.apart,fun i hi=>(h.apm i hi).part,h.bnd,h.cnt⟩
def Ents.upd (h:Ents w A B F c es Ns M) {j:Nat} {k:List UInt8} {e':EntV} (hj:j<es.length) (hm:Mv w A (MJ M (Ns j)) w' A' M1) (V:∀ b,A' b->b<w'.heap.size) (he:EntAt w' A' B F e' (MR (pB qe1) M1)) (hs:wae (MR (pB qe1) M1) (MR (pB q0) M1)) (hb:e'.a.length<=c+1/\e'.b.length<=c+1) :
  Ents w' A' B F (c+1) (es.set j (k,e')) (fun i=>if i=j then MR (pB qe1) M1 else Ns i) (MR (pB q0) M1):=by
 have Q:∀ i,i<es.length->i≠j->wae (Ns i) M1:=fun i hi hne=>by
  obtain ⟨x,hx⟩:∃ x,es[i]?=some x:=⟨es[i],ze hi⟩;exact ((h.apm i hi).joined (h.apart i j hi hj hne)).go (h.ent i x hx) hm
 refine ⟨fun i x hx=>?_,fun i i' hi O hne=>?_,fun i hi=>?_,fun i x hx=>?_,?_⟩
 . by_cases q:i=j
   . subst q;rw [zL hj] at hx;cases hx;simpa using he
   . rw [zX (fun e=>q e.symm)] at hx
     simp only [q,if_false];exact (h.ent i x hx).go hm V ((h.apm i (xjw hx)).joined (h.apart i j (xjw hx) hj q))
 . rw [y4] at hi O;by_cases q:i=j
   . have J:i'≠j:=fun e=>hne (q.trans e.symm)
     simp only [q,J,if_true,if_false];exact (wae.part (Q i' O J)).symm
   . by_cases J:i'=j
     . simp only [q,J,if_true,if_false];exact wae.part (Q i hi q)
     . simp only [q,J,if_false];exact h.apart i i' hi O hne
 . rw [y4] at hi;by_cases q:i=j
   . simp only [q,if_true];exact hs
   . simp only [q,if_false];exact wae.part (Q i hi q)
 . by_cases q:i=j
   . subst q;rw [zL hj] at hx;cases hx;exact hb
   . rw [zX (fun e=>q e.symm)] at hx
     have:=h.bnd i x hx;omega
 . rw [y4];have:=h.cnt;omega
def Ents.add (h:Ents w A B F c es Ns M) {k:List UInt8} {e':EntV} (hm:Mv w A M w' A' M1) (Q:∀ b,A' b->b<w'.heap.size) (he:EntAt w' A' B F e' (MR (pB qe1) M1)) (hs:wae (MR (pB qe1) M1) (MR (pB q0) M1)) (hb:e'.a.length<=c+1/\e'.b.length<=c+1) :
  Ents w' A' B F (c+1) (es++[(k,e')]) (fun i=>if i=es.length then MR (pB qe1) M1 else Ns i) (MR (pB q0) M1):=by
 have O:∀ i,i<es.length->wae (Ns i) M1:=fun i hi=>by
  obtain ⟨x,hx⟩:∃ x,es[i]?=some x:=⟨es[i],ze hi⟩;exact (h.apm i hi).go (h.ent i x hx) hm
 have hl:(es++[(k,e')]).length=es.length+1:=by simp
 refine ⟨fun i x hx=>?_,fun i i' hi V hne=>?_,fun i hi=>?_,fun i x hx=>?_,?_⟩
 . have hi:=xjw hx;by_cases q:i=es.length
   . subst q;simp at hx;subst hx;simpa using he
   . rw [zO (by omega)] at hx
     simp only [q,if_false];exact (h.ent i x hx).go hm Q (h.apm i (xjw hx))
 . by_cases q:i=es.length
   . have J:i'≠es.length:=fun e=>hne (q.trans e.symm)
     simp only [q,J,if_true,if_false];exact (wae.part (O i' (by omega))).symm
   . by_cases J:i'=es.length
     . simp only [q,J,if_true,if_false];exact wae.part (O i (by omega))
     . simp only [q,J,if_false];exact h.apart i i' (by omega) (by omega) hne
 . by_cases q:i=es.length
   . simp only [q,if_true];exact hs
   . simp only [q,if_false];exact wae.part (O i (by omega))
 . have hi:=xjw hx;by_cases q:i=es.length
   . subst q;simp at hx;subst hx;exact hb
   . rw [zO (by omega)] at hx
     have:=h.bnd i x hx;omega
 . have:=h.cnt;omega
end
def xom {ops:Array Oper} {l:List Oper} {s s':St} (h:xOps Tryz.prog (EC 0) none (some true) ops l s some=some s'):Path (OpA Tryz.prog (xIO.at 0)) ops l s s':=by
 obtain ⟨s1,h1,h2⟩:=xcF (orcC 0) h;cases h2;exact h1
def xq6 {es:List (List UInt8×EntV)} {j:Nat} {x:List UInt8×EntV} (h:es[j]?=some x):(msOf es).getD j .top=.agg [.str x.1,.gptr x.2.g]:=by
 simp [msOf,z7,h]
def xCc {ps:List PE} {k:List UInt8} {j:Nat} (h:ixP ps k=some j):j<ps.length/\(ps.getD j defP).1=k:=by
 unfold ixP at h;obtain ⟨h1,h2,_⟩:=List.findIdx?_eq_some_iff_getElem.1 h;exact ⟨h1,by simpa [z7,h1] using h2⟩
def xAM (es:List (List UInt8×EntV)) (k:List UInt8):xIo .nilptr (msOf es) k=.nilptr\/∃ g,xIo .nilptr (msOf es) k=.gptr g:=by
 unfold xIo;cases h:mapIx (msOf es) k with
 | none=>exact .inl rfl
 | some j =>
  have hj:=xjd h;rw [xl0] at hj;obtain ⟨x,hx⟩:∃ x,es[j]?=some x:=⟨es[j],ze hj⟩;right;dsimp only;rw [xq6 hx];exact ⟨_,rfl⟩
def xt5 {es:List (List UInt8×EntV)} {k:List UInt8} {g:Nat} (h:xIo .nilptr (msOf es) k=.gptr g):∃ j x,es[j]?=some x/\x.1=k/\x.2.g=g/\ixP (es.map wac) k=some j:=by
 unfold xIo at h;cases hi:mapIx (msOf es) k with
 | none=>rw [hi] at h;cases h
 | some j =>
  have hj:=xjd hi;rw [xl0] at hj;obtain ⟨x,hx⟩:∃ x,es[j]?=some x:=⟨es[j],ze hj⟩;rw [hi] at h;dsimp only at h;rw [xq6 hx] at h;rw [xnh] at hi;have h2:=(xCc hi).2;have e:(es.map wac).getD j defP=wac x:=by simp [z7,hx]
  rw [e] at h2;refine ⟨j,x,hx,h2,?_,hi⟩;have h:AV.gptr x.2.g=.gptr g:=h;injection h
def xyf {es:List (List UInt8×EntV)} {k:List UInt8} (h:xIo .nilptr (msOf es) k=.nilptr):mapIx (msOf es) k=none:=by
 unfold xIo at h;cases hi:mapIx (msOf es) k with
 | none=>rfl
 | some j =>
  have hj:=xjd hi;rw [xl0] at hj;obtain ⟨x,hx⟩:∃ x,es[j]?=some x:=⟨es[j],ze hj⟩;rw [hi] at h;dsimp only at h;rw [xq6 hx] at h;cases h
def xvO {es:List (List UInt8×EntV)} {j:Nat} {x:List UInt8×EntV} {e':EntV} (h:es[j]?=some x) (hg:e'.g=x.2.g):msOf (es.set j (x.1,e'))=msOf es:=by
 unfold msOf;rw [List.map_set];apply List.ext_getElem?;intro i;by_cases hi:j=i
 . subst hi;have:=xjw h;rw [zL (by simpa using this)]
   simp [h,hg]
 . rw [zX hi]
def xvN {es:List (List UInt8×EntV)} {k:List UInt8} {e':EntV} (h:mapIx (msOf es) k=none):msOf (es++[(k,e')])=xIm (msOf es) k (.gptr e'.g):=by
 unfold xIm;rw [h];simp [msOf]
def xzJ {es:List (List UInt8×EntV)} {j:Nat} {x:List UInt8×EntV} {k:List UInt8} {row:List AV} {c:AV} (h:es[j]?=some x) (hi:ixP (es.map wac) k=some j):(es.set j (x.1,x.2.addA c)).map wac=way (es.map wac) k row c:=by
 have e:(es.map wac).getD j defP=wac x:=by simp [z7,h]
 unfold way;rw [hi];dsimp only;rw [e,List.map_set];rfl
def xzK {es:List (List UInt8×EntV)} {j:Nat} {x:List UInt8×EntV} {k:List UInt8} {row:List AV} {c:AV} (h:es[j]?=some x) (hi:ixP (es.map wac) k=some j):(es.set j (x.1,x.2.addB c)).map wac=wax (es.map wac) k row c:=by
 have e:(es.map wac).getD j defP=wac x:=by simp [z7,h]
 unfold wax;rw [hi];dsimp only;rw [e,List.map_set];rfl
def xzH {es:List (List UInt8×EntV)} {k:List UInt8} {row:List AV} {c:AV} {g:Nat} (hi:mapIx (msOf es) k=none):(es++[(k,(⟨g,row,[],[],0,0⟩:EntV).addA c)]).map wac=way (es.map wac) k row c:=by
 rw [xnh] at hi;unfold way;rw [hi];simp [wac,EntV.addA]
def xzI {es:List (List UInt8×EntV)} {k:List UInt8} {row:List AV} {c:AV} {g:Nat} (hi:mapIx (msOf es) k=none):(es++[(k,(⟨g,row,[],[],0,0⟩:EntV).addB c)]).map wac=wax (es.map wac) k row c:=by
 rw [xnh] at hi;unfold wax;rw [hi];simp [wac,EntV.addB]
def entV (row a b:List AV):AV:=.eptr 3 [.agg [.list 3 row,.list 3 a,.list 3 b]] 0 0
def outE (p:PE):AV:=.agg [.str p.1,entV p.2.1 p.2.2.1 p.2.2.2]
def wad (ps:List PE):List AV:=ps.map outE
def xtG {H:List Box} {n k ver sz:Nat} {ty:TypeId} {xs:List AV} (hb:H[k]?=some ⟨ver,sz,ty,xs,false,true⟩) (hc:isC ty=false):resolve H (n+1) (.osl (.b k) ver 0 xs.length)=some (.list sz xs):=by
 have hm:xH8 ty=false:=xa6 hc;have h1:xH9 H (.b k) ver=some ⟨ver,sz,ty,xs,false,true⟩:=by
  unfold xH9;rw [xcb,hb];simp [hm]
 have h2:rowsOk ⟨ver,sz,ty,xs,false,true⟩ xs=true:=by unfold rowsOk;rw [hc]
 unfold resolve;simp [AV.pure,h1,mapE,h2]
def xCv {H:List Box} (e:EntV) (h3:xH9 H (.b 1) 0=some e.E) (h1:resolve H 3 (.osl (.b 2) e.va 0 e.a.length)=some (.list 3 e.a)) (h2:resolve H 3 (.osl (.b 3) e.vb 0 e.b.length)=some (.list 3 e.b)):resolve H 4 (.own (.b 1) 0 0 0)=some (entV e.row e.a e.b):=by
 have h0:resolve H 3 (.list 3 e.row)=some (.list 3 e.row):=by
  unfold resolve;simp [AV.pure]
 unfold resolve;simp only [AV.pure,h3];simp only [EntV.E,mapE,mapO,resE,h0,h1,h2];rfl
def xDQ (e:EntV):resolve [box0,e.E,e.A,e.B] 4 (.own (.b 1) 0 0 0)=some (entV e.row e.a e.b):=xCv e rfl (xtG rfl rfl) (xtG rfl rfl)
section
variable {w0 w : World} {A0 : Cx} {A A' : Nat -> Prop} {M N : Id -> Option MB} {a : Act} {B F : Nat} {e : EntV}
def _root_.Go.Sim.EntAt.froz (h:EntAt w A B F e N) (hA:∀ b,A' b->A b) (q:∀ id m,N id=some m->0<m.cap->¬ A' m.b) {v:Value} (hv:v=.pointer (some ⟨e.g,0,none⟩)):Rel w A' xIj v (entV e.row e.a e.b) :=
 xdh h.hr (fun b _=>hA b) 4 v _ _ (h.own hv) (xDQ e) fun id _ m hm h0=>q id m hm h0
def xFz {es:List (List UInt8×EntV)} {j:Nat} {x:List UInt8×EntV} (h:es[j]?=some x):(wad (es.map wac)).getD j .top=.agg [.str x.1,entV x.2.row x.2.a x.2.b]:=by
 simp [wad,outE,wac,z7,h]
def SR.final {ts:List AV} {es:List (List UInt8×EntV)} {Ns:Nat->Id->Option MB} {c:Nat} (hs:SR w0 A0 w A M ⟨ts,[mapB (msOf es)]⟩ a) (hE:Ents w A w0.heap.size A0.w1.heap.size c es Ns M) (hM:∀ id m,M id=some m->pB q0 id=true) (hp:A0.pin=0) :
  ∃ A',SR w0 A0 w A' M ⟨ts,[mapB (wad (es.map wac))]⟩ a:=by
 obtain ⟨A',W⟩:∃ A':Nat->Prop,A'=fun b=>A b/\∀ i id m,i<es.length->Ns i id=some m->0<m.cap->m.b≠b:=⟨_,rfl⟩
 have J:∀ b,A' b->A b:=fun b h=>by rw [W] at h;exact h.1
 have Y:∀ b,A b->(∀ i id m,i<es.length->Ns i id=some m->0<m.cap->m.b≠b)->A' b:=fun b h1 h2=>by rw [W];exact ⟨h1,h2⟩
 have ac:∀ i,i<es.length->∀ id m,Ns i id=some m->0<m.cap->¬ A' m.b:=fun i hi id m h1 h2 h3=>by
  rw [W] at h3;exact h3.2 i id m hi h1 h2 rfl
 have Q:∀ i,i<es.length->∃ x,es[i]?=some x/\EntAt w A w0.heap.size A0.w1.heap.size x.2 (Ns i):=fun i hi=>⟨es[i],ze hi,hE.ent i _ (ze hi)⟩
 refine ⟨A',hs.base,fun b hb=>⟨fun h=>(hs.outer b hb).1 (J b h),fun h=>Y b ((hs.outer b hb).2 h) fun i id m hi h1 h2 he=>?_⟩,hs.size,fun t ht=>(hs.tmps t ht).mono (fun _ _ _=>rfl) (zd _) (fun b _ h=>J b h) (MExt.refl _),⟨fun id m hm=>?_,hs.heap.inj,fun b h=>hs.heap.lt b (J b h)⟩,hs.defers,
  ⟨hs.ev.size,hs.ev.keep,fun b hb h=>hs.ev.less b hb (J b h),fun b hb h hn=>Y b (hs.ev.more b hb h hn) fun i id m hi h1 h2 he=>?_,fun id m h=>by rw [hp] at h;exact absurd h (Nat.not_lt_zero _),hs.ev.src⟩⟩
 . obtain ⟨x,hx,O⟩:=Q i hi;obtain ⟨bx,_,q⟩:=O.hr.box id m h1;have:=q.low h2;omega
 . have aa:=hM id m hm;cases id with
   | r n i j=>simp [pB] at aa
   | b n =>
    cases n with
    | succ n=>simp [pB,q0] at aa
    | zero =>
     obtain ⟨bx,hb,q⟩:=hs.heap.box _ _ hm;obtain rfl:mapB (msOf es)=bx:=by simpa [getB] using hb
     have hsz:m.sz=2:=q.sz.symm;have V:(wad (es.map wac)).length=(msOf es).length:=by simp [wad,msOf]
     refine ⟨mapB (wad (es.map wac)),rfl,q.ver,q.sz,q.ty,q.capm,by show (wad (es.map wac)).length<=_;rw [V];exact q.fits,fun x hx=>?_,q.low,q.lt,fun h0=>?_,fun h0=>?_⟩
     . have hx:x∈wad (es.map wac):=hx;unfold wad at hx;obtain ⟨p,_,rfl⟩:=zK.1 hx;rw [hsz];rfl
     . obtain ⟨cc,c1,c2,c3⟩:=q.cells h0;refine ⟨cc,by show HoldsC w m (wad (es.map wac)).length cc;rw [V];exact c1,c2,fun i j hi hj=>?_⟩
       have hi':i<es.length:=by
        have hi:i<(wad (es.map wac)).length:=hi;simpa [wad] using hi
       have h3:=c3 i j (by show i<(msOf es).length;rw [xl0];exact hi') hj
       obtain ⟨x,hx,O⟩:=Q i hi';have ab:xH7 (mapB (msOf es)).ty j=false:=by
        rcases j with _|_|j
        . exact xts
        . exact xtt
        . omega
       unfold xIu MV at h3 |-;have Z:xH7 (mapB (wad (es.map wac))).ty j=false:=ab;rw [ab] at h3;rw [Z];have h3:Rel w A xIj (cc.getD (i*m.sz+j) undef) (((msOf es).getD i .top).cells.getD j .top):=h3;show Rel w A' xIj (cc.getD (i*m.sz+j) undef) (((wad (es.map wac)).getD i .top).cells.getD j .top);rw [xq6 hx] at h3;rw [xFz hx];generalize cc.getD (i*m.sz+j) undef=v at h3;rcases j with _|_|j
       . exact h3.mono (fun _ _ _=>rfl) (zd _) (fun b _ h=>J b h) (MExt.refl _)
       . have h3:Rel w A xIj v (.gptr x.2.g):=h3;cases h3;exact O.froz J (ac i hi') rfl
       . omega
     . have h1:=q.guard h0;refine ⟨fun h=>Y _ (h1.1 h) fun i id m' hi h2 h3 he=>hE.apm i hi id m' _ m h2 h3 hm h0 he,fun h=>h1.2 (J _ h)⟩
 . obtain ⟨x,hx,O⟩:=Q i hi;have:=O.fresh id m h1 h2;omega
end
def lvA:List Nat:=[1,5,6,15,16,17]
def hdA (fb l:List AV) (n i:Int):List AV:=mkTs 62 [(1,.list 3 fb),(5,vC),(6,.func 105 [vC]),(15,.list 3 l),(16,.int .i64 n),(17,.int .i64 i)]
def ndA4:noDefer (cO 4)=true:=by kernel_rfl
def ndA5:noDefer (cO 5)=true:=by kernel_rfl
def ndA6:noDefer (cO 6)=true:=by kernel_rfl
def ndA8:noDefer (cO 8)=true:=by kernel_rfl
def rA4 (fb l ms:List AV) (n i:Int):xOps Tryz.prog (EC 0) none (some true) (cO 4) (cO 4).toList ⟨hdA fb l n i,[mapB ms]⟩ (fun s=>some (wag (18::lvA) s))=some ⟨(hdA fb l n i).set 18 (.bool (decide (i<n))),[mapB ms]⟩:=by kernel_rfl
def rA5 (fb l ms:List AV) (n i:Int):xOps Tryz.prog (EC 0) none (some true) (cO 5) (cO 5).toList ⟨(hdA fb l n i).set 18 (.bool true),[mapB ms]⟩ (fun s=>some (wag (8::lvA) s)) =
 br (decide ((0:Int)<=i)&&decide (i<(l.length:Int))) (br (decide (i.toNat<l.length)&&((l.getD i.toNat .top).cells.length==3&&xIb [.list 3,.int .i64,.int .i64] (l.getD i.toNat .top).cells 0))
  (some ⟨(hdA fb l n i).set 8 (.own (.b 1) 0 0 0),[mapB ms,boxF (.agg [.list 3 ((l.getD i.toNat .top).cells.getD 0 .top).toList,.int .i64 ((l.getD i.toNat .top).cells.getD 1 .top).toInt,.int .i64 ((l.getD i.toNat .top).cells.getD 2 .top).toInt])]⟩) none) none:=by kernel_rfl
def h8A (fb l:List AV) (n i:Int) (row:List AV) (ff ft:Int):List AV:=(hdA fb l n i).set 8 (.eptr 3 [.agg [.list 3 row,.int .i64 ff,.int .i64 ft]] 0 0)
def h9A (fb l:List AV) (n i:Int) (row:List AV) (ff ft:Int):List AV:=(((h8A fb l n i row ff ft).set 21 (.func 105 [vC])).set 22 (.eptr 3 [.agg [.list 3 row,.int .i64 ff,.int .i64 ft]] 0 0)).set 23 (.list 3 row)
def rA6 (fb l ms:List AV) (n i:Int) (row:List AV) (ff ft:Int):xOps Tryz.prog (EC 0) none (some true) (cO 6) ((cO 6).toList.take 3) ⟨h8A fb l n i row ff ft,[mapB ms]⟩ some=some ⟨h9A fb l n i row ff ft,[mapB ms]⟩:=by kernel_rfl
def lA6:(cO 6).toList=(cO 6).toList.take 3++[(cO 6).toList.getD 3 default,(cO 6).toList.getD 4 default]:=by kernel_rfl
def oA3:((cO 6).toList.getD 3 default).op=.call (wa4 ((cO 6).toList.getD 3 default).op):=by kernel_rfl
def tA3 (fb l ms:List AV) (n i:Int) (row:List AV) (ff ft:Int):xIU ⟨h9A fb l n i row ff ft,[mapB ms]⟩ (wa4 ((cO 6).toList.getD 3 default).op)=some (105,[.list 3 row,vC]):=by kernel_rfl
def dA3:((cO 6).toList.getD 3 default).dst=some 24:=by kernel_rfl
def gA3:((cO 6).toList.getD 3 default).guard=none:=by kernel_rfl
def rA6f (fb l ms:List AV) (n i:Int) (row:List AV) (ff ft:Int) (g:Nat):xOps Tryz.prog (EC 0) none (some true) (cO 6) [(cO 6).toList.getD 4 default] ⟨(h9A fb l n i row ff ft).set 24 (.gptr g),[mapB ms]⟩ (fun s=>some (wag (8::9::lvA) s))=some ⟨(h8A fb l n i row ff ft).set 9 (.gptr g),[mapB ms]⟩:=by kernel_rfl
def rA6n (fb l ms:List AV) (n i:Int) (row:List AV) (ff ft:Int) (g:Nat):xOps Tryz.prog (EC 0) none (some true) (cO 6) [(cO 6).toList.getD 4 default] ⟨(h9A fb l n i row ff ft).set 24 (.gptr g),[mapB ms,boxN row]⟩ (fun s=>some (wag (8::9::lvA) s))=some ⟨(h8A fb l n i row ff ft).set 9 (.gptr g),[mapB ms,boxN row]⟩:=by kernel_rfl
def boxA (e:EntV):Box:=⟨0,3,94,[.agg [.list 3 e.row,.osl (.b 2) (e.va+1) 0 (e.a.length+1),.osl (.b 3) e.vb 0 e.b.length]],false,false⟩
def xC9 (e:EntV) (c:AV):boxA e=(e.addA c).E:=by
 unfold boxA EntV.E EntV.addA;simp
def rA7 (fb l ms:List AV) (n i:Int) (row:List AV) (ff ft:Int) (er ea eb:List AV) (g va vb:Nat):X Tryz.prog (EC 4) none (.region 7 (cO 7) true) ⟨(h8A fb l n i row ff ft).set 9 (.own (.b 1) 0 0 0),[mapB ms,EntV.E ⟨g,er,ea,eb,va,vb⟩,EntV.A ⟨g,er,ea,eb,va,vb⟩,EntV.B ⟨g,er,ea,eb,va,vb⟩]⟩ (fun ex s=>some (ex,wag lvA s)) =
 br (va==va&&(ea.length==ea.length&&(decide ((ea.length+1)*24<=140737488355328)&&decide (ea.length+1<=4611686018427387904))))
  (some (.normal,⟨hdA fb l n i,[mapB ms,boxA ⟨g,er,ea,eb,va,vb⟩,((⟨g,er,ea,eb,va,vb⟩:EntV).addA (.agg [.int .i64 ff,.int .i64 ft,.int .i64 1])).A,((⟨g,er,ea,eb,va,vb⟩:EntV).addA (.agg [.int .i64 ff,.int .i64 ft,.int .i64 1])).B,⟨0,3,100,[.agg [.int .i64 ff,.int .i64 ft,.int .i64 1]],false,true⟩]⟩)) none:=by kernel_rfl
def lkA:LoOk Tryz.prog (xIO.at 4) (EC 4) (.region 7 (cO 7) true):=xhX rfl
def rA8 (fb l ms:List AV) (n i:Int):xOps Tryz.prog (EC 0) none (some true) (cO 8) (cO 8).toList ⟨hdA fb l n i,[mapB ms]⟩ (fun s=>some (wag lvA s))=some ⟨hdA fb l n (IntKind.i64.wrap (i+1)),[mapB ms]⟩:=by kernel_rfl
def cutA (fb l:List AV) (n i:Int):cutT (hdA fb l n i)=hdA fb l n i:=by kernel_rfl
def cutA8 (fb l:List AV) (n i:Int) (row:List AV) (ff ft:Int):cutT (h8A fb l n i row ff ft)=h8A fb l n i row ff ft:=by kernel_rfl
def xll (ms:List AV):wat (pB q0) (mapB ms)=true:=by kernel_rfl
def xlm (ms:List AV) (j:Nat) (hj:j<(mapB ms).sz):xH7 (mapB ms).ty j=false:=by
 have hj:j<2:=hj;rcases j with _|_|j
 . exact xts
 . exact xtt
 . omega
section
variable {w0 w : World} {A0 : Cx} {A : Nat -> Prop} {M : Id -> Option MB} {a : Act}
def tailA (hI:xIO w0) (hp:A0.pin=0) (ab:∀ id,A0.M1 id=none) {fb l ms row:List AV} {n i ff ft:Int} {e:EntV} {m:MB}
  (hs:SR w0 A0 w A M ⟨(h8A fb l n i row ff ft).set 9 (.own (.b 1) 0 0 0),[mapB ms,e.E,e.A,e.B]⟩ a) (hm:M (.b 1)=some m) (hg:m.b=e.g) (h2:∃ m,M (.b 2)=some m) (h3:∃ m,M (.b 3)=some m) (hb:e.a.length<4294967296) {Q:Exit->Act->World->Prop}
  (hK:∀ a' w' A' M',SR w0 A0 w' A' (MR (pB q0) M') ⟨hdA fb l n i,[mapB ms]⟩ a'->Mv w A M w' A' M'->(∀ b,A' b->b<w'.heap.size)->EntAt w' A' w0.heap.size A0.w1.heap.size (e.addA (.agg [.int .i64 ff,.int .i64 ft,.int .i64 1])) (MR (pB qe1) M')->wae (MR (pB qe1) M') (MR (pB q0) M')->Q .normal a' w') :
  (Code.region 7 (cO 7) true).wpIn (wideR none) 0 Tryz.prog Q a w:=by
 obtain ⟨V,O⟩:∃ t:St,t=⟨hdA fb l n i,[mapB ms,(e.addA (.agg [.int .i64 ff,.int .i64 ft,.int .i64 1])).E,(e.addA (.agg [.int .i64 ff,.int .i64 ft,.int .i64 1])).A,(e.addA (.agg [.int .i64 ff,.int .i64 ft,.int .i64 1])).B,⟨0,3,100,[.agg [.int .i64 ff,.int .i64 ft,.int .i64 1]],false,true⟩]⟩:=⟨_,rfl⟩;have hx:=rA7 fb l ms n i row ff ft e.row e.a e.b e.g e.va e.vb;have hc:(e.va==e.va&&(e.a.length==e.a.length&&(decide ((e.a.length+1)*24<=140737488355328)&&decide (e.a.length+1<=4611686018427387904))))=true:=by
  simp only [beq_self_eq_true,Bool.true_and,zf,zl];omega
 rw [hc] at hx;have hx:X Tryz.prog (EC 4) none (.region 7 (cO 7) true) ⟨(h8A fb l n i row ff ft).set 9 (.own (.b 1) 0 0 0),[mapB ms,e.E,e.A,e.B]⟩ (fun ex s=>some (ex,wag lvA s))=some (.normal,V):=by
  rw [O,<-xC9];exact hx
 have hd:=xeF (P:=Tryz.prog) (Inv:=xIO.at 4) (E:=EC 4) (T:=Option (Exit×St)) (good:=fun o=>o=some (.normal,V)) (bad:=none) xIf (hIoG 4) rfl (by simp) (orcC 4) _ _ _ lkA hx
 refine hd w0 _ w A M a _ hI (zd 4) (hs.door 4) ?_ none (fun _=>rfl)
 rintro ex s' a' w' hq ⟨A',M',Y⟩;simp only [z6,zb] at hq;obtain ⟨rfl,hk⟩:=hq;obtain ⟨Z,J⟩:=hs.undoor (zd 4) Y;have q:=Z.mask lvA;rw [hk,O] at q;have aa:M' (.b 1)=some m:=HR.same hs.heap q.heap J.ext (n:=1) rfl rfl rfl hm;have h2':∃ m,M' (.b 2)=some m:=by
  obtain ⟨m2,h⟩:=h2;obtain ⟨m',h',_⟩:=J.ext _ _ h;exact ⟨m',h'⟩
 have h3':∃ m,M' (.b 3)=some m:=by
  obtain ⟨m2,h⟩:=h3;obtain ⟨m',h',_⟩:=J.ext _ _ h;exact ⟨m',h'⟩
 have W:=q.cut hp (xll ms) (xlm ms);rw [cutA] at W;exact hK _ _ _ _ W J q.heap.lt (q.out ab aa hg h2' h3') q.heap.split
end
def cutA9 (fb l:List AV) (n i:Int) (row:List AV) (ff ft:Int) (g:Nat):cutT ((h8A fb l n i row ff ft).set 9 (.gptr g))=(h8A fb l n i row ff ft).set 9 (.gptr g):=by kernel_rfl
def getA9 (fb l:List AV) (n i:Int) (row:List AV) (ff ft:Int) (g:Nat):((h8A fb l n i row ff ft).set 9 (.gptr g)).getD 9 .top=.gptr g:=by kernel_rfl
def resA (ms:List AV) (fb l:List AV) (n i:Int) (f:AV):resolve [mapB ms,boxF f] xIq (((hdA fb l n i).set 8 (.own (.b 1) 0 0 0)).getD 8 .top)=some (.eptr 3 [f] 0 0):=by kernel_rfl
def reaA (ms:List AV) (fb l:List AV) (n i:Int) (f:AV):freeze [mapB ms,boxF f] (reach [mapB ms,boxF f] xIq (((hdA fb l n i).set 8 (.own (.b 1) 0 0 0)).getD 8 .top))=[mapB ms,⟨0,3,54,[f],true,true⟩]:=by kernel_rfl
def setA8 (fb l:List AV) (n i:Int) (row:List AV) (ff ft:Int):((hdA fb l n i).set 8 (.own (.b 1) 0 0 0)).set 8 (.eptr 3 [.agg [.list 3 row,.int .i64 ff,.int .i64 ft]] 0 0)=h8A fb l n i row ff ft:=by kernel_rfl
def xA0 {f:AV} (h:okF f=true):(f.cells.length==3&&xIb [.list 3,.int .i64,.int .i64] f.cells 0)=true:=by
 unfold okF at h;simp only [zf] at h;rw [zf];exact ⟨beq_iff_eq.2 (zg h.1),h.2.1⟩
def xCg {f:AV} (h:okF f=true):xa0 (rowF f)=some (keyF f)/\(keyF f).length<=4611686018427387904:=by
 unfold okF at h;simp only [zf,zl] at h;obtain ⟨_,_,⟨_,h1⟩,h2⟩:=h;obtain ⟨k,hk⟩:=Option.isSome_iff_exists.1 h1;refine ⟨?_,h2⟩;unfold keyF;rw [hk];rfl
section
variable {w0 w : World} {A0 : Cx} {A : Nat -> Prop} {M : Id -> Option MB} {a : Act}
set_option maxHeartbeats 2000000 in
def callA (hI:xIO w0) (hp:A0.pin=0) (al:∀ id,A0.M1 id=none) {fb l:List AV} {n i:Int} {f:AV} {es:List (List UInt8×EntV)} {Ns:Nat->Id->Option MB} {c:Nat}
  (hs:SR w0 A0 w A M ⟨h8A fb l n i (rowF f) (f.cells.getD 1 .top).toInt (f.cells.getD 2 .top).toInt,[mapB (msOf es)]⟩ a) (hE:Ents w A w0.heap.size A0.w1.heap.size c es Ns M) (hM:∀ id m,M id=some m->pB q0 id=true) (hf:okF f=true) (hc:c<4294967295) {Q:Exit->Act->World->Prop}
  (hK:∀ a' w' A' M' es' Ns',SR w0 A0 w' A' M' ⟨hdA fb l n i,[mapB (msOf es')]⟩ a'->(∀ id m,M' id=some m->pB q0 id=true)->Ents w' A' w0.heap.size A0.w1.heap.size (c+1) es' Ns' M'->es'.map wac=waq (es.map wac) f->Q .normal a' w') :
  (Code.seq (.region 6 (cO 6) false) (.region 7 (cO 7) true)).wpIn (wideR none) 0 Tryz.prog Q a w:=by
 obtain ⟨an,a8⟩:=xCg hf;refine wpIn_seq (wpIn_region_list (xd7 none 0 _ (xcE ndA6) _ _ ?_));rw [lA6];refine xet (hIoG 0) hI (xom (rA6 fb l (msOf es) n i (rowF f) (f.cells.getD 1 .top).toInt (f.cells.getD 2 .top).toInt)) hs fun a1 w1 A1 M1 Y au=>wpList_plain gA3 fun K a5=>?_
 have az:=hE.go au Y.heap.lt;have bb:=hE.cnt;refine callX oA3 (tA3 fb l (msOf es) n i (rowF f) (f.cells.getD 1 .top).toInt (f.cells.getD 2 .top).toInt) xvz Y (R:=fun v w'=>∃ A' M' g,v=.pointer (some ⟨g,0,none⟩)/\Below w0.heap.size w0 w'/\(∀ b,b<w0.heap.size->(A' b↔A1 b))/\Mv w1 A1 M1 w' A' M'/\∃ H,HR w' A' M' w0.heap.size H/\wav (rowF f) (msOf es) (keyF f) g H M') (fun vs a6=>?_) fun v w2 hr=>?_
 . refine (xt4 (w0:=w0) hI Y.base Y.heap a6 an a8 (by rw [xl0];show es.length<4611686018427387904;omega) (xAM es (keyF f))).mono ?_
   rintro e w' ⟨v,A',M',g,h1,h2,h3,h4,h5,h6⟩;exact ⟨v,h1,A',M',g,h2,h3,h4,h5,h6⟩
 . obtain ⟨A2,M2,g,rfl,am,ap,mv2,H,a4,ag⟩:=hr;have W:=Y.put (d:=((cO 6).toList.getD 3 default).dst) am (fun b hb=>(ap b hb).trans (Y.outer b hb)) mv2 a4 (Rel.gptr (w:=w2) (A:=A2) (M:=M2) g)
   have aq:=az.go mv2 W.heap.lt;refine a5 _ _ ?_;rw [dA3] at W |-;generalize a1.put (some 24) (.pointer (some ⟨g,0,none⟩))=a2 at W;rcases ag with ⟨aa,rfl⟩|⟨aa,rfl,m,hm,hcap,ac⟩
   ·
    obtain ⟨j,x,hx,bc,a9,a0⟩:=xt5 aa;have hj:=xjw hx;obtain ⟨s3,p3,e3⟩:=xcF (orcC 0) (rA6f fb l (msOf es) n i (rowF f) (f.cells.getD 1 .top).toInt (f.cells.getD 2 .top).toInt g);simp only [z6] at e3;rw [<-zD [_]];refine xet (hIoG 0) hI p3 W fun a3 w3 A3 M3 J mv3=>wpList_nil ?_
    have J:=J.mask (8::9::lvA);rw [e3] at J;have ar:=J.cut hp (xll _) (xlm _);rw [cutA9] at ar;have ab:=(aq.go mv3 J.heap.lt).part (q:=pB q0);have O:=ab.ent j x hx;have V:=ar.join (xhT M3) hp O (ab.apm j hj);have Z:=V.setT (t:=9) (y:=.own (.b 1) 0 0 0) fun ht=>by
     have h:=V.tmps 9 ht;rw [getA9] at h;have hv:a3.tmps.getD 9 undef=.pointer (some ⟨x.2.g,0,none⟩):=by
      rw [a9];generalize a3.tmps.getD 9 undef=u at h;cases h;rfl
     exact (O.own hv).mono (fun _ _ _=>rfl) (zd _) (fun _ _ h=>h) (xrY O.ids)
    rw [List.set_set] at Z;obtain ⟨m,hm,hcap,ac⟩:=O.one;have hb:x.2.a.length<=c:=(ab.bnd j x hx).1;refine tailA hI hp al Z (m:=m) hm ac O.two O.three (by omega) fun a' w' A' M' ak aj ae he ah=>?_
    have be:=ab.bnd j x hx;have af:=ab.upd (k:=x.1) hj aj ae he ah (by simp only [EntV.addA,z8,zj];omega)
    refine hK a' w' A' _ _ _ ?_ (xhT M') af ?_
    . rw [xvO (e':=x.2.addA (.agg [.int .i64 (f.cells.getD 1 .top).toInt,.int .i64 (f.cells.getD 2 .top).toInt,.int .i64 1])) hx rfl];exact ak
    . exact xzJ hx a0
   ·
    have ad:=xyf aa;obtain ⟨s3,p3,e3⟩:=xcF (orcC 0) (rA6n fb l (xIm (msOf es) (keyF f) (.gptr g)) n i (rowF f) (f.cells.getD 1 .top).toInt (f.cells.getD 2 .top).toInt g);simp only [z6] at e3;rw [<-zD [_]];refine xet (hIoG 0) hI p3 W fun a3 w3 A3 M3 J mv3=>wpList_nil ?_
    have J:=J.mask (8::9::lvA);rw [e3] at J;have ay:=HR.same W.heap J.heap mv3.ext (n:=1) rfl rfl rfl hm;obtain ⟨M5,V,aw,ai,h2,h3⟩:=J.newE ay ac;have ax:=(aq.go mv3 J.heap.lt);have Z:=V.setT (t:=9) (y:=.own (.b 1) 0 0 0) fun ht=>by
     have h:=V.tmps 9 ht;rw [getA9] at h;obtain ⟨bx,hb,ao⟩:=V.heap.box _ _ ai;obtain rfl:EntV.E ⟨g,rowF f,[],[],0,0⟩=bx:=by simpa [getB] using hb
     have ba:m.ver=0:=ao.ver.symm;have a7:xH8 m.ty=false:=by rw [<-ao.ty];rfl
     generalize a3.tmps.getD 9 undef=u at h;cases h;refine .own _ (.b 1) 0 0 0 m ai (zQ _) rfl fun _=>?_
     unfold ptrOf;rw [a7,ac];simp
    rw [List.set_set] at Z;refine tailA hI hp al Z (m:=m) ai ac h2 h3 (by simp) fun a' w' A' M' ak aj ae he ah=>?_
    have af:=ax.add (k:=keyF f) (aw.trans aj) ae he ah (by simp [EntV.addA])
    refine hK a' w' A' _ _ _ ?_ (xhT M') af ?_
    . rw [xvN ad];exact ak
    . exact xzH ad
end
def evA18 (fb l ms:List AV) (n i:Int) (b:Bool):St.eval ⟨(hdA fb l n i).set 18 (.bool b),[mapB ms]⟩ (.tmp 18)=.bool b:=by kernel_rfl
def keA18 (fb l ms:List AV) (n i:Int) (b:Bool):wag lvA ⟨(hdA fb l n i).set 18 (.bool b),[mapB ms]⟩=⟨hdA fb l n i,[mapB ms]⟩:=by kernel_rfl
section
variable {w0 w : World} {A0 : Cx} {A : Nat -> Prop} {M : Id -> Option MB} {a : Act}
set_option maxHeartbeats 2000000 in
def loopA (hI:xIO w0) (hp:A0.pin=0) (am:∀ id,A0.M1 id=none) {fb l:List AV} {es:List (List UInt8×EntV)} {Ns:Nat->Id->Option MB} {c:Nat}
  (hs:SR w0 A0 w A M ⟨hdA fb l l.length ((0:Nat):Int),[mapB (msOf es)]⟩ a) (hE:Ents w A w0.heap.size A0.w1.heap.size c es Ns M) (hM:∀ id m,M id=some m->pB q0 id=true) (hf:∀ i,i<l.length->okF (l.getD i .top)=true) (hc:c+l.length<4294967295) {Q:Exit->Act->World->Prop}
  (hK:∀ a' w' A' M' J Ns',SR w0 A0 w' A' M' ⟨hdA fb l l.length l.length,[mapB (msOf J)]⟩ a'->(∀ id m,M' id=some m->pB q0 id=true)->Ents w' A' w0.heap.size A0.w1.heap.size (c+l.length) J Ns' M'->J.map wac=l.foldl waq (es.map wac)->Q (.exit 0) a' w') :
  (Code.loop lpA).wpIn (wideR none) 0 Tryz.prog Q a w:=by
 refine xpQ (fun N a' w'=>∃ (i:Nat) (J:List (List UInt8×EntV)) (Ns':Nat->Id->Option MB) (A':Nat->Prop) (M':Id->Option MB),N=l.length - i/\i<=l.length/\SR w0 A0 w' A' M' ⟨hdA fb l l.length (i:Int),[mapB (msOf J)]⟩ a'/\(∀ id m,M' id=some m->pB q0 id=true)/\Ents w' A' w0.heap.size A0.w1.heap.size (c+i) J Ns' M'/\J.map wac=(l.take i).foldl waq (es.map wac)) ?_ l.length a w ⟨0,es,Ns,A,M,rfl,zQ _,hs,hM,hE,rfl⟩
 rintro N a' w' ⟨i,J,Ns',A',M',rfl,hi,aj,ao,ae,ab⟩;unfold lpA;refine wpIn_seq (xfs (orcC 0) (hIoG 0) hI ndA4 (rA4 fb l (msOf J) l.length i) aj fun a1 w1 A1 M1 W aa=>?_)
 have al:a1.eval (.tmp 18)=.bool (decide ((i:Int)<l.length)):=by
  have h:=W.eval (.tmp 18);rw [evA18] at h;exact h.bool_inv
 refine wpIn_seq (wpIn_cond_split al (fun ht=>wpIn_skip ?_) fun hn=>wpIn_exit ?_)
 ·
  have O:i<l.length:=by simpa using ht
  rw [ht] at W;have h5:=rA5 fb l (msOf J) l.length i;rw [zN,xA0 (hf i O)] at h5;have c1:(decide ((0:Int)<=i)&&decide ((i:Int)<(l.length:Int)))=true:=by simp [O]
  have c2:(decide (i<l.length)&&true)=true:=by simp [O]
  rw [c1,c2] at h5;refine wpIn_seq (wpIn_block (wpIn_seq (xfs (orcC 0) (hIoG 0) hI ndA5 h5 W fun a2 w2 A2 M2 Y mv2=>?_)))
  obtain ⟨A3,V,mv3⟩:=Y.settle1 (t:=8) (resA (msOf J) fb l l.length i _);rw [reaA,setA8] at V;have af:=V.cut hp (xll _) (xlm _);rw [cutA8] at af;have ak:=(ae.go ((aa.trans mv2).trans mv3) V.heap.lt).part (q:=pB q0);refine callA hI hp am af ak (xhT M2) (hf i O) (by omega) fun a5 w5 A5 M5 ag Ns5 ah ap ai ad=>?_
  refine xfs (orcC 0) (hIoG 0) hI ndA8 (rA8 fb l (msOf ag) l.length i) ah fun a6 w6 A6 M6 Z mv6=>?_
  have hw:IntKind.i64.wrap ((i:Int)+1)=((i+1:Nat):Int):=by
   rw [xba (by omega) (by omega)];omega
  rw [hw] at Z;have ac:=Z.cut hp (xll _) (xlm _);rw [cutA] at ac;refine ⟨l.length - (i+1),by omega,i+1,ag,Ns5,A6,_,rfl,O,ac,xhT M6,(ai.go mv6 Z.heap.lt).part,?_⟩
  rw [ad,ab];have e:l.take (i+1)=l.take i++[l.getD i .top]:=by
   rw [List.take_add_one,ze O];simp [z7,O]
  rw [e,List.foldl_append];rfl
 ·
  have an:i=l.length:=by
   have:¬ ((i:Int)<l.length):=by simpa using hn
   omega
  subst an;have Y:=W.mask lvA;rw [keA18] at Y;have V:=Y.cut hp (xll _) (xlm _);rw [cutA] at V;have hst':J.map wac=l.foldl waq (es.map wac):=by rw [ab,y6]
  exact hK a1 w1 A1 _ J Ns' V (xhT M1) (ae.go aa W.heap.lt).part hst'
end
def lvB:List Nat:=[1,5,6,38,39,40]
def hdB (fb l:List AV) (n i:Int):List AV:=mkTs 62 [(1,.list 3 fb),(5,vC),(6,.func 105 [vC]),(38,.list 3 l),(39,.int .i64 n),(40,.int .i64 i)]
def ndB4:noDefer (cO 10)=true:=by kernel_rfl
def ndB5:noDefer (cO 11)=true:=by kernel_rfl
def ndB6:noDefer (cO 12)=true:=by kernel_rfl
def ndB8:noDefer (cO 14)=true:=by kernel_rfl
def rB4 (fb l ms:List AV) (n i:Int):xOps Tryz.prog (EC 0) none (some true) (cO 10) (cO 10).toList ⟨hdB fb l n i,[mapB ms]⟩ (fun s=>some (wag (41::lvB) s))=some ⟨(hdB fb l n i).set 41 (.bool (decide (i<n))),[mapB ms]⟩:=by kernel_rfl
def rB5 (fb l ms:List AV) (n i:Int):xOps Tryz.prog (EC 0) none (some true) (cO 11) (cO 11).toList ⟨(hdB fb l n i).set 41 (.bool true),[mapB ms]⟩ (fun s=>some (wag (11::lvB) s)) =
 br (decide ((0:Int)<=i)&&decide (i<(l.length:Int))) (br (decide (i.toNat<l.length)&&((l.getD i.toNat .top).cells.length==3&&xIb [.list 3,.int .i64,.int .i64] (l.getD i.toNat .top).cells 0))
  (some ⟨(hdB fb l n i).set 11 (.own (.b 1) 0 0 0),[mapB ms,boxF (.agg [.list 3 ((l.getD i.toNat .top).cells.getD 0 .top).toList,.int .i64 ((l.getD i.toNat .top).cells.getD 1 .top).toInt,.int .i64 ((l.getD i.toNat .top).cells.getD 2 .top).toInt])]⟩) none) none:=by kernel_rfl
def h8B (fb l:List AV) (n i:Int) (row:List AV) (ff ft:Int):List AV:=(hdB fb l n i).set 11 (.eptr 3 [.agg [.list 3 row,.int .i64 ff,.int .i64 ft]] 0 0)
def h9B (fb l:List AV) (n i:Int) (row:List AV) (ff ft:Int):List AV:=(((h8B fb l n i row ff ft).set 44 (.func 105 [vC])).set 45 (.eptr 3 [.agg [.list 3 row,.int .i64 ff,.int .i64 ft]] 0 0)).set 46 (.list 3 row)
def rB6 (fb l ms:List AV) (n i:Int) (row:List AV) (ff ft:Int):xOps Tryz.prog (EC 0) none (some true) (cO 12) ((cO 12).toList.take 3) ⟨h8B fb l n i row ff ft,[mapB ms]⟩ some=some ⟨h9B fb l n i row ff ft,[mapB ms]⟩:=by kernel_rfl
def lB6:(cO 12).toList=(cO 12).toList.take 3++[(cO 12).toList.getD 3 default,(cO 12).toList.getD 4 default]:=by kernel_rfl
def oB3:((cO 12).toList.getD 3 default).op=.call (wa4 ((cO 12).toList.getD 3 default).op):=by kernel_rfl
def tB3 (fb l ms:List AV) (n i:Int) (row:List AV) (ff ft:Int):xIU ⟨h9B fb l n i row ff ft,[mapB ms]⟩ (wa4 ((cO 12).toList.getD 3 default).op)=some (105,[.list 3 row,vC]):=by kernel_rfl
def dB3:((cO 12).toList.getD 3 default).dst=some 47:=by kernel_rfl
def gB3:((cO 12).toList.getD 3 default).guard=none:=by kernel_rfl
def rB6f (fb l ms:List AV) (n i:Int) (row:List AV) (ff ft:Int) (g:Nat):xOps Tryz.prog (EC 0) none (some true) (cO 12) [(cO 12).toList.getD 4 default] ⟨(h9B fb l n i row ff ft).set 47 (.gptr g),[mapB ms]⟩ (fun s=>some (wag (11::12::lvB) s))=some ⟨(h8B fb l n i row ff ft).set 12 (.gptr g),[mapB ms]⟩:=by kernel_rfl
def rB6n (fb l ms:List AV) (n i:Int) (row:List AV) (ff ft:Int) (g:Nat):xOps Tryz.prog (EC 0) none (some true) (cO 12) [(cO 12).toList.getD 4 default] ⟨(h9B fb l n i row ff ft).set 47 (.gptr g),[mapB ms,boxN row]⟩ (fun s=>some (wag (11::12::lvB) s))=some ⟨(h8B fb l n i row ff ft).set 12 (.gptr g),[mapB ms,boxN row]⟩:=by kernel_rfl
def boxB (e:EntV):Box:=⟨0,3,94,[.agg [.list 3 e.row,.osl (.b 2) e.va 0 e.a.length,.osl (.b 3) (e.vb+1) 0 (e.b.length+1)]],false,false⟩
def xDa (e:EntV) (c:AV):boxB e=(e.addB c).E:=by
 unfold boxB EntV.E EntV.addB;simp
def rB7 (fb l ms:List AV) (n i:Int) (row:List AV) (ff ft:Int) (er ea eb:List AV) (g va vb:Nat):X Tryz.prog (EC 4) none (.region 13 (cO 13) true) ⟨(h8B fb l n i row ff ft).set 12 (.own (.b 1) 0 0 0),[mapB ms,EntV.E ⟨g,er,ea,eb,va,vb⟩,EntV.A ⟨g,er,ea,eb,va,vb⟩,EntV.B ⟨g,er,ea,eb,va,vb⟩]⟩ (fun ex s=>some (ex,wag lvB s)) =
 br (vb==vb&&(eb.length==eb.length&&(decide ((eb.length+1)*24<=140737488355328)&&decide (eb.length+1<=4611686018427387904))))
  (some (.normal,⟨hdB fb l n i,[mapB ms,boxB ⟨g,er,ea,eb,va,vb⟩,((⟨g,er,ea,eb,va,vb⟩:EntV).addB (.agg [.int .i64 ff,.int .i64 ft,.int .i64 1])).A,((⟨g,er,ea,eb,va,vb⟩:EntV).addB (.agg [.int .i64 ff,.int .i64 ft,.int .i64 1])).B,⟨0,3,100,[.agg [.int .i64 ff,.int .i64 ft,.int .i64 1]],false,true⟩]⟩)) none:=by kernel_rfl
def lkB:LoOk Tryz.prog (xIO.at 4) (EC 4) (.region 13 (cO 13) true):=xhX rfl
def rB8 (fb l ms:List AV) (n i:Int):xOps Tryz.prog (EC 0) none (some true) (cO 14) (cO 14).toList ⟨hdB fb l n i,[mapB ms]⟩ (fun s=>some (wag lvB s))=some ⟨hdB fb l n (IntKind.i64.wrap (i+1)),[mapB ms]⟩:=by kernel_rfl
def cutB (fb l:List AV) (n i:Int):cutT (hdB fb l n i)=hdB fb l n i:=by kernel_rfl
def cutB8 (fb l:List AV) (n i:Int) (row:List AV) (ff ft:Int):cutT (h8B fb l n i row ff ft)=h8B fb l n i row ff ft:=by kernel_rfl
def xqB (ms:List AV):wat (pB q0) (mapB ms)=true:=by kernel_rfl
def xqC (ms:List AV) (j:Nat) (hj:j<(mapB ms).sz):xH7 (mapB ms).ty j=false:=by
 have hj:j<2:=hj;rcases j with _|_|j
 . exact xts
 . exact xtt
 . omega
section
variable {w0 w : World} {A0 : Cx} {A : Nat -> Prop} {M : Id -> Option MB} {a : Act}
def tailB (hI:xIO w0) (hp:A0.pin=0) (ab:∀ id,A0.M1 id=none) {fb l ms row:List AV} {n i ff ft:Int} {e:EntV} {m:MB}
  (hs:SR w0 A0 w A M ⟨(h8B fb l n i row ff ft).set 12 (.own (.b 1) 0 0 0),[mapB ms,e.E,e.A,e.B]⟩ a) (hm:M (.b 1)=some m) (hg:m.b=e.g) (h2:∃ m,M (.b 2)=some m) (h3:∃ m,M (.b 3)=some m) (hb:e.b.length<4294967296) {Q:Exit->Act->World->Prop}
  (hK:∀ a' w' A' M',SR w0 A0 w' A' (MR (pB q0) M') ⟨hdB fb l n i,[mapB ms]⟩ a'->Mv w A M w' A' M'->(∀ b,A' b->b<w'.heap.size)->EntAt w' A' w0.heap.size A0.w1.heap.size (e.addB (.agg [.int .i64 ff,.int .i64 ft,.int .i64 1])) (MR (pB qe1) M')->wae (MR (pB qe1) M') (MR (pB q0) M')->Q .normal a' w') :
  (Code.region 13 (cO 13) true).wpIn (wideR none) 0 Tryz.prog Q a w:=by
 obtain ⟨V,O⟩:∃ t:St,t=⟨hdB fb l n i,[mapB ms,(e.addB (.agg [.int .i64 ff,.int .i64 ft,.int .i64 1])).E,(e.addB (.agg [.int .i64 ff,.int .i64 ft,.int .i64 1])).A,(e.addB (.agg [.int .i64 ff,.int .i64 ft,.int .i64 1])).B,⟨0,3,100,[.agg [.int .i64 ff,.int .i64 ft,.int .i64 1]],false,true⟩]⟩:=⟨_,rfl⟩;have hx:=rB7 fb l ms n i row ff ft e.row e.a e.b e.g e.va e.vb;have hc:(e.vb==e.vb&&(e.b.length==e.b.length&&(decide ((e.b.length+1)*24<=140737488355328)&&decide (e.b.length+1<=4611686018427387904))))=true:=by
  simp only [beq_self_eq_true,Bool.true_and,zf,zl];omega
 rw [hc] at hx;have hx:X Tryz.prog (EC 4) none (.region 13 (cO 13) true) ⟨(h8B fb l n i row ff ft).set 12 (.own (.b 1) 0 0 0),[mapB ms,e.E,e.A,e.B]⟩ (fun ex s=>some (ex,wag lvB s))=some (.normal,V):=by
  rw [O,<-xDa];exact hx
 have hd:=xeF (P:=Tryz.prog) (Inv:=xIO.at 4) (E:=EC 4) (T:=Option (Exit×St)) (good:=fun o=>o=some (.normal,V)) (bad:=none) xIf (hIoG 4) rfl (by simp) (orcC 4) _ _ _ lkB hx
 refine hd w0 _ w A M a _ hI (zd 4) (hs.door 4) ?_ none (fun _=>rfl)
 rintro ex s' a' w' hq ⟨A',M',Y⟩;simp only [z6,zb] at hq;obtain ⟨rfl,hk⟩:=hq;obtain ⟨Z,J⟩:=hs.undoor (zd 4) Y;have q:=Z.mask lvB;rw [hk,O] at q;have aa:M' (.b 1)=some m:=HR.same hs.heap q.heap J.ext (n:=1) rfl rfl rfl hm;have h2':∃ m,M' (.b 2)=some m:=by
  obtain ⟨m2,h⟩:=h2;obtain ⟨m',h',_⟩:=J.ext _ _ h;exact ⟨m',h'⟩
 have h3':∃ m,M' (.b 3)=some m:=by
  obtain ⟨m2,h⟩:=h3;obtain ⟨m',h',_⟩:=J.ext _ _ h;exact ⟨m',h'⟩
 have W:=q.cut hp (xqB ms) (xqC ms);rw [cutB] at W;exact hK _ _ _ _ W J q.heap.lt (q.out ab aa hg h2' h3') q.heap.split
end
def cutB9 (fb l:List AV) (n i:Int) (row:List AV) (ff ft:Int) (g:Nat):cutT ((h8B fb l n i row ff ft).set 12 (.gptr g))=(h8B fb l n i row ff ft).set 12 (.gptr g):=by kernel_rfl
def getB9 (fb l:List AV) (n i:Int) (row:List AV) (ff ft:Int) (g:Nat):((h8B fb l n i row ff ft).set 12 (.gptr g)).getD 12 .top=.gptr g:=by kernel_rfl
def resB (ms:List AV) (fb l:List AV) (n i:Int) (f:AV):resolve [mapB ms,boxF f] xIq (((hdB fb l n i).set 11 (.own (.b 1) 0 0 0)).getD 11 .top)=some (.eptr 3 [f] 0 0):=by kernel_rfl
def reaB (ms:List AV) (fb l:List AV) (n i:Int) (f:AV):freeze [mapB ms,boxF f] (reach [mapB ms,boxF f] xIq (((hdB fb l n i).set 11 (.own (.b 1) 0 0 0)).getD 11 .top))=[mapB ms,⟨0,3,54,[f],true,true⟩]:=by kernel_rfl
def setB8 (fb l:List AV) (n i:Int) (row:List AV) (ff ft:Int):((hdB fb l n i).set 11 (.own (.b 1) 0 0 0)).set 11 (.eptr 3 [.agg [.list 3 row,.int .i64 ff,.int .i64 ft]] 0 0)=h8B fb l n i row ff ft:=by kernel_rfl
def xA1 {f:AV} (h:okF f=true):(f.cells.length==3&&xIb [.list 3,.int .i64,.int .i64] f.cells 0)=true:=by
 unfold okF at h;simp only [zf] at h;rw [zf];exact ⟨beq_iff_eq.2 (zg h.1),h.2.1⟩
def xCh {f:AV} (h:okF f=true):xa0 (rowF f)=some (keyF f)/\(keyF f).length<=4611686018427387904:=by
 unfold okF at h;simp only [zf,zl] at h;obtain ⟨_,_,⟨_,h1⟩,h2⟩:=h;obtain ⟨k,hk⟩:=Option.isSome_iff_exists.1 h1;refine ⟨?_,h2⟩;unfold keyF;rw [hk];rfl
section
variable {w0 w : World} {A0 : Cx} {A : Nat -> Prop} {M : Id -> Option MB} {a : Act}
set_option maxHeartbeats 2000000 in
def callB (hI:xIO w0) (hp:A0.pin=0) (al:∀ id,A0.M1 id=none) {fb l:List AV} {n i:Int} {f:AV} {es:List (List UInt8×EntV)} {Ns:Nat->Id->Option MB} {c:Nat}
  (hs:SR w0 A0 w A M ⟨h8B fb l n i (rowF f) (f.cells.getD 1 .top).toInt (f.cells.getD 2 .top).toInt,[mapB (msOf es)]⟩ a) (hE:Ents w A w0.heap.size A0.w1.heap.size c es Ns M) (hM:∀ id m,M id=some m->pB q0 id=true) (hf:okF f=true) (hc:c<4294967295) {Q:Exit->Act->World->Prop}
  (hK:∀ a' w' A' M' es' Ns',SR w0 A0 w' A' M' ⟨hdB fb l n i,[mapB (msOf es')]⟩ a'->(∀ id m,M' id=some m->pB q0 id=true)->Ents w' A' w0.heap.size A0.w1.heap.size (c+1) es' Ns' M'->es'.map wac=wap (es.map wac) f->Q .normal a' w') :
  (Code.seq (.region 12 (cO 12) false) (.region 13 (cO 13) true)).wpIn (wideR none) 0 Tryz.prog Q a w:=by
 obtain ⟨an,a8⟩:=xCh hf;refine wpIn_seq (wpIn_region_list (xd7 none 0 _ (xcE ndB6) _ _ ?_));rw [lB6];refine xet (hIoG 0) hI (xom (rB6 fb l (msOf es) n i (rowF f) (f.cells.getD 1 .top).toInt (f.cells.getD 2 .top).toInt)) hs fun a1 w1 A1 M1 Y au=>wpList_plain gB3 fun K a5=>?_
 have az:=hE.go au Y.heap.lt;have bb:=hE.cnt;refine callX oB3 (tB3 fb l (msOf es) n i (rowF f) (f.cells.getD 1 .top).toInt (f.cells.getD 2 .top).toInt) xvz Y (R:=fun v w'=>∃ A' M' g,v=.pointer (some ⟨g,0,none⟩)/\Below w0.heap.size w0 w'/\(∀ b,b<w0.heap.size->(A' b↔A1 b))/\Mv w1 A1 M1 w' A' M'/\∃ H,HR w' A' M' w0.heap.size H/\wav (rowF f) (msOf es) (keyF f) g H M') (fun vs a6=>?_) fun v w2 hr=>?_
 . refine (xt4 (w0:=w0) hI Y.base Y.heap a6 an a8 (by rw [xl0];show es.length<4611686018427387904;omega) (xAM es (keyF f))).mono ?_
   rintro e w' ⟨v,A',M',g,h1,h2,h3,h4,h5,h6⟩;exact ⟨v,h1,A',M',g,h2,h3,h4,h5,h6⟩
 . obtain ⟨A2,M2,g,rfl,am,ap,mv2,H,a4,ag⟩:=hr;have W:=Y.put (d:=((cO 12).toList.getD 3 default).dst) am (fun b hb=>(ap b hb).trans (Y.outer b hb)) mv2 a4 (Rel.gptr (w:=w2) (A:=A2) (M:=M2) g)
   have aq:=az.go mv2 W.heap.lt;refine a5 _ _ ?_;rw [dB3] at W |-;generalize a1.put (some 47) (.pointer (some ⟨g,0,none⟩))=a2 at W;rcases ag with ⟨aa,rfl⟩|⟨aa,rfl,m,hm,hcap,ac⟩
   ·
    obtain ⟨j,x,hx,bc,a9,a0⟩:=xt5 aa;have hj:=xjw hx;obtain ⟨s3,p3,e3⟩:=xcF (orcC 0) (rB6f fb l (msOf es) n i (rowF f) (f.cells.getD 1 .top).toInt (f.cells.getD 2 .top).toInt g);simp only [z6] at e3;rw [<-zD [_]];refine xet (hIoG 0) hI p3 W fun a3 w3 A3 M3 J mv3=>wpList_nil ?_
    have J:=J.mask (11::12::lvB);rw [e3] at J;have ar:=J.cut hp (xqB _) (xqC _);rw [cutB9] at ar;have ab:=(aq.go mv3 J.heap.lt).part (q:=pB q0);have O:=ab.ent j x hx;have V:=ar.join (xhT M3) hp O (ab.apm j hj);have Z:=V.setT (t:=12) (y:=.own (.b 1) 0 0 0) fun ht=>by
     have h:=V.tmps 12 ht;rw [getB9] at h;have hv:a3.tmps.getD 12 undef=.pointer (some ⟨x.2.g,0,none⟩):=by
      rw [a9];generalize a3.tmps.getD 12 undef=u at h;cases h;rfl
     exact (O.own hv).mono (fun _ _ _=>rfl) (zd _) (fun _ _ h=>h) (xrY O.ids)
    rw [List.set_set] at Z;obtain ⟨m,hm,hcap,ac⟩:=O.one;have hb:x.2.b.length<=c:=(ab.bnd j x hx).2;refine tailB hI hp al Z (m:=m) hm ac O.two O.three (by omega) fun a' w' A' M' ak aj ae he ah=>?_
    have be:=ab.bnd j x hx;have af:=ab.upd (k:=x.1) hj aj ae he ah (by simp only [EntV.addB,z8,zj];omega)
    refine hK a' w' A' _ _ _ ?_ (xhT M') af ?_
    . rw [xvO (e':=x.2.addB (.agg [.int .i64 (f.cells.getD 1 .top).toInt,.int .i64 (f.cells.getD 2 .top).toInt,.int .i64 1])) hx rfl];exact ak
    . exact xzK hx a0
   ·
    have ad:=xyf aa;obtain ⟨s3,p3,e3⟩:=xcF (orcC 0) (rB6n fb l (xIm (msOf es) (keyF f) (.gptr g)) n i (rowF f) (f.cells.getD 1 .top).toInt (f.cells.getD 2 .top).toInt g);simp only [z6] at e3;rw [<-zD [_]];refine xet (hIoG 0) hI p3 W fun a3 w3 A3 M3 J mv3=>wpList_nil ?_
    have J:=J.mask (11::12::lvB);rw [e3] at J;have ay:=HR.same W.heap J.heap mv3.ext (n:=1) rfl rfl rfl hm;obtain ⟨M5,V,aw,ai,h2,h3⟩:=J.newE ay ac;have ax:=(aq.go mv3 J.heap.lt);have Z:=V.setT (t:=12) (y:=.own (.b 1) 0 0 0) fun ht=>by
     have h:=V.tmps 12 ht;rw [getB9] at h;obtain ⟨bx,hb,ao⟩:=V.heap.box _ _ ai;obtain rfl:EntV.E ⟨g,rowF f,[],[],0,0⟩=bx:=by simpa [getB] using hb
     have ba:m.ver=0:=ao.ver.symm;have a7:xH8 m.ty=false:=by rw [<-ao.ty];rfl
     generalize a3.tmps.getD 12 undef=u at h;cases h;refine .own _ (.b 1) 0 0 0 m ai (zQ _) rfl fun _=>?_
     unfold ptrOf;rw [a7,ac];simp
    rw [List.set_set] at Z;refine tailB hI hp al Z (m:=m) ai ac h2 h3 (by simp) fun a' w' A' M' ak aj ae he ah=>?_
    have af:=ax.add (k:=keyF f) (aw.trans aj) ae he ah (by simp [EntV.addB])
    refine hK a' w' A' _ _ _ ?_ (xhT M') af ?_
    . rw [xvN ad];exact ak
    . exact xzI ad
end
def evB18 (fb l ms:List AV) (n i:Int) (b:Bool):St.eval ⟨(hdB fb l n i).set 41 (.bool b),[mapB ms]⟩ (.tmp 41)=.bool b:=by kernel_rfl
def keB18 (fb l ms:List AV) (n i:Int) (b:Bool):wag lvB ⟨(hdB fb l n i).set 41 (.bool b),[mapB ms]⟩=⟨hdB fb l n i,[mapB ms]⟩:=by kernel_rfl
section
variable {w0 w : World} {A0 : Cx} {A : Nat -> Prop} {M : Id -> Option MB} {a : Act}
set_option maxHeartbeats 2000000 in
def loopB (hI:xIO w0) (hp:A0.pin=0) (am:∀ id,A0.M1 id=none) {fb l:List AV} {es:List (List UInt8×EntV)} {Ns:Nat->Id->Option MB} {c:Nat}
  (hs:SR w0 A0 w A M ⟨hdB fb l l.length ((0:Nat):Int),[mapB (msOf es)]⟩ a) (hE:Ents w A w0.heap.size A0.w1.heap.size c es Ns M) (hM:∀ id m,M id=some m->pB q0 id=true) (hf:∀ i,i<l.length->okF (l.getD i .top)=true) (hc:c+l.length<4294967295) {Q:Exit->Act->World->Prop}
  (hK:∀ a' w' A' M' J Ns',SR w0 A0 w' A' M' ⟨hdB fb l l.length l.length,[mapB (msOf J)]⟩ a'->(∀ id m,M' id=some m->pB q0 id=true)->Ents w' A' w0.heap.size A0.w1.heap.size (c+l.length) J Ns' M'->J.map wac=l.foldl wap (es.map wac)->Q (.exit 2) a' w') :
  (Code.loop lpB).wpIn (wideR none) 0 Tryz.prog Q a w:=by
 refine xpQ (fun N a' w'=>∃ (i:Nat) (J:List (List UInt8×EntV)) (Ns':Nat->Id->Option MB) (A':Nat->Prop) (M':Id->Option MB),N=l.length - i/\i<=l.length/\SR w0 A0 w' A' M' ⟨hdB fb l l.length (i:Int),[mapB (msOf J)]⟩ a'/\(∀ id m,M' id=some m->pB q0 id=true)/\Ents w' A' w0.heap.size A0.w1.heap.size (c+i) J Ns' M'/\J.map wac=(l.take i).foldl wap (es.map wac)) ?_ l.length a w ⟨0,es,Ns,A,M,rfl,zQ _,hs,hM,hE,rfl⟩
 rintro N a' w' ⟨i,J,Ns',A',M',rfl,hi,aj,ao,ae,ab⟩;unfold lpB;refine wpIn_seq (xfs (orcC 0) (hIoG 0) hI ndB4 (rB4 fb l (msOf J) l.length i) aj fun a1 w1 A1 M1 W aa=>?_)
 have al:a1.eval (.tmp 41)=.bool (decide ((i:Int)<l.length)):=by
  have h:=W.eval (.tmp 41);rw [evB18] at h;exact h.bool_inv
 refine wpIn_seq (wpIn_cond_split al (fun ht=>wpIn_skip ?_) fun hn=>wpIn_exit ?_)
 ·
  have O:i<l.length:=by simpa using ht
  rw [ht] at W;have h5:=rB5 fb l (msOf J) l.length i;rw [zN,xA1 (hf i O)] at h5;have c1:(decide ((0:Int)<=i)&&decide ((i:Int)<(l.length:Int)))=true:=by simp [O]
  have c2:(decide (i<l.length)&&true)=true:=by simp [O]
  rw [c1,c2] at h5;refine wpIn_seq (wpIn_block (wpIn_seq (xfs (orcC 0) (hIoG 0) hI ndB5 h5 W fun a2 w2 A2 M2 Y mv2=>?_)))
  obtain ⟨A3,V,mv3⟩:=Y.settle1 (t:=11) (resB (msOf J) fb l l.length i _);rw [reaB,setB8] at V;have af:=V.cut hp (xqB _) (xqC _);rw [cutB8] at af;have ak:=(ae.go ((aa.trans mv2).trans mv3) V.heap.lt).part (q:=pB q0);refine callB hI hp am af ak (xhT M2) (hf i O) (by omega) fun a5 w5 A5 M5 ag Ns5 ah ap ai ad=>?_
  refine xfs (orcC 0) (hIoG 0) hI ndB8 (rB8 fb l (msOf ag) l.length i) ah fun a6 w6 A6 M6 Z mv6=>?_
  have hw:IntKind.i64.wrap ((i:Int)+1)=((i+1:Nat):Int):=by
   rw [xba (by omega) (by omega)];omega
  rw [hw] at Z;have ac:=Z.cut hp (xqB _) (xqC _);rw [cutB] at ac;refine ⟨l.length - (i+1),by omega,i+1,ag,Ns5,A6,_,rfl,O,ac,xhT M6,(ai.go mv6 Z.heap.lt).part,?_⟩
  rw [ad,ab];have e:l.take (i+1)=l.take i++[l.getD i .top]:=by
   rw [List.take_add_one,ze O];simp [z7,O]
  rw [e,List.foldl_append];rfl
 ·
  have an:i=l.length:=by
   have:¬ ((i:Int)<l.length):=by simpa using hn
   omega
  subst an;have Y:=W.mask lvB;rw [keB18] at Y;have V:=Y.cut hp (xqB _) (xqC _);rw [cutB] at V;have hst':J.map wac=l.foldl wap (es.map wac):=by rw [ab,y6]
  exact hK a1 w1 A1 _ J Ns' V (xhT M1) (ae.go aa W.heap.lt).part hst'
end
def colV (xa xb:List AV):List PE:=xb.foldl wap (xa.foldl waq [])
def wau (xa xb:List AV):Bool:=(List.range xa.length).all (fun i=>okF (xa.getD i .top))&&((List.range xb.length).all (fun i=>okF (xb.getD i .top))&&decide (xa.length+xb.length<4294967295))
def cT0 (fa fb:List AV):List AV:=[.list 3 fa,.list 3 fb]++List.replicate 60 (.tuple [])
def cT1 (fa fb:List AV):List AV:=mkTs 62 [(0,.list 3 fa),(1,.list 3 fb)]
def cT2 (fa fb:List AV):List AV:=mkTs 62 [(0,.list 3 fa),(1,.list 3 fb),(5,vC)]
def cT3 (fa fb:List AV):List AV:=mkTs 62 [(0,.list 3 fa),(1,.list 3 fb),(5,vC),(6,.func 105 [vC])]
def cT9:List AV:=mkTs 62 [(4,.own (.b 0) 0 0 0)]
def boxM:Box:=⟨0,1,88,[.own (.b 0) 0 0 0],false,false⟩
def ndC0:noDefer (cO 0)=true:=by kernel_rfl
def ndC1:noDefer (cO 1)=true:=by kernel_rfl
def ndC2:noDefer (cO 2)=true:=by kernel_rfl
def ndC3:noDefer (cO 3)=true:=by kernel_rfl
def ndC9:noDefer (cO 9)=true:=by kernel_rfl
def ndC15:noDefer (cO 15)=true:=by kernel_rfl
def cgR0 (fa fb:List AV):xOps Tryz.prog (EC 0) none (some true) (cO 0) (cO 0).toList ⟨cT0 fa fb,[]⟩ (fun s=>some (wag [0,1] s))=some ⟨cT1 fa fb,[]⟩:=by kernel_rfl
def cR1 (fa fb:List AV):xOps Tryz.prog (EC 0) none (some true) (cO 1) (cO 1).toList ⟨cT1 fa fb,[]⟩ (fun s=>some (wag [0,1,5] s))=some ⟨(cT1 fa fb).set 5 (.own (.b 1) 0 0 0),[mapB [],boxM]⟩:=by kernel_rfl
def cgV1 (fa fb:List AV):((cT1 fa fb).set 5 (.own (.b 1) 0 0 0)).getD 5 .top=.own (.b 1) 0 0 0:=by kernel_rfl
def cgV2:varOf [mapB [],boxM] 1 0 0 0=some (.own (.b 0) 0 0 0):=by kernel_rfl
def cV3 (fa fb:List AV):cutT (((cT1 fa fb).set 5 (.own (.b 1) 0 0 0)).set 5 (.func vpF [.own (.b 0) 0 0 0]))=cT2 fa fb:=by kernel_rfl
def cR2 (fa fb:List AV):xOps Tryz.prog (EC 0) none (some true) (cO 2) (cO 2).toList ⟨cT2 fa fb,[mapB []]⟩ (fun s=>some (wag [0,1,5,6] s))=some ⟨cT3 fa fb,[mapB []]⟩:=by kernel_rfl
def cR3 (fa fb:List AV):xOps Tryz.prog (EC 0) none (some true) (cO 3) (cO 3).toList ⟨cT3 fa fb,[mapB []]⟩ (fun s=>some (wag lvA s))=some ⟨hdA fb fa fa.length ((0:Nat):Int),[mapB (msOf [])]⟩:=by kernel_rfl
def cR9 (fb l ms:List AV) (n i:Int):xOps Tryz.prog (EC 0) none (some true) (cO 9) (cO 9).toList ⟨hdA fb l n i,[mapB ms]⟩ (fun s=>some (wag lvB s))=some ⟨hdB fb fb fb.length ((0:Nat):Int),[mapB ms]⟩:=by kernel_rfl
def cR15 (fb l ms:List AV) (n i:Int):xOps Tryz.prog (EC 0) none (some true) (cO 15) (cO 15).toList ⟨hdB fb l n i,[mapB ms]⟩ (fun s=>some (wag [4] s))=some ⟨cT9,[mapB ms]⟩:=by kernel_rfl
def cC9:cutT cT9=cT9:=by kernel_rfl
def cRes (H:List Box):resAllM Tryz.prog ⟨cT9,H⟩ Tryz.f75.results.toList=some [.own (.b 0) 0 0 0]:=by kernel_rfl
def cNt:Tryz.f75.ntmps=62:=by kernel_rfl
def cBody:Tryz.f75.body=some cB:=by kernel_rfl
def cEnters:Enters Tryz.prog 75:=⟨_,Tryz.func75,by kernel_rfl,by kernel_rfl⟩
section
variable {w0 w : World} {A0 : Cx} {A : Nat -> Prop} {M : Id -> Option MB} {a : Act}
set_option maxHeartbeats 2000000 in
def xBT (hI:xIO w0) (hp:A0.pin=0) (ab:∀ id,A0.M1 id=none) {fa fb:List AV} (Z:wau fa fb=true) (hs:SR w0 A0 w A M ⟨cT0 fa fb,[]⟩ a) {Q:Exit->Act->World->Prop}
  (hQ:∀ a' w' A' M',SR w0 A0 w' A' M' ⟨cT9,[mapB (wad (colV fa fb))]⟩ a'->Q .ret a' w'):cB.wpIn (wideR none) 0 Tryz.prog Q a w:=by
 unfold wau at Z;simp only [zf,zI,List.mem_range,zl] at Z;obtain ⟨al,ai,au⟩:=Z;rw [xF6];refine wpIn_seq (xfs (orcC 0) (hIoG 0) hI ndC0 (cgR0 fa fb) hs fun a1 w1 A1 M1 ap _=>?_)
 refine wpIn_seq (xfs (orcC 0) (hIoG 0) hI ndC1 (cR1 fa fb) ap fun a2 w2 A2 M2 af _=>?_)
 obtain ⟨A3,W⟩:=af.vptr (cgV1 fa fb) cgV2;have W:=W.cut (b0:=mapB []) (T:=[{ boxM with frz:=true }]) hp (xll _) (xlm _);rw [cV3] at W;refine wpIn_seq (xfs (orcC 0) (hIoG 0) hI ndC2 (cR2 fa fb) W fun a4 w4 A4 M4 ao _=>?_)
 refine wpIn_seq (wpIn_seq (xfs (orcC 0) (hIoG 0) hI ndC3 (cR3 fa fb) ao fun a5 w5 A5 M5 V _=>?_))
 have V:=V.cut hp (xll _) (xlm _);rw [cutA] at V;have ad:Ents w5 A5 w0.heap.size A0.w1.heap.size 0 [] (fun _=>xIj) (MR (pB q0) M5):=⟨fun i x h=>by simp at h,fun i j h=>by simp at h,fun i h=>by simp at h,fun i x h=>by simp at h,zd _⟩
 refine wpIn_block (loopA hI hp ab V ad (xhT M5) al (by omega) fun a6 w6 A6 M6 an Ns6 aj aw ah ac=>?_)
 simp only [Exit.inBlock,if_true];show Exit.then _ _ .normal a6 w6
 refine wpIn_seq (wpIn_seq (xfs (orcC 0) (hIoG 0) hI ndC9 (cR9 fb fa (msOf an) fa.length fa.length) aj fun a7 w7 A7 M7 J mv7=>?_))
 have ar:=(ah.go mv7 J.heap.lt).part (q:=pB q0);have J:=J.cut hp (xll _) (xlm _);rw [cutB] at J;refine wpIn_block (loopB hI hp ab J ar (xhT M7) ai (by omega) fun a8 w8 A8 M8 aq Ns8 ag ax ae aa=>?_)
 simp only [Exit.inBlock,if_true];show Exit.then _ _ .normal a8 w8
 refine wpIn_seq (xfs (orcC 0) (hIoG 0) hI ndC15 (cR15 fb fb (msOf aq) fb.length fb.length) ag fun a9 w9 A9 M9 O ak=>?_)
 have am:=(ae.go ak O.heap.lt).part (q:=pB q0);have O:=O.cut hp (xll _) (xlm _);rw [cC9] at O;obtain ⟨A10,Y⟩:=SR.final O am (xhT M9) hp;rw [aa,ac] at Y;exact wpIn_ret (hQ _ _ _ _ Y)
end
def xBU {fa fb:List AV} (Y:wau fa fb=true):GoodM Tryz.prog xIO 75 [.list 3 fa,.list 3 fb] [] (.own (.b 0) 0 0 0) [mapB (wad (colV fa fb))]:=by
 refine ⟨cEnters,fun w0 w A M vs hI Q hR O=>?_⟩
 have Z:∀ id,M id=none:=fun id=>by
  cases h:M id with
  | none=>rfl
  | some m =>
   obtain ⟨bx,hb,_⟩:=hR.box id m h;cases id<;>simp [getB] at hb
 refine callsIn_wide.1 (callsIn_of_wp_marks (F:=Fence.wide) (n:=0) Tryz.func75 cBody trivial ?_);refine xBT (A0:=⟨A,w,A,M,0,fun _=>False⟩) (A:=A) (M:=M) (fa:=fa) (fb:=fb) hI rfl Z Y ⟨Q,fun _ _=>Iff.rfl,?_,fun t ht=>?_,hR,DefOk.nil,Ev.refl (C:=⟨A,w,A,M,0,fun _=>False⟩)⟩ ?_
 . rw [cNt];have:=O.1;simp [cT0] at this |-;omega
 . have hl:vs.length=2:=O.1;rw [cNt];show Rel w A M _ ((cT0 fa fb).getD t .top);unfold cT0;by_cases J:t<2
   . have e1:(vs.toArray++Array.replicate (62 - vs.toArray.size) undef).getD t undef=vs.getD t undef:=by
      have:t<vs.length:=by omega
      simp [z7,Array.getElem?_append,this]
     rw [e1,xpm J];exact O.2 t J
   . have ht:t<62:=by
      have h0:(cT0 fa fb).length=62:=by rfl
      rw [<-h0];exact ht
     have h1:¬ t<vs.length:=by omega
     have e1:(vs.toArray++Array.replicate (62 - vs.toArray.size) undef).getD t undef=undef:=by
      have h2:t - vs.length<62 - vs.length:=by omega
      simp [Array.getElem?_append,h1,h2]
     rw [e1,xpn J (show t - 2<60 by omega)]
     exact .tuple #[] [] rfl (by simp)
 . intro a' w' A' M' W;show LeavesInM Fence.wide 0 Tryz.prog Tryz.f75 a'.tmps _ a'.defers .returning w';refine xmv (fun _ h=>h) W fun w2 q=>?_
   obtain ⟨v,hv,V⟩:=xlt (P:=Tryz.prog) q (cRes _);exact ⟨v,hv,v,A',M',rfl,q.base,q.outer,q.ev,q.heap,V⟩
def xtV:List AV->List Box->Option (Bool×AV×List Box):=omOf (xIQ (xI4 3 xIT) (xIQ (xI4 3 xIT) xIS)) xIR fun (xa,(xb,_)) _=>(wau xa xb,.own (.b 0) 0 0 0,[⟨0,2,mapTy 88,wad (colV xa xb),false,true⟩])
def xAm:OmOk Tryz.prog xIO 75 xtV:=xjK fun b c r H' h=>by
 obtain ⟨xa,xb,_⟩:=b;obtain ⟨h1,h2⟩:=Prod.mk.inj h;obtain ⟨rfl,rfl⟩:=Prod.mk.inj h2;exact xBU h1
def pGptr:Pat AV Nat:=⟨.gptr,fun v=>match v with
 | .gptr g=>some g
 | _=>none,fun a b h=>by
  split at h
  . simp only [z6] at h;rw [h]
  . simp at h⟩
noncomputable def EKCo:Env:=xti.E.withM 75 xtV
def xtj:xH6 Tryz.prog xIO EKCo:=xti.ok.withM xAm
noncomputable def cmL:Code:=(xIp (waz (rmOf Tryz.f42))).getD 0 .skip
def waf:Box:=⟨0,2,25,[.agg [.nils,.nils]],false,true⟩
def boxC (ms:List AV):Box:=⟨0,2,mapTy 88,ms,true,true⟩
def boxO (v:Nat) (xs:List AV):Box:=⟨v,3,54,xs,false,true⟩
def xqj {T:Type} (row lv:List AV) (c:Int) (v n:Nat) (i:Int) (xs:List AV) (δ:T) (κl κr:T):T:=br (decide (i<c)) (br (decide ((0:Int)<=i)&&decide (i<(↑lv.length:Int))) (br (decide (i.toNat<lv.length)&&((lv.getD i.toNat AV.top).cells.length==(2:Nat)&&xIb [Sh.int IntKind.i64,Sh.int IntKind.i64] (lv.getD i.toNat AV.top).cells (0:Nat))) (br (v==v&&(n==xs.length&&(decide ((n+(1:Nat))*(40:Nat)<=(140737488355328:Nat))&&decide (n+(1:Nat)<=(4611686018427387904:Nat))))) κl δ) δ) δ) κr
def xc3 (row lv:List AV) (c:Int):Nat×Nat×Int×List AV->Option ((Nat×Nat×Int×List AV)⊕(Nat×Nat×List AV)):=fun (v,n,i,xs) =>
 xqj row lv c v n i xs none (some (.inl (v+1,n+1,IntKind.i64.wrap (i+1),xs++[.agg [.list 3 row,.int .i64 ((lv.getD i.toNat AV.top).cells.getD 0 AV.top).toInt,.int .i64 ((lv.getD i.toNat AV.top).cells.getD 1 AV.top).toInt]]))) (some (.inr (v,n,xs)))
end Go.Sim.M
end
noncomputable section
set_option maxRecDepth 100000
namespace Go.Sim
open Go.RowKit
def Weak.trans {p:Nat} {s1 s2 s3:St} (h:Weak p s1 s2) (g:Weak p s2 s3):Weak p s1 s3:=fun w0 A0 w A M a hp hs=>by
 obtain ⟨A1,M1,h1⟩:=h w0 A0 w A M a hp hs;exact g w0 A0 w A1 M1 a hp h1
def xoU {p:Nat} {ts:List AV} {H:List Box} {t:Nat} {y:AV} (hy:resolve H xIq (ts.getD t .top)=some y):Weak p ⟨ts,H⟩ ⟨ts.set t y,freeze H (reach H xIq (ts.getD t .top))⟩:=fun w0 A0 w A M a hp hs=>by
 obtain ⟨A1,h1,_⟩:=hs.settle1 hy;exact ⟨A1,M,h1⟩
def xoB {p:Nat} (live:List Nat) (s:St):Weak p s (wag live s):=fun w0 A0 w A M a hp hs=>⟨A,M,hs.mask live⟩
def xB3 {P:Program} {ls:TypeId->Bool} {rs:List ResultVar} {e:Exit} {s:St} {r:AV} (h:endK P ls rs e s=some r):(e=.ret\/e=.normal)/\resultOf P rs s=some r:=by
 have q:∀ s,finK P ls rs s=some r->resultOf P rs s=some r:=fun s h=>by
  unfold finK at h;split at h
  case h_2=>simp at h
  rename_i b xs hx;obtain ⟨rfl,h⟩:=xb8 (good:=fun t=>t=some r) (by simp) h
  rw [xbA] at h;unfold resultOf;rw [xnU hx];exact h
 cases e with
 | ret=>exact ⟨.inl rfl,q s h⟩
 | normal=>exact ⟨.inr rfl,q s h⟩
 | _=>simp [endK] at h
end Go.Sim
namespace Go.Sim.M
open Go.RowKit Go.Proofs
def wah:Code->Array Oper
 | .seq (.region _ ops _) _=>ops
 | _=>#[]
def waj:Code->Array Oper
 | .seq _ (.block _ (.loop (.seq (.region _ ops _) _)))=>ops
 | _=>#[]
def relV (ks fs:List AV):AV:=.agg [.list 1 ks,.list 3 fs]
noncomputable abbrev cmO (n:Nat):Array Oper:=opsOf (war (Tryz.f42.body.getD .skip) n)
def boxR (ks fs:List AV) (z:Bool):Box:=⟨0,2,25,[relV ks fs],z,true⟩
def perOk (q:AV):Bool:=q.cells.length==2&&xIb [Sh.int IntKind.i64,Sh.int IntKind.i64] q.cells (0:Nat)
def wa1 (row:List AV) (q:AV):AV:=.agg [.list 3 row,.int .i64 (q.cells.getD 0 .top).toInt,.int .i64 (q.cells.getD 1 .top).toInt]
def xw4 (row lv:List AV) (J:∀ i,i<lv.length->perOk (lv.getD i .top)=true):∀ (d i v:Nat) (xs:List AV),i+d=lv.length->xs.length+d<=1099511627776->lv.length<=1099511627776 ->
  Iter (xc3 row lv (lv.length:Nat)) (v,xs.length,(i:Int),xs)=some (v+d,xs.length+d,xs++(lv.drop i).map (wa1 row))
 | 0,i,v,xs,hi,hx,hl=>by
  have e:xc3 row lv (lv.length:Nat) (v,xs.length,(i:Int),xs)=some (.inr (v,xs.length,xs)):=by
   have h1:decide ((i:Int)<(lv.length:Nat))=false:=by simp;omega
   simp only [xc3,xqj,h1,br]
  rw [xaI e];simp [show i=lv.length by omega]
 | d+1,i,v,xs,hi,hx,hl=>by
  have q:i<lv.length:=by omega
  have hq:=J i q;unfold perOk at hq;have hw:IntKind.i64.wrap ((i:Int)+1)=((i+1:Nat):Int):=by rw [xba (by omega) (by omega)];omega
  have e:xc3 row lv (lv.length:Nat) (v,xs.length,(i:Int),xs)=some (.inl (v+1,(xs++[wa1 row (lv.getD i .top)]).length,((i+1:Nat):Int),xs++[wa1 row (lv.getD i .top)])):=by
   have h1:decide ((i:Int)<(lv.length:Nat))=true:=by simp;omega
   have h2:(decide ((0:Int)<=i)&&decide ((i:Int)<(lv.length:Nat)))=true:=by simp;omega
   have h3:(decide (i<lv.length)&&((lv.getD i AV.top).cells.length==(2:Nat)&&xIb [Sh.int IntKind.i64,Sh.int IntKind.i64] (lv.getD i AV.top).cells (0:Nat)))=true:=by rw [hq];simp [q]
   have h4:(v==v&&(xs.length==xs.length&&(decide ((xs.length+(1:Nat))*(40:Nat)<=(140737488355328:Nat))&&decide (xs.length+(1:Nat)<=(4611686018427387904:Nat)))))=true:=by
    simp only [beq_self_eq_true,Bool.true_and,zf,zl];omega
   simp only [xc3,xqj,zN,h1,h2,h3,h4,br,hw];simp [wa1]
  rw [xaT e,xw4 row lv J d (i+1) (v+1) (xs++[wa1 row (lv.getD i .top)]) (by omega) (by simp;omega) hl]
  have e2:lv.drop i=lv.getD i .top::lv.drop (i+1):=by
   rw [List.drop_eq_getElem_cons q];simp [z7,q]
  rw [e2];simp;omega
def stepF (fk:Nat->List AV) (s:Nat×List AV) (k:Nat):(Nat×List AV)⊕Unit:=.inl (s.1+(fk k).length,s.2++fk k)
def xvv (fk:Nat->List AV):∀ (ord:List Nat) (v:Nat) (xs:List AV),∃ v',ord.foldl (waw (stepF fk)) (.inl (v,xs))=.inl (v',xs++ord.flatMap fk)
 | [],v,xs=>⟨v,by simp⟩
 | k::ord,v,xs=>by
  obtain ⟨v',h⟩:=xvv fk ord (v+(fk k).length) (xs++fk k);refine ⟨v',?_⟩;rw [List.foldl_cons];show ord.foldl (waw (stepF fk)) (Sum.inl (v+(fk k).length,xs++fk k))=_;rw [h];simp
def xtv {fk:Nat->List AV} {done:List Nat} {n:Nat} (h1:done.Nodup) (h2:∀ i,i∈done->i<n):(done.flatMap fk).length<=((List.range n).flatMap fk).length:=by
 obtain ⟨l',q⟩:=xuk h1 h2;have:=(q.flatMap_right fk).length_eq;rw [List.flatMap_append,z8] at this;omega
def xuR {fk:Nat->List AV} {done:List Nat} {k n:Nat} (h1:done.Nodup) (h2:∀ i,i∈done->i<n) (h3:k∉done) (h4:k<n):(done.flatMap fk).length+(fk k).length<=((List.range n).flatMap fk).length:=by
 have:=xtv (fk:=fk) (done:=done++[k]) (n:=n) (by
  rw [List.nodup_append];exact ⟨h1,by simp,fun a ha b hb=>by simp at hb;subst hb;exact fun e=>h3 (e▸ha)⟩) (fun i hi=>by
  rcases zG.1 hi with h|h
  . exact h2 i h
  . simp at h;omega)
 simpa using this
def lvOf (op:List AV->List AV->Option (List AV)) (p:PE):List AV:=(xa2 ((op ((xaL p.2.2.1).getD []) ((xaL p.2.2.2).getD [])).getD [])).getD []
def lvOk (op:List AV->List AV->Option (List AV)) (p:PE):Bool:=(xaL p.2.2.1).isSome&&((xaL p.2.2.2).isSome&&((op ((xaL p.2.2.1).getD []) ((xaL p.2.2.2).getD [])).isSome&&((xa2 ((op ((xaL p.2.2.1).getD []) ((xaL p.2.2.2).getD [])).getD [])).isSome &&
 (List.range (lvOf op p).length).all fun i=>perOk ((lvOf op p).getD i .top))))
def fkOf (op:List AV->List AV->Option (List AV)) (ps:List PE) (k:Nat):List AV:=(lvOf op (ps.getD k defP)).map (wa1 (ps.getD k defP).2.1)
def wal (op:List AV->List AV->Option (List AV)) (ps:List PE):List AV:=(List.range ps.length).flatMap (fkOf op ps)
open Classical in
def wa2 (op:List AV->List AV->Option (List AV)) (fa fb:List AV):Bool:=wau fa fb&&((List.range (colV fa fb).length).all (fun k=>lvOk op ((colV fa fb).getD k defP))&&(decide ((wal op (colV fa fb)).length<=1099511627776) &&
 (decide (∀ ord:List Nat,ord.Perm (List.range (colV fa fb).length)->xcd (ord.flatMap (fkOf op (colV fa fb)))=xcd (wal op (colV fa fb)))&&(xcd (wal op (colV fa fb))).isSome)))
def cmbV (op:List AV->List AV->Option (List AV)) (fa fb:List AV):Option (List AV):=match wa2 op fa fb with
 | true=>xcd (wal op (colV fa fb))
 | false=>none
def xAi {op:List AV->List AV->Option (List AV)} {fa fb:List AV} (h:(cmbV op fa fb).isSome=true):wa2 op fa fb=true/\cmbV op fa fb=xcd (wal op (colV fa fb)):=by
 unfold cmbV at h |-;cases hc:wa2 op fa fb with
 | true=>exact ⟨rfl,rfl⟩
 | false=>rw [hc] at h;simp at h
end Go.Sim.M
end
noncomputable section
set_option maxRecDepth 100000
namespace Go.Sim.M
open Go.RowKit Go.Proofs
variable (g : FuncId)
noncomputable abbrev xy2:Env:=EKCo.fn 57 3 (lsOf [54]) (xIs [])
def xE5:xH6 Tryz.prog (xIO.at 3) xy2:=xtj.fn
def xE1:LoOk Tryz.prog (xIO.at 3) xy2 cmL:=xhX (by kernel_rfl)
def xqi (ra row ea eb lv ms:List AV) (r:Nat) (c:Int):Nat×Nat×Int×List AV->List AV×List Box:=fun (v,n,i,xs)=>([.func g [],.eptr 2 ra 0 0,.own 0 0 0 0,.osl 1 v 0 n,.eptr 3 [.agg [.list 3 row,.list 3 ea,.list 3 eb]] 0 0,.gptr r,.list 2 lv,.int .i64 c,.int .i64 i],[⟨0,2,25,[.agg [.nils,.nils]],false,true⟩,⟨v,3,54,xs,false,true⟩,⟨0,2,mapTy 88,ms,true,true⟩])
def xoX (ra ms:List AV) (r:Nat):Nat×Nat×List AV->LR:=fun p=>.leaf (.exit 2) [.func g [],.eptr 2 ra 0 0,.own 0 0 0 0,.osl 1 p.1 0 p.2.1,.gptr r] [⟨0,2,25,[.agg [.nils,.nils]],false,true⟩,⟨p.1,3,54,p.2.2,false,true⟩,⟨0,2,mapTy 88,ms,true,true⟩]
abbrev xEN (vals:List AV) (H:List Box):=XR Tryz.prog xy2 [2,3,6,7,9,17,34,35,36] [2,3,6,7,17] [(7,3,54)] cmL vals H
def xGO (ra row ea eb lv ms:List AV) (r:Nat) (c:Int) (s:Nat×Nat×Int×List AV):Enc (encR ((xqi g) ra row ea eb lv ms r c) ((xoX g) ra ms r)) (xc3 row lv c s) (xEN ((xqi g) ra row ea eb lv ms r c s).1 ((xqi g) ra row ea eb lv ms r c s).2):=by
 obtain ⟨v,n,i,xs⟩:=s;have h:xEN ((xqi g) ra row ea eb lv ms r c (v,n,i,xs)).1 ((xqi g) ra row ea eb lv ms r c (v,n,i,xs)).2=xqj row lv c v n i xs none (some (encR ((xqi g) ra row ea eb lv ms r c) ((xoX g) ra ms r) (.inl (v+1,n+1,IntKind.i64.wrap (i+1),xs++[.agg [.list 3 row,.int .i64 ((lv.getD i.toNat AV.top).cells.getD 0 AV.top).toInt,.int .i64 ((lv.getD i.toNat AV.top).cells.getD 1 AV.top).toInt]])))) (some (encR ((xqi g) ra row ea eb lv ms r c) ((xoX g) ra ms r) (.inr (v,n,xs)))):=by kernel_rfl
 rw [h];unfold xc3 xqj;repeat' (first|refine Enc.br ?_ ?_|exact Enc.none|exact Enc.some rfl)
noncomputable def xy5:Lp:=lpOf [2,3,6,7,9,17,34,35,36] [2,3,6,7,17] [(7,3,54)] (xIP (xIt g xIR) (xIP (pEptr 2 0 0 xIT) (xIP (xI1 0 0 0 0) (xIP (pOslV 1 0) (xIP (pEptr 3 0 0 (xIP (xI2 (xIP (xI6 3 xIT) (xIP (xI6 3 xIT) (xIP (xI6 3 xIT) xIR)))) xIR)) (xIP pGptr (xIP (xI6 2 xIT) (xIP (pInt .i64) (xIP (pInt .i64) xIR)))))))))
 (xIP (xI3 0 2 25 false true (xIP (xI2 (xIP pNils (xIP pNils xIR))) xIR)) (xIP (pBoxV 3 54 false true xIT) (xIP (xI3 0 2 (mapTy 88) true true xIT) xIR)))
 fun (_,(ra,(_,((v,n),((((row,(ea,(eb,_))),_)),(r,(lv,(c,(i,_))))))))) (_,((v',xs),(ms,_)))=>(Nat.beq v v'&&(Iter (xc3 row lv c) (v,n,i,xs)).isSome,(xoX g) ra ms r ((Iter (xc3 row lv c) (v,n,i,xs)).getD (0,0,[])))
def xE4:LoopOk Tryz.prog (xIO.at 3) 57 cmL (xy5 g):=xAX fun vv bb rr hh=>by
 obtain ⟨_,⟨ra,⟨_,⟨⟨v,n⟩,⟨⟨⟨row,⟨ea,⟨eb,_⟩⟩⟩,_⟩,⟨r,⟨lv,⟨c,⟨i,_⟩⟩⟩⟩⟩⟩⟩⟩⟩:=vv;obtain ⟨_,⟨⟨v',xs⟩,⟨ms,_⟩⟩⟩:=bb;obtain ⟨q,rfl⟩:=Prod.mk.inj hh;rw [zf] at q;obtain ⟨hv,q⟩:=q;have hv:=zg hv;subst hv;exact xsH xIf (xIg Tryz.prog _) rfl xE5 xE1 ((xqi g) ra row ea eb lv ms r c) ((xoX g) ra ms r) (fun p=>by simp only [xoX,LR.eval];simp) ((xGO g) ra row ea eb lv ms r c) (s:=(v,n,i,xs)) (xeI q)
end Go.Sim.M
end
noncomputable section
set_option maxRecDepth 100000
namespace Go.Sim.M
open Go.RowKit Go.Proofs
variable (g : FuncId)
noncomputable abbrev xuZ:Env:=EKCo.fn 57 3 (lsOf [54]) (xIs [(6,(xy5 g))])
def xE6:xH6 Tryz.prog (xIO.at 3) (xuZ g):=xtj.fn
noncomputable abbrev xnc:Env:=EKCo.fn 57 0 (lsOf [54]) (xIs [])
def xvh:xH6 Tryz.prog (xIO.at 0) xnc:=xtj.fn
def xE2:LoOk Tryz.prog (xIO.at 3) (xuZ g) (waz (rmOf Tryz.f42)):=xkw (ls:=[cmL]) (by kernel_rfl) (fun l hl lp hs=>by
 simp only [zC,List.not_mem_nil,or_false] at hl;rcases hl with rfl;rw [show (xuZ g).lp (xIk cmL)=some (xy5 g) by kernel_rfl] at hs
 cases hs;exact (xE4 g))
def xog (ra:List AV) (v n r:Nat):List AV:=mkTs 57 [(2,.func g []),(3,.eptr 2 ra 0 0),(6,.own 0 0 0 0),(7,.osl 1 v 0 n),(17,.gptr r)]
def CmX (g:FuncId) (o:List AV->List AV->Option (List AV)):Prop:=∀ (ra row ea eb ms xs:List AV) (s:List UInt8) (v n r:Nat),XM Tryz.prog (xuZ g) (wai (rmOf Tryz.f42)) (waz (rmOf Tryz.f42)) [2,3,6,7,17] (stepT ((xog g) ra v n r) 18 19 20 s (entV row ea eb)) [waf,boxO v xs,boxC ms] =
 br (xaL ea).isSome (br (xaL eb).isSome (br (o ((xaL ea).getD []) ((xaL eb).getD [])).isSome (br (xa2 ((o ((xaL ea).getD []) ((xaL eb).getD [])).getD [])).isSome (br (v.beq v&&(Iter (xc3 row ((xa2 ((o ((xaL ea).getD []) ((xaL eb).getD [])).getD [])).getD []) (↑((xa2 ((o ((xaL ea).getD []) ((xaL eb).getD [])).getD [])).getD []).length:Int)) (v,n,(0:Int),xs)).isSome)
  (some (Exit.normal,[AV.func g [],AV.eptr 2 ra 0 0,AV.own 0 0 0 0,AV.osl 1 ((Iter (xc3 row ((xa2 ((o ((xaL ea).getD []) ((xaL eb).getD [])).getD [])).getD []) (↑((xa2 ((o ((xaL ea).getD []) ((xaL eb).getD [])).getD [])).getD []).length:Int)) (v,n,(0:Int),xs)).getD ((0:Nat),(0:Nat),[])).fst 0 ((Iter (xc3 row ((xa2 ((o ((xaL ea).getD []) ((xaL eb).getD [])).getD [])).getD []) (↑((xa2 ((o ((xaL ea).getD []) ((xaL eb).getD [])).getD [])).getD []).length:Int)) (v,n,(0:Int),xs)).getD ((0:Nat),(0:Nat),[])).snd.fst,AV.gptr r],
   [waf,boxO ((Iter (xc3 row ((xa2 ((o ((xaL ea).getD []) ((xaL eb).getD [])).getD [])).getD []) (↑((xa2 ((o ((xaL ea).getD []) ((xaL eb).getD [])).getD [])).getD []).length:Int)) (v,n,(0:Int),xs)).getD ((0:Nat),(0:Nat),[])).fst ((Iter (xc3 row ((xa2 ((o ((xaL ea).getD []) ((xaL eb).getD [])).getD [])).getD []) (↑((xa2 ((o ((xaL ea).getD []) ((xaL eb).getD [])).getD [])).getD []).length:Int)) (v,n,(0:Int),xs)).getD ((0:Nat),(0:Nat),[])).snd.snd,boxC ms])) none) none) none) none) none
def xvg (ka fa kb fb:List AV):List AV:=mkTs 57 [(2,.func g []),(3,.eptr 2 [relV ka fa] 0 0),(4,.eptr 2 [relV kb fb] 0 0),(6,.own 0 0 0 0),(7,.osl 1 0 0 0)]
def xsm (ka fa kb fb:List AV):List AV:=(((((xvg g) ka fa kb fb).set 12 (.eptr 2 [relV ka fa] 0 1)).set 13 (.list 3 fa)).set 14 (.eptr 2 [relV kb fb] 0 1)).set 15 (.list 3 fb)
def xE7 (ka fa kb fb:List AV):xOps Tryz.prog xnc none (some true) (wah (rmOf Tryz.f42)) (wah (rmOf Tryz.f42)).toList.dropLast ⟨(xvg g) ka fa kb fb,[waf,boxO 0 []]⟩ some =
 br (wau fa fb) (some ⟨((xsm g) ka fa kb fb).set 16 (.own 2 0 0 0),[waf,boxO 0 [],mapB (wad (colV fa fb))]⟩) none:=by kernel_rfl
def xDi:Tryz.f42.body.getD .skip=.seq (.region 0 (cmO 0) false) (.seq (.region 1 (cmO 1) false) (.seq (rmOf Tryz.f42) (.seq (.region 10 (cmO 10) false) .ret))):=by kernel_rfl
def xE8:rmOf Tryz.f42=wa3 2 (wah (rmOf Tryz.f42)) 0 3 (waj (rmOf Tryz.f42)) 19 1 4 (wai (rmOf Tryz.f42)) (waz (rmOf Tryz.f42)):=by kernel_rfl
def xy3 (ka fa kb fb:List AV):List AV:=[relV ka fa,relV kb fb,.func g []]++List.replicate 54 (.tuple [])
def xmb (ka fa kb fb:List AV):List AV:=((((xy3 g) ka fa kb fb).set 3 (.own 0 0 0 0)).set 4 (.own 1 0 0 0)).set 6 (.own 2 0 0 0)
def xGi (ka fa kb fb:List AV):xOps Tryz.prog xnc none (some true) (cmO 0) (cmO 0).toList ⟨(xy3 g) ka fa kb fb,[]⟩ some=some ⟨(xmb g) ka fa kb fb,[boxR ka fa false,boxR kb fb false,waf]⟩:=by kernel_rfl
def xGj (ka fa kb fb:List AV):xOps Tryz.prog xnc none (some true) (cmO 1) (cmO 1).toList ⟨(xmb g) ka fa kb fb,[boxR ka fa false,boxR kb fb false,waf]⟩ some=some ⟨((xmb g) ka fa kb fb).set 7 .nils,[boxR ka fa false,boxR kb fb false,waf]⟩:=by kernel_rfl
def xGe:noDefer (cmO 0)=true:=by kernel_rfl
def xGf:noDefer (cmO 1)=true:=by kernel_rfl
def xGl (ka fa kb fb:List AV):resolve [boxR ka fa false,boxR kb fb false,waf] xIq ((((xmb g) ka fa kb fb).set 7 .nils).getD 3 .top)=some (.eptr 2 [relV ka fa] 0 0):=by kernel_rfl
def xF7 (ka fa kb fb:List AV):freeze [boxR ka fa false,boxR kb fb false,waf] (reach [boxR ka fa false,boxR kb fb false,waf] xIq ((((xmb g) ka fa kb fb).set 7 .nils).getD 3 .top))=[boxR ka fa true,boxR kb fb false,waf]:=by kernel_rfl
def xGm (ka fa kb fb:List AV):resolve [boxR ka fa true,boxR kb fb false,waf] xIq (((((xmb g) ka fa kb fb).set 7 .nils).set 3 (.eptr 2 [relV ka fa] 0 0)).getD 4 .top)=some (.eptr 2 [relV kb fb] 0 0):=by kernel_rfl
def xF8 (ka fa kb fb:List AV):freeze [boxR ka fa true,boxR kb fb false,waf] (reach [boxR ka fa true,boxR kb fb false,waf] xIq (((((xmb g) ka fa kb fb).set 7 .nils).set 3 (.eptr 2 [relV ka fa] 0 0)).getD 4 .top))=[boxR ka fa true,boxR kb fb true,waf]:=by kernel_rfl
def xGh (ka fa kb fb:List AV):normS 0 [(7,3,54)] [2,3,4,6,7] ⟨((((xmb g) ka fa kb fb).set 7 .nils).set 3 (.eptr 2 [relV ka fa] 0 0)).set 4 (.eptr 2 [relV kb fb] 0 0),[boxR ka fa true,boxR kb fb true,waf]⟩=some ([.func g [],.eptr 2 [relV ka fa] 0 0,.eptr 2 [relV kb fb] 0 0,.own 0 0 0 0,.osl 1 0 0 0],[waf,boxO 0 []]):=by kernel_rfl
def xGd (ka fa kb fb:List AV):mkTs (((((xmb g) ka fa kb fb).set 7 .nils).set 3 (.eptr 2 [relV ka fa] 0 0)).set 4 (.eptr 2 [relV kb fb] 0 0)).length ([2,3,4,6,7].zip [.func g [],.eptr 2 [relV ka fa] 0 0,.eptr 2 [relV kb fb] 0 0,.own 0 0 0 0,.osl 1 0 0 0])=(xvg g) ka fa kb fb:=by kernel_rfl
def xGk (ka fa kb fb:List AV):Weak 0 ⟨((xmb g) ka fa kb fb).set 7 .nils,[boxR ka fa false,boxR kb fb false,waf]⟩ ⟨(xvg g) ka fa kb fb,[waf,boxO 0 []]⟩:=by
 have h1:=xoU (p:=0) ((xGl g) ka fa kb fb);rw [(xF7 g)] at h1;have h2:=xoU (p:=0) ((xGm g) ka fa kb fb);rw [(xF8 g)] at h2;have h3:=xgv ((xGh g) ka fa kb fb);rw [(xGd g)] at h3;exact (h1.trans h2).trans h3
def xEO (ra:List AV) (v n:Nat):List AV:=mkTs 57 [(3,.eptr 2 ra 0 0),(6,.own 0 0 0 0),(7,.osl 1 v 0 n)]
def xGb (ra:List AV) (v n r:Nat) (H:List Box):wag [3,6,7] ⟨(((xog g) ra v n r).set 18 (.tuple [.bool false])).set 19 (.bool false),H⟩=⟨xEO ra v n,H⟩:=by kernel_rfl
def xEP (ka fa xs ms:List AV) (v n:Nat):X Tryz.prog xnc none (.seq (.region 10 (cmO 10) false) .ret) ⟨xEO [relV ka fa] v n,[waf,boxO v xs,boxC ms]⟩ (endK Tryz.prog xnc.ls Tryz.f42.results.toList) =
 br (decide (((0:Nat)+ka.length)*(8:Nat)<=(140737488355328:Nat))&&decide ((0:Nat)+ka.length<=(4611686018427387904:Nat))) (br (v==v&&decide ((0:Nat)+n<=xs.length)&&true) (br (xcd (List.take n (List.drop (0:Nat) xs))).isSome (br (decide ((0:Nat)+((0:Nat)+ka.length)<=([]++ka).length)&&true&&true) (some (AV.agg [AV.list (1:Nat) (List.take ((0:Nat)+ka.length) (List.drop (0:Nat) ([]++ka))),AV.list (3:Nat) ((xcd (List.take n (List.drop (0:Nat) xs))).getD [])])) none) none) none) none:=by kernel_rfl
def xE3:LoOk Tryz.prog (xIO.at 0) xnc (.seq (.region 10 (cmO 10) false) .ret):=xhX (by kernel_rfl)
def xBM:(wah (rmOf Tryz.f42)).toList=(wah (rmOf Tryz.f42)).toList.dropLast++[(wah (rmOf Tryz.f42)).toList.getLastD default]:=by kernel_rfl
def xDl:noDefer (wah (rmOf Tryz.f42))=true:=by kernel_rfl
def xEx:((wah (rmOf Tryz.f42)).toList.getLastD default).op=.range 88 (.tmp 16):=by kernel_rfl
def xES:((wah (rmOf Tryz.f42)).toList.getLastD default).dst=some 17:=by kernel_rfl
def xEW:((wah (rmOf Tryz.f42)).toList.getLastD default).guard=none:=by kernel_rfl
def xBK:(waj (rmOf Tryz.f42)).toList=[(waj (rmOf Tryz.f42)).toList.getD 0 default,(waj (rmOf Tryz.f42)).toList.getD 1 default]:=by kernel_rfl
def xDj:noDefer (waj (rmOf Tryz.f42))=true:=by kernel_rfl
def xEY:((waj (rmOf Tryz.f42)).toList.getD 0 default).op=.next (.tmp 17) false:=by kernel_rfl
def xEQ:((waj (rmOf Tryz.f42)).toList.getD 0 default).dst=some 18:=by kernel_rfl
def xEU:((waj (rmOf Tryz.f42)).toList.getD 0 default).guard=none:=by kernel_rfl
def xEZ:((waj (rmOf Tryz.f42)).toList.getD 1 default).op=.extract (.tmp 18) 0:=by kernel_rfl
def xER:((waj (rmOf Tryz.f42)).toList.getD 1 default).dst=some 19:=by kernel_rfl
def xEV:((waj (rmOf Tryz.f42)).toList.getD 1 default).guard=none:=by kernel_rfl
def xBL:(wai (rmOf Tryz.f42)).toList=((wai (rmOf Tryz.f42)).toList.getD 0 default)::(wai (rmOf Tryz.f42)).toList.drop 1:=by kernel_rfl
def xDk:noDefer (wai (rmOf Tryz.f42))=true:=by kernel_rfl
def xE0:((wai (rmOf Tryz.f42)).toList.getD 0 default).op=.entry (.tmp 17):=by kernel_rfl
def xET:((wai (rmOf Tryz.f42)).toList.getD 0 default).dst=some 20:=by kernel_rfl
def xEX:((wai (rmOf Tryz.f42)).toList.getD 0 default).guard=none:=by kernel_rfl
def xF9 (ka fa kb fb:List AV) (H:List Box):St.eval ⟨((xsm g) ka fa kb fb).set 16 (.own 2 0 0 0),H⟩ (.tmp 16)=.own (.b 2) 0 0 0:=by kernel_rfl
def xy4 (ms:List AV):freeze [waf,boxO 0 [],mapB ms] [2]=[waf,boxO 0 [],boxC ms]:=by kernel_rfl
def xGg (ka fa kb fb ms:List AV) (r:Nat):normS 3 [] [2,3,6,7,17] ⟨(((xsm g) ka fa kb fb).set 16 (.own 2 0 0 0)).set 17 (.gptr r),[waf,boxO 0 [],boxC ms]⟩=some ([.func g [],.eptr 2 [relV ka fa] 0 0,.own 0 0 0 0,.osl 1 0 0 0,.gptr r],[waf,boxO 0 [],boxC ms]):=by kernel_rfl
def xGc (ka fa kb fb:List AV) (r:Nat):mkTs ((((xsm g) ka fa kb fb).set 16 (.own 2 0 0 0)).set 17 (.gptr r)).length ([2,3,6,7,17].zip [.func g [],.eptr 2 [relV ka fa] 0 0,.own 0 0 0 0,.osl 1 0 0 0,.gptr r])=(xog g) [relV ka fa] 0 0 r:=by kernel_rfl
def xGa (ra:List AV) (v n r:Nat):((xog g) ra v n r)[17]?=some (.gptr r):=by kernel_rfl
def xAh (ra:List AV) (v n r:Nat):((xog g) ra v n r).length=57:=by kernel_rfl
end Go.Sim.M
end
noncomputable section
set_option maxRecDepth 100000
namespace Go.Sim.M
open Go.RowKit Go.Proofs
variable (g : FuncId)
def xDg (ka fa kb fb:List AV):([relV ka fa,relV kb fb,.func g []]:List AV)++List.replicate (Tryz.f42.ntmps - ([relV ka fa,relV kb fb,.func g []]:List AV).length) (.tuple [])=(xy3 g) ka fa kb fb:=by kernel_rfl
def xDh:Tryz.f42.body=some (Tryz.f42.body.getD .skip):=by kernel_rfl
def xGN (ka fa kb fb:List AV) (h:wau fa fb=true):Path (OpA Tryz.prog (xIO.at 0)) (wah (rmOf Tryz.f42)) (wah (rmOf Tryz.f42)).toList.dropLast ⟨(xvg g) ka fa kb fb,[waf,boxO 0 []]⟩ ⟨((xsm g) ka fa kb fb).set 16 (.own 2 0 0 0),[waf,boxO 0 [],mapB (wad (colV fa fb))]⟩:=by
 have h1:=(xE7 g) ka fa kb fb;rw [h] at h1;obtain ⟨s1,h2,h3⟩:=xcF xvh (K:=some) h1;cases h3;exact h2
def xw5 {ops:Array Oper} {l:List Oper} {s s':St} (h:xOps Tryz.prog xnc none (some true) ops l s some=some s'):Path (OpA Tryz.prog (xIO.at 0)) ops l s s':=by
 obtain ⟨s1,h2,h3⟩:=xcF xvh h;cases h3;exact h2
def xBN {o:List AV->List AV->Option (List AV)} (Q:CmX g o) {ra:List AV} {ps:List PE} (V:∀ k,k<ps.length->lvOk o (ps.getD k defP)=true) {s:Nat×List AV} {k r:Nat} (hk:k<ps.length) (hl:s.2.length+(fkOf o ps k).length<=1099511627776) :
  ∃ s2,Path (OpA Tryz.prog (xIO.at 3)) (wai (rmOf Tryz.f42)) ((wai (rmOf Tryz.f42)).toList.drop 1) ⟨stepT ((xog g) ra s.1 s.2.length r) 18 19 20 (wam (boxC (wad ps)) k) (wao 2 (boxC (wad ps)) k),[waf,boxO s.1 s.2,boxC (wad ps)]⟩ s2 /\
   Does Tryz.prog (xIO.at 3) (waz (rmOf Tryz.f42)) (fun e s'=>e=.normal/\Weak 3 s' ⟨(xog g) ra (s.1+(fkOf o ps k).length) (s.2++fkOf o ps k).length r,[waf,boxO (s.1+(fkOf o ps k).length) (s.2++fkOf o ps k),boxC (wad ps)]⟩) s2:=by
 have J:wao 2 (boxC (wad ps)) k=entV (ps.getD k defP).2.1 (ps.getD k defP).2.2.1 (ps.getD k defP).2.2.2:=by
  have e:(wad ps).getD k .top=outE (ps.getD k defP):=by simp [wad,z7,hk]
  have e2:(boxC (wad ps)).xs=wad ps:=rfl;have e3:xH7 (boxC (wad ps)).ty 1=false:=xtt;unfold wao xIu;rw [e3,e2,e];rfl
 rw [J];have hv:=V k hk;unfold lvOk at hv;simp only [zf,zI,List.mem_range] at hv;obtain ⟨h1,h2,h3,h4,h5⟩:=hv;have q:(fkOf o ps k).length=(lvOf o (ps.getD k defP)).length:=by simp [fkOf]
 have hit:Iter (xc3 (ps.getD k defP).2.1 (lvOf o (ps.getD k defP)) (↑(lvOf o (ps.getD k defP)).length:Int)) (s.1,s.2.length,(0:Int),s.2)=some (s.1+(lvOf o (ps.getD k defP)).length,s.2.length+(lvOf o (ps.getD k defP)).length,s.2++((lvOf o (ps.getD k defP)).drop 0).map (wa1 (ps.getD k defP).2.1)) :=
  xw4 (ps.getD k defP).2.1 (lvOf o (ps.getD k defP)) h5 (lvOf o (ps.getD k defP)).length 0 s.1 s.2 (by omega) (by omega) (by omega)
 have hx:=Q ra (ps.getD k defP).2.1 (ps.getD k defP).2.2.1 (ps.getD k defP).2.2.2 (wad ps) s.2 (wam (boxC (wad ps)) k) s.1 s.2.length r;have O:s.1.beq s.1=true:=Nat.beq_refl _;rw [h1,h2,h3,h4] at hx;simp only [xaj,sUF] at hx;rw [show (xa2 ((o ((xaL (ps.getD k defP).2.2.1).getD []) ((xaL (ps.getD k defP).2.2.2).getD [])).getD [])).getD []=lvOf o (ps.getD k defP) from rfl,hit,O] at hx
 simp only [zk,Bool.and_self,xaj,zh,zr,sUF] at hx;obtain ⟨s2,g1,g2⟩:=xDq xIf (xIg Tryz.prog _) rfl (xE6 g) (xE2 g) hx;refine ⟨s2,g1,xcO g2 fun e s' ⟨he,hw⟩=>⟨he,?_⟩⟩
 rw [q];have hn:s.2.length+(lvOf o (ps.getD k defP)).length=(s.2++fkOf o ps k).length:=by rw [z8,q]
 rw [hn] at hw;exact hw
def xAn {o:List AV->List AV->Option (List AV)} (ae:CmX g o) {ka fa kb fb:List AV} (hk:ka.length<=1099511627776) (h:wa2 o fa fb=true):Good Tryz.prog xIO 42 [relV ka fa,relV kb fb,.func g []] (.agg [.list 1 ka,.list 3 ((xcd (wal o (colV fa fb))).getD [])]):=by
 unfold wa2 at h;simp only [zf,zI,List.mem_range,zl] at h;obtain ⟨ab,af,aa,Q,W⟩:=h;refine xnD (p:=0) (xyg (xIg Tryz.prog _) Tryz.func42 xDh (by kernel_rfl) ?_)
 rw [(xDg g),xDi];refine xgk (xpD (xIg Tryz.prog _) xGe (xw5 ((xGi g) ka fa kb fb)) ?_);refine xgk (xpD (xIg Tryz.prog _) xGf (xw5 ((xGj g) ka fa kb fb)) ?_);refine xhN ((xGk g) ka fa kb fb) (xgk ?_);rw [xE8];refine xcO (xww (Inv:=xIO.at 0) (xIg Tryz.prog _) (σ:=Nat×List AV) (ρ:=Unit) (pre:=(wah (rmOf Tryz.f42)).toList.dropLast) (exts:=(wai (rmOf Tryz.f42)).toList.drop 1) (o9:=(wah (rmOf Tryz.f42)).toList.getLastD default) (o0:=(waj (rmOf Tryz.f42)).toList.getD 0 default) (o1:=(waj (rmOf Tryz.f42)).toList.getD 1 default) (oe:=(wai (rmOf Tryz.f42)).toList.getD 0 default)
  (it:=17) (tn:=18) (tb:=19) (te:=20) (tyM:=88) (kt:=9) (et:=90) (mo:=.tmp 16)
  xBM xDl xEx xES xEW xB8 xBK xDj xEY xEQ xEU xEZ xER xEV xBL xDk xE0 xET xEX
  (by decide) (by decide) (by decide)
  ((xGN g) ka fa kb fb ab) (nb:=2) (ver:=0) (i:=0) (j:=0) ((xF9 g) ka fa kb fb _) (bx:=boxC (wad (colV fa fb))) (by rw [xy4];rfl) rfl xB7 xts rfl rfl rfl
  (n:=3) (by rw [xy4];exact zd 3) (fun s r=>(xog g) [relV ka fa] s.1 s.2.length r) (fun s=>[waf,boxO s.1 s.2,boxC (wad (colV fa fb))]) (fun _=>[]) (fun _=>[]) (stepF (fkOf o (colV fa fb))) (0,[])
  (fun s=>zd 3) (fun s r=>(xGa g) _ _ _ r) (fun s r=>by rw [(xAh g)];decide) (fun s r=>by rw [(xAh g)];decide)
  (fun r=>?_) ?_) fun e s' hq=>?_
 . have h:=xgv ((xGg g) ka fa kb fb (wad (colV fa fb)) r);rw [(xGc g)] at h;rw [xy4];exact h
 . intro r done s k O Y ac Z hf;have V:(boxC (wad (colV fa fb))).xs.length=(colV fa fb).length:=by
    show (wad (colV fa fb)).length=_;simp [wad]
   rw [V] at O Z;obtain ⟨v',J⟩:=xvv (fkOf o (colV fa fb)) done 0 [];rw [J] at hf;have hs:s=(v',[]++done.flatMap (fkOf o (colV fa fb))):=by
    injection hf with hf;exact hf.symm
   have hl:s.2.length+(fkOf o (colV fa fb) k).length<=1099511627776:=by
    rw [hs];have:=xuR (fk:=fkOf o (colV fa fb)) ac Z Y O;simp only [zU];exact Nat.le_trans this aa
   obtain ⟨s2,g1,g2⟩:=xBN g ae (ra:=[relV ka fa]) af (s:=s) (r:=r) O hl;exact ⟨s2,g1,g2⟩
 . obtain ⟨ord,q,hq⟩:=hq;have V:(boxC (wad (colV fa fb))).xs.length=(colV fa fb).length:=by
    show (wad (colV fa fb)).length=_;simp [wad]
   rw [V] at q;obtain ⟨v',J⟩:=xvv (fkOf o (colV fa fb)) ord 0 [];rw [J] at hq;obtain ⟨rfl,r,rfl⟩:=hq;show Does Tryz.prog (xIO.at 0) _ _ _;refine xhN (xoB [3,6,7] _) ?_;rw [(xGb g)];have ad:=Q ord q;have hx:=xEP ka fa ([]++ord.flatMap (fkOf o (colV fa fb))) (wad (colV fa fb)) v' ([]++ord.flatMap (fkOf o (colV fa fb))).length;have c1:(decide (((0:Nat)+ka.length)*(8:Nat)<=(140737488355328:Nat))&&decide ((0:Nat)+ka.length<=(4611686018427387904:Nat)))=true:=by
    simp only [zf,zl];omega
   have c2:∀ n:Nat,(v'==v'&&decide ((0:Nat)+n<=n)&&true)=true:=fun n=>by simp
   have c3:(decide ((0:Nat)+((0:Nat)+ka.length)<=([]++ka).length)&&true&&true)=true:=by simp
   rw [c1,c2,c3,zU,zr,y6,ad,W] at hx;simp only [xaj,zU,zr,zH,y6,sUF] at hx;have hd:=xeF (P:=Tryz.prog) (Inv:=xIO.at 0) (E:=xnc) (good:=fun z=>z=some (AV.agg [.list 1 ka,.list 3 ((xcd (wal o (colV fa fb))).getD [])])) (bad:=none) xIf (xIg Tryz.prog _) rfl (by simp) xvh _ _ _ xE3 hx
   refine xcO hd fun e s hq=>?_
   exact xB3 hq
end Go.Sim.M
end
noncomputable section
set_option maxRecDepth 100000
namespace Go.Sim.M
open Go.RowKit Go.Proofs
def cmxA:CmX 43 xmE:=fun ra row ea eb ms xs s v n r=>by kernel_rfl
def cmxM:CmX 53 xmG:=fun ra row ea eb ms xs s v n r=>by kernel_rfl
def cmxX:CmX 45 xhz:=fun ra row ea eb ms xs s v n r=>by kernel_rfl
def xpF (fa fb:List AV):Option (List AV):=cmbV xmE fa fb
def xpG (fa fb:List AV):Option (List AV):=cmbV xmG fa fb
def xpH (fa fb:List AV):Option (List AV):=cmbV xhz fa fb
def xsq (g:FuncId) (f:List AV->List AV->Option (List AV)):List AV->Option (Bool×AV):=ocOf (xIQ (xI5 (xIQ (xI4 1 xIT) (xIQ (xI4 3 xIT) xIS))) (xIQ (xI5 (xIQ (xI4 1 xIT) (xIQ (xI4 3 xIT) xIS))) (xIQ (sEq (xIt g xIR)) xIS))) fun ((ka,(fa,_)),((kb,(fb,_)),_))=>(decide (ka.length<=1099511627776)&&(f fa fb).isSome,.agg [.list 1 ka,.list 3 ((f fa fb).getD [])])
def xvo {g:FuncId} {o:List AV->List AV->Option (List AV)} (q:CmX g o):OcOk Tryz.prog xIO 42 (xsq g (cmbV o)):=xo2 fun vv rr hh=>by
 obtain ⟨⟨ka,fa,_⟩,⟨kb,fb,_⟩,_⟩:=vv;obtain ⟨h1,rfl⟩:=Prod.mk.inj hh;simp only [zf,zl] at h1;obtain ⟨h2,h3⟩:=xAi (op:=o) h1.2;have h:=xAn g q (ka:=ka) (kb:=kb) h1.1 h2;rw [<-h3] at h;exact h
noncomputable def EKSJ:Env:=(((xzY.E.withM 132 xmU).with 42 (xsq 43 xpF)).with 42 (xsq 53 xpG)).with 42 (xsq 45 xpH)
def xwZ:xH6 Tryz.prog xIO EKSJ:=(((xzY.ok.withM xuV).with (xvo cmxA)).with (xvo cmxM)).with (xvo cmxX)
def xC3:EO:=EO.mk EKSJ xwZ
abbrev En:=List UInt8×List AV
def waa (e:En):AV:=.agg [.str e.1,.list 2 e.2]
def was (s:List UInt8) (n:Int):AV:=.agg [.str s,.int .i64 n]
def ixE:List En->List UInt8->Option Nat
 | [],_=>none
 | e::es,s=>match e.1==s with
  | true=>some 0
  | false=>(ixE es s).map (·+1)
def xjc (s:List UInt8):∀ es:List En,mapIx (es.map waa) s=ixE es s
 | []=>rfl
 | e::es=>by
  rw [zV,mapIx,ixE,xjc s es];rfl
def xnH {s:List UInt8}:∀ {es:List En} {i:Nat},ixE es s=some i->i<es.length
 | [],i,h=>by simp [ixE] at h
 | e::es,i,h=>by
  rw [ixE] at h;split at h
  . cases h;simp
  . cases hm:ixE es s with
    | none=>rw [hm] at h;simp at h
    | some j =>
     rw [hm] at h;simp only [Option.map_some,z6] at h;have:=xnH hm;subst h;simp;omega
def xyk {s:List UInt8}:∀ {es:List En} {i:Nat},ixE es s=some i->(es.getD i default).1=s
 | [],i,h=>by simp [ixE] at h
 | e::es,i,h=>by
  rw [ixE] at h;split at h
  . rename_i he;cases h;simpa using he
  . cases hm:ixE es s with
    | none=>rw [hm] at h;simp at h
    | some j =>
     rw [hm] at h;simp only [Option.map_some,z6] at h;subst h;simpa using xyk hm
def addE:List En->List UInt8->AV->List En
 | [],s,p=>[(s,[p])]
 | e::es,s,p=>match e.1==s with
  | true=>(e.1,e.2++[p])::es
  | false=>e::addE es s p
def xqe {s:List UInt8} {p:AV}:∀ {es:List En},ixE es s=none->addE es s p=es++[(s,[p])]
 | [],_=>rfl
 | e::es,h=>by
  rw [ixE] at h;split at h
  . simp at h
  . rename_i he;cases hm:ixE es s with
    | some j=>rw [hm] at h;simp at h
    | none=>rw [addE,he,xqe hm];rfl
def xqf {s:List UInt8} {p:AV}:∀ {es:List En} {i:Nat},ixE es s=some i->addE es s p=es.set i (s,(es.getD i default).2++[p])
 | [],i,h=>by simp [ixE] at h
 | e::es,i,h=>by
  rw [ixE] at h;split at h
  . rename_i he;cases h;have e1:e.1=s:=by simpa using he
    rw [addE,he];simp [e1]
  . rename_i he;cases hm:ixE es s with
    | none=>rw [hm] at h;simp at h
    | some j =>
     rw [hm] at h;simp only [Option.map_some,z6] at h;subst h;rw [addE,he,xqf hm];simp
def wak:List En->List UInt8->List AV
 | [],_=>[]
 | e::es,s=>match e.1==s with
  | true=>e.2
  | false=>wak es s
def xsF {s:List UInt8}:∀ {es:List En},ixE es s=none->wak es s=[]
 | [],_=>rfl
 | e::es,h=>by
  rw [ixE] at h;split at h
  . simp at h
  . rename_i he;cases hm:ixE es s with
    | some j=>rw [hm] at h;simp at h
    | none=>rw [wak,he];exact xsF hm
def xsG {s:List UInt8}:∀ {es:List En} {i:Nat},ixE es s=some i->wak es s=(es.getD i default).2
 | [],i,h=>by simp [ixE] at h
 | e::es,i,h=>by
  rw [ixE] at h;split at h
  . rename_i he;cases h;rw [wak,he];rfl
  . rename_i he;cases hm:ixE es s with
    | none=>rw [hm] at h;simp at h
    | some j =>
     rw [hm] at h;simp only [Option.map_some,z6] at h;subst h;rw [wak,he];simpa using xsG hm
def xvI (s s':List UInt8) (p:AV):∀ es:List En,wak (addE es s p) s'=wak es s'++if s==s' then [p] else []
 | []=>by simp only [addE,wak];cases s==s'<;>simp
 | e::es=>by
  have ih:=xvI s s' p es;rw [addE];cases he:e.1==s with
  | true =>
   have e1:e.1=s:=by simpa using he
   dsimp only;rw [wak,wak,e1];cases h:s==s' with
   | true=>simp
   | false=>simp
  | false =>
   dsimp only;rw [wak,wak,ih];cases h:e.1==s' with
   | false=>rfl
   | true =>
    have e1:e.1=s':=by simpa using h
    have:(s==s')=false:=by
     rw [<-e1,Bool.eq_false_iff];intro hh;rw [show s=e.1 by simpa using hh] at he
     simp at he
    simp [this]
def xu9 (s:List UInt8) (p:AV):∀ es:List En,(addE es s p).length<=es.length+1
 | []=>by simp [addE]
 | e::es=>by
  have:=xu9 s p es;rw [addE];cases e.1==s<;>simp<;>omega
def xuc {α:Type} (k:α->List UInt8) (f:α->AV) (s:List UInt8):∀ (l:List α) (es:List En),wak (l.foldl (fun es x=>addE es (k x) (f x)) es) s=wak es s++(l.filter fun x=>k x==s).map f
 | [],es=>by simp
 | x::l,es=>by
  rw [List.foldl_cons,xuc k f s l,xvI,List.filter_cons];cases k x==s<;>simp
def cEn1 (e:En):(waa e).cells.getD 1 .top=.list 2 e.2:=rfl
def lEn (e:En):(waa e).cells.length=2:=rfl
def xsK (es:List En) (s:List UInt8):xIB (es.map waa) s=(ixE es s).isSome:=by unfold xIB;rw [xjc]
def xzo {es:List En} {s:List UInt8} {i:Nat} (h:ixE es s=some i):putIx (es.map waa) s=i:=by unfold putIx;rw [xjc,h]
def xqz {s:List UInt8} {n:Int}:∀ {es:List En} {i:Nat},ixE es s=some i->mapIx ((es.map waa).set i (was s n)) s=some i
 | [],i,h=>by simp [ixE] at h
 | e::es,i,h=>by
  rw [ixE] at h;split at h
  . cases h;simp [mapIx,was,AV.cells,isKey]
  . rename_i he;cases hm:ixE es s with
    | none=>rw [hm] at h;simp at h
    | some j =>
     rw [hm] at h;simp only [Option.map_some,z6] at h;subst h;rw [zV,List.set_cons_succ,mapIx,xqz hm];have:isKey s ((waa e).cells.getD 0 .top)=false:=he;rw [this];rfl
def xwH {es:List En} {s:List UInt8} {i:Nat} (h:ixE es s=some i) (n:Int) (p:AV):xIm ((es.map waa).set i (was s n)) s (.list 2 ((es.getD i default).2++[p]))=(addE es s p).map waa:=by
 unfold xIm;rw [xqz h,xqf h];dsimp only;rw [List.set_set,List.map_set];rfl
def xzl {es:List En} {s:List UInt8} (h:ixE es s=none) (p:AV):xIm (es.map waa) s (.list 2 [p])=(addE es s p).map waa:=by
 unfold xIm;rw [xjc,h,xqe h,zx];rfl
def xAs {es:List En} {s:List UInt8} {i:Nat} (h:ixE es s=some i) {n:Nat}:deadR ((es.map waa).set i (was s (n:Int))) s (n+1)=true:=by
 have hi:i<((es.map waa).set i (was s (n:Int))).length:=by rw [y4,za];exact xnH h
 unfold deadR;rw [xqz h];have:((es.map waa).set i (was s (n:Int))).getD i .top=was s (n:Int):=by
  rw [z7,zL (by simpa using hi)];rfl
 dsimp only;rw [this];show (match deadLen (AV.int .i64 (n:Int)) with|some l0=>decide (l0<n+1)|none=>false)=true
 simp [deadLen]
def xAr {es:List En} {s:List UInt8} (h:ixE es s=none) (n:Nat):deadR (es.map waa) s n=true:=by unfold deadR;rw [xjc,h]
end Go.Sim.M
end
noncomputable section
set_option maxRecDepth 100000
namespace Go.Sim.M
open Go.IntKind (i64 u64 u8)
open Go.RowKit Go.Proofs
noncomputable def xde:Env:=EKSJ.fn 36 0 (lsOf []) (xIs [])
def xp6:xH6 P0 (xIO.at 0) xde:=xwZ.fn
def xo7:LoOk P0 (xIO.at xde.pin) xde (Tryz.f99.body.getD .skip):=xkw (ls:=[xIa Tryz.f99 0,xIa Tryz.f99 1]) (by kernel_rfl) (fun l b lp a=>by
 simp only [zC,List.not_mem_nil,or_false] at b;rcases b with rfl|rfl
 . rw [show xde.lp (xIk (xIa Tryz.f99 0))=none by kernel_rfl] at a
   simp at a
 . rw [show xde.lp (xIk (xIa Tryz.f99 1))=none by kernel_rfl] at a
   simp at a)
def xh0 (a b:LA):=i64.wrap (i64.wrap (0+(↑a.length:Int))+(↑b.length:Int))
noncomputable def xf2 (a b:LA):Nat:=0+a.length+b.length
def xiL {T:Type} (a b:LA) (δ:T) (κ:LA->T):T:=br (decide (i64.wrap (0+(↑a.length:Int))<0)) δ (br (decide (xh0 a b<0)) δ (br (decide (0<=xh0 a b)&&decide (xh0 a b<=4398046511104)) (br (decide ((0+a.length)*32<=140737488355328)&&decide (0+a.length<=4611686018427387904)) (br (0+a.length==([]++a).length&&(decide (xf2 a b*32<=140737488355328)&&decide (xf2 a b<=4611686018427387904))) (br (decide (0+xf2 a b<=([]++a++b).length)&&true) (κ (List.take (xf2 a b) (List.drop 0 ([]++a++b)))) δ) δ) δ) δ))
def xew (a b:LA):=xiL a b none some
def xs1 (a b:LA):Enc (fun (p:LA)=>((AV.list 3 p):AV)) (xew a b) (XF P0 xde Tryz.f99 (Tryz.f99.body.getD .skip) [AV.list 1 [AV.list 3 a,AV.list 3 b]]):=by
 have h:XF P0 xde Tryz.f99 (Tryz.f99.body.getD .skip) [AV.list 1 [AV.list 3 a,AV.list 3 b]]=xiL a b none (fun (p:LA)=>some ((AV.list 3 p):AV)):=by kernel_rfl
 rw [h];unfold xew xiL;repeat' (first|refine Enc.br ?_ ?_|exact Enc.none|exact Enc.some rfl)
def xs0:LA->Option (Bool×AV):=ocOf (xIQ (xI4 1 (xIP (xI6 3 xIT) (xIP (xI6 3 xIT) xIR))) xIS) fun ((a,(b,_)),_)=>((xew a b).isSome,(AV.list 3 ((xew a b).getD [])))
def xsx:OcOk P0 xIO 99 (xs0):=xo2 fun f h g=>by
 obtain ⟨⟨a,⟨b,_⟩⟩,_⟩:=f;obtain ⟨c,e⟩:=Prod.mk.inj g;refine xnD (p:=xde.pin) (xq0 xIf (xIg P0 _) rfl xp6 Tryz.func99 rfl (by kernel_rfl) xo7 ((xs1 _ _ _ (xeI (d:=[]) c)).trans ?_))
 exact congrArg some e
def xEv:EO:=xC3.w xsx
def xl8 {T:Type} (a b:LA) (δ:T) (κ:LA->T):T:=br ((xew a b).isSome) (κ ((xew a b).getD [])) δ
def xjt (a b:LA):=xl8 a b none some
def xEw:EO:=xEv.f Tryz.func64 9 0 [] [] lk0 (u2 (uL 3) (uL 3)) (fun (a,b,_) _=>xl8 a b) (fun _ p=>AV.list 3 p) []
def xqn (a:LA):LA:=((a))
def xtr {T:Type} (a:LA) (δ:T) (κ:LA->T):T:=κ (a)
def xEy:EO:=xEw.fT Tryz.func58 4 0 [] [] lk0 (fun (a,_)=>xtr a none) (u1 (uL 3)) (fun (a,_)=>xqn a) (fun _ p=>(AV.list 3 p))
def xhq (a:LA) (n:Int):Int:=if (↑a.length:Int)<n then (↑a.length:Int) else n
def xmK {T:Type} (a:LA) (n:Int) (δ:T) (κ:LA->T):T:=br (decide (0<=xhq a n)&&decide (xhq a n<=a.length)&&true) (κ (List.take ((xhq a n).toNat - 0) (List.drop 0 a))) δ
def xgx (a:LA) (n:Int):=xmK a n none some
def xse:EO:=xEy.fM Tryz.func59 10 0 [] [] lk0 (u2 (uL 3) (sEq (xIt (1099511627776:FuncId) (q1 qI)))) xIR (fun (a,(n,_),_) _ _=>xmK a n) (fun _ _ p=>(AV.list 3 p,([]:List Box))) []
end Go.Sim.M
end
noncomputable section
set_option maxRecDepth 100000
namespace Go.Sim.M
open Go.RowKit Go.Proofs
noncomputable abbrev pB:Code:=Tryz.f60.body.getD .skip
noncomputable abbrev pO (n:Nat):Array Oper:=opsOf (war pB n)
noncomputable abbrev EPr:Env:=xse.E.fn 45 0 (lsOf []) (xIs [])
def orP:xH6 Tryz.prog (xIO.at 0) EPr:=xse.ok.fn
noncomputable def tyP:Nat:=1208926121356027683143680
def wab (ms:List AV):Box:=⟨0,2,tyP,ms,false,true⟩
def boxW (rows:List AV):Box:=⟨0,1,47,rows,false,true⟩
noncomputable def lpP:Code:=.seq (.region 4 (pO 4) false) (.seq (.cond (.tmp 16) .skip (.exit 0)) (.seq (.block 1 (.seq (.region 5 (pO 5) false) (.seq (.region 6 (pO 6) false) (.seq (.region 7 (pO 7) false) (.seq (.seq (.region 8 (pO 8) false) (.cond (.tmp 28) (.region 9 (pO 9) false) .skip)) (.region 10 (pO 10) false)))))) (.region 11 (pO 11) false)))
def xGI:pB=.seq (.region 0 (pO 0) false) (.seq (.region 1 (pO 1) false) (.seq (.region 2 (pO 2) false) (.seq (.seq (.region 3 (pO 3) false) (.block 0 (.loop lpP))) (.seq (.region 12 (pO 12) false) .ret)))):=by kernel_rfl
def perA (f:AV):AV:=.agg [.int .i64 (f.cells.getD 1 .top).toInt,.int .i64 (f.cells.getD 2 .top).toInt]
def xDu (w:World):(binOp .eql 64 (.slice none 0 0) (.slice none 0 0)).run Tryz.prog w=.ok (.bool true) w:=by rfl
def xB1 (a:Addr) (n c:Nat) (w:World):(binOp .eql 64 (.slice (some a) n c) (.slice none 0 0)).run Tryz.prog w=.ok (.bool false) w:=by rfl
def NilIs (s:St) (t:Tmp) (b:Bool):Prop:=(b=true/\s.eval (.tmp t)=.nils)\/(b=false/\∃ id len rb,s.eval (.tmp t)=.osl id rb.ver 0 len/\0<len/\getB s.heap id=some rb)
def xBl {id:Nat} {ops:Array Oper} {Q:Exit->St->Prop} {s s3:St} {n:Nat} {o:Oper} {t d:Tmp} {ty:TypeId} {b:Bool} (W:noDefer ops=true) (hl:ops.toList=ops.toList.take n++[o]) (hp:Path (OpA Tryz.prog (xIO.at 0)) ops (ops.toList.take n) s s3)
  (ho:o.op=.binOp .eql 64 (.tmp t) (.const (.slice none 0 0)) ty) (hg:o.guard=none) (hd:o.dst=some d) (hn:NilIs s3 t b) (h:Q .normal ⟨s3.tmps.set d (.bool b),s3.heap⟩):Does Tryz.prog (xIO.at 0) (.region id ops false) Q s:=by
 intro w0 A0 w A M a Qc hI Y hs hQ ro aa;refine wpIn_region_list (xd7 ro 0 _ (xcE W) _ _ ?_);rw [hl];refine xet (xIg Tryz.prog _) hI hp hs fun a1 w1 A1 M1 q _=>wpList_plain hg fun K hK=>?_
 have hv:=q.eval (.tmp t);have hc:a1.eval (.const (.slice none 0 0))=.slice none 0 0:=rfl;have J:SR w0 A0 w1 A1 M1 ⟨s3.tmps.set d (.bool b),s3.heap⟩ (a1.put (some d) (.bool b)):=q.put (d:=some d) q.base q.outer Mv.refl q.heap (Rel.bool (w:=w1) (A:=A1) (M:=M1) b);unfold Oper.wp;rcases hn with ⟨rfl,hx⟩|⟨rfl,id',len,rb,hx,Z,hb⟩
 . rw [hx] at hv;have e:a1.eval (.tmp t)=.slice none 0 0:=by
    generalize a1.eval (.tmp t)=v at hv;cases hv;rfl
   simp only [execOp,ho,e,hc,xDu,Sem.run_bind,Result.andThen_ok,Sem.run_pure];show K (a1.put o.dst (.bool true)) w1;rw [hd];exact hK _ _ (wpList_nil (hQ _ _ _ _ h ⟨A1,M1,J⟩))
 . rw [hx] at hv;have e:∃ a2 c2,a1.eval (.tmp t)=.slice (some a2) len c2:=by
    generalize a1.eval (.tmp t)=v at hv;cases hv with
    | osl v id ver off len m hm hle h1 he =>
     obtain ⟨bx,O,V⟩:=q.heap.box _ _ hm;rw [hb] at O;obtain rfl:rb=bx:=Option.some.inj O;obtain ⟨g1,a2,g2,g3⟩:=he V.ver;rw [g3 (by omega)] at g2
     exact ⟨_,_,g2⟩
   obtain ⟨a2,c2,e⟩:=e;simp only [execOp,ho,e,hc,xB1,Sem.run_bind,Result.andThen_ok,Sem.run_pure];show K (a1.put o.dst (.bool false)) w1;rw [hd];exact hK _ _ (wpList_nil (hQ _ _ _ _ h ⟨A1,M1,J⟩))
def lvPA:List Nat:=[1,6,7,13,14,15]
def f9 (fr:List AV) (ff ft:Int):Box:=⟨0,3,54,[.agg [.list 3 fr,.int .i64 ff,.int .i64 ft]],false,true⟩
def lvPU:List Nat:=[1,6,7,9,10,11,13,14,15]
def toListL (z:Nat) (ys:List AV):(AV.list z ys).toList=ys:=rfl
def isRowL (ys:List AV):xIM 2 (.list 2 ys)=true:=rfl
def enT1 (e:En):List.take 1 (waa e).cells=[.str e.1]:=rfl
def enD2 (e:En):List.drop 2 (waa e).cells=[]:=rfl
def xDB {es:List En} {k:List UInt8} {j:Nat} (h:ixE es k=some j):(es.map waa).getD j .top=waa (es.getD j default):=by
 have:=xnH h;simp [z7,this]
section
variable {Q : Exit -> St -> Prop}
def xjv {live liveO:List Nat} {vals q:List AV} {H H':List Box} {id:Nat} {ops:Array Oper} {y:Code} (h:XC Tryz.prog EPr live liveO (.region id ops false) vals H=some (LR.leaf .normal q H').eval) (hq:Does Tryz.prog (xIO.at 0) y Q ⟨mkTs 45 (liveO.zip q),H'⟩):Does Tryz.prog (xIO.at 0) (.seq (.region id ops false) y) Q ⟨mkTs 45 (live.zip vals),H⟩ :=
 xgk (xcO (xrr xIf (xIg Tryz.prog _) rfl orP (xhX rfl rfl) h) fun e s ⟨he,hs⟩=>by
  subst he hs;exact hq)
def xpg {live liveO:List Nat} {vals q:List AV} {H H':List Box} {id:Nat} {ops:Array Oper} (h:XC Tryz.prog EPr live liveO (.region id ops false) vals H=some (LR.leaf .normal q H').eval) (hq:Q .normal ⟨mkTs 45 (liveO.zip q),H'⟩):Does Tryz.prog (xIO.at 0) (.region id ops false) Q ⟨mkTs 45 (live.zip vals),H⟩ :=
 xcO (xrr xIf (xIg Tryz.prog _) rfl orP (xhX rfl rfl) h) fun e s ⟨he,hs⟩=>by
  subst he hs;exact hq
end
def ndP8:noDefer (pO 8)=true:=by kernel_rfl
def lP8:(pO 8).toList=(pO 8).toList.take 3++[(pO 8).toList.getD 3 default]:=by kernel_rfl
def oP8:((pO 8).toList.getD 3 default).op=.binOp .eql 64 (.tmp 27) (.const (.slice none 0 0)) 64:=by kernel_rfl
def gP8:((pO 8).toList.getD 3 default).guard=none:=by kernel_rfl
def dP8:((pO 8).toList.getD 3 default).dst=some 28:=by kernel_rfl
def wan (ms:List AV):Box:=⟨0,2,mapTy 67,ms,true,true⟩
def xyK:xH8 tyP=true:=by kernel_rfl
def xBw:xH7 tyP 0=false:=by kernel_rfl
def xtd:xH7 tyP 1=true:=by kernel_rfl
def xDM:rty (mapTy 67)=mapTy 67:=by kernel_rfl
def xyz:xH8 (mapTy 67)=true:=by kernel_rfl
def xFC:xH7 (mapTy 67) 0=false:=by kernel_rfl
def xFD:xH7 (mapTy 67) 1=false:=by kernel_rfl
def xyL:isC (rowTy tyP)=false:=by kernel_rfl
section
variable {w : World} {A : Nat -> Prop} {M : Id -> Option MB} {B : Nat}
def MPl (M:Id->Option MB):Id->Option MB:=fun id=>match id with
 | .b 0=>(M (.b 0)).map fun m=>⟨m.b,m.ver,m.sz,m.cap,mapTy 67⟩
 | _=>none
def xqY {id:Id} {m:MB} (h:MPl M id=some m):∃ m0,id=.b 0/\M (.b 0)=some m0/\m=⟨m0.b,m0.ver,m0.sz,m0.cap,mapTy 67⟩:=by
 unfold MPl at h;split at h
 . cases hm:M (.b 0) with
   | none=>rw [hm] at h;simp at h
   | some m0 =>
    rw [hm] at h;simp only [Option.map_some,z6] at h;exact ⟨m0,rfl,rfl,h.symm⟩
 . simp at h
def xDR {H:List Box} {i:Nat} {ys:List AV} {k:List UInt8} {ms:List AV} (h0:H=[⟨0,2,tyP,ms,true,true⟩]) (hi:i<ms.length) (hx:ms.getD i .top=.agg [.str k,.list 2 ys]):resolve H 4 (xJa 0 i 1 (.list 2 ys))=some (.list 2 ys):=by
 have hg:getB H (.r 0 i 1)=some ⟨2*ys.length,2,rowTy tyP,ys,true,true⟩:=by
  subst h0;have hc:isC tyP=true:=by kernel_rfl
  have h1:=xdK (H:=[⟨0,2,tyP,ms,true,true⟩]) (n:=0) (i:=i) (j:=1) (bx:=⟨0,2,tyP,ms,true,true⟩) rfl hc xtd rfl hi;rw [h1];show some (xIy _ ((ms.getD i .top).cells.getD 1 .top))=_;rw [hx];rfl
 have q:xH9 H (.r 0 i 1) (2*ys.length)=some ⟨2*ys.length,2,rowTy tyP,ys,true,true⟩:=by
  unfold xH9;rw [hg];simp [xa6 xyL]
 have J:rowsOk ⟨2*ys.length,2,rowTy tyP,ys,true,true⟩ ys=true:=by unfold rowsOk;rw [xyL]
 unfold xJa resolve;simp [AV.pure,rowLen,q,mapE,J]
def HR.plain {ms:List AV} (h:HR w A M B [⟨0,2,tyP,ms,true,true⟩]) (ad:∀ i,i<ms.length->∃ k ys,ms.getD i .top=.agg [.str k,.list 2 ys]):HR w A (MPl M) B [wan ms]:=by
 refine ⟨fun id m hm=>?_,fun id id' m m' h1 h2 _ _ _=>?_,h.lt⟩
 . obtain ⟨m0,rfl,O,rfl⟩:=xqY hm;obtain ⟨bx,hb,q⟩:=h.box _ _ O;obtain rfl:(⟨0,2,tyP,ms,true,true⟩:Box)=bx:=by simpa [getB] using hb
   have hsz:m0.sz=2:=q.sz.symm;have Z:m0.ty=tyP:=q.ty.symm;have W:∀ (id:Id) (m:MB),id.base=0->M id=some m->0<m.cap->¬ A m.b:=fun id m hi hm h0 hA=>by
    obtain ⟨b2,Y,V⟩:=h.box _ _ hm;have aa:b2.frz=true:=by
     cases id with
     | b n =>
      have hn:n=0:=hi;subst hn;have e:(⟨0,2,tyP,ms,true,true⟩:Box)=b2:=by simpa [getB] using Y
      rw [<-e]
     | r n i j =>
      have hn:n=0:=hi;subst hn;have hc:isC tyP=true:=by kernel_rfl
      have h1:=xgi (H:=[⟨0,2,tyP,ms,true,true⟩]) (bx:=⟨0,2,tyP,ms,true,true⟩) rfl hc Y;rw [h1.2.2.2,xpA]
    have:=(V.guard h0).2 hA;rw [aa] at this;simp at this
   refine ⟨wan ms,rfl,q.ver,q.sz,xDM,q.capm,q.fits,q.ok,q.low,q.lt,fun h0=>?_,fun h0=>⟨fun h=>Bool.noConfusion h,fun hA=>absurd hA (W (.b 0) m0 rfl O h0)⟩⟩
   obtain ⟨c,c1,c2,c3⟩:=q.cells h0;refine ⟨c,?_,c2,fun i j hi hj=>?_⟩
   . unfold HoldsC at c1 |-;rw [Z,xyK] at c1;dsimp only;rw [xyz];exact c1
   . have hi:i<ms.length:=hi;have h3:=c3 i j hi hj;have hj:j<m0.sz:=hj;obtain ⟨k,ys,hx⟩:=ad i hi;have hp:(wan ms).ty=mapTy 67:=rfl;show Rel w A (MV (MPl M) (wan ms) j) (c.getD (i*m0.sz+j) undef) (xIu 0 i j (wan ms).ty (((wan ms).xs.getD i .top).cells.getD j .top));have ab:(wan ms).xs.getD i .top=.agg [.str k,.list 2 ys]:=hx;rw [ab];have h3:Rel w A (MV M ⟨0,2,tyP,ms,true,true⟩ j) (c.getD (i*m0.sz+j) undef) (xIu 0 i j tyP ((ms.getD i .top).cells.getD j .top)):=h3;rw [hx] at h3;generalize c.getD (i*m0.sz+j) undef=v at h3;rcases j with _|_|j
     . unfold xIu MV at h3 |-;rw [show xH7 (⟨0,2,tyP,ms,true,true⟩:Box).ty 0=false from xBw] at h3
       rw [hp,xFC]
       try rw [xBw] at h3
       exact h3
     . unfold xIu MV at h3 |-;rw [show xH7 (⟨0,2,tyP,ms,true,true⟩:Box).ty 1=true from xtd] at h3
       rw [hp,xFD]
       try rw [xtd] at h3
       have h3:Rel w A M v (xJa 0 i 1 (.list 2 ys)):=h3;exact xdh h (A':=A) (fun _ _ h=>h) 4 v _ _ h3 (xDR rfl hi hx) fun id J m hm h0=>by
        have hb:id.base=0:=by
         have J:id.base∈reach [⟨0,2,tyP,ms,true,true⟩] 4 (.osl (.r 0 i 1) (2*ys.length) 0 ys.length):=J;unfold reach at J;simp only [AV.pure,zT,if_false,zC] at J;rcases J with h|h
         . exact h
         . split at h
           . rename_i bx hb;split at h
             . simp at h
             . rename_i ac;have:=xmd hb;exact absurd this ac
           . simp at h
        exact W id m hb hm h0
     . omega
 . obtain ⟨_,rfl,_⟩:=xqY h1;obtain ⟨_,rfl,_⟩:=xqY h2;rfl
end
def xFf (rows ms:List AV):normS 0 [] [4,5] ⟨mkTs 45 ([4,5].zip [.own 0 0 0 0,.list 1 rows]),[wab ms,⟨0,1,47,rows,true,true⟩]⟩=some ([.own 0 0 0 0,.list 1 rows],[wab ms]):=by kernel_rfl
def xFe (rows:List AV):mkTs (mkTs 45 ([4,5].zip [AV.own 0 0 0 0,.list 1 rows])).length ([4,5].zip [.own 0 0 0 0,.list 1 rows])=mkTs 45 ([4,5].zip [.own 0 0 0 0,.list 1 rows]):=by kernel_rfl
def xAC (rows:List AV) (n:Nat):(mkTs 45 ([4,5].zip [AV.own 0 0 0 0,.osl 1 0 0 n])).getD 5 .top=.osl (.b 1) 0 0 n:=by kernel_rfl
def xFg (rows:List AV) (n:Nat):(mkTs 45 ([4,5].zip [AV.own 0 0 0 0,.osl 1 0 0 n])).set 5 (.list 1 rows)=mkTs 45 ([4,5].zip [.own 0 0 0 0,.list 1 rows]):=by kernel_rfl
def xFd (rows ms:List AV) (n:Nat):freeze [wab ms,boxW rows] (reach [wab ms,boxW rows] xIq (.osl (.b 1) 0 0 n))=[wab ms,⟨0,1,47,rows,true,true⟩]:=by kernel_rfl
def endW (rows ms:List AV):Weak 0 ⟨mkTs 45 ([4,5].zip [.own 0 0 0 0,.osl 1 0 0 rows.length]),[wab ms,boxW rows]⟩ ⟨mkTs 45 ([4,5].zip [.own 0 0 0 0,.list 1 rows]),[wab ms]⟩:=by
 have h1:resolve [wab ms,boxW rows] xIq ((mkTs 45 ([4,5].zip [AV.own 0 0 0 0,.osl 1 0 0 rows.length])).getD 5 .top)=some (.list 1 rows):=by
  rw [xAC rows];exact xtG rfl rfl
 have h2:=xoU (p:=0) h1;rw [xAC rows,xFd,xFg] at h2;have h3:=xgv (xFf rows ms);rw [xFe] at h3;exact h2.trans h3
def pRes (rows:List AV) (H:List Box):resAllM Tryz.prog ⟨mkTs 45 ([4,5].zip [.own 0 0 0 0,.list 1 rows]),H⟩ Tryz.f60.results.toList=some [.own 0 0 0 0,.list 1 rows]:=by kernel_rfl
def pNt:Tryz.f60.ntmps=45:=by kernel_rfl
def pBody:Tryz.f60.body=some pB:=by kernel_rfl
def pEnters:Enters Tryz.prog 60:=⟨_,Tryz.func60,by kernel_rfl,by kernel_rfl⟩
def xCl {l rows:List AV} {pv:AV} {es:List En} (h:Does Tryz.prog (xIO.at 0) pB (fun e s=>e=.ret/\s=⟨mkTs 45 ([4,5].zip [.own 0 0 0 0,.list 1 rows]),[wab (es.map waa)]⟩) ⟨[.list 3 l,pv]++List.replicate 43 (.tuple []),[]⟩):GoodM Tryz.prog xIO 60 [.list 3 l,pv] [] (.tuple [.own (.b 0) 0 0 0,.list 1 rows]) [wan (es.map waa)]:=by
 refine ⟨pEnters,fun w0 w A M vs hI W hR V=>?_⟩
 refine callsIn_wide.1 (callsIn_of_wp_marks (F:=Fence.wide) (n:=0) Tryz.func60 pBody trivial ?_);refine h w0 ⟨A,w,A,M,0,fun _=>False⟩ w A M _ _ hI (zd 0) ⟨W,fun _ _=>Iff.rfl,?_,fun t ht=>?_,hR,DefOk.nil,Ev.refl (C:=⟨A,w,A,M,0,fun _=>False⟩)⟩ ?_ none (fun _=>rfl)
 . rw [pNt];have:=V.1;simp at this |-;omega
 . have hl:vs.length=2:=V.1;rw [pNt];show Rel w A M _ (([.list 3 l,pv]++List.replicate 43 (.tuple []):List AV).getD t .top);by_cases O:t<2
   . have e1:(vs.toArray++Array.replicate (45 - vs.toArray.size) undef).getD t undef=vs.getD t undef:=by
      have:t<vs.length:=by omega
      simp [z7,Array.getElem?_append,this]
     rw [e1,xpm O];exact V.2 t O
   . have ht:t<45:=by simpa using ht
     have h1:¬ t<vs.length:=by omega
     have e1:(vs.toArray++Array.replicate (45 - vs.toArray.size) undef).getD t undef=undef:=by
      have h2:t - vs.length<45 - vs.length:=by omega
      simp [Array.getElem?_append,h1,h2]
     rw [e1,xpn O (show t - 2<43 by omega)]
     exact .tuple #[] [] rfl (by simp)
 . rintro e s' a' w' ⟨rfl,rfl⟩ ⟨A',M',ab⟩;show LeavesInM Fence.wide 0 Tryz.prog Tryz.f60 a'.tmps _ a'.defers .returning w';obtain ⟨A1,ad,_⟩:=ab.refreeze (H:=[⟨0,2,tyP,es.map waa,true,true⟩]) (by
    have h1:=HSub.freeze [wab (es.map waa)] [0];exact h1)
   refine xmv (fun _ h=>h) ad fun w2 q=>?_
   obtain ⟨v,hv,J⟩:=xlt (P:=Tryz.prog) q (pRes rows _);refine ⟨v,hv,v,A1,MPl M',rfl,q.base,q.outer,⟨q.ev.size,q.ev.keep,q.ev.less,q.ev.more,fun id m h=>absurd h (Nat.not_lt_zero _),fun id m h h0=>?_⟩,HR.plain q.heap fun i hi=>?_,?_⟩
   . obtain ⟨m0,rfl,aa,rfl⟩:=xqY h;exact q.ev.src (.b 0) m0 aa h0
   . have hi:i<es.length:=by simpa using hi
     exact ⟨(es.getD i default).1,(es.getD i default).2,by simp [waa,z7,hi]⟩
   . have J:Rel w2 A1 M' v (.tuple [.own (.b 0) 0 0 0,.list 1 rows]):=J;obtain ⟨us,rfl,hsz,ac⟩:=J.tuple_inv;refine .tuple us _ hsz fun i hi=>?_
     have h1:=ac i hi;rcases i with _|_|i
     . have h1:Rel w2 A1 M' (us.getD 0 undef) (.own (.b 0) 0 0 0):=h1;show Rel w2 A1 (MPl M') (us.getD 0 undef) (.own (.b 0) 0 0 0);generalize us.getD 0 undef=u at h1;cases h1 with
       | own v id ver i j m hm hle h1 he =>
        obtain ⟨bx,hb,Y⟩:=q.heap.box _ _ hm;obtain rfl:(⟨0,2,tyP,es.map waa,true,true⟩:Box)=bx:=by simpa [getB] using hb
        have Z:m.ty=tyP:=Y.ty.symm;refine .own _ _ 0 0 0 ⟨m.b,m.ver,m.sz,m.cap,mapTy 67⟩ (by unfold MPl;rw [hm];rfl) hle h1 fun h=>?_
        rw [he h];unfold ptrOf;rw [Z,xyK];dsimp only;rw [xyz]
     . have h1:Rel w2 A1 M' (us.getD 1 undef) (.list 1 rows):=h1;exact h1.pure rfl
     . simp at hi;omega
def ptQ (q:Option Int) (row:List AV):List AV:=match q with
 | none=>xqn row
 | some nn=>(xgx row nn).getD []
def okQ (q:Option Int) (row:List AV):Bool:=match q with
 | none=>true
 | some nn=>(xgx row nn).isSome
def kyQ (q:Option Int) (row:List AV):List UInt8:=(xa0 (ptQ q row)).getD []
def foQ (q:Option Int) (f:AV):Bool:=(f.cells.length==3&&xIb [.list 3,.int .i64,.int .i64] f.cells 0)&&(okQ q (rowF f)&&((xa0 (ptQ q (rowF f))).isSome&&decide ((kyQ q (rowF f)).length<=4611686018427387904)))
def pvQ (q:Option Int):AV:=match q with
 | none=>.func 58 []
 | some nn=>.func 59 [.func 1099511627776 [.int .i64 nn]]
def vQA (q:Option Int) (l:List AV) (rn:Nat) (i:Int):List AV:=[pvQ q,.own 0 0 0 0,.osl 1 0 0 rn,.list 3 l,.int .i64 l.length,.int .i64 i]
def xQ4 (q:Option Int) (l ms rows:List AV) (rn:Nat) (i:Int):XC Tryz.prog EPr lvPA (16::lvPA) (.region 4 (pO 4) false) (vQA q l rn i) [wab ms,boxW rows]=some (LR.leaf .normal (.bool (decide (i<(l.length:Int)))::vQA q l rn i) [wab ms,boxW rows]).eval:=by cases q<;>kernel_rfl
def vQ5 (q:Option Int) (l:List AV) (rn:Nat) (i:Int):List AV:=[pvQ q,.own 0 0 0 0,.osl 1 0 0 rn,.own 2 0 0 0,.list 3 l,.int .i64 l.length,.int .i64 i]
def xQ5 (q:Option Int) (l ms rows:List AV) (rn:Nat) (i:Int):XC Tryz.prog EPr (16::lvPA) [1,6,7,9,13,14,15] (.region 5 (pO 5) false) (.bool true::vQA q l rn i) [wab ms,boxW rows] =
 br (decide ((0:Int)<=i)&&decide (i<(l.length:Int))) (br (decide (i.toNat<l.length)&&((l.getD i.toNat .top).cells.length==3&&xIb [.list 3,.int .i64,.int .i64] (l.getD i.toNat .top).cells 0))
  (some (LR.leaf .normal (vQ5 q l rn i) [wab ms,boxW rows,f9 ((l.getD i.toNat .top).cells.getD 0 .top).toList ((l.getD i.toNat .top).cells.getD 1 .top).toInt ((l.getD i.toNat .top).cells.getD 2 .top).toInt]).eval) none) none:=by cases q<;>kernel_rfl
def vQ6 (q:Option Int) (l:List AV) (rn:Nat) (i:Int) (row:List AV):List AV:=[pvQ q,.own 0 0 0 0,.osl 1 0 0 rn,.own 2 0 0 0,.list 3 row,.list 3 l,.int .i64 l.length,.int .i64 i]
def xQ6 (q:Option Int) (l ms rows:List AV) (rn:Nat) (i:Int) (fr:List AV) (ff ft:Int):XC Tryz.prog EPr [1,6,7,9,13,14,15] [1,6,7,9,10,13,14,15] (.region 6 (pO 6) false) (vQ5 q l rn i) [wab ms,boxW rows,f9 fr ff ft] =
 br (okQ q fr) (some (LR.leaf .normal (vQ6 q l rn i (ptQ q fr)) [wab ms,boxW rows,f9 fr ff ft]).eval) none:=by cases q<;>kernel_rfl
def vQ7 (q:Option Int) (l:List AV) (rn:Nat) (i:Int) (row:List AV) (k:List UInt8):List AV:=[pvQ q,.own 0 0 0 0,.osl 1 0 0 rn,.own 2 0 0 0,.list 3 row,.str k,.list 3 l,.int .i64 l.length,.int .i64 i]
def xQ7 (q:Option Int) (l ms rows:List AV) (rn:Nat) (i:Int) (fr row:List AV) (ff ft:Int):XC Tryz.prog EPr [1,6,7,9,10,13,14,15] lvPU (.region 7 (pO 7) false) (vQ6 q l rn i row) [wab ms,boxW rows,f9 fr ff ft] =
 br (xa0 row).isSome (some (LR.leaf .normal (vQ7 q l rn i row ((xa0 row).getD [])) [wab ms,boxW rows,f9 fr ff ft]).eval) none:=by cases q<;>kernel_rfl
def uQ (q:Option Int) (l:List AV) (rn:Nat) (i:Int) (row:List AV) (k:List UInt8):List AV:=mkTs 45 (lvPU.zip (vQ7 q l rn i row k))
def uQ8 (q:Option Int) (l:List AV) (rn:Nat) (i:Int) (row:List AV) (k:List UInt8) (x:AV):List AV:=(((uQ q l rn i row k).set 25 (.own 0 0 0 0)).set 26 (.str k)).set 27 x
def xQ8 (q:Option Int) (l ms rows:List AV) (rn:Nat) (i:Int) (fr row:List AV) (ff ft:Int) (k:List UInt8):xOps Tryz.prog EPr none (some true) (pO 8) ((pO 8).toList.take 3) ⟨uQ q l rn i row k,[wab ms,boxW rows,f9 fr ff ft]⟩ some =
 br (decide (k.length<=(4611686018427387904:Nat))) (br (xIB ms k) (br (xIM (2:Nat) ((ms.getD (putIx ms k) AV.top).cells.getD (1:Nat) AV.top)) (some ⟨uQ8 q l rn i row k (.osl (.r 0 (putIx ms k) 1) (2*((ms.getD (putIx ms k) AV.top).cells.getD (1:Nat) AV.top).toList.length) 0 ((ms.getD (putIx ms k) AV.top).cells.getD (1:Nat) AV.top).toList.length),[wab ms,boxW rows,f9 fr ff ft]⟩) none)
  (some ⟨uQ8 q l rn i row k .nils,[wab ms,boxW rows,f9 fr ff ft]⟩)) none:=by cases q<;>kernel_rfl
def eQ27 (q:Option Int) (l:List AV) (rn:Nat) (i:Int) (row:List AV) (k:List UInt8) (x:AV) (H:List Box):St.eval ⟨uQ8 q l rn i row k x,H⟩ (.tmp 27)=x:=by cases q<;>kernel_rfl
def eQ28 (q:Option Int) (l:List AV) (rn:Nat) (i:Int) (row:List AV) (k:List UInt8) (x:AV) (b:Bool) (H:List Box):St.eval ⟨(uQ8 q l rn i row k x).set 28 (.bool b),H⟩ (.tmp 28)=.bool b:=by cases q<;>kernel_rfl
def kQ28 (q:Option Int) (l:List AV) (rn:Nat) (i:Int) (row:List AV) (k:List UInt8) (x:AV) (b:Bool) (H:List Box):wag lvPU ⟨(uQ8 q l rn i row k x).set 28 (.bool b),H⟩=⟨uQ q l rn i row k,H⟩:=by cases q<;>kernel_rfl
def xQ9 (q:Option Int) (l ms rows:List AV) (rn:Nat) (i:Int) (fr row:List AV) (ff ft:Int) (k:List UInt8):XC Tryz.prog EPr lvPU lvPU (.region 9 (pO 9) false) (vQ7 q l rn i row k) [wab ms,boxW rows,f9 fr ff ft] =
 br (rn==rows.length&&(decide ((rn+(1:Nat))*(24:Nat)<=(140737488355328:Nat))&&decide (rn+(1:Nat)<=(4611686018427387904:Nat)))) (some (LR.leaf .normal (vQ7 q l (rn+1) i row k) [wab ms,boxW (rows++[.list 3 row]),f9 fr ff ft]).eval) none:=by cases q<;>kernel_rfl
def xQ10 (q:Option Int) (l ms rows:List AV) (rn:Nat) (i:Int) (fr row:List AV) (ff ft:Int) (k:List UInt8):XC Tryz.prog EPr lvPU lvPA (.region 10 (pO 10) false) (vQ7 q l rn i row k) [wab ms,boxW rows,f9 fr ff ft] =
 br (decide (k.length<=(4611686018427387904:Nat))) (br (xIB ms k) (br (xIM (2:Nat) ((ms.getD (putIx ms k) AV.top).cells.getD (1:Nat) AV.top)) (br (decide (putIx ms k<ms.length)&&(xIM (2:Nat) ((ms.getD (putIx ms k) AV.top).cells.getD (1:Nat) AV.top)&&((ms.getD (putIx ms k) AV.top).cells.length==(2:Nat)&&((2:Nat)*((ms.getD (putIx ms k) AV.top).cells.getD (1:Nat) AV.top).toList.length==(2:Nat)*((ms.getD (putIx ms k) AV.top).cells.getD (1:Nat) AV.top).toList.length&&(((ms.getD (putIx ms k) AV.top).cells.getD (1:Nat) AV.top).toList.length==((ms.getD (putIx ms k) AV.top).cells.getD (1:Nat) AV.top).toList.length&&(((ms.getD (putIx ms k) AV.top).cells.getD (1:Nat) AV.top).toList.length==((ms.getD (putIx ms k) AV.top).cells.getD (1:Nat) AV.top).toList.length&&(decide ((((ms.getD (putIx ms k) AV.top).cells.getD (1:Nat) AV.top).toList.length+(1:Nat))*(16:Nat)<=(140737488355328:Nat))&&decide (((ms.getD (putIx ms k) AV.top).cells.getD (1:Nat) AV.top).toList.length+(1:Nat)<=(4611686018427387904:Nat))))))))) (br (((ms.getD (putIx ms k) AV.top).cells.getD (1:Nat) AV.top).toList.length+(1:Nat)==(((ms.getD (putIx ms k) AV.top).cells.getD (1:Nat) AV.top).toList++[AV.agg [AV.int IntKind.i64 ff,AV.int IntKind.i64 ft]]).length&&(decide ((ms.set (putIx ms k) (AV.agg (List.take (1:Nat) (ms.getD (putIx ms k) AV.top).cells++[AV.int IntKind.i64 (↑((ms.getD (putIx ms k) AV.top).cells.getD (1:Nat) AV.top).toList.length:Int)]++List.drop (2:Nat) (ms.getD (putIx ms k) AV.top).cells))).length<(4611686018427387904:Nat))&&(decide (k.length<=(4611686018427387904:Nat))&&deadR (ms.set (putIx ms k) (AV.agg (List.take (1:Nat) (ms.getD (putIx ms k) AV.top).cells++[AV.int IntKind.i64 (↑((ms.getD (putIx ms k) AV.top).cells.getD (1:Nat) AV.top).toList.length:Int)]++List.drop (2:Nat) (ms.getD (putIx ms k) AV.top).cells))) k (((ms.getD (putIx ms k) AV.top).cells.getD (1:Nat) AV.top).toList.length+(1:Nat)))))
  (some (LR.leaf .normal (vQA q l rn i) [wab (xIm (ms.set (putIx ms k) (AV.agg (List.take (1:Nat) (ms.getD (putIx ms k) AV.top).cells++[AV.int IntKind.i64 (↑((ms.getD (putIx ms k) AV.top).cells.getD (1:Nat) AV.top).toList.length:Int)]++List.drop (2:Nat) (ms.getD (putIx ms k) AV.top).cells))) k (AV.list (2:Nat) (((ms.getD (putIx ms k) AV.top).cells.getD (1:Nat) AV.top).toList++[AV.agg [AV.int IntKind.i64 ff,AV.int IntKind.i64 ft]]))),boxW rows]).eval) none) none) none)
  (br (decide (ms.length<(4611686018427387904:Nat))&&(decide (k.length<=(4611686018427387904:Nat))&&deadR ms k (1:Nat))) (some (LR.leaf .normal (vQA q l rn i) [wab (xIm ms k (AV.list (2:Nat) [AV.agg [AV.int IntKind.i64 ff,AV.int IntKind.i64 ft]])),boxW rows]).eval) none)) none:=by cases q<;>kernel_rfl
def xQ11 (q:Option Int) (l ms rows:List AV) (rn:Nat) (i:Int):XC Tryz.prog EPr lvPA lvPA (.region 11 (pO 11) false) (vQA q l rn i) [wab ms,boxW rows]=some (LR.leaf .normal (vQA q l rn (IntKind.i64.wrap (i+1))) [wab ms,boxW rows]).eval:=by cases q<;>kernel_rfl
def sqQ (q:Option Int) (s:List En×List AV) (f:AV):List En×List AV:=(addE s.1 (kyQ q (rowF f)) (perA f),match ixE s.1 (kyQ q (rowF f)) with
 | none=>s.2++[.list 3 (ptQ q (rowF f))]
 | some _=>s.2)
def fqQ (q:Option Int) (l:List AV):List En×List AV:=l.foldl (sqQ q) ([],[])
def c16Q (q:Option Int) (l:List AV) (rn:Nat) (i:Int) (b:Bool) (H:List Box):St.eval ⟨mkTs 45 ((16::lvPA).zip (.bool b::vQA q l rn i)),H⟩ (.tmp 16)=.bool b:=by cases q<;>kernel_rfl
section
variable {Q : Exit -> St -> Prop}
set_option maxHeartbeats 1000000 in
def turnQ (q:Option Int) {l:List AV} {i:Nat} (hi:i<l.length) (hl:l.length<2147483648) (hf:foQ q (l.getD i .top)=true) {es:List En} {rows:List AV} (he:es.length<=i) (hr:rows.length<=i) (hp:∀ e,e∈es->e.2≠[]/\e.2.length<=i)
  (hq:Q .normal ⟨mkTs 45 (lvPA.zip (vQA q l (sqQ q (es,rows) (l.getD i .top)).2.length ((i+1:Nat):Int))),[wab ((sqQ q (es,rows) (l.getD i .top)).1.map waa),boxW (sqQ q (es,rows) (l.getD i .top)).2]⟩) :
  Does Tryz.prog (xIO.at 0) (.seq (.block 1 (.seq (.region 5 (pO 5) false) (.seq (.region 6 (pO 6) false) (.seq (.region 7 (pO 7) false) (.seq (.seq (.region 8 (pO 8) false) (.cond (.tmp 28) (.region 9 (pO 9) false) .skip)) (.region 10 (pO 10) false)))))) (.region 11 (pO 11) false)) Q ⟨mkTs 45 ((16::lvPA).zip (.bool true::vQA q l rows.length (i:Int))),[wab (es.map waa),boxW rows]⟩:=by
 unfold foQ at hf;simp only [zf,zl] at hf;obtain ⟨⟨ao,ap⟩,aj,aa,ad⟩:=hf;have af:((l.getD i .top).cells.length==3&&xIb [.list 3,.int .i64,.int .i64] (l.getD i .top).cells 0)=true:=by rw [zf];exact ⟨ao,ap⟩
 obtain ⟨f,ah⟩:∃ f,f=l.getD i .top:=⟨_,rfl⟩;rw [<-ah] at af aj aa ad hq;have ae:(xa0 (ptQ q (rowF f))).getD []=kyQ q (rowF f):=rfl;obtain ⟨k,hk⟩:∃ k,k=kyQ q (rowF f):=⟨_,rfl⟩;have am:IntKind.i64.wrap ((i:Int)+1)=((i+1:Nat):Int):=by rw [xba (by omega) (by omega)];omega
 have Y:∀ (ms rs:List AV) (rn:Nat),Q .normal ⟨mkTs 45 (lvPA.zip (vQA q l rn ((i+1:Nat):Int))),[wab ms,boxW rs]⟩->Does Tryz.prog (xIO.at 0) (.region 11 (pO 11) false) Q ⟨mkTs 45 (lvPA.zip (vQA q l rn (i:Int))),[wab ms,boxW rs]⟩:=fun ms rs rn h=>by
  have hx:=xQ11 q l ms rs rn (i:Int);rw [am] at hx;exact xpg hx h
 refine xgk (xqN ?_);have h5:=xQ5 q l (es.map waa) rows rows.length (i:Int);rw [zN,<-ah,af] at h5;have c1:(decide ((0:Int)<=i)&&decide ((i:Int)<(l.length:Int)))=true:=by simp [hi]
 have c2:(decide (i<l.length)&&true)=true:=by simp [hi]
 rw [c1,c2] at h5;refine xjv h5 ?_;have h6:=xQ6 q l (es.map waa) rows rows.length (i:Int) (rowF f) (f.cells.getD 1 .top).toInt (f.cells.getD 2 .top).toInt;rw [aj] at h6;refine xjv h6 ?_;have h7:=xQ7 q l (es.map waa) rows rows.length (i:Int) (rowF f) (ptQ q (rowF f)) (f.cells.getD 1 .top).toInt (f.cells.getD 2 .top).toInt;rw [aa,ae,<-hk] at h7;refine xjv h7 ?_;rw [<-hk] at ad;have ac:decide (k.length<=(4611686018427387904:Nat))=true:=decide_eq_true ad;have h8:=xQ8 q l (es.map waa) rows rows.length (i:Int) (rowF f) (ptQ q (rowF f)) (f.cells.getD 1 .top).toInt (f.cells.getD 2 .top).toInt k;have h9:=xQ9 q l (es.map waa) rows rows.length (i:Int) (rowF f) (ptQ q (rowF f)) (f.cells.getD 1 .top).toInt (f.cells.getD 2 .top).toInt k;rw [ac] at h8;have an:sqQ q (es,rows) f=(addE es k (perA f),match ixE es k with
  | none=>rows++[.list 3 (ptQ q (rowF f))]
  | some _=>rows):=by unfold sqQ;rw [<-hk]
 rw [an] at hq;have J:=fun rs rn=>xQ10 q l (es.map waa) rs rn (i:Int) (rowF f) (ptQ q (rowF f)) (f.cells.getD 1 .top).toInt (f.cells.getD 2 .top).toInt k
 have hml:(es.map waa).length<4611686018427387904:=by rw [za];omega
 cases hj:ixE es k with
 | none =>
  rw [hj] at hq;have O:xIB (es.map waa) k=false:=by rw [xsK,hj];rfl
  rw [O] at h8;obtain ⟨s3,p3,e3⟩:=xcF orP (K:=some) h8;cases e3;refine xgk (xgk (xBl (b:=true) ndP8 lP8 p3 oP8 gP8 dP8 (.inl ⟨rfl,eQ27 ..⟩) (xpB (eQ28 ..) (fun _=>?_) (fun h=>by cases h))))
  refine xhN (xoB lvPU _) ?_;rw [kQ28];have c9:(rows.length==rows.length&&(decide ((rows.length+(1:Nat))*(24:Nat)<=(140737488355328:Nat))&&decide (rows.length+(1:Nat)<=(4611686018427387904:Nat))))=true:=by
   simp only [beq_self_eq_true,Bool.true_and,zf,zl];omega
  rw [c9] at h9;refine xpg h9 ?_;have J:=J (rows++[.list 3 (ptQ q (rowF f))]) (rows.length+1);have ab:(decide ((es.map waa).length<(4611686018427387904:Nat))&&(true&&deadR (es.map waa) k (1:Nat)))=true:=by
   rw [xAr hj];simp only [Bool.and_self,zS,zl];exact hml
  rw [ac,O,ab,xzl hj] at J;refine xpg J (Y _ _ _ ?_);have hn:(rows++[AV.list 3 (ptQ q (rowF f))]).length=rows.length+1:=by simp
  rw [<-hn];exact hq
 | some j =>
  rw [hj] at hq;have ai:=xnH hj;have O:xIB (es.map waa) k=true:=by rw [xsK,hj];rfl
  have Z:putIx (es.map waa) k=j:=xzo hj;have V:=xDB hj;have hkey':(es.getD j default).1=k:=xyk hj;obtain ⟨hne,aq⟩:=hp (es.getD j default) (by simp [z7,ai])
  obtain ⟨ys,W⟩:∃ ys,ys=(es.getD j default).2:=⟨_,rfl⟩;rw [O,Z,V,cEn1,toListL,isRowL,<-W] at h8;rw [<-W] at hne aq;have ak:0<ys.length:=List.length_pos_iff.2 hne;obtain ⟨s3,p3,e3⟩:=xcF orP (K:=some) h8;cases e3;have ag:getB [wab (es.map waa),boxW rows,f9 (rowF f) (f.cells.getD 1 .top).toInt (f.cells.getD 2 .top).toInt] (.r 0 j 1)=some (xIy (wab (es.map waa)) (.list 2 ys)):=by
   have hc:isC (wab (es.map waa)).ty=true:=by cases q<;>kernel_rfl
   have h1:=xdK (H:=[wab (es.map waa),boxW rows,f9 (rowF f) (f.cells.getD 1 .top).toInt (f.cells.getD 2 .top).toInt]) (n:=0) (i:=j) (j:=1) (bx:=wab (es.map waa)) rfl hc xtd rfl (by show j<(es.map waa).length;simpa using ai)
   rw [h1];show some (xIy _ (((es.map waa).getD j .top).cells.getD 1 .top))=_;rw [V,cEn1,<-W]
  refine xgk (xgk (xBl (b:=false) ndP8 lP8 p3 oP8 gP8 dP8 (.inr ⟨rfl,.r 0 j 1,ys.length,xIy (wab (es.map waa)) (.list 2 ys),by rw [eQ27];rfl,ak,ag⟩) (xpB (eQ28 ..) (fun h=>by cases h) (fun _=>xr7 ?_))))
  refine xhN (xoB lvPU _) ?_;rw [kQ28];have J:=J rows rows.length;rw [ac,O,Z,V,enT1,enD2,cEn1,toListL,isRowL,lEn,hkey',<-W] at J;have e1:([AV.str k]++[AV.int IntKind.i64 (ys.length:Int)]++([]:List AV))=[AV.str k,AV.int IntKind.i64 (ys.length:Int)]:=rfl;rw [e1] at J;have e2:(es.map waa).set j (.agg [AV.str k,AV.int IntKind.i64 (ys.length:Int)])=(es.map waa).set j (was k (ys.length:Int)):=rfl;rw [e2] at J;have ab:(decide (j<(es.map waa).length)&&(true&&((2:Nat)==(2:Nat)&&((2:Nat)*ys.length==(2:Nat)*ys.length&&(ys.length==ys.length&&(ys.length==ys.length&&(decide ((ys.length+(1:Nat))*(16:Nat)<=(140737488355328:Nat))&&decide (ys.length+(1:Nat)<=(4611686018427387904:Nat)))))))))=true:=by
   simp only [beq_self_eq_true,Bool.true_and,zf,zl,za];omega
  rw [ab] at J;have al:(ys.length+(1:Nat)==(ys++[AV.agg [AV.int IntKind.i64 (f.cells.getD 1 .top).toInt,AV.int IntKind.i64 (f.cells.getD 2 .top).toInt]]).length&&(decide (((es.map waa).set j (was k (ys.length:Int))).length<(4611686018427387904:Nat))&&(true&&deadR ((es.map waa).set j (was k (ys.length:Int))) k (ys.length+(1:Nat)))))=true:=by
   rw [xAs hj];simp only [z8,zj,y4,beq_self_eq_true,Bool.true_and,zf,zl];exact ⟨hml,trivial⟩
  rw [al,W,xwH hj] at J;exact xpg J (Y _ _ _ hq)
end
def invQ (q:Option Int) {es:List En} {rows:List AV} {i:Nat} (f:AV) (he:es.length<=i) (hr:rows.length<=i) (hp:∀ e,e∈es->e.2≠[]/\e.2.length<=i) :
  (sqQ q (es,rows) f).1.length<=i+1/\(sqQ q (es,rows) f).2.length<=i+1/\∀ e,e∈(sqQ q (es,rows) f).1->e.2≠[]/\e.2.length<=i+1:=by
 unfold sqQ;dsimp only;generalize kyQ q (rowF f)=k;refine ⟨Nat.le_trans (xu9 k _ es) (by omega),?_,fun e hm=>?_⟩
 . cases ixE es k with
   | none=>simp;omega
   | some j=>simp;omega
 . cases hj:ixE es k with
   | none =>
    rw [xqe hj] at hm;rcases zG.1 hm with h|h
    . have:=hp e h;exact ⟨this.1,by omega⟩
    . simp only [zv] at h;subst h;exact ⟨by simp,by simp⟩
   | some j =>
    rw [xqf hj] at hm;have J:=xnH hj;rcases List.mem_or_eq_of_mem_set hm with h|h
    . have:=hp e h;exact ⟨this.1,by omega⟩
    . subst h;have:=hp (es.getD j default) (by simp [z7,J])
      refine ⟨by simp,?_⟩
      simp only [z8,zj];omega
def xye (q:Option Int) (l:List AV):∀ i,i<=l.length->((l.take i).foldl (sqQ q) ([],[])).1.length<=i/\((l.take i).foldl (sqQ q) ([],[])).2.length<=i/\∀ e,e∈((l.take i).foldl (sqQ q) ([],[])).1->e.2≠[]/\e.2.length<=i
 | 0,_=>by simp
 | i+1,hi=>by
  obtain ⟨h1,h2,h3⟩:=xye q l i (by omega)
  have e:l.take (i+1)=l.take i++[l.getD i .top]:=by
   rw [List.take_add_one,ze (by omega)]
   simp [z7,show i<l.length by omega]
  rw [e,List.foldl_append];exact invQ q (l.getD i .top) h1 h2 h3
def loopQ (q:Option Int) {l:List AV} (hl:l.length<2147483648) (hf:∀ i,i<l.length->foQ q (l.getD i .top)=true):Does Tryz.prog (xIO.at 0) (.loop lpP) (fun e s=>e=.exit 0/\s=⟨mkTs 45 ((16::lvPA).zip (.bool false::vQA q l (fqQ q l).2.length (l.length:Int))),[wab ((fqQ q l).1.map waa),boxW (fqQ q l).2]⟩) ⟨mkTs 45 (lvPA.zip (vQA q l 0 ((0:Nat):Int))),[wab [],boxW []]⟩:=by
 refine xtH (xqO (fun n s=>∃ i,n=l.length - i/\i<=l.length/\s=⟨mkTs 45 (lvPA.zip (vQA q l ((l.take i).foldl (sqQ q) ([],[])).2.length (i:Int))),[wab (((l.take i).foldl (sqQ q) ([],[])).1.map waa),boxW ((l.take i).foldl (sqQ q) ([],[])).2]⟩) (n0:=l.length) (Weak.refl _ _) ⟨0,by omega,zQ _,rfl⟩ ?_)
 rintro n s ⟨i,rfl,hi,rfl⟩;obtain ⟨h1,h2,h3⟩:=xye q l i hi;have e:i<l.length->l.take (i+1)=l.take i++[l.getD i .top]:=fun h=>by
  rw [List.take_add_one,ze h];simp [z7,h]
 obtain ⟨st,J⟩:∃ st,st=(l.take i).foldl (sqQ q) ([],[]):=⟨_,rfl⟩;rw [<-J] at h1 h2 h3 |-;obtain ⟨es,rows⟩:=st;unfold lpP;refine xjv (xQ4 q l (es.map waa) rows rows.length (i:Int)) ?_;refine xgk (xpB (c16Q ..) (fun hb=>xr7 ?_) fun hb=>xv2 ?_)
 . have O:i<l.length:=by simpa using hb
   show Does Tryz.prog (xIO.at 0) _ _ _;rw [hb];refine turnQ q O hl (hf i O) h1 h2 h3 ?_;refine ⟨l.length - (i+1),_,by omega,Weak.refl _ _,i+1,rfl,O,?_⟩
   rw [e O,List.foldl_append,<-J];rfl
 . have V:i=l.length:=by
    have:¬ ((i:Int)<l.length):=by simpa using hb
    omega
   show _/\_;subst V;rw [y6] at J;have Q:fqQ q l=(es,rows):=J.symm;rw [hb,Q];exact ⟨rfl,rfl⟩
def yQa (q:Option Int) (l:List AV):wag [0,1] ⟨[.list 3 l,pvQ q]++List.replicate 43 (.tuple []),[]⟩=⟨mkTs 45 ([0,1].zip [.list 3 l,pvQ q]),[]⟩:=by cases q<;>kernel_rfl
def yQ0 (q:Option Int) (l:List AV):XC Tryz.prog EPr [0,1] [0,1] (.region 0 (pO 0) false) [.list 3 l,pvQ q] []=some (LR.leaf .normal [.list 3 l,pvQ q] []).eval:=by cases q<;>kernel_rfl
def yQ1 (q:Option Int) (l:List AV):XC Tryz.prog EPr [0,1] [0,1,6] (.region 1 (pO 1) false) [.list 3 l,pvQ q] []=some (LR.leaf .normal [.list 3 l,pvQ q,.own 0 0 0 0] [wab []]).eval:=by cases q<;>kernel_rfl
def yQ2 (q:Option Int) (l:List AV):XC Tryz.prog EPr [0,1,6] [0,1,6,7] (.region 2 (pO 2) false) [.list 3 l,pvQ q,.own 0 0 0 0] [wab []]=some (LR.leaf .normal [.list 3 l,pvQ q,.own 0 0 0 0,.nils] [wab []]).eval:=by cases q<;>kernel_rfl
def yQ3 (q:Option Int) (l:List AV):XC Tryz.prog EPr [0,1,6,7] lvPA (.region 3 (pO 3) false) [.list 3 l,pvQ q,.own 0 0 0 0,.nils] [wab []]=some (LR.leaf .normal [pvQ q,.own 0 0 0 0,.nils,.list 3 l,.int .i64 l.length,.int .i64 0] [wab []]).eval:=by cases q<;>kernel_rfl
def yQn (q:Option Int) (l:List AV):normS 0 [(7,1,47)] lvPA ⟨mkTs 45 (lvPA.zip [pvQ q,.own 0 0 0 0,.nils,.list 3 l,.int .i64 l.length,.int .i64 0]),[wab []]⟩=some (vQA q l 0 ((0:Nat):Int),[wab [],boxW []]):=by cases q<;>kernel_rfl
def yQm (q:Option Int) (l:List AV):mkTs (mkTs 45 (lvPA.zip [pvQ q,.own 0 0 0 0,.nils,.list 3 l,.int .i64 l.length,.int .i64 0])).length (lvPA.zip (vQA q l 0 ((0:Nat):Int)))=mkTs 45 (lvPA.zip (vQA q l 0 ((0:Nat):Int))):=by cases q<;>kernel_rfl
def yQ12 (q:Option Int) (l ms rows:List AV) (rn:Nat) (i:Int):XC Tryz.prog EPr (16::lvPA) [4,5] (.region 12 (pO 12) false) (.bool false::vQA q l rn i) [wab ms,boxW rows]=some (LR.leaf .normal [.own 0 0 0 0,.osl 1 0 0 rn] [wab ms,boxW rows]).eval:=by cases q<;>kernel_rfl
def bodyQ (q:Option Int) {l:List AV} (hl:l.length<2147483648) (hf:∀ i,i<l.length->foQ q (l.getD i .top)=true):Does Tryz.prog (xIO.at 0) pB (fun e s=>e=.ret/\s=⟨mkTs 45 ([4,5].zip [.own 0 0 0 0,.list 1 (fqQ q l).2]),[wab ((fqQ q l).1.map waa)]⟩) ⟨[.list 3 l,pvQ q]++List.replicate 43 (.tuple []),[]⟩:=by
 refine xhN (xoB [0,1] _) ?_;rw [yQa,xGI];refine xjv (yQ0 q l) (xjv (yQ1 q l) (xjv (yQ2 q l) (xgk (xjv (yQ3 q l) ?_))));have hw:=xgv (yQn q l);rw [yQm] at hw;refine xhN hw (xqN (xcO (loopQ q hl hf) fun e s ⟨he,hs⟩=>?_))
 subst he hs;show Does Tryz.prog (xIO.at 0) _ _ _;refine xjv (yQ12 q l _ _ _ _) (xv3 (xyF ?_));refine ⟨_,?_,rfl,rfl⟩;exact endW (fqQ q l).2 ((fqQ q l).1.map waa)
def xuj (q:Option Int) {l:List AV} (hl:l.length<2147483648) (hf:∀ i,i<l.length->foQ q (l.getD i .top)=true):GoodM Tryz.prog xIO 60 [.list 3 l,pvQ q] [] (.tuple [.own (.b 0) 0 0 0,.list 1 (fqQ q l).2]) [wan ((fqQ q l).1.map waa)] :=
 xCl (bodyQ q hl hf)
def xnq (l:List AV):Bool:=decide (l.length<2147483648)&&(List.range l.length).all fun i=>foQ none (l.getD i .top)
def xg0 (l:List AV):List AV:=(fqQ none l).1.map waa
def xqG (l:List AV):List AV:=(fqQ none l).2
def xo3 (l:List AV) (n:Int):Bool:=decide (l.length<2147483648)&&(List.range l.length).all fun i=>foQ (some n) (l.getD i .top)
def xnP (l:List AV) (n:Int):List AV:=(fqQ (some n) l).1.map waa
def xon (l:List AV) (n:Int):List AV:=(fqQ (some n) l).2
def xA6:List AV->List Box->Option (Bool×AV×List Box):=omOf (xIQ (xI4 3 xIT) (xIQ (sEq (xIt 58 xIR)) xIS)) xIR fun (l,_) _=>(xnq l,.tuple [.own (.b 0) 0 0 0,.list 1 (xqG l)],[⟨0,2,mapTy 67,xg0 l,true,true⟩])
def xA5:List AV->List Box->Option (Bool×AV×List Box):=omOf (xIQ (xI4 3 xIT) (xIQ (sEq (xIt 59 (xIP (xIt 1099511627776 (xIP (pInt .i64) xIR)) xIR))) xIS)) xIR fun (l,(((n,_),_),_)) _=>(xo3 l n,.tuple [.own (.b 0) 0 0 0,.list 1 (xon l n)],[⟨0,2,mapTy 67,xnP l n,true,true⟩])
def xFB:OmOk Tryz.prog xIO 60 xA6:=xjK fun b c r H' h=>by
 obtain ⟨l,_,_⟩:=b;obtain ⟨h1,h2⟩:=Prod.mk.inj h;obtain ⟨rfl,rfl⟩:=Prod.mk.inj h2;simp only [xnq,zf,zl,zI,List.mem_range] at h1;exact xuj none h1.1 h1.2
def xFA:OmOk Tryz.prog xIO 60 xA5:=xjK fun b c r H' h=>by
 obtain ⟨l,⟨⟨n,_⟩,_⟩,_⟩:=b;obtain ⟨h1,h2⟩:=Prod.mk.inj h;obtain ⟨rfl,rfl⟩:=Prod.mk.inj h2;simp only [xo3,zf,zl,zI,List.mem_range] at h1;exact xuj (some n) h1.1 h1.2
noncomputable def EKPer:Env:=(xse.E.withM 60 xA6).withM 60 xA5
def xBD:xH6 Tryz.prog xIO EKPer:=(xse.ok.withM xFB).withM xFA
def xBC:EO:=EO.mk EKPer xBD
end Go.Sim.M
end
noncomputable section
set_option maxRecDepth 100000
namespace Go.Sim.M
open Go.IntKind (i64 u64 u8)
open Go.RowKit Go.Proofs
def xkz {T:Type} (a b:LA) (δ:T) (κ:LA×LA->T):T:=br (decide (a.length*8<=140737488355328)&&decide (a.length<=4611686018427387904)) (br ((xhp b).isSome) (br (decide (0+a.length<=a.length)&&true&&true) (κ (List.take a.length (List.drop 0 a),(xhp b).getD [])) δ) δ) δ
def xbh (a b:LA):=xkz a b none some
def xEz:EO:=xBC.f Tryz.func19 11 0 [] [] lk0 (u1 (xI5 (u2 (uL 1) (uL 3)))) (fun ((a,b,_),_) _=>xkz a b) (fun _ p=>AV.agg [AV.list 1 p.1,AV.list 3 p.2]) ([],[])
def xmT {T:Type} (a b d c:LA) (δ:T) (κ:LA×LA->T):T:=br (decide (a.length<=1099511627776)&&(xpF b c).isSome) (κ (a,(xpF b c).getD [])) δ
def xfQ (a b c d:LA):=xmT a b c d none some
def xEA:EO:=xEz.f Tryz.func13 8 0 [] [] lk0 (u2 (xI5 (u2 (uL 1) (uL 3))) (xI5 (u2 (uL 1) (uL 3)))) (fun ((a,b,_),(c,d,_),_) _=>xmT a b c d) (fun _ p=>AV.agg [AV.list 1 p.1,AV.list 3 p.2]) ([],[])
def xl4 {T:Type} (a b d c:LA) (δ:T) (κ:LA×LA->T):T:=br (decide (a.length<=1099511627776)&&(xpH b c).isSome) (κ (a,(xpH b c).getD [])) δ
def xhy (a b c d:LA):=xl4 a b c d none some
def xEB:EO:=xEA.f Tryz.func15 8 0 [] [] lk0 (u2 (xI5 (u2 (uL 1) (uL 3))) (xI5 (u2 (uL 1) (uL 3)))) (fun ((a,b,_),(c,d,_),_) _=>xl4 a b c d) (fun _ p=>AV.agg [AV.list 1 p.1,AV.list 3 p.2]) ([],[])
def xjX {T:Type} (a b d c:LA) (δ:T) (κ:LA×LA->T):T:=br (decide (a.length<=1099511627776)&&(xpG b c).isSome) (κ (a,(xpG b c).getD [])) δ
def xiI (a b c d:LA):=xjX a b c d none some
def xsf:EO:=xEB.f Tryz.func17 8 0 [] [] lk0 (u2 (xI5 (u2 (uL 1) (uL 3))) (xI5 (u2 (uL 1) (uL 3)))) (fun ((a,b,_),(c,d,_),_) _=>xjX a b c d) (fun _ p=>AV.agg [AV.list 1 p.1,AV.list 3 p.2]) ([],[])
def xdc (h a:LA) (b:Int):=(xa0 ((xjt h (gC a b 0).toList).getD [])).getD []
def xdd (a:LA) (b:Int):=(xa0 (gC a b 0).toList).getD []
def xhh {T:Type} (n:Int) (k:LA) (m:Nat) (h o:LA) (p q:Int) (d:LA) (j:Int) (l:LA) (c:Int) (g i b e a f:LA) (δ:T) (κl:(LA×Int×LA×LA×LA×LA×LA×LA)->T) (κr:(LA×LA×LA×LA×LA×LA×LA)->T):T:=br (decide (c<j)) (br (ixI d c) (br (ixS d c (Sh.list 3) 0) (br ((xa0 (gC d c 0).toList).isSome) (br (decide ((xdd d c).length<=4611686018427387904)&&(!xIB a (xdd d c) || xIM 2 (xIo AV.nils a (xdd d c)))) (br ((xjt h (gC d c 0).toList).isSome) (br ((xa0 ((xjt h (gC d c 0).toList).getD [])).isSome) (br (decide ((xdc h d c).length<=4611686018427387904)&&(!xIB b (xdc h d c) || xIM 2 (xIo AV.nils b (xdc h d c)))) (br ((xft (lookL a (xdd d c)) (lookL b (xdc h d c))).isSome) (br ((xft l ((xft (lookL a (xdd d c)) (lookL b (xdc h d c))).getD [])).isSome) (κl ((xft l ((xft (lookL a (xdd d c)) (lookL b (xdc h d c))).getD [])).getD [],i64.wrap (c+1),g,i,b,e,a,f)) δ) δ) δ) δ) δ) δ) δ) δ) δ) (κr (l,g,i,b,e,a,f))
def xdn (n:Int) (e:LA) (f:Nat) (h g:LA) (i j:Int) (k:LA) (m:Int):StT (LA×Int×LA×LA×LA×LA×LA×LA) (LA×LA×LA×LA×LA×LA×LA):=fun (l,o,p,q,b,c,a,d)=>xhh n e f h g i j k m l o p q b c a d none inL inR
def xeV:=xsf.l 110 0 [10000034,11000005,8000000] [] Tryz.f23 1 lk0 [2,4,5,8,10,12,13,14,16,17,56,57,58,67,68,69] [2,4,5,8,10,12,13,14,16,17,56,57,58] [(14,3,54),(14,3,54)] (xIP (xI1 0 0 0 0) (xIP (xI1 1 0 0 0) (xIP (xIt 1099511627776 (q1 qI)) (xIP (xI1 2 0 0 0) (xIP (xI1 3 0 0 0) (xIP (xI1 4 0 0 0) (q10 (qL 1) (xI0 5 0 0) (qL 3) (qL 2) (qL 1) qI qI (qL 1) qI qI))))))) (q6 (qB 0 2 25 (q1 (xI2 (q2 (qL 1) (qL 3))))) (qB 0 2 25 (q1 (xI2 (q2 pNils pNils)))) (xI3 0 2 1208925819614917004623872 true true xIT) (xI3 0 2 1208925819614917004623872 true true xIT) (xI3 0 2 1208925819614917004623872 true true xIT) (qB 0 3 54 xIT)) (fun (_,_,(n,_),_,_,_,d,e,h,l,g,i,j,k,m,o,_) (((q,r,_),_),((_,_,_),_),b,c,a,f,_)=>(xdn n d e h g i j k m,(l,o,q,r,b,c,a,f),fun p=>(.leaf (.exit 2) [AV.own 0 0 0 0,AV.own 1 0 0 0,AV.func 1099511627776 [AV.int .i64 n],AV.own 2 0 0 0,AV.own 3 0 0 0,AV.own 4 0 0 0,AV.list 1 d,AV.osl 5 0 0 e,AV.list 3 h,AV.list 2 p.1,AV.list 1 g,AV.int .i64 i,AV.int .i64 j] [bF 0 2 25 [AV.agg [AV.list 1 p.2.1,AV.list 3 p.2.2.1]],bF 0 2 25 [AV.agg [AV.nils,AV.nils]],⟨0,2,1208925819614917004623872,p.2.2.2.1,true,true⟩,⟨0,2,1208925819614917004623872,p.2.2.2.2.1,true,true⟩,⟨0,2,1208925819614917004623872,p.2.2.2.2.2.1,true,true⟩,bF 0 3 54 p.2.2.2.2.2.2]))) ([],[],[],[],[],[],[]) fun (_,_,(n,_),_,_,_,d,e,h,_,g,i,j,k,m,_,_) _ (l,o,q,r,b,c,a,f)=>((((),(),(n,()),(),(),(),d,e,h,l,g,i,j,k,m,o,()),(((q,r,()),()),(((),(),()),()),b,c,a,f,())),xhh n d e h g i j k m l o q r b c a f none)
def xhi {T:Type} (n:Int) (l h m:LA) (o p:Int) (g:LA) (k:Int) (f:Nat) (e:Int) (i j b c a d:LA) (δ:T) (κl:(Nat×Int×LA×LA×LA×LA×LA×LA)->T) (κr:(Nat×LA×LA×LA×LA×LA×LA)->T):T:=br (decide (e<k)) (br (ixI g e) (br (ixT g e 2 [Sh.int .i64,Sh.int .i64] 0) (br (rmB f d 1 40) (κl (f+1,i64.wrap (e+1),i,j,b,c,a,d++[AV.agg [AV.list 3 h,AV.int .i64 (gC g e 0).toInt,AV.int .i64 (gC g e 1).toInt]])) δ) δ) δ) (κr (f,i,j,b,c,a,d))
def xdo (n:Int) (e h g:LA) (i j:Int) (k:LA) (l:Int):StT (Nat×Int×LA×LA×LA×LA×LA×LA) (Nat×LA×LA×LA×LA×LA×LA):=fun (f,m,o,p,b,c,a,d)=>xhi n e h g i j k l f m o p b c a d none inL inR
def xgA:=xsf.l 110 0 [10000034,11000005,8000000] [(13,xeV.lp)] Tryz.f23 2 lk0 [2,4,5,8,10,12,13,14,16,56,57,58,87,88,89] [2,4,5,8,10,12,13,14,56,57,58] [(14,3,54),(14,3,54)] (xIP (xI1 0 0 0 0) (xIP (xI1 1 0 0 0) (xIP (xIt 1099511627776 (q1 qI)) (xIP (xI1 2 0 0 0) (xIP (xI1 3 0 0 0) (q10 (xI1 4 0 0 0) (qL 1) (xI0 5 0 0) (qL 3) (qL 1) qI qI (qL 2) qI qI)))))) (q6 (qB 0 2 25 (q1 (xI2 (q2 (qL 1) (qL 3))))) (qB 0 2 25 (q1 (xI2 (q2 pNils pNils)))) (xI3 0 2 1208925819614917004623872 true true xIT) (xI3 0 2 1208925819614917004623872 true true xIT) (xI3 0 2 1208925819614917004623872 true true xIT) (qB 0 3 54 xIT)) (fun (_,_,(n,_),_,_,_,d,f,h,g,i,j,k,m,o,_) (((q,r,_),_),((_,_,_),_),b,c,a,e,_)=>(xdo n d h g i j k m,(f,o,q,r,b,c,a,e),fun p=>(.leaf (.exit 4) [AV.own 0 0 0 0,AV.own 1 0 0 0,AV.func 1099511627776 [AV.int .i64 n],AV.own 2 0 0 0,AV.own 3 0 0 0,AV.own 4 0 0 0,AV.list 1 d,AV.osl 5 0 0 p.1,AV.list 1 g,AV.int .i64 i,AV.int .i64 j] [bF 0 2 25 [AV.agg [AV.list 1 p.2.1,AV.list 3 p.2.2.1]],bF 0 2 25 [AV.agg [AV.nils,AV.nils]],⟨0,2,1208925819614917004623872,p.2.2.2.1,true,true⟩,⟨0,2,1208925819614917004623872,p.2.2.2.2.1,true,true⟩,⟨0,2,1208925819614917004623872,p.2.2.2.2.2.1,true,true⟩,bF 0 3 54 p.2.2.2.2.2.2]))) (0,[],[],[],[],[],[]) fun (_,_,(n,_),_,_,_,d,_,h,g,i,j,k,m,_,_) _ (f,o,q,r,b,c,a,e)=>((((),(),(n,()),(),(),(),d,f,h,g,i,j,k,m,o,()),(((q,r,()),()),(((),(),()),()),b,c,a,e,())),xhi n d h g i j k m f o q r b c a e none)
def xdI (a:LA) (b:Int):=(xa0 (gC a b 0).toList).getD []
def xbz (n:Int) (b e:LA) (i:Int) (h:Nat) (f:Int) (j k d a c g:LA):=Iter (xdn n b h (gC e f 0).toList e i f b (↑b.length:Int)) ((xib (lookL a (xdI e f))).getD [],0,j,k,d,a,c,g)
def xb2 (n:Int) (e g:LA) (i:Int) (f:Nat) (h:Int) (j k b c a d:LA):=Iter (xdo n e (gC g h 0).toList g i h (((xbz n e g i f h j k b c a d).getD ([],[],[],[],[],[],[])).fst) (↑(((xbz n e g i f h j k b c a d).getD ([],[],[],[],[],[],[])).fst).length:Int)) (f,0,(((xbz n e g i f h j k b c a d).getD ([],[],[],[],[],[],[])).snd).fst,((((xbz n e g i f h j k b c a d).getD ([],[],[],[],[],[],[])).snd).snd).fst,(((((xbz n e g i f h j k b c a d).getD ([],[],[],[],[],[],[])).snd).snd).snd).fst,((((((xbz n e g i f h j k b c a d).getD ([],[],[],[],[],[],[])).snd).snd).snd).snd).fst,(((((((xbz n e g i f h j k b c a d).getD ([],[],[],[],[],[],[])).snd).snd).snd).snd).snd).fst,(((((((xbz n e g i f h j k b c a d).getD ([],[],[],[],[],[],[])).snd).snd).snd).snd).snd).snd)
def xhg {T:Type} (n:Int) (h g:LA) (i:Int) (f:Nat) (e:Int) (j k c a b d:LA) (δ:T) (κl:(Nat×Int×LA×LA×LA×LA×LA×LA)->T) (κr:(Nat×LA×LA×LA)->T):T:=br (decide (e<i)) (br (ixI g e) (br (ixS g e (Sh.list 3) 0) (br ((xa0 (gC g e 0).toList).isSome) (br (decide ((xdI g e).length<=4611686018427387904)&&(!xIB a (xdI g e) || xIM 2 (xIo AV.nils a (xdI g e)))) (br ((xib (lookL a (xdI g e))).isSome) (br ((xbz n h g i f e j k c a b d).isSome) (br ((xb2 n h g i f e j k c a b d).isSome) (κl (((xb2 n h g i f e j k c a b d).getD (0,[],[],[],[],[],[])).fst,i64.wrap (e+1),(((xb2 n h g i f e j k c a b d).getD (0,[],[],[],[],[],[])).snd).fst,((((xb2 n h g i f e j k c a b d).getD (0,[],[],[],[],[],[])).snd).snd).fst,(((((xb2 n h g i f e j k c a b d).getD (0,[],[],[],[],[],[])).snd).snd).snd).fst,((((((xb2 n h g i f e j k c a b d).getD (0,[],[],[],[],[],[])).snd).snd).snd).snd).fst,(((((((xb2 n h g i f e j k c a b d).getD (0,[],[],[],[],[],[])).snd).snd).snd).snd).snd).fst,(((((((xb2 n h g i f e j k c a b d).getD (0,[],[],[],[],[],[])).snd).snd).snd).snd).snd).snd)) δ) δ) δ) δ) δ) δ) δ) (κr (f,j,k,d))
def xdm (n:Int) (e g:LA) (h:Int):StT (Nat×Int×LA×LA×LA×LA×LA×LA) (Nat×LA×LA×LA):=fun (f,i,j,k,b,c,a,d)=>xhg n e g h f i j k b c a d none inL inR
def xmz:=xsf.l 110 0 [10000034,11000005,8000000] [(13,xeV.lp),(18,xgA.lp)] Tryz.f23 0 (lks (lkC xeV.ok (lkC xgA.ok lkN))) [2,4,5,8,10,12,13,14,56,57,58] [2,4,5,14] [(14,3,54),(14,3,54)] (xIP (xI1 0 0 0 0) (q10 (xI1 1 0 0 0) (xIt 1099511627776 (q1 qI)) (xI1 2 0 0 0) (xI1 3 0 0 0) (xI1 4 0 0 0) (qL 1) (xI0 5 0 0) (qL 1) qI qI)) (q6 (qB 0 2 25 (q1 (xI2 (q2 (qL 1) (qL 3))))) (qB 0 2 25 (q1 (xI2 (q2 pNils pNils)))) (xI3 0 2 1208925819614917004623872 true true xIT) (xI3 0 2 1208925819614917004623872 true true xIT) (xI3 0 2 1208925819614917004623872 true true xIT) (qB 0 3 54 xIT)) (fun (_,_,(n,_),_,_,_,e,f,g,h,i,_) (((j,k,_),_),((_,_,_),_),b,c,a,d,_)=>(xdm n e g h,(f,i,j,k,b,c,a,d),fun p=>(.leaf (.exit 0) [AV.own 0 0 0 0,AV.own 1 0 0 0,AV.func 1099511627776 [AV.int .i64 n],AV.osl 2 0 0 p.1] [bF 0 2 25 [AV.agg [AV.list 1 p.2.1,AV.list 3 p.2.2.1]],bF 0 2 25 [AV.agg [AV.nils,AV.nils]],bF 0 3 54 p.2.2.2]))) (0,[],[],[]) fun (_,_,(n,_),_,_,_,e,_,g,h,_,_) _ (f,i,j,k,b,c,a,d)=>((((),(),(n,()),(),(),(),e,f,g,h,i,()),(((j,k,()),()),(((),(),()),()),b,c,a,d,())),xhg n e g h f i j k b c a d none)
def xhZ (a b:LA):Int:=if i64.wrap ((↑a.length:Int) - (↑b.length:Int))<(↑a.length:Int) then i64.wrap ((↑a.length:Int) - (↑b.length:Int)) else (↑a.length:Int)
def xcq (a b:LA):Int:=if xhZ a b>0 then xhZ a b else 0
def xhY (a b c d:LA):=Iter (xdm (xcq a c) (xqG d) (xon b (xcq a c)) (↑(xon b (xcq a c)).length:Int)) (0,0,a,b,xg0 b,xnP b (xcq a c),xg0 d,[])
def xej (a b c d:LA):=(xhY a b c d).getD (0,[],[],[])
def xlv (a b c d:LA):=xhp (List.take ((xej a b c d).fst) (List.drop 0 (((xej a b c d).snd).snd.snd)))
def xiH (a c b d:LA):=List.take ((xcq a b).toNat - 0) (List.drop 0 (((xej a c b d).snd).fst))
noncomputable def xgB (a b c d:LA):Nat:=0+(xiH a b c d).length
def xl3 {T:Type} (a c b d:LA) (δ:T) (κ:LA×LA->T):T:=br (xnq c) (br (xo3 c (xcq a b)) (br (xnq d) (br ((xhY a c b d).isSome) (br (decide (0<=xcq a b)&&decide (xcq a b<=(↑(((xej a c b d).snd).fst).length:Int))&&true) (br (decide (xgB a c b d*8<=140737488355328)&&decide (xgB a c b d<=4611686018427387904)) (br (decide (0+((xej a c b d).fst)<=(((xej a c b d).snd).snd.snd).length)&&true) (br ((xlv a c b d).isSome) (br (decide (0+xgB a c b d<=([]++xiH a c b d).length)&&true&&true) (κ (List.take (xgB a c b d) (List.drop 0 ([]++xiH a c b d)),(xlv a c b d).getD [])) δ) δ) δ) δ) δ) δ) δ) δ) δ
def xlu (a b c d:LA):=xl3 a b c d none some
def xz3:EO:=xsf.f Tryz.func23 110 0 [10000034,11000005,8000000] [(13,xeV.lp),(18,xgA.lp),(9,xmz.lp)] (lks (lkC xmz.ok (lkC xeV.ok (lkC xgA.ok lkN)))) (u2 (xI5 (u2 (uL 1) (uL 3))) (xI5 (u2 (uL 1) (uL 3)))) (fun ((a,b,_),(c,d,_),_) _=>xl3 a b c d) (fun _ p=>AV.agg [AV.list 1 p.1,AV.list 3 p.2]) ([],[])
def xf9 {T:Type} (b i:Int) (d:LA) (c:Nat) (a:LA) (δ:T) (κl:(Int×LA×Nat×LA)->T) (κr:(Nat×LA×LA)->T):T:=br (decide (i<b)) (br (rmB c a 1 8) (κl (i64.wrap (i+1),d,c+1,a++[AV.int .i64 1])) δ) (κr (c,d,a))
def xcM (a:Int):StT (Int×LA×Nat×LA) (Nat×LA×LA):=fun (i,c,d,b)=>xf9 a i c d b none inL inR
def xli:=xz3.l 20 0 [] [] Tryz.f40 0 lk0 [0,4,5,6] [4,5] [(5,1,3)] (q4 qI (xI1 0 0 0 0) (xI1 1 0 0 0) qI) (q3 (qB 0 2 25 (q1 (xI2 (q2 pNils pNils)))) (xI3 0 2 25 false false (q1 (xI2 (q2 (xI0 2 0 0) (qL 3))))) (qB 0 1 3 xIT)) (fun (a,_,_,i,_) (((_,_,_),_),((c,d,_),_),b,_)=>(xcM a,(i,d,c,b),fun p=>(.leaf (.exit 0) [AV.own 0 0 0 0,AV.own 1 0 0 0] [bF 0 2 25 [AV.agg [AV.nils,AV.nils]],⟨0,2,25,[AV.agg [AV.osl 2 0 0 p.1,AV.list 3 p.2.1]],false,false⟩,bF 0 1 3 p.2.2]))) (0,[],[]) fun (a,_,_,_,_) _ (i,d,c,b)=>(((a,(),(),i,()),((((),(),()),()),((c,d,()),()),b,())),xf9 a i d c b none)
def xjT (a:Int) (l:LA):=Iter (xcM a) (0,l,0,[])
def xep (a:Int) (l:LA):=(xjT a l).getD (0,[],[])
def xkv {T:Type} (a:Int) (l:LA) (δ:T) (κ:LA×LA->T):T:=br ((xjT a l).isSome) (br (decide (0+((xep a l).fst)<=(((xep a l).snd).snd).length)&&true&&true) (κ (List.take ((xep a l).fst) (List.drop 0 (((xep a l).snd).snd)),((xep a l).snd).fst)) δ) δ
def xdZ (a:Int) (l:LA):=xkv a l none some
def xzZ:EO:=xz3.f Tryz.func40 20 0 [] [(3,xli.lp)] (lk1 xli.ok) (u2 uI (uL 3)) (fun (a,l,_) _=>xkv a l) (fun _ p=>AV.agg [AV.list 1 p.1,AV.list 3 p.2]) ([],[])
def xiE {T:Type} (b:LA) (i c d f g:Int) (e:Nat) (a:LA) (δ:T) (κl:(Int×Int×Int×Int×Int×Nat×LA)->T) (κr:(Int×Int×Nat×Int×Int×LA)->T):T:=br (decide (i<b.length)) (br (ixI b i) (br (ixS b i (Sh.int .i64) 0) (br (rmB e a 1 32) (κl (i64.wrap (i+1),c,d,f,g,e+1,a++[AV.agg [AV.int .i64 1,AV.int .i64 (gC b i 0).toInt,AV.str []]])) δ) δ) δ) (κr (c,d,e,f,g,a))
def xdY (d:LA):StT (Int×Int×Int×Int×Int×Nat×LA) (Int×Int×Nat×Int×Int×LA):=fun (i,b,c,e,f,g,a)=>xiE d i b c e f g a none inL inR
def xnI:=xzZ.l 30 0 [] [] Tryz.f41 0 lk0 [2,6,7,8] [6,7] [(7,3,87)] (q4 (qL 1) (xI1 0 0 0 0) (xI1 1 0 0 0) qI) (q3 (qB 0 3 54 (q1 (xI2 (q3 pNils qI qI)))) (xI3 0 3 54 false false (q1 (xI2 (q3 (xI0 2 0 0) qI qI)))) (qB 0 3 87 xIT)) (fun (d,_,_,i,_) (((_,b,c,_),_),((e,f,g,_),_),a,_)=>(xdY d,(i,b,c,f,g,e,a),fun p=>(.leaf (.exit 0) [AV.own 0 0 0 0,AV.own 1 0 0 0] [bF 0 3 54 [AV.agg [AV.nils,AV.int .i64 p.1,AV.int .i64 p.2.1]],⟨0,3,54,[AV.agg [AV.osl 2 0 0 p.2.2.1,AV.int .i64 p.2.2.2.1,AV.int .i64 p.2.2.2.2.1]],false,false⟩,bF 0 3 87 p.2.2.2.2.2]))) (0,0,0,0,0,[]) fun (d,_,_,_,_) _ (i,b,c,f,g,e,a)=>(((d,(),(),i,()),((((),b,c,()),()),((e,f,g,()),()),a,())),xiE d i b c f g e a none)
def xmM (a b:Int) (c:LA):=Iter (xdY c) (0,0,0,a,b,0,[])
def xfr (a b:Int) (c:LA):=((xmM a b c).getD (0,0,0,0,0,[])).snd.snd
def xnJ {T:Type} (a b:Int) (c:LA) (δ:T) (κ:LA×Int×Int->T):T:=br ((xmM a b c).isSome) (br (decide (0+((xfr a b c).fst)<=((((xfr a b c).snd).snd).snd).length)&&true&&true) (κ (List.take ((xfr a b c).fst) (List.drop 0 ((((xfr a b c).snd).snd).snd)),((xfr a b c).snd).fst,(((xfr a b c).snd).snd).fst)) δ) δ
def xaS (a b:Int) (c:LA):=xnJ a b c none some
def xEj:EO:=xzZ.f Tryz.func41 30 0 [] [(3,xnI.lp)] (lk1 xnI.ok) (u3 uI uI (uL 1)) (fun (a,b,c,_) _=>xnJ a b c) (fun _ p=>AV.agg [AV.list 3 p.1,AV.int .i64 p.2.1,AV.int .i64 p.2.2]) ([],0,0)
def xio:=(xaS 0 6 [AV.int .i64 1,AV.int .i64 5]).getD ([],0,0)
def xip:=(xaS 0 9 [AV.int .i64 2,AV.int .i64 5]).getD ([],0,0)
def xiq:=(xaS 3 9 [AV.int .i64 1,AV.int .i64 6]).getD ([],0,0)
def xgu:=(xaS 0 9 [AV.int .i64 1]).isSome
def xir:=(xaS 7 9 [AV.int .i64 1]).getD ([],0,0)
def xis:=(xaS 8 9 [AV.int .i64 2]).getD ([],0,0)
def xit:=(xaS 4 8 [AV.int .i64 6]).getD ([],0,0)
def xiu:=(xaS 4 5 [AV.int .i64 1]).getD ([],0,0)
def xiv:=(xaS 0 6 [AV.int .i64 1]).getD ([],0,0)
def xiw:=(xaS 0 4 [AV.int .i64 2]).getD ([],0,0)
def xeh:=(xaS 0 9 [AV.int .i64 1]).getD ([],0,0)
def xiy:=(xaS 2 7 [AV.int .i64 1]).getD ([],0,0)
def xiz:=(xaS 1 9 [AV.int .i64 5]).getD ([],0,0)
def xiA:=(xaS 0 5 [AV.int .i64 1]).getD ([],0,0)
def xiB:=(xaS 2 5 [AV.int .i64 1]).getD ([],0,0)
def xiC:=(xaS 4 7 [AV.int .i64 1]).getD ([],0,0)
def xiD:=(xaS 2 4 [AV.int .i64 1]).getD ([],0,0)
def xcP:=xeh.snd
def xih:=xdZ 2 [AV.agg [AV.list 3 xio.fst,AV.int .i64 xio.snd.fst,AV.int .i64 xio.snd.snd],AV.agg [AV.list 3 xiq.fst,AV.int .i64 xiq.snd.fst,AV.int .i64 xiq.snd.snd],AV.agg [AV.list 3 xip.fst,AV.int .i64 xip.snd.fst,AV.int .i64 xip.snd.snd]]
def xij:=xdZ 1 [AV.agg [AV.list 3 xiz.fst,AV.int .i64 xiz.snd.fst,AV.int .i64 xiz.snd.snd],AV.agg [AV.list 3 xit.fst,AV.int .i64 xit.snd.fst,AV.int .i64 xit.snd.snd]]
def xik:=xdZ 1 [AV.agg [AV.list 3 xeh.fst,AV.int .i64 xcP.fst,AV.int .i64 xcP.snd],AV.agg [AV.list 3 xiB.fst,AV.int .i64 xiB.snd.fst,AV.int .i64 xiB.snd.snd]]
def xin:=xdZ 1 [AV.agg [AV.list 3 xiC.fst,AV.int .i64 xiC.snd.fst,AV.int .i64 xiC.snd.snd]]
def xlg:=xih.getD ([],[])
def xlh:=xij.getD ([],[])
def xii:=xik.getD ([],[])
def xim:=xin.getD ([],[])
def xjA:=xlu xlg.fst xlg.snd xlh.fst xlh.snd
def xdW:=xii.snd
def xdX:=xii.fst
def xfd:=xim.snd
def xgt:=xim.fst
def xjz:=xb1 (xjA.getD ([],[])).snd [AV.agg [AV.list 3 xiv.fst,AV.int .i64 xiv.snd.fst,AV.int .i64 xiv.snd.snd],AV.agg [AV.list 3 xiw.fst,AV.int .i64 xiw.snd.fst,AV.int .i64 xiw.snd.snd],AV.agg [AV.list 3 xis.fst,AV.int .i64 xis.snd.fst,AV.int .i64 xis.snd.snd]]
def xjE:=xhy xdX xdW xgt xfd
def xjF:=xiI xdX xdW xgt xfd
def xjG:=xfQ xdX xdW xgt xfd
def xil:=xb1 ((xbh xdX xdW).getD ([],[])).snd [AV.agg [AV.list 3 xeh.fst,AV.int .i64 xcP.fst,AV.int .i64 xcP.snd]]
def xjB:=xb1 (xjE.getD ([],[])).snd [AV.agg [AV.list 3 xiA.fst,AV.int .i64 xiA.snd.fst,AV.int .i64 xiA.snd.snd],AV.agg [AV.list 3 xiD.fst,AV.int .i64 xiD.snd.fst,AV.int .i64 xiD.snd.snd],AV.agg [AV.list 3 xir.fst,AV.int .i64 xir.snd.fst,AV.int .i64 xir.snd.snd]]
def xjC:=xb1 (xjG.getD ([],[])).snd [AV.agg [AV.list 3 xeh.fst,AV.int .i64 xcP.fst,AV.int .i64 xcP.snd],AV.agg [AV.list 3 xiy.fst,AV.int .i64 xiy.snd.fst,AV.int .i64 xiy.snd.snd],AV.agg [AV.list 3 xiu.fst,AV.int .i64 xiu.snd.fst,AV.int .i64 xiu.snd.snd]]
def xjD:=xb1 (xjF.getD ([],[])).snd xfd
def xmL {T:Type} (δ:T) (κ:Bool->T):T:=br (xgu) (br ((xaS 2 5 [AV.int .i64 1]).isSome) (br (xik.isSome) (br ((xaS 4 7 [AV.int .i64 1]).isSome) (br (xin.isSome) (br ((xaS 0 6 [AV.int .i64 1,AV.int .i64 5]).isSome) (br ((xaS 3 9 [AV.int .i64 1,AV.int .i64 6]).isSome) (br ((xaS 0 9 [AV.int .i64 2,AV.int .i64 5]).isSome) (br (xih.isSome) (br ((xaS 1 9 [AV.int .i64 5]).isSome) (br ((xaS 4 8 [AV.int .i64 6]).isSome) (br (xij.isSome) (br (xjG.isSome) (br (xgu) (br ((xaS 2 7 [AV.int .i64 1]).isSome) (br ((xaS 4 5 [AV.int .i64 1]).isSome) (br (xjC.isSome) (br (xjC.getD false) (br (xjE.isSome) (br ((xaS 0 5 [AV.int .i64 1]).isSome) (br ((xaS 2 4 [AV.int .i64 1]).isSome) (br ((xaS 7 9 [AV.int .i64 1]).isSome) (br (xjB.isSome) (br (xjB.getD false) (br (xjF.isSome) (br (xjD.isSome) (br (xjD.getD false) (br ((xbh xdX xdW).isSome) (br (xgu) (br (xil.isSome) (br (xil.getD false) (br (xjA.isSome) (br ((xaS 0 6 [AV.int .i64 1]).isSome) (br ((xaS 0 4 [AV.int .i64 2]).isSome) (br ((xaS 8 9 [AV.int .i64 2]).isSome) (br (xjz.isSome) (κ (xjz.getD false)) δ) δ) δ) δ) δ) (κ (false))) δ) δ) δ) (κ (false))) δ) δ) (κ (false))) δ) δ) δ) δ) δ) (κ (false))) δ) δ) δ) δ) δ) δ) δ) δ) δ) δ) δ) δ) δ) δ) δ) δ) δ
def xh8:Option (Bool):=xmL none some
def xEk:EO:=xEj.f Tryz.func11 87 0 [] [] lk0 xIS (fun _ _=>xmL) (fun _ p=>AV.bool p) false
def xbo (a b:LA):=((xbh a b).getD ([],[])).fst
def xbp (a b:LA):=((xbh a b).getD ([],[])).snd
def xd8 (a b c d:LA):=xbh ((xfQ a b c d).getD ([],[])).fst ((xfQ a b c d).getD ([],[])).snd
def xc9 (a b c d:LA):=xfQ (xbo a b) (xbp a b) ((xbh c d).getD ([],[])).fst ((xbh c d).getD ([],[])).snd
def xfZ (a b c d:LA):=(xd8 a b c d).getD ([],[])
def xfx (a b:LA):=(xbh (xbo a b) (xbp a b)).getD ([],[])
def xeg (a b:LA):=xia (xfx a b).fst (xfx a b).snd (xbo a b) (xbp a b)
def xc8 (a b c d:LA):=xbh ((xc9 a b c d).getD ([],[])).fst ((xc9 a b c d).getD ([],[])).snd
def xef (a b c d:LA):=xia (xfZ a b c d).fst (xfZ a b c d).snd ((xc8 a b c d).getD ([],[])).fst ((xc8 a b c d).getD ([],[])).snd
def xgg {T:Type} (a b c d:LA) (δ:T) (κ:Bool->T):T:=br ((xng a b c d).isSome) (br (!(xng a b c d).getD false) (br (xh8.isSome) (κ (xh8.getD false)) δ) (br ((xbh a b).isSome) (br ((xbh (xbo a b) (xbp a b)).isSome) (br ((xeg a b).isSome) (br ((xeg a b).getD false) (br ((xhy (xbo a b) (xbp a b) a b).isSome) (br ((↑((xhy (xbo a b) (xbp a b) a b).getD ([],[])).snd.length:Int)==0) (br ((xfQ a b c d).isSome) (br ((xd8 a b c d).isSome) (br ((xbh c d).isSome) (br ((xc9 a b c d).isSome) (br ((xc8 a b c d).isSome) (br ((xef a b c d).isSome) (br ((xef a b c d).getD false) (br (xh8.isSome) (κ (xh8.getD false)) δ) (κ (false))) δ) δ) δ) δ) δ) δ) (κ (false))) δ) (κ (false))) δ) δ) δ)) δ
def xhs (a b c d:LA):=xgg a b c d none some
def xoc:LA->Option (Bool×AV):=fnO (u2 (xI5 (u2 (uL 1) (uL 3))) (xI5 (u2 (uL 1) (uL 3)))) (fun ((a,b,_),(c,d,_),_) _=>xgg a b c d) (fun _ p=>AV.bool p) false
def xob:OcOk P0 xIO 8 xoc:=fnC xEk.ok Tryz.func8 40 0 [] [] lk0
end Go.Sim.M
end
