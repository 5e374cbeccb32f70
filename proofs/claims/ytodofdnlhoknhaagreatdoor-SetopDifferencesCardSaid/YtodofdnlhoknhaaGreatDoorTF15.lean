/- Part 15 of the proof of the law. -/
import Derived.Test.YtodofdnlhoknhaaGreatDoorTF14
import Derived.Maps.RangeRun
set_option linter.defProp false
set_option linter.unusedVariables false
set_option linter.unusedSimpArgs false
set_option linter.unnecessarySimpa false
noncomputable section
namespace Go.Sim
open Go.RowKit
variable {A':Nat->Prop}{H:List Box}{M M':Id->Option MB}{n:Nat}{w':World}
def Ev.mv{w:World}{A:Nat->Prop}{B:Nat}{av df:Nat->Prop}(hR:HR w A M B H)(he:Ev ⟨av,w,A,M,n,df⟩ w' A' M')(hn:H.length<=n):Mv w A M w' A' M':=
 ⟨he.size,fun b hb hA=>he.keep b hb (.inl hA),he.less,he.more,fun id m hm=>he.ids id m (by
  obtain ⟨bx,h1,_⟩:=hR.box id m hm;exact Nat.lt_of_lt_of_le (xne h1) hn) hm,⟨fun b hb q=>he.keep b hb (.inr q),he.src⟩⟩
variable {A0:Cx}{a:Act}{s:St}{w0:World}
def SR.grow{w:World}{A:Nat->Prop}(h:SR w0 A0 w A M s a)(hb:Below w.heap.size w w'):SR w0 A0 w' A M s a:=⟨h.base.trans (hb.mono h.base.size),h.outer,h.size,λ t ht=>(h.tmps t ht).grow hb,h.heap.grow hb,h.defers.same λ D hD=>hb.block D (xnh hD),h.ev.step ⟨hb.size,λ b q _=>hb.block b q,λ _ _ h=>h,λ _ _ h _=>h,MExt.refl M,.of_new hb λ _ _ h=>.inl h⟩⟩
def SR.door{w:World}{A:Nat->Prop}(h:SR w0 A0 w A M s a)(n:Nat):SR w0 ⟨A0.av,w,A,M,n,λ D=>A0.df D\/A0.w1.heap.size<=D⟩ w A M s a:=
 ⟨h.base,h.outer,h.size,h.tmps,h.heap,by
  obtain ⟨L,e1,e2,e3⟩:=h.defers;exact ⟨L,e1,e2,fun D hD=>⟨(e3 D hD).1,.inl (e3 D hD).2.1,(e3 D hD).2.2⟩⟩,Ev.refl (C:=⟨A0.av,w,A,M,n,_⟩)⟩
def SR.undoor{w:World}{A:Nat->Prop}{s':St}{a':Act}(h:SR w0 A0 w A M s a)(hn:s.heap.length<=n)(h':SR w0 ⟨A0.av,w,A,M,n,λ D=>A0.df D\/A0.w1.heap.size<=D⟩ w' A' M' s' a'):SR w0 A0 w' A' M' s' a'/\Mv w A M w' A' M':=by have q:=h'.ev.mv h.heap hn;refine⟨⟨h'.base,h'.outer,h'.size,h'.tmps,h'.heap,?_,h.ev.step q⟩,q⟩;obtain⟨L,e1,e2,e3⟩:=h'.defers;refine⟨L,e1,e2,λ D hD=>⟨(e3 D hD).1,?_,(e3 D hD).2.2⟩⟩;rcases(e3 D hD).2.1 with h1|h1;exact h1;exact .inr (Nat.le_trans h.ev.size h1)
structure Itr (w:World) (A:Nat->Prop) (M:Id->Option MB) (r bm:Nat) (e1 es:Array MapEntry) (clock:Nat) (seen:Array Nat) (kv:List (List UInt8×AV)) (done:List Nat):Prop where
 it:w.heap[r]?=some (.mapIter (some bm) clock seen clock)
 map:w.heap[bm]?=some (.map e1 clock)
 av:¬ A bm
 perm:MapP e1 es clock
 size:es.size=kv.length
 keys:∀(i:Nat)(x:MapEntry),es[i]?=some x->∃t:ByteArray,x.key=.string t/\(kv.getD i ([],.top)).1=t.data.toList
 vals:∀(i:Nat)(x:MapEntry),es[i]?=some x->Rel w A M x.val (kv.getD i ([],.top)).2
 seen:∀(i:Nat)(x:MapEntry),es[i]?=some x->(seen.contains x.born=true↔i∈done)
 nodup:done.Nodup
 lt:∀i,i∈done->i<kv.length
section
variable{P:Program}{w w':World}{A A':Nat->Prop}{M M':Id->Option MB}{r bm clock B:Nat}{e1 es:Array MapEntry}{seen:Array Nat}{kv:List (List UInt8 × AV)}{done:List Nat}{H:List Box}
def Itr.mv(h:Itr w A M r bm e1 es clock seen kv done)(hR:HR w A M B H)(hm:Mv w A M w' A' M'):Itr w' A' M' r bm e1 es clock seen kv done:=⟨(hm.touch.1 r (xnh h.it) (hR.not_box h.it Ψ Ψ)).trans h.it,(hm.keep bm (xnh h.map) h.av).trans h.map,λ hA=>h.av (hm.less bm (xnh h.map) hA),h.perm,h.size,h.keys,λ i x hx=>hm.rel (h.vals i x hx),h.seen,h.nodup,h.lt⟩
def getElem?_ext_lt{α:Type}{es:Array α}{i:Nat}{x:α}(h:es[i]?=some x):i<es.size:=by rcases zJ i es.size with h'|h';exact h';rw[Array.getElem?_eq_none h']at h;simp at h
def Itr.next(h:Itr w A M r bm e1 es clock seen kv done)(ty:TypeId):(done.Perm (List.range kv.length)/\(Instr.next (.pointer (some ⟨r,0,none⟩)) false ty).run P w=.ok (.tuple #[.bool false]) w) \/ ∃(i:Nat)(e:MapEntry)(w1:World)(q:Array Nat),i<kv.length/\i∉done/\es[i]?=some e/\Below w.heap.size w w1/\(∀a u,w.cell? a=some u->w1.cell? a=some u)/\w1.heap[r]?=some (.mapIter (some bm) clock seen clock)/\(Instr.next (.pointer (some ⟨r,0,none⟩)) false ty).run P w=.ok (.tuple #[.bool true,e.key,e.val]) (w1.putObj r (.mapIter (some bm) clock q clock))/\Itr (w1.putObj r (.mapIter (some bm) clock q clock)) A M r bm e1 es clock q kv (done++[i])/\(∀w2 A2 M2,Itr w2 A2 M2 r bm e1 es clock q kv (done++[i])->(Instr.entry (.pointer (some ⟨r,0,none⟩))).run P w2=.ok (.tuple #[e.key,e.val]) w2)/\(leftOf e1 q).size<(leftOf e1 seen).size:=by
 obtain⟨hp,Y,aa⟩:=h.perm;have ad:(e1.toList.map (·.born)).Nodup:=((hp.map _).nodup_iff).2 aa;have Q:∀i x,es[i]?=some x->i<kv.length:=λ i x hx=>by rw[<-h.size];exact getElem?_ext_lt hx
 rcases run_next_at (P:=P) w ty r bm clock clock seen e1 clock h.it h.map (λ x hx=>Y x (hp.mem_iff.1 hx)) (zd _)with⟨h0,J⟩|⟨e,he,w1,O,J⟩;refine .inl ⟨?_,J⟩;refine(List.perm_ext_iff_of_nodup h.nodup List.nodup_range).2 λ i=>⟨λ hi=>List.mem_range.2 (h.lt i hi),λ hi=>?_⟩;have hi':i<es.size:=by rw[h.size];exact List.mem_range.1 hi
 have hx:es[i]?=some es[i]:=by simp[hi']
 exact(h.seen i _ hx).1 (all_seen e1 seen h0 _ (hp.mem_iff.2 Ψ));obtain⟨Z,ac⟩:=mem_left he;obtain⟨i,hi⟩:=List.mem_iff_getElem?.1 (hp.mem_iff.1 Z);have hi:es[i]?=some e:=by simpa using hi
 have hb:Below w.heap.size w w1:=by rcases O with rfl|rfl;exact Below.refl _ _;exact⟨rfl,rfl,rfl,zd _,λ _ _=>rfl⟩
 have hc:∀a u,w.cell? a=some u->w1.cell? a=some u:=λ a u hu=>by rcases O with rfl|rfl<;>exact hu
 have hsz:w1.heap.size=w.heap.size:=by rcases O with rfl|rfl<;>rfl
 have W:w1.heap[r]?=some (.mapIter (some bm) clock seen clock):=by rcases O with rfl|rfl<;>exact h.it
 have ag:w1.heap[bm]?=some (.map e1 clock):=by rcases O with rfl|rfl<;>exact h.map
 have hne:bm≠r:=λ e=>by have:=h.map;rw[e,h.it]at this;simp at this
 have V:i∉done:=λ hd=>by rw[(h.seen i e hi).2 hd]at ac;cases ac
 have af:(w1.putObj r (.mapIter (some bm) clock (seen.push e.born) clock)).heap[bm]?=some (.map e1 clock):=(World.putObj_heap_other hne).trans ag;have ae:(w1.putObj r (.mapIter (some bm) clock (seen.push e.born) clock)).heap[r]?=some (.mapIter (some bm) clock (seen.push e.born) clock):=World.putObj_heap_same (xnh W);refine .inr ⟨i,e,w1,seen.push e.born,Q i e hi,V,hi,hb,hc,W,J,⟨ae,af,h.av,h.perm,h.size,h.keys,λ k x hx=>?_,λ k x hx=>?_,?_,λ k hk=>?_⟩,λ w2 A2 M2 h2=>run_entry_at _ r bm clock seen e1 clock e h2.it h2.map Z ad,left_shrinks e1 seen e he⟩;exact((h.vals k x hx).grow hb).turn Ψ (xrU W ⟨by simp,by simp⟩);rw[contains_push,Bool.or_eq_true,h.seen k x hx,zG,zv,beq_iff_eq];constructor;rintro(h1|h1);exact .inl h1;right;have hk:=getElem?_ext_lt hx;have ab:=getElem?_ext_lt hi;have e3:es[k]=x:=by simpa[hk]using hx
 have e4:es[i]=e:=by simpa[ab]using hi
 have:=(List.getElem_inj (i:=k) (j:=i) (h₀:=by simpa using hk) (h₁:=by simpa using ab) aa).1 (by simp[e3,e4,h1]);exact this;rintro(h1|rfl);exact .inl h1;right;rw[hi]at hx;simp only[z6]at hx;rw[hx];rw[List.nodup_append];exact⟨h.nodup,by simp,λ a ha c hc=>by simp only[zv]at hc;rintro rfl;exact V (hc▸ha)⟩;rcases zG.1 hk with hk|hk;exact h.lt k hk;simp only[zv]at hk;subst hk;exact Q k e hi
end
def stepI{σ ρ:Type}(step:σ->Nat->σ⊕ρ):σ⊕ρ->Nat->σ⊕ρ|.inl s,x=>step s x|.inr r,_=>.inr r
def xzg{σ ρ:Type}(step:σ->Nat->σ⊕ρ)(r:ρ):∀l:List Nat,l.foldl (stepI step) (.inr r)=.inr r|[]=>rfl|x::l=>by simp only[List.foldl_cons,stepI];exact xzg step r l
variable {P:Program}
def xwY{ro:Option Nat}{c:Code}{Qc:Exit->Act->World->Prop}(I:Nat->Act->World->Prop)(J:∀n a w,I n a w->c.wpIn (wideR ro) 0 P (λ e a' w'=>match e with|.normal=>∃n',n'<n/\I n' a' w'|e=>Qc e a' w') a w)(n:Nat)(a:Act)(w:World)(h:I n a w):(Code.loop c).wpIn (wideR ro) 0 P Qc a w:=by(intro b k cs hb _ _;have hb:b.roundOf=ro:=hb;subst hb;have key:∀n a w,I n a w->∃e a' w',Qc e a' w'/\ArrivesIn (Machine.fenced P (wideR b.roundOf)) P (lone (b.atR a (.code c::.inLoop c::k)) cs w) b k cs e a' w':=by intro n;induction n using Nat.strongRecOn with|_ n ih=>intro a w hI;obtain⟨e,a₁,w₁,hq,q⟩:=J n a w hI b (.inLoop c::k) cs rfl (xvL _ _) (xtd _ _);cases e with|normal=>(obtain⟨n',k1,k2⟩:=hq;obtain⟨e₂,a₂,w₂,Q,O⟩:=ih n' k1 a₁ w₁ k2;exact⟨e₂,a₂,w₂,Q,.of_steps (StepsIn.trans q (.one (xo4 _ P _) stepR_inLoop)) O⟩)|exit id=>exact⟨_,a₁,w₁,hq,.pass (x:=.inLoop c) rfl (λ _ _=>.inl Ψ) q⟩|goto l=>exact⟨_,a₁,w₁,hq,.pass (x:=.inLoop c) rfl (λ _ _=>.inl Ψ) q⟩|ret=>exact⟨_,a₁,w₁,hq,.pass (x:=.inLoop c) rfl (λ _ _=>.inl Ψ) q⟩|panic ch=>exact⟨_,a₁,w₁,hq,.pass (x:=.inLoop c) rfl (λ _ _=>.inl Ψ) q⟩|outgrown=>exact⟨_,a₁,w₁,hq,.pass (x:=.inLoop c) rfl (λ _ _=>.inl Ψ) q⟩);obtain⟨e,a',w',hq,q⟩:=key n a w h;exact⟨e,a',w',hq,.of_steps (.one (xo4 _ P _) stepR_loop) q⟩
variable {Inv:IV}{ops:Array Oper}
def xhX(Y:InvOk Inv)(hI:Inv w0){Q:Exit->Act->World->Prop}{rest:List Oper}{l:List Oper}{s':St}(hp:Path (OpA P Inv) ops l s s'):∀{w:World}{A:Nat->Prop}{M:Id->Option MB}{a:Act},SR w0 A0 w A M s a->(∀a' w' A' M',SR w0 A0 w' A' M' s' a'->Mv w A M w' A' M'->wpList P ops Q rest a' w')->wpList P ops Q (l++rest) a w:=by induction hp with|nil s=>intro w A M a hs hK;exact hK a w A M hs Mv.refl|run hw h hr ih=>intro w A M a hs hK;have J:=xjJ (w:=w) (A:=A) (M:=M) hs.size (λ j O d _ _ q=>hs.tmps d q) hw;rw[List.cons_append];unfold wpList;rw[if_pos J];exact .inl (xlf Y hI h hs λ v w' A' M' V W=>ih V λ a2 w2 A2 M2 h2 m2=>hK a2 w2 A2 M2 h2 (W.trans m2))|skip hw hr ih=>intro w A M a hs hK;have J:=xjJ (w:=w) (A:=A) (M:=M) hs.size (λ j O d _ _ q=>hs.tmps d q) hw;rw[List.cons_append];unfold wpList;rw[if_neg (by rw[J];simp)];exact ih (hs.skip _) λ a2 w2 A2 M2 h2 m2=>hK a2 w2 A2 M2 h2 m2
def keyAt(bx:Box)(k:Nat):List UInt8:=match (bx.xs.getD k .top).cells.getD 0 .top with|.str s=>s|_=>[]
def valAt(nb:Nat)(bx:Box)(k:Nat):AV:=xNp nb k 1 bx.ty ((bx.xs.getD k .top).cells.getD 1 .top)
def kvOf(nb:Nat)(bx:Box):List (List UInt8×AV):=(List.range bx.xs.length).map λ k=>(keyAt bx k,valAt nb bx k)
def xmp(nb:Nat)(bx:Box):(kvOf nb bx).length=bx.xs.length:=by simp[kvOf]
def xsL{nb:Nat}{bx:Box}{k:Nat}(h:k<bx.xs.length):(kvOf nb bx).getD k ([],.top)=(keyAt bx k,valAt nb bx k):=by simp[kvOf,z7,h]
def rngCode(i9:Nat)(J:Array Oper)(ex i0:Nat)(q:Array Oper)(tb:Tmp)(ib i1:Nat)(Q:Array Oper)(O:Code):Code:=.seq (.region i9 J false) (.block ex (.loop (.seq (.region i0 q false) (.seq (.cond (.tmp tb) .skip (.exit ex)) (.block ib (.seq (.region i1 Q false) O))))))
def stepT(Lr:List AV)(tn tb te:Tmp)(k:List UInt8)(v:AV):List AV:=((Lr.set tn (.tuple [.bool true,.str k,v])).set tb (.bool true)).set te (.tuple [.str k,v])
section
variable{P:Program}{w:World}{A:Nat->Prop}{M:Id->Option MB}{B:Nat}{H:List Box}
variable {i j n:Nat}{v:Value}
def xGS(hR:HR w A M B H){ver:Nat}{bx:Box}(h:Rel w A M v (.own (.b n) ver i j))(O:H[n]?=some bx)(J:bx.ver=ver)(Q:xM3 bx.ty):∃m,M (.b n)=some m/\BoxAt w A M B (.b n) m bx/\v=.map (some m.b)/\0<m.cap:=by(obtain⟨m,hm,hv,h1,he⟩:=Rel.own_inv h;obtain⟨bx',h2,h3⟩:=hR.box _ m hm;rw[xbV,O]at h2;cases h2;refine⟨m,hm,h3,?_⟩;have q:xM3 m.ty:=by rw[<-h3.ty];exact xqk Q);have h0:=he (by rw[<-J,h3.ver]);unfold ptrOf at h0;rw[q]at h0;cases hc:m.cap with|zero=>rw[hc]at h0;simp only at h0;rw[h0]at h1;cases h1|succ k=>rw[hc]at h0;exact⟨h0,Nat.succ_pos k⟩
def xFh(hR:HR w A M B H){ver:Nat}{bx:Box}(h:Rel w A M v (.own (.b n) ver i j))(ae:H[n]?=some bx)(ac:bx.ver=ver)(Y:xM3 bx.ty)(ad:xM2 bx.ty 0=false)(ab:bx.sz=2)(aa:bx.pm)(af:bx.frz){t kt et:TypeId}(Z:P.underlying t=some (.map kt et)):∃bm e1 es clock,(Instr.range t v).run P w=.ok (.pointer (some ⟨w.heap.size,0,none⟩)) (w.alloc (.mapIter (some bm) clock #[] clock))/\Itr (w.alloc (.mapIter (some bm) clock #[] clock)) A M w.heap.size bm e1 es clock #[] (kvOf n bx) []:=by(obtain⟨m,hm,J,rfl,hcap⟩:=xGS hR h ae ac Y;obtain⟨es,clock,q,_,Q⟩:=J.mapKs Y ad ab aa hcap;obtain⟨e1,V,hP⟩:=q.heap;have O:=xg5 w (.mapIter (some m.b) clock #[] clock);have W:∀k x,es[k]?=some x->k<bx.xs.length:=λ k x hx=>by rw[<-q.size];exact getElem?_ext_lt hx);refine⟨m.b,e1,es,clock,run_range_map w t kt et m.b e1 clock Z V,heap_alloc_new w _,(O.block _ (xnh V)).trans V,λ hA=>?_,hP,by rw[q.size,xmp],λ k x hx=>?_,λ k x hx=>?_,λ k x _=>by simp,List.nodup_nil,by simp⟩;have:=(J.guard hcap).2 hA;rw[af]at this;cases this;obtain⟨t,h1,h2,_⟩:=q.keys k x hx;refine⟨t,h1,?_⟩;rw[xsL (W k x hx)];show keyAt bx k=_;unfold keyAt;rw[h2];rw[xsL (W k x hx)];exact((Q k x hx).unmv).grow O
end
def xy2{l:List Nat}(hn:l.Nodup)(hl:∀i,i∈l->i<n):∃l',(l++l').Perm (List.range n):=by refine⟨(List.range n).filter λ i=>!l.contains i,(List.perm_ext_iff_of_nodup ?_ List.nodup_range).2 λ i=>?_⟩;rw[List.nodup_append];refine⟨hn,List.nodup_range.filter _,λ a ha b hb=>?_⟩;rintro rfl;have:=(List.mem_filter.1 hb).2;simp[ha]at this;rw[zG,List.mem_filter,List.mem_range];constructor;rintro(h|h);exact hl i h;exact h.1;intro h;by_cases hi:i∈l;exact .inl hi;exact .inr ⟨h,by simp[hi]⟩
def xBu(ax:InvOk Inv){σ ρ:Type}{i9 ex i0 ib i1:Nat}{ae ak af:Array Oper}{a8:Code}{pre exts:List Oper}{o9 o0 o1 oe:Oper}{it tn tb te:Tmp}{tyM kt et:TypeId}{mo:Operand}
  (bi:ae.toList=pre++[o9]) (cc:noDefer ae) (c5:o9.op=.range tyM mo) (c7:o9.dst=some it) (c6:o9.guard=none) (ct:P.underlying tyM=some (.map kt et))
  (bn:ak.toList=[o0,o1]) (b0:noDefer ak) (bw:o0.op=.next (.tmp it) false) (cf:o0.dst=some tn) (cp:o0.guard=none) (cd:o1.op=.extract (.tmp tn) 0) (cb:o1.dst=some tb) (b4:o1.guard=none)
  (bk:af.toList=oe::exts) (ch:noDefer af) (c3:oe.op=.entry (.tmp it)) (cy:oe.dst=some te) (c4:oe.guard=none)
  (cm:it≠tn) (ck:it≠tb) (c9:tn≠tb)
  {s1:St} (cl:Path (OpA P Inv) ae pre s s1) {nb ver i j:Nat} (hm:s1.eval mo=.own (.b nb) ver i j) {bx:Box} (hb:(freeze s1.heap [nb])[nb]?=some bx) (b3:bx.ver=ver) (c0:xM3 bx.ty) (h0:xM2 bx.ty 0=false) (hsz:bx.sz=2) (co:bx.pm) (cw:bx.frz) (cv:(freeze s1.heap [nb]).length<=n) (Lf:σ->Nat->List AV) (Hf:σ->List Box) (Lo:ρ->List AV) (Ho:ρ->List Box) (step:σ->Nat->σ⊕ρ) (s0:σ)
  (a4:∀s,(Hf s).length<=n) (a6:∀s r,(Lf s r)[it]?=some (.gptr r)) (bz:∀s r,tn<(Lf s r).length) (b2:∀s r,tb<(Lf s r).length)
  (be:∀r,Weak n ⟨s1.tmps.set it (.gptr r),freeze s1.heap [nb]⟩ ⟨Lf s0 r,Hf s0⟩)
  (au:∀ (r:Nat) (done:List Nat) (s:σ) (k:Nat),k<bx.xs.length->k∉done->done.Nodup->(∀ i,i∈done->i<bx.xs.length)->done.foldl (stepI step) (.inl s0)=.inl s->∃ s2,Path (OpA P ⟨Inv.inv,n,Inv.top⟩) af exts ⟨stepT (Lf s r) tn tb te (keyAt bx k) (valAt nb bx k),Hf s⟩ s2 /\
   Does P ⟨Inv.inv,n,Inv.top⟩ a8 (fun e s'=>match step s k with
    |.inl s3=>e=.normal/\Weak n s' ⟨Lf s3 r,Hf s3⟩
    |.inr q=>e=.ret/\Weak n s' ⟨Lo q,Ho q⟩) s2) :
  Does P Inv (rngCode i9 ae ex i0 ak tb ib i1 af a8) (fun e s'=>∃ ord:List Nat,ord.Perm (List.range bx.xs.length)/\match ord.foldl (stepI step) (.inl s0) with
   |.inl s=>e=.normal/\∃r,s'=⟨((Lf s r).set tn (.tuple [.bool false])).set tb (.bool false),Hf s⟩
   |.inr q=>e=.ret/\s'=⟨Lo q,Ho q⟩) s:=by
 intro w0 A0 w A M a Qc hI c8 hs hQ ro cr;unfold rngCode;refine wpIn_seq (wpIn_region_list (xfr ro 0 _ (xdI cc) _ _ ?_));rw[bi];refine xhX ax hI cl hs λ a1 w1 A1 M1 a0 b8=>wpList_plain c6 λ K hK=>?_
 obtain⟨A2,ar,b5⟩:=a0.refreeze (HSub.freeze s1.heap [nb]);have bo:=ar.eval mo;rw[show St.eval ⟨s1.tmps,freeze s1.heap [nb]⟩ mo=s1.eval mo from by cases mo<;>rfl,hm]at bo
 obtain⟨bm,e1,es,clock,J,V⟩:=xFh ar.heap bo hb b3 c0 h0 hsz co cw ct;obtain⟨w3,bu⟩:∃w3,w3=w1.alloc (.mapIter (some bm) clock #[] clock):=⟨_,rfl⟩;rw[<-bu]at J V;have am:Below w1.heap.size w1 w3:=by rw[bu];exact xg5 w1 _
 obtain⟨r,hr⟩:∃r,r=w1.heap.size:=⟨_,rfl⟩;rw[<-hr]at J V;have Q:=ar.grow am;have Q:=Q.put (d:=some it) Q.base Q.outer Mv.refl Q.heap (Rel.gptr (w:=w3) (A:=A2) (M:=M1) r);have c2:w0.heap.size<=r:=by rw[hr];exact a0.base.size
 have cu:A0.w1.heap.size<=r:=by rw[hr];exact a0.ev.size
 unfold Oper.wp;simp only[execOp,c5,J,Sem.run_bind,Result.andThen_ok,Sem.run_pure];show K (a1.put o9.dst (.pointer (some ⟨r,0,none⟩))) w3;rw[c7];refine hK _ _ ?_;obtain⟨A4,M4,az⟩:=be r w0 _ w3 A2 M1 _ (zd n) (Q.door n);obtain⟨az,bb⟩:=Q.undoor cv az;have ap:=V.mv Q.heap bb;refine wpIn_block ?_;refine xwY (λ N a' w'=>∃done s' A' M' seen,SR w0 A0 w' A' M' ⟨Lf s' r,Hf s'⟩ a'/\Itr w' A' M' r bm e1 es clock seen (kvOf nb bx) done/\done.foldl (stepI step) (.inl s0)=.inl s'/\(leftOf e1 seen).size=N) ?_ _ _ _ ⟨[],s0,A4,M4,#[],az,ap,rfl,rfl⟩
 clear az ap bb V Q J am bu bo ar b5 hK a0 b8;rintro N a' w' ⟨done,s',A',M',seen,aj,an,Y,rfl⟩;have ci:a'.eval (.tmp it)=.pointer (some ⟨r,0,none⟩):=by
  have:=aj.eval (.tmp it);have e:St.eval ⟨Lf s' r,Hf s'⟩ (.tmp it)=.gptr r:=by show (Lf s' r).getD it .top=_;rw[z7,a6 s' r];rfl
  rw[e]at this;generalize a'.eval (.tmp it)=v at this;cases this;rfl
 refine wpIn_seq (wpIn_region_list (xfr ro 0 _ (xdI b0) _ _ ?_));rw[bn];refine wpList_plain cp λ K hK=>?_
 rcases an.next (P:=P) o0.type with⟨al,J⟩|⟨k,e,wd,ac,hk,ca,ce,cq,da,cg,J,ag,b9,b1⟩
 ·
  unfold Oper.wp;simp only[execOp,bw,ci,J,Sem.run_bind,Result.andThen_ok,Sem.run_pure];show K (a'.put o0.dst (.tuple #[.bool false])) w';rw[cf];refine hK _ _ (wpList_plain b4 λ K2 bv=>?_)
  have ai:=aj.put (d:=some tn) aj.base aj.outer Mv.refl aj.heap (Rel.tuple (w:=w') (A:=A') (M:=M') #[.bool false] [.bool false] rfl (fun i hi=>by
   rcases i with _|i
   . exact .bool false
   . simp at hi))
  have bt:OpA P Inv ⟨putT (Lf s' r) (some tn) (.tuple [.bool false]),Hf s'⟩ o1 ⟨putT (putT (Lf s' r) (some tn) (.tuple [.bool false])) o1.dst (.bool false),Hf s'++(none:Option Box).toList⟩:=by
   refine .inl (.inl ⟨.bool false,none,.inl ?_,rfl⟩);rw[cd];simp[fop,St.eval,putT,z7,bz s' r]
  refine xlf ax hI bt ai λ v w6 A6 M6 ab _=>bv _ _ ?_
  rw[cb]at ab|-;simp only[Option.toList,zD,putT]at ab;have ao:(a'.put (some tn) (.tuple #[.bool false]) |>.put (some tb) v).eval (.tmp tb)=.bool false:=by
   have:=ab.eval (.tmp tb);have e:St.eval ⟨((Lf s' r).set tn (.tuple [.bool false])).set tb (.bool false),Hf s'⟩ (.tmp tb)=.bool false:=by simp[St.eval,z7,b2 s' r]
   rw[e]at this;exact this.bool_inv
  refine wpIn_seq (wpIn_cond_split ao (λ h=>by cases h) λ _=>wpIn_exit ?_)
  show Exit.inBlock ex Qc (.exit ex) _ _;simp only[Exit.inBlock,if_true];rw[xmp]at al;exact hQ .normal _ _ _ ⟨done,al,by rw[Y];exact⟨rfl,r,rfl⟩⟩ ⟨A6,M6,ab⟩
 ·
  rw[xmp]at hk;unfold Oper.wp;simp only[execOp,bw,ci,J,Sem.run_bind,Result.andThen_ok,Sem.run_pure];obtain⟨w5,bq⟩:∃w5,w5=wd.putObj r (.mapIter (some bm) clock ac clock):=⟨_,rfl⟩;rw[<-bq]at ag;show K (a'.put o0.dst (.tuple #[.bool true,e.key,e.val])) (wd.putObj r (.mapIter (some bm) clock ac clock));rw[<-bq,cf];refine hK _ _ (wpList_plain b4 λ K2 bv=>?_)
  have b6:=aj.grow cq;have ai:SR w0 A0 w5 A' M' ⟨Lf s' r,Hf s'⟩ a':=by
   rw[bq];exact b6.turn (ds:=a'.defers) cg ⟨by simp,by simp⟩ c2 cu _ (b6.defers.same λ D hD=>World.putObj_heap_other (λ e=>by rw[e,cg]at hD;simp at hD))
  obtain⟨tk,ba,W⟩:=ag.keys k e ce;rw[xsL hk]at W;have ah:=ag.vals k e ce;rw[xsL hk]at ah;simp only at W ah;have cn:Rel w5 A' M' e.key (.str (keyAt bx k)):=by rw[ba,W];exact .str tk
  have ab:=ai.put (d:=some tn) ai.base ai.outer Mv.refl ai.heap (Rel.tuple (w:=w5) (A:=A') (M:=M') #[.bool true,e.key,e.val] [.bool true,.str (keyAt bx k),valAt nb bx k] rfl (fun i hi=>by
   rcases i with _|_|_|i
   . exact .bool true
   . exact cn
   . exact ah
   . simp at hi;omega))
  have bt:OpA P Inv ⟨putT (Lf s' r) (some tn) (.tuple [.bool true,.str (keyAt bx k),valAt nb bx k]),Hf s'⟩ o1 ⟨putT (putT (Lf s' r) (some tn) (.tuple [.bool true,.str (keyAt bx k),valAt nb bx k])) o1.dst (.bool true),Hf s'++(none:Option Box).toList⟩:=by
   refine .inl (.inl ⟨.bool true,none,.inl ?_,rfl⟩);rw[cd];simp[fop,St.eval,putT,z7,bz s' r]
  refine xlf ax hI bt ab λ v w7 A7 M7 Z a5=>bv _ _ ?_
  have ad:=ag.mv ab.heap a5;rw[cb]at Z|-;simp only[Option.toList,zD,putT]at Z;have ao:((a'.put (some tn) (.tuple #[.bool true,e.key,e.val])).put (some tb) v).eval (.tmp tb)=.bool true:=by
   have:=Z.eval (.tmp tb);have e:St.eval ⟨((Lf s' r).set tn (.tuple [.bool true,.str (keyAt bx k),valAt nb bx k])).set tb (.bool true),Hf s'⟩ (.tmp tb)=.bool true:=by simp[St.eval,z7,b2 s' r]
   rw[e]at this;exact this.bool_inv
  refine wpIn_seq (wpIn_cond_split ao (λ _=>wpIn_skip ?_) (λ h=>by cases h))
  refine wpIn_block (wpIn_seq (wpIn_region_list (xfr ro 0 _ (xdI ch) _ _ ?_)));rw[bk];refine wpList_plain c4 λ K3 cx=>?_
  have a2:((a'.put (some tn) (.tuple #[.bool true,e.key,e.val])).put (some tb) v).eval (.tmp it)=.pointer (some ⟨r,0,none⟩):=by
   have:=Z.eval (.tmp it);have e:St.eval ⟨((Lf s' r).set tn (.tuple [.bool true,.str (keyAt bx k),valAt nb bx k])).set tb (.bool true),Hf s'⟩ (.tmp it)=.gptr r:=by
    simp[St.eval,z7,List.getElem?_set,Ne.symm cm,Ne.symm ck,a6 s' r]
   rw[e]at this;generalize Act.eval _ (.tmp it)=u at this;cases this;rfl
  generalize ((a'.put (some tn) (.tuple #[.bool true,e.key,e.val])).put (some tb) v)=a7 at Z a2;have bc:=b9 w7 A7 M7 ad;unfold Oper.wp;simp only[execOp,c3,a2,bc,Sem.run_bind,Result.andThen_ok,Sem.run_pure];show K3 (a7.put oe.dst (.tuple #[e.key,e.val])) w7;rw[cy];refine cx _ _ ?_;have b7:Rel w7 A7 M7 e.key (.str (keyAt bx k)):=by rw[ba,W];exact .str tk
  have bp:Rel w7 A7 M7 e.val (valAt nb bx k):=a5.rel ah;have ay:=Z.put (d:=some te) Z.base Z.outer Mv.refl Z.heap (Rel.tuple (w:=w7) (A:=A7) (M:=M7) #[e.key,e.val] [.str (keyAt bx k),valAt nb bx k] rfl (fun i hi=>by
   rcases i with _|_|i
   . exact b7
   . exact bp
   . simp at hi;omega))
  obtain⟨s2,cz,bj⟩:=au r done s' k hk ca an.nodup (λ i hi=>by have:=an.lt i hi;rwa [xmp]at this) Y
  have bh:=ay.door n;refine xwd (Inv:=⟨Inv.inv,n,Inv.top⟩) ⟨ax.below⟩ hI cz bh λ a9 w9⟨A9,M9,hs9⟩=>?_
  refine bj w0 _ w9 A9 M9 a9 _ hI (zd n) hs9 ?_ ro cr;rintro ee ss aa ww hq ⟨A10,M10,a3⟩;cases aw:step s' k with
  |inl s3=>
   rw[aw]at hq;obtain⟨rfl,bf⟩:=hq;obtain⟨A11,M11,O⟩:=bf w0 _ ww A10 M10 aa (zd n) a3;obtain⟨O,aq⟩:=ay.undoor (a4 s') O;have bg:=ad.mv ay.heap aq;exact⟨_,b1,done++[k],s3,A11,M11,ac,O,bg,by rw[List.foldl_append,Y];exact aw,rfl⟩
  |inr q=>
   rw[aw]at hq;obtain⟨rfl,bf⟩:=hq;obtain⟨A11,M11,O⟩:=bf w0 _ ww A10 M10 aa (zd n) a3;obtain⟨O,aq⟩:=ay.undoor (a4 s') O;obtain⟨l',cj⟩:=xy2 ad.nodup ad.lt;rw[xmp]at cj;refine hQ .ret _ _ _ ⟨(done++[k])++l',cj,?_⟩ ⟨A11,M11,O⟩;rw[List.foldl_append,List.foldl_append,Y];show match List.foldl (stepI step) (step s' k) l' with|.inl _=>_|.inr _=>_
   rw[aw,xzg];exact⟨rfl,rfl⟩
section
variable{w:World}{A:Nat->Prop}{M:Id->Option MB}{B:Nat}{H:List Box}
end
def rmsOf:Code->List Code|.seq a b=>(match isRng a with|true=>[.seq a b]|false=>rmsOf a++rmsOf b)|.block _ c=>rmsOf c|.loop c=>rmsOf c|.cond _ a b=>rmsOf a++rmsOf b|_=>[]
noncomputable def rmOf(fn:Func):Code:=(rmsOf (fn.body.getD .skip)).getD 0 .skip
noncomputable def rmBody:Code->Code|.seq _ (.block _ (.loop (.seq _ (.seq _ (.block _ (.seq _ b))))))=>b|_=>.skip
noncomputable def rmOps1:Code->Array Oper|.seq _ (.block _ (.loop (.seq _ (.seq _ (.block _ (.seq (.region _ ops _) _))))))=>ops|_=>#[]
def XM(P:Program)(E:Env)(ops:Array Oper)(q:Code)(live:List Nat)(ts:List AV)(H:List Box):Option (Exit×List AV×List Box):=xOps P E none (some true) ops (ops.toList.drop 1) ⟨ts,H⟩ λ s1=>X P E none q s1 λ e2 s2=>match normS E.pin [] live s2 with|some (vs,H')=>xNV vs λ vs=>xNu H' λ H'=>br (Nat.beq s2.tmps.length E.nt) (some (e2,vs,H')) none|none=>none
def xer{E:Env}(J:xM1 P Inv E){l:List Oper}{T:Type}{r:T}{K:St->Option T}(h:xOps P E none (some true) ops l s K=some r):∃s',Path (OpA P Inv) ops l s s'/\K s'=some r:=by(have q:¬ (λ t:Option T=>t=some r) none:=by simp);have hA:∀o s(K:St->Option T),(λ t:Option T=>t=some r) (xopM P E none (some true) o s K)->∃s1,OpA P Inv s o s1/\(λ t:Option T=>t=some r) (K s1):=λ o s K h=>xBj (good:=λ t:Option T=>t=some r) q J h;exact xiz (good:=λ t:Option T=>t=some r) q hA l s K h
def xH7{E:Env}(Y:P.follows .mixedOrders)(W:InvOk Inv)(J:Inv.pin=E.pin)(O:xM1 P Inv E){q:Code}(V:LoOk P Inv E q){live:List Nat}{ts vs:List AV}{H':List Box}{e0:Exit}(h:XM P E ops q live ts H=some (e0,vs,H')):∃s2,Path (OpA P Inv) ops (ops.toList.drop 1) ⟨ts,H⟩ s2/\Does P Inv q (λ e s'=>e=e0/\Weak Inv.pin s' ⟨mkTs E.nt (live.zip vs),H'⟩) s2:=by unfold XM at h;obtain⟨s2,h1,h2⟩:=xer O h;refine⟨s2,h1,xdj (xf8 (good:=λ t=>t=some (e0,vs,H')) Y W J Ψ O q _ _ V h2) λ e s' hq=>?_⟩;split at hq;(case h_2=>simp at hq);rename_i Z H1 Q;rw[xbz,xcb]at hq;obtain⟨h3,h4⟩:=xcr (good:=λ t=>t=some (e0,vs,H')) Ψ hq;simp only[z6,zb]at h4;obtain⟨rfl,rfl,rfl⟩:=h4;have hw:=xhY Q;rw[zg h3,<-J]at hw;exact⟨rfl,hw⟩
end Go.Sim
end
noncomputable section
set_option maxRecDepth 10000
namespace Go.Sim
open Go.RowKit
def MR(p:Id->Bool)(M:Id->Option MB):Id->Option MB:=λ id=>match p id with|true=>M id|false=>none
variable {M:Id->Option MB}{p:Id->Bool}
def xi7{id:Id}{m:MB}(h:MR p M id=some m):p id/\M id=some m:=by unfold MR at h;cases hp:p id with|true=>rw[hp]at h;exact⟨rfl,h⟩|false=>rw[hp]at h;simp at h
def xvS{id:Id}{m:MB}(hp:p id)(h:M id=some m):MR p M id=some m:=by unfold MR;rw[hp];exact h
mutual
def AV.inP(p:Id->Bool):AV->Bool|.agg cs=>AV.inPs p cs|.own id _ _ _=>p id|.osl id _ _ _=>p id|.func _ cs=>AV.inPs p cs|.tuple vs=>AV.inPs p vs|_=>true
def AV.inPs(p:Id->Bool):List AV->Bool|[]=>true|x::xs=>AV.inP p x&&AV.inPs p xs
end
variable {p:Id->Bool}
def xpk:∀{xs:List AV},AV.inPs p xs->∀i,AV.inP p (xs.getD i .top)=true|[],_,i=>by simp[AV.inP]|x::xs,h,i=>by rw[AV.inPs,zf]at h;cases i with|zero=>simpa using h.1|succ i=>simpa using xpk h.2 i
variable {M:Id->Option MB}
def Rel.part{w:World}{A:Nat->Prop}{v:Value}{x:AV}(h:Rel w A M v x)(p:Id->Bool)(hx:x.inP p):Rel w A (MR p M) v x:=by induction h with|top v=>exact .top v|bool b=>exact .bool b|int k n=>exact .int k n|str s=>exact .str s|agg vs cs h hr ih=>exact .agg vs cs h λ i hi=>ih i hi (xpk (by simpa[AV.inP]using hx) i)|nils=>exact .nils|list0 a cap sz=>exact .list0 a cap sz|list b off cap sz xs val ha hb hne hcap hsz hcc hr ih=>exact .list b off cap sz xs val ha hb hne hcap hsz hcc hr|eptr b off sz xs i0 j0 val ha hb hi hsz hcc hr ih=>exact .eptr b off sz xs i0 j0 val ha hb hi hsz hcc hr|own v id ver i j m hm hv h1 he=>exact .own v id ver i j m (xvS (by simpa[AV.inP]using hx) hm) hv h1 he|osl v id ver off len m hm hv h1 he=>exact .osl v id ver off len m (xvS (by simpa[AV.inP]using hx) hm) hv h1 he|nilptr=>exact .nilptr|func f vs cs h hr hf ih=>exact .func f vs cs h (λ i hi=>ih i hi (xpk (by simpa[AV.inP]using hx) i)) hf|vptr b off v0 x ha hb hc hr ih=>exact .vptr b off v0 x ha hb hc (ih (by simpa[AV.inP,AV.inPs]using hx))|nilfn=>exact .nilfn|nmap=>exact .nmap|empt a=>exact .empt a|tuple vs cs h hr ih=>exact .tuple vs cs h λ i hi=>ih i hi (xpk (by simpa[AV.inP]using hx) i)|gptr g=>exact .gptr g|yld l=>exact .yld l
def boxIn(p:Id->Bool)(bx:Box):Bool:=match bx.pm with|true=>!(isC bx.ty&&!xM3 bx.ty)|false=>!(isC bx.ty)&&bx.xs.all λ x=>AV.inPs p x.cells
def xIn{bx:Box}{j:Nat}(hs:xM2 bx.ty j=false):MV (MR p M) bx j=MR p (MV M bx j):=by unfold MV MP;rw[hs];cases bx.pm;rfl;funext id;unfold MR xNe;cases p id<;>rfl
def BoxAt.part{w:World}{A:Nat->Prop}{B:Nat}{id:Id}{m:MB}{bx:Box}(h:BoxAt w A M B id m bx)(hp:boxIn p bx)(hs:∀j,j<bx.sz->xM2 bx.ty j=false):BoxAt w A (MR p M) B id m bx:=by refine⟨h.ver,h.sz,h.ty,h.capm,h.fits,h.ok,h.low,h.lt,λ h0=>?_,h.guard⟩;obtain⟨c,h1,h2,h3⟩:=h.cells h0;refine⟨c,h1,h2,λ i j hi hj=>?_⟩;have h4:=h3 i j hi hj;replace hs:=hs j (by rw[h.sz];exact hj);rw[xIn hs];cases q:bx.pm with|true=>(have e:MV M bx j=xNe:=by unfold MV MP;rw[hs,q]);(rw[e]at h4|-;have e2:MR p xNe=xNe:=by funext id;unfold MR xNe;cases p id<;>rfl);rw[e2];exact h4|false=>(have e:MV M bx j=M:=by unfold MV MP;rw[hs,q]);(rw[e]at h4|-;have e3:xNp id.base i j bx.ty ((bx.xs.getD i .top).cells.getD j .top)=(bx.xs.getD i .top).cells.getD j .top:=by unfold xNp;rw[hs]);rw[e3]at h4|-;refine h4.part p (xpk ?_ j);unfold boxIn at hp;rw[q]at hp;simp only[zf,zI]at hp;refine hp.2 _ ?_;rw[z7,ze hi];exact zo hi
def pB(q:Nat->Bool):Id->Bool|.b n=>q n|.r _ _ _=>false
variable {H:List Box}{q:Nat->Bool}
def HR.part{w:World}{A:Nat->Prop}{B:Nat}(h:HR w A M B H)(hq:∀n bx,H[n]?=some bx->q n->boxIn (pB q) bx/\∀j,j<bx.sz->xM2 bx.ty j=false):HR w A (MR (pB q) M) B H:=by refine⟨λ id m hm=>?_,λ id id' m m' h1 h2=>h.inj id id' m m' (xi7 h1).2 (xi7 h2).2,h.lt⟩;obtain⟨hp,hm⟩:=xi7 hm;obtain⟨bx,hb,J⟩:=h.box id m hm;refine⟨bx,hb,?_⟩;cases id with|r n i j=>simp[pB]at hp|b n=>obtain⟨h1,h2⟩:=hq n bx hb hp;exact J.part h1 h2
def HR.swap{w:World}{A:Nat->Prop}{B:Nat}{H':List Box}(h:HR w A (MR (pB q) M) B H)(hq:∀n,q n->H'[n]?=H[n]?):HR w A (MR (pB q) M) B H':=by refine⟨λ id m hm=>?_,h.inj,h.lt⟩;obtain⟨bx,hb,J⟩:=h.box id m hm;refine⟨bx,?_,J⟩;obtain⟨hp,_⟩:=xi7 hm;cases id with|r n i j=>simp[pB]at hp|b n=>show H'[n]?=some bx;rw[hq n hp];exact hb
def HR.apart{w w':World}{A A':Nat->Prop}{M' N:Id->Option MB}{B:Nat}(h:HR w A N B H)(hm:Mv w A M w' A' M')(O:∀b,A' b->b<w'.heap.size)(hd:∀id m id' m',N id=some m->0<m.cap->M id'=some m'->0<m'.cap->m.b≠m'.b):HR w' A' N B H:=by have J:∀id m,N id=some m->0<m.cap->∀id' m',M id'=some m'->0<m'.cap->m'.b≠m.b:=λ id m h1 h2 id' m' h3 h4 e=>hd id m id' m' h1 h2 h3 h4 e.symm;refine⟨λ id m hi=>?_,h.inj,O⟩;obtain⟨bx,hb,q⟩:=h.box id m hi;refine⟨bx,hb,q.mono (λ h0=>hm.touch.1 _ (q.lt h0) (J id m hi h0)) hm.keep hm.size hm.less (λ h0=>?_) (λ id m h=>⟨m,h,.inl rfl⟩)⟩;rw[q.guard h0];exact⟨λ ha=>hm.more _ (q.lt h0) ha (J id m hi h0),λ ha=>hm.less _ (q.lt h0) ha⟩
def MJ(M N:Id->Option MB):Id->Option MB:=λ id=>match id with|.b 0=>M id|.r _ _ _=>none|.b _=>N id
end Go.Sim
end
noncomputable section
set_option maxRecDepth 10000
namespace Go.Sim
open Go.RowKit
structure EntV where
 g:Nat
 row:List AV
 a:List AV
 b:List AV
 va:Nat
 vb:Nat
def EntV.E(e:EntV):Box:=⟨0,3,94,[.agg [.list 3 e.row,.osl (.b 2) e.va 0 e.a.length,.osl (.b 3) e.vb 0 e.b.length]],false,false⟩
def EntV.A(e:EntV):Box:=⟨e.va,3,100,e.a,false,true⟩
def EntV.B(e:EntV):Box:=⟨e.vb,3,100,e.b,false,true⟩
def q0(n:Nat):Bool:=Nat.beq n 0
def qe1:Nat->Bool|1=>true|2=>true|3=>true|_=>false
def box0:Box:=⟨0,0,0,[],false,true⟩
structure EntAt (w:World) (A:Nat->Prop) (B F:Nat) (e:EntV) (N:Id->Option MB):Prop where
 hr:HR w A N B [box0,e.E,e.A,e.B]
 ids:∀id m,N id=some m->pB qe1 id
 one:∃m,N (.b 1)=some m/\0<m.cap/\m.b=e.g
 two:∃m,N (.b 2)=some m
 three:∃m,N (.b 3)=some m
 fresh:∀id m,N id=some m->0<m.cap->F<=m.b
def Apart(M N:Id->Option MB):Prop:=∀id m id' m',M id=some m->0<m.cap->N id'=some m'->0<m'.cap->m.b≠m'.b
def Apart.symm{M N:Id->Option MB}(h:Apart M N):Apart N M:=λ id m id' m' h1 h2 h3 h4 e=>h id' m' id m h3 h4 h1 h2 e.symm
section
variable{w w' w0:World}{A A':Nat->Prop}{M M' N:Id->Option MB}{B F:Nat}{e:EntV}{A0:Cx}{a:Act}
def EntAt.go(h:EntAt w A B F e N)(hm:Mv w A M w' A' M')(q:∀b,A' b->b<w'.heap.size)(hd:Apart N M):EntAt w' A' B F e N:=⟨h.hr.apart hm q hd,h.ids,h.one,h.two,h.three,h.fresh⟩
def EntAt.lt(h:EntAt w A B F e N){id:Id}{m:MB}(hi:N id=some m)(h0:0<m.cap):m.b<w.heap.size:=by obtain⟨bx,_,hb⟩:=h.hr.box id m hi;exact hb.lt h0
def Apart.go(h:EntAt w A B F e N)(hd:Apart N M)(hm:Mv w A M w' A' M'):Apart N M':=λ id m id' m' h1 h2 h3 h4 he=>by have q:=h.lt h1 h2;rcases hm.touch.2 id' m' h3 h4 with⟨i,m1,g1,g2,g3⟩|g;exact hd id m i m1 h1 h2 g1 g2 (by rw[he,g3]);omega
def EntAt.own(h:EntAt w A B F e N){v:Value}(hv:v=.pointer (some ⟨e.g,0,none⟩)):Rel w A N v (.own (.b 1) 0 0 0):=by(obtain⟨m,h1,h2,h3⟩:=h.one;obtain⟨bx,hb,q⟩:=h.hr.box _ _ h1;obtain rfl:e.E=bx:=by simpa[getB]using hb);(have O:m.ver=0:=q.ver.symm;have J:xM3 m.ty=false:=by rw[<-q.ty];rfl);subst hv;refine .own _ (.b 1) 0 0 0 m h1 (zQ _) rfl λ _=>?_;unfold ptrOf;rw[J,h3];simp
def xtA{id:Id}{m:MB}(h:MJ M N id=some m):(id=.b 0/\M id=some m)\/(∃k,id=.b (k+1)/\N id=some m):=by unfold MJ at h;split at h;exact .inl ⟨rfl,h⟩;simp at h;rename_i n hn;cases n with|zero=>exact absurd rfl hn|succ k=>exact .inr ⟨k,rfl,h⟩
def xAA(hM:∀id m,M id=some m->pB q0 id):MExt M (MJ M N):=λ id m h=>by refine⟨m,?_,.inl rfl⟩;have:=hM id m h;cases id with|r n i j=>simp[pB]at this|b n=>cases n with|zero=>exact h|succ k=>simp[pB,q0]at this
def xAB(hN:∀id m,N id=some m->pB qe1 id):MExt N (MJ M N):=λ id m h=>by refine⟨m,?_,.inl rfl⟩;have:=hN id m h;cases id with|r n i j=>simp[pB]at this|b n=>cases n with|zero=>simp[pB,qe1]at this|succ k=>exact h
variable {b0:Box}
def HR.join(h0:HR w A M B [b0])(hM:∀id m,M id=some m->pB q0 id)(he:EntAt w A B F e N)(hd:Apart N M):HR w A (MJ M N) B [b0,e.E,e.A,e.B]:=by refine⟨λ id m h=>?_,λ id id' m m' h h' c c' hb=>?_,h0.lt⟩;rcases xtA h with⟨rfl,h⟩|⟨k,rfl,h⟩;obtain⟨bx,hb,q⟩:=h0.box _ _ h;refine⟨bx,?_,q.mono (λ _=>rfl) (λ _ _ _=>rfl) (zd _) (λ _ _ h=>h) q.guard (xAA hM)⟩;simpa[getB]using hb;obtain⟨bx,hb,q⟩:=he.hr.box _ _ h;refine⟨bx,?_,q.mono (λ _=>rfl) (λ _ _ _=>rfl) (zd _) (λ _ _ h=>h) q.guard (xAB he.ids)⟩;simpa[getB]using hb;rcases xtA h with⟨rfl,h⟩|⟨k,rfl,h⟩<;>rcases xtA h' with⟨rfl,h'⟩|⟨k',rfl,h'⟩;rfl;exact absurd hb.symm (hd _ _ _ _ h' c' h c);exact absurd hb (hd _ _ _ _ h c h' c');exact he.hr.inj _ _ _ _ h h' c c' hb
variable {ts:List AV}
def SR.join(hs:SR w0 A0 w A M ⟨ts,[b0]⟩ a)(hM:∀id m,M id=some m->pB q0 id)(hp:A0.pin=0)(he:EntAt w A w0.heap.size A0.w1.heap.size e N)(hd:Apart N M):SR w0 A0 w A (MJ M N) ⟨ts,[b0,e.E,e.A,e.B]⟩ a:=
 ⟨hs.base,hs.outer,hs.size,fun t ht=>(hs.tmps t ht).mono (fun _ _ _=>rfl) (zd _) (fun _ _ h=>h) (xAA hM),hs.heap.join hM he hd,hs.defers,
  ⟨hs.ev.size,hs.ev.keep,hs.ev.less,hs.ev.more,fun id m h=>by rw [hp] at h;exact absurd h (Nat.not_lt_zero _),fun id m h h0=>by
   rcases xtA h with⟨rfl,h⟩|⟨k,rfl,h⟩
   . exact hs.ev.src _ _ h h0
   . exact .inr (he.fresh _ _ h h0)⟩⟩
def cutT(ts:List AV):List AV:=ts.map λ x=>match x.inP (pB q0)with|true=>x|false=>.top
def SR.cut{T:List Box}(hs:SR w0 A0 w A M ⟨ts,b0::T⟩ a)(hp:A0.pin=0)(h0:boxIn (pB q0) b0)(J:∀j,j<b0.sz->xM2 b0.ty j=false):SR w0 A0 w A (MR (pB q0) M) ⟨cutT ts,[b0]⟩ a:=by
 refine⟨hs.base,hs.outer,by rw[hs.size];simp[cutT],λ t ht=>?_,?_,hs.defers,⟨hs.ev.size,hs.ev.keep,hs.ev.less,hs.ev.more,λ id m h=>by rw[hp]at h;exact absurd h (Nat.not_lt_zero _),λ id m h h0=>hs.ev.src _ _ (xi7 h).2 h0⟩⟩
 . have ht':t<ts.length:=by simpa[cutT]using ht
   have h1:=hs.tmps t ht';have e:(cutT ts).getD t .top=match (ts.getD t .top).inP (pB q0)with
    |true=>ts.getD t .top
    |false=>.top:=by
    unfold cutT;simp only[z7,List.getElem?_map,ze ht',Option.map_some,zh]
   show Rel w A _ _ ((cutT ts).getD t .top);rw[e];cases hc:(ts.getD t .top).inP (pB q0)with
   |true=>exact h1.part _ hc
   |false=>exact .top _
 . refine(hs.heap.part (q:=q0) λ n bx hb hq=>?_).swap λ n hq=>?_
   . cases n with
     |succ n=>simp[q0]at hq
     |zero=>
      obtain rfl:b0=bx:=by simpa using hb
      exact⟨h0,J⟩
   . cases n with
     |succ n=>simp[q0]at hq
     |zero=>rfl
end
end Go.Sim
end
noncomputable section
set_option maxRecDepth 100000
namespace Go.Sim
open Go.RowKit
section
variable{P:Program}{Inv:IV}{w0 w:World}{A0:Cx}{A:Nat->Prop}{M:Id->Option MB}{a:Act}
def xvE(q:InvOk Inv)(hI:Inv w0){ro:Option Nat}{id:Nat}{ops:Array Oper}{Q:Exit->Act->World->Prop}{s s':St}(J:noDefer ops)(hp:Path (OpA P Inv) ops ops.toList s s')(hs:SR w0 A0 w A M s a)(hK:∀a' w' A' M',SR w0 A0 w' A' M' s' a'->Mv w A M w' A' M'->Q .normal a' w'):(Code.region id ops false).wpIn (wideR ro) 0 P Q a w:=by refine wpIn_region_list (xfr ro 0 _ (xdI J) _ _ ?_);rw[<-zD ops.toList];exact xhX q hI hp hs λ a' w' A' M' h1 h2=>wpList_nil (hK a' w' A' M' h1 h2)
end
end Go.Sim
namespace Go.Sim.M
open Go.RowKit Go.Proofs
noncomputable def regOf:Code->Nat->Code|.region id ops d,n=>(match Nat.beq id n with|true=>.region id ops d|false=>.skip)|.seq a b,n=>(match regOf a n with|.skip=>regOf b n|c=>c)|.cond _ a b,n=>(match regOf a n with|.skip=>regOf b n|c=>c)|.block _ c,n=>regOf c n|.loop c,n=>regOf c n|_,_=>.skip
noncomputable def opsOf:Code->Array Oper|.region _ ops _=>ops|_=>#[]
noncomputable abbrev gB:Code:=Tryz.f105.body.getD .skip
noncomputable abbrev gO(n:Nat):Array Oper:=opsOf (regOf gB n)
noncomputable abbrev EG:Env:=xvM.E.fn 19 0 (lsOf [94]) (xNn [])
def xLc:gB=.seq (.region 0 (gO 0) false) (.seq (.region 1 (gO 1) false) (.seq (.seq (.region 2 (gO 2) false) (.cond (.tmp 10) (.region 3 (gO 3) false) .skip)) (.seq (.region 4 (gO 4) false) .ret))):=Θ
noncomputable def mapB(ms:List AV):Box:=⟨0,2,mapTy 88,ms,false,true⟩
noncomputable def boxN(row:List AV):Box:=⟨0,3,94,[.agg [.list 3 row,.nils,.nils]],false,true⟩
def gT(row:List AV)(x:Nat->AV):List AV:=[.list 3 row,.func vpF [.own (.b 0) 0 0 0],x 2,x 3,x 4,x 5,x 6,x 7,x 8,x 9,x 10,x 11,x 12,x 13,x 14,x 15,x 16,x 17,x 18]
def gU:AV:=.tuple []
def gT0(row:List AV):List AV:=gT row λ _=>gU
def xLk:noDefer (gO 0):=Θ
def xLl:noDefer (gO 1):=Θ
def xLm:noDefer (gO 2):=Θ
def xLn:noDefer (gO 3):=Θ
def xLo:noDefer (gO 4):=Θ
noncomputable def gT1(row:List AV)(k:List UInt8):List AV:=((((gT0 row).set 3 .nilptr).set 5 (.list 3 row)).set 6 (.str k)).set 4 (.str k)
def xLS(row ms:List AV):xOps Tryz.prog EG none (some true) (gO 0) (gO 0).toList ⟨gT0 row,[mapB ms]⟩ some=some ⟨(gT0 row).set 3 .nilptr,[mapB ms]⟩:=Θ
def xLT(row ms:List AV):xOps Tryz.prog EG none (some true) (gO 1) (gO 1).toList ⟨(gT0 row).set 3 .nilptr,[mapB ms]⟩ some=br (xaG row).isSome (some ⟨gT1 row ((xaG row).getD []),[mapB ms]⟩) none:=Θ
def xLr(row ms:List AV)(k:List UInt8):xOps Tryz.prog EG none (some true) (gO 2) ((gO 2).toList.take 2) ⟨gT1 row k,[mapB ms]⟩ some=some ⟨((gT1 row k).set 7 (.own (.b 0) 0 0 0)).set 8 (.str k),[mapB ms]⟩:=Θ
def xLL:(gO 2).toList=(gO 2).toList.take 2++[(gO 2).toList.getD 2 default,(gO 2).toList.getD 3 default]:=Θ
def xLO:((gO 2).toList.getD 2 default).op=.lookup 88 (.tmp 7) (.tmp 8) false:=Θ
def xLG:((gO 2).toList.getD 2 default).dst=some 9:=Θ
def xLI:((gO 2).toList.getD 2 default).guard=none:=Θ
def xJ7:((gO 2).toList.getD 3 default).dst=some 10:=Θ
def xLJ:((gO 2).toList.getD 3 default).guard=none:=Θ
def xLU:(xM0 Tryz.prog 90).map (·.zero)=some .nilptr:=Θ
def xLR:∃d,Tryz.prog.underlying 90=some (.pointer d):=⟨94,by kernel_rfl⟩
def xGH:Tryz.prog.underlying 88=some (.map 9 90):=Θ
def xKd:Tryz.prog.underlying 9=some .string:=Θ
def xGG:xM3 (mapTy 88):=Θ
def xAj:xM2 (mapTy 88) 0=false:=Θ
def xAk:xM2 (mapTy 88) 1=false:=Θ
variable {T:List Box}{k:List UInt8}{ms:List AV}{ρ:Operand->AV}
def xCs{t1 t2:Tmp}(h1:ρ (.tmp t1)=.own (.b 0) 0 0 0)(h2:ρ (.tmp t2)=.str k)(hk:k.length<=xNQ):iop Tryz.prog ρ (mapB ms::T) (.lookup 88 (.tmp t1) (.tmp t2) false)=some (xNj .nilptr ms k,mapB ms::T):=by(obtain⟨e,he⟩:=xLR;have h7:getMap (mapB ms::T) 0 0=some (mapB ms):=by unfold getMap;show (if _ then _ else _)=_;rw[if_pos];exact⟨rfl,xGG,xAj,xAk,rfl,rfl⟩);have q:=xLU;cases hd:xM0 Tryz.prog 90 with|none=>rw[hd]at q;simp at q|some d=>rw[hd]at q;simp only[Option.map_some,z6]at q;simp only[iop,h1,h2,absLookL,absLookM,xGH,xKd,he,hd,h7,q,hk,if_true];rfl
def xIc(g:Nat)(w:World):(binOp .eql 90 (.pointer (some ⟨g,0,none⟩)) (.pointer none)).run Tryz.prog w=.ok (.bool false) w:=by rfl
def xGA(w:World):(binOp .eql 90 (.pointer none) (.pointer none)).run Tryz.prog w=.ok (.bool true) w:=by rfl
noncomputable def gT2(row:List AV)(k:List UInt8):List AV:=((gT1 row k).set 7 (.own (.b 0) 0 0 0)).set 8 (.str k)
noncomputable def gT3(row:List AV)(k:List UInt8)(x:AV)(b:Bool):List AV:=((gT2 row k).set 9 x).set 10 (.bool b)
noncomputable def gT4(row:List AV)(k:List UInt8):List AV:=(((((gT3 row k .nilptr true).set 11 (.own (.b 0) 0 0 0)).set 12 (.str k)).set 13 (.list 3 row)).set 14 (.agg [.list 3 row,.nils,.nils])).set 15 (.own (.b 1) 0 0 0)
def xLs(row ms:List AV)(k:List UInt8):xOps Tryz.prog EG none (some true) (gO 3) ((gO 3).toList.take 5) ⟨gT3 row k .nilptr true,[mapB ms]⟩ some=some ⟨gT4 row k,[mapB ms,boxN row]⟩:=Θ
def xLM:(gO 3).toList=(gO 3).toList.take 5++[(gO 3).toList.getD 5 default]:=Θ
def xLP:((gO 3).toList.getD 5 default).op=.mapUpdate 88 (.tmp 11) (.tmp 12) (.tmp 15):=Θ
def xLH:((gO 3).toList.getD 5 default).dst=none:=Θ
def xLK:((gO 3).toList.getD 5 default).guard=none:=Θ
def xLN:(gO 4).toList=(gO 4).toList.take 2++[(gO 4).toList.getD 2 default,(gO 4).toList.getD 3 default]:=Θ
def xLp:((gO 4).toList.getD 2 default).op=.lookup 88 (.tmp 16) (.tmp 17) false:=Θ
def xLd:((gO 4).toList.getD 2 default).dst=some 18:=Θ
def xLi:((gO 4).toList.getD 2 default).guard=none:=Θ
def xLq:((gO 4).toList.getD 3 default).op=.assign (.tmp 18):=Θ
def xLe:((gO 4).toList.getD 3 default).dst=some 3:=Θ
def xLj:((gO 4).toList.getD 3 default).guard=none:=Θ
def xKb:((gO 2).toList.getD 3 default).op=.binOp .eql 90 (.tmp 9) (.const (.pointer none)) 90:=Θ
def xLv:Tryz.f105.results.toList=[.tmp 3]:=Θ
def xKt{t1 t2 t3:Tmp}{g:Nat}(h1:ρ (.tmp t1)=.own (.b 0) 0 0 0)(h2:ρ (.tmp t2)=.str k)(h3:ρ (.tmp t3)=.gptr g)(hk:k.length<=xNQ)(hm:ms.length<xNQ):iop Tryz.prog ρ (mapB ms::T) (.mapUpdate 88 (.tmp t1) (.tmp t2) (.tmp t3))=some (.tuple [],mapB (xNh ms k (.gptr g))::T):=by(have h7:getMap (mapB ms::T) 0 0=some (mapB ms):=by unfold getMap;show (if _ then _ else _)=_;rw[if_pos];exact⟨rfl,xGG,xAj,xAk,rfl,rfl⟩);have h8:(mapB ms).frz=false/\(AV.gptr g).one/\(AV.gptr g).pure/\(mapB ms).xs.length<xNQ/\k.length<=xNQ:=⟨rfl,rfl,rfl,hm,hk⟩;simp only[iop,h1,h2,h3,absPutM,xGH,xKd,h7,h8,and_self,if_true];rfl
def xuQ:∀{ms:List AV}{j:Nat},mapIx ms k=some j->∀i,i<j->isKey k ((ms.getD i .top).cells.getD 0 .top)=false|[],j,h,_,_=>by simp[mapIx]at h|e::es,j,h,i,hi=>by rw[mapIx]at h;cases hc:isKey k (e.cells.getD 0 .top)with|true=>rw[hc]at h;simp only[z6]at h;omega|false=>rw[hc]at h;cases hm:mapIx es k with|none=>rw[hm]at h;simp at h|some j'=>rw[hm]at h;simp only[Option.map_some,z6]at h;cases i with|zero=>simpa using hc|succ i=>simpa using xuQ hm i Ω
def xuR:∀{ms:List AV},mapIx ms k=none->∀i,i<ms.length->isKey k ((ms.getD i .top).cells.getD 0 .top)=false|[],_,i,hi=>by simp at hi|e::es,h,i,hi=>by rw[mapIx]at h;cases hc:isKey k (e.cells.getD 0 .top)with|true=>rw[hc]at h;simp at h|false=>rw[hc]at h;cases hm:mapIx es k with|some j'=>rw[hm]at h;simp at h|none=>cases i with|zero=>simpa using hc|succ i=>simpa using xuR hm i (by simpa using hi)
def xIf{v:AV}:∀{ms:List AV},xNj .nilptr (xNh ms k v) k=v
 |ms=>by
  have q:putIx ms k<(xNh ms k v).length:=by
   unfold xNh putIx;cases h:mapIx ms k with
   |some i=>simpa using xlc h
   |none=>simp
  have h1:(xNh ms k v).getD (putIx ms k) .top=.agg [.str k,v]:=by rw[xnV,if_pos rfl]
  have h2:mapIx (xNh ms k v) k=some (putIx ms k):=by
   refine xql q (by rw[h1];simp[AV.cells,isKey]) λ i hi=>?_
   rw[xnV,if_neg (by omega)]
   unfold putIx at hi;cases h:mapIx ms k with
   |some j=>
    rw[h]at hi;exact xuQ h i hi
   |none=>
    rw[h]at hi;exact xuR h i hi
  unfold xNj;rw[h2];dsimp only;rw[h1];rfl
end Go.Sim.M
end
noncomputable section
set_option maxRecDepth 100000
namespace Go.Sim.M
open Go.RowKit Go.Proofs
def hIoG(n:Nat):InvOk (xNJ.at n):=xNb Tryz.prog n
def orcG:xM1 Tryz.prog (xNJ.at 0) EG:=xvM.ok.fn
def gS5(ts:List AV)(k:List UInt8):List AV:=(ts.set 16 (.own (.b 0) 0 0 0)).set 17 (.str k)
def gS6(ts:List AV)(k:List UInt8)(g:Nat):List AV:=((gS5 ts k).set 18 (.gptr g)).set 3 (.gptr g)
def xKc{ts:List AV}(hl:ts.length=19)(k:List UInt8)(g:Nat)(H:List Box):resAllM Tryz.prog ⟨gS6 ts k g,H⟩ Tryz.f105.results.toList=some [.gptr g]:=by(have e:(gS6 ts k g).getD 3 .top=.gptr g:=by unfold gS6 gS5;simp[z7,hl]);(rw[xLv];have e2:resVal Tryz.prog ⟨gS6 ts k g,H⟩ (.tmp 3)=some (.gptr g):=by show some ((gS6 ts k g).getD 3 .top)=_;rw[e]);simp only[resAllM,e2]
def xqW{ops:Array Oper}{l:List Oper}{s s':St}(h:xOps Tryz.prog EG none (some true) ops l s some=some s'):Path (OpA Tryz.prog (xNJ.at 0)) ops l s s':=by obtain⟨s1,h1,h2⟩:=xer orcG h;cases h2;exact h1
section
variable{w0 w:World}{A0:Cx}{A:Nat->Prop}{M:Id->Option MB}{a:Act}
def xFd(hI:xNJ w0){ts ms:List AV}{k:List UInt8}{T:List Box}{g:Nat}(q:ts.length=19)(hp:xOps Tryz.prog EG none (some true) (gO 4) ((gO 4).toList.take 2) ⟨ts,mapB ms::T⟩ some=some ⟨gS5 ts k,mapB ms::T⟩)(V:k.length<=xNQ)(hg:xNj .nilptr ms k=.gptr g)(hs:SR w0 A0 w A M ⟨ts,mapB ms::T⟩ a){Q:Exit->Act->World->Prop}(hK:∀a' w' A' M',SR w0 A0 w' A' M' ⟨gS6 ts k g,mapB ms::T⟩ a'->Mv w A M w' A' M'->Q .normal a' w'):(Code.region 4 (gO 4) false).wpIn (wideR none) 0 Tryz.prog Q a w:=by
 refine wpIn_region_list (xfr none 0 _ (xdI xLo) _ _ ?_);rw[xLN];refine xhX (hIoG 0) hI (xqW hp) hs λ a1 w1 A1 M1 Z O=>wpList_plain xLi λ K ab=>?_;have hl:OpA Tryz.prog (xNJ.at 0) ⟨gS5 ts k,mapB ms::T⟩ ((gO 4).toList.getD 2 default) ⟨(gS5 ts k).set 18 (.gptr g),mapB ms::T⟩:=by refine .inr (.inl (.inl ⟨.gptr g,mapB ms::T,?_,?_⟩));rw[xLp,<-hg];exact xCs (by simp[St.eval,gS5,z7,q]) (by simp[St.eval,gS5,z7,q]) V;rw[xLd];rfl
 refine xlf (hIoG 0) hI hl Z λ v w2 A2 M2 aa mv2=>ab _ _ (wpList_plain xLj λ K2 Y=>?_);have W:OpA Tryz.prog (xNJ.at 0) ⟨(gS5 ts k).set 18 (.gptr g),mapB ms::T⟩ ((gO 4).toList.getD 3 default) ⟨gS6 ts k g,(mapB ms::T)++(none:Option Box).toList⟩:=by refine .inl (.inl ⟨.gptr g,none,.inl ?_,?_⟩);rw[xLq];simp[fop,St.eval,gS5,z7,q];rw[xLe];rfl
 refine xlf (hIoG 0) hI W aa λ v2 w3 A3 M3 J mv3=>Y _ _ (wpList_nil ?_);simp only[Option.toList,zD]at J;exact hK _ _ _ _ J ((O.trans mv2).trans mv3)
def xLt(row ms:List AV)(k:List UInt8)(g:Nat):xOps Tryz.prog EG none (some true) (gO 4) ((gO 4).toList.take 2) ⟨gT3 row k (.gptr g) false,[mapB ms]⟩ some=some ⟨gS5 (gT3 row k (.gptr g) false) k,[mapB ms]⟩:=Θ
noncomputable def gT7(row:List AV)(k:List UInt8)(g:Nat):List AV:=(gT4 row k).set 15 (.gptr g)
def xLu(row ms:List AV)(k:List UInt8)(g:Nat):xOps Tryz.prog EG none (some true) (gO 4) ((gO 4).toList.take 2) ⟨gT7 row k g,[mapB ms,boxN row]⟩ some=some ⟨gS5 (gT7 row k g) k,[mapB ms,boxN row]⟩:=Θ
end
def xLf(row:List AV)(k:List UInt8)(g:Nat)(H:List Box):St.eval ⟨gT7 row k g,H⟩ (.tmp 11)=.own (.b 0) 0 0 0:=Θ
def xLg(row:List AV)(k:List UInt8)(g:Nat)(H:List Box):St.eval ⟨gT7 row k g,H⟩ (.tmp 12)=.str k:=Θ
def xLh(row:List AV)(k:List UInt8)(g:Nat)(H:List Box):St.eval ⟨gT7 row k g,H⟩ (.tmp 15)=.gptr g:=Θ
def xJ9(row:List AV)(k:List UInt8)(g:Nat):(gT7 row k g).length=19:=Θ
def xJ8(row:List AV)(k:List UInt8)(y:AV)(b:Bool):(gT3 row k y b).length=19:=Θ
def xLQ(row:List AV)(k:List UInt8)(g:Nat):putT (gT7 row k g) none (.tuple [])=gT7 row k g:=by rfl
def GetPost(row ms:List AV)(k:List UInt8)(g:Nat)(H:List Box)(M':Id->Option MB):Prop:=(xNj .nilptr ms k=.gptr g/\H=[mapB ms]) \/ (xNj .nilptr ms k=.nilptr/\H=[mapB (xNh ms k (.gptr g)),boxN row]/\∃m,M' (.b 1)=some m/\0<m.cap/\m.b=g)
section
variable{w0 w:World}{A0:Cx}{A:Nat->Prop}{M:Id->Option MB}{a:Act}
def HR.same{w':World}{A':Nat->Prop}{M':Id->Option MB}{B n:Nat}{H H':List Box}{bx bx':Box}{m:MB}(h:HR w A M B H)(h':HR w' A' M' B H')(hx:MExt M M')(hb:H[n]?=some bx)(q:H'[n]?=some bx')(hv:bx'.ver=bx.ver)(hm:M (.b n)=some m):M' (.b n)=some m:=by obtain⟨m',h1,h2⟩:=hx _ _ hm;obtain⟨c,g1,g2⟩:=h.box _ _ hm;obtain⟨c',g3,g4⟩:=h'.box _ _ h1;have e1:bx=c:=Option.some.inj (hb.symm.trans g1);have e2:bx'=c':=Option.some.inj (q.symm.trans g3);subst e1 e2;have:=g2.ver;have:=g4.ver;rcases h2 with rfl|h2;exact h1;omega
set_option maxHeartbeats 2000000 in
def xGI(hI:xNJ w0){row ms:List AV}{k:List UInt8}(hk:xaG row=some k)(Y:k.length<=xNQ)(hm:ms.length<xNQ)(a0:xNj .nilptr ms k=.nilptr\/∃g,xNj .nilptr ms k=.gptr g)(ap:SR w0 A0 w A M ⟨gT0 row,[mapB ms]⟩ a){Q:Exit->Act->World->Prop}(hQ:∀a' w' A' M' ts H g,SR w0 A0 w' A' M' ⟨gS6 ts k g,H⟩ a'->ts.length=19->Mv w A M w' A' M'->GetPost row ms k g H M'->Q .ret a' w'):gB.wpIn (wideR none) 0 Tryz.prog Q a w:=by
 rw[xLc];refine wpIn_seq (xvE (hIoG 0) hI xLk (xqW (xLS row ms)) ap λ a1 w1 A1 M1 az aw=>?_);have p1:=xLT row ms;rw[hk,zk,xab,zh]at p1;refine wpIn_seq (xvE (hIoG 0) hI xLl (xqW p1) az λ a2 w2 A2 M2 am mv2=>?_);refine wpIn_seq (wpIn_seq (wpIn_region_list (xfr none 0 _ (xdI xLm) _ _ ?_)));rw[xLL];refine xhX (hIoG 0) hI (xqW (xLr row ms k)) am λ a3 w3 A3 M3 aj mv3=>wpList_plain xLI λ K ao=>?_;have hl:OpA Tryz.prog (xNJ.at 0) ⟨gT2 row k,[mapB ms]⟩ ((gO 2).toList.getD 2 default) ⟨(gT2 row k).set 9 (xNj .nilptr ms k),[mapB ms]⟩:=by refine .inr (.inl (.inl ⟨xNj .nilptr ms k,[mapB ms],?_,?_⟩));rw[xLO];exact xCs rfl rfl Y;rw[xLG];rfl
 refine xlf (hIoG 0) hI hl aj λ v w4 A4 M4 q al=>ao _ _ (wpList_plain xLJ λ K2 ah=>?_);have aa:=((aw.trans mv2).trans mv3).trans al;generalize a3.put _ v=a4 at q;have h9:=q.eval (.tmp 9);have e9:St.eval ⟨(gT2 row k).set 9 (xNj .nilptr ms k),[mapB ms]⟩ (.tmp 9)=xNj .nilptr ms k:=rfl;rw[e9]at h9;have hc:a4.eval (.const (.pointer none))=.pointer none:=rfl;unfold Oper.wp;rcases a0 with hn|⟨g,hg⟩;rw[hn]at h9 q;have v9:a4.eval (.tmp 9)=.pointer none:=by generalize a4.eval (.tmp 9)=u at h9;cases h9;rfl
 simp only[execOp,xKb,v9,hc,xGA,Sem.run_bind,Result.andThen_ok,Sem.run_pure];show K2 (a4.put ((gO 2).toList.getD 3 default).dst (.bool true)) w4;rw[xJ7];refine ah _ _ (wpList_nil ?_);have J:=q.put (d:=some 10) q.base q.outer Mv.refl q.heap (Rel.bool (w:=w4) (A:=A4) (M:=M4) true);have J:SR w0 A0 w4 A4 M4 ⟨gT3 row k .nilptr true,[mapB ms]⟩ (a4.put (some 10) (.bool true)):=J;generalize a4.put (some 10) (.bool true)=a5 at J;have ab:a5.eval (.tmp 10)=.bool true:=by have:=J.eval (.tmp 10);exact this.bool_inv
 refine wpIn_cond_split ab (λ _=>?_) (λ h=>by cases h);refine wpIn_region_list (xfr none 0 _ (xdI xLn) _ _ ?_);rw[xLM];refine xhX (hIoG 0) hI (xqW (xLs row ms k)) J λ a6 w6 A6 M6 O mv6=>wpList_plain xLK λ K3 ax=>?_;have V:=O.eval (.tmp 15);have V:Rel w6 A6 M6 (a6.eval (.tmp 15)) (.own (.b 1) 0 0 0):=V;obtain⟨m,ai,ar⟩:∃m,M6 (.b 1)=some m/\(m.ver=0->a6.eval (.tmp 15)=ptrOf m 0 0):=by generalize a6.eval (.tmp 15)=u at V;cases V with|own v id ver i j m hm hv h1 he=>exact⟨m,hm,λ h=>he h.symm⟩
 obtain⟨bx,a7,ad⟩:=O.heap.box _ _ ai;obtain rfl:boxN row=bx:=by simpa[getB]using a7
 have ae:m.ver=0:=ad.ver.symm;have an:xM3 m.ty=false:=by rw[<-ad.ty];kernel_rfl
 have hcap:0<m.cap:=Nat.lt_of_lt_of_le (by simp[boxN]) ad.fits;have ak:a6.eval (.tmp 15)=.pointer (some ⟨m.b,0,none⟩):=by rw[ar ae];unfold ptrOf;rw[an];simp
 have ag:SR w0 A0 w6 A6 M6 ⟨gT7 row k m.b,[mapB ms,boxN row]⟩ a6:=by refine⟨O.base,O.outer,by rw[O.size];rfl,λ t ht=>?_,O.heap,O.defers,O.ev⟩;by_cases h:t=15;subst h;show Rel w6 A6 M6 (a6.tmps.getD 15 undef) (.gptr m.b);have:a6.tmps.getD 15 undef=.pointer (some ⟨m.b,0,none⟩):=ak;rw[this];exact .gptr _;have h1:=O.tmps t (by simpa[gT7]using ht);(have e:(gT7 row k m.b).getD t .top=(gT4 row k).getD t .top:=by unfold gT7;simp only[z7,List.getElem?_set,Ne.symm h,if_false]);show Rel w6 A6 M6 _ ((gT7 row k m.b).getD t .top);rw[e];exact h1
 have au:OpA Tryz.prog (xNJ.at 0) ⟨gT7 row k m.b,[mapB ms,boxN row]⟩ ((gO 3).toList.getD 5 default) ⟨gT7 row k m.b,[mapB (xNh ms k (.gptr m.b)),boxN row]⟩:=by refine .inr (.inl (.inl ⟨.tuple [],[mapB (xNh ms k (.gptr m.b)),boxN row],?_,?_⟩));rw[xLP];exact xKt (xLf row k m.b _) (xLg row k m.b _) (xLh row k m.b _) Y hm;rw[xLH];exact congrArg (λ t=>(⟨t,_⟩:St)) (xLQ row k m.b).symm
 refine xlf (hIoG 0) hI au ag λ v8 w8 A8 M8 ac af=>ax _ _ (wpList_nil ?_);have aq:=HR.same ag.heap ac.heap af.ext (n:=1) rfl rfl rfl ai;refine wpIn_seq (xFd hI (xJ9 row k m.b) (xLu row _ k m.b) Y xIf ac λ a9 w9 A9 M9 Z W=>?_);have ay:=HR.same ac.heap Z.heap W.ext (n:=1) rfl rfl rfl aq;refine wpIn_ret (hQ _ _ _ _ _ _ m.b Z (xJ9 row k m.b) (((aa.trans mv6).trans af).trans W) (.inr ⟨hn,rfl,m,ay,hcap,rfl⟩));rw[hg]at h9 q;have v9:a4.eval (.tmp 9)=.pointer (some ⟨g,0,none⟩):=by generalize a4.eval (.tmp 9)=u at h9;cases h9;rfl
 simp only[execOp,xKb,v9,hc,xIc,Sem.run_bind,Result.andThen_ok,Sem.run_pure];show K2 (a4.put ((gO 2).toList.getD 3 default).dst (.bool false)) w4;rw[xJ7];refine ah _ _ (wpList_nil ?_);have J:=q.put (d:=some 10) q.base q.outer Mv.refl q.heap (Rel.bool (w:=w4) (A:=A4) (M:=M4) false);have J:SR w0 A0 w4 A4 M4 ⟨gT3 row k (.gptr g) false,[mapB ms]⟩ (a4.put (some 10) (.bool false)):=J;generalize a4.put (some 10) (.bool false)=a5 at J;have ab:a5.eval (.tmp 10)=.bool false:=by have:=J.eval (.tmp 10);exact this.bool_inv
 refine wpIn_cond_split ab (λ h=>by cases h) (λ _=>wpIn_skip ?_);refine wpIn_seq (xFd hI (xJ8 row k (.gptr g) false) (xLt row ms k g) Y hg J λ a9 w9 A9 M9 Z W=>?_);exact wpIn_ret (hQ _ _ _ _ _ _ g Z (xJ8 row k (.gptr g) false) (aa.trans W) (.inl ⟨hg,rfl⟩))
end
end Go.Sim.M
end
noncomputable section
set_option maxRecDepth 100000
namespace Go.Sim.M
open Go.RowKit Go.Proofs
def xJ6:Tryz.f105.body=some gB:=Θ
def xKa:Tryz.f105.ntmps=19:=Θ
variable {args:List AV}{n t:Nat}
def xsF(h:t<args.length):(args++List.replicate n (AV.tuple [])).getD t .top=args.getD t .top:=by simp[z7,zP,h]
def xsG(h1:¬ t<args.length)(h2:t - args.length<n):(args++List.replicate n (AV.tuple [])).getD t .top=.tuple []:=by simp[z7,zP,h1,List.getElem?_replicate,h2]
def xE8(row:List AV):gT0 row=[AV.list 3 row,.func vpF [.own (.b 0) 0 0 0]]++List.replicate 17 (.tuple []):=by rfl
def xFb{w0 w:World}{A:Nat->Prop}{M:Id->Option MB}{vs:List Value}{row ms:List AV}{k:List UInt8}(hI:xNJ w0)(Q:Below w0.heap.size w0 w)(hR:HR w A M w0.heap.size [mapB ms])(O:RC w A M vs [.list 3 row,.func vpF [.own (.b 0) 0 0 0]])(hk:xaG row=some k)(ab:k.length<=xNQ)(hm:ms.length<xNQ)(Z:xNj .nilptr ms k=.nilptr\/∃g,xNj .nilptr ms k=.gptr g):Calls Tryz.prog 105 vs.toArray w λ e w'=>∃v A' M' g,e=.returned v/\v=.pointer (some ⟨g,0,none⟩)/\Below w0.heap.size w0 w'/\(∀b,b<w0.heap.size->(A' b↔A b))/\Mv w A M w' A' M'/\∃H,HR w' A' M' w0.heap.size H/\GetPost row ms k g H M':=by
 refine callsIn_wide.1 (callsIn_of_wp_marks (F:=Fence.wide) (n:=0) Tryz.func105 xJ6 trivial ?_);refine xGI (A0:=⟨A,w,A,M,1,λ _=>False⟩) (A:=A) (M:=M) (k:=k) (row:=row) (ms:=ms) hI hk ab hm Z ⟨Q,λ _ _=>Iff.rfl,?_,λ t ht=>?_,hR,DefOk.nil,Ev.refl (C:=⟨A,w,A,M,1,λ _=>False⟩)⟩ ?_;rw[xKa];have:=O.1;simp[xE8,this];have hl:=O.1;have hl:vs.length=2:=hl;rw[xKa];show Rel w A M _ ((gT0 row).getD t .top);rw[xE8];by_cases W:t<2;have e1:(vs.toArray++Array.replicate (19 - vs.toArray.size) undef).getD t undef=vs.getD t undef:=by(have:t<vs.length:=Ω);simp[z7,Array.getElem?_append,this]
 rw[e1,xsF W];exact O.2 t W;have ht:t<19:=by have h0:(gT0 row).length=19:=rfl;rw[<-h0];exact ht
 have h1:¬ t<vs.length:=Ω
 have e1:(vs.toArray++Array.replicate (19 - vs.toArray.size) undef).getD t undef=undef:=by(have h2:t - vs.length<19 - vs.length:=Ω);simp[Array.getElem?_append,h1,h2]
 rw[e1,xsG W (show t - 2<17 by omega)];exact .tuple #[] [] rfl Ψ;intro a' w' A' M' ts H g aa Y ad V;show LeavesInM Fence.wide 0 Tryz.prog Tryz.f105 a'.tmps _ a'.defers .returning w';refine xpl (λ _ h=>h) aa λ w2 J=>?_;obtain⟨v,hv,q⟩:=xob (P:=Tryz.prog) J (xKc Y k g H);have ac:v=.pointer (some ⟨g,0,none⟩):=by have q:Rel w2 A' M' v (.gptr g):=q;cases q;rfl
 exact⟨v,hv,v,A',M',g,rfl,ac,J.base,J.outer,J.ev.mv hR (zd 1),H,J.heap,V⟩
end Go.Sim.M
end
noncomputable section
set_option maxRecDepth 100000
namespace Go.Sim
open Go.RowKit
def keepT(live:List Nat)(ts:List AV):List AV:=mkTs ts.length (live.zip (liveOf live ts))
def keepS(live:List Nat)(s:St):St:=⟨keepT live s.tmps,s.heap⟩
section
variable{P:Program}{Inv:IV}{w0 w w':World}{A0:Cx}{A A':Nat->Prop}{M M' N N':Id->Option MB}{a:Act}{B F:Nat}{e:EntV}
variable {s:St}
def SR.mask(h:SR w0 A0 w A M s a)(live:List Nat):SR w0 A0 w A M (keepS live s) a:=by have hl:(keepT live s.tmps).length=s.tmps.length:=xj3 _ _;refine⟨h.base,h.outer,h.size.trans hl.symm,λ t ht=>?_,h.heap,h.defers,h.ev⟩;(have ht':t<s.tmps.length:=by rw[<-hl];exact ht);show Rel w A M _ ((keepT live s.tmps).getD t .top);rcases xt0 s.tmps.length s.tmps rfl t live with e|e;unfold keepT;rw[e];exact h.tmps t ht';unfold keepT;rw[e];exact .top _
variable {Q:Exit->Act->World->Prop}
def xjP{E:Env}(J:xM1 P Inv E)(q:InvOk Inv)(hI:Inv w0){ro:Option Nat}{id:Nat}{ops:Array Oper}{s':St}{live:List Nat}(O:noDefer ops)(hp:xOps P E none (some true) ops ops.toList s (λ s=>some (keepS live s))=some s')(hs:SR w0 A0 w A M s a)(hK:∀a' w' A' M',SR w0 A0 w' A' M' s' a'->Mv w A M w' A' M'->Q .normal a' w'):(Code.region id ops false).wpIn (wideR ro) 0 P Q a w:=by obtain⟨s1,h1,h2⟩:=xer J hp;cases h2;exact xvE q hI O h1 hs λ a' w' A' M' k1 k2=>hK a' w' A' M' (k1.mask live) k2
def callX{o:Oper}{c:Call}{g:FuncId}{args:List AV}{R:Value->World->Prop}(ho:o.op=.call c)(q:xNP s c=some (g,args))(he:Enters P g)(hs:SR w0 A0 w A M s a)(J:∀vs,RC w A M vs args->Calls P g vs.toArray w λ e w'=>∃v,e=.returned v/\R v w'){K:Act->World->Prop}(hK:∀v w',R v w'->K (a.put o.dst v) w'):o.wp P a w K Q:=by
 unfold xNP at q;split at q;case h_2=>simp at q
 rename_i fo W;split at q;case h_2=>simp at q
 rename_i g' Y aa;split at q;simp at q;rename_i ae;cases q;have O:=hs.eval fo;rw[aa]at O;obtain⟨cv,ad,ab,ac⟩:=O.func_inv ae;have V:=xsg (w:=w) (A:=A) (M:=M) (l:=c.args.toList) (ρc:=a.eval) (ρ:=s.eval) (λ x _=>hs.eval x);have Z:RC w A M (c.args.toList.map a.eval++cv.toList) (c.args.toList.map s.eval++Y):=RC.append ⟨V.1,V.2⟩ ⟨by simpa using ab,λ i hi=>by have:=ac i hi;simpa[z7,zu]using this⟩;unfold Oper.wp;rw[xvf ho W ad he,Oper.upon_enter];refine(J _ Z).mono ?_;rintro e w' ⟨v,rfl,hr⟩;exact hK v w' hr
variable {H:List Box}{t:Nat}{ts:List AV}
def SR.settle1(h:SR w0 A0 w A M ⟨ts,H⟩ a){y:AV}(hy:resolve H xNl (ts.getD t .top)=some y):∃A1,SR w0 A0 w A1 M ⟨ts.set t y,freeze H (reach H xNl (ts.getD t .top))⟩ a/\Mv w A M w A1 M:=
 h.settle (s1:=⟨ts.set t y,freeze H (reach H xNl (ts.getD t .top))⟩) ⟨_,rfl,by simp,fun t'=>by
  by_cases hd:t=t'
  . subst hd;by_cases q:t<ts.length
    . right;simp only[xdQ q];exact⟨hy,λ _ h=>h⟩
    . left;simp only[List.set_eq_of_length_le (Nat.le_of_not_lt q)]
  . left;simp only [xdR hd]⟩
def SR.setT(h:SR w0 A0 w A M ⟨ts,H⟩ a){y:AV}(hy:t<ts.length->Rel w A M (a.tmps.getD t undef) y):SR w0 A0 w A M ⟨ts.set t y,H⟩ a:=by refine⟨h.base,h.outer,by rw[h.size];simp,λ t' ht=>?_,h.heap,h.defers,h.ev⟩;(have ht':t'<ts.length:=by simpa using ht);show Rel w A M _ ((ts.set t y).getD t' .top);by_cases hd:t=t';subst hd;rw[xdQ ht'];exact hy ht';rw[xdR hd];exact h.tmps t' ht'
def Apart.joined(h1:Apart N M)(h2:Apart N N'):Apart N (MJ M N'):=λ id m id' m' g1 g2 g3 g4=>by rcases xtA g3 with⟨rfl,h⟩|⟨k,rfl,h⟩;exact h1 _ _ _ _ g1 g2 h g4;exact h2 _ _ _ _ g1 g2 h g4
def Apart.part{q:Id->Bool}(h:Apart N M):Apart N (MR q M):=λ id m id' m' g1 g2 g3 g4=>h id m id' m' g1 g2 (xi7 g3).2 g4
def HR.split(h:HR w A M B H):Apart (MR (pB qe1) M) (MR (pB q0) M):=λ id m id' m' g1 g2 g3 g4 he=>by obtain⟨p1,h1⟩:=xi7 g1;obtain⟨p2,h2⟩:=xi7 g3;have:=h.inj id id' m m' h1 h2 g2 g4 he;subst this;cases id with|r n i j=>simp[pB]at p1|b n=>cases n<;>simp[pB,q0,qe1]at p1 p2
def xqg(M:Id->Option MB):∀id m,MR (pB q0) M id=some m->pB q0 id:=λ id m h=>(xi7 h).1
end
def xIa(e:EntV):boxIn (pB qe1) e.E:=by simp only[boxIn,EntV.E,List.all_cons,List.all_nil,zS,AV.cells,AV.inPs,AV.inP,pB,qe1,Bool.and_self];rfl
def xH8(e:EntV):boxIn (pB qe1) e.A:=by rfl
def xH9(e:EntV):boxIn (pB qe1) e.B:=by rfl
section
variable{w0 w w':World}{A0:Cx}{A A':Nat->Prop}{M M' N N':Id->Option MB}{a:Act}{F:Nat}{e:EntV}
variable {ts:List AV}
def SR.out{b0:Box}{T:List Box}(hs:SR w0 A0 w A M ⟨ts,b0::e.E::e.A::e.B::T⟩ a)(O:∀id,A0.M1 id=none){m:MB}(hm:M (.b 1)=some m)(hg:m.b=e.g)(h2:∃m,M (.b 2)=some m)(h3:∃m,M (.b 3)=some m):EntAt w A w0.heap.size A0.w1.heap.size e (MR (pB qe1) M):=by
 refine⟨?_,λ id m h=>(xi7 h).1,⟨m,xvS rfl hm,?_,hg⟩,?_,?_,λ id m h h0=>?_⟩;refine(hs.heap.part (q:=qe1) λ n bx hb hq=>?_).swap λ n hq=>?_;match n,hq with|1,_=>((obtain rfl:e.E=bx:=by simpa using hb);exact⟨xIa e,λ j _=>rfl⟩)|2,_=>((obtain rfl:e.A=bx:=by simpa using hb);exact⟨xH8 e,λ j _=>rfl⟩)|3,_=>(obtain rfl:e.B=bx:=by simpa using hb);exact⟨xH9 e,λ j _=>rfl⟩
 match n,hq with|1,_=>rfl|2,_=>rfl|3,_=>rfl
 obtain⟨bx,hb,J⟩:=hs.heap.box _ _ hm;obtain rfl:e.E=bx:=by simpa[getB]using hb
 exact Nat.lt_of_lt_of_le (by simp[EntV.E]) J.fits;obtain⟨m,h⟩:=h2;exact⟨m,xvS rfl h⟩;obtain⟨m,h⟩:=h3;exact⟨m,xvS rfl h⟩;rcases hs.ev.src _ _ (xi7 h).2 h0 with⟨i,m1,h1,_⟩|h1;rw[O]at h1;cases h1;exact h1
def SR.newE{b0:Box}{row:List AV}{g:Nat}(hs:SR w0 A0 w A M ⟨ts,[b0,⟨0,3,94,[.agg [.list 3 row,.nils,.nils]],false,true⟩]⟩ a){m:MB}(hm:M (.b 1)=some m)(hg:m.b=g):∃M',SR w0 A0 w A M' ⟨ts,[b0,EntV.E ⟨g,row,[],[],0,0⟩,EntV.A ⟨g,row,[],[],0,0⟩,EntV.B ⟨g,row,[],[],0,0⟩]⟩ a/\Mv w A M w A M'/\M' (.b 1)=some m/\(∃m,M' (.b 2)=some m)/\∃m,M' (.b 3)=some m:=by(obtain⟨M1,h1,v1⟩:=hs.heap.cellnilJ (n:=2) (j0:=1) 100 (id:=1) rfl rfl rfl rfl;obtain⟨M2,h2,v2⟩:=h1.cellnilJ (n:=2) (j0:=2) 100 (id:=1) rfl rfl rfl rfl;have hv:=v1.trans v2;have h3:HR w A M2 w0.heap.size [b0,EntV.E ⟨g,row,[],[],0,0⟩,EntV.A ⟨g,row,[],[],0,0⟩,EntV.B ⟨g,row,[],[],0,0⟩]:=h2;have J:M2 (.b 1)=some m:=_root_.Go.Sim.M.HR.same hs.heap h3 hv.ext (n:=1) rfl rfl rfl hm;obtain⟨bx,hb,q⟩:=h3.box _ _ J;obtain rfl:EntV.E ⟨g,row,[],[],0,0⟩=bx:=by simpa[getB]using hb);have hcap:0<m.cap:=Nat.lt_of_lt_of_le (by simp[EntV.E]) q.fits;obtain⟨c,_,_,hc⟩:=q.cells hcap;have hsz:m.sz=3:=q.sz.symm;refine⟨M2,⟨hs.base,hs.outer,hs.size,λ t ht=>hv.rel (hs.tmps t ht),h3,hs.defers,hs.ev.step hv⟩,hv,J,?_,?_⟩;have h:=hc 0 1 (by simp[EntV.E]) Ω;(have h:Rel w A M2 (c.getD (0*m.sz+1) undef) (.osl (.b 2) 0 0 0):=h;generalize c.getD (0*m.sz+1) undef=v at h;cases h with|osl v id ver off len m hm hv h1 he=>exact⟨_,hm⟩);have h:=hc 0 2 (by simp[EntV.E]) Ω;have h:Rel w A M2 (c.getD (0*m.sz+2) undef) (.osl (.b 3) 0 0 0):=h;generalize c.getD (0*m.sz+2) undef=v at h;cases h with|osl v id ver off len m hm hv h1 he=>exact⟨_,hm⟩
end
end Go.Sim
end
noncomputable section
set_option maxRecDepth 100000
namespace Go.Sim.M
open Go.RowKit Go.Proofs
noncomputable abbrev cB:Code:=Tryz.f75.body.getD .skip
noncomputable abbrev cO(n:Nat):Array Oper:=opsOf (regOf cB n)
noncomputable abbrev EC(p:Nat):Env:=xvM.E.fn 62 p (lsOf []) (xNn [])
def orcC(p:Nat):xM1 Tryz.prog (xNJ.at p) (EC p):=xvM.ok.fn
def vC:AV:=.func vpF [.own (.b 0) 0 0 0]
def uT(q:Bool)(n:Nat):Nat:=cond q (n+23) n
def uE(q:Bool)(n:Nat):Nat:=cond q (n+3) n
def uR(q:Bool)(n:Nat):Nat:=cond q (n+6) n
def uB(q:Bool)(n:Nat):Nat:=cond q (n+2) n
noncomputable def lpJj(q:Bool):Code:=.seq (.region (uR q 4) (cO (uR q 4)) false) (.seq (.cond (.tmp (uT q 18)) .skip (.exit (uB q 0))) (.seq (.block (uB q 1) (.seq (.region (uR q 5) (cO (uR q 5)) false) (.seq (.region (uR q 6) (cO (uR q 6)) false) (.region (uR q 7) (cO (uR q 7)) true)))) (.region (uR q 8) (cO (uR q 8)) false)))
def xKW:cB=.seq (.region 0 (cO 0) false) (.seq (.region 1 (cO 1) false) (.seq (.region 2 (cO 2) false) (.seq (.seq (.region 3 (cO 3) false) (.block 0 (.loop (lpJj false)))) (.seq (.seq (.region 9 (cO 9) false) (.block 2 (.loop (lpJj true)))) (.seq (.region 15 (cO 15) false) .ret))))):=Θ
def callOf:Op->Call|.call c=>c|_=>default
def xGF:Enters Tryz.prog 105:=⟨_,Tryz.func105,by kernel_rfl,by kernel_rfl⟩
def rowF(f:AV):List AV:=(f.cells.getD 0 .top).toList
def cntF(f:AV):AV:=.agg [.int .i64 (f.cells.getD 1 .top).toInt,.int .i64 (f.cells.getD 2 .top).toInt,.int .i64 1]
noncomputable def keyF(f:AV):List UInt8:=(xaG (rowF f)).getD []
noncomputable def okF(f:AV):Bool:=Nat.beq f.cells.length 3&&(xM6 [.list 3,.int .i64,.int .i64] f.cells 0&&(f.one==false&&(xaG (rowF f)).isSome&&decide ((keyF f).length<=4611686018427387904)))
def boxF(f:AV):Box:=⟨0,3,54,[f],false,true⟩
abbrev PE:Type:=List UInt8×List AV×List AV×List AV
def strip(x:List UInt8×EntV):PE:=(x.1,x.2.row,x.2.a,x.2.b)
def ixP(ps:List PE)(k:List UInt8):Option Nat:=ps.findIdx? λ x=>x.1==k
def msOf(es:List (List UInt8×EntV)):List AV:=es.map λ x=>.agg [.str x.1,.gptr x.2.g]
def xqV(es:List (List UInt8×EntV)):(msOf es).length=es.length:=by simp[msOf]
def xsN(k:List UInt8):∀es:List (List UInt8×EntV),mapIx (msOf es) k=ixP (es.map strip) k|[]=>rfl|x::es=>by have ih:=xsN k es;unfold ixP at ih|-;simp only[msOf,zV,mapIx,AV.cells,List.getD_cons_zero,isKey,List.findIdx?_cons];cases h:(x.1==k)with|true=>simp[strip,h]|false=>simp only[strip,h];rw[show List.map (λ x=>AV.agg [AV.str x.fst,AV.gptr x.snd.g]) es=msOf es from rfl,ih];simp[strip]
def defP:PE:=([],[],[],[])
def putP(q:Bool)(ps:List PE)(k:List UInt8)(row:List AV)(c:AV):List PE:=match ixP ps k with|some j=>ps.set j ((ps.getD j defP).1,(ps.getD j defP).2.1,cond q (ps.getD j defP).2.2.1 ((ps.getD j defP).2.2.1++[c]),cond q ((ps.getD j defP).2.2.2++[c]) (ps.getD j defP).2.2.2)|none=>ps++[(k,row,cond q [] [c],cond q [c] [])]
noncomputable def stepP(q:Bool)(ps:List PE)(f:AV):List PE:=putP q ps (keyF f) (rowF f) (cntF f)
def _root_.Go.Sim.EntV.add(q:Bool)(e:EntV)(c:AV):EntV:=cond q {e with b:=e.b++[c],vb:=e.vb+1} {e with a:=e.a++[c],va:=e.va+1}
def _root_.Go.Sim.EntV.sl(q:Bool)(e:EntV):List AV:=cond q e.b e.a
def _root_.Go.Sim.EntV.vr(q:Bool)(e:EntV):Nat:=cond q e.vb e.va
def _root_.Go.Sim.EntV.add_g(q:Bool)(e:EntV)(c:AV):(e.add q c).g=e.g:=by cases q<;>rfl
structure Ents (w:World) (A:Nat->Prop) (B F c:Nat) (es:List (List UInt8×EntV)) (Ns:Nat->Id->Option MB) (M:Id->Option MB):Prop where
 ent:∀(i:Nat)(x:List UInt8×EntV),es[i]?=some x->EntAt w A B F x.2 (Ns i)
 apart:∀i j,i<es.length->j<es.length->i≠j->Apart (Ns i) (Ns j)
 apm:∀i,i<es.length->Apart (Ns i) M
 bnd:∀(i:Nat)(x:List UInt8×EntV),es[i]?=some x->x.2.a.length<=c/\x.2.b.length<=c
 cnt:es.length<=c
def xnf{α:Type}{l:List α}{i:Nat}{x:α}(h:l[i]?=some x):i<l.length:=by rcases zJ i l.length with h'|h';exact h';rw[zz h']at h;cases h
section
variable{w w':World}{A A':Nat->Prop}{B F c:Nat}{es:List (List UInt8 × EntV)}{Ns:Nat->Id->Option MB}{M M' M1:Id->Option MB}
def Ents.go(h:Ents w A B F c es Ns M)(hm:Mv w A M w' A' M')(q:∀b,A' b->b<w'.heap.size):Ents w' A' B F c es Ns M':=
 ⟨fun i x hx=>(h.ent i x hx).go hm q (h.apm i (xnf hx)),h.apart,fun i hi=>by
  obtain ⟨x,hx⟩:∃ x,es[i]?=some x:=⟨es[i],ze hi⟩;exact (h.apm i hi).go (h.ent i x hx) hm,h.bnd,h.cnt⟩
def Ents.part{q:Id->Bool}(h:Ents w A B F c es Ns M):Ents w A B F c es Ns (MR q M):=⟨h.ent,h.apart,λ i hi=>(h.apm i hi).part,h.bnd,h.cnt⟩
variable {e':EntV}{k:List UInt8}
def Ents.upd(h:Ents w A B F c es Ns M){j:Nat}(hj:j<es.length)(hm:Mv w A (MJ M (Ns j)) w' A' M1)(V:∀b,A' b->b<w'.heap.size)(he:EntAt w' A' B F e' (MR (pB qe1) M1))(hs:Apart (MR (pB qe1) M1) (MR (pB q0) M1))(hb:e'.a.length<=c+1/\e'.b.length<=c+1):Ents w' A' B F (c+1) (es.set j (k,e')) (λ i=>if i=j then MR (pB qe1) M1 else Ns i) (MR (pB q0) M1):=by(have Q:∀i,i<es.length->i≠j->Apart (Ns i) M1:=λ i hi hne=>by obtain⟨x,hx⟩:∃x,es[i]?=some x:=⟨es[i],ze hi⟩;exact((h.apm i hi).joined (h.apart i j hi hj hne)).go (h.ent i x hx) hm);refine⟨λ i x hx=>?_,λ i i' hi O hne=>?_,λ i hi=>?_,λ i x hx=>?_,?_⟩;by_cases q:i=j;subst q;rw[zL hj]at hx;cases hx;simpa using he;rw[zX (λ e=>q e.symm)]at hx;simp only[q,if_false];exact(h.ent i x hx).go hm V ((h.apm i (xnf hx)).joined (h.apart i j (xnf hx) hj q));rw[y4]at hi O;by_cases q:i=j;have J:i'≠j:=λ e=>hne (q.trans e.symm);simp only[q,J,if_true,if_false];exact(Apart.part (Q i' O J)).symm;by_cases J:i'=j;simp only[q,J,if_true,if_false];exact Apart.part (Q i hi q);simp only[q,J,if_false];exact h.apart i i' hi O hne;rw[y4]at hi;by_cases q:i=j;simp only[q,if_true];exact hs;simp only[q,if_false];exact Apart.part (Q i hi q);by_cases q:i=j;subst q;rw[zL hj]at hx;cases hx;exact hb;rw[zX (λ e=>q e.symm)]at hx;have:=h.bnd i x hx;omega;rw[y4];have:=h.cnt;omega
def Ents.add(h:Ents w A B F c es Ns M)(hm:Mv w A M w' A' M1)(Q:∀b,A' b->b<w'.heap.size)(he:EntAt w' A' B F e' (MR (pB qe1) M1))(hs:Apart (MR (pB qe1) M1) (MR (pB q0) M1))(hb:e'.a.length<=c+1/\e'.b.length<=c+1):Ents w' A' B F (c+1) (es++[(k,e')]) (λ i=>if i=es.length then MR (pB qe1) M1 else Ns i) (MR (pB q0) M1):=by(have O:∀i,i<es.length->Apart (Ns i) M1:=λ i hi=>by obtain⟨x,hx⟩:∃x,es[i]?=some x:=⟨es[i],ze hi⟩;exact(h.apm i hi).go (h.ent i x hx) hm);(have hl:(es++[(k,e')]).length=es.length+1:=by simp);refine⟨λ i x hx=>?_,λ i i' hi V hne=>?_,λ i hi=>?_,λ i x hx=>?_,?_⟩;have hi:=xnf hx;by_cases q:i=es.length;subst q;simp at hx;subst hx;simpa using he;rw[zO Ω]at hx;simp only[q,if_false];exact(h.ent i x hx).go hm Q (h.apm i (xnf hx));by_cases q:i=es.length;have J:i'≠es.length:=λ e=>hne (q.trans e.symm);simp only[q,J,if_true,if_false];exact(Apart.part (O i' Ω)).symm;by_cases J:i'=es.length;simp only[q,J,if_true,if_false];exact Apart.part (O i Ω);simp only[q,J,if_false];exact h.apart i i' Ω Ω hne;by_cases q:i=es.length;simp only[q,if_true];exact hs;simp only[q,if_false];exact Apart.part (O i Ω);have hi:=xnf hx;by_cases q:i=es.length;subst q;simp at hx;subst hx;exact hb;rw[zO Ω]at hx;have:=h.bnd i x hx;omega;have:=h.cnt;omega
end
end Go.Sim.M
end
noncomputable section
set_option maxRecDepth 100000
namespace Go.Sim.M
open Go.RowKit Go.Proofs
def xwo{ops:Array Oper}{l:List Oper}{s s':St}(h:xOps Tryz.prog (EC 0) none (some true) ops l s some=some s'):Path (OpA Tryz.prog (xNJ.at 0)) ops l s s':=by obtain⟨s1,h1,h2⟩:=xer (orcC 0) h;cases h2;exact h1
variable {es:List (List UInt8×EntV)}{j:Nat}{x:List UInt8×EntV}
def xuw(h:es[j]?=some x):(msOf es).getD j .top=.agg [.str x.1,.gptr x.2.g]:=by simp[msOf,z7,h]
variable {k:List UInt8}
def xGK{ps:List PE}(h:ixP ps k=some j):j<ps.length/\(ps.getD j defP).1=k:=by unfold ixP at h;obtain⟨h1,h2,_⟩:=List.findIdx?_eq_some_iff_getElem.1 h;exact⟨h1,by simpa[z7,h1]using h2⟩
def xKe(es:List (List UInt8×EntV))(k:List UInt8):xNj .nilptr (msOf es) k=.nilptr\/∃g,xNj .nilptr (msOf es) k=.gptr g:=by unfold xNj;cases h:mapIx (msOf es) k with|none=>exact .inl rfl|some j=>have hj:=xlc h;rw[xqV]at hj;obtain⟨x,hx⟩:∃x,es[j]?=some x:=⟨es[j],ze hj⟩;right;dsimp only;rw[xuw hx];exact⟨_,rfl⟩
variable {g:Nat}
def xFc(h:xNj .nilptr (msOf es) k=.gptr g):∃j x,es[j]?=some x/\x.1=k/\x.2.g=g/\ixP (es.map strip) k=some j:=by unfold xNj at h;cases hi:mapIx (msOf es) k with|none=>rw[hi]at h;cases h|some j=>(have hj:=xlc hi;rw[xqV]at hj;obtain⟨x,hx⟩:∃x,es[j]?=some x:=⟨es[j],ze hj⟩;rw[hi]at h;dsimp only at h;rw[xuw hx]at h;rw[xsN]at hi;have h2:=(xGK hi).2;have e:(es.map strip).getD j defP=strip x:=by simp[z7,hx]);rw[e]at h2;refine⟨j,x,hx,h2,?_,hi⟩;have h:AV.gptr x.2.g=.gptr g:=h;injection h
def xIe(h:xNj .nilptr (msOf es) k=.nilptr):mapIx (msOf es) k=none:=by unfold xNj at h;cases hi:mapIx (msOf es) k with|none=>rfl|some j=>have hj:=xlc hi;rw[xqV]at hj;obtain⟨x,hx⟩:∃x,es[j]?=some x:=⟨es[j],ze hj⟩;rw[hi]at h;dsimp only at h;rw[xuw hx]at h;cases h
variable {e':EntV}
def xGP(h:es[j]?=some x)(hg:e'.g=x.2.g):msOf (es.set j (x.1,e'))=msOf es:=by unfold msOf;rw[List.map_set];apply List.ext_getElem?;intro i;by_cases hi:j=i;subst hi;have:=xnf h;rw[zL (by simpa using this)];simp[h,hg];rw[zX hi]
def xGO(h:mapIx (msOf es) k=none):msOf (es++[(k,e')])=xNh (msOf es) k (.gptr e'.g):=by unfold xNh;rw[h];simp[msOf]
variable {row:List AV}
def xFX(q:Bool){c:AV}(h:es[j]?=some x)(hi:ixP (es.map strip) k=some j):(es.set j (x.1,x.2.add q c)).map strip=putP q (es.map strip) k row c:=by(have e:(es.map strip).getD j defP=strip x:=by simp[z7,h]);unfold putP;rw[hi];dsimp only;rw[e,List.map_set];cases q<;>rfl
def xFW(q:Bool){c:AV}(hi:mapIx (msOf es) k=none):(es++[(k,(⟨g,row,[],[],0,0⟩:EntV).add q c)]).map strip=putP q (es.map strip) k row c:=by rw[xsN]at hi;unfold putP;rw[hi];cases q<;>simp[strip,EntV.add]
def entV(row a b:List AV):AV:=.eptr 3 [.agg [.list 3 row,.list 3 a,.list 3 b]] 0 0
def outE(p:PE):AV:=.agg [.str p.1,entV p.2.1 p.2.2.1 p.2.2.2]
def outOf(ps:List PE):List AV:=ps.map outE
variable {H:List Box}
def xym{n k ver sz:Nat}{ty:TypeId}{xs:List AV}(hb:H[k]?=some ⟨ver,sz,ty,xs,false,true⟩)(hc:isC ty=false):resolve H (n+1) (.osl (.b k) ver 0 xs.length)=some (.list sz xs):=by(have hm:xM3 ty=false:=xaV hc;have h1:xM4 H (.b k) ver=some ⟨ver,sz,ty,xs,false,true⟩:=by unfold xM4;rw[xbV,hb];simp[hm]);(have h2:rowsOk ⟨ver,sz,ty,xs,false,true⟩ xs:=by unfold rowsOk;rw[hc]);unfold resolve;simp[AV.pure,h1,mapE,h2]
def xG8(e:EntV)(h3:xM4 H (.b 1) 0=some e.E)(h1:resolve H 3 (.osl (.b 2) e.va 0 e.a.length)=some (.list 3 e.a))(h2:resolve H 3 (.osl (.b 3) e.vb 0 e.b.length)=some (.list 3 e.b)):resolve H 4 (.own (.b 1) 0 0 0)=some (entV e.row e.a e.b):=by(have h0:resolve H 3 (.list 3 e.row)=some (.list 3 e.row):=by unfold resolve;simp[AV.pure]);unfold resolve;simp only[AV.pure,h3];simp only[EntV.E,mapE,mapO,resE,h0,h1,h2];rfl
def xIy(e:EntV):resolve [box0,e.E,e.A,e.B] 4 (.own (.b 1) 0 0 0)=some (entV e.row e.a e.b):=xG8 e rfl (xym rfl rfl) (xym rfl rfl)
section
variable{w0 w:World}{A0:Cx}{A A':Nat->Prop}{M N:Id->Option MB}{a:Act}{B F:Nat}{e:EntV}
def _root_.Go.Sim.EntAt.froz(h:EntAt w A B F e N)(hA:∀b,A' b->A b)(q:∀id m,N id=some m->0<m.cap->¬ A' m.b){v:Value}(hv:v=.pointer (some ⟨e.g,0,none⟩)):Rel w A' xNe v (entV e.row e.a e.b):=xdS h.hr (λ b _=>hA b) 4 v _ _ (h.own hv) (xIy e) λ id _ m hm h0=>q id m hm h0
variable {es:List (List UInt8×EntV)}
def xKl{j:Nat}{x:List UInt8×EntV}(h:es[j]?=some x):(outOf (es.map strip)).getD j .top=.agg [.str x.1,entV x.2.row x.2.a x.2.b]:=by simp[outOf,outE,strip,z7,h]
def SR.final{ts:List AV}{Ns:Nat->Id->Option MB}{c:Nat}(hs:SR w0 A0 w A M ⟨ts,[mapB (msOf es)]⟩ a)(hE:Ents w A w0.heap.size A0.w1.heap.size c es Ns M)(hM:∀id m,M id=some m->pB q0 id)(hp:A0.pin=0):∃A',SR w0 A0 w A' M ⟨ts,[mapB (outOf (es.map strip))]⟩ a:=by
 obtain⟨A',Y⟩:∃A':Nat->Prop,A'=λ b=>A b/\∀i id m,i<es.length->Ns i id=some m->0<m.cap->m.b≠b:=⟨_,rfl⟩;have J:∀b,A' b->A b:=λ b h=>by rw[Y]at h;exact h.1
 have W:∀b,A b->(∀i id m,i<es.length->Ns i id=some m->0<m.cap->m.b≠b)->A' b:=λ b h1 h2=>by rw[Y];exact⟨h1,h2⟩
 have ac:∀i,i<es.length->∀id m,Ns i id=some m->0<m.cap->¬ A' m.b:=λ i hi id m h1 h2 h3=>by rw[Y]at h3;exact h3.2 i id m hi h1 h2 rfl
 have O:∀i,i<es.length->∃x,es[i]?=some x/\EntAt w A w0.heap.size A0.w1.heap.size x.2 (Ns i):=λ i hi=>⟨es[i],ze hi,hE.ent i _ (ze hi)⟩;refine⟨A',hs.base,λ b hb=>⟨λ h=>(hs.outer b hb).1 (J b h),λ h=>W b ((hs.outer b hb).2 h) λ i id m hi h1 h2 he=>?_⟩,hs.size,λ t ht=>(hs.tmps t ht).mono (λ _ _ _=>rfl) (zd _) (λ b _ h=>J b h) (MExt.refl _),⟨λ id m hm=>?_,hs.heap.inj,λ b h=>hs.heap.lt b (J b h)⟩,hs.defers,⟨hs.ev.size,hs.ev.keep,λ b hb h=>hs.ev.less b hb (J b h),λ b hb h hn=>W b (hs.ev.more b hb h hn) λ i id m hi h1 h2 he=>?_,λ id m h=>by rw[hp]at h;exact absurd h (Nat.not_lt_zero _),hs.ev.src⟩⟩;obtain⟨x,hx,Q⟩:=O i hi;obtain⟨bx,_,q⟩:=Q.hr.box id m h1;have:=q.low h2;omega;have ab:=hM id m hm;cases id with|r n i j=>simp[pB]at ab|b n=>cases n with|succ n=>simp[pB,q0]at ab|zero=>(obtain⟨bx,hb,q⟩:=hs.heap.box _ _ hm;obtain rfl:mapB (msOf es)=bx:=by simpa[getB]using hb);(have hsz:m.sz=2:=q.sz.symm;have V:(outOf (es.map strip)).length=(msOf es).length:=by simp[outOf,msOf]);refine⟨mapB (outOf (es.map strip)),rfl,q.ver,q.sz,q.ty,q.capm,by show (outOf (es.map strip)).length<=_;rw[V];exact q.fits,λ x hx=>?_,q.low,q.lt,λ h0=>?_,λ h0=>?_⟩;have hx:x∈outOf (es.map strip):=hx;unfold outOf at hx;obtain⟨p,_,rfl⟩:=zK.1 hx;rw[hsz];rfl;obtain⟨cc,c1,c2,c3⟩:=q.cells h0;refine⟨cc,by show HoldsC w m (outOf (es.map strip)).length cc;rw[V];exact c1,c2,λ i j hi hj=>?_⟩;(have hi':i<es.length:=by have hi:i<(outOf (es.map strip)).length:=hi;simpa[outOf]using hi);have h3:=c3 i j (by show i<(msOf es).length;rw[xqV];exact hi') hj;(obtain⟨x,hx,Q⟩:=O i hi';have Z:xM2 (mapB (msOf es)).ty j=false:=by rcases j with _|_|j;exact xAj;exact xAk;omega);unfold xNp MV at h3|-;have aa:xM2 (mapB (outOf (es.map strip))).ty j=false:=Z;rw[Z]at h3;rw[aa];have h3:Rel w A xNe (cc.getD (i*m.sz+j) undef) (((msOf es).getD i .top).cells.getD j .top):=h3;show Rel w A' xNe (cc.getD (i*m.sz+j) undef) (((outOf (es.map strip)).getD i .top).cells.getD j .top);rw[xuw hx]at h3;rw[xKl hx];generalize cc.getD (i*m.sz+j) undef=v at h3;rcases j with _|_|j;exact h3.mono (λ _ _ _=>rfl) (zd _) (λ b _ h=>J b h) (MExt.refl _);have h3:Rel w A xNe v (.gptr x.2.g):=h3;cases h3;exact Q.froz J (ac i hi') rfl;omega;have h1:=q.guard h0;refine⟨λ h=>W _ (h1.1 h) λ i id m' hi h2 h3 he=>hE.apm i hi id m' _ m h2 h3 hm h0 he,λ h=>h1.2 (J _ h)⟩
 obtain⟨x,hx,Q⟩:=O i hi;have:=Q.fresh id m h1 h2;omega
end
end Go.Sim.M
end
noncomputable section
set_option maxRecDepth 100000
namespace Go.Sim.M
open Go.RowKit Go.Proofs
def lvJj(q:Bool):List Nat:=[1,5,6,(uT q 15),(uT q 16),(uT q 17)]
noncomputable def hdJj(q:Bool)(fb l:List AV)(n i:Int):List AV:=mkTs 62 [(1,.list 3 fb),(5,vC),(6,.func 105 [vC]),((uT q 15),.list 3 l),((uT q 16),.int .i64 n),((uT q 17),.int .i64 i)]
def ndJj4(q:Bool):noDefer (cO (uR q 4)):=by cases q<;>kernel_rfl
def ndJj5(q:Bool):noDefer (cO (uR q 5)):=by cases q<;>kernel_rfl
def ndJj6(q:Bool):noDefer (cO (uR q 6)):=by cases q<;>kernel_rfl
def ndJj8(q:Bool):noDefer (cO (uR q 8)):=by cases q<;>kernel_rfl
def rJj4(q:Bool)(fb l ms:List AV)(n i:Int):xOps Tryz.prog (EC 0) none (some true) (cO (uR q 4)) (cO (uR q 4)).toList ⟨(hdJj q) fb l n i,[mapB ms]⟩ (λ s=>some (keepS ((uT q 18)::(lvJj q)) s))=some ⟨((hdJj q) fb l n i).set (uT q 18) (.bool (decide (i<n))),[mapB ms]⟩:=by cases q<;>kernel_rfl
def rJj5(q:Bool)(fb l ms:List AV)(n i:Int):xOps Tryz.prog (EC 0) none (some true) (cO (uR q 5)) (cO (uR q 5)).toList ⟨((hdJj q) fb l n i).set (uT q 18) (.bool true),[mapB ms]⟩ (λ s=>some (keepS ((uE q 8)::(lvJj q)) s)) =br (decide ((0:Int)<=i)&&decide (i<(l.length:Int))) (br (decide (i.toNat<l.length)&&((l.getD i.toNat .top).cells.length==3&&xM6 [.list 3,.int .i64,.int .i64] (l.getD i.toNat .top).cells 0)) (some ⟨((hdJj q) fb l n i).set (uE q 8) (.own (.b 1) 0 0 0),[mapB ms,boxF (.agg [.list 3 ((l.getD i.toNat .top).cells.getD 0 .top).toList,.int .i64 ((l.getD i.toNat .top).cells.getD 1 .top).toInt,.int .i64 ((l.getD i.toNat .top).cells.getD 2 .top).toInt])]⟩) none) none:=by cases q<;>kernel_rfl
noncomputable def h8Jj(q:Bool)(fb l:List AV)(n i:Int)(row:List AV)(ff ft:Int):List AV:=((hdJj q) fb l n i).set (uE q 8) (.eptr 3 [.agg [.list 3 row,.int .i64 ff,.int .i64 ft]] 0 0)
noncomputable def h9Jj(q:Bool)(fb l:List AV)(n i:Int)(row:List AV)(ff ft:Int):List AV:=((((h8Jj q) fb l n i row ff ft).set (uT q 21) (.func 105 [vC])).set (uT q 22) (.eptr 3 [.agg [.list 3 row,.int .i64 ff,.int .i64 ft]] 0 0)).set (uT q 23) (.list 3 row)
def rJj6(q:Bool)(fb l ms:List AV)(n i:Int)(row:List AV)(ff ft:Int):xOps Tryz.prog (EC 0) none (some true) (cO (uR q 6)) ((cO (uR q 6)).toList.take 3) ⟨(h8Jj q) fb l n i row ff ft,[mapB ms]⟩ some=some ⟨(h9Jj q) fb l n i row ff ft,[mapB ms]⟩:=by cases q<;>kernel_rfl
def lJj6(q:Bool):(cO (uR q 6)).toList=(cO (uR q 6)).toList.take 3++[(cO (uR q 6)).toList.getD 3 default,(cO (uR q 6)).toList.getD 4 default]:=by cases q<;>kernel_rfl
def oJj3(q:Bool):((cO (uR q 6)).toList.getD 3 default).op=.call (callOf ((cO (uR q 6)).toList.getD 3 default).op):=by cases q<;>kernel_rfl
def tJj3(q:Bool)(fb l ms:List AV)(n i:Int)(row:List AV)(ff ft:Int):xNP ⟨(h9Jj q) fb l n i row ff ft,[mapB ms]⟩ (callOf ((cO (uR q 6)).toList.getD 3 default).op)=some (105,[.list 3 row,vC]):=by cases q<;>kernel_rfl
def dJj3(q:Bool):((cO (uR q 6)).toList.getD 3 default).dst=some (uT q 24):=by cases q<;>kernel_rfl
def gJj3(q:Bool):((cO (uR q 6)).toList.getD 3 default).guard=none:=by cases q<;>kernel_rfl
def rJj6f(q:Bool)(fb l ms:List AV)(n i:Int)(row:List AV)(ff ft:Int)(g:Nat):xOps Tryz.prog (EC 0) none (some true) (cO (uR q 6)) [(cO (uR q 6)).toList.getD 4 default] ⟨((h9Jj q) fb l n i row ff ft).set (uT q 24) (.gptr g),[mapB ms]⟩ (λ s=>some (keepS ((uE q 8)::(uE q 9)::(lvJj q)) s))=some ⟨((h8Jj q) fb l n i row ff ft).set (uE q 9) (.gptr g),[mapB ms]⟩:=by cases q<;>kernel_rfl
def rJj6n(q:Bool)(fb l ms:List AV)(n i:Int)(row:List AV)(ff ft:Int)(g:Nat):xOps Tryz.prog (EC 0) none (some true) (cO (uR q 6)) [(cO (uR q 6)).toList.getD 4 default] ⟨((h9Jj q) fb l n i row ff ft).set (uT q 24) (.gptr g),[mapB ms,boxN row]⟩ (λ s=>some (keepS ((uE q 8)::(uE q 9)::(lvJj q)) s))=some ⟨((h8Jj q) fb l n i row ff ft).set (uE q 9) (.gptr g),[mapB ms,boxN row]⟩:=by cases q<;>kernel_rfl
def boxJj(q:Bool)(e:EntV):Box:=⟨0,3,94,[.agg (cond q [.list 3 e.row,.osl (.b 2) e.va 0 e.a.length,.osl (.b 3) (e.vb+1) 0 (e.b.length+1)] [.list 3 e.row,.osl (.b 2) (e.va+1) 0 (e.a.length+1),.osl (.b 3) e.vb 0 e.b.length])],false,false⟩
def xGc(q:Bool)(e:EntV)(c:AV):boxJj q e=(e.add q c).E:=by cases q<;>(unfold boxJj EntV.E EntV.add;simp)
def rJj7(q:Bool)(fb l ms:List AV)(n i:Int)(row:List AV)(ff ft:Int)(e:EntV):X Tryz.prog (EC 4) none (.region (uR q 7) (cO (uR q 7)) true) ⟨((h8Jj q) fb l n i row ff ft).set (uE q 9) (.own (.b 1) 0 0 0),[mapB ms,e.E,e.A,e.B]⟩ (λ ex s=>some (ex,keepS (lvJj q) s)) =br (e.vr q==e.vr q&&((e.sl q).length==(e.sl q).length&&(decide (((e.sl q).length+1)*24<=140737488355328)&&decide ((e.sl q).length+1<=4611686018427387904)))) (some (.normal,⟨(hdJj q) fb l n i,[mapB ms,boxJj q e,(e.add q (.agg [.int .i64 ff,.int .i64 ft,.int .i64 1])).A,(e.add q (.agg [.int .i64 ff,.int .i64 ft,.int .i64 1])).B,⟨0,3,100,[.agg [.int .i64 ff,.int .i64 ft,.int .i64 1]],false,true⟩]⟩)) none:=by cases q<;>kernel_rfl
def lkJj(q:Bool):LoOk Tryz.prog (xNJ.at 4) (EC 4) (.region (uR q 7) (cO (uR q 7)) true):=xgz rfl
def rJj8(q:Bool)(fb l ms:List AV)(n i:Int):xOps Tryz.prog (EC 0) none (some true) (cO (uR q 8)) (cO (uR q 8)).toList ⟨(hdJj q) fb l n i,[mapB ms]⟩ (λ s=>some (keepS (lvJj q) s))=some ⟨(hdJj q) fb l n (IntKind.i64.wrap (i+1)),[mapB ms]⟩:=by cases q<;>kernel_rfl
def cutJj(q:Bool)(fb l:List AV)(n i:Int):cutT ((hdJj q) fb l n i)=(hdJj q) fb l n i:=by cases q<;>kernel_rfl
def cutJj8(q:Bool)(fb l:List AV)(n i:Int)(row:List AV)(ff ft:Int):cutT ((h8Jj q) fb l n i row ff ft)=(h8Jj q) fb l n i row ff ft:=by cases q<;>kernel_rfl
def xlT(ms:List AV):boxIn (pB q0) (mapB ms):=Θ
def xlU(ms:List AV)(j:Nat)(hj:j<(mapB ms).sz):xM2 (mapB ms).ty j=false:=by have hj:j<2:=hj;rcases j with _|_|j;exact xAj;exact xAk;omega
section
variable{w0 w:World}{A0:Cx}{A:Nat->Prop}{M:Id->Option MB}{a:Act}
def tailJj(q:Bool)(hI:xNJ w0)(hp:A0.pin=0)(aa:∀id,A0.M1 id=none){fb l ms row:List AV}{n i ff ft:Int}{e:EntV}{m:MB}(hs:SR w0 A0 w A M ⟨((h8Jj q) fb l n i row ff ft).set (uE q 9) (.own (.b 1) 0 0 0),[mapB ms,e.E,e.A,e.B]⟩ a)(hm:M (.b 1)=some m)(hg:m.b=e.g)(h2:∃m,M (.b 2)=some m)(h3:∃m,M (.b 3)=some m)(hb:(e.sl q).length<4294967296){Q:Exit->Act->World->Prop}(hK:∀a' w' A' M',SR w0 A0 w' A' (MR (pB q0) M') ⟨(hdJj q) fb l n i,[mapB ms]⟩ a'->Mv w A M w' A' M'->(∀b,A' b->b<w'.heap.size)->EntAt w' A' w0.heap.size A0.w1.heap.size (e.add q (.agg [.int .i64 ff,.int .i64 ft,.int .i64 1])) (MR (pB qe1) M')->Apart (MR (pB qe1) M') (MR (pB q0) M')->Q .normal a' w'):(Code.region (uR q 7) (cO (uR q 7)) true).wpIn (wideR none) 0 Tryz.prog Q a w:=by
 obtain⟨Y,V⟩:∃t:St,t=⟨(hdJj q) fb l n i,[mapB ms,(e.add q (.agg [.int .i64 ff,.int .i64 ft,.int .i64 1])).E,(e.add q (.agg [.int .i64 ff,.int .i64 ft,.int .i64 1])).A,(e.add q (.agg [.int .i64 ff,.int .i64 ft,.int .i64 1])).B,⟨0,3,100,[.agg [.int .i64 ff,.int .i64 ft,.int .i64 1]],false,true⟩]⟩:=⟨_,rfl⟩;have hx:=(rJj7 q) fb l ms n i row ff ft e;have hc:(e.vr q==e.vr q&&((e.sl q).length==(e.sl q).length&&(decide (((e.sl q).length+1)*24<=140737488355328)&&decide ((e.sl q).length+1<=4611686018427387904)))):=by simp only[beq_self_eq_true,Bool.true_and,zf,zl];omega
 rw[hc]at hx;have hx:X Tryz.prog (EC 4) none (.region (uR q 7) (cO (uR q 7)) true) ⟨((h8Jj q) fb l n i row ff ft).set (uE q 9) (.own (.b 1) 0 0 0),[mapB ms,e.E,e.A,e.B]⟩ (λ ex s=>some (ex,keepS (lvJj q) s))=some (.normal,Y):=by rw[V,<-(xGc q)];exact hx
 have hd:=xf8 (P:=Tryz.prog) (Inv:=xNJ.at 4) (E:=EC 4) (T:=Option (Exit×St)) (good:=λ o=>o=some (.normal,Y)) (bad:=none) xNa (hIoG 4) rfl Ψ (orcC 4) _ _ _ (lkJj q) hx;refine hd w0 _ w A M a _ hI (zd 4) (hs.door 4) ?_ none (λ _=>rfl);rintro ex s' a' w' hq ⟨A',M',Z⟩;simp only[z6,zb]at hq;obtain⟨rfl,hk⟩:=hq;obtain⟨ac,O⟩:=hs.undoor (zd 4) Z;have J:=ac.mask (lvJj q);rw[hk,V]at J;have ab:M' (.b 1)=some m:=HR.same hs.heap J.heap O.ext (n:=1) rfl rfl rfl hm;have h2':∃m,M' (.b 2)=some m:=by obtain⟨m2,h⟩:=h2;obtain⟨m',h',_⟩:=O.ext _ _ h;exact⟨m',h'⟩
 have h3':∃m,M' (.b 3)=some m:=by obtain⟨m2,h⟩:=h3;obtain⟨m',h',_⟩:=O.ext _ _ h;exact⟨m',h'⟩
 have W:=J.cut hp (xlT ms) (xlU ms);rw[(cutJj q)]at W;exact hK _ _ _ _ W O J.heap.lt (J.out aa ab (hg.trans (EntV.add_g q e _).symm) h2' h3') J.heap.split
end
end Go.Sim.M
end
noncomputable section
set_option maxRecDepth 100000
namespace Go.Sim.M
open Go.RowKit Go.Proofs
def cutJj9(q:Bool)(fb l:List AV)(n i:Int)(row:List AV)(ff ft:Int)(g:Nat):cutT (((h8Jj q) fb l n i row ff ft).set (uE q 9) (.gptr g))=((h8Jj q) fb l n i row ff ft).set (uE q 9) (.gptr g):=by cases q<;>kernel_rfl
def getJj9(q:Bool)(fb l:List AV)(n i:Int)(row:List AV)(ff ft:Int)(g:Nat):(((h8Jj q) fb l n i row ff ft).set (uE q 9) (.gptr g)).getD (uE q 9) .top=.gptr g:=by cases q<;>kernel_rfl
def resJj(q:Bool)(ms:List AV)(fb l:List AV)(n i:Int)(f:AV):resolve [mapB ms,boxF f] xNl ((((hdJj q) fb l n i).set (uE q 8) (.own (.b 1) 0 0 0)).getD (uE q 8) .top)=some (.eptr 3 [f] 0 0):=by cases q<;>kernel_rfl
def reaJj(q:Bool)(ms:List AV)(fb l:List AV)(n i:Int)(f:AV):freeze [mapB ms,boxF f] (reach [mapB ms,boxF f] xNl ((((hdJj q) fb l n i).set (uE q 8) (.own (.b 1) 0 0 0)).getD (uE q 8) .top))=[mapB ms,⟨0,3,54,[f],true,true⟩]:=by cases q<;>kernel_rfl
def setJj8(q:Bool)(fb l:List AV)(n i:Int)(row:List AV)(ff ft:Int):(((hdJj q) fb l n i).set (uE q 8) (.own (.b 1) 0 0 0)).set (uE q 8) (.eptr 3 [.agg [.list 3 row,.int .i64 ff,.int .i64 ft]] 0 0)=(h8Jj q) fb l n i row ff ft:=by cases q<;>kernel_rfl
def xGQ{f:AV}(h:okF f):(f.cells.length==3&&xM6 [.list 3,.int .i64,.int .i64] f.cells 0):=by unfold okF at h;simp only[zf]at h;rw[zf];exact⟨beq_iff_eq.2 (zg h.1),h.2.1⟩
def xIq{f:AV}(h:okF f):xaG (rowF f)=some (keyF f)/\(keyF f).length<=4611686018427387904:=by unfold okF at h;simp only[zf,zl]at h;obtain⟨_,_,⟨_,h1⟩,h2⟩:=h;obtain⟨k,hk⟩:=Option.isSome_iff_exists.1 h1;refine⟨?_,h2⟩;unfold keyF;rw[hk];rfl
section
variable{w0 w:World}{A0:Cx}{A:Nat->Prop}{M:Id->Option MB}{a:Act}
set_option maxHeartbeats 2000000 in
def callJj(q:Bool)(hI:xNJ w0)(hp:A0.pin=0)(al:∀id,A0.M1 id=none){fb l:List AV}{n i:Int}{f:AV}{es:List (List UInt8×EntV)}{Ns:Nat->Id->Option MB}{c:Nat}(hs:SR w0 A0 w A M ⟨(h8Jj q) fb l n i (rowF f) (f.cells.getD 1 .top).toInt (f.cells.getD 2 .top).toInt,[mapB (msOf es)]⟩ a)(hE:Ents w A w0.heap.size A0.w1.heap.size c es Ns M)(hM:∀id m,M id=some m->pB q0 id)(hf:okF f)(hc:c<4294967295){Q:Exit->Act->World->Prop}(hK:∀a' w' A' M' es' Ns',SR w0 A0 w' A' M' ⟨(hdJj q) fb l n i,[mapB (msOf es')]⟩ a'->(∀id m,M' id=some m->pB q0 id)->Ents w' A' w0.heap.size A0.w1.heap.size (c+1) es' Ns' M'->es'.map strip=(stepP q) (es.map strip) f->Q .normal a' w'):(Code.seq (.region (uR q 6) (cO (uR q 6)) false) (.region (uR q 7) (cO (uR q 7)) true)).wpIn (wideR none) 0 Tryz.prog Q a w:=by
 obtain⟨aq,a8⟩:=xIq hf;refine wpIn_seq (wpIn_region_list (xfr none 0 _ (xdI (ndJj6 q)) _ _ ?_));rw[(lJj6 q)];refine xhX (hIoG 0) hI (xwo ((rJj6 q) fb l (msOf es) n i (rowF f) (f.cells.getD 1 .top).toInt (f.cells.getD 2 .top).toInt)) hs λ a1 w1 A1 M1 Y a5=>wpList_plain (gJj3 q) λ K az=>?_;have a0:=hE.go a5 Y.heap.lt;have ba:=hE.cnt;refine callX (oJj3 q) ((tJj3 q) fb l (msOf es) n i (rowF f) (f.cells.getD 1 .top).toInt (f.cells.getD 2 .top).toInt) xGF Y (R:=λ v w'=>∃A' M' g,v=.pointer (some ⟨g,0,none⟩)/\Below w0.heap.size w0 w'/\(∀b,b<w0.heap.size->(A' b↔A1 b))/\Mv w1 A1 M1 w' A' M'/\∃H,HR w' A' M' w0.heap.size H/\GetPost (rowF f) (msOf es) (keyF f) g H M') (λ vs a6=>?_) λ v w2 hr=>?_;refine(xFb (w0:=w0) hI Y.base Y.heap a6 aq a8 (by rw[xqV];show es.length<4611686018427387904;omega) (xKe es (keyF f))).mono ?_;rintro e w' ⟨v,A',M',g,h1,h2,h3,h4,h5,h6⟩;exact⟨v,h1,A',M',g,h2,h3,h4,h5,h6⟩;obtain⟨A2,M2,g,rfl,an,am,mv2,H,a4,ak⟩:=hr;have V:=Y.put (d:=((cO (uR q 6)).toList.getD 3 default).dst) an (λ b hb=>(am b hb).trans (Y.outer b hb)) mv2 a4 (Rel.gptr (w:=w2) (A:=A2) (M:=M2) g);have ap:=a0.go mv2 V.heap.lt;refine az _ _ ?_;rw[(dJj3 q)]at V|-;generalize a1.put (some (uT q 24)) (.pointer (some ⟨g,0,none⟩))=a2 at V;rcases ak with⟨aa,rfl⟩|⟨aa,rfl,m,hm,hcap,ab⟩;obtain⟨j,x,hx,be,aw,au⟩:=xFc aa;have hj:=xnf hx;obtain⟨s3,p3,e3⟩:=xer (orcC 0) ((rJj6f q) fb l (msOf es) n i (rowF f) (f.cells.getD 1 .top).toInt (f.cells.getD 2 .top).toInt g);simp only[z6]at e3;rw[<-zD [_]];refine xhX (hIoG 0) hI p3 V λ a3 w3 A3 M3 J mv3=>wpList_nil ?_;have J:=J.mask ((uE q 8)::(uE q 9)::(lvJj q));rw[e3]at J;have ar:=J.cut hp (xlT _) (xlU _);rw[(cutJj9 q)]at ar;have ac:=(ap.go mv3 J.heap.lt).part (q:=pB q0);have O:=ac.ent j x hx;have W:=ar.join (xqg M3) hp O (ac.apm j hj);have Z:=W.setT (t:=uE q 9) (y:=.own (.b 1) 0 0 0) λ ht=>by(have h:=W.tmps (uE q 9) ht;rw[(getJj9 q)]at h;have hv:a3.tmps.getD (uE q 9) undef=.pointer (some ⟨x.2.g,0,none⟩):=by rw[aw];generalize a3.tmps.getD (uE q 9) undef=u at h;cases h;rfl);exact(O.own hv).mono (λ _ _ _=>rfl) (zd _) (λ _ _ h=>h) (xAB O.ids)
 rw[List.set_set]at Z;obtain⟨m,hm,hcap,ab⟩:=O.one;have hb:(x.2.sl q).length<=c:=by have:=ac.bnd j x hx;cases q;exact this.1;exact this.2
 refine(tailJj q) hI hp al Z (m:=m) hm ab O.two O.three (by omega) λ a' w' A' M' ah aj af he ai=>?_;have bc:=ac.bnd j x hx;have ag:=ac.upd (k:=x.1) hj aj af he ai (by cases q<;>simp only[EntV.add,cond,z8,zj]<;>omega);refine hK a' w' A' _ _ _ ?_ (xqg M') ag ?_;rw[xGP (e':=x.2.add q (.agg [.int .i64 (f.cells.getD 1 .top).toInt,.int .i64 (f.cells.getD 2 .top).toInt,.int .i64 1])) hx (by cases q<;>rfl)];exact ah;exact xFX q hx au;have ad:=xIe aa;obtain⟨s3,p3,e3⟩:=xer (orcC 0) ((rJj6n q) fb l (xNh (msOf es) (keyF f) (.gptr g)) n i (rowF f) (f.cells.getD 1 .top).toInt (f.cells.getD 2 .top).toInt g);simp only[z6]at e3;rw[<-zD [_]];refine xhX (hIoG 0) hI p3 V λ a3 w3 A3 M3 J mv3=>wpList_nil ?_;have J:=J.mask ((uE q 8)::(uE q 9)::(lvJj q));rw[e3]at J;have a9:=HR.same V.heap J.heap mv3.ext (n:=1) rfl rfl rfl hm;obtain⟨M5,W,a7,ae,h2,h3⟩:=J.newE a9 ab;have ax:=(ap.go mv3 J.heap.lt);have Z:=W.setT (t:=uE q 9) (y:=.own (.b 1) 0 0 0) λ ht=>by(have h:=W.tmps (uE q 9) ht;rw[(getJj9 q)]at h;obtain⟨bx,hb,ao⟩:=W.heap.box _ _ ae;obtain rfl:EntV.E ⟨g,rowF f,[],[],0,0⟩=bx:=by simpa[getB]using hb);(have bb:m.ver=0:=ao.ver.symm;have ay:xM3 m.ty=false:=by rw[<-ao.ty];rfl);(generalize a3.tmps.getD (uE q 9) undef=u at h;cases h;refine .own _ (.b 1) 0 0 0 m ae (zQ _) rfl λ _=>?_);unfold ptrOf;rw[ay,ab];simp
 rw[List.set_set]at Z;refine(tailJj q) hI hp al Z (m:=m) ae ab h2 h3 (by cases q<;>simp[EntV.sl]) λ a' w' A' M' ah aj af he ai=>?_;have ag:=ax.add (k:=keyF f) (a7.trans aj) af he ai (by cases q<;>simp[EntV.add]);refine hK a' w' A' _ _ _ ?_ (xqg M') ag ?_;rw[xGO ad,EntV.add_g];exact ah;exact xFW q ad
end
end Go.Sim.M
end
noncomputable section
set_option maxRecDepth 100000
namespace Go.Sim.M
open Go.RowKit Go.Proofs
def evJj18(q:Bool)(fb l ms:List AV)(n i:Int)(b:Bool):St.eval ⟨((hdJj q) fb l n i).set (uT q 18) (.bool b),[mapB ms]⟩ (.tmp (uT q 18))=.bool b:=by cases q<;>kernel_rfl
def keJj18(q:Bool)(fb l ms:List AV)(n i:Int)(b:Bool):keepS (lvJj q) ⟨((hdJj q) fb l n i).set (uT q 18) (.bool b),[mapB ms]⟩=⟨(hdJj q) fb l n i,[mapB ms]⟩:=by cases q<;>kernel_rfl
section
variable{w0 w:World}{A0:Cx}{A:Nat->Prop}{M:Id->Option MB}{a:Act}
set_option maxHeartbeats 2000000 in
def loopJj(q:Bool)(hI:xNJ w0)(hp:A0.pin=0)(ak:∀id,A0.M1 id=none){fb l:List AV}{es:List (List UInt8×EntV)}{Ns:Nat->Id->Option MB}{c:Nat}(hs:SR w0 A0 w A M ⟨(hdJj q) fb l l.length ((0:Nat):Int),[mapB (msOf es)]⟩ a)(hE:Ents w A w0.heap.size A0.w1.heap.size c es Ns M)(hM:∀id m,M id=some m->pB q0 id)(hf:∀i,i<l.length->okF (l.getD i .top))(hc:c+l.length<4294967295){Q:Exit->Act->World->Prop}(hK:∀a' w' A' M' J Ns',SR w0 A0 w' A' M' ⟨(hdJj q) fb l l.length l.length,[mapB (msOf J)]⟩ a'->(∀id m,M' id=some m->pB q0 id)->Ents w' A' w0.heap.size A0.w1.heap.size (c+l.length) J Ns' M'->J.map strip=l.foldl (stepP q) (es.map strip)->Q (.exit (uB q 0)) a' w'):(Code.loop (lpJj q)).wpIn (wideR none) 0 Tryz.prog Q a w:=by
 refine xwY (λ N a' w'=>∃(i:Nat)(J:List (List UInt8×EntV))(Ns':Nat->Id->Option MB)(A':Nat->Prop)(M':Id->Option MB),N=l.length - i/\i<=l.length/\SR w0 A0 w' A' M' ⟨(hdJj q) fb l l.length (i:Int),[mapB (msOf J)]⟩ a'/\(∀id m,M' id=some m->pB q0 id)/\Ents w' A' w0.heap.size A0.w1.heap.size (c+i) J Ns' M'/\J.map strip=(l.take i).foldl (stepP q) (es.map strip)) ?_ l.length a w ⟨0,es,Ns,A,M,rfl,zQ _,hs,hM,hE,rfl⟩;rintro N a' w' ⟨i,J,Ns',A',M',rfl,hi,ai,ao,ab,ac⟩;unfold lpJj;refine wpIn_seq (xjP (orcC 0) (hIoG 0) hI (ndJj4 q) ((rJj4 q) fb l (msOf J) l.length i) ai λ a1 w1 A1 M1 W aa=>?_);have an:a1.eval (.tmp (uT q 18))=.bool (decide ((i:Int)<l.length)):=by have h:=W.eval (.tmp (uT q 18));rw[(evJj18 q)]at h;exact h.bool_inv
 refine wpIn_seq (wpIn_cond_split an (λ ht=>wpIn_skip ?_) λ hn=>wpIn_exit ?_);have O:i<l.length:=by simpa using ht
 rw[ht]at W;have h5:=(rJj5 q) fb l (msOf J) l.length i;rw[zN,xGQ (hf i O)]at h5;have c1:(decide ((0:Int)<=i)&&decide ((i:Int)<(l.length:Int))):=by simp[O]
 have c2:(decide (i<l.length)&&true):=by simp[O]
 rw[c1,c2]at h5;refine wpIn_seq (wpIn_block (wpIn_seq (xjP (orcC 0) (hIoG 0) hI (ndJj5 q) h5 W λ a2 w2 A2 M2 Y mv2=>?_)));obtain⟨A3,V,mv3⟩:=Y.settle1 (t:=(uE q 8)) ((resJj q) (msOf J) fb l l.length i _);rw[(reaJj q),(setJj8 q)]at V;have ad:=V.cut hp (xlT _) (xlU _);rw[(cutJj8 q)]at ad;have am:=(ab.go ((aa.trans mv2).trans mv3) V.heap.lt).part (q:=pB q0);refine(callJj q) hI hp ak ad am (xqg M2) (hf i O) (by omega) λ a5 w5 A5 M5 ae Ns5 aj ap al ag=>?_;refine xjP (orcC 0) (hIoG 0) hI (ndJj8 q) ((rJj8 q) fb l (msOf ae) l.length i) aj λ a6 w6 A6 M6 Z mv6=>?_;have hw:IntKind.i64.wrap ((i:Int)+1)=((i+1:Nat):Int):=by rw[xaO (by omega) (by omega)];omega
 rw[hw]at Z;have af:=Z.cut hp (xlT _) (xlU _);rw[(cutJj q)]at af;refine⟨l.length - (i+1),by omega,i+1,ae,Ns5,A6,_,rfl,O,af,xqg M6,(al.go mv6 Z.heap.lt).part,?_⟩;rw[ag,ac];have e:l.take (i+1)=l.take i++[l.getD i .top]:=by rw[List.take_add_one,ze O];simp[z7,O]
 rw[e,List.foldl_append];rfl;have ah:i=l.length:=by(have:¬ ((i:Int)<l.length):=by simpa using hn);omega
 subst ah;have Y:=W.mask (lvJj q);rw[(keJj18 q)]at Y;have V:=Y.cut hp (xlT _) (xlU _);rw[(cutJj q)]at V;have hst':J.map strip=l.foldl (stepP q) (es.map strip):=by rw[ac,y6]
 exact hK a1 w1 A1 _ J Ns' V (xqg M1) (ab.go aa W.heap.lt).part hst'
end
end Go.Sim.M
end
noncomputable section
set_option maxRecDepth 100000
namespace Go.Sim.M
open Go.RowKit Go.Proofs
noncomputable def colV(xa xb:List AV):List PE:=xb.foldl (stepP true) (xa.foldl (stepP false) [])
noncomputable def colOk(xa xb:List AV):Bool:=(List.range xa.length).all (λ i=>okF (xa.getD i .top))&&((List.range xb.length).all (λ i=>okF (xb.getD i .top))&&decide (xa.length+xb.length<4294967295))
noncomputable def cT0(fa fb:List AV):List AV:=[.list 3 fa,.list 3 fb]++List.replicate 60 (.tuple [])
noncomputable def cT1(fa fb:List AV):List AV:=mkTs 62 [(0,.list 3 fa),(1,.list 3 fb)]
noncomputable def cT2(fa fb:List AV):List AV:=mkTs 62 [(0,.list 3 fa),(1,.list 3 fb),(5,vC)]
noncomputable def cT3(fa fb:List AV):List AV:=mkTs 62 [(0,.list 3 fa),(1,.list 3 fb),(5,vC),(6,.func 105 [vC])]
noncomputable def cT9:List AV:=mkTs 62 [(4,.own (.b 0) 0 0 0)]
def boxM:Box:=⟨0,1,88,[.own (.b 0) 0 0 0],false,false⟩
def ndC0:noDefer (cO 0):=Θ
def ndC1:noDefer (cO 1):=Θ
def ndC2:noDefer (cO 2):=Θ
def ndC3:noDefer (cO 3):=Θ
def ndC9:noDefer (cO 9):=Θ
def ndC15:noDefer (cO 15):=Θ
def cgR0(fa fb:List AV):xOps Tryz.prog (EC 0) none (some true) (cO 0) (cO 0).toList ⟨cT0 fa fb,[]⟩ (λ s=>some (keepS [0,1] s))=some ⟨cT1 fa fb,[]⟩:=Θ
def cR1(fa fb:List AV):xOps Tryz.prog (EC 0) none (some true) (cO 1) (cO 1).toList ⟨cT1 fa fb,[]⟩ (λ s=>some (keepS [0,1,5] s))=some ⟨(cT1 fa fb).set 5 (.own (.b 1) 0 0 0),[mapB [],boxM]⟩:=Θ
def cgV1(fa fb:List AV):((cT1 fa fb).set 5 (.own (.b 1) 0 0 0)).getD 5 .top=.own (.b 1) 0 0 0:=Θ
def cgV2:varOf [mapB [],boxM] 1 0 0 0=some (.own (.b 0) 0 0 0):=Θ
def cV3(fa fb:List AV):cutT (((cT1 fa fb).set 5 (.own (.b 1) 0 0 0)).set 5 (.func vpF [.own (.b 0) 0 0 0]))=cT2 fa fb:=Θ
def cR2(fa fb:List AV):xOps Tryz.prog (EC 0) none (some true) (cO 2) (cO 2).toList ⟨cT2 fa fb,[mapB []]⟩ (λ s=>some (keepS [0,1,5,6] s))=some ⟨cT3 fa fb,[mapB []]⟩:=Θ
def cR3(fa fb:List AV):xOps Tryz.prog (EC 0) none (some true) (cO 3) (cO 3).toList ⟨cT3 fa fb,[mapB []]⟩ (λ s=>some (keepS (lvJj false) s))=some ⟨hdJj false fb fa fa.length ((0:Nat):Int),[mapB (msOf [])]⟩:=Θ
def cR9(fb l ms:List AV)(n i:Int):xOps Tryz.prog (EC 0) none (some true) (cO 9) (cO 9).toList ⟨hdJj false fb l n i,[mapB ms]⟩ (λ s=>some (keepS (lvJj true) s))=some ⟨hdJj true fb fb fb.length ((0:Nat):Int),[mapB ms]⟩:=Θ
def cR15(fb l ms:List AV)(n i:Int):xOps Tryz.prog (EC 0) none (some true) (cO 15) (cO 15).toList ⟨hdJj true fb l n i,[mapB ms]⟩ (λ s=>some (keepS [4] s))=some ⟨cT9,[mapB ms]⟩:=Θ
def cC9:cutT cT9=cT9:=Θ
def cRes(H:List Box):resAllM Tryz.prog ⟨cT9,H⟩ Tryz.f75.results.toList=some [.own (.b 0) 0 0 0]:=Θ
def cNt:Tryz.f75.ntmps=62:=Θ
def cBody:Tryz.f75.body=some cB:=Θ
def cEnters:Enters Tryz.prog 75:=⟨_,Tryz.func75,by kernel_rfl,by kernel_rfl⟩
section
variable{w0 w:World}{A0:Cx}{A:Nat->Prop}{M:Id->Option MB}{a:Act}
set_option maxHeartbeats 2000000 in
def xGp(hI:xNJ w0)(hp:A0.pin=0)(aa:∀id,A0.M1 id=none){fa fb:List AV}(Z:colOk fa fb=true)(hs:SR w0 A0 w A M ⟨cT0 fa fb,[]⟩ a){Q:Exit->Act->World->Prop}(hQ:∀a' w' A' M',SR w0 A0 w' A' M' ⟨cT9,[mapB (outOf (colV fa fb))]⟩ a'->Q .ret a' w'):cB.wpIn (wideR none) 0 Tryz.prog Q a w:=by unfold colOk at Z;simp only[zf,zI,List.mem_range,zl]at Z;obtain⟨ad,ap,au⟩:=Z;rw[xKW];refine wpIn_seq (xjP (orcC 0) (hIoG 0) hI ndC0 (cgR0 fa fb) hs λ a1 w1 A1 M1 ao _=>?_);refine wpIn_seq (xjP (orcC 0) (hIoG 0) hI ndC1 (cR1 fa fb) ao λ a2 w2 A2 M2 ai _=>?_);obtain⟨A3,V⟩:=ai.vptr (cgV1 fa fb) cgV2;have V:=V.cut (b0:=mapB []) (T:=[{boxM with frz:=true}]) hp (xlT _) (xlU _);rw[cV3]at V;refine wpIn_seq (xjP (orcC 0) (hIoG 0) hI ndC2 (cR2 fa fb) V λ a4 w4 A4 M4 an _=>?_);refine wpIn_seq (wpIn_seq (xjP (orcC 0) (hIoG 0) hI ndC3 (cR3 fa fb) an λ a5 w5 A5 M5 W _=>?_));have W:=W.cut hp (xlT _) (xlU _);rw[cutJj false]at W;have ag:Ents w5 A5 w0.heap.size A0.w1.heap.size 0 [] (λ _=>xNe) (MR (pB q0) M5):=⟨λ i x h=>by simp at h,λ i j h=>by simp at h,λ i h=>by simp at h,λ i x h=>by simp at h,zd _⟩;refine wpIn_block (loopJj false hI hp aa W ag (xqg M5) ad (by omega) λ a6 w6 A6 M6 ar Ns6 ah ax ae ab=>?_);simp only[Exit.inBlock,uB,cond,if_true];show Exit.then _ _ .normal a6 w6;refine wpIn_seq (wpIn_seq (xjP (orcC 0) (hIoG 0) hI ndC9 (cR9 fb fa (msOf ar) fa.length fa.length) ah λ a7 w7 A7 M7 J mv7=>?_));have aj:=(ae.go mv7 J.heap.lt).part (q:=pB q0);have J:=J.cut hp (xlT _) (xlU _);rw[cutJj true]at J;refine wpIn_block (loopJj true hI hp aa J aj (xqg M7) ap (by omega) λ a8 w8 A8 M8 am Ns8 al aw af ac=>?_);simp only[Exit.inBlock,uB,cond,if_true];show Exit.then _ _ .normal a8 w8;refine wpIn_seq (xjP (orcC 0) (hIoG 0) hI ndC15 (cR15 fb fb (msOf am) fb.length fb.length) al λ a9 w9 A9 M9 O ak=>?_);have aq:=(af.go ak O.heap.lt).part (q:=pB q0);have O:=O.cut hp (xlT _) (xlU _);rw[cC9]at O;obtain⟨A10,Y⟩:=SR.final O aq (xqg M9) hp;rw[ac,ab]at Y;exact wpIn_ret (hQ _ _ _ _ Y)
end
def xGq{fa fb:List AV}(Z:colOk fa fb):GoodM Tryz.prog xNJ 75 [.list 3 fa,.list 3 fb] [] (.own (.b 0) 0 0 0) [mapB (outOf (colV fa fb))]:=by
 refine⟨cEnters,λ w0 w A M vs hI O hR J=>?_⟩;have Y:∀id,M id=none:=λ id=>by cases h:M id with|none=>rfl|some m=>obtain⟨bx,hb,_⟩:=hR.box id m h;cases id<;>simp[getB]at hb
 refine callsIn_wide.1 (callsIn_of_wp_marks (F:=Fence.wide) (n:=0) Tryz.func75 cBody trivial ?_);refine xGp (A0:=⟨A,w,A,M,0,λ _=>False⟩) (A:=A) (M:=M) (fa:=fa) (fb:=fb) hI rfl Y Z ⟨O,λ _ _=>Iff.rfl,?_,λ t ht=>?_,hR,DefOk.nil,Ev.refl (C:=⟨A,w,A,M,0,λ _=>False⟩)⟩ ?_;rw[cNt];have:=J.1;simp[cT0]at this|-;omega;have hl:vs.length=2:=J.1;rw[cNt];show Rel w A M _ ((cT0 fa fb).getD t .top);unfold cT0;by_cases Q:t<2;have e1:(vs.toArray++Array.replicate (62 - vs.toArray.size) undef).getD t undef=vs.getD t undef:=by(have:t<vs.length:=Ω);simp[z7,Array.getElem?_append,this]
 rw[e1,xsF Q];exact J.2 t Q;have ht:t<62:=by(have h0:(cT0 fa fb).length=62:=by rfl);rw[<-h0];exact ht
 have h1:¬ t<vs.length:=Ω
 have e1:(vs.toArray++Array.replicate (62 - vs.toArray.size) undef).getD t undef=undef:=by(have h2:t - vs.length<62 - vs.length:=Ω);simp[Array.getElem?_append,h1,h2]
 rw[e1,xsG Q (show t - 2<60 by omega)];exact .tuple #[] [] rfl Ψ;intro a' w' A' M' W;show LeavesInM Fence.wide 0 Tryz.prog Tryz.f75 a'.tmps _ a'.defers .returning w';refine xpl (λ _ h=>h) W λ w2 q=>?_;obtain⟨v,hv,V⟩:=xob (P:=Tryz.prog) q (cRes _);exact⟨v,hv,v,A',M',rfl,q.base,q.outer,q.ev,q.heap,V⟩
noncomputable def xyC:List AV->List Box->Option (Bool×AV×List Box):=omOf (xNL (xNx 3 xNO) (xNL (xNx 3 xNO) xNN)) xNM λ(xa,(xb,_)) _=>(colOk xa xb,.own (.b 0) 0 0 0,[⟨0,2,mapTy 88,outOf (colV xa xb),false,true⟩])
def xEM:OmOk Tryz.prog xNJ 75 xyC:=xjb λ b c r H' h=>by obtain⟨xa,xb,_⟩:=b;obtain⟨h1,h2⟩:=Prod.mk.inj h;obtain⟨rfl,rfl⟩:=Prod.mk.inj h2;exact xGq h1
end Go.Sim.M
end
noncomputable section
set_option maxRecDepth 100000
namespace Go.Sim.M
open Go.RowKit Go.Proofs
def pGptr:Pat AV Nat:=⟨.gptr,fun v=>match v with
 |.gptr g=>some g
 |_=>
 none,λ a b h=>by
  split at h
  . simp only[z6]at h;rw[h]
  . simp at h⟩
noncomputable def EKCo:Env:=xw1.E.withM 75 xyC
def xw2:xM1 Tryz.prog xNJ EKCo:=xw1.ok.withM xEM
noncomputable def cmL:Code:=(xNk (rmBody (rmOf Tryz.f42))).getD 0 .skip
def cellR:Box:=⟨0,2,25,[.agg [.nils,.nils]],false,true⟩
noncomputable def boxC(ms:List AV):Box:=⟨0,2,mapTy 88,ms,true,true⟩
def boxO(v:Nat)(xs:List AV):Box:=⟨v,3,54,xs,false,true⟩
noncomputable def xtL{T:Type}(row lv:List AV)(c:Int)(v n:Nat)(i:Int)(xs:List AV)(δ:T)(κl κr:T):T:=br (decide (i<c)) (br (decide ((0:Int)<=i)&&decide (i<(↑lv.length:Int))) (br (decide (i.toNat<lv.length)&&((lv.getD i.toNat AV.top).cells.length==(2:Nat)&&xM6 [Sh.int IntKind.i64,Sh.int IntKind.i64] (lv.getD i.toNat AV.top).cells (0:Nat))) (br (v==v&&(n==xs.length&&(decide ((n+(1:Nat))*(40:Nat)<=(140737488355328:Nat))&&decide (n+(1:Nat)<=(4611686018427387904:Nat))))) κl δ) δ) δ) κr
noncomputable def xdB(row lv:List AV)(c:Int):Nat×Nat×Int×List AV->Option ((Nat×Nat×Int×List AV)⊕(Nat×Nat×List AV)):=λ(v,n,i,xs)=>
 xtL row lv c v n i xs none (some (.inl (v+1,n+1,IntKind.i64.wrap (i+1),xs++[.agg [.list 3 row,.int .i64 ((lv.getD i.toNat AV.top).cells.getD 0 AV.top).toInt,.int .i64 ((lv.getD i.toNat AV.top).cells.getD 1 AV.top).toInt]]))) (some (.inr (v,n,xs)))
end Go.Sim.M
end
noncomputable section
set_option maxRecDepth 100000
namespace Go.Sim
open Go.RowKit
variable {p:Nat}
def Weak.trans{s1 s2 s3:St}(h:Weak p s1 s2)(g:Weak p s2 s3):Weak p s1 s3:=λ w0 A0 w A M a hp hs=>by obtain⟨A1,M1,h1⟩:=h w0 A0 w A M a hp hs;exact g w0 A0 w A1 M1 a hp h1
def xr9{ts:List AV}{H:List Box}{t:Nat}{y:AV}(hy:resolve H xNl (ts.getD t .top)=some y):Weak p ⟨ts,H⟩ ⟨ts.set t y,freeze H (reach H xNl (ts.getD t .top))⟩:=λ w0 A0 w A M a hp hs=>by obtain⟨A1,h1,_⟩:=hs.settle1 hy;exact⟨A1,M,h1⟩
def xrM(live:List Nat)(s:St):Weak p s (keepS live s):=λ w0 A0 w A M a hp hs=>⟨A,M,hs.mask live⟩
def xGB{P:Program}{ls:TypeId->Bool}{rs:List ResultVar}{e:Exit}{s:St}{r:AV}(h:endK P ls rs e s=some r):(e=.ret\/e=.normal)/\resultOf P rs s=some r:=by(have q:∀s,finK P ls rs s=some r->resultOf P rs s=some r:=λ s h=>by unfold finK at h;split at h;(case h_2=>simp at h);rename_i b xs hx;obtain⟨rfl,h⟩:=xcr (good:=λ t=>t=some r) Ψ h;rw[xbz]at h;unfold resultOf;rw[xq7 hx];exact h);cases e with|ret=>exact⟨.inl rfl,q s h⟩|normal=>exact⟨.inr rfl,q s h⟩|_=>simp[endK]at h
end Go.Sim
namespace Go.Sim.M
open Go.RowKit Go.Proofs
noncomputable def rmOps9:Code->Array Oper|.seq (.region _ ops _) _=>ops|_=>#[]
noncomputable def rmOps0:Code->Array Oper|.seq _ (.block _ (.loop (.seq (.region _ ops _) _)))=>ops|_=>#[]
def relV(ks fs:List AV):AV:=.agg [.list 1 ks,.list 3 fs]
noncomputable abbrev cmO(n:Nat):Array Oper:=opsOf (regOf (Tryz.f42.body.getD .skip) n)
def boxR(ks fs:List AV)(z:Bool):Box:=⟨0,2,25,[relV ks fs],z,true⟩
def perOk(q:AV):Bool:=q.cells.length==2&&xM6 [Sh.int IntKind.i64,Sh.int IntKind.i64] q.cells (0:Nat)
def factA(row:List AV)(q:AV):AV:=.agg [.list 3 row,.int .i64 (q.cells.getD 0 .top).toInt,.int .i64 (q.cells.getD 1 .top).toInt]
def xCb(row lv:List AV)(J:∀i,i<lv.length->perOk (lv.getD i .top)=true):∀(d i v:Nat)(xs:List AV),i+d=lv.length->xs.length+d<=1099511627776->lv.length<=1099511627776->
  Iter (xdB row lv (lv.length:Nat)) (v,xs.length,(i:Int),xs)=some (v+d,xs.length+d,xs++(lv.drop i).map (factA row))
 |0,i,v,xs,hi,hx,hl=>by
  have e:xdB row lv (lv.length:Nat) (v,xs.length,(i:Int),xs)=some (.inr (v,xs.length,xs)):=by
   have h1:decide ((i:Int)<(lv.length:Nat))=false:=by simp;omega
   simp only[xdB,xtL,h1,br]
  rw[xac e];simp[show i=lv.length by omega]
 |d+1,i,v,xs,hi,hx,hl=>by
  have q:i<lv.length:=by omega
  have hq:=J i q;unfold perOk at hq;have hw:IntKind.i64.wrap ((i:Int)+1)=((i+1:Nat):Int):=by rw[xaO (by omega) (by omega)];omega
  have e:xdB row lv (lv.length:Nat) (v,xs.length,(i:Int),xs)=some (.inl (v+1,(xs++[factA row (lv.getD i .top)]).length,((i+1:Nat):Int),xs++[factA row (lv.getD i .top)])):=by
   have h1:decide ((i:Int)<(lv.length:Nat))=true:=by simp;omega
   have h2:(decide ((0:Int)<=i)&&decide ((i:Int)<(lv.length:Nat)))=true:=by simp;omega
   have h3:(decide (i<lv.length)&&((lv.getD i AV.top).cells.length==(2:Nat)&&xM6 [Sh.int IntKind.i64,Sh.int IntKind.i64] (lv.getD i AV.top).cells (0:Nat)))=true:=by rw[hq];simp[q]
   have h4:(v==v&&(xs.length==xs.length&&(decide ((xs.length+(1:Nat))*(40:Nat)<=(140737488355328:Nat))&&decide (xs.length+(1:Nat)<=(4611686018427387904:Nat)))))=true:=by
    simp only[beq_self_eq_true,Bool.true_and,zf,zl];omega
   simp only[xdB,xtL,zN,h1,h2,h3,h4,br,hw];simp[factA]
  rw[xak e,xCb row lv J d (i+1) (v+1) (xs++[factA row (lv.getD i .top)]) (by omega) (by simp;omega) hl]
  have e2:lv.drop i=lv.getD i .top::lv.drop (i+1):=by
   rw[List.drop_eq_getElem_cons q];simp[z7,q]
  rw[e2];simp;omega
def stepF(fk:Nat->List AV)(s:Nat×List AV)(k:Nat):(Nat×List AV)⊕Unit:=.inl (s.1+(fk k).length,s.2++fk k)
def xAg(fk:Nat->List AV):∀(ord:List Nat)(v:Nat)(xs:List AV),∃v',ord.foldl (stepI (stepF fk)) (.inl (v,xs))=.inl (v',xs++ord.flatMap fk)|[],v,xs=>⟨v,by simp⟩|k::ord,v,xs=>by obtain⟨v',h⟩:=xAg fk ord (v+(fk k).length) (xs++fk k);refine⟨v',?_⟩;rw[List.foldl_cons];show ord.foldl (stepI (stepF fk)) (Sum.inl (v+(fk k).length,xs++fk k))=_;rw[h];simp
variable {fk:Nat->List AV}{n:Nat}
def xyc{done:List Nat}(h1:done.Nodup)(h2:∀i,i∈done->i<n):(done.flatMap fk).length<=((List.range n).flatMap fk).length:=by obtain⟨l',q⟩:=xy2 h1 h2;have:=(q.flatMap_right fk).length_eq;rw[List.flatMap_append,z8]at this;omega
def xzv{done:List Nat}{k:Nat}(h1:done.Nodup)(h2:∀i,i∈done->i<n)(h3:k∉done)(h4:k<n):(done.flatMap fk).length+(fk k).length<=((List.range n).flatMap fk).length:=by
 have:=xyc (fk:=fk) (done:=done++[k]) (n:=n) (by
  rw [List.nodup_append];exact ⟨h1,by simp,fun a ha b hb=>by simp at hb;subst hb;exact fun e=>h3 (e▸ha)⟩) (fun i hi=>by
  rcases zG.1 hi with h|h
  . exact h2 i h
  . simp at h;omega)
 simpa using this
noncomputable def lvOf(op:List AV->List AV->Option (List AV))(p:PE):List AV:=(xaI ((op ((xan p.2.2.1).getD []) ((xan p.2.2.2).getD [])).getD [])).getD []
noncomputable def lvOk(op:List AV->List AV->Option (List AV))(p:PE):Bool:=(xan p.2.2.1).isSome&&((xan p.2.2.2).isSome&&((op ((xan p.2.2.1).getD []) ((xan p.2.2.2).getD [])).isSome&&((xaI ((op ((xan p.2.2.1).getD []) ((xan p.2.2.2).getD [])).getD [])).isSome && (List.range (lvOf op p).length).all λ i=>perOk ((lvOf op p).getD i .top))))
noncomputable def fkOf(op:List AV->List AV->Option (List AV))(ps:List PE)(k:Nat):List AV:=(lvOf op (ps.getD k defP)).map (factA (ps.getD k defP).2.1)
noncomputable def flatOf(op:List AV->List AV->Option (List AV))(ps:List PE):List AV:=(List.range ps.length).flatMap (fkOf op ps)
open Classical in
noncomputable def cmbOk(op:List AV->List AV->Option (List AV))(fa fb:List AV):Bool:=colOk fa fb&&((List.range (colV fa fb).length).all (λ k=>lvOk op ((colV fa fb).getD k defP))&&(decide ((flatOf op (colV fa fb)).length<=1099511627776) && (decide (∀ord:List Nat,ord.Perm (List.range (colV fa fb).length)->xcy (ord.flatMap (fkOf op (colV fa fb)))=xcy (flatOf op (colV fa fb)))&&(xcy (flatOf op (colV fa fb))).isSome)))
noncomputable def cmbV(op:List AV->List AV->Option (List AV))(fa fb:List AV):Option (List AV):=match cmbOk op fa fb with|true=>xcy (flatOf op (colV fa fb))|false=>none
def xEJ{op:List AV->List AV->Option (List AV)}{fa fb:List AV}(h:(cmbV op fa fb).isSome):cmbOk op fa fb/\cmbV op fa fb=xcy (flatOf op (colV fa fb)):=by unfold cmbV at h|-;cases hc:cmbOk op fa fb with|true=>exact⟨rfl,rfl⟩|false=>rw[hc]at h;simp at h
end Go.Sim.M
end
noncomputable section
set_option maxRecDepth 100000
namespace Go.Sim.M
open Go.RowKit Go.Proofs
variable(g:FuncId)
noncomputable abbrev xDg:Env:=EKCo.fn 57 3 (lsOf [54]) (xNn [])
def xJQ:xM1 Tryz.prog (xNJ.at 3) xDg:=xw2.fn
def xJM:LoOk Tryz.prog (xNJ.at 3) xDg cmL:=xgz Θ
def xtK(ra row ea eb lv ms:List AV)(r:Nat)(c:Int):Nat×Nat×Int×List AV->List AV×List Box:=λ(v,n,i,xs)=>([.func g [],.eptr 2 ra 0 0,.own 0 0 0 0,.osl 1 v 0 n,.eptr 3 [.agg [.list 3 row,.list 3 ea,.list 3 eb]] 0 0,.gptr r,.list 2 lv,.int .i64 c,.int .i64 i],[⟨0,2,25,[.agg [.nils,.nils]],false,true⟩,⟨v,3,54,xs,false,true⟩,⟨0,2,mapTy 88,ms,true,true⟩])
def xsc(ra ms:List AV)(r:Nat):Nat×Nat×List AV->LR:=λ p=>.leaf (.exit 2) [.func g [],.eptr 2 ra 0 0,.own 0 0 0 0,.osl 1 p.1 0 p.2.1,.gptr r] [⟨0,2,25,[.agg [.nils,.nils]],false,true⟩,⟨p.1,3,54,p.2.2,false,true⟩,⟨0,2,mapTy 88,ms,true,true⟩]
noncomputable abbrev xJw(vals:List AV)(H:List Box):=XR Tryz.prog xDg [2,3,6,7,9,17,34,35,36] [2,3,6,7,17] [(7,3,54)] cmL vals H
def xLF(ra row ea eb lv ms:List AV)(r:Nat)(c:Int)(s:Nat×Nat×Int×List AV):Enc (encR ((xtK g) ra row ea eb lv ms r c) ((xsc g) ra ms r)) (xdB row lv c s) (xJw ((xtK g) ra row ea eb lv ms r c s).1 ((xtK g) ra row ea eb lv ms r c s).2):=by(obtain⟨v,n,i,xs⟩:=s;have h:xJw ((xtK g) ra row ea eb lv ms r c (v,n,i,xs)).1 ((xtK g) ra row ea eb lv ms r c (v,n,i,xs)).2=xtL row lv c v n i xs none (some (encR ((xtK g) ra row ea eb lv ms r c) ((xsc g) ra ms r) (.inl (v+1,n+1,IntKind.i64.wrap (i+1),xs++[.agg [.list 3 row,.int .i64 ((lv.getD i.toNat AV.top).cells.getD 0 AV.top).toInt,.int .i64 ((lv.getD i.toNat AV.top).cells.getD 1 AV.top).toInt]])))) (some (encR ((xtK g) ra row ea eb lv ms r c) ((xsc g) ra ms r) (.inr (v,n,xs)))):=by kernel_rfl);rw[h];unfold xdB xtL;repeat' (first|refine Enc.br ?_ ?_|exact Enc.none|exact Enc.some rfl)
noncomputable def xDj:Lp:=lpOf [2,3,6,7,9,17,34,35,36] [2,3,6,7,17] [(7,3,54)] (xNK (xNo g xNM) (xNK (pEptr 2 0 0 xNO) (xNK (xNX 0 0 0 0) (xNK (pOslV 1 0) (xNK (pEptr 3 0 0 (xNK (xNY (xNK (xN1 3 xNO) (xNK (xN1 3 xNO) (xNK (xN1 3 xNO) xNM)))) xNM)) (xNK pGptr (xNK (xN1 2 xNO) (xNK (pInt .i64) (xNK (pInt .i64) xNM))))))))) (xNK (xNZ 0 2 25 false true (xNK (xNY (xNK pNils (xNK pNils xNM))) xNM)) (xNK (pBoxV 3 54 false true xNO) (xNK (xNZ 0 2 (mapTy 88) true true xNO) xNM))) λ(_,(ra,(_,((v,n),((((row,(ea,(eb,_))),_)),(r,(lv,(c,(i,_))))))))) (_,((v',xs),(ms,_)))=>(Nat.beq v v'&&(Iter (xdB row lv c) (v,n,i,xs)).isSome,(xsc g) ra ms r ((Iter (xdB row lv c) (v,n,i,xs)).getD (0,0,[])))
def xJP:LoopOk Tryz.prog (xNJ.at 3) 57 cmL (xDj g):=xFo λ vv bb rr hh=>by obtain⟨_,⟨ra,⟨_,⟨⟨v,n⟩,⟨⟨⟨row,⟨ea,⟨eb,_⟩⟩⟩,_⟩,⟨r,⟨lv,⟨c,⟨i,_⟩⟩⟩⟩⟩⟩⟩⟩⟩:=vv;obtain⟨_,⟨⟨v',xs⟩,⟨ms,_⟩⟩⟩:=bb;obtain⟨q,rfl⟩:=Prod.mk.inj hh;rw[zf]at q;obtain⟨hv,q⟩:=q;have hv:=zg hv;subst hv;exact xwh xNa (xNb Tryz.prog _) rfl xJQ xJM ((xtK g) ra row ea eb lv ms r c) ((xsc g) ra ms r) (λ p=>by simp only[xsc,LR.eval];simp) ((xLF g) ra row ea eb lv ms r c) (s:=(v,n,i,xs)) (xcB q)
end Go.Sim.M
end
noncomputable section
set_option maxRecDepth 100000
namespace Go.Sim.M
open Go.RowKit Go.Proofs
variable(g:FuncId)
noncomputable abbrev xzH:Env:=EKCo.fn 57 3 (lsOf [54]) (xNn [(6,(xDj g))])
def xJR:xM1 Tryz.prog (xNJ.at 3) (xzH g):=xw2.fn
noncomputable abbrev xqh:Env:=EKCo.fn 57 0 (lsOf [54]) (xNn [])
def xz1:xM1 Tryz.prog (xNJ.at 0) xqh:=xw2.fn
def xJN:LoOk Tryz.prog (xNJ.at 3) (xzH g) (rmBody (rmOf Tryz.f42)):=xmW (ls:=[cmL]) Θ (fun l hl lp hs=>by
 simp only[zC,List.not_mem_nil,or_false]at hl;rcases hl with rfl;rw[show (xzH g).lp (xNf cmL)=some (xDj g) by kernel_rfl]at hs
 cases hs;exact (xJP g))
noncomputable def xrq(ra:List AV)(v n r:Nat):List AV:=mkTs 57 [(2,.func g []),(3,.eptr 2 ra 0 0),(6,.own 0 0 0 0),(7,.osl 1 v 0 n),(17,.gptr r)]
def CmX(g:FuncId)(o:List AV->List AV->Option (List AV)):Prop:=∀(ra row ea eb ms xs:List AV)(s:List UInt8)(v n r:Nat),XM Tryz.prog (xzH g) (rmOps1 (rmOf Tryz.f42)) (rmBody (rmOf Tryz.f42)) [2,3,6,7,17] (stepT ((xrq g) ra v n r) 18 19 20 s (entV row ea eb)) [cellR,boxO v xs,boxC ms] =br (xan ea).isSome (br (xan eb).isSome (br (o ((xan ea).getD []) ((xan eb).getD [])).isSome (br (xaI ((o ((xan ea).getD []) ((xan eb).getD [])).getD [])).isSome (br (v.beq v&&(Iter (xdB row ((xaI ((o ((xan ea).getD []) ((xan eb).getD [])).getD [])).getD []) (↑((xaI ((o ((xan ea).getD []) ((xan eb).getD [])).getD [])).getD []).length:Int)) (v,n,(0:Int),xs)).isSome) (some (Exit.normal,[AV.func g [],AV.eptr 2 ra 0 0,AV.own 0 0 0 0,AV.osl 1 ((Iter (xdB row ((xaI ((o ((xan ea).getD []) ((xan eb).getD [])).getD [])).getD []) (↑((xaI ((o ((xan ea).getD []) ((xan eb).getD [])).getD [])).getD []).length:Int)) (v,n,(0:Int),xs)).getD ((0:Nat),(0:Nat),[])).fst 0 ((Iter (xdB row ((xaI ((o ((xan ea).getD []) ((xan eb).getD [])).getD [])).getD []) (↑((xaI ((o ((xan ea).getD []) ((xan eb).getD [])).getD [])).getD []).length:Int)) (v,n,(0:Int),xs)).getD ((0:Nat),(0:Nat),[])).snd.fst,AV.gptr r],[cellR,boxO ((Iter (xdB row ((xaI ((o ((xan ea).getD []) ((xan eb).getD [])).getD [])).getD []) (↑((xaI ((o ((xan ea).getD []) ((xan eb).getD [])).getD [])).getD []).length:Int)) (v,n,(0:Int),xs)).getD ((0:Nat),(0:Nat),[])).fst ((Iter (xdB row ((xaI ((o ((xan ea).getD []) ((xan eb).getD [])).getD [])).getD []) (↑((xaI ((o ((xan ea).getD []) ((xan eb).getD [])).getD [])).getD []).length:Int)) (v,n,(0:Int),xs)).getD ((0:Nat),(0:Nat),[])).snd.snd,boxC ms])) none) none) none) none) none
noncomputable def xz0(ka fa kb fb:List AV):List AV:=mkTs 57 [(2,.func g []),(3,.eptr 2 [relV ka fa] 0 0),(4,.eptr 2 [relV kb fb] 0 0),(6,.own 0 0 0 0),(7,.osl 1 0 0 0)]
noncomputable def xvX(ka fa kb fb:List AV):List AV:=(((((xz0 g) ka fa kb fb).set 12 (.eptr 2 [relV ka fa] 0 1)).set 13 (.list 3 fa)).set 14 (.eptr 2 [relV kb fb] 0 1)).set 15 (.list 3 fb)
def xJS(ka fa kb fb:List AV):xOps Tryz.prog xqh none (some true) (rmOps9 (rmOf Tryz.f42)) (rmOps9 (rmOf Tryz.f42)).toList.dropLast ⟨(xz0 g) ka fa kb fb,[cellR,boxO 0 []]⟩ some =br (colOk fa fb) (some ⟨((xvX g) ka fa kb fb).set 16 (.own 2 0 0 0),[cellR,boxO 0 [],mapB (outOf (colV fa fb))]⟩) none:=Θ
def xHZ:Tryz.f42.body.getD .skip=.seq (.region 0 (cmO 0) false) (.seq (.region 1 (cmO 1) false) (.seq (rmOf Tryz.f42) (.seq (.region 10 (cmO 10) false) .ret))):=Θ
def xJT:rmOf Tryz.f42=rngCode 2 (rmOps9 (rmOf Tryz.f42)) 0 3 (rmOps0 (rmOf Tryz.f42)) 19 1 4 (rmOps1 (rmOf Tryz.f42)) (rmBody (rmOf Tryz.f42)):=Θ
noncomputable def xDh(ka fa kb fb:List AV):List AV:=[relV ka fa,relV kb fb,.func g []]++List.replicate 54 (.tuple [])
noncomputable def xo6(ka fa kb fb:List AV):List AV:=((((xDh g) ka fa kb fb).set 3 (.own 0 0 0 0)).set 4 (.own 1 0 0 0)).set 6 (.own 2 0 0 0)
def xK7(ka fa kb fb:List AV):xOps Tryz.prog xqh none (some true) (cmO 0) (cmO 0).toList ⟨(xDh g) ka fa kb fb,[]⟩ some=some ⟨(xo6 g) ka fa kb fb,[boxR ka fa false,boxR kb fb false,cellR]⟩:=Θ
def xK8(ka fa kb fb:List AV):xOps Tryz.prog xqh none (some true) (cmO 1) (cmO 1).toList ⟨(xo6 g) ka fa kb fb,[boxR ka fa false,boxR kb fb false,cellR]⟩ some=some ⟨((xo6 g) ka fa kb fb).set 7 .nils,[boxR ka fa false,boxR kb fb false,cellR]⟩:=Θ
def xK3:noDefer (cmO 0):=Θ
def xK4:noDefer (cmO 1):=Θ
def xLa(ka fa kb fb:List AV):resolve [boxR ka fa false,boxR kb fb false,cellR] xNl ((((xo6 g) ka fa kb fb).set 7 .nils).getD 3 .top)=some (.eptr 2 [relV ka fa] 0 0):=Θ
def xKX(ka fa kb fb:List AV):freeze [boxR ka fa false,boxR kb fb false,cellR] (reach [boxR ka fa false,boxR kb fb false,cellR] xNl ((((xo6 g) ka fa kb fb).set 7 .nils).getD 3 .top))=[boxR ka fa true,boxR kb fb false,cellR]:=Θ
def xLb(ka fa kb fb:List AV):resolve [boxR ka fa true,boxR kb fb false,cellR] xNl (((((xo6 g) ka fa kb fb).set 7 .nils).set 3 (.eptr 2 [relV ka fa] 0 0)).getD 4 .top)=some (.eptr 2 [relV kb fb] 0 0):=Θ
def xKY(ka fa kb fb:List AV):freeze [boxR ka fa true,boxR kb fb false,cellR] (reach [boxR ka fa true,boxR kb fb false,cellR] xNl (((((xo6 g) ka fa kb fb).set 7 .nils).set 3 (.eptr 2 [relV ka fa] 0 0)).getD 4 .top))=[boxR ka fa true,boxR kb fb true,cellR]:=Θ
def xK6(ka fa kb fb:List AV):normS 0 [(7,3,54)] [2,3,4,6,7] ⟨((((xo6 g) ka fa kb fb).set 7 .nils).set 3 (.eptr 2 [relV ka fa] 0 0)).set 4 (.eptr 2 [relV kb fb] 0 0),[boxR ka fa true,boxR kb fb true,cellR]⟩=some ([.func g [],.eptr 2 [relV ka fa] 0 0,.eptr 2 [relV kb fb] 0 0,.own 0 0 0 0,.osl 1 0 0 0],[cellR,boxO 0 []]):=Θ
def xK2(ka fa kb fb:List AV):mkTs (((((xo6 g) ka fa kb fb).set 7 .nils).set 3 (.eptr 2 [relV ka fa] 0 0)).set 4 (.eptr 2 [relV kb fb] 0 0)).length ([2,3,4,6,7].zip [.func g [],.eptr 2 [relV ka fa] 0 0,.eptr 2 [relV kb fb] 0 0,.own 0 0 0 0,.osl 1 0 0 0])=(xz0 g) ka fa kb fb:=Θ
def xK9(ka fa kb fb:List AV):Weak 0 ⟨((xo6 g) ka fa kb fb).set 7 .nils,[boxR ka fa false,boxR kb fb false,cellR]⟩ ⟨(xz0 g) ka fa kb fb,[cellR,boxO 0 []]⟩:=by have h1:=xr9 (p:=0) ((xLa g) ka fa kb fb);rw[(xKX g)]at h1;have h2:=xr9 (p:=0) ((xLb g) ka fa kb fb);rw[(xKY g)]at h2;have h3:=xhY ((xK6 g) ka fa kb fb);rw[(xK2 g)]at h3;exact(h1.trans h2).trans h3
noncomputable def xJy(ra:List AV)(v n:Nat):List AV:=mkTs 57 [(3,.eptr 2 ra 0 0),(6,.own 0 0 0 0),(7,.osl 1 v 0 n)]
def xK0(ra:List AV)(v n r:Nat)(H:List Box):keepS [3,6,7] ⟨(((xrq g) ra v n r).set 18 (.tuple [.bool false])).set 19 (.bool false),H⟩=⟨xJy ra v n,H⟩:=Θ
def xJz(ka fa xs ms:List AV)(v n:Nat):X Tryz.prog xqh none (.seq (.region 10 (cmO 10) false) .ret) ⟨xJy [relV ka fa] v n,[cellR,boxO v xs,boxC ms]⟩ (endK Tryz.prog xqh.ls Tryz.f42.results.toList) =br (decide (((0:Nat)+ka.length)*(8:Nat)<=(140737488355328:Nat))&&decide ((0:Nat)+ka.length<=(4611686018427387904:Nat))) (br (v==v&&decide ((0:Nat)+n<=xs.length)&&true) (br (xcy (List.take n (List.drop (0:Nat) xs))).isSome (br (decide ((0:Nat)+((0:Nat)+ka.length)<=([]++ka).length)&&true&&true) (some (AV.agg [AV.list (1:Nat) (List.take ((0:Nat)+ka.length) (List.drop (0:Nat) ([]++ka))),AV.list (3:Nat) ((xcy (List.take n (List.drop (0:Nat) xs))).getD [])])) none) none) none) none:=Θ
def xJO:LoOk Tryz.prog (xNJ.at 0) xqh (.seq (.region 10 (cmO 10) false) .ret):=xgz Θ
def xGi:(rmOps9 (rmOf Tryz.f42)).toList=(rmOps9 (rmOf Tryz.f42)).toList.dropLast++[(rmOps9 (rmOf Tryz.f42)).toList.getLastD default]:=Θ
def xH1:noDefer (rmOps9 (rmOf Tryz.f42)):=Θ
def xJK:((rmOps9 (rmOf Tryz.f42)).toList.getLastD default).op=.range 88 (.tmp 16):=Θ
def xJC:((rmOps9 (rmOf Tryz.f42)).toList.getLastD default).dst=some 17:=Θ
def xJG:((rmOps9 (rmOf Tryz.f42)).toList.getLastD default).guard=none:=Θ
def xGg:(rmOps0 (rmOf Tryz.f42)).toList=[(rmOps0 (rmOf Tryz.f42)).toList.getD 0 default,(rmOps0 (rmOf Tryz.f42)).toList.getD 1 default]:=Θ
def xHx:noDefer (rmOps0 (rmOf Tryz.f42)):=Θ
def xJI:((rmOps0 (rmOf Tryz.f42)).toList.getD 0 default).op=.next (.tmp 17) false:=Θ
def xJA:((rmOps0 (rmOf Tryz.f42)).toList.getD 0 default).dst=some 18:=Θ
def xJE:((rmOps0 (rmOf Tryz.f42)).toList.getD 0 default).guard=none:=Θ
def xJJ:((rmOps0 (rmOf Tryz.f42)).toList.getD 1 default).op=.extract (.tmp 18) 0:=Θ
def xJB:((rmOps0 (rmOf Tryz.f42)).toList.getD 1 default).dst=some 19:=Θ
def xJF:((rmOps0 (rmOf Tryz.f42)).toList.getD 1 default).guard=none:=Θ
def xGh:(rmOps1 (rmOf Tryz.f42)).toList=((rmOps1 (rmOf Tryz.f42)).toList.getD 0 default)::(rmOps1 (rmOf Tryz.f42)).toList.drop 1:=Θ
def xH0:noDefer (rmOps1 (rmOf Tryz.f42)):=Θ
def xJL:((rmOps1 (rmOf Tryz.f42)).toList.getD 0 default).op=.entry (.tmp 17):=Θ
def xJD:((rmOps1 (rmOf Tryz.f42)).toList.getD 0 default).dst=some 20:=Θ
def xJH:((rmOps1 (rmOf Tryz.f42)).toList.getD 0 default).guard=none:=Θ
def xKZ(ka fa kb fb:List AV)(H:List Box):St.eval ⟨((xvX g) ka fa kb fb).set 16 (.own 2 0 0 0),H⟩ (.tmp 16)=.own (.b 2) 0 0 0:=Θ
def xDi(ms:List AV):freeze [cellR,boxO 0 [],mapB ms] [2]=[cellR,boxO 0 [],boxC ms]:=Θ
def xK5(ka fa kb fb ms:List AV)(r:Nat):normS 3 [] [2,3,6,7,17] ⟨(((xvX g) ka fa kb fb).set 16 (.own 2 0 0 0)).set 17 (.gptr r),[cellR,boxO 0 [],boxC ms]⟩=some ([.func g [],.eptr 2 [relV ka fa] 0 0,.own 0 0 0 0,.osl 1 0 0 0,.gptr r],[cellR,boxO 0 [],boxC ms]):=Θ
def xK1(ka fa kb fb:List AV)(r:Nat):mkTs ((((xvX g) ka fa kb fb).set 16 (.own 2 0 0 0)).set 17 (.gptr r)).length ([2,3,6,7,17].zip [.func g [],.eptr 2 [relV ka fa] 0 0,.own 0 0 0 0,.osl 1 0 0 0,.gptr r])=(xrq g) [relV ka fa] 0 0 r:=Θ
def xKx(ra:List AV)(v n r:Nat):((xrq g) ra v n r)[17]?=some (.gptr r):=Θ
def xEI(ra:List AV)(v n r:Nat):((xrq g) ra v n r).length=57:=Θ
end Go.Sim.M
end
noncomputable section
set_option maxRecDepth 100000
namespace Go.Sim.M
open Go.RowKit Go.Proofs
variable(g:FuncId)
def xHX(ka fa kb fb:List AV):([relV ka fa,relV kb fb,.func g []]:List AV)++List.replicate (Tryz.f42.ntmps - ([relV ka fa,relV kb fb,.func g []]:List AV).length) (.tuple [])=(xDh g) ka fa kb fb:=Θ
def xHY:Tryz.f42.body=some (Tryz.f42.body.getD .skip):=Θ
def xLE(ka fa kb fb:List AV)(h:colOk fa fb):Path (OpA Tryz.prog (xNJ.at 0)) (rmOps9 (rmOf Tryz.f42)) (rmOps9 (rmOf Tryz.f42)).toList.dropLast ⟨(xz0 g) ka fa kb fb,[cellR,boxO 0 []]⟩ ⟨((xvX g) ka fa kb fb).set 16 (.own 2 0 0 0),[cellR,boxO 0 [],mapB (outOf (colV fa fb))]⟩:=by have h1:=(xJS g) ka fa kb fb;rw[h]at h1;obtain⟨s1,h2,h3⟩:=xer xz1 (K:=some) h1;cases h3;exact h2
def xCc{ops:Array Oper}{l:List Oper}{s s':St}(h:xOps Tryz.prog xqh none (some true) ops l s some=some s'):Path (OpA Tryz.prog (xNJ.at 0)) ops l s s':=by obtain⟨s1,h2,h3⟩:=xer xz1 h;cases h3;exact h2
variable {o:List AV->List AV->Option (List AV)}
def xGj(O:CmX g o){ra:List AV}{ps:List PE}(V:∀k,k<ps.length->lvOk o (ps.getD k defP)){s:Nat×List AV}{k r:Nat}(hk:k<ps.length)(hl:s.2.length+(fkOf o ps k).length<=1099511627776):∃s2,Path (OpA Tryz.prog (xNJ.at 3)) (rmOps1 (rmOf Tryz.f42)) ((rmOps1 (rmOf Tryz.f42)).toList.drop 1) ⟨stepT ((xrq g) ra s.1 s.2.length r) 18 19 20 (keyAt (boxC (outOf ps)) k) (valAt 2 (boxC (outOf ps)) k),[cellR,boxO s.1 s.2,boxC (outOf ps)]⟩ s2/\Does Tryz.prog (xNJ.at 3) (rmBody (rmOf Tryz.f42)) (λ e s'=>e=.normal/\Weak 3 s' ⟨(xrq g) ra (s.1+(fkOf o ps k).length) (s.2++fkOf o ps k).length r,[cellR,boxO (s.1+(fkOf o ps k).length) (s.2++fkOf o ps k),boxC (outOf ps)]⟩) s2:=by
 have q:valAt 2 (boxC (outOf ps)) k=entV (ps.getD k defP).2.1 (ps.getD k defP).2.2.1 (ps.getD k defP).2.2.2:=by(have e:(outOf ps).getD k .top=outE (ps.getD k defP):=by simp[outOf,z7,hk]);have e2:(boxC (outOf ps)).xs=outOf ps:=rfl;have e3:xM2 (boxC (outOf ps)).ty 1=false:=xAk;unfold valAt xNp;rw[e3,e2,e];rfl
 rw[q];have hv:=V k hk;unfold lvOk at hv;simp only[zf,zI,List.mem_range]at hv;obtain⟨h1,h2,h3,h4,h5⟩:=hv;have J:(fkOf o ps k).length=(lvOf o (ps.getD k defP)).length:=by simp[fkOf]
 have hit:Iter (xdB (ps.getD k defP).2.1 (lvOf o (ps.getD k defP)) (↑(lvOf o (ps.getD k defP)).length:Int)) (s.1,s.2.length,(0:Int),s.2)=some (s.1+(lvOf o (ps.getD k defP)).length,s.2.length+(lvOf o (ps.getD k defP)).length,s.2++((lvOf o (ps.getD k defP)).drop 0).map (factA (ps.getD k defP).2.1)):=xCb (ps.getD k defP).2.1 (lvOf o (ps.getD k defP)) h5 (lvOf o (ps.getD k defP)).length 0 s.1 s.2 Ω Ω Ω;have hx:=O ra (ps.getD k defP).2.1 (ps.getD k defP).2.2.1 (ps.getD k defP).2.2.2 (outOf ps) s.2 (keyAt (boxC (outOf ps)) k) s.1 s.2.length r;have Q:s.1.beq s.1:=Nat.beq_refl _;rw[h1,h2,h3,h4]at hx;simp only[xab,sUF]at hx;rw[show (xaI ((o ((xan (ps.getD k defP).2.2.1).getD []) ((xan (ps.getD k defP).2.2.2).getD [])).getD [])).getD []=lvOf o (ps.getD k defP) from rfl,hit,Q]at hx;simp only[zk,Bool.and_self,xab,zh,zr,sUF]at hx;obtain⟨s2,g1,g2⟩:=xH7 xNa (xNb Tryz.prog _) rfl (xJR g) (xJN g) hx;refine⟨s2,g1,xdj g2 λ e s'⟨he,hw⟩=>⟨he,?_⟩⟩;rw[J];have hn:s.2.length+(lvOf o (ps.getD k defP)).length=(s.2++fkOf o ps k).length:=by rw[z8,J]
 rw[hn]at hw;exact hw
def xEN(ac:CmX g o){ka fa kb fb:List AV}(hk:ka.length<=1099511627776)(h:cmbOk o fa fb):Good Tryz.prog xNJ 42 [relV ka fa,relV kb fb,.func g []] (.agg [.list 1 ka,.list 3 ((xcy (flatOf o (colV fa fb))).getD [])]):=by
 unfold cmbOk at h;simp only[zf,zI,List.mem_range,zl]at h;obtain⟨Y,af,aa,Q,O⟩:=h;refine xmS (p:=0) (xCm (xNb Tryz.prog _) Tryz.func42 xHY Θ ?_);rw[(xHX g),xHZ];refine xhM (xs1 (xNb Tryz.prog _) xK3 (xCc ((xK7 g) ka fa kb fb)) ?_);refine xhM (xs1 (xNb Tryz.prog _) xK4 (xCc ((xK8 g) ka fa kb fb)) ?_);refine xjE ((xK9 g) ka fa kb fb) (xhM ?_);rw[xJT];refine xdj (xBu (Inv:=xNJ.at 0) (xNb Tryz.prog _) (σ:=Nat×List AV) (ρ:=Unit) (pre:=(rmOps9 (rmOf Tryz.f42)).toList.dropLast) (exts:=(rmOps1 (rmOf Tryz.f42)).toList.drop 1) (o9:=(rmOps9 (rmOf Tryz.f42)).toList.getLastD default) (o0:=(rmOps0 (rmOf Tryz.f42)).toList.getD 0 default) (o1:=(rmOps0 (rmOf Tryz.f42)).toList.getD 1 default) (oe:=(rmOps1 (rmOf Tryz.f42)).toList.getD 0 default) (it:=17) (tn:=18) (tb:=19) (te:=20) (tyM:=88) (kt:=9) (et:=90) (mo:=.tmp 16) xGi xH1 xJK xJC xJG xGH xGg xHx xJI xJA xJE xJJ xJB xJF xGh xH0 xJL xJD xJH (by decide) (by decide) (by decide) ((xLE g) ka fa kb fb Y) (nb:=2) (ver:=0) (i:=0) (j:=0) ((xKZ g) ka fa kb fb _) (bx:=boxC (outOf (colV fa fb))) (by rw[xDi];rfl) rfl xGG xAj rfl rfl rfl (n:=3) (by rw[xDi];exact zd 3) (λ s r=>(xrq g) [relV ka fa] s.1 s.2.length r) (λ s=>[cellR,boxO s.1 s.2,boxC (outOf (colV fa fb))]) (λ _=>[]) (λ _=>[]) (stepF (fkOf o (colV fa fb))) (0,[]) (λ s=>zd 3) (λ s r=>(xKx g) _ _ _ r) (λ s r=>by rw[(xEI g)];decide) (λ s r=>by rw[(xEI g)];decide) (λ r=>?_) ?_) λ e s' hq=>?_;have h:=xhY ((xK5 g) ka fa kb fb (outOf (colV fa fb)) r);rw[(xK1 g)]at h;rw[xDi];exact h;intro r done s k W Z ae ab hf;have J:(boxC (outOf (colV fa fb))).xs.length=(colV fa fb).length:=by show (outOf (colV fa fb)).length=_;simp[outOf]
 rw[J]at W ab;obtain⟨v',V⟩:=xAg (fkOf o (colV fa fb)) done 0 [];rw[V]at hf;have hs:s=(v',[]++done.flatMap (fkOf o (colV fa fb))):=by injection hf with hf;exact hf.symm
 have hl:s.2.length+(fkOf o (colV fa fb) k).length<=1099511627776:=by rw[hs];have:=xzv (fk:=fkOf o (colV fa fb)) ae ab Z W;simp only[zU];exact Nat.le_trans this aa
 obtain⟨s2,g1,g2⟩:=xGj g ac (ra:=[relV ka fa]) af (s:=s) (r:=r) W hl;exact⟨s2,g1,g2⟩;obtain⟨ord,q,hq⟩:=hq;have J:(boxC (outOf (colV fa fb))).xs.length=(colV fa fb).length:=by show (outOf (colV fa fb)).length=_;simp[outOf]
 rw[J]at q;obtain⟨v',V⟩:=xAg (fkOf o (colV fa fb)) ord 0 [];rw[V]at hq;obtain⟨rfl,r,rfl⟩:=hq;show Does Tryz.prog (xNJ.at 0) _ _ _;refine xjE (xrM [3,6,7] _) ?_;rw[(xK0 g)];have ad:=Q ord q;have hx:=xJz ka fa ([]++ord.flatMap (fkOf o (colV fa fb))) (outOf (colV fa fb)) v' ([]++ord.flatMap (fkOf o (colV fa fb))).length;have c1:(decide (((0:Nat)+ka.length)*(8:Nat)<=(140737488355328:Nat))&&decide ((0:Nat)+ka.length<=(4611686018427387904:Nat))):=by simp only[zf,zl];omega
 have c2:∀n:Nat,(v'==v'&&decide ((0:Nat)+n<=n)&&true):=λ n=>by simp
 have c3:(decide ((0:Nat)+((0:Nat)+ka.length)<=([]++ka).length)&&true&&true):=by simp
 rw[c1,c2,c3,zU,zr,y6,ad,O]at hx;simp only[xab,zU,zr,zH,y6,sUF]at hx;have hd:=xf8 (P:=Tryz.prog) (Inv:=xNJ.at 0) (E:=xqh) (good:=λ z=>z=some (AV.agg [.list 1 ka,.list 3 ((xcy (flatOf o (colV fa fb))).getD [])])) (bad:=none) xNa (xNb Tryz.prog _) rfl Ψ xz1 _ _ _ xJO hx;refine xdj hd λ e s hq=>?_;exact xGB hq
end Go.Sim.M
end
noncomputable section
set_option maxRecDepth 100000
namespace Go.Sim.M
open Go.RowKit Go.Proofs
def cmxA:CmX 43 xpE:=λ ra row ea eb ms xs s v n r=>by kernel_rfl
def cmxM:CmX 53 xpG:=λ ra row ea eb ms xs s v n r=>by kernel_rfl
def cmxX:CmX 45 xjo:=λ ra row ea eb ms xs s v n r=>by kernel_rfl
noncomputable def xs3(fa fb:List AV):Option (List AV):=cmbV xpE fa fb
noncomputable def xs4(fa fb:List AV):Option (List AV):=cmbV xpG fa fb
noncomputable def xs5(fa fb:List AV):Option (List AV):=cmbV xjo fa fb
noncomputable def xv0(g:FuncId)(f:List AV->List AV->Option (List AV)):List AV->Option (Bool×AV):=ocOf (xNL (xN0 (xNL (xNx 1 xNO) (xNL (xNx 3 xNO) xNN))) (xNL (xN0 (xNL (xNx 1 xNO) (xNL (xNx 3 xNO) xNN))) (xNL (sEq (xNo g xNM)) xNN))) λ((ka,(fa,_)),((kb,(fb,_)),_))=>(decide (ka.length<=1099511627776)&&(f fa fb).isSome,.agg [.list 1 ka,.list 3 ((f fa fb).getD [])])
def xz9{g:FuncId}{o:List AV->List AV->Option (List AV)}(q:CmX g o):OcOk Tryz.prog xNJ 42 (xv0 g (cmbV o)):=xlV λ vv rr hh=>by obtain⟨⟨ka,fa,_⟩,⟨kb,fb,_⟩,_⟩:=vv;obtain⟨h1,rfl⟩:=Prod.mk.inj hh;simp only[zf,zl]at h1;obtain⟨h2,h3⟩:=xEJ (op:=o) h1.2;have h:=xEN g q (ka:=ka) (kb:=kb) h1.1 h2;rw[<-h3]at h;exact h
noncomputable def EKSJ:Env:=(((xEd.E.withM 132 xpX).with 42 (xv0 43 xs3)).with 42 (xv0 53 xs4)).with 42 (xv0 45 xs5)
def xB6:xM1 Tryz.prog xNJ EKSJ:=(((xEd.ok.withM xzD).with (xz9 cmxA)).with (xz9 cmxM)).with (xz9 cmxX)
noncomputable def xHM:EO:=EO.mk EKSJ xB6
abbrev En:=List UInt8×List AV
def encEn(e:En):AV:=.agg [.str e.1,.list 2 e.2]
def encDe(s:List UInt8)(n:Int):AV:=.agg [.str s,.int .i64 n]
def ixE:List En->List UInt8->Option Nat|[],_=>none|e::es,s=>match e.1==s with|true=>some 0|false=>(ixE es s).map (·+1)
def xlb(s:List UInt8):∀es:List En,mapIx (es.map encEn) s=ixE es s|[]=>rfl|e::es=>by rw[zV,mapIx,ixE,xlb s es];rfl
variable {s:List UInt8}
def xqN:∀{es:List En}{i:Nat},ixE es s=some i->i<es.length|[],i,h=>by simp[ixE]at h|e::es,i,h=>by rw[ixE]at h;split at h;cases h;simp;cases hm:ixE es s with|none=>rw[hm]at h;simp at h|some j=>rw[hm]at h;simp only[Option.map_some,z6]at h;have:=xqN hm;subst h;simp;omega
def xCq:∀{es:List En}{i:Nat},ixE es s=some i->(es.getD i default).1=s|[],i,h=>by simp[ixE]at h|e::es,i,h=>by rw[ixE]at h;split at h;rename_i he;cases h;simpa using he;cases hm:ixE es s with|none=>rw[hm]at h;simp at h|some j=>rw[hm]at h;simp only[Option.map_some,z6]at h;subst h;simpa using xCq hm
def addE:List En->List UInt8->AV->List En|[],s,p=>[(s,[p])]|e::es,s,p=>match e.1==s with|true=>(e.1,e.2++[p])::es|false=>e::addE es s p
def xtG{p:AV}:∀{es:List En},ixE es s=none->addE es s p=es++[(s,[p])]|[],_=>rfl|e::es,h=>by rw[ixE]at h;split at h;simp at h;rename_i he;cases hm:ixE es s with|some j=>rw[hm]at h;simp at h|none=>rw[addE,he,xtG hm];rfl
def xtH{p:AV}:∀{es:List En}{i:Nat},ixE es s=some i->addE es s p=es.set i (s,(es.getD i default).2++[p])|[],i,h=>by simp[ixE]at h|e::es,i,h=>by rw[ixE]at h;split at h;(rename_i he;cases h;have e1:e.1=s:=by simpa using he);rw[addE,he];simp[e1];rename_i he;cases hm:ixE es s with|none=>rw[hm]at h;simp at h|some j=>rw[hm]at h;simp only[Option.map_some,z6]at h;subst h;rw[addE,he,xtH hm];simp
def lookE:List En->List UInt8->List AV|[],_=>[]|e::es,s=>match e.1==s with|true=>e.2|false=>lookE es s
def xwf:∀{es:List En},ixE es s=none->lookE es s=[]|[],_=>rfl|e::es,h=>by rw[ixE]at h;split at h;simp at h;rename_i he;cases hm:ixE es s with|some j=>rw[hm]at h;simp at h|none=>rw[lookE,he];exact xwf hm
def xwg:∀{es:List En}{i:Nat},ixE es s=some i->lookE es s=(es.getD i default).2|[],i,h=>by simp[ixE]at h|e::es,i,h=>by rw[ixE]at h;split at h;rename_i he;cases h;rw[lookE,he];rfl;rename_i he;cases hm:ixE es s with|none=>rw[hm]at h;simp at h|some j=>rw[hm]at h;simp only[Option.map_some,z6]at h;subst h;rw[lookE,he];simpa using xwg hm
def xAv(s s':List UInt8)(p:AV):∀es:List En,lookE (addE es s p) s'=lookE es s'++if s==s' then[p]else[]|[]=>by simp only[addE,lookE];cases s==s'<;>simp|e::es=>by have ih:=xAv s s' p es;rw[addE];cases he:e.1==s with|true=>((have e1:e.1=s:=by simpa using he);dsimp only;rw[lookE,lookE,e1];cases h:s==s' with|true=>simp|false=>simp)|false=>dsimp only;rw[lookE,lookE,ih];cases h:e.1==s' with|false=>rfl|true=>(have e1:e.1=s':=by simpa using h);(have:(s==s')=false:=by rw[<-e1,Bool.eq_false_iff];intro hh;rw[show s=e.1 by simpa using hh]at he;simp at he);simp[this]
def xzU(s:List UInt8)(p:AV):∀es:List En,(addE es s p).length<=es.length+1|[]=>by simp[addE]|e::es=>by have:=xzU s p es;rw[addE];cases e.1==s<;>simp<;>omega
def xyV{α:Type}(k:α->List UInt8)(f:α->AV)(s:List UInt8):∀(l:List α)(es:List En),lookE (l.foldl (λ es x=>addE es (k x) (f x)) es) s=lookE es s++(l.filter λ x=>k x==s).map f|[],es=>by simp|x::l,es=>by rw[List.foldl_cons,xyV k f s l,xAv,List.filter_cons];cases k x==s<;>simp
def cEn1(e:En):(encEn e).cells.getD 1 .top=.list 2 e.2:=rfl
def lEn(e:En):(encEn e).cells.length=2:=rfl
def xwk(es:List En)(s:List UInt8):xNv (es.map encEn) s=(ixE es s).isSome:=by unfold xNv;rw[xlb]
variable {es:List En}{i:Nat}
def xDE(h:ixE es s=some i):putIx (es.map encEn) s=i:=by unfold putIx;rw[xlb,h]
def xtZ{n:Int}:∀{es:List En}{i:Nat},ixE es s=some i->mapIx ((es.map encEn).set i (encDe s n)) s=some i|[],i,h=>by simp[ixE]at h|e::es,i,h=>by rw[ixE]at h;split at h;cases h;simp[mapIx,encDe,AV.cells,isKey];rename_i he;cases hm:ixE es s with|none=>rw[hm]at h;simp at h|some j=>rw[hm]at h;simp only[Option.map_some,z6]at h;subst h;rw[zV,List.set_cons_succ,mapIx,xtZ hm];have:isKey s ((encEn e).cells.getD 0 .top)=false:=he;rw[this];rfl
def xBG(h:ixE es s=some i)(n:Int)(p:AV):xNh ((es.map encEn).set i (encDe s n)) s (.list 2 ((es.getD i default).2++[p]))=(addE es s p).map encEn:=by unfold xNh;rw[xtZ h,xtH h];dsimp only;rw[List.set_set,List.map_set];rfl
def xDB(h:ixE es s=none)(p:AV):xNh (es.map encEn) s (.list 2 [p])=(addE es s p).map encEn:=by unfold xNh;rw[xlb,h,xtG h,zx];rfl
def xES(h:ixE es s=some i){n:Nat}:deadR ((es.map encEn).set i (encDe s (n:Int))) s (n+1):=by(have hi:i<((es.map encEn).set i (encDe s (n:Int))).length:=by rw[y4,za];exact xqN h);(unfold deadR;rw[xtZ h];have:((es.map encEn).set i (encDe s (n:Int))).getD i .top=encDe s (n:Int):=by rw[z7,zL (by simpa using hi)];rfl);dsimp only;rw[this];show (match deadLen (AV.int .i64 (n:Int))with|some l0=>decide (l0<n+1)|none=>false)=true;simp[deadLen]
def xER(h:ixE es s=none)(n:Nat):deadR (es.map encEn) s n:=by unfold deadR;rw[xlb,h]
end Go.Sim.M
end
noncomputable section
set_option maxRecDepth 100000
namespace Go.Sim.M
open Go.IntKind (i64 u64 u8)
open Go.RowKit Go.Proofs
def xdN:Env:=EKSJ.fn 36 0 (lsOf []) (xNn [])
def xty:xM1 P0 (xNJ.at 0) xdN:=xB6.fn
def xsn:LoOk P0 (xNJ.at xdN.pin) xdN (Tryz.f99.body.getD .skip):=xmW (ls:=[xM5 Tryz.f99 0,xM5 Tryz.f99 1]) Θ (fun l b lp a=>by
 simp only[zC,List.not_mem_nil,or_false]at b;rcases b with rfl|rfl
 . rw[show xdN.lp (xNf (xM5 Tryz.f99 0))=none by kernel_rfl]at a
   simp at a
 . rw[show xdN.lp (xNf (xM5 Tryz.f99 1))=none by kernel_rfl]at a
   simp at a)
def xjT(a b:LA):=i64.wrap (i64.wrap (0+(↑a.length:Int))+(↑b.length:Int))
def xhp(a b:LA):Nat:=0+a.length+b.length
def xkH{T:Type}(a b:LA)(δ:T)(κ:LA->T):T:=br (decide (i64.wrap (0+(↑a.length:Int))<0)) δ (br (decide (xjT a b<0)) δ (br (decide (0<=xjT a b)&&decide (xjT a b<=4398046511104)) (br (decide ((0+a.length)*32<=140737488355328)&&decide (0+a.length<=4611686018427387904)) (br (0+a.length==([]++a).length&&(decide (xhp a b*32<=140737488355328)&&decide (xhp a b<=4611686018427387904))) (br (decide (0+xhp a b<=([]++a++b).length)&&true) (κ (List.take (xhp a b) (List.drop 0 ([]++a++b)))) δ) δ) δ) δ))
def xfq(a b:LA):=xkH a b none some
def xwK(a b:LA):Enc (λ(p:LA)=>((AV.list 3 p):AV)) (xfq a b) (XF P0 xdN Tryz.f99 (Tryz.f99.body.getD .skip) [AV.list 1 [AV.list 3 a,AV.list 3 b]]):=by(have h:XF P0 xdN Tryz.f99 (Tryz.f99.body.getD .skip) [AV.list 1 [AV.list 3 a,AV.list 3 b]]=xkH a b none (λ(p:LA)=>some ((AV.list 3 p):AV)):=by kernel_rfl);rw[h];unfold xfq xkH;repeat' (first|refine Enc.br ?_ ?_|exact Enc.none|exact Enc.some rfl)
def xwJ:LA->Option (Bool×AV):=ocOf (xNL (xNx 1 (xNK (xN1 3 xNO) (xNK (xN1 3 xNO) xNM))) xNN) λ((a,(b,_)),_)=>((xfq a b).isSome,(AV.list 3 ((xfq a b).getD [])))
def xwI:OcOk P0 xNJ 99 (xwJ):=xlV λ f h g=>by obtain⟨⟨a,⟨b,_⟩⟩,_⟩:=f;obtain⟨c,e⟩:=Prod.mk.inj g;refine xmS (p:=xdN.pin) (xqv xNa (xNb P0 _) rfl xty Tryz.func99 rfl Θ xsn ((xwK _ _ _ (xcB (d:=[]) c)).trans ?_));exact congrArg some e
def xJf:EO:=xHM.w xwI
def xo3{T:Type}(a b:LA)(δ:T)(κ:LA->T):T:=br ((xfq a b).isSome) (κ ((xfq a b).getD [])) δ
def xlC(a b:LA):=xo3 a b none some
def xJg:EO:=xJf.f Tryz.func64 9 0 [] [] lk0 (u2 (uL 3) (uL 3)) (λ(a,b,_) _=>xo3 a b) (λ _ p=>AV.list 3 p) []
def xtO(a:LA):LA:=((a))
def xyb{T:Type}(a:LA)(δ:T)(κ:LA->T):T:=κ (a)
def xJh:EO:=xJg.fT Tryz.func58 4 0 [] [] lk0 (λ(a,_)=>xyb a none) (u1 (uL 3)) (λ(a,_)=>xtO a) (λ _ p=>(AV.list 3 p))
def xi9(a:LA)(n:Int):Int:=if(↑a.length:Int)<n then(↑a.length:Int)else n
def xpK{T:Type}(a:LA)(n:Int)(δ:T)(κ:LA->T):T:=br (decide (0<=xi9 a n)&&decide (xi9 a n<=a.length)&&true) (κ (List.take ((xi9 a n).toNat - 0) (List.drop 0 a))) δ
def xiA(a:LA)(n:Int):=xpK a n none some
def xvQ:EO:=xJh.fM Tryz.func59 10 0 [] [] lk0 (u2 (uL 3) (sEq (xNo (1099511627776:FuncId) (q1 qI)))) xNM (λ(a,(n,_),_) _ _=>xpK a n) (λ _ _ p=>(AV.list 3 p,([]:List Box))) []
end Go.Sim.M
end
noncomputable section
set_option maxRecDepth 100000
namespace Go.Sim.M
open Go.RowKit Go.Proofs
noncomputable abbrev pB:Code:=Tryz.f60.body.getD .skip
noncomputable abbrev pO(n:Nat):Array Oper:=opsOf (regOf pB n)
noncomputable abbrev EPr:Env:=xvQ.E.fn 45 0 (lsOf []) (xNn [])
def orP:xM1 Tryz.prog (xNJ.at 0) EPr:=xvQ.ok.fn
def tyP:Nat:=1208926121356027683143680
def contB(ms:List AV):Box:=⟨0,2,tyP,ms,false,true⟩
def boxW(rows:List AV):Box:=⟨0,1,47,rows,false,true⟩
noncomputable def lpP:Code:=.seq (.region 4 (pO 4) false) (.seq (.cond (.tmp 16) .skip (.exit 0)) (.seq (.block 1 (.seq (.region 5 (pO 5) false) (.seq (.region 6 (pO 6) false) (.seq (.region 7 (pO 7) false) (.seq (.seq (.region 8 (pO 8) false) (.cond (.tmp 28) (.region 9 (pO 9) false) .skip)) (.region 10 (pO 10) false)))))) (.region 11 (pO 11) false)))
def xLz:pB=.seq (.region 0 (pO 0) false) (.seq (.region 1 (pO 1) false) (.seq (.region 2 (pO 2) false) (.seq (.seq (.region 3 (pO 3) false) (.block 0 (.loop lpP))) (.seq (.region 12 (pO 12) false) .ret)))):=Θ
def perA(f:AV):AV:=.agg [.int .i64 (f.cells.getD 1 .top).toInt,.int .i64 (f.cells.getD 2 .top).toInt]
def xIb(w:World):(binOp .eql 64 (.slice none 0 0) (.slice none 0 0)).run Tryz.prog w=.ok (.bool true) w:=by rfl
def xGz(a:Addr)(n c:Nat)(w:World):(binOp .eql 64 (.slice (some a) n c) (.slice none 0 0)).run Tryz.prog w=.ok (.bool false) w:=by rfl
def NilIs(s:St)(t:Tmp)(b:Bool):Prop:=(b/\s.eval (.tmp t)=.nils)\/(b=false/\∃id len rb,s.eval (.tmp t)=.osl id rb.ver 0 len/\0<len/\getB s.heap id=some rb)
def xFQ{id:Nat}{ops:Array Oper}{Q:Exit->St->Prop}{s s3:St}{n:Nat}{o:Oper}{t d:Tmp}{ty:TypeId}{b:Bool}(W:noDefer ops)(hl:ops.toList=ops.toList.take n++[o])(hp:Path (OpA Tryz.prog (xNJ.at 0)) ops (ops.toList.take n) s s3)(ho:o.op=.binOp .eql 64 (.tmp t) (.const (.slice none 0 0)) ty)(hg:o.guard=none)(hd:o.dst=some d)(hn:NilIs s3 t b)(h:Q .normal ⟨s3.tmps.set d (.bool b),s3.heap⟩):Does Tryz.prog (xNJ.at 0) (.region id ops false) Q s:=by
 intro w0 A0 w A M a Qc hI Z hs hQ ro aa;refine wpIn_region_list (xfr ro 0 _ (xdI W) _ _ ?_);rw[hl];refine xhX (xNb Tryz.prog _) hI hp hs λ a1 w1 A1 M1 q _=>wpList_plain hg λ K hK=>?_;have hv:=q.eval (.tmp t);have hc:a1.eval (.const (.slice none 0 0))=.slice none 0 0:=rfl;have J:SR w0 A0 w1 A1 M1 ⟨s3.tmps.set d (.bool b),s3.heap⟩ (a1.put (some d) (.bool b)):=q.put (d:=some d) q.base q.outer Mv.refl q.heap (Rel.bool (w:=w1) (A:=A1) (M:=M1) b);unfold Oper.wp;rcases hn with⟨rfl,hx⟩|⟨rfl,id',len,rb,hx,Y,hb⟩;rw[hx]at hv;have e:a1.eval (.tmp t)=.slice none 0 0:=by generalize a1.eval (.tmp t)=v at hv;cases hv;rfl
 simp only[execOp,ho,e,hc,xIb,Sem.run_bind,Result.andThen_ok,Sem.run_pure];show K (a1.put o.dst (.bool true)) w1;rw[hd];exact hK _ _ (wpList_nil (hQ _ _ _ _ h ⟨A1,M1,J⟩));rw[hx]at hv;have e:∃a2 c2,a1.eval (.tmp t)=.slice (some a2) len c2:=by generalize a1.eval (.tmp t)=v at hv;cases hv with|osl v id ver off len m hm hle h1 he=>obtain⟨bx,O,V⟩:=q.heap.box _ _ hm;rw[hb]at O;obtain rfl:rb=bx:=Option.some.inj O;obtain⟨g1,a2,g2,g3⟩:=he V.ver;rw[g3 Ω]at g2;exact⟨_,_,g2⟩
 obtain⟨a2,c2,e⟩:=e;simp only[execOp,ho,e,hc,xGz,Sem.run_bind,Result.andThen_ok,Sem.run_pure];show K (a1.put o.dst (.bool false)) w1;rw[hd];exact hK _ _ (wpList_nil (hQ _ _ _ _ h ⟨A1,M1,J⟩))
def lvPA:List Nat:=[1,6,7,13,14,15]
noncomputable def f9(fr:List AV)(ff ft:Int):Box:=⟨0,3,54,[.agg [.list 3 fr,.int .i64 ff,.int .i64 ft]],false,true⟩
def lvPU:List Nat:=[1,6,7,9,10,11,13,14,15]
def toListL(z:Nat)(ys:List AV):(AV.list z ys).toList=ys:=rfl
def isRowL(ys:List AV):xNH 2 (.list 2 ys):=rfl
def enT1(e:En):List.take 1 (encEn e).cells=[.str e.1]:=rfl
def enD2(e:En):List.drop 2 (encEn e).cells=[]:=rfl
variable {es:List En}
def xIi{k:List UInt8}{j:Nat}(h:ixE es k=some j):(es.map encEn).getD j .top=encEn (es.getD j default):=by have:=xqN h;simp[z7,this]
section
variable{Q:Exit->St->Prop}
variable {H H':List Box}{live liveO:List Nat}{ops:Array Oper}{q vals:List AV}
def xlE{id:Nat}{y:Code}(h:XC Tryz.prog EPr live liveO (.region id ops false) vals H=some (LR.leaf .normal q H').eval)(hq:Does Tryz.prog (xNJ.at 0) y Q ⟨mkTs 45 (liveO.zip q),H'⟩):Does Tryz.prog (xNJ.at 0) (.seq (.region id ops false) y) Q ⟨mkTs 45 (live.zip vals),H⟩:=
 xhM (xdj (xuV xNa (xNb Tryz.prog _) rfl orP (xgz rfl rfl) h) fun e s ⟨he,hs⟩=>by
  subst he hs;exact hq)
def xsz{id:Nat}(h:XC Tryz.prog EPr live liveO (.region id ops false) vals H=some (LR.leaf .normal q H').eval)(hq:Q .normal ⟨mkTs 45 (liveO.zip q),H'⟩):Does Tryz.prog (xNJ.at 0) (.region id ops false) Q ⟨mkTs 45 (live.zip vals),H⟩:=xdj (xuV xNa (xNb Tryz.prog _) rfl orP (xgz rfl rfl) h) λ e s⟨he,hs⟩=>by subst he hs;exact hq
end
def ndP8:noDefer (pO 8):=Θ
def lP8:(pO 8).toList=(pO 8).toList.take 3++[(pO 8).toList.getD 3 default]:=Θ
def oP8:((pO 8).toList.getD 3 default).op=.binOp .eql 64 (.tmp 27) (.const (.slice none 0 0)) 64:=Θ
def gP8:((pO 8).toList.getD 3 default).guard=none:=Θ
def dP8:((pO 8).toList.getD 3 default).dst=some 28:=Θ
def plainP(ms:List AV):Box:=⟨0,2,mapTy 67,ms,true,true⟩
def xCV:xM3 tyP:=Θ
def xF1:xM2 tyP 0=false:=Θ
def xwW:xM2 tyP 1:=Θ
def xIu:rty (mapTy 67)=mapTy 67:=Θ
def xCG:xM3 (mapTy 67):=Θ
def xKo:xM2 (mapTy 67) 0=false:=Θ
def xKp:xM2 (mapTy 67) 1=false:=Θ
def xCW:isC (rowTy tyP)=false:=Θ
section
variable{w:World}{A:Nat->Prop}{M:Id->Option MB}{B:Nat}
def MPl(M:Id->Option MB):Id->Option MB:=λ id=>match id with|.b 0=>(M (.b 0)).map λ m=>⟨m.b,m.ver,m.sz,m.cap,mapTy 67⟩|_=>none
def xuo{id:Id}{m:MB}(h:MPl M id=some m):∃m0,id=.b 0/\M (.b 0)=some m0/\m=⟨m0.b,m0.ver,m0.sz,m0.cap,mapTy 67⟩:=by unfold MPl at h;split at h;(cases hm:M (.b 0)with|none=>rw[hm]at h;simp at h|some m0=>rw[hm]at h;simp only[Option.map_some,z6]at h;exact⟨m0,rfl,rfl,h.symm⟩);simp at h
variable {ms:List AV}
def xIz{H:List Box}{i:Nat}{ys:List AV}{k:List UInt8}(h0:H=[⟨0,2,tyP,ms,true,true⟩])(hi:i<ms.length)(hx:ms.getD i .top=.agg [.str k,.list 2 ys]):resolve H 4 (xN5 0 i 1 (.list 2 ys))=some (.list 2 ys):=by
 have hg:getB H (.r 0 i 1)=some ⟨2*ys.length,2,rowTy tyP,ys,true,true⟩:=by(subst h0;have hc:isC tyP:=by kernel_rfl);have h1:=xe5 (H:=[⟨0,2,tyP,ms,true,true⟩]) (n:=0) (i:=i) (j:=1) (bx:=⟨0,2,tyP,ms,true,true⟩) rfl hc xwW rfl hi;rw[h1];show some (xNs _ ((ms.getD i .top).cells.getD 1 .top))=_;rw[hx];rfl
 have q:xM4 H (.r 0 i 1) (2*ys.length)=some ⟨2*ys.length,2,rowTy tyP,ys,true,true⟩:=by unfold xM4;rw[hg];simp[xaV xCW]
 have J:rowsOk ⟨2*ys.length,2,rowTy tyP,ys,true,true⟩ ys:=by unfold rowsOk;rw[xCW]
 unfold xN5 resolve;simp[AV.pure,rowLen,q,mapE,J]
def HR.plain(h:HR w A M B [⟨0,2,tyP,ms,true,true⟩])(aa:∀i,i<ms.length->∃k ys,ms.getD i .top=.agg [.str k,.list 2 ys]):HR w A (MPl M) B [plainP ms]:=by
 refine⟨λ id m hm=>?_,λ id id' m m' h1 h2 _ _ _=>?_,h.lt⟩;obtain⟨m0,rfl,V,rfl⟩:=xuo hm;obtain⟨bx,hb,q⟩:=h.box _ _ V;obtain rfl:(⟨0,2,tyP,ms,true,true⟩:Box)=bx:=by simpa[getB]using hb
 have hsz:m0.sz=2:=q.sz.symm;have ad:m0.ty=tyP:=q.ty.symm;have Y:∀(id:Id)(m:MB),id.base=0->M id=some m->0<m.cap->¬ A m.b:=λ id m hi hm h0 hA=>by(obtain⟨b2,W,O⟩:=h.box _ _ hm;have ab:b2.frz:=by cases id with|b n=>(have hn:n=0:=hi;subst hn;have e:(⟨0,2,tyP,ms,true,true⟩:Box)=b2:=by simpa[getB]using W);rw[<-e]|r n i j=>(have hn:n=0:=hi;subst hn;have hc:isC tyP:=by kernel_rfl);have h1:=xhG (H:=[⟨0,2,tyP,ms,true,true⟩]) (bx:=⟨0,2,tyP,ms,true,true⟩) rfl hc W;rw[h1.2.2.2,xsZ]);have:=(O.guard h0).2 hA;rw[ab]at this;simp at this
 refine⟨plainP ms,rfl,q.ver,q.sz,xIu,q.capm,q.fits,q.ok,q.low,q.lt,λ h0=>?_,λ h0=>⟨λ h=>Bool.noConfusion h,λ hA=>absurd hA (Y (.b 0) m0 rfl V h0)⟩⟩;obtain⟨c,c1,c2,c3⟩:=q.cells h0;refine⟨c,?_,c2,λ i j hi hj=>?_⟩;unfold HoldsC at c1|-;rw[ad,xCV]at c1;dsimp only;rw[xCG];exact c1;have hi:i<ms.length:=hi;have h3:=c3 i j hi hj;have hj:j<m0.sz:=hj;obtain⟨k,ys,hx⟩:=aa i hi;have hp:(plainP ms).ty=mapTy 67:=rfl;show Rel w A (MV (MPl M) (plainP ms) j) (c.getD (i*m0.sz+j) undef) (xNp 0 i j (plainP ms).ty (((plainP ms).xs.getD i .top).cells.getD j .top));have Z:(plainP ms).xs.getD i .top=.agg [.str k,.list 2 ys]:=hx;rw[Z];have h3:Rel w A (MV M ⟨0,2,tyP,ms,true,true⟩ j) (c.getD (i*m0.sz+j) undef) (xNp 0 i j tyP ((ms.getD i .top).cells.getD j .top)):=h3;rw[hx]at h3;generalize c.getD (i*m0.sz+j) undef=v at h3;rcases j with _|_|j;unfold xNp MV at h3|-;rw[show xM2 (⟨0,2,tyP,ms,true,true⟩:Box).ty 0=false from xF1]at h3;rw[hp,xKo];try rw[xF1]at h3
 exact h3;unfold xNp MV at h3|-;rw[show xM2 (⟨0,2,tyP,ms,true,true⟩:Box).ty 1=true from xwW]at h3;rw[hp,xKp];try rw[xwW]at h3
 have h3:Rel w A M v (xN5 0 i 1 (.list 2 ys)):=h3;exact xdS h (A':=A) (λ _ _ h=>h) 4 v _ _ h3 (xIz rfl hi hx) λ id J m hm h0=>by(have hb:id.base=0:=by have J:id.base∈reach [⟨0,2,tyP,ms,true,true⟩] 4 (.osl (.r 0 i 1) (2*ys.length) 0 ys.length):=J;unfold reach at J;simp only[AV.pure,zT,if_false,zC]at J;rcases J with h|h;exact h;split at h;rename_i bx hb;split at h;simp at h;rename_i ac;have:=xo8 hb;exact absurd this ac;simp at h);exact Y id m hb hm h0
 omega;obtain⟨_,rfl,_⟩:=xuo h1;obtain⟨_,rfl,_⟩:=xuo h2;rfl
end
def xJ0(rows ms:List AV):normS 0 [] [4,5] ⟨mkTs 45 ([4,5].zip [.own 0 0 0 0,.list 1 rows]),[contB ms,⟨0,1,47,rows,true,true⟩]⟩=some ([.own 0 0 0 0,.list 1 rows],[contB ms]):=Θ
def xJx(rows:List AV):mkTs (mkTs 45 ([4,5].zip [AV.own 0 0 0 0,.list 1 rows])).length ([4,5].zip [.own 0 0 0 0,.list 1 rows])=mkTs 45 ([4,5].zip [.own 0 0 0 0,.list 1 rows]):=Θ
def xE1(rows:List AV)(n:Nat):(mkTs 45 ([4,5].zip [AV.own 0 0 0 0,.osl 1 0 0 n])).getD 5 .top=.osl (.b 1) 0 0 n:=Θ
def xJ1(rows:List AV)(n:Nat):(mkTs 45 ([4,5].zip [AV.own 0 0 0 0,.osl 1 0 0 n])).set 5 (.list 1 rows)=mkTs 45 ([4,5].zip [.own 0 0 0 0,.list 1 rows]):=Θ
def xJZ(rows ms:List AV)(n:Nat):freeze [contB ms,boxW rows] (reach [contB ms,boxW rows] xNl (.osl (.b 1) 0 0 n))=[contB ms,⟨0,1,47,rows,true,true⟩]:=Θ
def endW(rows ms:List AV):Weak 0 ⟨mkTs 45 ([4,5].zip [.own 0 0 0 0,.osl 1 0 0 rows.length]),[contB ms,boxW rows]⟩ ⟨mkTs 45 ([4,5].zip [.own 0 0 0 0,.list 1 rows]),[contB ms]⟩:=by(have h1:resolve [contB ms,boxW rows] xNl ((mkTs 45 ([4,5].zip [AV.own 0 0 0 0,.osl 1 0 0 rows.length])).getD 5 .top)=some (.list 1 rows):=by rw[xE1 rows];exact xym rfl rfl);have h2:=xr9 (p:=0) h1;rw[xE1 rows,xJZ,xJ1]at h2;have h3:=xhY (xJ0 rows ms);rw[xJx]at h3;exact h2.trans h3
def pRes(rows:List AV)(H:List Box):resAllM Tryz.prog ⟨mkTs 45 ([4,5].zip [.own 0 0 0 0,.list 1 rows]),H⟩ Tryz.f60.results.toList=some [.own 0 0 0 0,.list 1 rows]:=Θ
def pNt:Tryz.f60.ntmps=45:=Θ
def pBody:Tryz.f60.body=some pB:=Θ
def pEnters:Enters Tryz.prog 60:=⟨_,Tryz.func60,by kernel_rfl,by kernel_rfl⟩
def xGU{l rows:List AV}{pv:AV}(h:Does Tryz.prog (xNJ.at 0) pB (λ e s=>e=.ret/\s=⟨mkTs 45 ([4,5].zip [.own 0 0 0 0,.list 1 rows]),[contB (es.map encEn)]⟩) ⟨[.list 3 l,pv]++List.replicate 43 (.tuple []),[]⟩):GoodM Tryz.prog xNJ 60 [.list 3 l,pv] [] (.tuple [.own (.b 0) 0 0 0,.list 1 rows]) [plainP (es.map encEn)]:=by
 refine⟨pEnters,λ w0 w A M vs hI V hR O=>?_⟩;refine callsIn_wide.1 (callsIn_of_wp_marks (F:=Fence.wide) (n:=0) Tryz.func60 pBody trivial ?_);refine h w0 ⟨A,w,A,M,0,λ _=>False⟩ w A M _ _ hI (zd 0) ⟨V,λ _ _=>Iff.rfl,?_,λ t ht=>?_,hR,DefOk.nil,Ev.refl (C:=⟨A,w,A,M,0,λ _=>False⟩)⟩ ?_ none (λ _=>rfl);rw[pNt];have:=O.1;simp at this|-;omega;have hl:vs.length=2:=O.1;rw[pNt];show Rel w A M _ (([.list 3 l,pv]++List.replicate 43 (.tuple []):List AV).getD t .top);by_cases W:t<2;have e1:(vs.toArray++Array.replicate (45 - vs.toArray.size) undef).getD t undef=vs.getD t undef:=by(have:t<vs.length:=Ω);simp[z7,Array.getElem?_append,this]
 rw[e1,xsF W];exact O.2 t W;have ht:t<45:=by simpa using ht
 have h1:¬ t<vs.length:=Ω
 have e1:(vs.toArray++Array.replicate (45 - vs.toArray.size) undef).getD t undef=undef:=by(have h2:t - vs.length<45 - vs.length:=Ω);simp[Array.getElem?_append,h1,h2]
 rw[e1,xsG W (show t - 2<43 by omega)];exact .tuple #[] [] rfl Ψ;rintro e s' a' w' ⟨rfl,rfl⟩ ⟨A',M',Y⟩;show LeavesInM Fence.wide 0 Tryz.prog Tryz.f60 a'.tmps _ a'.defers .returning w';obtain ⟨A1,ab,_⟩:=Y.refreeze (H:=[⟨0,2,tyP,es.map encEn,true,true⟩]) (by
  have h1:=HSub.freeze [contB (es.map encEn)] [0];exact h1)
 refine xpl (λ _ h=>h) ab λ w2 q=>?_;obtain⟨v,hv,J⟩:=xob (P:=Tryz.prog) q (pRes rows _);refine⟨v,hv,v,A1,MPl M',rfl,q.base,q.outer,⟨q.ev.size,q.ev.keep,q.ev.less,q.ev.more,λ id m h=>absurd h (Nat.not_lt_zero _),λ id m h h0=>?_⟩,HR.plain q.heap λ i hi=>?_,?_⟩;obtain⟨m0,rfl,aa,rfl⟩:=xuo h;exact q.ev.src (.b 0) m0 aa h0;have hi:i<es.length:=by simpa using hi
 exact⟨(es.getD i default).1,(es.getD i default).2,by simp[encEn,z7,hi]⟩;have J:Rel w2 A1 M' v (.tuple [.own (.b 0) 0 0 0,.list 1 rows]):=J;obtain⟨us,rfl,hsz,ad⟩:=J.tuple_inv;refine .tuple us _ hsz λ i hi=>?_;have h1:=ad i hi;rcases i with _|_|i;have h1:Rel w2 A1 M' (us.getD 0 undef) (.own (.b 0) 0 0 0):=h1;show Rel w2 A1 (MPl M') (us.getD 0 undef) (.own (.b 0) 0 0 0);generalize us.getD 0 undef=u at h1;cases h1 with|own v id ver i j m hm hle h1 he=>(obtain⟨bx,hb,Z⟩:=q.heap.box _ _ hm;obtain rfl:(⟨0,2,tyP,es.map encEn,true,true⟩:Box)=bx:=by simpa[getB]using hb);have ac:m.ty=tyP:=Z.ty.symm;refine .own _ _ 0 0 0 ⟨m.b,m.ver,m.sz,m.cap,mapTy 67⟩ (by unfold MPl;rw[hm];rfl) hle h1 λ h=>?_;rw[he h];unfold ptrOf;rw[ac,xCV];dsimp only;rw[xCG]
 have h1:Rel w2 A1 M' (us.getD 1 undef) (.list 1 rows):=h1;exact h1.pure rfl;simp at hi;omega
end Go.Sim.M
end
noncomputable section
set_option maxRecDepth 100000
namespace Go.Sim.M
open Go.RowKit Go.Proofs
noncomputable def ptQ(q:Option Int)(row:List AV):List AV:=match q with|none=>xtO row|some nn=>(xiA row nn).getD []
noncomputable def okQ(q:Option Int)(row:List AV):Bool:=match q with|none=>true|some nn=>(xiA row nn).isSome
noncomputable def kyQ(q:Option Int)(row:List AV):List UInt8:=(xaG (ptQ q row)).getD []
noncomputable def foQ(q:Option Int)(f:AV):Bool:=(f.cells.length==3&&xM6 [.list 3,.int .i64,.int .i64] f.cells 0)&&(okQ q (rowF f)&&((xaG (ptQ q (rowF f))).isSome&&decide ((kyQ q (rowF f)).length<=4611686018427387904)))
noncomputable def pvQ(q:Option Int):AV:=match q with|none=>.func 58 []|some nn=>.func 59 [.func 1099511627776 [.int .i64 nn]]
noncomputable def vQA(q:Option Int)(l:List AV)(rn:Nat)(i:Int):List AV:=[pvQ q,.own 0 0 0 0,.osl 1 0 0 rn,.list 3 l,.int .i64 l.length,.int .i64 i]
def xQ4(q:Option Int)(l ms rows:List AV)(rn:Nat)(i:Int):XC Tryz.prog EPr lvPA (16::lvPA) (.region 4 (pO 4) false) (vQA q l rn i) [contB ms,boxW rows]=some (LR.leaf .normal (.bool (decide (i<(l.length:Int)))::vQA q l rn i) [contB ms,boxW rows]).eval:=by cases q<;>kernel_rfl
noncomputable def vQ5(q:Option Int)(l:List AV)(rn:Nat)(i:Int):List AV:=[pvQ q,.own 0 0 0 0,.osl 1 0 0 rn,.own 2 0 0 0,.list 3 l,.int .i64 l.length,.int .i64 i]
def xQ5(q:Option Int)(l ms rows:List AV)(rn:Nat)(i:Int):XC Tryz.prog EPr (16::lvPA) [1,6,7,9,13,14,15] (.region 5 (pO 5) false) (.bool true::vQA q l rn i) [contB ms,boxW rows] =br (decide ((0:Int)<=i)&&decide (i<(l.length:Int))) (br (decide (i.toNat<l.length)&&((l.getD i.toNat .top).cells.length==3&&xM6 [.list 3,.int .i64,.int .i64] (l.getD i.toNat .top).cells 0)) (some (LR.leaf .normal (vQ5 q l rn i) [contB ms,boxW rows,f9 ((l.getD i.toNat .top).cells.getD 0 .top).toList ((l.getD i.toNat .top).cells.getD 1 .top).toInt ((l.getD i.toNat .top).cells.getD 2 .top).toInt]).eval) none) none:=by cases q<;>kernel_rfl
noncomputable def vQ6(q:Option Int)(l:List AV)(rn:Nat)(i:Int)(row:List AV):List AV:=[pvQ q,.own 0 0 0 0,.osl 1 0 0 rn,.own 2 0 0 0,.list 3 row,.list 3 l,.int .i64 l.length,.int .i64 i]
def xQ6(q:Option Int)(l ms rows:List AV)(rn:Nat)(i:Int)(fr:List AV)(ff ft:Int):XC Tryz.prog EPr [1,6,7,9,13,14,15] [1,6,7,9,10,13,14,15] (.region 6 (pO 6) false) (vQ5 q l rn i) [contB ms,boxW rows,f9 fr ff ft] =br (okQ q fr) (some (LR.leaf .normal (vQ6 q l rn i (ptQ q fr)) [contB ms,boxW rows,f9 fr ff ft]).eval) none:=by cases q<;>kernel_rfl
noncomputable def vQ7(q:Option Int)(l:List AV)(rn:Nat)(i:Int)(row:List AV)(k:List UInt8):List AV:=[pvQ q,.own 0 0 0 0,.osl 1 0 0 rn,.own 2 0 0 0,.list 3 row,.str k,.list 3 l,.int .i64 l.length,.int .i64 i]
def xQ7(q:Option Int)(l ms rows:List AV)(rn:Nat)(i:Int)(fr row:List AV)(ff ft:Int):XC Tryz.prog EPr [1,6,7,9,10,13,14,15] lvPU (.region 7 (pO 7) false) (vQ6 q l rn i row) [contB ms,boxW rows,f9 fr ff ft] =br (xaG row).isSome (some (LR.leaf .normal (vQ7 q l rn i row ((xaG row).getD [])) [contB ms,boxW rows,f9 fr ff ft]).eval) none:=by cases q<;>kernel_rfl
noncomputable def uQ(q:Option Int)(l:List AV)(rn:Nat)(i:Int)(row:List AV)(k:List UInt8):List AV:=mkTs 45 (lvPU.zip (vQ7 q l rn i row k))
noncomputable def uQ8(q:Option Int)(l:List AV)(rn:Nat)(i:Int)(row:List AV)(k:List UInt8)(x:AV):List AV:=(((uQ q l rn i row k).set 25 (.own 0 0 0 0)).set 26 (.str k)).set 27 x
def xQ8(q:Option Int)(l ms rows:List AV)(rn:Nat)(i:Int)(fr row:List AV)(ff ft:Int)(k:List UInt8):xOps Tryz.prog EPr none (some true) (pO 8) ((pO 8).toList.take 3) ⟨uQ q l rn i row k,[contB ms,boxW rows,f9 fr ff ft]⟩ some =br (decide (k.length<=(4611686018427387904:Nat))) (br (xNv ms k) (br (xNH (2:Nat) ((ms.getD (putIx ms k) AV.top).cells.getD (1:Nat) AV.top)) (some ⟨uQ8 q l rn i row k (.osl (.r 0 (putIx ms k) 1) (2*((ms.getD (putIx ms k) AV.top).cells.getD (1:Nat) AV.top).toList.length) 0 ((ms.getD (putIx ms k) AV.top).cells.getD (1:Nat) AV.top).toList.length),[contB ms,boxW rows,f9 fr ff ft]⟩) none) (some ⟨uQ8 q l rn i row k .nils,[contB ms,boxW rows,f9 fr ff ft]⟩)) none:=by cases q<;>kernel_rfl
def eQ27(q:Option Int)(l:List AV)(rn:Nat)(i:Int)(row:List AV)(k:List UInt8)(x:AV)(H:List Box):St.eval ⟨uQ8 q l rn i row k x,H⟩ (.tmp 27)=x:=by cases q<;>kernel_rfl
def eQ28(q:Option Int)(l:List AV)(rn:Nat)(i:Int)(row:List AV)(k:List UInt8)(x:AV)(b:Bool)(H:List Box):St.eval ⟨(uQ8 q l rn i row k x).set 28 (.bool b),H⟩ (.tmp 28)=.bool b:=by cases q<;>kernel_rfl
def kQ28(q:Option Int)(l:List AV)(rn:Nat)(i:Int)(row:List AV)(k:List UInt8)(x:AV)(b:Bool)(H:List Box):keepS lvPU ⟨(uQ8 q l rn i row k x).set 28 (.bool b),H⟩=⟨uQ q l rn i row k,H⟩:=by cases q<;>kernel_rfl
def xQ9(q:Option Int)(l ms rows:List AV)(rn:Nat)(i:Int)(fr row:List AV)(ff ft:Int)(k:List UInt8):XC Tryz.prog EPr lvPU lvPU (.region 9 (pO 9) false) (vQ7 q l rn i row k) [contB ms,boxW rows,f9 fr ff ft] =br (rn==rows.length&&(decide ((rn+(1:Nat))*(24:Nat)<=(140737488355328:Nat))&&decide (rn+(1:Nat)<=(4611686018427387904:Nat)))) (some (LR.leaf .normal (vQ7 q l (rn+1) i row k) [contB ms,boxW (rows++[.list 3 row]),f9 fr ff ft]).eval) none:=by cases q<;>kernel_rfl
def xQ10(q:Option Int)(l ms rows:List AV)(rn:Nat)(i:Int)(fr row:List AV)(ff ft:Int)(k:List UInt8):XC Tryz.prog EPr lvPU lvPA (.region 10 (pO 10) false) (vQ7 q l rn i row k) [contB ms,boxW rows,f9 fr ff ft] =br (decide (k.length<=(4611686018427387904:Nat))) (br (xNv ms k) (br (xNH (2:Nat) ((ms.getD (putIx ms k) AV.top).cells.getD (1:Nat) AV.top)) (br (decide (putIx ms k<ms.length)&&(xNH (2:Nat) ((ms.getD (putIx ms k) AV.top).cells.getD (1:Nat) AV.top)&&((ms.getD (putIx ms k) AV.top).cells.length==(2:Nat)&&((2:Nat)*((ms.getD (putIx ms k) AV.top).cells.getD (1:Nat) AV.top).toList.length==(2:Nat)*((ms.getD (putIx ms k) AV.top).cells.getD (1:Nat) AV.top).toList.length&&(((ms.getD (putIx ms k) AV.top).cells.getD (1:Nat) AV.top).toList.length==((ms.getD (putIx ms k) AV.top).cells.getD (1:Nat) AV.top).toList.length&&(((ms.getD (putIx ms k) AV.top).cells.getD (1:Nat) AV.top).toList.length==((ms.getD (putIx ms k) AV.top).cells.getD (1:Nat) AV.top).toList.length&&(decide ((((ms.getD (putIx ms k) AV.top).cells.getD (1:Nat) AV.top).toList.length+(1:Nat))*(16:Nat)<=(140737488355328:Nat))&&decide (((ms.getD (putIx ms k) AV.top).cells.getD (1:Nat) AV.top).toList.length+(1:Nat)<=(4611686018427387904:Nat))))))))) (br (((ms.getD (putIx ms k) AV.top).cells.getD (1:Nat) AV.top).toList.length+(1:Nat)==(((ms.getD (putIx ms k) AV.top).cells.getD (1:Nat) AV.top).toList++[AV.agg [AV.int IntKind.i64 ff,AV.int IntKind.i64 ft]]).length&&(decide ((ms.set (putIx ms k) (AV.agg (List.take (1:Nat) (ms.getD (putIx ms k) AV.top).cells++[AV.int IntKind.i64 (↑((ms.getD (putIx ms k) AV.top).cells.getD (1:Nat) AV.top).toList.length:Int)]++List.drop (2:Nat) (ms.getD (putIx ms k) AV.top).cells))).length<(4611686018427387904:Nat))&&(decide (k.length<=(4611686018427387904:Nat))&&deadR (ms.set (putIx ms k) (AV.agg (List.take (1:Nat) (ms.getD (putIx ms k) AV.top).cells++[AV.int IntKind.i64 (↑((ms.getD (putIx ms k) AV.top).cells.getD (1:Nat) AV.top).toList.length:Int)]++List.drop (2:Nat) (ms.getD (putIx ms k) AV.top).cells))) k (((ms.getD (putIx ms k) AV.top).cells.getD (1:Nat) AV.top).toList.length+(1:Nat))))) (some (LR.leaf .normal (vQA q l rn i) [contB (xNh (ms.set (putIx ms k) (AV.agg (List.take (1:Nat) (ms.getD (putIx ms k) AV.top).cells++[AV.int IntKind.i64 (↑((ms.getD (putIx ms k) AV.top).cells.getD (1:Nat) AV.top).toList.length:Int)]++List.drop (2:Nat) (ms.getD (putIx ms k) AV.top).cells))) k (AV.list (2:Nat) (((ms.getD (putIx ms k) AV.top).cells.getD (1:Nat) AV.top).toList++[AV.agg [AV.int IntKind.i64 ff,AV.int IntKind.i64 ft]]))),boxW rows]).eval) none) none) none) (br (decide (ms.length<(4611686018427387904:Nat))&&(decide (k.length<=(4611686018427387904:Nat))&&deadR ms k (1:Nat))) (some (LR.leaf .normal (vQA q l rn i) [contB (xNh ms k (AV.list (2:Nat) [AV.agg [AV.int IntKind.i64 ff,AV.int IntKind.i64 ft]])),boxW rows]).eval) none)) none:=by cases q<;>kernel_rfl
def xQ11(q:Option Int)(l ms rows:List AV)(rn:Nat)(i:Int):XC Tryz.prog EPr lvPA lvPA (.region 11 (pO 11) false) (vQA q l rn i) [contB ms,boxW rows]=some (LR.leaf .normal (vQA q l rn (IntKind.i64.wrap (i+1))) [contB ms,boxW rows]).eval:=by cases q<;>kernel_rfl
noncomputable def sqQ (q:Option Int) (s:List En×List AV) (f:AV):List En×List AV:=(addE s.1 (kyQ q (rowF f)) (perA f),match ixE s.1 (kyQ q (rowF f)) with|none=>s.2++[.list 3 (ptQ q (rowF f))]|some _=>s.2)
noncomputable def fqQ(q:Option Int)(l:List AV):List En×List AV:=l.foldl (sqQ q) ([],[])
def c16Q(q:Option Int)(l:List AV)(rn:Nat)(i:Int)(b:Bool)(H:List Box):St.eval ⟨mkTs 45 ((16::lvPA).zip (.bool b::vQA q l rn i)),H⟩ (.tmp 16)=.bool b:=by cases q<;>kernel_rfl
section
variable{Q:Exit->St->Prop}
set_option maxHeartbeats 1000000 in
def turnQ(q:Option Int){l:List AV}{i:Nat}(hi:i<l.length)(hl:l.length<2147483648)(hf:foQ q (l.getD i .top)=true){es:List En}{rows:List AV}(he:es.length<=i)(hr:rows.length<=i)(hp:∀e,e∈es->e.2≠[]/\e.2.length<=i)(hq:Q .normal ⟨mkTs 45 (lvPA.zip (vQA q l (sqQ q (es,rows) (l.getD i .top)).2.length ((i+1:Nat):Int))),[contB ((sqQ q (es,rows) (l.getD i .top)).1.map encEn),boxW (sqQ q (es,rows) (l.getD i .top)).2]⟩):Does Tryz.prog (xNJ.at 0) (.seq (.block 1 (.seq (.region 5 (pO 5) false) (.seq (.region 6 (pO 6) false) (.seq (.region 7 (pO 7) false) (.seq (.seq (.region 8 (pO 8) false) (.cond (.tmp 28) (.region 9 (pO 9) false) .skip)) (.region 10 (pO 10) false)))))) (.region 11 (pO 11) false)) Q ⟨mkTs 45 ((16::lvPA).zip (.bool true::vQA q l rows.length (i:Int))),[contB (es.map encEn),boxW rows]⟩:=by
 unfold foQ at hf;simp only[zf,zl]at hf;obtain⟨⟨an,ao⟩,ah,Z,ab⟩:=hf;have ai:((l.getD i .top).cells.length==3&&xM6 [.list 3,.int .i64,.int .i64] (l.getD i .top).cells 0)=true:=by rw[zf];exact⟨an,ao⟩
 obtain⟨f,ak⟩:∃f,f=l.getD i .top:=⟨_,rfl⟩;rw[<-ak]at ai ah Z ab hq;have ae:(xaG (ptQ q (rowF f))).getD []=kyQ q (rowF f):=rfl;obtain⟨k,hk⟩:∃k,k=kyQ q (rowF f):=⟨_,rfl⟩;have aq:IntKind.i64.wrap ((i:Int)+1)=((i+1:Nat):Int):=by rw[xaO (by omega) (by omega)];omega
 have V:∀(ms rs:List AV)(rn:Nat),Q .normal ⟨mkTs 45 (lvPA.zip (vQA q l rn ((i+1:Nat):Int))),[contB ms,boxW rs]⟩->Does Tryz.prog (xNJ.at 0) (.region 11 (pO 11) false) Q ⟨mkTs 45 (lvPA.zip (vQA q l rn (i:Int))),[contB ms,boxW rs]⟩:=λ ms rs rn h=>by have hx:=xQ11 q l ms rs rn (i:Int);rw[aq]at hx;exact xsz hx h
 refine xhM (xuc ?_);have h5:=xQ5 q l (es.map encEn) rows rows.length (i:Int);rw[zN,<-ak,ai]at h5;have c1:(decide ((0:Int)<=i)&&decide ((i:Int)<(l.length:Int)))=true:=by simp[hi]
 have c2:(decide (i<l.length)&&true)=true:=by simp[hi]
 rw [c1,c2] at h5;refine xlE h5 ?_;have h6:=xQ6 q l (es.map encEn) rows rows.length (i:Int) (rowF f) (f.cells.getD 1 .top).toInt (f.cells.getD 2 .top).toInt;rw [ah] at h6;refine xlE h6 ?_;have h7:=xQ7 q l (es.map encEn) rows rows.length (i:Int) (rowF f) (ptQ q (rowF f)) (f.cells.getD 1 .top).toInt (f.cells.getD 2 .top).toInt;rw [Z,ae,<-hk] at h7;refine xlE h7 ?_;rw [<-hk] at ab;have ac:decide (k.length<=(4611686018427387904:Nat))=true:=decide_eq_true ab;have h8:=xQ8 q l (es.map encEn) rows rows.length (i:Int) (rowF f) (ptQ q (rowF f)) (f.cells.getD 1 .top).toInt (f.cells.getD 2 .top).toInt k;have h9:=xQ9 q l (es.map encEn) rows rows.length (i:Int) (rowF f) (ptQ q (rowF f)) (f.cells.getD 1 .top).toInt (f.cells.getD 2 .top).toInt k;rw [ac] at h8;have al:sqQ q (es,rows) f=(addE es k (perA f),match ixE es k with|none=>rows++[.list 3 (ptQ q (rowF f))]|some _=>rows):=by unfold sqQ;rw [<-hk]
 rw[al]at hq;have J:=λ rs rn=>xQ10 q l (es.map encEn) rs rn (i:Int) (rowF f) (ptQ q (rowF f)) (f.cells.getD 1 .top).toInt (f.cells.getD 2 .top).toInt k;have hml:(es.map encEn).length<4611686018427387904:=by rw[za];omega
 cases hj:ixE es k with|none=>((rw[hj]at hq;have O:xNv (es.map encEn) k=false:=by rw[xwk,hj];rfl);rw[O]at h8;obtain⟨s3,p3,e3⟩:=xer orP (K:=some) h8;cases e3;refine xhM (xhM (xFQ (b:=true) ndP8 lP8 p3 oP8 gP8 dP8 (.inl ⟨rfl,eQ27 ..⟩) (xsx (eQ28 ..) (λ _=>?_) (λ h=>by cases h))));(refine xjE (xrM lvPU _) ?_;rw[kQ28];have c9:(rows.length==rows.length&&(decide ((rows.length+(1:Nat))*(24:Nat)<=(140737488355328:Nat))&&decide (rows.length+(1:Nat)<=(4611686018427387904:Nat))))=true:=by simp only[beq_self_eq_true,Bool.true_and,zf,zl];omega);(rw[c9]at h9;refine xsz h9 ?_;have J:=J (rows++[.list 3 (ptQ q (rowF f))]) (rows.length+1);have ad:(decide ((es.map encEn).length<(4611686018427387904:Nat))&&(true&&deadR (es.map encEn) k (1:Nat)))=true:=by rw[xER hj];simp only[Bool.and_self,zS,zl];exact hml);(rw[ac,O,ad,xDB hj]at J;refine xsz J (V _ _ _ ?_);have hn:(rows++[AV.list 3 (ptQ q (rowF f))]).length=rows.length+1:=by simp);rw[<-hn];exact hq)|some j=>
 rw[hj]at hq;have af:=xqN hj;have O:xNv (es.map encEn) k=true:=by rw[xwk,hj];rfl
 have aa:putIx (es.map encEn) k=j:=xDE hj;have Y:=xIi hj;have hkey':(es.getD j default).1=k:=xCq hj;obtain⟨hne,ap⟩:=hp (es.getD j default) (by simp[z7,af]);obtain⟨ys,W⟩:∃ys,ys=(es.getD j default).2:=⟨_,rfl⟩;rw[O,aa,Y,cEn1,toListL,isRowL,<-W]at h8;rw[<-W]at hne ap;have ag:0<ys.length:=List.length_pos_iff.2 hne;obtain⟨s3,p3,e3⟩:=xer orP (K:=some) h8;cases e3;have aj:getB [contB (es.map encEn),boxW rows,f9 (rowF f) (f.cells.getD 1 .top).toInt (f.cells.getD 2 .top).toInt] (.r 0 j 1)=some (xNs (contB (es.map encEn)) (.list 2 ys)):=by(have hc:isC (contB (es.map encEn)).ty=true:=by cases q<;>kernel_rfl);have h1:=xe5 (H:=[contB (es.map encEn),boxW rows,f9 (rowF f) (f.cells.getD 1 .top).toInt (f.cells.getD 2 .top).toInt]) (n:=0) (i:=j) (j:=1) (bx:=contB (es.map encEn)) rfl hc xwW rfl (by show j<(es.map encEn).length;simpa using af);rw[h1];show some (xNs _ (((es.map encEn).getD j .top).cells.getD 1 .top))=_;rw[Y,cEn1,<-W]
 refine xhM (xhM (xFQ (b:=false) ndP8 lP8 p3 oP8 gP8 dP8 (.inr ⟨rfl,.r 0 j 1,ys.length,xNs (contB (es.map encEn)) (.list 2 ys),by rw[eQ27];rfl,ag,aj⟩) (xsx (eQ28 ..) (λ h=>by cases h) (λ _=>xvH ?_))));refine xjE (xrM lvPU _) ?_;rw[kQ28];have J:=J rows rows.length;rw[ac,O,aa,Y,enT1,enD2,cEn1,toListL,isRowL,lEn,hkey',<-W]at J;have e1:([AV.str k]++[AV.int IntKind.i64 (ys.length:Int)]++([]:List AV))=[AV.str k,AV.int IntKind.i64 (ys.length:Int)]:=rfl;rw[e1]at J;have e2:(es.map encEn).set j (.agg [AV.str k,AV.int IntKind.i64 (ys.length:Int)])=(es.map encEn).set j (encDe k (ys.length:Int)):=rfl;rw[e2]at J;have ad:(decide (j<(es.map encEn).length)&&(true&&((2:Nat)==(2:Nat)&&((2:Nat)*ys.length==(2:Nat)*ys.length&&(ys.length==ys.length&&(ys.length==ys.length&&(decide ((ys.length+(1:Nat))*(16:Nat)<=(140737488355328:Nat))&&decide (ys.length+(1:Nat)<=(4611686018427387904:Nat)))))))))=true:=by simp only[beq_self_eq_true,Bool.true_and,zf,zl,za];omega
 rw[ad]at J;have am:(ys.length+(1:Nat)==(ys++[AV.agg [AV.int IntKind.i64 (f.cells.getD 1 .top).toInt,AV.int IntKind.i64 (f.cells.getD 2 .top).toInt]]).length&&(decide (((es.map encEn).set j (encDe k (ys.length:Int))).length<(4611686018427387904:Nat))&&(true&&deadR ((es.map encEn).set j (encDe k (ys.length:Int))) k (ys.length+(1:Nat)))))=true:=by rw[xES hj];simp only[z8,zj,y4,beq_self_eq_true,Bool.true_and,zf,zl];exact⟨hml,trivial⟩
 rw[am,W,xBG hj]at J;exact xsz J (V _ _ _ hq)
end
end Go.Sim.M
end
noncomputable section
set_option maxRecDepth 100000
namespace Go.Sim.M
open Go.RowKit Go.Proofs
def invQ(q:Option Int){es:List En}{rows:List AV}{i:Nat}(f:AV)(he:es.length<=i)(hr:rows.length<=i)(hp:∀e,e∈es->e.2≠[]/\e.2.length<=i):(sqQ q (es,rows) f).1.length<=i+1/\(sqQ q (es,rows) f).2.length<=i+1/\∀e,e∈(sqQ q (es,rows) f).1->e.2≠[]/\e.2.length<=i+1:=by unfold sqQ;dsimp only;generalize kyQ q (rowF f)=k;refine⟨Nat.le_trans (xzU k _ es) Ω,?_,λ e hm=>?_⟩;(cases ixE es k with|none=>simp;omega|some j=>simp;omega);cases hj:ixE es k with|none=>(rw[xtG hj]at hm;rcases zG.1 hm with h|h;have:=hp e h;exact⟨this.1,by omega⟩;simp only[zv]at h;subst h;exact⟨by simp,by simp⟩)|some j=>rw[xtH hj]at hm;have J:=xqN hj;rcases List.mem_or_eq_of_mem_set hm with h|h;have:=hp e h;exact⟨this.1,by omega⟩;subst h;have:=hp (es.getD j default) (by simp[z7,J]);refine⟨by simp,?_⟩;simp only[z8,zj];omega
def xCl(q:Option Int)(l:List AV):∀i,i<=l.length->((l.take i).foldl (sqQ q) ([],[])).1.length<=i/\((l.take i).foldl (sqQ q) ([],[])).2.length<=i/\∀e,e∈((l.take i).foldl (sqQ q) ([],[])).1->e.2≠[]/\e.2.length<=i|0,_=>by simp|i+1,hi=>by obtain⟨h1,h2,h3⟩:=xCl q l i Ω;(have e:l.take (i+1)=l.take i++[l.getD i .top]:=by rw[List.take_add_one,ze Ω];simp[z7,show i<l.length by omega]);rw[e,List.foldl_append];exact invQ q (l.getD i .top) h1 h2 h3
def loopQ(q:Option Int){l:List AV}(hl:l.length<2147483648)(hf:∀i,i<l.length->foQ q (l.getD i .top)):Does Tryz.prog (xNJ.at 0) (.loop lpP) (λ e s=>e=.exit 0/\s=⟨mkTs 45 ((16::lvPA).zip (.bool false::vQA q l (fqQ q l).2.length (l.length:Int))),[contB ((fqQ q l).1.map encEn),boxW (fqQ q l).2]⟩) ⟨mkTs 45 (lvPA.zip (vQA q l 0 ((0:Nat):Int))),[contB [],boxW []]⟩:=by
 refine xyn (xud (λ n s=>∃i,n=l.length - i/\i<=l.length/\s=⟨mkTs 45 (lvPA.zip (vQA q l ((l.take i).foldl (sqQ q) ([],[])).2.length (i:Int))),[contB (((l.take i).foldl (sqQ q) ([],[])).1.map encEn),boxW ((l.take i).foldl (sqQ q) ([],[])).2]⟩) (n0:=l.length) (Weak.refl _ _) ⟨0,by omega,zQ _,rfl⟩ ?_);rintro n s ⟨i,rfl,hi,rfl⟩;obtain⟨h1,h2,h3⟩:=xCl q l i hi;have e:i<l.length->l.take (i+1)=l.take i++[l.getD i .top]:=λ h=>by rw[List.take_add_one,ze h];simp[z7,h]
 obtain⟨st,O⟩:∃st,st=(l.take i).foldl (sqQ q) ([],[]):=⟨_,rfl⟩;rw[<-O]at h1 h2 h3|-;obtain⟨es,rows⟩:=st;unfold lpP;refine xlE (xQ4 q l (es.map encEn) rows rows.length (i:Int)) ?_;refine xhM (xsx (c16Q ..) (λ hb=>xvH ?_) λ hb=>xAX ?_);have J:i<l.length:=by simpa using hb
 show Does Tryz.prog (xNJ.at 0) _ _ _;rw[hb];refine turnQ q J hl (hf i J) h1 h2 h3 ?_;refine⟨l.length - (i+1),_,by omega,Weak.refl _ _,i+1,rfl,J,?_⟩;rw[e J,List.foldl_append,<-O];rfl;have Q:i=l.length:=by(have:¬ ((i:Int)<l.length):=by simpa using hb);omega
 show _/\_;subst Q;rw[y6]at O;have V:fqQ q l=(es,rows):=O.symm;rw[hb,V];exact⟨rfl,rfl⟩
def yQa(q:Option Int)(l:List AV):keepS [0,1] ⟨[.list 3 l,pvQ q]++List.replicate 43 (.tuple []),[]⟩=⟨mkTs 45 ([0,1].zip [.list 3 l,pvQ q]),[]⟩:=by cases q<;>kernel_rfl
def yQ0(q:Option Int)(l:List AV):XC Tryz.prog EPr [0,1] [0,1] (.region 0 (pO 0) false) [.list 3 l,pvQ q] []=some (LR.leaf .normal [.list 3 l,pvQ q] []).eval:=by cases q<;>kernel_rfl
def yQ1(q:Option Int)(l:List AV):XC Tryz.prog EPr [0,1] [0,1,6] (.region 1 (pO 1) false) [.list 3 l,pvQ q] []=some (LR.leaf .normal [.list 3 l,pvQ q,.own 0 0 0 0] [contB []]).eval:=by cases q<;>kernel_rfl
def yQ2(q:Option Int)(l:List AV):XC Tryz.prog EPr [0,1,6] [0,1,6,7] (.region 2 (pO 2) false) [.list 3 l,pvQ q,.own 0 0 0 0] [contB []]=some (LR.leaf .normal [.list 3 l,pvQ q,.own 0 0 0 0,.nils] [contB []]).eval:=by cases q<;>kernel_rfl
def yQ3(q:Option Int)(l:List AV):XC Tryz.prog EPr [0,1,6,7] lvPA (.region 3 (pO 3) false) [.list 3 l,pvQ q,.own 0 0 0 0,.nils] [contB []]=some (LR.leaf .normal [pvQ q,.own 0 0 0 0,.nils,.list 3 l,.int .i64 l.length,.int .i64 0] [contB []]).eval:=by cases q<;>kernel_rfl
def yQn(q:Option Int)(l:List AV):normS 0 [(7,1,47)] lvPA ⟨mkTs 45 (lvPA.zip [pvQ q,.own 0 0 0 0,.nils,.list 3 l,.int .i64 l.length,.int .i64 0]),[contB []]⟩=some (vQA q l 0 ((0:Nat):Int),[contB [],boxW []]):=by cases q<;>kernel_rfl
def yQm(q:Option Int)(l:List AV):mkTs (mkTs 45 (lvPA.zip [pvQ q,.own 0 0 0 0,.nils,.list 3 l,.int .i64 l.length,.int .i64 0])).length (lvPA.zip (vQA q l 0 ((0:Nat):Int)))=mkTs 45 (lvPA.zip (vQA q l 0 ((0:Nat):Int))):=by cases q<;>kernel_rfl
def yQ12(q:Option Int)(l ms rows:List AV)(rn:Nat)(i:Int):XC Tryz.prog EPr (16::lvPA) [4,5] (.region 12 (pO 12) false) (.bool false::vQA q l rn i) [contB ms,boxW rows]=some (LR.leaf .normal [.own 0 0 0 0,.osl 1 0 0 rn] [contB ms,boxW rows]).eval:=by cases q<;>kernel_rfl
def bodyQ(q:Option Int){l:List AV}(hl:l.length<2147483648)(hf:∀i,i<l.length->foQ q (l.getD i .top)):Does Tryz.prog (xNJ.at 0) pB (λ e s=>e=.ret/\s=⟨mkTs 45 ([4,5].zip [.own 0 0 0 0,.list 1 (fqQ q l).2]),[contB ((fqQ q l).1.map encEn)]⟩) ⟨[.list 3 l,pvQ q]++List.replicate 43 (.tuple []),[]⟩:=by refine xjE (xrM [0,1] _) ?_;rw[yQa,xLz];refine xlE (yQ0 q l) (xlE (yQ1 q l) (xlE (yQ2 q l) (xhM (xlE (yQ3 q l) ?_))));have hw:=xhY (yQn q l);rw[yQm]at hw;refine xjE hw (xuc (xdj (loopQ q hl hf) λ e s⟨he,hs⟩=>?_));subst he hs;show Does Tryz.prog (xNJ.at 0) _ _ _;refine xlE (yQ12 q l _ _ _ _) (xAY (xCQ ?_));refine⟨_,?_,rfl,rfl⟩;exact endW (fqQ q l).2 ((fqQ q l).1.map encEn)
def xy1(q:Option Int){l:List AV}(hl:l.length<2147483648)(hf:∀i,i<l.length->foQ q (l.getD i .top)):GoodM Tryz.prog xNJ 60 [.list 3 l,pvQ q] [] (.tuple [.own (.b 0) 0 0 0,.list 1 (fqQ q l).2]) [plainP ((fqQ q l).1.map encEn)]:=xGU (bodyQ q hl hf)
noncomputable def xqy(l:List AV):Bool:=decide (l.length<2147483648)&&(List.range l.length).all λ i=>foQ none (l.getD i .top)
noncomputable def xiC(l:List AV):List AV:=(fqQ none l).1.map encEn
noncomputable def xt4(l:List AV):List AV:=(fqQ none l).2
noncomputable def xsh(l:List AV)(n:Int):Bool:=decide (l.length<2147483648)&&(List.range l.length).all λ i=>foQ (some n) (l.getD i .top)
noncomputable def xqX(l:List AV)(n:Int):List AV:=(fqQ (some n) l).1.map encEn
noncomputable def xrz(l:List AV)(n:Int):List AV:=(fqQ (some n) l).2
noncomputable def xFy:List AV->List Box->Option (Bool×AV×List Box):=omOf (xNL (xNx 3 xNO) (xNL (sEq (xNo 58 xNM)) xNN)) xNM λ(l,_) _=>(xqy l,.tuple [.own (.b 0) 0 0 0,.list 1 (xt4 l)],[⟨0,2,mapTy 67,xiC l,true,true⟩])
noncomputable def xFw:List AV->List Box->Option (Bool×AV×List Box):=omOf (xNL (xNx 3 xNO) (xNL (sEq (xNo 59 (xNK (xNo 1099511627776 (xNK (pInt .i64) xNM)) xNM))) xNN)) xNM λ(l,(((n,_),_),_)) _=>(xsh l n,.tuple [.own (.b 0) 0 0 0,.list 1 (xrz l n)],[⟨0,2,mapTy 67,xqX l n,true,true⟩])
def xKn:OmOk Tryz.prog xNJ 60 xFy:=xjb λ b c r H' h=>by obtain⟨l,_,_⟩:=b;obtain⟨h1,h2⟩:=Prod.mk.inj h;obtain⟨rfl,rfl⟩:=Prod.mk.inj h2;simp only[xqy,zf,zl,zI,List.mem_range]at h1;exact xy1 none h1.1 h1.2
def xKm:OmOk Tryz.prog xNJ 60 xFw:=xjb λ b c r H' h=>by obtain⟨l,⟨⟨n,_⟩,_⟩,_⟩:=b;obtain⟨h1,h2⟩:=Prod.mk.inj h;obtain⟨rfl,rfl⟩:=Prod.mk.inj h2;simp only[xsh,zf,zl,zI,List.mem_range]at h1;exact xy1 (some n) h1.1 h1.2
noncomputable def EKPer:Env:=(xvQ.E.withM 60 xFy).withM 60 xFw
def xF7:xM1 Tryz.prog xNJ EKPer:=(xvQ.ok.withM xKn).withM xKm
noncomputable def xF6:EO:=EO.mk EKPer xF7
end Go.Sim.M
end
noncomputable section
set_option maxRecDepth 100000
namespace Go.Sim.M
open Go.IntKind (i64 u64 u8)
open Go.RowKit Go.Proofs
def xm4{T:Type}(a b:LA)(δ:T)(κ:LA×LA->T):T:=br (decide (a.length*8<=140737488355328)&&decide (a.length<=4611686018427387904)) (br ((xi8 b).isSome) (br (decide (0+a.length<=a.length)&&true&&true) (κ (List.take a.length (List.drop 0 a),(xi8 b).getD [])) δ) δ) δ
def xhe(a b:LA):=xm4 a b none some
def xJi:EO:=xF6.f Tryz.func19 11 0 [] [] lk0 (u1 (xN0 (u2 (uL 1) (uL 3)))) (λ((a,b,_),_) _=>xm4 a b) (λ _ p=>AV.agg [AV.list 1 p.1,AV.list 3 p.2]) ([],[])
def xpW{T:Type}(a b d c:LA)(δ:T)(κ:LA×LA->T):T:=br (decide (a.length<=1099511627776)&&(xs3 b c).isSome) (κ (a,(xs3 b c).getD [])) δ
def xa1(a b c d:LA):=xpW a b c d none some
def xJj:EO:=xJi.f Tryz.func13 8 0 [] [] lk0 (u2 (xN0 (u2 (uL 1) (uL 3))) (xN0 (u2 (uL 1) (uL 3)))) (λ((a,b,_),(c,d,_),_) _=>xpW a b c d) (λ _ p=>AV.agg [AV.list 1 p.1,AV.list 3 p.2]) ([],[])
def xox{T:Type}(a b d c:LA)(δ:T)(κ:LA×LA->T):T:=br (decide (a.length<=1099511627776)&&(xs5 b c).isSome) (κ (a,(xs5 b c).getD [])) δ
def xcj(a b c d:LA):=xox a b c d none some
def xJk:EO:=xJj.f Tryz.func15 8 0 [] [] lk0 (u2 (xN0 (u2 (uL 1) (uL 3))) (xN0 (u2 (uL 1) (uL 3)))) (λ((a,b,_),(c,d,_),_) _=>xox a b c d) (λ _ p=>AV.agg [AV.list 1 p.1,AV.list 3 p.2]) ([],[])
def xmc{T:Type}(a b d c:LA)(δ:T)(κ:LA×LA->T):T:=br (decide (a.length<=1099511627776)&&(xs4 b c).isSome) (κ (a,(xs4 b c).getD [])) δ
def xaU(a b c d:LA):=xmc a b c d none some
def xvR:EO:=xJk.f Tryz.func17 8 0 [] [] lk0 (u2 (xN0 (u2 (uL 1) (uL 3))) (xN0 (u2 (uL 1) (uL 3)))) (λ((a,b,_),(c,d,_),_) _=>xmc a b c d) (λ _ p=>AV.agg [AV.list 1 p.1,AV.list 3 p.2]) ([],[])
def xdL(h a:LA)(b:Int):=(xaG ((xlC h (gC a b 0).toList).getD [])).getD []
def xdM(a:LA)(b:Int):=(xaG (gC a b 0).toList).getD []
def xi0{T:Type}(n:Int)(k:LA)(m:Nat)(h o:LA)(p q:Int)(d:LA)(j:Int)(l:LA)(c:Int)(g i b e a f:LA)(δ:T)(κl:(LA×Int×LA×LA×LA×LA×LA×LA)->T)(κr:(LA×LA×LA×LA×LA×LA×LA)->T):T:=br (decide (c<j)) (br (ixI d c) (br (ixS d c (Sh.list 3) 0) (br ((xaG (gC d c 0).toList).isSome) (br (decide ((xdM d c).length<=4611686018427387904)&&(!xNv a (xdM d c) || xNH 2 (xNj AV.nils a (xdM d c)))) (br ((xlC h (gC d c 0).toList).isSome) (br ((xaG ((xlC h (gC d c 0).toList).getD [])).isSome) (br (decide ((xdL h d c).length<=4611686018427387904)&&(!xNv b (xdL h d c) || xNH 2 (xNj AV.nils b (xdL h d c)))) (br ((xgA (lookL a (xdM d c)) (lookL b (xdL h d c))).isSome) (br ((xgA l ((xgA (lookL a (xdM d c)) (lookL b (xdL h d c))).getD [])).isSome) (κl ((xgA l ((xgA (lookL a (xdM d c)) (lookL b (xdL h d c))).getD [])).getD [],i64.wrap (c+1),g,i,b,e,a,f)) δ) δ) δ) δ) δ) δ) δ) δ) δ) (κr (l,g,i,b,e,a,f))
def xd4(n:Int)(e:LA)(f:Nat)(h g:LA)(i j:Int)(k:LA)(m:Int):StT (LA×Int×LA×LA×LA×LA×LA×LA) (LA×LA×LA×LA×LA×LA×LA):=λ(l,o,p,q,b,c,a,d)=>xi0 n e f h g i j k m l o p q b c a d none inL inR
def xfW:=xvR.l 110 0 [10000034,11000005,8000000] [] Tryz.f23 1 lk0 [2,4,5,8,10,12,13,14,16,17,56,57,58,67,68,69] [2,4,5,8,10,12,13,14,16,17,56,57,58] [(14,3,54),(14,3,54)] (xNK (xNX 0 0 0 0) (xNK (xNX 1 0 0 0) (xNK (xNo 1099511627776 (q1 qI)) (xNK (xNX 2 0 0 0) (xNK (xNX 3 0 0 0) (xNK (xNX 4 0 0 0) (q10 (qL 1) (xNW 5 0 0) (qL 3) (qL 2) (qL 1) qI qI (qL 1) qI qI))))))) (q6 (qB 0 2 25 (q1 (xNY (q2 (qL 1) (qL 3))))) (qB 0 2 25 (q1 (xNY (q2 pNils pNils)))) (xNZ 0 2 1208925819614917004623872 true true xNO) (xNZ 0 2 1208925819614917004623872 true true xNO) (xNZ 0 2 1208925819614917004623872 true true xNO) (qB 0 3 54 xNO)) (λ(_,_,(n,_),_,_,_,d,e,h,l,g,i,j,k,m,o,_) (((q,r,_),_),((_,_,_),_),b,c,a,f,_)=>(xd4 n d e h g i j k m,(l,o,q,r,b,c,a,f),λ p=>(.leaf (.exit 2) [AV.own 0 0 0 0,AV.own 1 0 0 0,AV.func 1099511627776 [AV.int .i64 n],AV.own 2 0 0 0,AV.own 3 0 0 0,AV.own 4 0 0 0,AV.list 1 d,AV.osl 5 0 0 e,AV.list 3 h,AV.list 2 p.1,AV.list 1 g,AV.int .i64 i,AV.int .i64 j] [bF 0 2 25 [AV.agg [AV.list 1 p.2.1,AV.list 3 p.2.2.1]],bF 0 2 25 [AV.agg [AV.nils,AV.nils]],⟨0,2,1208925819614917004623872,p.2.2.2.1,true,true⟩,⟨0,2,1208925819614917004623872,p.2.2.2.2.1,true,true⟩,⟨0,2,1208925819614917004623872,p.2.2.2.2.2.1,true,true⟩,bF 0 3 54 p.2.2.2.2.2.2]))) ([],[],[],[],[],[],[]) λ(_,_,(n,_),_,_,_,d,e,h,_,g,i,j,k,m,_,_) _ (l,o,q,r,b,c,a,f)=>((((),(),(n,()),(),(),(),d,e,h,l,g,i,j,k,m,o,()),(((q,r,()),()),(((),(),()),()),b,c,a,f,())),xi0 n d e h g i j k m l o q r b c a f none)
def xi1{T:Type}(n:Int)(l h m:LA)(o p:Int)(g:LA)(k:Int)(f:Nat)(e:Int)(i j b c a d:LA)(δ:T)(κl:(Nat×Int×LA×LA×LA×LA×LA×LA)->T)(κr:(Nat×LA×LA×LA×LA×LA×LA)->T):T:=br (decide (e<k)) (br (ixI g e) (br (ixT g e 2 [Sh.int .i64,Sh.int .i64] 0) (br (rmB f d 1 40) (κl (f+1,i64.wrap (e+1),i,j,b,c,a,d++[AV.agg [AV.list 3 h,AV.int .i64 (gC g e 0).toInt,AV.int .i64 (gC g e 1).toInt]])) δ) δ) δ) (κr (f,i,j,b,c,a,d))
def xd5(n:Int)(e h g:LA)(i j:Int)(k:LA)(l:Int):StT (Nat×Int×LA×LA×LA×LA×LA×LA) (Nat×LA×LA×LA×LA×LA×LA):=λ(f,m,o,p,b,c,a,d)=>xi1 n e h g i j k l f m o p b c a d none inL inR
def xia:=xvR.l 110 0 [10000034,11000005,8000000] [(13,xfW.lp)] Tryz.f23 2 lk0 [2,4,5,8,10,12,13,14,16,56,57,58,87,88,89] [2,4,5,8,10,12,13,14,56,57,58] [(14,3,54),(14,3,54)] (xNK (xNX 0 0 0 0) (xNK (xNX 1 0 0 0) (xNK (xNo 1099511627776 (q1 qI)) (xNK (xNX 2 0 0 0) (xNK (xNX 3 0 0 0) (q10 (xNX 4 0 0 0) (qL 1) (xNW 5 0 0) (qL 3) (qL 1) qI qI (qL 2) qI qI)))))) (q6 (qB 0 2 25 (q1 (xNY (q2 (qL 1) (qL 3))))) (qB 0 2 25 (q1 (xNY (q2 pNils pNils)))) (xNZ 0 2 1208925819614917004623872 true true xNO) (xNZ 0 2 1208925819614917004623872 true true xNO) (xNZ 0 2 1208925819614917004623872 true true xNO) (qB 0 3 54 xNO)) (λ(_,_,(n,_),_,_,_,d,f,h,g,i,j,k,m,o,_) (((q,r,_),_),((_,_,_),_),b,c,a,e,_)=>(xd5 n d h g i j k m,(f,o,q,r,b,c,a,e),λ p=>(.leaf (.exit 4) [AV.own 0 0 0 0,AV.own 1 0 0 0,AV.func 1099511627776 [AV.int .i64 n],AV.own 2 0 0 0,AV.own 3 0 0 0,AV.own 4 0 0 0,AV.list 1 d,AV.osl 5 0 0 p.1,AV.list 1 g,AV.int .i64 i,AV.int .i64 j] [bF 0 2 25 [AV.agg [AV.list 1 p.2.1,AV.list 3 p.2.2.1]],bF 0 2 25 [AV.agg [AV.nils,AV.nils]],⟨0,2,1208925819614917004623872,p.2.2.2.1,true,true⟩,⟨0,2,1208925819614917004623872,p.2.2.2.2.1,true,true⟩,⟨0,2,1208925819614917004623872,p.2.2.2.2.2.1,true,true⟩,bF 0 3 54 p.2.2.2.2.2.2]))) (0,[],[],[],[],[],[]) λ(_,_,(n,_),_,_,_,d,_,h,g,i,j,k,m,_,_) _ (f,o,q,r,b,c,a,e)=>((((),(),(n,()),(),(),(),d,f,h,g,i,j,k,m,o,()),(((q,r,()),()),(((),(),()),()),b,c,a,e,())),xi1 n d h g i j k m f o q r b c a e none)
def xeq(a:LA)(b:Int):=(xaG (gC a b 0).toList).getD []
def xbw(n:Int)(b e:LA)(i:Int)(h:Nat)(f:Int)(j k d a c g:LA):=Iter (xd4 n b h (gC e f 0).toList e i f b (↑b.length:Int)) ((xj5 (lookL a (xeq e f))).getD [],0,j,k,d,a,c,g)
def xci(n:Int)(e g:LA)(i:Int)(f:Nat)(h:Int)(j k b c a d:LA):=Iter (xd5 n e (gC g h 0).toList g i h (((xbw n e g i f h j k b c a d).getD ([],[],[],[],[],[],[])).fst) (↑(((xbw n e g i f h j k b c a d).getD ([],[],[],[],[],[],[])).fst).length:Int)) (f,0,(((xbw n e g i f h j k b c a d).getD ([],[],[],[],[],[],[])).snd).fst,((((xbw n e g i f h j k b c a d).getD ([],[],[],[],[],[],[])).snd).snd).fst,(((((xbw n e g i f h j k b c a d).getD ([],[],[],[],[],[],[])).snd).snd).snd).fst,((((((xbw n e g i f h j k b c a d).getD ([],[],[],[],[],[],[])).snd).snd).snd).snd).fst,(((((((xbw n e g i f h j k b c a d).getD ([],[],[],[],[],[],[])).snd).snd).snd).snd).snd).fst,(((((((xbw n e g i f h j k b c a d).getD ([],[],[],[],[],[],[])).snd).snd).snd).snd).snd).snd)
def xix{T:Type}(n:Int)(h g:LA)(i:Int)(f:Nat)(e:Int)(j k c a b d:LA)(δ:T)(κl:(Nat×Int×LA×LA×LA×LA×LA×LA)->T)(κr:(Nat×LA×LA×LA)->T):T:=br (decide (e<i)) (br (ixI g e) (br (ixS g e (Sh.list 3) 0) (br ((xaG (gC g e 0).toList).isSome) (br (decide ((xeq g e).length<=4611686018427387904)&&(!xNv a (xeq g e) || xNH 2 (xNj AV.nils a (xeq g e)))) (br ((xj5 (lookL a (xeq g e))).isSome) (br ((xbw n h g i f e j k c a b d).isSome) (br ((xci n h g i f e j k c a b d).isSome) (κl (((xci n h g i f e j k c a b d).getD (0,[],[],[],[],[],[])).fst,i64.wrap (e+1),(((xci n h g i f e j k c a b d).getD (0,[],[],[],[],[],[])).snd).fst,((((xci n h g i f e j k c a b d).getD (0,[],[],[],[],[],[])).snd).snd).fst,(((((xci n h g i f e j k c a b d).getD (0,[],[],[],[],[],[])).snd).snd).snd).fst,((((((xci n h g i f e j k c a b d).getD (0,[],[],[],[],[],[])).snd).snd).snd).snd).fst,(((((((xci n h g i f e j k c a b d).getD (0,[],[],[],[],[],[])).snd).snd).snd).snd).snd).fst,(((((((xci n h g i f e j k c a b d).getD (0,[],[],[],[],[],[])).snd).snd).snd).snd).snd).snd)) δ) δ) δ) δ) δ) δ) δ) (κr (f,j,k,d))
def xd3(n:Int)(e g:LA)(h:Int):StT (Nat×Int×LA×LA×LA×LA×LA×LA) (Nat×LA×LA×LA):=λ(f,i,j,k,b,c,a,d)=>xix n e g h f i j k b c a d none inL inR
def xpz:=xvR.l 110 0 [10000034,11000005,8000000] [(13,xfW.lp),(18,xia.lp)] Tryz.f23 0 (lks (lkC xfW.ok (lkC xia.ok lkN))) [2,4,5,8,10,12,13,14,56,57,58] [2,4,5,14] [(14,3,54),(14,3,54)] (xNK (xNX 0 0 0 0) (q10 (xNX 1 0 0 0) (xNo 1099511627776 (q1 qI)) (xNX 2 0 0 0) (xNX 3 0 0 0) (xNX 4 0 0 0) (qL 1) (xNW 5 0 0) (qL 1) qI qI)) (q6 (qB 0 2 25 (q1 (xNY (q2 (qL 1) (qL 3))))) (qB 0 2 25 (q1 (xNY (q2 pNils pNils)))) (xNZ 0 2 1208925819614917004623872 true true xNO) (xNZ 0 2 1208925819614917004623872 true true xNO) (xNZ 0 2 1208925819614917004623872 true true xNO) (qB 0 3 54 xNO)) (λ(_,_,(n,_),_,_,_,e,f,g,h,i,_) (((j,k,_),_),((_,_,_),_),b,c,a,d,_)=>(xd3 n e g h,(f,i,j,k,b,c,a,d),λ p=>(.leaf (.exit 0) [AV.own 0 0 0 0,AV.own 1 0 0 0,AV.func 1099511627776 [AV.int .i64 n],AV.osl 2 0 0 p.1] [bF 0 2 25 [AV.agg [AV.list 1 p.2.1,AV.list 3 p.2.2.1]],bF 0 2 25 [AV.agg [AV.nils,AV.nils]],bF 0 3 54 p.2.2.2]))) (0,[],[],[]) λ(_,_,(n,_),_,_,_,e,_,g,h,_,_) _ (f,i,j,k,b,c,a,d)=>((((),(),(n,()),(),(),(),e,f,g,h,i,()),(((j,k,()),()),(((),(),()),()),b,c,a,d,())),xix n e g h f i j k b c a d none)
def xjR(a b:LA):Int:=if i64.wrap ((↑a.length:Int) - (↑b.length:Int))<(↑a.length:Int)then i64.wrap ((↑a.length:Int) - (↑b.length:Int))else(↑a.length:Int)
def xcL(a b:LA):Int:=if xjR a b>0 then xjR a b else 0
def xjQ(a b c d:LA):=Iter (xd3 (xcL a c) (xt4 d) (xrz b (xcL a c)) (↑(xrz b (xcL a c)).length:Int)) (0,0,a,b,xiC b,xqX b (xcL a c),xiC d,[])
def xfb(a b c d:LA):=(xjQ a b c d).getD (0,[],[],[])
def xod(a b c d:LA):=xi8 (List.take ((xfb a b c d).fst) (List.drop 0 (((xfb a b c d).snd).snd.snd)))
def xkE(a c b d:LA):=List.take ((xcL a b).toNat - 0) (List.drop 0 (((xfb a c b d).snd).fst))
def xib(a b c d:LA):Nat:=0+(xkE a b c d).length
def xoZ{T:Type}(a c b d:LA)(δ:T)(κ:LA×LA->T):T:=br (xqy c) (br (xsh c (xcL a b)) (br (xqy d) (br ((xjQ a c b d).isSome) (br (decide (0<=xcL a b)&&decide (xcL a b<=(↑(((xfb a c b d).snd).fst).length:Int))&&true) (br (decide (xib a c b d*8<=140737488355328)&&decide (xib a c b d<=4611686018427387904)) (br (decide (0+((xfb a c b d).fst)<=(((xfb a c b d).snd).snd.snd).length)&&true) (br ((xod a c b d).isSome) (br (decide (0+xib a c b d<=([]++xkE a c b d).length)&&true&&true) (κ (List.take (xib a c b d) (List.drop 0 ([]++xkE a c b d)),(xod a c b d).getD [])) δ) δ) δ) δ) δ) δ) δ) δ) δ
def xoc(a b c d:LA):=xoZ a b c d none some
def xEs:EO:=xvR.f Tryz.func23 110 0 [10000034,11000005,8000000] [(13,xfW.lp),(18,xia.lp),(9,xpz.lp)] (lks (lkC xpz.ok (lkC xfW.ok (lkC xia.ok lkN)))) (u2 (xN0 (u2 (uL 1) (uL 3))) (xN0 (u2 (uL 1) (uL 3)))) (λ((a,b,_),(c,d,_),_) _=>xoZ a b c d) (λ _ p=>AV.agg [AV.list 1 p.1,AV.list 3 p.2]) ([],[])
def xhw{T:Type}(b i:Int)(d:LA)(c:Nat)(a:LA)(δ:T)(κl:(Int×LA×Nat×LA)->T)(κr:(Nat×LA×LA)->T):T:=br (decide (i<b)) (br (rmB c a 1 8) (κl (i64.wrap (i+1),d,c+1,a++[AV.int .i64 1])) δ) (κr (c,d,a))
def xc9(a:Int):StT (Int×LA×Nat×LA) (Nat×LA×LA):=λ(i,c,d,b)=>xhw a i c d b none inL inR
def xnU:=xEs.l 20 0 [] [] Tryz.f40 0 lk0 [0,4,5,6] [4,5] [(5,1,3)] (q4 qI (xNX 0 0 0 0) (xNX 1 0 0 0) qI) (q3 (qB 0 2 25 (q1 (xNY (q2 pNils pNils)))) (xNZ 0 2 25 false false (q1 (xNY (q2 (xNW 2 0 0) (qL 3))))) (qB 0 1 3 xNO)) (λ(a,_,_,i,_) (((_,_,_),_),((c,d,_),_),b,_)=>(xc9 a,(i,d,c,b),λ p=>(.leaf (.exit 0) [AV.own 0 0 0 0,AV.own 1 0 0 0] [bF 0 2 25 [AV.agg [AV.nils,AV.nils]],⟨0,2,25,[AV.agg [AV.osl 2 0 0 p.1,AV.list 3 p.2.1]],false,false⟩,bF 0 1 3 p.2.2]))) (0,[],[]) λ(a,_,_,_,_) _ (i,d,c,b)=>(((a,(),(),i,()),((((),(),()),()),((c,d,()),()),b,())),xhw a i d c b none)
def xl7(a:Int)(l:LA):=Iter (xc9 a) (0,l,0,[])
def xfh(a:Int)(l:LA):=(xl7 a l).getD (0,[],[])
def xmV{T:Type}(a:Int)(l:LA)(δ:T)(κ:LA×LA->T):T:=br ((xl7 a l).isSome) (br (decide (0+((xfh a l).fst)<=(((xfh a l).snd).snd).length)&&true&&true) (κ (List.take ((xfh a l).fst) (List.drop 0 (((xfh a l).snd).snd)),((xfh a l).snd).fst)) δ) δ
def xeM(a:Int)(l:LA):=xmV a l none some
def xEe:EO:=xEs.f Tryz.func40 20 0 [] [(3,xnU.lp)] (lk1 xnU.ok) (u2 uI (uL 3)) (λ(a,l,_) _=>xmV a l) (λ _ p=>AV.agg [AV.list 1 p.1,AV.list 3 p.2]) ([],[])
def xky{T:Type}(b:LA)(i c d f g:Int)(e:Nat)(a:LA)(δ:T)(κl:(Int×Int×Int×Int×Int×Nat×LA)->T)(κr:(Int×Int×Nat×Int×Int×LA)->T):T:=br (decide (i<b.length)) (br (ixI b i) (br (ixS b i (Sh.int .i64) 0) (br (rmB e a 1 32) (κl (i64.wrap (i+1),c,d,f,g,e+1,a++[AV.agg [AV.int .i64 1,AV.int .i64 (gC b i 0).toInt,AV.str []]])) δ) δ) δ) (κr (c,d,e,f,g,a))
def xeL(d:LA):StT (Int×Int×Int×Int×Int×Nat×LA) (Int×Int×Nat×Int×Int×LA):=λ(i,b,c,e,f,g,a)=>xky d i b c e f g a none inL inR
def xqQ:=xEe.l 30 0 [] [] Tryz.f41 0 lk0 [2,6,7,8] [6,7] [(7,3,87)] (q4 (qL 1) (xNX 0 0 0 0) (xNX 1 0 0 0) qI) (q3 (qB 0 3 54 (q1 (xNY (q3 pNils qI qI)))) (xNZ 0 3 54 false false (q1 (xNY (q3 (xNW 2 0 0) qI qI)))) (qB 0 3 87 xNO)) (λ(d,_,_,i,_) (((_,b,c,_),_),((e,f,g,_),_),a,_)=>(xeL d,(i,b,c,f,g,e,a),λ p=>(.leaf (.exit 0) [AV.own 0 0 0 0,AV.own 1 0 0 0] [bF 0 3 54 [AV.agg [AV.nils,AV.int .i64 p.1,AV.int .i64 p.2.1]],⟨0,3,54,[AV.agg [AV.osl 2 0 0 p.2.2.1,AV.int .i64 p.2.2.2.1,AV.int .i64 p.2.2.2.2.1]],false,false⟩,bF 0 3 87 p.2.2.2.2.2]))) (0,0,0,0,0,[]) λ(d,_,_,_,_) _ (i,b,c,f,g,e,a)=>(((d,(),(),i,()),((((),b,c,()),()),((e,f,g,()),()),a,())),xky d i b c f g e a none)
def xpM(a b:Int)(c:LA):=Iter (xeL c) (0,0,0,a,b,0,[])
def xgy(a b:Int)(c:LA):=((xpM a b c).getD (0,0,0,0,0,[])).snd.snd
def xqR{T:Type}(a b:Int)(c:LA)(δ:T)(κ:LA×Int×Int->T):T:=br ((xpM a b c).isSome) (br (decide (0+((xgy a b c).fst)<=((((xgy a b c).snd).snd).snd).length)&&true&&true) (κ (List.take ((xgy a b c).fst) (List.drop 0 ((((xgy a b c).snd).snd).snd)),((xgy a b c).snd).fst,(((xgy a b c).snd).snd).fst)) δ) δ
def xau(a b:Int)(c:LA):=xqR a b c none some
def xI1:EO:=xEe.f Tryz.func41 30 0 [] [(3,xqQ.lp)] (lk1 xqQ.ok) (u3 uI uI (uL 1)) (λ(a,b,c,_) _=>xqR a b c) (λ _ p=>AV.agg [AV.list 3 p.1,AV.int .i64 p.2.1,AV.int .i64 p.2.2]) ([],0,0)
def xki:=(xau 0 6 [AV.int .i64 1,AV.int .i64 5]).getD ([],0,0)
def xkj:=(xau 0 9 [AV.int .i64 2,AV.int .i64 5]).getD ([],0,0)
def xkk:=(xau 3 9 [AV.int .i64 1,AV.int .i64 6]).getD ([],0,0)
def xhW:=(xau 0 9 [AV.int .i64 1]).isSome
def xkl:=(xau 7 9 [AV.int .i64 1]).getD ([],0,0)
def xkm:=(xau 8 9 [AV.int .i64 2]).getD ([],0,0)
def xkn:=(xau 4 8 [AV.int .i64 6]).getD ([],0,0)
def xko:=(xau 4 5 [AV.int .i64 1]).getD ([],0,0)
def xkp:=(xau 0 6 [AV.int .i64 1]).getD ([],0,0)
def xkq:=(xau 0 4 [AV.int .i64 2]).getD ([],0,0)
def xe6:=(xau 0 9 [AV.int .i64 1]).getD ([],0,0)
def xkr:=(xau 2 7 [AV.int .i64 1]).getD ([],0,0)
def xks:=(xau 1 9 [AV.int .i64 5]).getD ([],0,0)
def xkt:=(xau 0 5 [AV.int .i64 1]).getD ([],0,0)
def xku:=(xau 2 5 [AV.int .i64 1]).getD ([],0,0)
def xkv:=(xau 4 7 [AV.int .i64 1]).getD ([],0,0)
def xkw:=(xau 2 4 [AV.int .i64 1]).getD ([],0,0)
def xdl:=xe6.snd
def xkb:=xeM 2 [AV.agg [AV.list 3 xki.fst,AV.int .i64 xki.snd.fst,AV.int .i64 xki.snd.snd],AV.agg [AV.list 3 xkk.fst,AV.int .i64 xkk.snd.fst,AV.int .i64 xkk.snd.snd],AV.agg [AV.list 3 xkj.fst,AV.int .i64 xkj.snd.fst,AV.int .i64 xkj.snd.snd]]
def xkd:=xeM 1 [AV.agg [AV.list 3 xks.fst,AV.int .i64 xks.snd.fst,AV.int .i64 xks.snd.snd],AV.agg [AV.list 3 xkn.fst,AV.int .i64 xkn.snd.fst,AV.int .i64 xkn.snd.snd]]
def xke:=xeM 1 [AV.agg [AV.list 3 xe6.fst,AV.int .i64 xdl.fst,AV.int .i64 xdl.snd],AV.agg [AV.list 3 xku.fst,AV.int .i64 xku.snd.fst,AV.int .i64 xku.snd.snd]]
def xkh:=xeM 1 [AV.agg [AV.list 3 xkv.fst,AV.int .i64 xkv.snd.fst,AV.int .i64 xkv.snd.snd]]
def xnS:=xkb.getD ([],[])
def xnT:=xkd.getD ([],[])
def xkc:=xke.getD ([],[])
def xkg:=xkh.getD ([],[])
def xlI:=xoc xnS.fst xnS.snd xnT.fst xnT.snd
def xeJ:=xkc.snd
def xeK:=xkc.fst
def xge:=xkg.snd
def xhV:=xkg.fst
def xlH:=xbp (xlI.getD ([],[])).snd [AV.agg [AV.list 3 xkp.fst,AV.int .i64 xkp.snd.fst,AV.int .i64 xkp.snd.snd],AV.agg [AV.list 3 xkq.fst,AV.int .i64 xkq.snd.fst,AV.int .i64 xkq.snd.snd],AV.agg [AV.list 3 xkm.fst,AV.int .i64 xkm.snd.fst,AV.int .i64 xkm.snd.snd]]
def xlM:=xcj xeK xeJ xhV xge
def xlN:=xaU xeK xeJ xhV xge
def xlO:=xa1 xeK xeJ xhV xge
def xkf:=xbp ((xhe xeK xeJ).getD ([],[])).snd [AV.agg [AV.list 3 xe6.fst,AV.int .i64 xdl.fst,AV.int .i64 xdl.snd]]
def xlJ:=xbp (xlM.getD ([],[])).snd [AV.agg [AV.list 3 xkt.fst,AV.int .i64 xkt.snd.fst,AV.int .i64 xkt.snd.snd],AV.agg [AV.list 3 xkw.fst,AV.int .i64 xkw.snd.fst,AV.int .i64 xkw.snd.snd],AV.agg [AV.list 3 xkl.fst,AV.int .i64 xkl.snd.fst,AV.int .i64 xkl.snd.snd]]
def xlK:=xbp (xlO.getD ([],[])).snd [AV.agg [AV.list 3 xe6.fst,AV.int .i64 xdl.fst,AV.int .i64 xdl.snd],AV.agg [AV.list 3 xkr.fst,AV.int .i64 xkr.snd.fst,AV.int .i64 xkr.snd.snd],AV.agg [AV.list 3 xko.fst,AV.int .i64 xko.snd.fst,AV.int .i64 xko.snd.snd]]
def xlL:=xbp (xlN.getD ([],[])).snd xge
def xpL{T:Type}(δ:T)(κ:Bool->T):T:=br (xhW) (br ((xau 2 5 [AV.int .i64 1]).isSome) (br (xke.isSome) (br ((xau 4 7 [AV.int .i64 1]).isSome) (br (xkh.isSome) (br ((xau 0 6 [AV.int .i64 1,AV.int .i64 5]).isSome) (br ((xau 3 9 [AV.int .i64 1,AV.int .i64 6]).isSome) (br ((xau 0 9 [AV.int .i64 2,AV.int .i64 5]).isSome) (br (xkb.isSome) (br ((xau 1 9 [AV.int .i64 5]).isSome) (br ((xau 4 8 [AV.int .i64 6]).isSome) (br (xkd.isSome) (br (xlO.isSome) (br (xhW) (br ((xau 2 7 [AV.int .i64 1]).isSome) (br ((xau 4 5 [AV.int .i64 1]).isSome) (br (xlK.isSome) (br (xlK.getD false) (br (xlM.isSome) (br ((xau 0 5 [AV.int .i64 1]).isSome) (br ((xau 2 4 [AV.int .i64 1]).isSome) (br ((xau 7 9 [AV.int .i64 1]).isSome) (br (xlJ.isSome) (br (xlJ.getD false) (br (xlN.isSome) (br (xlL.isSome) (br (xlL.getD false) (br ((xhe xeK xeJ).isSome) (br (xhW) (br (xkf.isSome) (br (xkf.getD false) (br (xlI.isSome) (br ((xau 0 6 [AV.int .i64 1]).isSome) (br ((xau 0 4 [AV.int .i64 2]).isSome) (br ((xau 8 9 [AV.int .i64 2]).isSome) (br (xlH.isSome) (κ (xlH.getD false)) δ) δ) δ) δ) δ) (κ (false))) δ) δ) δ) (κ (false))) δ) δ) (κ (false))) δ) δ) δ) δ) δ) (κ (false))) δ) δ) δ) δ) δ) δ) δ) δ) δ) δ) δ) δ) δ) δ) δ) δ) δ
def xg7:Option (Bool):=xpL none some
def xI2:EO:=xI1.f Tryz.func11 87 0 [] [] lk0 xNN (λ _ _=>xpL) (λ _ p=>AV.bool p) false
def xgS(a b c d:LA):=xb2 ((xa1 a b c d).getD ([],[])).fst ((xa1 a b c d).getD ([],[])).snd ((xa1 c d a b).getD ([],[])).fst ((xa1 c d a b).getD ([],[])).snd
def xb7(a b c d:LA):=((xaU a b c d).getD ([],[])).fst
def xb8(a b c d:LA):=((xaU a b c d).getD ([],[])).snd
def xes(e f a b c d:LA):=xcj e f ((xa1 a b c d).getD ([],[])).fst ((xa1 a b c d).getD ([],[])).snd
def xet(a b c d e f:LA):=xcj ((xcj a b c d).getD ([],[])).fst ((xcj a b c d).getD ([],[])).snd e f
def xeu(a b c d e f:LA):=xa1 ((xa1 a b c d).getD ([],[])).fst ((xa1 a b c d).getD ([],[])).snd e f
def xev(e f a b c d:LA):=xa1 e f ((xa1 a b c d).getD ([],[])).fst ((xa1 a b c d).getD ([],[])).snd
def xgw(a b c d:LA):=xcj a b ((xcj a b c d).getD ([],[])).fst ((xcj a b c d).getD ([],[])).snd
def xew(e f a b c d:LA):=xaU e f ((xaU a b c d).getD ([],[])).fst ((xaU a b c d).getD ([],[])).snd
def xgQ(a b c d:LA):=xb2 (xb7 a b c d) (xb8 a b c d) ((xaU c d a b).getD ([],[])).fst ((xaU c d a b).getD ([],[])).snd
def xgR(a b c d:LA):=xa1 ((xcj a b c d).getD ([],[])).fst ((xcj a b c d).getD ([],[])).snd (xb7 a b c d) (xb8 a b c d)
def xgu(a b c d:LA):=(xgw a b c d).getD ([],[])
def xgv(a b c d e f:LA):=(xaU (xb7 a b c d) (xb8 a b c d) e f).getD ([],[])
def xgL(a b c d e f:LA):=xb2 ((xeu a b c d e f).getD ([],[])).fst ((xeu a b c d e f).getD ([],[])).snd ((xev a b c d e f).getD ([],[])).fst ((xev a b c d e f).getD ([],[])).snd
def xgM(a b c d e f:LA):=xb2 ((xes a b c d e f).getD ([],[])).fst ((xes a b c d e f).getD ([],[])).snd ((xet a b c d e f).getD ([],[])).fst ((xet a b c d e f).getD ([],[])).snd
def xgN(a b c d e f:LA):=xb2 (xgv a b c d e f).fst (xgv a b c d e f).snd ((xew a b c d e f).getD ([],[])).fst ((xew a b c d e f).getD ([],[])).snd
def xgO(a b c d:LA):=xb2 (xb7 a b c d) (xb8 a b c d) (xgu a b c d).fst (xgu a b c d).snd
def xgP(b a c d:LA):=xbp ((xgR b a c d).getD ([],[])).snd ((xrB a).getD [])
def xhj{T:Type}(d c a b e f:LA)(δ:T)(κ:Bool->T):T:=br ((xlP d c a b).isSome) (br (!(xlP d c a b).getD false) (br (xg7.isSome) (κ (xg7.getD false)) δ) (br ((xlP a b e f).isSome) (br (!(xlP a b e f).getD false) (br (xg7.isSome) (κ (xg7.getD false)) δ) (br ((xa1 d c a b).isSome) (br ((xcj d c a b).isSome) (br ((xaU d c a b).isSome) (br ((xa1 a b d c).isSome) (br ((xgS d c a b).isSome) (br (!(xgS d c a b).getD false) (κ (false)) (br ((xaU a b d c).isSome) (br ((xgQ d c a b).isSome) (br (!(xgQ d c a b).getD false) (κ (false)) (br ((xgw d c a b).isSome) (br ((xgO d c a b).isSome) (br (!(xgO d c a b).getD false) (κ (false)) (br ((xgR d c a b).isSome) (br ((xrB c).isSome) (br ((xgP d c a b).isSome) (br (!(xgP d c a b).getD false) (κ (false)) (br ((xa1 a b e f).isSome) (br ((xes d c a b e f).isSome) (br ((xet d c a b e f).isSome) (br ((xgM d c a b e f).isSome) (br ((xgM d c a b e f).getD false) (br ((xeu d c a b e f).isSome) (br ((xa1 a b e f).isSome) (br ((xev d c a b e f).isSome) (br ((xgL d c a b e f).isSome) (br ((xgL d c a b e f).getD false) (br ((xaU (xb7 d c a b) (xb8 d c a b) e f).isSome) (br ((xaU a b e f).isSome) (br ((xew d c a b e f).isSome) (br ((xgN d c a b e f).isSome) (br ((xgN d c a b e f).getD false) (br (xg7.isSome) (κ (xg7.getD false)) δ) (κ (false))) δ) δ) δ) δ) (κ (false))) δ) δ) δ) δ) (κ (false))) δ) δ) δ) δ)) δ) δ) δ)) δ) δ)) δ) δ)) δ) δ) δ) δ) δ)) δ)) δ
def xiB(a b c d e f:LA):=xhj a b c d e f none some
def xqP:LA->Option (Bool×AV):=fnO (u3 (xN0 (u2 (uL 1) (uL 3))) (xN0 (u2 (uL 1) (uL 3))) (xN0 (u2 (uL 1) (uL 3)))) (λ((a,b,_),(c,d,_),(e,f,_),_) _=>xhj a b c d e f) (λ _ p=>AV.bool p) false
def xqO:OcOk P0 xNJ 7 xqP:=fnC xI2.ok Tryz.func7 97 0 [] [] lk0
end Go.Sim.M
end
