/- Part 15. -/
import Derived.Test.YtodofdnlhoknhaaGreatDoorTS14
import Derived.Maps.RangeRun
set_option linter.all false
noncomputable section
namespace Go.Sim
open Go.RowKit
variable {A':Nat->Prop}{H:List aC}{M M':Id->Option MB}{n:Nat}{w':World}
def Ev.mv{w:World}{A:Nat->Prop}{B:Nat}{av df:Nat->Prop}(hR:HR w A M B H)(he:Ev ⟨av,w,A,M,n,df⟩ w' A' M')(hn:H.length<=n):Mv w A M w' A' M':=
 ⟨he.size,fun b hb hA=>he.keep b hb (.inl hA),he.less,he.more,fun id m hm=>he.ids id m (by
  obtain ⟨bx,h1,_⟩:=hR.box id m hm;exact Nat.lt_of_lt_of_le (vO h1) hn) hm,⟨fun b hb q=>he.keep b hb (.inr q),he.src⟩⟩
variable {A0:Cx}{a:Act}{s:St}{w0:World}
def SR.grow{w:World}{A:Nat->Prop}(h:SR w0 A0 w A M s a)(hb:Below w.heap.size w w'):SR w0 A0 w' A M s a:=⟨h.base.trans (hb.mono h.base.size),h.outer,h.size,λ t ht=>(h.tmps t ht).grow hb,h.heap.grow hb,h.defers.same λ D hD=>hb.block D (vR hD),h.ev.step ⟨hb.size,λ b q _=>hb.block b q,λ _ _ h=>h,λ _ _ h _=>h,aR.refl M,.of_new hb λ _ _ h=>.inl h⟩⟩
def SR.door{w:World}{A:Nat->Prop}(h:SR w0 A0 w A M s a)(n:Nat):SR w0 ⟨A0.av,w,A,M,n,λ D=>A0.df D\/A0.w1.heap.size<=D⟩ w A M s a:=
 ⟨h.base,h.outer,h.size,h.tmps,h.heap,by
  obtain ⟨L,e1,e2,e3⟩:=h.defers;exact ⟨L,e1,e2,fun D hD=>⟨(e3 D hD).1,.inl (e3 D hD).2.1,(e3 D hD).2.2⟩⟩,Ev.refl (C:=⟨A0.av,w,A,M,n,_⟩)⟩
def SR.undoor{w:World}{A:Nat->Prop}{s':St}{a':Act}(h:SR w0 A0 w A M s a)(hn:s.heap.length<=n)(h':SR w0 ⟨A0.av,w,A,M,n,λ D=>A0.df D\/A0.w1.heap.size<=D⟩ w' A' M' s' a'):SR w0 A0 w' A' M' s' a'/\Mv w A M w' A' M':=by have q:=h'.ev.mv h.heap hn;refine⟨⟨h'.base,h'.outer,h'.size,h'.tmps,h'.heap,?_,h.ev.step q⟩,q⟩;obtain⟨L,e1,e2,e3⟩:=h'.defers;refine⟨L,e1,e2,λ D hD=>⟨(e3 D hD).1,?_,(e3 D hD).2.2⟩⟩;rcases(e3 D hD).2.1 with h1|h1;exact h1;exact .inr (Nat.le_trans h.ev.size h1)
structure sg (w:World) (A:Nat->Prop) (M:Id->Option MB) (r bm:Nat) (e1 es:Array MapEntry) (clock:Nat) (seen:Array Nat) (kv:List (List UInt8×AV)) (done:List Nat):Prop where
 it:w.heap[r]?=some (.mapIter (some bm) clock seen clock)
 map:w.heap[bm]?=some (.map e1 clock)
 av:¬ A bm
 perm:oN e1 es clock
 size:es.size=kv.length
 keys:∀(i:Nat)(x:MapEntry),es[i]?=some x->∃t:ByteArray,x.key=.string t/\(kv.getD i ([],.top)).1=t.data.toList
 vals:∀(i:Nat)(x:MapEntry),es[i]?=some x->aD w A M x.val (kv.getD i ([],.top)).2
 seen:∀(i:Nat)(x:MapEntry),es[i]?=some x->(seen.contains x.born=true↔i∈done)
 nodup:done.Nodup
 lt:∀i,i∈done->i<kv.length
section
variable{P:Program}{w w':World}{A A':Nat->Prop}{M M':Id->Option MB}{r bm clock B:Nat}{e1 es:Array MapEntry}{seen:Array Nat}{kv:List (List UInt8 × AV)}{done:List Nat}{H:List aC}
def sg.mv(h:sg w A M r bm e1 es clock seen kv done)(hR:HR w A M B H)(hm:Mv w A M w' A' M'):sg w' A' M' r bm e1 es clock seen kv done:=⟨(hm.touch.1 r (vR h.it) (hR.not_box h.it Ψ Ψ)).trans h.it,(hm.keep bm (vR h.map) h.av).trans h.map,λ hA=>h.av (hm.less bm (vR h.map) hA),h.perm,h.size,h.keys,λ i x hx=>hm.rel (h.vals i x hx),h.seen,h.nodup,h.lt⟩
def getElem?_ext_lt{α:Type}{es:Array α}{i:Nat}{x:α}(h:es[i]?=some x):i<es.size:=by rcases zJ i es.size with h'|h';exact h';rw[Array.getElem?_eq_none h']at h;simp at h
def sg.next(h:sg w A M r bm e1 es clock seen kv done)(ty:TypeId):(done.Perm (List.range kv.length)/\(Instr.next (.pointer (some ⟨r,0,none⟩)) false ty).run P w=.ok (.tuple #[.bool false]) w) \/ ∃(i:Nat)(e:MapEntry)(w1:World)(q:Array Nat),i<kv.length/\i∉done/\es[i]?=some e/\Below w.heap.size w w1/\(∀a u,w.cell? a=some u->w1.cell? a=some u)/\w1.heap[r]?=some (.mapIter (some bm) clock seen clock)/\(Instr.next (.pointer (some ⟨r,0,none⟩)) false ty).run P w=.ok (.tuple #[.bool true,e.key,e.val]) (w1.putObj r (.mapIter (some bm) clock q clock))/\sg (w1.putObj r (.mapIter (some bm) clock q clock)) A M r bm e1 es clock q kv (done++[i])/\(∀w2 A2 M2,sg w2 A2 M2 r bm e1 es clock q kv (done++[i])->(Instr.entry (.pointer (some ⟨r,0,none⟩))).run P w2=.ok (.tuple #[e.key,e.val]) w2)/\(leftOf e1 q).size<(leftOf e1 seen).size:=by
 obtain⟨hp,Y,aa⟩:=h.perm;have ad:(e1.toList.map (·.born)).Nodup:=((hp.map _).nodup_iff).2 aa;have Q:∀i x,es[i]?=some x->i<kv.length:=λ i x hx=>by rw[<-h.size];exact getElem?_ext_lt hx
 rcases run_next_at (P:=P) w ty r bm clock clock seen e1 clock h.it h.map (λ x hx=>Y x (hp.mem_iff.1 hx)) (zd _)with⟨h0,J⟩|⟨e,he,w1,O,J⟩;refine .inl ⟨?_,J⟩;refine(List.perm_ext_iff_of_nodup h.nodup List.nodup_range).2 λ i=>⟨λ hi=>List.mem_range.2 (h.lt i hi),λ hi=>?_⟩;have hi':i<es.size:=by rw[h.size];exact List.mem_range.1 hi
 have hx:es[i]?=some es[i]:=by simp[hi']
 exact(h.seen i _ hx).1 (all_seen e1 seen h0 _ (hp.mem_iff.2 Ψ));obtain⟨Z,ac⟩:=mem_left he;obtain⟨i,hi⟩:=List.mem_iff_getElem?.1 (hp.mem_iff.1 Z);have hi:es[i]?=some e:=by simpa using hi
 have hb:Below w.heap.size w w1:=by rcases O with rfl|rfl;exact Below.refl _ _;exact⟨rfl,rfl,rfl,zd _,λ _ _=>rfl⟩
 have hc:∀a u,w.cell? a=some u->w1.cell? a=some u:=λ a u hu=>by rcases O with rfl|rfl<;>exact hu
 have hsz:w1.heap.size=w.heap.size:=by rcases O with rfl|rfl<;>rfl
 have W:w1.heap[r]?=some (.mapIter (some bm) clock seen clock):=by rcases O with rfl|rfl<;>exact h.it
 have ag:w1.heap[bm]?=some (.map e1 clock):=by rcases O with rfl|rfl<;>exact h.map
 have hne:bm≠r:=λ e=>by have:=h.map;rw[e,h.it]at this;simp at this
 have V:i∉done:=λ hd=>by rw[(h.seen i e hi).2 hd]at ac;cases ac
 have af:(w1.putObj r (.mapIter (some bm) clock (seen.push e.born) clock)).heap[bm]?=some (.map e1 clock):=(World.putObj_heap_other hne).trans ag;have ae:(w1.putObj r (.mapIter (some bm) clock (seen.push e.born) clock)).heap[r]?=some (.mapIter (some bm) clock (seen.push e.born) clock):=World.putObj_heap_same (vR W);refine .inr ⟨i,e,w1,seen.push e.born,Q i e hi,V,hi,hb,hc,W,J,⟨ae,af,h.av,h.perm,h.size,h.keys,λ k x hx=>?_,λ k x hx=>?_,?_,λ k hk=>?_⟩,λ w2 A2 M2 h2=>run_entry_at _ r bm clock seen e1 clock e h2.it h2.map Z ad,left_shrinks e1 seen e he⟩;exact((h.vals k x hx).grow hb).turn Ψ (Q7 W ⟨by simp,by simp⟩);rw[contains_push,Bool.or_eq_true,h.seen k x hx,zG,zv,beq_iff_eq];constructor;rintro(h1|h1);exact .inl h1;right;have hk:=getElem?_ext_lt hx;have ab:=getElem?_ext_lt hi;have e3:es[k]=x:=by simpa[hk]using hx
 have e4:es[i]=e:=by simpa[ab]using hi
 have:=(List.getElem_inj (i:=k) (j:=i) (h₀:=by simpa using hk) (h₁:=by simpa using ab) aa).1 (by simp[e3,e4,h1]);exact this;rintro(h1|rfl);exact .inl h1;right;rw[hi]at hx;simp only[z6]at hx;rw[hx];rw[List.nodup_append];exact⟨h.nodup,by simp,λ a ha c hc=>by simp only[zv]at hc;rintro rfl;exact V (hc▸ha)⟩;rcases zG.1 hk with hk|hk;exact h.lt k hk;simp only[zv]at hk;subst hk;exact Q k e hi
end
def jH{σ ρ:Type}(step:σ->Nat->σ⊕ρ):σ⊕ρ->Nat->σ⊕ρ|.inl s,x=>step s x|.inr r,_=>.inr r
def UT{σ ρ:Type}(step:σ->Nat->σ⊕ρ)(r:ρ):∀l:List Nat,l.foldl (jH step) (.inr r)=.inr r|[]=>rfl|x::l=>by simp only[List.foldl_cons,jH];exact UT step r l
variable {P:Program}
def xzG{ro:Option Nat}{c:Code}{Qc:Exit->Act->World->Prop}(I:Nat->Act->World->Prop)(J:∀n a w,I n a w->c.wpIn (cP ro) 0 P (λ e a' w'=>match e with|.normal=>∃n',n'<n/\I n' a' w'|e=>Qc e a' w') a w)(n:Nat)(a:Act)(w:World)(h:I n a w):(Code.loop c).wpIn (cP ro) 0 P Qc a w:=by(intro b k cs hb _ _;have hb:b.roundOf=ro:=hb;subst hb;have key:∀n a w,I n a w->∃e a' w',Qc e a' w'/\ArrivesIn (Machine.fenced P (cP b.roundOf)) P (lone (b.atR a (.code c::.inLoop c::k)) cs w) b k cs e a' w':=by intro n;induction n using Nat.strongRecOn with|_ n ih=>intro a w hI;obtain⟨e,a₁,w₁,hq,q⟩:=J n a w hI b (.inLoop c::k) cs rfl (Te _ _) (Sb _ _);cases e with|normal=>(obtain⟨n',k1,k2⟩:=hq;obtain⟨e₂,a₂,w₂,Q,O⟩:=ih n' k1 a₁ w₁ k2;exact⟨e₂,a₂,w₂,Q,.of_steps (StepsIn.trans q (.one (CI _ P _) stepR_inLoop)) O⟩)|exit id=>exact⟨_,a₁,w₁,hq,.pass (x:=.inLoop c) rfl (λ _ _=>.inl Ψ) q⟩|goto l=>exact⟨_,a₁,w₁,hq,.pass (x:=.inLoop c) rfl (λ _ _=>.inl Ψ) q⟩|ret=>exact⟨_,a₁,w₁,hq,.pass (x:=.inLoop c) rfl (λ _ _=>.inl Ψ) q⟩|panic ch=>exact⟨_,a₁,w₁,hq,.pass (x:=.inLoop c) rfl (λ _ _=>.inl Ψ) q⟩|outgrown=>exact⟨_,a₁,w₁,hq,.pass (x:=.inLoop c) rfl (λ _ _=>.inl Ψ) q⟩);obtain⟨e,a',w',hq,q⟩:=key n a w h;exact⟨e,a',w',hq,.of_steps (.one (CI _ P _) stepR_loop) q⟩
variable {Inv:IV}{ops:Array Oper}
def tJ(Y:bP Inv)(hI:Inv w0){Q:Exit->Act->World->Prop}{rest:List Oper}{l:List Oper}{s':St}(hp:d7 (iG P Inv) ops l s s'):∀{w:World}{A:Nat->Prop}{M:Id->Option MB}{a:Act},SR w0 A0 w A M s a->(∀a' w' A' M',SR w0 A0 w' A' M' s' a'->Mv w A M w' A' M'->wpList P ops Q rest a' w')->wpList P ops Q (l++rest) a w:=by induction hp with|nil s=>intro w A M a hs hK;exact hK a w A M hs Mv.refl|run hw h hr ih=>intro w A M a hs hK;have J:=vu (w:=w) (A:=A) (M:=M) hs.size (λ j O d _ _ q=>hs.tmps d q) hw;rw[List.cons_append];unfold wpList;rw[if_pos J];exact .inl (vH Y hI h hs λ v w' A' M' V W=>ih V λ a2 w2 A2 M2 h2 m2=>hK a2 w2 A2 M2 h2 (W.trans m2))|skip hw hr ih=>intro w A M a hs hK;have J:=vu (w:=w) (A:=A) (M:=M) hs.size (λ j O d _ _ q=>hs.tmps d q) hw;rw[List.cons_append];unfold wpList;rw[if_neg (by rw[J];simp)];exact ih (hs.skip _) λ a2 w2 A2 M2 h2 m2=>hK a2 w2 A2 M2 h2 m2
def fh(bx:aC)(k:Nat):List UInt8:=match (bx.xs.getD k .top).cells.getD 0 .top with|.str s=>s|_=>[]
def fZ(nb:Nat)(bx:aC)(k:Nat):AV:=fy nb k 1 bx.ty ((bx.xs.getD k .top).cells.getD 1 .top)
def oY(nb:Nat)(bx:aC):List (List UInt8×AV):=(List.range bx.xs.length).map λ k=>(fh bx k,fZ nb bx k)
def FG(nb:Nat)(bx:aC):(oY nb bx).length=bx.xs.length:=by simp[oY]
def K5{nb:Nat}{bx:aC}{k:Nat}(h:k<bx.xs.length):(oY nb bx).getD k ([],.top)=(fh bx k,fZ nb bx k):=by simp[oY,z7,h]
def lL(i9:Nat)(J:Array Oper)(ex i0:Nat)(q:Array Oper)(tb:Tmp)(ib i1:Nat)(Q:Array Oper)(O:Code):Code:=.seq (.region i9 J false) (.block ex (.loop (.seq (.region i0 q false) (.seq (.cond (.tmp tb) .skip (.exit ex)) (.block ib (.seq (.region i1 Q false) O))))))
def qz(Lr:List AV)(tn tb te:Tmp)(k:List UInt8)(v:AV):List AV:=((Lr.set tn (.tuple [.bool true,.str k,v])).set tb (.bool true)).set te (.tuple [.str k,v])
section
variable{P:Program}{w:World}{A:Nat->Prop}{M:Id->Option MB}{B:Nat}{H:List aC}
variable {i j n:Nat}{v:Value}
def xI3(hR:HR w A M B H){ver:Nat}{bx:aC}(h:aD w A M v (.own (.b n) ver i j))(O:H[n]?=some bx)(J:bx.ver=ver)(Q:dD bx.ty):∃m,M (.b n)=some m/\BoxAt w A M B (.b n) m bx/\v=.map (some m.b)/\0<m.cap:=by(obtain⟨m,hm,hv,h1,he⟩:=aD.own_inv h;obtain⟨bx',h2,h3⟩:=hR.box _ m hm;rw[iQ,O]at h2;cases h2;refine⟨m,hm,h3,?_⟩;have q:dD m.ty:=by rw[<-h3.ty];exact KE Q);have h0:=he (by rw[<-J,h3.ver]);unfold fE at h0;rw[q]at h0;cases hc:m.cap with|zero=>rw[hc]at h0;simp only at h0;rw[h0]at h1;cases h1|succ k=>rw[hc]at h0;exact⟨h0,Nat.succ_pos k⟩
def xHs(hR:HR w A M B H){ver:Nat}{bx:aC}(h:aD w A M v (.own (.b n) ver i j))(ae:H[n]?=some bx)(ac:bx.ver=ver)(Y:dD bx.ty)(ad:de bx.ty 0=false)(ab:bx.sz=2)(aa:bx.pm)(af:bx.frz){t kt et:TypeId}(Z:P.underlying t=some (.map kt et)):∃bm e1 es clock,(Instr.range t v).run P w=.ok (.pointer (some ⟨w.heap.size,0,none⟩)) (w.alloc (.mapIter (some bm) clock #[] clock))/\sg (w.alloc (.mapIter (some bm) clock #[] clock)) A M w.heap.size bm e1 es clock #[] (oY n bx) []:=by(obtain⟨m,hm,J,rfl,hcap⟩:=xI3 hR h ae ac Y;obtain⟨es,clock,q,_,Q⟩:=J.mapKs Y ad ab aa hcap;obtain⟨e1,V,hP⟩:=q.heap;have O:=vg w (.mapIter (some m.b) clock #[] clock);have W:∀k x,es[k]?=some x->k<bx.xs.length:=λ k x hx=>by rw[<-q.size];exact getElem?_ext_lt hx);refine⟨m.b,e1,es,clock,run_range_map w t kt et m.b e1 clock Z V,heap_alloc_new w _,(O.block _ (vR V)).trans V,λ hA=>?_,hP,by rw[q.size,FG],λ k x hx=>?_,λ k x hx=>?_,λ k x _=>by simp,List.nodup_nil,by simp⟩;have:=(J.guard hcap).2 hA;rw[af]at this;cases this;obtain⟨t,h1,h2,_⟩:=q.keys k x hx;refine⟨t,h1,?_⟩;rw[K5 (W k x hx)];show fh bx k=_;unfold fh;rw[h2];rw[K5 (W k x hx)];exact((Q k x hx).unmv).grow O
end
def Up{l:List Nat}(hn:l.Nodup)(hl:∀i,i∈l->i<n):∃l',(l++l').Perm (List.range n):=by refine⟨(List.range n).filter λ i=>!l.contains i,(List.perm_ext_iff_of_nodup ?_ List.nodup_range).2 λ i=>?_⟩;rw[List.nodup_append];refine⟨hn,List.nodup_range.filter _,λ a ha b hb=>?_⟩;rintro rfl;have:=(List.mem_filter.1 hb).2;simp[ha]at this;rw[zG,List.mem_filter,List.mem_range];constructor;rintro(h|h);exact hl i h;exact h.1;intro h;by_cases hi:i∈l;exact .inl hi;exact .inr ⟨h,by simp[hi]⟩
def xDy(ax:bP Inv){σ ρ:Type}{i9 ex i0 ib i1:Nat}{ae ak af:Array Oper}{a8:Code}{pre exts:List Oper}{o9 o0 o1 oe:Oper}{it tn tb te:Tmp}{tyM kt et:TypeId}{mo:Operand}
  (bi:ae.toList=pre++[o9]) (cc:aO ae) (c6:o9.op=.range tyM mo) (c8:o9.dst=some it) (c7:o9.guard=none) (cu:P.underlying tyM=some (.map kt et))
  (bn:ak.toList=[o0,o1]) (b0:aO ak) (bw:o0.op=.next (.tmp it) false) (cf:o0.dst=some tn) (cq:o0.guard=none) (cd:o1.op=.extract (.tmp tn) 0) (cb:o1.dst=some tb) (b4:o1.guard=none)
  (bk:af.toList=oe::exts) (ch:aO af) (c4:oe.op=.entry (.tmp it)) (cz:oe.dst=some te) (c5:oe.guard=none)
  (cm:it≠tn) (ck:it≠tb) (da:tn≠tb)
  {s1:St} (cl:d7 (iG P Inv) ae pre s s1) {nb ver i j:Nat} (hm:s1.eval mo=.own (.b nb) ver i j) {bx:aC} (hb:(freeze s1.heap [nb])[nb]?=some bx) (b3:bx.ver=ver) (c2:dD bx.ty) (h0:de bx.ty 0=false) (hsz:bx.sz=2) (cp:bx.pm) (cx:bx.frz) (cw:(freeze s1.heap [nb]).length<=n) (Lf:σ->Nat->List AV) (Hf:σ->List aC) (Lo:ρ->List AV) (Ho:ρ->List aC) (step:σ->Nat->σ⊕ρ) (s0:σ)
  (a4:∀s,(Hf s).length<=n) (a6:∀s r,(Lf s r)[it]?=some (.gptr r)) (bz:∀s r,tn<(Lf s r).length) (b2:∀s r,tb<(Lf s r).length)
  (be:∀r,dC n ⟨s1.tmps.set it (.gptr r),freeze s1.heap [nb]⟩ ⟨Lf s0 r,Hf s0⟩)
  (au:∀ (r:Nat) (done:List Nat) (s:σ) (k:Nat),k<bx.xs.length->k∉done->done.Nodup->(∀ i,i∈done->i<bx.xs.length)->done.foldl (jH step) (.inl s0)=.inl s->∃ s2,d7 (iG P ⟨Inv.inv,n,Inv.top⟩) af exts ⟨qz (Lf s r) tn tb te (fh bx k) (fZ nb bx k),Hf s⟩ s2 /\
   bL P ⟨Inv.inv,n,Inv.top⟩ a8 (fun e s'=>match step s k with
    |.inl s3=>e=.normal/\dC n s' ⟨Lf s3 r,Hf s3⟩
    |.inr q=>e=.ret/\dC n s' ⟨Lo q,Ho q⟩) s2) :
  bL P Inv (lL i9 ae ex i0 ak tb ib i1 af a8) (fun e s'=>∃ ord:List Nat,ord.Perm (List.range bx.xs.length)/\match ord.foldl (jH step) (.inl s0) with
   |.inl s=>e=.normal/\∃r,s'=⟨((Lf s r).set tn (.tuple [.bool false])).set tb (.bool false),Hf s⟩
   |.inr q=>e=.ret/\s'=⟨Lo q,Ho q⟩) s:=by
 intro w0 A0 w A M a Qc hI c9 hs hQ ro ct;unfold lL;refine wpIn_seq (wpIn_region_list (pM ro 0 _ (rd cc) _ _ ?_));rw[bi];refine tJ ax hI cl hs λ a1 w1 A1 M1 a0 b8=>wpList_plain c7 λ K hK=>?_
 obtain⟨A2,ar,b5⟩:=a0.refreeze (bV.freeze s1.heap [nb]);have bo:=ar.eval mo;rw[show St.eval ⟨s1.tmps,freeze s1.heap [nb]⟩ mo=s1.eval mo from by cases mo<;>rfl,hm]at bo
 obtain⟨bm,e1,es,clock,J,V⟩:=xHs ar.heap bo hb b3 c2 h0 hsz cp cx cu;obtain⟨w3,bu⟩:∃w3,w3=w1.alloc (.mapIter (some bm) clock #[] clock):=⟨_,rfl⟩;rw[<-bu]at J V;have am:Below w1.heap.size w1 w3:=by rw[bu];exact vg w1 _
 obtain⟨r,hr⟩:∃r,r=w1.heap.size:=⟨_,rfl⟩;rw[<-hr]at J V;have Q:=ar.grow am;have Q:=Q.put (d:=some it) Q.base Q.outer Mv.refl Q.heap (aD.gptr (w:=w3) (A:=A2) (M:=M1) r);have c3:w0.heap.size<=r:=by rw[hr];exact a0.base.size
 have cv:A0.w1.heap.size<=r:=by rw[hr];exact a0.ev.size
 unfold Oper.wp;simp only[execOp,c6,J,Sem.run_bind,Result.andThen_ok,Sem.run_pure];show K (a1.put o9.dst (.pointer (some ⟨r,0,none⟩))) w3;rw[c8];refine hK _ _ ?_;obtain⟨A4,M4,az⟩:=be r w0 _ w3 A2 M1 _ (zd n) (Q.door n);obtain⟨az,bb⟩:=Q.undoor cw az;have ap:=V.mv Q.heap bb;refine wpIn_block ?_;refine xzG (λ N a' w'=>∃done s' A' M' seen,SR w0 A0 w' A' M' ⟨Lf s' r,Hf s'⟩ a'/\sg w' A' M' r bm e1 es clock seen (oY nb bx) done/\done.foldl (jH step) (.inl s0)=.inl s'/\(leftOf e1 seen).size=N) ?_ _ _ _ ⟨[],s0,A4,M4,#[],az,ap,rfl,rfl⟩
 clear az ap bb V Q J am bu bo ar b5 hK a0 b8;rintro N a' w' ⟨done,s',A',M',seen,aj,an,Y,rfl⟩;have ci:a'.eval (.tmp it)=.pointer (some ⟨r,0,none⟩):=by
  have:=aj.eval (.tmp it);have e:St.eval ⟨Lf s' r,Hf s'⟩ (.tmp it)=.gptr r:=by show (Lf s' r).getD it .top=_;rw[z7,a6 s' r];rfl
  rw[e]at this;generalize a'.eval (.tmp it)=v at this;cases this;rfl
 refine wpIn_seq (wpIn_region_list (pM ro 0 _ (rd b0) _ _ ?_));rw[bn];refine wpList_plain cq λ K hK=>?_
 rcases an.next (P:=P) o0.type with⟨al,J⟩|⟨k,e,wd,ac,hk,ca,ce,cr,db,cg,J,ag,b9,b1⟩
 ·
  unfold Oper.wp;simp only[execOp,bw,ci,J,Sem.run_bind,Result.andThen_ok,Sem.run_pure];show K (a'.put o0.dst (.tuple #[.bool false])) w';rw[cf];refine hK _ _ (wpList_plain b4 λ K2 bv=>?_)
  have ai:=aj.put (d:=some tn) aj.base aj.outer Mv.refl aj.heap (aD.tuple (w:=w') (A:=A') (M:=M') #[.bool false] [.bool false] rfl (fun i hi=>by
   rcases i with _|i
   . exact .bool false
   . simp at hi))
  have bt:iG P Inv ⟨bC (Lf s' r) (some tn) (.tuple [.bool false]),Hf s'⟩ o1 ⟨bC (bC (Lf s' r) (some tn) (.tuple [.bool false])) o1.dst (.bool false),Hf s'++(none:Option aC).toList⟩:=by
   refine .inl (.inl ⟨.bool false,none,.inl ?_,rfl⟩);rw[cd];simp[e8,St.eval,bC,z7,bz s' r]
  refine vH ax hI bt ai λ v w6 A6 M6 ab _=>bv _ _ ?_
  rw[cb]at ab|-;simp only[Option.toList,zD,bC]at ab;have ao:(a'.put (some tn) (.tuple #[.bool false]) |>.put (some tb) v).eval (.tmp tb)=.bool false:=by
   have:=ab.eval (.tmp tb);have e:St.eval ⟨((Lf s' r).set tn (.tuple [.bool false])).set tb (.bool false),Hf s'⟩ (.tmp tb)=.bool false:=by simp[St.eval,z7,b2 s' r]
   rw[e]at this;exact this.bool_inv
  refine wpIn_seq (wpIn_cond_split ao (λ h=>by cases h) λ _=>wpIn_exit ?_)
  show Exit.inBlock ex Qc (.exit ex) _ _;simp only[Exit.inBlock,if_true];rw[FG]at al;exact hQ .normal _ _ _ ⟨done,al,by rw[Y];exact⟨rfl,r,rfl⟩⟩ ⟨A6,M6,ab⟩
 ·
  rw[FG]at hk;unfold Oper.wp;simp only[execOp,bw,ci,J,Sem.run_bind,Result.andThen_ok,Sem.run_pure];obtain⟨w5,bq⟩:∃w5,w5=wd.putObj r (.mapIter (some bm) clock ac clock):=⟨_,rfl⟩;rw[<-bq]at ag;show K (a'.put o0.dst (.tuple #[.bool true,e.key,e.val])) (wd.putObj r (.mapIter (some bm) clock ac clock));rw[<-bq,cf];refine hK _ _ (wpList_plain b4 λ K2 bv=>?_)
  have b6:=aj.grow cr;have ai:SR w0 A0 w5 A' M' ⟨Lf s' r,Hf s'⟩ a':=by
   rw[bq];exact b6.turn (ds:=a'.defers) cg ⟨by simp,by simp⟩ c3 cv _ (b6.defers.same λ D hD=>World.putObj_heap_other (λ e=>by rw[e,cg]at hD;simp at hD))
  obtain⟨tk,ba,W⟩:=ag.keys k e ce;rw[K5 hk]at W;have ah:=ag.vals k e ce;rw[K5 hk]at ah;simp only at W ah;have co:aD w5 A' M' e.key (.str (fh bx k)):=by rw[ba,W];exact .str tk
  have ab:=ai.put (d:=some tn) ai.base ai.outer Mv.refl ai.heap (aD.tuple (w:=w5) (A:=A') (M:=M') #[.bool true,e.key,e.val] [.bool true,.str (fh bx k),fZ nb bx k] rfl (fun i hi=>by
   rcases i with _|_|_|i
   . exact .bool true
   . exact co
   . exact ah
   . simp at hi;omega))
  have bt:iG P Inv ⟨bC (Lf s' r) (some tn) (.tuple [.bool true,.str (fh bx k),fZ nb bx k]),Hf s'⟩ o1 ⟨bC (bC (Lf s' r) (some tn) (.tuple [.bool true,.str (fh bx k),fZ nb bx k])) o1.dst (.bool true),Hf s'++(none:Option aC).toList⟩:=by
   refine .inl (.inl ⟨.bool true,none,.inl ?_,rfl⟩);rw[cd];simp[e8,St.eval,bC,z7,bz s' r]
  refine vH ax hI bt ab λ v w7 A7 M7 Z a5=>bv _ _ ?_
  have ad:=ag.mv ab.heap a5;rw[cb]at Z|-;simp only[Option.toList,zD,bC]at Z;have ao:((a'.put (some tn) (.tuple #[.bool true,e.key,e.val])).put (some tb) v).eval (.tmp tb)=.bool true:=by
   have:=Z.eval (.tmp tb);have e:St.eval ⟨((Lf s' r).set tn (.tuple [.bool true,.str (fh bx k),fZ nb bx k])).set tb (.bool true),Hf s'⟩ (.tmp tb)=.bool true:=by simp[St.eval,z7,b2 s' r]
   rw[e]at this;exact this.bool_inv
  refine wpIn_seq (wpIn_cond_split ao (λ _=>wpIn_skip ?_) (λ h=>by cases h))
  refine wpIn_block (wpIn_seq (wpIn_region_list (pM ro 0 _ (rd ch) _ _ ?_)));rw[bk];refine wpList_plain c5 λ K3 cy=>?_
  have a2:((a'.put (some tn) (.tuple #[.bool true,e.key,e.val])).put (some tb) v).eval (.tmp it)=.pointer (some ⟨r,0,none⟩):=by
   have:=Z.eval (.tmp it);have e:St.eval ⟨((Lf s' r).set tn (.tuple [.bool true,.str (fh bx k),fZ nb bx k])).set tb (.bool true),Hf s'⟩ (.tmp it)=.gptr r:=by
    simp[St.eval,z7,List.getElem?_set,Ne.symm cm,Ne.symm ck,a6 s' r]
   rw[e]at this;generalize Act.eval _ (.tmp it)=u at this;cases this;rfl
  generalize ((a'.put (some tn) (.tuple #[.bool true,e.key,e.val])).put (some tb) v)=a7 at Z a2;have bc:=b9 w7 A7 M7 ad;unfold Oper.wp;simp only[execOp,c4,a2,bc,Sem.run_bind,Result.andThen_ok,Sem.run_pure];show K3 (a7.put oe.dst (.tuple #[e.key,e.val])) w7;rw[cz];refine cy _ _ ?_;have b7:aD w7 A7 M7 e.key (.str (fh bx k)):=by rw[ba,W];exact .str tk
  have bp:aD w7 A7 M7 e.val (fZ nb bx k):=a5.rel ah;have ay:=Z.put (d:=some te) Z.base Z.outer Mv.refl Z.heap (aD.tuple (w:=w7) (A:=A7) (M:=M7) #[e.key,e.val] [.str (fh bx k),fZ nb bx k] rfl (fun i hi=>by
   rcases i with _|_|i
   . exact b7
   . exact bp
   . simp at hi;omega))
  obtain⟨s2,c0,bj⟩:=au r done s' k hk ca an.nodup (λ i hi=>by have:=an.lt i hi;rwa [FG]at this) Y
  have bh:=ay.door n;refine xyW (Inv:=⟨Inv.inv,n,Inv.top⟩) ⟨ax.below⟩ hI c0 bh λ a9 w9⟨A9,M9,hs9⟩=>?_
  refine bj w0 _ w9 A9 M9 a9 _ hI (zd n) hs9 ?_ ro ct;rintro ee ss aa ww hq ⟨A10,M10,a3⟩;cases aw:step s' k with
  |inl s3=>
   rw[aw]at hq;obtain⟨rfl,bf⟩:=hq;obtain⟨A11,M11,O⟩:=bf w0 _ ww A10 M10 aa (zd n) a3;obtain⟨O,aq⟩:=ay.undoor (a4 s') O;have bg:=ad.mv ay.heap aq;exact⟨_,b1,done++[k],s3,A11,M11,ac,O,bg,by rw[List.foldl_append,Y];exact aw,rfl⟩
  |inr q=>
   rw[aw]at hq;obtain⟨rfl,bf⟩:=hq;obtain⟨A11,M11,O⟩:=bf w0 _ ww A10 M10 aa (zd n) a3;obtain⟨O,aq⟩:=ay.undoor (a4 s') O;obtain⟨l',cj⟩:=Up ad.nodup ad.lt;rw[FG]at cj;refine hQ .ret _ _ _ ⟨(done++[k])++l',cj,?_⟩ ⟨A11,M11,O⟩;rw[List.foldl_append,List.foldl_append,Y];show match List.foldl (jH step) (step s' k) l' with|.inl _=>_|.inr _=>_
   rw[aw,UT];exact⟨rfl,rfl⟩
section
variable{w:World}{A:Nat->Prop}{M:Id->Option MB}{B:Nat}{H:List aC}
end
def kB:Code->List Code|.seq a b=>(match n9 a with|true=>[.seq a b]|false=>kB a++kB b)|.block _ c=>kB c|.loop c=>kB c|.cond _ a b=>kB a++kB b|_=>[]
noncomputable def bZ(fn:Func):Code:=(kB (fn.body.getD .skip)).getD 0 .skip
noncomputable def kA:Code->Code|.seq _ (.block _ (.loop (.seq _ (.seq _ (.block _ (.seq _ b))))))=>b|_=>.skip
noncomputable def em:Code->Array Oper|.seq _ (.block _ (.loop (.seq _ (.seq _ (.block _ (.seq (.region _ ops _) _))))))=>ops|_=>#[]
def XM(P:Program)(E:cZ)(ops:Array Oper)(q:Code)(live:List Nat)(ts:List AV)(H:List aC):Option (Exit×List AV×List aC):=cR P E none (some true) ops (ops.toList.drop 1) ⟨ts,H⟩ λ s1=>X P E none q s1 λ e2 s2=>match gw E.pin [] live s2 with|some (vs,H')=>jQ vs λ vs=>kD H' λ H'=>br (Nat.beq s2.tmps.length E.nt) (some (e2,vs,H')) none|none=>none
def rU{E:cZ}(J:di P Inv E){l:List Oper}{T:Type}{r:T}{K:St->Option T}(h:cR P E none (some true) ops l s K=some r):∃s',d7 (iG P Inv) ops l s s'/\K s'=some r:=by(have q:¬ (λ t:Option T=>t=some r) none:=by simp);have hA:∀o s(K:St->Option T),(λ t:Option T=>t=some r) (nY P E none (some true) o s K)->∃s1,iG P Inv s o s1/\(λ t:Option T=>t=some r) (K s1):=λ o s K h=>NQ (good:=λ t:Option T=>t=some r) q J h;exact vt (good:=λ t:Option T=>t=some r) q hA l s K h
def xKn{E:cZ}(Y:P.follows .mixedOrders)(W:bP Inv)(J:Inv.pin=E.pin)(O:di P Inv E){q:Code}(V:cV P Inv E q){live:List Nat}{ts vs:List AV}{H':List aC}{e0:Exit}(h:XM P E ops q live ts H=some (e0,vs,H')):∃s2,d7 (iG P Inv) ops (ops.toList.drop 1) ⟨ts,H⟩ s2/\bL P Inv q (λ e s'=>e=e0/\dC Inv.pin s' ⟨aX E.nt (live.zip vs),H'⟩) s2:=by unfold XM at h;obtain⟨s2,h1,h2⟩:=rU O h;refine⟨s2,h1,mg (oJ (good:=λ t=>t=some (e0,vs,H')) Y W J Ψ O q _ _ V h2) λ e s' hq=>?_⟩;split at hq;(case h_2=>simp at hq);rename_i Z H1 Q;rw[kH,lR]at hq;obtain⟨h3,h4⟩:=jZ (good:=λ t=>t=some (e0,vs,H')) Ψ hq;simp only[z6,zb]at h4;obtain⟨rfl,rfl,rfl⟩:=h4;have hw:=vn Q;rw[zg h3,<-J]at hw;exact⟨rfl,hw⟩
end Go.Sim
end
noncomputable section
set_option maxRecDepth 10000
namespace Go.Sim
open Go.RowKit
def MR(p:Id->Bool)(M:Id->Option MB):Id->Option MB:=λ id=>match p id with|true=>M id|false=>none
variable {M:Id->Option MB}{p:Id->Bool}
def rj{id:Id}{m:MB}(h:MR p M id=some m):p id/\M id=some m:=by unfold MR at h;cases hp:p id with|true=>rw[hp]at h;exact⟨rfl,h⟩|false=>rw[hp]at h;simp at h
def GG{id:Id}{m:MB}(hp:p id)(h:M id=some m):MR p M id=some m:=by unfold MR;rw[hp];exact h
mutual
def AV.inP(p:Id->Bool):AV->Bool|.agg cs=>AV.inPs p cs|.own id _ _ _=>p id|.osl id _ _ _=>p id|.func _ cs=>AV.inPs p cs|.tuple vs=>AV.inPs p vs|_=>true
def AV.inPs(p:Id->Bool):List AV->Bool|[]=>true|x::xs=>AV.inP p x&&AV.inPs p xs
end
variable {p:Id->Bool}
def Ga:∀{xs:List AV},AV.inPs p xs->∀i,AV.inP p (xs.getD i .top)=true|[],_,i=>by simp[AV.inP]|x::xs,h,i=>by rw[AV.inPs,zf]at h;cases i with|zero=>simpa using h.1|succ i=>simpa using Ga h.2 i
variable {M:Id->Option MB}
def aD.part{w:World}{A:Nat->Prop}{v:Value}{x:AV}(h:aD w A M v x)(p:Id->Bool)(hx:x.inP p):aD w A (MR p M) v x:=by induction h with|top v=>exact .top v|bool b=>exact .bool b|int k n=>exact .int k n|str s=>exact .str s|agg vs cs h hr ih=>exact .agg vs cs h λ i hi=>ih i hi (Ga (by simpa[AV.inP]using hx) i)|nils=>exact .nils|list0 a cap sz=>exact .list0 a cap sz|list b off cap sz xs val ha hb hne hcap hsz hcc hr ih=>exact .list b off cap sz xs val ha hb hne hcap hsz hcc hr|eptr b off sz xs i0 j0 val ha hb hi hsz hcc hr ih=>exact .eptr b off sz xs i0 j0 val ha hb hi hsz hcc hr|own v id ver i j m hm hv h1 he=>exact .own v id ver i j m (GG (by simpa[AV.inP]using hx) hm) hv h1 he|osl v id ver off len m hm hv h1 he=>exact .osl v id ver off len m (GG (by simpa[AV.inP]using hx) hm) hv h1 he|nilptr=>exact .nilptr|func f vs cs h hr hf ih=>exact .func f vs cs h (λ i hi=>ih i hi (Ga (by simpa[AV.inP]using hx) i)) hf|vptr b off v0 x ha hb hc hr ih=>exact .vptr b off v0 x ha hb hc (ih (by simpa[AV.inP,AV.inPs]using hx))|nilfn=>exact .nilfn|nmap=>exact .nmap|empt a=>exact .empt a|tuple vs cs h hr ih=>exact .tuple vs cs h λ i hi=>ih i hi (Ga (by simpa[AV.inP]using hx) i)|gptr g=>exact .gptr g|yld l=>exact .yld l
def ja(p:Id->Bool)(bx:aC):Bool:=match bx.pm with|true=>!(bW bx.ty&&!dD bx.ty)|false=>!(bW bx.ty)&&bx.xs.all λ x=>AV.inPs p x.cells
def xKF{bx:aC}{j:Nat}(hs:de bx.ty j=false):MV (MR p M) bx j=MR p (MV M bx j):=by unfold MV MP;rw[hs];cases bx.pm;rfl;funext id;unfold MR er;cases p id<;>rfl
def BoxAt.part{w:World}{A:Nat->Prop}{B:Nat}{id:Id}{m:MB}{bx:aC}(h:BoxAt w A M B id m bx)(hp:ja p bx)(hs:∀j,j<bx.sz->de bx.ty j=false):BoxAt w A (MR p M) B id m bx:=by refine⟨h.ver,h.sz,h.ty,h.capm,h.fits,h.ok,h.low,h.lt,λ h0=>?_,h.guard⟩;obtain⟨c,h1,h2,h3⟩:=h.cells h0;refine⟨c,h1,h2,λ i j hi hj=>?_⟩;have h4:=h3 i j hi hj;replace hs:=hs j (by rw[h.sz];exact hj);rw[xKF hs];cases q:bx.pm with|true=>(have e:MV M bx j=er:=by unfold MV MP;rw[hs,q]);(rw[e]at h4|-;have e2:MR p er=er:=by funext id;unfold MR er;cases p id<;>rfl);rw[e2];exact h4|false=>(have e:MV M bx j=M:=by unfold MV MP;rw[hs,q]);(rw[e]at h4|-;have e3:fy id.base i j bx.ty ((bx.xs.getD i .top).cells.getD j .top)=(bx.xs.getD i .top).cells.getD j .top:=by unfold fy;rw[hs]);rw[e3]at h4|-;refine h4.part p (Ga ?_ j);unfold ja at hp;rw[q]at hp;simp only[zf,zI]at hp;refine hp.2 _ ?_;rw[z7,ze hi];exact zo hi
def pB(q:Nat->Bool):Id->Bool|.b n=>q n|.r _ _ _=>false
variable {H:List aC}{q:Nat->Bool}
def HR.part{w:World}{A:Nat->Prop}{B:Nat}(h:HR w A M B H)(hq:∀n bx,H[n]?=some bx->q n->ja (pB q) bx/\∀j,j<bx.sz->de bx.ty j=false):HR w A (MR (pB q) M) B H:=by refine⟨λ id m hm=>?_,λ id id' m m' h1 h2=>h.inj id id' m m' (rj h1).2 (rj h2).2,h.lt⟩;obtain⟨hp,hm⟩:=rj hm;obtain⟨bx,hb,J⟩:=h.box id m hm;refine⟨bx,hb,?_⟩;cases id with|r n i j=>simp[pB]at hp|b n=>obtain⟨h1,h2⟩:=hq n bx hb hp;exact J.part h1 h2
def HR.swap{w:World}{A:Nat->Prop}{B:Nat}{H':List aC}(h:HR w A (MR (pB q) M) B H)(hq:∀n,q n->H'[n]?=H[n]?):HR w A (MR (pB q) M) B H':=by refine⟨λ id m hm=>?_,h.inj,h.lt⟩;obtain⟨bx,hb,J⟩:=h.box id m hm;refine⟨bx,?_,J⟩;obtain⟨hp,_⟩:=rj hm;cases id with|r n i j=>simp[pB]at hp|b n=>show H'[n]?=some bx;rw[hq n hp];exact hb
def HR.apart{w w':World}{A A':Nat->Prop}{M' N:Id->Option MB}{B:Nat}(h:HR w A N B H)(hm:Mv w A M w' A' M')(O:∀b,A' b->b<w'.heap.size)(hd:∀id m id' m',N id=some m->0<m.cap->M id'=some m'->0<m'.cap->m.b≠m'.b):HR w' A' N B H:=by have J:∀id m,N id=some m->0<m.cap->∀id' m',M id'=some m'->0<m'.cap->m'.b≠m.b:=λ id m h1 h2 id' m' h3 h4 e=>hd id m id' m' h1 h2 h3 h4 e.symm;refine⟨λ id m hi=>?_,h.inj,O⟩;obtain⟨bx,hb,q⟩:=h.box id m hi;refine⟨bx,hb,q.mono (λ h0=>hm.touch.1 _ (q.lt h0) (J id m hi h0)) hm.keep hm.size hm.less (λ h0=>?_) (λ id m h=>⟨m,h,.inl rfl⟩)⟩;rw[q.guard h0];exact⟨λ ha=>hm.more _ (q.lt h0) ha (J id m hi h0),λ ha=>hm.less _ (q.lt h0) ha⟩
def MJ(M N:Id->Option MB):Id->Option MB:=λ id=>match id with|.b 0=>M id|.r _ _ _=>none|.b _=>N id
end Go.Sim
end
noncomputable section
set_option maxRecDepth 10000
namespace Go.Sim
open Go.RowKit
structure EntV where
 g:Nat
 row:List AV
 a:List AV
 b:List AV
 va:Nat
 vb:Nat
def EntV.E(e:EntV):aC:=⟨0,3,94,[.agg [.list 3 e.row,.osl (.b 2) e.va 0 e.a.length,.osl (.b 3) e.vb 0 e.b.length]],false,false⟩
def EntV.A(e:EntV):aC:=⟨e.va,3,100,e.a,false,true⟩
def EntV.B(e:EntV):aC:=⟨e.vb,3,100,e.b,false,true⟩
def q0(n:Nat):Bool:=Nat.beq n 0
def lJ:Nat->Bool|1=>true|2=>true|3=>true|_=>false
def C5:aC:=⟨0,0,0,[],false,true⟩
structure EntAt (w:World) (A:Nat->Prop) (B F:Nat) (e:EntV) (N:Id->Option MB):Prop where
 hr:HR w A N B [C5,e.E,e.A,e.B]
 ids:∀id m,N id=some m->pB lJ id
 one:∃m,N (.b 1)=some m/\0<m.cap/\m.b=e.g
 two:∃m,N (.b 2)=some m
 three:∃m,N (.b 3)=some m
 fresh:∀id m,N id=some m->0<m.cap->F<=m.b
def cA(M N:Id->Option MB):Prop:=∀id m id' m',M id=some m->0<m.cap->N id'=some m'->0<m'.cap->m.b≠m'.b
def cA.symm{M N:Id->Option MB}(h:cA M N):cA N M:=λ id m id' m' h1 h2 h3 h4 e=>h id' m' id m h3 h4 h1 h2 e.symm
section
variable{w w' w0:World}{A A':Nat->Prop}{M M' N:Id->Option MB}{B F:Nat}{e:EntV}{A0:Cx}{a:Act}
def EntAt.go(h:EntAt w A B F e N)(hm:Mv w A M w' A' M')(q:∀b,A' b->b<w'.heap.size)(hd:cA N M):EntAt w' A' B F e N:=⟨h.hr.apart hm q hd,h.ids,h.one,h.two,h.three,h.fresh⟩
def EntAt.lt(h:EntAt w A B F e N){id:Id}{m:MB}(hi:N id=some m)(h0:0<m.cap):m.b<w.heap.size:=by obtain⟨bx,_,hb⟩:=h.hr.box id m hi;exact hb.lt h0
def cA.go(h:EntAt w A B F e N)(hd:cA N M)(hm:Mv w A M w' A' M'):cA N M':=λ id m id' m' h1 h2 h3 h4 he=>by have q:=h.lt h1 h2;rcases hm.touch.2 id' m' h3 h4 with⟨i,m1,g1,g2,g3⟩|g;exact hd id m i m1 h1 h2 g1 g2 (by rw[he,g3]);omega
def EntAt.own(h:EntAt w A B F e N){v:Value}(hv:v=.pointer (some ⟨e.g,0,none⟩)):aD w A N v (.own (.b 1) 0 0 0):=by(obtain⟨m,h1,h2,h3⟩:=h.one;obtain⟨bx,hb,q⟩:=h.hr.box _ _ h1;obtain rfl:e.E=bx:=by simpa[getB]using hb);(have O:m.ver=0:=q.ver.symm;have J:dD m.ty=false:=by rw[<-q.ty];rfl);subst hv;refine .own _ (.b 1) 0 0 0 m h1 (zQ _) rfl λ _=>?_;unfold fE;rw[J,h3];simp
def Gv{id:Id}{m:MB}(h:MJ M N id=some m):(id=.b 0/\M id=some m)\/(∃k,id=.b (k+1)/\N id=some m):=by unfold MJ at h;split at h;exact .inl ⟨rfl,h⟩;simp at h;rename_i n hn;cases n with|zero=>exact absurd rfl hn|succ k=>exact .inr ⟨k,rfl,h⟩
def U7(hM:∀id m,M id=some m->pB q0 id):aR M (MJ M N):=λ id m h=>by refine⟨m,?_,.inl rfl⟩;have:=hM id m h;cases id with|r n i j=>simp[pB]at this|b n=>cases n with|zero=>exact h|succ k=>simp[pB,q0]at this
def U8(hN:∀id m,N id=some m->pB lJ id):aR N (MJ M N):=λ id m h=>by refine⟨m,?_,.inl rfl⟩;have:=hN id m h;cases id with|r n i j=>simp[pB]at this|b n=>cases n with|zero=>simp[pB,lJ]at this|succ k=>exact h
variable {b0:aC}
def HR.join(h0:HR w A M B [b0])(hM:∀id m,M id=some m->pB q0 id)(he:EntAt w A B F e N)(hd:cA N M):HR w A (MJ M N) B [b0,e.E,e.A,e.B]:=by refine⟨λ id m h=>?_,λ id id' m m' h h' c c' hb=>?_,h0.lt⟩;rcases Gv h with⟨rfl,h⟩|⟨k,rfl,h⟩;obtain⟨bx,hb,q⟩:=h0.box _ _ h;refine⟨bx,?_,q.mono (λ _=>rfl) (λ _ _ _=>rfl) (zd _) (λ _ _ h=>h) q.guard (U7 hM)⟩;simpa[getB]using hb;obtain⟨bx,hb,q⟩:=he.hr.box _ _ h;refine⟨bx,?_,q.mono (λ _=>rfl) (λ _ _ _=>rfl) (zd _) (λ _ _ h=>h) q.guard (U8 he.ids)⟩;simpa[getB]using hb;rcases Gv h with⟨rfl,h⟩|⟨k,rfl,h⟩<;>rcases Gv h' with⟨rfl,h'⟩|⟨k',rfl,h'⟩;rfl;exact absurd hb.symm (hd _ _ _ _ h' c' h c);exact absurd hb (hd _ _ _ _ h c h' c');exact he.hr.inj _ _ _ _ h h' c c' hb
variable {ts:List AV}
def SR.join(hs:SR w0 A0 w A M ⟨ts,[b0]⟩ a)(hM:∀id m,M id=some m->pB q0 id)(hp:A0.pin=0)(he:EntAt w A w0.heap.size A0.w1.heap.size e N)(hd:cA N M):SR w0 A0 w A (MJ M N) ⟨ts,[b0,e.E,e.A,e.B]⟩ a:=
 ⟨hs.base,hs.outer,hs.size,fun t ht=>(hs.tmps t ht).mono (fun _ _ _=>rfl) (zd _) (fun _ _ h=>h) (U7 hM),hs.heap.join hM he hd,hs.defers,
  ⟨hs.ev.size,hs.ev.keep,hs.ev.less,hs.ev.more,fun id m h=>by rw [hp] at h;exact absurd h (Nat.not_lt_zero _),fun id m h h0=>by
   rcases Gv h with⟨rfl,h⟩|⟨k,rfl,h⟩
   . exact hs.ev.src _ _ h h0
   . exact .inr (he.fresh _ _ h h0)⟩⟩
def ko(ts:List AV):List AV:=ts.map λ x=>match x.inP (pB q0)with|true=>x|false=>.top
def SR.cut{T:List aC}(hs:SR w0 A0 w A M ⟨ts,b0::T⟩ a)(hp:A0.pin=0)(h0:ja (pB q0) b0)(J:∀j,j<b0.sz->de b0.ty j=false):SR w0 A0 w A (MR (pB q0) M) ⟨ko ts,[b0]⟩ a:=by
 refine⟨hs.base,hs.outer,by rw[hs.size];simp[ko],λ t ht=>?_,?_,hs.defers,⟨hs.ev.size,hs.ev.keep,hs.ev.less,hs.ev.more,λ id m h=>by rw[hp]at h;exact absurd h (Nat.not_lt_zero _),λ id m h h0=>hs.ev.src _ _ (rj h).2 h0⟩⟩
 . have ht':t<ts.length:=by simpa[ko]using ht
   have h1:=hs.tmps t ht';have e:(ko ts).getD t .top=match (ts.getD t .top).inP (pB q0)with
    |true=>ts.getD t .top
    |false=>.top:=by
    unfold ko;simp only[z7,List.getElem?_map,ze ht',Option.map_some,zh]
   show aD w A _ _ ((ko ts).getD t .top);rw[e];cases hc:(ts.getD t .top).inP (pB q0)with
   |true=>exact h1.part _ hc
   |false=>exact .top _
 . refine(hs.heap.part (q:=q0) λ n bx hb hq=>?_).swap λ n hq=>?_
   . cases n with
     |succ n=>simp[q0]at hq
     |zero=>
      obtain rfl:b0=bx:=by simpa using hb
      exact⟨h0,J⟩
   . cases n with
     |succ n=>simp[q0]at hq
     |zero=>rfl
end
end Go.Sim
end
noncomputable section
set_option maxRecDepth 100000
namespace Go.Sim
open Go.RowKit
section
variable{P:Program}{Inv:IV}{w0 w:World}{A0:Cx}{A:Nat->Prop}{M:Id->Option MB}{a:Act}
def S7(q:bP Inv)(hI:Inv w0){ro:Option Nat}{id:Nat}{ops:Array Oper}{Q:Exit->Act->World->Prop}{s s':St}(J:aO ops)(hp:d7 (iG P Inv) ops ops.toList s s')(hs:SR w0 A0 w A M s a)(hK:∀a' w' A' M',SR w0 A0 w' A' M' s' a'->Mv w A M w' A' M'->Q .normal a' w'):(Code.region id ops false).wpIn (cP ro) 0 P Q a w:=by refine wpIn_region_list (pM ro 0 _ (rd J) _ _ ?_);rw[<-zD ops.toList];exact tJ q hI hp hs λ a' w' A' M' h1 h2=>wpList_nil (hK a' w' A' M' h1 h2)
end
end Go.Sim
namespace Go.Sim.M
open Go.RowKit Go.Proofs
noncomputable def iz:Code->Nat->Code|.region id ops d,n=>(match Nat.beq id n with|true=>.region id ops d|false=>.skip)|.seq a b,n=>(match iz a n with|.skip=>iz b n|c=>c)|.cond _ a b,n=>(match iz a n with|.skip=>iz b n|c=>c)|.block _ c,n=>iz c n|.loop c,n=>iz c n|_,_=>.skip
noncomputable def oh:Code->Array Oper|.region _ ops _=>ops|_=>#[]
noncomputable abbrev gB:Code:=Tryz.f105.body.getD .skip
noncomputable abbrev gO(n:Nat):Array Oper:=oh (iz gB n)
noncomputable abbrev EG:cZ:=GF.E.fn 19 0 (dQ [94]) (iS [])
def xND:gB=.seq (.region 0 (gO 0) false) (.seq (.region 1 (gO 1) false) (.seq (.seq (.region 2 (gO 2) false) (.cond (.tmp 10) (.region 3 (gO 3) false) .skip)) (.seq (.region 4 (gO 4) false) .ret))):=Θ
noncomputable def mapB(ms:List AV):aC:=⟨0,2,dt 88,ms,false,true⟩
noncomputable def jN(row:List AV):aC:=⟨0,3,94,[.agg [.list 3 row,.nils,.nils]],false,true⟩
def gT(row:List AV)(x:Nat->AV):List AV:=[.list 3 row,.func vpF [.own (.b 0) 0 0 0],x 2,x 3,x 4,x 5,x 6,x 7,x 8,x 9,x 10,x 11,x 12,x 13,x 14,x 15,x 16,x 17,x 18]
def gU:AV:=.tuple []
def ug(row:List AV):List AV:=gT row λ _=>gU
def xNL:aO (gO 0):=Θ
def xNM:aO (gO 1):=Θ
def xNN:aO (gO 2):=Θ
def xNO:aO (gO 3):=Θ
def xNP:aO (gO 4):=Θ
noncomputable def GL(row:List AV)(k:List UInt8):List AV:=((((ug row).set 3 .nilptr).set 5 (.list 3 row)).set 6 (.str k)).set 4 (.str k)
def xOi(row ms:List AV):cR Tryz.prog EG none (some true) (gO 0) (gO 0).toList ⟨ug row,[mapB ms]⟩ some=some ⟨(ug row).set 3 .nilptr,[mapB ms]⟩:=Θ
def xOj(row ms:List AV):cR Tryz.prog EG none (some true) (gO 1) (gO 1).toList ⟨(ug row).set 3 .nilptr,[mapB ms]⟩ some=br (iP row).isSome (some ⟨GL row ((iP row).getD []),[mapB ms]⟩) none:=Θ
def xNS(row ms:List AV)(k:List UInt8):cR Tryz.prog EG none (some true) (gO 2) ((gO 2).toList.take 2) ⟨GL row k,[mapB ms]⟩ some=some ⟨((GL row k).set 7 (.own (.b 0) 0 0 0)).set 8 (.str k),[mapB ms]⟩:=Θ
def xOb:(gO 2).toList=(gO 2).toList.take 2++[(gO 2).toList.getD 2 default,(gO 2).toList.getD 3 default]:=Θ
def xOe:((gO 2).toList.getD 2 default).op=.lookup 88 (.tmp 7) (.tmp 8) false:=Θ
def xN6:((gO 2).toList.getD 2 default).dst=some 9:=Θ
def xN8:((gO 2).toList.getD 2 default).guard=none:=Θ
def X4:((gO 2).toList.getD 3 default).dst=some 10:=Θ
def xN9:((gO 2).toList.getD 3 default).guard=none:=Θ
def xOk:(bN Tryz.prog 90).map (·.zero)=some .nilptr:=Θ
def xOh:∃d,Tryz.prog.underlying 90=some (.pointer d):=⟨94,by kernel_rfl⟩
def N4:Tryz.prog.underlying 88=some (.map 9 90):=Θ
def X3:Tryz.prog.underlying 9=some .string:=Θ
def N3:dD (dt 88):=Θ
def DI:de (dt 88) 0=false:=Θ
def DJ:de (dt 88) 1=false:=Θ
variable {T:List aC}{k:List UInt8}{ms:List AV}{ρ:Operand->AV}
def VR{t1 t2:Tmp}(h1:ρ (.tmp t1)=.own (.b 0) 0 0 0)(h2:ρ (.tmp t2)=.str k)(hk:k.length<=f7):nF Tryz.prog ρ (mapB ms::T) (.lookup 88 (.tmp t1) (.tmp t2) false)=some (eP .nilptr ms k,mapB ms::T):=by(obtain⟨e,he⟩:=xOh;have h7:bS (mapB ms::T) 0 0=some (mapB ms):=by unfold bS;show (if _ then _ else _)=_;rw[if_pos];exact⟨rfl,N3,DI,DJ,rfl,rfl⟩);have q:=xOk;cases hd:bN Tryz.prog 90 with|none=>rw[hd]at q;simp at q|some d=>rw[hd]at q;simp only[Option.map_some,z6]at q;simp only[nF,h1,h2,bH,dr,N4,X3,he,hd,h7,q,hk,if_true];rfl
def xKs(g:Nat)(w:World):(binOp .eql 90 (.pointer (some ⟨g,0,none⟩)) (.pointer none)).run Tryz.prog w=.ok (.bool false) w:=by rfl
def xIL(w:World):(binOp .eql 90 (.pointer none) (.pointer none)).run Tryz.prog w=.ok (.bool true) w:=by rfl
noncomputable def GM(row:List AV)(k:List UInt8):List AV:=((GL row k).set 7 (.own (.b 0) 0 0 0)).set 8 (.str k)
noncomputable def wA(row:List AV)(k:List UInt8)(x:AV)(b:Bool):List AV:=((GM row k).set 9 x).set 10 (.bool b)
noncomputable def Mn(row:List AV)(k:List UInt8):List AV:=(((((wA row k .nilptr true).set 11 (.own (.b 0) 0 0 0)).set 12 (.str k)).set 13 (.list 3 row)).set 14 (.agg [.list 3 row,.nils,.nils])).set 15 (.own (.b 1) 0 0 0)
def xNT(row ms:List AV)(k:List UInt8):cR Tryz.prog EG none (some true) (gO 3) ((gO 3).toList.take 5) ⟨wA row k .nilptr true,[mapB ms]⟩ some=some ⟨Mn row k,[mapB ms,jN row]⟩:=Θ
def xOc:(gO 3).toList=(gO 3).toList.take 5++[(gO 3).toList.getD 5 default]:=Θ
def xOf:((gO 3).toList.getD 5 default).op=.mapUpdate 88 (.tmp 11) (.tmp 12) (.tmp 15):=Θ
def xN7:((gO 3).toList.getD 5 default).dst=none:=Θ
def xOa:((gO 3).toList.getD 5 default).guard=none:=Θ
def xOd:(gO 4).toList=(gO 4).toList.take 2++[(gO 4).toList.getD 2 default,(gO 4).toList.getD 3 default]:=Θ
def xNQ:((gO 4).toList.getD 2 default).op=.lookup 88 (.tmp 16) (.tmp 17) false:=Θ
def xNE:((gO 4).toList.getD 2 default).dst=some 18:=Θ
def xNJ:((gO 4).toList.getD 2 default).guard=none:=Θ
def xNR:((gO 4).toList.getD 3 default).op=.assign (.tmp 18):=Θ
def xNF:((gO 4).toList.getD 3 default).dst=some 3:=Θ
def xNK:((gO 4).toList.getD 3 default).guard=none:=Θ
def X0:((gO 2).toList.getD 3 default).op=.binOp .eql 90 (.tmp 9) (.const (.pointer none)) 90:=Θ
def xNW:Tryz.f105.results.toList=[.tmp 3]:=Θ
def xMT{t1 t2 t3:Tmp}{g:Nat}(h1:ρ (.tmp t1)=.own (.b 0) 0 0 0)(h2:ρ (.tmp t2)=.str k)(h3:ρ (.tmp t3)=.gptr g)(hk:k.length<=f7)(hm:ms.length<f7):nF Tryz.prog ρ (mapB ms::T) (.mapUpdate 88 (.tmp t1) (.tmp t2) (.tmp t3))=some (.tuple [],mapB (dT ms k (.gptr g))::T):=by(have h7:bS (mapB ms::T) 0 0=some (mapB ms):=by unfold bS;show (if _ then _ else _)=_;rw[if_pos];exact⟨rfl,N3,DI,DJ,rfl,rfl⟩);have h8:(mapB ms).frz=false/\(AV.gptr g).one/\(AV.gptr g).pure/\(mapB ms).xs.length<f7/\k.length<=f7:=⟨rfl,rfl,rfl,hm,hk⟩;simp only[nF,h1,h2,h3,fz,N4,X3,h7,h8,and_self,if_true];rfl
def xws:∀{ms:List AV}{j:Nat},aP ms k=some j->∀i,i<j->fC k ((ms.getD i .top).cells.getD 0 .top)=false|[],j,h,_,_=>by simp[aP]at h|e::es,j,h,i,hi=>by rw[aP]at h;cases hc:fC k (e.cells.getD 0 .top)with|true=>rw[hc]at h;simp only[z6]at h;omega|false=>rw[hc]at h;cases hm:aP es k with|none=>rw[hm]at h;simp at h|some j'=>rw[hm]at h;simp only[Option.map_some,z6]at h;cases i with|zero=>simpa using hc|succ i=>simpa using xws hm i Ω
def xwt:∀{ms:List AV},aP ms k=none->∀i,i<ms.length->fC k ((ms.getD i .top).cells.getD 0 .top)=false|[],_,i,hi=>by simp at hi|e::es,h,i,hi=>by rw[aP]at h;cases hc:fC k (e.cells.getD 0 .top)with|true=>rw[hc]at h;simp at h|false=>rw[hc]at h;cases hm:aP es k with|some j'=>rw[hm]at h;simp at h|none=>cases i with|zero=>simpa using hc|succ i=>simpa using xwt hm i (by simpa using hi)
def xKw{v:AV}:∀{ms:List AV},eP .nilptr (dT ms k v) k=v
 |ms=>by
  have q:aN ms k<(dT ms k v).length:=by
   unfold dT aN;cases h:aP ms k with
   |some i=>simpa using vF h
   |none=>simp
  have h1:(dT ms k v).getD (aN ms k) .top=.agg [.str k,v]:=by rw[FT,if_pos rfl]
  have h2:aP (dT ms k v) k=some (aN ms k):=by
   refine KG q (by rw[h1];simp[AV.cells,fC]) λ i hi=>?_
   rw[FT,if_neg (by omega)]
   unfold aN at hi;cases h:aP ms k with
   |some j=>
    rw[h]at hi;exact xws h i hi
   |none=>
    rw[h]at hi;exact xwt h i hi
  unfold eP;rw[h2];dsimp only;rw[h1];rfl
end Go.Sim.M
end
noncomputable section
set_option maxRecDepth 100000
namespace Go.Sim.M
open Go.RowKit Go.Proofs
def fw(n:Nat):bP (xQa.at n):=xPE Tryz.prog n
def MT:di Tryz.prog (xQa.at 0) EG:=GF.ok.fn
def qk(ts:List AV)(k:List UInt8):List AV:=(ts.set 16 (.own (.b 0) 0 0 0)).set 17 (.str k)
def uf(ts:List AV)(k:List UInt8)(g:Nat):List AV:=((qk ts k).set 18 (.gptr g)).set 3 (.gptr g)
def xMC{ts:List AV}(hl:ts.length=19)(k:List UInt8)(g:Nat)(H:List aC):dA Tryz.prog ⟨uf ts k g,H⟩ Tryz.f105.results.toList=some [.gptr g]:=by(have e:(uf ts k g).getD 3 .top=.gptr g:=by unfold uf qk;simp[z7,hl]);(rw[xNW];have e2:gr Tryz.prog ⟨uf ts k g,H⟩ (.tmp 3)=some (.gptr g):=by show some ((uf ts k g).getD 3 .top)=_;rw[e]);simp only[dA,e2]
def Gg{ops:Array Oper}{l:List Oper}{s s':St}(h:cR Tryz.prog EG none (some true) ops l s some=some s'):d7 (iG Tryz.prog (xQa.at 0)) ops l s s':=by obtain⟨s1,h1,h2⟩:=rU MT h;cases h2;exact h1
section
variable{w0 w:World}{A0:Cx}{A:Nat->Prop}{M:Id->Option MB}{a:Act}
def Xv(hI:xQa w0){ts ms:List AV}{k:List UInt8}{T:List aC}{g:Nat}(q:ts.length=19)(hp:cR Tryz.prog EG none (some true) (gO 4) ((gO 4).toList.take 2) ⟨ts,mapB ms::T⟩ some=some ⟨qk ts k,mapB ms::T⟩)(V:k.length<=f7)(hg:eP .nilptr ms k=.gptr g)(hs:SR w0 A0 w A M ⟨ts,mapB ms::T⟩ a){Q:Exit->Act->World->Prop}(hK:∀a' w' A' M',SR w0 A0 w' A' M' ⟨uf ts k g,mapB ms::T⟩ a'->Mv w A M w' A' M'->Q .normal a' w'):(Code.region 4 (gO 4) false).wpIn (cP none) 0 Tryz.prog Q a w:=by
 refine wpIn_region_list (pM none 0 _ (rd xNP) _ _ ?_);rw[xOd];refine tJ (fw 0) hI (Gg hp) hs λ a1 w1 A1 M1 Z O=>wpList_plain xNJ λ K ab=>?_;have hl:iG Tryz.prog (xQa.at 0) ⟨qk ts k,mapB ms::T⟩ ((gO 4).toList.getD 2 default) ⟨(qk ts k).set 18 (.gptr g),mapB ms::T⟩:=by refine .inr (.inl (.inl ⟨.gptr g,mapB ms::T,?_,?_⟩));rw[xNQ,<-hg];exact VR (by simp[St.eval,qk,z7,q]) (by simp[St.eval,qk,z7,q]) V;rw[xNE];rfl
 refine vH (fw 0) hI hl Z λ v w2 A2 M2 aa mv2=>ab _ _ (wpList_plain xNK λ K2 Y=>?_);have W:iG Tryz.prog (xQa.at 0) ⟨(qk ts k).set 18 (.gptr g),mapB ms::T⟩ ((gO 4).toList.getD 3 default) ⟨uf ts k g,(mapB ms::T)++(none:Option aC).toList⟩:=by refine .inl (.inl ⟨.gptr g,none,.inl ?_,?_⟩);rw[xNR];simp[e8,St.eval,qk,z7,q];rw[xNF];rfl
 refine vH (fw 0) hI W aa λ v2 w3 A3 M3 J mv3=>Y _ _ (wpList_nil ?_);simp only[Option.toList,zD]at J;exact hK _ _ _ _ J ((O.trans mv2).trans mv3)
def xNU(row ms:List AV)(k:List UInt8)(g:Nat):cR Tryz.prog EG none (some true) (gO 4) ((gO 4).toList.take 2) ⟨wA row k (.gptr g) false,[mapB ms]⟩ some=some ⟨qk (wA row k (.gptr g) false) k,[mapB ms]⟩:=Θ
noncomputable def nD(row:List AV)(k:List UInt8)(g:Nat):List AV:=(Mn row k).set 15 (.gptr g)
def xNV(row ms:List AV)(k:List UInt8)(g:Nat):cR Tryz.prog EG none (some true) (gO 4) ((gO 4).toList.take 2) ⟨nD row k g,[mapB ms,jN row]⟩ some=some ⟨qk (nD row k g) k,[mapB ms,jN row]⟩:=Θ
end
def xNG(row:List AV)(k:List UInt8)(g:Nat)(H:List aC):St.eval ⟨nD row k g,H⟩ (.tmp 11)=.own (.b 0) 0 0 0:=Θ
def xNH(row:List AV)(k:List UInt8)(g:Nat)(H:List aC):St.eval ⟨nD row k g,H⟩ (.tmp 12)=.str k:=Θ
def xNI(row:List AV)(k:List UInt8)(g:Nat)(H:List aC):St.eval ⟨nD row k g,H⟩ (.tmp 15)=.gptr g:=Θ
def X6(row:List AV)(k:List UInt8)(g:Nat):(nD row k g).length=19:=Θ
def X5(row:List AV)(k:List UInt8)(y:AV)(b:Bool):(wA row k y b).length=19:=Θ
def xOg(row:List AV)(k:List UInt8)(g:Nat):bC (nD row k g) none (.tuple [])=nD row k g:=by rfl
def ln(row ms:List AV)(k:List UInt8)(g:Nat)(H:List aC)(M':Id->Option MB):Prop:=(eP .nilptr ms k=.gptr g/\H=[mapB ms]) \/ (eP .nilptr ms k=.nilptr/\H=[mapB (dT ms k (.gptr g)),jN row]/\∃m,M' (.b 1)=some m/\0<m.cap/\m.b=g)
section
variable{w0 w:World}{A0:Cx}{A:Nat->Prop}{M:Id->Option MB}{a:Act}
def HR.same{w':World}{A':Nat->Prop}{M':Id->Option MB}{B n:Nat}{H H':List aC}{bx bx':aC}{m:MB}(h:HR w A M B H)(h':HR w' A' M' B H')(hx:aR M M')(hb:H[n]?=some bx)(q:H'[n]?=some bx')(hv:bx'.ver=bx.ver)(hm:M (.b n)=some m):M' (.b n)=some m:=by obtain⟨m',h1,h2⟩:=hx _ _ hm;obtain⟨c,g1,g2⟩:=h.box _ _ hm;obtain⟨c',g3,g4⟩:=h'.box _ _ h1;have e1:bx=c:=Option.some.inj (hb.symm.trans g1);have e2:bx'=c':=Option.some.inj (q.symm.trans g3);subst e1 e2;have:=g2.ver;have:=g4.ver;rcases h2 with rfl|h2;exact h1;omega
set_option maxHeartbeats 2000000 in
def xIT(hI:xQa w0){row ms:List AV}{k:List UInt8}(hk:iP row=some k)(Y:k.length<=f7)(hm:ms.length<f7)(a0:eP .nilptr ms k=.nilptr\/∃g,eP .nilptr ms k=.gptr g)(ap:SR w0 A0 w A M ⟨ug row,[mapB ms]⟩ a){Q:Exit->Act->World->Prop}(hQ:∀a' w' A' M' ts H g,SR w0 A0 w' A' M' ⟨uf ts k g,H⟩ a'->ts.length=19->Mv w A M w' A' M'->ln row ms k g H M'->Q .ret a' w'):gB.wpIn (cP none) 0 Tryz.prog Q a w:=by
 rw[xND];refine wpIn_seq (S7 (fw 0) hI xNL (Gg (xOi row ms)) ap λ a1 w1 A1 M1 az aw=>?_);have p1:=xOj row ms;rw[hk,zk,aW,zh]at p1;refine wpIn_seq (S7 (fw 0) hI xNM (Gg p1) az λ a2 w2 A2 M2 am mv2=>?_);refine wpIn_seq (wpIn_seq (wpIn_region_list (pM none 0 _ (rd xNN) _ _ ?_)));rw[xOb];refine tJ (fw 0) hI (Gg (xNS row ms k)) am λ a3 w3 A3 M3 aj mv3=>wpList_plain xN8 λ K ao=>?_;have hl:iG Tryz.prog (xQa.at 0) ⟨GM row k,[mapB ms]⟩ ((gO 2).toList.getD 2 default) ⟨(GM row k).set 9 (eP .nilptr ms k),[mapB ms]⟩:=by refine .inr (.inl (.inl ⟨eP .nilptr ms k,[mapB ms],?_,?_⟩));rw[xOe];exact VR rfl rfl Y;rw[xN6];rfl
 refine vH (fw 0) hI hl aj λ v w4 A4 M4 q al=>ao _ _ (wpList_plain xN9 λ K2 ah=>?_);have aa:=((aw.trans mv2).trans mv3).trans al;generalize a3.put _ v=a4 at q;have h9:=q.eval (.tmp 9);have e9:St.eval ⟨(GM row k).set 9 (eP .nilptr ms k),[mapB ms]⟩ (.tmp 9)=eP .nilptr ms k:=rfl;rw[e9]at h9;have hc:a4.eval (.const (.pointer none))=.pointer none:=rfl;unfold Oper.wp;rcases a0 with hn|⟨g,hg⟩;rw[hn]at h9 q;have v9:a4.eval (.tmp 9)=.pointer none:=by generalize a4.eval (.tmp 9)=u at h9;cases h9;rfl
 simp only[execOp,X0,v9,hc,xIL,Sem.run_bind,Result.andThen_ok,Sem.run_pure];show K2 (a4.put ((gO 2).toList.getD 3 default).dst (.bool true)) w4;rw[X4];refine ah _ _ (wpList_nil ?_);have J:=q.put (d:=some 10) q.base q.outer Mv.refl q.heap (aD.bool (w:=w4) (A:=A4) (M:=M4) true);have J:SR w0 A0 w4 A4 M4 ⟨wA row k .nilptr true,[mapB ms]⟩ (a4.put (some 10) (.bool true)):=J;generalize a4.put (some 10) (.bool true)=a5 at J;have ab:a5.eval (.tmp 10)=.bool true:=by have:=J.eval (.tmp 10);exact this.bool_inv
 refine wpIn_cond_split ab (λ _=>?_) (λ h=>by cases h);refine wpIn_region_list (pM none 0 _ (rd xNO) _ _ ?_);rw[xOc];refine tJ (fw 0) hI (Gg (xNT row ms k)) J λ a6 w6 A6 M6 O mv6=>wpList_plain xOa λ K3 ax=>?_;have V:=O.eval (.tmp 15);have V:aD w6 A6 M6 (a6.eval (.tmp 15)) (.own (.b 1) 0 0 0):=V;obtain⟨m,ai,ar⟩:∃m,M6 (.b 1)=some m/\(m.ver=0->a6.eval (.tmp 15)=fE m 0 0):=by generalize a6.eval (.tmp 15)=u at V;cases V with|own v id ver i j m hm hv h1 he=>exact⟨m,hm,λ h=>he h.symm⟩
 obtain⟨bx,a7,ad⟩:=O.heap.box _ _ ai;obtain rfl:jN row=bx:=by simpa[getB]using a7
 have ae:m.ver=0:=ad.ver.symm;have an:dD m.ty=false:=by rw[<-ad.ty];kernel_rfl
 have hcap:0<m.cap:=Nat.lt_of_lt_of_le (by simp[jN]) ad.fits;have ak:a6.eval (.tmp 15)=.pointer (some ⟨m.b,0,none⟩):=by rw[ar ae];unfold fE;rw[an];simp
 have ag:SR w0 A0 w6 A6 M6 ⟨nD row k m.b,[mapB ms,jN row]⟩ a6:=by refine⟨O.base,O.outer,by rw[O.size];rfl,λ t ht=>?_,O.heap,O.defers,O.ev⟩;by_cases h:t=15;subst h;show aD w6 A6 M6 (a6.tmps.getD 15 undef) (.gptr m.b);have:a6.tmps.getD 15 undef=.pointer (some ⟨m.b,0,none⟩):=ak;rw[this];exact .gptr _;have h1:=O.tmps t (by simpa[nD]using ht);(have e:(nD row k m.b).getD t .top=(Mn row k).getD t .top:=by unfold nD;simp only[z7,List.getElem?_set,Ne.symm h,if_false]);show aD w6 A6 M6 _ ((nD row k m.b).getD t .top);rw[e];exact h1
 have au:iG Tryz.prog (xQa.at 0) ⟨nD row k m.b,[mapB ms,jN row]⟩ ((gO 3).toList.getD 5 default) ⟨nD row k m.b,[mapB (dT ms k (.gptr m.b)),jN row]⟩:=by refine .inr (.inl (.inl ⟨.tuple [],[mapB (dT ms k (.gptr m.b)),jN row],?_,?_⟩));rw[xOf];exact xMT (xNG row k m.b _) (xNH row k m.b _) (xNI row k m.b _) Y hm;rw[xN7];exact congrArg (λ t=>(⟨t,_⟩:St)) (xOg row k m.b).symm
 refine vH (fw 0) hI au ag λ v8 w8 A8 M8 ac af=>ax _ _ (wpList_nil ?_);have aq:=HR.same ag.heap ac.heap af.ext (n:=1) rfl rfl rfl ai;refine wpIn_seq (Xv hI (X6 row k m.b) (xNV row _ k m.b) Y xKw ac λ a9 w9 A9 M9 Z W=>?_);have ay:=HR.same ac.heap Z.heap W.ext (n:=1) rfl rfl rfl aq;refine wpIn_ret (hQ _ _ _ _ _ _ m.b Z (X6 row k m.b) (((aa.trans mv6).trans af).trans W) (.inr ⟨hn,rfl,m,ay,hcap,rfl⟩));rw[hg]at h9 q;have v9:a4.eval (.tmp 9)=.pointer (some ⟨g,0,none⟩):=by generalize a4.eval (.tmp 9)=u at h9;cases h9;rfl
 simp only[execOp,X0,v9,hc,xKs,Sem.run_bind,Result.andThen_ok,Sem.run_pure];show K2 (a4.put ((gO 2).toList.getD 3 default).dst (.bool false)) w4;rw[X4];refine ah _ _ (wpList_nil ?_);have J:=q.put (d:=some 10) q.base q.outer Mv.refl q.heap (aD.bool (w:=w4) (A:=A4) (M:=M4) false);have J:SR w0 A0 w4 A4 M4 ⟨wA row k (.gptr g) false,[mapB ms]⟩ (a4.put (some 10) (.bool false)):=J;generalize a4.put (some 10) (.bool false)=a5 at J;have ab:a5.eval (.tmp 10)=.bool false:=by have:=J.eval (.tmp 10);exact this.bool_inv
 refine wpIn_cond_split ab (λ h=>by cases h) (λ _=>wpIn_skip ?_);refine wpIn_seq (Xv hI (X5 row k (.gptr g) false) (xNU row ms k g) Y hg J λ a9 w9 A9 M9 Z W=>?_);exact wpIn_ret (hQ _ _ _ _ _ _ g Z (X5 row k (.gptr g) false) (aa.trans W) (.inl ⟨hg,rfl⟩))
end
end Go.Sim.M
end
noncomputable section
set_option maxRecDepth 100000
namespace Go.Sim.M
open Go.RowKit Go.Proofs
def xMv:Tryz.f105.body=some gB:=Θ
def XZ:Tryz.f105.ntmps=19:=Θ
variable {args:List AV}{n t:Nat}
def RQ(h:t<args.length):(args++List.replicate n (AV.tuple [])).getD t .top=args.getD t .top:=by simp[z7,zP,h]
def R8(h1:¬ t<args.length)(h2:t - args.length<n):(args++List.replicate n (AV.tuple [])).getD t .top=.tuple []:=by simp[z7,zP,h1,List.getElem?_replicate,h2]
def Xt(row:List AV):ug row=[AV.list 3 row,.func vpF [.own (.b 0) 0 0 0]]++List.replicate 17 (.tuple []):=by rfl
def xHm{w0 w:World}{A:Nat->Prop}{M:Id->Option MB}{vs:List Value}{row ms:List AV}{k:List UInt8}(hI:xQa w0)(Q:Below w0.heap.size w0 w)(hR:HR w A M w0.heap.size [mapB ms])(O:RC w A M vs [.list 3 row,.func vpF [.own (.b 0) 0 0 0]])(hk:iP row=some k)(ab:k.length<=f7)(hm:ms.length<f7)(Z:eP .nilptr ms k=.nilptr\/∃g,eP .nilptr ms k=.gptr g):Calls Tryz.prog 105 vs.toArray w λ e w'=>∃v A' M' g,e=.returned v/\v=.pointer (some ⟨g,0,none⟩)/\Below w0.heap.size w0 w'/\(∀b,b<w0.heap.size->(A' b↔A b))/\Mv w A M w' A' M'/\∃H,HR w' A' M' w0.heap.size H/\ln row ms k g H M':=by
 refine callsIn_wide.1 (callsIn_of_wp_marks (F:=Fence.wide) (n:=0) Tryz.func105 xMv trivial ?_);refine xIT (A0:=⟨A,w,A,M,1,λ _=>False⟩) (A:=A) (M:=M) (k:=k) (row:=row) (ms:=ms) hI hk ab hm Z ⟨Q,λ _ _=>Iff.rfl,?_,λ t ht=>?_,hR,eA.nil,Ev.refl (C:=⟨A,w,A,M,1,λ _=>False⟩)⟩ ?_;rw[XZ];have:=O.1;simp[Xt,this];have hl:=O.1;have hl:vs.length=2:=hl;rw[XZ];show aD w A M _ ((ug row).getD t .top);rw[Xt];by_cases W:t<2;have e1:(vs.toArray++Array.replicate (19 - vs.toArray.size) undef).getD t undef=vs.getD t undef:=by(have:t<vs.length:=Ω);simp[z7,Array.getElem?_append,this]
 rw[e1,RQ W];exact O.2 t W;have ht:t<19:=by have h0:(ug row).length=19:=rfl;rw[<-h0];exact ht
 have h1:¬ t<vs.length:=Ω
 have e1:(vs.toArray++Array.replicate (19 - vs.toArray.size) undef).getD t undef=undef:=by(have h2:t - vs.length<19 - vs.length:=Ω);simp[Array.getElem?_append,h1,h2]
 rw[e1,R8 W (show t - 2<17 by omega)];exact .tuple #[] [] rfl Ψ;intro a' w' A' M' ts H g aa Y ad V;show LeavesInM Fence.wide 0 Tryz.prog Tryz.f105 a'.tmps _ a'.defers .returning w';refine Gb (λ _ h=>h) aa λ w2 J=>?_;obtain⟨v,hv,q⟩:=Kg (P:=Tryz.prog) J (xMC Y k g H);have ac:v=.pointer (some ⟨g,0,none⟩):=by have q:aD w2 A' M' v (.gptr g):=q;cases q;rfl
 exact⟨v,hv,v,A',M',g,rfl,ac,J.base,J.outer,J.ev.mv hR (zd 1),H,J.heap,V⟩
end Go.Sim.M
end
noncomputable section
set_option maxRecDepth 100000
namespace Go.Sim
open Go.RowKit
def mF(live:List Nat)(ts:List AV):List AV:=aX ts.length (live.zip (liveOf live ts))
def dM(live:List Nat)(s:St):St:=⟨mF live s.tmps,s.heap⟩
section
variable{P:Program}{Inv:IV}{w0 w w':World}{A0:Cx}{A A':Nat->Prop}{M M' N N':Id->Option MB}{a:Act}{B F:Nat}{e:EntV}
variable {s:St}
def SR.mask(h:SR w0 A0 w A M s a)(live:List Nat):SR w0 A0 w A M (dM live s) a:=by have hl:(mF live s.tmps).length=s.tmps.length:=Ch _ _;refine⟨h.base,h.outer,h.size.trans hl.symm,λ t ht=>?_,h.heap,h.defers,h.ev⟩;(have ht':t<s.tmps.length:=by rw[<-hl];exact ht);show aD w A M _ ((mF live s.tmps).getD t .top);rcases SG s.tmps.length s.tmps rfl t live with e|e;unfold mF;rw[e];exact h.tmps t ht';unfold mF;rw[e];exact .top _
variable {Q:Exit->Act->World->Prop}
def tL{E:cZ}(J:di P Inv E)(q:bP Inv)(hI:Inv w0){ro:Option Nat}{id:Nat}{ops:Array Oper}{s':St}{live:List Nat}(O:aO ops)(hp:cR P E none (some true) ops ops.toList s (λ s=>some (dM live s))=some s')(hs:SR w0 A0 w A M s a)(hK:∀a' w' A' M',SR w0 A0 w' A' M' s' a'->Mv w A M w' A' M'->Q .normal a' w'):(Code.region id ops false).wpIn (cP ro) 0 P Q a w:=by obtain⟨s1,h1,h2⟩:=rU J hp;cases h2;exact S7 q hI O h1 hs λ a' w' A' M' k1 k2=>hK a' w' A' M' (k1.mask live) k2
def C8{o:Oper}{c:Call}{g:FuncId}{args:List AV}{R:Value->World->Prop}(ho:o.op=.call c)(q:pz s c=some (g,args))(he:fH P g)(hs:SR w0 A0 w A M s a)(J:∀vs,RC w A M vs args->Calls P g vs.toArray w λ e w'=>∃v,e=.returned v/\R v w'){K:Act->World->Prop}(hK:∀v w',R v w'->K (a.put o.dst v) w'):o.wp P a w K Q:=by
 unfold pz at q;split at q;case h_2=>simp at q
 rename_i fo W;split at q;case h_2=>simp at q
 rename_i g' Y aa;split at q;simp at q;rename_i ae;cases q;have O:=hs.eval fo;rw[aa]at O;obtain⟨cv,ad,ab,ac⟩:=O.func_inv ae;have V:=Gn (w:=w) (A:=A) (M:=M) (l:=c.args.toList) (ρc:=a.eval) (ρ:=s.eval) (λ x _=>hs.eval x);have Z:RC w A M (c.args.toList.map a.eval++cv.toList) (c.args.toList.map s.eval++Y):=RC.append ⟨V.1,V.2⟩ ⟨by simpa using ab,λ i hi=>by have:=ac i hi;simpa[z7,zu]using this⟩;unfold Oper.wp;rw[SV ho W ad he,Oper.upon_enter];refine(J _ Z).mono ?_;rintro e w' ⟨v,rfl,hr⟩;exact hK v w' hr
variable {H:List aC}{t:Nat}{ts:List AV}
def SR.settle1(h:SR w0 A0 w A M ⟨ts,H⟩ a){y:AV}(hy:resolve H eI (ts.getD t .top)=some y):∃A1,SR w0 A0 w A1 M ⟨ts.set t y,freeze H (aQ H eI (ts.getD t .top))⟩ a/\Mv w A M w A1 M:=
 h.settle (s1:=⟨ts.set t y,freeze H (aQ H eI (ts.getD t .top))⟩) ⟨_,rfl,by simp,fun t'=>by
  by_cases hd:t=t'
  . subst hd;by_cases q:t<ts.length
    . right;simp only[pJ q];exact⟨hy,λ _ h=>h⟩
    . left;simp only[List.set_eq_of_length_le (Nat.le_of_not_lt q)]
  . left;simp only [pH hd]⟩
def SR.setT(h:SR w0 A0 w A M ⟨ts,H⟩ a){y:AV}(hy:t<ts.length->aD w A M (a.tmps.getD t undef) y):SR w0 A0 w A M ⟨ts.set t y,H⟩ a:=by refine⟨h.base,h.outer,by rw[h.size];simp,λ t' ht=>?_,h.heap,h.defers,h.ev⟩;(have ht':t'<ts.length:=by simpa using ht);show aD w A M _ ((ts.set t y).getD t' .top);by_cases hd:t=t';subst hd;rw[pJ ht'];exact hy ht';rw[pH hd];exact h.tmps t' ht'
def cA.joined(h1:cA N M)(h2:cA N N'):cA N (MJ M N'):=λ id m id' m' g1 g2 g3 g4=>by rcases Gv g3 with⟨rfl,h⟩|⟨k,rfl,h⟩;exact h1 _ _ _ _ g1 g2 h g4;exact h2 _ _ _ _ g1 g2 h g4
def cA.part{q:Id->Bool}(h:cA N M):cA N (MR q M):=λ id m id' m' g1 g2 g3 g4=>h id m id' m' g1 g2 (rj g3).2 g4
def HR.split(h:HR w A M B H):cA (MR (pB lJ) M) (MR (pB q0) M):=λ id m id' m' g1 g2 g3 g4 he=>by obtain⟨p1,h1⟩:=rj g1;obtain⟨p2,h2⟩:=rj g3;have:=h.inj id id' m m' h1 h2 g2 g4 he;subst this;cases id with|r n i j=>simp[pB]at p1|b n=>cases n<;>simp[pB,q0,lJ]at p1 p2
def tZ(M:Id->Option MB):∀id m,MR (pB q0) M id=some m->pB q0 id:=λ id m h=>(rj h).1
end
def xKq(e:EntV):ja (pB lJ) e.E:=by simp only[ja,EntV.E,List.all_cons,List.all_nil,zS,AV.cells,AV.inPs,AV.inP,pB,lJ,Bool.and_self];rfl
def xKo(e:EntV):ja (pB lJ) e.A:=by rfl
def xKp(e:EntV):ja (pB lJ) e.B:=by rfl
section
variable{w0 w w':World}{A0:Cx}{A A':Nat->Prop}{M M' N N':Id->Option MB}{a:Act}{F:Nat}{e:EntV}
variable {ts:List AV}
def SR.out{b0:aC}{T:List aC}(hs:SR w0 A0 w A M ⟨ts,b0::e.E::e.A::e.B::T⟩ a)(O:∀id,A0.M1 id=none){m:MB}(hm:M (.b 1)=some m)(hg:m.b=e.g)(h2:∃m,M (.b 2)=some m)(h3:∃m,M (.b 3)=some m):EntAt w A w0.heap.size A0.w1.heap.size e (MR (pB lJ) M):=by
 refine⟨?_,λ id m h=>(rj h).1,⟨m,GG rfl hm,?_,hg⟩,?_,?_,λ id m h h0=>?_⟩;refine(hs.heap.part (q:=lJ) λ n bx hb hq=>?_).swap λ n hq=>?_;match n,hq with|1,_=>((obtain rfl:e.E=bx:=by simpa using hb);exact⟨xKq e,λ j _=>rfl⟩)|2,_=>((obtain rfl:e.A=bx:=by simpa using hb);exact⟨xKo e,λ j _=>rfl⟩)|3,_=>(obtain rfl:e.B=bx:=by simpa using hb);exact⟨xKp e,λ j _=>rfl⟩
 match n,hq with|1,_=>rfl|2,_=>rfl|3,_=>rfl
 obtain⟨bx,hb,J⟩:=hs.heap.box _ _ hm;obtain rfl:e.E=bx:=by simpa[getB]using hb
 exact Nat.lt_of_lt_of_le (by simp[EntV.E]) J.fits;obtain⟨m,h⟩:=h2;exact⟨m,GG rfl h⟩;obtain⟨m,h⟩:=h3;exact⟨m,GG rfl h⟩;rcases hs.ev.src _ _ (rj h).2 h0 with⟨i,m1,h1,_⟩|h1;rw[O]at h1;cases h1;exact h1
def SR.newE{b0:aC}{row:List AV}{g:Nat}(hs:SR w0 A0 w A M ⟨ts,[b0,⟨0,3,94,[.agg [.list 3 row,.nils,.nils]],false,true⟩]⟩ a){m:MB}(hm:M (.b 1)=some m)(hg:m.b=g):∃M',SR w0 A0 w A M' ⟨ts,[b0,EntV.E ⟨g,row,[],[],0,0⟩,EntV.A ⟨g,row,[],[],0,0⟩,EntV.B ⟨g,row,[],[],0,0⟩]⟩ a/\Mv w A M w A M'/\M' (.b 1)=some m/\(∃m,M' (.b 2)=some m)/\∃m,M' (.b 3)=some m:=by(obtain⟨M1,h1,v1⟩:=hs.heap.cellnilJ (n:=2) (j0:=1) 100 (id:=1) rfl rfl rfl rfl;obtain⟨M2,h2,v2⟩:=h1.cellnilJ (n:=2) (j0:=2) 100 (id:=1) rfl rfl rfl rfl;have hv:=v1.trans v2;have h3:HR w A M2 w0.heap.size [b0,EntV.E ⟨g,row,[],[],0,0⟩,EntV.A ⟨g,row,[],[],0,0⟩,EntV.B ⟨g,row,[],[],0,0⟩]:=h2;have J:M2 (.b 1)=some m:=_root_.Go.Sim.M.HR.same hs.heap h3 hv.ext (n:=1) rfl rfl rfl hm;obtain⟨bx,hb,q⟩:=h3.box _ _ J;obtain rfl:EntV.E ⟨g,row,[],[],0,0⟩=bx:=by simpa[getB]using hb);have hcap:0<m.cap:=Nat.lt_of_lt_of_le (by simp[EntV.E]) q.fits;obtain⟨c,_,_,hc⟩:=q.cells hcap;have hsz:m.sz=3:=q.sz.symm;refine⟨M2,⟨hs.base,hs.outer,hs.size,λ t ht=>hv.rel (hs.tmps t ht),h3,hs.defers,hs.ev.step hv⟩,hv,J,?_,?_⟩;have h:=hc 0 1 (by simp[EntV.E]) Ω;(have h:aD w A M2 (c.getD (0*m.sz+1) undef) (.osl (.b 2) 0 0 0):=h;generalize c.getD (0*m.sz+1) undef=v at h;cases h with|osl v id ver off len m hm hv h1 he=>exact⟨_,hm⟩);have h:=hc 0 2 (by simp[EntV.E]) Ω;have h:aD w A M2 (c.getD (0*m.sz+2) undef) (.osl (.b 3) 0 0 0):=h;generalize c.getD (0*m.sz+2) undef=v at h;cases h with|osl v id ver off len m hm hv h1 he=>exact⟨_,hm⟩
end
end Go.Sim
end
noncomputable section
set_option maxRecDepth 100000
namespace Go.Sim.M
open Go.RowKit Go.Proofs
noncomputable abbrev cB:Code:=Tryz.f75.body.getD .skip
noncomputable abbrev cO(n:Nat):Array Oper:=oh (iz cB n)
noncomputable abbrev EC(p:Nat):cZ:=GF.E.fn 62 p (dQ []) (iS [])
def orcC(p:Nat):di Tryz.prog (xQa.at p) (EC p):=GF.ok.fn
def vC:AV:=.func vpF [.own (.b 0) 0 0 0]
def uT(q:Bool)(n:Nat):Nat:=cond q (n+23) n
def uE(q:Bool)(n:Nat):Nat:=cond q (n+3) n
def uR(q:Bool)(n:Nat):Nat:=cond q (n+6) n
def uB(q:Bool)(n:Nat):Nat:=cond q (n+2) n
noncomputable def lpJj(q:Bool):Code:=.seq (.region (uR q 4) (cO (uR q 4)) false) (.seq (.cond (.tmp (uT q 18)) .skip (.exit (uB q 0))) (.seq (.block (uB q 1) (.seq (.region (uR q 5) (cO (uR q 5)) false) (.seq (.region (uR q 6) (cO (uR q 6)) false) (.region (uR q 7) (cO (uR q 7)) true)))) (.region (uR q 8) (cO (uR q 8)) false)))
def xNl:cB=.seq (.region 0 (cO 0) false) (.seq (.region 1 (cO 1) false) (.seq (.region 2 (cO 2) false) (.seq (.seq (.region 3 (cO 3) false) (.block 0 (.loop (lpJj false)))) (.seq (.seq (.region 9 (cO 9) false) (.block 2 (.loop (lpJj true)))) (.seq (.region 15 (cO 15) false) .ret))))):=Θ
def qb:Op->Call|.call c=>c|_=>default
def xIQ:fH Tryz.prog 105:=⟨_,Tryz.func105,by kernel_rfl,by kernel_rfl⟩
def rowF(f:AV):List AV:=(f.cells.getD 0 .top).toList
def Mh(f:AV):AV:=.agg [.int .i64 (f.cells.getD 1 .top).toInt,.int .i64 (f.cells.getD 2 .top).toInt,.int .i64 1]
noncomputable def jO(f:AV):List UInt8:=(iP (rowF f)).getD []
noncomputable def rt(f:AV):Bool:=Nat.beq f.cells.length 3&&(ew [.list 3,.int .i64,.int .i64] f.cells 0&&(f.one==false&&(iP (rowF f)).isSome&&decide ((jO f).length<=4611686018427387904)))
def sj(f:AV):aC:=⟨0,3,54,[f],false,true⟩
abbrev PE:Type:=List UInt8×List AV×List AV×List AV
def bQ(x:List UInt8×EntV):PE:=(x.1,x.2.row,x.2.a,x.2.b)
def sB(ps:List PE)(k:List UInt8):Option Nat:=ps.findIdx? λ x=>x.1==k
def bY(es:List (List UInt8×EntV)):List AV:=es.map λ x=>.agg [.str x.1,.gptr x.2.g]
def Gf(es:List (List UInt8×EntV)):(bY es).length=es.length:=by simp[bY]
def RB(k:List UInt8):∀es:List (List UInt8×EntV),aP (bY es) k=sB (es.map bQ) k|[]=>rfl|x::es=>by have ih:=RB k es;unfold sB at ih|-;simp only[bY,zV,aP,AV.cells,List.getD_cons_zero,fC,List.findIdx?_cons];cases h:(x.1==k)with|true=>simp[bQ,h]|false=>simp only[bQ,h];rw[show List.map (λ x=>AV.agg [AV.str x.fst,AV.gptr x.snd.g]) es=bY es from rfl,ih];simp[bQ]
def dc:PE:=([],[],[],[])
def kz(q:Bool)(ps:List PE)(k:List UInt8)(row:List AV)(c:AV):List PE:=match sB ps k with|some j=>ps.set j ((ps.getD j dc).1,(ps.getD j dc).2.1,cond q (ps.getD j dc).2.2.1 ((ps.getD j dc).2.2.1++[c]),cond q ((ps.getD j dc).2.2.2++[c]) (ps.getD j dc).2.2.2)|none=>ps++[(k,row,cond q [] [c],cond q [c] [])]
noncomputable def iD(q:Bool)(ps:List PE)(f:AV):List PE:=kz q ps (jO f) (rowF f) (Mh f)
def _root_.Go.Sim.EntV.add(q:Bool)(e:EntV)(c:AV):EntV:=cond q {e with b:=e.b++[c],vb:=e.vb+1} {e with a:=e.a++[c],va:=e.va+1}
def _root_.Go.Sim.EntV.sl(q:Bool)(e:EntV):List AV:=cond q e.b e.a
def _root_.Go.Sim.EntV.vr(q:Bool)(e:EntV):Nat:=cond q e.vb e.va
def _root_.Go.Sim.EntV.add_g(q:Bool)(e:EntV)(c:AV):(e.add q c).g=e.g:=by cases q<;>rfl
structure f8 (w:World) (A:Nat->Prop) (B F c:Nat) (es:List (List UInt8×EntV)) (Ns:Nat->Id->Option MB) (M:Id->Option MB):Prop where
 ent:∀(i:Nat)(x:List UInt8×EntV),es[i]?=some x->EntAt w A B F x.2 (Ns i)
 apart:∀i j,i<es.length->j<es.length->i≠j->cA (Ns i) (Ns j)
 apm:∀i,i<es.length->cA (Ns i) M
 bnd:∀(i:Nat)(x:List UInt8×EntV),es[i]?=some x->x.2.a.length<=c/\x.2.b.length<=c
 cnt:es.length<=c
def vP{α:Type}{l:List α}{i:Nat}{x:α}(h:l[i]?=some x):i<l.length:=by rcases zJ i l.length with h'|h';exact h';rw[zz h']at h;cases h
section
variable{w w':World}{A A':Nat->Prop}{B F c:Nat}{es:List (List UInt8 × EntV)}{Ns:Nat->Id->Option MB}{M M' M1:Id->Option MB}
def f8.go(h:f8 w A B F c es Ns M)(hm:Mv w A M w' A' M')(q:∀b,A' b->b<w'.heap.size):f8 w' A' B F c es Ns M':=
 ⟨fun i x hx=>(h.ent i x hx).go hm q (h.apm i (vP hx)),h.apart,fun i hi=>by
  obtain ⟨x,hx⟩:∃ x,es[i]?=some x:=⟨es[i],ze hi⟩;exact (h.apm i hi).go (h.ent i x hx) hm,h.bnd,h.cnt⟩
def f8.part{q:Id->Bool}(h:f8 w A B F c es Ns M):f8 w A B F c es Ns (MR q M):=⟨h.ent,h.apart,λ i hi=>(h.apm i hi).part,h.bnd,h.cnt⟩
variable {e':EntV}{k:List UInt8}
def f8.upd(h:f8 w A B F c es Ns M){j:Nat}(hj:j<es.length)(hm:Mv w A (MJ M (Ns j)) w' A' M1)(V:∀b,A' b->b<w'.heap.size)(he:EntAt w' A' B F e' (MR (pB lJ) M1))(hs:cA (MR (pB lJ) M1) (MR (pB q0) M1))(hb:e'.a.length<=c+1/\e'.b.length<=c+1):f8 w' A' B F (c+1) (es.set j (k,e')) (λ i=>if i=j then MR (pB lJ) M1 else Ns i) (MR (pB q0) M1):=by(have Q:∀i,i<es.length->i≠j->cA (Ns i) M1:=λ i hi hne=>by obtain⟨x,hx⟩:∃x,es[i]?=some x:=⟨es[i],ze hi⟩;exact((h.apm i hi).joined (h.apart i j hi hj hne)).go (h.ent i x hx) hm);refine⟨λ i x hx=>?_,λ i i' hi O hne=>?_,λ i hi=>?_,λ i x hx=>?_,?_⟩;by_cases q:i=j;subst q;rw[zL hj]at hx;cases hx;simpa using he;rw[zX (λ e=>q e.symm)]at hx;simp only[q,if_false];exact(h.ent i x hx).go hm V ((h.apm i (vP hx)).joined (h.apart i j (vP hx) hj q));rw[y4]at hi O;by_cases q:i=j;have J:i'≠j:=λ e=>hne (q.trans e.symm);simp only[q,J,if_true,if_false];exact(cA.part (Q i' O J)).symm;by_cases J:i'=j;simp only[q,J,if_true,if_false];exact cA.part (Q i hi q);simp only[q,J,if_false];exact h.apart i i' hi O hne;rw[y4]at hi;by_cases q:i=j;simp only[q,if_true];exact hs;simp only[q,if_false];exact cA.part (Q i hi q);by_cases q:i=j;subst q;rw[zL hj]at hx;cases hx;exact hb;rw[zX (λ e=>q e.symm)]at hx;have:=h.bnd i x hx;omega;rw[y4];have:=h.cnt;omega
def f8.add(h:f8 w A B F c es Ns M)(hm:Mv w A M w' A' M1)(Q:∀b,A' b->b<w'.heap.size)(he:EntAt w' A' B F e' (MR (pB lJ) M1))(hs:cA (MR (pB lJ) M1) (MR (pB q0) M1))(hb:e'.a.length<=c+1/\e'.b.length<=c+1):f8 w' A' B F (c+1) (es++[(k,e')]) (λ i=>if i=es.length then MR (pB lJ) M1 else Ns i) (MR (pB q0) M1):=by(have O:∀i,i<es.length->cA (Ns i) M1:=λ i hi=>by obtain⟨x,hx⟩:∃x,es[i]?=some x:=⟨es[i],ze hi⟩;exact(h.apm i hi).go (h.ent i x hx) hm);(have hl:(es++[(k,e')]).length=es.length+1:=by simp);refine⟨λ i x hx=>?_,λ i i' hi V hne=>?_,λ i hi=>?_,λ i x hx=>?_,?_⟩;have hi:=vP hx;by_cases q:i=es.length;subst q;simp at hx;subst hx;simpa using he;rw[zO Ω]at hx;simp only[q,if_false];exact(h.ent i x hx).go hm Q (h.apm i (vP hx));by_cases q:i=es.length;have J:i'≠es.length:=λ e=>hne (q.trans e.symm);simp only[q,J,if_true,if_false];exact(cA.part (O i' Ω)).symm;by_cases J:i'=es.length;simp only[q,J,if_true,if_false];exact cA.part (O i Ω);simp only[q,J,if_false];exact h.apart i i' Ω Ω hne;by_cases q:i=es.length;simp only[q,if_true];exact hs;simp only[q,if_false];exact cA.part (O i Ω);have hi:=vP hx;by_cases q:i=es.length;subst q;simp at hx;subst hx;exact hb;rw[zO Ω]at hx;have:=h.bnd i x hx;omega;have:=h.cnt;omega
end
end Go.Sim.M
end
noncomputable section
set_option maxRecDepth 100000
namespace Go.Sim.M
open Go.RowKit Go.Proofs
def xy5{ops:Array Oper}{l:List Oper}{s s':St}(h:cR Tryz.prog (EC 0) none (some true) ops l s some=some s'):d7 (iG Tryz.prog (xQa.at 0)) ops l s s':=by obtain⟨s1,h1,h2⟩:=rU (orcC 0) h;cases h2;exact h1
variable {es:List (List UInt8×EntV)}{j:Nat}{x:List UInt8×EntV}
def Lt(h:es[j]?=some x):(bY es).getD j .top=.agg [.str x.1,.gptr x.2.g]:=by simp[bY,z7,h]
variable {k:List UInt8}
def xIV{ps:List PE}(h:sB ps k=some j):j<ps.length/\(ps.getD j dc).1=k:=by unfold sB at h;obtain⟨h1,h2,_⟩:=List.findIdx?_eq_some_iff_getElem.1 h;exact⟨h1,by simpa[z7,h1]using h2⟩
def xME(es:List (List UInt8×EntV))(k:List UInt8):eP .nilptr (bY es) k=.nilptr\/∃g,eP .nilptr (bY es) k=.gptr g:=by unfold eP;cases h:aP (bY es) k with|none=>exact .inl rfl|some j=>have hj:=vF h;rw[Gf]at hj;obtain⟨x,hx⟩:∃x,es[j]?=some x:=⟨es[j],ze hj⟩;right;dsimp only;rw[Lt hx];exact⟨_,rfl⟩
variable {g:Nat}
def xHn(h:eP .nilptr (bY es) k=.gptr g):∃j x,es[j]?=some x/\x.1=k/\x.2.g=g/\sB (es.map bQ) k=some j:=by unfold eP at h;cases hi:aP (bY es) k with|none=>rw[hi]at h;cases h|some j=>(have hj:=vF hi;rw[Gf]at hj;obtain⟨x,hx⟩:∃x,es[j]?=some x:=⟨es[j],ze hj⟩;rw[hi]at h;dsimp only at h;rw[Lt hx]at h;rw[RB]at hi;have h2:=(xIV hi).2;have e:(es.map bQ).getD j dc=bQ x:=by simp[z7,hx]);rw[e]at h2;refine⟨j,x,hx,h2,?_,hi⟩;have h:AV.gptr x.2.g=.gptr g:=h;injection h
def xKv(h:eP .nilptr (bY es) k=.nilptr):aP (bY es) k=none:=by unfold eP at h;cases hi:aP (bY es) k with|none=>rfl|some j=>have hj:=vF hi;rw[Gf]at hj;obtain⟨x,hx⟩:∃x,es[j]?=some x:=⟨es[j],ze hj⟩;rw[hi]at h;dsimp only at h;rw[Lt hx]at h;cases h
variable {e':EntV}
def xIx(h:es[j]?=some x)(hg:e'.g=x.2.g):bY (es.set j (x.1,e'))=bY es:=by unfold bY;rw[List.map_set];apply List.ext_getElem?;intro i;by_cases hi:j=i;subst hi;have:=vP h;rw[zL (by simpa using this)];simp[h,hg];rw[zX hi]
def xIZ(h:aP (bY es) k=none):bY (es++[(k,e')])=dT (bY es) k (.gptr e'.g):=by unfold dT;rw[h];simp[bY]
variable {row:List AV}
def xH7(q:Bool){c:AV}(h:es[j]?=some x)(hi:sB (es.map bQ) k=some j):(es.set j (x.1,x.2.add q c)).map bQ=kz q (es.map bQ) k row c:=by(have e:(es.map bQ).getD j dc=bQ x:=by simp[z7,h]);unfold kz;rw[hi];dsimp only;rw[e,List.map_set];cases q<;>rfl
def xH6(q:Bool){c:AV}(hi:aP (bY es) k=none):(es++[(k,(⟨g,row,[],[],0,0⟩:EntV).add q c)]).map bQ=kz q (es.map bQ) k row c:=by rw[RB]at hi;unfold kz;rw[hi];cases q<;>simp[bQ,EntV.add]
def nA(row a b:List AV):AV:=.eptr 3 [.agg [.list 3 row,.list 3 a,.list 3 b]] 0 0
def wI(p:PE):AV:=.agg [.str p.1,nA p.2.1 p.2.2.1 p.2.2.2]
def bI(ps:List PE):List AV:=ps.map wI
variable {H:List aC}
def Tl{n k ver sz:Nat}{ty:TypeId}{xs:List AV}(hb:H[k]?=some ⟨ver,sz,ty,xs,false,true⟩)(hc:bW ty=false):resolve H (n+1) (.osl (.b k) ver 0 xs.length)=some (.list sz xs):=by(have hm:dD ty=false:=kG hc;have h1:dW H (.b k) ver=some ⟨ver,sz,ty,xs,false,true⟩:=by unfold dW;rw[iQ,hb];simp[hm]);(have h2:en ⟨ver,sz,ty,xs,false,true⟩ xs:=by unfold en;rw[hc]);unfold resolve;simp[AV.pure,h1,gh,h2]
def xJj(e:EntV)(h3:dW H (.b 1) 0=some e.E)(h1:resolve H 3 (.osl (.b 2) e.va 0 e.a.length)=some (.list 3 e.a))(h2:resolve H 3 (.osl (.b 3) e.vb 0 e.b.length)=some (.list 3 e.b)):resolve H 4 (.own (.b 1) 0 0 0)=some (nA e.row e.a e.b):=by(have h0:resolve H 3 (.list 3 e.row)=some (.list 3 e.row):=by unfold resolve;simp[AV.pure]);unfold resolve;simp only[AV.pure,h3];simp only[EntV.E,gh,eJ,lK,h0,h1,h2];rfl
def xKS(e:EntV):resolve [C5,e.E,e.A,e.B] 4 (.own (.b 1) 0 0 0)=some (nA e.row e.a e.b):=xJj e rfl (Tl rfl rfl) (Tl rfl rfl)
section
variable{w0 w:World}{A0:Cx}{A A':Nat->Prop}{M N:Id->Option MB}{a:Act}{B F:Nat}{e:EntV}
def _root_.Go.Sim.EntAt.froz(h:EntAt w A B F e N)(hA:∀b,A' b->A b)(q:∀id m,N id=some m->0<m.cap->¬ A' m.b){v:Value}(hv:v=.pointer (some ⟨e.g,0,none⟩)):aD w A' er v (nA e.row e.a e.b):=rS h.hr (λ b _=>hA b) 4 v _ _ (h.own hv) (xKS e) λ id _ m hm h0=>q id m hm h0
variable {es:List (List UInt8×EntV)}
def xML{j:Nat}{x:List UInt8×EntV}(h:es[j]?=some x):(bI (es.map bQ)).getD j .top=.agg [.str x.1,nA x.2.row x.2.a x.2.b]:=by simp[bI,wI,bQ,z7,h]
def SR.final{ts:List AV}{Ns:Nat->Id->Option MB}{c:Nat}(hs:SR w0 A0 w A M ⟨ts,[mapB (bY es)]⟩ a)(hE:f8 w A w0.heap.size A0.w1.heap.size c es Ns M)(hM:∀id m,M id=some m->pB q0 id)(hp:A0.pin=0):∃A',SR w0 A0 w A' M ⟨ts,[mapB (bI (es.map bQ))]⟩ a:=by
 obtain⟨A',Y⟩:∃A':Nat->Prop,A'=λ b=>A b/\∀i id m,i<es.length->Ns i id=some m->0<m.cap->m.b≠b:=⟨_,rfl⟩;have J:∀b,A' b->A b:=λ b h=>by rw[Y]at h;exact h.1
 have W:∀b,A b->(∀i id m,i<es.length->Ns i id=some m->0<m.cap->m.b≠b)->A' b:=λ b h1 h2=>by rw[Y];exact⟨h1,h2⟩
 have ac:∀i,i<es.length->∀id m,Ns i id=some m->0<m.cap->¬ A' m.b:=λ i hi id m h1 h2 h3=>by rw[Y]at h3;exact h3.2 i id m hi h1 h2 rfl
 have O:∀i,i<es.length->∃x,es[i]?=some x/\EntAt w A w0.heap.size A0.w1.heap.size x.2 (Ns i):=λ i hi=>⟨es[i],ze hi,hE.ent i _ (ze hi)⟩;refine⟨A',hs.base,λ b hb=>⟨λ h=>(hs.outer b hb).1 (J b h),λ h=>W b ((hs.outer b hb).2 h) λ i id m hi h1 h2 he=>?_⟩,hs.size,λ t ht=>(hs.tmps t ht).mono (λ _ _ _=>rfl) (zd _) (λ b _ h=>J b h) (aR.refl _),⟨λ id m hm=>?_,hs.heap.inj,λ b h=>hs.heap.lt b (J b h)⟩,hs.defers,⟨hs.ev.size,hs.ev.keep,λ b hb h=>hs.ev.less b hb (J b h),λ b hb h hn=>W b (hs.ev.more b hb h hn) λ i id m hi h1 h2 he=>?_,λ id m h=>by rw[hp]at h;exact absurd h (Nat.not_lt_zero _),hs.ev.src⟩⟩;obtain⟨x,hx,Q⟩:=O i hi;obtain⟨bx,_,q⟩:=Q.hr.box id m h1;have:=q.low h2;omega;have ab:=hM id m hm;cases id with|r n i j=>simp[pB]at ab|b n=>cases n with|succ n=>simp[pB,q0]at ab|zero=>(obtain⟨bx,hb,q⟩:=hs.heap.box _ _ hm;obtain rfl:mapB (bY es)=bx:=by simpa[getB]using hb);(have hsz:m.sz=2:=q.sz.symm;have V:(bI (es.map bQ)).length=(bY es).length:=by simp[bI,bY]);refine⟨mapB (bI (es.map bQ)),rfl,q.ver,q.sz,q.ty,q.capm,by show (bI (es.map bQ)).length<=_;rw[V];exact q.fits,λ x hx=>?_,q.low,q.lt,λ h0=>?_,λ h0=>?_⟩;have hx:x∈bI (es.map bQ):=hx;unfold bI at hx;obtain⟨p,_,rfl⟩:=zK.1 hx;rw[hsz];rfl;obtain⟨cc,c1,c2,c3⟩:=q.cells h0;refine⟨cc,by show bX w m (bI (es.map bQ)).length cc;rw[V];exact c1,c2,λ i j hi hj=>?_⟩;(have hi':i<es.length:=by have hi:i<(bI (es.map bQ)).length:=hi;simpa[bI]using hi);have h3:=c3 i j (by show i<(bY es).length;rw[Gf];exact hi') hj;(obtain⟨x,hx,Q⟩:=O i hi';have Z:de (mapB (bY es)).ty j=false:=by rcases j with _|_|j;exact DI;exact DJ;omega);unfold fy MV at h3|-;have aa:de (mapB (bI (es.map bQ))).ty j=false:=Z;rw[Z]at h3;rw[aa];have h3:aD w A er (cc.getD (i*m.sz+j) undef) (((bY es).getD i .top).cells.getD j .top):=h3;show aD w A' er (cc.getD (i*m.sz+j) undef) (((bI (es.map bQ)).getD i .top).cells.getD j .top);rw[Lt hx]at h3;rw[xML hx];generalize cc.getD (i*m.sz+j) undef=v at h3;rcases j with _|_|j;exact h3.mono (λ _ _ _=>rfl) (zd _) (λ b _ h=>J b h) (aR.refl _);have h3:aD w A er v (.gptr x.2.g):=h3;cases h3;exact Q.froz J (ac i hi') rfl;omega;have h1:=q.guard h0;refine⟨λ h=>W _ (h1.1 h) λ i id m' hi h2 h3 he=>hE.apm i hi id m' _ m h2 h3 hm h0 he,λ h=>h1.2 (J _ h)⟩
 obtain⟨x,hx,Q⟩:=O i hi;have:=Q.fresh id m h1 h2;omega
end
end Go.Sim.M
end
noncomputable section
set_option maxRecDepth 100000
namespace Go.Sim.M
open Go.RowKit Go.Proofs
def ji(q:Bool):List Nat:=[1,5,6,(uT q 15),(uT q 16),(uT q 17)]
noncomputable def eE(q:Bool)(fb l:List AV)(n i:Int):List AV:=aX 62 [(1,.list 3 fb),(5,vC),(6,.func 105 [vC]),((uT q 15),.list 3 l),((uT q 16),.int .i64 n),((uT q 17),.int .i64 i)]
def Dk(q:Bool):aO (cO (uR q 4)):=by cases q<;>kernel_rfl
def Dl(q:Bool):aO (cO (uR q 5)):=by cases q<;>kernel_rfl
def Dm(q:Bool):aO (cO (uR q 6)):=by cases q<;>kernel_rfl
def Dn(q:Bool):aO (cO (uR q 8)):=by cases q<;>kernel_rfl
def MY(q:Bool)(fb l ms:List AV)(n i:Int):cR Tryz.prog (EC 0) none (some true) (cO (uR q 4)) (cO (uR q 4)).toList ⟨(eE q) fb l n i,[mapB ms]⟩ (λ s=>some (dM ((uT q 18)::(ji q)) s))=some ⟨((eE q) fb l n i).set (uT q 18) (.bool (decide (i<n))),[mapB ms]⟩:=by cases q<;>kernel_rfl
def MZ(q:Bool)(fb l ms:List AV)(n i:Int):cR Tryz.prog (EC 0) none (some true) (cO (uR q 5)) (cO (uR q 5)).toList ⟨((eE q) fb l n i).set (uT q 18) (.bool true),[mapB ms]⟩ (λ s=>some (dM ((uE q 8)::(ji q)) s)) =br (decide ((0:Int)<=i)&&decide (i<(l.length:Int))) (br (decide (i.toNat<l.length)&&((l.getD i.toNat .top).cells.length==3&&ew [.list 3,.int .i64,.int .i64] (l.getD i.toNat .top).cells 0)) (some ⟨((eE q) fb l n i).set (uE q 8) (.own (.b 1) 0 0 0),[mapB ms,sj (.agg [.list 3 ((l.getD i.toNat .top).cells.getD 0 .top).toList,.int .i64 ((l.getD i.toNat .top).cells.getD 1 .top).toInt,.int .i64 ((l.getD i.toNat .top).cells.getD 2 .top).toInt])]⟩) none) none:=by cases q<;>kernel_rfl
noncomputable def je(q:Bool)(fb l:List AV)(n i:Int)(row:List AV)(ff ft:Int):List AV:=((eE q) fb l n i).set (uE q 8) (.eptr 3 [.agg [.list 3 row,.int .i64 ff,.int .i64 ft]] 0 0)
noncomputable def sy(q:Bool)(fb l:List AV)(n i:Int)(row:List AV)(ff ft:Int):List AV:=((((je q) fb l n i row ff ft).set (uT q 21) (.func 105 [vC])).set (uT q 22) (.eptr 3 [.agg [.list 3 row,.int .i64 ff,.int .i64 ft]] 0 0)).set (uT q 23) (.list 3 row)
def Na(q:Bool)(fb l ms:List AV)(n i:Int)(row:List AV)(ff ft:Int):cR Tryz.prog (EC 0) none (some true) (cO (uR q 6)) ((cO (uR q 6)).toList.take 3) ⟨(je q) fb l n i row ff ft,[mapB ms]⟩ some=some ⟨(sy q) fb l n i row ff ft,[mapB ms]⟩:=by cases q<;>kernel_rfl
def Mw(q:Bool):(cO (uR q 6)).toList=(cO (uR q 6)).toList.take 3++[(cO (uR q 6)).toList.getD 3 default,(cO (uR q 6)).toList.getD 4 default]:=by cases q<;>kernel_rfl
def MS(q:Bool):((cO (uR q 6)).toList.getD 3 default).op=.call (qb ((cO (uR q 6)).toList.getD 3 default).op):=by cases q<;>kernel_rfl
def Nj(q:Bool)(fb l ms:List AV)(n i:Int)(row:List AV)(ff ft:Int):pz ⟨(sy q) fb l n i row ff ft,[mapB ms]⟩ (qb ((cO (uR q 6)).toList.getD 3 default).op)=some (105,[.list 3 row,vC]):=by cases q<;>kernel_rfl
def Mi(q:Bool):((cO (uR q 6)).toList.getD 3 default).dst=some (uT q 24):=by cases q<;>kernel_rfl
def Mm(q:Bool):((cO (uR q 6)).toList.getD 3 default).guard=none:=by cases q<;>kernel_rfl
def Dw(q:Bool)(fb l ms:List AV)(n i:Int)(row:List AV)(ff ft:Int)(g:Nat):cR Tryz.prog (EC 0) none (some true) (cO (uR q 6)) [(cO (uR q 6)).toList.getD 4 default] ⟨((sy q) fb l n i row ff ft).set (uT q 24) (.gptr g),[mapB ms]⟩ (λ s=>some (dM ((uE q 8)::(uE q 9)::(ji q)) s))=some ⟨((je q) fb l n i row ff ft).set (uE q 9) (.gptr g),[mapB ms]⟩:=by cases q<;>kernel_rfl
def Dx(q:Bool)(fb l ms:List AV)(n i:Int)(row:List AV)(ff ft:Int)(g:Nat):cR Tryz.prog (EC 0) none (some true) (cO (uR q 6)) [(cO (uR q 6)).toList.getD 4 default] ⟨((sy q) fb l n i row ff ft).set (uT q 24) (.gptr g),[mapB ms,jN row]⟩ (λ s=>some (dM ((uE q 8)::(uE q 9)::(ji q)) s))=some ⟨((je q) fb l n i row ff ft).set (uE q 9) (.gptr g),[mapB ms,jN row]⟩:=by cases q<;>kernel_rfl
def qa(q:Bool)(e:EntV):aC:=⟨0,3,94,[.agg (cond q [.list 3 e.row,.osl (.b 2) e.va 0 e.a.length,.osl (.b 3) (e.vb+1) 0 (e.b.length+1)] [.list 3 e.row,.osl (.b 2) (e.va+1) 0 (e.a.length+1),.osl (.b 3) e.vb 0 e.b.length])],false,false⟩
def xIn(q:Bool)(e:EntV)(c:AV):qa q e=(e.add q c).E:=by cases q<;>(unfold qa EntV.E EntV.add;simp)
def Nb(q:Bool)(fb l ms:List AV)(n i:Int)(row:List AV)(ff ft:Int)(e:EntV):X Tryz.prog (EC 4) none (.region (uR q 7) (cO (uR q 7)) true) ⟨((je q) fb l n i row ff ft).set (uE q 9) (.own (.b 1) 0 0 0),[mapB ms,e.E,e.A,e.B]⟩ (λ ex s=>some (ex,dM (ji q) s)) =br (e.vr q==e.vr q&&((e.sl q).length==(e.sl q).length&&(decide (((e.sl q).length+1)*24<=140737488355328)&&decide ((e.sl q).length+1<=4611686018427387904)))) (some (.normal,⟨(eE q) fb l n i,[mapB ms,qa q e,(e.add q (.agg [.int .i64 ff,.int .i64 ft,.int .i64 1])).A,(e.add q (.agg [.int .i64 ff,.int .i64 ft,.int .i64 1])).B,⟨0,3,100,[.agg [.int .i64 ff,.int .i64 ft,.int .i64 1]],false,true⟩]⟩)) none:=by cases q<;>kernel_rfl
def MD(q:Bool):cV Tryz.prog (xQa.at 4) (EC 4) (.region (uR q 7) (cO (uR q 7)) true):=oI rfl
def Nc(q:Bool)(fb l ms:List AV)(n i:Int):cR Tryz.prog (EC 0) none (some true) (cO (uR q 8)) (cO (uR q 8)).toList ⟨(eE q) fb l n i,[mapB ms]⟩ (λ s=>some (dM (ji q) s))=some ⟨(eE q) fb l n (IntKind.i64.wrap (i+1)),[mapB ms]⟩:=by cases q<;>kernel_rfl
def mz(q:Bool)(fb l:List AV)(n i:Int):ko ((eE q) fb l n i)=(eE q) fb l n i:=by cases q<;>kernel_rfl
def ws(q:Bool)(fb l:List AV)(n i:Int)(row:List AV)(ff ft:Int):ko ((je q) fb l n i row ff ft)=(je q) fb l n i row ff ft:=by cases q<;>kernel_rfl
def tN(ms:List AV):ja (pB q0) (mapB ms):=Θ
def tO(ms:List AV)(j:Nat)(hj:j<(mapB ms).sz):de (mapB ms).ty j=false:=by have hj:j<2:=hj;rcases j with _|_|j;exact DI;exact DJ;omega
section
variable{w0 w:World}{A0:Cx}{A:Nat->Prop}{M:Id->Option MB}{a:Act}
def qD(q:Bool)(hI:xQa w0)(hp:A0.pin=0)(aa:∀id,A0.M1 id=none){fb l ms row:List AV}{n i ff ft:Int}{e:EntV}{m:MB}(hs:SR w0 A0 w A M ⟨((je q) fb l n i row ff ft).set (uE q 9) (.own (.b 1) 0 0 0),[mapB ms,e.E,e.A,e.B]⟩ a)(hm:M (.b 1)=some m)(hg:m.b=e.g)(h2:∃m,M (.b 2)=some m)(h3:∃m,M (.b 3)=some m)(hb:(e.sl q).length<4294967296){Q:Exit->Act->World->Prop}(hK:∀a' w' A' M',SR w0 A0 w' A' (MR (pB q0) M') ⟨(eE q) fb l n i,[mapB ms]⟩ a'->Mv w A M w' A' M'->(∀b,A' b->b<w'.heap.size)->EntAt w' A' w0.heap.size A0.w1.heap.size (e.add q (.agg [.int .i64 ff,.int .i64 ft,.int .i64 1])) (MR (pB lJ) M')->cA (MR (pB lJ) M') (MR (pB q0) M')->Q .normal a' w'):(Code.region (uR q 7) (cO (uR q 7)) true).wpIn (cP none) 0 Tryz.prog Q a w:=by
 obtain⟨Y,V⟩:∃t:St,t=⟨(eE q) fb l n i,[mapB ms,(e.add q (.agg [.int .i64 ff,.int .i64 ft,.int .i64 1])).E,(e.add q (.agg [.int .i64 ff,.int .i64 ft,.int .i64 1])).A,(e.add q (.agg [.int .i64 ff,.int .i64 ft,.int .i64 1])).B,⟨0,3,100,[.agg [.int .i64 ff,.int .i64 ft,.int .i64 1]],false,true⟩]⟩:=⟨_,rfl⟩;have hx:=(Nb q) fb l ms n i row ff ft e;have hc:(e.vr q==e.vr q&&((e.sl q).length==(e.sl q).length&&(decide (((e.sl q).length+1)*24<=140737488355328)&&decide ((e.sl q).length+1<=4611686018427387904)))):=by simp only[beq_self_eq_true,Bool.true_and,zf,zl];omega
 rw[hc]at hx;have hx:X Tryz.prog (EC 4) none (.region (uR q 7) (cO (uR q 7)) true) ⟨((je q) fb l n i row ff ft).set (uE q 9) (.own (.b 1) 0 0 0),[mapB ms,e.E,e.A,e.B]⟩ (λ ex s=>some (ex,dM (ji q) s))=some (.normal,Y):=by rw[V,<-(xIn q)];exact hx
 have hd:=oJ (P:=Tryz.prog) (Inv:=xQa.at 4) (E:=EC 4) (T:=Option (Exit×St)) (good:=λ o=>o=some (.normal,Y)) (bad:=none) xPD (fw 4) rfl Ψ (orcC 4) _ _ _ (MD q) hx;refine hd w0 _ w A M a _ hI (zd 4) (hs.door 4) ?_ none (λ _=>rfl);rintro ex s' a' w' hq ⟨A',M',Z⟩;simp only[z6,zb]at hq;obtain⟨rfl,hk⟩:=hq;obtain⟨ac,O⟩:=hs.undoor (zd 4) Z;have J:=ac.mask (ji q);rw[hk,V]at J;have ab:M' (.b 1)=some m:=HR.same hs.heap J.heap O.ext (n:=1) rfl rfl rfl hm;have h2':∃m,M' (.b 2)=some m:=by obtain⟨m2,h⟩:=h2;obtain⟨m',h',_⟩:=O.ext _ _ h;exact⟨m',h'⟩
 have h3':∃m,M' (.b 3)=some m:=by obtain⟨m2,h⟩:=h3;obtain⟨m',h',_⟩:=O.ext _ _ h;exact⟨m',h'⟩
 have W:=J.cut hp (tN ms) (tO ms);rw[(mz q)]at W;exact hK _ _ _ _ W O J.heap.lt (J.out aa ab (hg.trans (EntV.add_g q e _).symm) h2' h3') J.heap.split
end
end Go.Sim.M
end
noncomputable section
set_option maxRecDepth 100000
namespace Go.Sim.M
open Go.RowKit Go.Proofs
def wu(q:Bool)(fb l:List AV)(n i:Int)(row:List AV)(ff ft:Int)(g:Nat):ko (((je q) fb l n i row ff ft).set (uE q 9) (.gptr g))=((je q) fb l n i row ff ft).set (uE q 9) (.gptr g):=by cases q<;>kernel_rfl
def ql(q:Bool)(fb l:List AV)(n i:Int)(row:List AV)(ff ft:Int)(g:Nat):(((je q) fb l n i row ff ft).set (uE q 9) (.gptr g)).getD (uE q 9) .top=.gptr g:=by cases q<;>kernel_rfl
def Dz(q:Bool)(ms:List AV)(fb l:List AV)(n i:Int)(f:AV):resolve [mapB ms,sj f] eI ((((eE q) fb l n i).set (uE q 8) (.own (.b 1) 0 0 0)).getD (uE q 8) .top)=some (.eptr 3 [f] 0 0):=by cases q<;>kernel_rfl
def Dy(q:Bool)(ms:List AV)(fb l:List AV)(n i:Int)(f:AV):freeze [mapB ms,sj f] (aQ [mapB ms,sj f] eI ((((eE q) fb l n i).set (uE q 8) (.own (.b 1) 0 0 0)).getD (uE q 8) .top))=[mapB ms,⟨0,3,54,[f],true,true⟩]:=by cases q<;>kernel_rfl
def wL(q:Bool)(fb l:List AV)(n i:Int)(row:List AV)(ff ft:Int):(((eE q) fb l n i).set (uE q 8) (.own (.b 1) 0 0 0)).set (uE q 8) (.eptr 3 [.agg [.list 3 row,.int .i64 ff,.int .i64 ft]] 0 0)=(je q) fb l n i row ff ft:=by cases q<;>kernel_rfl
def xI0{f:AV}(h:rt f):(f.cells.length==3&&ew [.list 3,.int .i64,.int .i64] f.cells 0):=by unfold rt at h;simp only[zf]at h;rw[zf];exact⟨beq_iff_eq.2 (zg h.1),h.2.1⟩
def xKI{f:AV}(h:rt f):iP (rowF f)=some (jO f)/\(jO f).length<=4611686018427387904:=by unfold rt at h;simp only[zf,zl]at h;obtain⟨_,_,⟨_,h1⟩,h2⟩:=h;obtain⟨k,hk⟩:=Option.isSome_iff_exists.1 h1;refine⟨?_,h2⟩;unfold jO;rw[hk];rfl
section
variable{w0 w:World}{A0:Cx}{A:Nat->Prop}{M:Id->Option MB}{a:Act}
set_option maxHeartbeats 2000000 in
def wq(q:Bool)(hI:xQa w0)(hp:A0.pin=0)(al:∀id,A0.M1 id=none){fb l:List AV}{n i:Int}{f:AV}{es:List (List UInt8×EntV)}{Ns:Nat->Id->Option MB}{c:Nat}(hs:SR w0 A0 w A M ⟨(je q) fb l n i (rowF f) (f.cells.getD 1 .top).toInt (f.cells.getD 2 .top).toInt,[mapB (bY es)]⟩ a)(hE:f8 w A w0.heap.size A0.w1.heap.size c es Ns M)(hM:∀id m,M id=some m->pB q0 id)(hf:rt f)(hc:c<4294967295){Q:Exit->Act->World->Prop}(hK:∀a' w' A' M' es' Ns',SR w0 A0 w' A' M' ⟨(eE q) fb l n i,[mapB (bY es')]⟩ a'->(∀id m,M' id=some m->pB q0 id)->f8 w' A' w0.heap.size A0.w1.heap.size (c+1) es' Ns' M'->es'.map bQ=(iD q) (es.map bQ) f->Q .normal a' w'):(Code.seq (.region (uR q 6) (cO (uR q 6)) false) (.region (uR q 7) (cO (uR q 7)) true)).wpIn (cP none) 0 Tryz.prog Q a w:=by
 obtain⟨aq,a8⟩:=xKI hf;refine wpIn_seq (wpIn_region_list (pM none 0 _ (rd (Dm q)) _ _ ?_));rw[(Mw q)];refine tJ (fw 0) hI (xy5 ((Na q) fb l (bY es) n i (rowF f) (f.cells.getD 1 .top).toInt (f.cells.getD 2 .top).toInt)) hs λ a1 w1 A1 M1 Y a5=>wpList_plain (Mm q) λ K az=>?_;have a0:=hE.go a5 Y.heap.lt;have ba:=hE.cnt;refine C8 (MS q) ((Nj q) fb l (bY es) n i (rowF f) (f.cells.getD 1 .top).toInt (f.cells.getD 2 .top).toInt) xIQ Y (R:=λ v w'=>∃A' M' g,v=.pointer (some ⟨g,0,none⟩)/\Below w0.heap.size w0 w'/\(∀b,b<w0.heap.size->(A' b↔A1 b))/\Mv w1 A1 M1 w' A' M'/\∃H,HR w' A' M' w0.heap.size H/\ln (rowF f) (bY es) (jO f) g H M') (λ vs a6=>?_) λ v w2 hr=>?_;refine(xHm (w0:=w0) hI Y.base Y.heap a6 aq a8 (by rw[Gf];show es.length<4611686018427387904;omega) (xME es (jO f))).mono ?_;rintro e w' ⟨v,A',M',g,h1,h2,h3,h4,h5,h6⟩;exact⟨v,h1,A',M',g,h2,h3,h4,h5,h6⟩;obtain⟨A2,M2,g,rfl,an,am,mv2,H,a4,ak⟩:=hr;have V:=Y.put (d:=((cO (uR q 6)).toList.getD 3 default).dst) an (λ b hb=>(am b hb).trans (Y.outer b hb)) mv2 a4 (aD.gptr (w:=w2) (A:=A2) (M:=M2) g);have ap:=a0.go mv2 V.heap.lt;refine az _ _ ?_;rw[(Mi q)]at V|-;generalize a1.put (some (uT q 24)) (.pointer (some ⟨g,0,none⟩))=a2 at V;rcases ak with⟨aa,rfl⟩|⟨aa,rfl,m,hm,hcap,ab⟩;obtain⟨j,x,hx,be,aw,au⟩:=xHn aa;have hj:=vP hx;obtain⟨s3,p3,e3⟩:=rU (orcC 0) ((Dw q) fb l (bY es) n i (rowF f) (f.cells.getD 1 .top).toInt (f.cells.getD 2 .top).toInt g);simp only[z6]at e3;rw[<-zD [_]];refine tJ (fw 0) hI p3 V λ a3 w3 A3 M3 J mv3=>wpList_nil ?_;have J:=J.mask ((uE q 8)::(uE q 9)::(ji q));rw[e3]at J;have ar:=J.cut hp (tN _) (tO _);rw[(wu q)]at ar;have ac:=(ap.go mv3 J.heap.lt).part (q:=pB q0);have O:=ac.ent j x hx;have W:=ar.join (tZ M3) hp O (ac.apm j hj);have Z:=W.setT (t:=uE q 9) (y:=.own (.b 1) 0 0 0) λ ht=>by(have h:=W.tmps (uE q 9) ht;rw[(ql q)]at h;have hv:a3.tmps.getD (uE q 9) undef=.pointer (some ⟨x.2.g,0,none⟩):=by rw[aw];generalize a3.tmps.getD (uE q 9) undef=u at h;cases h;rfl);exact(O.own hv).mono (λ _ _ _=>rfl) (zd _) (λ _ _ h=>h) (U8 O.ids)
 rw[List.set_set]at Z;obtain⟨m,hm,hcap,ab⟩:=O.one;have hb:(x.2.sl q).length<=c:=by have:=ac.bnd j x hx;cases q;exact this.1;exact this.2
 refine(qD q) hI hp al Z (m:=m) hm ab O.two O.three (by omega) λ a' w' A' M' ah aj af he ai=>?_;have bc:=ac.bnd j x hx;have ag:=ac.upd (k:=x.1) hj aj af he ai (by cases q<;>simp only[EntV.add,cond,z8,zj]<;>omega);refine hK a' w' A' _ _ _ ?_ (tZ M') ag ?_;rw[xIx (e':=x.2.add q (.agg [.int .i64 (f.cells.getD 1 .top).toInt,.int .i64 (f.cells.getD 2 .top).toInt,.int .i64 1])) hx (by cases q<;>rfl)];exact ah;exact xH7 q hx au;have ad:=xKv aa;obtain⟨s3,p3,e3⟩:=rU (orcC 0) ((Dx q) fb l (dT (bY es) (jO f) (.gptr g)) n i (rowF f) (f.cells.getD 1 .top).toInt (f.cells.getD 2 .top).toInt g);simp only[z6]at e3;rw[<-zD [_]];refine tJ (fw 0) hI p3 V λ a3 w3 A3 M3 J mv3=>wpList_nil ?_;have J:=J.mask ((uE q 8)::(uE q 9)::(ji q));rw[e3]at J;have a9:=HR.same V.heap J.heap mv3.ext (n:=1) rfl rfl rfl hm;obtain⟨M5,W,a7,ae,h2,h3⟩:=J.newE a9 ab;have ax:=(ap.go mv3 J.heap.lt);have Z:=W.setT (t:=uE q 9) (y:=.own (.b 1) 0 0 0) λ ht=>by(have h:=W.tmps (uE q 9) ht;rw[(ql q)]at h;obtain⟨bx,hb,ao⟩:=W.heap.box _ _ ae;obtain rfl:EntV.E ⟨g,rowF f,[],[],0,0⟩=bx:=by simpa[getB]using hb);(have bb:m.ver=0:=ao.ver.symm;have ay:dD m.ty=false:=by rw[<-ao.ty];rfl);(generalize a3.tmps.getD (uE q 9) undef=u at h;cases h;refine .own _ (.b 1) 0 0 0 m ae (zQ _) rfl λ _=>?_);unfold fE;rw[ay,ab];simp
 rw[List.set_set]at Z;refine(qD q) hI hp al Z (m:=m) ae ab h2 h3 (by cases q<;>simp[EntV.sl]) λ a' w' A' M' ah aj af he ai=>?_;have ag:=ax.add (k:=jO f) (a7.trans aj) af he ai (by cases q<;>simp[EntV.add]);refine hK a' w' A' _ _ _ ?_ (tZ M') ag ?_;rw[xIZ ad,EntV.add_g];exact ah;exact xH6 q ad
end
end Go.Sim.M
end
noncomputable section
set_option maxRecDepth 100000
namespace Go.Sim.M
open Go.RowKit Go.Proofs
def wx(q:Bool)(fb l ms:List AV)(n i:Int)(b:Bool):St.eval ⟨((eE q) fb l n i).set (uT q 18) (.bool b),[mapB ms]⟩ (.tmp (uT q 18))=.bool b:=by cases q<;>kernel_rfl
def wC(q:Bool)(fb l ms:List AV)(n i:Int)(b:Bool):dM (ji q) ⟨((eE q) fb l n i).set (uT q 18) (.bool b),[mapB ms]⟩=⟨(eE q) fb l n i,[mapB ms]⟩:=by cases q<;>kernel_rfl
section
variable{w0 w:World}{A0:Cx}{A:Nat->Prop}{M:Id->Option MB}{a:Act}
set_option maxHeartbeats 2000000 in
def qq(q:Bool)(hI:xQa w0)(hp:A0.pin=0)(ak:∀id,A0.M1 id=none){fb l:List AV}{es:List (List UInt8×EntV)}{Ns:Nat->Id->Option MB}{c:Nat}(hs:SR w0 A0 w A M ⟨(eE q) fb l l.length ((0:Nat):Int),[mapB (bY es)]⟩ a)(hE:f8 w A w0.heap.size A0.w1.heap.size c es Ns M)(hM:∀id m,M id=some m->pB q0 id)(hf:∀i,i<l.length->rt (l.getD i .top))(hc:c+l.length<4294967295){Q:Exit->Act->World->Prop}(hK:∀a' w' A' M' J Ns',SR w0 A0 w' A' M' ⟨(eE q) fb l l.length l.length,[mapB (bY J)]⟩ a'->(∀id m,M' id=some m->pB q0 id)->f8 w' A' w0.heap.size A0.w1.heap.size (c+l.length) J Ns' M'->J.map bQ=l.foldl (iD q) (es.map bQ)->Q (.exit (uB q 0)) a' w'):(Code.loop (lpJj q)).wpIn (cP none) 0 Tryz.prog Q a w:=by
 refine xzG (λ N a' w'=>∃(i:Nat)(J:List (List UInt8×EntV))(Ns':Nat->Id->Option MB)(A':Nat->Prop)(M':Id->Option MB),N=l.length - i/\i<=l.length/\SR w0 A0 w' A' M' ⟨(eE q) fb l l.length (i:Int),[mapB (bY J)]⟩ a'/\(∀id m,M' id=some m->pB q0 id)/\f8 w' A' w0.heap.size A0.w1.heap.size (c+i) J Ns' M'/\J.map bQ=(l.take i).foldl (iD q) (es.map bQ)) ?_ l.length a w ⟨0,es,Ns,A,M,rfl,zQ _,hs,hM,hE,rfl⟩;rintro N a' w' ⟨i,J,Ns',A',M',rfl,hi,ai,ao,ab,ac⟩;unfold lpJj;refine wpIn_seq (tL (orcC 0) (fw 0) hI (Dk q) ((MY q) fb l (bY J) l.length i) ai λ a1 w1 A1 M1 W aa=>?_);have an:a1.eval (.tmp (uT q 18))=.bool (decide ((i:Int)<l.length)):=by have h:=W.eval (.tmp (uT q 18));rw[(wx q)]at h;exact h.bool_inv
 refine wpIn_seq (wpIn_cond_split an (λ ht=>wpIn_skip ?_) λ hn=>wpIn_exit ?_);have O:i<l.length:=by simpa using ht
 rw[ht]at W;have h5:=(MZ q) fb l (bY J) l.length i;rw[zN,xI0 (hf i O)]at h5;have c1:(decide ((0:Int)<=i)&&decide ((i:Int)<(l.length:Int))):=by simp[O]
 have c2:(decide (i<l.length)&&true):=by simp[O]
 rw[c1,c2]at h5;refine wpIn_seq (wpIn_block (wpIn_seq (tL (orcC 0) (fw 0) hI (Dl q) h5 W λ a2 w2 A2 M2 Y mv2=>?_)));obtain⟨A3,V,mv3⟩:=Y.settle1 (t:=(uE q 8)) ((Dz q) (bY J) fb l l.length i _);rw[(Dy q),(wL q)]at V;have ad:=V.cut hp (tN _) (tO _);rw[(ws q)]at ad;have am:=(ab.go ((aa.trans mv2).trans mv3) V.heap.lt).part (q:=pB q0);refine(wq q) hI hp ak ad am (tZ M2) (hf i O) (by omega) λ a5 w5 A5 M5 ae Ns5 aj ap al ag=>?_;refine tL (orcC 0) (fw 0) hI (Dn q) ((Nc q) fb l (bY ae) l.length i) aj λ a6 w6 A6 M6 Z mv6=>?_;have hw:IntKind.i64.wrap ((i:Int)+1)=((i+1:Nat):Int):=by rw[gx (by omega) (by omega)];omega
 rw[hw]at Z;have af:=Z.cut hp (tN _) (tO _);rw[(mz q)]at af;refine⟨l.length - (i+1),by omega,i+1,ae,Ns5,A6,_,rfl,O,af,tZ M6,(al.go mv6 Z.heap.lt).part,?_⟩;rw[ag,ac];have e:l.take (i+1)=l.take i++[l.getD i .top]:=by rw[List.take_add_one,ze O];simp[z7,O]
 rw[e,List.foldl_append];rfl;have ah:i=l.length:=by(have:¬ ((i:Int)<l.length):=by simpa using hn);omega
 subst ah;have Y:=W.mask (ji q);rw[(wC q)]at Y;have V:=Y.cut hp (tN _) (tO _);rw[(mz q)]at V;have hst':J.map bQ=l.foldl (iD q) (es.map bQ):=by rw[ac,y6]
 exact hK a1 w1 A1 _ J Ns' V (tZ M1) (ab.go aa W.heap.lt).part hst'
end
end Go.Sim.M
end
noncomputable section
set_option maxRecDepth 100000
namespace Go.Sim.M
open Go.RowKit Go.Proofs
noncomputable def cX(xa xb:List AV):List PE:=xb.foldl (iD true) (xa.foldl (iD false) [])
noncomputable def jc(xa xb:List AV):Bool:=(List.range xa.length).all (λ i=>rt (xa.getD i .top))&&((List.range xb.length).all (λ i=>rt (xb.getD i .top))&&decide (xa.length+xb.length<4294967295))
noncomputable def yR(fa fb:List AV):List AV:=[.list 3 fa,.list 3 fb]++List.replicate 60 (.tuple [])
noncomputable def C6(fa fb:List AV):List AV:=aX 62 [(0,.list 3 fa),(1,.list 3 fb)]
noncomputable def Tz(fa fb:List AV):List AV:=aX 62 [(0,.list 3 fa),(1,.list 3 fb),(5,vC)]
noncomputable def TA(fa fb:List AV):List AV:=aX 62 [(0,.list 3 fa),(1,.list 3 fb),(5,vC),(6,.func 105 [vC])]
noncomputable def C7:List AV:=aX 62 [(4,.own (.b 0) 0 0 0)]
def wn:aC:=⟨0,1,88,[.own (.b 0) 0 0 0],false,false⟩
def MK:aO (cO 0):=Θ
def ML:aO (cO 1):=Θ
def MN:aO (cO 2):=Θ
def MO:aO (cO 3):=Θ
def MQ:aO (cO 9):=Θ
def Dj:aO (cO 15):=Θ
def Ma(fa fb:List AV):cR Tryz.prog (EC 0) none (some true) (cO 0) (cO 0).toList ⟨yR fa fb,[]⟩ (λ s=>some (dM [0,1] s))=some ⟨C6 fa fb,[]⟩:=Θ
def cR1(fa fb:List AV):cR Tryz.prog (EC 0) none (some true) (cO 1) (cO 1).toList ⟨C6 fa fb,[]⟩ (λ s=>some (dM [0,1,5] s))=some ⟨(C6 fa fb).set 5 (.own (.b 1) 0 0 0),[mapB [],wn]⟩:=Θ
def Mb(fa fb:List AV):((C6 fa fb).set 5 (.own (.b 1) 0 0 0)).getD 5 .top=.own (.b 1) 0 0 0:=Θ
def Mc:ow [mapB [],wn] 1 0 0 0=some (.own (.b 0) 0 0 0):=Θ
def cV3(fa fb:List AV):ko (((C6 fa fb).set 5 (.own (.b 1) 0 0 0)).set 5 (.func vpF [.own (.b 0) 0 0 0]))=Tz fa fb:=Θ
def cR2(fa fb:List AV):cR Tryz.prog (EC 0) none (some true) (cO 2) (cO 2).toList ⟨Tz fa fb,[mapB []]⟩ (λ s=>some (dM [0,1,5,6] s))=some ⟨TA fa fb,[mapB []]⟩:=Θ
def cR3(fa fb:List AV):cR Tryz.prog (EC 0) none (some true) (cO 3) (cO 3).toList ⟨TA fa fb,[mapB []]⟩ (λ s=>some (dM (ji false) s))=some ⟨eE false fb fa fa.length ((0:Nat):Int),[mapB (bY [])]⟩:=Θ
def cR9(fb l ms:List AV)(n i:Int):cR Tryz.prog (EC 0) none (some true) (cO 9) (cO 9).toList ⟨eE false fb l n i,[mapB ms]⟩ (λ s=>some (dM (ji true) s))=some ⟨eE true fb fb fb.length ((0:Nat):Int),[mapB ms]⟩:=Θ
def L8(fb l ms:List AV)(n i:Int):cR Tryz.prog (EC 0) none (some true) (cO 15) (cO 15).toList ⟨eE true fb l n i,[mapB ms]⟩ (λ s=>some (dM [4] s))=some ⟨C7,[mapB ms]⟩:=Θ
def cC9:ko C7=C7:=Θ
def L9(H:List aC):dA Tryz.prog ⟨C7,H⟩ Tryz.f75.results.toList=some [.own (.b 0) 0 0 0]:=Θ
def Tx:Tryz.f75.ntmps=62:=Θ
def cBody:Tryz.f75.body=some cB:=Θ
def sk:fH Tryz.prog 75:=⟨_,Tryz.func75,by kernel_rfl,by kernel_rfl⟩
section
variable{w0 w:World}{A0:Cx}{A:Nat->Prop}{M:Id->Option MB}{a:Act}
set_option maxHeartbeats 2000000 in
def xIB(hI:xQa w0)(hp:A0.pin=0)(aa:∀id,A0.M1 id=none){fa fb:List AV}(Z:jc fa fb=true)(hs:SR w0 A0 w A M ⟨yR fa fb,[]⟩ a){Q:Exit->Act->World->Prop}(hQ:∀a' w' A' M',SR w0 A0 w' A' M' ⟨C7,[mapB (bI (cX fa fb))]⟩ a'->Q .ret a' w'):cB.wpIn (cP none) 0 Tryz.prog Q a w:=by unfold jc at Z;simp only[zf,zI,List.mem_range,zl]at Z;obtain⟨ad,ap,au⟩:=Z;rw[xNl];refine wpIn_seq (tL (orcC 0) (fw 0) hI MK (Ma fa fb) hs λ a1 w1 A1 M1 ao _=>?_);refine wpIn_seq (tL (orcC 0) (fw 0) hI ML (cR1 fa fb) ao λ a2 w2 A2 M2 ai _=>?_);obtain⟨A3,V⟩:=ai.vptr (Mb fa fb) Mc;have V:=V.cut (b0:=mapB []) (T:=[{wn with frz:=true}]) hp (tN _) (tO _);rw[cV3]at V;refine wpIn_seq (tL (orcC 0) (fw 0) hI MN (cR2 fa fb) V λ a4 w4 A4 M4 an _=>?_);refine wpIn_seq (wpIn_seq (tL (orcC 0) (fw 0) hI MO (cR3 fa fb) an λ a5 w5 A5 M5 W _=>?_));have W:=W.cut hp (tN _) (tO _);rw[mz false]at W;have ag:f8 w5 A5 w0.heap.size A0.w1.heap.size 0 [] (λ _=>er) (MR (pB q0) M5):=⟨λ i x h=>by simp at h,λ i j h=>by simp at h,λ i h=>by simp at h,λ i x h=>by simp at h,zd _⟩;refine wpIn_block (qq false hI hp aa W ag (tZ M5) ad (by omega) λ a6 w6 A6 M6 ar Ns6 ah ax ae ab=>?_);simp only[Exit.inBlock,uB,cond,if_true];show Exit.then _ _ .normal a6 w6;refine wpIn_seq (wpIn_seq (tL (orcC 0) (fw 0) hI MQ (cR9 fb fa (bY ar) fa.length fa.length) ah λ a7 w7 A7 M7 J mv7=>?_));have aj:=(ae.go mv7 J.heap.lt).part (q:=pB q0);have J:=J.cut hp (tN _) (tO _);rw[mz true]at J;refine wpIn_block (qq true hI hp aa J aj (tZ M7) ap (by omega) λ a8 w8 A8 M8 am Ns8 al aw af ac=>?_);simp only[Exit.inBlock,uB,cond,if_true];show Exit.then _ _ .normal a8 w8;refine wpIn_seq (tL (orcC 0) (fw 0) hI Dj (L8 fb fb (bY am) fb.length fb.length) al λ a9 w9 A9 M9 O ak=>?_);have aq:=(af.go ak O.heap.lt).part (q:=pB q0);have O:=O.cut hp (tN _) (tO _);rw[cC9]at O;obtain⟨A10,Y⟩:=SR.final O aq (tZ M9) hp;rw[ac,ab]at Y;exact wpIn_ret (hQ _ _ _ _ Y)
end
def xIC{fa fb:List AV}(Z:jc fa fb):bG Tryz.prog xQa 75 [.list 3 fa,.list 3 fb] [] (.own (.b 0) 0 0 0) [mapB (bI (cX fa fb))]:=by
 refine⟨sk,λ w0 w A M vs hI O hR J=>?_⟩;have Y:∀id,M id=none:=λ id=>by cases h:M id with|none=>rfl|some m=>obtain⟨bx,hb,_⟩:=hR.box id m h;cases id<;>simp[getB]at hb
 refine callsIn_wide.1 (callsIn_of_wp_marks (F:=Fence.wide) (n:=0) Tryz.func75 cBody trivial ?_);refine xIB (A0:=⟨A,w,A,M,0,λ _=>False⟩) (A:=A) (M:=M) (fa:=fa) (fb:=fb) hI rfl Y Z ⟨O,λ _ _=>Iff.rfl,?_,λ t ht=>?_,hR,eA.nil,Ev.refl (C:=⟨A,w,A,M,0,λ _=>False⟩)⟩ ?_;rw[Tx];have:=J.1;simp[yR]at this|-;omega;have hl:vs.length=2:=J.1;rw[Tx];show aD w A M _ ((yR fa fb).getD t .top);unfold yR;by_cases Q:t<2;have e1:(vs.toArray++Array.replicate (62 - vs.toArray.size) undef).getD t undef=vs.getD t undef:=by(have:t<vs.length:=Ω);simp[z7,Array.getElem?_append,this]
 rw[e1,RQ Q];exact J.2 t Q;have ht:t<62:=by(have h0:(yR fa fb).length=62:=by rfl);rw[<-h0];exact ht
 have h1:¬ t<vs.length:=Ω
 have e1:(vs.toArray++Array.replicate (62 - vs.toArray.size) undef).getD t undef=undef:=by(have h2:t - vs.length<62 - vs.length:=Ω);simp[Array.getElem?_append,h1,h2]
 rw[e1,R8 Q (show t - 2<60 by omega)];exact .tuple #[] [] rfl Ψ;intro a' w' A' M' W;show LeavesInM Fence.wide 0 Tryz.prog Tryz.f75 a'.tmps _ a'.defers .returning w';refine Gb (λ _ h=>h) W λ w2 q=>?_;obtain⟨v,hv,V⟩:=Kg (P:=Tryz.prog) q (L9 _);exact⟨v,hv,v,A',M',rfl,q.base,q.outer,q.ev,q.heap,V⟩
noncomputable def Uz:List AV->List aC->Option (Bool×AV×List aC):=jl (cT (mc 3 bB) (cT (mc 3 bB) iU)) bO λ(xa,(xb,_)) _=>(jc xa xb,.own (.b 0) 0 0 0,[⟨0,2,dt 88,bI (cX xa xb),false,true⟩])
def xGY:fJ Tryz.prog xQa 75 Uz:=pR λ b c r H' h=>by obtain⟨xa,xb,_⟩:=b;obtain⟨h1,h2⟩:=Prod.mk.inj h;obtain⟨rfl,rfl⟩:=Prod.mk.inj h2;exact xIC h1
end Go.Sim.M
end
noncomputable section
set_option maxRecDepth 100000
namespace Go.Sim.M
open Go.RowKit Go.Proofs
def Ds:bJ AV Nat:=⟨.gptr,fun v=>match v with
 |.gptr g=>some g
 |_=>
 none,λ a b h=>by
  split at h
  . simp only[z6]at h;rw[h]
  . simp at h⟩
noncomputable def sf:cZ:=Tm.E.withM 75 Uz
def Tn:di Tryz.prog xQa sf:=Tm.ok.withM xGY
noncomputable def C9:Code:=(jX (kA (bZ Tryz.f42))).getD 0 .skip
def cE:aC:=⟨0,2,25,[.agg [.nils,.nils]],false,true⟩
noncomputable def gy(ms:List AV):aC:=⟨0,2,dt 88,ms,true,true⟩
def ig(v:Nat)(xs:List AV):aC:=⟨v,3,54,xs,false,true⟩
noncomputable def GA{T:Type}(row lv:List AV)(c:Int)(v n:Nat)(i:Int)(xs:List AV)(δ:T)(κl κr:T):T:=br (decide (i<c)) (br (decide ((0:Int)<=i)&&decide (i<(↑lv.length:Int))) (br (decide (i.toNat<lv.length)&&((lv.getD i.toNat AV.top).cells.length==(2:Nat)&&ew [Sh.int IntKind.i64,Sh.int IntKind.i64] (lv.getD i.toNat AV.top).cells (0:Nat))) (br (v==v&&(n==xs.length&&(decide ((n+(1:Nat))*(40:Nat)<=(140737488355328:Nat))&&decide (n+(1:Nat)<=(4611686018427387904:Nat))))) κl δ) δ) δ) κr
noncomputable def nV(row lv:List AV)(c:Int):Nat×Nat×Int×List AV->Option ((Nat×Nat×Int×List AV)⊕(Nat×Nat×List AV)):=λ(v,n,i,xs)=>
 GA row lv c v n i xs none (some (.inl (v+1,n+1,IntKind.i64.wrap (i+1),xs++[.agg [.list 3 row,.int .i64 ((lv.getD i.toNat AV.top).cells.getD 0 AV.top).toInt,.int .i64 ((lv.getD i.toNat AV.top).cells.getD 1 AV.top).toInt]]))) (some (.inr (v,n,xs)))
end Go.Sim.M
end
noncomputable section
set_option maxRecDepth 100000
namespace Go.Sim
open Go.RowKit
variable {p:Nat}
def dC.trans{s1 s2 s3:St}(h:dC p s1 s2)(g:dC p s2 s3):dC p s1 s3:=λ w0 A0 w A M a hp hs=>by obtain⟨A1,M1,h1⟩:=h w0 A0 w A M a hp hs;exact g w0 A0 w A1 M1 a hp h1
def R7{ts:List AV}{H:List aC}{t:Nat}{y:AV}(hy:resolve H eI (ts.getD t .top)=some y):dC p ⟨ts,H⟩ ⟨ts.set t y,freeze H (aQ H eI (ts.getD t .top))⟩:=λ w0 A0 w A M a hp hs=>by obtain⟨A1,h1,_⟩:=hs.settle1 hy;exact⟨A1,M,h1⟩
def KZ(live:List Nat)(s:St):dC p s (dM live s):=λ w0 A0 w A M a hp hs=>⟨A,M,hs.mask live⟩
def xIM{P:Program}{ls:TypeId->Bool}{rs:List ResultVar}{e:Exit}{s:St}{r:AV}(h:qe P ls rs e s=some r):(e=.ret\/e=.normal)/\eG P rs s=some r:=by(have q:∀s,oW P ls rs s=some r->eG P rs s=some r:=λ s h=>by unfold oW at h;split at h;(case h_2=>simp at h);rename_i b xs hx;obtain⟨rfl,h⟩:=jZ (good:=λ t=>t=some r) Ψ h;rw[kH]at h;unfold eG;rw[Rm hx];exact h);cases e with|ret=>exact⟨.inl rfl,q s h⟩|normal=>exact⟨.inr rfl,q s h⟩|_=>simp[qe]at h
end Go.Sim
namespace Go.Sim.M
open Go.RowKit Go.Proofs
noncomputable def dS:Code->Array Oper|.seq (.region _ ops _) _=>ops|_=>#[]
noncomputable def eh:Code->Array Oper|.seq _ (.block _ (.loop (.seq (.region _ ops _) _)))=>ops|_=>#[]
def dK(ks fs:List AV):AV:=.agg [.list 1 ks,.list 3 fs]
noncomputable abbrev qc(n:Nat):Array Oper:=oh (iz (Tryz.f42.body.getD .skip) n)
def eD(ks fs:List AV)(z:Bool):aC:=⟨0,2,25,[dK ks fs],z,true⟩
def qt(q:AV):Bool:=q.cells.length==2&&ew [Sh.int IntKind.i64,Sh.int IntKind.i64] q.cells (0:Nat)
def kq(row:List AV)(q:AV):AV:=.agg [.list 3 row,.int .i64 (q.cells.getD 0 .top).toInt,.int .i64 (q.cells.getD 1 .top).toInt]
def Wp(row lv:List AV)(J:∀i,i<lv.length->qt (lv.getD i .top)=true):∀(d i v:Nat)(xs:List AV),i+d=lv.length->xs.length+d<=1099511627776->lv.length<=1099511627776->
  aB (nV row lv (lv.length:Nat)) (v,xs.length,(i:Int),xs)=some (v+d,xs.length+d,xs++(lv.drop i).map (kq row))
 |0,i,v,xs,hi,hx,hl=>by
  have e:nV row lv (lv.length:Nat) (v,xs.length,(i:Int),xs)=some (.inr (v,xs.length,xs)):=by
   have h1:decide ((i:Int)<(lv.length:Nat))=false:=by simp;omega
   simp only[nV,GA,h1,br]
  rw[cQ e];simp[show i=lv.length by omega]
 |d+1,i,v,xs,hi,hx,hl=>by
  have q:i<lv.length:=by omega
  have hq:=J i q;unfold qt at hq;have hw:IntKind.i64.wrap ((i:Int)+1)=((i+1:Nat):Int):=by rw[gx (by omega) (by omega)];omega
  have e:nV row lv (lv.length:Nat) (v,xs.length,(i:Int),xs)=some (.inl (v+1,(xs++[kq row (lv.getD i .top)]).length,((i+1:Nat):Int),xs++[kq row (lv.getD i .top)])):=by
   have h1:decide ((i:Int)<(lv.length:Nat))=true:=by simp;omega
   have h2:(decide ((0:Int)<=i)&&decide ((i:Int)<(lv.length:Nat)))=true:=by simp;omega
   have h3:(decide (i<lv.length)&&((lv.getD i AV.top).cells.length==(2:Nat)&&ew [Sh.int IntKind.i64,Sh.int IntKind.i64] (lv.getD i AV.top).cells (0:Nat)))=true:=by rw[hq];simp[q]
   have h4:(v==v&&(xs.length==xs.length&&(decide ((xs.length+(1:Nat))*(40:Nat)<=(140737488355328:Nat))&&decide (xs.length+(1:Nat)<=(4611686018427387904:Nat)))))=true:=by
    simp only[beq_self_eq_true,Bool.true_and,zf,zl];omega
   simp only[nV,GA,zN,h1,h2,h3,h4,br,hw];simp[kq]
  rw[eH e,Wp row lv J d (i+1) (v+1) (xs++[kq row (lv.getD i .top)]) (by omega) (by simp;omega) hl]
  have e2:lv.drop i=lv.getD i .top::lv.drop (i+1):=by
   rw[List.drop_eq_getElem_cons q];simp[z7,q]
  rw[e2];simp;omega
def jG(fk:Nat->List AV)(s:Nat×List AV)(k:Nat):(Nat×List AV)⊕Unit:=.inl (s.1+(fk k).length,s.2++fk k)
def NM(fk:Nat->List AV):∀(ord:List Nat)(v:Nat)(xs:List AV),∃v',ord.foldl (jH (jG fk)) (.inl (v,xs))=.inl (v',xs++ord.flatMap fk)|[],v,xs=>⟨v,by simp⟩|k::ord,v,xs=>by obtain⟨v',h⟩:=NM fk ord (v+(fk k).length) (xs++fk k);refine⟨v',?_⟩;rw[List.foldl_cons];show ord.foldl (jH (jG fk)) (Sum.inl (v+(fk k).length,xs++fk k))=_;rw[h];simp
variable {fk:Nat->List AV}{n:Nat}
def xzY{done:List Nat}(h1:done.Nodup)(h2:∀i,i∈done->i<n):(done.flatMap fk).length<=((List.range n).flatMap fk).length:=by obtain⟨l',q⟩:=Up h1 h2;have:=(q.flatMap_right fk).length_eq;rw[List.flatMap_append,z8]at this;omega
def xBt{done:List Nat}{k:Nat}(h1:done.Nodup)(h2:∀i,i∈done->i<n)(h3:k∉done)(h4:k<n):(done.flatMap fk).length+(fk k).length<=((List.range n).flatMap fk).length:=by
 have:=xzY (fk:=fk) (done:=done++[k]) (n:=n) (by
  rw [List.nodup_append];exact ⟨h1,by simp,fun a ha b hb=>by simp at hb;subst hb;exact fun e=>h3 (e▸ha)⟩) (fun i hi=>by
  rcases zG.1 hi with h|h
  . exact h2 i h
  . simp at h;omega)
 simpa using this
noncomputable def gQ(op:List AV->List AV->Option (List AV))(p:PE):List AV:=(kF ((op ((e7 p.2.2.1).getD []) ((e7 p.2.2.2).getD [])).getD [])).getD []
noncomputable def mH(op:List AV->List AV->Option (List AV))(p:PE):Bool:=(e7 p.2.2.1).isSome&&((e7 p.2.2.2).isSome&&((op ((e7 p.2.2.1).getD []) ((e7 p.2.2.2).getD [])).isSome&&((kF ((op ((e7 p.2.2.1).getD []) ((e7 p.2.2.2).getD [])).getD [])).isSome && (List.range (gQ op p).length).all λ i=>qt ((gQ op p).getD i .top))))
noncomputable def fv(op:List AV->List AV->Option (List AV))(ps:List PE)(k:Nat):List AV:=(gQ op (ps.getD k dc)).map (kq (ps.getD k dc).2.1)
noncomputable def fN(op:List AV->List AV->Option (List AV))(ps:List PE):List AV:=(List.range ps.length).flatMap (fv op ps)
open Classical in
noncomputable def kh(op:List AV->List AV->Option (List AV))(fa fb:List AV):Bool:=jc fa fb&&((List.range (cX fa fb).length).all (λ k=>mH op ((cX fa fb).getD k dc))&&(decide ((fN op (cX fa fb)).length<=1099511627776) && (decide (∀ord:List Nat,ord.Perm (List.range (cX fa fb).length)->pd (ord.flatMap (fv op (cX fa fb)))=pd (fN op (cX fa fb)))&&(pd (fN op (cX fa fb))).isSome)))
noncomputable def lA(op:List AV->List AV->Option (List AV))(fa fb:List AV):Option (List AV):=match kh op fa fb with|true=>pd (fN op (cX fa fb))|false=>none
def xGU{op:List AV->List AV->Option (List AV)}{fa fb:List AV}(h:(lA op fa fb).isSome):kh op fa fb/\lA op fa fb=pd (fN op (cX fa fb)):=by unfold lA at h|-;cases hc:kh op fa fb with|true=>exact⟨rfl,rfl⟩|false=>rw[hc]at h;simp at h
end Go.Sim.M
end
noncomputable section
set_option maxRecDepth 100000
namespace Go.Sim.M
open Go.RowKit Go.Proofs
variable(g:FuncId)
noncomputable abbrev NZ:cZ:=sf.fn 57 3 (dQ [54]) (iS [])
def xMe:di Tryz.prog (xQa.at 3) NZ:=Tn.fn
def xMa:cV Tryz.prog (xQa.at 3) NZ C9:=oI Θ
def vV(ra row ea eb lv ms:List AV)(r:Nat)(c:Int):Nat×Nat×Int×List AV->List AV×List aC:=λ(v,n,i,xs)=>([.func g [],.eptr 2 ra 0 0,.own 0 0 0 0,.osl 1 v 0 n,.eptr 3 [.agg [.list 3 row,.list 3 ea,.list 3 eb]] 0 0,.gptr r,.list 2 lv,.int .i64 c,.int .i64 i],[⟨0,2,25,[.agg [.nils,.nils]],false,true⟩,⟨v,3,54,xs,false,true⟩,⟨0,2,dt 88,ms,true,true⟩])
def CV(ra ms:List AV)(r:Nat):Nat×Nat×List AV->LR:=λ p=>.leaf (.exit 2) [.func g [],.eptr 2 ra 0 0,.own 0 0 0 0,.osl 1 p.1 0 p.2.1,.gptr r] [⟨0,2,25,[.agg [.nils,.nils]],false,true⟩,⟨p.1,3,54,p.2.2,false,true⟩,⟨0,2,dt 88,ms,true,true⟩]
noncomputable abbrev XX(vals:List AV)(H:List aC):=XR Tryz.prog NZ [2,3,6,7,9,17,34,35,36] [2,3,6,7,17] [(7,3,54)] C9 vals H
def xN5(ra row ea eb lv ms:List AV)(r:Nat)(c:Int)(s:Nat×Nat×Int×List AV):cU (encR ((vV g) ra row ea eb lv ms r c) ((CV g) ra ms r)) (nV row lv c s) (XX ((vV g) ra row ea eb lv ms r c s).1 ((vV g) ra row ea eb lv ms r c s).2):=by(obtain⟨v,n,i,xs⟩:=s;have h:XX ((vV g) ra row ea eb lv ms r c (v,n,i,xs)).1 ((vV g) ra row ea eb lv ms r c (v,n,i,xs)).2=GA row lv c v n i xs none (some (encR ((vV g) ra row ea eb lv ms r c) ((CV g) ra ms r) (.inl (v+1,n+1,IntKind.i64.wrap (i+1),xs++[.agg [.list 3 row,.int .i64 ((lv.getD i.toNat AV.top).cells.getD 0 AV.top).toInt,.int .i64 ((lv.getD i.toNat AV.top).cells.getD 1 AV.top).toInt]])))) (some (encR ((vV g) ra row ea eb lv ms r c) ((CV g) ra ms r) (.inr (v,n,xs)))):=by kernel_rfl);rw[h];unfold nV GA;repeat' (first|refine cU.br ?_ ?_|exact cU.none|exact cU.some rfl)
noncomputable def N2:Lp:=mG [2,3,6,7,9,17,34,35,36] [2,3,6,7,17] [(7,3,54)] (aZ (ez g bO) (aZ (ui 2 0 0 bB) (aZ (dL 0 0 0 0) (aZ (kZ 1 0) (aZ (ui 3 0 0 (aZ (iE (aZ (qM 3 bB) (aZ (qM 3 bB) (aZ (qM 3 bB) bO)))) bO)) (aZ Ds (aZ (qM 2 bB) (aZ (pInt .i64) (aZ (pInt .i64) bO))))))))) (aZ (fu 0 2 25 false true (aZ (iE (aZ eF (aZ eF bO))) bO)) (aZ (kY 3 54 false true bB) (aZ (fu 0 2 (dt 88) true true bB) bO))) λ(_,(ra,(_,((v,n),((((row,(ea,(eb,_))),_)),(r,(lv,(c,(i,_))))))))) (_,((v',xs),(ms,_)))=>(Nat.beq v v'&&(aB (nV row lv c) (v,n,i,xs)).isSome,(CV g) ra ms r ((aB (nV row lv c) (v,n,i,xs)).getD (0,0,[])))
def xMd:dp Tryz.prog (xQa.at 3) 57 C9 (N2 g):=CW λ vv bb rr hh=>by obtain⟨_,⟨ra,⟨_,⟨⟨v,n⟩,⟨⟨⟨row,⟨ea,⟨eb,_⟩⟩⟩,_⟩,⟨r,⟨lv,⟨c,⟨i,_⟩⟩⟩⟩⟩⟩⟩⟩⟩:=vv;obtain⟨_,⟨⟨v',xs⟩,⟨ms,_⟩⟩⟩:=bb;obtain⟨q,rfl⟩:=Prod.mk.inj hh;rw[zf]at q;obtain⟨hv,q⟩:=q;have hv:=zg hv;subst hv;exact Ct xPD (xPE Tryz.prog _) rfl xMe xMa ((vV g) ra row ea eb lv ms r c) ((CV g) ra ms r) (λ p=>by simp only[CV,LR.eval];simp) ((xN5 g) ra row ea eb lv ms r c) (s:=(v,n,i,xs)) (nP q)
end Go.Sim.M
end
noncomputable section
set_option maxRecDepth 100000
namespace Go.Sim.M
open Go.RowKit Go.Proofs
variable(g:FuncId)
noncomputable abbrev GU:cZ:=sf.fn 57 3 (dQ [54]) (iS [(6,(N2 g))])
def xMf:di Tryz.prog (xQa.at 3) (GU g):=Tn.fn
noncomputable abbrev t7:cZ:=sf.fn 57 0 (dQ [54]) (iS [])
def Nv:di Tryz.prog (xQa.at 0) t7:=Tn.fn
def xMb:cV Tryz.prog (xQa.at 3) (GU g) (kA (bZ Tryz.f42)):=r7 (ls:=[C9]) Θ (fun l hl lp hs=>by
 simp only[zC,List.not_mem_nil,or_false]at hl;rcases hl with rfl;rw[show (GU g).lp (jv C9)=some (N2 g) by kernel_rfl]at hs
 cases hs;exact (xMd g))
noncomputable def vU(ra:List AV)(v n r:Nat):List AV:=aX 57 [(2,.func g []),(3,.eptr 2 ra 0 0),(6,.own 0 0 0 0),(7,.osl 1 v 0 n),(17,.gptr r)]
def yN(g:FuncId)(o:List AV->List AV->Option (List AV)):Prop:=∀(ra row ea eb ms xs:List AV)(s:List UInt8)(v n r:Nat),XM Tryz.prog (GU g) (em (bZ Tryz.f42)) (kA (bZ Tryz.f42)) [2,3,6,7,17] (qz ((vU g) ra v n r) 18 19 20 s (nA row ea eb)) [cE,ig v xs,gy ms] =br (e7 ea).isSome (br (e7 eb).isSome (br (o ((e7 ea).getD []) ((e7 eb).getD [])).isSome (br (kF ((o ((e7 ea).getD []) ((e7 eb).getD [])).getD [])).isSome (br (v.beq v&&(aB (nV row ((kF ((o ((e7 ea).getD []) ((e7 eb).getD [])).getD [])).getD []) (↑((kF ((o ((e7 ea).getD []) ((e7 eb).getD [])).getD [])).getD []).length:Int)) (v,n,(0:Int),xs)).isSome) (some (Exit.normal,[AV.func g [],AV.eptr 2 ra 0 0,AV.own 0 0 0 0,AV.osl 1 ((aB (nV row ((kF ((o ((e7 ea).getD []) ((e7 eb).getD [])).getD [])).getD []) (↑((kF ((o ((e7 ea).getD []) ((e7 eb).getD [])).getD [])).getD []).length:Int)) (v,n,(0:Int),xs)).getD ((0:Nat),(0:Nat),[])).fst 0 ((aB (nV row ((kF ((o ((e7 ea).getD []) ((e7 eb).getD [])).getD [])).getD []) (↑((kF ((o ((e7 ea).getD []) ((e7 eb).getD [])).getD [])).getD []).length:Int)) (v,n,(0:Int),xs)).getD ((0:Nat),(0:Nat),[])).snd.fst,AV.gptr r],[cE,ig ((aB (nV row ((kF ((o ((e7 ea).getD []) ((e7 eb).getD [])).getD [])).getD []) (↑((kF ((o ((e7 ea).getD []) ((e7 eb).getD [])).getD [])).getD []).length:Int)) (v,n,(0:Int),xs)).getD ((0:Nat),(0:Nat),[])).fst ((aB (nV row ((kF ((o ((e7 ea).getD []) ((e7 eb).getD [])).getD [])).getD []) (↑((kF ((o ((e7 ea).getD []) ((e7 eb).getD [])).getD [])).getD []).length:Int)) (v,n,(0:Int),xs)).getD ((0:Nat),(0:Nat),[])).snd.snd,gy ms])) none) none) none) none) none
noncomputable def DH(ka fa kb fb:List AV):List AV:=aX 57 [(2,.func g []),(3,.eptr 2 [dK ka fa] 0 0),(4,.eptr 2 [dK kb fb] 0 0),(6,.own 0 0 0 0),(7,.osl 1 0 0 0)]
noncomputable def GD(ka fa kb fb:List AV):List AV:=(((((DH g) ka fa kb fb).set 12 (.eptr 2 [dK ka fa] 0 1)).set 13 (.list 3 fa)).set 14 (.eptr 2 [dK kb fb] 0 1)).set 15 (.list 3 fb)
def xMg(ka fa kb fb:List AV):cR Tryz.prog t7 none (some true) (dS (bZ Tryz.f42)) (dS (bZ Tryz.f42)).toList.dropLast ⟨(DH g) ka fa kb fb,[cE,ig 0 []]⟩ some =br (jc fa fb) (some ⟨((GD g) ka fa kb fb).set 16 (.own 2 0 0 0),[cE,ig 0 [],mapB (bI (cX fa fb))]⟩) none:=Θ
def xKc:Tryz.f42.body.getD .skip=.seq (.region 0 (qc 0) false) (.seq (.region 1 (qc 1) false) (.seq (bZ Tryz.f42) (.seq (.region 10 (qc 10) false) .ret))):=Θ
def xMh:bZ Tryz.f42=lL 2 (dS (bZ Tryz.f42)) 0 3 (eh (bZ Tryz.f42)) 19 1 4 (em (bZ Tryz.f42)) (kA (bZ Tryz.f42)):=Θ
noncomputable def N0(ka fa kb fb:List AV):List AV:=[dK ka fa,dK kb fb,.func g []]++List.replicate 54 (.tuple [])
noncomputable def se(ka fa kb fb:List AV):List AV:=((((N0 g) ka fa kb fb).set 3 (.own 0 0 0 0)).set 4 (.own 1 0 0 0)).set 6 (.own 2 0 0 0)
def xNy(ka fa kb fb:List AV):cR Tryz.prog t7 none (some true) (qc 0) (qc 0).toList ⟨(N0 g) ka fa kb fb,[]⟩ some=some ⟨(se g) ka fa kb fb,[eD ka fa false,eD kb fb false,cE]⟩:=Θ
def xNz(ka fa kb fb:List AV):cR Tryz.prog t7 none (some true) (qc 1) (qc 1).toList ⟨(se g) ka fa kb fb,[eD ka fa false,eD kb fb false,cE]⟩ some=some ⟨((se g) ka fa kb fb).set 7 .nils,[eD ka fa false,eD kb fb false,cE]⟩:=Θ
def xNt:aO (qc 0):=Θ
def xNu:aO (qc 1):=Θ
def xNB(ka fa kb fb:List AV):resolve [eD ka fa false,eD kb fb false,cE] eI ((((se g) ka fa kb fb).set 7 .nils).getD 3 .top)=some (.eptr 2 [dK ka fa] 0 0):=Θ
def xNm(ka fa kb fb:List AV):freeze [eD ka fa false,eD kb fb false,cE] (aQ [eD ka fa false,eD kb fb false,cE] eI ((((se g) ka fa kb fb).set 7 .nils).getD 3 .top))=[eD ka fa true,eD kb fb false,cE]:=Θ
def xNC(ka fa kb fb:List AV):resolve [eD ka fa true,eD kb fb false,cE] eI (((((se g) ka fa kb fb).set 7 .nils).set 3 (.eptr 2 [dK ka fa] 0 0)).getD 4 .top)=some (.eptr 2 [dK kb fb] 0 0):=Θ
def xNn(ka fa kb fb:List AV):freeze [eD ka fa true,eD kb fb false,cE] (aQ [eD ka fa true,eD kb fb false,cE] eI (((((se g) ka fa kb fb).set 7 .nils).set 3 (.eptr 2 [dK ka fa] 0 0)).getD 4 .top))=[eD ka fa true,eD kb fb true,cE]:=Θ
def xNw(ka fa kb fb:List AV):gw 0 [(7,3,54)] [2,3,4,6,7] ⟨((((se g) ka fa kb fb).set 7 .nils).set 3 (.eptr 2 [dK ka fa] 0 0)).set 4 (.eptr 2 [dK kb fb] 0 0),[eD ka fa true,eD kb fb true,cE]⟩=some ([.func g [],.eptr 2 [dK ka fa] 0 0,.eptr 2 [dK kb fb] 0 0,.own 0 0 0 0,.osl 1 0 0 0],[cE,ig 0 []]):=Θ
def xNs(ka fa kb fb:List AV):aX (((((se g) ka fa kb fb).set 7 .nils).set 3 (.eptr 2 [dK ka fa] 0 0)).set 4 (.eptr 2 [dK kb fb] 0 0)).length ([2,3,4,6,7].zip [.func g [],.eptr 2 [dK ka fa] 0 0,.eptr 2 [dK kb fb] 0 0,.own 0 0 0 0,.osl 1 0 0 0])=(DH g) ka fa kb fb:=Θ
def xNA(ka fa kb fb:List AV):dC 0 ⟨((se g) ka fa kb fb).set 7 .nils,[eD ka fa false,eD kb fb false,cE]⟩ ⟨(DH g) ka fa kb fb,[cE,ig 0 []]⟩:=by have h1:=R7 (p:=0) ((xNB g) ka fa kb fb);rw[(xNm g)]at h1;have h2:=R7 (p:=0) ((xNC g) ka fa kb fb);rw[(xNn g)]at h2;have h3:=vn ((xNw g) ka fa kb fb);rw[(xNs g)]at h3;exact(h1.trans h2).trans h3
noncomputable def XY(ra:List AV)(v n:Nat):List AV:=aX 57 [(3,.eptr 2 ra 0 0),(6,.own 0 0 0 0),(7,.osl 1 v 0 n)]
def xNq(ra:List AV)(v n r:Nat)(H:List aC):dM [3,6,7] ⟨(((vU g) ra v n r).set 18 (.tuple [.bool false])).set 19 (.bool false),H⟩=⟨XY ra v n,H⟩:=Θ
def xLY(ka fa xs ms:List AV)(v n:Nat):X Tryz.prog t7 none (.seq (.region 10 (qc 10) false) .ret) ⟨XY [dK ka fa] v n,[cE,ig v xs,gy ms]⟩ (qe Tryz.prog t7.ls Tryz.f42.results.toList) =br (decide (((0:Nat)+ka.length)*(8:Nat)<=(140737488355328:Nat))&&decide ((0:Nat)+ka.length<=(4611686018427387904:Nat))) (br (v==v&&decide ((0:Nat)+n<=xs.length)&&true) (br (pd (List.take n (List.drop (0:Nat) xs))).isSome (br (decide ((0:Nat)+((0:Nat)+ka.length)<=([]++ka).length)&&true&&true) (some (AV.agg [AV.list (1:Nat) (List.take ((0:Nat)+ka.length) (List.drop (0:Nat) ([]++ka))),AV.list (3:Nat) ((pd (List.take n (List.drop (0:Nat) xs))).getD [])])) none) none) none) none:=Θ
def xMc:cV Tryz.prog (xQa.at 0) t7 (.seq (.region 10 (qc 10) false) .ret):=oI Θ
def xIt:(dS (bZ Tryz.f42)).toList=(dS (bZ Tryz.f42)).toList.dropLast++[(dS (bZ Tryz.f42)).toList.getLastD default]:=Θ
def xKf:aO (dS (bZ Tryz.f42)):=Θ
def xL8:((dS (bZ Tryz.f42)).toList.getLastD default).op=.range 88 (.tmp 16):=Θ
def xL0:((dS (bZ Tryz.f42)).toList.getLastD default).dst=some 17:=Θ
def xL4:((dS (bZ Tryz.f42)).toList.getLastD default).guard=none:=Θ
def xIr:(eh (bZ Tryz.f42)).toList=[(eh (bZ Tryz.f42)).toList.getD 0 default,(eh (bZ Tryz.f42)).toList.getD 1 default]:=Θ
def xKd:aO (eh (bZ Tryz.f42)):=Θ
def xL6:((eh (bZ Tryz.f42)).toList.getD 0 default).op=.next (.tmp 17) false:=Θ
def xLZ:((eh (bZ Tryz.f42)).toList.getD 0 default).dst=some 18:=Θ
def xL2:((eh (bZ Tryz.f42)).toList.getD 0 default).guard=none:=Θ
def xL7:((eh (bZ Tryz.f42)).toList.getD 1 default).op=.extract (.tmp 18) 0:=Θ
def xLx:((eh (bZ Tryz.f42)).toList.getD 1 default).dst=some 19:=Θ
def xL3:((eh (bZ Tryz.f42)).toList.getD 1 default).guard=none:=Θ
def xIs:(em (bZ Tryz.f42)).toList=((em (bZ Tryz.f42)).toList.getD 0 default)::(em (bZ Tryz.f42)).toList.drop 1:=Θ
def xKe:aO (em (bZ Tryz.f42)):=Θ
def xL9:((em (bZ Tryz.f42)).toList.getD 0 default).op=.entry (.tmp 17):=Θ
def xL1:((em (bZ Tryz.f42)).toList.getD 0 default).dst=some 20:=Θ
def xL5:((em (bZ Tryz.f42)).toList.getD 0 default).guard=none:=Θ
def xNo(ka fa kb fb:List AV)(H:List aC):St.eval ⟨((GD g) ka fa kb fb).set 16 (.own 2 0 0 0),H⟩ (.tmp 16)=.own (.b 2) 0 0 0:=Θ
def N1(ms:List AV):freeze [cE,ig 0 [],mapB ms] [2]=[cE,ig 0 [],gy ms]:=Θ
def xNv(ka fa kb fb ms:List AV)(r:Nat):gw 3 [] [2,3,6,7,17] ⟨(((GD g) ka fa kb fb).set 16 (.own 2 0 0 0)).set 17 (.gptr r),[cE,ig 0 [],gy ms]⟩=some ([.func g [],.eptr 2 [dK ka fa] 0 0,.own 0 0 0 0,.osl 1 0 0 0,.gptr r],[cE,ig 0 [],gy ms]):=Θ
def xNr(ka fa kb fb:List AV)(r:Nat):aX ((((GD g) ka fa kb fb).set 16 (.own 2 0 0 0)).set 17 (.gptr r)).length ([2,3,6,7,17].zip [.func g [],.eptr 2 [dK ka fa] 0 0,.own 0 0 0 0,.osl 1 0 0 0,.gptr r])=(vU g) [dK ka fa] 0 0 r:=Θ
def xNp(ra:List AV)(v n r:Nat):((vU g) ra v n r)[17]?=some (.gptr r):=Θ
def WU(ra:List AV)(v n r:Nat):((vU g) ra v n r).length=57:=Θ
end Go.Sim.M
end
noncomputable section
set_option maxRecDepth 100000
namespace Go.Sim.M
open Go.RowKit Go.Proofs
variable(g:FuncId)
def xKa(ka fa kb fb:List AV):([dK ka fa,dK kb fb,.func g []]:List AV)++List.replicate (Tryz.f42.ntmps - ([dK ka fa,dK kb fb,.func g []]:List AV).length) (.tuple [])=(N0 g) ka fa kb fb:=Θ
def xKb:Tryz.f42.body=some (Tryz.f42.body.getD .skip):=Θ
def xN4(ka fa kb fb:List AV)(h:jc fa fb):d7 (iG Tryz.prog (xQa.at 0)) (dS (bZ Tryz.f42)) (dS (bZ Tryz.f42)).toList.dropLast ⟨(DH g) ka fa kb fb,[cE,ig 0 []]⟩ ⟨((GD g) ka fa kb fb).set 16 (.own 2 0 0 0),[cE,ig 0 [],mapB (bI (cX fa fb))]⟩:=by have h1:=(xMg g) ka fa kb fb;rw[h]at h1;obtain⟨s1,h2,h3⟩:=rU Nv (K:=some) h1;cases h3;exact h2
def Wq{ops:Array Oper}{l:List Oper}{s s':St}(h:cR Tryz.prog t7 none (some true) ops l s some=some s'):d7 (iG Tryz.prog (xQa.at 0)) ops l s s':=by obtain⟨s1,h2,h3⟩:=rU Nv h;cases h3;exact h2
variable {o:List AV->List AV->Option (List AV)}
def xIu(O:yN g o){ra:List AV}{ps:List PE}(V:∀k,k<ps.length->mH o (ps.getD k dc)){s:Nat×List AV}{k r:Nat}(hk:k<ps.length)(hl:s.2.length+(fv o ps k).length<=1099511627776):∃s2,d7 (iG Tryz.prog (xQa.at 3)) (em (bZ Tryz.f42)) ((em (bZ Tryz.f42)).toList.drop 1) ⟨qz ((vU g) ra s.1 s.2.length r) 18 19 20 (fh (gy (bI ps)) k) (fZ 2 (gy (bI ps)) k),[cE,ig s.1 s.2,gy (bI ps)]⟩ s2/\bL Tryz.prog (xQa.at 3) (kA (bZ Tryz.f42)) (λ e s'=>e=.normal/\dC 3 s' ⟨(vU g) ra (s.1+(fv o ps k).length) (s.2++fv o ps k).length r,[cE,ig (s.1+(fv o ps k).length) (s.2++fv o ps k),gy (bI ps)]⟩) s2:=by
 have q:fZ 2 (gy (bI ps)) k=nA (ps.getD k dc).2.1 (ps.getD k dc).2.2.1 (ps.getD k dc).2.2.2:=by(have e:(bI ps).getD k .top=wI (ps.getD k dc):=by simp[bI,z7,hk]);have e2:(gy (bI ps)).xs=bI ps:=rfl;have e3:de (gy (bI ps)).ty 1=false:=DJ;unfold fZ fy;rw[e3,e2,e];rfl
 rw[q];have hv:=V k hk;unfold mH at hv;simp only[zf,zI,List.mem_range]at hv;obtain⟨h1,h2,h3,h4,h5⟩:=hv;have J:(fv o ps k).length=(gQ o (ps.getD k dc)).length:=by simp[fv]
 have hit:aB (nV (ps.getD k dc).2.1 (gQ o (ps.getD k dc)) (↑(gQ o (ps.getD k dc)).length:Int)) (s.1,s.2.length,(0:Int),s.2)=some (s.1+(gQ o (ps.getD k dc)).length,s.2.length+(gQ o (ps.getD k dc)).length,s.2++((gQ o (ps.getD k dc)).drop 0).map (kq (ps.getD k dc).2.1)):=Wp (ps.getD k dc).2.1 (gQ o (ps.getD k dc)) h5 (gQ o (ps.getD k dc)).length 0 s.1 s.2 Ω Ω Ω;have hx:=O ra (ps.getD k dc).2.1 (ps.getD k dc).2.2.1 (ps.getD k dc).2.2.2 (bI ps) s.2 (fh (gy (bI ps)) k) s.1 s.2.length r;have Q:s.1.beq s.1:=Nat.beq_refl _;rw[h1,h2,h3,h4]at hx;simp only[aW,aI]at hx;rw[show (kF ((o ((e7 (ps.getD k dc).2.2.1).getD []) ((e7 (ps.getD k dc).2.2.2).getD [])).getD [])).getD []=gQ o (ps.getD k dc) from rfl,hit,Q]at hx;simp only[zk,Bool.and_self,aW,zh,zr,aI]at hx;obtain⟨s2,g1,g2⟩:=xKn xPD (xPE Tryz.prog _) rfl (xMf g) (xMb g) hx;refine⟨s2,g1,mg g2 λ e s'⟨he,hw⟩=>⟨he,?_⟩⟩;rw[J];have hn:s.2.length+(gQ o (ps.getD k dc)).length=(s.2++fv o ps k).length:=by rw[z8,J]
 rw[hn]at hw;exact hw
def xGZ(ac:yN g o){ka fa kb fb:List AV}(hk:ka.length<=1099511627776)(h:kh o fa fb):Good Tryz.prog xQa 42 [dK ka fa,dK kb fb,.func g []] (.agg [.list 1 ka,.list 3 ((pd (fN o (cX fa fb))).getD [])]):=by
 unfold kh at h;simp only[zf,zI,List.mem_range,zl]at h;obtain⟨Y,af,aa,Q,O⟩:=h;refine yD (p:=0) (WB (xPE Tryz.prog _) Tryz.func42 xKb Θ ?_);rw[(xKa g),xKc];refine pU (Sj (xPE Tryz.prog _) xNt (Wq ((xNy g) ka fa kb fb)) ?_);refine pU (Sj (xPE Tryz.prog _) xNu (Wq ((xNz g) ka fa kb fb)) ?_);refine vz ((xNA g) ka fa kb fb) (pU ?_);rw[xMh];refine mg (xDy (Inv:=xQa.at 0) (xPE Tryz.prog _) (σ:=Nat×List AV) (ρ:=Unit) (pre:=(dS (bZ Tryz.f42)).toList.dropLast) (exts:=(em (bZ Tryz.f42)).toList.drop 1) (o9:=(dS (bZ Tryz.f42)).toList.getLastD default) (o0:=(eh (bZ Tryz.f42)).toList.getD 0 default) (o1:=(eh (bZ Tryz.f42)).toList.getD 1 default) (oe:=(em (bZ Tryz.f42)).toList.getD 0 default) (it:=17) (tn:=18) (tb:=19) (te:=20) (tyM:=88) (kt:=9) (et:=90) (mo:=.tmp 16) xIt xKf xL8 xL0 xL4 N4 xIr xKd xL6 xLZ xL2 xL7 xLx xL3 xIs xKe xL9 xL1 xL5 (by decide) (by decide) (by decide) ((xN4 g) ka fa kb fb Y) (nb:=2) (ver:=0) (i:=0) (j:=0) ((xNo g) ka fa kb fb _) (bx:=gy (bI (cX fa fb))) (by rw[N1];rfl) rfl N3 DI rfl rfl rfl (n:=3) (by rw[N1];exact zd 3) (λ s r=>(vU g) [dK ka fa] s.1 s.2.length r) (λ s=>[cE,ig s.1 s.2,gy (bI (cX fa fb))]) (λ _=>[]) (λ _=>[]) (jG (fv o (cX fa fb))) (0,[]) (λ s=>zd 3) (λ s r=>(xNp g) _ _ _ r) (λ s r=>by rw[(WU g)];decide) (λ s r=>by rw[(WU g)];decide) (λ r=>?_) ?_) λ e s' hq=>?_;have h:=vn ((xNv g) ka fa kb fb (bI (cX fa fb)) r);rw[(xNr g)]at h;rw[N1];exact h;intro r done s k W Z ae ab hf;have J:(gy (bI (cX fa fb))).xs.length=(cX fa fb).length:=by show (bI (cX fa fb)).length=_;simp[bI]
 rw[J]at W ab;obtain⟨v',V⟩:=NM (fv o (cX fa fb)) done 0 [];rw[V]at hf;have hs:s=(v',[]++done.flatMap (fv o (cX fa fb))):=by injection hf with hf;exact hf.symm
 have hl:s.2.length+(fv o (cX fa fb) k).length<=1099511627776:=by rw[hs];have:=xBt (fk:=fv o (cX fa fb)) ae ab Z W;simp only[zU];exact Nat.le_trans this aa
 obtain⟨s2,g1,g2⟩:=xIu g ac (ra:=[dK ka fa]) af (s:=s) (r:=r) W hl;exact⟨s2,g1,g2⟩;obtain⟨ord,q,hq⟩:=hq;have J:(gy (bI (cX fa fb))).xs.length=(cX fa fb).length:=by show (bI (cX fa fb)).length=_;simp[bI]
 rw[J]at q;obtain⟨v',V⟩:=NM (fv o (cX fa fb)) ord 0 [];rw[V]at hq;obtain⟨rfl,r,rfl⟩:=hq;show bL Tryz.prog (xQa.at 0) _ _ _;refine vz (KZ [3,6,7] _) ?_;rw[(xNq g)];have ad:=Q ord q;have hx:=xLY ka fa ([]++ord.flatMap (fv o (cX fa fb))) (bI (cX fa fb)) v' ([]++ord.flatMap (fv o (cX fa fb))).length;have c1:(decide (((0:Nat)+ka.length)*(8:Nat)<=(140737488355328:Nat))&&decide ((0:Nat)+ka.length<=(4611686018427387904:Nat))):=by simp only[zf,zl];omega
 have c2:∀n:Nat,(v'==v'&&decide ((0:Nat)+n<=n)&&true):=λ n=>by simp
 have c3:(decide ((0:Nat)+((0:Nat)+ka.length)<=([]++ka).length)&&true&&true):=by simp
 rw[c1,c2,c3,zU,zr,y6,ad,O]at hx;simp only[aW,zU,zr,zH,y6,aI]at hx;have hd:=oJ (P:=Tryz.prog) (Inv:=xQa.at 0) (E:=t7) (good:=λ z=>z=some (AV.agg [.list 1 ka,.list 3 ((pd (fN o (cX fa fb))).getD [])])) (bad:=none) xPD (xPE Tryz.prog _) rfl Ψ Nv _ _ _ xMc hx;refine mg hd λ e s hq=>?_;exact xIM hq
end Go.Sim.M
end
noncomputable section
set_option maxRecDepth 100000
namespace Go.Sim.M
open Go.RowKit Go.Proofs
def Me:yN 43 F2:=λ ra row ea eb ms xs s v n r=>by kernel_rfl
def Mf:yN 53 F3:=λ ra row ea eb ms xs s v n r=>by kernel_rfl
def Mg:yN 45 Fo:=λ ra row ea eb ms xs s v n r=>by kernel_rfl
noncomputable def Li(fa fb:List AV):Option (List AV):=lA F2 fa fb
noncomputable def Lj(fa fb:List AV):Option (List AV):=lA F3 fa fb
noncomputable def Lk(fa fb:List AV):Option (List AV):=lA Fo fa fb
noncomputable def LD(g:FuncId)(f:List AV->List AV->Option (List AV)):List AV->Option (Bool×AV):=kw (cT (fP (cT (mc 1 bB) (cT (mc 3 bB) iU))) (cT (fP (cT (mc 1 bB) (cT (mc 3 bB) iU))) (cT (sEq (ez g bO)) iU))) λ((ka,(fa,_)),((kb,(fb,_)),_))=>(decide (ka.length<=1099511627776)&&(f fa fb).isSome,.agg [.list 1 ka,.list 3 ((f fa fb).getD [])])
def NL{g:FuncId}{o:List AV->List AV->Option (List AV)}(q:yN g o):ga Tryz.prog xQa 42 (LD g (lA o)):=tP λ vv rr hh=>by obtain⟨⟨ka,fa,_⟩,⟨kb,fb,_⟩,_⟩:=vv;obtain⟨h1,rfl⟩:=Prod.mk.inj hh;simp only[zf,zl]at h1;obtain⟨h2,h3⟩:=xGU (op:=o) h1.2;have h:=xGZ g q (ka:=ka) (kb:=kb) h1.1 h2;rw[<-h3]at h;exact h
noncomputable def vY:cZ:=(((W3.E.withM 132 QA).with 42 (LD 43 Li)).with 42 (LD 53 Lj)).with 42 (LD 45 Lk)
def Wi:di Tryz.prog xQa vY:=(((W3.ok.withM xBC).with (NL Me)).with (NL Mf)).with (NL Mg)
noncomputable def xJW:EO:=EO.mk vY Wi
abbrev En:=List UInt8×List AV
def aJ(e:En):AV:=.agg [.str e.1,.list 2 e.2]
def iu(s:List UInt8)(n:Int):AV:=.agg [.str s,.int .i64 n]
def d9:List En->List UInt8->Option Nat|[],_=>none|e::es,s=>match e.1==s with|true=>some 0|false=>(d9 es s).map (·+1)
def yx(s:List UInt8):∀es:List En,aP (es.map aJ) s=d9 es s|[]=>rfl|e::es=>by rw[zV,aP,d9,yx s es];rfl
variable {s:List UInt8}
def yL:∀{es:List En}{i:Nat},d9 es s=some i->i<es.length|[],i,h=>by simp[d9]at h|e::es,i,h=>by rw[d9]at h;split at h;cases h;simp;cases hm:d9 es s with|none=>rw[hm]at h;simp at h|some j=>rw[hm]at h;simp only[Option.map_some,z6]at h;have:=yL hm;subst h;simp;omega
def WF:∀{es:List En}{i:Nat},d9 es s=some i->(es.getD i default).1=s|[],i,h=>by simp[d9]at h|e::es,i,h=>by rw[d9]at h;split at h;rename_i he;cases h;simpa using he;cases hm:d9 es s with|none=>rw[hm]at h;simp at h|some j=>rw[hm]at h;simp only[Option.map_some,z6]at h;subst h;simpa using WF hm
def d8:List En->List UInt8->AV->List En|[],s,p=>[(s,[p])]|e::es,s,p=>match e.1==s with|true=>(e.1,e.2++[p])::es|false=>e::d8 es s p
def R9{p:AV}:∀{es:List En},d9 es s=none->d8 es s p=es++[(s,[p])]|[],_=>rfl|e::es,h=>by rw[d9]at h;split at h;simp at h;rename_i he;cases hm:d9 es s with|some j=>rw[hm]at h;simp at h|none=>rw[d8,he,R9 hm];rfl
def Sa{p:AV}:∀{es:List En}{i:Nat},d9 es s=some i->d8 es s p=es.set i (s,(es.getD i default).2++[p])|[],i,h=>by simp[d9]at h|e::es,i,h=>by rw[d9]at h;split at h;(rename_i he;cases h;have e1:e.1=s:=by simpa using he);rw[d8,he];simp[e1];rename_i he;cases hm:d9 es s with|none=>rw[hm]at h;simp at h|some j=>rw[hm]at h;simp only[Option.map_some,z6]at h;subst h;rw[d8,he,Sa hm];simp
def eO:List En->List UInt8->List AV|[],_=>[]|e::es,s=>match e.1==s with|true=>e.2|false=>eO es s
def xyY:∀{es:List En},d9 es s=none->eO es s=[]|[],_=>rfl|e::es,h=>by rw[d9]at h;split at h;simp at h;rename_i he;cases hm:d9 es s with|some j=>rw[hm]at h;simp at h|none=>rw[eO,he];exact xyY hm
def xyZ:∀{es:List En}{i:Nat},d9 es s=some i->eO es s=(es.getD i default).2|[],i,h=>by simp[d9]at h|e::es,i,h=>by rw[d9]at h;split at h;rename_i he;cases h;rw[eO,he];rfl;rename_i he;cases hm:d9 es s with|none=>rw[hm]at h;simp at h|some j=>rw[hm]at h;simp only[Option.map_some,z6]at h;subst h;rw[eO,he];simpa using xyZ hm
def Vy(s s':List UInt8)(p:AV):∀es:List En,eO (d8 es s p) s'=eO es s'++if s==s' then[p]else[]|[]=>by simp only[d8,eO];cases s==s'<;>simp|e::es=>by have ih:=Vy s s' p es;rw[d8];cases he:e.1==s with|true=>((have e1:e.1=s:=by simpa using he);dsimp only;rw[eO,eO,e1];cases h:s==s' with|true=>simp|false=>simp)|false=>dsimp only;rw[eO,eO,ih];cases h:e.1==s' with|false=>rfl|true=>(have e1:e.1=s':=by simpa using h);(have:(s==s')=false:=by rw[<-e1,Bool.eq_false_iff];intro hh;rw[show s=e.1 by simpa using hh]at he;simp at he);simp[this]
def UP(s:List UInt8)(p:AV):∀es:List En,(d8 es s p).length<=es.length+1|[]=>by simp[d8]|e::es=>by have:=UP s p es;rw[d8];cases e.1==s<;>simp<;>omega
def Ug{α:Type}(k:α->List UInt8)(f:α->AV)(s:List UInt8):∀(l:List α)(es:List En),eO (l.foldl (λ es x=>d8 es (k x) (f x)) es) s=eO es s++(l.filter λ x=>k x==s).map f|[],es=>by simp|x::l,es=>by rw[List.foldl_cons,Ug k f s l,Vy,List.filter_cons];cases k x==s<;>simp
def wo(e:En):(aJ e).cells.getD 1 .top=.list 2 e.2:=rfl
def lEn(e:En):(aJ e).cells.length=2:=rfl
def xy1(es:List En)(s:List UInt8):iO (es.map aJ) s=(d9 es s).isSome:=by unfold iO;rw[yx]
variable {es:List En}{i:Nat}
def xFM(h:d9 es s=some i):aN (es.map aJ) s=i:=by unfold aN;rw[yx,h]
def SE{n:Int}:∀{es:List En}{i:Nat},d9 es s=some i->aP ((es.map aJ).set i (iu s n)) s=some i|[],i,h=>by simp[d9]at h|e::es,i,h=>by rw[d9]at h;split at h;cases h;simp[aP,iu,AV.cells,fC];rename_i he;cases hm:d9 es s with|none=>rw[hm]at h;simp at h|some j=>rw[hm]at h;simp only[Option.map_some,z6]at h;subst h;rw[zV,List.set_cons_succ,aP,SE hm];have:fC s ((aJ e).cells.getD 0 .top)=false:=he;rw[this];rfl
def xDJ(h:d9 es s=some i)(n:Int)(p:AV):dT ((es.map aJ).set i (iu s n)) s (.list 2 ((es.getD i default).2++[p]))=(d8 es s p).map aJ:=by unfold dT;rw[SE h,Sa h];dsimp only;rw[List.set_set,List.map_set];rfl
def xFJ(h:d9 es s=none)(p:AV):dT (es.map aJ) s (.list 2 [p])=(d8 es s p).map aJ:=by unfold dT;rw[yx,h,R9 h,zx];rfl
def xG3(h:d9 es s=some i){n:Nat}:gN ((es.map aJ).set i (iu s (n:Int))) s (n+1):=by(have hi:i<((es.map aJ).set i (iu s (n:Int))).length:=by rw[y4,za];exact yL h);(unfold gN;rw[SE h];have:((es.map aJ).set i (iu s (n:Int))).getD i .top=iu s (n:Int):=by rw[z7,zL (by simpa using hi)];rfl);dsimp only;rw[this];show (match gc (AV.int .i64 (n:Int))with|some l0=>decide (l0<n+1)|none=>false)=true;simp[gc]
def xG2(h:d9 es s=none)(n:Nat):gN (es.map aJ) s n:=by unfold gN;rw[yx,h]
end Go.Sim.M
end
noncomputable section
set_option maxRecDepth 100000
namespace Go.Sim.M
open Go.IntKind (i64 u64 u8)
open Go.RowKit Go.Proofs
def uK:cZ:=vY.fn 36 0 (dQ []) (iS [])
def xuV:di P0 (xQa.at 0) uK:=Wi.fn
def xtJ:cV P0 (xQa.at uK.pin) uK (Tryz.f99.body.getD .skip):=r7 (ls:=[gE Tryz.f99 0,gE Tryz.f99 1]) Θ (fun l b lp a=>by
 simp only[zC,List.not_mem_nil,or_false]at b;rcases b with rfl|rfl
 . rw[show uK.lp (jv (gE Tryz.f99 0))=none by kernel_rfl]at a
   simp at a
 . rw[show uK.lp (jv (gE Tryz.f99 1))=none by kernel_rfl]at a
   simp at a)
def I0(a b:LA):=i64.wrap (i64.wrap (0+(↑a.length:Int))+(↑b.length:Int))
def Et(a b:LA):Nat:=0+a.length+b.length
def I5{T:Type}(a b:LA)(δ:T)(κ:LA->T):T:=br (decide (i64.wrap (0+(↑a.length:Int))<0)) δ (br (decide (I0 a b<0)) δ (br (decide (0<=I0 a b)&&decide (I0 a b<=4398046511104)) (br (decide ((0+a.length)*32<=140737488355328)&&decide (0+a.length<=4611686018427387904)) (br (0+a.length==([]++a).length&&(decide (Et a b*32<=140737488355328)&&decide (Et a b<=4611686018427387904))) (br (decide (0+Et a b<=([]++a++b).length)&&true) (κ (List.take (Et a b) (List.drop 0 ([]++a++b)))) δ) δ) δ) δ))
def u9(a b:LA):=I5 a b none some
def xzr(a b:LA):cU (λ(p:LA)=>((AV.list 3 p):AV)) (u9 a b) (XF P0 uK Tryz.f99 (Tryz.f99.body.getD .skip) [AV.list 1 [AV.list 3 a,AV.list 3 b]]):=by(have h:XF P0 uK Tryz.f99 (Tryz.f99.body.getD .skip) [AV.list 1 [AV.list 3 a,AV.list 3 b]]=I5 a b none (λ(p:LA)=>some ((AV.list 3 p):AV)):=by kernel_rfl);rw[h];unfold u9 I5;repeat' (first|refine cU.br ?_ ?_|exact cU.none|exact cU.some rfl)
def xzq:LA->Option (Bool×AV):=kw (cT (mc 1 (aZ (qM 3 bB) (aZ (qM 3 bB) bO))) iU) λ((a,(b,_)),_)=>((u9 a b).isSome,(AV.list 3 ((u9 a b).getD [])))
def xzp:ga P0 xQa 99 (xzq):=tP λ f h g=>by obtain⟨⟨a,⟨b,_⟩⟩,_⟩:=f;obtain⟨c,e⟩:=Prod.mk.inj g;refine yD (p:=uK.pin) (CL xPD (xPE P0 _) rfl xuV Tryz.func99 rfl Θ xtJ ((xzr _ _ _ (nP (d:=[]) c)).trans ?_));exact congrArg some e
def xLF:EO:=xJW.w xzp
def P3{T:Type}(a b:LA)(δ:T)(κ:LA->T):T:=br ((u9 a b).isSome) (κ ((u9 a b).getD [])) δ
def FD(a b:LA):=P3 a b none some
def xLG:EO:=xLF.f Tryz.func64 9 0 [] [] lk0 (u2 (uL 3) (uL 3)) (λ(a,b,_) _=>P3 a b) (λ _ p=>AV.list 3 p) []
def xvd(a:LA):LA:=((a))
def xzW{T:Type}(a:LA)(δ:T)(κ:LA->T):T:=κ (a)
def xLH:EO:=xLG.fT Tryz.func58 4 0 [] [] lk0 (λ(a,_)=>xzW a none) (u1 (uL 3)) (λ(a,_)=>xvd a) (λ _ p=>(AV.list 3 p))
def Fa(a:LA)(n:Int):Int:=if(↑a.length:Int)<n then(↑a.length:Int)else n
def QG{T:Type}(a:LA)(n:Int)(δ:T)(κ:LA->T):T:=br (decide (0<=Fa a n)&&decide (Fa a n<=a.length)&&true) (κ (List.take ((Fa a n).toNat - 0) (List.drop 0 a))) δ
def yp(a:LA)(n:Int):=QG a n none some
def LK:EO:=xLH.fM Tryz.func59 10 0 [] [] lk0 (u2 (uL 3) (sEq (ez (1099511627776:FuncId) (q1 qI)))) bO (λ(a,(n,_),_) _ _=>QG a n) (λ _ _ p=>(AV.list 3 p,([]:List aC))) []
end Go.Sim.M
end
noncomputable section
set_option maxRecDepth 100000
namespace Go.Sim.M
open Go.RowKit Go.Proofs
noncomputable abbrev pB:Code:=Tryz.f60.body.getD .skip
noncomputable abbrev pO(n:Nat):Array Oper:=oh (iz pB n)
noncomputable abbrev mU:cZ:=LK.E.fn 45 0 (dQ []) (iS [])
def GR:di Tryz.prog (xQa.at 0) mU:=LK.ok.fn
def jt:Nat:=1208926121356027683143680
def aU(ms:List AV):aC:=⟨0,2,jt,ms,false,true⟩
def dz(rows:List AV):aC:=⟨0,1,47,rows,false,true⟩
noncomputable def MF:Code:=.seq (.region 4 (pO 4) false) (.seq (.cond (.tmp 16) .skip (.exit 0)) (.seq (.block 1 (.seq (.region 5 (pO 5) false) (.seq (.region 6 (pO 6) false) (.seq (.region 7 (pO 7) false) (.seq (.seq (.region 8 (pO 8) false) (.cond (.tmp 28) (.region 9 (pO 9) false) .skip)) (.region 10 (pO 10) false)))))) (.region 11 (pO 11) false)))
def xNZ:pB=.seq (.region 0 (pO 0) false) (.seq (.region 1 (pO 1) false) (.seq (.region 2 (pO 2) false) (.seq (.seq (.region 3 (pO 3) false) (.block 0 (.loop MF))) (.seq (.region 12 (pO 12) false) .ret)))):=Θ
def lI(f:AV):AV:=.agg [.int .i64 (f.cells.getD 1 .top).toInt,.int .i64 (f.cells.getD 2 .top).toInt]
def xKr(w:World):(binOp .eql 64 (.slice none 0 0) (.slice none 0 0)).run Tryz.prog w=.ok (.bool true) w:=by rfl
def xIK(a:Addr)(n c:Nat)(w:World):(binOp .eql 64 (.slice (some a) n c) (.slice none 0 0)).run Tryz.prog w=.ok (.bool false) w:=by rfl
def C1(s:St)(t:Tmp)(b:Bool):Prop:=(b/\s.eval (.tmp t)=.nils)\/(b=false/\∃id len rb,s.eval (.tmp t)=.osl id rb.ver 0 len/\0<len/\getB s.heap id=some rb)
def Xf{id:Nat}{ops:Array Oper}{Q:Exit->St->Prop}{s s3:St}{n:Nat}{o:Oper}{t d:Tmp}{ty:TypeId}{b:Bool}(W:aO ops)(hl:ops.toList=ops.toList.take n++[o])(hp:d7 (iG Tryz.prog (xQa.at 0)) ops (ops.toList.take n) s s3)(ho:o.op=.binOp .eql 64 (.tmp t) (.const (.slice none 0 0)) ty)(hg:o.guard=none)(hd:o.dst=some d)(hn:C1 s3 t b)(h:Q .normal ⟨s3.tmps.set d (.bool b),s3.heap⟩):bL Tryz.prog (xQa.at 0) (.region id ops false) Q s:=by
 intro w0 A0 w A M a Qc hI Z hs hQ ro aa;refine wpIn_region_list (pM ro 0 _ (rd W) _ _ ?_);rw[hl];refine tJ (xPE Tryz.prog _) hI hp hs λ a1 w1 A1 M1 q _=>wpList_plain hg λ K hK=>?_;have hv:=q.eval (.tmp t);have hc:a1.eval (.const (.slice none 0 0))=.slice none 0 0:=rfl;have J:SR w0 A0 w1 A1 M1 ⟨s3.tmps.set d (.bool b),s3.heap⟩ (a1.put (some d) (.bool b)):=q.put (d:=some d) q.base q.outer Mv.refl q.heap (aD.bool (w:=w1) (A:=A1) (M:=M1) b);unfold Oper.wp;rcases hn with⟨rfl,hx⟩|⟨rfl,id',len,rb,hx,Y,hb⟩;rw[hx]at hv;have e:a1.eval (.tmp t)=.slice none 0 0:=by generalize a1.eval (.tmp t)=v at hv;cases hv;rfl
 simp only[execOp,ho,e,hc,xKr,Sem.run_bind,Result.andThen_ok,Sem.run_pure];show K (a1.put o.dst (.bool true)) w1;rw[hd];exact hK _ _ (wpList_nil (hQ _ _ _ _ h ⟨A1,M1,J⟩));rw[hx]at hv;have e:∃a2 c2,a1.eval (.tmp t)=.slice (some a2) len c2:=by generalize a1.eval (.tmp t)=v at hv;cases hv with|osl v id ver off len m hm hle h1 he=>obtain⟨bx,O,V⟩:=q.heap.box _ _ hm;rw[hb]at O;obtain rfl:rb=bx:=Option.some.inj O;obtain⟨g1,a2,g2,g3⟩:=he V.ver;rw[g3 Ω]at g2;exact⟨_,_,g2⟩
 obtain⟨a2,c2,e⟩:=e;simp only[execOp,ho,e,hc,xIK,Sem.run_bind,Result.andThen_ok,Sem.run_pure];show K (a1.put o.dst (.bool false)) w1;rw[hd];exact hK _ _ (wpList_nil (hQ _ _ _ _ h ⟨A1,M1,J⟩))
def fO:List Nat:=[1,6,7,13,14,15]
noncomputable def f9(fr:List AV)(ff ft:Int):aC:=⟨0,3,54,[.agg [.list 3 fr,.int .i64 ff,.int .i64 ft]],false,true⟩
def mI:List Nat:=[1,6,7,9,10,11,13,14,15]
def ou(z:Nat)(ys:List AV):(AV.list z ys).toList=ys:=rfl
def qm(ys:List AV):jW 2 (.list 2 ys):=rfl
def Mk(e:En):List.take 1 (aJ e).cells=[.str e.1]:=rfl
def Mj(e:En):List.drop 2 (aJ e).cells=[]:=rfl
variable {es:List En}
def xKA{k:List UInt8}{j:Nat}(h:d9 es k=some j):(es.map aJ).getD j .top=aJ (es.getD j default):=by have:=yL h;simp[z7,this]
section
variable{Q:Exit->St->Prop}
variable {H H':List aC}{live liveO:List Nat}{ops:Array Oper}{q vals:List AV}
def tU{id:Nat}{y:Code}(h:XC Tryz.prog mU live liveO (.region id ops false) vals H=some (LR.leaf .normal q H').eval)(hq:bL Tryz.prog (xQa.at 0) y Q ⟨aX 45 (liveO.zip q),H'⟩):bL Tryz.prog (xQa.at 0) (.seq (.region id ops false) y) Q ⟨aX 45 (live.zip vals),H⟩:=
 pU (mg (xwy xPD (xPE Tryz.prog _) rfl GR (oI rfl rfl) h) fun e s ⟨he,hs⟩=>by
  subst he hs;exact hq)
def K9{id:Nat}(h:XC Tryz.prog mU live liveO (.region id ops false) vals H=some (LR.leaf .normal q H').eval)(hq:Q .normal ⟨aX 45 (liveO.zip q),H'⟩):bL Tryz.prog (xQa.at 0) (.region id ops false) Q ⟨aX 45 (live.zip vals),H⟩:=mg (xwy xPD (xPE Tryz.prog _) rfl GR (oI rfl rfl) h) λ e s⟨he,hs⟩=>by subst he hs;exact hq
end
def Do:aO (pO 8):=Θ
def TL:(pO 8).toList=(pO 8).toList.take 3++[(pO 8).toList.getD 3 default]:=Θ
def TN:((pO 8).toList.getD 3 default).op=.binOp .eql 64 (.tmp 27) (.const (.slice none 0 0)) 64:=Θ
def TH:((pO 8).toList.getD 3 default).guard=none:=Θ
def TB:((pO 8).toList.getD 3 default).dst=some 28:=Θ
def gq(ms:List AV):aC:=⟨0,2,dt 67,ms,true,true⟩
def VN:dD jt:=Θ
def XB:de jt 0=false:=Θ
def LT:de jt 1:=Θ
def xKO:gA (dt 67)=dt 67:=Θ
def V3:dD (dt 67):=Θ
def xMO:de (dt 67) 0=false:=Θ
def xMP:de (dt 67) 1=false:=Θ
def VO:bW (bM jt)=false:=Θ
section
variable{w:World}{A:Nat->Prop}{M:Id->Option MB}{B:Nat}
def vZ(M:Id->Option MB):Id->Option MB:=λ id=>match id with|.b 0=>(M (.b 0)).map λ m=>⟨m.b,m.ver,m.sz,m.cap,dt 67⟩|_=>none
def Lw{id:Id}{m:MB}(h:vZ M id=some m):∃m0,id=.b 0/\M (.b 0)=some m0/\m=⟨m0.b,m0.ver,m0.sz,m0.cap,dt 67⟩:=by unfold vZ at h;split at h;(cases hm:M (.b 0)with|none=>rw[hm]at h;simp at h|some m0=>rw[hm]at h;simp only[Option.map_some,z6]at h;exact⟨m0,rfl,rfl,h.symm⟩);simp at h
variable {ms:List AV}
def xKT{H:List aC}{i:Nat}{ys:List AV}{k:List UInt8}(h0:H=[⟨0,2,jt,ms,true,true⟩])(hi:i<ms.length)(hx:ms.getD i .top=.agg [.str k,.list 2 ys]):resolve H 4 (pC 0 i 1 (.list 2 ys))=some (.list 2 ys):=by
 have hg:getB H (.r 0 i 1)=some ⟨2*ys.length,2,bM jt,ys,true,true⟩:=by(subst h0;have hc:bW jt:=by kernel_rfl);have h1:=oH (H:=[⟨0,2,jt,ms,true,true⟩]) (n:=0) (i:=i) (j:=1) (bx:=⟨0,2,jt,ms,true,true⟩) rfl hc LT rfl hi;rw[h1];show some (iT _ ((ms.getD i .top).cells.getD 1 .top))=_;rw[hx];rfl
 have q:dW H (.r 0 i 1) (2*ys.length)=some ⟨2*ys.length,2,bM jt,ys,true,true⟩:=by unfold dW;rw[hg];simp[kG VO]
 have J:en ⟨2*ys.length,2,bM jt,ys,true,true⟩ ys:=by unfold en;rw[VO]
 unfold pC resolve;simp[AV.pure,eK,q,gh,J]
def HR.plain(h:HR w A M B [⟨0,2,jt,ms,true,true⟩])(aa:∀i,i<ms.length->∃k ys,ms.getD i .top=.agg [.str k,.list 2 ys]):HR w A (vZ M) B [gq ms]:=by
 refine⟨λ id m hm=>?_,λ id id' m m' h1 h2 _ _ _=>?_,h.lt⟩;obtain⟨m0,rfl,V,rfl⟩:=Lw hm;obtain⟨bx,hb,q⟩:=h.box _ _ V;obtain rfl:(⟨0,2,jt,ms,true,true⟩:aC)=bx:=by simpa[getB]using hb
 have hsz:m0.sz=2:=q.sz.symm;have ad:m0.ty=jt:=q.ty.symm;have Y:∀(id:Id)(m:MB),id.base=0->M id=some m->0<m.cap->¬ A m.b:=λ id m hi hm h0 hA=>by(obtain⟨b2,W,O⟩:=h.box _ _ hm;have ab:b2.frz:=by cases id with|b n=>(have hn:n=0:=hi;subst hn;have e:(⟨0,2,jt,ms,true,true⟩:aC)=b2:=by simpa[getB]using W);rw[<-e]|r n i j=>(have hn:n=0:=hi;subst hn;have hc:bW jt:=by kernel_rfl);have h1:=pP (H:=[⟨0,2,jt,ms,true,true⟩]) (bx:=⟨0,2,jt,ms,true,true⟩) rfl hc W;rw[h1.2.2.2,Si]);have:=(O.guard h0).2 hA;rw[ab]at this;simp at this
 refine⟨gq ms,rfl,q.ver,q.sz,xKO,q.capm,q.fits,q.ok,q.low,q.lt,λ h0=>?_,λ h0=>⟨λ h=>Bool.noConfusion h,λ hA=>absurd hA (Y (.b 0) m0 rfl V h0)⟩⟩;obtain⟨c,c1,c2,c3⟩:=q.cells h0;refine⟨c,?_,c2,λ i j hi hj=>?_⟩;unfold bX at c1|-;rw[ad,VN]at c1;dsimp only;rw[V3];exact c1;have hi:i<ms.length:=hi;have h3:=c3 i j hi hj;have hj:j<m0.sz:=hj;obtain⟨k,ys,hx⟩:=aa i hi;have hp:(gq ms).ty=dt 67:=rfl;show aD w A (MV (vZ M) (gq ms) j) (c.getD (i*m0.sz+j) undef) (fy 0 i j (gq ms).ty (((gq ms).xs.getD i .top).cells.getD j .top));have Z:(gq ms).xs.getD i .top=.agg [.str k,.list 2 ys]:=hx;rw[Z];have h3:aD w A (MV M ⟨0,2,jt,ms,true,true⟩ j) (c.getD (i*m0.sz+j) undef) (fy 0 i j jt ((ms.getD i .top).cells.getD j .top)):=h3;rw[hx]at h3;generalize c.getD (i*m0.sz+j) undef=v at h3;rcases j with _|_|j;unfold fy MV at h3|-;rw[show de (⟨0,2,jt,ms,true,true⟩:aC).ty 0=false from XB]at h3;rw[hp,xMO];try rw[XB]at h3
 exact h3;unfold fy MV at h3|-;rw[show de (⟨0,2,jt,ms,true,true⟩:aC).ty 1=true from LT]at h3;rw[hp,xMP];try rw[LT]at h3
 have h3:aD w A M v (pC 0 i 1 (.list 2 ys)):=h3;exact rS h (A':=A) (λ _ _ h=>h) 4 v _ _ h3 (xKT rfl hi hx) λ id J m hm h0=>by(have hb:id.base=0:=by have J:id.base∈aQ [⟨0,2,jt,ms,true,true⟩] 4 (.osl (.r 0 i 1) (2*ys.length) 0 ys.length):=J;unfold aQ at J;simp only[AV.pure,zT,if_false,zC]at J;rcases J with h|h;exact h;split at h;rename_i bx hb;split at h;simp at h;rename_i ac;have:=Km hb;exact absurd this ac;simp at h);exact Y id m hb hm h0
 omega;obtain⟨_,rfl,_⟩:=Lw h1;obtain⟨_,rfl,_⟩:=Lw h2;rfl
end
def xMp(rows ms:List AV):gw 0 [] [4,5] ⟨aX 45 ([4,5].zip [.own 0 0 0 0,.list 1 rows]),[aU ms,⟨0,1,47,rows,true,true⟩]⟩=some ([.own 0 0 0 0,.list 1 rows],[aU ms]):=Θ
def xMo(rows:List AV):aX (aX 45 ([4,5].zip [AV.own 0 0 0 0,.list 1 rows])).length ([4,5].zip [.own 0 0 0 0,.list 1 rows])=aX 45 ([4,5].zip [.own 0 0 0 0,.list 1 rows]):=Θ
def Xp(rows:List AV)(n:Nat):(aX 45 ([4,5].zip [AV.own 0 0 0 0,.osl 1 0 0 n])).getD 5 .top=.osl (.b 1) 0 0 n:=Θ
def xMq(rows:List AV)(n:Nat):(aX 45 ([4,5].zip [AV.own 0 0 0 0,.osl 1 0 0 n])).set 5 (.list 1 rows)=aX 45 ([4,5].zip [.own 0 0 0 0,.list 1 rows]):=Θ
def xMn(rows ms:List AV)(n:Nat):freeze [aU ms,dz rows] (aQ [aU ms,dz rows] eI (.osl (.b 1) 0 0 n))=[aU ms,⟨0,1,47,rows,true,true⟩]:=Θ
def Ml(rows ms:List AV):dC 0 ⟨aX 45 ([4,5].zip [.own 0 0 0 0,.osl 1 0 0 rows.length]),[aU ms,dz rows]⟩ ⟨aX 45 ([4,5].zip [.own 0 0 0 0,.list 1 rows]),[aU ms]⟩:=by(have h1:resolve [aU ms,dz rows] eI ((aX 45 ([4,5].zip [AV.own 0 0 0 0,.osl 1 0 0 rows.length])).getD 5 .top)=some (.list 1 rows):=by rw[Xp rows];exact Tl rfl rfl);have h2:=R7 (p:=0) h1;rw[Xp rows,xMn,xMq]at h2;have h3:=vn (xMp rows ms);rw[xMo]at h3;exact h2.trans h3
def MU(rows:List AV)(H:List aC):dA Tryz.prog ⟨aX 45 ([4,5].zip [.own 0 0 0 0,.list 1 rows]),H⟩ Tryz.f60.results.toList=some [.own 0 0 0 0,.list 1 rows]:=Θ
def TO:Tryz.f60.ntmps=45:=Θ
def pBody:Tryz.f60.body=some pB:=Θ
def sF:fH Tryz.prog 60:=⟨_,Tryz.func60,by kernel_rfl,by kernel_rfl⟩
def xI5{l rows:List AV}{pv:AV}(h:bL Tryz.prog (xQa.at 0) pB (λ e s=>e=.ret/\s=⟨aX 45 ([4,5].zip [.own 0 0 0 0,.list 1 rows]),[aU (es.map aJ)]⟩) ⟨[.list 3 l,pv]++List.replicate 43 (.tuple []),[]⟩):bG Tryz.prog xQa 60 [.list 3 l,pv] [] (.tuple [.own (.b 0) 0 0 0,.list 1 rows]) [gq (es.map aJ)]:=by
 refine⟨sF,λ w0 w A M vs hI V hR O=>?_⟩;refine callsIn_wide.1 (callsIn_of_wp_marks (F:=Fence.wide) (n:=0) Tryz.func60 pBody trivial ?_);refine h w0 ⟨A,w,A,M,0,λ _=>False⟩ w A M _ _ hI (zd 0) ⟨V,λ _ _=>Iff.rfl,?_,λ t ht=>?_,hR,eA.nil,Ev.refl (C:=⟨A,w,A,M,0,λ _=>False⟩)⟩ ?_ none (λ _=>rfl);rw[TO];have:=O.1;simp at this|-;omega;have hl:vs.length=2:=O.1;rw[TO];show aD w A M _ (([.list 3 l,pv]++List.replicate 43 (.tuple []):List AV).getD t .top);by_cases W:t<2;have e1:(vs.toArray++Array.replicate (45 - vs.toArray.size) undef).getD t undef=vs.getD t undef:=by(have:t<vs.length:=Ω);simp[z7,Array.getElem?_append,this]
 rw[e1,RQ W];exact O.2 t W;have ht:t<45:=by simpa using ht
 have h1:¬ t<vs.length:=Ω
 have e1:(vs.toArray++Array.replicate (45 - vs.toArray.size) undef).getD t undef=undef:=by(have h2:t - vs.length<45 - vs.length:=Ω);simp[Array.getElem?_append,h1,h2]
 rw[e1,R8 W (show t - 2<43 by omega)];exact .tuple #[] [] rfl Ψ;rintro e s' a' w' ⟨rfl,rfl⟩ ⟨A',M',Y⟩;show LeavesInM Fence.wide 0 Tryz.prog Tryz.f60 a'.tmps _ a'.defers .returning w';obtain ⟨A1,ab,_⟩:=Y.refreeze (H:=[⟨0,2,jt,es.map aJ,true,true⟩]) (by
  have h1:=bV.freeze [aU (es.map aJ)] [0];exact h1)
 refine Gb (λ _ h=>h) ab λ w2 q=>?_;obtain⟨v,hv,J⟩:=Kg (P:=Tryz.prog) q (MU rows _);refine⟨v,hv,v,A1,vZ M',rfl,q.base,q.outer,⟨q.ev.size,q.ev.keep,q.ev.less,q.ev.more,λ id m h=>absurd h (Nat.not_lt_zero _),λ id m h h0=>?_⟩,HR.plain q.heap λ i hi=>?_,?_⟩;obtain⟨m0,rfl,aa,rfl⟩:=Lw h;exact q.ev.src (.b 0) m0 aa h0;have hi:i<es.length:=by simpa using hi
 exact⟨(es.getD i default).1,(es.getD i default).2,by simp[aJ,z7,hi]⟩;have J:aD w2 A1 M' v (.tuple [.own (.b 0) 0 0 0,.list 1 rows]):=J;obtain⟨us,rfl,hsz,ad⟩:=J.tuple_inv;refine .tuple us _ hsz λ i hi=>?_;have h1:=ad i hi;rcases i with _|_|i;have h1:aD w2 A1 M' (us.getD 0 undef) (.own (.b 0) 0 0 0):=h1;show aD w2 A1 (vZ M') (us.getD 0 undef) (.own (.b 0) 0 0 0);generalize us.getD 0 undef=u at h1;cases h1 with|own v id ver i j m hm hle h1 he=>(obtain⟨bx,hb,Z⟩:=q.heap.box _ _ hm;obtain rfl:(⟨0,2,jt,es.map aJ,true,true⟩:aC)=bx:=by simpa[getB]using hb);have ac:m.ty=jt:=Z.ty.symm;refine .own _ _ 0 0 0 ⟨m.b,m.ver,m.sz,m.cap,dt 67⟩ (by unfold vZ;rw[hm];rfl) hle h1 λ h=>?_;rw[he h];unfold fE;rw[ac,VN];dsimp only;rw[V3]
 have h1:aD w2 A1 M' (us.getD 1 undef) (.list 1 rows):=h1;exact h1.pure rfl;simp at hi;omega
end Go.Sim.M
end
noncomputable section
set_option maxRecDepth 100000
namespace Go.Sim.M
open Go.RowKit Go.Proofs
noncomputable def l8(q:Option Int)(row:List AV):List AV:=match q with|none=>xvd row|some nn=>(yp row nn).getD []
noncomputable def GQ(q:Option Int)(row:List AV):Bool:=match q with|none=>true|some nn=>(yp row nn).isSome
noncomputable def kyQ(q:Option Int)(row:List AV):List UInt8:=(iP (l8 q row)).getD []
noncomputable def sq(q:Option Int)(f:AV):Bool:=(f.cells.length==3&&ew [.list 3,.int .i64,.int .i64] f.cells 0)&&(GQ q (rowF f)&&((iP (l8 q (rowF f))).isSome&&decide ((kyQ q (rowF f)).length<=4611686018427387904)))
noncomputable def ma(q:Option Int):AV:=match q with|none=>.func 58 []|some nn=>.func 59 [.func 1099511627776 [.int .i64 nn]]
noncomputable def lN(q:Option Int)(l:List AV)(rn:Nat)(i:Int):List AV:=[ma q,.own 0 0 0 0,.osl 1 0 0 rn,.list 3 l,.int .i64 l.length,.int .i64 i]
def xQ4(q:Option Int)(l ms rows:List AV)(rn:Nat)(i:Int):XC Tryz.prog mU fO (16::fO) (.region 4 (pO 4) false) (lN q l rn i) [aU ms,dz rows]=some (LR.leaf .normal (.bool (decide (i<(l.length:Int)))::lN q l rn i) [aU ms,dz rows]).eval:=by cases q<;>kernel_rfl
noncomputable def TR(q:Option Int)(l:List AV)(rn:Nat)(i:Int):List AV:=[ma q,.own 0 0 0 0,.osl 1 0 0 rn,.own 2 0 0 0,.list 3 l,.int .i64 l.length,.int .i64 i]
def xQ5(q:Option Int)(l ms rows:List AV)(rn:Nat)(i:Int):XC Tryz.prog mU (16::fO) [1,6,7,9,13,14,15] (.region 5 (pO 5) false) (.bool true::lN q l rn i) [aU ms,dz rows] =br (decide ((0:Int)<=i)&&decide (i<(l.length:Int))) (br (decide (i.toNat<l.length)&&((l.getD i.toNat .top).cells.length==3&&ew [.list 3,.int .i64,.int .i64] (l.getD i.toNat .top).cells 0)) (some (LR.leaf .normal (TR q l rn i) [aU ms,dz rows,f9 ((l.getD i.toNat .top).cells.getD 0 .top).toList ((l.getD i.toNat .top).cells.getD 1 .top).toInt ((l.getD i.toNat .top).cells.getD 2 .top).toInt]).eval) none) none:=by cases q<;>kernel_rfl
noncomputable def TS(q:Option Int)(l:List AV)(rn:Nat)(i:Int)(row:List AV):List AV:=[ma q,.own 0 0 0 0,.osl 1 0 0 rn,.own 2 0 0 0,.list 3 row,.list 3 l,.int .i64 l.length,.int .i64 i]
def xQ6(q:Option Int)(l ms rows:List AV)(rn:Nat)(i:Int)(fr:List AV)(ff ft:Int):XC Tryz.prog mU [1,6,7,9,13,14,15] [1,6,7,9,10,13,14,15] (.region 6 (pO 6) false) (TR q l rn i) [aU ms,dz rows,f9 fr ff ft] =br (GQ q fr) (some (LR.leaf .normal (TS q l rn i (l8 q fr)) [aU ms,dz rows,f9 fr ff ft]).eval) none:=by cases q<;>kernel_rfl
noncomputable def DG(q:Option Int)(l:List AV)(rn:Nat)(i:Int)(row:List AV)(k:List UInt8):List AV:=[ma q,.own 0 0 0 0,.osl 1 0 0 rn,.own 2 0 0 0,.list 3 row,.str k,.list 3 l,.int .i64 l.length,.int .i64 i]
def xQ7(q:Option Int)(l ms rows:List AV)(rn:Nat)(i:Int)(fr row:List AV)(ff ft:Int):XC Tryz.prog mU [1,6,7,9,10,13,14,15] mI (.region 7 (pO 7) false) (TS q l rn i row) [aU ms,dz rows,f9 fr ff ft] =br (iP row).isSome (some (LR.leaf .normal (DG q l rn i row ((iP row).getD [])) [aU ms,dz rows,f9 fr ff ft]).eval) none:=by cases q<;>kernel_rfl
noncomputable def uQ(q:Option Int)(l:List AV)(rn:Nat)(i:Int)(row:List AV)(k:List UInt8):List AV:=aX 45 (mI.zip (DG q l rn i row k))
noncomputable def DF(q:Option Int)(l:List AV)(rn:Nat)(i:Int)(row:List AV)(k:List UInt8)(x:AV):List AV:=(((uQ q l rn i row k).set 25 (.own 0 0 0 0)).set 26 (.str k)).set 27 x
def xQ8(q:Option Int)(l ms rows:List AV)(rn:Nat)(i:Int)(fr row:List AV)(ff ft:Int)(k:List UInt8):cR Tryz.prog mU none (some true) (pO 8) ((pO 8).toList.take 3) ⟨uQ q l rn i row k,[aU ms,dz rows,f9 fr ff ft]⟩ some =br (decide (k.length<=(4611686018427387904:Nat))) (br (iO ms k) (br (jW (2:Nat) ((ms.getD (aN ms k) AV.top).cells.getD (1:Nat) AV.top)) (some ⟨DF q l rn i row k (.osl (.r 0 (aN ms k) 1) (2*((ms.getD (aN ms k) AV.top).cells.getD (1:Nat) AV.top).toList.length) 0 ((ms.getD (aN ms k) AV.top).cells.getD (1:Nat) AV.top).toList.length),[aU ms,dz rows,f9 fr ff ft]⟩) none) (some ⟨DF q l rn i row k .nils,[aU ms,dz rows,f9 fr ff ft]⟩)) none:=by cases q<;>kernel_rfl
def Db(q:Option Int)(l:List AV)(rn:Nat)(i:Int)(row:List AV)(k:List UInt8)(x:AV)(H:List aC):St.eval ⟨DF q l rn i row k x,H⟩ (.tmp 27)=x:=by cases q<;>kernel_rfl
def Dc(q:Option Int)(l:List AV)(rn:Nat)(i:Int)(row:List AV)(k:List UInt8)(x:AV)(b:Bool)(H:List aC):St.eval ⟨(DF q l rn i row k x).set 28 (.bool b),H⟩ (.tmp 28)=.bool b:=by cases q<;>kernel_rfl
def Dg(q:Option Int)(l:List AV)(rn:Nat)(i:Int)(row:List AV)(k:List UInt8)(x:AV)(b:Bool)(H:List aC):dM mI ⟨(DF q l rn i row k x).set 28 (.bool b),H⟩=⟨uQ q l rn i row k,H⟩:=by cases q<;>kernel_rfl
def xQ9(q:Option Int)(l ms rows:List AV)(rn:Nat)(i:Int)(fr row:List AV)(ff ft:Int)(k:List UInt8):XC Tryz.prog mU mI mI (.region 9 (pO 9) false) (DG q l rn i row k) [aU ms,dz rows,f9 fr ff ft] =br (rn==rows.length&&(decide ((rn+(1:Nat))*(24:Nat)<=(140737488355328:Nat))&&decide (rn+(1:Nat)<=(4611686018427387904:Nat)))) (some (LR.leaf .normal (DG q l (rn+1) i row k) [aU ms,dz (rows++[.list 3 row]),f9 fr ff ft]).eval) none:=by cases q<;>kernel_rfl
def Ob(q:Option Int)(l ms rows:List AV)(rn:Nat)(i:Int)(fr row:List AV)(ff ft:Int)(k:List UInt8):XC Tryz.prog mU mI fO (.region 10 (pO 10) false) (DG q l rn i row k) [aU ms,dz rows,f9 fr ff ft] =br (decide (k.length<=(4611686018427387904:Nat))) (br (iO ms k) (br (jW (2:Nat) ((ms.getD (aN ms k) AV.top).cells.getD (1:Nat) AV.top)) (br (decide (aN ms k<ms.length)&&(jW (2:Nat) ((ms.getD (aN ms k) AV.top).cells.getD (1:Nat) AV.top)&&((ms.getD (aN ms k) AV.top).cells.length==(2:Nat)&&((2:Nat)*((ms.getD (aN ms k) AV.top).cells.getD (1:Nat) AV.top).toList.length==(2:Nat)*((ms.getD (aN ms k) AV.top).cells.getD (1:Nat) AV.top).toList.length&&(((ms.getD (aN ms k) AV.top).cells.getD (1:Nat) AV.top).toList.length==((ms.getD (aN ms k) AV.top).cells.getD (1:Nat) AV.top).toList.length&&(((ms.getD (aN ms k) AV.top).cells.getD (1:Nat) AV.top).toList.length==((ms.getD (aN ms k) AV.top).cells.getD (1:Nat) AV.top).toList.length&&(decide ((((ms.getD (aN ms k) AV.top).cells.getD (1:Nat) AV.top).toList.length+(1:Nat))*(16:Nat)<=(140737488355328:Nat))&&decide (((ms.getD (aN ms k) AV.top).cells.getD (1:Nat) AV.top).toList.length+(1:Nat)<=(4611686018427387904:Nat))))))))) (br (((ms.getD (aN ms k) AV.top).cells.getD (1:Nat) AV.top).toList.length+(1:Nat)==(((ms.getD (aN ms k) AV.top).cells.getD (1:Nat) AV.top).toList++[AV.agg [AV.int IntKind.i64 ff,AV.int IntKind.i64 ft]]).length&&(decide ((ms.set (aN ms k) (AV.agg (List.take (1:Nat) (ms.getD (aN ms k) AV.top).cells++[AV.int IntKind.i64 (↑((ms.getD (aN ms k) AV.top).cells.getD (1:Nat) AV.top).toList.length:Int)]++List.drop (2:Nat) (ms.getD (aN ms k) AV.top).cells))).length<(4611686018427387904:Nat))&&(decide (k.length<=(4611686018427387904:Nat))&&gN (ms.set (aN ms k) (AV.agg (List.take (1:Nat) (ms.getD (aN ms k) AV.top).cells++[AV.int IntKind.i64 (↑((ms.getD (aN ms k) AV.top).cells.getD (1:Nat) AV.top).toList.length:Int)]++List.drop (2:Nat) (ms.getD (aN ms k) AV.top).cells))) k (((ms.getD (aN ms k) AV.top).cells.getD (1:Nat) AV.top).toList.length+(1:Nat))))) (some (LR.leaf .normal (lN q l rn i) [aU (dT (ms.set (aN ms k) (AV.agg (List.take (1:Nat) (ms.getD (aN ms k) AV.top).cells++[AV.int IntKind.i64 (↑((ms.getD (aN ms k) AV.top).cells.getD (1:Nat) AV.top).toList.length:Int)]++List.drop (2:Nat) (ms.getD (aN ms k) AV.top).cells))) k (AV.list (2:Nat) (((ms.getD (aN ms k) AV.top).cells.getD (1:Nat) AV.top).toList++[AV.agg [AV.int IntKind.i64 ff,AV.int IntKind.i64 ft]]))),dz rows]).eval) none) none) none) (br (decide (ms.length<(4611686018427387904:Nat))&&(decide (k.length<=(4611686018427387904:Nat))&&gN ms k (1:Nat))) (some (LR.leaf .normal (lN q l rn i) [aU (dT ms k (AV.list (2:Nat) [AV.agg [AV.int IntKind.i64 ff,AV.int IntKind.i64 ft]])),dz rows]).eval) none)) none:=by cases q<;>kernel_rfl
def Oc(q:Option Int)(l ms rows:List AV)(rn:Nat)(i:Int):XC Tryz.prog mU fO fO (.region 11 (pO 11) false) (lN q l rn i) [aU ms,dz rows]=some (LR.leaf .normal (lN q l rn (IntKind.i64.wrap (i+1))) [aU ms,dz rows]).eval:=by cases q<;>kernel_rfl
noncomputable def mM (q:Option Int) (s:List En×List AV) (f:AV):List En×List AV:=(d8 s.1 (kyQ q (rowF f)) (lI f),match d9 s.1 (kyQ q (rowF f)) with|none=>s.2++[.list 3 (l8 q (rowF f))]|some _=>s.2)
noncomputable def n7(q:Option Int)(l:List AV):List En×List AV:=l.foldl (mM q) ([],[])
def L2(q:Option Int)(l:List AV)(rn:Nat)(i:Int)(b:Bool)(H:List aC):St.eval ⟨aX 45 ((16::fO).zip (.bool b::lN q l rn i)),H⟩ (.tmp 16)=.bool b:=by cases q<;>kernel_rfl
section
variable{Q:Exit->St->Prop}
set_option maxHeartbeats 1000000 in
def DE(q:Option Int){l:List AV}{i:Nat}(hi:i<l.length)(hl:l.length<2147483648)(hf:sq q (l.getD i .top)=true){es:List En}{rows:List AV}(he:es.length<=i)(hr:rows.length<=i)(hp:∀e,e∈es->e.2≠[]/\e.2.length<=i)(hq:Q .normal ⟨aX 45 (fO.zip (lN q l (mM q (es,rows) (l.getD i .top)).2.length ((i+1:Nat):Int))),[aU ((mM q (es,rows) (l.getD i .top)).1.map aJ),dz (mM q (es,rows) (l.getD i .top)).2]⟩):bL Tryz.prog (xQa.at 0) (.seq (.block 1 (.seq (.region 5 (pO 5) false) (.seq (.region 6 (pO 6) false) (.seq (.region 7 (pO 7) false) (.seq (.seq (.region 8 (pO 8) false) (.cond (.tmp 28) (.region 9 (pO 9) false) .skip)) (.region 10 (pO 10) false)))))) (.region 11 (pO 11) false)) Q ⟨aX 45 ((16::fO).zip (.bool true::lN q l rows.length (i:Int))),[aU (es.map aJ),dz rows]⟩:=by
 unfold sq at hf;simp only[zf,zl]at hf;obtain⟨⟨an,ao⟩,ah,Z,ab⟩:=hf;have ai:((l.getD i .top).cells.length==3&&ew [.list 3,.int .i64,.int .i64] (l.getD i .top).cells 0)=true:=by rw[zf];exact⟨an,ao⟩
 obtain⟨f,ak⟩:∃f,f=l.getD i .top:=⟨_,rfl⟩;rw[<-ak]at ai ah Z ab hq;have ae:(iP (l8 q (rowF f))).getD []=kyQ q (rowF f):=rfl;obtain⟨k,hk⟩:∃k,k=kyQ q (rowF f):=⟨_,rfl⟩;have aq:IntKind.i64.wrap ((i:Int)+1)=((i+1:Nat):Int):=by rw[gx (by omega) (by omega)];omega
 have V:∀(ms rs:List AV)(rn:Nat),Q .normal ⟨aX 45 (fO.zip (lN q l rn ((i+1:Nat):Int))),[aU ms,dz rs]⟩->bL Tryz.prog (xQa.at 0) (.region 11 (pO 11) false) Q ⟨aX 45 (fO.zip (lN q l rn (i:Int))),[aU ms,dz rs]⟩:=λ ms rs rn h=>by have hx:=Oc q l ms rs rn (i:Int);rw[aq]at hx;exact K9 hx h
 refine pU (So ?_);have h5:=xQ5 q l (es.map aJ) rows rows.length (i:Int);rw[zN,<-ak,ai]at h5;have c1:(decide ((0:Int)<=i)&&decide ((i:Int)<(l.length:Int)))=true:=by simp[hi]
 have c2:(decide (i<l.length)&&true)=true:=by simp[hi]
 rw [c1,c2] at h5;refine tU h5 ?_;have h6:=xQ6 q l (es.map aJ) rows rows.length (i:Int) (rowF f) (f.cells.getD 1 .top).toInt (f.cells.getD 2 .top).toInt;rw [ah] at h6;refine tU h6 ?_;have h7:=xQ7 q l (es.map aJ) rows rows.length (i:Int) (rowF f) (l8 q (rowF f)) (f.cells.getD 1 .top).toInt (f.cells.getD 2 .top).toInt;rw [Z,ae,<-hk] at h7;refine tU h7 ?_;rw [<-hk] at ab;have ac:decide (k.length<=(4611686018427387904:Nat))=true:=decide_eq_true ab;have h8:=xQ8 q l (es.map aJ) rows rows.length (i:Int) (rowF f) (l8 q (rowF f)) (f.cells.getD 1 .top).toInt (f.cells.getD 2 .top).toInt k;have h9:=xQ9 q l (es.map aJ) rows rows.length (i:Int) (rowF f) (l8 q (rowF f)) (f.cells.getD 1 .top).toInt (f.cells.getD 2 .top).toInt k;rw [ac] at h8;have al:mM q (es,rows) f=(d8 es k (lI f),match d9 es k with|none=>rows++[.list 3 (l8 q (rowF f))]|some _=>rows):=by unfold mM;rw [<-hk]
 rw[al]at hq;have J:=λ rs rn=>Ob q l (es.map aJ) rs rn (i:Int) (rowF f) (l8 q (rowF f)) (f.cells.getD 1 .top).toInt (f.cells.getD 2 .top).toInt k;have hml:(es.map aJ).length<4611686018427387904:=by rw[za];omega
 cases hj:d9 es k with|none=>((rw[hj]at hq;have O:iO (es.map aJ) k=false:=by rw[xy1,hj];rfl);rw[O]at h8;obtain⟨s3,p3,e3⟩:=rU GR (K:=some) h8;cases e3;refine pU (pU (Xf (b:=true) Do TL p3 TN TH TB (.inl ⟨rfl,Db ..⟩) (Le (Dc ..) (λ _=>?_) (λ h=>by cases h))));(refine vz (KZ mI _) ?_;rw[Dg];have c9:(rows.length==rows.length&&(decide ((rows.length+(1:Nat))*(24:Nat)<=(140737488355328:Nat))&&decide (rows.length+(1:Nat)<=(4611686018427387904:Nat))))=true:=by simp only[beq_self_eq_true,Bool.true_and,zf,zl];omega);(rw[c9]at h9;refine K9 h9 ?_;have J:=J (rows++[.list 3 (l8 q (rowF f))]) (rows.length+1);have ad:(decide ((es.map aJ).length<(4611686018427387904:Nat))&&(true&&gN (es.map aJ) k (1:Nat)))=true:=by rw[xG2 hj];simp only[Bool.and_self,zS,zl];exact hml);(rw[ac,O,ad,xFJ hj]at J;refine K9 J (V _ _ _ ?_);have hn:(rows++[AV.list 3 (l8 q (rowF f))]).length=rows.length+1:=by simp);rw[<-hn];exact hq)|some j=>
 rw[hj]at hq;have af:=yL hj;have O:iO (es.map aJ) k=true:=by rw[xy1,hj];rfl
 have aa:aN (es.map aJ) k=j:=xFM hj;have Y:=xKA hj;have hkey':(es.getD j default).1=k:=WF hj;obtain⟨hne,ap⟩:=hp (es.getD j default) (by simp[z7,af]);obtain⟨ys,W⟩:∃ys,ys=(es.getD j default).2:=⟨_,rfl⟩;rw[O,aa,Y,wo,ou,qm,<-W]at h8;rw[<-W]at hne ap;have ag:0<ys.length:=List.length_pos_iff.2 hne;obtain⟨s3,p3,e3⟩:=rU GR (K:=some) h8;cases e3;have aj:getB [aU (es.map aJ),dz rows,f9 (rowF f) (f.cells.getD 1 .top).toInt (f.cells.getD 2 .top).toInt] (.r 0 j 1)=some (iT (aU (es.map aJ)) (.list 2 ys)):=by(have hc:bW (aU (es.map aJ)).ty=true:=by cases q<;>kernel_rfl);have h1:=oH (H:=[aU (es.map aJ),dz rows,f9 (rowF f) (f.cells.getD 1 .top).toInt (f.cells.getD 2 .top).toInt]) (n:=0) (i:=j) (j:=1) (bx:=aU (es.map aJ)) rfl hc LT rfl (by show j<(es.map aJ).length;simpa using af);rw[h1];show some (iT _ (((es.map aJ).getD j .top).cells.getD 1 .top))=_;rw[Y,wo,<-W]
 refine pU (pU (Xf (b:=false) Do TL p3 TN TH TB (.inr ⟨rfl,.r 0 j 1,ys.length,iT (aU (es.map aJ)) (.list 2 ys),by rw[Db];rfl,ag,aj⟩) (Le (Dc ..) (λ h=>by cases h) (λ _=>Ta ?_))));refine vz (KZ mI _) ?_;rw[Dg];have J:=J rows rows.length;rw[ac,O,aa,Y,Mk,Mj,wo,ou,qm,lEn,hkey',<-W]at J;have e1:([AV.str k]++[AV.int IntKind.i64 (ys.length:Int)]++([]:List AV))=[AV.str k,AV.int IntKind.i64 (ys.length:Int)]:=rfl;rw[e1]at J;have e2:(es.map aJ).set j (.agg [AV.str k,AV.int IntKind.i64 (ys.length:Int)])=(es.map aJ).set j (iu k (ys.length:Int)):=rfl;rw[e2]at J;have ad:(decide (j<(es.map aJ).length)&&(true&&((2:Nat)==(2:Nat)&&((2:Nat)*ys.length==(2:Nat)*ys.length&&(ys.length==ys.length&&(ys.length==ys.length&&(decide ((ys.length+(1:Nat))*(16:Nat)<=(140737488355328:Nat))&&decide (ys.length+(1:Nat)<=(4611686018427387904:Nat)))))))))=true:=by simp only[beq_self_eq_true,Bool.true_and,zf,zl,za];omega
 rw[ad]at J;have am:(ys.length+(1:Nat)==(ys++[AV.agg [AV.int IntKind.i64 (f.cells.getD 1 .top).toInt,AV.int IntKind.i64 (f.cells.getD 2 .top).toInt]]).length&&(decide (((es.map aJ).set j (iu k (ys.length:Int))).length<(4611686018427387904:Nat))&&(true&&gN ((es.map aJ).set j (iu k (ys.length:Int))) k (ys.length+(1:Nat)))))=true:=by rw[xG3 hj];simp only[z8,zj,y4,beq_self_eq_true,Bool.true_and,zf,zl];exact⟨hml,trivial⟩
 rw[am,W,xDJ hj]at J;exact K9 J (V _ _ _ hq)
end
end Go.Sim.M
end
noncomputable section
set_option maxRecDepth 100000
namespace Go.Sim.M
open Go.RowKit Go.Proofs
def Mp(q:Option Int){es:List En}{rows:List AV}{i:Nat}(f:AV)(he:es.length<=i)(hr:rows.length<=i)(hp:∀e,e∈es->e.2≠[]/\e.2.length<=i):(mM q (es,rows) f).1.length<=i+1/\(mM q (es,rows) f).2.length<=i+1/\∀e,e∈(mM q (es,rows) f).1->e.2≠[]/\e.2.length<=i+1:=by unfold mM;dsimp only;generalize kyQ q (rowF f)=k;refine⟨Nat.le_trans (UP k _ es) Ω,?_,λ e hm=>?_⟩;(cases d9 es k with|none=>simp;omega|some j=>simp;omega);cases hj:d9 es k with|none=>(rw[R9 hj]at hm;rcases zG.1 hm with h|h;have:=hp e h;exact⟨this.1,by omega⟩;simp only[zv]at h;subst h;exact⟨by simp,by simp⟩)|some j=>rw[Sa hj]at hm;have J:=yL hj;rcases List.mem_or_eq_of_mem_set hm with h|h;have:=hp e h;exact⟨this.1,by omega⟩;subst h;have:=hp (es.getD j default) (by simp[z7,J]);refine⟨by simp,?_⟩;simp only[z8,zj];omega
def WA(q:Option Int)(l:List AV):∀i,i<=l.length->((l.take i).foldl (mM q) ([],[])).1.length<=i/\((l.take i).foldl (mM q) ([],[])).2.length<=i/\∀e,e∈((l.take i).foldl (mM q) ([],[])).1->e.2≠[]/\e.2.length<=i|0,_=>by simp|i+1,hi=>by obtain⟨h1,h2,h3⟩:=WA q l i Ω;(have e:l.take (i+1)=l.take i++[l.getD i .top]:=by rw[List.take_add_one,ze Ω];simp[z7,show i<l.length by omega]);rw[e,List.foldl_append];exact Mp q (l.getD i .top) h1 h2 h3
def Dh(q:Option Int){l:List AV}(hl:l.length<2147483648)(hf:∀i,i<l.length->sq q (l.getD i .top)):bL Tryz.prog (xQa.at 0) (.loop MF) (λ e s=>e=.exit 0/\s=⟨aX 45 ((16::fO).zip (.bool false::lN q l (n7 q l).2.length (l.length:Int))),[aU ((n7 q l).1.map aJ),dz (n7 q l).2]⟩) ⟨aX 45 (fO.zip (lN q l 0 ((0:Nat):Int))),[aU [],dz []]⟩:=by
 refine Nl (Sp (λ n s=>∃i,n=l.length - i/\i<=l.length/\s=⟨aX 45 (fO.zip (lN q l ((l.take i).foldl (mM q) ([],[])).2.length (i:Int))),[aU (((l.take i).foldl (mM q) ([],[])).1.map aJ),dz ((l.take i).foldl (mM q) ([],[])).2]⟩) (n0:=l.length) (dC.refl _ _) ⟨0,by omega,zQ _,rfl⟩ ?_);rintro n s ⟨i,rfl,hi,rfl⟩;obtain⟨h1,h2,h3⟩:=WA q l i hi;have e:i<l.length->l.take (i+1)=l.take i++[l.getD i .top]:=λ h=>by rw[List.take_add_one,ze h];simp[z7,h]
 obtain⟨st,O⟩:∃st,st=(l.take i).foldl (mM q) ([],[]):=⟨_,rfl⟩;rw[<-O]at h1 h2 h3|-;obtain⟨es,rows⟩:=st;unfold MF;refine tU (xQ4 q l (es.map aJ) rows rows.length (i:Int)) ?_;refine pU (Le (L2 ..) (λ hb=>Ta ?_) λ hb=>UZ ?_);have J:i<l.length:=by simpa using hb
 show bL Tryz.prog (xQa.at 0) _ _ _;rw[hb];refine DE q J hl (hf i J) h1 h2 h3 ?_;refine⟨l.length - (i+1),_,by omega,dC.refl _ _,i+1,rfl,J,?_⟩;rw[e J,List.foldl_append,<-O];rfl;have Q:i=l.length:=by(have:¬ ((i:Int)<l.length):=by simpa using hb);omega
 show _/\_;subst Q;rw[y6]at O;have V:n7 q l=(es,rows):=O.symm;rw[hb,V];exact⟨rfl,rfl⟩
def yQa(q:Option Int)(l:List AV):dM [0,1] ⟨[.list 3 l,ma q]++List.replicate 43 (.tuple []),[]⟩=⟨aX 45 ([0,1].zip [.list 3 l,ma q]),[]⟩:=by cases q<;>kernel_rfl
def yQ0(q:Option Int)(l:List AV):XC Tryz.prog mU [0,1] [0,1] (.region 0 (pO 0) false) [.list 3 l,ma q] []=some (LR.leaf .normal [.list 3 l,ma q] []).eval:=by cases q<;>kernel_rfl
def yQ1(q:Option Int)(l:List AV):XC Tryz.prog mU [0,1] [0,1,6] (.region 1 (pO 1) false) [.list 3 l,ma q] []=some (LR.leaf .normal [.list 3 l,ma q,.own 0 0 0 0] [aU []]).eval:=by cases q<;>kernel_rfl
def yQ2(q:Option Int)(l:List AV):XC Tryz.prog mU [0,1,6] [0,1,6,7] (.region 2 (pO 2) false) [.list 3 l,ma q,.own 0 0 0 0] [aU []]=some (LR.leaf .normal [.list 3 l,ma q,.own 0 0 0 0,.nils] [aU []]).eval:=by cases q<;>kernel_rfl
def yQ3(q:Option Int)(l:List AV):XC Tryz.prog mU [0,1,6,7] fO (.region 3 (pO 3) false) [.list 3 l,ma q,.own 0 0 0 0,.nils] [aU []]=some (LR.leaf .normal [ma q,.own 0 0 0 0,.nils,.list 3 l,.int .i64 l.length,.int .i64 0] [aU []]).eval:=by cases q<;>kernel_rfl
def yQn(q:Option Int)(l:List AV):gw 0 [(7,1,47)] fO ⟨aX 45 (fO.zip [ma q,.own 0 0 0 0,.nils,.list 3 l,.int .i64 l.length,.int .i64 0]),[aU []]⟩=some (lN q l 0 ((0:Nat):Int),[aU [],dz []]):=by cases q<;>kernel_rfl
def yQm(q:Option Int)(l:List AV):aX (aX 45 (fO.zip [ma q,.own 0 0 0 0,.nils,.list 3 l,.int .i64 l.length,.int .i64 0])).length (fO.zip (lN q l 0 ((0:Nat):Int)))=aX 45 (fO.zip (lN q l 0 ((0:Nat):Int))):=by cases q<;>kernel_rfl
def Tv(q:Option Int)(l ms rows:List AV)(rn:Nat)(i:Int):XC Tryz.prog mU (16::fO) [4,5] (.region 12 (pO 12) false) (.bool false::lN q l rn i) [aU ms,dz rows]=some (LR.leaf .normal [.own 0 0 0 0,.osl 1 0 0 rn] [aU ms,dz rows]).eval:=by cases q<;>kernel_rfl
def C4(q:Option Int){l:List AV}(hl:l.length<2147483648)(hf:∀i,i<l.length->sq q (l.getD i .top)):bL Tryz.prog (xQa.at 0) pB (λ e s=>e=.ret/\s=⟨aX 45 ([4,5].zip [.own 0 0 0 0,.list 1 (n7 q l).2]),[aU ((n7 q l).1.map aJ)]⟩) ⟨[.list 3 l,ma q]++List.replicate 43 (.tuple []),[]⟩:=by refine vz (KZ [0,1] _) ?_;rw[yQa,xNZ];refine tU (yQ0 q l) (tU (yQ1 q l) (tU (yQ2 q l) (pU (tU (yQ3 q l) ?_))));have hw:=vn (yQn q l);rw[yQm]at hw;refine vz hw (So (mg (Dh q hl hf) λ e s⟨he,hs⟩=>?_));subst he hs;show bL Tryz.prog (xQa.at 0) _ _ _;refine tU (Tv q l _ _ _ _) (U0 (We ?_));refine⟨_,?_,rfl,rfl⟩;exact Ml (n7 q l).2 ((n7 q l).1.map aJ)
def Uo(q:Option Int){l:List AV}(hl:l.length<2147483648)(hf:∀i,i<l.length->sq q (l.getD i .top)):bG Tryz.prog xQa 60 [.list 3 l,ma q] [] (.tuple [.own (.b 0) 0 0 0,.list 1 (n7 q l).2]) [gq ((n7 q l).1.map aJ)]:=xI5 (C4 q hl hf)
noncomputable def CN(l:List AV):Bool:=decide (l.length<2147483648)&&(List.range l.length).all λ i=>sq none (l.getD i .top)
noncomputable def r8(l:List AV):List AV:=(n7 none l).1.map aJ
noncomputable def SJ(l:List AV):List AV:=(n7 none l).2
noncomputable def Gp(l:List AV)(n:Int):Bool:=decide (l.length<2147483648)&&(List.range l.length).all λ i=>sq (some n) (l.getD i .top)
noncomputable def Gh(l:List AV)(n:Int):List AV:=(n7 (some n) l).1.map aJ
noncomputable def KR(l:List AV)(n:Int):List AV:=(n7 (some n) l).2
noncomputable def Xk:List AV->List aC->Option (Bool×AV×List aC):=jl (cT (mc 3 bB) (cT (sEq (ez 58 bO)) iU)) bO λ(l,_) _=>(CN l,.tuple [.own (.b 0) 0 0 0,.list 1 (SJ l)],[⟨0,2,dt 67,r8 l,true,true⟩])
noncomputable def Xj:List AV->List aC->Option (Bool×AV×List aC):=jl (cT (mc 3 bB) (cT (sEq (ez 59 (aZ (ez 1099511627776 (aZ (pInt .i64) bO)) bO))) iU)) bO λ(l,(((n,_),_),_)) _=>(Gp l n,.tuple [.own (.b 0) 0 0 0,.list 1 (KR l n)],[⟨0,2,dt 67,Gh l n,true,true⟩])
def xMN:fJ Tryz.prog xQa 60 Xk:=pR λ b c r H' h=>by obtain⟨l,_,_⟩:=b;obtain⟨h1,h2⟩:=Prod.mk.inj h;obtain⟨rfl,rfl⟩:=Prod.mk.inj h2;simp only[CN,zf,zl,zI,List.mem_range]at h1;exact Uo none h1.1 h1.2
def xMM:fJ Tryz.prog xQa 60 Xj:=pR λ b c r H' h=>by obtain⟨l,⟨⟨n,_⟩,_⟩,_⟩:=b;obtain⟨h1,h2⟩:=Prod.mk.inj h;obtain⟨rfl,rfl⟩:=Prod.mk.inj h2;simp only[Gp,zf,zl,zI,List.mem_range]at h1;exact Uo (some n) h1.1 h1.2
noncomputable def ua:cZ:=(LK.E.withM 60 Xk).withM 60 Xj
def xIi:di Tryz.prog xQa ua:=(LK.ok.withM xMN).withM xMM
noncomputable def xIh:EO:=EO.mk ua xIi
end Go.Sim.M
end
noncomputable section
set_option maxRecDepth 100000
namespace Go.Sim.M
open Go.IntKind (i64 u64 u8)
open Go.RowKit Go.Proofs
def Pk{T:Type}(a b:LA)(δ:T)(κ:LA×LA->T):T:=br (decide (a.length*8<=140737488355328)&&decide (a.length<=4611686018427387904)) (br ((Cf b).isSome) (br (decide (0+a.length<=a.length)&&true&&true) (κ (List.take a.length (List.drop 0 a),(Cf b).getD [])) δ) δ) δ
def qY(a b:LA):=Pk a b none some
def xLI:EO:=xIh.f Tryz.func19 11 0 [] [] lk0 (u1 (fP (u2 (uL 1) (uL 3)))) (λ((a,b,_),_) _=>Pk a b) (λ _ p=>AV.agg [AV.list 1 p.1,AV.list 3 p.2]) ([],[])
def Qz{T:Type}(a b d c:LA)(δ:T)(κ:LA×LA->T):T:=br (decide (a.length<=1099511627776)&&(Li b c).isSome) (κ (a,(Li b c).getD [])) δ
def tC(a b c d:LA):=Qz a b c d none some
def xLJ:EO:=xLI.f Tryz.func13 8 0 [] [] lk0 (u2 (fP (u2 (uL 1) (uL 3))) (fP (u2 (uL 1) (uL 3)))) (λ((a,b,_),(c,d,_),_) _=>Qz a b c d) (λ _ p=>AV.agg [AV.list 1 p.1,AV.list 3 p.2]) ([],[])
def PZ{T:Type}(a b d c:LA)(δ:T)(κ:LA×LA->T):T:=br (decide (a.length<=1099511627776)&&(Lk b c).isSome) (κ (a,(Lk b c).getD [])) δ
def tA(a b c d:LA):=PZ a b c d none some
def xLK:EO:=xLJ.f Tryz.func15 8 0 [] [] lk0 (u2 (fP (u2 (uL 1) (uL 3))) (fP (u2 (uL 1) (uL 3)))) (λ((a,b,_),(c,d,_),_) _=>PZ a b c d) (λ _ p=>AV.agg [AV.list 1 p.1,AV.list 3 p.2]) ([],[])
def Py{T:Type}(a b d c:LA)(δ:T)(κ:LA×LA->T):T:=br (decide (a.length<=1099511627776)&&(Lj b c).isSome) (κ (a,(Lj b c).getD [])) δ
def tw(a b c d:LA):=Py a b c d none some
def LL:EO:=xLK.f Tryz.func17 8 0 [] [] lk0 (u2 (fP (u2 (uL 1) (uL 3))) (fP (u2 (uL 1) (uL 3)))) (λ((a,b,_),(c,d,_),_) _=>Py a b c d) (λ _ p=>AV.agg [AV.list 1 p.1,AV.list 3 p.2]) ([],[])
def xM(h a:LA)(b:Int):=(iP ((FD h (gC a b 0).toList).getD [])).getD []
def xN(a:LA)(b:Int):=(iP (gC a b 0).toList).getD []
def IE{T:Type}(n:Int)(k:LA)(m:Nat)(h o:LA)(p q:Int)(d:LA)(j:Int)(l:LA)(c:Int)(g i b e a f:LA)(δ:T)(κl:(LA×Int×LA×LA×LA×LA×LA×LA)->T)(κr:(LA×LA×LA×LA×LA×LA×LA)->T):T:=br (decide (c<j)) (br (bU d c) (br (dJ d c (Sh.list 3) 0) (br ((iP (gC d c 0).toList).isSome) (br (decide ((xN d c).length<=4611686018427387904)&&(!iO a (xN d c) || jW 2 (eP AV.nils a (xN d c)))) (br ((FD h (gC d c 0).toList).isSome) (br ((iP ((FD h (gC d c 0).toList).getD [])).isSome) (br (decide ((xM h d c).length<=4611686018427387904)&&(!iO b (xM h d c) || jW 2 (eP AV.nils b (xM h d c)))) (br ((yn (dP a (xN d c)) (dP b (xM h d c))).isSome) (br ((yn l ((yn (dP a (xN d c)) (dP b (xM h d c))).getD [])).isSome) (κl ((yn l ((yn (dP a (xN d c)) (dP b (xM h d c))).getD [])).getD [],i64.wrap (c+1),g,i,b,e,a,f)) δ) δ) δ) δ) δ) δ) δ) δ) δ) (κr (l,g,i,b,e,a,f))
def Bg(n:Int)(e:LA)(f:Nat)(h g:LA)(i j:Int)(k:LA)(m:Int):cS (LA×Int×LA×LA×LA×LA×LA×LA) (LA×LA×LA×LA×LA×LA×LA):=λ(l,o,p,q,b,c,a,d)=>IE n e f h g i j k m l o p q b c a d none inL inR
def Eo:=LL.l 110 0 [10000034,11000005,8000000] [] Tryz.f23 1 lk0 [2,4,5,8,10,12,13,14,16,17,56,57,58,67,68,69] [2,4,5,8,10,12,13,14,16,17,56,57,58] [(14,3,54),(14,3,54)] (aZ (dL 0 0 0 0) (aZ (dL 1 0 0 0) (aZ (ez 1099511627776 (q1 qI)) (aZ (dL 2 0 0 0) (aZ (dL 3 0 0 0) (aZ (dL 4 0 0 0) (GS (qL 1) (cC 5 0 0) (qL 3) (qL 2) (qL 1) qI qI (qL 1) qI qI))))))) (q6 (qB 0 2 25 (q1 (iE (q2 (qL 1) (qL 3))))) (qB 0 2 25 (q1 (iE (q2 eF eF)))) (fu 0 2 1208925819614917004623872 true true bB) (fu 0 2 1208925819614917004623872 true true bB) (fu 0 2 1208925819614917004623872 true true bB) (qB 0 3 54 bB)) (λ(_,_,(n,_),_,_,_,d,e,h,l,g,i,j,k,m,o,_) (((q,r,_),_),((_,_,_),_),b,c,a,f,_)=>(Bg n d e h g i j k m,(l,o,q,r,b,c,a,f),λ p=>(.leaf (.exit 2) [AV.own 0 0 0 0,AV.own 1 0 0 0,AV.func 1099511627776 [AV.int .i64 n],AV.own 2 0 0 0,AV.own 3 0 0 0,AV.own 4 0 0 0,AV.list 1 d,AV.osl 5 0 0 e,AV.list 3 h,AV.list 2 p.1,AV.list 1 g,AV.int .i64 i,AV.int .i64 j] [bF 0 2 25 [AV.agg [AV.list 1 p.2.1,AV.list 3 p.2.2.1]],bF 0 2 25 [AV.agg [AV.nils,AV.nils]],⟨0,2,1208925819614917004623872,p.2.2.2.1,true,true⟩,⟨0,2,1208925819614917004623872,p.2.2.2.2.1,true,true⟩,⟨0,2,1208925819614917004623872,p.2.2.2.2.2.1,true,true⟩,bF 0 3 54 p.2.2.2.2.2.2]))) ([],[],[],[],[],[],[]) λ(_,_,(n,_),_,_,_,d,e,h,_,g,i,j,k,m,_,_) _ (l,o,q,r,b,c,a,f)=>((((),(),(n,()),(),(),(),d,e,h,l,g,i,j,k,m,o,()),(((q,r,()),()),(((),(),()),()),b,c,a,f,())),IE n d e h g i j k m l o q r b c a f none)
def IF{T:Type}(n:Int)(l h m:LA)(o p:Int)(g:LA)(k:Int)(f:Nat)(e:Int)(i j b c a d:LA)(δ:T)(κl:(Nat×Int×LA×LA×LA×LA×LA×LA)->T)(κr:(Nat×LA×LA×LA×LA×LA×LA)->T):T:=br (decide (e<k)) (br (bU g e) (br (jh g e 2 [Sh.int .i64,Sh.int .i64] 0) (br (gz f d 1 40) (κl (f+1,i64.wrap (e+1),i,j,b,c,a,d++[AV.agg [AV.list 3 h,AV.int .i64 (gC g e 0).toInt,AV.int .i64 (gC g e 1).toInt]])) δ) δ) δ) (κr (f,i,j,b,c,a,d))
def Bh(n:Int)(e h g:LA)(i j:Int)(k:LA)(l:Int):cS (Nat×Int×LA×LA×LA×LA×LA×LA) (Nat×LA×LA×LA×LA×LA×LA):=λ(f,m,o,p,b,c,a,d)=>IF n e h g i j k l f m o p b c a d none inL inR
def H7:=LL.l 110 0 [10000034,11000005,8000000] [(13,Eo.lp)] Tryz.f23 2 lk0 [2,4,5,8,10,12,13,14,16,56,57,58,87,88,89] [2,4,5,8,10,12,13,14,56,57,58] [(14,3,54),(14,3,54)] (aZ (dL 0 0 0 0) (aZ (dL 1 0 0 0) (aZ (ez 1099511627776 (q1 qI)) (aZ (dL 2 0 0 0) (aZ (dL 3 0 0 0) (GS (dL 4 0 0 0) (qL 1) (cC 5 0 0) (qL 3) (qL 1) qI qI (qL 2) qI qI)))))) (q6 (qB 0 2 25 (q1 (iE (q2 (qL 1) (qL 3))))) (qB 0 2 25 (q1 (iE (q2 eF eF)))) (fu 0 2 1208925819614917004623872 true true bB) (fu 0 2 1208925819614917004623872 true true bB) (fu 0 2 1208925819614917004623872 true true bB) (qB 0 3 54 bB)) (λ(_,_,(n,_),_,_,_,d,f,h,g,i,j,k,m,o,_) (((q,r,_),_),((_,_,_),_),b,c,a,e,_)=>(Bh n d h g i j k m,(f,o,q,r,b,c,a,e),λ p=>(.leaf (.exit 4) [AV.own 0 0 0 0,AV.own 1 0 0 0,AV.func 1099511627776 [AV.int .i64 n],AV.own 2 0 0 0,AV.own 3 0 0 0,AV.own 4 0 0 0,AV.list 1 d,AV.osl 5 0 0 p.1,AV.list 1 g,AV.int .i64 i,AV.int .i64 j] [bF 0 2 25 [AV.agg [AV.list 1 p.2.1,AV.list 3 p.2.2.1]],bF 0 2 25 [AV.agg [AV.nils,AV.nils]],⟨0,2,1208925819614917004623872,p.2.2.2.1,true,true⟩,⟨0,2,1208925819614917004623872,p.2.2.2.2.1,true,true⟩,⟨0,2,1208925819614917004623872,p.2.2.2.2.2.1,true,true⟩,bF 0 3 54 p.2.2.2.2.2.2]))) (0,[],[],[],[],[],[]) λ(_,_,(n,_),_,_,_,d,_,h,g,i,j,k,m,_,_) _ (f,o,q,r,b,c,a,e)=>((((),(),(n,()),(),(),(),d,f,h,g,i,j,k,m,o,()),(((q,r,()),()),(((),(),()),()),b,c,a,e,())),IF n d h g i j k m f o q r b c a e none)
def AR(a:LA)(b:Int):=(iP (gC a b 0).toList).getD []
def rL(n:Int)(b e:LA)(i:Int)(h:Nat)(f:Int)(j k d a c g:LA):=aB (Bg n b h (gC e f 0).toList e i f b (↑b.length:Int)) ((r9 (dP a (AR e f))).getD [],0,j,k,d,a,c,g)
def tc(n:Int)(e g:LA)(i:Int)(f:Nat)(h:Int)(j k b c a d:LA):=aB (Bh n e (gC g h 0).toList g i h (((rL n e g i f h j k b c a d).getD ([],[],[],[],[],[],[])).fst) (↑(((rL n e g i f h j k b c a d).getD ([],[],[],[],[],[],[])).fst).length:Int)) (f,0,(((rL n e g i f h j k b c a d).getD ([],[],[],[],[],[],[])).snd).fst,((((rL n e g i f h j k b c a d).getD ([],[],[],[],[],[],[])).snd).snd).fst,(((((rL n e g i f h j k b c a d).getD ([],[],[],[],[],[],[])).snd).snd).snd).fst,((((((rL n e g i f h j k b c a d).getD ([],[],[],[],[],[],[])).snd).snd).snd).snd).fst,(((((((rL n e g i f h j k b c a d).getD ([],[],[],[],[],[],[])).snd).snd).snd).snd).snd).fst,(((((((rL n e g i f h j k b c a d).getD ([],[],[],[],[],[],[])).snd).snd).snd).snd).snd).snd)
def ID{T:Type}(n:Int)(h g:LA)(i:Int)(f:Nat)(e:Int)(j k c a b d:LA)(δ:T)(κl:(Nat×Int×LA×LA×LA×LA×LA×LA)->T)(κr:(Nat×LA×LA×LA)->T):T:=br (decide (e<i)) (br (bU g e) (br (dJ g e (Sh.list 3) 0) (br ((iP (gC g e 0).toList).isSome) (br (decide ((AR g e).length<=4611686018427387904)&&(!iO a (AR g e) || jW 2 (eP AV.nils a (AR g e)))) (br ((r9 (dP a (AR g e))).isSome) (br ((rL n h g i f e j k c a b d).isSome) (br ((tc n h g i f e j k c a b d).isSome) (κl (((tc n h g i f e j k c a b d).getD (0,[],[],[],[],[],[])).fst,i64.wrap (e+1),(((tc n h g i f e j k c a b d).getD (0,[],[],[],[],[],[])).snd).fst,((((tc n h g i f e j k c a b d).getD (0,[],[],[],[],[],[])).snd).snd).fst,(((((tc n h g i f e j k c a b d).getD (0,[],[],[],[],[],[])).snd).snd).snd).fst,((((((tc n h g i f e j k c a b d).getD (0,[],[],[],[],[],[])).snd).snd).snd).snd).fst,(((((((tc n h g i f e j k c a b d).getD (0,[],[],[],[],[],[])).snd).snd).snd).snd).snd).fst,(((((((tc n h g i f e j k c a b d).getD (0,[],[],[],[],[],[])).snd).snd).snd).snd).snd).snd)) δ) δ) δ) δ) δ) δ) δ) (κr (f,j,k,d))
def Bf(n:Int)(e g:LA)(h:Int):cS (Nat×Int×LA×LA×LA×LA×LA×LA) (Nat×LA×LA×LA):=λ(f,i,j,k,b,c,a,d)=>ID n e g h f i j k b c a d none inL inR
def Zp:=LL.l 110 0 [10000034,11000005,8000000] [(13,Eo.lp),(18,H7.lp)] Tryz.f23 0 (l7 (fe Eo.ok (fe H7.ok kr))) [2,4,5,8,10,12,13,14,56,57,58] [2,4,5,14] [(14,3,54),(14,3,54)] (aZ (dL 0 0 0 0) (GS (dL 1 0 0 0) (ez 1099511627776 (q1 qI)) (dL 2 0 0 0) (dL 3 0 0 0) (dL 4 0 0 0) (qL 1) (cC 5 0 0) (qL 1) qI qI)) (q6 (qB 0 2 25 (q1 (iE (q2 (qL 1) (qL 3))))) (qB 0 2 25 (q1 (iE (q2 eF eF)))) (fu 0 2 1208925819614917004623872 true true bB) (fu 0 2 1208925819614917004623872 true true bB) (fu 0 2 1208925819614917004623872 true true bB) (qB 0 3 54 bB)) (λ(_,_,(n,_),_,_,_,e,f,g,h,i,_) (((j,k,_),_),((_,_,_),_),b,c,a,d,_)=>(Bf n e g h,(f,i,j,k,b,c,a,d),λ p=>(.leaf (.exit 0) [AV.own 0 0 0 0,AV.own 1 0 0 0,AV.func 1099511627776 [AV.int .i64 n],AV.osl 2 0 0 p.1] [bF 0 2 25 [AV.agg [AV.list 1 p.2.1,AV.list 3 p.2.2.1]],bF 0 2 25 [AV.agg [AV.nils,AV.nils]],bF 0 3 54 p.2.2.2]))) (0,[],[],[]) λ(_,_,(n,_),_,_,_,e,_,g,h,_,_) _ (f,i,j,k,b,c,a,d)=>((((),(),(n,()),(),(),(),e,f,g,h,i,()),(((j,k,()),()),(((),(),()),()),b,c,a,d,())),ID n e g h f i j k b c a d none)
def IZ(a b:LA):Int:=if i64.wrap ((↑a.length:Int) - (↑b.length:Int))<(↑a.length:Int)then i64.wrap ((↑a.length:Int) - (↑b.length:Int))else(↑a.length:Int)
def rO(a b:LA):Int:=if IZ a b>0 then IZ a b else 0
def IY(a b c d:LA):=aB (Bf (rO a c) (SJ d) (KR b (rO a c)) (↑(KR b (rO a c)).length:Int)) (0,0,a,b,r8 b,Gh b (rO a c),r8 d,[])
def yb(a b c d:LA):=(IY a b c d).getD (0,[],[],[])
def Qn(a b c d:LA):=Cf (List.take ((yb a b c d).fst) (List.drop 0 (((yb a b c d).snd).snd.snd)))
def I2(a c b d:LA):=List.take ((rO a b).toNat - 0) (List.drop 0 (((yb a c b d).snd).fst))
def EJ(a b c d:LA):Nat:=0+(I2 a b c d).length
def PY{T:Type}(a c b d:LA)(δ:T)(κ:LA×LA->T):T:=br (CN c) (br (Gp c (rO a b)) (br (CN d) (br ((IY a c b d).isSome) (br (decide (0<=rO a b)&&decide (rO a b<=(↑(((yb a c b d).snd).fst).length:Int))&&true) (br (decide (EJ a c b d*8<=140737488355328)&&decide (EJ a c b d<=4611686018427387904)) (br (decide (0+((yb a c b d).fst)<=(((yb a c b d).snd).snd.snd).length)&&true) (br ((Qn a c b d).isSome) (br (decide (0+EJ a c b d<=([]++I2 a c b d).length)&&true&&true) (κ (List.take (EJ a c b d) (List.drop 0 ([]++I2 a c b d)),(Qn a c b d).getD [])) δ) δ) δ) δ) δ) δ) δ) δ) δ
def Kh(a b c d:LA):=PY a b c d none some
def WM:EO:=LL.f Tryz.func23 110 0 [10000034,11000005,8000000] [(13,Eo.lp),(18,H7.lp),(9,Zp.lp)] (l7 (fe Zp.ok (fe Eo.ok (fe H7.ok kr)))) (u2 (fP (u2 (uL 1) (uL 3))) (fP (u2 (uL 1) (uL 3)))) (λ((a,b,_),(c,d,_),_) _=>PY a b c d) (λ _ p=>AV.agg [AV.list 1 p.1,AV.list 3 p.2]) ([],[])
def D6(a:Nat):=decide (0<=i64.wrap ((↑a:Int) - 1))&&decide (i64.wrap ((↑a:Int) - 1)<(↑a:Int))
def uy(a:Nat):Nat:=0+(i64.wrap ((↑a:Int) - 1)).toNat
def xG(a:Nat):=i64.wrap ((↑(a+1):Int) - 1)
def D8(a:LA)(i:Int):=vj ((a.getD (i64.wrap (i - 1)).toNat .top).cells.getD 0 .top).toList (gC a i 0).toList
def Ik(e:LA)(c a:Nat)(i:Int)(b d:LA):=decide (0<=xG a)&&decide (xG a<(↑(a+1):Int))
def Im(e:LA)(c a:Nat)(i:Int)(b d:LA):=decide (0<=xG a)&&decide (xG a<(↑(a+1):Int))
def D7(b:Nat)(a:LA):=decide (uy b<a.length)
def xT(a:Nat):Nat:=0+(xG a).toNat
def Il(e:LA)(c d:Nat)(i:Int)(b a:LA):=decide (xT d<(a++[AV.int .i64 0]).length)
def In(e:LA)(c d:Nat)(i:Int)(b a:LA):=decide (xT d<(a++[AV.int .i64 0]).length)
def Io(b:Nat)(a:LA):=dw (Sh.int .i64) (((a++[AV.int .i64 0]).getD (xT b) .top).cells.getD 0 .top)
def Ba{T:Type}(e:LA)(b c:Nat)(i:Int)(a d:LA)(κl:(Nat×Nat×Int×LA×LA)->T):T:=κl (b+1,c+1,i64.wrap (i+1),a++[AV.list 3 (gC e i 0).toList],(d++[AV.int .i64 0]).set (xT c) (AV.int .i64 (i64.wrap ((((d++[AV.int .i64 0]).getD (xT c) .top).cells.getD 0 .top).toInt+1))))
def AJ{T:Type}(e:LA)(b d:Nat)(i:Int)(a c:LA)(δ:T)(κl:(Nat×Nat×Int×LA×LA)->T)(κr:(Nat×Nat×LA×LA)->T):T:=br (decide (i<e.length)) (br (i==0) (br (bU e i) (br (dJ e i (Sh.list 3) 0) (br (gz b a 1 24) (br (gz d c 1 8) (br (Im e b d i a c) (br (In e b d i a c&&Io d c) (br (Im e b d i a c) (br (In e b d i a c) (Ba e b d i a c κl) δ) δ) δ) δ) δ) δ) δ) δ) (br (decide (0<=i64.wrap (i - 1))&&decide (i64.wrap (i - 1)<(↑e.length:Int))) (br (decide ((i64.wrap (i - 1)).toNat<e.length)&&dw (Sh.list 3) ((e.getD (i64.wrap (i - 1)).toNat .top).cells.getD 0 .top)) (br (bU e i) (br (dJ e i (Sh.list 3) 0) (br ((D8 e i).isSome) (br (!(D8 e i).getD false) (br (bU e i) (br (dJ e i (Sh.list 3) 0) (br (gz b a 1 24) (br (gz d c 1 8) (br (Ik e b d i a c) (br (Il e b d i a c&&Io d c) (br (Ik e b d i a c) (br (Il e b d i a c) (Ba e b d i a c κl) δ) δ) δ) δ) δ) δ) δ) δ) (br (D6 d) (br (D7 d c&&dw (Sh.int .i64) ((c.getD (uy d) .top).cells.getD 0 .top)) (br (D6 d) (br (D7 d c) (κl (b,d,i64.wrap (i+1),a,c.set (uy d) (AV.int .i64 (i64.wrap (((c.getD (uy d) .top).cells.getD 0 .top).toInt+1))))) δ) δ) δ) δ)) δ) δ) δ) δ) δ)) (κr (b,d,a,c))
def s8(d:LA):cS (Nat×Nat×Int×LA×LA) (Nat×Nat×LA×LA):=λ(b,e,i,a,c)=>AJ d b e i a c none inL inR
def Zg:=Tp.l 51 0 [] [] Tryz.f102 0 lk0 [4,5,6,7] [5,6] [(5,1,47),(6,1,3)] (q4 (qL 1) (cC 0 0 0) (cC 1 0 0) qI) (q2 (qB 0 1 47 bB) (qB 0 1 3 bB)) (λ(d,b,e,i,_) (a,c,_)=>(s8 d,(b,e,i,a,c),λ p=>(.leaf (.exit 0) [AV.osl 0 0 0 p.1,AV.osl 1 0 0 p.2.1] [bF 0 1 47 p.2.2.1,bF 0 1 3 p.2.2.2]))) (0,0,[],[]) λ(d,_,_,_,_) _ (b,e,i,a,c)=>(((d,b,e,i,()),(a,c,())),AJ d b e i a c none)
def IX(l:LA):=aB (s8 ((rY l).getD [])) (0,0,0,[],[])
def th(l:LA):=(IX l).getD (0,0,[],[])
def PN{T:Type}(l:LA)(δ:T)(κ:LA×LA->T):T:=br ((rY l).isSome) (br ((IX l).isSome) (br (decide (0+((th l).fst)<=((((th l).snd).snd).fst).length)&&(decide (0+(((th l).snd).fst)<=((((th l).snd).snd).snd).length)&&true)) (κ (List.take ((th l).fst) (List.drop 0 ((((th l).snd).snd).fst)),List.take (((th l).snd).fst) (List.drop 0 ((((th l).snd).snd).snd)))) δ) δ) δ
def rR(l:LA):=PN l none some
def NB:EO:=Tp.f Tryz.func102 51 0 [] [(5,Zg.lp)] (fc Zg.ok) (u1 (uL 1)) (λ(l,_) _=>PN l) (λ _ p=>AV.tuple [AV.list 1 p.1,AV.list 1 p.2]) ([],[])
def Ey{T:Type}(c n a m:LA)(d:Nat)(i k:Int)(b:LA)(δ:T)(κl:(Int×LA)->T)(κr:(Int×LA)->T):T:=br (decide (k<a.length)) (br (bU a k) (br (dJ a k (Sh.list 3) 0) (br (bU c i) (br (dJ c i (Sh.list 3) 0) (br ((ni (gC a k 0).toList (gC c i 0).toList).isSome) (br (decide ((ni (gC a k 0).toList (gC c i 0).toList).getD 0<0)) (κl (i64.wrap (k+1),b)) (κr (k,b))) δ) δ) δ) δ) δ) (κr (k,b))
def uz(d n b m:LA)(c:Nat)(i:Int):cS (Int×LA) (Int×LA):=λ(k,a)=>Ey d n b m c i k a none inL inR
def Ie:=NB.l 76 0 [] [] Tryz.f68 1 lk0 [7,8,9,10,11,12,13] [7,8,9,10,11,12,13] [(11,1,3)] (q7 (qL 1) (qL 1) (qL 1) (qL 1) (cC 0 0 0) qI qI) (q1 (qB 0 1 3 bB)) (λ(d,n,a,m,b,k,i,_) (c,_)=>(uz d n a m b i,(k,c),λ p=>(.leaf (.exit 2) [AV.list 1 d,AV.list 1 n,AV.list 1 a,AV.list 1 m,AV.osl 0 0 0 b,AV.int .i64 p.1,AV.int .i64 i] [bF 0 1 3 p.2]))) (0,[]) λ(d,n,a,m,b,_,i,_) _ (k,c)=>(((d,n,a,m,b,k,i,()),(c,())),Ey d n a m b i k c none)
def mT(d n b m:LA)(c:Nat)(k i:Int)(a:LA):=((aB (uz d n b m c i) (k,a)).getD (0,[])).fst
def AK(d n b m:LA)(c:Nat)(k i:Int)(a:LA):=((aB (uz d n b m c i) (k,a)).getD (0,[])).snd
def El(d n c m:LA)(a:Nat)(k i:Int)(b:LA):=a==(AK d n c m a k i b).length
def AQ{T:Type}(d n c m:LA)(a:Nat)(k i:Int)(b:LA)(δ:T)(κl:(Nat×Int×Int×LA)->T):T:=br (El d n c m a k i b&&(decide ((a+1)*8<=140737488355328)&&decide (a+1<=4611686018427387904))) (κl (a+1,mT d n c m a k i b,i64.wrap (i+1),AK d n c m a k i b++[AV.int .i64 0])) δ
def Bo{T:Type}(d n a m:LA)(c:Nat)(k i:Int)(b:LA)(δ:T)(κl:(Nat×Int×Int×LA)->T)(κr:(Nat×LA)->T):T:=br (decide (i<d.length)) (br ((aB (uz d n a m c i) (k,b)).isSome) (br (decide (mT d n a m c k i b<a.length)) (br ((decide (0<=mT d n a m c k i b))&&(decide (mT d n a m c k i b<a.length))) (br (decide ((mT d n a m c k i b).toNat<a.length)&&dw (Sh.list 3) ((a.getD (mT d n a m c k i b).toNat .top).cells.getD 0 .top)) (br (bU d i) (br (dJ d i (Sh.list 3) 0) (br ((vj ((a.getD (mT d n a m c k i b).toNat .top).cells.getD 0 .top).toList (gC d i 0).toList).isSome) (br ((vj ((a.getD (mT d n a m c k i b).toNat .top).cells.getD 0 .top).toList (gC d i 0).toList).getD false) (br ((decide (0<=mT d n a m c k i b))&&decide (mT d n a m c k i b<m.length)) (br (decide ((mT d n a m c k i b).toNat<m.length)&&dw (Sh.int .i64) ((m.getD (mT d n a m c k i b).toNat .top).cells.getD 0 .top)) (br (El d n a m c k i b&&(decide ((c+1)*8<=140737488355328)&&decide (c+1<=4611686018427387904))) (κl (c+1,mT d n a m c k i b,i64.wrap (i+1),AK d n a m c k i b++[AV.int .i64 ((m.getD (mT d n a m c k i b).toNat .top).cells.getD 0 .top).toInt])) δ) δ) δ) (AQ d n a m c k i b δ κl)) δ) δ) δ) δ) δ) (AQ d n a m c k i b δ κl)) δ) (κr (c,b))
def xt(d n b m:LA):cS (Nat×Int×Int×LA) (Nat×LA):=λ(c,k,i,a)=>Bo d n b m c k i a none inL inR
def ZA:=NB.l 76 0 [] [(8,Ie.lp)] Tryz.f68 0 (fc Ie.ok) [7,8,9,10,11,12,13] [7,8,11] [(11,1,3)] (q7 (qL 1) (qL 1) (qL 1) (qL 1) (cC 0 0 0) qI qI) (q1 (qB 0 1 3 bB)) (λ(d,n,b,m,c,k,i,_) (a,_)=>(xt d n b m,(c,k,i,a),λ p=>(.leaf (.exit 0) [AV.list 1 d,AV.list 1 n,AV.osl 0 0 0 p.1] [bF 0 1 3 p.2]))) (0,[]) λ(d,n,b,m,_,_,_,_) _ (c,k,i,a)=>(((d,n,b,m,c,k,i,()),(a,())),Bo d n b m c k i a none)
def Jw(a b:LA):=aB (xt ((rR a).getD ([],[])).fst ((rR a).getD ([],[])).snd ((rR b).getD ([],[])).fst ((rR b).getD ([],[])).snd) (0,0,0,[])
def EQ(a b:LA):=(Jw a b).getD (0,[])
def Qg{T:Type}(a b:LA)(δ:T)(κ:LA×LA×LA->T):T:=br ((rR a).isSome) (br ((rR b).isSome) (br ((Jw a b).isSome) (br (decide (0+((EQ a b).fst)<=((EQ a b).snd).length)&&true) (κ (((rR a).getD ([],[])).fst,((rR a).getD ([],[])).snd,List.take ((EQ a b).fst) (List.drop 0 ((EQ a b).snd)))) δ) δ) δ) δ
def rV(a b:LA):=Qg a b none some
def LM:EO:=NB.f Tryz.func68 76 0 [] [(8,Ie.lp),(6,ZA.lp)] (l7 (fe ZA.ok (fe Ie.ok kr))) (u2 (uL 1) (uL 1)) (λ(a,b,_) _=>Qg a b) (λ _ p=>AV.tuple [AV.list 1 p.1,AV.list 1 p.2.1,AV.list 1 p.2.2]) ([],[],[])
def Ez{T:Type}(e:LA)(n:Int)(b c:Nat)(i:Int)(d:Nat)(a:LA)(δ:T)(κl:(Nat×Nat×Int×Nat×LA)->T)(κr:(Nat×Nat×LA×Nat)->T):T:=br (decide (i<n)) (br (d==b&&(gz c a 1 24)) (κl (b+1,c+1,i64.wrap (i+1),b+1,a++[AV.list 3 e])) δ) (κr (b,c,a,d))
def Bb(c:LA)(n:Int):cS (Nat×Nat×Int×Nat×LA) (Nat×Nat×LA×Nat):=λ(d,e,i,a,b)=>Ez c n d e i a b none inL inR
def If:=LM.l 18 1 [] [] Tryz.f69 0 lk0 [0,1,2,7] [0] [(0,1,47)] (q4 (kZ 0 0) (qL 3) qI qI) (q1 (kY 1 47 false true bB)) (λ((c,d),e,n,i,_) ((a,b),_)=>(Bb e n,(c,d,i,a,b),λ p=>(.leaf (.exit 0) [AV.osl 0 p.1 0 p.2.1] [bF p.2.2.2 1 47 p.2.2.1]))) (0,0,[],0) λ((_,_),e,n,_,_) _ (c,d,i,a,b)=>((((c,d),e,n,i,()),((a,b),())),Ez e n c d i a b none)
def BK:cZ:=LM.E.fn 18 1 (dQ []) (iS [(2,If.lp)])
def xvA:di P0 (xQa.at 1) BK:=LM.ok.fn
def xuf:cV P0 (xQa.at BK.pin) BK (Tryz.f69.body.getD .skip):=r7 (ls:=[gE Tryz.f69 0]) Θ (fe If.ok kr)
def Jx(k:Nat)(a:LA)(n:Int)(b:LA):=aB (Bb a n) (0,k,0,0,b)
def BL(k:Nat)(a:LA)(n:Int)(b:LA):=(Jx k a n b).getD (0,0,[],0)
def B3{T:Type}(k:Nat)(a:LA)(n:Int)(b:LA)(δ:T)(κ:Nat×Nat×LA×Nat->T):T:=br ((Jx k a n b).isSome) (κ ((BL k a n b).fst,((BL k a n b).snd).fst,(((BL k a n b).snd).snd).fst,(((BL k a n b).snd).snd).snd)) δ
def vf(k:Nat)(a:LA)(n:Int)(b:LA):=B3 k a n b none some
def xz7(k:Nat)(a:LA)(n:Int)(xs:LA):cU (λ(p:Nat×Nat×LA×Nat)=>(((AV.osl 0 p.1 0 p.2.1,([⟨p.2.2.2,1,47,p.2.2.1,false,true⟩]:List aC))):(AV×List aC))) (vf k a n xs) (l6 P0 BK Tryz.f69 (Tryz.f69.body.getD .skip) [AV.osl (0:Id) 0 0 k,AV.list 3 a,AV.int .i64 n] [{ver:=0,sz:=1,ty:=(47:TypeId),xs:=xs,frz:=false,pm:=true}]):=by(have h:l6 P0 BK Tryz.f69 (Tryz.f69.body.getD .skip) [AV.osl (0:Id) 0 0 k,AV.list 3 a,AV.int .i64 n] [{ver:=0,sz:=1,ty:=(47:TypeId),xs:=xs,frz:=false,pm:=true}]=B3 k a n xs none (λ(p:Nat×Nat×LA×Nat)=>some (((AV.osl 0 p.1 0 p.2.1,([⟨p.2.2.2,1,47,p.2.2.1,false,true⟩]:List aC))):(AV×List aC))):=by kernel_rfl);rw[h];unfold vf B3;repeat' (first|refine cU.br ?_ ?_|exact cU.none|exact cU.some rfl)
def WR:EO:=LM.fM Tryz.func69 18 1 [] [(2,If.lp)] (fc If.ok) (u3 (sEq (cC 0 0 0)) (uL 3) uI) (q1 (qB 0 1 47 bB)) (λ(k,a,n,_) (b,_) _=>B3 k a n b) (λ _ _ p=>(AV.osl 0 p.1 0 p.2.1,([bF p.2.2.2 1 47 p.2.2.1]:List aC))) (0,0,[],0)
end Go.Sim.M
end
noncomputable section
set_option maxRecDepth 100000
namespace Go.Sim.M
open Go.RowKit Go.Proofs
noncomputable def mZ(k:Nat)(row:List AV)(n:Int)(xs:List AV):Option (Nat×List AV):=(vf k row n xs).bind λ p=>
 br (Nat.beq p.1 p.2.2.2&&Nat.blt p.1 1099511627776) (some (p.2.1,p.2.2.1)) none
noncomputable def XS:List AV->List aC->Option (Bool×AV×List aC):=jl (cT (sEq (cC 0 0 0)) (cT (mc 3 bB) (cT (sEq (pInt IntKind.i64)) iU))) (aZ (fu 0 1 47 false true bB) bO) λ(k,(row,(n,_))) (xs,_)=>((mZ k row n xs).isSome,(.osl 0 1099511627776 0 ((mZ k row n xs).getD (0,[])).1,[⟨1099511627776,1,47,((mZ k row n xs).getD (0,[])).2,false,true⟩]))
def xNx:fJ Tryz.prog xQa 69 XS:=pR λ vv bb rr V hh=>by obtain⟨k,row,n,_⟩:=vv;obtain⟨xs,_⟩:=bb;obtain⟨q,J⟩:=Prod.mk.inj hh;cases hs:vf k row n xs with|none=>rw[show mZ k row n xs=none by unfold mZ;rw[hs];rfl]at q;simp at q|some p=>(have O:mZ k row n xs=br (Nat.beq p.1 p.2.2.2&&Nat.blt p.1 1099511627776) (some (p.2.1,p.2.2.1)) none:=by unfold mZ;rw[hs];rfl);cases ht:Nat.beq p.1 p.2.2.2&&Nat.blt p.1 1099511627776 with|false=>rw[O,ht]at q;simp[br]at q|true=>rw[ht]at O;have Q:mZ k row n xs=some (p.2.1,p.2.2.1):=O;rw[Q]at J;simp only[zh]at J;simp only[zf]at ht;have e1:=zg ht.1;have hx:=xz7 k row n xs p hs;have hg:bG Tryz.prog xQa 69 _ _ _ _:=vB (p:=BK.pin) (vA xPD (xPE Tryz.prog _) rfl xvA rfl Tryz.func69 rfl Θ xuf hx);rw[<-e1]at hg;obtain⟨rfl,rfl⟩:=Prod.mk.inj J;exact bG.bump1 rfl (xIm ht.2) hg
noncomputable def CZ:cZ:=WR.E.withM 69 XS
def Wj:di Tryz.prog xQa CZ:=WR.ok.withM xNx
noncomputable def xJX:EO:=EO.mk CZ Wj
end Go.Sim.M
end
noncomputable section
set_option maxRecDepth 100000
namespace Go.Sim.M
open Go.IntKind (i64 u64 u8)
open Go.RowKit Go.Proofs
def QP{T:Type}(c a d b:LA)(δ:T)(κ:LA×LA->T):T:=br (decide (a.length*24<=140737488355328)&&decide (a.length<=4611686018427387904)) (br (a.length==a.length&&(decide ((a.length+b.length)*24<=140737488355328)&&decide (a.length+b.length<=4611686018427387904))) (br (decide (0+(a.length+b.length)<=(a++b).length)&&true) (br ((rY (List.take (a.length+b.length) (List.drop 0 (a++b)))).isSome) (κ (c,(rY (List.take (a.length+b.length) (List.drop 0 (a++b)))).getD [])) δ) δ) δ) δ
def Rc(a b c d:LA):=QP a b c d none some
def xBB:LA->Option (Bool×AV):=yT (u2 (fP (u2 (uL 1) (uL 1))) (fP (u2 (uL 1) (uL 1)))) (λ((a,b,_),(c,d,_),_) _=>QP a b c d) (λ _ p=>AV.agg [AV.list 1 p.1,AV.list 1 p.2]) ([],[])
def xuI:ga P0 xQa 28 xBB:=yS Wj Tryz.func28 26 0 [] [] lk0
def NC:EO:=xJX.w xuI
def Ib(l n m:LA)(i:Int)(b:Nat)(a:LA):=mZ b (gC l i 0).toList (i64.wrap ((gC n i 0).toInt - (gC m i 0).toInt)) a
def Iz{T:Type}(l n m:LA)(i:Int)(c:LA)(b:Nat)(a:LA)(δ:T)(κl:(Int×LA×Nat×LA)->T)(κr:(LA×Nat×LA)->T):T:=br (decide (i<l.length)) (br (bU l i) (br (dJ l i (Sh.list 3) 0) (br (bU n i) (br (dJ n i (Sh.int .i64) 0) (br (bU m i) (br (dJ m i (Sh.int .i64) 0) (br ((Ib l n m i b a).isSome) (κl (i64.wrap (i+1),c,((Ib l n m i b a).getD (0,[])).fst,((Ib l n m i b a).getD (0,[])).snd)) δ) δ) δ) δ) δ) δ) δ) (κr (c,b,a))
def AZ(l n m:LA):cS (Int×LA×Nat×LA) (LA×Nat×LA):=λ(i,b,c,a)=>Iz l n m i b c a none inL inR
def Zz:=NC.l 46 0 [] [] Tryz.f29 0 lk0 [4,5,6,7,8,9] [4,5] [(5,1,47)] (q6 (dL 0 0 0 0) (dL 1 0 0 0) (qL 1) (qL 1) (qL 1) qI) (q3 (qB 0 2 33 (q1 (iE (q2 eF eF)))) (fu 0 2 33 false false (q1 (iE (q2 (qL 1) (cC 2 0 0))))) (qB 0 1 47 bB)) (λ(_,_,l,n,m,i,_) (((_,_,_),_),((b,c,_),_),a,_)=>(AZ l n m,(i,b,c,a),λ p=>(.leaf (.exit 0) [AV.own 0 0 0 0,AV.own 1 0 0 0] [bF 0 2 33 [AV.agg [AV.nils,AV.nils]],⟨0,2,33,[AV.agg [AV.list 1 p.1,AV.osl 2 0 0 p.2.1]],false,false⟩,bF 0 1 47 p.2.2]))) ([],0,[]) λ(_,_,l,n,m,_,_) _ (i,b,c,a)=>((((),(),l,n,m,i,()),((((),(),()),()),((b,c,()),()),a,())),Iz l n m i b c a none)
def Jv(c a b:LA):=aB (AZ ((rV a b).getD ([],[],[])).fst ((rV a b).getD ([],[],[])).snd.fst ((rV a b).getD ([],[],[])).snd.snd) (0,c,0,[])
def BI(a b c:LA):=(Jv a b c).getD ([],0,[])
def Qf{T:Type}(c a d b:LA)(δ:T)(κ:LA×LA->T):T:=br ((rV a b).isSome) (br ((Jv c a b).isSome) (br (decide (0+(((BI c a b).snd).fst)<=(((BI c a b).snd).snd).length)&&true&&true) (κ ((BI c a b).fst,List.take (((BI c a b).snd).fst) (List.drop 0 (((BI c a b).snd).snd)))) δ) δ) δ
def Rj(a b c d:LA):=Qf a b c d none some
def xz6:LA->Option (Bool×AV):=yT (u2 (fP (u2 (uL 1) (uL 1))) (fP (u2 (uL 1) (uL 1)))) (λ((a,b,_),(c,d,_),_) _=>Qf a b c d) (λ _ p=>AV.agg [AV.list 1 p.1,AV.list 1 p.2]) ([],[])
def Z3:ga P0 xQa 29 xz6:=yS NC.ok Tryz.func29 46 0 [] [(4,Zz.lp)] (fc Zz.ok)
def ND:EO:=NC.w Z3
def HF(l n m:LA)(i:Int)(b:Nat)(a:LA):=mZ b (gC l i 0).toList (if(gC m i 0).toInt<(gC n i 0).toInt then(gC m i 0).toInt else(gC n i 0).toInt) a
def H4{T:Type}(l n m:LA)(i:Int)(c:LA)(b:Nat)(a:LA)(δ:T)(κl:(Int×LA×Nat×LA)->T)(κr:(LA×Nat×LA)->T):T:=br (decide (i<l.length)) (br (bU l i) (br (dJ l i (Sh.list 3) 0) (br (bU n i) (br (dJ n i (Sh.int .i64) 0) (br (bU m i) (br (dJ m i (Sh.int .i64) 0) (br ((HF l n m i b a).isSome) (κl (i64.wrap (i+1),c,((HF l n m i b a).getD (0,[])).fst,((HF l n m i b a).getD (0,[])).snd)) δ) δ) δ) δ) δ) δ) δ) (κr (c,b,a))
def As(l n m:LA):cS (Int×LA×Nat×LA) (LA×Nat×LA):=λ(i,b,c,a)=>H4 l n m i b c a none inL inR
def Y6:=ND.l 46 0 [] [] Tryz.f30 0 lk0 [4,5,6,7,8,9] [4,5] [(5,1,47)] (q6 (dL 0 0 0 0) (dL 1 0 0 0) (qL 1) (qL 1) (qL 1) qI) (q3 (qB 0 2 33 (q1 (iE (q2 eF eF)))) (fu 0 2 33 false false (q1 (iE (q2 (qL 1) (cC 2 0 0))))) (qB 0 1 47 bB)) (λ(_,_,l,n,m,i,_) (((_,_,_),_),((b,c,_),_),a,_)=>(As l n m,(i,b,c,a),λ p=>(.leaf (.exit 0) [AV.own 0 0 0 0,AV.own 1 0 0 0] [bF 0 2 33 [AV.agg [AV.nils,AV.nils]],⟨0,2,33,[AV.agg [AV.list 1 p.1,AV.osl 2 0 0 p.2.1]],false,false⟩,bF 0 1 47 p.2.2]))) ([],0,[]) λ(_,_,l,n,m,_,_) _ (i,b,c,a)=>((((),(),l,n,m,i,()),((((),(),()),()),((b,c,()),()),a,())),H4 l n m i b c a none)
def Ic(c a b:LA):=aB (As ((rV a b).getD ([],[],[])).fst ((rV a b).getD ([],[],[])).snd.fst ((rV a b).getD ([],[],[])).snd.snd) (0,c,0,[])
def AI(a b c:LA):=(Ic a b c).getD ([],0,[])
def OZ{T:Type}(c a d b:LA)(δ:T)(κ:LA×LA->T):T:=br ((rV a b).isSome) (br ((Ic c a b).isSome) (br (decide (0+(((AI c a b).snd).fst)<=(((AI c a b).snd).snd).length)&&true&&true) (κ ((AI c a b).fst,List.take (((AI c a b).snd).fst) (List.drop 0 (((AI c a b).snd).snd)))) δ) δ) δ
def PM(a b c d:LA):=OZ a b c d none some
def xv8:LA->Option (Bool×AV):=yT (u2 (fP (u2 (uL 1) (uL 1))) (fP (u2 (uL 1) (uL 1)))) (λ((a,b,_),(c,d,_),_) _=>OZ a b c d) (λ _ p=>AV.agg [AV.list 1 p.1,AV.list 1 p.2]) ([],[])
def ZD:ga P0 xQa 30 xv8:=yS ND.ok Tryz.func30 46 0 [] [(4,Y6.lp)] (fc Y6.ok)
def xLO:EO:=ND.w ZD
def Px{T:Type}(b a:LA)(δ:T)(κ:LA×LA->T):T:=br ((EZ a).isSome) (κ (b,(EZ a).getD [])) δ
def JO(a b:LA):=Px a b none some
def xyg:LA->Option (Bool×AV):=yT (u1 (fP (u2 (uL 1) (uL 1)))) (λ((a,b,_),_) _=>Px a b) (λ _ p=>AV.agg [AV.list 1 p.1,AV.list 1 p.2]) ([],[])
def xyf:ga P0 xQa 31 xyg:=yS xLO.ok Tryz.func31 9 0 [] [] lk0
def Ii{T:Type}(b i:Int)(d:LA)(c:Nat)(a:LA)(δ:T)(κl:(Int×LA×Nat×LA)->T)(κr:(Nat×LA×LA)->T):T:=br (decide (i<b)) (br (gz c a 1 8) (κl (i64.wrap (i+1),d,c+1,a++[AV.int .i64 1])) δ) (κr (c,d,a))
def Ar(a:Int):cS (Int×LA×Nat×LA) (Nat×LA×LA):=λ(i,c,d,b)=>Ii a i c d b none inL inR
def Y3:=WM.l 20 0 [] [] Tryz.f40 0 lk0 [0,4,5,6] [4,5] [(5,1,3)] (q4 qI (dL 0 0 0 0) (dL 1 0 0 0) qI) (q3 (qB 0 2 25 (q1 (iE (q2 eF eF)))) (fu 0 2 25 false false (q1 (iE (q2 (cC 2 0 0) (qL 3))))) (qB 0 1 3 bB)) (λ(a,_,_,i,_) (((_,_,_),_),((c,d,_),_),b,_)=>(Ar a,(i,d,c,b),λ p=>(.leaf (.exit 0) [AV.own 0 0 0 0,AV.own 1 0 0 0] [bF 0 2 25 [AV.agg [AV.nils,AV.nils]],⟨0,2,25,[AV.agg [AV.osl 2 0 0 p.1,AV.list 3 p.2.1]],false,false⟩,bF 0 1 3 p.2.2]))) (0,[],[]) λ(a,_,_,_,_) _ (i,d,c,b)=>(((a,(),(),i,()),((((),(),()),()),((c,d,()),()),b,())),Ii a i d c b none)
def OW(a:Int)(l:LA):=aB (Ar a) (0,l,0,[])
def Bn(a:Int)(l:LA):=(OW a l).getD (0,[],[])
def Pt{T:Type}(a:Int)(l:LA)(δ:T)(κ:LA×LA->T):T:=br ((OW a l).isSome) (br (decide (0+((Bn a l).fst)<=(((Bn a l).snd).snd).length)&&true&&true) (κ (List.take ((Bn a l).fst) (List.drop 0 (((Bn a l).snd).snd)),((Bn a l).snd).fst)) δ) δ
def uV(a:Int)(l:LA):=Pt a l none some
def W4:EO:=WM.f Tryz.func40 20 0 [] [(3,Y3.lp)] (fc Y3.ok) (u2 uI (uL 3)) (λ(a,l,_) _=>Pt a l) (λ _ p=>AV.agg [AV.list 1 p.1,AV.list 3 p.2]) ([],[])
def Jr{T:Type}(b:LA)(i c d f g:Int)(e:Nat)(a:LA)(δ:T)(κl:(Int×Int×Int×Int×Int×Nat×LA)->T)(κr:(Int×Int×Nat×Int×Int×LA)->T):T:=br (decide (i<b.length)) (br (bU b i) (br (dJ b i (Sh.int .i64) 0) (br (gz e a 1 32) (κl (i64.wrap (i+1),c,d,f,g,e+1,a++[AV.agg [AV.int .i64 1,AV.int .i64 (gC b i 0).toInt,AV.str []]])) δ) δ) δ) (κr (c,d,e,f,g,a))
def AG(d:LA):cS (Int×Int×Int×Int×Int×Nat×LA) (Int×Int×Nat×Int×Int×LA):=λ(i,b,c,e,f,g,a)=>Jr d i b c e f g a none inL inR
def ZS:=W4.l 30 0 [] [] Tryz.f41 0 lk0 [2,6,7,8] [6,7] [(7,3,87)] (q4 (qL 1) (dL 0 0 0 0) (dL 1 0 0 0) qI) (q3 (qB 0 3 54 (q1 (iE (q3 eF qI qI)))) (fu 0 3 54 false false (q1 (iE (q3 (cC 2 0 0) qI qI)))) (qB 0 3 87 bB)) (λ(d,_,_,i,_) (((_,b,c,_),_),((e,f,g,_),_),a,_)=>(AG d,(i,b,c,f,g,e,a),λ p=>(.leaf (.exit 0) [AV.own 0 0 0 0,AV.own 1 0 0 0] [bF 0 3 54 [AV.agg [AV.nils,AV.int .i64 p.1,AV.int .i64 p.2.1]],⟨0,3,54,[AV.agg [AV.osl 2 0 0 p.2.2.1,AV.int .i64 p.2.2.2.1,AV.int .i64 p.2.2.2.2.1]],false,false⟩,bF 0 3 87 p.2.2.2.2.2]))) (0,0,0,0,0,[]) λ(d,_,_,_,_) _ (i,b,c,f,g,e,a)=>(((d,(),(),i,()),((((),b,c,()),()),((e,f,g,()),()),a,())),Jr d i b c f g e a none)
def QI(a b:Int)(c:LA):=aB (AG c) (0,0,0,a,b,0,[])
def ym(a b:Int)(c:LA):=((QI a b c).getD (0,0,0,0,0,[])).snd.snd
def QS{T:Type}(a b:Int)(c:LA)(δ:T)(κ:LA×Int×Int->T):T:=br ((QI a b c).isSome) (br (decide (0+((ym a b c).fst)<=((((ym a b c).snd).snd).snd).length)&&true&&true) (κ (List.take ((ym a b c).fst) (List.drop 0 ((((ym a b c).snd).snd).snd)),((ym a b c).snd).fst,(((ym a b c).snd).snd).fst)) δ) δ
def gF(a b:Int)(c:LA):=QS a b c none some
def xLl:EO:=W4.f Tryz.func41 30 0 [] [(3,ZS.lp)] (fc ZS.ok) (u3 uI uI (uL 1)) (λ(a,b,c,_) _=>QS a b c) (λ _ p=>AV.agg [AV.list 3 p.1,AV.int .i64 p.2.1,AV.int .i64 p.2.2]) ([],0,0)
def Jc:=(gF 0 6 [AV.int .i64 1,AV.int .i64 5]).getD ([],0,0)
def Jd:=(gF 0 9 [AV.int .i64 2,AV.int .i64 5]).getD ([],0,0)
def Je:=(gF 3 9 [AV.int .i64 1,AV.int .i64 6]).getD ([],0,0)
def EM:=(gF 0 9 [AV.int .i64 1]).isSome
def Jf:=(gF 7 9 [AV.int .i64 1]).getD ([],0,0)
def Jg:=(gF 8 9 [AV.int .i64 2]).getD ([],0,0)
def Jh:=(gF 4 8 [AV.int .i64 6]).getD ([],0,0)
def Ji:=(gF 4 5 [AV.int .i64 1]).getD ([],0,0)
def Jj:=(gF 0 6 [AV.int .i64 1]).getD ([],0,0)
def Jk:=(gF 0 4 [AV.int .i64 2]).getD ([],0,0)
def ye:=(gF 0 9 [AV.int .i64 1]).getD ([],0,0)
def Jl:=(gF 2 7 [AV.int .i64 1]).getD ([],0,0)
def Jm:=(gF 1 9 [AV.int .i64 5]).getD ([],0,0)
def Jn:=(gF 0 5 [AV.int .i64 1]).getD ([],0,0)
def Jo:=(gF 2 5 [AV.int .i64 1]).getD ([],0,0)
def Jp:=(gF 4 7 [AV.int .i64 1]).getD ([],0,0)
def Jq:=(gF 2 4 [AV.int .i64 1]).getD ([],0,0)
def tv:=ye.snd
def IM:=uV 2 [AV.agg [AV.list 3 Jc.fst,AV.int .i64 Jc.snd.fst,AV.int .i64 Jc.snd.snd],AV.agg [AV.list 3 Je.fst,AV.int .i64 Je.snd.fst,AV.int .i64 Je.snd.snd],AV.agg [AV.list 3 Jd.fst,AV.int .i64 Jd.snd.fst,AV.int .i64 Jd.snd.snd]]
def IP:=uV 1 [AV.agg [AV.list 3 Jm.fst,AV.int .i64 Jm.snd.fst,AV.int .i64 Jm.snd.snd],AV.agg [AV.list 3 Jh.fst,AV.int .i64 Jh.snd.fst,AV.int .i64 Jh.snd.snd]]
def IQ:=uV 1 [AV.agg [AV.list 3 ye.fst,AV.int .i64 tv.fst,AV.int .i64 tv.snd],AV.agg [AV.list 3 Jo.fst,AV.int .i64 Jo.snd.fst,AV.int .i64 Jo.snd.snd]]
def Jb:=uV 1 [AV.agg [AV.list 3 Jp.fst,AV.int .i64 Jp.snd.fst,AV.int .i64 Jp.snd.snd]]
def PW:=IM.getD ([],[])
def PX:=IP.getD ([],[])
def IN:=IQ.getD ([],[])
def IS:=Jb.getD ([],[])
def JD:=Kh PW.fst PW.snd PX.fst PX.snd
def uS:=IN.snd
def uU:=IN.fst
def BF:=IS.snd
def EL:=IS.fst
def JC:=qQ (JD.getD ([],[])).snd [AV.agg [AV.list 3 Jj.fst,AV.int .i64 Jj.snd.fst,AV.int .i64 Jj.snd.snd],AV.agg [AV.list 3 Jk.fst,AV.int .i64 Jk.snd.fst,AV.int .i64 Jk.snd.snd],AV.agg [AV.list 3 Jg.fst,AV.int .i64 Jg.snd.fst,AV.int .i64 Jg.snd.snd]]
def JH:=tA uU uS EL BF
def JI:=tw uU uS EL BF
def JJ:=tC uU uS EL BF
def IR:=qQ ((qY uU uS).getD ([],[])).snd [AV.agg [AV.list 3 ye.fst,AV.int .i64 tv.fst,AV.int .i64 tv.snd]]
def JE:=qQ (JH.getD ([],[])).snd [AV.agg [AV.list 3 Jn.fst,AV.int .i64 Jn.snd.fst,AV.int .i64 Jn.snd.snd],AV.agg [AV.list 3 Jq.fst,AV.int .i64 Jq.snd.fst,AV.int .i64 Jq.snd.snd],AV.agg [AV.list 3 Jf.fst,AV.int .i64 Jf.snd.fst,AV.int .i64 Jf.snd.snd]]
def JF:=qQ (JJ.getD ([],[])).snd [AV.agg [AV.list 3 ye.fst,AV.int .i64 tv.fst,AV.int .i64 tv.snd],AV.agg [AV.list 3 Jl.fst,AV.int .i64 Jl.snd.fst,AV.int .i64 Jl.snd.snd],AV.agg [AV.list 3 Ji.fst,AV.int .i64 Ji.snd.fst,AV.int .i64 Ji.snd.snd]]
def JG:=qQ (JI.getD ([],[])).snd BF
def QH{T:Type}(δ:T)(κ:Bool->T):T:=br (EM) (br ((gF 2 5 [AV.int .i64 1]).isSome) (br (IQ.isSome) (br ((gF 4 7 [AV.int .i64 1]).isSome) (br (Jb.isSome) (br ((gF 0 6 [AV.int .i64 1,AV.int .i64 5]).isSome) (br ((gF 3 9 [AV.int .i64 1,AV.int .i64 6]).isSome) (br ((gF 0 9 [AV.int .i64 2,AV.int .i64 5]).isSome) (br (IM.isSome) (br ((gF 1 9 [AV.int .i64 5]).isSome) (br ((gF 4 8 [AV.int .i64 6]).isSome) (br (IP.isSome) (br (JJ.isSome) (br (EM) (br ((gF 2 7 [AV.int .i64 1]).isSome) (br ((gF 4 5 [AV.int .i64 1]).isSome) (br (JF.isSome) (br (JF.getD false) (br (JH.isSome) (br ((gF 0 5 [AV.int .i64 1]).isSome) (br ((gF 2 4 [AV.int .i64 1]).isSome) (br ((gF 7 9 [AV.int .i64 1]).isSome) (br (JE.isSome) (br (JE.getD false) (br (JI.isSome) (br (JG.isSome) (br (JG.getD false) (br ((qY uU uS).isSome) (br (EM) (br (IR.isSome) (br (IR.getD false) (br (JD.isSome) (br ((gF 0 6 [AV.int .i64 1]).isSome) (br ((gF 0 4 [AV.int .i64 2]).isSome) (br ((gF 8 9 [AV.int .i64 2]).isSome) (br (JC.isSome) (κ (JC.getD false)) δ) δ) δ) δ) δ) (κ (false))) δ) δ) δ) (κ (false))) δ) δ) (κ (false))) δ) δ) δ) δ) δ) (κ (false))) δ) δ) δ) δ) δ) δ) δ) δ) δ) δ) δ) δ) δ) δ) δ) δ) δ
def Cg:Option (Bool):=QH none some
def xLm:EO:=xLl.f Tryz.func11 87 0 [] [] lk0 iU (λ _ _=>QH) (λ _ p=>AV.bool p) false
def xLn:EO:=xLm.w xuI
def xLo:EO:=xLn.w Z3
def xLp:EO:=xLo.w ZD
def LU:EO:=xLp.w xyf
def xl(a b:LA)(t:Int):=((mS a b t).getD ([],[])).fst
def xn(a b:LA)(t:Int):=((mS a b t).getD ([],[])).snd
def DU(a b c d:LA)(t:Int):=mS ((tC a b c d).getD ([],[])).fst ((tC a b c d).getD ([],[])).snd t
def DV(a b c d:LA)(t:Int):=mS ((tw a b c d).getD ([],[])).fst ((tw a b c d).getD ([],[])).snd t
def DW(a b c d:LA)(t:Int):=mS ((tA a b c d).getD ([],[])).fst ((tA a b c d).getD ([],[])).snd t
def HA(a b:LA)(t:Int):=mS ((qY a b).getD ([],[])).fst ((qY a b).getD ([],[])).snd t
def DZ(a b c d:LA)(t:Int):=Rc (xl a b t) (xn a b t) ((mS c d t).getD ([],[])).fst ((mS c d t).getD ([],[])).snd
def D0(a b c d:LA)(t:Int):=Rj (xl a b t) (xn a b t) ((mS c d t).getD ([],[])).fst ((mS c d t).getD ([],[])).snd
def D1(a b c d:LA)(t:Int):=PM (xl a b t) (xn a b t) ((mS c d t).getD ([],[])).fst ((mS c d t).getD ([],[])).snd
def Oy(a b:LA)(t:Int):=(JO (xl a b t) (xn a b t)).getD ([],[])
def Oz(a b:LA)(t:Int):=(HA a b t).getD ([],[])
def Hy(a b:LA)(t:Int):=Cd (Oz a b t).fst (Oz a b t).snd (Oy a b t).fst (Oy a b t).snd
def Hv(a b c d:LA)(t:Int):=Cd ((DU a b c d t).getD ([],[])).fst ((DU a b c d t).getD ([],[])).snd ((DZ a b c d t).getD ([],[])).fst ((DZ a b c d t).getD ([],[])).snd
def Hw(a b c d:LA)(t:Int):=Cd ((DW a b c d t).getD ([],[])).fst ((DW a b c d t).getD ([],[])).snd ((D0 a b c d t).getD ([],[])).fst ((D0 a b c d t).getD ([],[])).snd
def Hx(a b c d:LA)(t:Int):=Cd ((DV a b c d t).getD ([],[])).fst ((DV a b c d t).getD ([],[])).snd ((D1 a b c d t).getD ([],[])).fst ((D1 a b c d t).getD ([],[])).snd
def OD{T:Type}(a b c d:LA)(t:Int)(δ:T)(κ:Bool->T):T:=br ((KF a b c d).isSome) (br (!(KF a b c d).getD false) (br (Cg.isSome) (κ (Cg.getD false)) δ) (br ((mS a b t).isSome) (br ((mS c d t).isSome) (br ((tC a b c d).isSome) (br ((tA a b c d).isSome) (br ((tw a b c d).isSome) (br ((qY a b).isSome) (br ((rN ((tC a b c d).getD ([],[])).snd).isSome) (br (!(rN ((tC a b c d).getD ([],[])).snd).getD false) (κ (false)) (br ((rN ((tA a b c d).getD ([],[])).snd).isSome) (br (!(rN ((tA a b c d).getD ([],[])).snd).getD false) (κ (false)) (br ((rN ((tw a b c d).getD ([],[])).snd).isSome) (br (!(rN ((tw a b c d).getD ([],[])).snd).getD false) (κ (false)) (br ((rN ((qY a b).getD ([],[])).snd).isSome) (br (!(rN ((qY a b).getD ([],[])).snd).getD false) (κ (false)) (br ((DU a b c d t).isSome) (br ((DZ a b c d t).isSome) (br ((Hv a b c d t).isSome) (br ((Hv a b c d t).getD false) (br ((DW a b c d t).isSome) (br ((D0 a b c d t).isSome) (br ((Hw a b c d t).isSome) (br ((Hw a b c d t).getD false) (br ((DV a b c d t).isSome) (br ((D1 a b c d t).isSome) (br ((Hx a b c d t).isSome) (br ((Hx a b c d t).getD false) (br ((HA a b t).isSome) (br ((JO (xl a b t) (xn a b t)).isSome) (br ((Hy a b t).isSome) (br ((Hy a b t).getD false) (br (Cg.isSome) (κ (Cg.getD false)) δ) (κ (false))) δ) δ) δ) (κ (false))) δ) δ) δ) (κ (false))) δ) δ) δ) (κ (false))) δ) δ) δ)) δ)) δ)) δ)) δ) δ) δ) δ) δ) δ) δ)) δ
def OH(a b c d:LA)(t:Int):=OD a b c d t none some
def xs0:LA->Option (Bool×AV):=yT (u3 (fP (u2 (uL 1) (uL 3))) (fP (u2 (uL 1) (uL 3))) uI) (λ((a,b,_),(c,d,_),t,_) _=>OD a b c d t) (λ _ p=>AV.bool p) false
def xsx:ga P0 xQa 5 xs0:=yS LU.ok Tryz.func5 93 0 [] [] lk0
end Go.Sim.M
end
