/- Part 15 of the proof of the law. -/
import Derived.Test.YtodofdnlhoknhaaGreatDoorTC14
import Derived.Maps.RangeRun
set_option linter.defProp false
set_option linter.unusedVariables false
set_option linter.unusedSimpArgs false
set_option linter.unnecessarySimpa false
noncomputable section
namespace Go.Sim
open Go.RowKit
variable {A':Nat->Prop}{H:List aC}{M M':Id->Option MB}{n:Nat}{w':World}
def Ev.mv{w:World}{A:Nat->Prop}{B:Nat}{av df:Nat->Prop}(hR:HR w A M B H)(he:Ev ⟨av,w,A,M,n,df⟩ w' A' M')(hn:H.length<=n):Mv w A M w' A' M':=
 ⟨he.size,fun b hb hA=>he.keep b hb (.inl hA),he.less,he.more,fun id m hm=>he.ids id m (by
  obtain ⟨bx,h1,_⟩:=hR.box id m hm;exact Nat.lt_of_lt_of_le (vG h1) hn) hm,⟨fun b hb q=>he.keep b hb (.inr q),he.src⟩⟩
variable {A0:Cx}{a:Act}{s:St}{w0:World}
def SR.grow{w:World}{A:Nat->Prop}(h:SR w0 A0 w A M s a)(hb:Below w.heap.size w w'):SR w0 A0 w' A M s a:=⟨h.base.trans (hb.mono h.base.size),h.outer,h.size,λ t ht=>(h.tmps t ht).grow hb,h.heap.grow hb,h.defers.same λ D hD=>hb.block D (vJ hD),h.ev.step ⟨hb.size,λ b q _=>hb.block b q,λ _ _ h=>h,λ _ _ h _=>h,aR.refl M,.of_new hb λ _ _ h=>.inl h⟩⟩
def SR.door{w:World}{A:Nat->Prop}(h:SR w0 A0 w A M s a)(n:Nat):SR w0 ⟨A0.av,w,A,M,n,λ D=>A0.df D\/A0.w1.heap.size<=D⟩ w A M s a:=
 ⟨h.base,h.outer,h.size,h.tmps,h.heap,by
  obtain ⟨L,e1,e2,e3⟩:=h.defers;exact ⟨L,e1,e2,fun D hD=>⟨(e3 D hD).1,.inl (e3 D hD).2.1,(e3 D hD).2.2⟩⟩,Ev.refl (C:=⟨A0.av,w,A,M,n,_⟩)⟩
def SR.undoor{w:World}{A:Nat->Prop}{s':St}{a':Act}(h:SR w0 A0 w A M s a)(hn:s.heap.length<=n)(h':SR w0 ⟨A0.av,w,A,M,n,λ D=>A0.df D\/A0.w1.heap.size<=D⟩ w' A' M' s' a'):SR w0 A0 w' A' M' s' a'/\Mv w A M w' A' M':=by have q:=h'.ev.mv h.heap hn;refine⟨⟨h'.base,h'.outer,h'.size,h'.tmps,h'.heap,?_,h.ev.step q⟩,q⟩;obtain⟨L,e1,e2,e3⟩:=h'.defers;refine⟨L,e1,e2,λ D hD=>⟨(e3 D hD).1,?_,(e3 D hD).2.2⟩⟩;rcases(e3 D hD).2.1 with h1|h1;exact h1;exact .inr (Nat.le_trans h.ev.size h1)
structure se (w:World) (A:Nat->Prop) (M:Id->Option MB) (r bm:Nat) (e1 es:Array MapEntry) (clock:Nat) (seen:Array Nat) (kv:List (List UInt8×AV)) (done:List Nat):Prop where
 it:w.heap[r]?=some (.mapIter (some bm) clock seen clock)
 map:w.heap[bm]?=some (.map e1 clock)
 av:¬ A bm
 perm:oL e1 es clock
 size:es.size=kv.length
 keys:∀(i:Nat)(x:MapEntry),es[i]?=some x->∃t:ByteArray,x.key=.string t/\(kv.getD i ([],.top)).1=t.data.toList
 vals:∀(i:Nat)(x:MapEntry),es[i]?=some x->aD w A M x.val (kv.getD i ([],.top)).2
 seen:∀(i:Nat)(x:MapEntry),es[i]?=some x->(seen.contains x.born=true↔i∈done)
 nodup:done.Nodup
 lt:∀i,i∈done->i<kv.length
section
variable{P:Program}{w w':World}{A A':Nat->Prop}{M M':Id->Option MB}{r bm clock B:Nat}{e1 es:Array MapEntry}{seen:Array Nat}{kv:List (List UInt8 × AV)}{done:List Nat}{H:List aC}
def se.mv(h:se w A M r bm e1 es clock seen kv done)(hR:HR w A M B H)(hm:Mv w A M w' A' M'):se w' A' M' r bm e1 es clock seen kv done:=⟨(hm.touch.1 r (vJ h.it) (hR.not_box h.it Ψ Ψ)).trans h.it,(hm.keep bm (vJ h.map) h.av).trans h.map,λ hA=>h.av (hm.less bm (vJ h.map) hA),h.perm,h.size,h.keys,λ i x hx=>hm.rel (h.vals i x hx),h.seen,h.nodup,h.lt⟩
def getElem?_ext_lt{α:Type}{es:Array α}{i:Nat}{x:α}(h:es[i]?=some x):i<es.size:=by rcases zJ i es.size with h'|h';exact h';rw[Array.getElem?_eq_none h']at h;simp at h
def se.next(h:se w A M r bm e1 es clock seen kv done)(ty:TypeId):(done.Perm (List.range kv.length)/\(Instr.next (.pointer (some ⟨r,0,none⟩)) false ty).run P w=.ok (.tuple #[.bool false]) w) \/ ∃(i:Nat)(e:MapEntry)(w1:World)(q:Array Nat),i<kv.length/\i∉done/\es[i]?=some e/\Below w.heap.size w w1/\(∀a u,w.cell? a=some u->w1.cell? a=some u)/\w1.heap[r]?=some (.mapIter (some bm) clock seen clock)/\(Instr.next (.pointer (some ⟨r,0,none⟩)) false ty).run P w=.ok (.tuple #[.bool true,e.key,e.val]) (w1.putObj r (.mapIter (some bm) clock q clock))/\se (w1.putObj r (.mapIter (some bm) clock q clock)) A M r bm e1 es clock q kv (done++[i])/\(∀w2 A2 M2,se w2 A2 M2 r bm e1 es clock q kv (done++[i])->(Instr.entry (.pointer (some ⟨r,0,none⟩))).run P w2=.ok (.tuple #[e.key,e.val]) w2)/\(leftOf e1 q).size<(leftOf e1 seen).size:=by
 obtain⟨hp,Y,aa⟩:=h.perm;have ad:(e1.toList.map (·.born)).Nodup:=((hp.map _).nodup_iff).2 aa;have Q:∀i x,es[i]?=some x->i<kv.length:=λ i x hx=>by rw[<-h.size];exact getElem?_ext_lt hx
 rcases run_next_at (P:=P) w ty r bm clock clock seen e1 clock h.it h.map (λ x hx=>Y x (hp.mem_iff.1 hx)) (zd _)with⟨h0,J⟩|⟨e,he,w1,O,J⟩;refine .inl ⟨?_,J⟩;refine(List.perm_ext_iff_of_nodup h.nodup List.nodup_range).2 λ i=>⟨λ hi=>List.mem_range.2 (h.lt i hi),λ hi=>?_⟩;have hi':i<es.size:=by rw[h.size];exact List.mem_range.1 hi
 have hx:es[i]?=some es[i]:=by simp[hi']
 exact(h.seen i _ hx).1 (all_seen e1 seen h0 _ (hp.mem_iff.2 Ψ));obtain⟨Z,ac⟩:=mem_left he;obtain⟨i,hi⟩:=List.mem_iff_getElem?.1 (hp.mem_iff.1 Z);have hi:es[i]?=some e:=by simpa using hi
 have hb:Below w.heap.size w w1:=by rcases O with rfl|rfl;exact Below.refl _ _;exact⟨rfl,rfl,rfl,zd _,λ _ _=>rfl⟩
 have hc:∀a u,w.cell? a=some u->w1.cell? a=some u:=λ a u hu=>by rcases O with rfl|rfl<;>exact hu
 have hsz:w1.heap.size=w.heap.size:=by rcases O with rfl|rfl<;>rfl
 have W:w1.heap[r]?=some (.mapIter (some bm) clock seen clock):=by rcases O with rfl|rfl<;>exact h.it
 have ag:w1.heap[bm]?=some (.map e1 clock):=by rcases O with rfl|rfl<;>exact h.map
 have hne:bm≠r:=λ e=>by have:=h.map;rw[e,h.it]at this;simp at this
 have V:i∉done:=λ hd=>by rw[(h.seen i e hi).2 hd]at ac;cases ac
 have af:(w1.putObj r (.mapIter (some bm) clock (seen.push e.born) clock)).heap[bm]?=some (.map e1 clock):=(World.putObj_heap_other hne).trans ag;have ae:(w1.putObj r (.mapIter (some bm) clock (seen.push e.born) clock)).heap[r]?=some (.mapIter (some bm) clock (seen.push e.born) clock):=World.putObj_heap_same (vJ W);refine .inr ⟨i,e,w1,seen.push e.born,Q i e hi,V,hi,hb,hc,W,J,⟨ae,af,h.av,h.perm,h.size,h.keys,λ k x hx=>?_,λ k x hx=>?_,?_,λ k hk=>?_⟩,λ w2 A2 M2 h2=>run_entry_at _ r bm clock seen e1 clock e h2.it h2.map Z ad,left_shrinks e1 seen e he⟩;exact((h.vals k x hx).grow hb).turn Ψ (Qo W ⟨by simp,by simp⟩);rw[contains_push,Bool.or_eq_true,h.seen k x hx,zG,zv,beq_iff_eq];constructor;rintro(h1|h1);exact .inl h1;right;have hk:=getElem?_ext_lt hx;have ab:=getElem?_ext_lt hi;have e3:es[k]=x:=by simpa[hk]using hx
 have e4:es[i]=e:=by simpa[ab]using hi
 have:=(List.getElem_inj (i:=k) (j:=i) (h₀:=by simpa using hk) (h₁:=by simpa using ab) aa).1 (by simp[e3,e4,h1]);exact this;rintro(h1|rfl);exact .inl h1;right;rw[hi]at hx;simp only[z6]at hx;rw[hx];rw[List.nodup_append];exact⟨h.nodup,by simp,λ a ha c hc=>by simp only[zv]at hc;rintro rfl;exact V (hc▸ha)⟩;rcases zG.1 hk with hk|hk;exact h.lt k hk;simp only[zv]at hk;subst hk;exact Q k e hi
end
def jD{σ ρ:Type}(step:σ->Nat->σ⊕ρ):σ⊕ρ->Nat->σ⊕ρ|.inl s,x=>step s x|.inr r,_=>.inr r
def Tg{σ ρ:Type}(step:σ->Nat->σ⊕ρ)(r:ρ):∀l:List Nat,l.foldl (jD step) (.inr r)=.inr r|[]=>rfl|x::l=>by simp only[List.foldl_cons,jD];exact Tg step r l
variable {P:Program}
def xyW{ro:Option Nat}{c:Code}{Qc:Exit->Act->World->Prop}(I:Nat->Act->World->Prop)(J:∀n a w,I n a w->c.wpIn (cP ro) 0 P (λ e a' w'=>match e with|.normal=>∃n',n'<n/\I n' a' w'|e=>Qc e a' w') a w)(n:Nat)(a:Act)(w:World)(h:I n a w):(Code.loop c).wpIn (cP ro) 0 P Qc a w:=by(intro b k cs hb _ _;have hb:b.roundOf=ro:=hb;subst hb;have key:∀n a w,I n a w->∃e a' w',Qc e a' w'/\ArrivesIn (Machine.fenced P (cP b.roundOf)) P (lone (b.atR a (.code c::.inLoop c::k)) cs w) b k cs e a' w':=by intro n;induction n using Nat.strongRecOn with|_ n ih=>intro a w hI;obtain⟨e,a₁,w₁,hq,q⟩:=J n a w hI b (.inLoop c::k) cs rfl (RL _ _) (QK _ _);cases e with|normal=>(obtain⟨n',k1,k2⟩:=hq;obtain⟨e₂,a₂,w₂,Q,O⟩:=ih n' k1 a₁ w₁ k2;exact⟨e₂,a₂,w₂,Q,.of_steps (StepsIn.trans q (.one (Ca _ P _) stepR_inLoop)) O⟩)|exit id=>exact⟨_,a₁,w₁,hq,.pass (x:=.inLoop c) rfl (λ _ _=>.inl Ψ) q⟩|goto l=>exact⟨_,a₁,w₁,hq,.pass (x:=.inLoop c) rfl (λ _ _=>.inl Ψ) q⟩|ret=>exact⟨_,a₁,w₁,hq,.pass (x:=.inLoop c) rfl (λ _ _=>.inl Ψ) q⟩|panic ch=>exact⟨_,a₁,w₁,hq,.pass (x:=.inLoop c) rfl (λ _ _=>.inl Ψ) q⟩|outgrown=>exact⟨_,a₁,w₁,hq,.pass (x:=.inLoop c) rfl (λ _ _=>.inl Ψ) q⟩);obtain⟨e,a',w',hq,q⟩:=key n a w h;exact⟨e,a',w',hq,.of_steps (.one (Ca _ P _) stepR_loop) q⟩
variable {Inv:IV}{ops:Array Oper}
def tz(Y:bO Inv)(hI:Inv w0){Q:Exit->Act->World->Prop}{rest:List Oper}{l:List Oper}{s':St}(hp:dV (iA P Inv) ops l s s'):∀{w:World}{A:Nat->Prop}{M:Id->Option MB}{a:Act},SR w0 A0 w A M s a->(∀a' w' A' M',SR w0 A0 w' A' M' s' a'->Mv w A M w' A' M'->wpList P ops Q rest a' w')->wpList P ops Q (l++rest) a w:=by induction hp with|nil s=>intro w A M a hs hK;exact hK a w A M hs Mv.refl|run hw h hr ih=>intro w A M a hs hK;have J:=vj (w:=w) (A:=A) (M:=M) hs.size (λ j O d _ _ q=>hs.tmps d q) hw;rw[List.cons_append];unfold wpList;rw[if_pos J];exact .inl (vz Y hI h hs λ v w' A' M' V W=>ih V λ a2 w2 A2 M2 h2 m2=>hK a2 w2 A2 M2 h2 (W.trans m2))|skip hw hr ih=>intro w A M a hs hK;have J:=vj (w:=w) (A:=A) (M:=M) hs.size (λ j O d _ _ q=>hs.tmps d q) hw;rw[List.cons_append];unfold wpList;rw[if_neg (by rw[J];simp)];exact ih (hs.skip _) λ a2 w2 A2 M2 h2 m2=>hK a2 w2 A2 M2 h2 m2
def fe(bx:aC)(k:Nat):List UInt8:=match (bx.xs.getD k .top).cells.getD 0 .top with|.str s=>s|_=>[]
def fX(nb:Nat)(bx:aC)(k:Nat):AV:=fw nb k 1 bx.ty ((bx.xs.getD k .top).cells.getD 1 .top)
def oX(nb:Nat)(bx:aC):List (List UInt8×AV):=(List.range bx.xs.length).map λ k=>(fe bx k,fX nb bx k)
def ET(nb:Nat)(bx:aC):(oX nb bx).length=bx.xs.length:=by simp[oX]
def Kf{nb:Nat}{bx:aC}{k:Nat}(h:k<bx.xs.length):(oX nb bx).getD k ([],.top)=(fe bx k,fX nb bx k):=by simp[oX,z7,h]
def lJ(i9:Nat)(J:Array Oper)(ex i0:Nat)(q:Array Oper)(tb:Tmp)(ib i1:Nat)(Q:Array Oper)(O:Code):Code:=.seq (.region i9 J false) (.block ex (.loop (.seq (.region i0 q false) (.seq (.cond (.tmp tb) .skip (.exit ex)) (.block ib (.seq (.region i1 Q false) O))))))
def qA(Lr:List AV)(tn tb te:Tmp)(k:List UInt8)(v:AV):List AV:=((Lr.set tn (.tuple [.bool true,.str k,v])).set tb (.bool true)).set te (.tuple [.str k,v])
section
variable{P:Program}{w:World}{A:Nat->Prop}{M:Id->Option MB}{B:Nat}{H:List aC}
variable {i j n:Nat}{v:Value}
def xH4(hR:HR w A M B H){ver:Nat}{bx:aC}(h:aD w A M v (.own (.b n) ver i j))(O:H[n]?=some bx)(J:bx.ver=ver)(Q:dy bx.ty):∃m,M (.b n)=some m/\BoxAt w A M B (.b n) m bx/\v=.map (some m.b)/\0<m.cap:=by(obtain⟨m,hm,hv,h1,he⟩:=aD.own_inv h;obtain⟨bx',h2,h3⟩:=hR.box _ m hm;rw[iN,O]at h2;cases h2;refine⟨m,hm,h3,?_⟩;have q:dy m.ty:=by rw[<-h3.ty];exact JB Q);have h0:=he (by rw[<-J,h3.ver]);unfold fD at h0;rw[q]at h0;cases hc:m.cap with|zero=>rw[hc]at h0;simp only at h0;rw[h0]at h1;cases h1|succ k=>rw[hc]at h0;exact⟨h0,Nat.succ_pos k⟩
def xGr(hR:HR w A M B H){ver:Nat}{bx:aC}(h:aD w A M v (.own (.b n) ver i j))(ae:H[n]?=some bx)(ac:bx.ver=ver)(Y:dy bx.ty)(ad:db bx.ty 0=false)(ab:bx.sz=2)(aa:bx.pm)(af:bx.frz){t kt et:TypeId}(Z:P.underlying t=some (.map kt et)):∃bm e1 es clock,(Instr.range t v).run P w=.ok (.pointer (some ⟨w.heap.size,0,none⟩)) (w.alloc (.mapIter (some bm) clock #[] clock))/\se (w.alloc (.mapIter (some bm) clock #[] clock)) A M w.heap.size bm e1 es clock #[] (oX n bx) []:=by(obtain⟨m,hm,J,rfl,hcap⟩:=xH4 hR h ae ac Y;obtain⟨es,clock,q,_,Q⟩:=J.mapKs Y ad ab aa hcap;obtain⟨e1,V,hP⟩:=q.heap;have O:=u0 w (.mapIter (some m.b) clock #[] clock);have W:∀k x,es[k]?=some x->k<bx.xs.length:=λ k x hx=>by rw[<-q.size];exact getElem?_ext_lt hx);refine⟨m.b,e1,es,clock,run_range_map w t kt et m.b e1 clock Z V,heap_alloc_new w _,(O.block _ (vJ V)).trans V,λ hA=>?_,hP,by rw[q.size,ET],λ k x hx=>?_,λ k x hx=>?_,λ k x _=>by simp,List.nodup_nil,by simp⟩;have:=(J.guard hcap).2 hA;rw[af]at this;cases this;obtain⟨t,h1,h2,_⟩:=q.keys k x hx;refine⟨t,h1,?_⟩;rw[Kf (W k x hx)];show fe bx k=_;unfold fe;rw[h2];rw[Kf (W k x hx)];exact((Q k x hx).unmv).grow O
end
def xz0{l:List Nat}(hn:l.Nodup)(hl:∀i,i∈l->i<n):∃l',(l++l').Perm (List.range n):=by refine⟨(List.range n).filter λ i=>!l.contains i,(List.perm_ext_iff_of_nodup ?_ List.nodup_range).2 λ i=>?_⟩;rw[List.nodup_append];refine⟨hn,List.nodup_range.filter _,λ a ha b hb=>?_⟩;rintro rfl;have:=(List.mem_filter.1 hb).2;simp[ha]at this;rw[zG,List.mem_filter,List.mem_range];constructor;rintro(h|h);exact hl i h;exact h.1;intro h;by_cases hi:i∈l;exact .inl hi;exact .inr ⟨h,by simp[hi]⟩
def xCC(ax:bO Inv){σ ρ:Type}{i9 ex i0 ib i1:Nat}{ae ak af:Array Oper}{a8:Code}{pre exts:List Oper}{o9 o0 o1 oe:Oper}{it tn tb te:Tmp}{tyM kt et:TypeId}{mo:Operand}
  (bi:ae.toList=pre++[o9]) (cc:aN ae) (c5:o9.op=.range tyM mo) (c7:o9.dst=some it) (c6:o9.guard=none) (ct:P.underlying tyM=some (.map kt et))
  (bn:ak.toList=[o0,o1]) (b0:aN ak) (bw:o0.op=.next (.tmp it) false) (cf:o0.dst=some tn) (cp:o0.guard=none) (cd:o1.op=.extract (.tmp tn) 0) (cb:o1.dst=some tb) (b4:o1.guard=none)
  (bk:af.toList=oe::exts) (ch:aN af) (c3:oe.op=.entry (.tmp it)) (cy:oe.dst=some te) (c4:oe.guard=none)
  (cm:it≠tn) (ck:it≠tb) (c9:tn≠tb)
  {s1:St} (cl:dV (iA P Inv) ae pre s s1) {nb ver i j:Nat} (hm:s1.eval mo=.own (.b nb) ver i j) {bx:aC} (hb:(freeze s1.heap [nb])[nb]?=some bx) (b3:bx.ver=ver) (c0:dy bx.ty) (h0:db bx.ty 0=false) (hsz:bx.sz=2) (co:bx.pm) (cw:bx.frz) (cv:(freeze s1.heap [nb]).length<=n) (Lf:σ->Nat->List AV) (Hf:σ->List aC) (Lo:ρ->List AV) (Ho:ρ->List aC) (step:σ->Nat->σ⊕ρ) (s0:σ)
  (a4:∀s,(Hf s).length<=n) (a6:∀s r,(Lf s r)[it]?=some (.gptr r)) (bz:∀s r,tn<(Lf s r).length) (b2:∀s r,tb<(Lf s r).length)
  (be:∀r,dx n ⟨s1.tmps.set it (.gptr r),freeze s1.heap [nb]⟩ ⟨Lf s0 r,Hf s0⟩)
  (au:∀ (r:Nat) (done:List Nat) (s:σ) (k:Nat),k<bx.xs.length->k∉done->done.Nodup->(∀ i,i∈done->i<bx.xs.length)->done.foldl (jD step) (.inl s0)=.inl s->∃ s2,dV (iA P ⟨Inv.inv,n,Inv.top⟩) af exts ⟨qA (Lf s r) tn tb te (fe bx k) (fX nb bx k),Hf s⟩ s2 /\
   bK P ⟨Inv.inv,n,Inv.top⟩ a8 (fun e s'=>match step s k with
    |.inl s3=>e=.normal/\dx n s' ⟨Lf s3 r,Hf s3⟩
    |.inr q=>e=.ret/\dx n s' ⟨Lo q,Ho q⟩) s2) :
  bK P Inv (lJ i9 ae ex i0 ak tb ib i1 af a8) (fun e s'=>∃ ord:List Nat,ord.Perm (List.range bx.xs.length)/\match ord.foldl (jD step) (.inl s0) with
   |.inl s=>e=.normal/\∃r,s'=⟨((Lf s r).set tn (.tuple [.bool false])).set tb (.bool false),Hf s⟩
   |.inr q=>e=.ret/\s'=⟨Lo q,Ho q⟩) s:=by
 intro w0 A0 w A M a Qc hI c8 hs hQ ro cr;unfold lJ;refine wpIn_seq (wpIn_region_list (pK ro 0 _ (rg cc) _ _ ?_));rw[bi];refine tz ax hI cl hs λ a1 w1 A1 M1 a0 b8=>wpList_plain c6 λ K hK=>?_
 obtain⟨A2,ar,b5⟩:=a0.refreeze (bU.freeze s1.heap [nb]);have bo:=ar.eval mo;rw[show St.eval ⟨s1.tmps,freeze s1.heap [nb]⟩ mo=s1.eval mo from by cases mo<;>rfl,hm]at bo
 obtain⟨bm,e1,es,clock,J,V⟩:=xGr ar.heap bo hb b3 c0 h0 hsz co cw ct;obtain⟨w3,bu⟩:∃w3,w3=w1.alloc (.mapIter (some bm) clock #[] clock):=⟨_,rfl⟩;rw[<-bu]at J V;have am:Below w1.heap.size w1 w3:=by rw[bu];exact u0 w1 _
 obtain⟨r,hr⟩:∃r,r=w1.heap.size:=⟨_,rfl⟩;rw[<-hr]at J V;have Q:=ar.grow am;have Q:=Q.put (d:=some it) Q.base Q.outer Mv.refl Q.heap (aD.gptr (w:=w3) (A:=A2) (M:=M1) r);have c2:w0.heap.size<=r:=by rw[hr];exact a0.base.size
 have cu:A0.w1.heap.size<=r:=by rw[hr];exact a0.ev.size
 unfold Oper.wp;simp only[execOp,c5,J,Sem.run_bind,Result.andThen_ok,Sem.run_pure];show K (a1.put o9.dst (.pointer (some ⟨r,0,none⟩))) w3;rw[c7];refine hK _ _ ?_;obtain⟨A4,M4,az⟩:=be r w0 _ w3 A2 M1 _ (zd n) (Q.door n);obtain⟨az,bb⟩:=Q.undoor cv az;have ap:=V.mv Q.heap bb;refine wpIn_block ?_;refine xyW (λ N a' w'=>∃done s' A' M' seen,SR w0 A0 w' A' M' ⟨Lf s' r,Hf s'⟩ a'/\se w' A' M' r bm e1 es clock seen (oX nb bx) done/\done.foldl (jD step) (.inl s0)=.inl s'/\(leftOf e1 seen).size=N) ?_ _ _ _ ⟨[],s0,A4,M4,#[],az,ap,rfl,rfl⟩
 clear az ap bb V Q J am bu bo ar b5 hK a0 b8;rintro N a' w' ⟨done,s',A',M',seen,aj,an,Y,rfl⟩;have ci:a'.eval (.tmp it)=.pointer (some ⟨r,0,none⟩):=by
  have:=aj.eval (.tmp it);have e:St.eval ⟨Lf s' r,Hf s'⟩ (.tmp it)=.gptr r:=by show (Lf s' r).getD it .top=_;rw[z7,a6 s' r];rfl
  rw[e]at this;generalize a'.eval (.tmp it)=v at this;cases this;rfl
 refine wpIn_seq (wpIn_region_list (pK ro 0 _ (rg b0) _ _ ?_));rw[bn];refine wpList_plain cp λ K hK=>?_
 rcases an.next (P:=P) o0.type with⟨al,J⟩|⟨k,e,wd,ac,hk,ca,ce,cq,da,cg,J,ag,b9,b1⟩
 ·
  unfold Oper.wp;simp only[execOp,bw,ci,J,Sem.run_bind,Result.andThen_ok,Sem.run_pure];show K (a'.put o0.dst (.tuple #[.bool false])) w';rw[cf];refine hK _ _ (wpList_plain b4 λ K2 bv=>?_)
  have ai:=aj.put (d:=some tn) aj.base aj.outer Mv.refl aj.heap (aD.tuple (w:=w') (A:=A') (M:=M') #[.bool false] [.bool false] rfl (fun i hi=>by
   rcases i with _|i
   . exact .bool false
   . simp at hi))
  have bt:iA P Inv ⟨bB (Lf s' r) (some tn) (.tuple [.bool false]),Hf s'⟩ o1 ⟨bB (bB (Lf s' r) (some tn) (.tuple [.bool false])) o1.dst (.bool false),Hf s'++(none:Option aC).toList⟩:=by
   refine .inl (.inl ⟨.bool false,none,.inl ?_,rfl⟩);rw[cd];simp[e8,St.eval,bB,z7,bz s' r]
  refine vz ax hI bt ai λ v w6 A6 M6 ab _=>bv _ _ ?_
  rw[cb]at ab|-;simp only[Option.toList,zD,bB]at ab;have ao:(a'.put (some tn) (.tuple #[.bool false]) |>.put (some tb) v).eval (.tmp tb)=.bool false:=by
   have:=ab.eval (.tmp tb);have e:St.eval ⟨((Lf s' r).set tn (.tuple [.bool false])).set tb (.bool false),Hf s'⟩ (.tmp tb)=.bool false:=by simp[St.eval,z7,b2 s' r]
   rw[e]at this;exact this.bool_inv
  refine wpIn_seq (wpIn_cond_split ao (λ h=>by cases h) λ _=>wpIn_exit ?_)
  show Exit.inBlock ex Qc (.exit ex) _ _;simp only[Exit.inBlock,if_true];rw[ET]at al;exact hQ .normal _ _ _ ⟨done,al,by rw[Y];exact⟨rfl,r,rfl⟩⟩ ⟨A6,M6,ab⟩
 ·
  rw[ET]at hk;unfold Oper.wp;simp only[execOp,bw,ci,J,Sem.run_bind,Result.andThen_ok,Sem.run_pure];obtain⟨w5,bq⟩:∃w5,w5=wd.putObj r (.mapIter (some bm) clock ac clock):=⟨_,rfl⟩;rw[<-bq]at ag;show K (a'.put o0.dst (.tuple #[.bool true,e.key,e.val])) (wd.putObj r (.mapIter (some bm) clock ac clock));rw[<-bq,cf];refine hK _ _ (wpList_plain b4 λ K2 bv=>?_)
  have b6:=aj.grow cq;have ai:SR w0 A0 w5 A' M' ⟨Lf s' r,Hf s'⟩ a':=by
   rw[bq];exact b6.turn (ds:=a'.defers) cg ⟨by simp,by simp⟩ c2 cu _ (b6.defers.same λ D hD=>World.putObj_heap_other (λ e=>by rw[e,cg]at hD;simp at hD))
  obtain⟨tk,ba,W⟩:=ag.keys k e ce;rw[Kf hk]at W;have ah:=ag.vals k e ce;rw[Kf hk]at ah;simp only at W ah;have cn:aD w5 A' M' e.key (.str (fe bx k)):=by rw[ba,W];exact .str tk
  have ab:=ai.put (d:=some tn) ai.base ai.outer Mv.refl ai.heap (aD.tuple (w:=w5) (A:=A') (M:=M') #[.bool true,e.key,e.val] [.bool true,.str (fe bx k),fX nb bx k] rfl (fun i hi=>by
   rcases i with _|_|_|i
   . exact .bool true
   . exact cn
   . exact ah
   . simp at hi;omega))
  have bt:iA P Inv ⟨bB (Lf s' r) (some tn) (.tuple [.bool true,.str (fe bx k),fX nb bx k]),Hf s'⟩ o1 ⟨bB (bB (Lf s' r) (some tn) (.tuple [.bool true,.str (fe bx k),fX nb bx k])) o1.dst (.bool true),Hf s'++(none:Option aC).toList⟩:=by
   refine .inl (.inl ⟨.bool true,none,.inl ?_,rfl⟩);rw[cd];simp[e8,St.eval,bB,z7,bz s' r]
  refine vz ax hI bt ab λ v w7 A7 M7 Z a5=>bv _ _ ?_
  have ad:=ag.mv ab.heap a5;rw[cb]at Z|-;simp only[Option.toList,zD,bB]at Z;have ao:((a'.put (some tn) (.tuple #[.bool true,e.key,e.val])).put (some tb) v).eval (.tmp tb)=.bool true:=by
   have:=Z.eval (.tmp tb);have e:St.eval ⟨((Lf s' r).set tn (.tuple [.bool true,.str (fe bx k),fX nb bx k])).set tb (.bool true),Hf s'⟩ (.tmp tb)=.bool true:=by simp[St.eval,z7,b2 s' r]
   rw[e]at this;exact this.bool_inv
  refine wpIn_seq (wpIn_cond_split ao (λ _=>wpIn_skip ?_) (λ h=>by cases h))
  refine wpIn_block (wpIn_seq (wpIn_region_list (pK ro 0 _ (rg ch) _ _ ?_)));rw[bk];refine wpList_plain c4 λ K3 cx=>?_
  have a2:((a'.put (some tn) (.tuple #[.bool true,e.key,e.val])).put (some tb) v).eval (.tmp it)=.pointer (some ⟨r,0,none⟩):=by
   have:=Z.eval (.tmp it);have e:St.eval ⟨((Lf s' r).set tn (.tuple [.bool true,.str (fe bx k),fX nb bx k])).set tb (.bool true),Hf s'⟩ (.tmp it)=.gptr r:=by
    simp[St.eval,z7,List.getElem?_set,Ne.symm cm,Ne.symm ck,a6 s' r]
   rw[e]at this;generalize Act.eval _ (.tmp it)=u at this;cases this;rfl
  generalize ((a'.put (some tn) (.tuple #[.bool true,e.key,e.val])).put (some tb) v)=a7 at Z a2;have bc:=b9 w7 A7 M7 ad;unfold Oper.wp;simp only[execOp,c3,a2,bc,Sem.run_bind,Result.andThen_ok,Sem.run_pure];show K3 (a7.put oe.dst (.tuple #[e.key,e.val])) w7;rw[cy];refine cx _ _ ?_;have b7:aD w7 A7 M7 e.key (.str (fe bx k)):=by rw[ba,W];exact .str tk
  have bp:aD w7 A7 M7 e.val (fX nb bx k):=a5.rel ah;have ay:=Z.put (d:=some te) Z.base Z.outer Mv.refl Z.heap (aD.tuple (w:=w7) (A:=A7) (M:=M7) #[e.key,e.val] [.str (fe bx k),fX nb bx k] rfl (fun i hi=>by
   rcases i with _|_|i
   . exact b7
   . exact bp
   . simp at hi;omega))
  obtain⟨s2,cz,bj⟩:=au r done s' k hk ca an.nodup (λ i hi=>by have:=an.lt i hi;rwa [ET]at this) Y
  have bh:=ay.door n;refine ZL (Inv:=⟨Inv.inv,n,Inv.top⟩) ⟨ax.below⟩ hI cz bh λ a9 w9⟨A9,M9,hs9⟩=>?_
  refine bj w0 _ w9 A9 M9 a9 _ hI (zd n) hs9 ?_ ro cr;rintro ee ss aa ww hq ⟨A10,M10,a3⟩;cases aw:step s' k with
  |inl s3=>
   rw[aw]at hq;obtain⟨rfl,bf⟩:=hq;obtain⟨A11,M11,O⟩:=bf w0 _ ww A10 M10 aa (zd n) a3;obtain⟨O,aq⟩:=ay.undoor (a4 s') O;have bg:=ad.mv ay.heap aq;exact⟨_,b1,done++[k],s3,A11,M11,ac,O,bg,by rw[List.foldl_append,Y];exact aw,rfl⟩
  |inr q=>
   rw[aw]at hq;obtain⟨rfl,bf⟩:=hq;obtain⟨A11,M11,O⟩:=bf w0 _ ww A10 M10 aa (zd n) a3;obtain⟨O,aq⟩:=ay.undoor (a4 s') O;obtain⟨l',cj⟩:=xz0 ad.nodup ad.lt;rw[ET]at cj;refine hQ .ret _ _ _ ⟨(done++[k])++l',cj,?_⟩ ⟨A11,M11,O⟩;rw[List.foldl_append,List.foldl_append,Y];show match List.foldl (jD step) (step s' k) l' with|.inl _=>_|.inr _=>_
   rw[aw,Tg];exact⟨rfl,rfl⟩
section
variable{w:World}{A:Nat->Prop}{M:Id->Option MB}{B:Nat}{H:List aC}
end
def kz:Code->List Code|.seq a b=>(match n5 a with|true=>[.seq a b]|false=>kz a++kz b)|.block _ c=>kz c|.loop c=>kz c|.cond _ a b=>kz a++kz b|_=>[]
noncomputable def cC(fn:Func):Code:=(kz (fn.body.getD .skip)).getD 0 .skip
noncomputable def kx:Code->Code|.seq _ (.block _ (.loop (.seq _ (.seq _ (.block _ (.seq _ b))))))=>b|_=>.skip
noncomputable def d8:Code->Array Oper|.seq _ (.block _ (.loop (.seq _ (.seq _ (.block _ (.seq (.region _ ops _) _))))))=>ops|_=>#[]
def XM(P:Program)(E:dp)(ops:Array Oper)(q:Code)(live:List Nat)(ts:List AV)(H:List aC):Option (Exit×List AV×List aC):=cT P E none (some true) ops (ops.toList.drop 1) ⟨ts,H⟩ λ s1=>X P E none q s1 λ e2 s2=>match gx E.pin [] live s2 with|some (vs,H')=>jN vs λ vs=>kB H' λ H'=>br (Nat.beq s2.tmps.length E.nt) (some (e2,vs,H')) none|none=>none
def rY{E:dp}(J:dA P Inv E){l:List Oper}{T:Type}{r:T}{K:St->Option T}(h:cT P E none (some true) ops l s K=some r):∃s',dV (iA P Inv) ops l s s'/\K s'=some r:=by(have q:¬ (λ t:Option T=>t=some r) none:=by simp);have hA:∀o s(K:St->Option T),(λ t:Option T=>t=some r) (nV P E none (some true) o s K)->∃s1,iA P Inv s o s1/\(λ t:Option T=>t=some r) (K s1):=λ o s K h=>Mu (good:=λ t:Option T=>t=some r) q J h;exact vf (good:=λ t:Option T=>t=some r) q hA l s K h
def xJm{E:dp}(Y:P.follows .mixedOrders)(W:bO Inv)(J:Inv.pin=E.pin)(O:dA P Inv E){q:Code}(V:dw P Inv E q){live:List Nat}{ts vs:List AV}{H':List aC}{e0:Exit}(h:XM P E ops q live ts H=some (e0,vs,H')):∃s2,dV (iA P Inv) ops (ops.toList.drop 1) ⟨ts,H⟩ s2/\bK P Inv q (λ e s'=>e=e0/\dx Inv.pin s' ⟨aX E.nt (live.zip vs),H'⟩) s2:=by unfold XM at h;obtain⟨s2,h1,h2⟩:=rY O h;refine⟨s2,h1,l7 (oH (good:=λ t=>t=some (e0,vs,H')) Y W J Ψ O q _ _ V h2) λ e s' hq=>?_⟩;split at hq;(case h_2=>simp at hq);rename_i Z H1 Q;rw[kF,lO]at hq;obtain⟨h3,h4⟩:=jY (good:=λ t=>t=some (e0,vs,H')) Ψ hq;simp only[z6,zb]at h4;obtain⟨rfl,rfl,rfl⟩:=h4;have hw:=uW Q;rw[zg h3,<-J]at hw;exact⟨rfl,hw⟩
end Go.Sim
end
noncomputable section
set_option maxRecDepth 10000
namespace Go.Sim
open Go.RowKit
def MR(p:Id->Bool)(M:Id->Option MB):Id->Option MB:=λ id=>match p id with|true=>M id|false=>none
variable {M:Id->Option MB}{p:Id->Bool}
def rp{id:Id}{m:MB}(h:MR p M id=some m):p id/\M id=some m:=by unfold MR at h;cases hp:p id with|true=>rw[hp]at h;exact⟨rfl,h⟩|false=>rw[hp]at h;simp at h
def FL{id:Id}{m:MB}(hp:p id)(h:M id=some m):MR p M id=some m:=by unfold MR;rw[hp];exact h
mutual
def AV.inP(p:Id->Bool):AV->Bool|.agg cs=>AV.inPs p cs|.own id _ _ _=>p id|.osl id _ _ _=>p id|.func _ cs=>AV.inPs p cs|.tuple vs=>AV.inPs p vs|_=>true
def AV.inPs(p:Id->Bool):List AV->Bool|[]=>true|x::xs=>AV.inP p x&&AV.inPs p xs
end
variable {p:Id->Bool}
def Fi:∀{xs:List AV},AV.inPs p xs->∀i,AV.inP p (xs.getD i .top)=true|[],_,i=>by simp[AV.inP]|x::xs,h,i=>by rw[AV.inPs,zf]at h;cases i with|zero=>simpa using h.1|succ i=>simpa using Fi h.2 i
variable {M:Id->Option MB}
def aD.part{w:World}{A:Nat->Prop}{v:Value}{x:AV}(h:aD w A M v x)(p:Id->Bool)(hx:x.inP p):aD w A (MR p M) v x:=by induction h with|top v=>exact .top v|bool b=>exact .bool b|int k n=>exact .int k n|str s=>exact .str s|agg vs cs h hr ih=>exact .agg vs cs h λ i hi=>ih i hi (Fi (by simpa[AV.inP]using hx) i)|nils=>exact .nils|list0 a cap sz=>exact .list0 a cap sz|list b off cap sz xs val ha hb hne hcap hsz hcc hr ih=>exact .list b off cap sz xs val ha hb hne hcap hsz hcc hr|eptr b off sz xs i0 j0 val ha hb hi hsz hcc hr ih=>exact .eptr b off sz xs i0 j0 val ha hb hi hsz hcc hr|own v id ver i j m hm hv h1 he=>exact .own v id ver i j m (FL (by simpa[AV.inP]using hx) hm) hv h1 he|osl v id ver off len m hm hv h1 he=>exact .osl v id ver off len m (FL (by simpa[AV.inP]using hx) hm) hv h1 he|nilptr=>exact .nilptr|func f vs cs h hr hf ih=>exact .func f vs cs h (λ i hi=>ih i hi (Fi (by simpa[AV.inP]using hx) i)) hf|vptr b off v0 x ha hb hc hr ih=>exact .vptr b off v0 x ha hb hc (ih (by simpa[AV.inP,AV.inPs]using hx))|nilfn=>exact .nilfn|nmap=>exact .nmap|empt a=>exact .empt a|tuple vs cs h hr ih=>exact .tuple vs cs h λ i hi=>ih i hi (Fi (by simpa[AV.inP]using hx) i)|gptr g=>exact .gptr g|yld l=>exact .yld l
def iY(p:Id->Bool)(bx:aC):Bool:=match bx.pm with|true=>!(bW bx.ty&&!dy bx.ty)|false=>!(bW bx.ty)&&bx.xs.all λ x=>AV.inPs p x.cells
def xJB{bx:aC}{j:Nat}(hs:db bx.ty j=false):MV (MR p M) bx j=MR p (MV M bx j):=by unfold MV MP;rw[hs];cases bx.pm;rfl;funext id;unfold MR eF;cases p id<;>rfl
def BoxAt.part{w:World}{A:Nat->Prop}{B:Nat}{id:Id}{m:MB}{bx:aC}(h:BoxAt w A M B id m bx)(hp:iY p bx)(hs:∀j,j<bx.sz->db bx.ty j=false):BoxAt w A (MR p M) B id m bx:=by refine⟨h.ver,h.sz,h.ty,h.capm,h.fits,h.ok,h.low,h.lt,λ h0=>?_,h.guard⟩;obtain⟨c,h1,h2,h3⟩:=h.cells h0;refine⟨c,h1,h2,λ i j hi hj=>?_⟩;have h4:=h3 i j hi hj;replace hs:=hs j (by rw[h.sz];exact hj);rw[xJB hs];cases q:bx.pm with|true=>(have e:MV M bx j=eF:=by unfold MV MP;rw[hs,q]);(rw[e]at h4|-;have e2:MR p eF=eF:=by funext id;unfold MR eF;cases p id<;>rfl);rw[e2];exact h4|false=>(have e:MV M bx j=M:=by unfold MV MP;rw[hs,q]);(rw[e]at h4|-;have e3:fw id.base i j bx.ty ((bx.xs.getD i .top).cells.getD j .top)=(bx.xs.getD i .top).cells.getD j .top:=by unfold fw;rw[hs]);rw[e3]at h4|-;refine h4.part p (Fi ?_ j);unfold iY at hp;rw[q]at hp;simp only[zf,zI]at hp;refine hp.2 _ ?_;rw[z7,ze hi];exact zo hi
def pB(q:Nat->Bool):Id->Bool|.b n=>q n|.r _ _ _=>false
variable {H:List aC}{q:Nat->Bool}
def HR.part{w:World}{A:Nat->Prop}{B:Nat}(h:HR w A M B H)(hq:∀n bx,H[n]?=some bx->q n->iY (pB q) bx/\∀j,j<bx.sz->db bx.ty j=false):HR w A (MR (pB q) M) B H:=by refine⟨λ id m hm=>?_,λ id id' m m' h1 h2=>h.inj id id' m m' (rp h1).2 (rp h2).2,h.lt⟩;obtain⟨hp,hm⟩:=rp hm;obtain⟨bx,hb,J⟩:=h.box id m hm;refine⟨bx,hb,?_⟩;cases id with|r n i j=>simp[pB]at hp|b n=>obtain⟨h1,h2⟩:=hq n bx hb hp;exact J.part h1 h2
def HR.swap{w:World}{A:Nat->Prop}{B:Nat}{H':List aC}(h:HR w A (MR (pB q) M) B H)(hq:∀n,q n->H'[n]?=H[n]?):HR w A (MR (pB q) M) B H':=by refine⟨λ id m hm=>?_,h.inj,h.lt⟩;obtain⟨bx,hb,J⟩:=h.box id m hm;refine⟨bx,?_,J⟩;obtain⟨hp,_⟩:=rp hm;cases id with|r n i j=>simp[pB]at hp|b n=>show H'[n]?=some bx;rw[hq n hp];exact hb
def HR.apart{w w':World}{A A':Nat->Prop}{M' N:Id->Option MB}{B:Nat}(h:HR w A N B H)(hm:Mv w A M w' A' M')(O:∀b,A' b->b<w'.heap.size)(hd:∀id m id' m',N id=some m->0<m.cap->M id'=some m'->0<m'.cap->m.b≠m'.b):HR w' A' N B H:=by have J:∀id m,N id=some m->0<m.cap->∀id' m',M id'=some m'->0<m'.cap->m'.b≠m.b:=λ id m h1 h2 id' m' h3 h4 e=>hd id m id' m' h1 h2 h3 h4 e.symm;refine⟨λ id m hi=>?_,h.inj,O⟩;obtain⟨bx,hb,q⟩:=h.box id m hi;refine⟨bx,hb,q.mono (λ h0=>hm.touch.1 _ (q.lt h0) (J id m hi h0)) hm.keep hm.size hm.less (λ h0=>?_) (λ id m h=>⟨m,h,.inl rfl⟩)⟩;rw[q.guard h0];exact⟨λ ha=>hm.more _ (q.lt h0) ha (J id m hi h0),λ ha=>hm.less _ (q.lt h0) ha⟩
def MJ(M N:Id->Option MB):Id->Option MB:=λ id=>match id with|.b 0=>M id|.r _ _ _=>none|.b _=>N id
end Go.Sim
end
noncomputable section
set_option maxRecDepth 10000
namespace Go.Sim
open Go.RowKit
structure EntV where
 g:Nat
 row:List AV
 a:List AV
 b:List AV
 va:Nat
 vb:Nat
def EntV.E(e:EntV):aC:=⟨0,3,94,[.agg [.list 3 e.row,.osl (.b 2) e.va 0 e.a.length,.osl (.b 3) e.vb 0 e.b.length]],false,false⟩
def EntV.A(e:EntV):aC:=⟨e.va,3,100,e.a,false,true⟩
def EntV.B(e:EntV):aC:=⟨e.vb,3,100,e.b,false,true⟩
def q0(n:Nat):Bool:=Nat.beq n 0
def lH:Nat->Bool|1=>true|2=>true|3=>true|_=>false
def Cw:aC:=⟨0,0,0,[],false,true⟩
structure EntAt (w:World) (A:Nat->Prop) (B F:Nat) (e:EntV) (N:Id->Option MB):Prop where
 hr:HR w A N B [Cw,e.E,e.A,e.B]
 ids:∀id m,N id=some m->pB lH id
 one:∃m,N (.b 1)=some m/\0<m.cap/\m.b=e.g
 two:∃m,N (.b 2)=some m
 three:∃m,N (.b 3)=some m
 fresh:∀id m,N id=some m->0<m.cap->F<=m.b
def cD(M N:Id->Option MB):Prop:=∀id m id' m',M id=some m->0<m.cap->N id'=some m'->0<m'.cap->m.b≠m'.b
def cD.symm{M N:Id->Option MB}(h:cD M N):cD N M:=λ id m id' m' h1 h2 h3 h4 e=>h id' m' id m h3 h4 h1 h2 e.symm
section
variable{w w' w0:World}{A A':Nat->Prop}{M M' N:Id->Option MB}{B F:Nat}{e:EntV}{A0:Cx}{a:Act}
def EntAt.go(h:EntAt w A B F e N)(hm:Mv w A M w' A' M')(q:∀b,A' b->b<w'.heap.size)(hd:cD N M):EntAt w' A' B F e N:=⟨h.hr.apart hm q hd,h.ids,h.one,h.two,h.three,h.fresh⟩
def EntAt.lt(h:EntAt w A B F e N){id:Id}{m:MB}(hi:N id=some m)(h0:0<m.cap):m.b<w.heap.size:=by obtain⟨bx,_,hb⟩:=h.hr.box id m hi;exact hb.lt h0
def cD.go(h:EntAt w A B F e N)(hd:cD N M)(hm:Mv w A M w' A' M'):cD N M':=λ id m id' m' h1 h2 h3 h4 he=>by have q:=h.lt h1 h2;rcases hm.touch.2 id' m' h3 h4 with⟨i,m1,g1,g2,g3⟩|g;exact hd id m i m1 h1 h2 g1 g2 (by rw[he,g3]);omega
def EntAt.own(h:EntAt w A B F e N){v:Value}(hv:v=.pointer (some ⟨e.g,0,none⟩)):aD w A N v (.own (.b 1) 0 0 0):=by(obtain⟨m,h1,h2,h3⟩:=h.one;obtain⟨bx,hb,q⟩:=h.hr.box _ _ h1;obtain rfl:e.E=bx:=by simpa[getB]using hb);(have O:m.ver=0:=q.ver.symm;have J:dy m.ty=false:=by rw[<-q.ty];rfl);subst hv;refine .own _ (.b 1) 0 0 0 m h1 (zQ _) rfl λ _=>?_;unfold fD;rw[J,h3];simp
def FJ{id:Id}{m:MB}(h:MJ M N id=some m):(id=.b 0/\M id=some m)\/(∃k,id=.b (k+1)/\N id=some m):=by unfold MJ at h;split at h;exact .inl ⟨rfl,h⟩;simp at h;rename_i n hn;cases n with|zero=>exact absurd rfl hn|succ k=>exact .inr ⟨k,rfl,h⟩
def TA(hM:∀id m,M id=some m->pB q0 id):aR M (MJ M N):=λ id m h=>by refine⟨m,?_,.inl rfl⟩;have:=hM id m h;cases id with|r n i j=>simp[pB]at this|b n=>cases n with|zero=>exact h|succ k=>simp[pB,q0]at this
def TB(hN:∀id m,N id=some m->pB lH id):aR N (MJ M N):=λ id m h=>by refine⟨m,?_,.inl rfl⟩;have:=hN id m h;cases id with|r n i j=>simp[pB]at this|b n=>cases n with|zero=>simp[pB,lH]at this|succ k=>exact h
variable {b0:aC}
def HR.join(h0:HR w A M B [b0])(hM:∀id m,M id=some m->pB q0 id)(he:EntAt w A B F e N)(hd:cD N M):HR w A (MJ M N) B [b0,e.E,e.A,e.B]:=by refine⟨λ id m h=>?_,λ id id' m m' h h' c c' hb=>?_,h0.lt⟩;rcases FJ h with⟨rfl,h⟩|⟨k,rfl,h⟩;obtain⟨bx,hb,q⟩:=h0.box _ _ h;refine⟨bx,?_,q.mono (λ _=>rfl) (λ _ _ _=>rfl) (zd _) (λ _ _ h=>h) q.guard (TA hM)⟩;simpa[getB]using hb;obtain⟨bx,hb,q⟩:=he.hr.box _ _ h;refine⟨bx,?_,q.mono (λ _=>rfl) (λ _ _ _=>rfl) (zd _) (λ _ _ h=>h) q.guard (TB he.ids)⟩;simpa[getB]using hb;rcases FJ h with⟨rfl,h⟩|⟨k,rfl,h⟩<;>rcases FJ h' with⟨rfl,h'⟩|⟨k',rfl,h'⟩;rfl;exact absurd hb.symm (hd _ _ _ _ h' c' h c);exact absurd hb (hd _ _ _ _ h c h' c');exact he.hr.inj _ _ _ _ h h' c c' hb
variable {ts:List AV}
def SR.join(hs:SR w0 A0 w A M ⟨ts,[b0]⟩ a)(hM:∀id m,M id=some m->pB q0 id)(hp:A0.pin=0)(he:EntAt w A w0.heap.size A0.w1.heap.size e N)(hd:cD N M):SR w0 A0 w A (MJ M N) ⟨ts,[b0,e.E,e.A,e.B]⟩ a:=
 ⟨hs.base,hs.outer,hs.size,fun t ht=>(hs.tmps t ht).mono (fun _ _ _=>rfl) (zd _) (fun _ _ h=>h) (TA hM),hs.heap.join hM he hd,hs.defers,
  ⟨hs.ev.size,hs.ev.keep,hs.ev.less,hs.ev.more,fun id m h=>by rw [hp] at h;exact absurd h (Nat.not_lt_zero _),fun id m h h0=>by
   rcases FJ h with⟨rfl,h⟩|⟨k,rfl,h⟩
   . exact hs.ev.src _ _ h h0
   . exact .inr (he.fresh _ _ h h0)⟩⟩
def km(ts:List AV):List AV:=ts.map λ x=>match x.inP (pB q0)with|true=>x|false=>.top
def SR.cut{T:List aC}(hs:SR w0 A0 w A M ⟨ts,b0::T⟩ a)(hp:A0.pin=0)(h0:iY (pB q0) b0)(J:∀j,j<b0.sz->db b0.ty j=false):SR w0 A0 w A (MR (pB q0) M) ⟨km ts,[b0]⟩ a:=by
 refine⟨hs.base,hs.outer,by rw[hs.size];simp[km],λ t ht=>?_,?_,hs.defers,⟨hs.ev.size,hs.ev.keep,hs.ev.less,hs.ev.more,λ id m h=>by rw[hp]at h;exact absurd h (Nat.not_lt_zero _),λ id m h h0=>hs.ev.src _ _ (rp h).2 h0⟩⟩
 . have ht':t<ts.length:=by simpa[km]using ht
   have h1:=hs.tmps t ht';have e:(km ts).getD t .top=match (ts.getD t .top).inP (pB q0)with
    |true=>ts.getD t .top
    |false=>.top:=by
    unfold km;simp only[z7,List.getElem?_map,ze ht',Option.map_some,zh]
   show aD w A _ _ ((km ts).getD t .top);rw[e];cases hc:(ts.getD t .top).inP (pB q0)with
   |true=>exact h1.part _ hc
   |false=>exact .top _
 . refine(hs.heap.part (q:=q0) λ n bx hb hq=>?_).swap λ n hq=>?_
   . cases n with
     |succ n=>simp[q0]at hq
     |zero=>
      obtain rfl:b0=bx:=by simpa using hb
      exact⟨h0,J⟩
   . cases n with
     |succ n=>simp[q0]at hq
     |zero=>rfl
end
end Go.Sim
end
noncomputable section
set_option maxRecDepth 100000
namespace Go.Sim
open Go.RowKit
section
variable{P:Program}{Inv:IV}{w0 w:World}{A0:Cx}{A:Nat->Prop}{M:Id->Option MB}{a:Act}
def R6(q:bO Inv)(hI:Inv w0){ro:Option Nat}{id:Nat}{ops:Array Oper}{Q:Exit->Act->World->Prop}{s s':St}(J:aN ops)(hp:dV (iA P Inv) ops ops.toList s s')(hs:SR w0 A0 w A M s a)(hK:∀a' w' A' M',SR w0 A0 w' A' M' s' a'->Mv w A M w' A' M'->Q .normal a' w'):(Code.region id ops false).wpIn (cP ro) 0 P Q a w:=by refine wpIn_region_list (pK ro 0 _ (rg J) _ _ ?_);rw[<-zD ops.toList];exact tz q hI hp hs λ a' w' A' M' h1 h2=>wpList_nil (hK a' w' A' M' h1 h2)
end
end Go.Sim
namespace Go.Sim.M
open Go.RowKit Go.Proofs
noncomputable def ir:Code->Nat->Code|.region id ops d,n=>(match Nat.beq id n with|true=>.region id ops d|false=>.skip)|.seq a b,n=>(match ir a n with|.skip=>ir b n|c=>c)|.cond _ a b,n=>(match ir a n with|.skip=>ir b n|c=>c)|.block _ c,n=>ir c n|.loop c,n=>ir c n|_,_=>.skip
noncomputable def oc:Code->Array Oper|.region _ ops _=>ops|_=>#[]
noncomputable abbrev gB:Code:=Tryz.f105.body.getD .skip
noncomputable abbrev gO(n:Nat):Array Oper:=oc (ir gB n)
noncomputable abbrev EG:dp:=FK.E.fn 19 0 (eX [94]) (jL [])
def xMA:gB=.seq (.region 0 (gO 0) false) (.seq (.region 1 (gO 1) false) (.seq (.seq (.region 2 (gO 2) false) (.cond (.tmp 10) (.region 3 (gO 3) false) .skip)) (.seq (.region 4 (gO 4) false) .ret))):=Θ
noncomputable def mapB(ms:List AV):aC:=⟨0,2,dh 88,ms,false,true⟩
noncomputable def jJ(row:List AV):aC:=⟨0,3,94,[.agg [.list 3 row,.nils,.nils]],false,true⟩
def gT(row:List AV)(x:Nat->AV):List AV:=[.list 3 row,.func vpF [.own (.b 0) 0 0 0],x 2,x 3,x 4,x 5,x 6,x 7,x 8,x 9,x 10,x 11,x 12,x 13,x 14,x 15,x 16,x 17,x 18]
def gU:AV:=.tuple []
def t7(row:List AV):List AV:=gT row λ _=>gU
def xMI:aN (gO 0):=Θ
def xMJ:aN (gO 1):=Θ
def xMK:aN (gO 2):=Θ
def xML:aN (gO 3):=Θ
def xMM:aN (gO 4):=Θ
noncomputable def FV(row:List AV)(k:List UInt8):List AV:=((((t7 row).set 3 .nilptr).set 5 (.list 3 row)).set 6 (.str k)).set 4 (.str k)
def xNe(row ms:List AV):cT Tryz.prog EG none (some true) (gO 0) (gO 0).toList ⟨t7 row,[mapB ms]⟩ some=some ⟨(t7 row).set 3 .nilptr,[mapB ms]⟩:=Θ
def xNf(row ms:List AV):cT Tryz.prog EG none (some true) (gO 1) (gO 1).toList ⟨(t7 row).set 3 .nilptr,[mapB ms]⟩ some=br (iM row).isSome (some ⟨FV row ((iM row).getD []),[mapB ms]⟩) none:=Θ
def xMP(row ms:List AV)(k:List UInt8):cT Tryz.prog EG none (some true) (gO 2) ((gO 2).toList.take 2) ⟨FV row k,[mapB ms]⟩ some=some ⟨((FV row k).set 7 (.own (.b 0) 0 0 0)).set 8 (.str k),[mapB ms]⟩:=Θ
def xM7:(gO 2).toList=(gO 2).toList.take 2++[(gO 2).toList.getD 2 default,(gO 2).toList.getD 3 default]:=Θ
def xNa:((gO 2).toList.getD 2 default).op=.lookup 88 (.tmp 7) (.tmp 8) false:=Θ
def xM2:((gO 2).toList.getD 2 default).dst=some 9:=Θ
def xM4:((gO 2).toList.getD 2 default).guard=none:=Θ
def Wo:((gO 2).toList.getD 3 default).dst=some 10:=Θ
def xM5:((gO 2).toList.getD 3 default).guard=none:=Θ
def xNg:(bN Tryz.prog 90).map (·.zero)=some .nilptr:=Θ
def xNd:∃d,Tryz.prog.underlying 90=some (.pointer d):=⟨94,by kernel_rfl⟩
def MN:Tryz.prog.underlying 88=some (.map 9 90):=Θ
def Wt:Tryz.prog.underlying 9=some .string:=Θ
def ML:dy (dh 88):=Θ
def C7:db (dh 88) 0=false:=Θ
def C8:db (dh 88) 1=false:=Θ
variable {T:List aC}{k:List UInt8}{ms:List AV}{ρ:Operand->AV}
def Uk{t1 t2:Tmp}(h1:ρ (.tmp t1)=.own (.b 0) 0 0 0)(h2:ρ (.tmp t2)=.str k)(hk:k.length<=gb):nB Tryz.prog ρ (mapB ms::T) (.lookup 88 (.tmp t1) (.tmp t2) false)=some (eO .nilptr ms k,mapB ms::T):=by(obtain⟨e,he⟩:=xNd;have h7:bR (mapB ms::T) 0 0=some (mapB ms):=by unfold bR;show (if _ then _ else _)=_;rw[if_pos];exact⟨rfl,ML,C7,C8,rfl,rfl⟩);have q:=xNg;cases hd:bN Tryz.prog 90 with|none=>rw[hd]at q;simp at q|some d=>rw[hd]at q;simp only[Option.map_some,z6]at q;simp only[nB,h1,h2,bC,dg,MN,Wt,he,hd,h7,q,hk,if_true];rfl
def xJr(g:Nat)(w:World):(binOp .eql 90 (.pointer (some ⟨g,0,none⟩)) (.pointer none)).run Tryz.prog w=.ok (.bool false) w:=by rfl
def xHN(w:World):(binOp .eql 90 (.pointer none) (.pointer none)).run Tryz.prog w=.ok (.bool true) w:=by rfl
noncomputable def FW(row:List AV)(k:List UInt8):List AV:=((FV row k).set 7 (.own (.b 0) 0 0 0)).set 8 (.str k)
noncomputable def wq(row:List AV)(k:List UInt8)(x:AV)(b:Bool):List AV:=((FW row k).set 9 x).set 10 (.bool b)
noncomputable def Lq(row:List AV)(k:List UInt8):List AV:=(((((wq row k .nilptr true).set 11 (.own (.b 0) 0 0 0)).set 12 (.str k)).set 13 (.list 3 row)).set 14 (.agg [.list 3 row,.nils,.nils])).set 15 (.own (.b 1) 0 0 0)
def xMQ(row ms:List AV)(k:List UInt8):cT Tryz.prog EG none (some true) (gO 3) ((gO 3).toList.take 5) ⟨wq row k .nilptr true,[mapB ms]⟩ some=some ⟨Lq row k,[mapB ms,jJ row]⟩:=Θ
def xM8:(gO 3).toList=(gO 3).toList.take 5++[(gO 3).toList.getD 5 default]:=Θ
def xNb:((gO 3).toList.getD 5 default).op=.mapUpdate 88 (.tmp 11) (.tmp 12) (.tmp 15):=Θ
def xM3:((gO 3).toList.getD 5 default).dst=none:=Θ
def xM6:((gO 3).toList.getD 5 default).guard=none:=Θ
def xM9:(gO 4).toList=(gO 4).toList.take 2++[(gO 4).toList.getD 2 default,(gO 4).toList.getD 3 default]:=Θ
def xMN:((gO 4).toList.getD 2 default).op=.lookup 88 (.tmp 16) (.tmp 17) false:=Θ
def xMB:((gO 4).toList.getD 2 default).dst=some 18:=Θ
def xMG:((gO 4).toList.getD 2 default).guard=none:=Θ
def xMO:((gO 4).toList.getD 3 default).op=.assign (.tmp 18):=Θ
def xMC:((gO 4).toList.getD 3 default).dst=some 3:=Θ
def xMH:((gO 4).toList.getD 3 default).guard=none:=Θ
def Ws:((gO 2).toList.getD 3 default).op=.binOp .eql 90 (.tmp 9) (.const (.pointer none)) 90:=Θ
def xMT:Tryz.f105.results.toList=[.tmp 3]:=Θ
def xLR{t1 t2 t3:Tmp}{g:Nat}(h1:ρ (.tmp t1)=.own (.b 0) 0 0 0)(h2:ρ (.tmp t2)=.str k)(h3:ρ (.tmp t3)=.gptr g)(hk:k.length<=gb)(hm:ms.length<gb):nB Tryz.prog ρ (mapB ms::T) (.mapUpdate 88 (.tmp t1) (.tmp t2) (.tmp t3))=some (.tuple [],mapB (dP ms k (.gptr g))::T):=by(have h7:bR (mapB ms::T) 0 0=some (mapB ms):=by unfold bR;show (if _ then _ else _)=_;rw[if_pos];exact⟨rfl,ML,C7,C8,rfl,rfl⟩);have h8:(mapB ms).frz=false/\(AV.gptr g).one/\(AV.gptr g).pure/\(mapB ms).xs.length<gb/\k.length<=gb:=⟨rfl,rfl,rfl,hm,hk⟩;simp only[nB,h1,h2,h3,fy,MN,Wt,h7,h8,and_self,if_true];rfl
def Zk:∀{ms:List AV}{j:Nat},aO ms k=some j->∀i,i<j->fB k ((ms.getD i .top).cells.getD 0 .top)=false|[],j,h,_,_=>by simp[aO]at h|e::es,j,h,i,hi=>by rw[aO]at h;cases hc:fB k (e.cells.getD 0 .top)with|true=>rw[hc]at h;simp only[z6]at h;omega|false=>rw[hc]at h;cases hm:aO es k with|none=>rw[hm]at h;simp at h|some j'=>rw[hm]at h;simp only[Option.map_some,z6]at h;cases i with|zero=>simpa using hc|succ i=>simpa using Zk hm i Ω
def Zl:∀{ms:List AV},aO ms k=none->∀i,i<ms.length->fB k ((ms.getD i .top).cells.getD 0 .top)=false|[],_,i,hi=>by simp at hi|e::es,h,i,hi=>by rw[aO]at h;cases hc:fB k (e.cells.getD 0 .top)with|true=>rw[hc]at h;simp at h|false=>rw[hc]at h;cases hm:aO es k with|some j'=>rw[hm]at h;simp at h|none=>cases i with|zero=>simpa using hc|succ i=>simpa using Zl hm i (by simpa using hi)
def xJu{v:AV}:∀{ms:List AV},eO .nilptr (dP ms k v) k=v
 |ms=>by
  have q:aM ms k<(dP ms k v).length:=by
   unfold dP aM;cases h:aO ms k with
   |some i=>simpa using vu h
   |none=>simp
  have h1:(dP ms k v).getD (aM ms k) .top=.agg [.str k,v]:=by rw[Fg,if_pos rfl]
  have h2:aO (dP ms k v) k=some (aM ms k):=by
   refine JD q (by rw[h1];simp[AV.cells,fB]) λ i hi=>?_
   rw[Fg,if_neg (by omega)]
   unfold aM at hi;cases h:aO ms k with
   |some j=>
    rw[h]at hi;exact Zk h i hi
   |none=>
    rw[h]at hi;exact Zl h i hi
  unfold eO;rw[h2];dsimp only;rw[h1];rfl
end Go.Sim.M
end
noncomputable section
set_option maxRecDepth 100000
namespace Go.Sim.M
open Go.RowKit Go.Proofs
def fv(n:Nat):bO (xO6.at n):=xOA Tryz.prog n
def LU:dA Tryz.prog (xO6.at 0) EG:=FK.ok.fn
def qk(ts:List AV)(k:List UInt8):List AV:=(ts.set 16 (.own (.b 0) 0 0 0)).set 17 (.str k)
def tZ(ts:List AV)(k:List UInt8)(g:Nat):List AV:=((qk ts k).set 18 (.gptr g)).set 3 (.gptr g)
def xLy{ts:List AV}(hl:ts.length=19)(k:List UInt8)(g:Nat)(H:List aC):dt Tryz.prog ⟨tZ ts k g,H⟩ Tryz.f105.results.toList=some [.gptr g]:=by(have e:(tZ ts k g).getD 3 .top=.gptr g:=by unfold tZ qk;simp[z7,hl]);(rw[xMT];have e2:gu Tryz.prog ⟨tZ ts k g,H⟩ (.tmp 3)=some (.gptr g):=by show some ((tZ ts k g).getD 3 .top)=_;rw[e]);simp only[dt,e2]
def Fx{ops:Array Oper}{l:List Oper}{s s':St}(h:cT Tryz.prog EG none (some true) ops l s some=some s'):dV (iA Tryz.prog (xO6.at 0)) ops l s s':=by obtain⟨s1,h1,h2⟩:=rY LU h;cases h2;exact h1
section
variable{w0 w:World}{A0:Cx}{A:Nat->Prop}{M:Id->Option MB}{a:Act}
def VW(hI:xO6 w0){ts ms:List AV}{k:List UInt8}{T:List aC}{g:Nat}(q:ts.length=19)(hp:cT Tryz.prog EG none (some true) (gO 4) ((gO 4).toList.take 2) ⟨ts,mapB ms::T⟩ some=some ⟨qk ts k,mapB ms::T⟩)(V:k.length<=gb)(hg:eO .nilptr ms k=.gptr g)(hs:SR w0 A0 w A M ⟨ts,mapB ms::T⟩ a){Q:Exit->Act->World->Prop}(hK:∀a' w' A' M',SR w0 A0 w' A' M' ⟨tZ ts k g,mapB ms::T⟩ a'->Mv w A M w' A' M'->Q .normal a' w'):(Code.region 4 (gO 4) false).wpIn (cP none) 0 Tryz.prog Q a w:=by
 refine wpIn_region_list (pK none 0 _ (rg xMM) _ _ ?_);rw[xM9];refine tz (fv 0) hI (Fx hp) hs λ a1 w1 A1 M1 Z O=>wpList_plain xMG λ K ab=>?_;have hl:iA Tryz.prog (xO6.at 0) ⟨qk ts k,mapB ms::T⟩ ((gO 4).toList.getD 2 default) ⟨(qk ts k).set 18 (.gptr g),mapB ms::T⟩:=by refine .inr (.inl (.inl ⟨.gptr g,mapB ms::T,?_,?_⟩));rw[xMN,<-hg];exact Uk (by simp[St.eval,qk,z7,q]) (by simp[St.eval,qk,z7,q]) V;rw[xMB];rfl
 refine vz (fv 0) hI hl Z λ v w2 A2 M2 aa mv2=>ab _ _ (wpList_plain xMH λ K2 Y=>?_);have W:iA Tryz.prog (xO6.at 0) ⟨(qk ts k).set 18 (.gptr g),mapB ms::T⟩ ((gO 4).toList.getD 3 default) ⟨tZ ts k g,(mapB ms::T)++(none:Option aC).toList⟩:=by refine .inl (.inl ⟨.gptr g,none,.inl ?_,?_⟩);rw[xMO];simp[e8,St.eval,qk,z7,q];rw[xMC];rfl
 refine vz (fv 0) hI W aa λ v2 w3 A3 M3 J mv3=>Y _ _ (wpList_nil ?_);simp only[Option.toList,zD]at J;exact hK _ _ _ _ J ((O.trans mv2).trans mv3)
def xMR(row ms:List AV)(k:List UInt8)(g:Nat):cT Tryz.prog EG none (some true) (gO 4) ((gO 4).toList.take 2) ⟨wq row k (.gptr g) false,[mapB ms]⟩ some=some ⟨qk (wq row k (.gptr g) false) k,[mapB ms]⟩:=Θ
noncomputable def nz(row:List AV)(k:List UInt8)(g:Nat):List AV:=(Lq row k).set 15 (.gptr g)
def xMS(row ms:List AV)(k:List UInt8)(g:Nat):cT Tryz.prog EG none (some true) (gO 4) ((gO 4).toList.take 2) ⟨nz row k g,[mapB ms,jJ row]⟩ some=some ⟨qk (nz row k g) k,[mapB ms,jJ row]⟩:=Θ
end
def xMD(row:List AV)(k:List UInt8)(g:Nat)(H:List aC):St.eval ⟨nz row k g,H⟩ (.tmp 11)=.own (.b 0) 0 0 0:=Θ
def xME(row:List AV)(k:List UInt8)(g:Nat)(H:List aC):St.eval ⟨nz row k g,H⟩ (.tmp 12)=.str k:=Θ
def xMF(row:List AV)(k:List UInt8)(g:Nat)(H:List aC):St.eval ⟨nz row k g,H⟩ (.tmp 15)=.gptr g:=Θ
def Wq(row:List AV)(k:List UInt8)(g:Nat):(nz row k g).length=19:=Θ
def Wp(row:List AV)(k:List UInt8)(y:AV)(b:Bool):(wq row k y b).length=19:=Θ
def xNc(row:List AV)(k:List UInt8)(g:Nat):bB (nz row k g) none (.tuple [])=nz row k g:=by rfl
def lm(row ms:List AV)(k:List UInt8)(g:Nat)(H:List aC)(M':Id->Option MB):Prop:=(eO .nilptr ms k=.gptr g/\H=[mapB ms]) \/ (eO .nilptr ms k=.nilptr/\H=[mapB (dP ms k (.gptr g)),jJ row]/\∃m,M' (.b 1)=some m/\0<m.cap/\m.b=g)
section
variable{w0 w:World}{A0:Cx}{A:Nat->Prop}{M:Id->Option MB}{a:Act}
def HR.same{w':World}{A':Nat->Prop}{M':Id->Option MB}{B n:Nat}{H H':List aC}{bx bx':aC}{m:MB}(h:HR w A M B H)(h':HR w' A' M' B H')(hx:aR M M')(hb:H[n]?=some bx)(q:H'[n]?=some bx')(hv:bx'.ver=bx.ver)(hm:M (.b n)=some m):M' (.b n)=some m:=by obtain⟨m',h1,h2⟩:=hx _ _ hm;obtain⟨c,g1,g2⟩:=h.box _ _ hm;obtain⟨c',g3,g4⟩:=h'.box _ _ h1;have e1:bx=c:=Option.some.inj (hb.symm.trans g1);have e2:bx'=c':=Option.some.inj (q.symm.trans g3);subst e1 e2;have:=g2.ver;have:=g4.ver;rcases h2 with rfl|h2;exact h1;omega
set_option maxHeartbeats 2000000 in
def xHV(hI:xO6 w0){row ms:List AV}{k:List UInt8}(hk:iM row=some k)(Y:k.length<=gb)(hm:ms.length<gb)(a0:eO .nilptr ms k=.nilptr\/∃g,eO .nilptr ms k=.gptr g)(ap:SR w0 A0 w A M ⟨t7 row,[mapB ms]⟩ a){Q:Exit->Act->World->Prop}(hQ:∀a' w' A' M' ts H g,SR w0 A0 w' A' M' ⟨tZ ts k g,H⟩ a'->ts.length=19->Mv w A M w' A' M'->lm row ms k g H M'->Q .ret a' w'):gB.wpIn (cP none) 0 Tryz.prog Q a w:=by
 rw[xMA];refine wpIn_seq (R6 (fv 0) hI xMI (Fx (xNe row ms)) ap λ a1 w1 A1 M1 az aw=>?_);have p1:=xNf row ms;rw[hk,zk,aW,zh]at p1;refine wpIn_seq (R6 (fv 0) hI xMJ (Fx p1) az λ a2 w2 A2 M2 am mv2=>?_);refine wpIn_seq (wpIn_seq (wpIn_region_list (pK none 0 _ (rg xMK) _ _ ?_)));rw[xM7];refine tz (fv 0) hI (Fx (xMP row ms k)) am λ a3 w3 A3 M3 aj mv3=>wpList_plain xM4 λ K ao=>?_;have hl:iA Tryz.prog (xO6.at 0) ⟨FW row k,[mapB ms]⟩ ((gO 2).toList.getD 2 default) ⟨(FW row k).set 9 (eO .nilptr ms k),[mapB ms]⟩:=by refine .inr (.inl (.inl ⟨eO .nilptr ms k,[mapB ms],?_,?_⟩));rw[xNa];exact Uk rfl rfl Y;rw[xM2];rfl
 refine vz (fv 0) hI hl aj λ v w4 A4 M4 q al=>ao _ _ (wpList_plain xM5 λ K2 ah=>?_);have aa:=((aw.trans mv2).trans mv3).trans al;generalize a3.put _ v=a4 at q;have h9:=q.eval (.tmp 9);have e9:St.eval ⟨(FW row k).set 9 (eO .nilptr ms k),[mapB ms]⟩ (.tmp 9)=eO .nilptr ms k:=rfl;rw[e9]at h9;have hc:a4.eval (.const (.pointer none))=.pointer none:=rfl;unfold Oper.wp;rcases a0 with hn|⟨g,hg⟩;rw[hn]at h9 q;have v9:a4.eval (.tmp 9)=.pointer none:=by generalize a4.eval (.tmp 9)=u at h9;cases h9;rfl
 simp only[execOp,Ws,v9,hc,xHN,Sem.run_bind,Result.andThen_ok,Sem.run_pure];show K2 (a4.put ((gO 2).toList.getD 3 default).dst (.bool true)) w4;rw[Wo];refine ah _ _ (wpList_nil ?_);have J:=q.put (d:=some 10) q.base q.outer Mv.refl q.heap (aD.bool (w:=w4) (A:=A4) (M:=M4) true);have J:SR w0 A0 w4 A4 M4 ⟨wq row k .nilptr true,[mapB ms]⟩ (a4.put (some 10) (.bool true)):=J;generalize a4.put (some 10) (.bool true)=a5 at J;have ab:a5.eval (.tmp 10)=.bool true:=by have:=J.eval (.tmp 10);exact this.bool_inv
 refine wpIn_cond_split ab (λ _=>?_) (λ h=>by cases h);refine wpIn_region_list (pK none 0 _ (rg xML) _ _ ?_);rw[xM8];refine tz (fv 0) hI (Fx (xMQ row ms k)) J λ a6 w6 A6 M6 O mv6=>wpList_plain xM6 λ K3 ax=>?_;have V:=O.eval (.tmp 15);have V:aD w6 A6 M6 (a6.eval (.tmp 15)) (.own (.b 1) 0 0 0):=V;obtain⟨m,ai,ar⟩:∃m,M6 (.b 1)=some m/\(m.ver=0->a6.eval (.tmp 15)=fD m 0 0):=by generalize a6.eval (.tmp 15)=u at V;cases V with|own v id ver i j m hm hv h1 he=>exact⟨m,hm,λ h=>he h.symm⟩
 obtain⟨bx,a7,ad⟩:=O.heap.box _ _ ai;obtain rfl:jJ row=bx:=by simpa[getB]using a7
 have ae:m.ver=0:=ad.ver.symm;have an:dy m.ty=false:=by rw[<-ad.ty];kernel_rfl
 have hcap:0<m.cap:=Nat.lt_of_lt_of_le (by simp[jJ]) ad.fits;have ak:a6.eval (.tmp 15)=.pointer (some ⟨m.b,0,none⟩):=by rw[ar ae];unfold fD;rw[an];simp
 have ag:SR w0 A0 w6 A6 M6 ⟨nz row k m.b,[mapB ms,jJ row]⟩ a6:=by refine⟨O.base,O.outer,by rw[O.size];rfl,λ t ht=>?_,O.heap,O.defers,O.ev⟩;by_cases h:t=15;subst h;show aD w6 A6 M6 (a6.tmps.getD 15 undef) (.gptr m.b);have:a6.tmps.getD 15 undef=.pointer (some ⟨m.b,0,none⟩):=ak;rw[this];exact .gptr _;have h1:=O.tmps t (by simpa[nz]using ht);(have e:(nz row k m.b).getD t .top=(Lq row k).getD t .top:=by unfold nz;simp only[z7,List.getElem?_set,Ne.symm h,if_false]);show aD w6 A6 M6 _ ((nz row k m.b).getD t .top);rw[e];exact h1
 have au:iA Tryz.prog (xO6.at 0) ⟨nz row k m.b,[mapB ms,jJ row]⟩ ((gO 3).toList.getD 5 default) ⟨nz row k m.b,[mapB (dP ms k (.gptr m.b)),jJ row]⟩:=by refine .inr (.inl (.inl ⟨.tuple [],[mapB (dP ms k (.gptr m.b)),jJ row],?_,?_⟩));rw[xNb];exact xLR (xMD row k m.b _) (xME row k m.b _) (xMF row k m.b _) Y hm;rw[xM3];exact congrArg (λ t=>(⟨t,_⟩:St)) (xNc row k m.b).symm
 refine vz (fv 0) hI au ag λ v8 w8 A8 M8 ac af=>ax _ _ (wpList_nil ?_);have aq:=HR.same ag.heap ac.heap af.ext (n:=1) rfl rfl rfl ai;refine wpIn_seq (VW hI (Wq row k m.b) (xMS row _ k m.b) Y xJu ac λ a9 w9 A9 M9 Z W=>?_);have ay:=HR.same ac.heap Z.heap W.ext (n:=1) rfl rfl rfl aq;refine wpIn_ret (hQ _ _ _ _ _ _ m.b Z (Wq row k m.b) (((aa.trans mv6).trans af).trans W) (.inr ⟨hn,rfl,m,ay,hcap,rfl⟩));rw[hg]at h9 q;have v9:a4.eval (.tmp 9)=.pointer (some ⟨g,0,none⟩):=by generalize a4.eval (.tmp 9)=u at h9;cases h9;rfl
 simp only[execOp,Ws,v9,hc,xJr,Sem.run_bind,Result.andThen_ok,Sem.run_pure];show K2 (a4.put ((gO 2).toList.getD 3 default).dst (.bool false)) w4;rw[Wo];refine ah _ _ (wpList_nil ?_);have J:=q.put (d:=some 10) q.base q.outer Mv.refl q.heap (aD.bool (w:=w4) (A:=A4) (M:=M4) false);have J:SR w0 A0 w4 A4 M4 ⟨wq row k (.gptr g) false,[mapB ms]⟩ (a4.put (some 10) (.bool false)):=J;generalize a4.put (some 10) (.bool false)=a5 at J;have ab:a5.eval (.tmp 10)=.bool false:=by have:=J.eval (.tmp 10);exact this.bool_inv
 refine wpIn_cond_split ab (λ h=>by cases h) (λ _=>wpIn_skip ?_);refine wpIn_seq (VW hI (Wp row k (.gptr g) false) (xMR row ms k g) Y hg J λ a9 w9 A9 M9 Z W=>?_);exact wpIn_ret (hQ _ _ _ _ _ _ g Z (Wp row k (.gptr g) false) (aa.trans W) (.inl ⟨hg,rfl⟩))
end
end Go.Sim.M
end
noncomputable section
set_option maxRecDepth 100000
namespace Go.Sim.M
open Go.RowKit Go.Proofs
def xLr:Tryz.f105.body=some gB:=Θ
def Wr:Tryz.f105.ntmps=19:=Θ
variable {args:List AV}{n t:Nat}
def Q6(h:t<args.length):(args++List.replicate n (AV.tuple [])).getD t .top=args.getD t .top:=by simp[z7,zP,h]
def Q7(h1:¬ t<args.length)(h2:t - args.length<n):(args++List.replicate n (AV.tuple [])).getD t .top=.tuple []:=by simp[z7,zP,h1,List.getElem?_replicate,h2]
def VU(row:List AV):t7 row=[AV.list 3 row,.func vpF [.own (.b 0) 0 0 0]]++List.replicate 17 (.tuple []):=by rfl
def xGl{w0 w:World}{A:Nat->Prop}{M:Id->Option MB}{vs:List Value}{row ms:List AV}{k:List UInt8}(hI:xO6 w0)(Q:Below w0.heap.size w0 w)(hR:HR w A M w0.heap.size [mapB ms])(O:RC w A M vs [.list 3 row,.func vpF [.own (.b 0) 0 0 0]])(hk:iM row=some k)(ab:k.length<=gb)(hm:ms.length<gb)(Z:eO .nilptr ms k=.nilptr\/∃g,eO .nilptr ms k=.gptr g):Calls Tryz.prog 105 vs.toArray w λ e w'=>∃v A' M' g,e=.returned v/\v=.pointer (some ⟨g,0,none⟩)/\Below w0.heap.size w0 w'/\(∀b,b<w0.heap.size->(A' b↔A b))/\Mv w A M w' A' M'/\∃H,HR w' A' M' w0.heap.size H/\lm row ms k g H M':=by
 refine callsIn_wide.1 (callsIn_of_wp_marks (F:=Fence.wide) (n:=0) Tryz.func105 xLr trivial ?_);refine xHV (A0:=⟨A,w,A,M,1,λ _=>False⟩) (A:=A) (M:=M) (k:=k) (row:=row) (ms:=ms) hI hk ab hm Z ⟨Q,λ _ _=>Iff.rfl,?_,λ t ht=>?_,hR,er.nil,Ev.refl (C:=⟨A,w,A,M,1,λ _=>False⟩)⟩ ?_;rw[Wr];have:=O.1;simp[VU,this];have hl:=O.1;have hl:vs.length=2:=hl;rw[Wr];show aD w A M _ ((t7 row).getD t .top);rw[VU];by_cases W:t<2;have e1:(vs.toArray++Array.replicate (19 - vs.toArray.size) undef).getD t undef=vs.getD t undef:=by(have:t<vs.length:=Ω);simp[z7,Array.getElem?_append,this]
 rw[e1,Q6 W];exact O.2 t W;have ht:t<19:=by have h0:(t7 row).length=19:=rfl;rw[<-h0];exact ht
 have h1:¬ t<vs.length:=Ω
 have e1:(vs.toArray++Array.replicate (19 - vs.toArray.size) undef).getD t undef=undef:=by(have h2:t - vs.length<19 - vs.length:=Ω);simp[Array.getElem?_append,h1,h2]
 rw[e1,Q7 W (show t - 2<17 by omega)];exact .tuple #[] [] rfl Ψ;intro a' w' A' M' ts H g aa Y ad V;show LeavesInM Fence.wide 0 Tryz.prog Tryz.f105 a'.tmps _ a'.defers .returning w';refine Fj (λ _ h=>h) aa λ w2 J=>?_;obtain⟨v,hv,q⟩:=Jl (P:=Tryz.prog) J (xLy Y k g H);have ac:v=.pointer (some ⟨g,0,none⟩):=by have q:aD w2 A' M' v (.gptr g):=q;cases q;rfl
 exact⟨v,hv,v,A',M',g,rfl,ac,J.base,J.outer,J.ev.mv hR (zd 1),H,J.heap,V⟩
end Go.Sim.M
end
noncomputable section
set_option maxRecDepth 100000
namespace Go.Sim
open Go.RowKit
def mw(live:List Nat)(ts:List AV):List AV:=aX ts.length (live.zip (liveOf live ts))
def dI(live:List Nat)(s:St):St:=⟨mw live s.tmps,s.heap⟩
section
variable{P:Program}{Inv:IV}{w0 w w':World}{A0:Cx}{A A':Nat->Prop}{M M' N N':Id->Option MB}{a:Act}{B F:Nat}{e:EntV}
variable {s:St}
def SR.mask(h:SR w0 A0 w A M s a)(live:List Nat):SR w0 A0 w A M (dI live s) a:=by have hl:(mw live s.tmps).length=s.tmps.length:=BQ _ _;refine⟨h.base,h.outer,h.size.trans hl.symm,λ t ht=>?_,h.heap,h.defers,h.ev⟩;(have ht':t<s.tmps.length:=by rw[<-hl];exact ht);show aD w A M _ ((mw live s.tmps).getD t .top);rcases Rr s.tmps.length s.tmps rfl t live with e|e;unfold mw;rw[e];exact h.tmps t ht';unfold mw;rw[e];exact .top _
variable {Q:Exit->Act->World->Prop}
def tD{E:dp}(J:dA P Inv E)(q:bO Inv)(hI:Inv w0){ro:Option Nat}{id:Nat}{ops:Array Oper}{s':St}{live:List Nat}(O:aN ops)(hp:cT P E none (some true) ops ops.toList s (λ s=>some (dI live s))=some s')(hs:SR w0 A0 w A M s a)(hK:∀a' w' A' M',SR w0 A0 w' A' M' s' a'->Mv w A M w' A' M'->Q .normal a' w'):(Code.region id ops false).wpIn (cP ro) 0 P Q a w:=by obtain⟨s1,h1,h2⟩:=rY J hp;cases h2;exact R6 q hI O h1 hs λ a' w' A' M' k1 k2=>hK a' w' A' M' (k1.mask live) k2
def CA{o:Oper}{c:Call}{g:FuncId}{args:List AV}{R:Value->World->Prop}(ho:o.op=.call c)(q:pu s c=some (g,args))(he:fG P g)(hs:SR w0 A0 w A M s a)(J:∀vs,RC w A M vs args->Calls P g vs.toArray w λ e w'=>∃v,e=.returned v/\R v w'){K:Act->World->Prop}(hK:∀v w',R v w'->K (a.put o.dst v) w'):o.wp P a w K Q:=by
 unfold pu at q;split at q;case h_2=>simp at q
 rename_i fo W;split at q;case h_2=>simp at q
 rename_i g' Y aa;split at q;simp at q;rename_i ae;cases q;have O:=hs.eval fo;rw[aa]at O;obtain⟨cv,ad,ab,ac⟩:=O.func_inv ae;have V:=FA (w:=w) (A:=A) (M:=M) (l:=c.args.toList) (ρc:=a.eval) (ρ:=s.eval) (λ x _=>hs.eval x);have Z:RC w A M (c.args.toList.map a.eval++cv.toList) (c.args.toList.map s.eval++Y):=RC.append ⟨V.1,V.2⟩ ⟨by simpa using ab,λ i hi=>by have:=ac i hi;simpa[z7,zu]using this⟩;unfold Oper.wp;rw[RA ho W ad he,Oper.upon_enter];refine(J _ Z).mono ?_;rintro e w' ⟨v,rfl,hr⟩;exact hK v w' hr
variable {H:List aC}{t:Nat}{ts:List AV}
def SR.settle1(h:SR w0 A0 w A M ⟨ts,H⟩ a){y:AV}(hy:resolve H eG (ts.getD t .top)=some y):∃A1,SR w0 A0 w A1 M ⟨ts.set t y,freeze H (aP H eG (ts.getD t .top))⟩ a/\Mv w A M w A1 M:=
 h.settle (s1:=⟨ts.set t y,freeze H (aP H eG (ts.getD t .top))⟩) ⟨_,rfl,by simp,fun t'=>by
  by_cases hd:t=t'
  . subst hd;by_cases q:t<ts.length
    . right;simp only[pG q];exact⟨hy,λ _ h=>h⟩
    . left;simp only[List.set_eq_of_length_le (Nat.le_of_not_lt q)]
  . left;simp only [pH hd]⟩
def SR.setT(h:SR w0 A0 w A M ⟨ts,H⟩ a){y:AV}(hy:t<ts.length->aD w A M (a.tmps.getD t undef) y):SR w0 A0 w A M ⟨ts.set t y,H⟩ a:=by refine⟨h.base,h.outer,by rw[h.size];simp,λ t' ht=>?_,h.heap,h.defers,h.ev⟩;(have ht':t'<ts.length:=by simpa using ht);show aD w A M _ ((ts.set t y).getD t' .top);by_cases hd:t=t';subst hd;rw[pG ht'];exact hy ht';rw[pH hd];exact h.tmps t' ht'
def cD.joined(h1:cD N M)(h2:cD N N'):cD N (MJ M N'):=λ id m id' m' g1 g2 g3 g4=>by rcases FJ g3 with⟨rfl,h⟩|⟨k,rfl,h⟩;exact h1 _ _ _ _ g1 g2 h g4;exact h2 _ _ _ _ g1 g2 h g4
def cD.part{q:Id->Bool}(h:cD N M):cD N (MR q M):=λ id m id' m' g1 g2 g3 g4=>h id m id' m' g1 g2 (rp g3).2 g4
def HR.split(h:HR w A M B H):cD (MR (pB lH) M) (MR (pB q0) M):=λ id m id' m' g1 g2 g3 g4 he=>by obtain⟨p1,h1⟩:=rp g1;obtain⟨p2,h2⟩:=rp g3;have:=h.inj id id' m m' h1 h2 g2 g4 he;subst this;cases id with|r n i j=>simp[pB]at p1|b n=>cases n<;>simp[pB,q0,lH]at p1 p2
def tR(M:Id->Option MB):∀id m,MR (pB q0) M id=some m->pB q0 id:=λ id m h=>(rp h).1
end
def xJp(e:EntV):iY (pB lH) e.E:=by simp only[iY,EntV.E,List.all_cons,List.all_nil,zS,AV.cells,AV.inPs,AV.inP,pB,lH,Bool.and_self];rfl
def xJn(e:EntV):iY (pB lH) e.A:=by rfl
def xJo(e:EntV):iY (pB lH) e.B:=by rfl
section
variable{w0 w w':World}{A0:Cx}{A A':Nat->Prop}{M M' N N':Id->Option MB}{a:Act}{F:Nat}{e:EntV}
variable {ts:List AV}
def SR.out{b0:aC}{T:List aC}(hs:SR w0 A0 w A M ⟨ts,b0::e.E::e.A::e.B::T⟩ a)(O:∀id,A0.M1 id=none){m:MB}(hm:M (.b 1)=some m)(hg:m.b=e.g)(h2:∃m,M (.b 2)=some m)(h3:∃m,M (.b 3)=some m):EntAt w A w0.heap.size A0.w1.heap.size e (MR (pB lH) M):=by
 refine⟨?_,λ id m h=>(rp h).1,⟨m,FL rfl hm,?_,hg⟩,?_,?_,λ id m h h0=>?_⟩;refine(hs.heap.part (q:=lH) λ n bx hb hq=>?_).swap λ n hq=>?_;match n,hq with|1,_=>((obtain rfl:e.E=bx:=by simpa using hb);exact⟨xJp e,λ j _=>rfl⟩)|2,_=>((obtain rfl:e.A=bx:=by simpa using hb);exact⟨xJn e,λ j _=>rfl⟩)|3,_=>(obtain rfl:e.B=bx:=by simpa using hb);exact⟨xJo e,λ j _=>rfl⟩
 match n,hq with|1,_=>rfl|2,_=>rfl|3,_=>rfl
 obtain⟨bx,hb,J⟩:=hs.heap.box _ _ hm;obtain rfl:e.E=bx:=by simpa[getB]using hb
 exact Nat.lt_of_lt_of_le (by simp[EntV.E]) J.fits;obtain⟨m,h⟩:=h2;exact⟨m,FL rfl h⟩;obtain⟨m,h⟩:=h3;exact⟨m,FL rfl h⟩;rcases hs.ev.src _ _ (rp h).2 h0 with⟨i,m1,h1,_⟩|h1;rw[O]at h1;cases h1;exact h1
def SR.newE{b0:aC}{row:List AV}{g:Nat}(hs:SR w0 A0 w A M ⟨ts,[b0,⟨0,3,94,[.agg [.list 3 row,.nils,.nils]],false,true⟩]⟩ a){m:MB}(hm:M (.b 1)=some m)(hg:m.b=g):∃M',SR w0 A0 w A M' ⟨ts,[b0,EntV.E ⟨g,row,[],[],0,0⟩,EntV.A ⟨g,row,[],[],0,0⟩,EntV.B ⟨g,row,[],[],0,0⟩]⟩ a/\Mv w A M w A M'/\M' (.b 1)=some m/\(∃m,M' (.b 2)=some m)/\∃m,M' (.b 3)=some m:=by(obtain⟨M1,h1,v1⟩:=hs.heap.cellnilJ (n:=2) (j0:=1) 100 (id:=1) rfl rfl rfl rfl;obtain⟨M2,h2,v2⟩:=h1.cellnilJ (n:=2) (j0:=2) 100 (id:=1) rfl rfl rfl rfl;have hv:=v1.trans v2;have h3:HR w A M2 w0.heap.size [b0,EntV.E ⟨g,row,[],[],0,0⟩,EntV.A ⟨g,row,[],[],0,0⟩,EntV.B ⟨g,row,[],[],0,0⟩]:=h2;have J:M2 (.b 1)=some m:=_root_.Go.Sim.M.HR.same hs.heap h3 hv.ext (n:=1) rfl rfl rfl hm;obtain⟨bx,hb,q⟩:=h3.box _ _ J;obtain rfl:EntV.E ⟨g,row,[],[],0,0⟩=bx:=by simpa[getB]using hb);have hcap:0<m.cap:=Nat.lt_of_lt_of_le (by simp[EntV.E]) q.fits;obtain⟨c,_,_,hc⟩:=q.cells hcap;have hsz:m.sz=3:=q.sz.symm;refine⟨M2,⟨hs.base,hs.outer,hs.size,λ t ht=>hv.rel (hs.tmps t ht),h3,hs.defers,hs.ev.step hv⟩,hv,J,?_,?_⟩;have h:=hc 0 1 (by simp[EntV.E]) Ω;(have h:aD w A M2 (c.getD (0*m.sz+1) undef) (.osl (.b 2) 0 0 0):=h;generalize c.getD (0*m.sz+1) undef=v at h;cases h with|osl v id ver off len m hm hv h1 he=>exact⟨_,hm⟩);have h:=hc 0 2 (by simp[EntV.E]) Ω;have h:aD w A M2 (c.getD (0*m.sz+2) undef) (.osl (.b 3) 0 0 0):=h;generalize c.getD (0*m.sz+2) undef=v at h;cases h with|osl v id ver off len m hm hv h1 he=>exact⟨_,hm⟩
end
end Go.Sim
end
noncomputable section
set_option maxRecDepth 100000
namespace Go.Sim.M
open Go.RowKit Go.Proofs
noncomputable abbrev cB:Code:=Tryz.f75.body.getD .skip
noncomputable abbrev cO(n:Nat):Array Oper:=oc (ir cB n)
noncomputable abbrev EC(p:Nat):dp:=FK.E.fn 62 p (eX []) (jL [])
def orcC(p:Nat):dA Tryz.prog (xO6.at p) (EC p):=FK.ok.fn
def vC:AV:=.func vpF [.own (.b 0) 0 0 0]
def uT(q:Bool)(n:Nat):Nat:=cond q (n+23) n
def uE(q:Bool)(n:Nat):Nat:=cond q (n+3) n
def uR(q:Bool)(n:Nat):Nat:=cond q (n+6) n
def uB(q:Bool)(n:Nat):Nat:=cond q (n+2) n
noncomputable def lpJj(q:Bool):Code:=.seq (.region (uR q 4) (cO (uR q 4)) false) (.seq (.cond (.tmp (uT q 18)) .skip (.exit (uB q 0))) (.seq (.block (uB q 1) (.seq (.region (uR q 5) (cO (uR q 5)) false) (.seq (.region (uR q 6) (cO (uR q 6)) false) (.region (uR q 7) (cO (uR q 7)) true)))) (.region (uR q 8) (cO (uR q 8)) false)))
def xMi:cB=.seq (.region 0 (cO 0) false) (.seq (.region 1 (cO 1) false) (.seq (.region 2 (cO 2) false) (.seq (.seq (.region 3 (cO 3) false) (.block 0 (.loop (lpJj false)))) (.seq (.seq (.region 9 (cO 9) false) (.block 2 (.loop (lpJj true)))) (.seq (.region 15 (cO 15) false) .ret))))):=Θ
def qa:Op->Call|.call c=>c|_=>default
def xHS:fG Tryz.prog 105:=⟨_,Tryz.func105,by kernel_rfl,by kernel_rfl⟩
def rowF(f:AV):List AV:=(f.cells.getD 0 .top).toList
def Li(f:AV):AV:=.agg [.int .i64 (f.cells.getD 1 .top).toInt,.int .i64 (f.cells.getD 2 .top).toInt,.int .i64 1]
noncomputable def jK(f:AV):List UInt8:=(iM (rowF f)).getD []
noncomputable def rz(f:AV):Bool:=Nat.beq f.cells.length 3&&(ef [.list 3,.int .i64,.int .i64] f.cells 0&&(f.one==false&&(iM (rowF f)).isSome&&decide ((jK f).length<=4611686018427387904)))
def sg(f:AV):aC:=⟨0,3,54,[f],false,true⟩
abbrev PE:Type:=List UInt8×List AV×List AV×List AV
def bP(x:List UInt8×EntV):PE:=(x.1,x.2.row,x.2.a,x.2.b)
def sy(ps:List PE)(k:List UInt8):Option Nat:=ps.findIdx? λ x=>x.1==k
def bZ(es:List (List UInt8×EntV)):List AV:=es.map λ x=>.agg [.str x.1,.gptr x.2.g]
def Fw(es:List (List UInt8×EntV)):(bZ es).length=es.length:=by simp[bZ]
def QM(k:List UInt8):∀es:List (List UInt8×EntV),aO (bZ es) k=sy (es.map bP) k|[]=>rfl|x::es=>by have ih:=QM k es;unfold sy at ih|-;simp only[bZ,zV,aO,AV.cells,List.getD_cons_zero,fB,List.findIdx?_cons];cases h:(x.1==k)with|true=>simp[bP,h]|false=>simp only[bP,h];rw[show List.map (λ x=>AV.agg [AV.str x.fst,AV.gptr x.snd.g]) es=bZ es from rfl,ih];simp[bP]
def cZ:PE:=([],[],[],[])
def kw(q:Bool)(ps:List PE)(k:List UInt8)(row:List AV)(c:AV):List PE:=match sy ps k with|some j=>ps.set j ((ps.getD j cZ).1,(ps.getD j cZ).2.1,cond q (ps.getD j cZ).2.2.1 ((ps.getD j cZ).2.2.1++[c]),cond q ((ps.getD j cZ).2.2.2++[c]) (ps.getD j cZ).2.2.2)|none=>ps++[(k,row,cond q [] [c],cond q [c] [])]
noncomputable def iw(q:Bool)(ps:List PE)(f:AV):List PE:=kw q ps (jK f) (rowF f) (Li f)
def _root_.Go.Sim.EntV.add(q:Bool)(e:EntV)(c:AV):EntV:=cond q {e with b:=e.b++[c],vb:=e.vb+1} {e with a:=e.a++[c],va:=e.va+1}
def _root_.Go.Sim.EntV.sl(q:Bool)(e:EntV):List AV:=cond q e.b e.a
def _root_.Go.Sim.EntV.vr(q:Bool)(e:EntV):Nat:=cond q e.vb e.va
def _root_.Go.Sim.EntV.add_g(q:Bool)(e:EntV)(c:AV):(e.add q c).g=e.g:=by cases q<;>rfl
structure gc (w:World) (A:Nat->Prop) (B F c:Nat) (es:List (List UInt8×EntV)) (Ns:Nat->Id->Option MB) (M:Id->Option MB):Prop where
 ent:∀(i:Nat)(x:List UInt8×EntV),es[i]?=some x->EntAt w A B F x.2 (Ns i)
 apart:∀i j,i<es.length->j<es.length->i≠j->cD (Ns i) (Ns j)
 apm:∀i,i<es.length->cD (Ns i) M
 bnd:∀(i:Nat)(x:List UInt8×EntV),es[i]?=some x->x.2.a.length<=c/\x.2.b.length<=c
 cnt:es.length<=c
def vH{α:Type}{l:List α}{i:Nat}{x:α}(h:l[i]?=some x):i<l.length:=by rcases zJ i l.length with h'|h';exact h';rw[zz h']at h;cases h
section
variable{w w':World}{A A':Nat->Prop}{B F c:Nat}{es:List (List UInt8 × EntV)}{Ns:Nat->Id->Option MB}{M M' M1:Id->Option MB}
def gc.go(h:gc w A B F c es Ns M)(hm:Mv w A M w' A' M')(q:∀b,A' b->b<w'.heap.size):gc w' A' B F c es Ns M':=
 ⟨fun i x hx=>(h.ent i x hx).go hm q (h.apm i (vH hx)),h.apart,fun i hi=>by
  obtain ⟨x,hx⟩:∃ x,es[i]?=some x:=⟨es[i],ze hi⟩;exact (h.apm i hi).go (h.ent i x hx) hm,h.bnd,h.cnt⟩
def gc.part{q:Id->Bool}(h:gc w A B F c es Ns M):gc w A B F c es Ns (MR q M):=⟨h.ent,h.apart,λ i hi=>(h.apm i hi).part,h.bnd,h.cnt⟩
variable {e':EntV}{k:List UInt8}
def gc.upd(h:gc w A B F c es Ns M){j:Nat}(hj:j<es.length)(hm:Mv w A (MJ M (Ns j)) w' A' M1)(V:∀b,A' b->b<w'.heap.size)(he:EntAt w' A' B F e' (MR (pB lH) M1))(hs:cD (MR (pB lH) M1) (MR (pB q0) M1))(hb:e'.a.length<=c+1/\e'.b.length<=c+1):gc w' A' B F (c+1) (es.set j (k,e')) (λ i=>if i=j then MR (pB lH) M1 else Ns i) (MR (pB q0) M1):=by(have Q:∀i,i<es.length->i≠j->cD (Ns i) M1:=λ i hi hne=>by obtain⟨x,hx⟩:∃x,es[i]?=some x:=⟨es[i],ze hi⟩;exact((h.apm i hi).joined (h.apart i j hi hj hne)).go (h.ent i x hx) hm);refine⟨λ i x hx=>?_,λ i i' hi O hne=>?_,λ i hi=>?_,λ i x hx=>?_,?_⟩;by_cases q:i=j;subst q;rw[zL hj]at hx;cases hx;simpa using he;rw[zX (λ e=>q e.symm)]at hx;simp only[q,if_false];exact(h.ent i x hx).go hm V ((h.apm i (vH hx)).joined (h.apart i j (vH hx) hj q));rw[y4]at hi O;by_cases q:i=j;have J:i'≠j:=λ e=>hne (q.trans e.symm);simp only[q,J,if_true,if_false];exact(cD.part (Q i' O J)).symm;by_cases J:i'=j;simp only[q,J,if_true,if_false];exact cD.part (Q i hi q);simp only[q,J,if_false];exact h.apart i i' hi O hne;rw[y4]at hi;by_cases q:i=j;simp only[q,if_true];exact hs;simp only[q,if_false];exact cD.part (Q i hi q);by_cases q:i=j;subst q;rw[zL hj]at hx;cases hx;exact hb;rw[zX (λ e=>q e.symm)]at hx;have:=h.bnd i x hx;omega;rw[y4];have:=h.cnt;omega
def gc.add(h:gc w A B F c es Ns M)(hm:Mv w A M w' A' M1)(Q:∀b,A' b->b<w'.heap.size)(he:EntAt w' A' B F e' (MR (pB lH) M1))(hs:cD (MR (pB lH) M1) (MR (pB q0) M1))(hb:e'.a.length<=c+1/\e'.b.length<=c+1):gc w' A' B F (c+1) (es++[(k,e')]) (λ i=>if i=es.length then MR (pB lH) M1 else Ns i) (MR (pB q0) M1):=by(have O:∀i,i<es.length->cD (Ns i) M1:=λ i hi=>by obtain⟨x,hx⟩:∃x,es[i]?=some x:=⟨es[i],ze hi⟩;exact(h.apm i hi).go (h.ent i x hx) hm);(have hl:(es++[(k,e')]).length=es.length+1:=by simp);refine⟨λ i x hx=>?_,λ i i' hi V hne=>?_,λ i hi=>?_,λ i x hx=>?_,?_⟩;have hi:=vH hx;by_cases q:i=es.length;subst q;simp at hx;subst hx;simpa using he;rw[zO Ω]at hx;simp only[q,if_false];exact(h.ent i x hx).go hm Q (h.apm i (vH hx));by_cases q:i=es.length;have J:i'≠es.length:=λ e=>hne (q.trans e.symm);simp only[q,J,if_true,if_false];exact(cD.part (O i' Ω)).symm;by_cases J:i'=es.length;simp only[q,J,if_true,if_false];exact cD.part (O i Ω);simp only[q,J,if_false];exact h.apart i i' Ω Ω hne;by_cases q:i=es.length;simp only[q,if_true];exact hs;simp only[q,if_false];exact cD.part (O i Ω);have hi:=vH hx;by_cases q:i=es.length;subst q;simp at hx;subst hx;exact hb;rw[zO Ω]at hx;have:=h.bnd i x hx;omega;have:=h.cnt;omega
end
end Go.Sim.M
end
noncomputable section
set_option maxRecDepth 100000
namespace Go.Sim.M
open Go.RowKit Go.Proofs
def xyi{ops:Array Oper}{l:List Oper}{s s':St}(h:cT Tryz.prog (EC 0) none (some true) ops l s some=some s'):dV (iA Tryz.prog (xO6.at 0)) ops l s s':=by obtain⟨s1,h1,h2⟩:=rY (orcC 0) h;cases h2;exact h1
variable {es:List (List UInt8×EntV)}{j:Nat}{x:List UInt8×EntV}
def KG(h:es[j]?=some x):(bZ es).getD j .top=.agg [.str x.1,.gptr x.2.g]:=by simp[bZ,z7,h]
variable {k:List UInt8}
def xHX{ps:List PE}(h:sy ps k=some j):j<ps.length/\(ps.getD j cZ).1=k:=by unfold sy at h;obtain⟨h1,h2,_⟩:=List.findIdx?_eq_some_iff_getElem.1 h;exact⟨h1,by simpa[z7,h1]using h2⟩
def xLA(es:List (List UInt8×EntV))(k:List UInt8):eO .nilptr (bZ es) k=.nilptr\/∃g,eO .nilptr (bZ es) k=.gptr g:=by unfold eO;cases h:aO (bZ es) k with|none=>exact .inl rfl|some j=>have hj:=vu h;rw[Fw]at hj;obtain⟨x,hx⟩:∃x,es[j]?=some x:=⟨es[j],ze hj⟩;right;dsimp only;rw[KG hx];exact⟨_,rfl⟩
variable {g:Nat}
def xGm(h:eO .nilptr (bZ es) k=.gptr g):∃j x,es[j]?=some x/\x.1=k/\x.2.g=g/\sy (es.map bP) k=some j:=by unfold eO at h;cases hi:aO (bZ es) k with|none=>rw[hi]at h;cases h|some j=>(have hj:=vu hi;rw[Fw]at hj;obtain⟨x,hx⟩:∃x,es[j]?=some x:=⟨es[j],ze hj⟩;rw[hi]at h;dsimp only at h;rw[KG hx]at h;rw[QM]at hi;have h2:=(xHX hi).2;have e:(es.map bP).getD j cZ=bP x:=by simp[z7,hx]);rw[e]at h2;refine⟨j,x,hx,h2,?_,hi⟩;have h:AV.gptr x.2.g=.gptr g:=h;injection h
def xJt(h:eO .nilptr (bZ es) k=.nilptr):aO (bZ es) k=none:=by unfold eO at h;cases hi:aO (bZ es) k with|none=>rfl|some j=>have hj:=vu hi;rw[Fw]at hj;obtain⟨x,hx⟩:∃x,es[j]?=some x:=⟨es[j],ze hj⟩;rw[hi]at h;dsimp only at h;rw[KG hx]at h;cases h
variable {e':EntV}
def xH1(h:es[j]?=some x)(hg:e'.g=x.2.g):bZ (es.set j (x.1,e'))=bZ es:=by unfold bZ;rw[List.map_set];apply List.ext_getElem?;intro i;by_cases hi:j=i;subst hi;have:=vH h;rw[zL (by simpa using this)];simp[h,hg];rw[zX hi]
def xH0(h:aO (bZ es) k=none):bZ (es++[(k,e')])=dP (bZ es) k (.gptr e'.g):=by unfold dP;rw[h];simp[bZ]
variable {row:List AV}
def xG9(q:Bool){c:AV}(h:es[j]?=some x)(hi:sy (es.map bP) k=some j):(es.set j (x.1,x.2.add q c)).map bP=kw q (es.map bP) k row c:=by(have e:(es.map bP).getD j cZ=bP x:=by simp[z7,h]);unfold kw;rw[hi];dsimp only;rw[e,List.map_set];cases q<;>rfl
def xG8(q:Bool){c:AV}(hi:aO (bZ es) k=none):(es++[(k,(⟨g,row,[],[],0,0⟩:EntV).add q c)]).map bP=kw q (es.map bP) k row c:=by rw[QM]at hi;unfold kw;rw[hi];cases q<;>simp[bP,EntV.add]
def nw(row a b:List AV):AV:=.eptr 3 [.agg [.list 3 row,.list 3 a,.list 3 b]] 0 0
def wB(p:PE):AV:=.agg [.str p.1,nw p.2.1 p.2.2.1 p.2.2.2]
def bD(ps:List PE):List AV:=ps.map wB
variable {H:List aC}
def So{n k ver sz:Nat}{ty:TypeId}{xs:List AV}(hb:H[k]?=some ⟨ver,sz,ty,xs,false,true⟩)(hc:bW ty=false):resolve H (n+1) (.osl (.b k) ver 0 xs.length)=some (.list sz xs):=by(have hm:dy ty=false:=kE hc;have h1:dT H (.b k) ver=some ⟨ver,sz,ty,xs,false,true⟩:=by unfold dT;rw[iN,hb];simp[hm]);(have h2:d9 ⟨ver,sz,ty,xs,false,true⟩ xs:=by unfold d9;rw[hc]);unfold resolve;simp[AV.pure,h1,gp,h2]
def xIm(e:EntV)(h3:dT H (.b 1) 0=some e.E)(h1:resolve H 3 (.osl (.b 2) e.va 0 e.a.length)=some (.list 3 e.a))(h2:resolve H 3 (.osl (.b 3) e.vb 0 e.b.length)=some (.list 3 e.b)):resolve H 4 (.own (.b 1) 0 0 0)=some (nw e.row e.a e.b):=by(have h0:resolve H 3 (.list 3 e.row)=some (.list 3 e.row):=by unfold resolve;simp[AV.pure]);unfold resolve;simp only[AV.pure,h3];simp only[EntV.E,gp,eI,lI,h0,h1,h2];rfl
def xJM(e:EntV):resolve [Cw,e.E,e.A,e.B] 4 (.own (.b 1) 0 0 0)=some (nw e.row e.a e.b):=xIm e rfl (So rfl rfl) (So rfl rfl)
section
variable{w0 w:World}{A0:Cx}{A A':Nat->Prop}{M N:Id->Option MB}{a:Act}{B F:Nat}{e:EntV}
def _root_.Go.Sim.EntAt.froz(h:EntAt w A B F e N)(hA:∀b,A' b->A b)(q:∀id m,N id=some m->0<m.cap->¬ A' m.b){v:Value}(hv:v=.pointer (some ⟨e.g,0,none⟩)):aD w A' eF v (nw e.row e.a e.b):=rU h.hr (λ b _=>hA b) 4 v _ _ (h.own hv) (xJM e) λ id _ m hm h0=>q id m hm h0
variable {es:List (List UInt8×EntV)}
def xLJ{j:Nat}{x:List UInt8×EntV}(h:es[j]?=some x):(bD (es.map bP)).getD j .top=.agg [.str x.1,nw x.2.row x.2.a x.2.b]:=by simp[bD,wB,bP,z7,h]
def SR.final{ts:List AV}{Ns:Nat->Id->Option MB}{c:Nat}(hs:SR w0 A0 w A M ⟨ts,[mapB (bZ es)]⟩ a)(hE:gc w A w0.heap.size A0.w1.heap.size c es Ns M)(hM:∀id m,M id=some m->pB q0 id)(hp:A0.pin=0):∃A',SR w0 A0 w A' M ⟨ts,[mapB (bD (es.map bP))]⟩ a:=by
 obtain⟨A',Y⟩:∃A':Nat->Prop,A'=λ b=>A b/\∀i id m,i<es.length->Ns i id=some m->0<m.cap->m.b≠b:=⟨_,rfl⟩;have J:∀b,A' b->A b:=λ b h=>by rw[Y]at h;exact h.1
 have W:∀b,A b->(∀i id m,i<es.length->Ns i id=some m->0<m.cap->m.b≠b)->A' b:=λ b h1 h2=>by rw[Y];exact⟨h1,h2⟩
 have ac:∀i,i<es.length->∀id m,Ns i id=some m->0<m.cap->¬ A' m.b:=λ i hi id m h1 h2 h3=>by rw[Y]at h3;exact h3.2 i id m hi h1 h2 rfl
 have O:∀i,i<es.length->∃x,es[i]?=some x/\EntAt w A w0.heap.size A0.w1.heap.size x.2 (Ns i):=λ i hi=>⟨es[i],ze hi,hE.ent i _ (ze hi)⟩;refine⟨A',hs.base,λ b hb=>⟨λ h=>(hs.outer b hb).1 (J b h),λ h=>W b ((hs.outer b hb).2 h) λ i id m hi h1 h2 he=>?_⟩,hs.size,λ t ht=>(hs.tmps t ht).mono (λ _ _ _=>rfl) (zd _) (λ b _ h=>J b h) (aR.refl _),⟨λ id m hm=>?_,hs.heap.inj,λ b h=>hs.heap.lt b (J b h)⟩,hs.defers,⟨hs.ev.size,hs.ev.keep,λ b hb h=>hs.ev.less b hb (J b h),λ b hb h hn=>W b (hs.ev.more b hb h hn) λ i id m hi h1 h2 he=>?_,λ id m h=>by rw[hp]at h;exact absurd h (Nat.not_lt_zero _),hs.ev.src⟩⟩;obtain⟨x,hx,Q⟩:=O i hi;obtain⟨bx,_,q⟩:=Q.hr.box id m h1;have:=q.low h2;omega;have ab:=hM id m hm;cases id with|r n i j=>simp[pB]at ab|b n=>cases n with|succ n=>simp[pB,q0]at ab|zero=>(obtain⟨bx,hb,q⟩:=hs.heap.box _ _ hm;obtain rfl:mapB (bZ es)=bx:=by simpa[getB]using hb);(have hsz:m.sz=2:=q.sz.symm;have V:(bD (es.map bP)).length=(bZ es).length:=by simp[bD,bZ]);refine⟨mapB (bD (es.map bP)),rfl,q.ver,q.sz,q.ty,q.capm,by show (bD (es.map bP)).length<=_;rw[V];exact q.fits,λ x hx=>?_,q.low,q.lt,λ h0=>?_,λ h0=>?_⟩;have hx:x∈bD (es.map bP):=hx;unfold bD at hx;obtain⟨p,_,rfl⟩:=zK.1 hx;rw[hsz];rfl;obtain⟨cc,c1,c2,c3⟩:=q.cells h0;refine⟨cc,by show bY w m (bD (es.map bP)).length cc;rw[V];exact c1,c2,λ i j hi hj=>?_⟩;(have hi':i<es.length:=by have hi:i<(bD (es.map bP)).length:=hi;simpa[bD]using hi);have h3:=c3 i j (by show i<(bZ es).length;rw[Fw];exact hi') hj;(obtain⟨x,hx,Q⟩:=O i hi';have Z:db (mapB (bZ es)).ty j=false:=by rcases j with _|_|j;exact C7;exact C8;omega);unfold fw MV at h3|-;have aa:db (mapB (bD (es.map bP))).ty j=false:=Z;rw[Z]at h3;rw[aa];have h3:aD w A eF (cc.getD (i*m.sz+j) undef) (((bZ es).getD i .top).cells.getD j .top):=h3;show aD w A' eF (cc.getD (i*m.sz+j) undef) (((bD (es.map bP)).getD i .top).cells.getD j .top);rw[KG hx]at h3;rw[xLJ hx];generalize cc.getD (i*m.sz+j) undef=v at h3;rcases j with _|_|j;exact h3.mono (λ _ _ _=>rfl) (zd _) (λ b _ h=>J b h) (aR.refl _);have h3:aD w A eF v (.gptr x.2.g):=h3;cases h3;exact Q.froz J (ac i hi') rfl;omega;have h1:=q.guard h0;refine⟨λ h=>W _ (h1.1 h) λ i id m' hi h2 h3 he=>hE.apm i hi id m' _ m h2 h3 hm h0 he,λ h=>h1.2 (J _ h)⟩
 obtain⟨x,hx,Q⟩:=O i hi;have:=Q.fresh id m h1 h2;omega
end
end Go.Sim.M
end
noncomputable section
set_option maxRecDepth 100000
namespace Go.Sim.M
open Go.RowKit Go.Proofs
def ja(q:Bool):List Nat:=[1,5,6,(uT q 15),(uT q 16),(uT q 17)]
noncomputable def eC(q:Bool)(fb l:List AV)(n i:Int):List AV:=aX 62 [(1,.list 3 fb),(5,vC),(6,.func 105 [vC]),((uT q 15),.list 3 l),((uT q 16),.int .i64 n),((uT q 17),.int .i64 i)]
def CM(q:Bool):aN (cO (uR q 4)):=by cases q<;>kernel_rfl
def CN(q:Bool):aN (cO (uR q 5)):=by cases q<;>kernel_rfl
def CO(q:Bool):aN (cO (uR q 6)):=by cases q<;>kernel_rfl
def CP(q:Bool):aN (cO (uR q 8)):=by cases q<;>kernel_rfl
def LY(q:Bool)(fb l ms:List AV)(n i:Int):cT Tryz.prog (EC 0) none (some true) (cO (uR q 4)) (cO (uR q 4)).toList ⟨(eC q) fb l n i,[mapB ms]⟩ (λ s=>some (dI ((uT q 18)::(ja q)) s))=some ⟨((eC q) fb l n i).set (uT q 18) (.bool (decide (i<n))),[mapB ms]⟩:=by cases q<;>kernel_rfl
def LZ(q:Bool)(fb l ms:List AV)(n i:Int):cT Tryz.prog (EC 0) none (some true) (cO (uR q 5)) (cO (uR q 5)).toList ⟨((eC q) fb l n i).set (uT q 18) (.bool true),[mapB ms]⟩ (λ s=>some (dI ((uE q 8)::(ja q)) s)) =br (decide ((0:Int)<=i)&&decide (i<(l.length:Int))) (br (decide (i.toNat<l.length)&&((l.getD i.toNat .top).cells.length==3&&ef [.list 3,.int .i64,.int .i64] (l.getD i.toNat .top).cells 0)) (some ⟨((eC q) fb l n i).set (uE q 8) (.own (.b 1) 0 0 0),[mapB ms,sg (.agg [.list 3 ((l.getD i.toNat .top).cells.getD 0 .top).toList,.int .i64 ((l.getD i.toNat .top).cells.getD 1 .top).toInt,.int .i64 ((l.getD i.toNat .top).cells.getD 2 .top).toInt])]⟩) none) none:=by cases q<;>kernel_rfl
noncomputable def i8(q:Bool)(fb l:List AV)(n i:Int)(row:List AV)(ff ft:Int):List AV:=((eC q) fb l n i).set (uE q 8) (.eptr 3 [.agg [.list 3 row,.int .i64 ff,.int .i64 ft]] 0 0)
noncomputable def su(q:Bool)(fb l:List AV)(n i:Int)(row:List AV)(ff ft:Int):List AV:=((((i8 q) fb l n i row ff ft).set (uT q 21) (.func 105 [vC])).set (uT q 22) (.eptr 3 [.agg [.list 3 row,.int .i64 ff,.int .i64 ft]] 0 0)).set (uT q 23) (.list 3 row)
def L0(q:Bool)(fb l ms:List AV)(n i:Int)(row:List AV)(ff ft:Int):cT Tryz.prog (EC 0) none (some true) (cO (uR q 6)) ((cO (uR q 6)).toList.take 3) ⟨(i8 q) fb l n i row ff ft,[mapB ms]⟩ some=some ⟨(su q) fb l n i row ff ft,[mapB ms]⟩:=by cases q<;>kernel_rfl
def Lz(q:Bool):(cO (uR q 6)).toList=(cO (uR q 6)).toList.take 3++[(cO (uR q 6)).toList.getD 3 default,(cO (uR q 6)).toList.getD 4 default]:=by cases q<;>kernel_rfl
def LT(q:Bool):((cO (uR q 6)).toList.getD 3 default).op=.call (qa ((cO (uR q 6)).toList.getD 3 default).op):=by cases q<;>kernel_rfl
def L9(q:Bool)(fb l ms:List AV)(n i:Int)(row:List AV)(ff ft:Int):pu ⟨(su q) fb l n i row ff ft,[mapB ms]⟩ (qa ((cO (uR q 6)).toList.getD 3 default).op)=some (105,[.list 3 row,vC]):=by cases q<;>kernel_rfl
def Lj(q:Bool):((cO (uR q 6)).toList.getD 3 default).dst=some (uT q 24):=by cases q<;>kernel_rfl
def Ln(q:Bool):((cO (uR q 6)).toList.getD 3 default).guard=none:=by cases q<;>kernel_rfl
def CW(q:Bool)(fb l ms:List AV)(n i:Int)(row:List AV)(ff ft:Int)(g:Nat):cT Tryz.prog (EC 0) none (some true) (cO (uR q 6)) [(cO (uR q 6)).toList.getD 4 default] ⟨((su q) fb l n i row ff ft).set (uT q 24) (.gptr g),[mapB ms]⟩ (λ s=>some (dI ((uE q 8)::(uE q 9)::(ja q)) s))=some ⟨((i8 q) fb l n i row ff ft).set (uE q 9) (.gptr g),[mapB ms]⟩:=by cases q<;>kernel_rfl
def CX(q:Bool)(fb l ms:List AV)(n i:Int)(row:List AV)(ff ft:Int)(g:Nat):cT Tryz.prog (EC 0) none (some true) (cO (uR q 6)) [(cO (uR q 6)).toList.getD 4 default] ⟨((su q) fb l n i row ff ft).set (uT q 24) (.gptr g),[mapB ms,jJ row]⟩ (λ s=>some (dI ((uE q 8)::(uE q 9)::(ja q)) s))=some ⟨((i8 q) fb l n i row ff ft).set (uE q 9) (.gptr g),[mapB ms,jJ row]⟩:=by cases q<;>kernel_rfl
def p8(q:Bool)(e:EntV):aC:=⟨0,3,94,[.agg (cond q [.list 3 e.row,.osl (.b 2) e.va 0 e.a.length,.osl (.b 3) (e.vb+1) 0 (e.b.length+1)] [.list 3 e.row,.osl (.b 2) (e.va+1) 0 (e.a.length+1),.osl (.b 3) e.vb 0 e.b.length])],false,false⟩
def xHp(q:Bool)(e:EntV)(c:AV):p8 q e=(e.add q c).E:=by cases q<;>(unfold p8 EntV.E EntV.add;simp)
def L2(q:Bool)(fb l ms:List AV)(n i:Int)(row:List AV)(ff ft:Int)(e:EntV):X Tryz.prog (EC 4) none (.region (uR q 7) (cO (uR q 7)) true) ⟨((i8 q) fb l n i row ff ft).set (uE q 9) (.own (.b 1) 0 0 0),[mapB ms,e.E,e.A,e.B]⟩ (λ ex s=>some (ex,dI (ja q) s)) =br (e.vr q==e.vr q&&((e.sl q).length==(e.sl q).length&&(decide (((e.sl q).length+1)*24<=140737488355328)&&decide ((e.sl q).length+1<=4611686018427387904)))) (some (.normal,⟨(eC q) fb l n i,[mapB ms,p8 q e,(e.add q (.agg [.int .i64 ff,.int .i64 ft,.int .i64 1])).A,(e.add q (.agg [.int .i64 ff,.int .i64 ft,.int .i64 1])).B,⟨0,3,100,[.agg [.int .i64 ff,.int .i64 ft,.int .i64 1]],false,true⟩]⟩)) none:=by cases q<;>kernel_rfl
def LH(q:Bool):dw Tryz.prog (xO6.at 4) (EC 4) (.region (uR q 7) (cO (uR q 7)) true):=pM rfl
def L3(q:Bool)(fb l ms:List AV)(n i:Int):cT Tryz.prog (EC 0) none (some true) (cO (uR q 8)) (cO (uR q 8)).toList ⟨(eC q) fb l n i,[mapB ms]⟩ (λ s=>some (dI (ja q) s))=some ⟨(eC q) fb l n (IntKind.i64.wrap (i+1)),[mapB ms]⟩:=by cases q<;>kernel_rfl
def mh(q:Bool)(fb l:List AV)(n i:Int):km ((eC q) fb l n i)=(eC q) fb l n i:=by cases q<;>kernel_rfl
def wc(q:Bool)(fb l:List AV)(n i:Int)(row:List AV)(ff ft:Int):km ((i8 q) fb l n i row ff ft)=(i8 q) fb l n i row ff ft:=by cases q<;>kernel_rfl
def tI(ms:List AV):iY (pB q0) (mapB ms):=Θ
def tJ(ms:List AV)(j:Nat)(hj:j<(mapB ms).sz):db (mapB ms).ty j=false:=by have hj:j<2:=hj;rcases j with _|_|j;exact C7;exact C8;omega
section
variable{w0 w:World}{A0:Cx}{A:Nat->Prop}{M:Id->Option MB}{a:Act}
def qE(q:Bool)(hI:xO6 w0)(hp:A0.pin=0)(aa:∀id,A0.M1 id=none){fb l ms row:List AV}{n i ff ft:Int}{e:EntV}{m:MB}(hs:SR w0 A0 w A M ⟨((i8 q) fb l n i row ff ft).set (uE q 9) (.own (.b 1) 0 0 0),[mapB ms,e.E,e.A,e.B]⟩ a)(hm:M (.b 1)=some m)(hg:m.b=e.g)(h2:∃m,M (.b 2)=some m)(h3:∃m,M (.b 3)=some m)(hb:(e.sl q).length<4294967296){Q:Exit->Act->World->Prop}(hK:∀a' w' A' M',SR w0 A0 w' A' (MR (pB q0) M') ⟨(eC q) fb l n i,[mapB ms]⟩ a'->Mv w A M w' A' M'->(∀b,A' b->b<w'.heap.size)->EntAt w' A' w0.heap.size A0.w1.heap.size (e.add q (.agg [.int .i64 ff,.int .i64 ft,.int .i64 1])) (MR (pB lH) M')->cD (MR (pB lH) M') (MR (pB q0) M')->Q .normal a' w'):(Code.region (uR q 7) (cO (uR q 7)) true).wpIn (cP none) 0 Tryz.prog Q a w:=by
 obtain⟨Y,V⟩:∃t:St,t=⟨(eC q) fb l n i,[mapB ms,(e.add q (.agg [.int .i64 ff,.int .i64 ft,.int .i64 1])).E,(e.add q (.agg [.int .i64 ff,.int .i64 ft,.int .i64 1])).A,(e.add q (.agg [.int .i64 ff,.int .i64 ft,.int .i64 1])).B,⟨0,3,100,[.agg [.int .i64 ff,.int .i64 ft,.int .i64 1]],false,true⟩]⟩:=⟨_,rfl⟩;have hx:=(L2 q) fb l ms n i row ff ft e;have hc:(e.vr q==e.vr q&&((e.sl q).length==(e.sl q).length&&(decide (((e.sl q).length+1)*24<=140737488355328)&&decide ((e.sl q).length+1<=4611686018427387904)))):=by simp only[beq_self_eq_true,Bool.true_and,zf,zl];omega
 rw[hc]at hx;have hx:X Tryz.prog (EC 4) none (.region (uR q 7) (cO (uR q 7)) true) ⟨((i8 q) fb l n i row ff ft).set (uE q 9) (.own (.b 1) 0 0 0),[mapB ms,e.E,e.A,e.B]⟩ (λ ex s=>some (ex,dI (ja q) s))=some (.normal,Y):=by rw[V,<-(xHp q)];exact hx
 have hd:=oH (P:=Tryz.prog) (Inv:=xO6.at 4) (E:=EC 4) (T:=Option (Exit×St)) (good:=λ o=>o=some (.normal,Y)) (bad:=none) xOz (fv 4) rfl Ψ (orcC 4) _ _ _ (LH q) hx;refine hd w0 _ w A M a _ hI (zd 4) (hs.door 4) ?_ none (λ _=>rfl);rintro ex s' a' w' hq ⟨A',M',Z⟩;simp only[z6,zb]at hq;obtain⟨rfl,hk⟩:=hq;obtain⟨ac,O⟩:=hs.undoor (zd 4) Z;have J:=ac.mask (ja q);rw[hk,V]at J;have ab:M' (.b 1)=some m:=HR.same hs.heap J.heap O.ext (n:=1) rfl rfl rfl hm;have h2':∃m,M' (.b 2)=some m:=by obtain⟨m2,h⟩:=h2;obtain⟨m',h',_⟩:=O.ext _ _ h;exact⟨m',h'⟩
 have h3':∃m,M' (.b 3)=some m:=by obtain⟨m2,h⟩:=h3;obtain⟨m',h',_⟩:=O.ext _ _ h;exact⟨m',h'⟩
 have W:=J.cut hp (tI ms) (tJ ms);rw[(mh q)]at W;exact hK _ _ _ _ W O J.heap.lt (J.out aa ab (hg.trans (EntV.add_g q e _).symm) h2' h3') J.heap.split
end
end Go.Sim.M
end
noncomputable section
set_option maxRecDepth 100000
namespace Go.Sim.M
open Go.RowKit Go.Proofs
def wg(q:Bool)(fb l:List AV)(n i:Int)(row:List AV)(ff ft:Int)(g:Nat):km (((i8 q) fb l n i row ff ft).set (uE q 9) (.gptr g))=((i8 q) fb l n i row ff ft).set (uE q 9) (.gptr g):=by cases q<;>kernel_rfl
def ql(q:Bool)(fb l:List AV)(n i:Int)(row:List AV)(ff ft:Int)(g:Nat):(((i8 q) fb l n i row ff ft).set (uE q 9) (.gptr g)).getD (uE q 9) .top=.gptr g:=by cases q<;>kernel_rfl
def CZ(q:Bool)(ms:List AV)(fb l:List AV)(n i:Int)(f:AV):resolve [mapB ms,sg f] eG ((((eC q) fb l n i).set (uE q 8) (.own (.b 1) 0 0 0)).getD (uE q 8) .top)=some (.eptr 3 [f] 0 0):=by cases q<;>kernel_rfl
def CY(q:Bool)(ms:List AV)(fb l:List AV)(n i:Int)(f:AV):freeze [mapB ms,sg f] (aP [mapB ms,sg f] eG ((((eC q) fb l n i).set (uE q 8) (.own (.b 1) 0 0 0)).getD (uE q 8) .top))=[mapB ms,⟨0,3,54,[f],true,true⟩]:=by cases q<;>kernel_rfl
def wE(q:Bool)(fb l:List AV)(n i:Int)(row:List AV)(ff ft:Int):(((eC q) fb l n i).set (uE q 8) (.own (.b 1) 0 0 0)).set (uE q 8) (.eptr 3 [.agg [.list 3 row,.int .i64 ff,.int .i64 ft]] 0 0)=(i8 q) fb l n i row ff ft:=by cases q<;>kernel_rfl
def xH2{f:AV}(h:rz f):(f.cells.length==3&&ef [.list 3,.int .i64,.int .i64] f.cells 0):=by unfold rz at h;simp only[zf]at h;rw[zf];exact⟨beq_iff_eq.2 (zg h.1),h.2.1⟩
def xJE{f:AV}(h:rz f):iM (rowF f)=some (jK f)/\(jK f).length<=4611686018427387904:=by unfold rz at h;simp only[zf,zl]at h;obtain⟨_,_,⟨_,h1⟩,h2⟩:=h;obtain⟨k,hk⟩:=Option.isSome_iff_exists.1 h1;refine⟨?_,h2⟩;unfold jK;rw[hk];rfl
section
variable{w0 w:World}{A0:Cx}{A:Nat->Prop}{M:Id->Option MB}{a:Act}
set_option maxHeartbeats 2000000 in
def vY(q:Bool)(hI:xO6 w0)(hp:A0.pin=0)(al:∀id,A0.M1 id=none){fb l:List AV}{n i:Int}{f:AV}{es:List (List UInt8×EntV)}{Ns:Nat->Id->Option MB}{c:Nat}(hs:SR w0 A0 w A M ⟨(i8 q) fb l n i (rowF f) (f.cells.getD 1 .top).toInt (f.cells.getD 2 .top).toInt,[mapB (bZ es)]⟩ a)(hE:gc w A w0.heap.size A0.w1.heap.size c es Ns M)(hM:∀id m,M id=some m->pB q0 id)(hf:rz f)(hc:c<4294967295){Q:Exit->Act->World->Prop}(hK:∀a' w' A' M' es' Ns',SR w0 A0 w' A' M' ⟨(eC q) fb l n i,[mapB (bZ es')]⟩ a'->(∀id m,M' id=some m->pB q0 id)->gc w' A' w0.heap.size A0.w1.heap.size (c+1) es' Ns' M'->es'.map bP=(iw q) (es.map bP) f->Q .normal a' w'):(Code.seq (.region (uR q 6) (cO (uR q 6)) false) (.region (uR q 7) (cO (uR q 7)) true)).wpIn (cP none) 0 Tryz.prog Q a w:=by
 obtain⟨aq,a8⟩:=xJE hf;refine wpIn_seq (wpIn_region_list (pK none 0 _ (rg (CO q)) _ _ ?_));rw[(Lz q)];refine tz (fv 0) hI (xyi ((L0 q) fb l (bZ es) n i (rowF f) (f.cells.getD 1 .top).toInt (f.cells.getD 2 .top).toInt)) hs λ a1 w1 A1 M1 Y a5=>wpList_plain (Ln q) λ K az=>?_;have a0:=hE.go a5 Y.heap.lt;have ba:=hE.cnt;refine CA (LT q) ((L9 q) fb l (bZ es) n i (rowF f) (f.cells.getD 1 .top).toInt (f.cells.getD 2 .top).toInt) xHS Y (R:=λ v w'=>∃A' M' g,v=.pointer (some ⟨g,0,none⟩)/\Below w0.heap.size w0 w'/\(∀b,b<w0.heap.size->(A' b↔A1 b))/\Mv w1 A1 M1 w' A' M'/\∃H,HR w' A' M' w0.heap.size H/\lm (rowF f) (bZ es) (jK f) g H M') (λ vs a6=>?_) λ v w2 hr=>?_;refine(xGl (w0:=w0) hI Y.base Y.heap a6 aq a8 (by rw[Fw];show es.length<4611686018427387904;omega) (xLA es (jK f))).mono ?_;rintro e w' ⟨v,A',M',g,h1,h2,h3,h4,h5,h6⟩;exact⟨v,h1,A',M',g,h2,h3,h4,h5,h6⟩;obtain⟨A2,M2,g,rfl,an,am,mv2,H,a4,ak⟩:=hr;have V:=Y.put (d:=((cO (uR q 6)).toList.getD 3 default).dst) an (λ b hb=>(am b hb).trans (Y.outer b hb)) mv2 a4 (aD.gptr (w:=w2) (A:=A2) (M:=M2) g);have ap:=a0.go mv2 V.heap.lt;refine az _ _ ?_;rw[(Lj q)]at V|-;generalize a1.put (some (uT q 24)) (.pointer (some ⟨g,0,none⟩))=a2 at V;rcases ak with⟨aa,rfl⟩|⟨aa,rfl,m,hm,hcap,ab⟩;obtain⟨j,x,hx,be,aw,au⟩:=xGm aa;have hj:=vH hx;obtain⟨s3,p3,e3⟩:=rY (orcC 0) ((CW q) fb l (bZ es) n i (rowF f) (f.cells.getD 1 .top).toInt (f.cells.getD 2 .top).toInt g);simp only[z6]at e3;rw[<-zD [_]];refine tz (fv 0) hI p3 V λ a3 w3 A3 M3 J mv3=>wpList_nil ?_;have J:=J.mask ((uE q 8)::(uE q 9)::(ja q));rw[e3]at J;have ar:=J.cut hp (tI _) (tJ _);rw[(wg q)]at ar;have ac:=(ap.go mv3 J.heap.lt).part (q:=pB q0);have O:=ac.ent j x hx;have W:=ar.join (tR M3) hp O (ac.apm j hj);have Z:=W.setT (t:=uE q 9) (y:=.own (.b 1) 0 0 0) λ ht=>by(have h:=W.tmps (uE q 9) ht;rw[(ql q)]at h;have hv:a3.tmps.getD (uE q 9) undef=.pointer (some ⟨x.2.g,0,none⟩):=by rw[aw];generalize a3.tmps.getD (uE q 9) undef=u at h;cases h;rfl);exact(O.own hv).mono (λ _ _ _=>rfl) (zd _) (λ _ _ h=>h) (TB O.ids)
 rw[List.set_set]at Z;obtain⟨m,hm,hcap,ab⟩:=O.one;have hb:(x.2.sl q).length<=c:=by have:=ac.bnd j x hx;cases q;exact this.1;exact this.2
 refine(qE q) hI hp al Z (m:=m) hm ab O.two O.three (by omega) λ a' w' A' M' ah aj af he ai=>?_;have bc:=ac.bnd j x hx;have ag:=ac.upd (k:=x.1) hj aj af he ai (by cases q<;>simp only[EntV.add,cond,z8,zj]<;>omega);refine hK a' w' A' _ _ _ ?_ (tR M') ag ?_;rw[xH1 (e':=x.2.add q (.agg [.int .i64 (f.cells.getD 1 .top).toInt,.int .i64 (f.cells.getD 2 .top).toInt,.int .i64 1])) hx (by cases q<;>rfl)];exact ah;exact xG9 q hx au;have ad:=xJt aa;obtain⟨s3,p3,e3⟩:=rY (orcC 0) ((CX q) fb l (dP (bZ es) (jK f) (.gptr g)) n i (rowF f) (f.cells.getD 1 .top).toInt (f.cells.getD 2 .top).toInt g);simp only[z6]at e3;rw[<-zD [_]];refine tz (fv 0) hI p3 V λ a3 w3 A3 M3 J mv3=>wpList_nil ?_;have J:=J.mask ((uE q 8)::(uE q 9)::(ja q));rw[e3]at J;have a9:=HR.same V.heap J.heap mv3.ext (n:=1) rfl rfl rfl hm;obtain⟨M5,W,a7,ae,h2,h3⟩:=J.newE a9 ab;have ax:=(ap.go mv3 J.heap.lt);have Z:=W.setT (t:=uE q 9) (y:=.own (.b 1) 0 0 0) λ ht=>by(have h:=W.tmps (uE q 9) ht;rw[(ql q)]at h;obtain⟨bx,hb,ao⟩:=W.heap.box _ _ ae;obtain rfl:EntV.E ⟨g,rowF f,[],[],0,0⟩=bx:=by simpa[getB]using hb);(have bb:m.ver=0:=ao.ver.symm;have ay:dy m.ty=false:=by rw[<-ao.ty];rfl);(generalize a3.tmps.getD (uE q 9) undef=u at h;cases h;refine .own _ (.b 1) 0 0 0 m ae (zQ _) rfl λ _=>?_);unfold fD;rw[ay,ab];simp
 rw[List.set_set]at Z;refine(qE q) hI hp al Z (m:=m) ae ab h2 h3 (by cases q<;>simp[EntV.sl]) λ a' w' A' M' ah aj af he ai=>?_;have ag:=ax.add (k:=jK f) (a7.trans aj) af he ai (by cases q<;>simp[EntV.add]);refine hK a' w' A' _ _ _ ?_ (tR M') ag ?_;rw[xH0 ad,EntV.add_g];exact ah;exact xG8 q ad
end
end Go.Sim.M
end
noncomputable section
set_option maxRecDepth 100000
namespace Go.Sim.M
open Go.RowKit Go.Proofs
def wm(q:Bool)(fb l ms:List AV)(n i:Int)(b:Bool):St.eval ⟨((eC q) fb l n i).set (uT q 18) (.bool b),[mapB ms]⟩ (.tmp (uT q 18))=.bool b:=by cases q<;>kernel_rfl
def wu(q:Bool)(fb l ms:List AV)(n i:Int)(b:Bool):dI (ja q) ⟨((eC q) fb l n i).set (uT q 18) (.bool b),[mapB ms]⟩=⟨(eC q) fb l n i,[mapB ms]⟩:=by cases q<;>kernel_rfl
section
variable{w0 w:World}{A0:Cx}{A:Nat->Prop}{M:Id->Option MB}{a:Act}
set_option maxHeartbeats 2000000 in
def qq(q:Bool)(hI:xO6 w0)(hp:A0.pin=0)(ak:∀id,A0.M1 id=none){fb l:List AV}{es:List (List UInt8×EntV)}{Ns:Nat->Id->Option MB}{c:Nat}(hs:SR w0 A0 w A M ⟨(eC q) fb l l.length ((0:Nat):Int),[mapB (bZ es)]⟩ a)(hE:gc w A w0.heap.size A0.w1.heap.size c es Ns M)(hM:∀id m,M id=some m->pB q0 id)(hf:∀i,i<l.length->rz (l.getD i .top))(hc:c+l.length<4294967295){Q:Exit->Act->World->Prop}(hK:∀a' w' A' M' J Ns',SR w0 A0 w' A' M' ⟨(eC q) fb l l.length l.length,[mapB (bZ J)]⟩ a'->(∀id m,M' id=some m->pB q0 id)->gc w' A' w0.heap.size A0.w1.heap.size (c+l.length) J Ns' M'->J.map bP=l.foldl (iw q) (es.map bP)->Q (.exit (uB q 0)) a' w'):(Code.loop (lpJj q)).wpIn (cP none) 0 Tryz.prog Q a w:=by
 refine xyW (λ N a' w'=>∃(i:Nat)(J:List (List UInt8×EntV))(Ns':Nat->Id->Option MB)(A':Nat->Prop)(M':Id->Option MB),N=l.length - i/\i<=l.length/\SR w0 A0 w' A' M' ⟨(eC q) fb l l.length (i:Int),[mapB (bZ J)]⟩ a'/\(∀id m,M' id=some m->pB q0 id)/\gc w' A' w0.heap.size A0.w1.heap.size (c+i) J Ns' M'/\J.map bP=(l.take i).foldl (iw q) (es.map bP)) ?_ l.length a w ⟨0,es,Ns,A,M,rfl,zQ _,hs,hM,hE,rfl⟩;rintro N a' w' ⟨i,J,Ns',A',M',rfl,hi,ai,ao,ab,ac⟩;unfold lpJj;refine wpIn_seq (tD (orcC 0) (fv 0) hI (CM q) ((LY q) fb l (bZ J) l.length i) ai λ a1 w1 A1 M1 W aa=>?_);have an:a1.eval (.tmp (uT q 18))=.bool (decide ((i:Int)<l.length)):=by have h:=W.eval (.tmp (uT q 18));rw[(wm q)]at h;exact h.bool_inv
 refine wpIn_seq (wpIn_cond_split an (λ ht=>wpIn_skip ?_) λ hn=>wpIn_exit ?_);have O:i<l.length:=by simpa using ht
 rw[ht]at W;have h5:=(LZ q) fb l (bZ J) l.length i;rw[zN,xH2 (hf i O)]at h5;have c1:(decide ((0:Int)<=i)&&decide ((i:Int)<(l.length:Int))):=by simp[O]
 have c2:(decide (i<l.length)&&true):=by simp[O]
 rw[c1,c2]at h5;refine wpIn_seq (wpIn_block (wpIn_seq (tD (orcC 0) (fv 0) hI (CN q) h5 W λ a2 w2 A2 M2 Y mv2=>?_)));obtain⟨A3,V,mv3⟩:=Y.settle1 (t:=(uE q 8)) ((CZ q) (bZ J) fb l l.length i _);rw[(CY q),(wE q)]at V;have ad:=V.cut hp (tI _) (tJ _);rw[(wc q)]at ad;have am:=(ab.go ((aa.trans mv2).trans mv3) V.heap.lt).part (q:=pB q0);refine(vY q) hI hp ak ad am (tR M2) (hf i O) (by omega) λ a5 w5 A5 M5 ae Ns5 aj ap al ag=>?_;refine tD (orcC 0) (fv 0) hI (CP q) ((L3 q) fb l (bZ ae) l.length i) aj λ a6 w6 A6 M6 Z mv6=>?_;have hw:IntKind.i64.wrap ((i:Int)+1)=((i+1:Nat):Int):=by rw[il (by omega) (by omega)];omega
 rw[hw]at Z;have af:=Z.cut hp (tI _) (tJ _);rw[(mh q)]at af;refine⟨l.length - (i+1),by omega,i+1,ae,Ns5,A6,_,rfl,O,af,tR M6,(al.go mv6 Z.heap.lt).part,?_⟩;rw[ag,ac];have e:l.take (i+1)=l.take i++[l.getD i .top]:=by rw[List.take_add_one,ze O];simp[z7,O]
 rw[e,List.foldl_append];rfl;have ah:i=l.length:=by(have:¬ ((i:Int)<l.length):=by simpa using hn);omega
 subst ah;have Y:=W.mask (ja q);rw[(wu q)]at Y;have V:=Y.cut hp (tI _) (tJ _);rw[(mh q)]at V;have hst':J.map bP=l.foldl (iw q) (es.map bP):=by rw[ac,y6]
 exact hK a1 w1 A1 _ J Ns' V (tR M1) (ab.go aa W.heap.lt).part hst'
end
end Go.Sim.M
end
noncomputable section
set_option maxRecDepth 100000
namespace Go.Sim.M
open Go.RowKit Go.Proofs
noncomputable def cV(xa xb:List AV):List PE:=xb.foldl (iw true) (xa.foldl (iw false) [])
noncomputable def i7(xa xb:List AV):Bool:=(List.range xa.length).all (λ i=>rz (xa.getD i .top))&&((List.range xb.length).all (λ i=>rz (xb.getD i .top))&&decide (xa.length+xb.length<4294967295))
noncomputable def yG(fa fb:List AV):List AV:=[.list 3 fa,.list 3 fb]++List.replicate 60 (.tuple [])
noncomputable def Cy(fa fb:List AV):List AV:=aX 62 [(0,.list 3 fa),(1,.list 3 fb)]
noncomputable def SD(fa fb:List AV):List AV:=aX 62 [(0,.list 3 fa),(1,.list 3 fb),(5,vC)]
noncomputable def SE(fa fb:List AV):List AV:=aX 62 [(0,.list 3 fa),(1,.list 3 fb),(5,vC),(6,.func 105 [vC])]
noncomputable def Cz:List AV:=aX 62 [(4,.own (.b 0) 0 0 0)]
def vW:aC:=⟨0,1,88,[.own (.b 0) 0 0 0],false,false⟩
def LM:aN (cO 0):=Θ
def LN:aN (cO 1):=Θ
def LP:aN (cO 2):=Θ
def LQ:aN (cO 3):=Θ
def LS:aN (cO 9):=Θ
def CL:aN (cO 15):=Θ
def La(fa fb:List AV):cT Tryz.prog (EC 0) none (some true) (cO 0) (cO 0).toList ⟨yG fa fb,[]⟩ (λ s=>some (dI [0,1] s))=some ⟨Cy fa fb,[]⟩:=Θ
def cR1(fa fb:List AV):cT Tryz.prog (EC 0) none (some true) (cO 1) (cO 1).toList ⟨Cy fa fb,[]⟩ (λ s=>some (dI [0,1,5] s))=some ⟨(Cy fa fb).set 5 (.own (.b 1) 0 0 0),[mapB [],vW]⟩:=Θ
def Lb(fa fb:List AV):((Cy fa fb).set 5 (.own (.b 1) 0 0 0)).getD 5 .top=.own (.b 1) 0 0 0:=Θ
def Lc:oq [mapB [],vW] 1 0 0 0=some (.own (.b 0) 0 0 0):=Θ
def cV3(fa fb:List AV):km (((Cy fa fb).set 5 (.own (.b 1) 0 0 0)).set 5 (.func vpF [.own (.b 0) 0 0 0]))=SD fa fb:=Θ
def cR2(fa fb:List AV):cT Tryz.prog (EC 0) none (some true) (cO 2) (cO 2).toList ⟨SD fa fb,[mapB []]⟩ (λ s=>some (dI [0,1,5,6] s))=some ⟨SE fa fb,[mapB []]⟩:=Θ
def cR3(fa fb:List AV):cT Tryz.prog (EC 0) none (some true) (cO 3) (cO 3).toList ⟨SE fa fb,[mapB []]⟩ (λ s=>some (dI (ja false) s))=some ⟨eC false fb fa fa.length ((0:Nat):Int),[mapB (bZ [])]⟩:=Θ
def cR9(fb l ms:List AV)(n i:Int):cT Tryz.prog (EC 0) none (some true) (cO 9) (cO 9).toList ⟨eC false fb l n i,[mapB ms]⟩ (λ s=>some (dI (ja true) s))=some ⟨eC true fb fb fb.length ((0:Nat):Int),[mapB ms]⟩:=Θ
def K8(fb l ms:List AV)(n i:Int):cT Tryz.prog (EC 0) none (some true) (cO 15) (cO 15).toList ⟨eC true fb l n i,[mapB ms]⟩ (λ s=>some (dI [4] s))=some ⟨Cz,[mapB ms]⟩:=Θ
def cC9:km Cz=Cz:=Θ
def K9(H:List aC):dt Tryz.prog ⟨Cz,H⟩ Tryz.f75.results.toList=some [.own (.b 0) 0 0 0]:=Θ
def SC:Tryz.f75.ntmps=62:=Θ
def cBody:Tryz.f75.body=some cB:=Θ
def si:fG Tryz.prog 75:=⟨_,Tryz.func75,by kernel_rfl,by kernel_rfl⟩
section
variable{w0 w:World}{A0:Cx}{A:Nat->Prop}{M:Id->Option MB}{a:Act}
set_option maxHeartbeats 2000000 in
def xHD(hI:xO6 w0)(hp:A0.pin=0)(aa:∀id,A0.M1 id=none){fa fb:List AV}(Z:i7 fa fb=true)(hs:SR w0 A0 w A M ⟨yG fa fb,[]⟩ a){Q:Exit->Act->World->Prop}(hQ:∀a' w' A' M',SR w0 A0 w' A' M' ⟨Cz,[mapB (bD (cV fa fb))]⟩ a'->Q .ret a' w'):cB.wpIn (cP none) 0 Tryz.prog Q a w:=by unfold i7 at Z;simp only[zf,zI,List.mem_range,zl]at Z;obtain⟨ad,ap,au⟩:=Z;rw[xMi];refine wpIn_seq (tD (orcC 0) (fv 0) hI LM (La fa fb) hs λ a1 w1 A1 M1 ao _=>?_);refine wpIn_seq (tD (orcC 0) (fv 0) hI LN (cR1 fa fb) ao λ a2 w2 A2 M2 ai _=>?_);obtain⟨A3,V⟩:=ai.vptr (Lb fa fb) Lc;have V:=V.cut (b0:=mapB []) (T:=[{vW with frz:=true}]) hp (tI _) (tJ _);rw[cV3]at V;refine wpIn_seq (tD (orcC 0) (fv 0) hI LP (cR2 fa fb) V λ a4 w4 A4 M4 an _=>?_);refine wpIn_seq (wpIn_seq (tD (orcC 0) (fv 0) hI LQ (cR3 fa fb) an λ a5 w5 A5 M5 W _=>?_));have W:=W.cut hp (tI _) (tJ _);rw[mh false]at W;have ag:gc w5 A5 w0.heap.size A0.w1.heap.size 0 [] (λ _=>eF) (MR (pB q0) M5):=⟨λ i x h=>by simp at h,λ i j h=>by simp at h,λ i h=>by simp at h,λ i x h=>by simp at h,zd _⟩;refine wpIn_block (qq false hI hp aa W ag (tR M5) ad (by omega) λ a6 w6 A6 M6 ar Ns6 ah ax ae ab=>?_);simp only[Exit.inBlock,uB,cond,if_true];show Exit.then _ _ .normal a6 w6;refine wpIn_seq (wpIn_seq (tD (orcC 0) (fv 0) hI LS (cR9 fb fa (bZ ar) fa.length fa.length) ah λ a7 w7 A7 M7 J mv7=>?_));have aj:=(ae.go mv7 J.heap.lt).part (q:=pB q0);have J:=J.cut hp (tI _) (tJ _);rw[mh true]at J;refine wpIn_block (qq true hI hp aa J aj (tR M7) ap (by omega) λ a8 w8 A8 M8 am Ns8 al aw af ac=>?_);simp only[Exit.inBlock,uB,cond,if_true];show Exit.then _ _ .normal a8 w8;refine wpIn_seq (tD (orcC 0) (fv 0) hI CL (K8 fb fb (bZ am) fb.length fb.length) al λ a9 w9 A9 M9 O ak=>?_);have aq:=(af.go ak O.heap.lt).part (q:=pB q0);have O:=O.cut hp (tI _) (tJ _);rw[cC9]at O;obtain⟨A10,Y⟩:=SR.final O aq (tR M9) hp;rw[ac,ab]at Y;exact wpIn_ret (hQ _ _ _ _ Y)
end
def xHE{fa fb:List AV}(Z:i7 fa fb):bH Tryz.prog xO6 75 [.list 3 fa,.list 3 fb] [] (.own (.b 0) 0 0 0) [mapB (bD (cV fa fb))]:=by
 refine⟨si,λ w0 w A M vs hI O hR J=>?_⟩;have Y:∀id,M id=none:=λ id=>by cases h:M id with|none=>rfl|some m=>obtain⟨bx,hb,_⟩:=hR.box id m h;cases id<;>simp[getB]at hb
 refine callsIn_wide.1 (callsIn_of_wp_marks (F:=Fence.wide) (n:=0) Tryz.func75 cBody trivial ?_);refine xHD (A0:=⟨A,w,A,M,0,λ _=>False⟩) (A:=A) (M:=M) (fa:=fa) (fb:=fb) hI rfl Y Z ⟨O,λ _ _=>Iff.rfl,?_,λ t ht=>?_,hR,er.nil,Ev.refl (C:=⟨A,w,A,M,0,λ _=>False⟩)⟩ ?_;rw[SC];have:=J.1;simp[yG]at this|-;omega;have hl:vs.length=2:=J.1;rw[SC];show aD w A M _ ((yG fa fb).getD t .top);unfold yG;by_cases Q:t<2;have e1:(vs.toArray++Array.replicate (62 - vs.toArray.size) undef).getD t undef=vs.getD t undef:=by(have:t<vs.length:=Ω);simp[z7,Array.getElem?_append,this]
 rw[e1,Q6 Q];exact J.2 t Q;have ht:t<62:=by(have h0:(yG fa fb).length=62:=by rfl);rw[<-h0];exact ht
 have h1:¬ t<vs.length:=Ω
 have e1:(vs.toArray++Array.replicate (62 - vs.toArray.size) undef).getD t undef=undef:=by(have h2:t - vs.length<62 - vs.length:=Ω);simp[Array.getElem?_append,h1,h2]
 rw[e1,Q7 Q (show t - 2<60 by omega)];exact .tuple #[] [] rfl Ψ;intro a' w' A' M' W;show LeavesInM Fence.wide 0 Tryz.prog Tryz.f75 a'.tmps _ a'.defers .returning w';refine Fj (λ _ h=>h) W λ w2 q=>?_;obtain⟨v,hv,V⟩:=Jl (P:=Tryz.prog) q (K9 _);exact⟨v,hv,v,A',M',rfl,q.base,q.outer,q.ev,q.heap,V⟩
noncomputable def xzC:List AV->List aC->Option (Bool×AV×List aC):=ju (cY (mL 3 bG) (cY (mL 3 bG) jj)) bT λ(xa,(xb,_)) _=>(i7 xa xb,.own (.b 0) 0 0 0,[⟨0,2,dh 88,bD (cV xa xb),false,true⟩])
def xFW:fP Tryz.prog xO6 75 xzC:=rt λ b c r H' h=>by obtain⟨xa,xb,_⟩:=b;obtain⟨h1,h2⟩:=Prod.mk.inj h;obtain⟨rfl,rfl⟩:=Prod.mk.inj h2;exact xHE h1
end Go.Sim.M
end
noncomputable section
set_option maxRecDepth 100000
namespace Go.Sim.M
open Go.RowKit Go.Proofs
def CU:bI AV Nat:=⟨.gptr,fun v=>match v with
 |.gptr g=>some g
 |_=>
 none,λ a b h=>by
  split at h
  . simp only[z6]at h;rw[h]
  . simp at h⟩
noncomputable def sc:dp:=Se.E.withM 75 xzC
def Sa:dA Tryz.prog xO6 sc:=Se.ok.withM xFW
noncomputable def CB:Code:=(jW (kx (cC Tryz.f42))).getD 0 .skip
def cI:aC:=⟨0,2,25,[.agg [.nils,.nils]],false,true⟩
noncomputable def gy(ms:List AV):aC:=⟨0,2,dh 88,ms,true,true⟩
def ic(v:Nat)(xs:List AV):aC:=⟨v,3,54,xs,false,true⟩
noncomputable def FG{T:Type}(row lv:List AV)(c:Int)(v n:Nat)(i:Int)(xs:List AV)(δ:T)(κl κr:T):T:=br (decide (i<c)) (br (decide ((0:Int)<=i)&&decide (i<(↑lv.length:Int))) (br (decide (i.toNat<lv.length)&&((lv.getD i.toNat AV.top).cells.length==(2:Nat)&&ef [Sh.int IntKind.i64,Sh.int IntKind.i64] (lv.getD i.toNat AV.top).cells (0:Nat))) (br (v==v&&(n==xs.length&&(decide ((n+(1:Nat))*(40:Nat)<=(140737488355328:Nat))&&decide (n+(1:Nat)<=(4611686018427387904:Nat))))) κl δ) δ) δ) κr
noncomputable def nT(row lv:List AV)(c:Int):Nat×Nat×Int×List AV->Option ((Nat×Nat×Int×List AV)⊕(Nat×Nat×List AV)):=λ(v,n,i,xs)=>
 FG row lv c v n i xs none (some (.inl (v+1,n+1,IntKind.i64.wrap (i+1),xs++[.agg [.list 3 row,.int .i64 ((lv.getD i.toNat AV.top).cells.getD 0 AV.top).toInt,.int .i64 ((lv.getD i.toNat AV.top).cells.getD 1 AV.top).toInt]]))) (some (.inr (v,n,xs)))
end Go.Sim.M
end
noncomputable section
set_option maxRecDepth 100000
namespace Go.Sim
open Go.RowKit
variable {p:Nat}
def dx.trans{s1 s2 s3:St}(h:dx p s1 s2)(g:dx p s2 s3):dx p s1 s3:=λ w0 A0 w A M a hp hs=>by obtain⟨A1,M1,h1⟩:=h w0 A0 w A M a hp hs;exact g w0 A0 w A1 M1 a hp h1
def QF{ts:List AV}{H:List aC}{t:Nat}{y:AV}(hy:resolve H eG (ts.getD t .top)=some y):dx p ⟨ts,H⟩ ⟨ts.set t y,freeze H (aP H eG (ts.getD t .top))⟩:=λ w0 A0 w A M a hp hs=>by obtain⟨A1,h1,_⟩:=hs.settle1 hy;exact⟨A1,M,h1⟩
def J9(live:List Nat)(s:St):dx p s (dI live s):=λ w0 A0 w A M a hp hs=>⟨A,M,hs.mask live⟩
def xHO{P:Program}{ls:TypeId->Bool}{rs:List ResultVar}{e:Exit}{s:St}{r:AV}(h:qe P ls rs e s=some r):(e=.ret\/e=.normal)/\eE P rs s=some r:=by(have q:∀s,oV P ls rs s=some r->eE P rs s=some r:=λ s h=>by unfold oV at h;split at h;(case h_2=>simp at h);rename_i b xs hx;obtain⟨rfl,h⟩:=jY (good:=λ t=>t=some r) Ψ h;rw[kF]at h;unfold eE;rw[PZ hx];exact h);cases e with|ret=>exact⟨.inl rfl,q s h⟩|normal=>exact⟨.inr rfl,q s h⟩|_=>simp[qe]at h
end Go.Sim
namespace Go.Sim.M
open Go.RowKit Go.Proofs
noncomputable def dN:Code->Array Oper|.seq (.region _ ops _) _=>ops|_=>#[]
noncomputable def d7:Code->Array Oper|.seq _ (.block _ (.loop (.seq (.region _ ops _) _)))=>ops|_=>#[]
def dH(ks fs:List AV):AV:=.agg [.list 1 ks,.list 3 fs]
noncomputable abbrev qb(n:Nat):Array Oper:=oc (ir (Tryz.f42.body.getD .skip) n)
def eA(ks fs:List AV)(z:Bool):aC:=⟨0,2,25,[dH ks fs],z,true⟩
def qt(q:AV):Bool:=q.cells.length==2&&ef [Sh.int IntKind.i64,Sh.int IntKind.i64] q.cells (0:Nat)
def kp(row:List AV)(q:AV):AV:=.agg [.list 3 row,.int .i64 (q.cells.getD 0 .top).toInt,.int .i64 (q.cells.getD 1 .top).toInt]
def UR(row lv:List AV)(J:∀i,i<lv.length->qt (lv.getD i .top)=true):∀(d i v:Nat)(xs:List AV),i+d=lv.length->xs.length+d<=1099511627776->lv.length<=1099511627776->
  aB (nT row lv (lv.length:Nat)) (v,xs.length,(i:Int),xs)=some (v+d,xs.length+d,xs++(lv.drop i).map (kp row))
 |0,i,v,xs,hi,hx,hl=>by
  have e:nT row lv (lv.length:Nat) (v,xs.length,(i:Int),xs)=some (.inr (v,xs.length,xs)):=by
   have h1:decide ((i:Int)<(lv.length:Nat))=false:=by simp;omega
   simp only[nT,FG,h1,br]
  rw[cR e];simp[show i=lv.length by omega]
 |d+1,i,v,xs,hi,hx,hl=>by
  have q:i<lv.length:=by omega
  have hq:=J i q;unfold qt at hq;have hw:IntKind.i64.wrap ((i:Int)+1)=((i+1:Nat):Int):=by rw[il (by omega) (by omega)];omega
  have e:nT row lv (lv.length:Nat) (v,xs.length,(i:Int),xs)=some (.inl (v+1,(xs++[kp row (lv.getD i .top)]).length,((i+1:Nat):Int),xs++[kp row (lv.getD i .top)])):=by
   have h1:decide ((i:Int)<(lv.length:Nat))=true:=by simp;omega
   have h2:(decide ((0:Int)<=i)&&decide ((i:Int)<(lv.length:Nat)))=true:=by simp;omega
   have h3:(decide (i<lv.length)&&((lv.getD i AV.top).cells.length==(2:Nat)&&ef [Sh.int IntKind.i64,Sh.int IntKind.i64] (lv.getD i AV.top).cells (0:Nat)))=true:=by rw[hq];simp[q]
   have h4:(v==v&&(xs.length==xs.length&&(decide ((xs.length+(1:Nat))*(40:Nat)<=(140737488355328:Nat))&&decide (xs.length+(1:Nat)<=(4611686018427387904:Nat)))))=true:=by
    simp only[beq_self_eq_true,Bool.true_and,zf,zl];omega
   simp only[nT,FG,zN,h1,h2,h3,h4,br,hw];simp[kp]
  rw[en e,UR row lv J d (i+1) (v+1) (xs++[kp row (lv.getD i .top)]) (by omega) (by simp;omega) hl]
  have e2:lv.drop i=lv.getD i .top::lv.drop (i+1):=by
   rw[List.drop_eq_getElem_cons q];simp[z7,q]
  rw[e2];simp;omega
def jC(fk:Nat->List AV)(s:Nat×List AV)(k:Nat):(Nat×List AV)⊕Unit:=.inl (s.1+(fk k).length,s.2++fk k)
def Mq(fk:Nat->List AV):∀(ord:List Nat)(v:Nat)(xs:List AV),∃v',ord.foldl (jD (jC fk)) (.inl (v,xs))=.inl (v',xs++ord.flatMap fk)|[],v,xs=>⟨v,by simp⟩|k::ord,v,xs=>by obtain⟨v',h⟩:=Mq fk ord (v+(fk k).length) (xs++fk k);refine⟨v',?_⟩;rw[List.foldl_cons];show ord.foldl (jD (jC fk)) (Sum.inl (v+(fk k).length,xs++fk k))=_;rw[h];simp
variable {fk:Nat->List AV}{n:Nat}
def xzb{done:List Nat}(h1:done.Nodup)(h2:∀i,i∈done->i<n):(done.flatMap fk).length<=((List.range n).flatMap fk).length:=by obtain⟨l',q⟩:=xz0 h1 h2;have:=(q.flatMap_right fk).length_eq;rw[List.flatMap_append,z8]at this;omega
def xAz{done:List Nat}{k:Nat}(h1:done.Nodup)(h2:∀i,i∈done->i<n)(h3:k∉done)(h4:k<n):(done.flatMap fk).length+(fk k).length<=((List.range n).flatMap fk).length:=by
 have:=xzb (fk:=fk) (done:=done++[k]) (n:=n) (by
  rw [List.nodup_append];exact ⟨h1,by simp,fun a ha b hb=>by simp at hb;subst hb;exact fun e=>h3 (e▸ha)⟩) (fun i hi=>by
  rcases zG.1 hi with h|h
  . exact h2 i h
  . simp at h;omega)
 simpa using this
noncomputable def gP(op:List AV->List AV->Option (List AV))(p:PE):List AV:=(kD ((op ((e7 p.2.2.1).getD []) ((e7 p.2.2.2).getD [])).getD [])).getD []
noncomputable def my(op:List AV->List AV->Option (List AV))(p:PE):Bool:=(e7 p.2.2.1).isSome&&((e7 p.2.2.2).isSome&&((op ((e7 p.2.2.1).getD []) ((e7 p.2.2.2).getD [])).isSome&&((kD ((op ((e7 p.2.2.1).getD []) ((e7 p.2.2.2).getD [])).getD [])).isSome && (List.range (gP op p).length).all λ i=>qt ((gP op p).getD i .top))))
noncomputable def fu(op:List AV->List AV->Option (List AV))(ps:List PE)(k:Nat):List AV:=(gP op (ps.getD k cZ)).map (kp (ps.getD k cZ).2.1)
noncomputable def fJ(op:List AV->List AV->Option (List AV))(ps:List PE):List AV:=(List.range ps.length).flatMap (fu op ps)
open Classical in
noncomputable def kg(op:List AV->List AV->Option (List AV))(fa fb:List AV):Bool:=i7 fa fb&&((List.range (cV fa fb).length).all (λ k=>my op ((cV fa fb).getD k cZ))&&(decide ((fJ op (cV fa fb)).length<=1099511627776) && (decide (∀ord:List Nat,ord.Perm (List.range (cV fa fb).length)->o8 (ord.flatMap (fu op (cV fa fb)))=o8 (fJ op (cV fa fb)))&&(o8 (fJ op (cV fa fb))).isSome)))
noncomputable def ly(op:List AV->List AV->Option (List AV))(fa fb:List AV):Option (List AV):=match kg op fa fb with|true=>o8 (fJ op (cV fa fb))|false=>none
def xFT{op:List AV->List AV->Option (List AV)}{fa fb:List AV}(h:(ly op fa fb).isSome):kg op fa fb/\ly op fa fb=o8 (fJ op (cV fa fb)):=by unfold ly at h|-;cases hc:kg op fa fb with|true=>exact⟨rfl,rfl⟩|false=>rw[hc]at h;simp at h
end Go.Sim.M
end
noncomputable section
set_option maxRecDepth 100000
namespace Go.Sim.M
open Go.RowKit Go.Proofs
variable(g:FuncId)
noncomputable abbrev MG:dp:=sc.fn 57 3 (eX [54]) (jL [])
def xLb:dA Tryz.prog (xO6.at 3) MG:=Sa.fn
def xK7:dw Tryz.prog (xO6.at 3) MG CB:=pM Θ
def vN(ra row ea eb lv ms:List AV)(r:Nat)(c:Int):Nat×Nat×Int×List AV->List AV×List aC:=λ(v,n,i,xs)=>([.func g [],.eptr 2 ra 0 0,.own 0 0 0 0,.osl 1 v 0 n,.eptr 3 [.agg [.list 3 row,.list 3 ea,.list 3 eb]] 0 0,.gptr r,.list 2 lv,.int .i64 c,.int .i64 i],[⟨0,2,25,[.agg [.nils,.nils]],false,true⟩,⟨v,3,54,xs,false,true⟩,⟨0,2,dh 88,ms,true,true⟩])
def Co(ra ms:List AV)(r:Nat):Nat×Nat×List AV->LR:=λ p=>.leaf (.exit 2) [.func g [],.eptr 2 ra 0 0,.own 0 0 0 0,.osl 1 p.1 0 p.2.1,.gptr r] [⟨0,2,25,[.agg [.nils,.nils]],false,true⟩,⟨p.1,3,54,p.2.2,false,true⟩,⟨0,2,dh 88,ms,true,true⟩]
noncomputable abbrev Wm(vals:List AV)(H:List aC):=XR Tryz.prog MG [2,3,6,7,9,17,34,35,36] [2,3,6,7,17] [(7,3,54)] CB vals H
def xM1(ra row ea eb lv ms:List AV)(r:Nat)(c:Int)(s:Nat×Nat×Int×List AV):dQ (encR ((vN g) ra row ea eb lv ms r c) ((Co g) ra ms r)) (nT row lv c s) (Wm ((vN g) ra row ea eb lv ms r c s).1 ((vN g) ra row ea eb lv ms r c s).2):=by(obtain⟨v,n,i,xs⟩:=s;have h:Wm ((vN g) ra row ea eb lv ms r c (v,n,i,xs)).1 ((vN g) ra row ea eb lv ms r c (v,n,i,xs)).2=FG row lv c v n i xs none (some (encR ((vN g) ra row ea eb lv ms r c) ((Co g) ra ms r) (.inl (v+1,n+1,IntKind.i64.wrap (i+1),xs++[.agg [.list 3 row,.int .i64 ((lv.getD i.toNat AV.top).cells.getD 0 AV.top).toInt,.int .i64 ((lv.getD i.toNat AV.top).cells.getD 1 AV.top).toInt]])))) (some (encR ((vN g) ra row ea eb lv ms r c) ((Co g) ra ms r) (.inr (v,n,xs)))):=by kernel_rfl);rw[h];unfold nT FG;repeat' (first|refine dQ.br ?_ ?_|exact dQ.none|exact dQ.some rfl)
noncomputable def MK:Lp:=sA [2,3,6,7,9,17,34,35,36] [2,3,6,7,17] [(7,3,54)] (bL (em g bT) (bL (ub 2 0 0 bG) (bL (dz 0 0 0 0) (bL (mD 1 0) (bL (ub 3 0 0 (bL (gA (bL (wS 3 bG) (bL (wS 3 bG) (bL (wS 3 bG) bT)))) bT)) (bL CU (bL (wS 2 bG) (bL (pInt .i64) (bL (pInt .i64) bT))))))))) (bL (fY 0 2 25 false true (bL (gA (bL eD (bL eD bT))) bT)) (bL (mC 3 54 false true bG) (bL (fY 0 2 (dh 88) true true bG) bT))) λ(_,(ra,(_,((v,n),((((row,(ea,(eb,_))),_)),(r,(lv,(c,(i,_))))))))) (_,((v',xs),(ms,_)))=>(Nat.beq v v'&&(aB (nT row lv c) (v,n,i,xs)).isSome,(Co g) ra ms r ((aB (nT row lv c) (v,n,i,xs)).getD (0,0,[])))
def xLa:dU Tryz.prog (xO6.at 3) 57 CB (MK g):=V1 λ vv bb rr hh=>by obtain⟨_,⟨ra,⟨_,⟨⟨v,n⟩,⟨⟨⟨row,⟨ea,⟨eb,_⟩⟩⟩,_⟩,⟨r,⟨lv,⟨c,⟨i,_⟩⟩⟩⟩⟩⟩⟩⟩⟩:=vv;obtain⟨_,⟨⟨v',xs⟩,⟨ms,_⟩⟩⟩:=bb;obtain⟨q,rfl⟩:=Prod.mk.inj hh;rw[zf]at q;obtain⟨hv,q⟩:=q;have hv:=zg hv;subst hv;exact xyb xOz (xOA Tryz.prog _) rfl xLb xK7 ((vN g) ra row ea eb lv ms r c) ((Co g) ra ms r) (λ p=>by simp only[Co,LR.eval];simp) ((xM1 g) ra row ea eb lv ms r c) (s:=(v,n,i,xs)) (qS q)
end Go.Sim.M
end
noncomputable section
set_option maxRecDepth 100000
namespace Go.Sim.M
open Go.RowKit Go.Proofs
variable(g:FuncId)
noncomputable abbrev F5:dp:=sc.fn 57 3 (eX [54]) (jL [(6,(MK g))])
def xLc:dA Tryz.prog (xO6.at 3) (F5 g):=Sa.fn
noncomputable abbrev tT:dp:=sc.fn 57 0 (eX [54]) (jL [])
def Mc:dA Tryz.prog (xO6.at 0) tT:=Sa.fn
def xK8:dw Tryz.prog (xO6.at 3) (F5 g) (kx (cC Tryz.f42)):=yu (ls:=[CB]) Θ (fun l hl lp hs=>by
 simp only[zC,List.not_mem_nil,or_false]at hl;rcases hl with rfl;rw[show (F5 g).lp (jp CB)=some (MK g) by kernel_rfl]at hs
 cases hs;exact (xLa g))
noncomputable def vM(ra:List AV)(v n r:Nat):List AV:=aX 57 [(2,.func g []),(3,.eptr 2 ra 0 0),(6,.own 0 0 0 0),(7,.osl 1 v 0 n),(17,.gptr r)]
def yC(g:FuncId)(o:List AV->List AV->Option (List AV)):Prop:=∀(ra row ea eb ms xs:List AV)(s:List UInt8)(v n r:Nat),XM Tryz.prog (F5 g) (d8 (cC Tryz.f42)) (kx (cC Tryz.f42)) [2,3,6,7,17] (qA ((vM g) ra v n r) 18 19 20 s (nw row ea eb)) [cI,ic v xs,gy ms] =br (e7 ea).isSome (br (e7 eb).isSome (br (o ((e7 ea).getD []) ((e7 eb).getD [])).isSome (br (kD ((o ((e7 ea).getD []) ((e7 eb).getD [])).getD [])).isSome (br (v.beq v&&(aB (nT row ((kD ((o ((e7 ea).getD []) ((e7 eb).getD [])).getD [])).getD []) (↑((kD ((o ((e7 ea).getD []) ((e7 eb).getD [])).getD [])).getD []).length:Int)) (v,n,(0:Int),xs)).isSome) (some (Exit.normal,[AV.func g [],AV.eptr 2 ra 0 0,AV.own 0 0 0 0,AV.osl 1 ((aB (nT row ((kD ((o ((e7 ea).getD []) ((e7 eb).getD [])).getD [])).getD []) (↑((kD ((o ((e7 ea).getD []) ((e7 eb).getD [])).getD [])).getD []).length:Int)) (v,n,(0:Int),xs)).getD ((0:Nat),(0:Nat),[])).fst 0 ((aB (nT row ((kD ((o ((e7 ea).getD []) ((e7 eb).getD [])).getD [])).getD []) (↑((kD ((o ((e7 ea).getD []) ((e7 eb).getD [])).getD [])).getD []).length:Int)) (v,n,(0:Int),xs)).getD ((0:Nat),(0:Nat),[])).snd.fst,AV.gptr r],[cI,ic ((aB (nT row ((kD ((o ((e7 ea).getD []) ((e7 eb).getD [])).getD [])).getD []) (↑((kD ((o ((e7 ea).getD []) ((e7 eb).getD [])).getD [])).getD []).length:Int)) (v,n,(0:Int),xs)).getD ((0:Nat),(0:Nat),[])).fst ((aB (nT row ((kD ((o ((e7 ea).getD []) ((e7 eb).getD [])).getD [])).getD []) (↑((kD ((o ((e7 ea).getD []) ((e7 eb).getD [])).getD [])).getD []).length:Int)) (v,n,(0:Int),xs)).getD ((0:Nat),(0:Nat),[])).snd.snd,gy ms])) none) none) none) none) none
noncomputable def C6(ka fa kb fb:List AV):List AV:=aX 57 [(2,.func g []),(3,.eptr 2 [dH ka fa] 0 0),(4,.eptr 2 [dH kb fb] 0 0),(6,.own 0 0 0 0),(7,.osl 1 0 0 0)]
noncomputable def FN(ka fa kb fb:List AV):List AV:=(((((C6 g) ka fa kb fb).set 12 (.eptr 2 [dH ka fa] 0 1)).set 13 (.list 3 fa)).set 14 (.eptr 2 [dH kb fb] 0 1)).set 15 (.list 3 fb)
def xLd(ka fa kb fb:List AV):cT Tryz.prog tT none (some true) (dN (cC Tryz.f42)) (dN (cC Tryz.f42)).toList.dropLast ⟨(C6 g) ka fa kb fb,[cI,ic 0 []]⟩ some =br (i7 fa fb) (some ⟨((FN g) ka fa kb fb).set 16 (.own 2 0 0 0),[cI,ic 0 [],mapB (bD (cV fa fb))]⟩) none:=Θ
def xJc:Tryz.f42.body.getD .skip=.seq (.region 0 (qb 0) false) (.seq (.region 1 (qb 1) false) (.seq (cC Tryz.f42) (.seq (.region 10 (qb 10) false) .ret))):=Θ
def xLe:cC Tryz.f42=lJ 2 (dN (cC Tryz.f42)) 0 3 (d7 (cC Tryz.f42)) 19 1 4 (d8 (cC Tryz.f42)) (kx (cC Tryz.f42)):=Θ
noncomputable def MH(ka fa kb fb:List AV):List AV:=[dH ka fa,dH kb fb,.func g []]++List.replicate 54 (.tuple [])
noncomputable def r9(ka fa kb fb:List AV):List AV:=((((MH g) ka fa kb fb).set 3 (.own 0 0 0 0)).set 4 (.own 1 0 0 0)).set 6 (.own 2 0 0 0)
def xMu(ka fa kb fb:List AV):cT Tryz.prog tT none (some true) (qb 0) (qb 0).toList ⟨(MH g) ka fa kb fb,[]⟩ some=some ⟨(r9 g) ka fa kb fb,[eA ka fa false,eA kb fb false,cI]⟩:=Θ
def xMv(ka fa kb fb:List AV):cT Tryz.prog tT none (some true) (qb 1) (qb 1).toList ⟨(r9 g) ka fa kb fb,[eA ka fa false,eA kb fb false,cI]⟩ some=some ⟨((r9 g) ka fa kb fb).set 7 .nils,[eA ka fa false,eA kb fb false,cI]⟩:=Θ
def xMq:aN (qb 0):=Θ
def xMr:aN (qb 1):=Θ
def xMy(ka fa kb fb:List AV):resolve [eA ka fa false,eA kb fb false,cI] eG ((((r9 g) ka fa kb fb).set 7 .nils).getD 3 .top)=some (.eptr 2 [dH ka fa] 0 0):=Θ
def xMj(ka fa kb fb:List AV):freeze [eA ka fa false,eA kb fb false,cI] (aP [eA ka fa false,eA kb fb false,cI] eG ((((r9 g) ka fa kb fb).set 7 .nils).getD 3 .top))=[eA ka fa true,eA kb fb false,cI]:=Θ
def xMz(ka fa kb fb:List AV):resolve [eA ka fa true,eA kb fb false,cI] eG (((((r9 g) ka fa kb fb).set 7 .nils).set 3 (.eptr 2 [dH ka fa] 0 0)).getD 4 .top)=some (.eptr 2 [dH kb fb] 0 0):=Θ
def xMk(ka fa kb fb:List AV):freeze [eA ka fa true,eA kb fb false,cI] (aP [eA ka fa true,eA kb fb false,cI] eG (((((r9 g) ka fa kb fb).set 7 .nils).set 3 (.eptr 2 [dH ka fa] 0 0)).getD 4 .top))=[eA ka fa true,eA kb fb true,cI]:=Θ
def xMt(ka fa kb fb:List AV):gx 0 [(7,3,54)] [2,3,4,6,7] ⟨((((r9 g) ka fa kb fb).set 7 .nils).set 3 (.eptr 2 [dH ka fa] 0 0)).set 4 (.eptr 2 [dH kb fb] 0 0),[eA ka fa true,eA kb fb true,cI]⟩=some ([.func g [],.eptr 2 [dH ka fa] 0 0,.eptr 2 [dH kb fb] 0 0,.own 0 0 0 0,.osl 1 0 0 0],[cI,ic 0 []]):=Θ
def xMp(ka fa kb fb:List AV):aX (((((r9 g) ka fa kb fb).set 7 .nils).set 3 (.eptr 2 [dH ka fa] 0 0)).set 4 (.eptr 2 [dH kb fb] 0 0)).length ([2,3,4,6,7].zip [.func g [],.eptr 2 [dH ka fa] 0 0,.eptr 2 [dH kb fb] 0 0,.own 0 0 0 0,.osl 1 0 0 0])=(C6 g) ka fa kb fb:=Θ
def xMw(ka fa kb fb:List AV):dx 0 ⟨((r9 g) ka fa kb fb).set 7 .nils,[eA ka fa false,eA kb fb false,cI]⟩ ⟨(C6 g) ka fa kb fb,[cI,ic 0 []]⟩:=by have h1:=QF (p:=0) ((xMy g) ka fa kb fb);rw[(xMj g)]at h1;have h2:=QF (p:=0) ((xMz g) ka fa kb fb);rw[(xMk g)]at h2;have h3:=uW ((xMt g) ka fa kb fb);rw[(xMp g)]at h3;exact(h1.trans h2).trans h3
noncomputable def Wn(ra:List AV)(v n:Nat):List AV:=aX 57 [(3,.eptr 2 ra 0 0),(6,.own 0 0 0 0),(7,.osl 1 v 0 n)]
def xMn(ra:List AV)(v n r:Nat)(H:List aC):dI [3,6,7] ⟨(((vM g) ra v n r).set 18 (.tuple [.bool false])).set 19 (.bool false),H⟩=⟨Wn ra v n,H⟩:=Θ
def xKV(ka fa xs ms:List AV)(v n:Nat):X Tryz.prog tT none (.seq (.region 10 (qb 10) false) .ret) ⟨Wn [dH ka fa] v n,[cI,ic v xs,gy ms]⟩ (qe Tryz.prog tT.ls Tryz.f42.results.toList) =br (decide (((0:Nat)+ka.length)*(8:Nat)<=(140737488355328:Nat))&&decide ((0:Nat)+ka.length<=(4611686018427387904:Nat))) (br (v==v&&decide ((0:Nat)+n<=xs.length)&&true) (br (o8 (List.take n (List.drop (0:Nat) xs))).isSome (br (decide ((0:Nat)+((0:Nat)+ka.length)<=([]++ka).length)&&true&&true) (some (AV.agg [AV.list (1:Nat) (List.take ((0:Nat)+ka.length) (List.drop (0:Nat) ([]++ka))),AV.list (3:Nat) ((o8 (List.take n (List.drop (0:Nat) xs))).getD [])])) none) none) none) none:=Θ
def xK9:dw Tryz.prog (xO6.at 0) tT (.seq (.region 10 (qb 10) false) .ret):=pM Θ
def xHv:(dN (cC Tryz.f42)).toList=(dN (cC Tryz.f42)).toList.dropLast++[(dN (cC Tryz.f42)).toList.getLastD default]:=Θ
def xJf:aN (dN (cC Tryz.f42)):=Θ
def xK5:((dN (cC Tryz.f42)).toList.getLastD default).op=.range 88 (.tmp 16):=Θ
def xKY:((dN (cC Tryz.f42)).toList.getLastD default).dst=some 17:=Θ
def xK1:((dN (cC Tryz.f42)).toList.getLastD default).guard=none:=Θ
def xHt:(d7 (cC Tryz.f42)).toList=[(d7 (cC Tryz.f42)).toList.getD 0 default,(d7 (cC Tryz.f42)).toList.getD 1 default]:=Θ
def xJd:aN (d7 (cC Tryz.f42)):=Θ
def xK3:((d7 (cC Tryz.f42)).toList.getD 0 default).op=.next (.tmp 17) false:=Θ
def xKW:((d7 (cC Tryz.f42)).toList.getD 0 default).dst=some 18:=Θ
def xKx:((d7 (cC Tryz.f42)).toList.getD 0 default).guard=none:=Θ
def xK4:((d7 (cC Tryz.f42)).toList.getD 1 default).op=.extract (.tmp 18) 0:=Θ
def xKX:((d7 (cC Tryz.f42)).toList.getD 1 default).dst=some 19:=Θ
def xK0:((d7 (cC Tryz.f42)).toList.getD 1 default).guard=none:=Θ
def xHu:(d8 (cC Tryz.f42)).toList=((d8 (cC Tryz.f42)).toList.getD 0 default)::(d8 (cC Tryz.f42)).toList.drop 1:=Θ
def xJe:aN (d8 (cC Tryz.f42)):=Θ
def xK6:((d8 (cC Tryz.f42)).toList.getD 0 default).op=.entry (.tmp 17):=Θ
def xKZ:((d8 (cC Tryz.f42)).toList.getD 0 default).dst=some 20:=Θ
def xK2:((d8 (cC Tryz.f42)).toList.getD 0 default).guard=none:=Θ
def xMl(ka fa kb fb:List AV)(H:List aC):St.eval ⟨((FN g) ka fa kb fb).set 16 (.own 2 0 0 0),H⟩ (.tmp 16)=.own (.b 2) 0 0 0:=Θ
def MI(ms:List AV):freeze [cI,ic 0 [],mapB ms] [2]=[cI,ic 0 [],gy ms]:=Θ
def xMs(ka fa kb fb ms:List AV)(r:Nat):gx 3 [] [2,3,6,7,17] ⟨(((FN g) ka fa kb fb).set 16 (.own 2 0 0 0)).set 17 (.gptr r),[cI,ic 0 [],gy ms]⟩=some ([.func g [],.eptr 2 [dH ka fa] 0 0,.own 0 0 0 0,.osl 1 0 0 0,.gptr r],[cI,ic 0 [],gy ms]):=Θ
def xMo(ka fa kb fb:List AV)(r:Nat):aX ((((FN g) ka fa kb fb).set 16 (.own 2 0 0 0)).set 17 (.gptr r)).length ([2,3,6,7,17].zip [.func g [],.eptr 2 [dH ka fa] 0 0,.own 0 0 0 0,.osl 1 0 0 0,.gptr r])=(vM g) [dH ka fa] 0 0 r:=Θ
def xMm(ra:List AV)(v n r:Nat):((vM g) ra v n r)[17]?=some (.gptr r):=Θ
def Vl(ra:List AV)(v n r:Nat):((vM g) ra v n r).length=57:=Θ
end Go.Sim.M
end
noncomputable section
set_option maxRecDepth 100000
namespace Go.Sim.M
open Go.RowKit Go.Proofs
variable(g:FuncId)
def xJa(ka fa kb fb:List AV):([dH ka fa,dH kb fb,.func g []]:List AV)++List.replicate (Tryz.f42.ntmps - ([dH ka fa,dH kb fb,.func g []]:List AV).length) (.tuple [])=(MH g) ka fa kb fb:=Θ
def xJb:Tryz.f42.body=some (Tryz.f42.body.getD .skip):=Θ
def xM0(ka fa kb fb:List AV)(h:i7 fa fb):dV (iA Tryz.prog (xO6.at 0)) (dN (cC Tryz.f42)) (dN (cC Tryz.f42)).toList.dropLast ⟨(C6 g) ka fa kb fb,[cI,ic 0 []]⟩ ⟨((FN g) ka fa kb fb).set 16 (.own 2 0 0 0),[cI,ic 0 [],mapB (bD (cV fa fb))]⟩:=by have h1:=(xLd g) ka fa kb fb;rw[h]at h1;obtain⟨s1,h2,h3⟩:=rY Mc (K:=some) h1;cases h3;exact h2
def US{ops:Array Oper}{l:List Oper}{s s':St}(h:cT Tryz.prog tT none (some true) ops l s some=some s'):dV (iA Tryz.prog (xO6.at 0)) ops l s s':=by obtain⟨s1,h2,h3⟩:=rY Mc h;cases h3;exact h2
variable {o:List AV->List AV->Option (List AV)}
def xHw(O:yC g o){ra:List AV}{ps:List PE}(V:∀k,k<ps.length->my o (ps.getD k cZ)){s:Nat×List AV}{k r:Nat}(hk:k<ps.length)(hl:s.2.length+(fu o ps k).length<=1099511627776):∃s2,dV (iA Tryz.prog (xO6.at 3)) (d8 (cC Tryz.f42)) ((d8 (cC Tryz.f42)).toList.drop 1) ⟨qA ((vM g) ra s.1 s.2.length r) 18 19 20 (fe (gy (bD ps)) k) (fX 2 (gy (bD ps)) k),[cI,ic s.1 s.2,gy (bD ps)]⟩ s2/\bK Tryz.prog (xO6.at 3) (kx (cC Tryz.f42)) (λ e s'=>e=.normal/\dx 3 s' ⟨(vM g) ra (s.1+(fu o ps k).length) (s.2++fu o ps k).length r,[cI,ic (s.1+(fu o ps k).length) (s.2++fu o ps k),gy (bD ps)]⟩) s2:=by
 have q:fX 2 (gy (bD ps)) k=nw (ps.getD k cZ).2.1 (ps.getD k cZ).2.2.1 (ps.getD k cZ).2.2.2:=by(have e:(bD ps).getD k .top=wB (ps.getD k cZ):=by simp[bD,z7,hk]);have e2:(gy (bD ps)).xs=bD ps:=rfl;have e3:db (gy (bD ps)).ty 1=false:=C8;unfold fX fw;rw[e3,e2,e];rfl
 rw[q];have hv:=V k hk;unfold my at hv;simp only[zf,zI,List.mem_range]at hv;obtain⟨h1,h2,h3,h4,h5⟩:=hv;have J:(fu o ps k).length=(gP o (ps.getD k cZ)).length:=by simp[fu]
 have hit:aB (nT (ps.getD k cZ).2.1 (gP o (ps.getD k cZ)) (↑(gP o (ps.getD k cZ)).length:Int)) (s.1,s.2.length,(0:Int),s.2)=some (s.1+(gP o (ps.getD k cZ)).length,s.2.length+(gP o (ps.getD k cZ)).length,s.2++((gP o (ps.getD k cZ)).drop 0).map (kp (ps.getD k cZ).2.1)):=UR (ps.getD k cZ).2.1 (gP o (ps.getD k cZ)) h5 (gP o (ps.getD k cZ)).length 0 s.1 s.2 Ω Ω Ω;have hx:=O ra (ps.getD k cZ).2.1 (ps.getD k cZ).2.2.1 (ps.getD k cZ).2.2.2 (bD ps) s.2 (fe (gy (bD ps)) k) s.1 s.2.length r;have Q:s.1.beq s.1:=Nat.beq_refl _;rw[h1,h2,h3,h4]at hx;simp only[aW,aH]at hx;rw[show (kD ((o ((e7 (ps.getD k cZ).2.2.1).getD []) ((e7 (ps.getD k cZ).2.2.2).getD [])).getD [])).getD []=gP o (ps.getD k cZ) from rfl,hit,Q]at hx;simp only[zk,Bool.and_self,aW,zh,zr,aH]at hx;obtain⟨s2,g1,g2⟩:=xJm xOz (xOA Tryz.prog _) rfl (xLc g) (xK8 g) hx;refine⟨s2,g1,l7 g2 λ e s'⟨he,hw⟩=>⟨he,?_⟩⟩;rw[J];have hn:s.2.length+(gP o (ps.getD k cZ)).length=(s.2++fu o ps k).length:=by rw[z8,J]
 rw[hn]at hw;exact hw
def xFX(ac:yC g o){ka fa kb fb:List AV}(hk:ka.length<=1099511627776)(h:kg o fa fb):Good Tryz.prog xO6 42 [dH ka fa,dH kb fb,.func g []] (.agg [.list 1 ka,.list 3 ((o8 (fJ o (cV fa fb))).getD [])]):=by
 unfold kg at h;simp only[zf,zI,List.mem_range,zl]at h;obtain⟨Y,af,aa,Q,O⟩:=h;refine yr (p:=0) (U3 (xOA Tryz.prog _) Tryz.func42 xJb Θ ?_);rw[(xJa g),xJc];refine pP (QW (xOA Tryz.prog _) xMq (US ((xMu g) ka fa kb fb)) ?_);refine pP (QW (xOA Tryz.prog _) xMr (US ((xMv g) ka fa kb fb)) ?_);refine vm ((xMw g) ka fa kb fb) (pP ?_);rw[xLe];refine l7 (xCC (Inv:=xO6.at 0) (xOA Tryz.prog _) (σ:=Nat×List AV) (ρ:=Unit) (pre:=(dN (cC Tryz.f42)).toList.dropLast) (exts:=(d8 (cC Tryz.f42)).toList.drop 1) (o9:=(dN (cC Tryz.f42)).toList.getLastD default) (o0:=(d7 (cC Tryz.f42)).toList.getD 0 default) (o1:=(d7 (cC Tryz.f42)).toList.getD 1 default) (oe:=(d8 (cC Tryz.f42)).toList.getD 0 default) (it:=17) (tn:=18) (tb:=19) (te:=20) (tyM:=88) (kt:=9) (et:=90) (mo:=.tmp 16) xHv xJf xK5 xKY xK1 MN xHt xJd xK3 xKW xKx xK4 xKX xK0 xHu xJe xK6 xKZ xK2 (by decide) (by decide) (by decide) ((xM0 g) ka fa kb fb Y) (nb:=2) (ver:=0) (i:=0) (j:=0) ((xMl g) ka fa kb fb _) (bx:=gy (bD (cV fa fb))) (by rw[MI];rfl) rfl ML C7 rfl rfl rfl (n:=3) (by rw[MI];exact zd 3) (λ s r=>(vM g) [dH ka fa] s.1 s.2.length r) (λ s=>[cI,ic s.1 s.2,gy (bD (cV fa fb))]) (λ _=>[]) (λ _=>[]) (jC (fu o (cV fa fb))) (0,[]) (λ s=>zd 3) (λ s r=>(xMm g) _ _ _ r) (λ s r=>by rw[(Vl g)];decide) (λ s r=>by rw[(Vl g)];decide) (λ r=>?_) ?_) λ e s' hq=>?_;have h:=uW ((xMs g) ka fa kb fb (bD (cV fa fb)) r);rw[(xMo g)]at h;rw[MI];exact h;intro r done s k W Z ae ab hf;have J:(gy (bD (cV fa fb))).xs.length=(cV fa fb).length:=by show (bD (cV fa fb)).length=_;simp[bD]
 rw[J]at W ab;obtain⟨v',V⟩:=Mq (fu o (cV fa fb)) done 0 [];rw[V]at hf;have hs:s=(v',[]++done.flatMap (fu o (cV fa fb))):=by injection hf with hf;exact hf.symm
 have hl:s.2.length+(fu o (cV fa fb) k).length<=1099511627776:=by rw[hs];have:=xAz (fk:=fu o (cV fa fb)) ae ab Z W;simp only[zU];exact Nat.le_trans this aa
 obtain⟨s2,g1,g2⟩:=xHw g ac (ra:=[dH ka fa]) af (s:=s) (r:=r) W hl;exact⟨s2,g1,g2⟩;obtain⟨ord,q,hq⟩:=hq;have J:(gy (bD (cV fa fb))).xs.length=(cV fa fb).length:=by show (bD (cV fa fb)).length=_;simp[bD]
 rw[J]at q;obtain⟨v',V⟩:=Mq (fu o (cV fa fb)) ord 0 [];rw[V]at hq;obtain⟨rfl,r,rfl⟩:=hq;show bK Tryz.prog (xO6.at 0) _ _ _;refine vm (J9 [3,6,7] _) ?_;rw[(xMn g)];have ad:=Q ord q;have hx:=xKV ka fa ([]++ord.flatMap (fu o (cV fa fb))) (bD (cV fa fb)) v' ([]++ord.flatMap (fu o (cV fa fb))).length;have c1:(decide (((0:Nat)+ka.length)*(8:Nat)<=(140737488355328:Nat))&&decide ((0:Nat)+ka.length<=(4611686018427387904:Nat))):=by simp only[zf,zl];omega
 have c2:∀n:Nat,(v'==v'&&decide ((0:Nat)+n<=n)&&true):=λ n=>by simp
 have c3:(decide ((0:Nat)+((0:Nat)+ka.length)<=([]++ka).length)&&true&&true):=by simp
 rw[c1,c2,c3,zU,zr,y6,ad,O]at hx;simp only[aW,zU,zr,zH,y6,aH]at hx;have hd:=oH (P:=Tryz.prog) (Inv:=xO6.at 0) (E:=tT) (good:=λ z=>z=some (AV.agg [.list 1 ka,.list 3 ((o8 (fJ o (cV fa fb))).getD [])])) (bad:=none) xOz (xOA Tryz.prog _) rfl Ψ Mc _ _ _ xK9 hx;refine l7 hd λ e s hq=>?_;exact xHO hq
end Go.Sim.M
end
noncomputable section
set_option maxRecDepth 100000
namespace Go.Sim.M
open Go.RowKit Go.Proofs
def Le:yC 43 Fl:=λ ra row ea eb ms xs s v n r=>by kernel_rfl
def Lg:yC 53 Fm:=λ ra row ea eb ms xs s v n r=>by kernel_rfl
def Lh:yC 45 D9:=λ ra row ea eb ms xs s v n r=>by kernel_rfl
noncomputable def Kk(fa fb:List AV):Option (List AV):=ly Fl fa fb
noncomputable def Kl(fa fb:List AV):Option (List AV):=ly Fm fa fb
noncomputable def Km(fa fb:List AV):Option (List AV):=ly D9 fa fb
noncomputable def KN(g:FuncId)(f:List AV->List AV->Option (List AV)):List AV->Option (Bool×AV):=kr (cY (fO (cY (mL 1 bG) (cY (mL 3 bG) jj))) (cY (fO (cY (mL 1 bG) (cY (mL 3 bG) jj))) (cY (sEq (em g bT)) jj))) λ((ka,(fa,_)),((kb,(fb,_)),_))=>(decide (ka.length<=1099511627776)&&(f fa fb).isSome,.agg [.list 1 ka,.list 3 ((f fa fb).getD [])])
def Mo{g:FuncId}{o:List AV->List AV->Option (List AV)}(q:yC g o):iz Tryz.prog xO6 42 (KN g (ly o)):=tK λ vv rr hh=>by obtain⟨⟨ka,fa,_⟩,⟨kb,fb,_⟩,_⟩:=vv;obtain⟨h1,rfl⟩:=Prod.mk.inj hh;simp only[zf,zl]at h1;obtain⟨h2,h3⟩:=xFT (op:=o) h1.2;have h:=xFX g q (ka:=ka) (kb:=kb) h1.1 h2;rw[<-h3]at h;exact h
noncomputable def vQ:dp:=(((Vs.E.withM 132 Px).with 42 (KN 43 Kk)).with 42 (KN 53 Kl)).with 42 (KN 45 Km)
def UM:dA Tryz.prog xO6 vQ:=(((Vs.ok.withM xAH).with (Mo Le)).with (Mo Lg)).with (Mo Lh)
noncomputable def xIZ:EO:=EO.mk vQ UM
abbrev En:=List UInt8×List AV
def aK(e:En):AV:=.agg [.str e.1,.list 2 e.2]
def io(s:List UInt8)(n:Int):AV:=.agg [.str s,.int .i64 n]
def dY:List En->List UInt8->Option Nat|[],_=>none|e::es,s=>match e.1==s with|true=>some 0|false=>(dY es s).map (·+1)
def yi(s:List UInt8):∀es:List En,aO (es.map aK) s=dY es s|[]=>rfl|e::es=>by rw[zV,aO,dY,yi s es];rfl
variable {s:List UInt8}
def yA:∀{es:List En}{i:Nat},dY es s=some i->i<es.length|[],i,h=>by simp[dY]at h|e::es,i,h=>by rw[dY]at h;split at h;cases h;simp;cases hm:dY es s with|none=>rw[hm]at h;simp at h|some j=>rw[hm]at h;simp only[Option.map_some,z6]at h;have:=yA hm;subst h;simp;omega
def Uh:∀{es:List En}{i:Nat},dY es s=some i->(es.getD i default).1=s|[],i,h=>by simp[dY]at h|e::es,i,h=>by rw[dY]at h;split at h;rename_i he;cases h;simpa using he;cases hm:dY es s with|none=>rw[hm]at h;simp at h|some j=>rw[hm]at h;simp only[Option.map_some,z6]at h;subst h;simpa using Uh hm
def dW:List En->List UInt8->AV->List En|[],s,p=>[(s,[p])]|e::es,s,p=>match e.1==s with|true=>(e.1,e.2++[p])::es|false=>e::dW es s p
def Ry{p:AV}:∀{es:List En},dY es s=none->dW es s p=es++[(s,[p])]|[],_=>rfl|e::es,h=>by rw[dY]at h;split at h;simp at h;rename_i he;cases hm:dY es s with|some j=>rw[hm]at h;simp at h|none=>rw[dW,he,Ry hm];rfl
def Rz{p:AV}:∀{es:List En}{i:Nat},dY es s=some i->dW es s p=es.set i (s,(es.getD i default).2++[p])|[],i,h=>by simp[dY]at h|e::es,i,h=>by rw[dY]at h;split at h;(rename_i he;cases h;have e1:e.1=s:=by simpa using he);rw[dW,he];simp[e1];rename_i he;cases hm:dY es s with|none=>rw[hm]at h;simp at h|some j=>rw[hm]at h;simp only[Option.map_some,z6]at h;subst h;rw[dW,he,Rz hm];simp
def eM:List En->List UInt8->List AV|[],_=>[]|e::es,s=>match e.1==s with|true=>e.2|false=>eM es s
def ZN:∀{es:List En},dY es s=none->eM es s=[]|[],_=>rfl|e::es,h=>by rw[dY]at h;split at h;simp at h;rename_i he;cases hm:dY es s with|some j=>rw[hm]at h;simp at h|none=>rw[eM,he];exact ZN hm
def xya:∀{es:List En}{i:Nat},dY es s=some i->eM es s=(es.getD i default).2|[],i,h=>by simp[dY]at h|e::es,i,h=>by rw[dY]at h;split at h;rename_i he;cases h;rw[eM,he];rfl;rename_i he;cases hm:dY es s with|none=>rw[hm]at h;simp at h|some j=>rw[hm]at h;simp only[Option.map_some,z6]at h;subst h;rw[eM,he];simpa using xya hm
def Tv(s s':List UInt8)(p:AV):∀es:List En,eM (dW es s p) s'=eM es s'++if s==s' then[p]else[]|[]=>by simp only[dW,eM];cases s==s'<;>simp|e::es=>by have ih:=Tv s s' p es;rw[dW];cases he:e.1==s with|true=>((have e1:e.1=s:=by simpa using he);dsimp only;rw[eM,eM,e1];cases h:s==s' with|true=>simp|false=>simp)|false=>dsimp only;rw[eM,eM,ih];cases h:e.1==s' with|false=>rfl|true=>(have e1:e.1=s':=by simpa using h);(have:(s==s')=false:=by rw[<-e1,Bool.eq_false_iff];intro hh;rw[show s=e.1 by simpa using hh]at he;simp at he);simp[this]
def S8(s:List UInt8)(p:AV):∀es:List En,(dW es s p).length<=es.length+1|[]=>by simp[dW]|e::es=>by have:=S8 s p es;rw[dW];cases e.1==s<;>simp<;>omega
def xzU{α:Type}(k:α->List UInt8)(f:α->AV)(s:List UInt8):∀(l:List α)(es:List En),eM (l.foldl (λ es x=>dW es (k x) (f x)) es) s=eM es s++(l.filter λ x=>k x==s).map f|[],es=>by simp|x::l,es=>by rw[List.foldl_cons,xzU k f s l,Tv,List.filter_cons];cases k x==s<;>simp
def vX(e:En):(aK e).cells.getD 1 .top=.list 2 e.2:=rfl
def lEn(e:En):(aK e).cells.length=2:=rfl
def xye(es:List En)(s:List UInt8):iL (es.map aK) s=(dY es s).isSome:=by unfold iL;rw[yi]
variable {es:List En}{i:Nat}
def xEM(h:dY es s=some i):aM (es.map aK) s=i:=by unfold aM;rw[yi,h]
def Rp{n:Int}:∀{es:List En}{i:Nat},dY es s=some i->aO ((es.map aK).set i (io s n)) s=some i|[],i,h=>by simp[dY]at h|e::es,i,h=>by rw[dY]at h;split at h;cases h;simp[aO,io,AV.cells,fB];rename_i he;cases hm:dY es s with|none=>rw[hm]at h;simp at h|some j=>rw[hm]at h;simp only[Option.map_some,z6]at h;subst h;rw[zV,List.set_cons_succ,aO,Rp hm];have:fB s ((aK e).cells.getD 0 .top)=false:=he;rw[this];rfl
def xCN(h:dY es s=some i)(n:Int)(p:AV):dP ((es.map aK).set i (io s n)) s (.list 2 ((es.getD i default).2++[p]))=(dW es s p).map aK:=by unfold dP;rw[Rp h,Rz h];dsimp only;rw[List.set_set,List.map_set];rfl
def xEJ(h:dY es s=none)(p:AV):dP (es.map aK) s (.list 2 [p])=(dW es s p).map aK:=by unfold dP;rw[yi,h,Ry h,zx];rfl
def xF1(h:dY es s=some i){n:Nat}:gM ((es.map aK).set i (io s (n:Int))) s (n+1):=by(have hi:i<((es.map aK).set i (io s (n:Int))).length:=by rw[y4,za];exact yA h);(unfold gM;rw[Rp h];have:((es.map aK).set i (io s (n:Int))).getD i .top=io s (n:Int):=by rw[z7,zL (by simpa using hi)];rfl);dsimp only;rw[this];show (match gm (AV.int .i64 (n:Int))with|some l0=>decide (l0<n+1)|none=>false)=true;simp[gm]
def xF0(h:dY es s=none)(n:Nat):gM (es.map aK) s n:=by unfold gM;rw[yi,h]
end Go.Sim.M
end
noncomputable section
set_option maxRecDepth 100000
namespace Go.Sim.M
open Go.IntKind (i64 u64 u8)
open Go.RowKit Go.Proofs
def uC:dp:=vQ.fn 36 0 (eX []) (jL [])
def xum:dA P0 (xO6.at 0) uC:=UM.fn
def xtc:dw P0 (xO6.at uC.pin) uC (Tryz.f99.body.getD .skip):=yu (ls:=[kL Tryz.f99 0,kL Tryz.f99 1]) Θ (fun l b lp a=>by
 simp only[zC,List.not_mem_nil,or_false]at b;rcases b with rfl|rfl
 . rw[show uC.lp (jp (kL Tryz.f99 0))=none by kernel_rfl]at a
   simp at a
 . rw[show uC.lp (jp (kL Tryz.f99 1))=none by kernel_rfl]at a
   simp at a)
def IA(a b:LA):=i64.wrap (i64.wrap (0+(↑a.length:Int))+(↑b.length:Int))
def DS(a b:LA):Nat:=0+a.length+b.length
def H7{T:Type}(a b:LA)(δ:T)(κ:LA->T):T:=br (decide (i64.wrap (0+(↑a.length:Int))<0)) δ (br (decide (IA a b<0)) δ (br (decide (0<=IA a b)&&decide (IA a b<=4398046511104)) (br (decide ((0+a.length)*32<=140737488355328)&&decide (0+a.length<=4611686018427387904)) (br (0+a.length==([]++a).length&&(decide (DS a b*32<=140737488355328)&&decide (DS a b<=4611686018427387904))) (br (decide (0+DS a b<=([]++a++b).length)&&true) (κ (List.take (DS a b) (List.drop 0 ([]++a++b)))) δ) δ) δ) δ))
def uU(a b:LA):=H7 a b none some
def xyI(a b:LA):dQ (λ(p:LA)=>((AV.list 3 p):AV)) (uU a b) (XF P0 uC Tryz.f99 (Tryz.f99.body.getD .skip) [AV.list 1 [AV.list 3 a,AV.list 3 b]]):=by(have h:XF P0 uC Tryz.f99 (Tryz.f99.body.getD .skip) [AV.list 1 [AV.list 3 a,AV.list 3 b]]=H7 a b none (λ(p:LA)=>some ((AV.list 3 p):AV)):=by kernel_rfl);rw[h];unfold uU H7;repeat' (first|refine dQ.br ?_ ?_|exact dQ.none|exact dQ.some rfl)
def xyH:LA->Option (Bool×AV):=kr (cY (mL 1 (bL (wS 3 bG) (bL (wS 3 bG) bT))) jj) λ((a,(b,_)),_)=>((uU a b).isSome,(AV.list 3 ((uU a b).getD [])))
def xyG:iz P0 xO6 99 (xyH):=tK λ f h g=>by obtain⟨⟨a,⟨b,_⟩⟩,_⟩:=f;obtain⟨c,e⟩:=Prod.mk.inj g;refine yr (p:=uC.pin) (Ce xOz (xOA P0 _) rfl xum Tryz.func99 rfl Θ xtc ((xyI _ _ _ (qS (d:=[]) c)).trans ?_));exact congrArg some e
def xKw:EO:=xIZ.w xyG
def Pf{T:Type}(a b:LA)(δ:T)(κ:LA->T):T:=br ((uU a b).isSome) (κ ((uU a b).getD [])) δ
def Et(a b:LA):=Pf a b none some
def xKy:EO:=xKw.f Tryz.func64 9 0 [] [] lk0 (u2 (uL 3) (uL 3)) (λ(a,b,_) _=>Pf a b) (λ _ p=>AV.list 3 p) []
def YH(a:LA):LA:=((a))
def xza{T:Type}(a:LA)(δ:T)(κ:LA->T):T:=κ (a)
def xKz:EO:=xKy.fT Tryz.func58 4 0 [] [] lk0 (λ(a,_)=>xza a none) (u1 (uL 3)) (λ(a,_)=>YH a) (λ _ p=>(AV.list 3 p))
def Ed(a:LA)(n:Int):Int:=if(↑a.length:Int)<n then(↑a.length:Int)else n
def PD{T:Type}(a:LA)(n:Int)(δ:T)(κ:LA->T):T:=br (decide (0<=Ed a n)&&decide (Ed a n<=a.length)&&true) (κ (List.take ((Ed a n).toNat - 0) (List.drop 0 a))) δ
def x8(a:LA)(n:Int):=PD a n none some
def KK:EO:=xKz.fM Tryz.func59 10 0 [] [] lk0 (u2 (uL 3) (sEq (em (1099511627776:FuncId) (q1 qI)))) bT (λ(a,(n,_),_) _ _=>PD a n) (λ _ _ p=>(AV.list 3 p,([]:List aC))) []
end Go.Sim.M
end
noncomputable section
set_option maxRecDepth 100000
namespace Go.Sim.M
open Go.RowKit Go.Proofs
noncomputable abbrev pB:Code:=Tryz.f60.body.getD .skip
noncomputable abbrev pO(n:Nat):Array Oper:=oc (ir pB n)
noncomputable abbrev mP:dp:=KK.E.fn 45 0 (eX []) (jL [])
def F1:dA Tryz.prog (xO6.at 0) mP:=KK.ok.fn
def jm:Nat:=1208926121356027683143680
def aU(ms:List AV):aC:=⟨0,2,jm,ms,false,true⟩
def dr(rows:List AV):aC:=⟨0,1,47,rows,false,true⟩
noncomputable def LI:Code:=.seq (.region 4 (pO 4) false) (.seq (.cond (.tmp 16) .skip (.exit 0)) (.seq (.block 1 (.seq (.region 5 (pO 5) false) (.seq (.region 6 (pO 6) false) (.seq (.region 7 (pO 7) false) (.seq (.seq (.region 8 (pO 8) false) (.cond (.tmp 28) (.region 9 (pO 9) false) .skip)) (.region 10 (pO 10) false)))))) (.region 11 (pO 11) false)))
def xMW:pB=.seq (.region 0 (pO 0) false) (.seq (.region 1 (pO 1) false) (.seq (.region 2 (pO 2) false) (.seq (.seq (.region 3 (pO 3) false) (.block 0 (.loop LI))) (.seq (.region 12 (pO 12) false) .ret)))):=Θ
def lE(f:AV):AV:=.agg [.int .i64 (f.cells.getD 1 .top).toInt,.int .i64 (f.cells.getD 2 .top).toInt]
def xJq(w:World):(binOp .eql 64 (.slice none 0 0) (.slice none 0 0)).run Tryz.prog w=.ok (.bool true) w:=by rfl
def xHM(a:Addr)(n c:Nat)(w:World):(binOp .eql 64 (.slice (some a) n c) (.slice none 0 0)).run Tryz.prog w=.ok (.bool false) w:=by rfl
def Cs(s:St)(t:Tmp)(b:Bool):Prop:=(b/\s.eval (.tmp t)=.nils)\/(b=false/\∃id len rb,s.eval (.tmp t)=.osl id rb.ver 0 len/\0<len/\getB s.heap id=some rb)
def VH{id:Nat}{ops:Array Oper}{Q:Exit->St->Prop}{s s3:St}{n:Nat}{o:Oper}{t d:Tmp}{ty:TypeId}{b:Bool}(W:aN ops)(hl:ops.toList=ops.toList.take n++[o])(hp:dV (iA Tryz.prog (xO6.at 0)) ops (ops.toList.take n) s s3)(ho:o.op=.binOp .eql 64 (.tmp t) (.const (.slice none 0 0)) ty)(hg:o.guard=none)(hd:o.dst=some d)(hn:Cs s3 t b)(h:Q .normal ⟨s3.tmps.set d (.bool b),s3.heap⟩):bK Tryz.prog (xO6.at 0) (.region id ops false) Q s:=by
 intro w0 A0 w A M a Qc hI Z hs hQ ro aa;refine wpIn_region_list (pK ro 0 _ (rg W) _ _ ?_);rw[hl];refine tz (xOA Tryz.prog _) hI hp hs λ a1 w1 A1 M1 q _=>wpList_plain hg λ K hK=>?_;have hv:=q.eval (.tmp t);have hc:a1.eval (.const (.slice none 0 0))=.slice none 0 0:=rfl;have J:SR w0 A0 w1 A1 M1 ⟨s3.tmps.set d (.bool b),s3.heap⟩ (a1.put (some d) (.bool b)):=q.put (d:=some d) q.base q.outer Mv.refl q.heap (aD.bool (w:=w1) (A:=A1) (M:=M1) b);unfold Oper.wp;rcases hn with⟨rfl,hx⟩|⟨rfl,id',len,rb,hx,Y,hb⟩;rw[hx]at hv;have e:a1.eval (.tmp t)=.slice none 0 0:=by generalize a1.eval (.tmp t)=v at hv;cases hv;rfl
 simp only[execOp,ho,e,hc,xJq,Sem.run_bind,Result.andThen_ok,Sem.run_pure];show K (a1.put o.dst (.bool true)) w1;rw[hd];exact hK _ _ (wpList_nil (hQ _ _ _ _ h ⟨A1,M1,J⟩));rw[hx]at hv;have e:∃a2 c2,a1.eval (.tmp t)=.slice (some a2) len c2:=by generalize a1.eval (.tmp t)=v at hv;cases hv with|osl v id ver off len m hm hle h1 he=>obtain⟨bx,O,V⟩:=q.heap.box _ _ hm;rw[hb]at O;obtain rfl:rb=bx:=Option.some.inj O;obtain⟨g1,a2,g2,g3⟩:=he V.ver;rw[g3 Ω]at g2;exact⟨_,_,g2⟩
 obtain⟨a2,c2,e⟩:=e;simp only[execOp,ho,e,hc,xHM,Sem.run_bind,Result.andThen_ok,Sem.run_pure];show K (a1.put o.dst (.bool false)) w1;rw[hd];exact hK _ _ (wpList_nil (hQ _ _ _ _ h ⟨A1,M1,J⟩))
def fK:List Nat:=[1,6,7,13,14,15]
noncomputable def f9(fr:List AV)(ff ft:Int):aC:=⟨0,3,54,[.agg [.list 3 fr,.int .i64 ff,.int .i64 ft]],false,true⟩
def mz:List Nat:=[1,6,7,9,10,11,13,14,15]
def oo(z:Nat)(ys:List AV):(AV.list z ys).toList=ys:=rfl
def qm(ys:List AV):jV 2 (.list 2 ys):=rfl
def Ll(e:En):List.take 1 (aK e).cells=[.str e.1]:=rfl
def Lk(e:En):List.drop 2 (aK e).cells=[]:=rfl
variable {es:List En}
def xJw{k:List UInt8}{j:Nat}(h:dY es k=some j):(es.map aK).getD j .top=aK (es.getD j default):=by have:=yA h;simp[z7,this]
section
variable{Q:Exit->St->Prop}
variable {H H':List aC}{live liveO:List Nat}{ops:Array Oper}{q vals:List AV}
def tH{id:Nat}{y:Code}(h:XC Tryz.prog mP live liveO (.region id ops false) vals H=some (LR.leaf .normal q H').eval)(hq:bK Tryz.prog (xO6.at 0) y Q ⟨aX 45 (liveO.zip q),H'⟩):bK Tryz.prog (xO6.at 0) (.seq (.region id ops false) y) Q ⟨aX 45 (live.zip vals),H⟩:=
 pP (l7 (Zp xOz (xOA Tryz.prog _) rfl F1 (pM rfl rfl) h) fun e s ⟨he,hs⟩=>by
  subst he hs;exact hq)
def Kp{id:Nat}(h:XC Tryz.prog mP live liveO (.region id ops false) vals H=some (LR.leaf .normal q H').eval)(hq:Q .normal ⟨aX 45 (liveO.zip q),H'⟩):bK Tryz.prog (xO6.at 0) (.region id ops false) Q ⟨aX 45 (live.zip vals),H⟩:=l7 (Zp xOz (xOA Tryz.prog _) rfl F1 (pM rfl rfl) h) λ e s⟨he,hs⟩=>by subst he hs;exact hq
end
def CQ:aN (pO 8):=Θ
def SP:(pO 8).toList=(pO 8).toList.take 3++[(pO 8).toList.getD 3 default]:=Θ
def SS:((pO 8).toList.getD 3 default).op=.binOp .eql 64 (.tmp 27) (.const (.slice none 0 0)) 64:=Θ
def SN:((pO 8).toList.getD 3 default).guard=none:=Θ
def SF:((pO 8).toList.getD 3 default).dst=some 28:=Θ
def gr(ms:List AV):aC:=⟨0,2,dh 67,ms,true,true⟩
def Ud:dy jm:=Θ
def V4:db jm 0=false:=Θ
def KT:db jm 1:=Θ
def xJJ:gz (dh 67)=dh 67:=Θ
def Ux:dy (dh 67):=Θ
def xLM:db (dh 67) 0=false:=Θ
def xLN:db (dh 67) 1=false:=Θ
def Ue:bW (bM jm)=false:=Θ
section
variable{w:World}{A:Nat->Prop}{M:Id->Option MB}{B:Nat}
def vR(M:Id->Option MB):Id->Option MB:=λ id=>match id with|.b 0=>(M (.b 0)).map λ m=>⟨m.b,m.ver,m.sz,m.cap,dh 67⟩|_=>none
def Kv{id:Id}{m:MB}(h:vR M id=some m):∃m0,id=.b 0/\M (.b 0)=some m0/\m=⟨m0.b,m0.ver,m0.sz,m0.cap,dh 67⟩:=by unfold vR at h;split at h;(cases hm:M (.b 0)with|none=>rw[hm]at h;simp at h|some m0=>rw[hm]at h;simp only[Option.map_some,z6]at h;exact⟨m0,rfl,rfl,h.symm⟩);simp at h
variable {ms:List AV}
def xJN{H:List aC}{i:Nat}{ys:List AV}{k:List UInt8}(h0:H=[⟨0,2,jm,ms,true,true⟩])(hi:i<ms.length)(hx:ms.getD i .top=.agg [.str k,.list 2 ys]):resolve H 4 (px 0 i 1 (.list 2 ys))=some (.list 2 ys):=by
 have hg:getB H (.r 0 i 1)=some ⟨2*ys.length,2,bM jm,ys,true,true⟩:=by(subst h0;have hc:bW jm:=by kernel_rfl);have h1:=oG (H:=[⟨0,2,jm,ms,true,true⟩]) (n:=0) (i:=i) (j:=1) (bx:=⟨0,2,jm,ms,true,true⟩) rfl hc KT rfl hi;rw[h1];show some (iP _ ((ms.getD i .top).cells.getD 1 .top))=_;rw[hx];rfl
 have q:dT H (.r 0 i 1) (2*ys.length)=some ⟨2*ys.length,2,bM jm,ys,true,true⟩:=by unfold dT;rw[hg];simp[kE Ue]
 have J:d9 ⟨2*ys.length,2,bM jm,ys,true,true⟩ ys:=by unfold d9;rw[Ue]
 unfold px resolve;simp[AV.pure,eJ,q,gp,J]
def HR.plain(h:HR w A M B [⟨0,2,jm,ms,true,true⟩])(aa:∀i,i<ms.length->∃k ys,ms.getD i .top=.agg [.str k,.list 2 ys]):HR w A (vR M) B [gr ms]:=by
 refine⟨λ id m hm=>?_,λ id id' m m' h1 h2 _ _ _=>?_,h.lt⟩;obtain⟨m0,rfl,V,rfl⟩:=Kv hm;obtain⟨bx,hb,q⟩:=h.box _ _ V;obtain rfl:(⟨0,2,jm,ms,true,true⟩:aC)=bx:=by simpa[getB]using hb
 have hsz:m0.sz=2:=q.sz.symm;have ad:m0.ty=jm:=q.ty.symm;have Y:∀(id:Id)(m:MB),id.base=0->M id=some m->0<m.cap->¬ A m.b:=λ id m hi hm h0 hA=>by(obtain⟨b2,W,O⟩:=h.box _ _ hm;have ab:b2.frz:=by cases id with|b n=>(have hn:n=0:=hi;subst hn;have e:(⟨0,2,jm,ms,true,true⟩:aC)=b2:=by simpa[getB]using W);rw[<-e]|r n i j=>(have hn:n=0:=hi;subst hn;have hc:bW jm:=by kernel_rfl);have h1:=pN (H:=[⟨0,2,jm,ms,true,true⟩]) (bx:=⟨0,2,jm,ms,true,true⟩) rfl hc W;rw[h1.2.2.2,QV]);have:=(O.guard h0).2 hA;rw[ab]at this;simp at this
 refine⟨gr ms,rfl,q.ver,q.sz,xJJ,q.capm,q.fits,q.ok,q.low,q.lt,λ h0=>?_,λ h0=>⟨λ h=>Bool.noConfusion h,λ hA=>absurd hA (Y (.b 0) m0 rfl V h0)⟩⟩;obtain⟨c,c1,c2,c3⟩:=q.cells h0;refine⟨c,?_,c2,λ i j hi hj=>?_⟩;unfold bY at c1|-;rw[ad,Ud]at c1;dsimp only;rw[Ux];exact c1;have hi:i<ms.length:=hi;have h3:=c3 i j hi hj;have hj:j<m0.sz:=hj;obtain⟨k,ys,hx⟩:=aa i hi;have hp:(gr ms).ty=dh 67:=rfl;show aD w A (MV (vR M) (gr ms) j) (c.getD (i*m0.sz+j) undef) (fw 0 i j (gr ms).ty (((gr ms).xs.getD i .top).cells.getD j .top));have Z:(gr ms).xs.getD i .top=.agg [.str k,.list 2 ys]:=hx;rw[Z];have h3:aD w A (MV M ⟨0,2,jm,ms,true,true⟩ j) (c.getD (i*m0.sz+j) undef) (fw 0 i j jm ((ms.getD i .top).cells.getD j .top)):=h3;rw[hx]at h3;generalize c.getD (i*m0.sz+j) undef=v at h3;rcases j with _|_|j;unfold fw MV at h3|-;rw[show db (⟨0,2,jm,ms,true,true⟩:aC).ty 0=false from V4]at h3;rw[hp,xLM];try rw[V4]at h3
 exact h3;unfold fw MV at h3|-;rw[show db (⟨0,2,jm,ms,true,true⟩:aC).ty 1=true from KT]at h3;rw[hp,xLN];try rw[KT]at h3
 have h3:aD w A M v (px 0 i 1 (.list 2 ys)):=h3;exact rU h (A':=A) (λ _ _ h=>h) 4 v _ _ h3 (xJN rfl hi hx) λ id J m hm h0=>by(have hb:id.base=0:=by have J:id.base∈aP [⟨0,2,jm,ms,true,true⟩] 4 (.osl (.r 0 i 1) (2*ys.length) 0 ys.length):=J;unfold aP at J;simp only[AV.pure,zT,if_false,zC]at J;rcases J with h|h;exact h;split at h;rename_i bx hb;split at h;simp at h;rename_i ac;have:=Jt hb;exact absurd this ac;simp at h);exact Y id m hb hm h0
 omega;obtain⟨_,rfl,_⟩:=Kv h1;obtain⟨_,rfl,_⟩:=Kv h2;rfl
end
def xLl(rows ms:List AV):gx 0 [] [4,5] ⟨aX 45 ([4,5].zip [.own 0 0 0 0,.list 1 rows]),[aU ms,⟨0,1,47,rows,true,true⟩]⟩=some ([.own 0 0 0 0,.list 1 rows],[aU ms]):=Θ
def xLk(rows:List AV):aX (aX 45 ([4,5].zip [AV.own 0 0 0 0,.list 1 rows])).length ([4,5].zip [.own 0 0 0 0,.list 1 rows])=aX 45 ([4,5].zip [.own 0 0 0 0,.list 1 rows]):=Θ
def VQ(rows:List AV)(n:Nat):(aX 45 ([4,5].zip [AV.own 0 0 0 0,.osl 1 0 0 n])).getD 5 .top=.osl (.b 1) 0 0 n:=Θ
def xLm(rows:List AV)(n:Nat):(aX 45 ([4,5].zip [AV.own 0 0 0 0,.osl 1 0 0 n])).set 5 (.list 1 rows)=aX 45 ([4,5].zip [.own 0 0 0 0,.list 1 rows]):=Θ
def xLj(rows ms:List AV)(n:Nat):freeze [aU ms,dr rows] (aP [aU ms,dr rows] eG (.osl (.b 1) 0 0 n))=[aU ms,⟨0,1,47,rows,true,true⟩]:=Θ
def Lm(rows ms:List AV):dx 0 ⟨aX 45 ([4,5].zip [.own 0 0 0 0,.osl 1 0 0 rows.length]),[aU ms,dr rows]⟩ ⟨aX 45 ([4,5].zip [.own 0 0 0 0,.list 1 rows]),[aU ms]⟩:=by(have h1:resolve [aU ms,dr rows] eG ((aX 45 ([4,5].zip [AV.own 0 0 0 0,.osl 1 0 0 rows.length])).getD 5 .top)=some (.list 1 rows):=by rw[VQ rows];exact So rfl rfl);have h2:=QF (p:=0) h1;rw[VQ rows,xLj,xLm]at h2;have h3:=uW (xLl rows ms);rw[xLk]at h3;exact h2.trans h3
def LV(rows:List AV)(H:List aC):dt Tryz.prog ⟨aX 45 ([4,5].zip [.own 0 0 0 0,.list 1 rows]),H⟩ Tryz.f60.results.toList=some [.own 0 0 0 0,.list 1 rows]:=Θ
def SV:Tryz.f60.ntmps=45:=Θ
def pBody:Tryz.f60.body=some pB:=Θ
def sE:fG Tryz.prog 60:=⟨_,Tryz.func60,by kernel_rfl,by kernel_rfl⟩
def xH6{l rows:List AV}{pv:AV}(h:bK Tryz.prog (xO6.at 0) pB (λ e s=>e=.ret/\s=⟨aX 45 ([4,5].zip [.own 0 0 0 0,.list 1 rows]),[aU (es.map aK)]⟩) ⟨[.list 3 l,pv]++List.replicate 43 (.tuple []),[]⟩):bH Tryz.prog xO6 60 [.list 3 l,pv] [] (.tuple [.own (.b 0) 0 0 0,.list 1 rows]) [gr (es.map aK)]:=by
 refine⟨sE,λ w0 w A M vs hI V hR O=>?_⟩;refine callsIn_wide.1 (callsIn_of_wp_marks (F:=Fence.wide) (n:=0) Tryz.func60 pBody trivial ?_);refine h w0 ⟨A,w,A,M,0,λ _=>False⟩ w A M _ _ hI (zd 0) ⟨V,λ _ _=>Iff.rfl,?_,λ t ht=>?_,hR,er.nil,Ev.refl (C:=⟨A,w,A,M,0,λ _=>False⟩)⟩ ?_ none (λ _=>rfl);rw[SV];have:=O.1;simp at this|-;omega;have hl:vs.length=2:=O.1;rw[SV];show aD w A M _ (([.list 3 l,pv]++List.replicate 43 (.tuple []):List AV).getD t .top);by_cases W:t<2;have e1:(vs.toArray++Array.replicate (45 - vs.toArray.size) undef).getD t undef=vs.getD t undef:=by(have:t<vs.length:=Ω);simp[z7,Array.getElem?_append,this]
 rw[e1,Q6 W];exact O.2 t W;have ht:t<45:=by simpa using ht
 have h1:¬ t<vs.length:=Ω
 have e1:(vs.toArray++Array.replicate (45 - vs.toArray.size) undef).getD t undef=undef:=by(have h2:t - vs.length<45 - vs.length:=Ω);simp[Array.getElem?_append,h1,h2]
 rw[e1,Q7 W (show t - 2<43 by omega)];exact .tuple #[] [] rfl Ψ;rintro e s' a' w' ⟨rfl,rfl⟩ ⟨A',M',Y⟩;show LeavesInM Fence.wide 0 Tryz.prog Tryz.f60 a'.tmps _ a'.defers .returning w';obtain ⟨A1,ab,_⟩:=Y.refreeze (H:=[⟨0,2,jm,es.map aK,true,true⟩]) (by
  have h1:=bU.freeze [aU (es.map aK)] [0];exact h1)
 refine Fj (λ _ h=>h) ab λ w2 q=>?_;obtain⟨v,hv,J⟩:=Jl (P:=Tryz.prog) q (LV rows _);refine⟨v,hv,v,A1,vR M',rfl,q.base,q.outer,⟨q.ev.size,q.ev.keep,q.ev.less,q.ev.more,λ id m h=>absurd h (Nat.not_lt_zero _),λ id m h h0=>?_⟩,HR.plain q.heap λ i hi=>?_,?_⟩;obtain⟨m0,rfl,aa,rfl⟩:=Kv h;exact q.ev.src (.b 0) m0 aa h0;have hi:i<es.length:=by simpa using hi
 exact⟨(es.getD i default).1,(es.getD i default).2,by simp[aK,z7,hi]⟩;have J:aD w2 A1 M' v (.tuple [.own (.b 0) 0 0 0,.list 1 rows]):=J;obtain⟨us,rfl,hsz,ad⟩:=J.tuple_inv;refine .tuple us _ hsz λ i hi=>?_;have h1:=ad i hi;rcases i with _|_|i;have h1:aD w2 A1 M' (us.getD 0 undef) (.own (.b 0) 0 0 0):=h1;show aD w2 A1 (vR M') (us.getD 0 undef) (.own (.b 0) 0 0 0);generalize us.getD 0 undef=u at h1;cases h1 with|own v id ver i j m hm hle h1 he=>(obtain⟨bx,hb,Z⟩:=q.heap.box _ _ hm;obtain rfl:(⟨0,2,jm,es.map aK,true,true⟩:aC)=bx:=by simpa[getB]using hb);have ac:m.ty=jm:=Z.ty.symm;refine .own _ _ 0 0 0 ⟨m.b,m.ver,m.sz,m.cap,dh 67⟩ (by unfold vR;rw[hm];rfl) hle h1 λ h=>?_;rw[he h];unfold fD;rw[ac,Ud];dsimp only;rw[Ux]
 have h1:aD w2 A1 M' (us.getD 1 undef) (.list 1 rows):=h1;exact h1.pure rfl;simp at hi;omega
end Go.Sim.M
end
noncomputable section
set_option maxRecDepth 100000
namespace Go.Sim.M
open Go.RowKit Go.Proofs
noncomputable def lX(q:Option Int)(row:List AV):List AV:=match q with|none=>YH row|some nn=>(x8 row nn).getD []
noncomputable def F0(q:Option Int)(row:List AV):Bool:=match q with|none=>true|some nn=>(x8 row nn).isSome
noncomputable def kyQ(q:Option Int)(row:List AV):List UInt8:=(iM (lX q row)).getD []
noncomputable def sn(q:Option Int)(f:AV):Bool:=(f.cells.length==3&&ef [.list 3,.int .i64,.int .i64] f.cells 0)&&(F0 q (rowF f)&&((iM (lX q (rowF f))).isSome&&decide ((kyQ q (rowF f)).length<=4611686018427387904)))
noncomputable def lY(q:Option Int):AV:=match q with|none=>.func 58 []|some nn=>.func 59 [.func 1099511627776 [.int .i64 nn]]
noncomputable def lK(q:Option Int)(l:List AV)(rn:Nat)(i:Int):List AV:=[lY q,.own 0 0 0 0,.osl 1 0 0 rn,.list 3 l,.int .i64 l.length,.int .i64 i]
def xQ4(q:Option Int)(l ms rows:List AV)(rn:Nat)(i:Int):XC Tryz.prog mP fK (16::fK) (.region 4 (pO 4) false) (lK q l rn i) [aU ms,dr rows]=some (LR.leaf .normal (.bool (decide (i<(l.length:Int)))::lK q l rn i) [aU ms,dr rows]).eval:=by cases q<;>kernel_rfl
noncomputable def S1(q:Option Int)(l:List AV)(rn:Nat)(i:Int):List AV:=[lY q,.own 0 0 0 0,.osl 1 0 0 rn,.own 2 0 0 0,.list 3 l,.int .i64 l.length,.int .i64 i]
def xQ5(q:Option Int)(l ms rows:List AV)(rn:Nat)(i:Int):XC Tryz.prog mP (16::fK) [1,6,7,9,13,14,15] (.region 5 (pO 5) false) (.bool true::lK q l rn i) [aU ms,dr rows] =br (decide ((0:Int)<=i)&&decide (i<(l.length:Int))) (br (decide (i.toNat<l.length)&&((l.getD i.toNat .top).cells.length==3&&ef [.list 3,.int .i64,.int .i64] (l.getD i.toNat .top).cells 0)) (some (LR.leaf .normal (S1 q l rn i) [aU ms,dr rows,f9 ((l.getD i.toNat .top).cells.getD 0 .top).toList ((l.getD i.toNat .top).cells.getD 1 .top).toInt ((l.getD i.toNat .top).cells.getD 2 .top).toInt]).eval) none) none:=by cases q<;>kernel_rfl
noncomputable def S2(q:Option Int)(l:List AV)(rn:Nat)(i:Int)(row:List AV):List AV:=[lY q,.own 0 0 0 0,.osl 1 0 0 rn,.own 2 0 0 0,.list 3 row,.list 3 l,.int .i64 l.length,.int .i64 i]
def xQ6(q:Option Int)(l ms rows:List AV)(rn:Nat)(i:Int)(fr:List AV)(ff ft:Int):XC Tryz.prog mP [1,6,7,9,13,14,15] [1,6,7,9,10,13,14,15] (.region 6 (pO 6) false) (S1 q l rn i) [aU ms,dr rows,f9 fr ff ft] =br (F0 q fr) (some (LR.leaf .normal (S2 q l rn i (lX q fr)) [aU ms,dr rows,f9 fr ff ft]).eval) none:=by cases q<;>kernel_rfl
noncomputable def C5(q:Option Int)(l:List AV)(rn:Nat)(i:Int)(row:List AV)(k:List UInt8):List AV:=[lY q,.own 0 0 0 0,.osl 1 0 0 rn,.own 2 0 0 0,.list 3 row,.str k,.list 3 l,.int .i64 l.length,.int .i64 i]
def xQ7(q:Option Int)(l ms rows:List AV)(rn:Nat)(i:Int)(fr row:List AV)(ff ft:Int):XC Tryz.prog mP [1,6,7,9,10,13,14,15] mz (.region 7 (pO 7) false) (S2 q l rn i row) [aU ms,dr rows,f9 fr ff ft] =br (iM row).isSome (some (LR.leaf .normal (C5 q l rn i row ((iM row).getD [])) [aU ms,dr rows,f9 fr ff ft]).eval) none:=by cases q<;>kernel_rfl
noncomputable def uQ(q:Option Int)(l:List AV)(rn:Nat)(i:Int)(row:List AV)(k:List UInt8):List AV:=aX 45 (mz.zip (C5 q l rn i row k))
noncomputable def C4(q:Option Int)(l:List AV)(rn:Nat)(i:Int)(row:List AV)(k:List UInt8)(x:AV):List AV:=(((uQ q l rn i row k).set 25 (.own 0 0 0 0)).set 26 (.str k)).set 27 x
def xQ8(q:Option Int)(l ms rows:List AV)(rn:Nat)(i:Int)(fr row:List AV)(ff ft:Int)(k:List UInt8):cT Tryz.prog mP none (some true) (pO 8) ((pO 8).toList.take 3) ⟨uQ q l rn i row k,[aU ms,dr rows,f9 fr ff ft]⟩ some =br (decide (k.length<=(4611686018427387904:Nat))) (br (iL ms k) (br (jV (2:Nat) ((ms.getD (aM ms k) AV.top).cells.getD (1:Nat) AV.top)) (some ⟨C4 q l rn i row k (.osl (.r 0 (aM ms k) 1) (2*((ms.getD (aM ms k) AV.top).cells.getD (1:Nat) AV.top).toList.length) 0 ((ms.getD (aM ms k) AV.top).cells.getD (1:Nat) AV.top).toList.length),[aU ms,dr rows,f9 fr ff ft]⟩) none) (some ⟨C4 q l rn i row k .nils,[aU ms,dr rows,f9 fr ff ft]⟩)) none:=by cases q<;>kernel_rfl
def CD(q:Option Int)(l:List AV)(rn:Nat)(i:Int)(row:List AV)(k:List UInt8)(x:AV)(H:List aC):St.eval ⟨C4 q l rn i row k x,H⟩ (.tmp 27)=x:=by cases q<;>kernel_rfl
def CE(q:Option Int)(l:List AV)(rn:Nat)(i:Int)(row:List AV)(k:List UInt8)(x:AV)(b:Bool)(H:List aC):St.eval ⟨(C4 q l rn i row k x).set 28 (.bool b),H⟩ (.tmp 28)=.bool b:=by cases q<;>kernel_rfl
def CI(q:Option Int)(l:List AV)(rn:Nat)(i:Int)(row:List AV)(k:List UInt8)(x:AV)(b:Bool)(H:List aC):dI mz ⟨(C4 q l rn i row k x).set 28 (.bool b),H⟩=⟨uQ q l rn i row k,H⟩:=by cases q<;>kernel_rfl
def xQ9(q:Option Int)(l ms rows:List AV)(rn:Nat)(i:Int)(fr row:List AV)(ff ft:Int)(k:List UInt8):XC Tryz.prog mP mz mz (.region 9 (pO 9) false) (C5 q l rn i row k) [aU ms,dr rows,f9 fr ff ft] =br (rn==rows.length&&(decide ((rn+(1:Nat))*(24:Nat)<=(140737488355328:Nat))&&decide (rn+(1:Nat)<=(4611686018427387904:Nat)))) (some (LR.leaf .normal (C5 q l (rn+1) i row k) [aU ms,dr (rows++[.list 3 row]),f9 fr ff ft]).eval) none:=by cases q<;>kernel_rfl
def MY(q:Option Int)(l ms rows:List AV)(rn:Nat)(i:Int)(fr row:List AV)(ff ft:Int)(k:List UInt8):XC Tryz.prog mP mz fK (.region 10 (pO 10) false) (C5 q l rn i row k) [aU ms,dr rows,f9 fr ff ft] =br (decide (k.length<=(4611686018427387904:Nat))) (br (iL ms k) (br (jV (2:Nat) ((ms.getD (aM ms k) AV.top).cells.getD (1:Nat) AV.top)) (br (decide (aM ms k<ms.length)&&(jV (2:Nat) ((ms.getD (aM ms k) AV.top).cells.getD (1:Nat) AV.top)&&((ms.getD (aM ms k) AV.top).cells.length==(2:Nat)&&((2:Nat)*((ms.getD (aM ms k) AV.top).cells.getD (1:Nat) AV.top).toList.length==(2:Nat)*((ms.getD (aM ms k) AV.top).cells.getD (1:Nat) AV.top).toList.length&&(((ms.getD (aM ms k) AV.top).cells.getD (1:Nat) AV.top).toList.length==((ms.getD (aM ms k) AV.top).cells.getD (1:Nat) AV.top).toList.length&&(((ms.getD (aM ms k) AV.top).cells.getD (1:Nat) AV.top).toList.length==((ms.getD (aM ms k) AV.top).cells.getD (1:Nat) AV.top).toList.length&&(decide ((((ms.getD (aM ms k) AV.top).cells.getD (1:Nat) AV.top).toList.length+(1:Nat))*(16:Nat)<=(140737488355328:Nat))&&decide (((ms.getD (aM ms k) AV.top).cells.getD (1:Nat) AV.top).toList.length+(1:Nat)<=(4611686018427387904:Nat))))))))) (br (((ms.getD (aM ms k) AV.top).cells.getD (1:Nat) AV.top).toList.length+(1:Nat)==(((ms.getD (aM ms k) AV.top).cells.getD (1:Nat) AV.top).toList++[AV.agg [AV.int IntKind.i64 ff,AV.int IntKind.i64 ft]]).length&&(decide ((ms.set (aM ms k) (AV.agg (List.take (1:Nat) (ms.getD (aM ms k) AV.top).cells++[AV.int IntKind.i64 (↑((ms.getD (aM ms k) AV.top).cells.getD (1:Nat) AV.top).toList.length:Int)]++List.drop (2:Nat) (ms.getD (aM ms k) AV.top).cells))).length<(4611686018427387904:Nat))&&(decide (k.length<=(4611686018427387904:Nat))&&gM (ms.set (aM ms k) (AV.agg (List.take (1:Nat) (ms.getD (aM ms k) AV.top).cells++[AV.int IntKind.i64 (↑((ms.getD (aM ms k) AV.top).cells.getD (1:Nat) AV.top).toList.length:Int)]++List.drop (2:Nat) (ms.getD (aM ms k) AV.top).cells))) k (((ms.getD (aM ms k) AV.top).cells.getD (1:Nat) AV.top).toList.length+(1:Nat))))) (some (LR.leaf .normal (lK q l rn i) [aU (dP (ms.set (aM ms k) (AV.agg (List.take (1:Nat) (ms.getD (aM ms k) AV.top).cells++[AV.int IntKind.i64 (↑((ms.getD (aM ms k) AV.top).cells.getD (1:Nat) AV.top).toList.length:Int)]++List.drop (2:Nat) (ms.getD (aM ms k) AV.top).cells))) k (AV.list (2:Nat) (((ms.getD (aM ms k) AV.top).cells.getD (1:Nat) AV.top).toList++[AV.agg [AV.int IntKind.i64 ff,AV.int IntKind.i64 ft]]))),dr rows]).eval) none) none) none) (br (decide (ms.length<(4611686018427387904:Nat))&&(decide (k.length<=(4611686018427387904:Nat))&&gM ms k (1:Nat))) (some (LR.leaf .normal (lK q l rn i) [aU (dP ms k (AV.list (2:Nat) [AV.agg [AV.int IntKind.i64 ff,AV.int IntKind.i64 ft]])),dr rows]).eval) none)) none:=by cases q<;>kernel_rfl
def MZ(q:Option Int)(l ms rows:List AV)(rn:Nat)(i:Int):XC Tryz.prog mP fK fK (.region 11 (pO 11) false) (lK q l rn i) [aU ms,dr rows]=some (LR.leaf .normal (lK q l rn (IntKind.i64.wrap (i+1))) [aU ms,dr rows]).eval:=by cases q<;>kernel_rfl
noncomputable def mF (q:Option Int) (s:List En×List AV) (f:AV):List En×List AV:=(dW s.1 (kyQ q (rowF f)) (lE f),match dY s.1 (kyQ q (rowF f)) with|none=>s.2++[.list 3 (lX q (rowF f))]|some _=>s.2)
noncomputable def n3(q:Option Int)(l:List AV):List En×List AV:=l.foldl (mF q) ([],[])
def K4(q:Option Int)(l:List AV)(rn:Nat)(i:Int)(b:Bool)(H:List aC):St.eval ⟨aX 45 ((16::fK).zip (.bool b::lK q l rn i)),H⟩ (.tmp 16)=.bool b:=by cases q<;>kernel_rfl
section
variable{Q:Exit->St->Prop}
set_option maxHeartbeats 1000000 in
def C3(q:Option Int){l:List AV}{i:Nat}(hi:i<l.length)(hl:l.length<2147483648)(hf:sn q (l.getD i .top)=true){es:List En}{rows:List AV}(he:es.length<=i)(hr:rows.length<=i)(hp:∀e,e∈es->e.2≠[]/\e.2.length<=i)(hq:Q .normal ⟨aX 45 (fK.zip (lK q l (mF q (es,rows) (l.getD i .top)).2.length ((i+1:Nat):Int))),[aU ((mF q (es,rows) (l.getD i .top)).1.map aK),dr (mF q (es,rows) (l.getD i .top)).2]⟩):bK Tryz.prog (xO6.at 0) (.seq (.block 1 (.seq (.region 5 (pO 5) false) (.seq (.region 6 (pO 6) false) (.seq (.region 7 (pO 7) false) (.seq (.seq (.region 8 (pO 8) false) (.cond (.tmp 28) (.region 9 (pO 9) false) .skip)) (.region 10 (pO 10) false)))))) (.region 11 (pO 11) false)) Q ⟨aX 45 ((16::fK).zip (.bool true::lK q l rows.length (i:Int))),[aU (es.map aK),dr rows]⟩:=by
 unfold sn at hf;simp only[zf,zl]at hf;obtain⟨⟨an,ao⟩,ah,Z,ab⟩:=hf;have ai:((l.getD i .top).cells.length==3&&ef [.list 3,.int .i64,.int .i64] (l.getD i .top).cells 0)=true:=by rw[zf];exact⟨an,ao⟩
 obtain⟨f,ak⟩:∃f,f=l.getD i .top:=⟨_,rfl⟩;rw[<-ak]at ai ah Z ab hq;have ae:(iM (lX q (rowF f))).getD []=kyQ q (rowF f):=rfl;obtain⟨k,hk⟩:∃k,k=kyQ q (rowF f):=⟨_,rfl⟩;have aq:IntKind.i64.wrap ((i:Int)+1)=((i+1:Nat):Int):=by rw[il (by omega) (by omega)];omega
 have V:∀(ms rs:List AV)(rn:Nat),Q .normal ⟨aX 45 (fK.zip (lK q l rn ((i+1:Nat):Int))),[aU ms,dr rs]⟩->bK Tryz.prog (xO6.at 0) (.region 11 (pO 11) false) Q ⟨aX 45 (fK.zip (lK q l rn (i:Int))),[aU ms,dr rs]⟩:=λ ms rs rn h=>by have hx:=MZ q l ms rs rn (i:Int);rw[aq]at hx;exact Kp hx h
 refine pP (Rd ?_);have h5:=xQ5 q l (es.map aK) rows rows.length (i:Int);rw[zN,<-ak,ai]at h5;have c1:(decide ((0:Int)<=i)&&decide ((i:Int)<(l.length:Int)))=true:=by simp[hi]
 have c2:(decide (i<l.length)&&true)=true:=by simp[hi]
 rw [c1,c2] at h5;refine tH h5 ?_;have h6:=xQ6 q l (es.map aK) rows rows.length (i:Int) (rowF f) (f.cells.getD 1 .top).toInt (f.cells.getD 2 .top).toInt;rw [ah] at h6;refine tH h6 ?_;have h7:=xQ7 q l (es.map aK) rows rows.length (i:Int) (rowF f) (lX q (rowF f)) (f.cells.getD 1 .top).toInt (f.cells.getD 2 .top).toInt;rw [Z,ae,<-hk] at h7;refine tH h7 ?_;rw [<-hk] at ab;have ac:decide (k.length<=(4611686018427387904:Nat))=true:=decide_eq_true ab;have h8:=xQ8 q l (es.map aK) rows rows.length (i:Int) (rowF f) (lX q (rowF f)) (f.cells.getD 1 .top).toInt (f.cells.getD 2 .top).toInt k;have h9:=xQ9 q l (es.map aK) rows rows.length (i:Int) (rowF f) (lX q (rowF f)) (f.cells.getD 1 .top).toInt (f.cells.getD 2 .top).toInt k;rw [ac] at h8;have al:mF q (es,rows) f=(dW es k (lE f),match dY es k with|none=>rows++[.list 3 (lX q (rowF f))]|some _=>rows):=by unfold mF;rw [<-hk]
 rw[al]at hq;have J:=λ rs rn=>MY q l (es.map aK) rs rn (i:Int) (rowF f) (lX q (rowF f)) (f.cells.getD 1 .top).toInt (f.cells.getD 2 .top).toInt k;have hml:(es.map aK).length<4611686018427387904:=by rw[za];omega
 cases hj:dY es k with|none=>((rw[hj]at hq;have O:iL (es.map aK) k=false:=by rw[xye,hj];rfl);rw[O]at h8;obtain⟨s3,p3,e3⟩:=rY F1 (K:=some) h8;cases e3;refine pP (pP (VH (b:=true) CQ SP p3 SS SN SF (.inl ⟨rfl,CD ..⟩) (Kh (CE ..) (λ _=>?_) (λ h=>by cases h))));(refine vm (J9 mz _) ?_;rw[CI];have c9:(rows.length==rows.length&&(decide ((rows.length+(1:Nat))*(24:Nat)<=(140737488355328:Nat))&&decide (rows.length+(1:Nat)<=(4611686018427387904:Nat))))=true:=by simp only[beq_self_eq_true,Bool.true_and,zf,zl];omega);(rw[c9]at h9;refine Kp h9 ?_;have J:=J (rows++[.list 3 (lX q (rowF f))]) (rows.length+1);have ad:(decide ((es.map aK).length<(4611686018427387904:Nat))&&(true&&gM (es.map aK) k (1:Nat)))=true:=by rw[xF0 hj];simp only[Bool.and_self,zS,zl];exact hml);(rw[ac,O,ad,xEJ hj]at J;refine Kp J (V _ _ _ ?_);have hn:(rows++[AV.list 3 (lX q (rowF f))]).length=rows.length+1:=by simp);rw[<-hn];exact hq)|some j=>
 rw[hj]at hq;have af:=yA hj;have O:iL (es.map aK) k=true:=by rw[xye,hj];rfl
 have aa:aM (es.map aK) k=j:=xEM hj;have Y:=xJw hj;have hkey':(es.getD j default).1=k:=Uh hj;obtain⟨hne,ap⟩:=hp (es.getD j default) (by simp[z7,af]);obtain⟨ys,W⟩:∃ys,ys=(es.getD j default).2:=⟨_,rfl⟩;rw[O,aa,Y,vX,oo,qm,<-W]at h8;rw[<-W]at hne ap;have ag:0<ys.length:=List.length_pos_iff.2 hne;obtain⟨s3,p3,e3⟩:=rY F1 (K:=some) h8;cases e3;have aj:getB [aU (es.map aK),dr rows,f9 (rowF f) (f.cells.getD 1 .top).toInt (f.cells.getD 2 .top).toInt] (.r 0 j 1)=some (iP (aU (es.map aK)) (.list 2 ys)):=by(have hc:bW (aU (es.map aK)).ty=true:=by cases q<;>kernel_rfl);have h1:=oG (H:=[aU (es.map aK),dr rows,f9 (rowF f) (f.cells.getD 1 .top).toInt (f.cells.getD 2 .top).toInt]) (n:=0) (i:=j) (j:=1) (bx:=aU (es.map aK)) rfl hc KT rfl (by show j<(es.map aK).length;simpa using af);rw[h1];show some (iP _ (((es.map aK).getD j .top).cells.getD 1 .top))=_;rw[Y,vX,<-W]
 refine pP (pP (VH (b:=false) CQ SP p3 SS SN SF (.inr ⟨rfl,.r 0 j 1,ys.length,iP (aU (es.map aK)) (.list 2 ys),by rw[CD];rfl,ag,aj⟩) (Kh (CE ..) (λ h=>by cases h) (λ _=>RI ?_))));refine vm (J9 mz _) ?_;rw[CI];have J:=J rows rows.length;rw[ac,O,aa,Y,Ll,Lk,vX,oo,qm,lEn,hkey',<-W]at J;have e1:([AV.str k]++[AV.int IntKind.i64 (ys.length:Int)]++([]:List AV))=[AV.str k,AV.int IntKind.i64 (ys.length:Int)]:=rfl;rw[e1]at J;have e2:(es.map aK).set j (.agg [AV.str k,AV.int IntKind.i64 (ys.length:Int)])=(es.map aK).set j (io k (ys.length:Int)):=rfl;rw[e2]at J;have ad:(decide (j<(es.map aK).length)&&(true&&((2:Nat)==(2:Nat)&&((2:Nat)*ys.length==(2:Nat)*ys.length&&(ys.length==ys.length&&(ys.length==ys.length&&(decide ((ys.length+(1:Nat))*(16:Nat)<=(140737488355328:Nat))&&decide (ys.length+(1:Nat)<=(4611686018427387904:Nat)))))))))=true:=by simp only[beq_self_eq_true,Bool.true_and,zf,zl,za];omega
 rw[ad]at J;have am:(ys.length+(1:Nat)==(ys++[AV.agg [AV.int IntKind.i64 (f.cells.getD 1 .top).toInt,AV.int IntKind.i64 (f.cells.getD 2 .top).toInt]]).length&&(decide (((es.map aK).set j (io k (ys.length:Int))).length<(4611686018427387904:Nat))&&(true&&gM ((es.map aK).set j (io k (ys.length:Int))) k (ys.length+(1:Nat)))))=true:=by rw[xF1 hj];simp only[z8,zj,y4,beq_self_eq_true,Bool.true_and,zf,zl];exact⟨hml,trivial⟩
 rw[am,W,xCN hj]at J;exact Kp J (V _ _ _ hq)
end
end Go.Sim.M
end
noncomputable section
set_option maxRecDepth 100000
namespace Go.Sim.M
open Go.RowKit Go.Proofs
def Lt(q:Option Int){es:List En}{rows:List AV}{i:Nat}(f:AV)(he:es.length<=i)(hr:rows.length<=i)(hp:∀e,e∈es->e.2≠[]/\e.2.length<=i):(mF q (es,rows) f).1.length<=i+1/\(mF q (es,rows) f).2.length<=i+1/\∀e,e∈(mF q (es,rows) f).1->e.2≠[]/\e.2.length<=i+1:=by unfold mF;dsimp only;generalize kyQ q (rowF f)=k;refine⟨Nat.le_trans (S8 k _ es) Ω,?_,λ e hm=>?_⟩;(cases dY es k with|none=>simp;omega|some j=>simp;omega);cases hj:dY es k with|none=>(rw[Ry hj]at hm;rcases zG.1 hm with h|h;have:=hp e h;exact⟨this.1,by omega⟩;simp only[zv]at h;subst h;exact⟨by simp,by simp⟩)|some j=>rw[Rz hj]at hm;have J:=yA hj;rcases List.mem_or_eq_of_mem_set hm with h|h;have:=hp e h;exact⟨this.1,by omega⟩;subst h;have:=hp (es.getD j default) (by simp[z7,J]);refine⟨by simp,?_⟩;simp only[z8,zj];omega
def U2(q:Option Int)(l:List AV):∀i,i<=l.length->((l.take i).foldl (mF q) ([],[])).1.length<=i/\((l.take i).foldl (mF q) ([],[])).2.length<=i/\∀e,e∈((l.take i).foldl (mF q) ([],[])).1->e.2≠[]/\e.2.length<=i|0,_=>by simp|i+1,hi=>by obtain⟨h1,h2,h3⟩:=U2 q l i Ω;(have e:l.take (i+1)=l.take i++[l.getD i .top]:=by rw[List.take_add_one,ze Ω];simp[z7,show i<l.length by omega]);rw[e,List.foldl_append];exact Lt q (l.getD i .top) h1 h2 h3
def CJ(q:Option Int){l:List AV}(hl:l.length<2147483648)(hf:∀i,i<l.length->sn q (l.getD i .top)):bK Tryz.prog (xO6.at 0) (.loop LI) (λ e s=>e=.exit 0/\s=⟨aX 45 ((16::fK).zip (.bool false::lK q l (n3 q l).2.length (l.length:Int))),[aU ((n3 q l).1.map aK),dr (n3 q l).2]⟩) ⟨aX 45 (fK.zip (lK q l 0 ((0:Nat):Int))),[aU [],dr []]⟩:=by
 refine Sq (Re (λ n s=>∃i,n=l.length - i/\i<=l.length/\s=⟨aX 45 (fK.zip (lK q l ((l.take i).foldl (mF q) ([],[])).2.length (i:Int))),[aU (((l.take i).foldl (mF q) ([],[])).1.map aK),dr ((l.take i).foldl (mF q) ([],[])).2]⟩) (n0:=l.length) (dx.refl _ _) ⟨0,by omega,zQ _,rfl⟩ ?_);rintro n s ⟨i,rfl,hi,rfl⟩;obtain⟨h1,h2,h3⟩:=U2 q l i hi;have e:i<l.length->l.take (i+1)=l.take i++[l.getD i .top]:=λ h=>by rw[List.take_add_one,ze h];simp[z7,h]
 obtain⟨st,O⟩:∃st,st=(l.take i).foldl (mF q) ([],[]):=⟨_,rfl⟩;rw[<-O]at h1 h2 h3|-;obtain⟨es,rows⟩:=st;unfold LI;refine tH (xQ4 q l (es.map aK) rows rows.length (i:Int)) ?_;refine pP (Kh (K4 ..) (λ hb=>RI ?_) λ hb=>Tp ?_);have J:i<l.length:=by simpa using hb
 show bK Tryz.prog (xO6.at 0) _ _ _;rw[hb];refine C3 q J hl (hf i J) h1 h2 h3 ?_;refine⟨l.length - (i+1),_,by omega,dx.refl _ _,i+1,rfl,J,?_⟩;rw[e J,List.foldl_append,<-O];rfl;have Q:i=l.length:=by(have:¬ ((i:Int)<l.length):=by simpa using hb);omega
 show _/\_;subst Q;rw[y6]at O;have V:n3 q l=(es,rows):=O.symm;rw[hb,V];exact⟨rfl,rfl⟩
def yQa(q:Option Int)(l:List AV):dI [0,1] ⟨[.list 3 l,lY q]++List.replicate 43 (.tuple []),[]⟩=⟨aX 45 ([0,1].zip [.list 3 l,lY q]),[]⟩:=by cases q<;>kernel_rfl
def yQ0(q:Option Int)(l:List AV):XC Tryz.prog mP [0,1] [0,1] (.region 0 (pO 0) false) [.list 3 l,lY q] []=some (LR.leaf .normal [.list 3 l,lY q] []).eval:=by cases q<;>kernel_rfl
def yQ1(q:Option Int)(l:List AV):XC Tryz.prog mP [0,1] [0,1,6] (.region 1 (pO 1) false) [.list 3 l,lY q] []=some (LR.leaf .normal [.list 3 l,lY q,.own 0 0 0 0] [aU []]).eval:=by cases q<;>kernel_rfl
def yQ2(q:Option Int)(l:List AV):XC Tryz.prog mP [0,1,6] [0,1,6,7] (.region 2 (pO 2) false) [.list 3 l,lY q,.own 0 0 0 0] [aU []]=some (LR.leaf .normal [.list 3 l,lY q,.own 0 0 0 0,.nils] [aU []]).eval:=by cases q<;>kernel_rfl
def yQ3(q:Option Int)(l:List AV):XC Tryz.prog mP [0,1,6,7] fK (.region 3 (pO 3) false) [.list 3 l,lY q,.own 0 0 0 0,.nils] [aU []]=some (LR.leaf .normal [lY q,.own 0 0 0 0,.nils,.list 3 l,.int .i64 l.length,.int .i64 0] [aU []]).eval:=by cases q<;>kernel_rfl
def yQn(q:Option Int)(l:List AV):gx 0 [(7,1,47)] fK ⟨aX 45 (fK.zip [lY q,.own 0 0 0 0,.nils,.list 3 l,.int .i64 l.length,.int .i64 0]),[aU []]⟩=some (lK q l 0 ((0:Nat):Int),[aU [],dr []]):=by cases q<;>kernel_rfl
def yQm(q:Option Int)(l:List AV):aX (aX 45 (fK.zip [lY q,.own 0 0 0 0,.nils,.list 3 l,.int .i64 l.length,.int .i64 0])).length (fK.zip (lK q l 0 ((0:Nat):Int)))=aX 45 (fK.zip (lK q l 0 ((0:Nat):Int))):=by cases q<;>kernel_rfl
def SA(q:Option Int)(l ms rows:List AV)(rn:Nat)(i:Int):XC Tryz.prog mP (16::fK) [4,5] (.region 12 (pO 12) false) (.bool false::lK q l rn i) [aU ms,dr rows]=some (LR.leaf .normal [.own 0 0 0 0,.osl 1 0 0 rn] [aU ms,dr rows]).eval:=by cases q<;>kernel_rfl
def Cv(q:Option Int){l:List AV}(hl:l.length<2147483648)(hf:∀i,i<l.length->sn q (l.getD i .top)):bK Tryz.prog (xO6.at 0) pB (λ e s=>e=.ret/\s=⟨aX 45 ([4,5].zip [.own 0 0 0 0,.list 1 (n3 q l).2]),[aU ((n3 q l).1.map aK)]⟩) ⟨[.list 3 l,lY q]++List.replicate 43 (.tuple []),[]⟩:=by refine vm (J9 [0,1] _) ?_;rw[yQa,xMW];refine tH (yQ0 q l) (tH (yQ1 q l) (tH (yQ2 q l) (pP (tH (yQ3 q l) ?_))));have hw:=uW (yQn q l);rw[yQm]at hw;refine vm hw (Rd (l7 (CJ q hl hf) λ e s⟨he,hs⟩=>?_));subst he hs;show bK Tryz.prog (xO6.at 0) _ _ _;refine tH (SA q l _ _ _ _) (Tq (UF ?_));refine⟨_,?_,rfl,rfl⟩;exact Lm (n3 q l).2 ((n3 q l).1.map aK)
def xzx(q:Option Int){l:List AV}(hl:l.length<2147483648)(hf:∀i,i<l.length->sn q (l.getD i .top)):bH Tryz.prog xO6 60 [.list 3 l,lY q] [] (.tuple [.own (.b 0) 0 0 0,.list 1 (n3 q l).2]) [gr ((n3 q l).1.map aK)]:=xH6 (Cv q hl hf)
noncomputable def Cg(l:List AV):Bool:=decide (l.length<2147483648)&&(List.range l.length).all λ i=>sn none (l.getD i .top)
noncomputable def r6(l:List AV):List AV:=(n3 none l).1.map aK
noncomputable def Rw(l:List AV):List AV:=(n3 none l).2
noncomputable def FB(l:List AV)(n:Int):Bool:=decide (l.length<2147483648)&&(List.range l.length).all λ i=>sn (some n) (l.getD i .top)
noncomputable def Fp(l:List AV)(n:Int):List AV:=(n3 (some n) l).1.map aK
noncomputable def JY(l:List AV)(n:Int):List AV:=(n3 (some n) l).2
noncomputable def VL:List AV->List aC->Option (Bool×AV×List aC):=ju (cY (mL 3 bG) (cY (sEq (em 58 bT)) jj)) bT λ(l,_) _=>(Cg l,.tuple [.own (.b 0) 0 0 0,.list 1 (Rw l)],[⟨0,2,dh 67,r6 l,true,true⟩])
noncomputable def VK:List AV->List aC->Option (Bool×AV×List aC):=ju (cY (mL 3 bG) (cY (sEq (em 59 (bL (em 1099511627776 (bL (pInt .i64) bT)) bT))) jj)) bT λ(l,(((n,_),_),_)) _=>(FB l n,.tuple [.own (.b 0) 0 0 0,.list 1 (JY l n)],[⟨0,2,dh 67,Fp l n,true,true⟩])
def xLL:fP Tryz.prog xO6 60 VL:=rt λ b c r H' h=>by obtain⟨l,_,_⟩:=b;obtain⟨h1,h2⟩:=Prod.mk.inj h;obtain⟨rfl,rfl⟩:=Prod.mk.inj h2;simp only[Cg,zf,zl,zI,List.mem_range]at h1;exact xzx none h1.1 h1.2
def xLK:fP Tryz.prog xO6 60 VK:=rt λ b c r H' h=>by obtain⟨l,⟨⟨n,_⟩,_⟩,_⟩:=b;obtain⟨h1,h2⟩:=Prod.mk.inj h;obtain⟨rfl,rfl⟩:=Prod.mk.inj h2;simp only[FB,zf,zl,zI,List.mem_range]at h1;exact xzx (some n) h1.1 h1.2
noncomputable def tU:dp:=(KK.E.withM 60 VL).withM 60 VK
def xHk:dA Tryz.prog xO6 tU:=(KK.ok.withM xLL).withM xLK
noncomputable def xHj:EO:=EO.mk tU xHk
end Go.Sim.M
end
noncomputable section
set_option maxRecDepth 100000
namespace Go.Sim.M
open Go.IntKind (i64 u64 u8)
open Go.RowKit Go.Proofs
def Ov{T:Type}(a b:LA)(δ:T)(κ:LA×LA->T):T:=br (decide (a.length*8<=140737488355328)&&decide (a.length<=4611686018427387904)) (br ((BM b).isSome) (br (decide (0+a.length<=a.length)&&true&&true) (κ (List.take a.length (List.drop 0 a),(BM b).getD [])) δ) δ) δ
def th(a b:LA):=Ov a b none some
def xKA:EO:=xHj.f Tryz.func19 11 0 [] [] lk0 (u1 (fO (u2 (uL 1) (uL 3)))) (λ((a,b,_),_) _=>Ov a b) (λ _ p=>AV.agg [AV.list 1 p.1,AV.list 3 p.2]) ([],[])
def Pw{T:Type}(a b d c:LA)(δ:T)(κ:LA×LA->T):T:=br (decide (a.length<=1099511627776)&&(Kk b c).isSome) (κ (a,(Kk b c).getD [])) δ
def x9(a b c d:LA):=Pw a b c d none some
def xKB:EO:=xKA.f Tryz.func13 8 0 [] [] lk0 (u2 (fO (u2 (uL 1) (uL 3))) (fO (u2 (uL 1) (uL 3)))) (λ((a,b,_),(c,d,_),_) _=>Pw a b c d) (λ _ p=>AV.agg [AV.list 1 p.1,AV.list 3 p.2]) ([],[])
def Pc{T:Type}(a b d c:LA)(δ:T)(κ:LA×LA->T):T:=br (decide (a.length<=1099511627776)&&(Km b c).isSome) (κ (a,(Km b c).getD [])) δ
def x7(a b c d:LA):=Pc a b c d none some
def xKC:EO:=xKB.f Tryz.func15 8 0 [] [] lk0 (u2 (fO (u2 (uL 1) (uL 3))) (fO (u2 (uL 1) (uL 3)))) (λ((a,b,_),(c,d,_),_) _=>Pc a b c d) (λ _ p=>AV.agg [AV.list 1 p.1,AV.list 3 p.2]) ([],[])
def Of{T:Type}(a b d c:LA)(δ:T)(κ:LA×LA->T):T:=br (decide (a.length<=1099511627776)&&(Kl b c).isSome) (κ (a,(Kl b c).getD [])) δ
def xX(a b c d:LA):=Of a b c d none some
def KL:EO:=xKC.f Tryz.func17 8 0 [] [] lk0 (u2 (fO (u2 (uL 1) (uL 3))) (fO (u2 (uL 1) (uL 3)))) (λ((a,b,_),(c,d,_),_) _=>Of a b c d) (λ _ p=>AV.agg [AV.list 1 p.1,AV.list 3 p.2]) ([],[])
def xB(h a:LA)(b:Int):=(iM ((Et h (gC a b 0).toList).getD [])).getD []
def xC(a:LA)(b:Int):=(iM (gC a b 0).toList).getD []
def HO{T:Type}(n:Int)(k:LA)(m:Nat)(h o:LA)(p q:Int)(d:LA)(j:Int)(l:LA)(c:Int)(g i b e a f:LA)(δ:T)(κl:(LA×Int×LA×LA×LA×LA×LA×LA)->T)(κr:(LA×LA×LA×LA×LA×LA×LA)->T):T:=br (decide (c<j)) (br (bX d c) (br (dG d c (Sh.list 3) 0) (br ((iM (gC d c 0).toList).isSome) (br (decide ((xC d c).length<=4611686018427387904)&&(!iL a (xC d c) || jV 2 (eO AV.nils a (xC d c)))) (br ((Et h (gC d c 0).toList).isSome) (br ((iM ((Et h (gC d c 0).toList).getD [])).isSome) (br (decide ((xB h d c).length<=4611686018427387904)&&(!iL b (xB h d c) || jV 2 (eO AV.nils b (xB h d c)))) (br ((x4 (dL a (xC d c)) (dL b (xB h d c))).isSome) (br ((x4 l ((x4 (dL a (xC d c)) (dL b (xB h d c))).getD [])).isSome) (κl ((x4 l ((x4 (dL a (xC d c)) (dL b (xB h d c))).getD [])).getD [],i64.wrap (c+1),g,i,b,e,a,f)) δ) δ) δ) δ) δ) δ) δ) δ) δ) (κr (l,g,i,b,e,a,f))
def AK(n:Int)(e:LA)(f:Nat)(h g:LA)(i j:Int)(k:LA)(m:Int):cS (LA×Int×LA×LA×LA×LA×LA×LA) (LA×LA×LA×LA×LA×LA×LA):=λ(l,o,p,q,b,c,a,d)=>HO n e f h g i j k m l o p q b c a d none inL inR
def Dp:=KL.l 110 0 [10000034,11000005,8000000] [] Tryz.f23 1 lk0 [2,4,5,8,10,12,13,14,16,17,56,57,58,67,68,69] [2,4,5,8,10,12,13,14,16,17,56,57,58] [(14,3,54),(14,3,54)] (bL (dz 0 0 0 0) (bL (dz 1 0 0 0) (bL (em 1099511627776 (q1 qI)) (bL (dz 2 0 0 0) (bL (dz 3 0 0 0) (bL (dz 4 0 0 0) (F2 (qL 1) (cJ 5 0 0) (qL 3) (qL 2) (qL 1) qI qI (qL 1) qI qI))))))) (q6 (qB 0 2 25 (q1 (gA (q2 (qL 1) (qL 3))))) (qB 0 2 25 (q1 (gA (q2 eD eD)))) (fY 0 2 1208925819614917004623872 true true bG) (fY 0 2 1208925819614917004623872 true true bG) (fY 0 2 1208925819614917004623872 true true bG) (qB 0 3 54 bG)) (λ(_,_,(n,_),_,_,_,d,e,h,l,g,i,j,k,m,o,_) (((q,r,_),_),((_,_,_),_),b,c,a,f,_)=>(AK n d e h g i j k m,(l,o,q,r,b,c,a,f),λ p=>(.leaf (.exit 2) [AV.own 0 0 0 0,AV.own 1 0 0 0,AV.func 1099511627776 [AV.int .i64 n],AV.own 2 0 0 0,AV.own 3 0 0 0,AV.own 4 0 0 0,AV.list 1 d,AV.osl 5 0 0 e,AV.list 3 h,AV.list 2 p.1,AV.list 1 g,AV.int .i64 i,AV.int .i64 j] [bF 0 2 25 [AV.agg [AV.list 1 p.2.1,AV.list 3 p.2.2.1]],bF 0 2 25 [AV.agg [AV.nils,AV.nils]],⟨0,2,1208925819614917004623872,p.2.2.2.1,true,true⟩,⟨0,2,1208925819614917004623872,p.2.2.2.2.1,true,true⟩,⟨0,2,1208925819614917004623872,p.2.2.2.2.2.1,true,true⟩,bF 0 3 54 p.2.2.2.2.2.2]))) ([],[],[],[],[],[],[]) λ(_,_,(n,_),_,_,_,d,e,h,_,g,i,j,k,m,_,_) _ (l,o,q,r,b,c,a,f)=>((((),(),(n,()),(),(),(),d,e,h,l,g,i,j,k,m,o,()),(((q,r,()),()),(((),(),()),()),b,c,a,f,())),HO n d e h g i j k m l o q r b c a f none)
def HP{T:Type}(n:Int)(l h m:LA)(o p:Int)(g:LA)(k:Int)(f:Nat)(e:Int)(i j b c a d:LA)(δ:T)(κl:(Nat×Int×LA×LA×LA×LA×LA×LA)->T)(κr:(Nat×LA×LA×LA×LA×LA×LA)->T):T:=br (decide (e<k)) (br (bX g e) (br (jl g e 2 [Sh.int .i64,Sh.int .i64] 0) (br (iH f d 1 40) (κl (f+1,i64.wrap (e+1),i,j,b,c,a,d++[AV.agg [AV.list 3 h,AV.int .i64 (gC g e 0).toInt,AV.int .i64 (gC g e 1).toInt]])) δ) δ) δ) (κr (f,i,j,b,c,a,d))
def AL(n:Int)(e h g:LA)(i j:Int)(k:LA)(l:Int):cS (Nat×Int×LA×LA×LA×LA×LA×LA) (Nat×LA×LA×LA×LA×LA×LA):=λ(f,m,o,p,b,c,a,d)=>HP n e h g i j k l f m o p b c a d none inL inR
def HF:=KL.l 110 0 [10000034,11000005,8000000] [(13,Dp.lp)] Tryz.f23 2 lk0 [2,4,5,8,10,12,13,14,16,56,57,58,87,88,89] [2,4,5,8,10,12,13,14,56,57,58] [(14,3,54),(14,3,54)] (bL (dz 0 0 0 0) (bL (dz 1 0 0 0) (bL (em 1099511627776 (q1 qI)) (bL (dz 2 0 0 0) (bL (dz 3 0 0 0) (F2 (dz 4 0 0 0) (qL 1) (cJ 5 0 0) (qL 3) (qL 1) qI qI (qL 2) qI qI)))))) (q6 (qB 0 2 25 (q1 (gA (q2 (qL 1) (qL 3))))) (qB 0 2 25 (q1 (gA (q2 eD eD)))) (fY 0 2 1208925819614917004623872 true true bG) (fY 0 2 1208925819614917004623872 true true bG) (fY 0 2 1208925819614917004623872 true true bG) (qB 0 3 54 bG)) (λ(_,_,(n,_),_,_,_,d,f,h,g,i,j,k,m,o,_) (((q,r,_),_),((_,_,_),_),b,c,a,e,_)=>(AL n d h g i j k m,(f,o,q,r,b,c,a,e),λ p=>(.leaf (.exit 4) [AV.own 0 0 0 0,AV.own 1 0 0 0,AV.func 1099511627776 [AV.int .i64 n],AV.own 2 0 0 0,AV.own 3 0 0 0,AV.own 4 0 0 0,AV.list 1 d,AV.osl 5 0 0 p.1,AV.list 1 g,AV.int .i64 i,AV.int .i64 j] [bF 0 2 25 [AV.agg [AV.list 1 p.2.1,AV.list 3 p.2.2.1]],bF 0 2 25 [AV.agg [AV.nils,AV.nils]],⟨0,2,1208925819614917004623872,p.2.2.2.1,true,true⟩,⟨0,2,1208925819614917004623872,p.2.2.2.2.1,true,true⟩,⟨0,2,1208925819614917004623872,p.2.2.2.2.2.1,true,true⟩,bF 0 3 54 p.2.2.2.2.2.2]))) (0,[],[],[],[],[],[]) λ(_,_,(n,_),_,_,_,d,_,h,g,i,j,k,m,_,_) _ (f,o,q,r,b,c,a,e)=>((((),(),(n,()),(),(),(),d,f,h,g,i,j,k,m,o,()),(((q,r,()),()),(((),(),()),()),b,c,a,e,())),HP n d h g i j k m f o q r b c a e none)
def AQ(a:LA)(b:Int):=(iM (gC a b 0).toList).getD []
def rR(n:Int)(b e:LA)(i:Int)(h:Nat)(f:Int)(j k d a c g:LA):=aB (AK n b h (gC e f 0).toList e i f b (↑b.length:Int)) ((r7 (dL a (AQ e f))).getD [],0,j,k,d,a,c,g)
def s9(n:Int)(e g:LA)(i:Int)(f:Nat)(h:Int)(j k b c a d:LA):=aB (AL n e (gC g h 0).toList g i h (((rR n e g i f h j k b c a d).getD ([],[],[],[],[],[],[])).fst) (↑(((rR n e g i f h j k b c a d).getD ([],[],[],[],[],[],[])).fst).length:Int)) (f,0,(((rR n e g i f h j k b c a d).getD ([],[],[],[],[],[],[])).snd).fst,((((rR n e g i f h j k b c a d).getD ([],[],[],[],[],[],[])).snd).snd).fst,(((((rR n e g i f h j k b c a d).getD ([],[],[],[],[],[],[])).snd).snd).snd).fst,((((((rR n e g i f h j k b c a d).getD ([],[],[],[],[],[],[])).snd).snd).snd).snd).fst,(((((((rR n e g i f h j k b c a d).getD ([],[],[],[],[],[],[])).snd).snd).snd).snd).snd).fst,(((((((rR n e g i f h j k b c a d).getD ([],[],[],[],[],[],[])).snd).snd).snd).snd).snd).snd)
def HN{T:Type}(n:Int)(h g:LA)(i:Int)(f:Nat)(e:Int)(j k c a b d:LA)(δ:T)(κl:(Nat×Int×LA×LA×LA×LA×LA×LA)->T)(κr:(Nat×LA×LA×LA)->T):T:=br (decide (e<i)) (br (bX g e) (br (dG g e (Sh.list 3) 0) (br ((iM (gC g e 0).toList).isSome) (br (decide ((AQ g e).length<=4611686018427387904)&&(!iL a (AQ g e) || jV 2 (eO AV.nils a (AQ g e)))) (br ((r7 (dL a (AQ g e))).isSome) (br ((rR n h g i f e j k c a b d).isSome) (br ((s9 n h g i f e j k c a b d).isSome) (κl (((s9 n h g i f e j k c a b d).getD (0,[],[],[],[],[],[])).fst,i64.wrap (e+1),(((s9 n h g i f e j k c a b d).getD (0,[],[],[],[],[],[])).snd).fst,((((s9 n h g i f e j k c a b d).getD (0,[],[],[],[],[],[])).snd).snd).fst,(((((s9 n h g i f e j k c a b d).getD (0,[],[],[],[],[],[])).snd).snd).snd).fst,((((((s9 n h g i f e j k c a b d).getD (0,[],[],[],[],[],[])).snd).snd).snd).snd).fst,(((((((s9 n h g i f e j k c a b d).getD (0,[],[],[],[],[],[])).snd).snd).snd).snd).snd).fst,(((((((s9 n h g i f e j k c a b d).getD (0,[],[],[],[],[],[])).snd).snd).snd).snd).snd).snd)) δ) δ) δ) δ) δ) δ) δ) (κr (f,j,k,d))
def AJ(n:Int)(e g:LA)(h:Int):cS (Nat×Int×LA×LA×LA×LA×LA×LA) (Nat×LA×LA×LA):=λ(f,i,j,k,b,c,a,d)=>HN n e g h f i j k b c a d none inL inR
def X7:=KL.l 110 0 [10000034,11000005,8000000] [(13,Dp.lp),(18,HF.lp)] Tryz.f23 0 (lW (fp Dp.ok (fp HF.ok kU))) [2,4,5,8,10,12,13,14,56,57,58] [2,4,5,14] [(14,3,54),(14,3,54)] (bL (dz 0 0 0 0) (F2 (dz 1 0 0 0) (em 1099511627776 (q1 qI)) (dz 2 0 0 0) (dz 3 0 0 0) (dz 4 0 0 0) (qL 1) (cJ 5 0 0) (qL 1) qI qI)) (q6 (qB 0 2 25 (q1 (gA (q2 (qL 1) (qL 3))))) (qB 0 2 25 (q1 (gA (q2 eD eD)))) (fY 0 2 1208925819614917004623872 true true bG) (fY 0 2 1208925819614917004623872 true true bG) (fY 0 2 1208925819614917004623872 true true bG) (qB 0 3 54 bG)) (λ(_,_,(n,_),_,_,_,e,f,g,h,i,_) (((j,k,_),_),((_,_,_),_),b,c,a,d,_)=>(AJ n e g h,(f,i,j,k,b,c,a,d),λ p=>(.leaf (.exit 0) [AV.own 0 0 0 0,AV.own 1 0 0 0,AV.func 1099511627776 [AV.int .i64 n],AV.osl 2 0 0 p.1] [bF 0 2 25 [AV.agg [AV.list 1 p.2.1,AV.list 3 p.2.2.1]],bF 0 2 25 [AV.agg [AV.nils,AV.nils]],bF 0 3 54 p.2.2.2]))) (0,[],[],[]) λ(_,_,(n,_),_,_,_,e,_,g,h,_,_) _ (f,i,j,k,b,c,a,d)=>((((),(),(n,()),(),(),(),e,f,g,h,i,()),(((j,k,()),()),(((),(),()),()),b,c,a,d,())),HN n e g h f i j k b c a d none)
def Iz(a b:LA):Int:=if i64.wrap ((↑a.length:Int) - (↑b.length:Int))<(↑a.length:Int)then i64.wrap ((↑a.length:Int) - (↑b.length:Int))else(↑a.length:Int)
def rS(a b:LA):Int:=if Iz a b>0 then Iz a b else 0
def Iy(a b c d:LA):=aB (AJ (rS a c) (Rw d) (JY b (rS a c)) (↑(JY b (rS a c)).length:Int)) (0,0,a,b,r6 b,Fp b (rS a c),r6 d,[])
def xW(a b c d:LA):=(Iy a b c d).getD (0,[],[],[])
def OR(a b c d:LA):=BM (List.take ((xW a b c d).fst) (List.drop 0 (((xW a b c d).snd).snd.snd)))
def H4(a c b d:LA):=List.take ((rS a b).toNat - 0) (List.drop 0 (((xW a c b d).snd).fst))
def D2(a b c d:LA):Nat:=0+(H4 a b c d).length
def Pb{T:Type}(a c b d:LA)(δ:T)(κ:LA×LA->T):T:=br (Cg c) (br (FB c (rS a b)) (br (Cg d) (br ((Iy a c b d).isSome) (br (decide (0<=rS a b)&&decide (rS a b<=(↑(((xW a c b d).snd).fst).length:Int))&&true) (br (decide (D2 a c b d*8<=140737488355328)&&decide (D2 a c b d<=4611686018427387904)) (br (decide (0+((xW a c b d).fst)<=(((xW a c b d).snd).snd.snd).length)&&true) (br ((OR a c b d).isSome) (br (decide (0+D2 a c b d<=([]++H4 a c b d).length)&&true&&true) (κ (List.take (D2 a c b d) (List.drop 0 ([]++H4 a c b d)),(OR a c b d).getD [])) δ) δ) δ) δ) δ) δ) δ) δ) δ
def Jm(a b c d:LA):=Pb a b c d none some
def VG:EO:=KL.f Tryz.func23 110 0 [10000034,11000005,8000000] [(13,Dp.lp),(18,HF.lp),(9,X7.lp)] (lW (fp X7.ok (fp Dp.ok (fp HF.ok kU)))) (u2 (fO (u2 (uL 1) (uL 3))) (fO (u2 (uL 1) (uL 3)))) (λ((a,b,_),(c,d,_),_) _=>Pb a b c d) (λ _ p=>AV.agg [AV.list 1 p.1,AV.list 3 p.2]) ([],[])
def G8{T:Type}(b i:Int)(d:LA)(c:Nat)(a:LA)(δ:T)(κl:(Int×LA×Nat×LA)->T)(κr:(Nat×LA×LA)->T):T:=br (decide (i<b)) (br (iH c a 1 8) (κl (i64.wrap (i+1),d,c+1,a++[AV.int .i64 1])) δ) (κr (c,d,a))
def Au(a:Int):cS (Int×LA×Nat×LA) (Nat×LA×LA):=λ(i,c,d,b)=>G8 a i c d b none inL inR
def XA:=VG.l 20 0 [] [] Tryz.f40 0 lk0 [0,4,5,6] [4,5] [(5,1,3)] (q4 qI (dz 0 0 0 0) (dz 1 0 0 0) qI) (q3 (qB 0 2 25 (q1 (gA (q2 eD eD)))) (fY 0 2 25 false false (q1 (gA (q2 (cJ 2 0 0) (qL 3))))) (qB 0 1 3 bG)) (λ(a,_,_,i,_) (((_,_,_),_),((c,d,_),_),b,_)=>(Au a,(i,d,c,b),λ p=>(.leaf (.exit 0) [AV.own 0 0 0 0,AV.own 1 0 0 0] [bF 0 2 25 [AV.agg [AV.nils,AV.nils]],⟨0,2,25,[AV.agg [AV.osl 2 0 0 p.1,AV.list 3 p.2.1]],false,false⟩,bF 0 1 3 p.2.2]))) (0,[],[]) λ(a,_,_,_,_) _ (i,d,c,b)=>(((a,(),(),i,()),((((),(),()),()),((c,d,()),()),b,())),G8 a i d c b none)
def N8(a:Int)(l:LA):=aB (Au a) (0,l,0,[])
def Bh(a:Int)(l:LA):=(N8 a l).getD (0,[],[])
def OD{T:Type}(a:Int)(l:LA)(δ:T)(κ:LA×LA->T):T:=br ((N8 a l).isSome) (br (decide (0+((Bh a l).fst)<=(((Bh a l).snd).snd).length)&&true&&true) (κ (List.take ((Bh a l).fst) (List.drop 0 (((Bh a l).snd).snd)),((Bh a l).snd).fst)) δ) δ
def uG(a:Int)(l:LA):=OD a l none some
def Vt:EO:=VG.f Tryz.func40 20 0 [] [(3,XA.lp)] (fh XA.ok) (u2 uI (uL 3)) (λ(a,l,_) _=>OD a l) (λ _ p=>AV.agg [AV.list 1 p.1,AV.list 3 p.2]) ([],[])
def Ix{T:Type}(b:LA)(i c d f g:Int)(e:Nat)(a:LA)(δ:T)(κl:(Int×Int×Int×Int×Int×Nat×LA)->T)(κr:(Int×Int×Nat×Int×Int×LA)->T):T:=br (decide (i<b.length)) (br (bX b i) (br (dG b i (Sh.int .i64) 0) (br (iH e a 1 32) (κl (i64.wrap (i+1),c,d,f,g,e+1,a++[AV.agg [AV.int .i64 1,AV.int .i64 (gC b i 0).toInt,AV.str []]])) δ) δ) δ) (κr (c,d,e,f,g,a))
def Az(d:LA):cS (Int×Int×Int×Int×Int×Nat×LA) (Int×Int×Nat×Int×Int×LA):=λ(i,b,c,e,f,g,a)=>Ix d i b c e f g a none inL inR
def Yi:=Vt.l 30 0 [] [] Tryz.f41 0 lk0 [2,6,7,8] [6,7] [(7,3,87)] (q4 (qL 1) (dz 0 0 0 0) (dz 1 0 0 0) qI) (q3 (qB 0 3 54 (q1 (gA (q3 eD qI qI)))) (fY 0 3 54 false false (q1 (gA (q3 (cJ 2 0 0) qI qI)))) (qB 0 3 87 bG)) (λ(d,_,_,i,_) (((_,b,c,_),_),((e,f,g,_),_),a,_)=>(Az d,(i,b,c,f,g,e,a),λ p=>(.leaf (.exit 0) [AV.own 0 0 0 0,AV.own 1 0 0 0] [bF 0 3 54 [AV.agg [AV.nils,AV.int .i64 p.1,AV.int .i64 p.2.1]],⟨0,3,54,[AV.agg [AV.osl 2 0 0 p.2.2.1,AV.int .i64 p.2.2.2.1,AV.int .i64 p.2.2.2.2.1]],false,false⟩,bF 0 3 87 p.2.2.2.2.2]))) (0,0,0,0,0,[]) λ(d,_,_,_,_) _ (i,b,c,f,g,e,a)=>(((d,(),(),i,()),((((),b,c,()),()),((e,f,g,()),()),a,())),Ix d i b c f g e a none)
def PG(a b:Int)(c:LA):=aB (Az c) (0,0,0,a,b,0,[])
def x3(a b:Int)(c:LA):=((PG a b c).getD (0,0,0,0,0,[])).snd.snd
def Qi{T:Type}(a b:Int)(c:LA)(δ:T)(κ:LA×Int×Int->T):T:=br ((PG a b c).isSome) (br (decide (0+((x3 a b c).fst)<=((((x3 a b c).snd).snd).snd).length)&&true&&true) (κ (List.take ((x3 a b c).fst) (List.drop 0 ((((x3 a b c).snd).snd).snd)),((x3 a b c).snd).fst,(((x3 a b c).snd).snd).fst)) δ) δ
def gE(a b:Int)(c:LA):=Qi a b c none some
def xKi:EO:=Vt.f Tryz.func41 30 0 [] [(3,Yi.lp)] (fh Yi.ok) (u3 uI uI (uL 1)) (λ(a,b,c,_) _=>Qi a b c) (λ _ p=>AV.agg [AV.list 3 p.1,AV.int .i64 p.2.1,AV.int .i64 p.2.2]) ([],0,0)
def Ii:=(gE 0 6 [AV.int .i64 1,AV.int .i64 5]).getD ([],0,0)
def Ij:=(gE 0 9 [AV.int .i64 2,AV.int .i64 5]).getD ([],0,0)
def Ik:=(gE 3 9 [AV.int .i64 1,AV.int .i64 6]).getD ([],0,0)
def DM:=(gE 0 9 [AV.int .i64 1]).isSome
def Il:=(gE 7 9 [AV.int .i64 1]).getD ([],0,0)
def Im:=(gE 8 9 [AV.int .i64 2]).getD ([],0,0)
def In:=(gE 4 8 [AV.int .i64 6]).getD ([],0,0)
def Io:=(gE 4 5 [AV.int .i64 1]).getD ([],0,0)
def Ip:=(gE 0 6 [AV.int .i64 1]).getD ([],0,0)
def Iq:=(gE 0 4 [AV.int .i64 2]).getD ([],0,0)
def xM:=(gE 0 9 [AV.int .i64 1]).getD ([],0,0)
def Ir:=(gE 2 7 [AV.int .i64 1]).getD ([],0,0)
def Is:=(gE 1 9 [AV.int .i64 5]).getD ([],0,0)
def It:=(gE 0 5 [AV.int .i64 1]).getD ([],0,0)
def Iu:=(gE 2 5 [AV.int .i64 1]).getD ([],0,0)
def Iv:=(gE 4 7 [AV.int .i64 1]).getD ([],0,0)
def Iw:=(gE 2 4 [AV.int .i64 1]).getD ([],0,0)
def to:=xM.snd
def Ia:=uG 2 [AV.agg [AV.list 3 Ii.fst,AV.int .i64 Ii.snd.fst,AV.int .i64 Ii.snd.snd],AV.agg [AV.list 3 Ik.fst,AV.int .i64 Ik.snd.fst,AV.int .i64 Ik.snd.snd],AV.agg [AV.list 3 Ij.fst,AV.int .i64 Ij.snd.fst,AV.int .i64 Ij.snd.snd]]
def Ic:=uG 1 [AV.agg [AV.list 3 Is.fst,AV.int .i64 Is.snd.fst,AV.int .i64 Is.snd.snd],AV.agg [AV.list 3 In.fst,AV.int .i64 In.snd.fst,AV.int .i64 In.snd.snd]]
def Ie:=uG 1 [AV.agg [AV.list 3 xM.fst,AV.int .i64 to.fst,AV.int .i64 to.snd],AV.agg [AV.list 3 Iu.fst,AV.int .i64 Iu.snd.fst,AV.int .i64 Iu.snd.snd]]
def Ih:=uG 1 [AV.agg [AV.list 3 Iv.fst,AV.int .i64 Iv.snd.fst,AV.int .i64 Iv.snd.snd]]
def O6:=Ia.getD ([],[])
def O7:=Ic.getD ([],[])
def Ib:=Ie.getD ([],[])
def Ig:=Ih.getD ([],[])
def IP:=Jm O6.fst O6.snd O7.fst O7.snd
def uD:=Ib.snd
def uF:=Ib.fst
def Br:=Ig.snd
def DL:=Ig.fst
def IN:=qZ (IP.getD ([],[])).snd [AV.agg [AV.list 3 Ip.fst,AV.int .i64 Ip.snd.fst,AV.int .i64 Ip.snd.snd],AV.agg [AV.list 3 Iq.fst,AV.int .i64 Iq.snd.fst,AV.int .i64 Iq.snd.snd],AV.agg [AV.list 3 Im.fst,AV.int .i64 Im.snd.fst,AV.int .i64 Im.snd.snd]]
def IT:=x7 uF uD DL Br
def IU:=xX uF uD DL Br
def IW:=x9 uF uD DL Br
def If:=qZ ((th uF uD).getD ([],[])).snd [AV.agg [AV.list 3 xM.fst,AV.int .i64 to.fst,AV.int .i64 to.snd]]
def IQ:=qZ (IT.getD ([],[])).snd [AV.agg [AV.list 3 It.fst,AV.int .i64 It.snd.fst,AV.int .i64 It.snd.snd],AV.agg [AV.list 3 Iw.fst,AV.int .i64 Iw.snd.fst,AV.int .i64 Iw.snd.snd],AV.agg [AV.list 3 Il.fst,AV.int .i64 Il.snd.fst,AV.int .i64 Il.snd.snd]]
def IR:=qZ (IW.getD ([],[])).snd [AV.agg [AV.list 3 xM.fst,AV.int .i64 to.fst,AV.int .i64 to.snd],AV.agg [AV.list 3 Ir.fst,AV.int .i64 Ir.snd.fst,AV.int .i64 Ir.snd.snd],AV.agg [AV.list 3 Io.fst,AV.int .i64 Io.snd.fst,AV.int .i64 Io.snd.snd]]
def IS:=qZ (IU.getD ([],[])).snd Br
def PF{T:Type}(δ:T)(κ:Bool->T):T:=br (DM) (br ((gE 2 5 [AV.int .i64 1]).isSome) (br (Ie.isSome) (br ((gE 4 7 [AV.int .i64 1]).isSome) (br (Ih.isSome) (br ((gE 0 6 [AV.int .i64 1,AV.int .i64 5]).isSome) (br ((gE 3 9 [AV.int .i64 1,AV.int .i64 6]).isSome) (br ((gE 0 9 [AV.int .i64 2,AV.int .i64 5]).isSome) (br (Ia.isSome) (br ((gE 1 9 [AV.int .i64 5]).isSome) (br ((gE 4 8 [AV.int .i64 6]).isSome) (br (Ic.isSome) (br (IW.isSome) (br (DM) (br ((gE 2 7 [AV.int .i64 1]).isSome) (br ((gE 4 5 [AV.int .i64 1]).isSome) (br (IR.isSome) (br (IR.getD false) (br (IT.isSome) (br ((gE 0 5 [AV.int .i64 1]).isSome) (br ((gE 2 4 [AV.int .i64 1]).isSome) (br ((gE 7 9 [AV.int .i64 1]).isSome) (br (IQ.isSome) (br (IQ.getD false) (br (IU.isSome) (br (IS.isSome) (br (IS.getD false) (br ((th uF uD).isSome) (br (DM) (br (If.isSome) (br (If.getD false) (br (IP.isSome) (br ((gE 0 6 [AV.int .i64 1]).isSome) (br ((gE 0 4 [AV.int .i64 2]).isSome) (br ((gE 8 9 [AV.int .i64 2]).isSome) (br (IN.isSome) (κ (IN.getD false)) δ) δ) δ) δ) δ) (κ (false))) δ) δ) δ) (κ (false))) δ) δ) (κ (false))) δ) δ) δ) δ) δ) (κ (false))) δ) δ) δ) δ) δ) δ) δ) δ) δ) δ) δ) δ) δ) δ) δ) δ) δ
def BP:Option (Bool):=PF none some
def xKj:EO:=xKi.f Tryz.func11 87 0 [] [] lk0 jj (λ _ _=>PF) (λ _ p=>AV.bool p) false
def GN(a b c d:LA):=vc ((x7 a b c d).getD ([],[])).fst ((x7 a b c d).getD ([],[])).snd ((EA a b c d).getD ([],[])).fst ((EA a b c d).getD ([],[])).snd
def GO(a b c d:LA):=vc ((xX a b c d).getD ([],[])).fst ((xX a b c d).getD ([],[])).snd ((D1 a b c d).getD ([],[])).fst ((D1 a b c d).getD ([],[])).snd
def GF(a b c d:LA):=vc ((x9 a b c d).getD ([],[])).fst ((x9 a b c d).getD ([],[])).snd ((EM a b c d).getD ([],[])).fst ((EM a b c d).getD ([],[])).snd
def GG(a b:LA):=vc ((th a b).getD ([],[])).fst ((th a b).getD ([],[])).snd ((D7 a b).getD ([],[])).fst ((D7 a b).getD ([],[])).snd
def NF{T:Type}(a b c d:LA)(δ:T)(κ:Bool->T):T:=br ((JC a b c d).isSome) (br (!(JC a b c d).getD false) (br (BP.isSome) (κ (BP.getD false)) δ) (br ((x9 a b c d).isSome) (br ((EM a b c d).isSome) (br ((GF a b c d).isSome) (br ((GF a b c d).getD false) (br ((x7 a b c d).isSome) (br ((EA a b c d).isSome) (br ((GN a b c d).isSome) (br ((GN a b c d).getD false) (br ((xX a b c d).isSome) (br ((D1 a b c d).isSome) (br ((GO a b c d).isSome) (br ((GO a b c d).getD false) (br ((th a b).isSome) (br ((D7 a b).isSome) (br ((GG a b).isSome) (br ((GG a b).getD false) (br (BP.isSome) (κ (BP.getD false)) δ) (κ (false))) δ) δ) δ) (κ (false))) δ) δ) δ) (κ (false))) δ) δ) δ) (κ (false))) δ) δ) δ)) δ
def NH(a b c d:LA):=NF a b c d none some
def xs3:LA->Option (Bool×AV):=SJ (u2 (fO (u2 (uL 1) (uL 3))) (fO (u2 (uL 1) (uL 3)))) (λ((a,b,_),(c,d,_),_) _=>NF a b c d) (λ _ p=>AV.bool p) false
def xs2:iz P0 xO6 3 xs3:=SI xKj.ok Tryz.func3 45 0 [] [] lk0
end Go.Sim.M
end
