/- Part 4. -/
import Derived.Test.YtodofdnlhoknhaaGreatDoorTS3
import Derived.RangeFuncRecord
import Derived.OrdersIn
import Derived.TacticsIn
set_option linter.all false
noncomputable section
namespace Go.Sim
open Go.RowKit
structure St where
 tmps:List AV
 heap:List aC
structure IV where
 inv:World->Prop
 pin:Nat
 top:Bool
instance:CoeFun IV λ _=>World->Prop:=⟨IV.inv⟩
structure Cx where
 av:Nat->Prop
 w1:World
 A1:Nat->Prop
 M1:Id->Option MB
 pin:Nat
 df:Nat->Prop
structure Ev (C:Cx) (w:World) (A:Nat->Prop) (M:Id->Option MB):Prop where
 size:C.w1.heap.size<=w.heap.size
 keep:∀b,b<C.w1.heap.size->(¬ C.A1 b\/∀id m,C.M1 id=some m->0<m.cap->m.b≠b)->w.heap[b]?=C.w1.heap[b]?
 less:∀b,b<C.w1.heap.size->A b->C.A1 b
 more:∀b,b<C.w1.heap.size->C.A1 b->(∀id m,C.M1 id=some m->0<m.cap->m.b≠b)->A b
 ids:∀id m,id.base<C.pin->C.M1 id=some m->∃m',M id=some m'/\(m'=m\/m.ver<m'.ver)
 src:∀id m',M id=some m'->0<m'.cap->(∃i m,C.M1 i=some m/\0<m.cap/\m'.b=m.b)\/C.w1.heap.size<=m'.b
def Ev.refl{C:Cx}:Ev C C.w1 C.A1 C.M1:=⟨zd _,λ _ _ _=>rfl,λ _ _ h=>h,λ _ _ h _=>h,λ _ m _ h=>⟨m,h,.inl rfl⟩,λ i m h h0=>.inl ⟨i,m,h,h0,rfl⟩⟩
def Ev.step{C:Cx}{w w':World}{A A':Nat->Prop}{M M':Id->Option MB}(h:Ev C w A M)(hm:Mv w A M w' A' M'):Ev C w' A' M':=by(have out:∀b,b<C.w1.heap.size->(∀id m,C.M1 id=some m->0<m.cap->m.b≠b)->∀id m,M id=some m->0<m.cap->m.b≠b:=λ b hb J id m hi h0 e=>by rcases h.src id m hi h0 with⟨i,m1,h1,h2,h3⟩|h1;exact J i m1 h1 h2 (by rw[<-h3,e]);omega);refine⟨Nat.le_trans h.size hm.size,λ b hb q=>?_,λ b hb hA=>h.less b hb (hm.less b (Nat.lt_of_lt_of_le hb h.size) hA),λ b hb hA J=>hm.more b (Nat.lt_of_lt_of_le hb h.size) (h.more b hb hA J) (out b hb J),λ id m hi h1=>?_,λ id m' hi h0=>?_⟩;rw[<-h.keep b hb q];have hb':=Nat.lt_of_lt_of_le hb h.size;rcases q with q|q;exact hm.keep b hb' λ hA=>q (h.less b hb hA);exact hm.touch.1 b hb' (out b hb q);obtain⟨m1,h2,h3⟩:=h.ids id m hi h1;obtain⟨m2,h4,h5⟩:=hm.ext id m1 h2;refine⟨m2,h4,?_⟩;rcases h3 with rfl|h3<;>rcases h5 with rfl|h5;exact .inl rfl;exact .inr h5;exact .inr h3;exact .inr (Nat.lt_trans h3 h5);rcases hm.touch.2 id m' hi h0 with⟨i,m1,h1,h2,h3⟩|h1;rcases h.src i m1 h1 h2 with⟨i2,m2,g1,g2,g3⟩|g1;exact .inl ⟨i2,m2,g1,g2,by rw[h3,g3]⟩;exact .inr (by rw[h3];exact g1);exact .inr (Nat.le_trans h.size h1)
def St.eval(s:St):Operand->AV|.tmp t=>s.tmps.getD t .top|.const v=>oQ v|.global g=>.gptr g|.func f=>.func f []
def bC(ts:List AV)(d:Option Tmp)(v:AV):List AV:=match d with|some d=>ts.set d v|none=>ts
def iw(ids:List Nat)(i:Nat)(bx:aC):aC:=if ids.contains i=true then{bx with frz:=true}else bx
def freeze(H:List aC)(ids:List Nat):List aC:=if ids.isEmpty then H else H.mapIdx (iw ids)
def fH(P:Program)(f:FuncId):Prop:=∃fn,P.funcs[f]?=some fn/\fn.body.isNone=false/\(fn.name == "runtime.NumGoroutine")=false
def Good(P:Program)(Inv:IV)(f:FuncId)(args:List AV)(r:AV):Prop:=fH P f/\∀(w:World)(A:Nat->Prop)(vs:List Value),Inv w->(∀b,A b->b<w.heap.size)->RC w A er vs args->Calls P f vs.toArray w λ e w'=>∃v,e=.returned v/\Below w.heap.size w w'/\aD w' A er v r
def bG(P:Program)(Inv:IV)(f:FuncId)(args:List AV)(H:List aC)(r:AV)(H':List aC):Prop:=fH P f/\∀(w0 w:World)(A:Nat->Prop)(M:Id->Option MB)(vs:List Value),Inv w0->Below w0.heap.size w0 w->HR w A M w0.heap.size H->RC w A M vs args->Calls P f vs.toArray w λ e w'=>∃v A' M',e=.returned v/\Below w0.heap.size w0 w'/\(∀b,b<w0.heap.size->(A' b↔A b))/\Ev ⟨A,w,A,M,H.length,λ _=>False⟩ w' A' M'/\HR w' A' M' w0.heap.size H'/\aD w' A' M' v r
structure bP (Inv:IV):Prop where
 below:∀w w',Inv w->Below w.heap.size w w'->Inv w'
def pz(s:St)(c:Call):Option (FuncId×List AV):=match c.callee with|.value f=>(match s.eval f with|.func g caps=>(match Nat.beq g vpF with|true=>none|false=>some (g,c.args.toList.map s.eval++caps))|_=>none)|_=>none
def eI:Nat:=5
def wW(H:List aC)(args:List AV)(r:AV):List aC:=if r.flat then H else freeze H (args.flatMap (aQ H eI))
def su(P:Program)(ρ:Operand->AV)(H:List aC)(nid:Nat)(op:Op)(r:AV×Option aC):Prop:=e8 P ρ H nid op=some r\/fU P ρ H nid op=some r
def j8(P:Program)(Inv:IV)(s:St)(o:Oper)(s':St):Prop:=(∃x nb,su P s.eval s.heap s.heap.length o.op (x,nb)/\s'=⟨bC s.tmps o.dst x,s.heap++nb.toList⟩) \/ (∃c g args args' r,o.op=.call c/\pz s c=some (g,args)/\eJ (resolve s.heap eI) args=some args'/\Good P Inv g args' r/\s'=⟨bC s.tmps o.dst r,wW s.heap args r⟩)
def gW(f:Nat->Nat->Option (Nat×Nat)):Id->Nat->Option (Id×Nat)|.b n,ver=>(match f n ver with|some (k,v)=>some (.b k,v)|none=>none)|.r g i j,ver=>match f g 0 with|some (k,_)=>some (.r k i j,ver)|none=>none
mutual
def ren(f:Nat->Nat->Option (Nat×Nat)):AV->AV|.agg cs=>.agg (rens f cs)|.own id ver i j=>(match gW f id ver with|some (k,v)=>.own k v i j|none=>.top)|.osl id ver off len=>(match gW f id ver with|some (k,v)=>.osl k v off len|none=>.top)|.func g cs=>.func g (rens f cs)|.tuple vs=>.tuple (rens f vs)|.list sz xs=>.list sz xs|.eptr sz xs i j=>.eptr sz xs i j|.top=>.top|.bool b=>.bool b|.int k n=>.int k n|.str s=>.str s|.nils=>.nils|.nilptr=>.nilptr|.nilfn=>.nilfn|.empt=>.empt|.gptr g=>.gptr g|.yld g=>.yld g
def rens(f:Nat->Nat->Option (Nat×Nat)):List AV->List AV|[]=>[]|x::xs=>ren f x::rens f xs
end
mutual
def iA(f:Nat->Nat->Option (Nat×Nat)):AV->Bool|.agg cs=>o3 f cs|.own id ver _ _=>(gW f id ver).isSome|.osl id ver _ _=>(gW f id ver).isSome|.func _ cs=>o3 f cs|.tuple vs=>o3 f vs|.list _ _=>true|.eptr _ _ _ _=>true|.top=>true|.bool _=>true|.int _ _=>true|.str _=>true|.nils=>true|.nilptr=>true|.nilfn=>true|.empt=>true|.gptr _=>true|.yld _=>true
def o3(f:Nat->Nat->Option (Nat×Nat)):List AV->Bool|[]=>true|x::xs=>iA f x&&o3 f xs
end
def gY:List Nat->Nat->Option Nat|[],_=>none|a::l,x=>match Nat.beq a x with|true=>some 0|false=>match gY l x with|some j=>some (j+1)|none=>none
def ef:List Nat->Bool|[]=>true|a::l=>match gY l a with|some _=>false|none=>ef l
def ld(f:Nat->Nat->Option (Nat×Nat))(ver:Nat)(bx:aC):aC:=match bx.pm with|true=>⟨ver,bx.sz,bx.ty,bx.xs,bx.frz,true⟩|false=>⟨ver,bx.sz,bx.ty,rens f bx.xs,bx.frz,false⟩
def sQ(f:Nat->Nat->Option (Nat×Nat))(bx:aC):Bool:=match bx.pm with|true=>true|false=>o3 f bx.xs
def oX(ids:List Nat)(id ver:Nat):Option (Nat×Nat):=match gY ids id with|some j=>some (j,ver)|none=>none
def iK(ids:List Nat)(n k:Nat)(j ver:Nat):Option (Nat×Nat):=match ids[j]? with|some id=>some (id,ver)|none=>some (n+(j - k),ver)
def fp(f:Nat->Nat->Option (Nat×Nat))(H:List aC):List Nat->Option (List aC)|[]=>some []|id::ids=>match H[id]? with|some bx=>(match sQ f bx with|true=>(match fp f H ids with|some bs=>some (ld f bx.ver bx::bs)|none=>none)|false=>none)|none=>none
def rA(H:List aC):List Nat->List aC->List aC|id::ids,b::bs=>rA (H.set id b) ids bs|_,_=>H
def wX(f:Nat->Nat->Option (Nat×Nat)):List aC->List aC|[]=>[]|bx::bs=>ld f bx.ver bx::wX f bs
def eZ(H:List aC)(ids:List Nat)(H0':List aC):List aC:=rA H ids (wX (iK ids H.length ids.length) H0')++(wX (iK ids H.length ids.length) H0').drop ids.length
def jS(s s1:St):Prop:=∃ids,s1.heap=freeze s.heap ids/\s1.tmps.length=s.tmps.length/\∀t,s1.tmps.getD t .top=s.tmps.getD t .top\/(resolve s.heap eI (s.tmps.getD t .top)=some (s1.tmps.getD t .top)/\∀id,id∈aQ s.heap eI (s.tmps.getD t .top)->id∈ids)
def oO(P:Program)(Inv:IV)(s:St)(o:Oper)(s':St):Prop:=(∃x H',nF P s.eval s.heap o.op=some (x,H')/\s'=⟨bC s.tmps o.dst x,H'⟩) \/ (∃c g args ids H0 r0 H0',o.op=.call c/\pz s c=some (g,args)/\ef ids/\fp (oX ids) s.heap ids=some H0/\bG P Inv g (rens (oX ids) args) H0 r0 H0'/\s'=⟨bC s.tmps o.dst (ren (iK ids s.heap.length ids.length) r0),eZ s.heap ids H0'⟩) \/ (∃s1 x nb,jS s s1/\e8 P s1.eval s1.heap s1.heap.length o.op=some (x,nb)/\s'=⟨bC s.tmps o.dst x,s1.heap++nb.toList⟩)
def Unm(s s1:St):Prop:=∃(n:Nat)(bx:aC),s.heap[n]?=some bx/\bW bx.ty/\dD bx.ty=false/\en bx bx.xs/\s1=⟨s.tmps,s.heap.set n ⟨bx.ver,bx.sz,gA bx.ty,bx.xs,bx.frz,true⟩⟩
def wc(P:Program)(Inv:IV)(s:St)(o:Oper)(s':St):Prop:=oO P Inv s o s'\/(∃s1,Unm s s1/\oO P Inv s1 o s') \/ ∃s1 x H',jS s s1/\nF P s1.eval s1.heap o.op=some (x,H')/\s'=⟨bC s.tmps o.dst x,H'⟩
variable {H:List aC}{P:Program}{ρ:Operand->AV}
def xyS{w:World}{A:Nat->Prop}{M:Id->Option MB}{B:Nat}{nid:Nat}{ρc:Operand->Value}{o:Oper}{x:AV}{nb:Option aC}(hf:su P ρ H nid o.op (x,nb))(hρ:∀a,a∈o.op.operands.toList->aD w A M (ρc a) (ρ a))(hR:HR w A M B H)(hB:B<=w.heap.size)(hn:gH M nid)(hH:∀bx,nb=some bx->∃f,H[nid]?=some {bx with frz:=f}):Gives P o ρc w A M B H nid x:=by rcases hf with hf|hf;exact T4 hf hρ hR hB hn hH;exact xFz hf hρ hR hB hn hH
def bV(h H:List aC):Prop:=∀(id:Nat)(bx:aC),h[id]?=some bx->∃f,H[id]?=some {bx with frz:=f}/\(bx.frz->f)
def bV.refl(h:List aC):bV h h:=λ id bx hb=>⟨bx.frz,hb,λ e=>e⟩
def bV.trans{a b c:List aC}(h:bV a b)(h':bV b c):bV a c:=λ id bx hb=>by obtain⟨f,h1,h2⟩:=h id bx hb;obtain⟨f',h3,h4⟩:=h' id _ h1;exact⟨f',h3,λ e=>h4 (h2 e)⟩
def bV.append(h:List aC)(l:List aC):bV h (h++l):=λ id bx hb=>by(have:id<h.length:=by rcases zJ id h.length with h'|h';exact h';rw[zz h']at hb;simp at hb);exact⟨bx.frz,by rw[zO this];exact hb,λ e=>e⟩
theorem KC(H:List aC)(ids:List Nat)(id:Nat):(freeze H ids)[id]?=(H[id]?).map (iw ids id):=by grind [freeze,iw]
def bV.freeze(H:List aC)(ids:List Nat):bV H (freeze H ids):=λ id bx hb=>by rw[KC,hb];unfold iw;by_cases hc:ids.contains id=true;exact⟨true,by simp only[Option.map_some,hc,if_true],λ _=>rfl⟩;exact⟨bx.frz,by simp only[Option.map_some,hc,if_false];rfl,λ e=>e⟩
def xBp(H:List aC)(ids:List Nat):(freeze H ids).length=H.length:=by unfold freeze;split<;>simp
def xuL(bx:aC)(f:Bool)(x:AV):iT {bx with frz:=f} x={iT bx x with frz:=f}:=by cases x<;>rfl
variable {h:List aC}
def bV.getB(hs:bV h H){id:Id}{bx:aC}(hb:getB h id=some bx):∃f,Sim.getB H id=some {bx with frz:=f}/\(bx.frz->f):=by cases id with|b n=>exact hs n bx hb|r n i j=>obtain⟨q,h1,h2⟩:=tV hb;obtain⟨f,g1,g2⟩:=hs n q h1;rcases h2 with⟨hc,rfl⟩|⟨hc,h2,h3,h4,rfl⟩;exact⟨true,pg (bx:={q with frz:=f}) g1 hc,λ _=>rfl⟩;refine⟨f,?_,λ e=>g2 (by rw[Si]at e;exact e)⟩;rw[oH (bx:={q with frz:=f}) g1 hc h2 h3 h4,<-xuL]
def Rf(H:List aC)(ids:List Nat)(id:Id):getB (freeze H ids) id=(getB H id).map (iw ids id.base):=by cases id with|b n=>exact KC H ids n|r n i j=>simp only[getB,KC,Id.base];cases hf:H[n]? with|none=>rfl|some fm=>simp only[Option.map_some];unfold iw;by_cases hc:ids.contains n=true;simp only[if_pos hc];split;split;rw[xuL];rfl;rfl;rfl;simp only[if_neg hc];split;split<;>rfl;rfl
def bV.box(hs:bV h H){id:Id}{ver:Nat}{bx:aC}(hb:dW h id ver=some bx):∃f,dW H id ver=some {bx with frz:=f}:=by obtain⟨h1,h2⟩:=lf hb;obtain⟨f,h3,_⟩:=hs.getB h1;exact⟨f,by simp[dW,h3,h2,qZ hb]⟩
section mono
variable{P:Program}{h H:List aC}(hs:bV h H)
include hs
variable {x:AV}
def xzS{ti:TI}{r:AV}(hr:o6 h ti x=some r):o6 H ti x=some r:=by(cases x<;>first|exact hr|skip);rename_i id ver i j;simp only[o6]at hr|-;cases hb:dW h id ver with|none=>simp[hb]at hr|some bx=>obtain⟨f,hf⟩:=hs.box hb;simp only[hb]at hr;(try simp only[hf]);exact hr
def xBl{t:TypeId}{r:AV}{lo hi:Option AV}(hr:un P h t x lo hi=some r):un P H t x lo hi=some r:=by
 unfold un at hr|-;split at hr;case h_2=>simp at hr
 rename_i ti q;split at hr;rename_i s hd;(try simp only[q,hd]);exact hr;rename_i e sz xs hd;(try simp only[q,hd]);exact hr;rename_i e hd;(try simp only[q,hd]);exact hr;rename_i e id ver off len hd;try simp only[q,hd]
 cases hb:dW h id ver with|none=>simp[hb]at hr|some bx=>obtain⟨f,hf⟩:=hs.box hb;simp only[hb]at hr;simp only[hf];cases J:bN P e<;>simp only[J]at hr|-<;>exact hr
 simp at hr
def xv6{t:TypeId}{ix r:AV}(hr:o4 P h t x ix=some r):o4 P H t x ix=some r:=by
 unfold o4 at hr|-;split at hr;case h_2=>simp at hr
 rename_i ti k n q;split at hr;rename_i e sz xs hd;(try simp only[q,hd]);exact hr;rename_i e id ver off len hd;try simp only[q,hd]
 cases hb:dW h id ver with|none=>simp[hb]at hr|some bx=>obtain⟨f,hf⟩:=hs.box hb;simp only[hb]at hr;simp only[hf];cases J:bN P e<;>simp only[J]at hr|-<;>exact hr
 rename_i m e id ver i j hd;try simp only[q,hd]
 cases hb:dW h id ver with|none=>simp[hb]at hr|some bx=>obtain⟨f,hf⟩:=hs.box hb;simp only[hb]at hr;simp only[hf];cases J:bN P e<;>simp only[J]at hr|-<;>exact hr
 rename_i m e sz xs i j hd;(try simp only[q,hd]);exact hr;simp at hr
def xv5{t:TypeId}{r:AV}{f:Nat}(hr:qJ P h t x f=some r):qJ P H t x f=some r:=by
 unfold qJ at hr|-;split at hr;case h_2=>simp at hr
 rename_i ti J;split at hr;case h_2=>simp at hr
 rename_i fs hd;split at hr;case h_2=>simp at hr
 rename_i fd O;split at hr;case h_2=>simp at hr
 rename_i tf q;split at hr;simp at hr;rename_i hsz;try simp only[J,hd,O,q,hsz,if_false]
 split at hr;exact hr;rename_i id ver i j;cases hb:dW h id ver with|none=>simp[hb]at hr|some bx=>obtain⟨f',hf⟩:=hs.box hb;simp only[hb]at hr;(try simp only[hf]);exact hr
 simp at hr
def xDo{t:TypeId}{r:AV}(hr:gJ P h t x=some r):gJ P H t x=some r:=by
 unfold gJ at hr|-;split at hr;case h_2=>simp at hr
 rename_i ti q;split at hr;rename_i s hd;(try simp only[q,hd]);exact hr;rename_i e sz xs hd;(try simp only[q,hd]);exact hr;rename_i e hd;(try simp only[q,hd]);exact hr;rename_i e id ver off len hd;try simp only[q,hd]
 cases hb:dW h id ver with|none=>simp[hb]at hr|some bx=>obtain⟨f,hf⟩:=hs.box hb;simp only[hb]at hr;(try simp only[hf]);exact hr
 simp at hr
variable {nid:Nat}{op:Op}{ρ:Operand->AV}
def xIP{r:AV×Option aC}(hr:e8 P ρ h nid op=some r):e8 P ρ H nid op=some r:=by
 unfold e8 at hr|-;cases op<;>try exact hr
 case load t a=>simp only at hr|-;split at hr;(case h_2=>simp at hr);rename_i ti J;split at hr;(case h_2=>simp at hr);rename_i x hx;(try simp only[J,xzS hs hx]);exact hr
 case nilCheck x=>simp only at hr|-;split at hr;rename_i hx;(try simp only[hx]);exact hr;rename_i id ver i j hx;(try simp only[hx]);(cases hb:dW h id ver with|none=>simp[hb]at hr|some bx=>obtain⟨f,hf⟩:=hs.box hb;simp only[hb]at hr;(try simp only[hf]);exact hr);rename_i hx;(try simp only[hx]);exact hr;simp at hr
 case slice t x lo hi mx=>simp only at hr|-;split at hr;(case h_2=>simp at hr);split at hr;(case h_2=>simp at hr);rename_i y hy;(try simp only[xBl hs hy]);exact hr
 case fieldAddr t x f=>simp only at hr|-;split at hr;(case h_2=>simp at hr);rename_i y hy;(try simp only[xv5 hs hy]);exact hr
 case indexAddr t x ix=>simp only at hr|-;split at hr;(case h_2=>simp at hr);rename_i y hy;(try simp only[xv6 hs hy]);exact hr
 case call c=>
 simp only at hr|-;split at hr;case h_2=>simp at hr
 rename_i b hb;split at hr;rename_i t ts x O q;try simp only[hb,O,q]
 split at hr;case h_2=>simp at hr
 rename_i y hy;(try simp only[xDo hs hy]);exact hr;rename_i x xs q;(try simp only[hb,q]);exact hr;rename_i x xs q;(try simp only[hb,q]);exact hr;simp at hr
def xBj{sz:Nat}{r:List AV×Bool}(hr:sR h sz x=some r):sR H sz x=some r:=by unfold sR at hr|-;split at hr;exact hr;exact hr;(rename_i id ver off len;cases hb:dW h id ver with|none=>simp[hb]at hr|some bx=>obtain⟨f,hf⟩:=hs.box hb;simp only[hb]at hr;simp only[hf];exact hr);simp at hr
variable {n:Nat}
def xCp{ver:Nat}{bx:aC}(hb:dI h n ver=some bx):∃f,dI H n ver=some {bx with frz:=f}:=by obtain⟨h1,h2⟩:=Fv hb;obtain⟨f,g1,_⟩:=hs n bx h1;refine⟨f,?_⟩;unfold dI;simp only[g1];exact if_pos h2
def xDD{ver:Nat}{bx:aC}(hb:bS h n ver=some bx):∃f,bS H n ver=some {bx with frz:=f}:=by
 unfold bS at hb;split at hb;case h_2=>simp at hb
 rename_i bx' h1;split at hb;case isFalse=>simp at hb
 rename_i h2;cases hb;obtain⟨f,g1,_⟩:=hs n _ h1;refine⟨f,?_⟩;unfold bS;simp only[g1];exact if_pos h2
variable {c:Bool}
def xBk{t:TypeId}{m k r:AV}(hr:bH P h t m k c=some r):bH P H t m k c=some r:=by
 unfold bH at hr|-;split at hr;case h_2=>simp at hr
 rename_i n ver i j s kt et q;(try simp only[q]);split at hr;case h_2=>simp at hr
 rename_i e2 te bx V W O J;obtain⟨f,hf⟩:=xDD hs J;(try simp only[V]);(try simp only[W]);(try simp only[O]);(try simp only[hf]);exact hr
def xuF{t:TypeId}{m k r:AV}(hr:cD P h t m k c=some r):cD P H t m k c=some r:=by
 unfold cD at hr|-;split at hr;case h_2=>simp at hr
 rename_i n ver i j s kt et q;(try simp only[q]);split at hr;case h_2=>simp at hr
 rename_i te bx V O J;obtain⟨f,hf⟩:=xCp hs J;(try simp only[V]);(try simp only[O]);(try simp only[hf]);exact hr
def xHi{r:AV×Option aC}(hr:fU P ρ h nid op=some r):fU P ρ H nid op=some r:=by
 unfold fU at hr|-;split at hr;exact hr;rename_i c;split at hr;rename_i b hb;(try simp only[hb]);split at hr;rename_i t t' s x h1 h2;(try simp only[h1,h2]);unfold g9 at hr|-;split at hr;case h_2=>simp at hr
 rename_i V;(try simp only[V]);split at hr;case h_2=>simp at hr
 rename_i ti Y;(try simp only[Y]);split at hr;case h_2=>simp at hr
 rename_i e hd;(try simp only[hd]);split at hr;case h_2=>simp at hr
 rename_i te W;(try simp only[W]);split at hr;case h_2=>simp at hr
 rename_i ys pm q;have hys':gb P H t t' e te.sz (ρ x)=some (ys,pm):=by unfold gb at q|-;split at q;rename_i O;rw[if_pos O];exact xBj hs q;rename_i O;rw[if_neg O];exact q
 (try simp only[hys']);exact hr;simp at hr;simp at hr;exact hr;rename_i t m k c;split at hr;rename_i r J;simp only[xBk hs J];exact hr;split at hr;case h_2=>simp at hr
 rename_i r J;simp only[wE (xuF hs J),xuF hs J];exact hr;simp at hr
def xHj{r:AV×Option aC}(hr:su P ρ h nid op r):su P ρ H nid op r:=hr.imp (xIP hs) (xHi hs)
end mono
theorem xKu{n n':Nat}{op:Op}{x:AV}(h:e8 P ρ H n op=some (x,none)):e8 P ρ H n' op=some (x,none):=by unfold e8 iX at *;(repeat' split at h)<;>(try simp_all)<;>grind
def KO{r r':AV->Option AV}:∀{xs ys:List AV},(∀x y,x∈xs->r x=some y->r' x=some y)->eJ r xs=some ys->eJ r' xs=some ys|[],ys,_,h=>h|x::xs,ys,hr,h=>by unfold eJ at h|-;split at h;rename_i y zs h1 h2;simp only[hr x y Ψ h1,KO (λ a b ha hb=>hr a b (by simp[ha]) hb) h2];exact h;simp at h
def Ck(hs:bV h H):∀(n:Nat)(x y:AV),resolve h n x=some y->resolve H n x=some y/\aQ H n x=aQ h n x
 |0,x,y,hr=>⟨hr,rfl⟩
 |n+1,x,y,hr=>by
  have J:∀cs ds,eJ (resolve h n) cs=some ds->eJ (resolve H n) cs=some ds/\cs.flatMap (aQ H n)=cs.flatMap (aQ h n):=by
   intro cs ds hc;refine⟨KO (λ a b _ O=>(Ck hs n a b O).1) hc,?_⟩
   obtain⟨e1,e2⟩:=pL hc;simp only[List.flatMap];congr 1;apply List.map_congr_left;intro a ha;obtain⟨i,hi,rfl⟩:=vG ha;exact(Ck hs n _ _ (e2 i hi)).2
  have aa:∀pm cs ds,gh pm (resolve h n) cs=some ds->gh pm (resolve H n) cs=some ds:=by
   intro pm cs ds hc;unfold gh at hc|-;split
   . rename_i hp;rw[if_pos hp]at hc;exact hc
   . rename_i hp;rw[if_neg hp]at hc;refine KO (λ a b _ O=>?_) hc
     unfold lK at O|-;split at O
     . split at O
       case h_2=>simp at O
       rename_i zs ad;simp only[(J _ _ ad).1];exact O
     . exact(Ck hs n _ _ O).1
  have Z:∀pm cs ds,gh pm (resolve h n) cs=some ds->¬ pm=true->(cs.flatMap λ(e:AV)=>e.cells.flatMap (aQ H n))=cs.flatMap λ(e:AV)=>e.cells.flatMap (aQ h n):=by
   intro pm cs ds hc hp;unfold gh at hc;rw[if_neg hp]at hc;obtain⟨e1,e2⟩:=pL hc;simp only[List.flatMap];congr 1;apply List.map_congr_left;intro a ha;obtain⟨i,hi,rfl⟩:=vG ha;have h2:=e2 i hi;unfold lK at h2;split at h2
   . rename_i ai ag;split at h2
     case h_2=>simp at h2
     rename_i zs ad;have:=(J _ _ ad).2;rw[ag];simp only[yy];simpa[List.flatMap]using this
   . rename_i hne;have ac:(cs.getD i .top).cells=[cs.getD i .top]:=by
      generalize cs.getD i .top=q at hne;cases q<;>first|rfl|exact absurd rfl (hne _)
     rw[ac];have:=(Ck hs n _ _ h2).2;simpa using this
  unfold resolve at hr|-;unfold aQ;split at hr
  . rename_i hp;simp only[hp,if_true];exact⟨hr,trivial⟩
  rename_i hp;simp only[hp,if_false];split at hr
  . rename_i cs;split at hr
    case h_2=>simp at hr
    rename_i ds ab;obtain⟨a1,a2⟩:=J _ _ ab;simp only[a1];exact⟨hr,a2⟩
  . rename_i f cs;split at hr
    . simp at hr
    rename_i ah;split at hr
    case h_2=>simp at hr
    rename_i ds ab;obtain⟨a1,a2⟩:=J _ _ ab;simp only[ah,a1];exact⟨hr,a2⟩
  . rename_i id ver i j;split at hr
    case h_2=>simp at hr
    rename_i bx W;split at hr
    case h_2=>simp at hr
    rename_i ys Y;obtain⟨f,hf⟩:=hs.box W;have af:=(lf W).1;have ae:=(lf hf).1;simp only[hf,aa _ _ _ Y,af,ae];refine⟨hr,?_⟩;by_cases V:bx.pm=true
    . simp[V]
    . simp only[V,if_false];rw[Z _ _ _ Y V]
  . rename_i id ver off len;split at hr
    case h_2=>simp at hr
    rename_i bx W;split at hr
    case h_2=>simp at hr
    rename_i ys Y;obtain⟨f,hf⟩:=hs.box W;have af:=(lf W).1;have ae:=(lf hf).1;simp only[hf,aa _ _ _ Y,af,ae];refine⟨hr,?_⟩;by_cases V:bx.pm=true
    . simp[V]
    . simp only[V,if_false];rw[Z _ _ _ Y V]
  . simp at hr
end Go.Sim
namespace Go.Sim
open Go.RowKit
def S5{h:List aC}:∀(n:Nat)(x y:AV)(id:Nat),resolve h n x=some y->id∈aQ h n x->id<h.length
 |0,x,y,id,_,J=>by simp[aQ]at J
 |n+1,x,y,id,hr,J=>by
  have V:∀cs ds,eJ (resolve h n) cs=some ds->id∈cs.flatMap (aQ h n)->id<h.length:=by
   intro cs ds hc hm;obtain⟨e1,e2⟩:=pL hc;obtain⟨a,ha,hi⟩:=y5.1 hm;obtain⟨i,ab,rfl⟩:=vG ha;exact S5 n _ _ id (e2 i ab) hi
  have Y:∀pm cs ds,gh pm (resolve h n) cs=some ds->¬ pm=true->id∈(cs.flatMap λ(e:AV)=>e.cells.flatMap (aQ h n))->id<h.length:=by
   intro pm cs ds hc hp hm;unfold gh at hc;rw[if_neg hp]at hc;obtain⟨e1,e2⟩:=pL hc;obtain⟨a,ha,hi⟩:=y5.1 hm;obtain⟨i,ab,rfl⟩:=vG ha;have h2:=e2 i ab;unfold lK at h2;split at h2
   . rename_i ag ae;split at h2
     case h_2=>simp at h2
     rename_i zs af;rw[ae,yy]at hi;exact V _ _ af hi
   . rename_i hne;have ad:(cs.getD i .top).cells=[cs.getD i .top]:=by
      generalize cs.getD i .top=q at hne;cases q<;>first|rfl|exact absurd rfl (hne _)
     rw[ad]at hi;exact S5 n _ _ id h2 (by simpa using hi)
  unfold resolve at hr;unfold aQ at J;split at hr
  . rename_i hp;simp[hp]at J
  rename_i hp;simp only[hp,if_false]at J;split at hr
  . split at hr
    case h_2=>simp at hr
    rename_i ds Z;exact V _ _ Z J
  . split at hr
    . simp at hr
    split at hr
    case h_2=>simp at hr
    rename_i ds Z;exact V _ _ Z J
  . rename_i id' ver i j;split at hr
    case h_2=>simp at hr
    rename_i bx aa;split at hr
    case h_2=>simp at hr
    rename_i ys ac;have W:=(lf aa).1;simp only[W]at J;rcases zC.1 J with rfl|J
    . exact vO W
    . by_cases O:bx.pm=true
      . simp[O]at J
      . simp only[O,if_false]at J;exact Y _ _ _ ac O J
  . rename_i id' ver off len;split at hr
    case h_2=>simp at hr
    rename_i bx aa;split at hr
    case h_2=>simp at hr
    rename_i ys ac;have W:=(lf aa).1;simp only[W]at J;rcases zC.1 J with rfl|J
    . exact vO W
    . by_cases O:bx.pm=true
      . simp[O]at J
      . simp only[O,if_false]at J;exact Y _ _ _ ac O J
  . simp at hr
section
variable{P:Program}{Inv:IV}{w:World}{A:Nat->Prop}{M:Id->Option MB}{B:Nat}{H:List aC}
def J9{f:FuncId}(h:fH P f)(args:Array Value)(w:World):(callFunc f args).run P w=.ok (.enter f args) w:=by obtain⟨fn,h1,h2,h3⟩:=h;simp only[callFunc,Sem.run_bind,run_program,Result.andThen_ok,h1,h2,h3,zT,if_false,Sem.run_pure]
variable {g:FuncId}{o:Oper}
def SV{c:Call}{ρc:Operand->Value}{fo:Operand}{vs:Array Value}(ho:o.op=.call c)(hc:c.callee=.value fo)(hf:ρc fo=.func (.func g) #[] vs)(he:fH P g):(execOp ρc o).run P w=.ok (.enter g ((c.args.toList.map ρc++vs.toList).toArray)) w:=by(have e:c.args.map ρc++vs=(c.args.toList.map ρc++vs.toList).toArray:=by apply Array.ext';simp);simp only[execOp,ho,Go.resolve,hc,hf,Deferred.ofValue,Sem.run_bind,Sem.run_pure,Result.andThen_ok,invoke,Array.empty_append,e];exact J9 he _ w
def sK(A:Nat->Prop)(M:Id->Option MB)(ids:List Nat):Nat->Prop:=λ b=>A b/\¬ ∃(id:Id)(m:MB),id.base∈ids/\M id=some m/\m.b=b
variable {vs:List Value}
def xza(hR:HR w A M B H){A':Nat->Prop}(hA:∀b,b<w.heap.size->A' b->A b){n:Nat}{xs ys:List AV}(h:RC w A M vs xs)(hm:eJ (resolve H n) xs=some ys)(O:∀id:Id,id.base∈xs.flatMap (aQ H n)->∀m,M id=some m->0<m.cap->¬ A' m.b):RC w A' er vs ys:=by obtain⟨e1,e2⟩:=pL hm;refine⟨by rw[h.1,e1],λ i hi=>?_⟩;(have hi':i<xs.length:=Ω);exact rS hR hA n _ _ _ (h.2 i hi') (e2 i hi') λ id q m J=>O id (y5.2 ⟨_,jA hi',q⟩) m J
def xGR(hR:HR w A M B H)(hI:Inv w){args q:List AV}{r:AV}(hv:RC w A M vs args)(hm:eJ (resolve H eI) args=some q)(hg:Good P Inv g q r)(O:r.flat\/∀id:Id,id.base∈args.flatMap (aQ H eI)->∀m,M id=some m->0<m.cap->¬ A m.b):Calls P g vs.toArray w λ e w'=>∃v,e=.returned v/\Below w.heap.size w w'/\aD w' A M v r:=by rcases O with W|O;have J:=xza hR (A':=sK A M (args.flatMap (aQ H eI))) (λ b _ h=>h.1) hv hm (λ id Y m V _ h=>h.2 ⟨id,m,Y,V,rfl⟩);refine(hg.2 w _ vs hI (λ b hb=>hR.lt b hb.1) J).mono ?_;rintro e w' ⟨v,rfl,hb,hr⟩;exact⟨v,rfl,hb,hr.flat W⟩;have J:=xza hR (A':=A) (λ b _ h=>h) hv hm O;refine(hg.2 w _ vs hI hR.lt J).mono ?_;rintro e w' ⟨v,rfl,hb,hr⟩;exact⟨v,rfl,hb,hr.mono (λ _ _ _=>rfl) (zd _) (λ _ _ h=>h) (xy2 M)⟩
variable {h:List aC}
def xMu{H:List aC}{ids:List Nat}(J:bV (freeze h ids) H){id:Id}(q:id.base<h.length)(O:id.base∈ids){bx:aC}(hb:getB H id=some bx):bx.frz=true:=by(have key:∀n,n<h.length->n∈ids->∀b:aC,H[n]?=some b->b.frz=true:=λ n hn hm b hb=>by(have h1:(freeze h ids)[n]?=some {h[n]with frz:=true}:=by rw[KC,ze hn];simp only[Option.map_some,iw,List.contains_iff_mem.2 hm,if_true]);obtain⟨f,h2,h3⟩:=J n _ h1;rw[h2]at hb;simp only[z6]at hb;rw[<-hb];exact h3 rfl);cases id with|b n=>exact key n q O bx hb|r n i j=>obtain⟨V,h1,⟨_,rfl⟩|⟨_,_,_,_,rfl⟩⟩:=tV hb;rfl;rw[Si];exact key n q O V h1
def SQ{s s':St}(h:j8 P Inv s o s')(J:bV s'.heap H){a:Act}(hR:HR w A M B H)(hB:B<=w.heap.size)(hI:Inv w)(hρ:∀x,x∈o.op.operands.toList->aD w A M (a.eval x) (s.eval x))(hn:s.heap.length<s'.heap.length->gH M s.heap.length){K:Act->World->Prop}{Q:Exit->Act->World->Prop}:∃x,s'.tmps=bC s.tmps o.dst x/\((∀v w' A' M',Below w.heap.size w w'->aR M M'->(∀b,b<w.heap.size->(A' b↔A b))->(∀id m,M' id=some m->(∃m0,M id=some m0)\/(id=.b s.heap.length/\s.heap.length<s'.heap.length))->ip w w' M M'->HR w' A' M' B H->aD w' A' M' v x->K (a.put o.dst v) w')->o.wp P a w K Q):=by
 rcases h with⟨x,nb,hf,rfl⟩|⟨c,g,args,af,r,ho,V,hm,hg,rfl⟩;refine⟨x,rfl,λ hK=>?_⟩;have O:bV s.heap H:=(bV.append s.heap nb.toList).trans J;have hf':=xHj O hf;cases nb with|none=>(have hn':gH M H.length:=hR.free_of_length (zd _);obtain⟨v,w',A',M',aa,W,Z,hA,hM,ab,hr⟩:=xyS (o:=o) (ρc:=a.eval) (hf'.imp (xKu (n':=H.length)) (xIO (n':=H.length))) hρ hR hB hn' Ψ;(have au:∀id m,M' id=some m->∃m0,M id=some m0:=by intro id m hm;by_cases q:id=.b H.length;rw[q,ab.none_of_length (zd _)]at hm;simp at hm;rw[hM.1 id q]at hm;exact⟨m,hm⟩);(have ai:ip w w' M M':=.of_new W λ id m hm=>by by_cases q:id=.b H.length;subst q;exact hM.2 m hm;rw[hM.1 id q]at hm;exact .inl hm);have:=hK v w' A' M' W Z hA (λ id m hm=>.inl (au id m hm)) ai ab hr;unfold Oper.wp;rw[aa];exact this)|some bx=>
  have a8:s.heap.length<(s.heap++[bx]).length:=by simp
  have hn':gH M s.heap.length:=hn Ψ;obtain⟨f,a3,_⟩:=J s.heap.length bx Ψ;obtain⟨v,w',A',M',aa,W,Z,hA,hM,ab,hr⟩:=xyS (o:=o) (ρc:=a.eval) hf' hρ hR hB hn' (λ bx' al=>by cases al;exact⟨f,a3⟩);have:=hK v w' A' M' W Z hA (fun id m hm=>by
   by_cases q:id=.b s.heap.length
   . exact .inr ⟨q,by simp⟩
   . rw [hM.1 id q] at hm;exact .inl ⟨m,hm⟩) (.of_new W fun id m hm=>by
   by_cases q:id=.b s.heap.length
   . subst q;exact hM.2 m hm
   . rw [hM.1 id q] at hm;exact .inl hm) ab hr
  unfold Oper.wp;rw[aa];exact this
 refine⟨r,rfl,λ hK=>?_⟩;unfold pz at V;split at V;case h_2=>simp at V
 rename_i fo ae;split at V;case h_2=>simp at V
 rename_i g' Y aq;split at V;simp at V;rename_i a0;cases V;have ad:o.op.operands.toList=fo::c.args.toList:=by simp[ho,Op.operands,Call.operands,ae]
 have ak:=hρ fo (by rw[ad];simp);rw[aq]at ak;obtain⟨cv,ay,aw,a6⟩:=ak.func_inv a0;have am:=Gn (w:=w) (A:=A) (M:=M) (l:=c.args.toList) (ρc:=a.eval) (ρ:=s.eval) (λ x hx=>hρ x (by rw[ad];simp[hx]));have a2:RC w A M (c.args.toList.map a.eval++cv.toList) (c.args.toList.map s.eval++Y):=RC.append ⟨am.1,am.2⟩ ⟨by simpa using aw,λ i hi=>by have:=a6 i hi;simpa[z7,zu]using this⟩;have O:bV s.heap H:=by unfold wW at J;split at J;exact J;exact(bV.freeze s.heap _).trans J
 obtain⟨e1,e2⟩:=pL hm;have hm':eJ (resolve H eI) (c.args.toList.map s.eval++Y)=some af:=KO (λ x y _ ar=>(Ck O eI x y ar).1) hm;have ac:(c.args.toList.map s.eval++Y).flatMap (aQ H eI)=(c.args.toList.map s.eval++Y).flatMap (aQ s.heap eI):=by simp only[List.flatMap];congr 1;apply List.map_congr_left;intro x hx;obtain⟨i,hi,rfl⟩:=vG hx;exact(Ck O eI _ _ (e2 i hi)).2
 have a1:r.flat\/∀id:Id,id.base∈(c.args.toList.map s.eval++Y).flatMap (aQ H eI)->∀m,M id=some m->0<m.cap->¬ A m.b:=by by_cases aj:r.flat=true;exact .inl aj;refine .inr λ id q m a5 ah ap=>?_;rw[ac]at q;unfold wW at J;rw[if_neg aj]at J;obtain⟨x,hx,az⟩:=y5.1 q;obtain⟨i,hi,rfl⟩:=vG hx;have ao:=S5 eI _ _ id.base (e2 i hi) az;obtain⟨a4,ax,an⟩:=hR.box id m a5;have a7:a4.frz:=xMu J ao q ax;have:=(an.guard ah).2 ap;rw[a7]at this;simp at this
 have ag:=xGR (P:=P) hR hI a2 hm' hg a1;unfold Oper.wp;rw[SV ho ae ay hg.1,Oper.upon_enter];refine ag.mono ?_;rintro e w' ⟨v,rfl,hb,hr⟩;exact hK v w' A M hb (aR.refl M) (λ _ _=>Iff.rfl) (λ id m hm=>.inl ⟨m,hm⟩) (.of_new hb λ _ _ h=>.inl h) (hR.grow hb) hr
def HR.refreeze(hR:HR w A M B h)(J:bV h H):∃A',HR w A' M B H/\(∀b,A' b->A b)/\(∀b,b<B->A b->A' b)/\(∀b,A b->(∀id m,M id=some m->0<m.cap->m.b≠b)->A' b):=by
 refine⟨λ b=>A b/\¬ ∃id m bx,M id=some m/\0<m.cap/\m.b=b/\getB H id=some bx/\bx.frz,⟨?_,hR.inj,λ b hb=>hR.lt b hb.1⟩,λ b hb=>hb.1,λ b hb hA=>⟨hA,?_⟩,λ b hA q=>⟨hA,?_⟩⟩;intro id m hm;obtain⟨bx,h1,h2⟩:=hR.box id m hm;obtain⟨f,h3,h4⟩:=J.getB h1;refine⟨_,h3,h2.ver,h2.sz,h2.ty,h2.capm,h2.fits,h2.ok,h2.low,h2.lt,λ h0=>?_,λ h0=>?_⟩;obtain⟨c,g1,g2,g3⟩:=h2.cells h0;exact⟨c,g1,g2,λ i j hi hj=>(g3 i j hi hj).mono (λ _ _ _=>rfl) (zd _) (λ _ _ h=>h.1) (aR.refl _)⟩;show f=false↔_;constructor;intro hf;have O:bx.frz=false:=by cases hb:bx.frz with|false=>rfl|true=>rw[h4 hb]at hf;simp at hf
 refine⟨(h2.guard h0).1 O,?_⟩;rintro⟨id',m',bx',e1,e0,e2,e3,e4⟩;have:id'=id:=hR.inj id' id m' m e1 hm e0 h0 e2;subst this;rw[h3]at e3;simp only[z6]at e3;rw[<-e3]at e4;simp[hf]at e4;rintro⟨_,q⟩;cases hf:f with|false=>rfl|true=>exact absurd ⟨id,m,_,hm,h0,rfl,h3,hf⟩ q
 rintro⟨id,m,bx,e1,e0,e2,_,_⟩;obtain⟨bx',_,h2⟩:=hR.box id m e1;have:=h2.low e0;omega;rintro⟨id,m,bx,e1,e0,e2,_,_⟩;exact q id m e1 e0 e2
end
def oo(D:Nat):Deferred:={target:=.collected D,args:=#[]}
def eA(w0:World)(A0:Cx)(w:World)(ds:List Deferred):Prop:=∃L:List Nat,ds=L.map oo/\L.Nodup/\∀D,D∈L->w0.heap.size<=D/\(A0.df D\/A0.w1.heap.size<=D)/\w.heap[D]?=some (.deferred (some []))
variable {A0:Cx}{w0:World}
def eA.nil{w:World}:eA w0 A0 w []:=⟨[],rfl,List.nodup_nil,λ D h=>by simp at h⟩
variable {ds:List Deferred}{w':World}
def eA.same{w:World}(h:eA w0 A0 w ds)(hs:∀D:Nat,w.heap[D]?=some (.deferred (some []))->w'.heap[D]?=w.heap[D]?):eA w0 A0 w' ds:=by obtain⟨L,h1,h2,h3⟩:=h;exact⟨L,h1,h2,λ D hD=>⟨(h3 D hD).1,(h3 D hD).2.1,by rw[hs D (h3 D hD).2.2];exact(h3 D hD).2.2⟩⟩
variable {D:Nat}{o:Obj}
def vR{w:World}(h:w.heap[D]?=some o):D<w.heap.size:=by rcases zJ D w.heap.size with h'|h';exact h';rw[Array.getElem?_eq_none h']at h;simp at h
variable {H:List aC}{M:Id->Option MB}
def HR.not_box{w:World}{A:Nat->Prop}{B:Nat}(hR:HR w A M B H){b:Nat}(hb:w.heap[b]?=some o)(h1:∀c t z,o≠.cells c t z)(h2:∀es k,o≠.map es k):∀id m,M id=some m->0<m.cap->m.b≠b:=λ id m hm h0 he=>by obtain⟨bx,_,g⟩:=hR.box id m hm;obtain⟨c,hc,_⟩:=g.cells h0;unfold bX lq at hc;rw[he,hb]at hc;split at hc;simp only[z6]at hc;exact h1 _ _ _ hc;obtain⟨es,k,⟨e1,hc,_⟩,_⟩:=hc;simp only[z6]at hc;exact h2 _ _ hc
variable {M':Id->Option MB}
def eA.mv{w:World}{A A':Nat->Prop}{B:Nat}(h:eA w0 A0 w ds)(hR:HR w A M B H)(hm:Mv w A M w' A' M'):eA w0 A0 w' ds:=h.same λ D hD=>hm.touch.1 D (vR hD) (hR.not_box hD Ψ Ψ)
structure SR (w0:World) (A0:Cx) (w:World) (A:Nat->Prop) (M:Id->Option MB) (s:St) (a:Act):Prop where
 base:Below w0.heap.size w0 w
 outer:∀b,b<w0.heap.size->(A b↔A0.av b)
 size:a.tmps.size=s.tmps.length
 tmps:∀t,t<s.tmps.length->aD w A M (a.tmps.getD t undef) (s.tmps.getD t .top)
 heap:HR w A M w0.heap.size s.heap
 defers:eA w0 A0 w a.defers
 ev:Ev A0 w A M
variable {v:Value}{x:AV}
def aD.turn{w:World}{A:Nat->Prop}(h:aD w A M v x)(hs:w.heap.size<=w'.heap.size)(hc:∀a u,w.cell? a=some u->w'.cell? a=some u):aD w' A M v x:=by induction h with|top v=>exact .top v|bool b=>exact .bool b|int k n=>exact .int k n|str s=>exact .str s|agg vs cs h hr ih=>exact .agg vs cs h ih|nils=>exact .nils|list0 a cap sz=>exact .list0 a cap sz|list b off cap sz xs val ha hb hne hcap hsz hcc hr ih=>exact .list b off cap sz xs val ha (Nat.lt_of_lt_of_le hb hs) hne hcap hsz (λ i j hi hj=>hc _ _ (hcc i j hi hj)) ih|eptr b off sz xs i0 j0 val ha hb hi hsz hcc hr ih=>exact .eptr b off sz xs i0 j0 val ha (Nat.lt_of_lt_of_le hb hs) hi hsz (λ i j hi hj=>hc _ _ (hcc i j hi hj)) ih|own v id ver i j m hm hv h1 he=>exact .own v id ver i j m hm hv h1 he|osl v id ver off len m hm hv h1 he=>exact .osl v id ver off len m hm hv h1 he|nilptr=>exact .nilptr|func f vs cs h hr hf ih=>exact .func f vs cs h ih hf|vptr b off v0 x ha hb hcc hr ih=>exact .vptr b off v0 x ha (Nat.lt_of_lt_of_le hb hs) (hc _ _ hcc) ih|nilfn=>exact .nilfn|nmap=>exact .nmap|empt a=>exact .empt a|tuple vs cs h hr ih=>exact .tuple vs cs h ih|gptr g=>exact .gptr g|yld g=>exact .yld g
def vW(o:Obj):Prop:=(∀c t z,o≠.cells c t z)/\∀es k,o≠.map es k
def Q7{w:World}{o':Obj}(hD:w.heap[D]?=some o)(ho:vW o)(a:Addr)(u:Value)(h:w.cell? a=some u):(w.putObj D o').cell? a=some u:=by(have hne:a.block≠D:=λ e=>by unfold World.cell? at h;rw[e,hD]at h;cases o<;>first|exact absurd rfl (ho.1 _ _ _)|simp at h);unfold World.cell? at h|-;rw[World.putObj_heap_other hne];exact h
def HR.turn{w:World}{A:Nat->Prop}{B:Nat}(h:HR w A M B H)(hD:w.heap[D]?=some o)(ho:vW o)(o':Obj):HR (w.putObj D o') A M B H:=by refine⟨λ id m hm=>?_,h.inj,λ b hb=>by rw[World.putObj_size];exact h.lt b hb⟩;obtain⟨bx,h1,g⟩:=h.box id m hm;refine⟨bx,h1,g.ver,g.sz,g.ty,g.capm,g.fits,g.ok,g.low,λ h0=>by rw[World.putObj_size];exact g.lt h0,λ h0=>?_,g.guard⟩;obtain⟨c,k1,k2,k3⟩:=g.cells h0;exact⟨c,k1.same (World.putObj_heap_other (h.not_box hD ho.1 ho.2 id m hm h0)),k2,λ i j hi hj=>(k3 i j hi hj).turn Ψ (Q7 hD ho)⟩
def Ev.turn{C:Cx}{w:World}{A:Nat->Prop}(h:Ev C w A M)(hD:C.w1.heap.size<=D)(o':Obj):Ev C (w.putObj D o') A M:=⟨by rw[World.putObj_size];exact h.size,λ b hb q=>by rw[World.putObj_heap_other Ω];exact h.keep b hb q,h.less,h.more,h.ids,h.src⟩
def xFj{w:World}(h:Below w0.heap.size w0 w)(hD:w0.heap.size<=D)(o':Obj):Below w0.heap.size w0 (w.putObj D o'):=⟨h.os,h.tape,h.output,by rw[World.putObj_size];exact h.size,λ b hb=>by rw[World.putObj_heap_other Ω];exact h.block b hb⟩
variable {a:Act}{s:St}
def SR.turn{w:World}{A:Nat->Prop}(h:SR w0 A0 w A M s a)(hD:w.heap[D]?=some o)(ho:vW o)(h1:w0.heap.size<=D)(h2:A0.w1.heap.size<=D)(o':Obj)(hd:eA w0 A0 (w.putObj D o') ds):SR w0 A0 (w.putObj D o') A M s {a with defers:=ds}:=⟨xFj h.base h1 o',h.outer,h.size,λ t ht=>(h.tmps t ht).turn Ψ (Q7 hD ho),h.heap.turn hD ho o',hd,h.ev.turn h2 o'⟩
def pk(w0:World)(A0:Cx)(s:St):Act->World->Prop:=λ a w=>∃A M,SR w0 A0 w A M s a
section
variable{P:Program}{Inv:IV}{w0 w:World}{A0:Cx}{A:Nat->Prop}{M:Id->Option MB}
variable {a:Act}{s:St}
def SR.eval(h:SR w0 A0 w A M s a)(x:Operand):aD w A M (a.eval x) (s.eval x):=by cases x with|tmp t=>by_cases ht:t<s.tmps.length;exact h.tmps t ht;(have:s.eval (.tmp t)=.top:=by simp[St.eval,z7,zz (Nat.le_of_not_lt ht)]);rw[this];exact .top _|const v=>exact nX w A M v|global g=>exact .gptr g|func f=>exact .func f #[] [] rfl Ψ (λ _=>rfl)
variable {A':Nat->Prop}{M':Id->Option MB}{d:Option Tmp}{v:Value}{w':World}{x:AV}
def Tk(h1:a.tmps.size=s.tmps.length)(h2:∀t,t<s.tmps.length->aD w' A' M' (a.tmps.getD t undef) (s.tmps.getD t .top))(hv:aD w' A' M' v x):(a.put d v).tmps.size=(bC s.tmps d x).length/\∀t,t<(bC s.tmps d x).length->aD w' A' M' ((a.put d v).tmps.getD t undef) ((bC s.tmps d x).getD t .top):=by cases d with|none=>exact⟨h1,h2⟩|some d=>
 refine⟨by simp[Act.put,bC,h1],λ t ht=>?_⟩;simp only[bC,y4]at ht;have q:t<a.tmps.size:=Ω
 simp only[Act.put,bC];by_cases hd:d=t;subst hd;have e1:(a.tmps.setIfInBounds d v).getD d undef=v:=by simp[zu,q]
 have e2:(s.tmps.set d x).getD d .top=x:=by simp[z7,ht]
 rw[e1,e2];exact hv;have e1:(a.tmps.setIfInBounds d v).getD t undef=a.tmps.getD t undef:=by simp[zu,Array.getElem?_setIfInBounds_ne hd]
 have e2:(s.tmps.set d x).getD t .top=s.tmps.getD t .top:=by simp[z7,zX hd]
 rw[e1,e2];exact h2 t ht
def Cu(a:Act)(d:Option Tmp)(v:Value):(a.put d v).defers=a.defers:=by cases d<;>rfl
def SR.inv(q:bP Inv)(hI:Inv w0)(h:SR w0 A0 w A M s a):Inv w:=q.below _ _ hI h.base
def SR.refreeze{H:List aC}(h:SR w0 A0 w A M s a)(J:bV s.heap H):∃A',SR w0 A0 w A' M ⟨s.tmps,H⟩ a/\Mv w A M w A' M:=by obtain⟨A',h1,h2,h3,h4⟩:=h.heap.refreeze J;have q:Mv w A M w A' M:=⟨zd _,λ _ _ _=>rfl,λ b _ hA=>h2 b hA,λ b _ hA O=>h4 b hA O,aR.refl M,.of_new (Below.refl _ _) λ _ _ h=>.inl h⟩;exact⟨A',⟨h.base,λ b hb=>⟨λ hA=>(h.outer b hb).1 (h2 b hA),λ hA=>h3 b hb ((h.outer b hb).2 hA)⟩,h.size,λ t ht=>q.rel (h.tmps t ht),h1,h.defers,h.ev.step q⟩,q⟩
variable {o:Oper}{s':St}
def j8.sub(h:j8 P Inv s o s'):bV s.heap s'.heap:=by rcases h with⟨x,nb,_,rfl⟩|⟨c,g,args,q,r,_,_,_,_,rfl⟩;exact bV.append _ _;unfold wW;split;exact bV.refl _;exact bV.freeze _ _
def Mv.trans{w1 w2 w3:World}{A1 A2 A3:Nat->Prop}{M1 M2 M3:Id->Option MB}(h:Mv w1 A1 M1 w2 A2 M2)(g:Mv w2 A2 M2 w3 A3 M3):Mv w1 A1 M1 w3 A3 M3:=by(have out:∀b,b<w1.heap.size->(∀id m,M1 id=some m->0<m.cap->m.b≠b)->∀id m,M2 id=some m->0<m.cap->m.b≠b:=λ b hb q id m hi h0 e=>by rcases h.touch.2 id m hi h0 with⟨i,m1,h1,h2,h3⟩|h1;exact q i m1 h1 h2 (by rw[<-h3,e]);omega);have lt:∀b,b<w1.heap.size->b<w2.heap.size:=λ b hb=>Nat.lt_of_lt_of_le hb h.size;refine⟨Nat.le_trans h.size g.size,λ b hb hA=>?_,λ b hb hA=>h.less b hb (g.less b (lt b hb) hA),λ b hb hA q=>g.more b (lt b hb) (h.more b hb hA q) (out b hb q),h.ext.trans g.ext,⟨λ b hb q=>?_,λ id m' hi h0=>?_⟩⟩;rw[g.keep b (lt b hb) λ h'=>hA (h.less b hb h'),h.keep b hb hA];rw[g.touch.1 b (lt b hb) (out b hb q),h.touch.1 b hb q];rcases g.touch.2 id m' hi h0 with⟨i,m1,h1,h2,h3⟩|h1;rcases h.touch.2 i m1 h1 h2 with⟨i2,m2,g1,g2,g3⟩|g1;exact .inl ⟨i2,m2,g1,g2,by rw[h3,g3]⟩;exact .inr (by rw[h3];exact g1);exact .inr (Nat.le_trans h.size h1)
def SR.put(hs:SR w0 A0 w A M s a){H':List aC}(O:Below w0.heap.size w0 w')(J:∀b,b<w0.heap.size->(A' b↔A0.av b))(q:Mv w A M w' A' M')(V:HR w' A' M' w0.heap.size H')(hr:aD w' A' M' v x):SR w0 A0 w' A' M' ⟨bC s.tmps d x,H'⟩ (a.put d v):=by obtain⟨p1,p2⟩:=Tk (d:=d) hs.size (λ t ht=>q.rel (hs.tmps t ht)) hr;exact⟨O,J,p1,p2,V,by rw[Cu];exact hs.defers.mv hs.heap q,hs.ev.step q⟩
variable {K:Act->World->Prop}{Q:Exit->Act->World->Prop}
def Va(Y:bP Inv)(hI:Inv w0)(h:j8 P Inv s o s')(hs:SR w0 A0 w A M s a)(hK:∀v w' A' M',SR w0 A0 w' A' M' s' (a.put o.dst v)->Mv w A M w' A' M'->K (a.put o.dst v) w'):o.wp P a w K Q:=by obtain⟨A1,J,V⟩:=hs.refreeze h.sub;obtain⟨x,hx,aa⟩:=SQ (w:=w) (A:=A1) (M:=M) (B:=w0.heap.size) (a:=a) (K:=K) (Q:=Q) h (bV.refl _) J.heap hs.base.size (hs.inv Y hI) (λ y _=>by have:=J.eval y;exact this) (λ _=>hs.heap.free_of_length (zd _));refine aa λ v w' A' M' q W hA hM ht Z hr=>?_;have O:Mv w A1 M w' A' M':=⟨q.size,λ b hb _=>q.block b hb,λ b hb h=>(hA b hb).1 h,λ b hb h _=>(hA b hb).2 h,W,ht⟩;have:=J.put (d:=o.dst) (hs.base.trans (q.mono hs.base.size)) (λ b hb=>(hA b (Nat.lt_of_lt_of_le hb hs.base.size)).trans (J.outer b hb)) O Z hr;(refine hK v w' A' M' ?_ (V.trans O);have e:s'=⟨bC s.tmps o.dst x,s'.heap⟩:=by rw[<-hx]);rw[e];exact this
def xKK(q:bP Inv)(hI:Inv w0)(h:j8 P Inv s o s')(hs:SR w0 A0 w A M s a)(hK:∀a' w',pk w0 A0 s' a' w'->K a' w'):o.wp P a w K Q:=Va q hI h hs λ _ _ A' M' h _=>hK _ _ ⟨A',M',h⟩
def tG(f:Nat->Nat->Option (Nat×Nat)):∀(xs:List AV)(i:Nat),(rens f xs).getD i .top=ren f (xs.getD i .top)|[],i=>by simp[rens,ren]|x::xs,0=>by simp[rens]|x::xs,i+1=>by simpa[rens]using tG f xs i
def oF(f:Nat->Nat->Option (Nat×Nat)):∀xs:List AV,(rens f xs).length=xs.length|[]=>rfl|x::xs=>by simp[rens,oF f xs]
def TY(f:Nat->Nat->Option (Nat×Nat))(x:AV):(ren f x).cells=rens f x.cells:=by(cases x<;>first|rfl|skip);rename_i id ver i j;simp only[ren,AV.cells,rens];cases gW f id ver<;>rfl;rename_i id ver i j;simp only[ren,AV.cells,rens];cases gW f id ver<;>rfl
def Sg{f:Nat->Nat->Option (Nat×Nat)}:∀{xs:List AV},o3 f xs->∀x,x∈xs->iA f x=true|[],_,x,hx=>by simp at hx|y::ys,h,x,hx=>by simp only[o3,zf]at h;rcases zC.1 hx with rfl|hx;exact h.1;exact Sg h.2 x hx
def TZ{f:Nat->Nat->Option (Nat×Nat)}:∀{xs:List AV},(∀x,x∈xs->iA f x)->o3 f xs=true|[],_=>rfl|y::ys,h=>by simp only[o3,zf];exact⟨h y Ψ,TZ λ x hx=>h x (by simp[hx])⟩
def xDQ{f:Nat->Nat->Option (Nat×Nat)}(h:iA f x):o3 f x.cells:=by cases x<;>first|(simpa[iA,AV.cells]using h)|(simp[AV.cells,o3,h])
theorem xKQ{f:Nat->Nat->Option (Nat×Nat)}(h:iA f x)(hx:x.one):(ren f x).one:=by unfold iA ren AV.one at *;grind
def SP{f:Nat->Nat->Option (Nat×Nat)}:∀{xs:List AV}{y:AV},y∈rens f xs->∃x,x∈xs/\y=ren f x|[],y,h=>by simp[rens]at h|x::xs,y,h=>by simp only[rens]at h;rcases zC.1 h with rfl|h;exact⟨x,by simp,rfl⟩;obtain⟨x',h1,h2⟩:=SP h;exact⟨x',by simp[h1],h2⟩
def xFY{f:Nat->Nat->Option (Nat×Nat)}{sz:Nat}(h:iA f x)(hx:x.okElem sz):(ren f x).okElem sz:=by have h1:=jM hx;have h2:=lg hx;simp only[AV.okElem,TY,oF,h1,beq_self_eq_true,Bool.true_and,zI];intro y hy;obtain⟨z,hz,rfl⟩:=SP hy;rw[zI]at h2;exact xKQ (Sg (xDQ h) z hz) (h2 z hz)
theorem xzj{f:Nat->Nat->Option (Nat×Nat)}(h:∀j ver,(f j ver).isSome)(id:Id)(ver:Nat):(gW f id ver).isSome:=by unfold gW;grind
mutual
def xwC{f:Nat->Nat->Option (Nat×Nat)}(h:∀j ver,(f j ver).isSome):∀x:AV,iA f x=true|.agg cs=>Kf h cs|.func _ cs=>Kf h cs|.tuple cs=>Kf h cs|.own id ver _ _=>xzj h id ver|.osl id ver _ _=>xzj h id ver|.list _ _=>rfl|.eptr _ _ _ _=>rfl|.top=>rfl|.bool _=>rfl|.int _ _=>rfl|.str _=>rfl|.nils=>rfl|.nilptr=>rfl|.nilfn=>rfl|.empt=>rfl|.gptr _=>rfl|.yld _=>rfl
def Kf{f:Nat->Nat->Option (Nat×Nat)}(h:∀j ver,(f j ver).isSome):∀xs:List AV,o3 f xs=true|[]=>rfl|x::xs=>by simp only[o3,xwC h x,Kf h xs,Bool.and_self]
end
def kU(f:Nat->Nat->Option (Nat×Nat))(M M':Id->Option MB):Prop:=∀id ver k v m,gW f id ver=some (k,v)->M id=some m->ver<=m.ver->∃m',M' k=some m'/\v<=m'.ver/\m'.b=m.b/\m'.sz=m.sz/\m'.cap=m.cap/\m'.ty=m.ty/\(v=m'.ver->ver=m.ver)
def aD.ren{w:World}{A:Nat->Prop}{f:Nat->Nat->Option (Nat×Nat)}(h:aD w A M v x):kU f M M'->aD w A M' v (Sim.ren f x):=by induction h generalizing M' with|top v=>intro _;exact .top v|bool b=>intro _;exact .bool b|int k n=>intro _;exact .int k n|str s=>intro _;exact .str s|agg vs cs h hr ih=>intro hf;exact .agg vs _ (by rw[oF];exact h) λ i hi=>by rw[tG];exact ih i (by rwa [oF]at hi) hf|nils=>intro _;exact .nils|list0 a cap sz=>intro _;exact .list0 a cap sz|list b off cap sz xs val ha hb hne hcap hsz hc hr ih=>intro _;exact .list b off cap sz xs val ha hb hne hcap hsz hc hr|eptr b off sz xs i0 j0 val ha hb hi hsz hc hr ih=>intro _;exact .eptr b off sz xs i0 j0 val ha hb hi hsz hc hr|own v id ver i j m hm hv h1 he=>(intro hf;simp only[Sim.ren];split;(rename_i k u hk;obtain⟨m',g1,g2,g3,g4,g5,g7,g6⟩:=hf id ver k u m hk hm hv;exact .own v k u i j m' g1 g2 h1 λ e=>by rw[he (g6 e)];unfold fE;rw[g3,g4,g5,g7]);exact .top _)|osl v id ver off len m hm hv h1 he=>(intro hf;simp only[Sim.ren];split;(rename_i k u hk;obtain⟨m',g1,g2,g3,g4,g5,g7,g6⟩:=hf id ver k u m hk hm hv;exact .osl v k u off len m' g1 g2 h1 λ e=>by rw[g3,g4,g5];exact he (g6 e));exact .top _)|nilptr=>intro _;exact .nilptr|func g vs cs h hr hq ih=>intro hf;exact .func g vs _ (by rw[oF];exact h) (λ i hi=>by rw[tG];exact ih i (by rwa [oF]at hi) hf) λ e=>by rw[hq e];rfl|vptr b off v0 x ha hb hc hr ih=>intro hf;exact .vptr b off v0 _ ha hb hc (ih hf)|nilfn=>intro _;exact .nilfn|nmap=>intro _;exact .nmap|empt a=>intro _;exact .empt a|tuple vs cs h hr ih=>intro hf;exact .tuple vs _ (by rw[oF];exact h) λ i hi=>by rw[tG];exact ih i (by rwa [oF]at hi) hf|gptr g=>intro _;exact .gptr g|yld g=>intro _;exact .yld g
def xF2(f:Nat->Nat->Option (Nat×Nat))(x:AV):eK (Sim.ren f x)=eK x:=by cases x<;>first|rfl|(simp only[Sim.ren];split<;>rfl)
variable {i j n:Nat}
def T2{n':Nat}{y:AV}(h:aD w A M v (pC n i j x))(hy:eK y=eK x)(hM:∀m,M (.r n i j)=some m->M' (.r n' i j)=some m):aD w A M' v (pC n' i j y):=by obtain⟨m,h1,h2,h3,h4⟩:=aD.osl_inv h;unfold pC;rw[hy];exact .osl v (.r n' i j) _ _ _ m (hM m h1) h2 h3 h4
variable {bx:aC}
def BoxAt.ren{B:Nat}{f:Nat->Nat->Option (Nat×Nat)}{id id':Id}{m m':MB}{ver:Nat}(h:BoxAt w A M B id m bx)(aa:sQ f bx)(hf:kU f M M')(Y:∀i j m0,M (.r id.base i j)=some m0->M' (.r id'.base i j)=some m0)(e1:m'.b=m.b)(e2:m'.ver=ver)(e3:m'.sz=m.sz)(e4:m'.cap=m.cap)(e5:m'.ty=m.ty):BoxAt w A M' B id' m' (ld f ver bx):=by obtain⟨J,W,q,V,O,Z⟩:=bx;cases Z with|true=>(refine⟨e2.symm,by rw[e3];exact h.sz,by rw[e5];exact h.ty,by rw[e4];exact h.capm,by rw[e4];exact h.fits,by rw[e3];exact h.ok,by rw[e1,e4];exact h.low,by rw[e1,e4];exact h.lt,λ h0=>?_,by rw[e1,e4];exact h.guard⟩;rw[e4]at h0;obtain⟨c,g1,g2,g3⟩:=h.cells h0;refine⟨c,g1.re e1 e3 e4 e5,by rw[e3,e4];exact g2,λ i j hi hj=>?_⟩;rw[e3]at hj|-;have g4:=g3 i j hi hj;have et:(ld f ver ⟨J,W,q,V,O,true⟩).ty=q:=rfl;have ex:(ld f ver ⟨J,W,q,V,O,true⟩).xs=V:=rfl;have ep:(ld f ver ⟨J,W,q,V,O,true⟩).pm:=rfl;unfold MV fy at g4|-;rw[et,ex,ep];simp only at g4;cases hs:de q j with|true=>simp only[hs]at g4|-;exact T2 g4 rfl (Y i j)|false=>simp only[hs]at g4|-;exact g4)|false=>refine⟨e2.symm,by rw[e3];exact h.sz,by rw[e5];exact h.ty,by rw[e4];exact h.capm,by rw[e4];simp only[ld,oF];exact h.fits,λ x hx=>?_,by rw[e1,e4];exact h.low,by rw[e1,e4];exact h.lt,λ h0=>?_,by rw[e1,e4];exact h.guard⟩;obtain⟨y,hy,rfl⟩:=SP hx;rw[e3];exact xFY (Sg aa y hy) (h.ok y hy);rw[e4]at h0;obtain⟨c,g1,g2,g3⟩:=h.cells h0;refine⟨c,by simp only[ld,oF];exact g1.re e1 e3 e4 e5,by rw[e3,e4];exact g2,λ i j hi hj=>?_⟩;rw[e3]at hj|-;simp only[ld,oF]at hi;have g4:=g3 i j hi hj;have et:(ld f ver ⟨J,W,q,V,O,false⟩).ty=q:=rfl;have ex:(ld f ver ⟨J,W,q,V,O,false⟩).xs=rens f V:=rfl;have ep:(ld f ver ⟨J,W,q,V,O,false⟩).pm=false:=rfl;unfold MV fy at g4|-;rw[et,ex,ep,tG,TY,tG];simp only at g4;cases hs:de q j with|true=>simp only[hs]at g4|-;exact T2 g4 (xF2 f _) (Y i j)|false=>simp only[hs]at g4|-;exact g4.ren (f:=f) (M':=M') hf
def xFL(a:Nat)(l:List Nat)(x:Nat):gY (a::l) x=match Nat.beq a x with|true=>some 0|false=>(match gY l x with|some j=>some (j+1)|none=>none):=rfl
def vp:∀{l:List Nat}{x j:Nat},gY l x=some j->l[j]?=some x|[],x,j,h=>by simp[gY]at h|a::l,x,j,h=>by unfold gY at h;split at h;rename_i hb;have:=zg hb;cases h;subst this;rfl;split at h;rename_i j' hj;cases h;simpa using vp hj;simp at h
def xy7:∀{l:List Nat}{x:Nat},gY l x=none->x∉l|[],x,_=>by simp|a::l,x,h=>by unfold gY at h;split at h;simp at h;rename_i hb;split at h;simp at h;(rename_i hn;have hne:a≠x:=λ e=>by subst e;simp at hb);simp only[zC,not_or];exact⟨λ e=>hne e.symm,xy7 hn⟩
def vD:∀{l:List Nat}{x j:Nat},ef l->l[j]?=some x->gY l x=some j|[],x,j,_,h=>by simp at h|a::l,x,j,hn,h=>by unfold ef at hn;split at hn;simp at hn;rename_i q;cases j with|zero=>simp only[zY,z6]at h;subst h;unfold gY;simp|succ j=>
 have h':l[j]?=some x:=by simpa using h
 have hne:a≠x:=λ e=>by subst e;exact xy7 q (List.mem_of_getElem? h')
 unfold gY;have hb:Nat.beq a x=false:=by cases hb:Nat.beq a x with|false=>rfl|true=>exact absurd (zg hb) hne
 simp only[hb,vD hn h']
def xuP{f:Nat->Nat->Option (Nat×Nat)}:∀{ids:List Nat}{H0:List aC},fp f H ids=some H0->H0.length=ids.length/\∀(j id:Nat),ids[j]?=some id->∃bx:aC,H[id]?=some bx/\H0[j]?=some (ld f bx.ver bx)/\sQ f bx=true
 |[],H0,h=>by simp only[fp,z6]at h;subst h;simp
 |a::ids,H0,h=>by
  unfold fp at h;split at h
  case h_2=>simp at h
  rename_i bx hb;split at h
  case h_2=>simp at h
  rename_i q;split at h
  case h_2=>simp at h
  rename_i bs J;cases h;obtain⟨h1,h2⟩:=xuP J;refine⟨by simp[h1],λ j id hj=>?_⟩
  cases j with
  |zero=>
   simp only[zY,z6]at hj;subst hj;exact⟨bx,hb,rfl,q⟩
  |succ j=>exact h2 j id (by simpa using hj)
def QF(f:Nat->Nat->Option (Nat×Nat)):∀(bs:List aC)(j:Nat),(wX f bs)[j]?=(bs[j]?).map λ bx=>ld f bx.ver bx|[],j=>by simp[wX]|b::bs,0=>by simp[wX]|b::bs,j+1=>by simpa[wX]using QF f bs j
def Fn:∀(ids:List Nat)(bs:List aC)(H:List aC),(rA H ids bs).length=H.length|[],_,H=>by simp[rA]|id::ids,[],H=>by simp[rA]|id::ids,b::bs,H=>by simp only[rA];rw[Fn ids bs];simp
def RW:∀{ids:List Nat}{bs H:List aC}{id:Nat},ef ids->id<H.length->(rA H ids bs)[id]?=match gY ids id with
  |some j=>(match bs[j]? with|some b=>some b|none=>H[id]?)
  |none=>H[id]?
 |[],bs,H,id,_,_=>by cases bs<;>simp[rA,gY]
 |a::ids,[],H,id,_,_=>by
  simp only[rA];split<;>simp
 |a::ids,b::bs,H,id,hn,hlt=>by
  unfold ef at hn;split at hn
  . simp at hn
  rename_i q;simp only[rA];rw[RW hn (by simpa using hlt)]
  rw[xFL];cases hb:Nat.beq a id with
  |true=>
   have:=zg hb;subst this;simp[q,hlt]
  |false=>
   have hne:a≠id:=λ e=>by subst e;simp at hb
   cases hp:gY ids id with
   |none=>simp[zX hne]
   |some j=>simp[zX hne]
def Id.re:Id->Nat->Id|.b _,n=>.b n|.r _ i j,n=>.r n i j
@[simp] theorem Id.re_base(x:Id)(n:Nat):(x.re n).base=n:=by cases x<;>rfl
@[simp] theorem Id.re_re(x:Id)(n m:Nat):(x.re n).re m=x.re m:=by cases x<;>rfl
@[simp] theorem Id.re_self(x:Id):x.re x.base=x:=by cases x<;>rfl
theorem Id.re_inj{x y:Id}{m:Nat}(h:x.re n=y.re m):n=m/\(x.base=y.base->x=y):=by unfold Id.re Id.base at *;grind
def oZ(ids:List Nat)(n k j:Nat):Nat:=match ids[j]? with|some id=>id|none=>n+(j - k)
def Tj(ids:List Nat)(n k j ver:Nat):iK ids n k j ver=some (oZ ids n k j,ver):=by unfold iK oZ;split<;>rfl
def xHU(ids:List Nat)(n k:Nat)(x:Id)(ver:Nat):gW (iK ids n k) x ver=some (x.re (oZ ids n k x.base),ver):=by cases x with|b m=>simp only[gW,Tj,Id.base,Id.re]|r f i j=>simp only[gW,Tj,Id.base,Id.re]
variable {ids:List Nat}
def xJi{x k:Id}{ver v:Nat}(h:gW (oX ids) x ver=some (k,v)):v=ver/\∃j,gY ids x.base=some j/\k=x.re j:=by cases x with|b m=>(simp only[gW,oX]at h;cases hp:gY ids m with|none=>rw[hp]at h;simp at h|some j=>rw[hp]at h;simp only[z6,zb]at h;exact⟨h.2.symm,j,hp,h.1.symm⟩)|r f i' j'=>simp only[gW,oX]at h;cases hp:gY ids f with|none=>rw[hp]at h;simp at h|some j=>rw[hp]at h;simp only[z6,zb]at h;exact⟨h.2.symm,j,hp,h.1.symm⟩
def Sn{f:Nat->Nat->Option (Nat×Nat)}(h:bx.pm):ld f bx.ver bx=bx:=by obtain⟨a,b,c,d,e,p⟩:=bx;simp only at h;subst h;rfl
def RV{f:Nat->Nat->Option (Nat×Nat)}(h:bx.pm):sQ f bx:=by unfold sQ;rw[h]
def RP{H':List aC}{f:Nat->Nat->Option (Nat×Nat)}{n':Nat}{rb:aC}(hb:getB H (.r n i j)=some rb)(hH:∀q,H[n]?=some q->∃V,H'[n']?=some (ld f V q)):getB H' (.r n' i j)=some rb:=by obtain⟨q,h1,h6⟩:=tV hb;obtain⟨V,h5⟩:=hH q h1;obtain⟨a,b,c,d,e,p⟩:=q;rcases h6 with⟨hc,rfl⟩|⟨hc,h2,h3,h4,rfl⟩;refine pg h5 ?_;cases p<;>exact hc;simp only at hc h2 h3 h4;subst h3;rw[oH h5 hc h2 rfl h4];simp only[ld];generalize (d.getD i .top).cells.getD j .top=x;cases x<;>rfl
def Km{rb:aC}(hb:getB H (.r n i j)=some rb):rb.pm:=by obtain⟨q,_,⟨_,rfl⟩|⟨_,_,_,_,rfl⟩⟩:=tV hb;rfl;exact xHW _ _
def xFl(hI:Inv w0)(ar:Below w0.heap.size w0 w)(hR:HR w A M w0.heap.size H){g:FuncId}{args:List AV}{vs:List Value}(hv:RC w A M vs args)(Z:ef ids){H0 H0':List aC}{r0:AV}(a9:fp (oX ids) H ids=some H0)(hg:bG P Inv g (rens (oX ids) args) H0 r0 H0'):Calls P g vs.toArray w λ e w'=>∃v A' M',e=.returned v/\Below w0.heap.size w0 w'/\(∀b,b<w0.heap.size->(A' b↔A b))/\Mv w A M w' A' M'/\HR w' A' M' w0.heap.size (eZ H ids H0')/\aD w' A' M' v (ren (iK ids H.length ids.length) r0):=by
 obtain⟨bf,a8⟩:=xuP a9;let M0:Id->Option MB:=λ x=>(ids[x.base]?).bind λ n=>M (x.re n);have au:∀(x:Id) n,ids[x.base]?=some n->M0 x=M (x.re n):=λ x n hj=>by simp[M0,hj]
 have O:∀(x:Id) m,M0 x=some m->∃n,ids[x.base]?=some n/\M (x.re n)=some m:=λ x m h=>by simp only[M0]at h;cases hj:ids[x.base]? with|none=>rw[hj]at h;simp at h|some n=>rw[hj]at h;exact⟨n,rfl,by simpa using h⟩
 have ax:kU (oX ids) M M0:=λ id ver k v m hf hm hv=>by obtain⟨rfl,j,hj,rfl⟩:=xJi hf;exact⟨m,by rw[au (id.re j) id.base (by rw[Id.re_base];exact vp hj),Id.re_re,Id.re_self];exact hm,hv,rfl,rfl,rfl,rfl,λ e=>e⟩
 have ae:∀k n,ids[k]?=some n->∀i j m0,M (.r n i j)=some m0->M0 (.r k i j)=some m0:=λ k n hk i j m0 h=>by rw[au (.r k i j) n hk];exact h
 have bj:HR w A M0 w0.heap.size H0:=by refine⟨λ x m hm=>?_,λ x x' m m' h1 h2 c1 c2 he=>?_,hR.lt⟩;(obtain⟨n,hj,aw⟩:=O x m hm;obtain⟨bx,g1,g2,g3⟩:=a8 x.base n hj;obtain⟨bx',g4,g5⟩:=hR.box (x.re n) m aw;cases x with|b k=>have g4':H[n]?=some bx':=g4;rw[g1]at g4';cases g4';exact⟨_,g2,g5.ren g3 ax (ae k n hj) rfl g5.ver.symm rfl rfl rfl⟩|r k i j=>(have hp:=Km g4;have g6:getB H0 (.r k i j)=some bx':=RP (f:=oX ids) g4 λ a7 ak=>by rw[g1]at ak;cases ak;exact⟨_,g2⟩);have g7:=g5.ren (f:=oX ids) (M':=M0) (id':=.r k i j) (m':=m) (ver:=m.ver) (RV hp) ax (ae k n hj) rfl rfl rfl rfl rfl;rw[<-g5.ver,Sn hp]at g7;exact⟨bx',g6,g7⟩);obtain⟨n,e1,e2⟩:=O x m h1;obtain⟨n',e3,e4⟩:=O x' m' h2;have:=hR.inj _ _ m m' e2 e4 c1 c2 he;obtain⟨rfl,hx⟩:=Id.re_inj this;have p1:=vD Z e1;have p2:=vD Z e3;rw[p1]at p2;exact hx (by simpa using p2)
 have bk:RC w A M0 vs (rens (oX ids) args):=⟨by rw [oF];exact hv.1,fun i hi=>by
  rw [tG];exact (hv.2 i (by rwa [oF] at hi)).ren ax⟩
 refine(hg.2 w0 w A M0 vs hI ar bj bk).mono ?_;rintro e w' ⟨v,A',M0',rfl,a3,a2,J,ai,hr⟩;have a1:w.heap.size<=w'.heap.size:=J.size;have ab:∀j id,ids[j]?=some id->id<H.length:=λ j id hj=>by obtain⟨bx,g1,_⟩:=a8 j id hj;rcases zJ id H.length with h|h;exact h;rw[zz h]at g1;simp at g1
 have be:∀id m,M id=some m->id.base<H.length:=λ id m hm=>by obtain⟨bx,g1,_⟩:=hR.box id m hm;exact vO g1
 let M':Id->Option MB:=λ x=>match gY ids x.base with|some j=>M0' (x.re j)|none=>if x.base<H.length then M x else M0' (x.re (x.base - H.length+ids.length))
 have af:∀(x:Id) j,gY ids x.base=some j->M' x=M0' (x.re j):=λ x j h=>by simp[M',h]
 have am:∀x:Id,gY ids x.base=none->x.base<H.length->M' x=M x:=λ x h h'=>by simp[M',h,h']
 have bn:∀x:Id,¬ x.base<H.length->gY ids x.base=none:=λ x h=>by cases hp:gY ids x.base with|none=>rfl|some j=>exact absurd (ab j _ (vp hp)) h
 have ap:∀x:Id,¬ x.base<H.length->M' x=M0' (x.re (x.base - H.length+ids.length)):=λ x h=>by simp[M',bn x h,h]
 have ba:∀j,ids[j]?=none->ids.length<=j:=λ j hj=>by rcases zJ j ids.length with h|h;rw[ze h]at hj;simp at hj;exact h
 have ao:∀y:Id,M' (y.re (oZ ids H.length ids.length y.base))=M0' y:=λ y=>by unfold oZ;cases hj:ids[y.base]? with|some id=>simp only;rw[af _ y.base (by rw[Id.re_base];exact vD Z hj),Id.re_re,Id.re_self]|none=>have:=ba _ hj;simp only;rw[ap _ (by rw[Id.re_base];omega),Id.re_base,Id.re_re,show H.length+(y.base - ids.length) - H.length+ids.length=y.base by omega,Id.re_self]
 have Y:∀(x:Id) m,M' x=some m->(∃y:Id,M0' y=some m/\x=y.re (oZ ids H.length ids.length y.base))\/(gY ids x.base=none/\x.base<H.length/\M x=some m):=λ x m hm=>by cases hp:gY ids x.base with|some j=>rw[af x j hp]at hm;exact .inl ⟨x.re j,hm,by rw[Id.re_re,Id.re_base];unfold oZ;rw[vp hp];simp⟩|none=>by_cases q:x.base<H.length;rw[am x hp q]at hm;exact .inr ⟨rfl,q,hm⟩;rw[ap x q]at hm;refine .inl ⟨_,hm,?_⟩;rw[Id.re_re,Id.re_base];unfold oZ;rw[zz Ω];simp only;rw[show H.length+(x.base - H.length+ids.length - ids.length)=x.base by omega,Id.re_self]
 have V:kU (iK ids H.length ids.length) M0' M':=λ y ver k u m hf hm hv=>by rw[xHU]at hf;cases hf;exact⟨m,by rw[ao];exact hm,hv,rfl,rfl,rfl,rfl,λ e=>e⟩
 have al:∀bx:aC,sQ (iK ids H.length ids.length) bx:=by(have az:∀j ver,(iK ids H.length ids.length j ver).isSome:=λ j ver=>by rw[Tj];rfl);have key:∀x:AV,iA (iK ids H.length ids.length) x:=xwC az;intro bx;unfold sQ;split;rfl;exact TZ λ x _=>key x
 have aa:∀j bx,H0'[j]?=some bx->(eZ H ids H0')[oZ ids H.length ids.length j]?=some (ld (iK ids H.length ids.length) bx.ver bx):=λ j bx g1=>by unfold oZ;cases hj:ids[j]? with|some id'=>have q:=ab j id' hj;unfold eZ;simp only;rw[zO (by rw[Fn];exact q),RW Z q,vD Z hj];simp only[QF,g1,Option.map_some]|none=>have:=ba _ hj;unfold eZ;simp only;rw[List.getElem?_append_right (by rw[Fn];omega),Fn,List.getElem?_drop,show ids.length+(H.length+(j - ids.length) - H.length)=j by omega,QF,g1];rfl
 have ag:∀k i j m0,M0' (.r k i j)=some m0->M' (.r (oZ ids H.length ids.length k) i j)=some m0:=λ k i j m0 h=>by have:=ao (.r k i j);rw[h]at this;exact this
 have ay:∀x:Id,gY ids x.base=none->x.base<H.length->(eZ H ids H0')[x.base]?=H[x.base]?:=λ x hp q=>by unfold eZ;rw[zO (by rw[Fn];exact q),RW Z q,hp]
 have a4:∀b,(∀id m,M id=some m->0<m.cap->m.b≠b)->∀j m,M0 j=some m->0<m.cap->m.b≠b:=λ b h j m hm h0=>by obtain⟨id,_,aw⟩:=O j m hm;exact h _ m aw h0
 have W:∀(x:Id) m,gY ids x.base=none->M x=some m->0<m.cap->∀y m0,M0 y=some m0->0<m0.cap->m0.b≠m.b:=λ x m hp hm h0 y m0 hj c0 he=>by obtain⟨n,e1,e2⟩:=O y m0 hj;have:=hR.inj _ x m0 m e2 hm c0 h0 he;subst this;rw[Id.re_base,vD Z e1]at hp;simp at hp
 have an:aR M M':=λ x m hm=>by cases hp:gY ids x.base with
  |some j=>
   obtain ⟨m',g1,g2⟩:=J.ids (x.re j) m (by
    show (x.re j).base<H0.length;rw[Id.re_base,bf];rcases zJ j ids.length with h|h
    . exact h
    . have:=vp hp;rw [zz h] at this;simp at this) (by show M0 (x.re j)=some m;rw [au (x.re j) x.base (by rw [Id.re_base];exact vp hp),Id.re_re,Id.re_self];exact hm)
   exact⟨m',by rw[af x j hp];exact g1,g2⟩
  |none=>exact⟨m,by rw[am x hp (be x m hm)];exact hm,.inl rfl⟩
 have ad:∀b,b<w.heap.size->¬ A b->w'.heap[b]?=w.heap[b]?:=λ b hb hA=>J.keep b hb (.inl hA);have aj:ip w w' M M':=⟨fun b hb aq=>J.keep b hb (.inr (a4 b aq)),fun id m' hm h0=>by
  rcases Y id m' hm with⟨j,hj,_⟩|⟨_,_,ac⟩
  . rcases J.src j m' hj h0 with⟨i,m,h1,h2,h3⟩|h1
    . obtain⟨id',_,a0⟩:=O i m h1;exact .inl ⟨_,m,a0,h2,h3⟩
    . exact .inr h1
  . exact .inl ⟨id,m',ac,h0,rfl⟩⟩
 have bi:Mv w A M w' A' M':=⟨a1,ad,λ b hb h=>J.less b hb h,λ b hb h aq=>J.more b hb h (a4 b aq),an,aj⟩;refine⟨v,A',M',rfl,a3,a2,bi,⟨λ id m hm=>?_,λ id id' m m' h1 h2 c1 c2 he=>?_,ai.lt⟩,hr.ren V⟩;rcases Y id m hm with⟨j,hj,rfl⟩|⟨hp,q,ac⟩;obtain⟨bx',g3,g4⟩:=ai.box j m hj;cases j with|b k=>exact⟨_,aa k bx' g3,g4.ren (al bx') V (ag k) rfl g4.ver.symm rfl rfl rfl⟩|r k i' j'=>have hp:=Km g3;have g6:getB (eZ H ids H0') (.r (oZ ids H.length ids.length k) i' j')=some bx':=RP (f:=iK ids H.length ids.length) g3 λ a7 ak=>⟨_,aa k a7 ak⟩;have g7:=g4.ren (f:=iK ids H.length ids.length) (M':=M') (id':=.r (oZ ids H.length ids.length k) i' j') (m':=m) (ver:=m.ver) (RV hp) V (ag k) rfl rfl rfl rfl rfl;rw[<-g4.ver,Sn hp]at g7;exact⟨bx',g6,g7⟩
 obtain⟨bx,g1,g2⟩:=hR.box id m ac;refine⟨bx,by rw[FQ (ay id hp q)];exact g1,g2.mono (λ h0=>J.keep m.b (g2.lt h0) (.inr (W id m hp ac h0))) ad a1 (λ b hb h=>J.less b hb h) (λ h0=>?_) an⟩;rw[g2.guard h0];exact⟨λ h=>J.more m.b (g2.lt h0) h (W id m hp ac h0),λ h=>J.less m.b (g2.lt h0) h⟩;have a5:∀(ah:Id)(m1 m2:MB)(j:Id),M0' j=some m1->gY ids ah.base=none->M ah=some m2->0<m1.cap->0<m2.cap->m1.b=m2.b->False:=λ ah m1 m2 j hj hp hm c1 c2 he=>by rcases J.src j m1 hj c1 with⟨i,m,e1,e2,e3⟩|e1;exact W ah m2 hp hm c2 i m e1 e2 (by rw[<-e3,he]);obtain⟨bx,_,g2⟩:=hR.box ah m2 hm;have:=g2.lt c2;simp only at e1;omega
 rcases Y id m h1 with⟨j,hj,hf⟩|⟨hp,q,bb⟩<;>rcases Y id' m' h2 with⟨j',bc,bh⟩|⟨bg,bo,a6⟩;have:=ai.inj j j' m m' hj bc c1 c2 he;subst this;rw[hf,bh];exact(a5 id' m m' j hj bg a6 c1 c2 he).elim;exact(a5 id m' m j' bc hp bb c2 c1 he.symm).elim;exact hR.inj id id' m m' bb a6 c1 c2 he
def xJg{a b:List AV}{d:Option Tmp}{y:AV}(hl:a.length=b.length)(h:bC a d x=bC a d y):bC b d x=bC b d y:=by cases d with|none=>rfl|some d=>simp only[bC]at h|-;by_cases hd:d<a.length;(have:(a.set d x)[d]?=(a.set d y)[d]?:=by rw[h]);simp[hd]at this;rw[this];(have hd':b.length<=d:=by rw[<-hl];exact Nat.le_of_not_lt hd);rw[List.set_eq_of_length_le hd',List.set_eq_of_length_le hd']
variable {K:Act->World->Prop}{Q:Exit->Act->World->Prop}{s':St}
def SI(aq:bP Inv)(hI:Inv w0){o:Oper}(h:oO P Inv s o s')(hs:SR w0 A0 w A M s a)(hK:∀v w' A' M',SR w0 A0 w' A' M' s' (a.put o.dst v)->Mv w A M w' A' M'->K (a.put o.dst v) w'):o.wp P a w K Q:=by
 rcases h with⟨x,H',hi,rfl⟩|⟨c,g,args,ids,H0,r0,H0',ho,J,a0,Y,hg,rfl⟩|⟨s1,x,nb,ap,hf,rfl⟩;obtain⟨n,w',A',M',v,al,hn,q,W,hA,ae,ht,O,hr⟩:=xHr (ρc:=a.eval) hs.heap hs.base.size (λ x=>hs.eval x) hi;have Z:Mv w A M w' A' M':=⟨q.size,ae,λ b hb h=>(hA b hb).1 h,λ b hb h _=>(hA b hb).2 h,W,ht⟩;have:=hK v w' A' M' (hs.put (hs.base.trans q) (λ b hb=>(hA b (Nat.lt_of_lt_of_le hb hs.base.size)).trans (hs.outer b hb)) Z O hr) Z;unfold Oper.wp;rw[al];rcases hn with rfl|⟨rfl,rfl⟩;exact this;exact this;unfold pz at J;split at J;case h_2=>simp at J
 rename_i fo an;split at J;case h_2=>simp at J
 rename_i g' ao ar;split at J;simp at J;rename_i ay;simp only[z6,zb]at J;obtain⟨rfl,rfl⟩:=J;have aa:=hs.eval fo;rw[ar]at aa;obtain⟨cv,ax,au,a1⟩:=aa.func_inv ay;have am:=Gn (w:=w) (A:=A) (M:=M) (l:=c.args.toList) (ρc:=a.eval) (ρ:=s.eval) (λ x _=>hs.eval x);have az:RC w A M (c.args.toList.map a.eval++cv.toList) (c.args.toList.map s.eval++ao):=RC.append ⟨am.1,am.2⟩ ⟨by simpa using au,λ i hi=>by have:=a1 i hi;simpa[z7,zu]using this⟩;unfold Oper.wp;rw[SV ho an ax hg.1,Oper.upon_enter];refine(xFl hI hs.base hs.heap az a0 Y hg).mono ?_;rintro e w' ⟨v,A',M',rfl,q,aj,Z,O,hr⟩;exact hK v w' A' M' (hs.put q (λ b hb=>(aj b hb).trans (hs.outer b hb)) Z O hr) Z;obtain⟨ab,e1,e2,e3⟩:=ap;have af:bV s1.heap (s1.heap++nb.toList):=bV.append _ _;have Y:bV s.heap (s1.heap++nb.toList):=by refine bV.trans ?_ af;rw[e1];exact bV.freeze _ _
 have ah:s1.heap.length=s.heap.length:=by rw[e1,xBp]
 obtain⟨A1,V,ad⟩:=hs.refreeze Y;have aa:∀id:Id,id.base∈ab->∀m,M id=some m->0<m.cap->¬ A1 m.b:=λ id ag m hm h0 hA=>by(obtain⟨bx,a2,aw⟩:=V.heap.box id m hm;obtain⟨ak,g1,_⟩:=hs.heap.box id m hm;have h1:getB s1.heap id=some {ak with frz:=true}:=by rw[e1,Rf,g1];simp only[Option.map_some,iw,List.contains_iff_mem.2 ag,if_true]);have h2:getB (s1.heap++nb.toList) id=some {ak with frz:=true}:=xwm h1;have h2':getB (s1.heap++nb.toList) id=some bx:=a2;rw[h2]at h2';simp only[z6]at h2';have:=(aw.guard h0).2 hA;rw[<-h2']at this;simp at this
 have hρ:∀y,y∈o.op.operands.toList->aD w A1 M (a.eval y) (s1.eval y):=λ y _=>by have key:∀t,s1.eval (.tmp t)=s.eval (.tmp t)\/(resolve s.heap eI (s.eval (.tmp t))=some (s1.eval (.tmp t))/\∀id,id∈aQ s.heap eI (s.eval (.tmp t))->id∈ab):=λ t=>e3 t;(have h0:aD w A1 M (a.eval y) (s.eval y):=by have:=V.eval y;cases y<;>exact this);cases y with|tmp t=>(rcases key t with h|⟨h,ag⟩;rw[h];exact h0;exact(rS hs.heap (A':=A1) (λ b hb h=>ad.less b hb h) eI _ _ _ (hs.eval (.tmp t)) h λ id ai m hm h0=>aa id (ag id.base ai) m hm h0).lift M)|const v=>exact h0|global g=>exact h0|func f=>exact h0
 obtain⟨x',hx,a3⟩:=SQ (P:=P) (Inv:=Inv) (s:=s1) (s':=⟨bC s1.tmps o.dst x,s1.heap++nb.toList⟩) (w:=w) (A:=A1) (M:=M) (B:=w0.heap.size) (a:=a) (K:=K) (Q:=Q) (o:=o) (.inl ⟨x,nb,.inl hf,rfl⟩) (bV.refl _) V.heap hs.base.size (hs.inv aq hI) hρ (λ _=>by rw[ah];exact hs.heap.free_of_length (zd _));refine a3 λ v w' A' M' q W hA hM ht O hr=>?_;have ac:Mv w A1 M w' A' M':=⟨q.size,λ b hb _=>q.block b hb,λ b hb h=>(hA b hb).1 h,λ b hb h _=>(hA b hb).2 h,W,ht⟩;have:=V.put (d:=o.dst) (hs.base.trans (q.mono hs.base.size)) (λ b hb=>(hA b (Nat.lt_of_lt_of_le hb hs.base.size)).trans (V.outer b hb)) ac O hr;refine hK v w' A' M' ?_ (ad.trans ac);have e:bC s.tmps o.dst x=bC s.tmps o.dst x':=xJg e2 hx;rw[e];exact this
def SR.settle{s1:St}(hs:SR w0 A0 w A M s a)(ab:jS s s1):∃A1,SR w0 A0 w A1 M s1 a/\Mv w A M w A1 M:=by(obtain⟨V,e1,e2,e3⟩:=ab;have Y:bV s.heap s1.heap:=by rw[e1];exact bV.freeze _ _);(obtain⟨A1,q,J⟩:=hs.refreeze Y;have Z:∀id:Id,id.base∈V->∀m,M id=some m->0<m.cap->¬ A1 m.b:=λ id O m hm h0 hA=>by(obtain⟨bx,ad,ac⟩:=q.heap.box id m hm;obtain⟨aa,g1,_⟩:=hs.heap.box id m hm;have h1:getB s1.heap id=some {aa with frz:=true}:=by rw[e1,Rf,g1];simp only[Option.map_some,iw,List.contains_iff_mem.2 O,if_true]);have h2':getB s1.heap id=some bx:=ad;rw[h1]at h2';simp only[z6]at h2';have:=(ac.guard h0).2 hA;rw[<-h2']at this;simp at this);refine⟨A1,⟨q.base,q.outer,q.size.trans e2.symm,λ t ht=>?_,q.heap,q.defers,q.ev⟩,J⟩;rw[e2]at ht;rcases e3 t with h|⟨h,O⟩;rw[h];exact q.tmps t ht;exact(rS hs.heap (A':=A1) (λ b hb h=>J.less b hb h) eI _ _ _ (hs.tmps t ht) h λ id W m hm h0=>Z id (O id.base W) m hm h0).lift M
def Vb(V:bP Inv)(hI:Inv w0){o:Oper}(h:wc P Inv s o s')(hs:SR w0 A0 w A M s a)(hK:∀v w' A' M',SR w0 A0 w' A' M' s' (a.put o.dst v)->Mv w A M w' A' M'->K (a.put o.dst v) w'):o.wp P a w K Q:=by rcases h with h|⟨s1,⟨n,bx,h1,h2,ab,h3,rfl⟩,h⟩|⟨s1,x,H',Z,hi,rfl⟩;exact SI V hI h hs hK;obtain⟨A1,M1,g1,g2,g3⟩:=hs.heap.unmark h1 h2 ab h3;have W:SR w0 A0 w A1 M1 ⟨s.tmps,s.heap.set n ⟨bx.ver,bx.sz,gA bx.ty,bx.xs,bx.frz,true⟩⟩ a:=⟨hs.base,λ b hb=>⟨λ h=>(hs.outer b hb).1 (g2.less b (Nat.lt_of_lt_of_le hb hs.base.size) h),λ h=>g3 b hb ((hs.outer b hb).2 h)⟩,hs.size,λ t ht=>g2.rel (hs.tmps t ht),g1,hs.defers,hs.ev.step g2⟩;exact SI V hI h W λ v w' A' M' k1 k2=>hK v w' A' M' k1 (g2.trans k2);obtain⟨A1,W,Y⟩:=hs.settle Z;have J:s1.tmps.length=s.tmps.length:=Z.choose_spec.2.1;refine SI V hI (.inl ⟨x,H',hi,rfl⟩) W λ v w' A' M' k1 k2=>hK v w' A' M' ?_ (Y.trans k2);have hm:=Y.trans k2;have q:∀t,t<s.tmps.length->aD w' A' M' (a.tmps.getD t undef) (s.tmps.getD t .top):=λ t ht=>hm.rel (hs.tmps t ht);(have O:(a.put o.dst v).tmps.size=(bC s.tmps o.dst x).length/\∀t,t<(bC s.tmps o.dst x).length->aD w' A' M' ((a.put o.dst v).tmps.getD t undef) ((bC s.tmps o.dst x).getD t .top):=by have hk:=k1.tmps;revert hk;cases o.dst with|none=>intro _;exact⟨hs.size,q⟩|some d=>intro hk;by_cases hd:d<s.tmps.length;refine Tk hs.size q ?_;have:=hk d (by simp[bC,J,hd]);(have e1:(a.tmps.setIfInBounds d v).getD d undef=v:=by simp[zu,hs.size,hd]);(have e2:(s1.tmps.set d x).getD d .top=x:=by simp[z7,J,hd]);simp only[Act.put,bC]at this;rw[e1,e2]at this;exact this;(have e1:(a.put (some d) v).tmps=a.tmps:=by simp only[Act.put];apply Array.ext_getElem?;intro i;rw[Array.getElem?_setIfInBounds];by_cases aa:d=i;subst aa;rw[if_pos rfl,if_neg (by rw[hs.size];exact hd),Array.getElem?_eq_none (by rw[hs.size];exact Nat.le_of_not_lt hd)];rw[if_neg aa]);have e2:bC s.tmps (some d) x=s.tmps:=List.set_eq_of_length_le (Nat.le_of_not_lt hd);rw[e1,e2];exact⟨hs.size,q⟩);exact⟨k1.base,k1.outer,O.1,O.2,k1.heap,k1.defers,k1.ev⟩
def xKL(q:bP Inv)(hI:Inv w0){o:Oper}(h:wc P Inv s o s')(hs:SR w0 A0 w A M s a)(hK:∀a' w',pk w0 A0 s' a' w'->K a' w'):o.wp P a w K Q:=Vb q hI h hs λ _ _ A' M' h _=>hK _ _ ⟨A',M',h⟩
end
end Go.Sim
namespace Go.Sim
open Go.RowKit
def fK(ops:Array Oper)(ts:List AV)(j:Nat):Option (Option Bool):=match (ops[j]?).bind (·.dst)with|none=>some none|some d=>match ts[d]? with|none=>some none|some (.bool b)=>some (some b)|some (.tuple _)=>some none|_=>none
def ju(ops:Array Oper)(ts:List AV)(o:Oper):Option Bool:=match o.guard with|none=>some true|some (j,want)=>match fK ops ts j with|some y=>some (y==some want)|none=>none
inductive d7 (Step:St->Oper->St->Prop) (ops:Array Oper):List Oper->St->St->Prop where|nil (s:St):d7 Step ops [] s s|run {o:Oper} {rest:List Oper} {s s1 s2:St} (hw:ju ops s.tmps o=some true) (h:Step s o s1) (hr:d7 Step ops rest s1 s2):d7 Step ops (o::rest) s s2|skip {o:Oper} {rest:List Oper} {s s2:St} (hw:ju ops s.tmps o=some false) (hr:d7 Step ops rest ⟨bC s.tmps o.dst (.tuple []),s.heap⟩ s2):d7 Step ops (o::rest) s s2
def iG(P:Program)(Inv:IV)(s:St)(o:Oper)(s':St):Prop:=j8 P Inv s o s'\/wc P Inv s o s'
section
variable{P:Program}{Inv:IV}{w0 w:World}{A0:Cx}{A:Nat->Prop}{M:Id->Option MB}{ops:Array Oper}
variable {a:Act}{o:Oper}{ts:List AV}
def vu{b:Bool}(hsz:a.tmps.size=ts.length)(hr:∀j J d,o.guard=some (j,J)->(ops[j]?).bind (·.dst)=some d->d<ts.length->aD w A M (a.tmps.getD d undef) (ts.getD d .top))(h:ju ops ts o=some b):Region.wanted o (yielded ops a.tmps)=b:=by
 unfold ju at h;unfold Region.wanted;split at h;rename_i hg;simp only[z6]at h;simp[hg,h];rename_i j J hg;simp only[hg];split at h;case h_2=>simp at h
 rename_i y hy;simp only[z6]at h;rw[<-h];congr 1;unfold fK at hy;unfold yielded;split at hy;rename_i hd;simp only[z6]at hy;rw[hd,<-hy];rfl;rename_i d hd;rw[hd];simp only[Option.bind_some];by_cases q:d<ts.length;have:=hr j J d hg hd q;have hlt':d<a.tmps.size:=by rw[hsz];exact q
 rw[ze q]at hy;have e:ts.getD d .top=ts[d]:=by simp[z7,q]
 rw[e]at this;have e2:a.tmps[d]?=some (a.tmps.getD d undef):=by simp[hlt']
 rw[e2];split at hy;rename_i hq;simp at hq;rename_i b' hq;simp only[z6]at hq hy;rw[hq]at this;rw[this.bool_inv,<-hy];rename_i vs hq;simp only[z6]at hq hy;rw[hq]at this;obtain⟨us,hu,_⟩:=this.tuple_inv;rw[hu,<-hy];simp at hy;rw[zz (Nat.le_of_not_lt q)]at hy;simp only[z6]at hy;rw[Array.getElem?_eq_none (by rw[hsz];exact Nat.le_of_not_lt q),<-hy]
variable {s:St}
def SR.skip(hs:SR w0 A0 w A M s a)(d:Option Tmp):SR w0 A0 w A M ⟨bC s.tmps d (.tuple []),s.heap⟩ (a.put d undef):=by obtain⟨p1,p2⟩:=Tk (d:=d) hs.size hs.tmps (aD.tuple (w:=w) (A:=A) (M:=M) #[] [] rfl Ψ);exact⟨hs.base,hs.outer,p1,p2,hs.heap,by rw[Cu];exact hs.defers,hs.ev⟩
variable {K:Act->World->Prop}{Q:Exit->Act->World->Prop}{s':St}
def xKJ(q:bP Inv)(hI:Inv w0)(h:iG P Inv s o s')(hs:SR w0 A0 w A M s a)(hK:∀a' w',pk w0 A0 s' a' w'->K a' w'):o.wp P a w K Q:=by rcases h with h|h;exact xKK q hI h hs hK;exact xKL q hI h hs hK
def vH(q:bP Inv)(hI:Inv w0)(h:iG P Inv s o s')(hs:SR w0 A0 w A M s a)(hK:∀v w' A' M',SR w0 A0 w' A' M' s' (a.put o.dst v)->Mv w A M w' A' M'->K (a.put o.dst v) w'):o.wp P a w K Q:=by rcases h with h|h;exact Va q hI h hs hK;exact Vb q hI h hs hK
def xI1(h:iG P Inv s o s'):∃x,s'.tmps=bC s.tmps o.dst x:=by rcases h with(⟨x,nb,_,rfl⟩|⟨c,g,args,q,r,_,_,_,_,rfl⟩)|((⟨x,H',_,rfl⟩|⟨c,g,args,ids,H0,r0,H0',_,_,_,_,_,rfl⟩|⟨s1,x,nb,_,_,rfl⟩)|⟨s1,⟨n,bx,_,_,_,_,rfl⟩,(⟨x,H',_,rfl⟩|⟨c,g,args,ids,H0,r0,H0',_,_,_,_,_,rfl⟩|⟨s1,x,nb,_,_,rfl⟩)⟩|⟨s1,x,H',_,_,rfl⟩)<;>exact⟨_,rfl⟩
def xyW(V:bP Inv)(hI:Inv w0){l:List Oper}(hp:d7 (iG P Inv) ops l s s'):∀{w:World}{A:Nat->Prop}{M:Id->Option MB}{a:Act},SR w0 A0 w A M s a->(∀a' w',pk w0 A0 s' a' w'->Q .normal a' w')->wpList P ops Q l a w:=by induction hp with|nil s=>intro w A M a hs hQ;exact hQ a w ⟨A,M,hs⟩|run hw h hr ih=>intro w A M a hs hQ;have J:=vu (w:=w) (A:=A) (M:=M) hs.size (λ j O d _ _ q=>hs.tmps d q) hw;unfold wpList;rw[if_pos J];exact .inl (xKJ V hI h hs λ a' w'⟨A',M',hs'⟩=>ih hs' hQ)|skip hw hr ih=>intro w A M a hs hQ;have J:=vu (w:=w) (A:=A) (M:=M) hs.size (λ j O d _ _ q=>hs.tmps d q) hw;unfold wpList;rw[if_neg (by rw[J];simp)];exact ih (hs.skip _) hQ
def cP(ro:Option Nat):Fence:={Fence.wide with round:=ro}
def Te(ro:Option Nat)(f:FuncId):(cP ro).fn f:=trivial
def Sb(ro:Option Nat)(n:Nat):(cP ro).room n:=λ d h=>by simp[cP,Fence.wide]at h
variable {ro:Option Nat}
def xwN{p:Prop}:(cP ro).depth.isSome->p:=λ h=>by simp[cP,Fence.wide]at h
def CI(ro:Option Nat)(P:Program)(m:Machine):Machine.fenced P (cP ro) m:=fenced_wide P m
variable {args:Array Value}{n:Nat}
def xBm{P:Program}{f:FuncId}{w:World}{R:Ending->World->Prop}(h:Calls P f args w R):CallsIn (cP ro) n P f args w R:=
 have h1:CallsIn Fence.wide n P f args w R:=callsIn_wide.2 h
 h1
def xCZ{P:Program}{row:String}{w:World}{R:Value->World->Prop}(h:Rows P row args w R):RowsIn (cP ro) n P row args w R:=by intro c cs _;obtain⟨v,w',h1,h2⟩:=h c cs;exact⟨v,w',h1,(StepsIn.of_steps h2).mono λ m _=>CI ro P m⟩
def mK(Q:Exit->Act->World->Prop):Exit->Act->World->Prop|.normal,a,w=>Q .normal a w|_,_,_=>False
def RG:¬ LetsOut (mK Q):=λ⟨_,_,h⟩=>h
def xzH{P:Program}{w:World}{K':Act->World->Prop}(hd:∀c,o.op≠.defer c)(hK:∀a w,K a w->K' a w)(h:o.wp P a w K (mK Q)):o.wpIn (cP ro) n P a w K' Q:=by refine⟨λ _ _=>trivial,?_⟩;rw[Oper.semAt_eq _ _ _ hd];unfold Oper.wp at h;generalize (execOp a.eval o).run P w=r at h;cases r with
 |ok x w'=>cases x with
  |enter f args=>
   exact ⟨xwN,xBm ((show Calls P f args w' _ from h).mono fun e q he=>by
    cases e with
    | returned v=>exact hK _ _ he
    | panicked ch=>exact he.elim
    | outgrown=>exact (RG he).elim)⟩
  |row r args=>exact⟨xwN,xCZ ((show Rows P r args w' _ from h).mono λ v q he=>hK _ _ he)⟩
  |value v=>exact hK _ _ h
  |skip=>exact hK _ _ h
  |defer d=>exact hK _ _ h
  |_=>exact(show False from h).elim
 |halt x w'=>cases x with|panic v=>exact(show False from h).elim|_=>exact(show False from h).elim
def aO(ops:Array Oper):Bool:=ops.toList.all λ o=>match o.op with|.defer _=>false|_=>true
def rd{ops:Array Oper}(h:aO ops):∀o,o∈ops.toList->∀c,o.op≠.defer c:=λ o ho c e=>by have:=zI.1 h o ho;simp only[e]at this;exact absurd this Ψ
def pM{P:Program}{ops:Array Oper}(ro:Option Nat)(n:Nat):∀(l:List Oper),(∀o,o∈l->∀c,o.op≠.defer c)->∀a w,wpList P ops (mK Q) l a w->wpListIn (cP ro) n P ops Q l a w|[],_,a,w,h=>h|o::l,hd,a,w,h=>by unfold wpList at h;unfold wpListIn;split at h;rename_i hw;rw[if_pos hw];rcases h with h|h;exact xzH (hd o Ψ) (pM ro n l λ o ho=>hd o (by simp[ho])) h;exact(RG h.2).elim;rename_i hw;rw[if_neg hw];exact⟨λ _ _=>trivial,pM ro n l (λ o ho=>hd o (by simp[ho])) _ _ h⟩
def La{P:Program}{md:Region.Mode}{ops:Array Oper}(ro:Option Nat)(n:Nat)(hd:∀o,o∈ops.toList->∀c,o.op≠.defer c):∀(fuel:Nat)(listed:Array Bool) a w,wpAny P md ops (mK Q) fuel listed a w->wpAnyIn (cP ro) n P md ops Q fuel listed a w|0,listed,a,w,h=>h|fuel+1,listed,a,w,h=>by refine⟨h.1,λ i hi=>?_⟩;have h2:=h.2 i hi;unfold wpOp at h2;unfold wpOpIn;cases ho:ops[i]? with|none=>simp only[ho]at h2|-;exact La ro n hd fuel _ _ _ h2|some o=>(simp only[ho]at h2|-;have hm:o∈ops.toList:=by obtain⟨q,he⟩:=Array.getElem?_eq_some_iff.1 ho;rw[<-he];simp);split at h2;rename_i hw;rw[if_pos hw];rcases h2 with h2|h2;exact xzH (hd o hm) (λ a w h=>La ro n hd fuel _ _ _ h) h2;exact(RG h2.2).elim;rename_i hw;rw[if_neg hw];exact⟨λ _ _=>trivial,La ro n hd fuel _ _ _ h2⟩
def xFX(q:bP Inv)(hI:Inv w0){id:Nat}(J:aO ops)(hp:d7 (iG P Inv) ops ops.toList s s')(hs:SR w0 A0 w A M s a)(hQ:∀a' w',pk w0 A0 s' a' w'->Q .normal a' w')(ro:Option Nat):(Code.region id ops false).wpIn (cP ro) 0 P Q a w:=wpIn_region_list (pM ro 0 _ (rd J) _ _ (xyW q hI hp hs hQ))
def fA(o:Oper):List Nat:=(o.after.toList.filter λ e=>Region.binds .any e).map (·.on)
def jK(ops:Array Oper)(i:Nat):Option Tmp:=(ops[i]?).bind (·.dst)
def fB(w:Bool):Op->Bool|.load ..=>w|.fieldAddr ..=>w|.indexAddr ..=>w|.move _=>true|.binOp ..=>true|.unOp ..=>true|.convert ..=>true|.extract ..=>true|.field ..=>true|_=>false
def lH(q:List Nat)(o:Oper):Nat:=(fA o).foldl (λ s e=>s ||| 2 ^ e ||| q.getD e 0) 0
def uo:List Oper->List Nat->List Nat|[],acc=>acc|o::l,acc=>uo l (acc++[lH acc o])
def dR(ops:Array Oper):List Nat:=uo ops.toList []
def nf(w:Bool)(ops:Array Oper)(m i:Nat):Bool:=match ops[i]? with|some o=>fB w o.op&&(((List.range ops.size).any λ j=>decide (m<=j)&&!((dR ops).getD j 0).testBit i)&&o.guard.isNone&&(List.range ops.size).all λ j=>decide (j<m) || ((match o.dst with|some d=>jK ops j !=some d|none=>true)&&(o.looksAt ops).all λ t=>jK ops j !=some t) || ((dR ops).getD j 0).testBit i)|none=>false
def fV(w:Bool)(ops:Array Oper)(m:Nat):Bool:=
 (List.range ops.size).all λ j=>
  match ops[j]? with
  |none=>true
  |some o=>
   (fA o).all (λ i=>decide (i<j)) &&
   (
    if j<m then
     (match o.dst with|some d=>(List.range m).all λ i=>i==j || jK ops i !=some d|none=>true) &&
     (o.looksAt ops).all λ t=>(List.range m).all λ i=>jK ops i !=some t || (fA o).contains i
    else (List.range j).all fun i=>((dR ops).getD j 0).testBit i || (decide (i<m)&&nf w ops m i))
variable {j m:Nat}
theorem Ku{w:Bool}(h:fV w ops m)(ho:ops[j]?=some o):(∀i,i∈fA o->i<j)/\(j<m->(∀d,o.dst=some d->∀i,i<m->jK ops i=some d->i=j)/\∀t,t∈o.looksAt ops->∀i,i<m->jK ops i=some t->i∈fA o)/\(m<=j->∀i,i<j->((dR ops).getD j 0).testBit i\/(i<m/\nf w ops m i)):=by unfold fV at *;(repeat' split at ho)<;>(try simp_all)<;>grind
variable {i:Nat}
theorem Fw{w:Bool}(h:nf w ops m i):∃o,ops[i]?=some o/\fB w o.op/\o.guard=none/\∀j,m<=j->j<ops.size->((dR ops).getD j 0).testBit i\/((∀d,o.dst=some d->jK ops j≠some d)/\∀t,t∈o.looksAt ops->jK ops j≠some t):=by unfold nf at *;(repeat' split at h)<;>(try simp_all)<;>grind
def UG{q:List Nat}:∀(l:List Nat)(z:Nat),(l.foldl (λ s e=>s ||| 2 ^ e ||| q.getD e 0) z).testBit i->z.testBit i\/∃e,e∈l/\(i=e\/(q.getD e 0).testBit i)|[],z,h=>.inl h|a::l,z,h=>by simp only[List.foldl_cons]at h;rcases UG l _ h with h|⟨e,he,h⟩;simp only[Nat.testBit_or,Bool.or_eq_true,Nat.testBit_two_pow,zl]at h;rcases h with(h|h)|h;exact .inl h;exact .inr ⟨a,by simp,.inl h.symm⟩;exact .inr ⟨a,by simp,.inr h⟩;exact .inr ⟨e,by simp[he],h⟩
def QK:∀(l:List Oper)(q:List Nat)(j:Nat),j<q.length->(uo l q).getD j 0=q.getD j 0|[],q,j,_=>rfl|o::l,q,j,hj=>by simp only[uo];rw[QK l _ j (by simp;omega)];simp[z7,zP,hj]
def xwu:∀(l:List Oper)(q:List Nat)(j:Nat)(o:Oper),l[j]?=some o->∃J,(uo l q).getD (q.length+j) 0=lH J o/\J.length=q.length+j/\∀e,e<J.length->J.getD e 0=(uo l q).getD e 0|[],q,j,o,h=>by simp at h|o'::l,q,0,o,h=>by simp only[zY,z6]at h;subst h;refine⟨q,?_,rfl,λ e he=>(QK _ q e he).symm⟩;simp only[uo];rw[QK l _ _ Ψ];simp[z7]|o'::l,q,j+1,o,h=>by obtain⟨J,h1,h2,h3⟩:=xwu l (q++[lH q o']) j o (by simpa using h);simp only[z8,zF,List.length_nil]at h1 h2;refine⟨J,?_,by omega,h3⟩;simp only[uo];rw[<-h1];congr 1;omega
def VX{L:Nat->Prop}(W:∀j o,ops[j]?=some o->L j->∀e,e∈fA o->L e):∀(j:Nat)(o:Oper),ops[j]?=some o->(∀e,e∈fA o->L e)->∀i,((dR ops).getD j 0).testBit i->L i:=by intro j;induction j using Nat.strongRecOn with|_ j ih=>
 intro o ho he i hi;obtain⟨q,h1,h2,h3⟩:=xwu ops.toList [] j o (by simpa using ho);simp only[List.length_nil,zH]at h1 h2;have h1':(dR ops).getD j 0=lH q o:=h1;rw[h1']at hi;rcases UG _ _ hi with h|⟨e,hm,h⟩;simp at h;rcases h with rfl|h;exact he i hm;by_cases O:e<j;rw[h3 e Ω]at h;have V:e<ops.size:=by(have:j<ops.size:=by rcases zJ j ops.size with h'|h';exact h';rw[Array.getElem?_eq_none h']at ho;simp at ho);omega
 have J:ops[e]?=some ops[e]:=by simp[V]
 exact ih e O _ J (W e _ J (he e hm)) i h;have:q.getD e 0=0:=by simp[z7,zz (show q.length<=e by omega)]
 rw[this]at h;simp at h
def kx(ops:Array Oper)(m mk:Nat):List Nat:=(List.range m).filterMap λ i=>match mk.testBit i with|true=>none|false=>jK ops i
def fD:List Nat->List AV->List AV|[],ts=>ts|d::ds,ts=>fD ds (ts.set d .top)
def jp:List Nat->List AV->List AV->List AV|[],_,ts=>ts|d::ds,old,ts=>jp ds old (ts.set d (old.getD d .top))
def Kc:∀(ml:List Nat)(ts:List AV),(fD ml ts).length=ts.length|[],ts=>rfl|d::ds,ts=>by simp only[fD];rw[Kc ds];simp
def FC:∀(ml:List Nat)(q ts:List AV),(jp ml q ts).length=ts.length|[],_,ts=>rfl|d::ds,q,ts=>by simp only[jp];rw[FC ds];simp
variable {t:Nat}{x:AV}
def pH{d:Nat}(h:d≠t):(ts.set d x).getD t .top=ts.getD t .top:=by simp[z7,zX h]
def pJ(h:t<ts.length):(ts.set t x).getD t .top=x:=by simp[z7,h]
def Lz(h:ts.length<=t):ts.getD t .top=.top:=by simp[z7,zz h]
def Q4:∀{ml:List Nat}{ts:List AV}{t:Nat},t∉ml->(fD ml ts).getD t .top=ts.getD t .top|[],ts,t,_=>rfl|d::ds,ts,t,h=>by simp only[zC,not_or]at h;simp only[fD];rw[Q4 h.2,pH (λ e=>h.1 e.symm)]
def Ui:∀{ml:List Nat}{ts:List AV}{t:Nat},ts.getD t .top=.top->(fD ml ts).getD t .top=.top|[],ts,t,h=>h|d::ds,ts,t,h=>by simp only[fD];refine Ui ?_;by_cases hd:d=t;subst hd;by_cases q:d<ts.length;exact pJ q;simp[z7,zz (show (ts.set d .top).length<=d by simp;omega)];rw[pH hd];exact h
def U6:∀{ml:List Nat}{ts:List AV}{t:Nat},t∈ml->(fD ml ts).getD t .top=.top|d::ds,ts,t,h=>by simp only[fD];rcases zC.1 h with rfl|h;refine Ui ?_;by_cases q:t<ts.length;exact pJ q;simp[z7,zz (show (ts.set t .top).length<=t by simp;omega)];exact U6 h
def Kr:∀{ml:List Nat}{q ts:List AV}{t:Nat},t∉ml->(jp ml q ts).getD t .top=ts.getD t .top|[],_,ts,t,_=>rfl|d::ds,q,ts,t,h=>by simp only[zC,not_or]at h;simp only[jp];rw[Kr h.2,pH (λ e=>h.1 e.symm)]
def S8:∀{ml:List Nat}{J ts:List AV}{t:Nat},t∈ml->t<ts.length->(jp ml J ts).getD t .top=J.getD t .top|d::ds,J,ts,t,h,hlt=>by simp only[jp];by_cases q:t∈ds;exact S8 q (by simpa using hlt);rcases zC.1 h with rfl|h;rw[Kr q,pJ hlt];exact absurd h q
inductive gv (P:Program) (Inv:IV) (ops:Array Oper) (m:Nat):Nat->List Oper->St->St->Prop where
 |nil (k:Nat) (s:St):gv P Inv ops m k [] s s
 |run {k:Nat} {o:Oper} {rest:List Oper} {s s1 s2:St} (ml:List Nat) (hml:ml=kx ops m ((dR ops).getD k 0)) (hw:ju ops (fD ml s.tmps) o=some true) (h:iG P Inv ⟨fD ml s.tmps,s.heap⟩ o s1)
  (hr:gv P Inv ops m (k+1) rest ⟨jp ml s.tmps s1.tmps,s1.heap⟩ s2):gv P Inv ops m k (o::rest) s s2
 |skip {k:Nat} {o:Oper} {rest:List Oper} {s s2:St} (ml:List Nat) (hml:ml=kx ops m ((dR ops).getD k 0)) (hw:ju ops (fD ml s.tmps) o=some false)
  (hr:gv P Inv ops m (k+1) rest ⟨bC s.tmps o.dst (.tuple []),s.heap⟩ s2):gv P Inv ops m k (o::rest) s s2
def dH(ρ:Operand->AV):Op->Bool|.load _ a=>(match ρ a with|.eptr ..=>true|.func ..=>true|_=>false)|.fieldAddr _ x _=>(match ρ x with|.eptr ..=>true|_=>false)|.indexAddr _ x _=>(match ρ x with|.eptr ..=>true|.list ..=>true|_=>false)|_=>true
variable {op:Op}{ρ ρ':Operand->AV}
def xDL(h:∀a,a∈op.operands.toList->ρ' a=ρ a):dH ρ' op=dH ρ op:=by cases op with|load t a=>simp only[dH,h a (by simp[Op.operands])]|fieldAddr t x f=>simp only[dH,h x (by simp[Op.operands])]|indexAddr t x ix=>simp only[dH,h x (by simp[Op.operands])]|_=>rfl
def xJc(h:fB false op):dH ρ op:=by cases op<;>first|rfl|simp[fB]at h
def KD(id:Id)(ver:Nat):dW [] id ver=none:=by unfold dW;cases id<;>simp[getB]
theorem Uu{P:Program}{r:AV×Option aC}(h:e8 P ρ [] n op=some r):dH ρ op:=by cases op with|load t a=>(simp only[e8]at h;split at h;(case h_2=>simp at h);split at h;(case h_2=>simp at h);rename_i x hx;unfold o6 at hx;simp only[dH];cases hr:ρ a with|eptr=>rfl|func f cs=>rfl|own id ver i j=>rw[hr]at hx;simp[KD]at hx|_=>rw[hr]at hx;simp at hx)|fieldAddr t x f=>(simp only[e8]at h;split at h;(case h_2=>simp at h);rename_i r hx;unfold qJ at hx;simp only[dH];cases hr:ρ x with|eptr=>rfl|own id ver i j=>rw[hr]at hx;simp only[KD]at hx;(repeat' split at hx)<;>simp at hx|_=>rw[hr]at hx;simp only[]at hx;(repeat' split at hx)<;>simp at hx)|indexAddr t x ix=>(simp only[e8]at h;split at h;(case h_2=>simp at h);rename_i r hx;unfold o4 at hx;simp only[dH];cases hr:ρ x with|eptr=>rfl|list=>rfl|own id ver i j=>rw[hr]at hx;simp only[KD]at hx;(repeat' split at hx)<;>simp_all|osl id ver i j=>rw[hr]at hx;simp only[KD]at hx;(repeat' split at hx)<;>simp_all|_=>rw[hr]at hx;(repeat' split at hx)<;>simp_all)|_=>rfl
def Sz{P:Program}{H H':List aC}{n':Nat}{nb:Option aC}{wf:Bool}(hf:fB wf op)(q:dH ρ op)(hρ:∀a,a∈op.operands.toList->ρ' a=ρ a)(h:e8 P ρ H n op=some (x,nb)):nb=none/\e8 P ρ' H' n' op=some (x,none):=by cases op with|load t a=>(have e:=hρ a (by simp[Op.operands]);simp only[e8]at h|-;rw[e];simp only[dH]at q;cases hr:ρ a with|eptr sz xs i j=>(rw[hr]at h;split at h;(case h_2=>simp at h);rename_i ti J;simp only[o6]at h|-;split at h;(case h_2=>simp at h);rename_i y hy;cases h;simp only[hy];exact⟨trivial,trivial⟩)|func f cs=>(rw[hr]at h;split at h;(case h_2=>simp at h);rename_i ti J;simp only[o6]at h|-;split at h;(case h_2=>simp at h);rename_i y hy;cases h;simp only[hy];exact⟨trivial,trivial⟩)|_=>rw[hr]at q;simp at q)|fieldAddr t x' f=>(have e:=hρ x' (by simp[Op.operands]);simp only[e8]at h|-;rw[e];simp only[dH]at q;cases hr:ρ x' with|eptr sz xs i j=>(rw[hr]at h;split at h;(case h_2=>simp at h);(rename_i y hy;have hy':qJ P H' t (.eptr sz xs i j) f=some y:=by rw[<-hy];rfl);cases h;simp only[hy'];exact⟨trivial,trivial⟩)|_=>rw[hr]at q;simp at q)|indexAddr t x' ix=>(have e:=hρ x' (by simp[Op.operands]);have e2:=hρ ix (by simp[Op.operands]);simp only[e8]at h|-;rw[e,e2];simp only[dH]at q;cases hr:ρ x' with|eptr sz xs i j=>(rw[hr]at h;split at h;(case h_2=>simp at h);(rename_i y hy;have hy':o4 P H' t (.eptr sz xs i j) (ρ ix)=some y:=by rw[<-hy];unfold o4;cases bN P t with|none=>rfl|some ti=>cases ρ ix with|int k n=>simp only[];cases ti.d<;>rfl|_=>rfl);cases h;simp only[hy'];exact⟨trivial,trivial⟩)|list sz xs=>(rw[hr]at h;split at h;(case h_2=>simp at h);(rename_i y hy;have hy':o4 P H' t (.list sz xs) (ρ ix)=some y:=by rw[<-hy];unfold o4;cases bN P t with|none=>rfl|some ti=>cases ρ ix with|int k n=>simp only[];cases ti.d<;>rfl|_=>rfl);cases h;simp only[hy'];exact⟨trivial,trivial⟩)|_=>rw[hr]at q;simp at q)|move x'=>(have e:=hρ x' (by simp[Op.operands]);simp only[e8]at h|-;rw[e];cases h;exact⟨rfl,rfl⟩)|binOp b t x' y' t'=>(have e1:=hρ x' (by simp[Op.operands]);have e2:=hρ y' (by simp[Op.operands]);simp only[e8]at h|-;rw[e1,e2];split at h;rename_i r hr;cases h;simp only[hr];exact⟨trivial,trivial⟩;simp at h)|unOp u t x'=>(have e:=hρ x' (by simp[Op.operands]);simp only[e8]at h|-;rw[e];split at h;rename_i r hr;cases h;simp only[hr];exact⟨trivial,trivial⟩;simp at h)|convert t t' x'=>(have e:=hρ x' (by simp[Op.operands]);simp only[e8]at h|-;rw[e];split at h;rename_i r hr;cases h;simp only[hr];exact⟨trivial,trivial⟩;simp at h)|extract x' i=>(have e:=hρ x' (by simp[Op.operands]);simp only[e8]at h|-;rw[e];split at h;rename_i vs O;split at h;rename_i v hv;cases h;simp only[O,hv];exact⟨trivial,trivial⟩;simp at h;simp at h)|field t x' f=>(have e:=hρ x' (by simp[Op.operands]);simp only[e8]at h|-;rw[e];split at h;rename_i r hr;cases h;simp only[hr];exact⟨trivial,trivial⟩;simp at h)|_=>simp[fB]at hf
def xDK{Step:St->Oper->St->Prop}{l:List Oper}(hp:d7 Step ops l s s'):∃st:Nat->St,st 0=s/\st l.length=s'/\∀j o,l[j]?=some o->(ju ops (st j).tmps o=some true/\Step (st j) o (st (j+1)))\/(ju ops (st j).tmps o=some false/\st (j+1)=⟨bC (st j).tmps o.dst (.tuple []),(st j).heap⟩):=by induction hp with|nil s=>exact⟨λ _=>s,rfl,rfl,λ j o h=>by simp at h⟩|@run o rest s s1 s2 hw h hr ih=>(obtain⟨st,h0,h1,h2⟩:=ih;refine⟨λ k=>match k with|0=>s|k+1=>st k,rfl,h1,λ j o' q=>?_⟩;cases j with|zero=>simp only[zY,z6]at q;subst q;left;exact⟨hw,by show Step s o (st 0);rw[h0];exact h⟩|succ j=>exact h2 j o' (by simpa using q))|@skip o rest s s2 hw hr ih=>obtain⟨st,h0,h1,h2⟩:=ih;refine⟨λ k=>match k with|0=>s|k+1=>st k,rfl,h1,λ j o' q=>?_⟩;cases j with|zero=>simp only[zY,z6]at q;subst q;right;exact⟨hw,h0⟩|succ j=>exact h2 j o' (by simpa using q)
variable {d:Option Tmp}
theorem Kd(h:d≠some t):(bC ts d x).getD t .top=ts.getD t .top:=by unfold bC;grind
def QV(h:t<ts.length):(bC ts (some t) x).getD t .top=x:=by simp[bC,z7,h]
def FI:(bC ts d x).length=ts.length:=by cases d<;>simp[bC]
variable {p:Nat->Bool}
theorem xG0{l:List Nat}{q:Nat->Bool}(h:∀x,x∈l->p x->q x){y:Nat}(hy:y∈l)(h1:p y=false)(h2:q y):l.countP p<l.countP q:=by induction l with|nil=>simp at hy|cons x l ih=>have O:l.countP p<=l.countP q:=List.countP_mono_left λ z hz=>h z (by simp[hz]);rcases zC.1 hy with rfl|J;simp only[List.countP_cons,h1,h2,if_true,zT,if_false];omega;have:=ih (λ z hz=>h z (by simp[hz])) J;simp only[List.countP_cons];have hx:=h x Ψ;cases hp:p x<;>cases hq:q x<;>simp_all<;>omega
variable {listed:Array Bool}
def xwB{wf:Bool}(J:fV wf ops m)(hsz:listed.size=ops.size)(hj:j<ops.size)(hn:listed.getD j false=false)(q:∀i,i<j->listed.getD i false):j∈Region.ready .any ops listed:=by(rw[mem_ready];have O:j<listed.size:=Ω);refine⟨by simpa[O]using hn,ops[j],by simp[hj],λ e he hb=>?_⟩;have:=(Ku J (j:=j) (o:=ops[j]) (by simp[hj])).1 e.on (zK.2 ⟨e,List.mem_filter.2 ⟨Array.mem_toList_iff.2 he,hb⟩,rfl⟩);exact q _ this
def QY:∀k,k<=n->(∀i,i<k->p i)->(∀i,i<n->p i)\/∃j,j<n/\p j=false/\∀i,i<j->p i:=by intro k hk h;induction hd:n - k generalizing k with|zero=>exact .inl λ i hi=>h i Ω|succ d ih=>cases hp:p k with|false=>exact .inr ⟨k,by omega,hp,h⟩|true=>exact ih (k+1) Ω (λ i hi=>by rcases Nat.lt_or_eq_of_le (Nat.le_of_lt_succ hi)with h'|rfl;exact h i h';exact hp) Ω
def qF(n:Nat)(listed:Array Bool):Nat:=(List.range n).countP λ i=>!listed.getD i false
def VP(hsz:listed.size=n)(hj:j<n)(hn:listed.getD j false=false):qF n (listed.setIfInBounds j true)<qF n listed:=by
 refine xG0 (λ x hx hp=>?_) (List.mem_range.2 hj) ?_ (by simp[hn]);by_cases q:j=x;subst q;have:j<listed.size:=Ω
 simp[this]at hp;simpa[Array.getElem?_setIfInBounds_ne q]using hp;have:j<listed.size:=Ω
 simp[this]
structure DB (P:Program) (ops:Array Oper) (m:Nat) (s:St) (w0:World) (A0:Cx) (listed:Array Bool) (w:World) (A:Nat->Prop) (M:Id->Option MB) (a:Act):Prop where
 base:Below w0.heap.size w0 w
 outer:∀b,b<w0.heap.size->(A b↔A0.av b)
 size:a.tmps.size=s.tmps.length
 tmps:∀t,t<s.tmps.length->(∀i,i<m->jK ops i=some t->listed.getD i false)->aD w A M (a.tmps.getD t undef) (s.tmps.getD t .top)
 heap:HR w A M w0.heap.size s.heap
 defers:eA w0 A0 w a.defers
 ev:Ev A0 w A M
 later:∀i o,i<m->ops[i]?=some o->listed.getD i false=false->∃x,e8 P s.eval [] 0 o.op=some (x,none)/\∀d,o.dst=some d->d<s.tmps.length->s.tmps.getD d .top=x
def QJ{t:Tmp}(h:Operand.tmp t∈o.op.operands.toList):t∈o.looksAt ops:=by unfold Oper.looksAt;exact zG.2 (.inl (List.mem_filterMap.2 ⟨.tmp t,h,rfl⟩))
def xwr{q:Bool}{d:Tmp}(hg:o.guard=some (j,q))(hd:(ops[j]?).bind (·.dst)=some d):d∈o.looksAt ops:=by unfold Oper.looksAt;refine zG.2 (.inr ?_);simp[hg,hd]
def xyO(h:∀t,t∈o.looksAt ops->s'.tmps.getD t .top=s.tmps.getD t .top):∀y,y∈o.op.operands.toList->s'.eval y=s.eval y:=λ y hy=>by cases y with|tmp t=>exact h t (QJ hy)|const v=>rfl|global g=>rfl|func f=>rfl
def xGa(bv:bP Inv)(hI:Inv w0){wf:Bool}(a8:fV wf ops m){s2:St}(hQ:∀a' w',pk w0 A0 s2 a' w'->Q .normal a' w'):∀(fuel k:Nat)(listed:Array Bool)(s:St)(w:World)(A:Nat->Prop)(M:Id->Option MB)(a:Act),m<=k->k<=ops.size->listed.size=ops.size->(∀i,m<=i->i<k->listed.getD i false)->(∀i,k<=i->i<ops.size->listed.getD i false=false)->(∀i,i<m->listed.getD i false=false->nf wf ops m i)->(∀j o,ops[j]?=some o->listed.getD j false->∀e,e∈fA o->listed.getD e false)->qF ops.size listed<=fuel->gv P Inv ops m k (ops.toList.drop k) s s2->DB P ops m s w0 A0 listed w A M a->wpAny P .any ops Q fuel listed a w:=by intro fuel;induction fuel with|zero=>((intro k listed s w A M a hm hk hsz h1 h2 h3 a4 hf hp hd;have J:∀i,i<ops.size->listed.getD i false:=by intro i hi;cases hl:listed.getD i false with|true=>rfl|false=>have:0<qF ops.size listed:=List.countP_pos_iff.2 ⟨i,List.mem_range.2 hi,by simp only[hl];rfl⟩;omega);(have aw:k=ops.size:=by rcases Nat.lt_or_eq_of_le hk with h|h;have:=h2 k (zd _) h;rw[J k h]at this;simp at this;exact h);subst aw;have ai:ops.toList.drop ops.size=[]:=zq Ψ;rw[ai]at hp;cases hp;refine⟨?_,hQ a w ⟨A,M,hd.base,hd.outer,hd.size,λ t ht=>hd.tmps t ht λ i hi _=>J i Ω,hd.heap,hd.defers,hd.ev⟩⟩;(rw[List.eq_nil_iff_forall_not_mem];intro i hi;obtain⟨hu,o,ho,_⟩:=mem_ready.1 hi;have hi':i<ops.size:=by rcases zJ i ops.size with h'|h';exact h';rw[Array.getElem?_eq_none h']at ho;simp at ho);(have:=J i hi';have a3:i<listed.size:=Ω);simp[a3]at hu this;rw[this]at hu;simp at hu)|succ fuel ih=>
 intro k listed s w A M a hm hk hsz h1 h2 h3 a4 hf hp hd;rcases QY (n:=ops.size) (p:=λ i=>listed.getD i false) 0 (zQ _) (λ i hi=>by omega)with J|⟨j0,bp,bz,bc⟩;have aw:k=ops.size:=by rcases Nat.lt_or_eq_of_le hk with h|h;have:=h2 k (zd _) h;have h':listed.getD k false:=J k h;rw[h']at this;simp at this;exact h
 subst aw;have ai:ops.toList.drop ops.size=[]:=zq Ψ;rw[ai]at hp;cases hp;refine⟨λ _=>hQ a w ⟨A,M,hd.base,hd.outer,hd.size,λ t ht=>hd.tmps t ht λ i hi _=>J i Ω,hd.heap,hd.defers,hd.ev⟩,λ i hi=>?_⟩;exfalso;obtain⟨hu,o,ho,_⟩:=mem_ready.1 hi;have hi':i<ops.size:=by rcases zJ i ops.size with h'|h';exact h';rw[Array.getElem?_eq_none h']at ho;simp at ho
 have:=J i hi';have a3:i<listed.size:=Ω
 simp[a3]at hu this;rw[this]at hu;simp at hu;have au:=xwB a8 hsz bp bz bc;refine⟨λ h=>by rw[h]at au;simp at au,λ j hj=>?_⟩;obtain⟨hu,o,ho,J⟩:=mem_ready.1 hj;have ao:j<ops.size:=by rcases zJ j ops.size with h'|h';exact h';rw[Array.getElem?_eq_none h']at ho;simp at ho
 have ax:j<listed.size:=Ω
 have ar:listed.getD j false=false:=by simpa[ax]using hu
 have ad:∀i,i∈fA o->listed.getD i false:=by intro i hi;obtain⟨e,he,b3⟩:=zK.1 hi;obtain⟨bo,b8⟩:=List.mem_filter.1 he;have:=J e (Array.mem_toList_iff.1 bo) b8;rwa [b3]at this
 have ay:=VX (L:=λ i=>listed.getD i false) a4 j o ho ad;obtain⟨b9,bw,a7⟩:=Ku a8 ho;have hlist':∀i,(listed.setIfInBounds j true).getD i false=true↔(i=j\/listed.getD i false):=by intro i;by_cases W:j=i;subst W;simp[ax];have:¬ i=j:=λ e=>W e.symm;simp[Array.getElem?_setIfInBounds_ne W,this]
 have O:∀i,(listed.setIfInBounds j true).getD i false=false->i≠j/\listed.getD i false=false:=by intro i hi;by_cases W:j=i;subst W;simp[ax]at hi;exact⟨λ e=>W e.symm,by simpa[Array.getElem?_setIfInBounds_ne W]using hi⟩
 have hfuel':qF ops.size (listed.setIfInBounds j true)<=fuel:=by have:=VP hsz ao ar;omega
 have hcl':∀j' o',ops[j']?=some o'->(listed.setIfInBounds j true).getD j' false->∀e,e∈fA o'->(listed.setIfInBounds j true).getD e false:=by intro j' o' ah hl e he;rcases(hlist' j').1 hl with rfl|hl;rw[ho]at ah;cases ah;exact(hlist' e).2 (.inr (ad e he));exact(hlist' e).2 (.inr (a4 j' o' ah hl e he))
 have Z:∀i,(listed.setIfInBounds j true).getD i false=false↔¬ (i=j\/listed.getD i false):=by intro i;rw[<-hlist'];cases (listed.setIfInBounds j true).getD i false<;>simp
 rcases zJ j m with aa|aa;obtain⟨o',ah,ak,b0,b7⟩:=Fw (h3 j aa ar);rw[ho]at ah;cases ah;obtain⟨bg,a0⟩:=bw aa;obtain⟨x,be,b1⟩:=hd.later j o aa ho ar;have az:∀y,y∈o.op.operands.toList->aD w A M (a.eval y) (s.eval y):=λ y hy=>by cases y with|tmp t=>by_cases q:t<s.tmps.length;exact hd.tmps t q λ i hi he=>ad i (a0 t (QJ hy) i hi he);(have:s.eval (.tmp t)=.top:=by simp[St.eval,z7,zz (Nat.le_of_not_lt q)]);rw[this];exact .top _|const v=>exact nX w A M v|global g=>exact .gptr g|func f=>exact .func f #[] [] rfl Ψ (λ _=>rfl)
 have hfx':=(Sz (ρ':=s.eval) (H':=s.heap) (n':=s.heap.length) ak (Uu be) (λ _ _=>rfl) be).2;have hn':gH M s.heap.length:=hd.heap.free_of_length (zd _);obtain⟨v,w',A',M',bh,ag,bf,hA,hM,bn,hr⟩:=T4 (o:=o) (ρc:=a.eval) hfx' az hd.heap hd.base.size hn' Ψ;have an:Mv w A M w' A' M':=⟨ag.size,fun b hb _=>ag.block b hb,fun b hb h=>(hA b hb).1 h,fun b hb h _=>(hA b hb).2 h,bf,.of_new ag fun id mm a1=>by
  by_cases bi:id=.b s.heap.length
  . subst bi;exact hM.2 mm a1
  . rw [hM.1 id bi] at a1;exact .inl a1⟩
 unfold wpOp;simp only[ho];have ap:Region.wanted o (yielded ops a.tmps):=by simp[Region.wanted,b0]
 rw[if_pos ap];left;unfold Oper.wp;rw[bh];refine ih k (listed.setIfInBounds j true) s w' A' M' (a.put o.dst v) hm hk (by simp[hsz]) (λ i g1 g2=>(hlist' i).2 (.inr (h1 i g1 g2))) (λ i g1 g2=>(Z i).2 (by rw[h2 i g1 g2];simp;omega)) (λ i g1 g2=>h3 i g1 (O i g2).2) hcl' hfuel' hp ⟨hd.base.trans (ag.mono hd.base.size),λ b hb=>(hA b (Nat.lt_of_lt_of_le hb hd.base.size)).trans (hd.outer b hb),?_,λ t q al=>?_,bn,by rw[Cu];exact hd.defers.mv hd.heap an,hd.ev.step an,λ i o' g1 g2 g3=>hd.later i o' g1 g2 (O i g3).2⟩;cases ac:o.dst with|none=>exact hd.size|some d=>simp[Act.put,hd.size]
 by_cases ab:o.dst=some t;have e1:(a.put o.dst v).tmps.getD t undef=v:=by(have:t<a.tmps.size:=by rw[hd.size];exact q);simp[Act.put,ab,this]
 rw[e1,b1 t ab q];exact hr;have e1:(a.put o.dst v).tmps.getD t undef=a.tmps.getD t undef:=by cases ac:o.dst with|none=>rfl|some d=>have hne:d≠t:=λ e=>ab (by rw[ac,e]);simp[Act.put,Array.getElem?_setIfInBounds_ne hne]
 rw[e1];refine an.rel (hd.tmps t q λ i hi he=>?_);rcases(hlist' i).1 (al i hi he)with rfl|h;exact absurd (by simpa[jK,ho]using he) ab;exact h;have bu:j=k:=by rcases Nat.lt_trichotomy j k with V|b2|b4;have:=h1 j aa V;rw[ar]at this;simp at this;exact b2;rcases a7 aa k b4 with h|⟨h,_⟩;have:listed.getD k false:=ay k h;rw[h2 k (zd _) Ω]at this;simp at this;omega
 subst bu;have a2:ops.toList.drop j=o::ops.toList.drop (j+1):=by rw[List.drop_eq_getElem_cons (by simpa using ao)];(congr 1;have:ops[j]?=some ops[j]:=by simp[ao]);rw[this]at ho;simpa using ho
 rw[a2]at hp;have hml:∀t,t∈kx ops m ((dR ops).getD j 0)->∃i,i<m/\jK ops i=some t/\nf wf ops m i/\((dR ops).getD j 0).testBit i=false:=λ t ht=>by unfold kx at ht;obtain⟨i,hi,hit⟩:=List.mem_filterMap.1 ht;have b5:=List.mem_range.1 hi;split at hit;simp at hit;rename_i hb;refine⟨i,b5,hit,?_⟩;rcases a7 aa i Ω with h|h;rw[h]at hb;simp at hb;exact⟨h.2,hb⟩
 have bq:∀t,t∉kx ops m ((dR ops).getD j 0)->∀i,i<m->jK ops i=some t->listed.getD i false:=λ t ht i hi he=>by cases hb:((dR ops).getD j 0).testBit i with|true=>exact ay i hb|false=>exact absurd (List.mem_filterMap.2 ⟨i,List.mem_range.2 hi,by rw[hb];exact he⟩) ht
 have a5:∀t,t∈kx ops m ((dR ops).getD j 0)->o.dst≠some t:=λ t ht=>by obtain⟨i,hi,he,ak,bt⟩:=hml t ht;obtain⟨oi,aq,_,_,q⟩:=Fw ak;rcases q j aa ao with hb|q;rw[bt]at hb;simp at hb;have:=q.1 t (by simpa[jK,aq]using he);simpa[jK,ho]using this
 have am:SR w0 A0 w A M ⟨fD (kx ops m ((dR ops).getD j 0)) s.tmps,s.heap⟩ a:=by refine⟨hd.base,hd.outer,by rw[Kc];exact hd.size,λ t ht=>?_,hd.heap,hd.defers,hd.ev⟩;simp only[Kc]at ht;by_cases Y:t∈kx ops m ((dR ops).getD j 0);simp only[U6 Y];exact .top _;simp only[Q4 Y];exact hd.tmps t ht (bq t Y)
 have af:∀(s':St),s'.tmps.length=s.tmps.length->(∀t,o.dst≠some t->s'.tmps.getD t .top=s.tmps.getD t .top)->∀i o',i<m->ops[i]?=some o'->(listed.setIfInBounds j true).getD i false=false->∃x,e8 P s'.eval [] 0 o'.op=some (x,none)/\∀d,o'.dst=some d->d<s'.tmps.length->s'.tmps.getD d .top=x:=by intro s' a6 aj i o' g1 g2 g3;have g4:=(O i g3).2;obtain⟨x,bj,bk⟩:=hd.later i o' g1 g2 g4;obtain⟨oi,aq,ak,_,q⟩:=Fw (h3 i g1 g4);rw[g2]at aq;cases aq;rcases q j aa ao with hb|⟨t1,t2⟩;have:=ay i hb;rw[g4]at this;simp at this;(have b6:jK ops j=o.dst:=by simp[jK,ho]);rw[b6]at t1 t2;refine⟨x,(Sz ak (Uu bj) (xyO (ops:=ops) λ t ht=>aj t (t2 t ht)) bj).2,λ d ba V=>?_⟩;rw[aj d (t1 d ba)];exact bk d ba (by rw[<-a6];exact V)
 unfold wpOp;simp only[ho];cases hp with
 |@run _ _ _ _ s1 _ ml hmle hw h hr=>
  subst hmle;have ap:=vu (w:=w) (A:=A) (M:=M) am.size (λ jg bb d _ _ V=>am.tmps d V) hw;rw[if_pos ap];left;obtain⟨x,hx⟩:=xI1 h;have a9:s1.tmps.length=s.tmps.length:=by rw[hx,FI,Kc]
  refine vH bv hI h am λ v w' A' M' ae an=>?_;refine ih (j+1) (listed.setIfInBounds j true) _ w' A' M' (a.put o.dst v) Ω Ω (by simp [hsz]) (fun i g1 g2=>(hlist' i).2 (by
   by_cases W:i=j
   . exact .inl W
   . exact .inr (h1 i g1 Ω))) (fun i g1 g2=>(Z i).2 (by rw [h2 i Ω g2];simp;omega)) (fun i g1 g2=>h3 i g1 (O i g2).2) hcl' hfuel' hr
   ⟨ae.base,ae.outer,by simp only[FC];exact ae.size,λ t q al=>?_,ae.heap,ae.defers,ae.ev,af _ (by simp only[FC];exact a9) λ t ht=>?_⟩
  simp only[FC]at q;by_cases Y:t∈kx ops m ((dR ops).getD j 0);simp only[S8 Y q];have e1:(a.put o.dst v).tmps.getD t undef=a.tmps.getD t undef:=by cases ac:o.dst with|none=>rfl|some d=>have hne:d≠t:=λ e=>a5 t Y (by rw[ac,e]);simp[Act.put,Array.getElem?_setIfInBounds_ne hne]
  rw[e1];refine an.rel (hd.tmps t Ω λ i hi he=>?_);rcases(hlist' i).1 (al i hi he)with rfl|h;omega;exact h;simp only[Kr Y];exact ae.tmps t q;by_cases Y:t∈kx ops m ((dR ops).getD j 0);by_cases V:t<s1.tmps.length;exact S8 Y V;rw[Lz (show s.tmps.length<=t by rw[<-a9];exact Nat.le_of_not_lt V)];exact Lz (by simp only[FC];exact Nat.le_of_not_lt V);simp only[Kr Y];rw[hx,Kd ht,Q4 Y]
 |skip ml hmle hw hr=>
 subst hmle;have ap:=vu (w:=w) (A:=A) (M:=M) am.size (λ jg bb d _ _ V=>am.tmps d V) hw;rw[if_neg (by rw[ap];simp)];refine ih (j+1) (listed.setIfInBounds j true) _ w A M (a.put o.dst undef) Ω Ω (by simp [hsz]) (fun i g1 g2=>(hlist' i).2 (by
  by_cases W:i=j
  . exact .inl W
  . exact .inr (h1 i g1 Ω))) (fun i g1 g2=>(Z i).2 (by rw [h2 i Ω g2];simp;omega)) (fun i g1 g2=>h3 i g1 (O i g2).2) hcl' hfuel' hr
  ⟨hd.base,hd.outer,?_,λ t q al=>?_,hd.heap,by rw[Cu];exact hd.defers,hd.ev,af _ (by simp only[FI]) λ t ht=>Kd ht⟩
 simp only[FI];cases ac:o.dst with|none=>exact hd.size|some d=>simp[Act.put,hd.size]
 simp only[FI]at q;by_cases ab:o.dst=some t;have e1:(a.put o.dst undef).tmps.getD t undef=undef:=by(have:t<a.tmps.size:=by rw[hd.size];exact q);simp[Act.put,ab,this]
 rw[e1];simp only[ab,QV q];exact aD.tuple #[] [] rfl Ψ;have e1:(a.put o.dst undef).tmps.getD t undef=a.tmps.getD t undef:=by cases ac:o.dst with|none=>rfl|some d=>have hne:d≠t:=λ e=>ab (by rw[ac,e]);simp[Act.put,Array.getElem?_setIfInBounds_ne hne]
 rw[e1];simp only[Kd ab];refine hd.tmps t q λ i hi he=>?_;rcases(hlist' i).1 (al i hi he)with rfl|h;omega;exact h
end
end Go.Sim
namespace Go.Sim
open Go.RowKit
section
variable{P:Program}{Inv:IV}{w0 w:World}{A0:Cx}{A:Nat->Prop}{M:Id->Option MB}{ops:Array Oper}
structure CY (ops:Array Oper) (m:Nat) (st:Nat->St) (w0:World) (A0:Cx) (listed:Array Bool) (w:World) (A:Nat->Prop) (M:Id->Option MB) (a:Act):Prop where
 base:Below w0.heap.size w0 w
 outer:∀b,b<w0.heap.size->(A b↔A0.av b)
 size:a.tmps.size=(st m).tmps.length
 tmps:∀t,t<(st m).tmps.length->(∀i,i<m->jK ops i=some t->listed.getD i false)->aD w A M (a.tmps.getD t undef) ((st m).tmps.getD t .top)
 heap:HR w A M w0.heap.size (st m).heap
 ev:Ev A0 w A M
 ids:∀id mm,M id=some mm->id.base<(st 0).heap.length\/∃i,i<m/\listed.getD i false/\id.base=(st i).heap.length/\(st i).heap.length<(st (i+1)).heap.length
 defers:eA w0 A0 w a.defers
variable {Q:Exit->Act->World->Prop}{a:Act}{m:Nat}
def xFW(bp:bP Inv)(hI:Inv w0){wf:Bool}(az:fV wf ops m)(ca:m<=ops.size){s s1 s2:St}(hF:d7 (j8 P Inv) ops (ops.toList.take m) s s1)(hT:gv P Inv ops m m (ops.toList.drop m) s1 s2)(b5:∀i o,i<m->ops[i]?=some o->nf wf ops m i->dH s1.eval o.op)(hs:SR w0 A0 w A M s a)(hQ:∀a' w',pk w0 A0 s2 a' w'->Q .normal a' w'):wpAny P .any ops Q ops.size (Array.replicate ops.size false) a {w with drawn:=w.drawn+1}:=by
 obtain⟨st,ac,ar,bf⟩:=xDK hF;have b9:(ops.toList.take m).length=m:=by simp;omega
 rw[b9]at ar;have hstep':∀j o,j<m->ops[j]?=some o->(ju ops (st j).tmps o=some true/\j8 P Inv (st j) o (st (j+1)))\/(ju ops (st j).tmps o=some false/\st (j+1)=⟨bC (st j).tmps o.dst (.tuple []),(st j).heap⟩):=by intro j o hj ho;refine bf j o ?_;rw[List.getElem?_take,if_pos hj];simpa using ho
 have bw:∀j,j<m->∃o,ops[j]?=some o:=λ j hj=>⟨ops[j],by simp[show j<ops.size by omega]⟩;have bh:∀j,j<m->bV (st j).heap (st (j+1)).heap:=by intro j hj;obtain⟨o,ho⟩:=bw j hj;rcases hstep' j o hj ho with⟨_,h⟩|⟨_,h⟩;exact h.sub;rw[h];exact bV.refl _
 have a6:∀k j,j+k<=m->bV (st j).heap (st (j+k)).heap:=by intro k;induction k with|zero=>intro j _;exact bV.refl _|succ k ih=>intro j hj;exact(ih j Ω).trans (bh (j+k) Ω)
 have ap:∀j,j<=m->bV (st j).heap (st m).heap:=λ j hj=>by have:=a6 (m - j) j Ω;rwa [show j+(m - j)=m by omega]at this
 have hlen_of:∀h H:List aC,bV h H->h.length<=H.length:=by intro h H hs;rcases zJ H.length h.length with ad|cg;obtain⟨f,hf,_⟩:=hs H.length h[H.length] (by simp[ad]);simp at hf;exact cg
 have aq:∀i j,i<=j->j<=m->(st i).heap.length<=(st j).heap.length:=λ i j al hj=>by have:=a6 (j - i) i Ω;rw[show i+(j - i)=j by omega]at this;exact hlen_of _ _ this
 have a3:∀j,j<m->∃o x,ops[j]?=some o/\(st (j+1)).tmps=bC (st j).tmps o.dst x:=by intro j hj;obtain⟨o,ho⟩:=bw j hj;rcases hstep' j o hj ho with⟨_,h⟩|⟨_,h⟩;rcases h with⟨x,nb,_,h⟩|⟨c,g,args,bb,r,_,_,_,_,h⟩;exact⟨o,x,ho,by rw[h]⟩;exact⟨o,r,ho,by rw[h]⟩;exact⟨o,_,ho,by rw[h]⟩
 have bi:∀k j,j+k<=m->(st (j+k)).tmps.length=(st j).tmps.length:=by intro k;induction k with|zero=>intro j _;rfl|succ k ih=>intro j hj;obtain⟨o,x,_,h⟩:=a3 (j+k) Ω;rw[<-Nat.add_assoc,h,FI,ih j Ω]
 have q:∀j,j<=m->(st m).tmps.length=(st j).tmps.length:=λ j hj=>by have:=bi (m - j) j Ω;rwa [show j+(m - j)=m by omega]at this
 have bc:∀k j t,j+k<=m->(∀i,j<=i->i<j+k->jK ops i≠some t)->(st (j+k)).tmps.getD t .top=(st j).tmps.getD t .top:=by intro k;induction k with|zero=>intro j t _ _;rfl|succ k ih=>intro j t hj ak;obtain⟨o,x,ho,h⟩:=a3 (j+k) Ω;(have hne:o.dst≠some t:=by have:=ak (j+k) Ω Ω;simpa[jK,ho]using this);rw[<-Nat.add_assoc,h,Kd hne];exact ih j t Ω λ i hi aa=>ak i hi Ω
 have J:∀j t,j<=m->(∀i,j<=i->i<m->jK ops i≠some t)->(st m).tmps.getD t .top=(st j).tmps.getD t .top:=λ j t hj ak=>by have:=bc (m - j) j t Ω (λ i hi aa=>ak i hi Ω);rwa [show j+(m - j)=m by omega]at this
 have bt:(Array.replicate ops.size false).size=ops.size:=by simp
 have ay:∀i o,i<m->ops[i]?=some o->nf wf ops m i->∃x,e8 P (st m).eval [] 0 o.op=some (x,none)/\∀d,o.dst=some d->d<(st m).tmps.length->(st m).tmps.getD d .top=x:=by intro i o ae ho au;obtain⟨o',am,a2,b8,_⟩:=Fw au;rw[ho]at am;cases am;obtain⟨be,bg,_⟩:=Ku az ho;obtain⟨Y,ab⟩:=bg ae;rcases hstep' i o ae ho with⟨_,h⟩|⟨hw,_⟩;rcases h with⟨x,nb,hf,h⟩|⟨c,g,args,bb,r,hc,_⟩;(replace hf:e8 P (st i).eval (st i).heap (st i).heap.length o.op=some (x,nb):=by rcases hf with hf|hf;exact hf;exfalso;revert a2 hf;cases o.op<;>simp[fB,fU]);(have bz:∀y,y∈o.op.operands.toList->(st m).eval y=(st i).eval y:=xyO (ops:=ops) λ t ht=>J i t Ω λ i' hi aa he=>by have:=be i' (ab t ht i' aa he);omega);(have ci:dH (st i).eval o.op:=by have:=b5 i o ae ho au;rw[<-ar]at this;rwa [xDL bz]at this);refine⟨x,(Sz a2 ci bz hf).2,λ d hd ad=>?_⟩;rw[J (i+1) d Ω (λ i' hi aa he=>by have:=Y d hd i' aa he;omega),h,hd];exact QV (by rw[<-q i Ω];exact ad);rw[hc]at a2;simp[fB]at a2;simp[ju,b8]at hw
 have a9:∀(fuel:Nat)(listed:Array Bool)(w:World)(A:Nat->Prop)(M:Id->Option MB)(a:Act),listed.size=ops.size->qF ops.size listed<=fuel->(∀i,m<=i->i<ops.size->listed.getD i false=false)->
   (∀j o,ops[j]?=some o->listed.getD j false->∀e,e∈fA o->listed.getD e false)->CY ops m st w0 A0 listed w A M a->wpAny P .any ops Q fuel listed a w:=by
  intro fuel;have go:∀(fuel:Nat)(listed:Array Bool)(w:World)(A:Nat->Prop)(M:Id->Option MB)(a:Act),listed.size=ops.size->qF ops.size listed<=fuel->(∀i,m<=i->i<ops.size->listed.getD i false=false)->
    (∀j o,ops[j]?=some o->listed.getD j false->∀e,e∈fA o->listed.getD e false)->CY ops m st w0 A0 listed w A M a->(∀i,i<m->(listed.getD i false || nf wf ops m i))->wpAny P .any ops Q fuel listed a w:=by
   intro fuel listed w A M a hsz hf O aj hd W;have au:∀i,i<m->listed.getD i false=false->nf wf ops m i:=λ i hi hl=>by have:=W i hi;rw[hl]at this;simpa using this
   refine xGa bp hI az hQ fuel m listed s1 w A M a (zd _) ca hsz (λ i h1 h2=>by omega) O au aj hf hT ?_
   rw[<-ar];exact⟨hd.base,hd.outer,hd.size,hd.tmps,hd.heap,hd.defers,hd.ev,λ i o g1 g2 g3=>ay i o g1 g2 (au i g1 g3)⟩
  induction fuel with
  | zero=>
   intro listed w A M a hsz hf O aj hd;refine go 0 listed w A M a hsz hf O aj hd λ i hi=>?_
   cases hl:listed.getD i false with
   | true=>rfl
   | false=>
    have:0<qF ops.size listed:=List.countP_pos_iff.2 ⟨i,List.mem_range.2 Ω,by simp only[hl];rfl⟩
    omega
  | succ fuel ih=>
   intro listed w A M a hsz hf O aj hd;rcases QY (n:=m) (p:=λ i=>listed.getD i false || nf wf ops m i) 0 (zQ _) (λ i hi=>by omega)with W|⟨jf,cb,a0,_⟩
   . exact go (fuel+1) listed w A M a hsz hf O aj hd W
   simp only[Bool.or_eq_false_iff]at a0;rcases QY (n:=m) (p:=λ i=>listed.getD i false) 0 (zQ _) (λ i hi=>by omega)with W|⟨j0,co,cc,bq⟩
   . have:=W jf cb;rw[a0.1]at this;simp at this
   have a7:=xwB az hsz (show j0<ops.size by omega) cc bq
   refine⟨λ h=>by rw[h]at a7;simp at a7,λ j hj=>?_⟩
   obtain⟨hu,o,ho,W⟩:=mem_ready.1 hj;have ch:j<ops.size:=by
    rcases zJ j ops.size with h'|h'
    . exact h'
    . rw[Array.getElem?_eq_none h']at ho;simp at ho
   have bk:j<listed.size:=Ω
   have b1:listed.getD j false=false:=by simpa[bk]using hu
   obtain⟨be,bg,b3⟩:=Ku az ho;have ai:∀i,i∈fA o->listed.getD i false:=by
    intro i hi;obtain⟨e,he,cf⟩:=zK.1 hi;obtain⟨b4,cj⟩:=List.mem_filter.1 he;have:=W e (Array.mem_toList_iff.1 b4) cj;rwa [cf]at this
   have ba:j<m:=by
    rcases zJ j m with h'|h'
    . exact h'
    . rcases b3 h' jf Ω with h|⟨_,h⟩
      . have:listed.getD jf false:=VX (L:=λ i=>listed.getD i false) aj j o ho ai jf h
        rw[a0.1]at this;simp at this
      . rw[a0.2]at h;simp at h
   obtain⟨Y,ab⟩:=bg ba;have ag:∀t,t∈o.looksAt ops->t<(st m).tmps.length->aD w A M (a.tmps.getD t undef) ((st j).tmps.getD t .top):=by
    intro t ht V;have h1:=hd.tmps t V λ i hi he=>ai i (ab t ht i hi he)
    rwa [J j t Ω (λ i hi aa he=>by have:=be i (ab t ht i aa he);omega)]at h1
   have a8:a.tmps.size=(st j).tmps.length:=by rw[hd.size,q j Ω]
   have hlist':∀i,(listed.setIfInBounds j true).getD i false=true↔(i=j\/listed.getD i false):=by
    intro i;by_cases al:j=i
    . subst al;simp[bk]
    . have:¬ i=j:=λ e=>al e.symm
      simp[Array.getElem?_setIfInBounds_ne al,this]
   have hfuel':qF ops.size (listed.setIfInBounds j true)<=fuel:=by
    have:=VP hsz ch b1;omega
   have hcl':∀j' o',ops[j']?=some o'->(listed.setIfInBounds j true).getD j' false->∀e,e∈fA o'->(listed.setIfInBounds j true).getD e false:=by
    intro j' o' am hl e he;rcases(hlist' j').1 hl with rfl|hl
    . rw[ho]at am;cases am;exact(hlist' e).2 (.inr (ai e he))
    . exact(hlist' e).2 (.inr (aj j' o' am hl e he))
   have hrest':∀i,m<=i->i<ops.size->(listed.setIfInBounds j true).getD i false=false:=by
    intro i h1 h2;have al:j≠i:=Ω
    have:=O i h1 h2;simpa[Array.getElem?_setIfInBounds_ne al]using this
   have bu:∀(x:AV)(v:Value)(w':World)(A':Nat->Prop)(M':Id->Option MB),(st (j+1)).tmps=bC (st j).tmps o.dst x->aD w' A' M' v x->(∀t,t<(st m).tmps.length->(∀i,i<m->jK ops i=some t->listed.getD i false)->aD w' A' M' (a.tmps.getD t undef) ((st m).tmps.getD t .top))->
     ∀t,t<(st m).tmps.length->(∀i,i<m->jK ops i=some t->(listed.setIfInBounds j true).getD i false)->aD w' A' M' ((a.put o.dst v).tmps.getD t undef) ((st m).tmps.getD t .top):=by
    intro x v w' A' M' hx hv b0 t V hw;by_cases ax:o.dst=some t
    . have e1:(a.put o.dst v).tmps.getD t undef=v:=by
       have:t<a.tmps.size:=by rw[hd.size];exact V
       simp[Act.put,ax,this]
      have e2:(st m).tmps.getD t .top=x:=by
       rw[J (j+1) t Ω (λ i hi aa he=>by have:=Y t ax i aa he;omega),hx,ax]
       exact QV (by rw[<-q j Ω];exact V)
      rw[e1,e2];exact hv
    . have e1:(a.put o.dst v).tmps.getD t undef=a.tmps.getD t undef:=by
       cases ah:o.dst with
       | none=>rfl
       | some d=>
        have hne:d≠t:=λ e=>ax (by rw[ah,e])
        simp[Act.put,Array.getElem?_setIfInBounds_ne hne]
      rw[e1];refine b0 t V λ i hi he=>?_
      rcases(hlist' i).1 (hw i hi he)with rfl|h
      . exact absurd (by simpa[jK,ho]using he) ax
      . exact h
   unfold wpOp;simp only[ho];rcases hstep' j o ba ho with⟨hw,h⟩|⟨hw,h⟩
   . have bj:=vu (w:=w) (A:=A) (M:=M) a8 (λ jg bo d hg ah ad=>ag d (xwr hg ah) (by rw[q j Ω];exact ad)) hw
     rw[if_pos bj];left;obtain⟨x,hx,cl⟩:=SQ (w:=w) (A:=A) (M:=M) (B:=w0.heap.size) (a:=a) (K:=wpAny P .any ops Q fuel (listed.setIfInBounds j true)) (Q:=Q) h (ap (j+1) Ω) hd.heap hd.base.size (bp.below _ _ hI hd.base)
      (fun y hy=>by
       cases y with
       | tmp t=>
        by_cases V:t<(st m).tmps.length
        . exact ag t (QJ hy) V
        . have:(st j).eval (.tmp t)=.top:=by
           simp only[St.eval,z7];rw[zz (by rw[<-q j Ω];exact Nat.le_of_not_lt V)];rfl
          rw[this];exact .top _
       | const v=>exact nX w A M v
       | global g=>exact .gptr g
       | func f=>exact .func f #[] [] rfl Ψ (fun _=>rfl))
      (fun cd=>by
       have a5:∀x:Id,x.base=(st j).heap.length->M x=none:=λ x hx=>by
        cases bv:M x with
        | none=>rfl
        | some mm=>
         exfalso;rcases hd.ids _ mm bv with h1|⟨i,ae,ao,he,hg⟩
         . have:=aq 0 j (zQ _) Ω;omega
         . rcases Nat.lt_trichotomy i j with ad|ce|cp
           . have:=aq (i+1) j Ω Ω;omega
           . subst ce;rw[b1]at ao;simp at ao
           . have:=aq (j+1) i Ω Ω;omega
       exact ⟨a5 (.b _) rfl,fun i' j'=>a5 (.r _ i' j') rfl⟩)
     refine cl λ v w' A' M' Z a4 hA hM ht b2 hr=>ih (listed.setIfInBounds j true) w' A' M' (a.put o.dst v) (by simp[hsz]) hfuel' hrest' hcl' ?_
     refine⟨hd.base.trans (Z.mono hd.base.size),λ b hb=>(hA b (Nat.lt_of_lt_of_le hb hd.base.size)).trans (hd.outer b hb),?_,?_,b2,hd.ev.step ⟨Z.size,λ b hb _=>Z.block b hb,λ b hb h=>(hA b hb).1 h,λ b hb h _=>(hA b hb).2 h,a4,ht⟩,λ id mm an=>?_,by rw[Cu];exact hd.defers.same λ D hD=>Z.block D (vR hD)⟩
     . cases ah:o.dst with
       | none=>exact hd.size
       | some d=>simp[Act.put,hd.size]
     . exact bu x v w' A' M' hx hr λ t V b6=>(hd.tmps t V b6).mono (λ b hb _=>Z.block b hb) Z.size (λ b hb ck=>(hA b hb).1 ck) a4
     . rcases hM id mm an with⟨m0,b7⟩|⟨he,hg⟩
       . rcases hd.ids id m0 b7 with h1|⟨i,ae,ao,he,hg⟩
         . exact .inl h1
         . exact .inr ⟨i,ae,(hlist' i).2 (.inr ao),he,hg⟩
       . exact .inr ⟨j,ba,(hlist' j).2 (.inl rfl),by rw[he];rfl,hg⟩
   . have bj:=vu (w:=w) (A:=A) (M:=M) a8 (λ jg bo d hg ah ad=>ag d (xwr hg ah) (by rw[q j Ω];exact ad)) hw
     rw[if_neg (by rw[bj];simp)]
     refine ih (listed.setIfInBounds j true) w A M (a.put o.dst undef) (by simp[hsz]) hfuel' hrest' hcl' ?_
     refine⟨hd.base,hd.outer,?_,?_,hd.heap,hd.ev,λ id mm an=>?_,by rw[Cu];exact hd.defers⟩
     . cases ah:o.dst with
       | none=>exact hd.size
       | some d=>simp[Act.put,hd.size]
     . exact bu (.tuple []) undef w A M (by rw[h]) (.tuple #[] [] rfl Ψ) hd.tmps
     . rcases hd.ids id mm an with h1|⟨i,ae,ao,he,hg⟩
       . exact .inl h1
       . exact .inr ⟨i,ae,(hlist' i).2 (.inr ao),he,hg⟩
 obtain⟨A1,a1,cm⟩:=hs.refreeze (by rw[<-ac];exact ap 0 (zQ _):bV s.heap (st m).heap);have aw:∀i,(Array.replicate ops.size false).getD i false=false:=by intro i;by_cases hi:i<ops.size<;>simp[hi]
 have bn:qF ops.size (Array.replicate ops.size false)<=ops.size:=by have:=List.countP_le_length (l:=List.range ops.size) (p:=λ i=>!(Array.replicate ops.size false).getD i false);simpa[qF]using this
 refine a9 ops.size (Array.replicate ops.size false) _ A1 M a bt bn (λ i _ _=>aw i) (λ j o _ hl=>by rw[aw j]at hl;simp at hl) ?_;have af:Below w.heap.size w {w with drawn:=w.drawn+1}:=⟨rfl,rfl,rfl,zd _,λ _ _=>rfl⟩;refine⟨hs.base.trans ⟨rfl,rfl,rfl,zd _,λ _ _=>rfl⟩,a1.outer,by rw[q 0 (zQ _),ac];exact hs.size,λ t V hw=>?_,a1.heap.grow af,a1.ev.step ⟨zd _,λ _ _ _=>rfl,λ _ _ h=>h,λ _ _ h _=>h,aR.refl M,.of_new af λ _ _ h=>.inl h⟩,λ id mm an=>?_,hs.defers⟩;have ak:∀i,i<m->jK ops i≠some t:=λ i hi he=>by have:=hw i hi he;rw[aw i]at this;simp at this
 rw[J 0 t (zQ _) (λ i _ hi=>ak i hi),ac];rw[q 0 (zQ _),ac]at V;exact(a1.tmps t V).grow af;left;rw[ac];rcases zJ id.base s.heap.length with h'|h';exact h';rw[hs.heap.none_of_base h']at an;simp at an
def xDP(J:P.follows .mixedOrders)(q:bP Inv)(hI:Inv w0){wf:Bool}{id:Nat}(V:aO ops)(W:fV wf ops m)(O:m<=ops.size){s s1 s2:St}(hF:d7 (j8 P Inv) ops (ops.toList.take m) s s1)(hT:gv P Inv ops m m (ops.toList.drop m) s1 s2)(Y:∀i o,i<m->ops[i]?=some o->nf wf ops m i->dH s1.eval o.op)(hs:SR w0 A0 w A M s a)(hQ:∀a' w',pk w0 A0 s2 a' w'->Q .normal a' w')(ro:Option Nat):(Code.region id ops true).wpIn (cP ro) 0 P Q a w:=wpIn_region_any J (La ro 0 (rd V) _ _ _ _ (xFW (Q:=mK Q) q hI W O hF hT Y hs hQ))
end
end Go.Sim
namespace Go.Sim
open Go.RowKit
def refsOf:AV->List Nat
 |.agg cs=>refsL cs
 |.func _ cs=>refsL cs
 |.tuple cs=>refsL cs
 |.own id _ _ _=>[id.base]
 |.osl id _ _ _=>[id.base]
 |_=>[]
where refsL:List AV->List Nat
 |[]=>[]
 |x::xs=>refsOf x++refsL xs
def gather(H:List aC):Nat->List Nat->List Nat->List Nat|0,_,acc=>acc|_,[],acc=>acc|n+1,id::todo,acc=>match gY acc id with|some _=>gather H n todo acc|none=>match H[id]? with|some bx=>(match bx.pm with|true=>gather H n todo (acc++[id])|false=>gather H n (todo++refsOf.refsL bx.xs) (acc++[id]))|none=>gather H n todo acc
def dV(pin:Nat)(ids:List Nat)(H:List aC)(id ver:Nat):Option (Nat×Nat):=match gY ids id with|none=>none|some j=>match Nat.blt j pin with|true=>some (j,ver)|false=>match H[id]? with|none=>none|some bx=>match Nat.beq bx.ver ver with|true=>some (j,0)|false=>none
def jk(pin:Nat)(f:Nat->Nat->Option (Nat×Nat))(H:List aC):Nat->List Nat->Option (List aC)|_,[]=>some []|j,id::ids=>match H[id]? with|some bx=>(match sQ f bx with|true=>(match jk pin f H (j+1) ids with|some bs=>some (ld f (match Nat.blt j pin with|true=>bx.ver|false=>0) bx::bs)|none=>none)|false=>none)|none=>none
def gp:Nat->Nat->List Nat->Bool|0,_,_=>true|_+1,_,[]=>false|n+1,j,id::ids=>Nat.beq id j&&gp n (j+1) ids
def xwz:∀{n j:Nat}{ids:List Nat},gp n j ids->∀k,k<n->ids[k]?=some (j+k)|0,_,_,_,k,hk=>by omega|n+1,j,[],h,_,_=>by simp[gp]at h|n+1,j,id::ids,h,k,hk=>by simp only[gp,zf]at h;cases k with|zero=>simpa using zg h.1|succ k=>have:=xwz h.2 k Ω;rw[zZ,this];congr 1;omega
variable {H:List aC}{pin:Nat}
def xy3{f:Nat->Nat->Option (Nat×Nat)}:∀{ids:List Nat}{j0:Nat}{H':List aC},jk pin f H j0 ids=some H'->H'.length=ids.length/\∀(j id:Nat),ids[j]?=some id->∃bx:aC,H[id]?=some bx/\H'[j]?=some (ld f (match Nat.blt (j0+j) pin with|true=>bx.ver|false=>0) bx)/\sQ f bx=true
 |[],j0,H',h=>by simp only[jk,z6]at h;subst h;simp
 |a::ids,j0,H',h=>by
  unfold jk at h;split at h
  case h_2=>simp at h
  rename_i bx hb;split at h
  case h_2=>simp at h
  rename_i J;split at h
  case h_2=>simp at h
  rename_i bs q;cases h;obtain⟨h1,h2⟩:=xy3 q;refine⟨by simp[h1],λ j id hj=>?_⟩
  cases j with
  |zero=>
   simp only[zY,z6]at hj;subst hj;exact⟨bx,hb,rfl,J⟩
  |succ j=>
   obtain⟨bx',e1,e2,e3⟩:=h2 j id (by simpa using hj)
   exact⟨bx',e1,by rw[show j0+(j+1)=j0+1+j by omega];simpa using e2,e3⟩
def xIm{a b:Nat}(h:Nat.blt a b):a<b:=Nat.le_of_ble_eq_true h
def my(pin j:Nat)(m:MB):MB:=match Nat.blt j pin with|true=>m|false=>{m with ver:=0}
def pn(pin:Nat)(x:Id)(m:MB):MB:=match x with|.b j=>my pin j m|.r _ _ _=>m
variable {ids:List Nat}
theorem Uj{id ver k v:Nat}(h:dV pin ids H id ver=some (k,v)):gY ids id=some k:=by grind [dV]
variable {H':List aC}{M:Id->Option MB}
def HR.norm{w:World}{A:Nat->Prop}{B:Nat}(hR:HR w A M B H)(ag:ef ids)(ad:gp pin 0 ids)(hH:jk pin (dV pin ids H) H 0 ids=some H'):∃M',HR w A M' B H'/\kU (dV pin ids H) M M'/\(∀id m,id.base<pin->M id=some m->M' id=some m)/\∀k m',M' k=some m'->∃id m,M id=some m/\m'.b=m.b/\m'.cap=m.cap:=by
 obtain⟨hl,ai⟩:=xy3 hH;let M':Id->Option MB:=λ x=>(ids[x.base]?).bind λ n=>(M (x.re n)).map (pn pin x);have V:∀(x:Id) m',M' x=some m'->∃n m,ids[x.base]?=some n/\M (x.re n)=some m/\m'=pn pin x m:=λ x m' h=>by simp only[M']at h;cases hj:ids[x.base]? with|none=>rw[hj]at h;simp at h|some id=>rw[hj]at h;simp only[Option.bind_some,Option.map_eq_some_iff]at h;obtain⟨m,h1,h2⟩:=h;exact⟨id,m,rfl,h1,h2.symm⟩
 have J:∀(x:Id) n m,ids[x.base]?=some n->M (x.re n)=some m->M' x=some (pn pin x m):=λ x n m hj hm=>by simp[M',hj,hm]
 have O:∀(x:Id) m,(pn pin x m).b=m.b/\(pn pin x m).sz=m.sz/\(pn pin x m).cap=m.cap/\(pn pin x m).ty=m.ty:=λ x m=>by cases x with|b j=>unfold pn my;simp only;split<;>exact⟨rfl,rfl,rfl,rfl⟩|r f i j=>exact⟨rfl,rfl,rfl,rfl⟩
 have W:kU (dV pin ids H) M M':=λ id ver k v m hf hm hv=>by cases id with|r g i' j'=>(simp only[gW]at hf;split at hf;(case h_2=>simp at hf);rename_i j u hj;simp only[z6,zb]at hf;obtain⟨rfl,rfl⟩:=hf;exact⟨m,J (.r j i' j') g m (vp (Uj hj)) hm,hv,rfl,rfl,rfl,rfl,λ e=>e⟩)|b id=>simp only[gW]at hf;split at hf;(case h_2=>simp at hf);rename_i j u q;simp only[z6,zb]at hf;obtain⟨rfl,rfl⟩:=hf;have aa:=vp (Uj q);unfold dV at q;split at q;simp at q;rename_i j' ak;split at q;(rename_i hb;simp only[z6,zb]at q;obtain⟨rfl,rfl⟩:=q;have:pn pin (.b j') m=m:=by simp[pn,my,hb]);exact⟨m,by rw[J (.b j') id m aa hm,this],hv,rfl,rfl,rfl,rfl,λ e=>e⟩;rename_i hb;split at q;simp at q;rename_i bx ah;split at q;(case h_2=>simp at q);rename_i Z;simp only[z6,zb]at q;obtain⟨rfl,rfl⟩:=q;obtain⟨bx',g1,g2⟩:=hR.box (.b id) m hm;rw[iQ,ah]at g1;cases g1;obtain⟨a1,a2,a3,a4⟩:=O (.b j') m;exact⟨_,J (.b j') id m aa hm,zQ _,a1,a2,a3,a4,λ _=>by rw[<-zg Z,g2.ver]⟩
 refine⟨M',⟨λ x m' Y=>?_,λ x x' m1 m2 h1 h2 c1 c2 he=>?_,hR.lt⟩,W,λ id m ae hm=>?_,λ k m' Y=>?_⟩;obtain⟨n,m,hj,hm,rfl⟩:=V x m' Y;obtain⟨bx,g1,g2,g3⟩:=ai x.base n hj;obtain⟨bx',g4,g5⟩:=hR.box (x.re n) m hm;obtain⟨a1,a2,a3,a4⟩:=O x m;cases x with|b j=>have g4':H[n]?=some bx':=g4;rw[g1]at g4';cases g4';refine⟨_,g2,g5.ren g3 W (λ i' j' m0 h0=>J (.r j i' j') n m0 hj h0) a1 ?_ a2 a3 a4⟩;simp only[Id.base];rw[zH];unfold pn my;simp only;split;exact g5.ver.symm;rfl|r k i' j'=>(have hp:=Km g4;have g6:getB H' (.r k i' j')=some bx':=RP (f:=dV pin ids H) g4 λ aj ab=>by rw[g1]at ab;cases ab;exact⟨_,g2⟩);have g7:=g5.ren (f:=dV pin ids H) (M':=M') (id':=.r k i' j') (m':=m) (ver:=m.ver) (RV hp) W (λ i1 j1 m0 h0=>J (.r k i1 j1) n m0 hj h0) rfl rfl rfl rfl rfl;rw[<-g5.ver,Sn hp]at g7;exact⟨bx',g6,g7⟩
 obtain⟨n1,af,e1,e2,rfl⟩:=V x m1 h1;obtain⟨n2,ac,e3,e4,rfl⟩:=V x' m2 h2;obtain⟨a1,_,a3,_⟩:=O x af;obtain⟨b1,_,b3,_⟩:=O x' ac;rw[a3]at c1;rw[b3]at c2;have:=hR.inj _ _ af ac e2 e4 c1 c2 (by rw[<-a1,<-b1,he]);obtain⟨rfl,hx⟩:=Id.re_inj this;have p1:=vD ag e1;have p2:=vD ag e3;rw[p1]at p2;exact hx (by simpa using p2);have:=xwz ad id.base ae;rw[zH]at this;rw[J id id.base m this (by rw[Id.re_self];exact hm)];have hb:Nat.blt id.base pin:=Nat.ble_eq_true_of_le ae;cases id with|b n=>simp only[Id.base]at hb;simp[pn,my,hb]|r f i j=>rfl
 obtain⟨n,m,hj,hm,rfl⟩:=V k m' Y;obtain⟨a1,_,a3,_⟩:=O k m;exact⟨_,m,hm,a1,a3⟩
def Ev.norm{C:Cx}{w:World}{A:Nat->Prop}{M':Id->Option MB}(h:Ev C w A M)(hp:C.pin<=pin)(h1:∀id m,id.base<pin->M id=some m->M' id=some m)(h2:∀k m',M' k=some m'->∃id m,M id=some m/\m'.b=m.b/\m'.cap=m.cap):Ev C w A M':=by refine⟨h.size,h.keep,h.less,h.more,λ id m J hm=>?_,λ id m' q h0=>?_⟩;obtain⟨m',g1,g2⟩:=h.ids id m J hm;exact⟨m',h1 id m' Ω g1,g2⟩;obtain⟨i,m,g1,g2,g3⟩:=h2 id m' q;rw[g3]at h0;rw[g2];exact h.src i m g1 h0
def aX(n:Nat):List (Nat×AV)->List AV|[]=>List.replicate n .top|(t,v)::l=>(aX n l).set t v
def liveOf(live:List Nat)(ts:List AV):List AV:=live.map λ t=>ts.getD t .top
def Ch(n:Nat):∀l:List (Nat×AV),(aX n l).length=n|[]=>by simp[aX]|(t,v)::l=>by simp[aX,Ch n l]
def SG(n:Nat)(ts:List AV)(hn:ts.length=n)(t:Nat):∀live:List Nat,(aX n (live.zip (liveOf live ts))).getD t .top=ts.getD t .top\/(aX n (live.zip (liveOf live ts))).getD t .top=.top|[]=>by right;simp only[List.zip_nil_left,aX,z7,List.getElem?_replicate];split<;>rfl|a::live=>by simp only[liveOf,zV,List.zip_cons_cons,aX];have ih:=SG n ts hn t live;simp only[liveOf]at ih;by_cases ha:a=t;subst ha;by_cases q:a<n;left;exact pJ (by rw[Ch];exact q);right;exact Lz (by rw[y4,Ch];omega);rw[pH ha];exact ih
def shrH(sz id len:Nat)(H:List aC):List aC:=match sz with|0=>(match H[id]? with|some bx=>(match bW bx.ty with|false=>H.set id ⟨bx.ver,bx.sz,bx.ty,bx.xs.take len,bx.frz,bx.pm⟩|true=>H)|none=>H)|_+1=>H
def ku:List AV->Option Nat|[]=>none|c::cs=>match c with|.nils=>some 0|_=>match ku cs with|some j=>some (j+1)|none=>none
def xww:∀{cs:List AV}{j:Nat},ku cs=some j->cs.getD j .top=.nils|[],j,h=>by simp[ku]at h|c::cs,j,h=>by unfold ku at h;split at h;cases h;rfl;split at h;rename_i k hk;cases h;have:=xww hk;simpa using this;simp at h
def convH(sz:Nat)(ty:TypeId)(id:Nat)(H:List aC):List aC:=match H[id]? with|some bx=>(match bW bx.ty with|false=>(match bx.xs with|[c]=>(match c with|.nils=>(match sz with|0=>H|n+1=>match Nat.beq bx.sz 1 with|true=>H.set id ⟨bx.ver,1,bx.ty,[.osl (.b H.length) 0 0 0],bx.frz,false⟩++[⟨0,n+1,ty,[],false,true⟩]|false=>H)|.osl (.b id2) _ _ len=>shrH sz id2 len H|.agg cs=>(match sz with|0=>H|n+1=>match ku cs with|some j=>H.set id ⟨bx.ver,bx.sz,bx.ty,[.agg (cs.set j (.osl (.b H.length) 0 0 0))],bx.frz,false⟩++[⟨0,n+1,ty,[],false,true⟩]|none=>H)|_=>H)|_=>H)|true=>H)|none=>H
section
variable{w:World}{A:Nat->Prop}{M:Id->Option MB}{B:Nat}{H:List aC}
def Mv.refl:Mv w A M w A M:=⟨zd _,λ _ _ _=>rfl,λ _ _ h=>h,λ _ _ h _=>h,aR.refl M,⟨λ _ _ _=>rfl,λ id m h h0=>.inl ⟨id,m,h,h0,rfl⟩⟩⟩
def HR.shrH(hR:HR w A M B H)(sz id len:Nat):HR w A M B (Sim.shrH sz id len H):=by unfold Sim.shrH;split;split;rename_i bx hb;split;rename_i q;refine hR.rebuild (λ k=>k=id) (λ k hk _=>zX (λ e=>hk e.symm)) (λ _ _=>rfl) (λ _ _ _ _ _=>⟨rfl,λ h=>h⟩) (λ _ _ _=>rfl) (zd _) (λ _ _ h=>h) (aR.refl M) (λ x m hx hm=>?_) (λ x m1 x' m2 _ h1 h2 c1 c2 he=>hR.inj x x' m1 m2 h1 h2 c1 c2 he) hR.lt;obtain⟨bx',k1,k2⟩:=hR.box x m hm;by_cases J:x=.b id;subst J;rw[iQ,hb]at k1;cases k1;refine⟨⟨bx.ver,bx.sz,bx.ty,bx.xs.take len,bx.frz,bx.pm⟩,by rw[iQ];exact zL (j6 hb),k2.ver,k2.sz,k2.ty,k2.capm,?_,λ y hy=>k2.ok y (List.mem_of_mem_take hy),k2.low,k2.lt,λ h0=>?_,k2.guard⟩;have:=k2.fits;simp only[zt];omega;obtain⟨c,c1,c2,c3⟩:=k2.cells h0;have O:dD m.ty=false:=k2.nomap (kG q);refine⟨c,.of O (c1.plain O),c2,λ i j hi hj=>?_⟩;simp only[zt]at hi;have:=c3 i j Ω hj;(have e:(bx.xs.take len).getD i .top=bx.xs.getD i .top:=by simp[z7,show i<len by omega]);show aD w A (MV M _ j) _ (fy _ i j bx.ty (((bx.xs.take len).getD i .top).cells.getD j .top));rw[e];exact this;refine⟨bx',?_,k2⟩;rw[rM (bx:=bx) (bx':=⟨bx.ver,bx.sz,bx.ty,bx.xs.take len,bx.frz,bx.pm⟩) hb q q J];exact k1;exact hR;exact hR;exact hR
variable {n:Nat}
def HR.cellnil(hR:HR w A M B H){id:Nat}{bx:aC}(ty:TypeId)(hb:H[id]?=some bx)(q:bW bx.ty=false)(hx:bx.xs=[.nils])(hs:bx.sz=1):∃M',HR w A M' B (H.set id ⟨bx.ver,1,bx.ty,[.osl (.b H.length) 0 0 0],bx.frz,false⟩++[⟨0,n+1,ty,[],false,true⟩])/\Mv w A M w A M':=by
 obtain⟨g1,g2,g3⟩:=hR.virt (n+1) ty true;have O:=j6 hb;have J:(H++[⟨0,n+1,ty,[],false,true⟩])[id]?=some bx:=by rw[zO O];exact hb
 have V:H.set id ⟨bx.ver,1,bx.ty,[.osl (.b H.length) 0 0 0],bx.frz,false⟩++[(⟨0,n+1,ty,[],false,true⟩:aC)]=(H++[(⟨0,n+1,ty,[],false,true⟩:aC)]:List aC).set id (⟨bx.ver,1,bx.ty,[.osl (.b H.length) 0 0 0],bx.frz,false⟩:aC):=by rw[List.set_append,if_pos O]
 rw[V];refine⟨_,g1.rebuild (λ k=>k=id) (λ k hk _=>zX (λ e=>hk e.symm)) (λ _ _=>rfl) (λ _ _ _ _ _=>⟨rfl,λ h=>h⟩) (λ _ _ _=>rfl) (zd _) (λ _ _ h=>h) (aR.refl _) (λ x m ab hm=>?_) (λ x m1 x' m2 _ h1 h2 c1 c2 he=>g1.inj x x' m1 m2 h1 h2 c1 c2 he) g1.lt,g2⟩;obtain⟨bx',k1,k2⟩:=g1.box x m hm;by_cases W:x=.b id;subst W;rw[iQ,J]at k1;cases k1;have hsz:m.sz=1:=by rw[<-k2.sz];exact hs
 refine⟨⟨bx.ver,1,bx.ty,[.osl (.b H.length) 0 0 0],bx.frz,false⟩,by rw[iQ];exact zL (j6 J),k2.ver,hsz.symm,k2.ty,k2.capm,?_,λ y hy=>?_,k2.low,k2.lt,λ h0=>?_,k2.guard⟩;have:=k2.fits;rw[hx]at this;exact this;simp only[zv]at hy;subst hy;rw[hsz];rfl;obtain⟨c,c1,c2,c3⟩:=k2.cells h0;have Y:dD m.ty=false:=k2.nomap (kG q);refine⟨c,.of Y (c1.plain Y),c2,λ i j hi hj=>?_⟩;have aa:i=0:=by simpa using hi
 have Z:j=0:=Ω
 subst aa Z;have:=c3 0 0 (by rw[hx];simp) hj;rw[jL q,jY q,hx]at this;rw[jL q,jY (bx:=⟨bx.ver,1,bx.ty,[.osl (.b H.length) 0 0 0],bx.frz,false⟩) q];have h2:aD w A (bK M H.length ⟨0,0,n+1,0,gA ty⟩) (c.getD (0*m.sz+0) undef) .nils:=this.unmp;generalize c.getD (0*m.sz+0) undef=v at h2;cases h2;exact g3 none;refine⟨bx',?_,k2⟩;rw[rM (bx:=bx) (bx':=⟨bx.ver,1,bx.ty,[.osl (.b H.length) 0 0 0],bx.frz,false⟩) J q q W];exact k1
def HR.cellnilJ(hR:HR w A M B H){id j0:Nat}{bx:aC}{cs:List AV}(ty:TypeId)(hb:H[id]?=some bx)(q:bW bx.ty=false)(hx:bx.xs=[.agg cs])(V:cs.getD j0 .top=.nils):∃M',HR w A M' B (H.set id ⟨bx.ver,bx.sz,bx.ty,[.agg (cs.set j0 (.osl (.b H.length) 0 0 0))],bx.frz,false⟩++[⟨0,n+1,ty,[],false,true⟩])/\Mv w A M w A M':=by
 obtain⟨g1,g2,g3⟩:=hR.virt (n+1) ty true;have W:=j6 hb;have ac:j0<cs.length:=by by_cases h:j0<cs.length;exact h;rw[Lz (Nat.le_of_not_lt h)]at V;cases V
 have J:(H++[⟨0,n+1,ty,[],false,true⟩])[id]?=some bx:=by rw[zO W];exact hb
 have Z:H.set id ⟨bx.ver,bx.sz,bx.ty,[.agg (cs.set j0 (.osl (.b H.length) 0 0 0))],bx.frz,false⟩++[(⟨0,n+1,ty,[],false,true⟩:aC)]=(H++[(⟨0,n+1,ty,[],false,true⟩:aC)]:List aC).set id (⟨bx.ver,bx.sz,bx.ty,[.agg (cs.set j0 (.osl (.b H.length) 0 0 0))],bx.frz,false⟩:aC):=by rw[List.set_append,if_pos W]
 rw[Z];refine⟨_,g1.rebuild (λ k=>k=id) (λ k hk _=>zX (λ e=>hk e.symm)) (λ _ _=>rfl) (λ _ _ _ _ _=>⟨rfl,λ h=>h⟩) (λ _ _ _=>rfl) (zd _) (λ _ _ h=>h) (aR.refl _) (λ x m ae hm=>?_) (λ x m1 x' m2 _ h1 h2 c1 c2 he=>g1.inj x x' m1 m2 h1 h2 c1 c2 he) g1.lt,g2⟩;obtain⟨bx',k1,k2⟩:=g1.box x m hm;by_cases aa:x=.b id;subst aa;rw[iQ,J]at k1;cases k1;have O:(AV.agg cs).okElem m.sz:=k2.ok _ (by rw[hx];simp);refine⟨⟨bx.ver,bx.sz,bx.ty,[.agg (cs.set j0 (.osl (.b H.length) 0 0 0))],bx.frz,false⟩,by rw[iQ];exact zL (j6 J),k2.ver,k2.sz,k2.ty,k2.capm,?_,λ y hy=>?_,k2.low,k2.lt,λ h0=>?_,k2.guard⟩;have:=k2.fits;rw[hx]at this;exact this;simp only[zv]at hy;subst hy;simp only[AV.okElem,AV.cells,zf,beq_iff_eq,zI,y4]at O|-;refine⟨O.1,λ z hz=>?_⟩;rcases List.mem_or_eq_of_mem_set hz with h|h;exact O.2 z h;subst h;rfl;obtain⟨c,c1,c2,c3⟩:=k2.cells h0;have ab:dD m.ty=false:=k2.nomap (kG q);refine⟨c,.of ab (c1.plain ab),c2,λ i j hi hj=>?_⟩;have ad:i=0:=by simpa using hi
 subst ad;have:=c3 0 j (by rw[hx];simp) hj;rw[jL q,jY q,hx]at this;rw[jL q,jY (bx:=⟨bx.ver,bx.sz,bx.ty,[.agg (cs.set j0 (.osl (.b H.length) 0 0 0))],bx.frz,false⟩) q];have h2:aD w A (bK M H.length ⟨0,0,n+1,0,gA ty⟩) (c.getD (0*m.sz+j) undef) (cs.getD j .top):=this.unmp;show aD w A (bK M H.length ⟨0,0,n+1,0,gA ty⟩) (c.getD (0*m.sz+j) undef) ((cs.set j0 (.osl (.b H.length) 0 0 0)).getD j .top);by_cases Y:j0=j;subst Y;rw[pJ ac];rw[V]at h2;generalize c.getD (0*m.sz+j0) undef=v at h2;cases h2;exact g3 none;rw[pH Y];exact h2;refine⟨bx',?_,k2⟩;rw[rM (bx:=bx) (bx':=⟨bx.ver,bx.sz,bx.ty,[.agg (cs.set j0 (.osl (.b H.length) 0 0 0))],bx.frz,false⟩) J q q aa];exact k1
def HR.convH(hR:HR w A M B H)(sz:Nat)(ty:TypeId)(id:Nat):∃M',HR w A M' B (Sim.convH sz ty id H)/\Mv w A M w A M':=by unfold Sim.convH;split;rename_i bx hb;split;rename_i q;split;rename_i c hx;split;split;exact⟨M,hR,Mv.refl⟩;split;rename_i hs;exact hR.cellnil ty hb q hx (zg hs);exact⟨M,hR,Mv.refl⟩;exact⟨M,hR.shrH _ _ _,Mv.refl⟩;rename_i cs;split;exact⟨M,hR,Mv.refl⟩;split;rename_i j hj;exact hR.cellnilJ ty hb q hx (xww hj);exact⟨M,hR,Mv.refl⟩;exact⟨M,hR,Mv.refl⟩;exact⟨M,hR,Mv.refl⟩;exact⟨M,hR,Mv.refl⟩;exact⟨M,hR,Mv.refl⟩
end
def ow(H:List aC)(id ver i j:Nat):Option AV:=match H[id]? with|some bx=>(match bW bx.ty,bx.xs with|false,[c]=>(match Nat.beq bx.sz 1&&Nat.beq bx.ver ver&&Nat.beq i 0&&Nat.beq j 0 with|true=>some (c.cells.getD 0 .top)|false=>none)|_,_=>none)|none=>none
def qs(H:List aC)(id:Nat):Option Nat:=match H[id]? with|some bx=>(match dD bx.ty with|true=>some id|false=>match bx.xs with|[.own (.b k) _ _ _]=>(match H[k]? with|some b2=>(match dD b2.ty with|true=>some k|false=>none)|none=>none)|_=>none)|none=>none
def convs:List (Nat×Nat×TypeId)->List AV->List aC->List AV×List aC|[],ts,H=>(ts,H)|(t,sz,ty)::cs,ts,H=>match Nat.beq ty 1073741824 with|true=>(match ts.getD t .top with|.own (.b id) ver i j=>(match Nat.beq sz 0 with|true=>(match ow H id ver i j with|some x=>convs cs (ts.set t (.func vpF [x])) (freeze H [id])|none=>convs cs ts H)|false=>match qs H id with|some k=>convs cs ts (freeze H [k])|none=>convs cs ts H)|.func _ cp=>(match Nat.beq sz 0 with|true=>convs cs ts H|false=>convs cs ts (freeze H ((refsOf.refsL cp).filterMap (qs H))))|.nils=>convs cs (ts.set t (.list sz [])) H|.osl (.b id) ver off len=>(match resolve H eI (.osl (.b id) ver off len)with|some y=>convs cs (ts.set t y) (freeze H (aQ H eI (.osl (.b id) ver off len)))|none=>convs cs ts H)|_=>convs cs ts H)|false=>match ts.getD t .top with|.nils=>convs cs (ts.set t (.osl H.length 0 0 0)) (H++[⟨0,sz,ty,[],false,true⟩])|.own (.b id) _ _ _=>convs cs ts (convH sz ty id H)|.osl (.b id) _ _ len=>convs cs ts (shrH sz id len H)|_=>convs cs ts H
def gw(pin:Nat)(conv:List (Nat×Nat×TypeId))(live:List Nat)(s:St):Option (List AV×List aC):=
 let c:=convs conv s.tmps s.heap
 let ids:=gather c.2 1000 (List.range pin++refsOf.refsL (liveOf live c.1)) [];match ef ids&&gp pin 0 ids with
 |true=>match jk pin (dV pin ids c.2) c.2 0 ids with
  |some H'=>some (rens (dV pin ids c.2) (liveOf live c.1),H')
  |none=>none
 |false=>none
def xwo(f:Nat->Nat->Option (Nat×Nat))(ts:List AV):∀live:List Nat,rens f (liveOf live ts)=liveOf live (rens f ts)|[]=>rfl|t::live=>by have:=xwo f ts live;simp only[liveOf]at this;simp only[liveOf,zV,rens,tG,this]
variable {A0:Cx}{a:Act}{t:Nat}{ts:List AV}{w0:World}
def SR.conv1{w:World}{A:Nat->Prop}(h:SR w0 A0 w A M ⟨ts,H⟩ a){sz:Nat}{ty:TypeId}(ht:ts.getD t .top=.nils):∃M',SR w0 A0 w A M' ⟨ts.set t (.osl H.length 0 0 0),H++[⟨0,sz,ty,[],false,true⟩]⟩ a:=by obtain⟨g1,g2,g3⟩:=h.heap.virt sz ty true;refine⟨_,h.base,h.outer,by simp[h.size],λ t' q=>?_,g1,h.defers,h.ev.step g2⟩;simp only[y4]at q;have h1:=g2.rel (h.tmps t' q);by_cases hd:t=t';subst hd;simp only[pJ q];rw[ht]at h1;generalize a.tmps.getD t undef=v at h1;cases h1;exact g3 none;simp only[pH hd];exact h1
def SR.vptr{w:World}{A:Nat->Prop}(hs:SR w0 A0 w A M ⟨ts,H⟩ a){id ver i j:Nat}{x:AV}(ht:ts.getD t .top=.own (.b id) ver i j)(hv:ow H id ver i j=some x):∃A1,SR w0 A0 w A1 M ⟨ts.set t (.func vpF [x]),freeze H [id]⟩ a:=by
 have Z:bV H (freeze H [id]):=bV.freeze _ _;obtain⟨A1,J,V⟩:=hs.refreeze Z;have ab:∀m,M (.b id)=some m->0<m.cap->¬ A1 m.b:=λ m hm h0 hA=>by(obtain⟨bx,af,ad⟩:=J.heap.box (.b id) m hm;obtain⟨W,g1,_⟩:=hs.heap.box (.b id) m hm;have h1:getB (freeze H [id]) (.b id)=some {W with frz:=true}:=by have g1':getB H (.b id)=some W:=g1;rw[Rf,g1'];simp[iw,Id.base]);have h2':getB (freeze H [id]) (.b id)=some bx:=af;rw[h1]at h2';simp only[z6]at h2';have:=(ad.guard h0).2 hA;rw[<-h2']at this;simp at this
 unfold ow at hv;split at hv;case h_2=>simp at hv
 rename_i bx ac;split at hv;case h_2=>simp at hv
 rename_i c hC Y;split at hv;case h_2=>simp at hv
 rename_i aa;simp only[z6]at hv;simp only[zf]at aa;obtain⟨⟨⟨k1,k2⟩,k3⟩,k4⟩:=aa;have k1:=zg k1;have k2:=zg k2;have k3:=zg k3;have k4:=zg k4;subst k3 k4;refine⟨A1,J.base,J.outer,by simp[J.size],λ t' O=>?_,J.heap,J.defers,J.ev⟩;simp only[y4]at O;by_cases hd:t=t';subst hd;simp only[pJ O];have h1:=hs.tmps t O;simp only at h1;rw[ht]at h1;have ae:dW H (.b id) ver=some bx:=by unfold dW;simp only[getB,ac];exact if_pos ⟨k2,kG hC⟩
 obtain⟨m,hm,q,e⟩:=tW hs.heap h1 ae;have hsz:m.sz=1:=by rw[<-q.sz];exact k1
 have ag:bx.xs.length=1:=by rw[Y];rfl
 have hcap:0<m.cap:=by have:=q.fits;omega
 obtain⟨v0,c1,c2⟩:=q.cell (q.nomap (kG hC)) (i:=0) (j:=0) (by omega) (by omega);rw[jL hC,Y]at c2;rw[e];simp only[Nat.zero_mul,Nat.add_zero]at c1|-;refine .vptr m.b 0 v0 x (ab m hm hcap) (q.lt hcap) c1 ?_;rw[<-hv];exact V.rel c2;simp only[pH hd];exact J.tmps t' O
def SR.convs{w:World}:∀(cs:List (Nat×Nat×TypeId)){A:Nat->Prop}{M:Id->Option MB}{ts:List AV}{H:List aC},SR w0 A0 w A M ⟨ts,H⟩ a->∃A' M',SR w0 A0 w A' M' ⟨(Sim.convs cs ts H).1,(Sim.convs cs ts H).2⟩ a
 |[],A,M,_,_,h=>⟨A,M,h⟩
 |(t,sz,ty)::cs,A,M,ts,H,h=>by
  unfold Sim.convs;split
  . split
    . rename_i id ver i j ht;split
      . split
        . rename_i x hx;obtain⟨A1,h1⟩:=h.vptr ht hx;exact SR.convs cs h1
        . exact SR.convs cs h
      . split
        . rename_i k hk;obtain⟨A1,h1,_⟩:=h.settle (s1:=⟨ts,freeze H [k]⟩) ⟨[k],rfl,rfl,λ t'=>.inl rfl⟩
          exact SR.convs cs h1
        . exact SR.convs cs h
    . split
      . exact SR.convs cs h
      . rename_i cp _ _ _;obtain⟨A1,h1,_⟩:=h.settle (s1:=⟨ts,freeze H ((refsOf.refsL cp).filterMap (qs H))⟩) ⟨_,rfl,rfl,λ t'=>.inl rfl⟩
        exact SR.convs cs h1
    . rename_i ht;refine SR.convs cs (A:=A) (M:=M) ⟨h.base,h.outer,by simp[h.size],λ t' q=>?_,h.heap,h.defers,h.ev⟩
      simp only[y4]at q;have h1:=h.tmps t' q;by_cases hd:t=t'
      . subst hd;simp only[pJ q];rw[ht]at h1;generalize a.tmps.getD t undef=v at h1;cases h1;exact .list0 _ _ _
      . simp only[pH hd];exact h1
    . rename_i id ver off len ht;split
      . rename_i y hy;obtain ⟨A1,h1,_⟩:=h.settle (s1:=⟨ts.set t y,freeze H (aQ H eI (.osl (.b id) ver off len))⟩) ⟨_,rfl,by simp,fun t'=>by
         by_cases hd:t=t'
         . subst hd;by_cases J:t<ts.length
           . right;simp only[pJ J];rw[ht];exact⟨hy,λ _ h=>h⟩
           . left;simp only[List.set_eq_of_length_le (Nat.le_of_not_lt J)]
         . left;simp only [pH hd]⟩
        exact SR.convs cs h1
      . exact SR.convs cs h
    . exact SR.convs cs h
  . split
    . rename_i ht;obtain⟨M',h'⟩:=h.conv1 (sz:=sz) (ty:=ty) ht;exact SR.convs cs h'
    . obtain⟨M',h1,h2⟩:=h.heap.convH sz ty (id:=_);exact SR.convs cs ⟨h.base,h.outer,h.size,λ t' q=>h2.rel (h.tmps t' q),h1,h.defers,h.ev.step h2⟩
    . exact SR.convs cs ⟨h.base,h.outer,h.size,h.tmps,h.heap.shrH sz _ _,h.defers,h.ev⟩
    . exact SR.convs cs h
def dC(p:Nat)(s s':St):Prop:=∀(w0:World)(A0:Cx)(w:World)(A:Nat->Prop)(M:Id->Option MB)(a:Act),A0.pin<=p->SR w0 A0 w A M s a->∃A' M',SR w0 A0 w A' M' s' a
def dC.refl(p:Nat)(s:St):dC p s s:=λ _ _ _ A M _ _ h=>⟨A,M,h⟩
def vn{conv:List (Nat×Nat×TypeId)}{live:List Nat}{s:St}{vals:List AV}(h:gw pin conv live s=some (vals,H')):dC pin s ⟨aX s.tmps.length (live.zip vals),H'⟩:=by
 intro w0 A0 w A M a hp hs;obtain⟨A1,M1,h1⟩:=SR.convs conv hs
 unfold gw at h;simp only at h;generalize Sim.convs conv s.tmps s.heap=c at h h1
 generalize gather c.2 1000 (List.range pin++refsOf.refsL (liveOf live c.1)) []=ids at h;split at h;case h_2=>simp at h
 rename_i hc;simp only[zf]at hc;split at h;case h_2=>simp at h
 rename_i H1 hH;cases h;obtain⟨M2,g1,g2,g3,g4⟩:=h1.heap.norm hc.1 hc.2 hH;have q:c.1.length=s.tmps.length:=by rw[<-h1.size,hs.size]
 refine⟨A1,M2,h1.base,h1.outer,by rw[Ch,<-q];exact h1.size,λ t ht=>?_,g1,h1.defers,h1.ev.norm hp g3 g4⟩;simp only[xwo];rcases SG s.tmps.length (rens (dV pin ids c.2) c.1) (by rw[oF];exact q) t live with e|e;rw[e,tG];simp only[Ch]at ht;exact(h1.tmps t (by simp only[];omega)).ren g2;rw[e];exact .top _
def bL(P:Program)(Inv:IV)(c:Code)(Q:Exit->St->Prop)(s:St):Prop:=∀(w0:World)(A0:Cx)(w:World)(A:Nat->Prop)(M:Id->Option MB)(a:Act)(Qc:Exit->Act->World->Prop),Inv w0->A0.pin<=Inv.pin->SR w0 A0 w A M s a->(∀e s' a' w',Q e s'->pk w0 A0 s' a' w'->Qc e a' w')->∀ro:Option Nat,(Inv.top->ro=none)->c.wpIn (cP ro) 0 P Qc a w
section rules
variable{P:Program}{Inv:IV}{Q:Exit->St->Prop}{s:St}
variable {Q':Exit->St->Prop}{c:Code}
def mg(h:bL P Inv c Q s)(hq:∀e s,Q e s->Q' e s):bL P Inv c Q' s:=λ w0 A0 w A M a Qc hI hp hs hQ=>h w0 A0 w A M a Qc hI hp hs λ e s' a' w' q=>hQ e s' a' w' (hq e s' q)
def Ta(h:Q .normal s):bL P Inv .skip Q s:=λ w0 A0 w A M a Qc hI hp hs hQ ro _=>wpIn_skip (hQ _ _ _ _ h ⟨A,M,hs⟩)
variable {id:Nat}
def UZ(h:Q (.exit id) s):bL P Inv (.exit id) Q s:=λ w0 A0 w A M a Qc hI hp hs hQ ro _=>wpIn_exit (hQ _ _ _ _ h ⟨A,M,hs⟩)
def We(h:Q .ret s):bL P Inv .ret Q s:=λ w0 A0 w A M a Qc hI hp hs hQ ro _=>wpIn_ret (hQ _ _ _ _ h ⟨A,M,hs⟩)
def ot(next:St->Prop)(Q:Exit->St->Prop):Exit->St->Prop|.normal,s=>next s|e,s=>Q e s
def nw(id:Nat)(Q:Exit->St->Prop):Exit->St->Prop|.exit id',s=>if id'=id then Q .normal s else Q (.exit id') s|e,s=>Q e s
variable {x y:Code}
def pU(h:bL P Inv x (ot (bL P Inv y Q) Q) s):bL P Inv (.seq x y) Q s:=λ w0 A0 w A M a Qc hI hp hs hQ ro q=>
 wpIn_seq (h w0 A0 w A M a _ hI hp hs (fun e s' a' w' hq J=>by
  cases e with
  |normal=>obtain⟨A',M',O⟩:=J;exact hq w0 A0 w' A' M' a' Qc hI hp O hQ ro q
  |_=>exact hQ _ _ _ _ hq J) ro q)
def So(h:bL P Inv c (nw id Q) s):bL P Inv (.block id c) Q s:=λ w0 A0 w A M a Qc hI hp hs hQ ro J=>
 wpIn_block (h w0 A0 w A M a _ hI hp hs (fun e s' a' w' hq q=>by
  cases e with
  |exit id'=>
   simp only[nw]at hq;simp only[Exit.inBlock];split<;>rename_i O<;>simp only[O,if_true,if_false]at hq
   . exact hQ _ _ _ _ hq q
   . exact hQ _ _ _ _ hq q
  |_=>exact hQ _ _ _ _ hq q) ro J)
def Le{c:Operand}{t:Bool}(hc:s.eval c=.bool t)(ht:t->bL P Inv x Q s)(hf:t=false->bL P Inv y Q s):bL P Inv (.cond c x y) Q s:=λ w0 A0 w A M a Qc hI hp hs hQ ro q=>by have:=hs.eval c;rw[hc]at this;exact wpIn_cond_split this.bool_inv (λ h=>ht h w0 A0 w A M a Qc hI hp hs hQ ro q) (λ h=>hf h w0 A0 w A M a Qc hI hp hs hQ ro q)
variable {ops:Array Oper}
def Sj(q:bP Inv){s':St}(J:aO ops)(hp:d7 (iG P Inv) ops ops.toList s s')(h:Q .normal s'):bL P Inv (.region id ops false) Q s:=λ w0 A0 w A M a Qc hI _ hs hQ ro _=>
 xFX q hI J hp hs (λ a' w' O=>hQ _ _ _ _ h O) ro
def Lg(O:P.follows .mixedOrders)(J:bP Inv){s1 s':St}{wf:Bool}(m:Nat)(V:aO ops)(q:fV wf ops m)(hm:m<=ops.size)(hF:d7 (j8 P Inv) ops (ops.toList.take m) s s1)(hT:gv P Inv ops m m (ops.toList.drop m) s1 s')(W:∀i o,i<m->ops[i]?=some o->nf wf ops m i->dH s1.eval o.op)(h:Q .normal s'):bL P Inv (.region id ops true) Q s:=λ w0 A0 w A M a Qc hI _ hs hQ ro _=>
 xDP O J hI V q hm hF hT W hs (λ a' w' q=>hQ _ _ _ _ h q) ro
def fg(P:Program)(Inv:IV)(c:Code)(Q:Exit->St->Prop)(s:St):Prop:=∀(w0:World)(A0:Cx)(w:World)(A:Nat->Prop)(M:Id->Option MB)(a:Act)(Qc:Exit->Act->World->Prop),Inv w0->A0.pin<=Inv.pin->SR w0 A0 w A M s a->(∀e s' a' w',Q e s'->pk w0 A0 s' a' w'->Qc e a' w')->∀(b:Frame)(k:List Item)(cs:List Frame),(Inv.top->b.roundOf=none)->∃e a' w',Qc e a' w'/\ArrivesIn (Machine.fenced P (cP b.roundOf)) P (lone (b.atR a (.code c::.inLoop c::k)) cs w) b k cs e a' w'
def T3(h:fg P Inv c Q s)(hq:∀e s,Q e s->Q' e s):fg P Inv c Q' s:=λ w0 A0 w A M a Qc hI hp hs hQ=>h w0 A0 w A M a Qc hI hp hs λ e s' a' w' q=>hQ e s' a' w' (hq e s' q)
def Nl(h:fg P Inv c Q s):bL P Inv (.loop c) Q s:=λ w0 A0 w A M a Qc hI hp hs hQ ro J=>by intro b k cs hb _ _;have hb:b.roundOf=ro:=hb;subst hb;obtain⟨e,a',w',hq,q⟩:=h w0 A0 w A M a Qc hI hp hs hQ b k cs J;exact⟨e,a',w',hq,.of_steps (.one (CI _ P _) stepR_loop) q⟩
def xF4(h:bL P Inv c (ot (fg P Inv c Q) Q) s):fg P Inv c Q s:=λ w0 A0 w A M a Qc hI hp hs hQ=>by
 intro b k cs O;obtain ⟨e,a₁,w₁,hq,q⟩:=h w0 A0 w A M a (fun e a' w'=>match e with|.normal=>∃ s',fg P Inv c Q s'/\pk w0 A0 s' a' w'|e=>Qc e a' w') hI hp hs (fun e s' a' w' hq V=>by
  cases e with
  | normal=>exact⟨s',hq,V⟩
  | _=>exact hQ _ _ _ _ hq V) b.roundOf O b (.inLoop c::k) cs rfl (Te _ _) (Sb _ _)
 cases e with|normal=>(obtain⟨s',k1,A',M',Y⟩:=hq;obtain⟨e₂,a₂,w₂,W,J⟩:=k1 w0 A0 w₁ A' M' a₁ Qc hI hp Y hQ b k cs O;exact⟨e₂,a₂,w₂,W,.of_steps (StepsIn.trans q (.one (CI _ P _) stepR_inLoop)) J⟩)|exit id=>exact⟨_,a₁,w₁,hq,.pass (x:=.inLoop c) rfl (λ _ _=>.inl Ψ) q⟩|goto l=>exact⟨_,a₁,w₁,hq,.pass (x:=.inLoop c) rfl (λ _ _=>.inl Ψ) q⟩|ret=>exact⟨_,a₁,w₁,hq,.pass (x:=.inLoop c) rfl (λ _ _=>.inl Ψ) q⟩|panic ch=>exact⟨_,a₁,w₁,hq,.pass (x:=.inLoop c) rfl (λ _ _=>.inl Ψ) q⟩|outgrown=>exact⟨_,a₁,w₁,hq,.pass (x:=.inLoop c) rfl (λ _ _=>.inl Ψ) q⟩
def Sp(I:Nat->St->Prop){n0:Nat}{s0:St}(hw:dC Inv.pin s s0)(h1:I n0 s0)(W:∀n s,I n s->bL P Inv c (ot (λ s'=>∃n' J,n'<n/\dC Inv.pin s' J/\I n' J) Q) s):fg P Inv c Q s:=λ w0 A0 w A M a Qc hI hp hs hQ=>by
 intro b k cs ab;have key:∀n s,I n s->∀w A M a,SR w0 A0 w A M s a->∃e a' w',Qc e a' w'/\ArrivesIn (Machine.fenced P (cP b.roundOf)) P (lone (b.atR a (.code c::.inLoop c::k)) cs w) b k cs e a' w':=by intro n;induction n using Nat.strongRecOn with|_ n ih=>
  intro s ac w A M a hs;obtain ⟨e,a₁,w₁,hq,q⟩:=W n s ac w0 A0 w A M a (fun e a' w'=>match e with|.normal=>∃ n' J,n'<n/\I n' J/\pk w0 A0 J a' w'|e=>Qc e a' w') hI hp hs (fun e s' a' w' hq Z=>by
   cases e with
   | normal=>
    obtain⟨A',M',V⟩:=Z;obtain⟨n',J,k1,k2,k3⟩:=hq;obtain⟨A'',M'',O⟩:=k2 w0 A0 w' A' M' a' hp V;exact⟨n',J,k1,k3,A'',M'',O⟩
   | _=>exact hQ _ _ _ _ hq Z) b.roundOf ab b (.inLoop c::k) cs rfl (Te _ _) (Sb _ _)
  cases e with|normal=>(obtain⟨n',J,k1,k2,A',M',O⟩:=hq;obtain⟨e₂,a₂,w₂,aa,Y⟩:=ih n' k1 J k2 w₁ A' M' a₁ O;exact⟨e₂,a₂,w₂,aa,.of_steps (StepsIn.trans q (.one (CI _ P _) stepR_inLoop)) Y⟩)|exit id=>exact⟨_,a₁,w₁,hq,.pass (x:=.inLoop c) rfl (λ _ _=>.inl Ψ) q⟩|goto l=>exact⟨_,a₁,w₁,hq,.pass (x:=.inLoop c) rfl (λ _ _=>.inl Ψ) q⟩|ret=>exact⟨_,a₁,w₁,hq,.pass (x:=.inLoop c) rfl (λ _ _=>.inl Ψ) q⟩|panic ch=>exact⟨_,a₁,w₁,hq,.pass (x:=.inLoop c) rfl (λ _ _=>.inl Ψ) q⟩|outgrown=>exact⟨_,a₁,w₁,hq,.pass (x:=.inLoop c) rfl (λ _ _=>.inl Ψ) q⟩
 obtain⟨A',M',V⟩:=hw w0 A0 w A M a hp hs;exact key n0 s0 h1 w A' M' a V
def xH1(I:Nat->St->Prop){n0:Nat}{s0:St}(hw:dC Inv.pin s s0)(h1:I n0 s0)(q:∀n s,I n s->bL P Inv c (ot (λ s'=>∃n' s'',n'<n/\dC Inv.pin s' s''/\I n' s'') Q) s):bL P Inv (.loop c) Q s:=Nl (Sp I hw h1 q)
end rules
def gr(P:Program)(s:St):ResultVar->Option AV|.tmp t=>some (s.tmps.getD t .top)|.cell a t=>match bN P t with|some ti=>o6 s.heap ti (s.tmps.getD a .top)|none=>none
def iL(P:Program)(s:St):List ResultVar->Option (List AV)|[]=>some []|r::rs=>match gr P s r,iL P s rs with|some x,some xs=>(match resolve s.heap eI x with|some y=>some (y::xs)|none=>none)|_,_=>none
def o5:List AV->AV|[x]=>x|xs=>.tuple xs
def eG(P:Program)(rs:List ResultVar)(s:St):Option AV:=match iL P s rs with|some xs=>some (o5 xs)|none=>none
def resF(tmps:Array Value):ResultVar->Go.Sem Value|.tmp t=>pure (tmps.getD t undef)|.cell b t=>do loadVar t (<-asAddr (tmps.getD b undef))
def xzn(fn:Func)(tmps:Array Value):results fn tmps=(do let vs <-fn.results.mapM (resF tmps);pure (if h:vs.size=1 then vs[0]else .tuple vs)):=by unfold results;congr 1
section
variable{P:Program}{Inv:IV}
variable {A0:Cx}{M:Id->Option MB}{a:Act}{s:St}{w0:World}
def xzm{w:World}{A:Nat->Prop}(hs:SR w0 A0 w A M s a){r:ResultVar}{x:AV}(h:gr P s r=some x):∃v,(resF a.tmps r).run P w=.ok v w/\aD w A M v x:=by cases r with|tmp t=>simp only[gr,z6]at h;have:=hs.eval (.tmp t);simp only[St.eval,Act.eval]at this;rw[h]at this;exact⟨_,rfl,this⟩|cell b t=>simp only[gr]at h;split at h;(case h_2=>simp at h);(rename_i ti J;have hb:=hs.eval (.tmp b);simp only[St.eval,Act.eval]at hb;obtain⟨u,hu,O⟩:=xvp J hs.heap hb h;refine⟨u,?_,O⟩;have hp:∃ad,a.tmps.getD b undef=.pointer (some ad):=by unfold o6 at h;split at h;rename_i hx;rw[hx]at hb;obtain⟨b',o',e,_⟩:=KN hb;exact⟨_,e⟩;rename_i id ver i j hx;rw[hx]at hb;split at h;(case h_2=>simp at h);rename_i bx q;obtain⟨m,_,_,e⟩:=tW hs.heap hb q;exact⟨_,e⟩;rename_i f cs hx;rw[hx]at hb;split at h;rename_i x' V;have hf:=zg V;subst hf;obtain⟨b',o',v0,e,_⟩:=hb.vptr_inv;exact⟨_,e⟩;simp at h;simp at h);obtain⟨ad,hp⟩:=hp;show (do loadVar t (<-asAddr (a.tmps.getD b undef)):Go.Sem Value).run P w=_;rw[hp]at hu|-;simpa[Instr.loadAt,Instr.sureAddr,asAddr]using hu
def xzk{w:World}{A:Nat->Prop}(hs:SR w0 A0 w A M s a)(q:∀b,A0.av b->b<w0.heap.size):∀{rs:List ResultVar}{xs:List AV},iL P s rs=some xs->
  ∃vs,(rs.mapM (resF a.tmps)).run P w=.ok vs w/\RC w A0.av er vs xs
 |[],xs,h=>by
  simp only[iL,z6]at h;subst h;exact⟨[],by simp,rfl,by simp⟩
 |r::rs,xs,h=>by
  unfold iL at h;split at h
  case h_2=>simp at h
  rename_i x ys hx Y;split at h
  case h_2=>simp at h
  rename_i y hy;cases h;obtain⟨v,hv,W⟩:=xzm hs hx;obtain⟨vs,Z,J⟩:=xzk hs q Y;refine⟨v::vs,?_,?_⟩
  . rw[List.mapM_cons];simp only[Sem.run_bind,hv,Z,Result.andThen_ok,Sem.run_pure]
  . have hy':aD w A0.av er v y:=rS hs.heap (λ b hb h=>(hs.outer b (q b h)).2 h) eI v x y W hy λ id _ m hm V hA=>by
     obtain⟨bx,_,O⟩:=hs.heap.box id m hm;have:=O.low V;have:=q _ hA;omega
    refine⟨by simp[J.1],λ i hi=>?_⟩
    cases i with
    |zero=>simpa using hy'
    |succ i=>have:=J.2 i (by simp at hi;omega);simpa using this
def xDS{w:World}{A:Nat->Prop}(hs:SR w0 A0 w A M s a)(O:∀b,A0.av b->b<w0.heap.size){fn:Func}{r:AV}(h:eG P fn.results.toList s=some r):∃v,(results fn a.tmps).run P w=.ok v w/\aD w A0.av er v r:=by unfold eG at h;split at h;(case h_2=>simp at h);rename_i xs J;cases h;obtain⟨vs,V,q⟩:=xzk (P:=P) hs O J;refine⟨if h:vs.toArray.size=1 then vs.toArray[0]else .tuple vs.toArray,?_,?_⟩;rw[xzn,Array.mapM_eq_mapM_toList];simp only[Sem.run_bind,Sem.run_map,V,Result.andThen_ok,Sem.run_pure];have hl:=q.1;have hr:=q.2;match vs,xs,hl,hr with|[v],[x],_,hr=>simpa[o5]using hr 0 Ψ|[],[],_,_=>simpa[o5]using aD.tuple (w:=w) (A:=A0.av) (M:=er) #[] [] rfl Ψ|v1::v2::vs,x1::x2::xs,hl,hr=>(have hne:¬ (v1::v2::vs).toArray.size=1:=by simp);rw[dif_neg hne];simp only[o5];refine .tuple _ _ (by simpa using hl) λ i hi=>?_;rw[yk];exact hr i hi
variable {R:Ending->World->Prop}
def xvl{fn:Func}(J:∀D,¬ A0.df D):∀(L:List Nat){w:World}{A:Nat->Prop}{M:Id->Option MB}{s:St}{a:Act},L.Nodup->(∀D,D∈L->w0.heap.size<=D/\(A0.df D\/A0.w1.heap.size<=D)/\w.heap[D]?=some (.deferred (some [])))->SR w0 A0 w A M s {a with defers:=L.map oo}->(∀w',SR w0 A0 w' A M s {a with defers:=[]}->∃v,(results fn a.tmps).run P w'=.ok v w'/\R (.returned v) w')->LeavesInM Fence.wide 0 P fn a.tmps R (L.map oo) .returning w|[],w,A,M,s,a,_,_,hs,h=>(by obtain⟨v,h1,h2⟩:=h w hs;exact⟨v,h1,h2⟩)|D::L,w,A,M,s,a,hn,hD,hs,h=>by have hd:=hD D Ψ;(rw[List.nodup_cons]at hn;have q:∀D',D'∈L->w0.heap.size<=D'/\(A0.df D'\/A0.w1.heap.size<=D')/\(w.putObj D (.deferred none)).heap[D']?=some (.deferred (some [])):=λ D' h'=>by have:=hD D' (by simp[h']);exact⟨this.1,this.2.1,by rw[World.putObj_heap_other (show D'≠D from λ e=>hn.1 (by rw[<-e];exact h'))];exact this.2.2⟩);refine⟨by simp,.inl ⟨D,_,rfl,run_takeDeferred hd.2.2,?_⟩⟩;have O:SR w0 A0 (w.putObj D (.deferred none)) A M s {a with defers:=L.map oo}:=hs.turn (o':=.deferred none) hd.2.2 ⟨by simp,by simp⟩ hd.1 (hd.2.1.resolve_left (J D)) ⟨L,rfl,hn.2,q⟩;exact xvl J L hn.2 q O h
def Gb{w:World}{A:Nat->Prop}{fn:Func}(q:∀D,¬ A0.df D)(hs:SR w0 A0 w A M s a)(h:∀w',SR w0 A0 w' A M s {a with defers:=[]}->∃v,(results fn a.tmps).run P w'=.ok v w'/\R (.returned v) w'):LeavesInM Fence.wide 0 P fn a.tmps R a.defers .returning w:=by obtain⟨L,h1,h2,h3⟩:=hs.defers;rw[h1];refine xvl q L h2 h3 ?_ h;rw[<-h1];exact hs
def WB(Y:bP Inv){f:FuncId}{fn:Func}{c:Code}{args:List AV}{r:AV}(hf:P.funcs[f]?=some fn)(hb:fn.body=some c)(O:(fn.name == "runtime.NumGoroutine")=false)(h:bL P Inv c (λ e s=>(e=.ret\/e=.normal)/\eG P fn.results.toList s=some r) ⟨args++List.replicate (fn.ntmps - args.length) (.tuple []),[]⟩):Good P Inv f args r:=by
 refine⟨⟨fn,hf,by rw[hb];rfl,O⟩,λ w A vs hI hA J=>?_⟩;refine callsIn_wide.1 (callsIn_of_wp_marks (F:=Fence.wide) (n:=0) hf hb trivial ?_);refine h w ⟨A,w,A,er,0,λ _=>False⟩ w A er _ _ hI (zQ _) ⟨Below.refl _ _,λ _ _=>Iff.rfl,?_,λ t ht=>?_,⟨λ id m hm=>by simp[er]at hm,λ _ _ _ _ h=>by simp[er]at h,hA⟩,eA.nil,Ev.refl (C:=⟨A,w,A,er,0,λ _=>False⟩)⟩ ?_ none (λ _=>rfl);simp[J.1];simp only[z8,List.length_replicate]at ht;have hl:=J.1;by_cases V:t<args.length;have e1:(vs.toArray++Array.replicate (fn.ntmps - vs.toArray.size) undef).getD t undef=vs.getD t undef:=by(have:t<vs.length:=Ω);simp[z7,Array.getElem?_append,this]
 have e2:(args++List.replicate (fn.ntmps - args.length) (AV.tuple [])).getD t .top=args.getD t .top:=by simp[z7,zP,V]
 rw[e1,e2];exact J.2 t V;have h1:¬ t<vs.length:=Ω
 have e1:(vs.toArray++Array.replicate (fn.ntmps - vs.toArray.size) undef).getD t undef=undef:=by(have h2:t - vs.length<fn.ntmps - vs.length:=Ω);simp[Array.getElem?_append,h1,h2]
 have e2:(args++List.replicate (fn.ntmps - args.length) (AV.tuple [])).getD t .top=.tuple []:=by(have h2:t - args.length<fn.ntmps - args.length:=Ω);simp[z7,zP,V,h2]
 rw[e1,e2];exact .tuple #[] [] rfl Ψ;rintro e s' a' w' ⟨he,hr⟩ ⟨A',M',q⟩;have:LeavesInM Fence.wide 0 P fn a'.tmps (λ e w'=>∃v,e=.returned v/\Below w.heap.size w w'/\aD w' A er v r) a'.defers .returning w':=Gb (λ _ h=>h) q λ w' q=>by obtain⟨v,hv,W⟩:=xDS (P:=P) q hA hr;exact⟨v,hv,v,rfl,q.base,W⟩
 rcases he with rfl|rfl<;>exact this
end
end Go.Sim
namespace Go.Sim
open Go.RowKit
def p9(t:Bool)(a b:Prop):Prop:=(t->a)/\(t=false->b)
def pW(P:Program)(Inv:IV)(s:St)(c:Call)(d:Option Tmp)(K:St->Prop):Prop:=∃s',(j8 P Inv s ⟨d,.call c,0, "",#[],none⟩ s'\/wc P Inv s ⟨d,.call c,0, "",#[],none⟩ s')/\K s'
def nZ(P:Program)(Inv:IV)(s:St)(c:Call)(d:Option Tmp)(K:St->Prop):Prop:=∃s',j8 P Inv s ⟨d,.call c,0, "",#[],none⟩ s'/\K s'
def iy(P:Program)(o:Oper)(s:St)(K:St->Prop):Prop:=match e8 P s.eval s.heap s.heap.length o.op with|some (x,nb)=>K ⟨bC s.tmps o.dst x,s.heap++nb.toList⟩|none=>False
def jE(P:Program)(o:Oper)(s:St)(K:St->Prop):Prop:=match nF P s.eval s.heap o.op with|some (x,H)=>K ⟨bC s.tmps o.dst x,H⟩|none=>False
def jD:Op->Bool|.store _ _ _=>true|.call c=>(match c.callee with|.builtin .append=>true|_=>false)|.lookup _ _ _ _=>true|.mapUpdate _ _ _ _=>true|.makeMap _ _=>true|_=>false
def jG(P:Program)(Inv:IV)(o:Oper)(s:St)(K:St->Prop):Prop:=match o.op with|.pick c a b=>(match s.eval c with|.bool t=>p9 t (K ⟨bC s.tmps o.dst (s.eval a),s.heap⟩) (K ⟨bC s.tmps o.dst (s.eval b),s.heap⟩)|_=>False)|.call c=>(match c.callee with|.value _=>nZ P Inv s c o.dst K|_=>iy P o s K)|_=>iy P o s K
def oq(P:Program)(Inv:IV)(o:Oper)(s:St)(K:St->Prop):Prop:=match o.op with|.pick c a b=>(match s.eval c with|.bool t=>p9 t (K ⟨bC s.tmps o.dst (s.eval a),s.heap⟩) (K ⟨bC s.tmps o.dst (s.eval b),s.heap⟩)|_=>False)|.call c=>(match c.callee with|.value _=>pW P Inv s c o.dst K|_=>if jD o.op then jE P o s K else iy P o s K)|_=>if jD o.op then jE P o s K else iy P o s K
section
variable{P:Program}{Inv:IV}
variable {c:Call}{o:Oper}{s s':St}
def Ul(ho:o.op=.call c)(h:j8 P Inv s ⟨o.dst,.call c,0, "",#[],none⟩ s'):j8 P Inv s o s':=by rcases h with⟨x,nb,h1,h2⟩|⟨c',g,args,q,r,h1,h2⟩;exact .inl ⟨x,nb,by rw[ho];exact h1,h2⟩;simp only[Op.call.injEq]at h1;subst h1;exact .inr ⟨c,g,args,q,r,ho,h2⟩
def xy4(ho:o.op=.call c)(h:oO P Inv s ⟨o.dst,.call c,0, "",#[],none⟩ s'):oO P Inv s o s':=by rcases h with⟨x,H',h1,h2⟩|⟨c',g,args,ids,H0,r0,H0',h1,h2⟩|⟨s1,x,nb,h1,h2,h3⟩;exact .inl ⟨x,H',by rw[ho];exact h1,h2⟩;simp only[Op.call.injEq]at h1;subst h1;exact .inr (.inl ⟨c,g,args,ids,H0,r0,H0',ho,h2⟩);exact .inr (.inr ⟨s1,x,nb,h1,by rw[ho];exact h2,h3⟩)
def xHF(ho:o.op=.call c)(h:wc P Inv s ⟨o.dst,.call c,0, "",#[],none⟩ s'):wc P Inv s o s':=by rcases h with h|⟨s1,h1,h2⟩|⟨s1,x,H',h1,h2,h3⟩;exact .inl (xy4 ho h);exact .inr (.inl ⟨s1,h1,xy4 ho h2⟩);exact .inr (.inr ⟨s1,x,H',h1,by rw[ho];exact h2,h3⟩)
variable {K:St->Prop}
def Kl(h:iy P o s K):∃s',j8 P Inv s o s'/\K s':=by unfold iy at h;split at h;rename_i x nb hx;exact⟨_,.inl ⟨x,nb,.inl hx,rfl⟩,h⟩;exact h.elim
def xwn(h:jE P o s K):∃s',wc P Inv s o s'/\K s':=by unfold jE at h;split at h;rename_i x H hx;exact⟨_,.inl (.inl ⟨x,H,hx,rfl⟩),h⟩;exact h.elim
def xy6{c a b:Operand}(ho:o.op=.pick c a b){t:Bool}(hc:s.eval c=.bool t)(h:p9 t (K ⟨bC s.tmps o.dst (s.eval a),s.heap⟩) (K ⟨bC s.tmps o.dst (s.eval b),s.heap⟩)):∃s',j8 P Inv s o s'/\K s':=by refine⟨⟨bC s.tmps o.dst (if t then s.eval a else s.eval b),s.heap⟩,.inl ⟨if t then s.eval a else s.eval b,none,.inl (by simp only[ho,e8,hc]),by simp⟩,?_⟩;cases t;exact h.2 rfl;exact h.1 rfl
def xwH(h:jG P Inv o s K):∃s',j8 P Inv s o s'/\K s':=by unfold jG at h;split at h;rename_i c a b ho;split at h;rename_i t ht;exact xy6 ho ht h;exact h.elim;rename_i c ho;split at h;obtain⟨s',h1,h2⟩:=h;exact⟨s',Ul ho h1,h2⟩;exact Kl h;exact Kl h
def xDX(h:oq P Inv o s K):∃s',iG P Inv s o s'/\K s':=by unfold oq at h;split at h;rename_i c a b ho;split at h;rename_i t ht;obtain⟨s',h1,h2⟩:=xy6 (P:=P) (Inv:=Inv) ho ht h;exact⟨s',.inl h1,h2⟩;exact h.elim;rename_i c ho;split at h;obtain⟨s',h1,h2⟩:=h;rcases h1 with h1|h1;exact⟨s',.inl (Ul ho h1),h2⟩;exact⟨s',.inr (xHF ho h1),h2⟩;split at h;obtain⟨s',h1,h2⟩:=xwn (Inv:=Inv) h;exact⟨s',.inr h1,h2⟩;obtain⟨s',h1,h2⟩:=Kl (Inv:=Inv) h;exact⟨s',.inl h1,h2⟩;split at h;obtain⟨s',h1,h2⟩:=xwn (Inv:=Inv) h;exact⟨s',.inr h1,h2⟩;obtain⟨s',h1,h2⟩:=Kl (Inv:=Inv) h;exact⟨s',.inl h1,h2⟩
def xFk{d:Option Tmp}{g:FuncId}{args q:List AV}{r:AV}(J:pz s c=some (g,args))(hm:eJ (resolve s.heap eI) args=some q)(hg:Good P Inv g q r)(hK:K ⟨bC s.tmps d r,wW s.heap args r⟩):nZ P Inv s c d K:=⟨_,.inr ⟨c,g,args,q,r,rfl,J,hm,hg,rfl⟩,hK⟩
variable {a b:Prop}
def Uw(h:a):p9 true a b:=⟨λ _=>h,λ e=>by simp at e⟩
def xyD(h:b):p9 false a b:=⟨λ e=>by simp at e,λ _=>h⟩
def Lh{ts:List AV}{d:Nat}{x:AV}(h:ts[d]?=some x):ts.set d x=ts:=by apply List.ext_getElem?;intro i;by_cases hi:d=i;(subst hi;have:d<ts.length:=by rcases zJ d ts.length with h'|h';exact h';rw[zz h']at h;simp at h);simp[this];rw[ze this]at h;simpa using h.symm;simp[zX hi]
end
end Go.Sim
end
