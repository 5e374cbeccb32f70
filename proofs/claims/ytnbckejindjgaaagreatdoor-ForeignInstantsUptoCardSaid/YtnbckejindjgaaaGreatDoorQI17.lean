/- Part 17 of the proof of the law. -/
import Derived.Test.YtnbckejindjgaaaGreatDoorQI16
set_option linter.unusedVariables false
set_option linter.unusedSimpArgs false
set_option maxRecDepth 100000
set_option maxRecDepth 10000
noncomputable section
namespace Go.Sim.M
open Go.RowKit Go.Sim.Srt
theorem xHz (c_0:List UInt8) (c_1 c_2 c_3 c_4:List AV) (ix u:Int) (cols:List Int) (ft:List UInt8) (p:Tab) (hc:cols.length<=1048576) (hk:p.key.length<=1048576) (fa ke:List Fc) (hf:Few fa) (O:Few ke) (Q:List Per) (hQ:Q.length<=1048576) :
  Iter (xaM u c_0 c_1 c_2 c_3 c_4 p.n (p.cols.map xLW) (p.key.map encN) (p.fos.map xLX) p.chk ix (fa.map encF) (ke.map encF) (cols.map encN) ft (Q.map encP)) (true,(0:Int))=some (Q.all fun q=>xMa cols p.key (atL fa q.1) (atL ke q.1)):=by
 have J:∀ (l:List Per) (b:Bool),l.foldl (fun b q=>b&&xMa cols p.key (atL fa q.1) (atL ke q.1)) b=(b&&l.all fun q=>xMa cols p.key (atL fa q.1) (atL ke q.1)):=fun l=>by
  induction l with
  | nil=>intro b;simp
  | cons a l ih=>intro b;rw [List.foldl_cons,ih,List.all_cons,Bool.and_assoc]
 refine xm9 Q (fun b q=>b&&xMa cols p.key (atL fa q.1) (atL ke q.1)) (fun n b=>(b,(n:Int))) (fun _ _=>True) (fun n h b _=>⟨?_,trivial⟩) Q.length 0 true (by omega) trivial ?_
 . have h1:(n:Int)<(Q.length:Int):=by omega
   have gq:(Q.map encP).getD n .top=encP Q[n]:=xaa _ _ _ h;obtain ⟨D,d1,d2,_⟩:=xv7 fa Q[n].1 hf;obtain ⟨E,e1,e2,_⟩:=xv7 ke Q[n].1 O;have lD:D.length<=1048576:=by rw [d2.length_eq];exact Nat.le_trans (xue fa _) hf.1
   have lE:E.length<=1048576:=by rw [e2.length_eq];exact Nat.le_trans (xue ke _) O.1
   have U:=xA4 D E cols ft p hc hk lE lD;rw [xy8 d2 e2] at U;cases b with
   | false=>simp only [xaM,xbL,za,h1,zn,xab,xac,Bool.false_and,xLZ (n:=n) (by omega),sUF]
   | true=>simp only [xaM,xbL,xeG,sBU,h,h1,gq,cP0,cP1,lP,sP,sP0,sP1,d1,e1,U,xLZ (n:=n) (by omega)]
 . rw [zr,J];simp only [xaM,xbL,za,zy,zm,xac,Bool.true_and,sUF]
theorem xIM {α:Type} (l:List α):(((l.length:Nat):Int)==0)=decide (l=[]):=by
 cases l with
 | nil=>rfl
 | cons a l =>
  rw [Bool.eq_iff_iff,beq_iff_eq,zl];simp;omega
theorem xCX (t p:Tab) (ht:t.Ok) (hp:p.Ok) (ix:Int) (fa ke:List Fc) (hf:FOk fa) (hk:FOk ke) (u:Int):xhS t.n (t.cols.map xLW) (t.key.map encN) (t.fos.map xLX) t.chk p.n (p.cols.map xLW) (p.key.map encN) (p.fos.map xLX) p.chk ix (fa.map encF) (ke.map encF) u=some true:=by
 obtain ⟨b,be,hb⟩:=xHI t p ht hp ix fa ke hf hk;unfold xhS xgr;simp only [be,zk,zh,xab,sUF];cases b with
 | false=>rfl
 | true =>
  obtain ⟨lo,hi,fl,fr,kl,kr⟩:=hb rfl;obtain ⟨i,rfl⟩:∃ i:Nat,ix=(i:Int):=⟨ix.toNat,by omega⟩
  have i3:i<t.fos.length:=by omega
  have gt:(t.fos.map xLX).getD i .top=xLX t.fos[i]:=xaa _ _ _ i3;have Q:=(ht.fc _ (zo i3)).1;have J:Few fa:=⟨by omega,fun f hf=>by have:=fr f hf;omega⟩
  have O:Few ke:=⟨by omega,fun f hf=>by have:=kr f hf;omega⟩
  obtain ⟨B,M,b1,b2,b3,b4⟩:=xG7 p hp t.fos[i] Q fa ke hf hk fl fr kl;have W:=xJG fl kl b4 b3;have hh:=xIL b1;have pe:=xGl fa ke (by omega) (by omega)
  have pl:=xAq (fa++ke);rw [z8] at pl;have lp:=xHz t.n (t.cols.map xLW) (t.key.map encN) (t.fos.map xLX) t.chk (i:Int) u t.fos[i].cols t.fos[i].t p Q hp.key fa ke J O (pcL (ptsF (fa++ke))) (by rw [xE9];omega)
  have good:((pcL (ptsF (fa++ke))).all fun q=>xMa t.fos[i].cols p.key (atL fa q.1) (atL ke q.1))=decide (B=[]):=by
   rw [Bool.eq_iff_iff,zI,zl,xIQ b4 b3,<-xEb];constructor
   . intro h u hu;obtain ⟨q,q1,q2⟩:=xFa hu;have:=h q q1;rw [q2] at this;exact (xuD _ _ _ _ _).1 this
   . intro h q hq;exact (xuD _ _ _ _ _).2 (h q.1 (xIU _ q hq))
  rw [good] at lp;obtain ⟨D,d1,d2⟩:=xK4 fr b4 b3 (by omega) u
  obtain ⟨F,f1,f2,_⟩:=xv7 fa u J;obtain ⟨E,e1,e2,_⟩:=xv7 ke u O;have lF:F.length<=1048576:=by rw [f2.length_eq];exact Nat.le_trans (xue fa _) J.1
  have lE:E.length<=1048576:=by rw [e2.length_eq];exact Nat.le_trans (xue ke _) O.1
  have U:=xA4 F E t.fos[i].cols t.fos[i].t p Q hp.key lE lF;rw [xy8 f2 e2] at U;have V:decide (D=[])=xMa t.fos[i].cols p.key (atL fa u) (atL ke u):=by
   rw [Bool.eq_iff_iff,zl,xuD,<-List.length_eq_zero_iff,d2,List.countP_eq_zero];exact ⟨fun h x hx=>by simpa using h x hx,fun h x hx=>by simp [h x hx]⟩
  simp only [xf0,xf1,xf2,xf3,sBU,lo,hi,i3,gt,cFo0,cFo1,lFo,sFo,AV.toList,AV.toStr,pe,lp,b1,hh,xIM,d1,f1,e1,U,V]
end Go.Sim.M
namespace Go.Sim
open Go.RowKit
theorem M.card_instants (c:M.Cas) (a:Int) (w0:c.wf) (_:I64 a) (hb:(AV.agg [.str c.t.n,.list 3 (c.t.cols.map M.xLW),.list 1 (c.t.key.map M.encN),.list 2 (c.t.fos.map M.xLX),.list 7 c.t.chk,.str c.p.n,.list 3 (c.p.cols.map M.xLW),.list 1 (c.p.key.map M.encN),.list 2 (c.p.fos.map M.xLX),.list 7 c.p.chk,.int .i64 c.ix,.list 3 (c.fa.map M.encF),.list 3 (c.ke.map M.encF)]).wt+(AV.int .i64 a).wt<=1048576):M.xhS c.t.n (c.t.cols.map M.xLW) (c.t.key.map M.encN) (c.t.fos.map M.xLX) c.t.chk c.p.n (c.p.cols.map M.xLW) (c.p.key.map M.encN) (c.p.fos.map M.xLX) c.p.chk c.ix (c.fa.map M.encF) (c.ke.map M.encF) a=some true :=
 M.xCX c.t c.p (M.cas_wt c w0 hb).1 (M.cas_wt c w0 hb).2.1 c.ix c.fa c.ke (M.cas_wt c w0 hb).2.2.1 (M.cas_wt c w0 hb).2.2.2 a
end Go.Sim
namespace Go.Proofs.YtnbckejindjgaaaGreatDoor.foreignInstants
open Go.ChangeShapes Go.WideShapes Go.ChangeAt Go.RowKit Go.Sim
theorem contract (H:Type) (enc:TypeId×Value->H) (W:World) (base:Nat) (args:Array Value) (ds gs:List (DataW H)) (before:List MemPlace)
  (hval:∀ (j:Nat) t v,Tryz.f5.params[j]?=some t->args[j]?=some v->Value.okWide Tryz.prog W .any base t v)
  (hW:DataW.Whole enc Tryz.prog Tryz.f5.params.toList Rows.foreignInstantsSpec.vars false W args.toList ds gs before) (hL:laidMetH Tryz.prog Rows.foreignInstantsUptoRow.laid W) (hsh:W.ShapedOpen Tryz.prog) (hbulk:Rows.uptoBulkAll (ds++gs)<=1048576) :
  Calls Tryz.prog 5 args W fun e W'=>∃ v,e=.returned v/\Rows.foreignInstantsSpec.post enc Tryz.prog Tryz.f5 false true false false W args v W':=by
 have hW':=hW;obtain ⟨p,q,hA0,hV,rfl,hfz,hnd⟩:=hW;have hA:DataW.TrodAll enc Tryz.prog W 0 (fun _=>true) true Tryz.f5.params.toList args.toList ds p:=hA0
 have hAk:=hA;rw [Tryz.params5] at hA hval;obtain ⟨v0,vs0,d0,ds0,p0,q0,hargs,rfl,rfl,h0,r0⟩:=trodAll_cons hA;obtain ⟨v1,vs1,d1,ds1,p1,q1,rfl,rfl,rfl,h1,r1⟩:=trodAll_cons r0;obtain ⟨rfl,rfl,rfl⟩:=trodAll_nil r1;obtain rfl:args=#[v0,v1]:=by cases args;simp_all
 obtain ⟨rfl,rfl⟩:=trodVars_none hV;obtain ⟨a0,rr0,b0,w0⟩:=xHP (hval 0 30 v0 rfl rfl) h0;obtain ⟨a1,rr1,b1,w1⟩:=xIT (hval 1 3 v1 rfl rfl) h1;clear hA0;have hbulk:((.agg [.str a0.t.n,.list 3 (a0.t.cols.map M.xLW),.list 1 (a0.t.key.map M.encN),.list 2 (a0.t.fos.map M.xLX),.list 7 a0.t.chk,.str a0.p.n,.list 3 (a0.p.cols.map M.xLW),.list 1 (a0.p.key.map M.encN),.list 2 (a0.p.fos.map M.xLX),.list 7 a0.p.chk,.int .i64 a0.ix,.list 3 (a0.fa.map M.encF),.list 3 (a0.ke.map M.encF)]):AV).wt+(.int .i64 a1:AV).wt<=1048576:=by
  rw [List.append_nil,xp5] at hbulk;simp only [List.map_cons,List.map_nil,List.sum_cons,List.sum_nil] at hbulk;have:=b0 _ xBd;have:=b1 _ xBd;omega
 have hI:xNC W:=xLg rfl (by kernel_rfl) hL hsh
 have hpl:=M.card_instants a0 a1 w0 w1 hbulk;have hg:Sim.Good Tryz.prog xNC 5 [(.agg [.str a0.t.n,.list 3 (a0.t.cols.map M.xLW),.list 1 (a0.t.key.map M.encN),.list 2 (a0.t.fos.map M.xLX),.list 7 a0.t.chk,.str a0.p.n,.list 3 (a0.p.cols.map M.xLW),.list 1 (a0.p.key.map M.encN),.list 2 (a0.p.fos.map M.xLX),.list 7 a0.p.chk,.int .i64 a0.ix,.list 3 (a0.fa.map M.encF),.list 3 (a0.ke.map M.encF)]),.int .i64 a1] (.bool true):=M.xs2 _ _ (congrArg (fun x:Option Bool=>some (x.isSome,AV.bool (x.getD false))) hpl)
 have hrc:RC W (fun _=>False) xM7 [v0,v1] [(.agg [.str a0.t.n,.list 3 (a0.t.cols.map M.xLW),.list 1 (a0.t.key.map M.encN),.list 2 (a0.t.fos.map M.xLX),.list 7 a0.t.chk,.str a0.p.n,.list 3 (a0.p.cols.map M.xLW),.list 1 (a0.p.key.map M.encN),.list 2 (a0.p.fos.map M.xLX),.list 7 a0.p.chk,.int .i64 a0.ix,.list 3 (a0.fa.map M.encF),.list 3 (a0.ke.map M.encF)]),.int .i64 a1]:=by
  refine ⟨rfl,fun i hi=>?_⟩
  match i,hi with
  | 0,_=>exact rr0
  | 1,_=>exact rr1
 refine (hg.2 W (fun _=>False) _ hI (fun _ h=>h.elim) hrc).mono fun e W' ⟨v,he,hb,hr⟩=>?_
 subst he;obtain rfl:=hr.bool_inv;exact ⟨_,rfl,xHR rfl hW' ⟨rfl,rfl,rfl⟩ rfl Tryz.underlying4 (by simpa using xvg xMD hb (by kernel_rfl) hAk) hb⟩
noncomputable def wit:Array Value:=#[.agg #[.string ⟨#[]⟩,.slice none 0 0,.slice none 0 0,.slice none 0 0,.slice none 0 0,.string ⟨#[]⟩,.slice none 0 0,.slice none 0 0,.slice none 0 0,.slice none 0 0,.int .i64 0,.slice none 0 0,.slice none 0 0],.int .i64 0]
theorem laid_met (os:Os):laidMet Tryz.prog Rows.foreignInstantsUptoRow.laid ((xMn Tryz.prog Rows.foreignInstantsUptoRow.laid os).forCall (fun _ _=>0) ⟨#[],wit,[]⟩).memory :=
 laidMet_of_run3 8 (by kernel_rfl) (by kernel_rfl) (by kernel_rfl)
theorem reads (os:Os) {H:Type} (enc:TypeId×Value->H):∃ places,DataW.whole enc Tryz.prog ((xMn Tryz.prog Rows.foreignInstantsUptoRow.laid os).forCall (fun _ _=>0) ⟨#[],wit,[]⟩).memory Tryz.f5.params.toList Rows.foreignInstantsSpec.vars false wit.toList 8=some ([.agg [.agg [.lit (.string []),.nil,.nil,.nil,.nil],.agg [.lit (.string []),.nil,.nil,.nil,.nil],.lit (.int .i64 0),.nil,.nil],.lit (.int .i64 0)],[],places) :=
 ⟨[],by kernel_rfl⟩
set_option maxRecDepth 100000 in
theorem lifted (os:Os) (started:os.Started) (H:Type) (enc:TypeId×Value->H) (F:Stop.Interp) :
  ReturnsInHanded {} Tryz.checked os 5 .any ((Rows.OpenSpec.upto Rows.foreignInstantsSpec).preRow enc Tryz.prog Tryz.f5 Rows.foreignInstantsUptoRow.domain false Rows.foreignInstantsUptoRow.laid) (((Rows.OpenSpec.upto Rows.foreignInstantsSpec).at F).post enc Tryz.prog Tryz.f5 false true false false):=by
 obtain ⟨places,hx⟩:=reads os enc;refine returnsInHanded_of_row (C:=Tryz.checked) (s:=Rows.OpenSpec.upto Rows.foreignInstantsSpec) xMK started (by kernel_rfl) Tryz.func5
  (witness_row_at (enc:=enc) (C:=Tryz.checked) false (xMn Tryz.prog Rows.foreignInstantsUptoRow.laid os) wit rfl (by kernel_rfl) (by kernel_rfl) (by kernel_rfl)
   (OpenSpec.preRow_of_cond 8 hx (by kernel_rfl) (fun k hk=>by cases hk;kernel_rfl) (by kernel_rfl) (laid_met os))) ?_
 intro W base args ds gs before hval hW _ hcond _ hL hsh _;exact contract H enc W base args ds gs before hval hW hL hsh (of_decide_eq_true (hcond _ rfl))
theorem said:Rows.ForeignInstantsUptoSaid :=
 OpenClaim.holds_of_cond 5 Tryz.f5 rfl rfl rfl rfl rfl rfl rfl ⟨rfl,rfl,rfl,rfl,rfl⟩ rfl rfl rfl rfl rfl (by kernel_rfl) Tryz.func5 (by kernel_rfl)
  (of_decide_eq_true (by kernel_rfl)) (by unfold Func.isWrapper;first|(rw [if_pos (by decide +kernel)];kernel_rfl)|(rw [if_neg (by decide +kernel)];exact ⟨rfl,rfl⟩))
  (fun os started H enc _ F=>by rw [OpenClaim.pre_eq_preRow];exact lifted os started H enc F)
theorem plain (f:FuncId) (fn:Func) (hf:Tryz.pinned.checked.prog.funcNamed "bitemporal/bitemporallaw44.ForeignInstants" = some f) (hfn:Tryz.pinned.checked.prog.funcs[f]?=some fn) :
  false=Tryz.pinned.checked.prog.looks []/\∀ (j:Nat) t,fn.params[j]?=some t->Tryz.pinned.checked.prog.wantsStandIn t=false:=by
 obtain rfl:f=5:=Option.some.inj ((show Tryz.prog.funcNamed "bitemporal/bitemporallaw44.ForeignInstants" = some 5 by kernel_rfl).symm.trans hf) |>.symm
 obtain rfl:fn=Tryz.f5:=(Option.some.inj (Tryz.func5.symm.trans hfn)).symm;refine ⟨by kernel_rfl,fun j t ht=>?_⟩
 rw [Tryz.params5] at ht;have hm:=Array.mem_of_getElem? ht;have:([30,3]:List Nat).all (fun t=>!(Tryz.prog.wantsStandIn t))=true:=by kernel_rfl
 have:=List.all_eq_true.1 this t (by simpa using hm)
 show Tryz.prog.wantsStandIn t=false;simpa using this
theorem card:Rows.ForeignInstantsUptoCardSaid :=
 Claim7.holds_tied_plain_at .later [] _ _ _ _ said (fun _ h=>by cases h) (by kernel_rfl) (fun _ h=>by cases h) foreignInstantsUpto_row_tie rfl ⟨rfl,rfl⟩ (by kernel_rfl) rfl plain (by kernel_rfl)
end Go.Proofs.YtnbckejindjgaaaGreatDoor.foreignInstants
