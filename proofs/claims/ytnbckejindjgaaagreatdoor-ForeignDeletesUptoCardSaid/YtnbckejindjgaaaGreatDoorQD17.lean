/- Part 17 of the proof of the law. -/
import Derived.Test.YtnbckejindjgaaaGreatDoorQD16
set_option linter.unusedVariables false
set_option linter.unusedSimpArgs false
set_option maxRecDepth 10000
noncomputable section
namespace Go.Proofs.YtnbckejindjgaaaGreatDoor.foreignDeletes
open Go.ChangeShapes Go.WideShapes Go.ChangeAt Go.RowKit Go.Sim
theorem contract (H:Type) (enc:TypeId×Value->H) (W:World) (base:Nat) (args:Array Value) (ds gs:List (DataW H)) (before:List MemPlace)
  (hval:∀ (j:Nat) t v,Tryz.f6.params[j]?=some t->args[j]?=some v->Value.okWide Tryz.prog W .any base t v)
  (hW:DataW.Whole enc Tryz.prog Tryz.f6.params.toList Rows.foreignDeletesSpec.vars false W args.toList ds gs before) (hL:laidMetH Tryz.prog Rows.foreignDeletesUptoRow.laid W) (hsh:W.ShapedOpen Tryz.prog) (hbulk:Rows.uptoBulkAll (ds++gs)<=1048576) :
  Calls Tryz.prog 6 args W fun e W'=>∃ v,e=.returned v/\Rows.foreignDeletesSpec.post enc Tryz.prog Tryz.f6 false true false false W args v W':=by
 have hW':=hW;obtain ⟨p,q,hA0,hV,rfl,hfz,hnd⟩:=hW;have hA:DataW.TrodAll enc Tryz.prog W 0 (fun _=>true) true Tryz.f6.params.toList args.toList ds p:=hA0
 have hAk:=hA;rw [Tryz.params6] at hA hval;obtain ⟨v0,vs0,d0,ds0,p0,q0,hargs,rfl,rfl,h0,r0⟩:=trodAll_cons hA;obtain ⟨v1,vs1,d1,ds1,p1,q1,rfl,rfl,rfl,h1,r1⟩:=trodAll_cons r0;obtain ⟨v2,vs2,d2,ds2,p2,q2,rfl,rfl,rfl,h2,r2⟩:=trodAll_cons r1;obtain ⟨rfl,rfl,rfl⟩:=trodAll_nil r2;obtain rfl:args=#[v0,v1,v2]:=by cases args;simp_all
 obtain ⟨rfl,rfl⟩:=trodVars_none hV;obtain ⟨a0,rr0,b0,w0⟩:=xHu (hval 0 30 v0 rfl rfl) h0;obtain ⟨a1,rr1,b1,w1⟩:=xIA (hval 1 3 v1 rfl rfl) h1;obtain ⟨a2,rr2,b2,w2⟩:=xIB (hval 2 44 v2 rfl rfl) h2;clear hA0;have hbulk:((.agg [.str a0.t.n,.list 3 (a0.t.cols.map M.xLM),.list 1 (a0.t.key.map M.encN),.list 2 (a0.t.fos.map M.xLN),.list 7 a0.t.chk,.str a0.p.n,.list 3 (a0.p.cols.map M.xLM),.list 1 (a0.p.key.map M.encN),.list 2 (a0.p.fos.map M.xLN),.list 7 a0.p.chk,.int .i64 a0.ix,.list 3 (a0.fa.map M.encF),.list 3 (a0.ke.map M.encF)]):AV).wt+(.int .i64 a1:AV).wt+((.agg [.int .i64 a2.1,.int .i64 a2.2]):AV).wt<=1048576:=by
  rw [List.append_nil,xqc] at hbulk;simp only [List.map_cons,List.map_nil,List.sum_cons,List.sum_nil] at hbulk;have:=b0 _ xv1;have:=b1 _ xv1;have:=b2 _ xv1;omega
 have hI:xNs W:=xK6 rfl (by kernel_rfl) hL hsh
 have hpl:=M.card_deletes a0 a1 a2 w0 w1 w2 hbulk;have hg:Sim.Good Tryz.prog xNs 6 [(.agg [.str a0.t.n,.list 3 (a0.t.cols.map M.xLM),.list 1 (a0.t.key.map M.encN),.list 2 (a0.t.fos.map M.xLN),.list 7 a0.t.chk,.str a0.p.n,.list 3 (a0.p.cols.map M.xLM),.list 1 (a0.p.key.map M.encN),.list 2 (a0.p.fos.map M.xLN),.list 7 a0.p.chk,.int .i64 a0.ix,.list 3 (a0.fa.map M.encF),.list 3 (a0.ke.map M.encF)]),.int .i64 a1,(.agg [.int .i64 a2.1,.int .i64 a2.2])] (.bool true):=M.xtF _ _ (congrArg (fun x:Option Bool=>some (x.isSome,AV.bool (x.getD false))) hpl)
 have hrc:RC W (fun _=>False) xMZ [v0,v1,v2] [(.agg [.str a0.t.n,.list 3 (a0.t.cols.map M.xLM),.list 1 (a0.t.key.map M.encN),.list 2 (a0.t.fos.map M.xLN),.list 7 a0.t.chk,.str a0.p.n,.list 3 (a0.p.cols.map M.xLM),.list 1 (a0.p.key.map M.encN),.list 2 (a0.p.fos.map M.xLN),.list 7 a0.p.chk,.int .i64 a0.ix,.list 3 (a0.fa.map M.encF),.list 3 (a0.ke.map M.encF)]),.int .i64 a1,(.agg [.int .i64 a2.1,.int .i64 a2.2])]:=by
  refine ⟨rfl,fun i hi=>?_⟩
  match i,hi with
  | 0,_=>exact rr0
  | 1,_=>exact rr1
  | 2,_=>exact rr2
 refine (hg.2 W (fun _=>False) _ hI (fun _ h=>h.elim) hrc).mono fun e W' ⟨v,he,hb,hr⟩=>?_
 subst he;obtain rfl:=hr.bool_inv;exact ⟨_,rfl,xHw rfl hW' ⟨rfl,rfl,rfl⟩ rfl Tryz.underlying4 (by simpa using xvi xMs hb (by kernel_rfl) hAk) hb⟩
noncomputable def wit:Array Value:=#[.agg #[.string ⟨#[]⟩,.slice none 0 0,.slice none 0 0,.slice none 0 0,.slice none 0 0,.string ⟨#[]⟩,.slice none 0 0,.slice none 0 0,.slice none 0 0,.slice none 0 0,.int .i64 0,.slice none 0 0,.slice none 0 0],.int .i64 0,.agg #[.int .i64 0,.int .i64 0]]
theorem laid_met (os:Os):laidMet Tryz.prog Rows.foreignDeletesUptoRow.laid ((xMd Tryz.prog Rows.foreignDeletesUptoRow.laid os).forCall (fun _ _=>0) ⟨#[],wit,[]⟩).memory :=
 laidMet_of_run3 8 (by kernel_rfl) (by kernel_rfl) (by kernel_rfl)
theorem reads (os:Os) {H:Type} (enc:TypeId×Value->H):∃ places,DataW.whole enc Tryz.prog ((xMd Tryz.prog Rows.foreignDeletesUptoRow.laid os).forCall (fun _ _=>0) ⟨#[],wit,[]⟩).memory Tryz.f6.params.toList Rows.foreignDeletesSpec.vars false wit.toList 8=some ([.agg [.agg [.lit (.string []),.nil,.nil,.nil,.nil],.agg [.lit (.string []),.nil,.nil,.nil,.nil],.lit (.int .i64 0),.nil,.nil],.lit (.int .i64 0),.agg [.lit (.int .i64 0),.lit (.int .i64 0)]],[],places) :=
 ⟨[],by kernel_rfl⟩
set_option maxRecDepth 100000 in
theorem lifted (os:Os) (started:os.Started) (H:Type) (enc:TypeId×Value->H) (F:Stop.Interp) :
  ReturnsInHanded {} Tryz.checked os 6 .any ((Rows.OpenSpec.upto Rows.foreignDeletesSpec).preRow enc Tryz.prog Tryz.f6 Rows.foreignDeletesUptoRow.domain false Rows.foreignDeletesUptoRow.laid) (((Rows.OpenSpec.upto Rows.foreignDeletesSpec).at F).post enc Tryz.prog Tryz.f6 false true false false):=by
 obtain ⟨places,hx⟩:=reads os enc;refine returnsInHanded_of_row (C:=Tryz.checked) (s:=Rows.OpenSpec.upto Rows.foreignDeletesSpec) xMA started (by kernel_rfl) Tryz.func6
  (witness_row_at (enc:=enc) (C:=Tryz.checked) false (xMd Tryz.prog Rows.foreignDeletesUptoRow.laid os) wit rfl (by kernel_rfl) (by kernel_rfl) (by kernel_rfl)
   (OpenSpec.preRow_of_cond 8 hx (by kernel_rfl) (fun k hk=>by cases hk;kernel_rfl) (by kernel_rfl) (laid_met os))) ?_
 intro W base args ds gs before hval hW _ hcond _ hL hsh _;exact contract H enc W base args ds gs before hval hW hL hsh (of_decide_eq_true (hcond _ rfl))
theorem said:Rows.ForeignDeletesUptoSaid :=
 OpenClaim.holds_of_cond 6 Tryz.f6 rfl rfl rfl rfl rfl rfl rfl ⟨rfl,rfl,rfl,rfl,rfl⟩ rfl rfl rfl rfl rfl (by kernel_rfl) Tryz.func6 (by kernel_rfl)
  (of_decide_eq_true (by kernel_rfl)) (by unfold Func.isWrapper;first|(rw [if_pos (by decide +kernel)];kernel_rfl)|(rw [if_neg (by decide +kernel)];exact ⟨rfl,rfl⟩))
  (fun os started H enc _ F=>by rw [OpenClaim.pre_eq_preRow];exact lifted os started H enc F)
theorem plain (f:FuncId) (fn:Func) (hf:Tryz.pinned.checked.prog.funcNamed "bitemporal/bitemporallaw44.ForeignDeletes" = some f) (hfn:Tryz.pinned.checked.prog.funcs[f]?=some fn) :
  false=Tryz.pinned.checked.prog.looks []/\∀ (j:Nat) t,fn.params[j]?=some t->Tryz.pinned.checked.prog.wantsStandIn t=false:=by
 obtain rfl:f=6:=Option.some.inj ((show Tryz.prog.funcNamed "bitemporal/bitemporallaw44.ForeignDeletes" = some 6 by kernel_rfl).symm.trans hf) |>.symm
 obtain rfl:fn=Tryz.f6:=(Option.some.inj (Tryz.func6.symm.trans hfn)).symm;refine ⟨by kernel_rfl,fun j t ht=>?_⟩
 rw [Tryz.params6] at ht;have hm:=Array.mem_of_getElem? ht;have:([30,3,44]:List Nat).all (fun t=>!(Tryz.prog.wantsStandIn t))=true:=by kernel_rfl
 have:=List.all_eq_true.1 this t (by simpa using hm)
 show Tryz.prog.wantsStandIn t=false;simpa using this
theorem card:Rows.ForeignDeletesUptoCardSaid :=
 Claim7.holds_tied_plain_at .later [] _ _ _ _ said (fun _ h=>by cases h) (by kernel_rfl) (fun _ h=>by cases h) foreignDeletesUpto_row_tie rfl ⟨rfl,rfl⟩ (by kernel_rfl) rfl plain (by kernel_rfl)
end Go.Proofs.YtnbckejindjgaaaGreatDoor.foreignDeletes
