/- Part 19 of the proof of the law. -/
import Derived.Test.YtodofdnlhoknhaaGreatDoorTD18
set_option linter.defProp false
set_option linter.unusedVariables false
set_option linter.unusedSimpArgs false
set_option maxRecDepth 100000
set_option maxRecDepth 10000
noncomputable section
namespace Go.Sim.M
open Go.RowKit Go.Sim.Srt
variable {Ka Kb:List Int}{a b:List Fc}
def xzn(ha:SR1 Ka a)(hb:SR1 Kb b):∃c,xjm (Ka.map encN) (a.map encF) (Kb.map encN) (b.map encF)=some c/\(c->Kb.length<Ka.length):=by
 have ka:=ha.kl;have kb:=hb.kl;have la:=ha.len;have lb:=hb.len;obtain⟨x,x1,_⟩:=xuL Ka (by omega) a (by omega);obtain⟨y,y1,_⟩:=xuL Kb (by omega) b (by omega);have v1:xcJ (Ka.map encN) (Kb.map encN)=(Ka.length:Int) - (Kb.length:Int):=by unfold xcJ;rw[za,za,xaw (by omega) (by omega)]
 unfold xjm xkZ;by_cases h:(Ka.length:Int) - (Kb.length:Int)>0;have h0:(0:Int)<=(Ka.length:Int) - (Kb.length:Int):=by omega
 have h1:(Ka.length:Int) - (Kb.length:Int)<=(Ka.length:Int):=by omega
 have e:=xAg ((Ka.drop ((Ka.length:Int) - (Kb.length:Int)).toNat).take (Ka.length - ((Ka.length:Int) - (Kb.length:Int)).toNat)) Kb (by rw[zt,y3];omega);have v0:xg5 (Ka.map encN) (Kb.map encN)=some (decide ((Ka.drop ((Ka.length:Int) - (Kb.length:Int)).toNat).take (Ka.length - ((Ka.length:Int) - (Kb.length:Int)).toNat)=Kb)):=by unfold xg5;rw[v1,za,<-e,List.map_take,List.map_drop]
 cases x with|false=>exact⟨false,by simp only[v1,h,x1,zn,zk,zh,xab,xac,sUF],λ h=>by simp at h⟩|true=>cases y with|false=>exact⟨false,by simp only[v1,h,x1,y1,zn,zk,zh,xab,xac,sUF],λ h=>by simp at h⟩|true=>exact⟨_,by simp only[v1,v0,h,h0,h1,x1,y1,za,zn,Bool.and_self,zk,zh,xab,sUF];rfl,λ _=>by omega⟩
 exact⟨false,by simp only[v1,h,zm,xac,sUF],λ h=>by simp at h⟩
def xHv(ha:SR1 Ka a)(hb:SR1 Kb b)(h:Kb.length<Ka.length):Divs Ka Kb a b (Ka.length - Kb.length) where
 na:=ha.nice
 nb:=hb.nice
 la:=ha.len
 lb:=hb.len
 ka:=ha.kl
 kn:=by omega
 n0:=by omega
 ra:=λ f hf=>(ha.fact f hf).2.1
 rb:=λ f hf=>(hb.fact f hf).2.1
def xAT(Ka Kb:List Int)(a b:List Fc):xjS (Ka.map encN) (a.map encF) (Kb.map encN) (b.map encF)=some true:=by obtain⟨x,x1,x2⟩:=xEt Ka a;obtain⟨y,y1,y2⟩:=xEt Kb b;unfold xjS xit;cases x with|false=>simp only[x1,xrw,zk,zh,Bool.not_false,xab,sUF]|true=>cases y with|false=>simp only[x1,y1,xrw,zk,zh,Bool.not_false,Bool.not_true,xab,xac,sUF]|true=>obtain⟨c,c1,c2⟩:=xzn (x2 rfl) (y2 rfl);cases c with|false=>simp only[x1,y1,c1,xrw,zk,zh,Bool.not_false,Bool.not_true,xab,xac,sUF]|true=>(have h:=xHv (x2 rfl) (y2 rfl) (c2 rfl);obtain⟨B,b1,b2,_⟩:=xvL h;obtain⟨B',d1,d2⟩:=xC3 h;have v0:xfe (Ka.map encN) (a.map encF) (Kb.map encN) (b.map encF)=some true:=by unfold xfe;rw[b1,d1];exact xHd (by rw[zt];have:=h.ka;omega) b2 (by omega) d2);simp only[x1,y1,c1,b1,d1,v0,xrw,zk,zh,Bool.not_true,xab,xac,sUF]
end Go.Sim.M
namespace Go.Sim.M
def xy8(x y:List Int×List Fc){P Q:Prop}(_:P)(_:Q):xjS (x.1.map encN) (x.2.map encF) (y.1.map encN) (y.2.map encF)=some true:=xAT x.1 y.1 x.2 y.2
end Go.Sim.M
namespace Go.Proofs.YtodofdnlhoknhaaGreatDoor.setopDivides
open Go.ChangeShapes Go.WideShapes Go.ChangeAt Go.RowKit Go.Sim
theorem contract(H:Type)(enc:TypeId×Value->H)(W:World)(base:Nat)(args:Array Value)(ds gs:List (DataW H))(before:List MemPlace)(hval:∀(j:Nat) t v,Tryz.f4.params[j]?=some t->args[j]?=some v->Value.okWide Tryz.prog W .any base t v)(hW:DataW.Whole enc Tryz.prog Tryz.f4.params.toList Rows.setopDividesSpec.vars false W args.toList ds gs before)(hL:laidMetH Tryz.prog Rows.setopDividesRow.laid W)(hsh:W.ShapedOpen Tryz.prog):Calls Tryz.prog 4 args W λ e W'=>∃v,e=.returned v/\Rows.setopDividesSpec.post enc Tryz.prog Tryz.f4 false true false false W args v W':=by
 have hW':=hW;obtain⟨p,q,hA0,hV,rfl,hfz,hnd⟩:=hW;have hA:DataW.TrodAll enc Tryz.prog W 0 (λ _=>true) true Tryz.f4.params.toList args.toList ds p:=hA0;have hAk:=hA;rw[Tryz.params4]at hA hval;obtain⟨v0,vs0,d0,ds0,p0,q0,hargs,rfl,rfl,h0,r0⟩:=trodAll_cons hA;obtain⟨v1,vs1,d1,ds1,p1,q1,rfl,rfl,rfl,h1,r1⟩:=trodAll_cons r0;obtain⟨rfl,rfl,rfl⟩:=trodAll_nil r1;obtain rfl:args=#[v0,v1]:=by cases args;simp_all
 obtain⟨rfl,rfl⟩:=trodVars_none hV;obtain⟨a0,rr0,b0,w0⟩:=xzW (hval 0 25 v0 rfl rfl) h0;obtain⟨a1,rr1,b1,w1⟩:=xzW (hval 1 25 v1 rfl rfl) h1;clear hA0;have hI:xMZ W:=xJK rfl (by kernel_rfl) hL hsh;have hpl:=M.xy8 a0 a1 w0 w1;have hg:Sim.Good Tryz.prog xMZ 4 [(.agg [.list 1 (a0.1.map M.encN),.list 3 (a0.2.map M.encF)]),(.agg [.list 1 (a1.1.map M.encN),.list 3 (a1.2.map M.encF)])] (.bool true):=M.xrL _ _ (congrArg (λ x:Option Bool=>some (x.isSome,AV.bool (x.getD false))) hpl);have hrc:RC W (λ _=>False) xMu [v0,v1] [(.agg [.list 1 (a0.1.map M.encN),.list 3 (a0.2.map M.encF)]),(.agg [.list 1 (a1.1.map M.encN),.list 3 (a1.2.map M.encF)])]:=by refine⟨rfl,λ i hi=>?_⟩;match i,hi with|0,_=>exact rr0|1,_=>exact rr1
 refine(hg.2 W (λ _=>False) _ hI (λ _ h=>h.elim) hrc).mono λ e W'⟨v,he,hb,hr⟩=>?_;subst he;obtain rfl:=hr.bool_inv;exact⟨_,rfl,xE1 rfl hW' ⟨rfl,rfl,rfl⟩ rfl Tryz.underlying4 (by simpa using xsh xL0 hb (by kernel_rfl) hAk) hb⟩
noncomputable def wit:Array Value:=#[.agg #[.slice none 0 0,.slice none 0 0],.agg #[.slice none 0 0,.slice none 0 0]]
theorem laid_met(os:Os):laidMet Tryz.prog Rows.setopDividesRow.laid ((xLN Tryz.prog Rows.setopDividesRow.laid os).forCall (λ _ _=>0) ⟨#[],wit,[]⟩).memory:=laidMet_of_run3 8 (by kernel_rfl) (by kernel_rfl) (by kernel_rfl)
theorem reads(os:Os){H:Type}(enc:TypeId×Value->H):∃places,DataW.whole enc Tryz.prog ((xLN Tryz.prog Rows.setopDividesRow.laid os).forCall (λ _ _=>0) ⟨#[],wit,[]⟩).memory Tryz.f4.params.toList Rows.setopDividesSpec.vars false wit.toList 8=some ([.agg [.nil,.nil],.agg [.nil,.nil]],[],places):=⟨[],by kernel_rfl⟩
set_option maxRecDepth 100000 in
theorem lifted(os:Os)(started:os.Started)(H:Type)(enc:TypeId×Value->H)(F:Stop.Interp):ReturnsInHanded {} Tryz.checked os 4 .any ((OpenSpec.ofChange Rows.setopDividesSpec).preRow enc Tryz.prog Tryz.f4 Rows.setopDividesRow.domain false Rows.setopDividesRow.laid) (((OpenSpec.ofChange Rows.setopDividesSpec).at F).post enc Tryz.prog Tryz.f4 false true false false):=by obtain⟨places,hx⟩:=reads os enc;refine returnsInHanded_of_row (C:=Tryz.checked) (s:=OpenSpec.ofChange Rows.setopDividesSpec) xL6 started (by kernel_rfl) Tryz.func4 (witness_row_at (enc:=enc) (C:=Tryz.checked) false (xLN Tryz.prog Rows.setopDividesRow.laid os) wit rfl (by kernel_rfl) (by kernel_rfl) (by kernel_rfl) (OpenSpec.preRow_of_cond 8 hx (by kernel_rfl) (λ k hk=>by cases hk) (by kernel_rfl) (laid_met os))) ?_;intro W base args ds gs before hval hW _ _ _ hL hsh _;exact contract H enc W base args ds gs before hval hW hL hsh
theorem said:Rows.SetopDividesSaid :=
 OpenClaim.holds_of_cond 4 Tryz.f4 rfl rfl rfl rfl rfl rfl rfl ⟨rfl,rfl,rfl,rfl,rfl⟩ rfl rfl rfl rfl rfl (by kernel_rfl) Tryz.func4 (by kernel_rfl)
  (of_decide_eq_true (by kernel_rfl)) (by unfold Func.isWrapper;first|(rw [if_pos (by decide +kernel)];kernel_rfl)|(rw [if_neg (by decide +kernel)];exact ⟨rfl,rfl⟩))
  (fun os started H enc _ F=>by rw [OpenClaim.pre_eq_preRow];exact lifted os started H enc F)
theorem plain(f:FuncId)(fn:Func)(hf:Tryz.pinned.checked.prog.funcNamed "bitemporal/bitemporallaw25.SetopDivides" =some f)(hfn:Tryz.pinned.checked.prog.funcs[f]?=some fn):false=Tryz.pinned.checked.prog.looks []/\∀(j:Nat) t,fn.params[j]?=some t->Tryz.pinned.checked.prog.wantsStandIn t=false:=by obtain rfl:f=4:=Option.some.inj ((show Tryz.prog.funcNamed "bitemporal/bitemporallaw25.SetopDivides" =some 4 by kernel_rfl).symm.trans hf) |>.symm;obtain rfl:fn=Tryz.f4:=(Option.some.inj (Tryz.func4.symm.trans hfn)).symm;refine⟨by kernel_rfl,λ j t ht=>?_⟩;(rw[Tryz.params4]at ht;have hm:=Array.mem_of_getElem? ht;have:([25,25]:List Nat).all (λ t=>!(Tryz.prog.wantsStandIn t)):=by kernel_rfl);have:=List.all_eq_true.1 this t (by simpa using hm);show Tryz.prog.wantsStandIn t=false;simpa using this
theorem card:Rows.SetopDividesCardSaid:=Claim7.holds_tied_plain_at .later [] _ _ _ _ said (λ _ h=>by cases h) (by kernel_rfl) (λ _ h=>by cases h) setopDivides_row_tie rfl ⟨rfl,rfl⟩ (by kernel_rfl) rfl plain (by kernel_rfl)
end Go.Proofs.YtodofdnlhoknhaaGreatDoor.setopDivides
