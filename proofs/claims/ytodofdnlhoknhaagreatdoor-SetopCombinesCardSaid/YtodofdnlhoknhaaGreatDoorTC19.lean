/- Part 19 of the proof of the law. -/
import Derived.Test.YtodofdnlhoknhaaGreatDoorTC18
set_option linter.defProp false
set_option linter.unusedVariables false
set_option linter.unusedSimpArgs false
set_option maxRecDepth 100000
set_option maxRecDepth 10000
noncomputable section
namespace Go.Sim.M
open Go.RowKit Go.Sim.Srt
def U1(f t:Int)(row:List Int)(hl:row.length<=8):gE f t (row.map encN)=some ((row.map iv).map encV,f,t):=by
 have key:=tC (step:=Az (row.map encN)) (fun k=>(((k:Nat):Int),(0:Int),(0:Int),f,t,((row.take k).map iv).length,((row.take k).map iv).map encV)) row.length ((0:Int),(0:Int),(row.map iv).length,f,t,(row.map iv).map encV) (fun k hk=>by
  have i1:(k:Int)<(row.length:Int):=Ω
  have gf:(row.map encN).getD k .top=encN row[k]:=cQ _ _ _ hk;have tl:((row.take k).map iv).length<=8:=by rw[za,zt];omega
  have m1:(((row.take k).map iv).length+1)*32<=140737488355328:=Ω
  have m2:((row.take k).map iv).length+1<=4611686018427387904:=Ω
  have tk:(row.take (k+1)).map iv=(row.take k).map iv++[iv row[k]]:=by rw[List.take_add_one,ze hk,zx];rfl
  rw[tk];generalize (row.take k).map iv=D at m1 m2;simp only[Az,Ix,za,z8,zj,i1,hk,gf,cN,sN,m1,m2,zN,Int.natCast_nonneg,beq_self_eq_true,zn,Bool.and_self,zS,aW,dO (n:=k) Ω,zx,zV,zW,aH]
  simp [encV,iv]) (by
  simp only [Az,Ix,za,zy,zm,bE,y6,aH]) row.length 0 Ω
 have key:aB (Az (row.map encN)) ((0:Int),(0:Int),(0:Int),f,t,(0:Nat),[])=some ((0:Int),(0:Int),(row.map iv).length,f,t,(row.map iv).map encV):=key;generalize row.map iv=D at key;have tt:List.take D.length (D.map encV)=D.map encV:=zi Ψ;unfold gE Qi;simp only[x3,PG,key,zk,zh,aW,za,zH,zd,zn,Bool.and_self,zr,tt,aH]
def VP(c:Nat)(hc:c<=8)(l:List AV):uG (c:Int) l=some ((List.replicate c (1:Int)).map encN,l):=by
 have key:=tC (step:=Au (c:Int)) (fun k=>(((k:Nat):Int),l,(List.replicate k (1:Int)).length,(List.replicate k (1:Int)).map encN)) c ((List.replicate c (1:Int)).length,l,(List.replicate c (1:Int)).map encN) (fun k hk=>by
  have i1:(k:Int)<(c:Int):=Ω
  have tl:(List.replicate k (1:Int)).length<=8:=by rw[List.length_replicate];omega
  have m1:((List.replicate k (1:Int)).length+1)*8<=140737488355328:=Ω
  have m2:(List.replicate k (1:Int)).length+1<=4611686018427387904:=Ω
  have tk:List.replicate (k+1) (1:Int)=List.replicate k 1++[1]:=List.replicate_succ';rw [tk];generalize List.replicate k (1:Int)=D at m1 m2;simp only [Au,G8,za,z8,zj,i1,m1,m2,beq_self_eq_true,zn,Bool.and_self,aW,dO (n:=k) Ω,zx,zV,zW,encN,aH]) (by
  simp only [Au,G8,zy,zm,bE,aH]) c 0 Ω
 have key:aB (Au (c:Int)) ((0:Int),l,(0:Nat),[])=some ((List.replicate c (1:Int)).length,l,(List.replicate c (1:Int)).map encN):=key;generalize List.replicate c (1:Int)=D at key;have tt:List.take D.length (D.map encN)=D.map encN:=zi Ψ;unfold uG OD;simp only[Bh,N8,key,zk,zh,aW,za,zH,zd,zn,Bool.and_self,zr,tt,aH]
def mJ(f t a:Int):gE f t [AV.int .i64 a]=some ([encV (iv a)],f,t):=U1 f t [a] Ψ
def F7(f t a b:Int):gE f t [AV.int .i64 a,AV.int .i64 b]=some ([encV (iv a),encV (iv b)],f,t):=U1 f t [a,b] Ψ
def wC(l:List AV):uG 1 l=some (([1]:List Int).map encN,l):=VP 1 Ω l
def L5(l:List AV):uG 2 l=some (([1,1]:List Int).map encN,l):=VP 2 Ω l
def xHo:x9 (([1]:List Int).map encN) (iO.map encF) (([1]:List Int).map encN) (jT.map encF)=some (([1]:List Int).map encN,(mk [iv 1] wL).map encF):=by obtain⟨B,e,h⟩:=Tj [1] (([1]:List Int).map encN) Ψ Ga MU (by simp[iO,jT]) (kH.few (by simp[iO,jT]));rw[h.isB.unique Lx]at e;exact e
def xFJ:x7 (([1]:List Int).map encN) (iO.map encF) (([1]:List Int).map encN) (jT.map encF)=some (([1]:List Int).map encN,(mk [iv 1] wn).map encF):=by obtain⟨B,e,h⟩:=Z4 [1] (([1]:List Int).map encN) Ψ Ga MU (by simp[iO,jT]) (kH.few (by simp[iO,jT]));rw[h.isB.unique Ly]at e;exact e
def xHn:xX (([1]:List Int).map encN) (iO.map encF) (([1]:List Int).map encN) (jT.map encF)=some (([1]:List Int).map encN,(mk [iv 1] [(4,7)]).map encF):=by obtain⟨B,e,h⟩:=Tf [1] (([1]:List Int).map encN) Ψ Ga MU (by simp[iO,jT]) (kH.few (by simp[iO,jT]));rw[h.isB.unique Lv]at e;exact e
def xI3:th (([1]:List Int).map encN) (iO.map encF)=some (([1]:List Int).map encN,(mk [iv 1] [(0,9)]).map encF):=by obtain⟨B,e,_,h⟩:=YF [1] Ψ Ga (by simp[iO]) (kH.few (by simp[iO]));rw[h.isB.unique Lu]at e;exact e
def xKP:Jm (([1,1]:List Int).map encN) (mj.map encF) (([1]:List Int).map encN) (mR.map encF)=some (([1]:List Int).map encN,(mk [iv 1] [(0,6)]++mk [iv 2] [(0,4),(8,9)]).map encF):=by obtain⟨B,e,h,_⟩:=xE0 xOh;rw[h.isB.unique Lw]at e;exact e
def Fq{l:List Fc}(hl:l.length<=8)(hr:∀f,f∈l->f.r.length<=60):qZ (l.map encF) (l.map encF)=some true:=xIo Ω hr
def Tm:BP=some true:=by
 have E40:DM:=by unfold DM;rw[mJ];rfl
 have E17:Ie=some (([1]:List Int).map encN,iO.map encF):=by unfold Ie to xM Iu;rw[mJ,mJ,wC];rfl
 have E20:Ih=some (([1]:List Int).map encN,jT.map encF):=by unfold Ih Iv;rw[mJ,wC];rfl
 have E11:Ia=some (([1,1]:List Int).map encN,mj.map encF):=by unfold Ia Ii Ij Ik;rw[F7,F7,F7,L5];rfl
 have E16:Ic=some (([1]:List Int).map encN,mR.map encF):=by unfold Ic Is In;rw[mJ,mJ,wC];rfl
 have F9:uF=([1]:List Int).map encN:=by unfold uF Ib;rw[E17];rfl
 have F8:uD=iO.map encF:=by unfold uD Ib;rw[E17];rfl
 have F13:DL=([1]:List Int).map encN:=by unfold DL Ig;rw[E20];rfl
 have F12:Br=jT.map encF:=by unfold Br Ig;rw[E20];rfl
 have E7:IW=some (([1]:List Int).map encN,(mk [iv 1] wL).map encF):=by unfold IW;rw[F9,F8,F13,F12];exact xHo
 have E5:IT=some (([1]:List Int).map encN,(mk [iv 1] wn).map encF):=by unfold IT;rw[F9,F8,F13,F12];exact xFJ
 have E6:IU=some (([1]:List Int).map encN,(mk [iv 1] [(4,7)]).map encF):=by unfold IU;rw[F9,F8,F13,F12];exact xHn
 have ED:th uF uD=some (([1]:List Int).map encN,(mk [iv 1] [(0,9)]).map encF):=by rw[F9,F8];exact xI3
 have E1:IP=some (([1]:List Int).map encN,(mk [iv 1] [(0,6)]++mk [iv 2] [(0,4),(8,9)]).map encF):=by unfold IP O6 O7;rw[E11,E16];exact xKP
 have E3:IR=some true:=by
  unfold IR to xM Ir Io;rw [E7,mJ,mJ,mJ];exact Fq (l:=mk [iv 1] wL) (by simp [mk,wL]) (fun f hf=>by
   obtain ⟨p,_,rfl⟩:=zK.1 hf;simp)
 have E2:IQ=some true:=by
  unfold IQ It Iw Il;rw [E5,mJ,mJ,mJ];exact Fq (l:=mk [iv 1] wn) (by simp [mk,wn]) (fun f hf=>by
   obtain ⟨p,_,rfl⟩:=zK.1 hf;simp)
 have E4:IS=some true:=by
  unfold IS;rw [E6,F12];exact Fq (l:=mk [iv 1] [(4,7)]) (by simp [mk]) (fun f hf=>by
   obtain ⟨p,_,rfl⟩:=zK.1 hf;simp)
 have E18:If=some true:=by
  unfold If to xM;rw [ED,mJ];exact Fq (l:=mk [iv 1] [(0,9)]) (by simp [mk]) (fun f hf=>by
   obtain ⟨p,_,rfl⟩:=zK.1 hf;simp)
 have E0:IN=some true:=by
  unfold IN Ip Iq Im;rw [E1,mJ,mJ,mJ];exact Fq (l:=mk [iv 1] [(0,6)]++mk [iv 2] [(0,4),(8,9)]) (by simp [mk]) (fun f hf=>by
   rcases zG.1 hf with hf|hf;all_goals
    obtain ⟨p,_,rfl⟩:=zK.1 hf;simp)
 unfold BP PF;simp only[mJ,F7,E40,E17,E20,E11,E16,E7,E5,E6,ED,E1,E3,E2,E4,E18,E0,zk,zh,aW,aH]
def xBw(Ka Kb:List Int)(a b:List Fc):NH (Ka.map encN) (a.map encF) (Kb.map encN) (b.map encF)=some true:=by obtain⟨c,c1,c2⟩:=xJI Ka Kb a b;unfold NH NF;cases c with|false=>simp only[c1,Tm,zk,zh,Bool.not_false,aW,aH]|true=>
 obtain⟨ha,hb,rfl⟩:=c2 rfl;have hk:=ha.kl;have la:=ha.len;have lb:=hb.len;obtain⟨U,u1,u2⟩:=Tj Ka (Ka.map encN) Ω ha.nice hb.nice Ω (F3 _);obtain⟨X,x1,x2⟩:=Z4 Ka (Ka.map encN) Ω ha.nice hb.nice Ω (F3 _);obtain⟨M,m1,m2⟩:=Tf Ka (Ka.map encN) Ω ha.nice hb.nice Ω (F3 _);obtain⟨D,d1,d2,d3⟩:=YF Ka Ω ha.nice Ω (F3 _);obtain⟨U',v1,v2⟩:=xG0 (Ka.map encN) (Ka.map encN) a b ha.nice hb.nice Ω;obtain⟨X',y1,y2⟩:=xEY (Ka.map encN) (Ka.map encN) a b ha.nice hb.nice Ω;obtain⟨M',n1,n2⟩:=xGV (Ka.map encN) (Ka.map encN) a b ha.nice hb.nice Ω;obtain⟨D',e1,e2⟩:=xBU (Ka.map encN) a ha.nice Ω;have f2:GF (Ka.map encN) (a.map encF) (Ka.map encN) (b.map encF)=some true:=by unfold GF;rw[u1,v1];exact Kw hk u2 Ω v2
 have f0:GN (Ka.map encN) (a.map encF) (Ka.map encN) (b.map encF)=some true:=by unfold GN;rw[x1,y1];exact Kw hk x2 Ω y2
 have f1:GO (Ka.map encN) (a.map encF) (Ka.map encN) (b.map encF)=some true:=by unfold GO;rw[m1,n1];exact Kw hk m2 Ω n2
 have f3:GG (Ka.map encN) (a.map encF)=some true:=by unfold GG;rw[d1,e1];exact Kw hk d3 Ω e2.isB
 simp only[c1,Tm,u1,v1,f2,x1,y1,f0,m1,n1,f1,d1,e1,f3,zk,zh,Bool.not_true,aW,bE,aH]
end Go.Sim.M
namespace Go.Sim.M
def xAs(x y:List Int×List Fc){P Q:Prop}(_:P)(_:Q):NH (x.1.map encN) (x.2.map encF) (y.1.map encN) (y.2.map encF)=some true:=xBw x.1 y.1 x.2 y.2
end Go.Sim.M
namespace Go.Proofs.YtodofdnlhoknhaaGreatDoor.setopCombines
open Go.ChangeShapes Go.WideShapes Go.ChangeAt Go.RowKit Go.Sim
theorem contract(H:Type)(enc:TypeId×Value->H)(W:World)(base:Nat)(args:Array Value)(ds gs:List (DataW H))(before:List MemPlace)(hval:∀(j:Nat) t v,Tryz.f3.params[j]?=some t->args[j]?=some v->Value.okWide Tryz.prog W .any base t v)(hW:DataW.Whole enc Tryz.prog Tryz.f3.params.toList Rows.setopCombinesSpec.vars false W args.toList ds gs before)(hL:laidMetH Tryz.prog Rows.setopCombinesRow.laid W)(hsh:W.ShapedOpen Tryz.prog):Calls Tryz.prog 3 args W λ e W'=>∃v,e=.returned v/\Rows.setopCombinesSpec.post enc Tryz.prog Tryz.f3 false true false false W args v W':=by
 have hW':=hW;obtain⟨p,q,hA0,hV,rfl,hfz,hnd⟩:=hW;have hA:DataW.TrodAll enc Tryz.prog W 0 (λ _=>true) true Tryz.f3.params.toList args.toList ds p:=hA0;have hAk:=hA;rw[Tryz.params3]at hA hval;obtain⟨v0,vs0,d0,ds0,p0,q0,hargs,rfl,rfl,h0,r0⟩:=trodAll_cons hA;obtain⟨v1,vs1,d1,ds1,p1,q1,rfl,rfl,rfl,h1,r1⟩:=trodAll_cons r0;obtain⟨rfl,rfl,rfl⟩:=trodAll_nil r1;obtain rfl:args=#[v0,v1]:=by cases args;simp_all
 obtain⟨rfl,rfl⟩:=trodVars_none hV;obtain⟨a0,rr0,b0,w0⟩:=TG (hval 0 25 v0 rfl rfl) h0;obtain⟨a1,rr1,b1,w1⟩:=TG (hval 1 25 v1 rfl rfl) h1;clear hA0;have hI:xO6 W:=xLC rfl Θ hL hsh;have hpl:=M.xAs a0 a1 w0 w1;have hg:Sim.Good Tryz.prog xO6 3 [(.agg [.list 1 (a0.1.map M.encN),.list 3 (a0.2.map M.encF)]),(.agg [.list 1 (a1.1.map M.encN),.list 3 (a1.2.map M.encF)])] (.bool true):=M.xs2 _ _ (congrArg (λ x:Option Bool=>some (x.isSome,AV.bool (x.getD false))) hpl);have hrc:RC W (λ _=>False) eF [v0,v1] [(.agg [.list 1 (a0.1.map M.encN),.list 3 (a0.2.map M.encF)]),(.agg [.list 1 (a1.1.map M.encN),.list 3 (a1.2.map M.encF)])]:=by refine⟨rfl,λ i hi=>?_⟩;match i,hi with|0,_=>exact rr0|1,_=>exact rr1
 refine(hg.2 W (λ _=>False) _ hI (λ _ h=>h.elim) hrc).mono λ e W'⟨v,he,hb,hr⟩=>?_;subst he;obtain rfl:=hr.bool_inv;exact⟨_,rfl,xGK rfl hW' ⟨rfl,rfl,rfl⟩ rfl Tryz.underlying4 (by simpa using Yt xOa hb Θ hAk) hb⟩
noncomputable def wit:Array Value:=#[.agg #[.slice none 0 0,.slice none 0 0],.agg #[.slice none 0 0,.slice none 0 0]]
theorem laid_met(os:Os):laidMet Tryz.prog Rows.setopCombinesRow.laid ((MW Tryz.prog Rows.setopCombinesRow.laid os).forCall (λ _ _=>0) ⟨#[],wit,[]⟩).memory:=laidMet_of_run3 8 Θ Θ Θ
theorem reads(os:Os){H:Type}(enc:TypeId×Value->H):∃places,DataW.whole enc Tryz.prog ((MW Tryz.prog Rows.setopCombinesRow.laid os).forCall (λ _ _=>0) ⟨#[],wit,[]⟩).memory Tryz.f3.params.toList Rows.setopCombinesSpec.vars false wit.toList 8=some ([.agg [.nil,.nil],.agg [.nil,.nil]],[],places):=⟨[],by kernel_rfl⟩
set_option maxRecDepth 100000 in
theorem lifted(os:Os)(started:os.Started)(H:Type)(enc:TypeId×Value->H)(F:Stop.Interp):ReturnsInHanded {} Tryz.checked os 3 .any ((OpenSpec.ofChange Rows.setopCombinesSpec).preRow enc Tryz.prog Tryz.f3 Rows.setopCombinesRow.domain false Rows.setopCombinesRow.laid) (((OpenSpec.ofChange Rows.setopCombinesSpec).at F).post enc Tryz.prog Tryz.f3 false true false false):=by obtain⟨places,hx⟩:=reads os enc;refine returnsInHanded_of_row (C:=Tryz.checked) (s:=OpenSpec.ofChange Rows.setopCombinesSpec) xOg started (by kernel_rfl) Tryz.func3 (witness_row_at (enc:=enc) (C:=Tryz.checked) false (MW Tryz.prog Rows.setopCombinesRow.laid os) wit rfl (by kernel_rfl) (by kernel_rfl) (by kernel_rfl) (OpenSpec.preRow_of_cond 8 hx (by kernel_rfl) (λ k hk=>by cases hk) (by kernel_rfl) (laid_met os))) ?_;intro W base args ds gs before hval hW _ _ _ hL hsh _;exact contract H enc W base args ds gs before hval hW hL hsh
theorem said:Rows.SetopCombinesSaid :=
 OpenClaim.holds_of_cond 3 Tryz.f3 rfl rfl rfl rfl rfl rfl rfl ⟨rfl,rfl,rfl,rfl,rfl⟩ rfl rfl rfl rfl rfl (by kernel_rfl) Tryz.func3 (by kernel_rfl)
  (of_decide_eq_true (by kernel_rfl)) (by unfold Func.isWrapper;first|(rw [if_pos (by decide +kernel)];kernel_rfl)|(rw [if_neg (by decide +kernel)];exact ⟨rfl,rfl⟩))
  (fun os started H enc _ F=>by rw [OpenClaim.pre_eq_preRow];exact lifted os started H enc F)
theorem plain(f:FuncId)(fn:Func)(hf:Tryz.pinned.checked.prog.funcNamed "bitemporal/bitemporallaw25.SetopCombines" =some f)(hfn:Tryz.pinned.checked.prog.funcs[f]?=some fn):false=Tryz.pinned.checked.prog.looks []/\∀(j:Nat) t,fn.params[j]?=some t->Tryz.pinned.checked.prog.wantsStandIn t=false:=by obtain rfl:f=3:=Option.some.inj ((show Tryz.prog.funcNamed "bitemporal/bitemporallaw25.SetopCombines" =some 3 by kernel_rfl).symm.trans hf) |>.symm;obtain rfl:fn=Tryz.f3:=(Option.some.inj (Tryz.func3.symm.trans hfn)).symm;refine⟨by kernel_rfl,λ j t ht=>?_⟩;(rw[Tryz.params3]at ht;have hm:=Array.mem_of_getElem? ht;have:([25,25]:List Nat).all (λ t=>!(Tryz.prog.wantsStandIn t)):=by kernel_rfl);have:=List.all_eq_true.1 this t (by simpa using hm);show Tryz.prog.wantsStandIn t=false;simpa using this
theorem card:Rows.SetopCombinesCardSaid:=Claim7.holds_tied_plain_at .later [] _ _ _ _ said (λ _ h=>by cases h) Θ (λ _ h=>by cases h) setopCombines_row_tie rfl ⟨rfl,rfl⟩ Θ rfl plain Θ
end Go.Proofs.YtodofdnlhoknhaaGreatDoor.setopCombines
