/- Part 14 of the proof of the law. -/
import Derived.Test.YtoemghmemdnelaaGreatDoorGT13
import Derived.Deep.LoopGhost
import Derived.Lib.SliceRun
set_option linter.unusedVariables false
set_option linter.unusedSimpArgs false
noncomputable section
namespace Go.Proofs
open Go.RowKit Go.Lib Go.Shelf
set_option maxHeartbeats 2000000 in
set_option maxRecDepth 100000 in
theorem Tryz.clone_nil (n c:Nat) (w:World) :
  Calls Tryz.prog 163 #[.slice none n c] w fun e w'=>e=.returned (.slice none 0 0)∧w'=w:=by
 have q22:∀ (w:World) (a:Option Addr) (n c n' c':Nat),(binOp .eql 57 (.slice a n c) (.slice none n' c')).run Tryz.prog w=.ok (.bool a.isNone) w:=fun w a n c n' c'=>Lib.run_eql_slice_nil w 57 76 a n c n' c' (by kernel_rfl)
 go_enter Tryz.func163,Tryz.ntmps163
 go_wp2
 go_ret
 exact ⟨rfl,rfl⟩
set_option maxHeartbeats 2000000 in
set_option maxRecDepth 100000 in
theorem Tryz.clone_some (i0:TypeInfo) (z:Value) (hi:Tryz.prog.info? 76=some i0) (hz0:i0.zero=some z) (hz1:i0.size=3) (hz2:i0.bytes=32) (hzs:z.cells.size=3)
  (a:Addr) (n c:Nat) (news:List Value) (w:World) (hl:news.length=n*3) (hn:n≤maxLen) (hbig:n*32≤140737488355328)
  (hc:∀ j u,news[j]?=some u→w.cell? (a.add j)=some u) (h1:∀ u∈news,u.oneCell'=true) :
  Calls Tryz.prog 163 #[.slice (some a) n c] w fun e w'=>∃ v',e=.returned v'∧w'.ownsRow w.heap.size 76 3 v' n news∧Below w.heap.size w w':=by
 have t22:Tryz.prog.underlying 57=some (.slice 76):=by kernel_rfl
 have q22:∀ (w:World) (a:Option Addr) (n c n' c':Nat),(binOp .eql 57 (.slice a n c) (.slice none n' c')).run Tryz.prog w=.ok (.bool a.isNone) w:=fun w a n c n' c'=>Lib.run_eql_slice_nil w 57 76 a n c n' c' t22
 have u22:∀ w,Sem.run Tryz.prog (underlying 57) w=.ok (TypeDesc.slice 76) w:=run_underlying t22
 have A:Aside (∀ j u,news[j]?=some u→w.cell? (a.add j)=some u):=hc
 clear hc
 go_enter Tryz.func163,Tryz.ntmps163
 go_wp2_with (at_builtin;refine wpList_append_own _ rfl _ _ 57 rfl w.heap.size 76 i0 z 3 32 t22 hi hz0 hz1 hz2 hzs (by decide) _ _ _ rfl (World.ownsRow_made w #[] 0 (Nat.le_refl _) (Nat.zero_le _) (by simp)) a n c news rfl ?qc1 ?qc2 ?qc3 ?qc4 ?qc5 ?qc6 ?_)
 case qc1=>exact hl
 case qc2 =>
  intro j u hj
  exact Lib.cell?_alloc_some _ (A.out j u hj)
 case qc3=>exact h1
 case qc4=>rw [Nat.zero_add];exact hn
 case qc5=>rw [Nat.zero_add];exact hbig
 case qc6=>simp
 intro v' w1 hown hgrow hnil
 go_wp2
 go_ret
 refine ⟨v',rfl,by simpa using hown,?_⟩
 exact ((Below.refl _ w).alloc (Nat.le_refl _) _).grown hgrow (by simp) (by intro k hk;simp [Value.ownBlock] at hk;omega)
end Go.Proofs
namespace Go.Sim
open Go.RowKit Go.Proofs
def xds:List AV→Option (Bool×AV)
 | [.list 3 xs]=>some (decide (xs.length≤4398046511104),.list 3 xs)
 | _=>none
theorem xgg {w w':World} {A:Nat→Prop} {e:TypeId} {sz:Nat} {v:Value} {xs:List AV} {news:List Value} (hl:∀ b,A b→b<w.heap.size) (hown:w'.ownsRow w.heap.size e sz v xs.length news) (hok:∀ x,x∈xs→x.okElem sz=true)
  (hr:∀ i j,i<xs.length→j<sz→Rel w' A noBox (news.getD (i*sz+j) undef) ((xs.getD i .top).cells.getD j .top)):Rel w' A noBox v (.list sz xs):=by
 obtain ⟨hlen,h⟩:=hown
 rcases h with ⟨rfl,h0⟩|⟨g,cap,cur,rfl,hg,hh,hle,hcm,hcs,htk⟩
 · have:xs=[]:=List.eq_nil_of_length_eq_zero h0
   subst this
   exact .list0 _ _ _
 · by_cases hne:xs=[]
   · subst hne;exact .list0 _ _ _
   · have hgl:g<w'.heap.size:=by
      rcases Nat.lt_or_ge g w'.heap.size with h|h
      · exact h
      · rw [Array.getElem?_eq_none h] at hh;simp at hh
     have hcell:∀ i j,i<xs.length→j<sz→w'.cell? ⟨g,0+i*sz+j,none⟩=some (news.getD (i*sz+j) undef):=fun i j hi hj=>by
      have hk:i*sz+j<xs.length*sz:=xaP hi hj
      have hk2:i*sz+j<cur.size:=by
       rw [hcs];exact Nat.lt_of_lt_of_le hk (Nat.mul_le_mul_right _ hle)
      have e1:news.getD (i*sz+j) undef=cur[i*sz+j]:=by
       rw [←htk];simp [List.getD_eq_getElem?_getD,List.getElem?_take,hk,hk2]
      rw [e1,Nat.zero_add]
      simp [World.cell?,hh,hk2]
     exact .list g 0 cap sz xs (fun i j=>news.getD (i*sz+j) undef) (fun hA=>by have:=hl g hA;omega) hgl hne hle hok hcell hr
theorem xiC:OcOk Tryz.prog ITryz 163 xds:=fun xs r h=>by
 unfold xds at h;split at h
 · rename_i xs
   simp only [Option.some.injEq,Prod.mk.injEq,decide_eq_true_eq] at h;obtain ⟨hle,rfl⟩:=h
   refine ⟨xbW Tryz.func163 rfl (by kernel_rfl),fun w A vs hI hA hrc=>?_⟩
   obtain ⟨v,rfl,h1⟩:=rc1 hrc
   have hti:∃ ti,tinfo Tryz.prog 76=some ti∧ti.sz=3∧ti.bytes=32∧ti.zero.okElem 3=true:=by
    have h:(match tinfo Tryz.prog 76 with|some ti=>(ti.sz==3)&&((ti.bytes==32)&&ti.zero.okElem 3)|none=>false)=true:=by kernel_rfl
    split at h
    · rename_i ti hti
      simp only [Bool.and_eq_true,beq_iff_eq] at h
      exact ⟨ti,hti,h.1,h.2.1,h.2.2⟩
    · simp at h
   obtain ⟨ti,hti,s1,s2,s3⟩:=hti
   obtain ⟨i,z,g1,g2,g3,g4,g5,g6,_⟩:=xaj hti
   have hzs:z.cells.size=3:=by
    have hrz:Rel w A noBox z ti.zero:=by rw [g6];exact xaQ w A noBox z
    rw [(hrz.cells (xah s3)).1,xab s3]
   have hnil:∀ n c,v=.slice none n c→xs=[]→Calls Tryz.prog 163 [v].toArray w fun e w'=>∃ v,e=.returned v∧Below w.heap.size w w'∧Rel w' A noBox v (.list 3 xs):=by
    rintro n c rfl rfl
    refine (Tryz.clone_nil n c w).mono ?_
    rintro e w' ⟨rfl,rfl⟩
    exact ⟨_,rfl,Below.refl _ _,.list0 _ _ _⟩
   have hsome:∀ b off c (val:Nat→Nat→Value),v=.slice (some ⟨b,off,none⟩) xs.length c→(∀ x,x∈xs→x.okElem 3=true)→(∀ i j,i<xs.length→j<3→w.cell? ⟨b,off+i*3+j,none⟩=some (val i j))→(∀ i j,i<xs.length→j<3→Rel w A noBox (val i j) ((xs.getD i .top).cells.getD j .top)) →
     Calls Tryz.prog 163 [v].toArray w fun e w'=>∃ v,e=.returned v∧Below w.heap.size w w'∧Rel w' A noBox v (.list 3 xs):=by
    rintro b off c val rfl hok hc hr
    have hs:∀ i j,i<xs.length→j<3→∃ u,w.cell? ⟨b,off+(i*3+j),none⟩=some u∧Rel w A noBox u ((xs.getD i .top).cells.getD j .top):=fun i j hi hj=>⟨val i j,by rw [←Nat.add_assoc];exact hc i j hi hj,hr i j hi hj⟩
    refine (Tryz.clone_some i z g1 g3 (by rw [←g4,s1]) (by rw [←g5,s2]) hzs ⟨b,off,none⟩ xs.length c (srcCells w b off (xs.length*3)) w (xbN _ _ _ _) (by unfold maxLen;omega) (by omega)
     (fun j u hj=>xfO (by decide) hs j u hj) (xld (by decide) hs hok)).mono ?_
    rintro e w' ⟨v',rfl,hown,hbel⟩
    exact ⟨v',rfl,hbel,xgg hA hown hok fun i j hi hj=>(xle hs hi hj).grow hbel⟩
   have h1':=h1
   generalize hx:AV.list 3 xs=x at h1
   cases h1 with
   | list0 a cap sz =>
    simp only [AV.list.injEq] at hx
    obtain ⟨rfl,rfl⟩:=hx
    cases a with
    | none=>exact hnil 0 cap rfl rfl
    | some a =>
     refine (Tryz.clone_some i z g1 g3 (by rw [←g4,s1]) (by rw [←g5,s2]) hzs a 0 cap [] w rfl (Nat.zero_le _) (by omega) (by simp) (by simp)).mono ?_
     rintro e w' ⟨v',rfl,hown,hbel⟩
     exact ⟨v',rfl,hbel,xgg hA (xs:=[]) hown (by simp) (by simp)⟩
   | list b off cap sz ys val ha hb hne hcap hsz hc hr =>
    simp only [AV.list.injEq] at hx
    obtain ⟨rfl,rfl⟩:=hx
    exact hsome b off cap val rfl hsz hc hr
   | _=>simp at hx
 · simp at h
end Go.Sim
end
noncomputable section
set_option maxRecDepth 100000
namespace Go.Sim.M
open Go.IntKind (i64 u64 u8)
open Go.RowKit Go.Proofs
def xeG (x:Int):Bool:=((x != x))
def xdy (x y:Int):Int:=(br (xeG x) (br (xeG y) ((0)) (((-1)))) (br (xeG y) ((1)) (br (decide (x<y)) (((-1))) (br (decide (x>y)) ((1)) ((0))))))
def xjX (a b c:Int):Int:=(br (a != 0) ((a)) (br (b != 0) ((b)) (br (c != 0) ((c)) ((0)))))
def xax (a b:Int) (c:List UInt8) (d e:Int) (f:List UInt8):Int:=((xjX (xdy a d) (xdy b e) (Lib.compareBytes c f)))
end Go.Sim.M
end
noncomputable section
namespace Go.Sim.M
open Go.RowKit Go.Proofs
def E0:Env:=((((Env.none.with 136 xcV).with 98 xdu).with 163 xds).withM 129 xeX).withM 100 xc1
theorem xoU:OrcOk Tryz.prog ITryz E0:=((((xh0.with xgV).with xiJ).with xiC).withM xkv).withM xhh
end Go.Sim.M
end
noncomputable section
set_option maxRecDepth 100000
namespace Go.Sim
def stepX (P:Program) (E:Env) (live liveO:List Nat) (conv:List (Nat×Nat×TypeId)) (c:Code) (s:List AV×List Box):Option ((List AV×List Box)⊕{r:Exit×List AV×List Box // r.1≠.normal}) :=
 match XR P E live liveO conv c s.1 s.2 with
 | some (.normal,v,H)=>some (.inl (v,H))
 | some (.exit i,v,H)=>some (.inr ⟨(.exit i,v,H),by simp⟩)
 | some (.ret,v,H)=>some (.inr ⟨(.ret,v,H),by simp⟩)
 | _=>none
def closedLp (P:Program) (E:Env) (live liveO:List Nat) (conv:List (Nat×Nat×TypeId)) (c:Code) (n:Nat):Lp:=⟨live,liveO,conv,fun vals H =>
 match iterN (stepX P E live liveO conv c) n (vals,H) with
 | some r=>some (true,.leaf r.1.1 r.1.2.1 r.1.2.2)
 | none=>none⟩
theorem xdw {P:Program} {Inv:IV} {E:Env} (hmx:P.follows .mixedOrders=true) (hIo:InvOk Inv) (hpin:Inv.pin=E.pin) (hor:OrcOk P Inv E) {c:Code} (hlo:LoOk P Inv E c) {live liveO:List Nat} {conv:List (Nat×Nat×TypeId)} {n:Nat} :
  LoopOk P Inv E.nt c (closedLp P E live liveO conv c n):=fun vals H r h=>by
 simp only [closedLp] at h
 split at h
 case h_2=>simp at h
 rename_i r0 hr
 simp only [Option.some.injEq,Prod.mk.injEq,true_and] at h
 subst h
 exact xbY hmx hIo hpin hor hlo (σ:=List AV×List Box) (ρ:={r:Exit×List AV×List Box // r.1≠.normal}) (step:=stepX P E live liveO conv c) (fun s=>s) (fun r=>.leaf r.1.1 r.1.2.1 r.1.2.2) (fun r=>r.2)
  (fun s r hs=>by
   unfold stepX at hs
   split at hs<;>simp only [Option.some.injEq,reduceCtorEq] at hs
   all_goals (subst hs;rename_i hx;exact hx)) (s:=(vals,H)) (r:=r0) (xeh.2 ⟨n,hr⟩)
end Go.Sim
namespace Go.Sim.M
open Go.RowKit Go.Proofs
def mmA (g:FuncId):Bool:=([97,99,
 80,117,141,
 113,140,169,
 102,131,155,104,
 138,168,192,
 164,189,203,
 82,112,84,125,
 41,42,49,51,50,66]:List Nat).contains g
noncomputable def EA0:Env:={ E0 with ls:=lsOf [57,59,159],fuel:=1000 }
theorem xd7:OrcOk Tryz.prog ITryz EA0:=xoU
noncomputable def EAr:Env:={ Env.deep Tryz.prog mmA EA0 10 with pin:=0,nt:=60,ls:=lsOf [] }
theorem xl7:OrcOk Tryz.prog (ITryz.at 0) EAr:=xbp mxTryz mmA (inv0Ok Tryz.prog 0) xd7 (fun _=>rfl) 10
noncomputable def xl6:Lp:=closedLp Tryz.prog EAr [3,4,11,12,13] [4] [(4,2,150460170399)] (loopAt Tryz.f111 0) 100
noncomputable def EAr1:Env:={ EAr with lp:=lpsOf [(codeId (loopAt Tryz.f111 0),xl6)] }
theorem xnU:OrcOk Tryz.prog (ITryz.at 0) EAr1:=xl7
noncomputable def xiB:List AV→Option (Bool×AV):=fun xs=>match XF Tryz.prog EAr1 Tryz.f111 (Tryz.f111.body.getD .skip) xs with
 | some r=>some (true,r)
 | none=>none
theorem xot:OcOk Tryz.prog ITryz 111 xiB:=fun xs r h=>by
 unfold xiB at h
 split at h
 case h_2=>simp at h
 rename_i r0 hr
 simp only [Option.some.injEq,Prod.mk.injEq,true_and] at h
 subst h
 refine xay (p:=0) (xaU mxTryz (inv0Ok Tryz.prog _) rfl xnU Tryz.func111 rfl (by kernel_rfl) (xco (ls:=[loopAt Tryz.f111 0]) (by kernel_rfl) (fun l hl lp hs=>?_)) hr)
 simp only [List.mem_cons,List.not_mem_nil,or_false] at hl
 subst hl
 rw [show EAr1.lp (codeId (loopAt Tryz.f111 0))=some xl6 by kernel_rfl] at hs
 simp only [Option.some.injEq] at hs
 subst hs
 exact xdw (E:=EAr) mxTryz (inv0Ok Tryz.prog _) rfl xl7 (xbu fun _=>rfl)
noncomputable def EAgr:Env:={ Env.deep Tryz.prog mmA EA0 12 with pin:=0,nt:=57,ls:=lsOf [57,59] }
theorem xkU:OrcOk Tryz.prog (ITryz.at 0) EAgr:=xbp mxTryz mmA (inv0Ok Tryz.prog 0) xd7 (fun _=>rfl) 12
noncomputable def xkT:Lp:=closedLp Tryz.prog EAgr [1,5,6,18,19,20] [6] [(6,1,253605445655)] (loopAt Tryz.f40 0) 100
noncomputable def EAgr1:Env:={ EAgr with lp:=lpsOf [(codeId (loopAt Tryz.f40 0),xkT)] }
theorem xni:OrcOk Tryz.prog (ITryz.at 0) EAgr1:=xkU
noncomputable def xlC:List AV→Option (Bool×AV):=fun xs=>match XF Tryz.prog EAgr1 Tryz.f40 (Tryz.f40.body.getD .skip) xs with
 | some r=>some (true,r)
 | none=>none
theorem xoW:OcOk Tryz.prog ITryz 40 xlC:=fun xs r h=>by
 unfold xlC at h
 split at h
 case h_2=>simp at h
 rename_i r0 hr
 simp only [Option.some.injEq,Prod.mk.injEq,true_and] at h
 subst h
 refine xay (p:=0) (xaU mxTryz (inv0Ok Tryz.prog _) rfl xni Tryz.func40 rfl (by kernel_rfl) (xco (ls:=[loopAt Tryz.f40 0]) (by kernel_rfl) (fun l hl lp hs=>?_)) hr)
 simp only [List.mem_cons,List.not_mem_nil,or_false] at hl
 subst hl
 rw [show EAgr1.lp (codeId (loopAt Tryz.f40 0))=some xkT by kernel_rfl] at hs
 simp only [Option.some.injEq] at hs
 subst hs
 exact xdw (E:=EAgr) mxTryz (inv0Ok Tryz.prog _) rfl xkU (xbu fun _=>rfl)
noncomputable def EAsg:Env:={ Env.deep Tryz.prog mmA EA0 12 with pin:=0,nt:=111,ls:=lsOf [57,59] }
theorem xkY:OrcOk Tryz.prog (ITryz.at 0) EAsg:=xbp mxTryz mmA (inv0Ok Tryz.prog 0) xd7 (fun _=>rfl) 12
noncomputable def xkX:Lp:=closedLp Tryz.prog EAsg [1,2,3,6,7,8,31,32,33] [1,2,3,6,8] [(8,1,244881293359)] (loopAt Tryz.f43 0) 100
noncomputable def EAsg1:Env:={ EAsg with lp:=lpsOf [(codeId (loopAt Tryz.f43 0),xkX)] }
theorem xnk:OrcOk Tryz.prog (ITryz.at 0) EAsg1:=xkY
noncomputable def xlY:List AV→Option (Bool×AV):=fun xs=>match XF Tryz.prog EAsg1 Tryz.f43 (Tryz.f43.body.getD .skip) xs with
 | some r=>some (true,r)
 | none=>none
theorem xoX:OcOk Tryz.prog ITryz 43 xlY:=fun xs r h=>by
 unfold xlY at h
 split at h
 case h_2=>simp at h
 rename_i r0 hr
 simp only [Option.some.injEq,Prod.mk.injEq,true_and] at h
 subst h
 refine xay (p:=0) (xaU mxTryz (inv0Ok Tryz.prog _) rfl xnk Tryz.func43 rfl (by kernel_rfl) (xco (ls:=[loopAt Tryz.f43 0,loopAt Tryz.f43 1,loopAt Tryz.f43 2]) (by kernel_rfl) (fun l hl lp hs=>?_)) hr)
 simp only [List.mem_cons,List.not_mem_nil,or_false] at hl
 rcases hl with rfl|rfl|rfl
 · rw [show EAsg1.lp (codeId (loopAt Tryz.f43 0))=some xkX by kernel_rfl] at hs
   simp only [Option.some.injEq] at hs
   subst hs
   exact xdw (E:=EAsg) mxTryz (inv0Ok Tryz.prog _) rfl xkY (xbu fun _=>rfl)
 · rw [show EAsg1.lp (codeId (loopAt Tryz.f43 1))=none by kernel_rfl] at hs
   simp at hs
 · rw [show EAsg1.lp (codeId (loopAt Tryz.f43 2))=none by kernel_rfl] at hs
   simp at hs
noncomputable def EAlv (p:Nat):Env:={ Env.deep Tryz.prog mmA EA0 6 with pin:=p,nt:=71,ls:=lsOf [] }
theorem xkW (p:Nat):OrcOk Tryz.prog (ITryz.at p) (EAlv p):=xcm (xbp mxTryz mmA (inv0Ok Tryz.prog 0) xd7 (fun _=>rfl) 6)
noncomputable def xkV (p:Nat):Lp:=closedLp Tryz.prog (EAlv p) [0,1,2,3,4] [] [(3,0,0)] (loopAt Tryz.f112 0) 100
noncomputable def EAlv1 (p:Nat):Env:={ EAlv p with lp:=lpsOf [(codeId (loopAt Tryz.f112 0),xkV p)] }
theorem xnj (p:Nat):OrcOk Tryz.prog (ITryz.at p) (EAlv1 p):=xkW p
noncomputable def xj6:List AV→List Box→Option (Bool×AV×List Box):=fun xs H=>match XFM Tryz.prog (EAlv1 H.length) Tryz.f112 (Tryz.f112.body.getD .skip) xs H with
 | some (r,H')=>some (true,r,H')
 | none=>none
theorem xoL:OmOk Tryz.prog ITryz 112 xj6:=fun xs H r H' h=>by
 unfold xj6 at h
 split at h
 case h_2=>simp at h
 rename_i r0 H0 hr
 simp only [Option.some.injEq,Prod.mk.injEq,true_and] at h
 obtain ⟨rfl,rfl⟩:=h
 refine xdF (p:=H.length) (xeI mxTryz (inv0Ok Tryz.prog _) rfl (xnj H.length) rfl Tryz.func112 rfl (by kernel_rfl) (xco (ls:=[loopAt Tryz.f112 0,loopAt Tryz.f112 1]) (by kernel_rfl) (fun l hl lp hs=>?_) (by kernel_rfl)) hr)
 simp only [List.mem_cons,List.not_mem_nil,or_false] at hl
 rcases hl with rfl|rfl
 · rw [show (EAlv1 H.length).lp (codeId (loopAt Tryz.f112 0))=some (xkV H.length) by kernel_rfl] at hs
   simp only [Option.some.injEq] at hs
   subst hs
   exact xdw (E:=EAlv H.length) mxTryz (inv0Ok Tryz.prog _) rfl (xkW H.length) (xbu fun _=>rfl)
 · rw [show (EAlv1 H.length).lp (codeId (loopAt Tryz.f112 1))=none by kernel_rfl] at hs
   simp at hs
noncomputable def EAs:Env:=(((EA0.with 111 xiB).with 40 xlC).with 43 xlY).withM 112 xj6
theorem xl8:OrcOk Tryz.prog ITryz EAs:=(((xd7.with xot).with xoW).with xoX).withM xoL
noncomputable def EAd:Env:={ Env.deep Tryz.prog mmA EAs 14 with pin:=0 }
mutual
def eqV:AV→AV→Bool
 | .int k a,.int k' b=>decide (k=k')&&decide (a=b)
 | .bool a,.bool b=>a==b
 | .str a,.str b=>decide (a=b)
 | .list n a,.list m b=>Nat.beq n m&&eqVs a b
 | .agg a,.agg b=>eqVs a b
 | .nils,.nils=>true
 | _,_=>false
def eqVs:List AV→List AV→Bool
 | [],[]=>true
 | a::l,b::m=>eqV a b&&eqVs l m
 | _,_=>false
end
mutual
theorem xoI:∀ (a b:AV),eqV a b=true→a=b:=fun a b h=>by
 cases a<;>cases b<;>first|rfl|(simp [eqV] at h;done)|skip
 all_goals simp only [eqV,Bool.and_eq_true,decide_eq_true_eq,beq_iff_eq] at h
 all_goals first|(rw [h.1,h.2];done)|(rw [h];done)|(rw [Nat.eq_of_beq_eq_true h.1,xgF _ _ h.2];done)|(rw [xgF _ _ h])
theorem xgF:∀ (a b:List AV),eqVs a b=true→a=b
 | [],[],_=>rfl
 | a::l,b::m,h=>by simp only [eqVs,Bool.and_eq_true] at h;rw [xoI a b h.1,xgF l m h.2]
 | [],_::_,h=>by simp [eqVs] at h
 | _::_,[],h=>by simp [eqVs] at h
end
def ptO (args:List AV) (r:AV):List AV→Option (Bool×AV):=fun xs=>match eqVs xs args with
 | true=>some (true,r)
 | false=>none
theorem xfI {P:Program} {Inv:IV} {f:FuncId} {args:List AV} {r:AV} (h:Good P Inv f args r):OcOk P Inv f (ptO args r):=fun xs r0 h0=>by
 unfold ptO at h0
 split at h0
 case h_2=>simp at h0
 rename_i he
 simp only [Option.some.injEq,Prod.mk.injEq,true_and] at h0
 subst h0
 rw [xgF _ _ he];exact h
theorem xeJ {f:FuncId} {fn:Func} {args:List AV} {r:AV} (hf:Tryz.prog.funcs[f]?=some fn) (hb:fn.body.isSome=true) (hname:(fn.name == "runtime.NumGoroutine")=false) (h:XF Tryz.prog EAd fn (fn.body.getD .skip) args=some r):Good Tryz.prog ITryz f args r :=
 xay (p:=0) (xaU mxTryz (inv0Ok Tryz.prog _) rfl (xcm (xbp mxTryz mmA (inv0Ok Tryz.prog 0) xl8 (fun _=>rfl) 14)) hf hb hname (xbu fun _=>rfl) h)
end Go.Sim.M
end
noncomputable section
set_option maxRecDepth 100000
namespace Go.Sim.M
open Go.RowKit Go.Proofs
def vA (n:Int):AV:=.agg [.int .i64 1,.int .i64 n,.str []]
def nA:AV:=.agg [.int .i64 0,.int .i64 0,.str []]
def fA (a b:Int) (r:List Int):AV:=.agg [.list 3 (r.map vA),.int .i64 a,.int .i64 b]
def agA (o a:Int):AV:=.agg [.int .i64 o,.int .i64 a]
def itsA (l:List Int):AV:=.list 1 (l.map (AV.int .i64))
def bGi:AV:=.list 3 [fA 0 4 [1,1,5],fA 4 6 [1,2,12],fA 6 9 [1,1,7],fA 2 3 [2,1,1]]
def bGo:AV:=.list 3 [fA 0 4 [1,1,5],fA 6 9 [1,1,7],fA 4 6 [1,2,12],fA 2 3 [2,1,1]]
theorem xo1:XF Tryz.prog EAd Tryz.f44 (Tryz.f44.body.getD .skip) [bGi]=some bGo:=by kernel_rfl
theorem xo0:OcOk Tryz.prog ITryz 44 (ptO [bGi] bGo):=xfI (xeJ Tryz.func44 rfl (by kernel_rfl) xo1)
def bCi:AV:=.list 3 [fA 0 2 [1],fA 2 3 [2],fA 3 4 [1],fA 4 6 [2],fA 6 9 [1],fA 9 1099511627776 [0]]
def bCo:AV:=.list 3 [fA 9 1099511627776 [0],fA 0 2 [1],fA 3 4 [1],fA 6 9 [1],fA 2 3 [2],fA 4 6 [2]]
theorem xox:XF Tryz.prog EAd Tryz.f44 (Tryz.f44.body.getD .skip) [bCi]=some bCo:=by kernel_rfl
theorem xoZ:OcOk Tryz.prog ITryz 44 (ptO [bCi] bCo):=xfI (xeJ Tryz.func44 rfl (by kernel_rfl) xox)
def bRi:AV:=.list 3 [fA 0 6 [1,5],fA 4 9 [1,7],fA 2 3 [2,1]]
def bRo:AV:=.list 3 [fA 0 6 [1,5],fA 4 9 [1,7],fA 2 3 [2,1]]
theorem xo5:XF Tryz.prog EAd Tryz.f44 (Tryz.f44.body.getD .skip) [bRi]=some bRo:=by kernel_rfl
theorem xo4:OcOk Tryz.prog ITryz 44 (ptO [bRi] bRo):=xfI (xeJ Tryz.func44 rfl (by kernel_rfl) xo5)
def bMi:AV:=.list 3 [fA 0 2 [5],fA 2 4 [5],fA 4 5 [7],fA 5 8 [7],fA 8 11 [7],.agg [.list 3 [nA],.int .i64 11,.int .i64 1099511627776]]
def bMo:AV:=.list 3 [.agg [.list 3 [nA],.int .i64 11,.int .i64 1099511627776],fA 0 4 [5],fA 4 11 [7]]
theorem xo3:XF Tryz.prog EAd Tryz.f44 (Tryz.f44.body.getD .skip) [bMi]=some bMo:=by kernel_rfl
theorem xo2:OcOk Tryz.prog ITryz 44 (ptO [bMi] bMo):=xfI (xeJ Tryz.func44 rfl (by kernel_rfl) xo3)
noncomputable def EAt:Env:=((((EAs).with 44 (ptO [bGi] bGo)).with 44 (ptO [bCi] bCo)).with 44 (ptO [bRi] bRo)).with 44 (ptO [bMi] bMo)
theorem xl9:OrcOk Tryz.prog ITryz EAt:=((((xl8).with xo0).with xoZ).with xo4).with xo2
noncomputable def EAtd:Env:={ Env.deep Tryz.prog mmA EAt 14 with pin:=0 }
theorem xfE {f:FuncId} {fn:Func} {args:List AV} {r:AV} (hf:Tryz.prog.funcs[f]?=some fn) (hb:fn.body.isSome=true) (hname:(fn.name == "runtime.NumGoroutine")=false) (h:XF Tryz.prog EAtd fn (fn.body.getD .skip) args=some r):Good Tryz.prog ITryz f args r :=
 xay (p:=0) (xaU mxTryz (inv0Ok Tryz.prog _) rfl (xcm (xbp mxTryz mmA (inv0Ok Tryz.prog 0) xl9 (fun _=>rfl) 14)) hf hb hname (xbu fun _=>rfl) h)
def relA:AV:=.agg [itsA [1,1],bRi]
def relM:AV:=.agg [itsA [1,1],.list 3 [fA 0 8 [1,5],fA 4 11 [1,7],fA 2 5 [2,1]]]
theorem xpa:XF Tryz.prog EAtd Tryz.f13 (Tryz.f13.body.getD .skip) [relA,itsA [0],.list 2 [agA 1 (-1),agA 2 1]]=some (.agg [itsA [1,1,1],bGo]):=by kernel_rfl
theorem xo9:OcOk Tryz.prog ITryz 13 (ptO [relA,itsA [0],.list 2 [agA 1 (-1),agA 2 1]] (.agg [itsA [1,1,1],bGo])):=xfI (xfE Tryz.func13 rfl (by kernel_rfl) xpa)
theorem xo8:XF Tryz.prog EAtd Tryz.f13 (Tryz.f13.body.getD .skip) [relA,.nils,.list 2 [agA 1 (-1)]]=some (.agg [itsA [1],bCo]):=by kernel_rfl
theorem xo7:OcOk Tryz.prog ITryz 13 (ptO [relA,.nils,.list 2 [agA 1 (-1)]] (.agg [itsA [1],bCo])):=xfI (xfE Tryz.func13 rfl (by kernel_rfl) xo8)
theorem xpc:XF Tryz.prog EAtd Tryz.f13 (Tryz.f13.body.getD .skip) [relM,.nils,.list 2 [agA 4 1]]=some (.agg [itsA [1],bMo]):=by kernel_rfl
theorem xpb:OcOk Tryz.prog ITryz 13 (ptO [relM,.nils,.list 2 [agA 4 1]] (.agg [itsA [1],bMo])):=xfI (xfE Tryz.func13 rfl (by kernel_rfl) xpc)
noncomputable def EAu:Env:=(((EAt).with 13 (ptO [relA,itsA [0],.list 2 [agA 1 (-1),agA 2 1]] (.agg [itsA [1,1,1],bGo]))).with 13 (ptO [relA,.nils,.list 2 [agA 1 (-1)]] (.agg [itsA [1],bCo]))).with 13 (ptO [relM,.nils,.list 2 [agA 4 1]] (.agg [itsA [1],bMo]))
theorem xoF:OrcOk Tryz.prog ITryz EAu:=(((xl9).with xo9).with xo7).with xpb
end Go.Sim.M
end
noncomputable section
set_option maxRecDepth 100000
namespace Go.Sim.M
open Go.RowKit Go.Proofs
noncomputable def EAf:Env:={ Env.deep Tryz.prog mmA EA0 3 with pin:=0,ls:=lsOf [] }
theorem xoD:OrcOk Tryz.prog (ITryz.at 0) EAf:=xcm (xbp mxTryz mmA (inv0Ok Tryz.prog 0) xd7 (fun _=>rfl) 3)
noncomputable def xir:List AV→Option (Bool×AV):=fun xs=>match XF Tryz.prog EAf Tryz.f37 (Tryz.f37.body.getD .skip) xs with
 | some r=>some (true,r)
 | none=>none
theorem xn3:OcOk Tryz.prog ITryz 37 xir:=fun xs r h=>by
 unfold xir at h
 split at h
 case h_2=>simp at h
 rename_i r0 hr
 simp only [Option.some.injEq,Prod.mk.injEq,true_and] at h
 subst h
 exact xay (p:=0) (xaU mxTryz (inv0Ok Tryz.prog _) rfl xoD Tryz.func37 rfl (by kernel_rfl) (xbu fun _=>rfl) hr)
noncomputable def EAp:Env:={ Env.deep Tryz.prog mmA { EA0 with ls:=lsOf [1000035] } 5 with pin:=0 }
theorem xoE:OrcOk Tryz.prog (ITryz.at 0) EAp:=xcm (xbp mxTryz mmA (inv0Ok Tryz.prog 0) (E:={ EA0 with ls:=lsOf [1000035] }) xd7 (fun _=>rfl) 5)
noncomputable def xiw:List AV→Option (Bool×AV):=fun xs=>match XF Tryz.prog EAp Tryz.f21 (Tryz.f21.body.getD .skip) xs with
 | some r=>some (true,r)
 | none=>none
theorem xoo:OcOk Tryz.prog ITryz 21 xiw:=fun xs r h=>by
 unfold xiw at h
 split at h
 case h_2=>simp at h
 rename_i r0 hr
 simp only [Option.some.injEq,Prod.mk.injEq,true_and] at h
 subst h
 exact xay (p:=0) (xaU mxTryz (inv0Ok Tryz.prog _) rfl xoE Tryz.func21 rfl (by kernel_rfl) (xbu fun _=>rfl) hr)
noncomputable def EAv:Env:=(EAu.with 37 xir).with 21 xiw
theorem xoG:OrcOk Tryz.prog ITryz EAv:=(xoF.with xn3).with xoo
noncomputable def EAe:Env:={ Env.deep Tryz.prog mmA EAv 14 with pin:=0 }
theorem xnx:XF Tryz.prog EAe Tryz.f11 (Tryz.f11.body.getD .skip) []=some (.bool true):=by kernel_rfl
def xiq:List AV→Option (Bool×AV)
 | []=>some (true,.bool true)
 | _=>none
theorem xnZ:OcOk Tryz.prog ITryz 11 xiq:=fun xs r h=>by
 unfold xiq at h;split at h
 · simp only [Option.some.injEq,Prod.mk.injEq,true_and] at h;subst h
   have hd:=xbp mxTryz mmA (inv0Ok Tryz.prog 0) xoG (fun _=>rfl) 14
   exact xay (p:=0) (xaU mxTryz (inv0Ok Tryz.prog _) rfl (xcm hd) Tryz.func11 rfl (by kernel_rfl) (xbu fun _=>rfl) xnx)
 · simp at h
end Go.Sim.M
end
noncomputable section
namespace Go.Sim.M
open Go.IntKind (i64 u64 u8)
open Go.RowKit Go.Proofs
def EKAe:Env:=EKP1.with 11 xiq
theorem xnX:OrcOk Tryz.prog ITryz EKAe:=xnY.with xnZ
end Go.Sim.M
end
noncomputable section
set_option maxRecDepth 100000
namespace Go.Sim.M
open Go.IntKind (i64 u64 u8)
open Go.RowKit Go.Proofs
abbrev xjP:Env:=EKAe
theorem xiR:OrcOk Tryz.prog ITryz xjP:=xnX
def xau:Env:=xjP.fn 46 0 (lsOf []) (lpsOf [])
theorem xdG:OrcOk Tryz.prog (ITryz.at 0) xau:=xiR.fn
theorem xdc:LoOk Tryz.prog (ITryz.at xau.pin) xau (loopAt Tryz.f8 0):=xa0 (by kernel_rfl)
def xaB {T:Type} (l:LA) (n i a b:Int) (δ:T) (κl:(Int×Int×Int×Int)→T) (κr:(Int×Int×Int)→T):T:=br (decide (i<l.length)) (br (decide (0≤i)&&decide (i<l.length)) (br (decide (i.toNat<l.length)&&((l.getD i.toNat .top).cells.length==3&&hasShs [Sh.int .i64,Sh.int .i64] (l.getD i.toNat .top).cells 1)) (br ((xao ((l.getD i.toNat .top).cells.getD 1 .top).toInt ((l.getD i.toNat .top).cells.getD 2 .top).toInt a b).snd.snd) (κl (i64.wrap (i64.wrap (n+(xao ((l.getD i.toNat .top).cells.getD 1 .top).toInt ((l.getD i.toNat .top).cells.getD 2 .top).toInt a b).snd.fst) - (xao ((l.getD i.toNat .top).cells.getD 1 .top).toInt ((l.getD i.toNat .top).cells.getD 2 .top).toInt a b).fst),i64.wrap (i+1),a,b)) (κl (n,i64.wrap (i+1),a,b))) δ) δ) (κr (n,a,b))
def xaa (l:LA):(Int×Int×Int×Int)→Option ((Int×Int×Int×Int)⊕(Int×Int×Int)):=fun (n,i,a,b)=>xaB l n i a b none (fun s=>some (.inl s)) (fun p=>some (.inr p))
def xaq (l:LA):(Int×Int×Int×Int)→LA×List Box:=fun (n,i,a,b)=>([AV.list 3 l,AV.own 0 0 0 0,AV.int .i64 n,AV.int .i64 i],[⟨0,2,35,[AV.agg [AV.int .i64 a,AV.int .i64 b]],false,true⟩])
def xan (l:LA):(Int×Int×Int)→LR:=fun p=>(.leaf (.exit 0) [AV.list 3 l,AV.own 0 0 0 0,AV.int .i64 p.1] [⟨0,2,35,[AV.agg [AV.int .i64 p.2.1,AV.int .i64 p.2.2]],false,true⟩])
abbrev xdP (a:LA) (H:List Box):=XR Tryz.prog xau [0,3,5,6] [0,3,5] [] (loopAt Tryz.f8 0) a H
theorem xdQ (l:LA) (s:Int×Int×Int×Int):Enc (encR (xaq l) (xan l)) (xaa l s) (xdP (xaq l s).1 (xaq l s).2):=by
 obtain ⟨n,i,a,b⟩:=s
 refine eV (xaB l n i a b none (fun s=>some (encR (xaq l) (xan l) (.inl s))) (fun p=>some (encR (xaq l) (xan l) (.inr p)))) (by kernel_rfl) ?_;unfold xaa xaB;repeat' first|exact eN|exact eS rfl|apply eB
def xcl:Lp:=lpOf [0,3,5,6] [0,3,5] [] (pCons (pList 3 pAny) (pCons (pOwn 0 0 0 0) (pCons (pInt .i64) (pCons (pInt .i64) pNil)))) (pCons (pBox 0 2 35 false true (pCons (pAgg (pCons (pInt .i64) (pCons (pInt .i64) pNil))) pNil)) pNil) fun (l,(_,(n,(i,_)))) (((a,(b,_)),_),_)=>((Iter (xaa l) (n,i,a,b)).isSome,xan l ((Iter (xaa l) (n,i,a,b)).getD (0,0,0)))
theorem xdq:LoopOk Tryz.prog (ITryz.at xau.pin) xau.nt (loopAt Tryz.f8 0) xcl:=xei fun d e g f=>by
 obtain ⟨l,⟨_,⟨n,⟨i,_⟩⟩⟩⟩:=d
 obtain ⟨⟨⟨a,⟨b,_⟩⟩,_⟩,_⟩:=e
 obtain ⟨c,rfl⟩:=Prod.mk.inj f
 exact xbY mxTryz (inv0Ok Tryz.prog _) rfl xdG xdc (xaq l) (xan l) (fun p=>by simp only [xan,LR.eval];first|(simp;done)|(repeat' split<;>simp)) (xdQ l) (s:=(n,i,a,b)) (xam c)
def xaM:Env:=xjP.fn 46 0 (lsOf []) (lpsOf [(5,xcl)])
theorem xdH:OrcOk Tryz.prog (ITryz.at 0) xaM:=xiR.fn
theorem xdp:LoOk Tryz.prog (ITryz.at xaM.pin) xaM (Tryz.f8.body.getD .skip):=xco (ls:=[loopAt Tryz.f8 0]) (by kernel_rfl) (lkC xdq lkN)
def xbM (l:LA) (a b:Int):=(Iter (xaa l) (0,0,a,b)).getD (0,0,0)
def xbL (l:LA) (a b:Int):=(xbM l a b).snd
def xbK (l:LA) (a b:Int):=xaI ((xaR l).getD []) (xbL l a b).fst (xbL l a b).snd
def xbg {T:Type} (l:LA) (a b:Int) (δ:T) (κ:Bool→T):T:=br (decide ((↑l.length:Int)>24)) (κ (true)) (br ((Iter (xaa l) (0,0,a,b)).isSome) (br ((xaR l).isSome) (br ((xbK l a b).isSome) (br ((xbK l a b).getD 0==(xbM l a b).fst) (κ (true)) (κ (false))) δ) δ) δ)
def xat (l:LA) (a b:Int):Option (Bool):=xbg l a b none some
theorem xeE (l:LA) (a b:Int):Enc (fun (p:Bool)=>((AV.bool p):AV)) (xat l a b) (XF Tryz.prog xaM Tryz.f8 (Tryz.f8.body.getD .skip) [AV.list 3 l,AV.agg [AV.int .i64 a,AV.int .i64 b]]):=by
 refine eV (xbg l a b none (fun (p:Bool)=>some ((AV.bool p):AV))) (by kernel_rfl) ?_;unfold xat xbg;repeat' first|exact eN|exact eS rfl|apply eB
def xeD:LA→Option (Bool×AV):=ocOf (sCons (sList 3 pAny) (sCons (sAgg (sCons (sEq (pInt .i64)) (sCons (sEq (pInt .i64)) sNil))) sNil)) fun (l,((a,(b,_)),_))=>((xat l a b).isSome,(AV.bool ((xat l a b).getD false)))
theorem xeC:OcOk Tryz.prog ITryz 8 (xeD):=xcu fun c h e=>by
 obtain ⟨l,⟨⟨f,⟨g,_⟩⟩,_⟩⟩:=c
 obtain ⟨a,b⟩:=Prod.mk.inj e
 refine xay (p:=xaM.pin) (xaU mxTryz (inv0Ok Tryz.prog _) rfl xdH Tryz.func8 rfl (by kernel_rfl) xdp ((xeE _ _ _ _ (xam (d:=false) a)).trans ?_))
 exact congrArg some b
end Go.Sim.M
end
