/- Part 14 of the proof of the law. -/
import Derived.Test.YtoemghmemdnelaaGreatDoorGP13
import Derived.Deep.LoopGhost
import Derived.Lib.SliceRun
set_option linter.unusedVariables false
set_option linter.unusedSimpArgs false
noncomputable section
namespace Go.Proofs
open Go.RowKit Go.Lib Go.Shelf
set_option maxHeartbeats 2000000 in
set_option maxRecDepth 100000 in
theorem Tryz.clone_nil (n c:Nat) (w:World) :
  Calls Tryz.prog 163 #[.slice none n c] w fun e w'=>e=.returned (.slice none 0 0)∧w'=w:=by
 have q22:∀ (w:World) (a:Option Addr) (n c n' c':Nat),(binOp .eql 57 (.slice a n c) (.slice none n' c')).run Tryz.prog w=.ok (.bool a.isNone) w:=fun w a n c n' c'=>Lib.run_eql_slice_nil w 57 76 a n c n' c' (by kernel_rfl)
 go_enter Tryz.func163,Tryz.ntmps163
 go_wp2
 go_ret
 exact ⟨rfl,rfl⟩
set_option maxHeartbeats 2000000 in
set_option maxRecDepth 100000 in
theorem Tryz.clone_some (i0:TypeInfo) (z:Value) (hi:Tryz.prog.info? 76=some i0) (hz0:i0.zero=some z) (hz1:i0.size=3) (hz2:i0.bytes=32) (hzs:z.cells.size=3)
  (a:Addr) (n c:Nat) (news:List Value) (w:World) (hl:news.length=n*3) (hn:n≤maxLen) (hbig:n*32≤140737488355328)
  (hc:∀ j u,news[j]?=some u→w.cell? (a.add j)=some u) (h1:∀ u∈news,u.oneCell'=true) :
  Calls Tryz.prog 163 #[.slice (some a) n c] w fun e w'=>∃ v',e=.returned v'∧w'.ownsRow w.heap.size 76 3 v' n news∧Below w.heap.size w w':=by
 have t22:Tryz.prog.underlying 57=some (.slice 76):=by kernel_rfl
 have q22:∀ (w:World) (a:Option Addr) (n c n' c':Nat),(binOp .eql 57 (.slice a n c) (.slice none n' c')).run Tryz.prog w=.ok (.bool a.isNone) w:=fun w a n c n' c'=>Lib.run_eql_slice_nil w 57 76 a n c n' c' t22
 have u22:∀ w,Sem.run Tryz.prog (underlying 57) w=.ok (TypeDesc.slice 76) w:=run_underlying t22
 have A:Aside (∀ j u,news[j]?=some u→w.cell? (a.add j)=some u):=hc
 clear hc
 go_enter Tryz.func163,Tryz.ntmps163
 go_wp2_with (at_builtin;refine wpList_append_own _ rfl _ _ 57 rfl w.heap.size 76 i0 z 3 32 t22 hi hz0 hz1 hz2 hzs (by decide) _ _ _ rfl (World.ownsRow_made w #[] 0 (Nat.le_refl _) (Nat.zero_le _) (by simp)) a n c news rfl ?qc1 ?qc2 ?qc3 ?qc4 ?qc5 ?qc6 ?_)
 case qc1=>exact hl
 case qc2 =>
  intro j u hj
  exact Lib.cell?_alloc_some _ (A.out j u hj)
 case qc3=>exact h1
 case qc4=>rw [Nat.zero_add];exact hn
 case qc5=>rw [Nat.zero_add];exact hbig
 case qc6=>simp
 intro v' w1 hown hgrow hnil
 go_wp2
 go_ret
 refine ⟨v',rfl,by simpa using hown,?_⟩
 exact ((Below.refl _ w).alloc (Nat.le_refl _) _).grown hgrow (by simp) (by intro k hk;simp [Value.ownBlock] at hk;omega)
end Go.Proofs
namespace Go.Sim
open Go.RowKit Go.Proofs
def xcK:List AV→Option (Bool×AV)
 | [.list 3 xs]=>some (decide (xs.length≤4398046511104),.list 3 xs)
 | _=>none
theorem xeZ {w w':World} {A:Nat→Prop} {e:TypeId} {sz:Nat} {v:Value} {xs:List AV} {news:List Value} (hl:∀ b,A b→b<w.heap.size) (hown:w'.ownsRow w.heap.size e sz v xs.length news) (hok:∀ x,x∈xs→x.okElem sz=true)
  (hr:∀ i j,i<xs.length→j<sz→Rel w' A noBox (news.getD (i*sz+j) undef) ((xs.getD i .top).cells.getD j .top)):Rel w' A noBox v (.list sz xs):=by
 obtain ⟨hlen,h⟩:=hown
 rcases h with ⟨rfl,h0⟩|⟨g,cap,cur,rfl,hg,hh,hle,hcm,hcs,htk⟩
 · have:xs=[]:=List.eq_nil_of_length_eq_zero h0
   subst this
   exact .list0 _ _ _
 · by_cases hne:xs=[]
   · subst hne;exact .list0 _ _ _
   · have hgl:g<w'.heap.size:=by
      rcases Nat.lt_or_ge g w'.heap.size with h|h
      · exact h
      · rw [Array.getElem?_eq_none h] at hh;simp at hh
     have hcell:∀ i j,i<xs.length→j<sz→w'.cell? ⟨g,0+i*sz+j,none⟩=some (news.getD (i*sz+j) undef):=fun i j hi hj=>by
      have hk:i*sz+j<xs.length*sz:=xaD hi hj
      have hk2:i*sz+j<cur.size:=by
       rw [hcs];exact Nat.lt_of_lt_of_le hk (Nat.mul_le_mul_right _ hle)
      have e1:news.getD (i*sz+j) undef=cur[i*sz+j]:=by
       rw [←htk];simp [List.getD_eq_getElem?_getD,List.getElem?_take,hk,hk2]
      rw [e1,Nat.zero_add]
      simp [World.cell?,hh,hk2]
     exact .list g 0 cap sz xs (fun i j=>news.getD (i*sz+j) undef) (fun hA=>by have:=hl g hA;omega) hgl hne hle hok hcell hr
theorem xg9:OcOk Tryz.prog ITryz 163 xcK:=fun xs r h=>by
 unfold xcK at h;split at h
 · rename_i xs
   simp only [Option.some.injEq,Prod.mk.injEq,decide_eq_true_eq] at h;obtain ⟨hle,rfl⟩:=h
   refine ⟨xbF Tryz.func163 rfl (by kernel_rfl),fun w A vs hI hA hrc=>?_⟩
   obtain ⟨v,rfl,h1⟩:=rc1 hrc
   have hti:∃ ti,tinfo Tryz.prog 76=some ti∧ti.sz=3∧ti.bytes=32∧ti.zero.okElem 3=true:=by
    have h:(match tinfo Tryz.prog 76 with|some ti=>(ti.sz==3)&&((ti.bytes==32)&&ti.zero.okElem 3)|none=>false)=true:=by kernel_rfl
    split at h
    · rename_i ti hti
      simp only [Bool.and_eq_true,beq_iff_eq] at h
      exact ⟨ti,hti,h.1,h.2.1,h.2.2⟩
    · simp at h
   obtain ⟨ti,hti,s1,s2,s3⟩:=hti
   obtain ⟨i,z,g1,g2,g3,g4,g5,g6,_⟩:=xaj hti
   have hzs:z.cells.size=3:=by
    have hrz:Rel w A noBox z ti.zero:=by rw [g6];exact xaG w A noBox z
    rw [(hrz.cells (xag s3)).1,xab s3]
   have hnil:∀ n c,v=.slice none n c→xs=[]→Calls Tryz.prog 163 [v].toArray w fun e w'=>∃ v,e=.returned v∧Below w.heap.size w w'∧Rel w' A noBox v (.list 3 xs):=by
    rintro n c rfl rfl
    refine (Tryz.clone_nil n c w).mono ?_
    rintro e w' ⟨rfl,rfl⟩
    exact ⟨_,rfl,Below.refl _ _,.list0 _ _ _⟩
   have hsome:∀ b off c (val:Nat→Nat→Value),v=.slice (some ⟨b,off,none⟩) xs.length c→(∀ x,x∈xs→x.okElem 3=true)→(∀ i j,i<xs.length→j<3→w.cell? ⟨b,off+i*3+j,none⟩=some (val i j))→(∀ i j,i<xs.length→j<3→Rel w A noBox (val i j) ((xs.getD i .top).cells.getD j .top)) →
     Calls Tryz.prog 163 [v].toArray w fun e w'=>∃ v,e=.returned v∧Below w.heap.size w w'∧Rel w' A noBox v (.list 3 xs):=by
    rintro b off c val rfl hok hc hr
    have hs:∀ i j,i<xs.length→j<3→∃ u,w.cell? ⟨b,off+(i*3+j),none⟩=some u∧Rel w A noBox u ((xs.getD i .top).cells.getD j .top):=fun i j hi hj=>⟨val i j,by rw [←Nat.add_assoc];exact hc i j hi hj,hr i j hi hj⟩
    refine (Tryz.clone_some i z g1 g3 (by rw [←g4,s1]) (by rw [←g5,s2]) hzs ⟨b,off,none⟩ xs.length c (srcCells w b off (xs.length*3)) w (xbB _ _ _ _) (by unfold maxLen;omega) (by omega)
     (fun j u hj=>xer (by decide) hs j u hj) (xjm (by decide) hs hok)).mono ?_
    rintro e w' ⟨v',rfl,hown,hbel⟩
    exact ⟨v',rfl,hbel,xeZ hA hown hok fun i j hi hj=>(xjn hs hi hj).grow hbel⟩
   have h1':=h1
   generalize hx:AV.list 3 xs=x at h1
   cases h1 with
   | list0 a cap sz =>
    simp only [AV.list.injEq] at hx
    obtain ⟨rfl,rfl⟩:=hx
    cases a with
    | none=>exact hnil 0 cap rfl rfl
    | some a =>
     refine (Tryz.clone_some i z g1 g3 (by rw [←g4,s1]) (by rw [←g5,s2]) hzs a 0 cap [] w rfl (Nat.zero_le _) (by omega) (by simp) (by simp)).mono ?_
     rintro e w' ⟨v',rfl,hown,hbel⟩
     exact ⟨v',rfl,hbel,xeZ hA (xs:=[]) hown (by simp) (by simp)⟩
   | list b off cap sz ys val ha hb hne hcap hsz hc hr =>
    simp only [AV.list.injEq] at hx
    obtain ⟨rfl,rfl⟩:=hx
    exact hsome b off cap val rfl hsz hc hr
   | _=>simp at hx
 · simp at h
end Go.Sim
end
noncomputable section
set_option maxRecDepth 100000
namespace Go.Sim.M
open Go.IntKind (i64 u64 u8)
open Go.RowKit Go.Proofs
def xdB (x:Int):Bool:=((x != x))
def xcO (x y:Int):Int:=(br (xdB x) (br (xdB y) ((0)) (((-1)))) (br (xdB y) ((1)) (br (decide (x<y)) (((-1))) (br (decide (x>y)) ((1)) ((0))))))
def xig (a b c:Int):Int:=(br (a != 0) ((a)) (br (b != 0) ((b)) (br (c != 0) ((c)) ((0)))))
def xaJ (a b:Int) (c:List UInt8) (d e:Int) (f:List UInt8):Int:=((xig (xcO a d) (xcO b e) (Lib.compareBytes c f)))
end Go.Sim.M
end
noncomputable section
namespace Go.Sim.M
open Go.RowKit Go.Proofs
def E0:Env:=((((Env.none.with 136 xcg).with 98 xcL).with 163 xcK).withM 129 xdP).withM 100 xco
theorem xmG:OrcOk Tryz.prog ITryz E0:=((((xgC.with xfu).with xhb).with xg9).withM xiO).withM xfU
end Go.Sim.M
end
noncomputable section
set_option maxRecDepth 100000
namespace Go.Sim
def stepX (P:Program) (E:Env) (live liveO:List Nat) (conv:List (Nat×Nat×TypeId)) (c:Code) (s:List AV×List Box):Option ((List AV×List Box)⊕{r:Exit×List AV×List Box // r.1≠.normal}) :=
 match XR P E live liveO conv c s.1 s.2 with
 | some (.normal,v,H)=>some (.inl (v,H))
 | some (.exit i,v,H)=>some (.inr ⟨(.exit i,v,H),by simp⟩)
 | some (.ret,v,H)=>some (.inr ⟨(.ret,v,H),by simp⟩)
 | _=>none
def closedLp (P:Program) (E:Env) (live liveO:List Nat) (conv:List (Nat×Nat×TypeId)) (c:Code) (n:Nat):Lp:=⟨live,liveO,conv,fun vals H =>
 match iterN (stepX P E live liveO conv c) n (vals,H) with
 | some r=>some (true,.leaf r.1.1 r.1.2.1 r.1.2.2)
 | none=>none⟩
theorem xcN {P:Program} {Inv:IV} {E:Env} (hmx:P.follows .mixedOrders=true) (hIo:InvOk Inv) (hpin:Inv.pin=E.pin) (hor:OrcOk P Inv E) {c:Code} (hlo:LoOk P Inv E c) {live liveO:List Nat} {conv:List (Nat×Nat×TypeId)} {n:Nat} :
  LoopOk P Inv E.nt c (closedLp P E live liveO conv c n):=fun vals H r h=>by
 simp only [closedLp] at h
 split at h
 case h_2=>simp at h
 rename_i r0 hr
 simp only [Option.some.injEq,Prod.mk.injEq,true_and] at h
 subst h
 exact xdb hmx hIo hpin hor hlo (σ:=List AV×List Box) (ρ:={r:Exit×List AV×List Box // r.1≠.normal}) (step:=stepX P E live liveO conv c) (fun s=>s) (fun r=>.leaf r.1.1 r.1.2.1 r.1.2.2) (fun r=>r.2)
  (fun s r hs=>by
   unfold stepX at hs
   split at hs<;>simp only [Option.some.injEq,reduceCtorEq] at hs
   all_goals (subst hs;rename_i hx;exact hx)) (s:=(vals,H)) (r:=r0) (xdq.2 ⟨n,hr⟩)
end Go.Sim
namespace Go.Sim.M
open Go.RowKit Go.Proofs
def mmA (g:FuncId):Bool:=([97,99,
 80,117,141,
 113,140,169,
 102,131,155,104,
 138,168,192,
 164,189,203,
 82,112,84,125,
 41,42,49,51,50,66]:List Nat).contains g
noncomputable def EA0:Env:={ E0 with ls:=lsOf [57,59,159],fuel:=1000 }
theorem xdf:OrcOk Tryz.prog ITryz EA0:=xmG
noncomputable def EAr:Env:={ Env.deep Tryz.prog mmA EA0 10 with pin:=0,nt:=60,ls:=lsOf [] }
theorem xj7:OrcOk Tryz.prog (ITryz.at 0) EAr:=xbh mxTryz mmA (inv0Ok Tryz.prog 0) xdf (fun _=>rfl) 10
noncomputable def xj6:Lp:=closedLp Tryz.prog EAr [3,4,11,12,13] [4] [(4,2,150460170399)] (loopAt Tryz.f111 0) 100
noncomputable def EAr1:Env:={ EAr with lp:=lpsOf [(codeId (loopAt Tryz.f111 0),xj6)] }
theorem xlP:OrcOk Tryz.prog (ITryz.at 0) EAr1:=xj7
noncomputable def xg8:List AV→Option (Bool×AV):=fun xs=>match XF Tryz.prog EAr1 Tryz.f111 (Tryz.f111.body.getD .skip) xs with
 | some r=>some (true,r)
 | none=>none
theorem xmg:OcOk Tryz.prog ITryz 111 xg8:=fun xs r h=>by
 unfold xg8 at h
 split at h
 case h_2=>simp at h
 rename_i r0 hr
 simp only [Option.some.injEq,Prod.mk.injEq,true_and] at h
 subst h
 refine xav (p:=0) (xaM mxTryz (inv0Ok Tryz.prog _) rfl xlP Tryz.func111 rfl (by kernel_rfl) (xcp (ls:=[loopAt Tryz.f111 0]) (by kernel_rfl) (fun l hl lp hs=>?_)) hr)
 simp only [List.mem_cons,List.not_mem_nil,or_false] at hl
 subst hl
 rw [show EAr1.lp (codeId (loopAt Tryz.f111 0))=some xj6 by kernel_rfl] at hs
 simp only [Option.some.injEq] at hs
 subst hs
 exact xcN (E:=EAr) mxTryz (inv0Ok Tryz.prog _) rfl xj7 (xbk fun _=>rfl)
noncomputable def EAgr:Env:={ Env.deep Tryz.prog mmA EA0 12 with pin:=0,nt:=57,ls:=lsOf [57,59] }
theorem xi6:OrcOk Tryz.prog (ITryz.at 0) EAgr:=xbh mxTryz mmA (inv0Ok Tryz.prog 0) xdf (fun _=>rfl) 12
noncomputable def xi5:Lp:=closedLp Tryz.prog EAgr [1,5,6,18,19,20] [6] [(6,1,253605445655)] (loopAt Tryz.f40 0) 100
noncomputable def EAgr1:Env:={ EAgr with lp:=lpsOf [(codeId (loopAt Tryz.f40 0),xi5)] }
theorem xli:OrcOk Tryz.prog (ITryz.at 0) EAgr1:=xi6
noncomputable def xjF:List AV→Option (Bool×AV):=fun xs=>match XF Tryz.prog EAgr1 Tryz.f40 (Tryz.f40.body.getD .skip) xs with
 | some r=>some (true,r)
 | none=>none
theorem xmJ:OcOk Tryz.prog ITryz 40 xjF:=fun xs r h=>by
 unfold xjF at h
 split at h
 case h_2=>simp at h
 rename_i r0 hr
 simp only [Option.some.injEq,Prod.mk.injEq,true_and] at h
 subst h
 refine xav (p:=0) (xaM mxTryz (inv0Ok Tryz.prog _) rfl xli Tryz.func40 rfl (by kernel_rfl) (xcp (ls:=[loopAt Tryz.f40 0]) (by kernel_rfl) (fun l hl lp hs=>?_)) hr)
 simp only [List.mem_cons,List.not_mem_nil,or_false] at hl
 subst hl
 rw [show EAgr1.lp (codeId (loopAt Tryz.f40 0))=some xi5 by kernel_rfl] at hs
 simp only [Option.some.injEq] at hs
 subst hs
 exact xcN (E:=EAgr) mxTryz (inv0Ok Tryz.prog _) rfl xi6 (xbk fun _=>rfl)
noncomputable def EAsg:Env:={ Env.deep Tryz.prog mmA EA0 12 with pin:=0,nt:=111,ls:=lsOf [57,59] }
theorem xja:OrcOk Tryz.prog (ITryz.at 0) EAsg:=xbh mxTryz mmA (inv0Ok Tryz.prog 0) xdf (fun _=>rfl) 12
noncomputable def xi9:Lp:=closedLp Tryz.prog EAsg [1,2,3,6,7,8,31,32,33] [1,2,3,6,8] [(8,1,244881293359)] (loopAt Tryz.f43 0) 100
noncomputable def EAsg1:Env:={ EAsg with lp:=lpsOf [(codeId (loopAt Tryz.f43 0),xi9)] }
theorem xlk:OrcOk Tryz.prog (ITryz.at 0) EAsg1:=xja
noncomputable def xj0:List AV→Option (Bool×AV):=fun xs=>match XF Tryz.prog EAsg1 Tryz.f43 (Tryz.f43.body.getD .skip) xs with
 | some r=>some (true,r)
 | none=>none
theorem xmK:OcOk Tryz.prog ITryz 43 xj0:=fun xs r h=>by
 unfold xj0 at h
 split at h
 case h_2=>simp at h
 rename_i r0 hr
 simp only [Option.some.injEq,Prod.mk.injEq,true_and] at h
 subst h
 refine xav (p:=0) (xaM mxTryz (inv0Ok Tryz.prog _) rfl xlk Tryz.func43 rfl (by kernel_rfl) (xcp (ls:=[loopAt Tryz.f43 0,loopAt Tryz.f43 1,loopAt Tryz.f43 2]) (by kernel_rfl) (fun l hl lp hs=>?_)) hr)
 simp only [List.mem_cons,List.not_mem_nil,or_false] at hl
 rcases hl with rfl|rfl|rfl
 · rw [show EAsg1.lp (codeId (loopAt Tryz.f43 0))=some xi9 by kernel_rfl] at hs
   simp only [Option.some.injEq] at hs
   subst hs
   exact xcN (E:=EAsg) mxTryz (inv0Ok Tryz.prog _) rfl xja (xbk fun _=>rfl)
 · rw [show EAsg1.lp (codeId (loopAt Tryz.f43 1))=none by kernel_rfl] at hs
   simp at hs
 · rw [show EAsg1.lp (codeId (loopAt Tryz.f43 2))=none by kernel_rfl] at hs
   simp at hs
noncomputable def EAlv (p:Nat):Env:={ Env.deep Tryz.prog mmA EA0 6 with pin:=p,nt:=71,ls:=lsOf [] }
theorem xi8 (p:Nat):OrcOk Tryz.prog (ITryz.at p) (EAlv p):=xbQ (xbh mxTryz mmA (inv0Ok Tryz.prog 0) xdf (fun _=>rfl) 6)
noncomputable def xi7 (p:Nat):Lp:=closedLp Tryz.prog (EAlv p) [0,1,2,3,4] [] [(3,0,0)] (loopAt Tryz.f112 0) 100
noncomputable def EAlv1 (p:Nat):Env:={ EAlv p with lp:=lpsOf [(codeId (loopAt Tryz.f112 0),xi7 p)] }
theorem xlj (p:Nat):OrcOk Tryz.prog (ITryz.at p) (EAlv1 p):=xi8 p
noncomputable def xin:List AV→List Box→Option (Bool×AV×List Box):=fun xs H=>match XFM Tryz.prog (EAlv1 H.length) Tryz.f112 (Tryz.f112.body.getD .skip) xs H with
 | some (r,H')=>some (true,r,H')
 | none=>none
theorem xmw:OmOk Tryz.prog ITryz 112 xin:=fun xs H r H' h=>by
 unfold xin at h
 split at h
 case h_2=>simp at h
 rename_i r0 H0 hr
 simp only [Option.some.injEq,Prod.mk.injEq,true_and] at h
 obtain ⟨rfl,rfl⟩:=h
 refine xdE (p:=H.length) (xeX mxTryz (inv0Ok Tryz.prog _) rfl (xlj H.length) rfl Tryz.func112 rfl (by kernel_rfl) (xcp (ls:=[loopAt Tryz.f112 0,loopAt Tryz.f112 1]) (by kernel_rfl) (fun l hl lp hs=>?_) (by kernel_rfl)) hr)
 simp only [List.mem_cons,List.not_mem_nil,or_false] at hl
 rcases hl with rfl|rfl
 · rw [show (EAlv1 H.length).lp (codeId (loopAt Tryz.f112 0))=some (xi7 H.length) by kernel_rfl] at hs
   simp only [Option.some.injEq] at hs
   subst hs
   exact xcN (E:=EAlv H.length) mxTryz (inv0Ok Tryz.prog _) rfl (xi8 H.length) (xbk fun _=>rfl)
 · rw [show (EAlv1 H.length).lp (codeId (loopAt Tryz.f112 1))=none by kernel_rfl] at hs
   simp at hs
noncomputable def EAs:Env:=(((EA0.with 111 xg8).with 40 xjF).with 43 xj0).withM 112 xin
theorem xj8:OrcOk Tryz.prog ITryz EAs:=(((xdf.with xmg).with xmJ).with xmK).withM xmw
noncomputable def EAd:Env:={ Env.deep Tryz.prog mmA EAs 14 with pin:=0 }
mutual
def eqV:AV→AV→Bool
 | .int k a,.int k' b=>decide (k=k')&&decide (a=b)
 | .bool a,.bool b=>a==b
 | .str a,.str b=>decide (a=b)
 | .list n a,.list m b=>Nat.beq n m&&eqVs a b
 | .agg a,.agg b=>eqVs a b
 | .nils,.nils=>true
 | _,_=>false
def eqVs:List AV→List AV→Bool
 | [],[]=>true
 | a::l,b::m=>eqV a b&&eqVs l m
 | _,_=>false
end
mutual
theorem xmt:∀ (a b:AV),eqV a b=true→a=b:=fun a b h=>by
 cases a<;>cases b<;>first|rfl|(simp [eqV] at h;done)|skip
 all_goals simp only [eqV,Bool.and_eq_true,decide_eq_true_eq,beq_iff_eq] at h
 all_goals first|(rw [h.1,h.2];done)|(rw [h];done)|(rw [Nat.eq_of_beq_eq_true h.1,xfg _ _ h.2];done)|(rw [xfg _ _ h])
theorem xfg:∀ (a b:List AV),eqVs a b=true→a=b
 | [],[],_=>rfl
 | a::l,b::m,h=>by simp only [eqVs,Bool.and_eq_true] at h;rw [xmt a b h.1,xfg l m h.2]
 | [],_::_,h=>by simp [eqVs] at h
 | _::_,[],h=>by simp [eqVs] at h
end
def ptO (args:List AV) (r:AV):List AV→Option (Bool×AV):=fun xs=>match eqVs xs args with
 | true=>some (true,r)
 | false=>none
theorem xel {P:Program} {Inv:IV} {f:FuncId} {args:List AV} {r:AV} (h:Good P Inv f args r):OcOk P Inv f (ptO args r):=fun xs r0 h0=>by
 unfold ptO at h0
 split at h0
 case h_2=>simp at h0
 rename_i he
 simp only [Option.some.injEq,Prod.mk.injEq,true_and] at h0
 subst h0
 rw [xfg _ _ he];exact h
theorem xdF {f:FuncId} {fn:Func} {args:List AV} {r:AV} (hf:Tryz.prog.funcs[f]?=some fn) (hb:fn.body.isSome=true) (hname:(fn.name == "runtime.NumGoroutine")=false) (h:XF Tryz.prog EAd fn (fn.body.getD .skip) args=some r):Good Tryz.prog ITryz f args r :=
 xav (p:=0) (xaM mxTryz (inv0Ok Tryz.prog _) rfl (xbQ (xbh mxTryz mmA (inv0Ok Tryz.prog 0) xj8 (fun _=>rfl) 14)) hf hb hname (xbk fun _=>rfl) h)
end Go.Sim.M
end
noncomputable section
set_option maxRecDepth 100000
namespace Go.Sim.M
open Go.RowKit Go.Proofs
def vA (n:Int):AV:=.agg [.int .i64 1,.int .i64 n,.str []]
def nA:AV:=.agg [.int .i64 0,.int .i64 0,.str []]
def fA (a b:Int) (r:List Int):AV:=.agg [.list 3 (r.map vA),.int .i64 a,.int .i64 b]
def agA (o a:Int):AV:=.agg [.int .i64 o,.int .i64 a]
def itsA (l:List Int):AV:=.list 1 (l.map (AV.int .i64))
def bGi:AV:=.list 3 [fA 0 4 [1,1,5],fA 4 6 [1,2,12],fA 6 9 [1,1,7],fA 2 3 [2,1,1]]
def bGo:AV:=.list 3 [fA 0 4 [1,1,5],fA 6 9 [1,1,7],fA 4 6 [1,2,12],fA 2 3 [2,1,1]]
theorem xmP:XF Tryz.prog EAd Tryz.f44 (Tryz.f44.body.getD .skip) [bGi]=some bGo:=by kernel_rfl
theorem xmO:OcOk Tryz.prog ITryz 44 (ptO [bGi] bGo):=xel (xdF Tryz.func44 rfl (by kernel_rfl) xmP)
def bCi:AV:=.list 3 [fA 0 2 [1],fA 2 3 [2],fA 3 4 [1],fA 4 6 [2],fA 6 9 [1],fA 9 1099511627776 [0]]
def bCo:AV:=.list 3 [fA 9 1099511627776 [0],fA 0 2 [1],fA 3 4 [1],fA 6 9 [1],fA 2 3 [2],fA 4 6 [2]]
theorem xmN:XF Tryz.prog EAd Tryz.f44 (Tryz.f44.body.getD .skip) [bCi]=some bCo:=by kernel_rfl
theorem xmM:OcOk Tryz.prog ITryz 44 (ptO [bCi] bCo):=xel (xdF Tryz.func44 rfl (by kernel_rfl) xmN)
def bRi:AV:=.list 3 [fA 0 6 [1,5],fA 4 9 [1,7],fA 2 3 [2,1]]
def bRo:AV:=.list 3 [fA 0 6 [1,5],fA 4 9 [1,7],fA 2 3 [2,1]]
theorem xmT:XF Tryz.prog EAd Tryz.f44 (Tryz.f44.body.getD .skip) [bRi]=some bRo:=by kernel_rfl
theorem xmS:OcOk Tryz.prog ITryz 44 (ptO [bRi] bRo):=xel (xdF Tryz.func44 rfl (by kernel_rfl) xmT)
def bMi:AV:=.list 3 [fA 0 2 [5],fA 2 4 [5],fA 4 5 [7],fA 5 8 [7],fA 8 11 [7],.agg [.list 3 [nA],.int .i64 11,.int .i64 1099511627776]]
def bMo:AV:=.list 3 [.agg [.list 3 [nA],.int .i64 11,.int .i64 1099511627776],fA 0 4 [5],fA 4 11 [7]]
theorem xmR:XF Tryz.prog EAd Tryz.f44 (Tryz.f44.body.getD .skip) [bMi]=some bMo:=by kernel_rfl
theorem xmQ:OcOk Tryz.prog ITryz 44 (ptO [bMi] bMo):=xel (xdF Tryz.func44 rfl (by kernel_rfl) xmR)
noncomputable def EAt:Env:=((((EAs).with 44 (ptO [bGi] bGo)).with 44 (ptO [bCi] bCo)).with 44 (ptO [bRi] bRo)).with 44 (ptO [bMi] bMo)
theorem xj9:OrcOk Tryz.prog ITryz EAt:=((((xj8).with xmO).with xmM).with xmS).with xmQ
noncomputable def EAtd:Env:={ Env.deep Tryz.prog mmA EAt 14 with pin:=0 }
theorem xeh {f:FuncId} {fn:Func} {args:List AV} {r:AV} (hf:Tryz.prog.funcs[f]?=some fn) (hb:fn.body.isSome=true) (hname:(fn.name == "runtime.NumGoroutine")=false) (h:XF Tryz.prog EAtd fn (fn.body.getD .skip) args=some r):Good Tryz.prog ITryz f args r :=
 xav (p:=0) (xaM mxTryz (inv0Ok Tryz.prog _) rfl (xbQ (xbh mxTryz mmA (inv0Ok Tryz.prog 0) xj9 (fun _=>rfl) 14)) hf hb hname (xbk fun _=>rfl) h)
def relA:AV:=.agg [itsA [1,1],bRi]
def relM:AV:=.agg [itsA [1,1],.list 3 [fA 0 8 [1,5],fA 4 11 [1,7],fA 2 5 [2,1]]]
theorem xmY:XF Tryz.prog EAtd Tryz.f13 (Tryz.f13.body.getD .skip) [relA,itsA [0],.list 2 [agA 1 (-1),agA 2 1]]=some (.agg [itsA [1,1,1],bGo]):=by kernel_rfl
theorem xmX:OcOk Tryz.prog ITryz 13 (ptO [relA,itsA [0],.list 2 [agA 1 (-1),agA 2 1]] (.agg [itsA [1,1,1],bGo])):=xel (xeh Tryz.func13 rfl (by kernel_rfl) xmY)
theorem xmW:XF Tryz.prog EAtd Tryz.f13 (Tryz.f13.body.getD .skip) [relA,.nils,.list 2 [agA 1 (-1)]]=some (.agg [itsA [1],bCo]):=by kernel_rfl
theorem xmV:OcOk Tryz.prog ITryz 13 (ptO [relA,.nils,.list 2 [agA 1 (-1)]] (.agg [itsA [1],bCo])):=xel (xeh Tryz.func13 rfl (by kernel_rfl) xmW)
theorem xmx:XF Tryz.prog EAtd Tryz.f13 (Tryz.f13.body.getD .skip) [relM,.nils,.list 2 [agA 4 1]]=some (.agg [itsA [1],bMo]):=by kernel_rfl
theorem xmZ:OcOk Tryz.prog ITryz 13 (ptO [relM,.nils,.list 2 [agA 4 1]] (.agg [itsA [1],bMo])):=xel (xeh Tryz.func13 rfl (by kernel_rfl) xmx)
noncomputable def EAu:Env:=(((EAt).with 13 (ptO [relA,itsA [0],.list 2 [agA 1 (-1),agA 2 1]] (.agg [itsA [1,1,1],bGo]))).with 13 (ptO [relA,.nils,.list 2 [agA 1 (-1)]] (.agg [itsA [1],bCo]))).with 13 (ptO [relM,.nils,.list 2 [agA 4 1]] (.agg [itsA [1],bMo]))
theorem xmq:OrcOk Tryz.prog ITryz EAu:=(((xj9).with xmX).with xmV).with xmZ
end Go.Sim.M
end
noncomputable section
set_option maxRecDepth 100000
namespace Go.Sim.M
open Go.RowKit Go.Proofs
noncomputable def EAf:Env:={ Env.deep Tryz.prog mmA EA0 3 with pin:=0,ls:=lsOf [] }
theorem xmo:OrcOk Tryz.prog (ITryz.at 0) EAf:=xbQ (xbh mxTryz mmA (inv0Ok Tryz.prog 0) xdf (fun _=>rfl) 3)
noncomputable def xgx:List AV→Option (Bool×AV):=fun xs=>match XF Tryz.prog EAf Tryz.f37 (Tryz.f37.body.getD .skip) xs with
 | some r=>some (true,r)
 | none=>none
theorem xlZ:OcOk Tryz.prog ITryz 37 xgx:=fun xs r h=>by
 unfold xgx at h
 split at h
 case h_2=>simp at h
 rename_i r0 hr
 simp only [Option.some.injEq,Prod.mk.injEq,true_and] at h
 subst h
 exact xav (p:=0) (xaM mxTryz (inv0Ok Tryz.prog _) rfl xmo Tryz.func37 rfl (by kernel_rfl) (xbk fun _=>rfl) hr)
noncomputable def EAp:Env:={ Env.deep Tryz.prog mmA { EA0 with ls:=lsOf [1000035] } 5 with pin:=0 }
theorem xmp:OrcOk Tryz.prog (ITryz.at 0) EAp:=xbQ (xbh mxTryz mmA (inv0Ok Tryz.prog 0) (E:={ EA0 with ls:=lsOf [1000035] }) xdf (fun _=>rfl) 5)
noncomputable def xg2:List AV→Option (Bool×AV):=fun xs=>match XF Tryz.prog EAp Tryz.f21 (Tryz.f21.body.getD .skip) xs with
 | some r=>some (true,r)
 | none=>none
theorem xmc:OcOk Tryz.prog ITryz 21 xg2:=fun xs r h=>by
 unfold xg2 at h
 split at h
 case h_2=>simp at h
 rename_i r0 hr
 simp only [Option.some.injEq,Prod.mk.injEq,true_and] at h
 subst h
 exact xav (p:=0) (xaM mxTryz (inv0Ok Tryz.prog _) rfl xmp Tryz.func21 rfl (by kernel_rfl) (xbk fun _=>rfl) hr)
noncomputable def EAv:Env:=(EAu.with 37 xgx).with 21 xg2
theorem xmr:OrcOk Tryz.prog ITryz EAv:=(xmq.with xlZ).with xmc
noncomputable def EAe:Env:={ Env.deep Tryz.prog mmA EAv 14 with pin:=0 }
theorem xlW:XF Tryz.prog EAe Tryz.f11 (Tryz.f11.body.getD .skip) []=some (.bool true):=by kernel_rfl
def xgZ:List AV→Option (Bool×AV)
 | []=>some (true,.bool true)
 | _=>none
theorem xlV:OcOk Tryz.prog ITryz 11 xgZ:=fun xs r h=>by
 unfold xgZ at h;split at h
 · simp only [Option.some.injEq,Prod.mk.injEq,true_and] at h;subst h
   have hd:=xbh mxTryz mmA (inv0Ok Tryz.prog 0) xmr (fun _=>rfl) 14
   exact xav (p:=0) (xaM mxTryz (inv0Ok Tryz.prog _) rfl (xbQ hd) Tryz.func11 rfl (by kernel_rfl) (xbk fun _=>rfl) xlW)
 · simp at h
end Go.Sim.M
end
noncomputable section
namespace Go.Sim.M
open Go.IntKind (i64 u64 u8)
open Go.RowKit Go.Proofs
def EKAe:Env:=EKP1.with 11 xgZ
theorem xlT:OrcOk Tryz.prog ITryz EKAe:=xlU.with xlV
end Go.Sim.M
end
noncomputable section
set_option maxRecDepth 100000
namespace Go.Sim.M
open Go.IntKind (i64 u64 u8)
open Go.RowKit Go.Proofs
abbrev xkz:Env:=EKAe
theorem xkA:OrcOk Tryz.prog ITryz xkz:=xlT
abbrev xkB:Env:=xkz
theorem xkC:OrcOk Tryz.prog ITryz xkB:=xkA
def xaE:Env:=xkB.fn 61 0 (lsOf []) (lpsOf [])
theorem xc0:OrcOk Tryz.prog (ITryz.at 0) xaE:=xkC.fn
theorem xcU:LoOk Tryz.prog (ITryz.at xaE.pin) xaE (Tryz.f9.body.getD .skip):=xbz (by kernel_rfl)
def xbg {T:Type} (c:LA) (a b t:Int) (δ:T) (κ:Bool→T):T:=br (decide ((↑c.length:Int)>24)) (κ (true)) (br ((xbr c).isSome) (br (!(xbr c).getD false) (κ (true)) (br (!xbq a b) (κ (true)) (br ((xah c a b).isSome) (br (!xaO a b ((xah c a b).getD (0,0)).snd) (κ (false)) (br ((xbA c ((xah c a b).getD (0,0)).snd).isSome) (br ((xbA c ((xah c a b).getD (0,0)).snd).getD 0 != ((xah c a b).getD (0,0)).fst) (κ (false)) (br (xaO a b t) (br ((xbA c t).isSome) (br (decide ((xbA c t).getD 0>((xah c a b).getD (0,0)).fst)) (κ (false)) (br ((xbA c t).getD 0==((xah c a b).getD (0,0)).fst) (br (decide (t<((xah c a b).getD (0,0)).snd)) (κ (false)) (κ (true))) (κ (true)))) δ) (κ (true)))) δ)) δ))) δ)
def xaq (c:LA) (a b t:Int):Option (Bool):=xbg c a b t none some
theorem xdU (c:LA) (a b t:Int):Enc (fun (p:Bool)=>((AV.bool p):AV)) (xaq c a b t) (XF Tryz.prog xaE Tryz.f9 (Tryz.f9.body.getD .skip) [AV.list 2 c,AV.agg [AV.int .i64 a,AV.int .i64 b],AV.int .i64 t]):=by
 refine eV (xbg c a b t none (fun (p:Bool)=>some ((AV.bool p):AV))) (by kernel_rfl) ?_;unfold xaq xbg;repeat' first|exact eN|exact eS rfl|apply eB
def xdT:LA→Option (Bool×AV):=ocOf (sCons (sList 2 pAny) (sCons (sAgg (sCons (sEq (pInt .i64)) (sCons (sEq (pInt .i64)) sNil))) (sCons (sEq (pInt .i64)) sNil))) fun (c,((a,(b,_)),(t,_)))=>((xaq c a b t).isSome,(AV.bool ((xaq c a b t).getD false)))
theorem xdS:OcOk Tryz.prog ITryz 9 (xdT):=xcb fun c h e=>by
 obtain ⟨i,⟨⟨f,⟨g,_⟩⟩,⟨t,_⟩⟩⟩:=c
 obtain ⟨a,b⟩:=Prod.mk.inj e
 refine xav (p:=xaE.pin) (xaM mxTryz (inv0Ok Tryz.prog _) rfl xc0 Tryz.func9 rfl (by kernel_rfl) xcU ((xdU _ _ _ _ _ (xaL (d:=false) a)).trans ?_))
 exact congrArg some b
end Go.Sim.M
end
