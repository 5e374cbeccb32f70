/- Part 14 of the proof of the law. -/
import Derived.Test.YtoemghmemdnelaaGreatDoorGM13
import Derived.Deep.LoopGhost
import Derived.Lib.SliceRun
set_option linter.unusedVariables false
set_option linter.unusedSimpArgs false
noncomputable section
namespace Go.Proofs
open Go.RowKit Go.Lib Go.Shelf
set_option maxHeartbeats 2000000 in
set_option maxRecDepth 100000 in
theorem Tryz.clone_nil (n c:Nat) (w:World) :
  Calls Tryz.prog 163 #[.slice none n c] w fun e w'=>e=.returned (.slice none 0 0)/\w'=w:=by
 have q22:∀ (w:World) (a:Option Addr) (n c n' c':Nat),(binOp .eql 57 (.slice a n c) (.slice none n' c')).run Tryz.prog w=.ok (.bool a.isNone) w:=fun w a n c n' c'=>Lib.run_eql_slice_nil w 57 76 a n c n' c' (by kernel_rfl)
 go_enter Tryz.func163,Tryz.ntmps163
 go_wp2
 go_ret
 exact ⟨rfl,rfl⟩
set_option maxHeartbeats 2000000 in
set_option maxRecDepth 100000 in
theorem Tryz.clone_some (i0:TypeInfo) (z:Value) (hi:Tryz.prog.info? 76=some i0) (V:i0.zero=some z) (U:i0.size=3) (Y:i0.bytes=32) (W:z.cells.size=3)
  (a:Addr) (n c:Nat) (news:List Value) (w:World) (hl:news.length=n*3) (hn:n<=maxLen) (Q:n*32<=140737488355328)
  (hc:∀ j u,news[j]?=some u->w.cell? (a.add j)=some u) (h1:∀ u∈news,u.oneCell'=true) :
  Calls Tryz.prog 163 #[.slice (some a) n c] w fun e w'=>∃ v',e=.returned v'/\w'.ownsRow w.heap.size 76 3 v' n news/\Below w.heap.size w w':=by
 have J:Tryz.prog.underlying 57=some (.slice 76):=by kernel_rfl
 have q22:∀ (w:World) (a:Option Addr) (n c n' c':Nat),(binOp .eql 57 (.slice a n c) (.slice none n' c')).run Tryz.prog w=.ok (.bool a.isNone) w:=fun w a n c n' c'=>Lib.run_eql_slice_nil w 57 76 a n c n' c' J
 have u22:∀ w,Sem.run Tryz.prog (underlying 57) w=.ok (TypeDesc.slice 76) w:=run_underlying J;have A:Aside (∀ j u,news[j]?=some u->w.cell? (a.add j)=some u):=hc;clear hc
 go_enter Tryz.func163,Tryz.ntmps163
 go_wp2_with (at_builtin;refine wpList_append_own _ rfl _ _ 57 rfl w.heap.size 76 i0 z 3 32 J hi V U Y W (by decide) _ _ _ rfl (World.ownsRow_made w #[] 0 (Nat.le_refl _) (Nat.zero_le _) (by simp)) a n c news rfl ?qc1 ?qc2 ?qc3 ?qc4 ?qc5 ?qc6 ?_)
 case qc1=>exact hl
 case qc2 =>
  intro j u hj;exact Lib.cell?_alloc_some _ (A.out j u hj)
 case qc3=>exact h1
 case qc4=>rw [Nat.zero_add];exact hn
 case qc5=>rw [Nat.zero_add];exact Q
 case qc6=>simp
 intro v' w1 O q Z
 go_wp2
 go_ret
 refine ⟨v',rfl,by simpa using O,?_⟩
 exact ((Below.refl _ w).alloc (Nat.le_refl _) _).grown q (by simp) (by intro k hk;simp [Value.ownBlock] at hk;omega)
end Go.Proofs
namespace Go.Sim
open Go.RowKit Go.Proofs
def xrb:List AV->Option (Bool×AV)
 | [.list 3 xs]=>some (decide (xs.length<=4398046511104),.list 3 xs)
 | _=>none
theorem xCc {w w':World} {A:Nat->Prop} {e:TypeId} {sz:Nat} {v:Value} {xs:List AV} {news:List Value} (hl:∀ b,A b->b<w.heap.size) (Q:w'.ownsRow w.heap.size e sz v xs.length news) (V:∀ x,x∈xs->x.okElem sz=true)
  (hr:∀ i j,i<xs.length->j<sz->Rel w' A xSy (news.getD (i*sz+j) undef) ((xs.getD i .top).cells.getD j .top)):Rel w' A xSy v (.list sz xs):=by
 obtain ⟨Z,h⟩:=Q;rcases h with ⟨rfl,h0⟩|⟨g,cap,cur,rfl,hg,hh,J,aa,Y,U⟩
 . have:xs=[]:=List.eq_nil_of_length_eq_zero h0;subst this;exact .list0 _ _ _
 . by_cases hne:xs=[]
   . subst hne;exact .list0 _ _ _
   . have W:g<w'.heap.size:=by
      rcases Nat.lt_or_ge g w'.heap.size with h|h
      . exact h
      . rw [Array.getElem?_eq_none h] at hh;simp at hh
     have q:∀ i j,i<xs.length->j<sz->w'.cell? ⟨g,0+i*sz+j,none⟩=some (news.getD (i*sz+j) undef):=fun i j hi hj=>by
      have hk:i*sz+j<xs.length*sz:=xeF hi hj;have O:i*sz+j<cur.size:=by
       rw [Y];exact Nat.lt_of_lt_of_le hk (Nat.mul_le_mul_right _ J)
      have e1:news.getD (i*sz+j) undef=cur[i*sz+j]:=by
       rw [<-U];simp [List.getD_eq_getElem?_getD,List.getElem?_take,hk,O]
      rw [e1,Nat.zero_add];simp [World.cell?,hh,O]
     exact .list g 0 cap sz xs (fun i j=>news.getD (i*sz+j) undef) (fun hA=>by have:=hl g hA;omega) W hne J V q hr
theorem xAT:OcOk Tryz.prog xS1 163 xrb:=fun xs r h=>by
 unfold xrb at h;split at h
 . rename_i xs;simp only [Option.some.injEq,Prod.mk.injEq,decide_eq_true_eq] at h;obtain ⟨aa,rfl⟩:=h;refine ⟨xfh Tryz.func163 rfl (by kernel_rfl),fun w A vs hI hA Z=>?_⟩
   obtain ⟨v,rfl,h1⟩:=rc1 Z;have J:∃ ti,xSj Tryz.prog 76=some ti/\ti.sz=3/\ti.bytes=32/\ti.zero.okElem 3=true:=by
    have h:(match xSj Tryz.prog 76 with|some ti=>(ti.sz==3)&&((ti.bytes==32)&&ti.zero.okElem 3)|none=>false)=true:=by kernel_rfl
    split at h
    . rename_i ti J;simp only [Bool.and_eq_true,beq_iff_eq] at h;exact ⟨ti,J,h.1,h.2.1,h.2.2⟩
    . simp at h
   obtain ⟨ti,J,s1,s2,s3⟩:=J;obtain ⟨i,z,g1,g2,g3,g4,g5,g6,_⟩:=xbR J;have V:z.cells.size=3:=by
    have Y:Rel w A xSy z ti.zero:=by rw [g6];exact xeK w A xSy z
    rw [(Y.cells (xbo s3)).1,xa3 s3]
   have W:∀ n c,v=.slice none n c->xs=[]->Calls Tryz.prog 163 [v].toArray w fun e w'=>∃ v,e=.returned v/\Below w.heap.size w w'/\Rel w' A xSy v (.list 3 xs):=by
    rintro n c rfl rfl;refine (Tryz.clone_nil n c w).mono ?_;rintro e w' ⟨rfl,rfl⟩;exact ⟨_,rfl,Below.refl _ _,.list0 _ _ _⟩
   have Q:∀ b off c (val:Nat->Nat->Value),v=.slice (some ⟨b,off,none⟩) xs.length c->(∀ x,x∈xs->x.okElem 3=true)->(∀ i j,i<xs.length->j<3->w.cell? ⟨b,off+i*3+j,none⟩=some (val i j))->(∀ i j,i<xs.length->j<3->Rel w A xSy (val i j) ((xs.getD i .top).cells.getD j .top)) ->
     Calls Tryz.prog 163 [v].toArray w fun e w'=>∃ v,e=.returned v/\Below w.heap.size w w'/\Rel w' A xSy v (.list 3 xs):=by
    rintro b off c val rfl U hc hr;have hs:∀ i j,i<xs.length->j<3->∃ u,w.cell? ⟨b,off+(i*3+j),none⟩=some u/\Rel w A xSy u ((xs.getD i .top).cells.getD j .top):=fun i j hi hj=>⟨val i j,by rw [<-Nat.add_assoc];exact hc i j hi hj,hr i j hi hj⟩
    refine (Tryz.clone_some i z g1 g3 (by rw [<-g4,s1]) (by rw [<-g5,s2]) V ⟨b,off,none⟩ xs.length c (xSK w b off (xs.length*3)) w (xjG _ _ _ _) (by unfold maxLen;omega) (by omega)
     (fun j u hj=>xBn (by decide) hs j u hj) (xJv (by decide) hs U)).mono ?_
    rintro e w' ⟨v',rfl,O,q⟩;exact ⟨v',rfl,q,xCc hA O U fun i j hi hj=>(xJw hs hi hj).grow q⟩
   have h1':=h1;generalize hx:AV.list 3 xs=x at h1;cases h1 with
   | list0 a cap sz =>
    simp only [AV.list.injEq] at hx;obtain ⟨rfl,rfl⟩:=hx;cases a with
    | none=>exact W 0 cap rfl rfl
    | some a =>
     refine (Tryz.clone_some i z g1 g3 (by rw [<-g4,s1]) (by rw [<-g5,s2]) V a 0 cap [] w rfl (Nat.zero_le _) (by omega) (by simp) (by simp)).mono ?_
     rintro e w' ⟨v',rfl,O,q⟩;exact ⟨v',rfl,q,xCc hA (xs:=[]) O (by simp) (by simp)⟩
   | list b off cap sz ys val ha hb hne hcap hsz hc hr =>
    simp only [AV.list.injEq] at hx;obtain ⟨rfl,rfl⟩:=hx;exact Q b off cap val rfl hsz hc hr
   | _=>simp at hx
 . simp at h
end Go.Sim
end
noncomputable section
namespace Go.Sim.M
open Go.RowKit Go.Proofs
noncomputable def E0A:Env:=((((((xKO.E.with 136 xmf).with 98 xre).with 163 xrb).withM 129 xwj).withM 100 xnB).withM 113 xFj).withM 102 xFi
theorem xPo:xSk Tryz.prog xS1 E0A:=((((((xKO.ok.with xyz).with xAW).with xAT).withM xCS).withM xyx).withM xPe).withM xPd
noncomputable def xPn:EO:=EO.mk E0A xPo
end Go.Sim.M
end
noncomputable section
set_option maxRecDepth 100000
namespace Go.Sim.M
open Go.IntKind (i64 u64 u8)
open Go.RowKit Go.Proofs
def xb7 {T:Type} (a:List UInt8) (δ:T) (κ:Int×Nat×LA->T):T:=br (decide ((byteAVs a).length*1<=140737488355328)&&decide ((byteAVs a).length<=4611686018427387904)) (κ ((↑a.length:Int),(byteAVs a).length,byteAVs a)) δ
def xaN (a:List UInt8):=xb7 a none some
def xQA:EO:=xPn.fM Tryz.func97 19 1 [] [] lk0 (u2 (sEq (xTh 0 0 0 0)) (sEq pStr)) (q1 (qB 0 2 142 (q1 (xTi (q2 pNilptr pNils))))) (fun (_,a,_) (((_,_,_),_),_) _=>xb7 a) (fun _ _ p=>(AV.tuple [AV.int .i64 p.1,.top],([⟨0,2,142,[AV.agg [AV.own 0 0 0 0,AV.osl 1 0 0 p.2.1]],false,false⟩,bF 0 1 5 p.2.2]:List Box))) (0,0,[])
def xfc {T:Type} (a:List UInt8) (n:Nat) (b:LA) (δ:T) (κ:Int×Nat×LA->T):T:=br (n==b.length&&(decide ((n+(byteAVs a).length)*1<=140737488355328)&&decide (n+(byteAVs a).length<=4611686018427387904))) (κ ((↑a.length:Int),n+(byteAVs a).length,b++byteAVs a)) δ
def xaQ (a:List UInt8) (n:Nat) (b:LA):=xfc a n b none some
def xQB:EO:=xQA.fM Tryz.func97 19 2 [] [] lk0 (u2 (sEq (xTh 0 0 0 0)) (sEq pStr)) (q2 (xTj 0 2 142 false false (q1 (xTi (q2 (xTh 0 0 0 0) (xTg 1 0 0))))) (qB 0 1 5 xS6)) (fun (_,a,_) (((_,n,_),_),b,_) _=>xfc a n b) (fun _ _ p=>(AV.tuple [AV.int .i64 p.1,.top],([⟨0,2,142,[AV.agg [AV.own 0 0 0 0,AV.osl 1 1 0 p.2.1]],false,false⟩,bF 1 1 5 p.2.2]:List Box))) (0,0,[])
def xjH {T:Type} (a:List UInt8) (n:Nat) (b:LA) (δ:T) (κ:Int×Nat×LA->T):T:=br (n==b.length&&(decide ((n+(byteAVs a).length)*1<=140737488355328)&&decide (n+(byteAVs a).length<=4611686018427387904))) (κ ((↑a.length:Int),n+(byteAVs a).length,b++byteAVs a)) δ
def xlg (a:List UInt8) (n:Nat) (b:LA):=xjH a n b none some
def xJD:EO:=xQB.fM Tryz.func97 19 2 [] [] lk0 (u2 (sEq (xTh 0 0 0 0)) (sEq pStr)) (q2 (xTj 0 2 142 false false (q1 (xTi (q2 (xTh 0 0 0 0) (xTg 1 1 0))))) (qB 1 1 5 xS6)) (fun (_,a,_) (((_,n,_),_),b,_) _=>xjH a n b) (fun _ _ p=>(AV.tuple [AV.int .i64 p.1,.top],([⟨0,2,142,[AV.agg [AV.own 0 0 0 0,AV.osl 1 2 0 p.2.1]],false,false⟩,bF 2 1 5 p.2.2]:List Box))) (0,0,[])
def xbI:Env:=xJD.E.fn 17 1 (lsOf []) (xSH [])
theorem xr4:xSk P0 (xS1.at 1) xbI:=xJD.ok.fn
theorem xrf:LoOk P0 (xS1.at xbI.pin) xbI (Tryz.f99.body.getD .skip):=xsM (by kernel_rfl)
def xhl (c:Int):Int:=((c))
def xj2 (c:Int):Bool:=true
def xlJ {T:Type} (c:Int) (δ:T) (κ:Int->T):T:=κ (c)
theorem xve (c:Int):Pre (xj2 c) (XFM P0 xbI Tryz.f99 (Tryz.f99.body.getD .skip) [AV.own (0:Id) 0 0 0,AV.int .u8 c] [{ ver:=0,sz:=2,ty:=(142:TypeId),xs:=[AV.agg [AV.nilptr,AV.nils]],frz:=false,pm:=true }]) ((.top,([⟨0,2,142,[AV.agg [AV.own 0 0 0 0,AV.osl 1 0 0 1]],false,false⟩,⟨0,1,5,[AV.int .u8 (xhl c)],false,true⟩]:List Box))):=by
 have h:XFM P0 xbI Tryz.f99 (Tryz.f99.body.getD .skip) [AV.own (0:Id) 0 0 0,AV.int .u8 c] [{ ver:=0,sz:=2,ty:=(142:TypeId),xs:=[AV.agg [AV.nilptr,AV.nils]],frz:=false,pm:=true }]=xlJ c none (fun (p:Int)=>some (((.top,([⟨0,2,142,[AV.agg [AV.own 0 0 0 0,AV.osl 1 0 0 1]],false,false⟩,⟨0,1,5,[AV.int .u8 p],false,true⟩]:List Box))):(AV×List Box))):=by kernel_rfl
 rw [h];unfold xhl xj2 xlJ;repeat' (first|exact Pre.none|exact Pre.tt rfl|exact Pre.some rfl|refine Pre.l ?_|refine Pre.r ?_|refine Pre.br (f:=fun (p:Int)=>(((.top,([⟨0,2,142,[AV.agg [AV.own 0 0 0 0,AV.osl 1 0 0 1]],false,false⟩,⟨0,1,5,[AV.int .u8 p],false,true⟩]:List Box))):(AV×List Box))) ?_ ?_|refine Pre.brt (f:=fun (p:Int)=>(((.top,([⟨0,2,142,[AV.agg [AV.own 0 0 0 0,AV.osl 1 0 0 1]],false,false⟩,⟨0,1,5,[AV.int .u8 p],false,true⟩]:List Box))):(AV×List Box))) ?_ ?_)
def xvd:LA->List Box->Option (Bool×AV×List Box):=omOf (xS3 (sEq (xTh 0 0 0 0)) (xS3 (sEq (pInt .u8)) xS5)) (xS2 (xTj 0 2 (142:TypeId) false true (xS2 (xTi (xS2 pNilptr (xS2 pNils xS4))) xS4)) xS4) fun (_,(c,_)) (((_,(_,_)),_),_)=>(true,((.top,([⟨0,2,142,[AV.agg [AV.own 0 0 0 0,AV.osl 1 0 0 1]],false,false⟩,⟨0,1,5,[AV.int .u8 (xhl c)],false,true⟩]:List Box))))
theorem xvc:OmOk P0 xS1 99 (xvd):=xqV fun b d h f e=>by
 obtain ⟨_,⟨c,_⟩⟩:=b;obtain ⟨⟨⟨_,⟨_,_⟩⟩,_⟩,_⟩:=d;obtain ⟨g,a⟩:=Prod.mk.inj e;refine xi0 (p:=xbI.pin) (xkc xSt (xSu P0 _) rfl xr4 rfl Tryz.func99 rfl (by kernel_rfl) xrf ((Pre.get (xve _) rfl).trans ?_))
 exact congrArg some a
def xQC:EO:=xJD.wM xvc
def xlb {T:Type} (c:Int) (n:Nat) (a:LA) (δ:T) (κ:Nat×LA->T):T:=br (rmB n a 1 1) (κ (n+1,a++[AV.int .u8 c])) δ
def xbU (c:Int) (n:Nat) (a:LA):=xlb c n a none some
def xQD:EO:=xQC.fM Tryz.func99 17 2 [] [] lk0 (u2 (sEq (xTh 0 0 0 0)) (sEq (pInt .u8))) (q2 (xTj 0 2 142 false false (q1 (xTi (q2 (xTh 0 0 0 0) (xTg 1 0 0))))) (qB 0 1 5 xS6)) (fun (_,c,_) (((_,n,_),_),a,_) _=>xlb c n a) (fun _ _ p=>(.top,([⟨0,2,142,[AV.agg [AV.own 0 0 0 0,AV.osl 1 1 0 p.1]],false,false⟩,bF 1 1 5 p.2]:List Box))) (0,[])
def xdF {T:Type} (c:Int) (n:Nat) (a:LA) (δ:T) (κ:Nat×LA->T):T:=br (rmB n a 1 1) (κ (n+1,a++[AV.int .u8 c])) δ
def xbr (c:Int) (n:Nat) (a:LA):=xdF c n a none some
def xJE:EO:=xQD.fM Tryz.func99 17 2 [] [] lk0 (u2 (sEq (xTh 0 0 0 0)) (sEq (pInt .u8))) (q2 (xTj 0 2 142 false false (q1 (xTi (q2 (xTh 0 0 0 0) (xTg 1 1 0))))) (qB 1 1 5 xS6)) (fun (_,c,_) (((_,n,_),_),a,_) _=>xdF c n a) (fun _ _ p=>(.top,([⟨0,2,142,[AV.agg [AV.own 0 0 0 0,AV.osl 1 2 0 p.1]],false,false⟩,bF 2 1 5 p.2]:List Box))) (0,[])
def xha (b:Int) (a:LA):=((a.getD (0+b.toNat) .top).cells.getD 0 .top).toInt
def xpP (d:Int) (c:Nat) (b a:LA):=((xaQ (Lib.itoa (xha d b)) c a).getD (0,0,[])).snd
def xpO (d:Int) (c:Nat) (b a:LA):=xbr 32 (xpP d c b a).fst (xpP d c b a).snd
def xpN (d:Int) (c:Nat) (b a:LA):=(xpO d c b a).getD (0,[])
def xlL {T:Type} (k:LA) (l j:Int) (e:Nat) (i c:Int) (d:Nat) (f g:Int) (h:List UInt8) (a b:LA) (δ:T) (κl:(Int×Nat×Int×Int×List UInt8×LA×LA)->T) (κr:(Nat×Int×Int×List UInt8×LA)->T):T:=br (decide (c<i)) (br (decide (0<=c)&&decide (c<(↑e:Int))) (br (decide (0+c.toNat<a.length)&&xSi (Sh.int .i64) ((a.getD (0+c.toNat) .top).cells.getD 0 .top)) (br (decide ((-9223372036854775808)<=xha c a)&&decide (xha c a<=9223372036854775807)) (br ((xaQ (Lib.itoa (xha c a)) d b).isSome) (br ((xpO c d a b).isSome) (κl (i64.wrap (c+1),(xpN c d a b).fst,f,g,h,a,(xpN c d a b).snd)) δ) δ) δ) δ) δ) (κr (d,f,g,h,b))
def xbN (k:LA) (l e:Int) (c:Nat) (f:Int):StT (Int×Nat×Int×Int×List UInt8×LA×LA) (Nat×Int×Int×List UInt8×LA):=fun (g,d,h,i,j,b,a)=>xlL k l e c f g d h i j b a none inL inR
def xka:=xJE.l 37 0 [] [] Tryz.f137 1 lk0 [3,5,8,9,10,21,22,23] [3,5,8,9,10] [] (q8 (xTh 0 0 0 0) (xTh 1 0 0 0) (qL 3) qI qI (xTg 2 0 0) qI qI) (q4 (xTj 0 2 142 false false (q1 (xTi (q2 (xTh 0 0 0 0) (xTg 3 0 0))))) (qB 0 3 76 (q1 (xTi (q3 qI qI pStr)))) (qB 0 1 3 xS6) (qB 0 1 5 xS6)) (fun (_,_,k,m,e,c,f,g,_) (((_,d,_),_),((h,i,j,_),_),b,a,_)=>(xbN k m e c f,(g,d,h,i,j,b,a),fun p=>(.leaf (.exit 2) [AV.own 0 0 0 0,AV.own 1 0 0 0,AV.list 3 k,AV.int .i64 m,AV.int .i64 e] [⟨0,2,142,[AV.agg [AV.own 0 0 0 0,AV.osl 2 0 0 p.1]],false,false⟩,bF 0 3 76 [AV.agg [AV.int .i64 p.2.1,AV.int .i64 p.2.2.1,AV.str p.2.2.2.1]],bF 0 1 5 p.2.2.2.2]))) (0,0,0,[],[]) fun (_,_,k,m,e,c,f,_,_) _ (g,d,h,i,j,b,a)=>((((),(),k,m,e,c,f,g,()),((((),d,()),()),((h,i,j,()),()),b,a,())),xlL k m e c f g d h i j b a none)
def xpM (b:LA) (e a:Int) (d:Nat) (c:LA):=Iter (xbN b e a 3 3) (0,d,(gC b a 0).toInt,(gC b a 1).toInt,(gC b a 2).toStr,[AV.int .i64 (gC b a 0).toInt,AV.int .i64 (gC b a 1).toInt,AV.int .i64 (↑(gC b a 2).toStr.length:Int)],c)
def xpL (d:LA) (e c:Int) (b:Nat) (a:LA):=(xpM d e c b a).getD (0,0,0,[],[])
def xpK (d:LA) (e c:Int) (b:Nat) (a:LA):=(xpL d e c b a).snd.snd.snd
def xpJ (d:LA) (e c:Int) (b:Nat) (a:LA):=xaQ (xpK d e c b a).fst (xpL d e c b a).fst (xpK d e c b a).snd
def xpI (d:LA) (e c:Int) (b:Nat) (a:LA):=((xpJ d e c b a).getD (0,0,[])).snd
def xlK {T:Type} (d:LA) (e b:Int) (c:Nat) (a:LA) (δ:T) (κl:(Int×Nat×LA)->T) (κr:(Nat×LA)->T):T:=br (decide (b<e)) (br (ixI d b) (br (ixT d b 3 [Sh.int .i64,Sh.int .i64,Sh.str] 0) (br ((xpM d e b c a).isSome) (br ((xpJ d e b c a).isSome) (κl (i64.wrap (b+1),(xpI d e b c a).fst,(xpI d e b c a).snd)) δ) δ) δ) δ) (κr (c,a))
def xd8 (d:LA) (e:Int):StT (Int×Nat×LA) (Nat×LA):=fun (c,b,a)=>xlK d e c b a none inL inR
def xwt:=xJE.l 37 0 [] [(6,xka.lp)] Tryz.f137 0 (lk1 xka.ok) [3,8,9,10] [3] [] (q4 (xTh 0 0 0 0) (qL 3) qI qI) (q2 (xTj 0 2 142 false false (q1 (xTi (q2 (xTh 0 0 0 0) (xTg 1 0 0))))) (qB 0 1 5 xS6)) (fun (_,d,e,c,_) (((_,b,_),_),a,_)=>(xd8 d e,(c,b,a),fun p=>(.leaf (.exit 0) [AV.own 0 0 0 0] [⟨0,2,142,[AV.agg [AV.own 0 0 0 0,AV.osl 1 0 0 p.1]],false,false⟩,bF 0 1 5 p.2]))) (0,[]) fun (_,d,e,_,_) _ (c,b,a)=>((((),d,e,c,()),((((),b,()),()),a,())),xlK d e c b a none)
def xdR (a:LA):=((a.getD 0 .top).cells.getD 0 .top).toInt
def xtQ (a:LA):=xbU 32 ((xaN (Lib.itoa (xdR a))).getD (0,0,[])).snd.fst ((xaN (Lib.itoa (xdR a))).getD (0,0,[])).snd.snd
def xtP (a:LA):=(xtQ a).getD (0,[])
def xtO (a:LA):=Iter (xbN a (↑a.length:Int) 0 3 3) (1,(xtP a).fst,xdR a,((a.getD 0 .top).cells.getD 1 .top).toInt,((a.getD 0 .top).cells.getD 2 .top).toStr,[AV.int .i64 (xdR a),AV.int .i64 ((a.getD 0 .top).cells.getD 1 .top).toInt,AV.int .i64 (↑((a.getD 0 .top).cells.getD 2 .top).toStr.length:Int)],(xtP a).snd)
def xtN (a:LA):=(xtO a).getD (0,0,0,[],[])
def xtM (a:LA):=(xtN a).snd.snd.snd
def xtL (a:LA):=xaQ (xtM a).fst (xtN a).fst (xtM a).snd
def xtK (a:LA):=((xtL a).getD (0,0,[])).snd
def xtJ (a:LA):=Iter (xd8 a (↑a.length:Int)) (1,(xtK a).fst,(xtK a).snd)
def xtI (a:LA):=(xtJ a).getD (0,[])
def xkb (a:LA):=(xtI a).snd
def xvG {T:Type} (a:LA) (δ:T) (κ:List UInt8->T):T:=br (decide (0<(↑a.length:Int))) (br (decide (0<(↑a.length:Int))) (br (decide (0<a.length)&&((a.getD 0 .top).cells.length==3&&xSp [Sh.int .i64,Sh.int .i64,Sh.str] (a.getD 0 .top).cells 0)) (br (decide ((-9223372036854775808)<=xdR a)&&decide (xdR a<=9223372036854775807)) (br ((xaN (Lib.itoa (xdR a))).isSome) (br ((xtQ a).isSome) (br ((xtO a).isSome) (br ((xtL a).isSome) (br ((xtJ a).isSome) (br (decide ((xtI a).fst=(xkb a).length)&&isBytes (xkb a)&&decide ((xkb a).length≠0)) (κ (strOf (xkb a))) δ) δ) δ) δ) δ) δ) δ) δ) δ) (κ ([]))
def xpH (a:LA):=xvG a none some
def xQE:EO:=xJE.f Tryz.func137 37 0 [] [(6,xka.lp),(3,xwt.lp)] (lks (lkC xwt.ok (lkC xka.ok lkN))) (u1 (uL 3)) (fun (a,_) _=>xvG a) (fun _ p=>AV.str p) []
def xns (x:Int):Bool:=((x != x))
def xH4 {T:Type} (x:Int) (δ:T) (κ:Bool->T):T:=κ (x != x)
def xQF:EO:=xQE.fT Tryz.func132 6 0 [] [] lk0 (fun (x,_)=>xH4 x none) (u1 uI) (fun (x,_)=>xns x) (fun _ p=>(AV.bool p))
def xlm (x y:Int):Int:=(br (xns x) (br (xns y) ((0)) (((-1)))) (br (xns y) ((1)) (br (decide (x<y)) (((-1))) (br (decide (x>y)) ((1)) ((0))))))
def xF9 {T:Type} (x y:Int) (δ:T) (κ:Int->T):T:=br (xns x) (br (xns y) (κ (0)) (κ ((-1)))) (br (xns y) (κ (1)) (br (decide (x<y)) (κ ((-1))) (br (decide (x>y)) (κ (1)) (κ (0)))))
def xJF:EO:=xQF.fT Tryz.func103 20 0 [] [] lk0 (fun (x,y,_)=>xF9 x y none) (u2 uI uI) (fun (x,y,_)=>xlm x y) (fun _ p=>(AV.int .i64 p))
def xpy:Env:=xJF.E.fn 18 0 (lsOf []) (xSH [])
theorem xGN:xSk P0 (xS1.at 0) xpy:=xJF.ok.fn
theorem xDZ:LoOk P0 (xS1.at xpy.pin) xpy (Tryz.f115.body.getD .skip):=xgK (ls:=[xSo Tryz.f115 0]) (by kernel_rfl) (fun l a lp b=>by
 simp only [zC,List.not_mem_nil,or_false] at a;rcases a with rfl
 . rw [show xpy.lp (xSz (xSo Tryz.f115 0))=none by kernel_rfl] at b
   simp at b)
def xy2 (a b c:Int):Int:=(br (a != 0) ((a)) (br (b != 0) ((b)) (br (c != 0) ((c)) ((0)))))
def xDx (a b c:Int):Bool:=true
def xGO {T:Type} (a b c:Int) (δ:T) (κ:Int->T):T:=br (a != 0) (κ (a)) (br (b != 0) (κ (b)) (br (c != 0) (κ (c)) (κ (0))))
theorem xMx (a b c:Int):Pre (xDx a b c) (XF P0 xpy Tryz.f115 (Tryz.f115.body.getD .skip) [AV.list 1 [AV.int .i64 a,AV.int .i64 b,AV.int .i64 c]]) (AV.int .i64 (xy2 a b c)):=by
 have h:XF P0 xpy Tryz.f115 (Tryz.f115.body.getD .skip) [AV.list 1 [AV.int .i64 a,AV.int .i64 b,AV.int .i64 c]]=xGO a b c none (fun (p:Int)=>some ((AV.int .i64 p):AV)):=by kernel_rfl
 rw [h];unfold xy2 xDx xGO;repeat' (first|exact Pre.none|exact Pre.tt rfl|exact Pre.some rfl|refine Pre.l ?_|refine Pre.r ?_|refine Pre.br (f:=fun (p:Int)=>((AV.int .i64 p):AV)) ?_ ?_|refine Pre.brt (f:=fun (p:Int)=>((AV.int .i64 p):AV)) ?_ ?_)
def xMZ:LA->Option (Bool×AV):=ocOf (xS3 (xTk 1 (xS2 (pInt .i64) (xS2 (pInt .i64) (xS2 (pInt .i64) xS4)))) xS5) fun ((a,(b,(c,_))),_)=>(true,(AV.int .i64 (xy2 a b c)))
theorem xMY:OcOk P0 xS1 115 (xMZ):=xmw fun e h f=>by
 obtain ⟨⟨a,⟨b,⟨c,_⟩⟩⟩,_⟩:=e;obtain ⟨g,d⟩:=Prod.mk.inj f;refine xdT (p:=xpy.pin) (xf4 xSt (xSu P0 _) rfl xGN Tryz.func115 rfl (by kernel_rfl) xDZ ((Pre.get (xMx _ _ _) rfl).trans ?_))
 exact congrArg some d
def xQG:EO:=xJF.w xMY
def xbK (a b:Int) (c:List UInt8) (d e:Int) (f:List UInt8):Int:=((xy2 (xlm a d) (xlm b e) (Lib.compareBytes c f)))
def xEO {T:Type} (a b:Int) (c:List UInt8) (d e:Int) (f:List UInt8) (δ:T) (κ:Int->T):T:=κ (xy2 (xlm a d) (xlm b e) (Lib.compareBytes c f))
def xNT:EO:=xQG.fT Tryz.func110 22 0 [] [] lk0 (fun ((a,b,c,_),(d,e,f,_),_)=>xEO a b c d e f none) (u2 (xTl (u3 uI uI (sEq pStr))) (xTl (u3 uI uI (sEq pStr)))) (fun ((a,b,c,_),(d,e,f,_),_)=>xbK a b c d e f) (fun _ p=>(AV.int .i64 p))
def xcH (c b:LA) (a:Int):=xbK (gC b a 0).toInt (gC b a 1).toInt (gC b a 2).toStr (gC c a 0).toInt (gC c a 1).toInt (gC c a 2).toStr
def xcZ {T:Type} (e c b:LA) (d a:Int) (δ:T) (κl:(Int)->T) (κr:(Bool×(Int)×(Unit))->T):T:=br (decide (a<d)) (br (ixI b a) (br (ixT b a 3 [Sh.int .i64,Sh.int .i64,Sh.str] 0) (br (decide (a>=c.length)) (κr (true,(1),())) (br (ixI c a) (br (ixT c a 3 [Sh.int .i64,Sh.int .i64,Sh.str] 0) (br (xcH c b a != 0) (κr (true,(xcH c b a),())) (κl (i64.wrap (a+1)))) δ) δ)) δ) δ) (κr (false,0,()))
def xa9 (d e a:LA) (b:Int):StT (Int) (Bool×(Int)×(Unit)):=fun (c)=>xcZ d e a b c none inL inR
def xql:=xNT.l 39 0 [] [] Tryz.f165 0 lk0 [0,1,2,11,12,13] [0,1,6] [] (q6 (qL 3) (qL 3) (xSI 110 xS4) (qL 3) qI qI) xS4 (fun (d,e,_,a,b,c,_) _=>(xa9 d e a b,(c),fun p=>(.node p.1 (.leaf .ret [AV.list 3 d,AV.list 3 e,AV.int .i64 p.2.1] []) (.leaf (.exit 0) [AV.list 3 d,AV.list 3 e,.top] [])))) (false,0,()) fun (d,e,_,a,b,_,_) _ (c)=>(((d,e,(),a,b,c,()),()),xcZ d e a b c none)
def xnQ {T:Type} (a b:LA) (δ:T) (κ:Int->T):T:=br ((Iter (xa9 a b a (↑a.length:Int)) 0).isSome) (br (((Iter (xa9 a b a (↑a.length:Int)) 0).getD (false,0,())).fst) (κ (((Iter (xa9 a b a (↑a.length:Int)) 0).getD (false,0,())).snd.fst)) (br (decide ((↑a.length:Int)<(↑b.length:Int))) (κ ((-1))) (κ (0)))) δ
def xqk (a b:LA):=xnQ a b none some
def xQH:EO:=xNT.f Tryz.func165 39 0 [] [(2,xql.lp)] (lk1 xql.ok) (u3 (uL 3) (uL 3) (sEq (xSI (110:FuncId) xS4))) (fun (a,b,_,_) _=>xnQ a b) (fun _ p=>AV.int .i64 p) 0
def xu9 {T:Type} (a b:LA) (δ:T) (κ:Int->T):T:=br ((xqk a b).isSome) (κ ((xqk a b).getD 0)) δ
def xgc (a b:LA):=xu9 a b none some
def xQI:EO:=xQH.f Tryz.func134 8 0 [] [] lk0 (u2 (uL 3) (uL 3)) (fun (a,b,_) _=>xu9 a b) (fun _ p=>AV.int .i64 p) 0
def xsE {T:Type} (a c b d:LA) (δ:T) (κ:Int->T):T:=br ((xgc a b).isSome) (κ ((xgc a b).getD 0)) δ
def xd9 (c a d b:LA):=xsE c a d b none some
def xJG:EO:=xQI.f Tryz.func139 10 0 [] [] lk0 (u2 (xTl (u2 (uL 3) (uL 2))) (xTl (u2 (uL 3) (uL 2)))) (fun ((c,a,_),(d,b,_),_) _=>xsE c a d b) (fun _ p=>AV.int .i64 p) 0
def xen (a:Nat) (j:Int):=decide (0<=i64.wrap (j - 1))&&decide (i64.wrap (j - 1)<(↑a:Int))
def xcA (j:Int):Nat:=0+(i64.wrap (j - 1)).toNat
def xeo (a:Nat) (j:Int):=decide (0<=j)&&decide (j<(↑a:Int))
def xhG (j:Int) (a:LA):=decide (0+j.toNat<a.length)
def xhE (j:Int) (a:LA):=xhG j a&&((a.getD (0+j.toNat) .top).cells.length==2&&xSp [Sh.list 3,Sh.list 2] (a.getD (0+j.toNat) .top).cells 0)
def xbc (j:Int) (a:LA):=(a.getD (xcA j) .top).cells
def xhC (j:Int) (a:LA):=decide (xcA j<a.length)&&((xbc j a).length==2&&xSp [Sh.list 3,Sh.list 2] (xbc j a) 0)
def xhD (j:Int) (a:LA):=xd9 ((a.getD (0+j.toNat) .top).cells.getD 0 .top).toList ((a.getD (0+j.toNat) .top).cells.getD 1 .top).toList ((xbc j a).getD 0 .top).toList ((xbc j a).getD 1 .top).toList
def xhF (j:Int) (a:LA):=a.set (0+j.toNat) (AV.agg [AV.list 3 ((xbc j a).getD 0 .top).toList,AV.list 2 ((xbc j a).getD 1 .top).toList])
def xh6 {T:Type} (d:Nat) (a b i j:Int) (c:LA) (δ:T) (κl:(Int×LA)->T) (κr:(LA)->T):T:=br (decide (j>a)) (br (xeo d j) (br (xhE j c) (br (xen d j) (br (xhC j c) (br ((xhD j c).isSome) (br (decide ((xhD j c).getD 0<0)) (br (xen d j) (br (xhC j c) (br (xeo d j) (br (xhE j c) (br (xeo d j) (br (xhG j c) (br (xen d j) (br (decide (xcA j<(xhF j c).length)) (κl (i64.wrap (j - 1),(xhF j c).set (xcA j) (AV.agg [AV.list 3 ((c.getD (0+j.toNat) .top).cells.getD 0 .top).toList,AV.list 2 ((c.getD (0+j.toNat) .top).cells.getD 1 .top).toList]))) δ) δ) δ) δ) δ) δ) δ) δ) (κr (c))) δ) δ) δ) δ) δ) (κr (c))
def xcb (d:Nat) (a b i:Int):StT (Int×LA) (LA):=fun (j,c)=>xh6 d a b i j c none inL inR
def xcz:=xJG.l 53 1 [159] [] Tryz.f192 1 lk0 [0,1,2,3,8,9] [0,1,2,3,8] [] (q6 (xTg 0 0 0) qI qI (xSI 139 xS4) qI qI) (q1 (qB 0 2 159 xS6)) (fun (c,a,b,_,i,j,_) (d,_)=>(xcb c a b i,(j,d),fun p=>(.leaf (.exit 2) [AV.osl 0 0 0 c,AV.int .i64 a,AV.int .i64 b,AV.func 139 [],AV.int .i64 i] [bF 0 2 159 p]))) [] fun (c,a,b,_,i,_,_) _ (j,d)=>(((c,a,b,(),i,j,()),(d,())),xh6 c a b i j d none)
def xh5 {T:Type} (d:Nat) (a b i:Int) (c:LA) (δ:T) (κl:(Int×LA)->T) (κr:(LA)->T):T:=br (decide (i<b)) (br ((Iter (xcb d a b i) (i,c)).isSome) (κl (i64.wrap (i+1),(Iter (xcb d a b i) (i,c)).getD [])) δ) (κr (c))
def xca (d:Nat) (a b:Int):StT (Int×LA) (LA):=fun (i,c)=>xh5 d a b i c none inL inR
def xhB:=xJG.l 53 1 [159] [(4,xcz.lp)] Tryz.f192 0 (lk1 xcz.ok) [0,1,2,3,8] [] [] (q5 (xTg 0 0 0) qI qI (xSI 139 xS4) qI) (q1 (qB 0 2 159 xS6)) (fun (d,a,b,_,i,_) (c,_)=>(xca d a b,(i,c),fun p=>(.leaf (.exit 0) [] [bF 0 2 159 p]))) [] fun (d,a,b,_,_,_) _ (i,c)=>(((d,a,b,(),i,()),(c,())),xh5 d a b i c none)
def xfE {T:Type} (n:Nat) (a b:Int) (c:LA) (δ:T) (κ:LA->T):T:=br ((Iter (xca n a b) (i64.wrap (a+1),c)).isSome) (κ ((Iter (xca n a b) (i64.wrap (a+1),c)).getD [])) δ
def xbM (n:Nat) (a b:Int) (c:LA):=xfE n a b c none some
def xNU:EO:=xJG.fM Tryz.func192 53 1 [159] [(4,xcz.lp),(1,xhB.lp)] (lks (lkC xhB.ok (lkC xcz.ok lkN))) (u4 (sEq (xTg 0 0 0)) uI uI (sEq (xSI (139:FuncId) xS4))) (q1 (qB 0 2 159 xS6)) (fun (n,a,b,_,_) (c,_) _=>xfE n a b c) (fun _ _ p=>(AV.tuple [],([bF 0 2 159 p]:List Box))) []
def xjx (a i:Int) (b:LA):=decide (0+(i64.wrap (a+i)).toNat<b.length)
def xdc (a i:Int) (b:LA):=(b.getD (0+(i64.wrap (a+i)).toNat) .top).cells
def xj0 (a:Nat) (b i:Int):=decide (0<=i64.wrap (b+i))&&decide (i64.wrap (b+i)<(↑a:Int))
def xj1 (b:Nat) (a i:Int):=decide (0<=i64.wrap (a+i))&&decide (i64.wrap (a+i)<(↑b:Int))
def xdd (b i:Int):Nat:=0+(i64.wrap (b+i)).toNat
def xdb (b i:Int) (a:LA):=(a.getD (xdd b i) .top).cells
def xjZ (a b i:Int) (c:LA):=c.set (0+(i64.wrap (a+i)).toNat) (AV.agg [AV.list 3 ((xdb b i c).getD 0 .top).toList,AV.list 2 ((xdb b i c).getD 1 .top).toList])
def xkE {T:Type} (d:Nat) (a b n i:Int) (c:LA) (δ:T) (κl:(Int×LA)->T) (κr:(LA)->T):T:=br (decide (i<n)) (br (xj0 d b i) (br (decide (xdd b i<c.length)&&((xdb b i c).length==2&&xSp [Sh.list 3,Sh.list 2] (xdb b i c) 0)) (br (xj1 d a i) (br (xjx a i c&&((xdc a i c).length==2&&xSp [Sh.list 3,Sh.list 2] (xdc a i c) 0)) (br (xj1 d a i) (br (xjx a i c) (br (xj0 d b i) (br (decide (xdd b i<(xjZ a b i c).length)) (κl (i64.wrap (i+1),(xjZ a b i c).set (xdd b i) (AV.agg [AV.list 3 ((xdc a i c).getD 0 .top).toList,AV.list 2 ((xdc a i c).getD 1 .top).toList]))) δ) δ) δ) δ) δ) δ) δ) δ) (κr (c))
def xcN (d:Nat) (a b n:Int):StT (Int×LA) (LA):=fun (i,c)=>xkE d a b n i c none inL inR
def xjY:=xNU.l 38 1 [159] [] Tryz.f210 0 lk0 [0,1,2,3,10] [] [] (q5 (xTg 0 0 0) qI qI qI qI) (q1 (qB 0 2 159 xS6)) (fun (d,a,b,n,i,_) (c,_)=>(xcN d a b n,(i,c),fun p=>(.leaf (.exit 0) [] [bF 0 2 159 p]))) [] fun (d,a,b,n,_,_) _ (i,c)=>(((d,a,b,n,i,()),(c,())),xkE d a b n i c none)
def xhh {T:Type} (n:Nat) (a b k:Int) (c:LA) (δ:T) (κ:LA->T):T:=br ((Iter (xcN n a b k) (0,c)).isSome) (κ ((Iter (xcN n a b k) (0,c)).getD [])) δ
def xbq (n:Nat) (a b k:Int) (c:LA):=xhh n a b k c none some
def xNV:EO:=xNU.fM Tryz.func210 38 1 [159] [(1,xjY.lp)] (lk1 xjY.ok) (u5 (sEq (xTg 0 0 0)) uI uI uI (sEq (xSI (139:FuncId) xS4))) (q1 (qB 0 2 159 xS6)) (fun (n,a,b,k,_,_) (c,_) _=>xhh n a b k c) (fun _ _ p=>(AV.tuple [],([bF 0 2 159 p]:List Box))) []
def xnw {T:Type} (b:Nat) (m i j:Int) (a:LA) (δ:T) (κl:(Int×Int×LA)->T) (κr:(Int×LA)->T):T:=br (i != j) (br (decide (i>j)) (br ((xbq b (i64.wrap (m - i)) m j a).isSome) (κl (i64.wrap (i - j),j,(xbq b (i64.wrap (m - i)) m j a).getD [])) δ) (br ((xbq b (i64.wrap (m - i)) (i64.wrap (i64.wrap (m+j) - i)) i a).isSome) (κl (i,i64.wrap (j - i),(xbq b (i64.wrap (m - i)) (i64.wrap (i64.wrap (m+j) - i)) i a).getD [])) δ)) (κr (i,a))
def xfx (b:Nat) (m:Int):StT (Int×Int×LA) (Int×LA):=fun (i,j,a)=>xnw b m i j a none inL inR
def xm0:=xNV.l 58 1 [159] [] Tryz.f205 0 lk0 [0,2,4,10,11] [0,2,4,10] [] (q5 (xTg 0 0 0) qI (xSI 139 xS4) qI qI) (q1 (qB 0 2 159 xS6)) (fun (a,m,_,i,j,_) (b,_)=>(xfx a m,(i,j,b),fun p=>(.leaf (.exit 0) [AV.osl 0 0 0 a,AV.int .i64 m,AV.func 139 [],AV.int .i64 p.1] [bF 0 2 159 p.2]))) (0,[]) fun (a,m,_,_,_,_) _ (i,j,b)=>(((a,m,(),i,j,()),(b,())),xnw a m i j b none)
def xiB (n:Nat) (a m b:Int) (c:LA):=Iter (xfx n m) (i64.wrap (m - a),i64.wrap (b - m),c)
def xiA (n:Nat) (a m b:Int) (c:LA):=(xiB n a m b c).getD (0,[])
def xiz (n:Nat) (a m b:Int) (c:LA):=(xiA n a m b c).fst
def xiy (n:Nat) (a m b:Int) (c:LA):=xbq n (i64.wrap (m - xiz n a m b c)) m (xiz n a m b c) (xiA n a m b c).snd
def xjy {T:Type} (n:Nat) (a m b:Int) (c:LA) (δ:T) (κ:LA->T):T:=br ((xiB n a m b c).isSome) (br ((xiy n a m b c).isSome) (κ ((xiy n a m b c).getD [])) δ) δ
def xct (n:Nat) (a m b:Int) (c:LA):=xjy n a m b c none some
def xyB:EO:=xNV.fM Tryz.func205 58 1 [159] [(2,xm0.lp)] (lk1 xm0.ok) (u5 (sEq (xTg 0 0 0)) uI uI uI (sEq (xSI (139:FuncId) xS4))) (q1 (qB 0 2 159 xS6)) (fun (n,a,m,b,_,_) (c,_) _=>xjy n a m b c) (fun _ _ p=>(AV.tuple [],([bF 0 2 159 p]:List Box))) []
def xbE (i j:Int):=i64.wrap ((u64.wrap (i64.wrap (i+j))).fdiv 2)
def xdv (i j:Int) (a:LA):=(a.getD (0+(xbE i j).toNat) .top).cells
def xkF (a i j:Int) (b:LA):=xd9 ((xdv i j b).getD 0 .top).toList ((xdv i j b).getD 1 .top).toList ((b.getD (0+a.toNat) .top).cells.getD 0 .top).toList ((b.getD (0+a.toNat) .top).cells.getD 1 .top).toList
def xlE {T:Type} (c:Nat) (a i j:Int) (b:LA) (δ:T) (κl:(Int×Int×LA)->T) (κr:(Int×LA)->T):T:=br (decide (i<j)) (br (decide (0<=xbE i j)&&decide (xbE i j<(↑c:Int))) (br (decide (0+(xbE i j).toNat<b.length)&&((xdv i j b).length==2&&xSp [Sh.list 3,Sh.list 2] (xdv i j b) 0)) (br (decide (0<=a)&&decide (a<(↑c:Int))) (br (decide (0+a.toNat<b.length)&&((b.getD (0+a.toNat) .top).cells.length==2&&xSp [Sh.list 3,Sh.list 2] (b.getD (0+a.toNat) .top).cells 0)) (br ((xkF a i j b).isSome) (br (decide ((xkF a i j b).getD 0<0)) (κl (i64.wrap (xbE i j+1),j,b)) (κl (i,xbE i j,b))) δ) δ) δ) δ) δ) (κr (i,b))
def xbW (c:Nat) (a:Int):StT (Int×Int×LA) (Int×LA):=fun (i,j,b)=>xlE c a i j b none inL inR
def xbi:=xyB.l 220 1 [159] [] Tryz.f193 0 lk0 [0,1,4,10,11] [0,1,10] [] (q5 (xTg 0 0 0) qI (xSI 139 xS4) qI qI) (q1 (qB 0 2 159 xS6)) (fun (b,a,_,i,j,_) (c,_)=>(xbW b a,(i,j,c),fun p=>(.leaf (.exit 0) [AV.osl 0 0 0 b,AV.int .i64 a,AV.int .i64 p.1] [bF 0 2 159 p.2]))) (0,[]) fun (b,a,_,_,_,_) _ (i,j,c)=>(((b,a,(),i,j,()),(c,())),xlE b a i j c none)
def xkH (a:Nat) (k:Int):=decide (0<=i64.wrap (k+1))&&decide (i64.wrap (k+1)<(↑a:Int))
def xdy (k:Int):Nat:=0+(i64.wrap (k+1)).toNat
def xkI (k:Int) (a:LA):=decide (0+k.toNat<a.length)
def xdw (k:Int) (a:LA):=(a.getD (xdy k) .top).cells
def xkG (k:Int) (a:LA):=a.set (0+k.toNat) (AV.agg [AV.list 3 ((xdw k a).getD 0 .top).toList,AV.list 2 ((xdw k a).getD 1 .top).toList])
def xlF {T:Type} (b:Nat) (i k:Int) (a:LA) (δ:T) (κl:(Int×LA)->T) (κr:(LA)->T):T:=br (decide (k<i64.wrap (i - 1))) (br (xkH b k) (br (decide (xdy k<a.length)&&((xdw k a).length==2&&xSp [Sh.list 3,Sh.list 2] (xdw k a) 0)) (br (decide (0<=k)&&decide (k<(↑b:Int))) (br (xkI k a&&((a.getD (0+k.toNat) .top).cells.length==2&&xSp [Sh.list 3,Sh.list 2] (a.getD (0+k.toNat) .top).cells 0)) (br (decide (0<=k)&&decide (k<(↑b:Int))) (br (xkI k a) (br (xkH b k) (br (decide (xdy k<(xkG k a).length)) (κl (i64.wrap (k+1),(xkG k a).set (xdy k) (AV.agg [AV.list 3 ((a.getD (0+k.toNat) .top).cells.getD 0 .top).toList,AV.list 2 ((a.getD (0+k.toNat) .top).cells.getD 1 .top).toList]))) δ) δ) δ) δ) δ) δ) δ) δ) (κr (a))
def xe9 (b:Nat) (i:Int):StT (Int×LA) (LA):=fun (k,a)=>xlF b i k a none inL inR
def xbF:=xyB.l 220 1 [159] [(3,xbi.lp)] Tryz.f193 1 lk0 [0,10,13] [] [] (q3 (xTg 0 0 0) qI qI) (q1 (qB 0 2 159 xS6)) (fun (b,i,k,_) (a,_)=>(xe9 b i,(k,a),fun p=>(.leaf (.exit 2) [] [bF 0 2 159 p]))) [] fun (b,i,_,_) _ (k,a)=>(((b,i,k,()),(a,())),xlF b i k a none)
def xbG (i j:Int):=i64.wrap ((u64.wrap (i64.wrap (i+j))).fdiv 2)
def xdz (i j:Int) (a:LA):=(a.getD (0+(xbG i j).toNat) .top).cells
def xkJ (m i j:Int) (a:LA):=xd9 ((a.getD (0+m.toNat) .top).cells.getD 0 .top).toList ((a.getD (0+m.toNat) .top).cells.getD 1 .top).toList ((xdz i j a).getD 0 .top).toList ((xdz i j a).getD 1 .top).toList
def xlG {T:Type} (b:Nat) (m i j:Int) (a:LA) (δ:T) (κl:(Int×Int×LA)->T) (κr:(Int×LA)->T):T:=br (decide (i<j)) (br (decide (0<=m)&&decide (m<(↑b:Int))) (br (decide (0+m.toNat<a.length)&&((a.getD (0+m.toNat) .top).cells.length==2&&xSp [Sh.list 3,Sh.list 2] (a.getD (0+m.toNat) .top).cells 0)) (br (decide (0<=xbG i j)&&decide (xbG i j<(↑b:Int))) (br (decide (0+(xbG i j).toNat<a.length)&&((xdz i j a).length==2&&xSp [Sh.list 3,Sh.list 2] (xdz i j a) 0)) (br ((xkJ m i j a).isSome) (br (!decide ((xkJ m i j a).getD 0<0)) (κl (i64.wrap (xbG i j+1),j,a)) (κl (i,xbG i j,a))) δ) δ) δ) δ) δ) (κr (i,a))
def xbX (b:Nat) (m:Int):StT (Int×Int×LA) (Int×LA):=fun (i,j,a)=>xlG b m i j a none inL inR
def xcq:=xyB.l 220 1 [159] [(3,xbi.lp),(9,xbF.lp)] Tryz.f193 2 lk0 [0,2,4,14,15] [0,2,14] [] (q5 (xTg 0 0 0) qI (xSI 139 xS4) qI qI) (q1 (qB 0 2 159 xS6)) (fun (a,m,_,i,j,_) (b,_)=>(xbX a m,(i,j,b),fun p=>(.leaf (.exit 4) [AV.osl 0 0 0 a,AV.int .i64 m,AV.int .i64 p.1] [bF 0 2 159 p.2]))) (0,[]) fun (a,m,_,_,_,_) _ (i,j,b)=>(((a,m,(),i,j,()),(b,())),xlG a m i j b none)
def xkL (a:Nat) (k:Int):=decide (0<=i64.wrap (k - 1))&&decide (i64.wrap (k - 1)<(↑a:Int))
def xdC (k:Int):Nat:=0+(i64.wrap (k - 1)).toNat
def xkM (k:Int) (a:LA):=decide (0+k.toNat<a.length)
def xdB (k:Int) (a:LA):=(a.getD (xdC k) .top).cells
def xkK (k:Int) (a:LA):=a.set (0+k.toNat) (AV.agg [AV.list 3 ((xdB k a).getD 0 .top).toList,AV.list 2 ((xdB k a).getD 1 .top).toList])
def xlH {T:Type} (b:Nat) (i k:Int) (a:LA) (δ:T) (κl:(Int×LA)->T) (κr:(LA)->T):T:=br (decide (k>i)) (br (xkL b k) (br (decide (xdC k<a.length)&&((xdB k a).length==2&&xSp [Sh.list 3,Sh.list 2] (xdB k a) 0)) (br (decide (0<=k)&&decide (k<(↑b:Int))) (br (xkM k a&&((a.getD (0+k.toNat) .top).cells.length==2&&xSp [Sh.list 3,Sh.list 2] (a.getD (0+k.toNat) .top).cells 0)) (br (decide (0<=k)&&decide (k<(↑b:Int))) (br (xkM k a) (br (xkL b k) (br (decide (xdC k<(xkK k a).length)) (κl (i64.wrap (k - 1),(xkK k a).set (xdC k) (AV.agg [AV.list 3 ((a.getD (0+k.toNat) .top).cells.getD 0 .top).toList,AV.list 2 ((a.getD (0+k.toNat) .top).cells.getD 1 .top).toList]))) δ) δ) δ) δ) δ) δ) δ) δ) (κr (a))
def xfa (b:Nat) (i:Int):StT (Int×LA) (LA):=fun (k,a)=>xlH b i k a none inL inR
def xdA:=xyB.l 220 1 [159] [(3,xbi.lp),(9,xbF.lp),(15,xcq.lp)] Tryz.f193 3 lk0 [0,14,17] [] [] (q3 (xTg 0 0 0) qI qI) (q1 (qB 0 2 159 xS6)) (fun (b,i,k,_) (a,_)=>(xfa b i,(k,a),fun p=>(.leaf (.exit 6) [] [bF 0 2 159 p]))) [] fun (b,i,_,_) _ (k,a)=>(((b,i,k,()),(a,())),xlH b i k a none)
def xaW (a r:Int):=i64.wrap ((u64.wrap (i64.wrap (a+r))).fdiv 2)
def xdD (c b r:Int) (a:LA):=(a.getD (0+(i64.wrap (c - xaW b r)).toNat) .top).cells
def xdE (b r:Int) (a:LA):=(a.getD (0+(xaW b r).toNat) .top).cells
def xkN (c b r:Int) (a:LA):=xd9 ((xdD c b r a).getD 0 .top).toList ((xdD c b r a).getD 1 .top).toList ((xdE b r a).getD 0 .top).toList ((xdE b r a).getD 1 .top).toList
def xlI {T:Type} (e:Nat) (a m b g n f c r:Int) (d:LA) (δ:T) (κl:(Int×Int×LA)->T) (κr:(Int×LA)->T):T:=br (decide (c<r)) (br (decide (0<=i64.wrap (f - xaW c r))&&decide (i64.wrap (f - xaW c r)<(↑e:Int))) (br (decide (0+(i64.wrap (f - xaW c r)).toNat<d.length)&&((xdD f c r d).length==2&&xSp [Sh.list 3,Sh.list 2] (xdD f c r d) 0)) (br (decide (0<=xaW c r)&&decide (xaW c r<(↑e:Int))) (br (decide (0+(xaW c r).toNat<d.length)&&((xdE c r d).length==2&&xSp [Sh.list 3,Sh.list 2] (xdE c r d) 0)) (br ((xkN f c r d).isSome) (br (!decide ((xkN f c r d).getD 0<0)) (κl (i64.wrap (xaW c r+1),r,d)) (κl (c,xaW c r,d))) δ) δ) δ) δ) δ) (κr (c,d))
def xc6 (d:Nat) (a m b f n g:Int):StT (Int×Int×LA) (Int×LA):=fun (e,r,c)=>xlI d a m b f n g e r c none inL inR
def xf1:=xyB.l 220 1 [159] [(3,xbi.lp),(9,xbF.lp),(15,xcq.lp),(21,xdA.lp)] Tryz.f193 4 lk0 [0,1,2,3,4,18,19,20,21,22] [0,1,2,3,4,18,19,20] [] (q10 (xTg 0 0 0) qI qI qI (xSI 139 xS4) qI qI qI qI qI) (q1 (qB 0 2 159 xS6)) (fun (c,a,m,b,_,f,n,e,r,g,_) (d,_)=>(xc6 c a m b f n g,(e,r,d),fun p=>(.leaf (.exit 8) [AV.osl 0 0 0 c,AV.int .i64 a,AV.int .i64 m,AV.int .i64 b,AV.func 139 [],AV.int .i64 f,AV.int .i64 n,AV.int .i64 p.1] [bF 0 2 159 p.2]))) (0,[]) fun (c,a,m,b,_,f,n,_,_,g,_) _ (e,r,d)=>(((c,a,m,b,(),f,n,e,r,g,()),(d,())),xlI c a m b f n g e r d none)
def xgd (R:Nat->Int->Int->Int->LA->Option (LA)):LA->List Box->Option (Bool×AV×List Box):=omOf (xS3 (sEq (xTg 0 0 0)) (xS3 (sEq (pInt .i64)) (xS3 (sEq (pInt .i64)) (xS3 (sEq (pInt .i64)) (xS3 (sEq (xSI (139:FuncId) xS4)) xS5))))) (xS2 (xTj 0 2 (159:TypeId) false true xS6) xS4) fun (n,(a,(m,(b,(_,_))))) (c,_)=>((R n a m b c).isSome,(AV.tuple [],([⟨0,2,159,((R n a m b c).getD []),false,true⟩]:List Box)))
def xa1 (R:Nat->Int->Int->Int->LA->Option (LA)):Env:=(xyB.E.withM 193 (xgd R)).fn 220 1 (lsOf [159]) (xSH [(3,xbi.lp),(9,xbF.lp),(15,xcq.lp),(21,xdA.lp),(33,xf1.lp)])
def xf0 (R:Nat->Int->Int->Int->LA->Option (LA)):Prop:=OmOk P0 xS1 193 (xgd R)
theorem xuK (R:Nat->Int->Int->Int->LA->Option (LA)) (a:xf0 R):xSk P0 (xS1.at 1) (xa1 R):=(xyB.ok.withM a).fn
theorem xrZ (R:Nat->Int->Int->Int->LA->Option (LA)):LoOk P0 (xS1.at (xa1 R).pin) (xa1 R) (Tryz.f193.body.getD .skip):=xgK (ls:=[xSo Tryz.f193 0,xSo Tryz.f193 1,xSo Tryz.f193 2,xSo Tryz.f193 3,xSo Tryz.f193 4]) (by kernel_rfl) (fun l b lp a=>by
 simp only [zC,List.not_mem_nil,or_false] at b;rcases b with rfl|rfl|rfl|rfl|rfl
 . rw [show (xa1 R).lp (xSz (xSo Tryz.f193 0))=some xbi.lp by kernel_rfl] at a
   simp only [z6] at a;subst a;exact xbi.ok
 . rw [show (xa1 R).lp (xSz (xSo Tryz.f193 1))=some xbF.lp by kernel_rfl] at a
   simp only [z6] at a;subst a;exact xbF.ok
 . rw [show (xa1 R).lp (xSz (xSo Tryz.f193 2))=some xcq.lp by kernel_rfl] at a
   simp only [z6] at a;subst a;exact xcq.ok
 . rw [show (xa1 R).lp (xSz (xSo Tryz.f193 3))=some xdA.lp by kernel_rfl] at a
   simp only [z6] at a;subst a;exact xdA.ok
 . rw [show (xa1 R).lp (xSz (xSo Tryz.f193 4))=some xf1.lp by kernel_rfl] at a
   simp only [z6] at a;subst a;exact xf1.ok)
def xaa (a b:Int):=i64.wrap ((u64.wrap (i64.wrap (a+b))).fdiv 2)
def xaE (n:Nat) (a m b:Int) (c:LA):=Iter (xe9 n ((Iter (xbW n a) (m,b,c)).getD (0,[])).fst) (a,((Iter (xbW n a) (m,b,c)).getD (0,[])).snd)
def xaF (n:Nat) (a m:Int) (b:LA):=Iter (xfa n ((Iter (xbX n m) (a,m,b)).getD (0,[])).fst) (m,((Iter (xbX n m) (a,m,b)).getD (0,[])).snd)
def xaG (n:Nat) (a m b:Int) (c:LA):=Iter (xc6 n a m b (xaa a b) (i64.wrap (xaa a b+m)) (i64.wrap (i64.wrap (xaa a b+m) - 1))) (i64.wrap (i64.wrap (xaa a b+m) - b),xaa a b,c)
def xaI (n:Nat) (a m b:Int) (c:LA):=Iter (xc6 n a m b (xaa a b) (i64.wrap (xaa a b+m)) (i64.wrap (i64.wrap (xaa a b+m) - 1))) (a,m,c)
def xaD (n:Nat) (a m b:Int) (c:LA):=(xaG n a m b c).getD (0,[])
def xaH (n:Nat) (a m b:Int) (c:LA):=(xaI n a m b c).getD (0,[])
def xab (n:Nat) (a m b:Int) (c:LA):=(xaD n a m b c).fst
def xac (n:Nat) (a m b:Int) (c:LA):=(xaH n a m b c).fst
def xaf (n:Nat) (a m b:Int) (c:LA):=(xaD n a m b c).snd
def xag (n:Nat) (a m b:Int) (c:LA):=(xaH n a m b c).snd
def xad (n:Nat) (a m b:Int) (c:LA):=i64.wrap (i64.wrap (xaa a b+m) - xab n a m b c)
def xae (n:Nat) (a m b:Int) (c:LA):=i64.wrap (i64.wrap (xaa a b+m) - xac n a m b c)
def xaz (n:Nat) (a m b:Int) (c:LA):=decide (xab n a m b c<xaa a b)
def xaA (n:Nat) (a m b:Int) (c:LA):=decide (a<xab n a m b c)
def xaB (n:Nat) (a m b:Int) (c:LA):=decide (xac n a m b c<xaa a b)
def xaC (n:Nat) (a m b:Int) (c:LA):=decide (a<xac n a m b c)
def xan (n:Nat) (a m b:Int) (c:LA):=decide (xaa a b<xad n a m b c)
def xao (n:Nat) (a m b:Int) (c:LA):=decide (xad n a m b c<b)
def xap (n:Nat) (a m b:Int) (c:LA):=decide (xaa a b<xae n a m b c)
def xaq (n:Nat) (a m b:Int) (c:LA):=decide (xae n a m b c<b)
def xaj (n:Nat) (a m b:Int) (c:LA):=(xct n (xab n a m b c) m (xad n a m b c) (xaf n a m b c)).getD []
def xak (n:Nat) (a m b:Int) (c:LA):=(xct n (xac n a m b c) m (xae n a m b c) (xag n a m b c)).getD []
def xaJ (R:Nat->Int->Int->Int->LA->Option (LA)) (n:Nat) (a m b:Int) (c:LA):Option (LA):=R n (xaa a b) (xae n a m b c) b ((R n a (xac n a m b c) (xaa a b) (xak n a m b c)).getD [])
def xaK (R:Nat->Int->Int->Int->LA->Option (LA)) (n:Nat) (a m b:Int) (c:LA):Option (LA):=R n (xaa a b) (xad n a m b c) b ((R n a (xab n a m b c) (xaa a b) (xaj n a m b c)).getD [])
def xat {T:Type} (R:Nat->Int->Int->Int->LA->Option (LA)) (n:Nat) (a m b:Int) (c:LA) (δ:T) (κ:LA->T):T:=br (xan n a m b c) (br (xao n a m b c) (br ((R n (xaa a b) (xad n a m b c) b (xaj n a m b c)).isSome) (κ ((R n (xaa a b) (xad n a m b c) b (xaj n a m b c)).getD [])) δ) (κ (xaj n a m b c))) (κ (xaj n a m b c))
def xau {T:Type} (R:Nat->Int->Int->Int->LA->Option (LA)) (n:Nat) (a m b:Int) (c:LA) (δ:T) (κ:LA->T):T:=br (xap n a m b c) (br (xaq n a m b c) (br ((R n (xaa a b) (xae n a m b c) b (xak n a m b c)).isSome) (κ ((R n (xaa a b) (xae n a m b c) b (xak n a m b c)).getD [])) δ) (κ (xak n a m b c))) (κ (xak n a m b c))
def xav {T:Type} (R:Nat->Int->Int->Int->LA->Option (LA)) (n:Nat) (a m b:Int) (c:LA) (δ:T) (κ:LA->T):T:=br (xan n a m b c) (br (xao n a m b c) (br ((R n (xaa a b) (xad n a m b c) b (xaf n a m b c)).isSome) (κ ((R n (xaa a b) (xad n a m b c) b (xaf n a m b c)).getD [])) δ) (κ (xaf n a m b c))) (κ (xaf n a m b c))
def xar {T:Type} (R:Nat->Int->Int->Int->LA->Option (LA)) (n:Nat) (a m b:Int) (c:LA) (δ:T) (κ:LA->T):T:=br (xaA n a m b c) (br (xaz n a m b c) (br ((R n a (xab n a m b c) (xaa a b) (xaf n a m b c)).isSome) (br (xan n a m b c) (br (xao n a m b c) (br ((R n (xaa a b) (xad n a m b c) b ((R n a (xab n a m b c) (xaa a b) (xaf n a m b c)).getD [])).isSome) (κ ((R n (xaa a b) (xad n a m b c) b ((R n a (xab n a m b c) (xaa a b) (xaf n a m b c)).getD [])).getD [])) δ) (κ ((R n a (xab n a m b c) (xaa a b) (xaf n a m b c)).getD []))) (κ ((R n a (xab n a m b c) (xaa a b) (xaf n a m b c)).getD []))) δ) (xav R n a m b c δ κ)) (xav R n a m b c δ κ)
def xaw {T:Type} (R:Nat->Int->Int->Int->LA->Option (LA)) (n:Nat) (a m b:Int) (c:LA) (δ:T) (κ:LA->T):T:=br (xap n a m b c) (br (xaq n a m b c) (br ((R n (xaa a b) (xae n a m b c) b (xag n a m b c)).isSome) (κ ((R n (xaa a b) (xae n a m b c) b (xag n a m b c)).getD [])) δ) (κ (xag n a m b c))) (κ (xag n a m b c))
def xas {T:Type} (R:Nat->Int->Int->Int->LA->Option (LA)) (n:Nat) (a m b:Int) (c:LA) (δ:T) (κ:LA->T):T:=br (xaC n a m b c) (br (xaB n a m b c) (br ((R n a (xac n a m b c) (xaa a b) (xag n a m b c)).isSome) (br (xap n a m b c) (br (xaq n a m b c) (br ((R n (xaa a b) (xae n a m b c) b ((R n a (xac n a m b c) (xaa a b) (xag n a m b c)).getD [])).isSome) (κ ((R n (xaa a b) (xae n a m b c) b ((R n a (xac n a m b c) (xaa a b) (xag n a m b c)).getD [])).getD [])) δ) (κ ((R n a (xac n a m b c) (xaa a b) (xag n a m b c)).getD []))) (κ ((R n a (xac n a m b c) (xaa a b) (xag n a m b c)).getD []))) δ) (xaw R n a m b c δ κ)) (xaw R n a m b c δ κ)
def xaL {T:Type} (R:Nat->Int->Int->Int->LA->Option (LA)) (n:Nat) (a m b:Int) (c:LA) (δ:T) (κ:LA->T):T:=br (i64.wrap (m - a)==1) (br ((Iter (xbW n a) (m,b,c)).isSome) (br ((xaE n a m b c).isSome) (κ ((xaE n a m b c).getD [])) δ) δ) (br (i64.wrap (b - m)==1) (br ((Iter (xbX n m) (a,m,c)).isSome) (br ((xaF n a m c).isSome) (κ ((xaF n a m c).getD [])) δ) δ) (br (decide (m>xaa a b)) (br ((xaG n a m b c).isSome) (br (decide (xab n a m b c<m)) (br (decide (m<xad n a m b c)) (br ((xct n (xab n a m b c) m (xad n a m b c) (xaf n a m b c)).isSome) (br (xaA n a m b c) (br (xaz n a m b c) (br ((R n a (xab n a m b c) (xaa a b) (xaj n a m b c)).isSome) (br (xan n a m b c) (br (xao n a m b c) (br ((xaK R n a m b c).isSome) (κ ((xaK R n a m b c).getD [])) δ) (κ ((R n a (xab n a m b c) (xaa a b) (xaj n a m b c)).getD []))) (κ ((R n a (xab n a m b c) (xaa a b) (xaj n a m b c)).getD []))) δ) (xat R n a m b c δ κ)) (xat R n a m b c δ κ)) δ) (xar R n a m b c δ κ)) (xar R n a m b c δ κ)) δ) (br ((xaI n a m b c).isSome) (br (decide (xac n a m b c<m)) (br (decide (m<xae n a m b c)) (br ((xct n (xac n a m b c) m (xae n a m b c) (xag n a m b c)).isSome) (br (xaC n a m b c) (br (xaB n a m b c) (br ((R n a (xac n a m b c) (xaa a b) (xak n a m b c)).isSome) (br (xap n a m b c) (br (xaq n a m b c) (br ((xaJ R n a m b c).isSome) (κ ((xaJ R n a m b c).getD [])) δ) (κ ((R n a (xac n a m b c) (xaa a b) (xak n a m b c)).getD []))) (κ ((R n a (xac n a m b c) (xaa a b) (xak n a m b c)).getD []))) δ) (xau R n a m b c δ κ)) (xau R n a m b c δ κ)) δ) (xas R n a m b c δ κ)) (xas R n a m b c δ κ)) δ)))
def xay (R:Nat->Int->Int->Int->LA->Option (LA)) (n:Nat) (a m b:Int) (c:LA):=xaL R n a m b c none some
theorem xyl (R:Nat->Int->Int->Int->LA->Option (LA)) (n:Nat) (a m b:Int) (xs:LA):Enc (fun (p:LA)=>(((AV.tuple [],([⟨0,2,159,p,false,true⟩]:List Box))):(AV×List Box))) (xay R n a m b xs) (XFM P0 (xa1 R) Tryz.f193 (Tryz.f193.body.getD .skip) [AV.osl (0:Id) 0 0 n,AV.int .i64 a,AV.int .i64 m,AV.int .i64 b,AV.func (139:FuncId) []] [{ ver:=0,sz:=2,ty:=(159:TypeId),xs:=xs,frz:=false,pm:=true }]):=by
 refine eV (xaL R n a m b xs none (fun (p:LA)=>some (((AV.tuple [],([⟨0,2,159,p,false,true⟩]:List Box))):(AV×List Box)))) (by kernel_rfl) ?_;unfold xay xaL xar xas xat xau xav xaw;repeat' first|exact eN|exact eS rfl|apply eB
def xyk (R:Nat->Int->Int->Int->LA->Option (LA)):LA->List Box->Option (Bool×AV×List Box):=omOf (xS3 (sEq (xTg 0 0 0)) (xS3 (sEq (pInt .i64)) (xS3 (sEq (pInt .i64)) (xS3 (sEq (pInt .i64)) (xS3 (sEq (xSI (139:FuncId) xS4)) xS5))))) (xS2 (xTj 0 2 (159:TypeId) false true xS6) xS4) fun (n,(a,(m,(b,(_,_))))) (c,_)=>((xay R n a m b c).isSome,((AV.tuple [],([⟨0,2,159,((xay R n a m b c).getD []),false,true⟩]:List Box))))
theorem xyj (R:Nat->Int->Int->Int->LA->Option (LA)) (f:xf0 R):OmOk P0 xS1 193 (xyk R):=xqV fun g h k j i=>by
 obtain ⟨n,⟨a,⟨m,⟨b,⟨_,_⟩⟩⟩⟩⟩:=g;obtain ⟨l,_⟩:=h;obtain ⟨c,e⟩:=Prod.mk.inj i;refine xi0 (p:=(xa1 R).pin) (xkc xSt (xSu P0 _) rfl (xuK R f) rfl Tryz.func193 rfl (by kernel_rfl) (xrZ R) ((xyl R _ _ _ _ _ _ (xcf (d:=[]) c)).trans ?_))
 exact congrArg some e
def xaV:Nat->Nat->Int->Int->Int->LA->Option (LA)
 | 0=>fun _ _ _ _ _=>none
 | fu_+1=>fun n a m b c=>xay (xaV fu_) n a m b c
theorem xlD:∀ n,xf0 (xaV n)
 | 0=>xqV fun _ _ _ _ h=>absurd (Prod.mk.inj h).1 Bool.false_ne_true
 | fu_+1=>fun a H r b h=>xyj (xaV fu_) (xlD fu_) a H r b h
def xNW:Env:=xyB.E.withM 193 (xgd (xaV 1000))
theorem xMO:xSk P0 xS1 xNW:=xyB.ok.withM (xlD _)
def xAZ:EO:=EO.mk xNW xMO
def xnz {T:Type} (d:Nat) (n e a b:Int) (c:LA) (δ:T) (κl:(Int×Int×LA)->T) (κr:(Int×LA)->T):T:=br (decide (b<=n)) (br ((xbM d a b c).isSome) (κl (b,i64.wrap (b+e),(xbM d a b c).getD [])) δ) (κr (a,c))
def xcp (e:Nat) (n c:Int):StT (Int×Int×LA) (Int×LA):=fun (a,b,d)=>xnz e n c a b d none inL inR
def xer:=xAZ.l 63 1 [159] [] Tryz.f168 0 lk0 [0,1,2,6,7,8] [0,1,2,6,7] [] (q6 (xTg 0 0 0) qI (xSI 139 xS4) qI qI qI) (q1 (qB 0 2 159 xS6)) (fun (d,n,_,c,a,b,_) (e,_)=>(xcp d n c,(a,b,e),fun p=>(.leaf (.exit 0) [AV.osl 0 0 0 d,AV.int .i64 n,AV.func 139 [],AV.int .i64 c,AV.int .i64 p.1] [bF 0 2 159 p.2]))) (0,[]) fun (d,n,_,c,_,_,_) _ (a,b,e)=>(((d,n,(),c,a,b,()),(e,())),xnz d n c a b e none)
def xnA {T:Type} (e:Nat) (n c a b:Int) (d:LA) (δ:T) (κl:(Int×Int×LA)->T) (κr:(Int×LA)->T):T:=br (decide (b<=n)) (br ((xaV 1000 e a (i64.wrap (a+c)) b d).isSome) (κl (b,i64.wrap (b+i64.wrap (2*c)),(xaV 1000 e a (i64.wrap (a+c)) b d).getD [])) δ) (κr (a,d))
def xdu (e:Nat) (n c:Int):StT (Int×Int×LA) (Int×LA):=fun (a,b,d)=>xnA e n c a b d none inL inR
def xez:=xAZ.l 63 1 [159] [(2,xer.lp)] Tryz.f168 2 lk0 [0,1,2,6,7,8] [0,1,2,6,7] [] (q6 (xTg 0 0 0) qI (xSI 139 xS4) qI qI qI) (q1 (qB 0 2 159 xS6)) (fun (d,n,_,c,a,b,_) (e,_)=>(xdu d n c,(a,b,e),fun p=>(.leaf (.exit 4) [AV.osl 0 0 0 d,AV.int .i64 n,AV.func 139 [],AV.int .i64 c,AV.int .i64 p.1] [bF 0 2 159 p.2]))) (0,[]) fun (d,n,_,c,_,_,_) _ (a,b,e)=>(((d,n,(),c,a,b,()),(e,())),xnA d n c a b e none)
def xey (c:Nat) (n a:Int) (b:LA):=Iter (xdu c n a) (0,i64.wrap (2*a),b)
def xew (c:Nat) (n a:Int) (b:LA):=(xey c n a b).getD (0,[])
def xeu (c:Nat) (n a:Int) (b:LA):=(xew c n a b).snd
def xev (c:Nat) (n a:Int) (b:LA):=(xew c n a b).fst
def xet (c:Nat) (n a:Int) (b:LA):=i64.wrap (xev c n a b+a)
def xes (b:Nat) (n a:Int) (c:LA):=xaV 1000 b (xev b n a c) (xet b n a c) n (xeu b n a c)
def xcS {T:Type} (c:Nat) (n a:Int) (b:LA) (δ:T) (κl:(Int×LA)->T) (κr:(LA)->T):T:=br (decide (a<n)) (br ((xey c n a b).isSome) (br (decide (xet c n a b<n)) (br ((xes c n a b).isSome) (κl (i64.wrap (a*2),(xes c n a b).getD [])) δ) (κl (i64.wrap (a*2),xeu c n a b))) δ) (κr (b))
def xbh (c:Nat) (n:Int):StT (Int×LA) (LA):=fun (a,b)=>xcS c n a b none inL inR
def xm5:=xAZ.l 63 1 [159] [(2,xer.lp),(9,xez.lp)] Tryz.f168 1 (lk1 xez.ok) [0,1,2,6] [] [] (q4 (xTg 0 0 0) qI (xSI 139 xS4) qI) (q1 (qB 0 2 159 xS6)) (fun (c,n,_,a,_) (b,_)=>(xbh c n,(a,b),fun p=>(.leaf (.exit 2) [] [bF 0 2 159 p]))) [] fun (c,n,_,_,_) _ (a,b)=>(((c,n,(),a,()),(b,())),xcS c n a b none)
def xiH (n:Nat) (k:Int) (a:LA):=(Iter (xcp n k 20) (0,20,a)).getD (0,[])
def xiG (n:Nat) (k:Int) (a:LA):=xbM n (xiH n k a).fst k (xiH n k a).snd
def xiF (n:Nat) (k:Int) (a:LA):=Iter (xbh n k) (20,(xiG n k a).getD [])
def xjA {T:Type} (n:Nat) (k:Int) (a:LA) (δ:T) (κ:LA->T):T:=br ((Iter (xcp n k 20) (0,20,a)).isSome) (br ((xiG n k a).isSome) (br ((xiF n k a).isSome) (κ ((xiF n k a).getD [])) δ) δ) δ
def xg9 (n:Nat) (k:Int) (a:LA):=xjA n k a none some
def xQJ:EO:=xAZ.fM Tryz.func168 63 1 [159] [(2,xer.lp),(9,xez.lp),(7,xm5.lp)] (lks (lkC xer.ok (lkC xm5.ok (lkC xez.ok lkN)))) (u3 (sEq (xTg 0 0 0)) uI (sEq (xSI (139:FuncId) xS4))) (q1 (qB 0 2 159 xS6)) (fun (n,k,_,_) (a,_) _=>xjA n k a) (fun _ _ p=>(AV.tuple [],([bF 0 2 159 p]:List Box))) []
def xiw {T:Type} (n:Nat) (a:LA) (δ:T) (κ:LA->T):T:=br ((xg9 n (↑n:Int) a).isSome) (κ ((xg9 n (↑n:Int) a).getD [])) δ
def xj4 (n:Nat) (a:LA):=xiw n a none some
def xNX:EO:=xQJ.fM Tryz.func138 9 1 [159] [] lk0 (u2 (sEq (xTg 0 0 0)) (sEq (xSI (139:FuncId) xS4))) (q1 (qB 0 2 159 xS6)) (fun (n,_,_) (a,_) _=>xiw n a) (fun _ _ p=>(AV.tuple [],([bF 0 2 159 p]:List Box))) []
def xfT (b:LA) (c:Int) (a:LA):=a++[AV.agg [AV.list 3 (gC b c 0).toList,AV.list 2 []]]
def xci (a:Nat):Nat:=0+(↑a:Int).toNat
def xcx (a:LA) (b:Int):=(xpH (gC a b 0).toList).getD []
def xjO (d:LA) (f:Int) (b:Nat) (e:Int) (c a:LA):=decide (xci b<(xfT d e a).length)
def xjP (d:LA) (e:Int) (a:Nat) (f:Int) (b c:LA):=decide ((↑a:Int)<(↑(a+1):Int))
def xbu (c:LA) (b:Nat) (d:Int) (a:LA):=((xfT c d a).getD (xci b) .top).cells
def xic (a:LA) (b:Int):=decide ((xcx a b).length<=4611686018427387904)
def xfU (b:LA) (c:Int) (a:LA):=(xSD (AV.int .i64 0) a (xcx b c)).toInt
def xjQ (c:LA) (b:Nat) (d:Int) (a:LA):=decide (0<=xfU c d a)&&decide (xfU c d a<(↑b:Int))
def xa7 (c:LA) (b:Nat) (d:Int) (a:LA):=((xbu c b d a).getD 1 .top).toList.length
def xaY (b:LA) (c:Int) (a:LA):Nat:=0+(xfU b c a).toNat
def xib (a:LA) (d:Nat) (b:Int) (c:LA):=((xbu a d b c).getD 1 .top).toList++[AV.agg [AV.int .i64 (gC a b 1).toInt,AV.int .i64 (gC a b 2).toInt]]
def xgl (c:LA) (b:Nat) (d:Int) (a:LA):=(xfT c d a).set (xci b) (AV.agg (List.take 1 (xbu c b d a)++[AV.int .i64 (↑(xa7 c b d a):Int)]++List.drop 2 (xbu c b d a)))
def xjR (c:LA) (d:Int) (a b:LA):=decide (xaY c d a<b.length)
def xa8 (c:LA) (d:Int) (a b:LA):=((b.getD (xaY c d a) .top).cells.getD 1 .top).toList.length
def xia (b:LA) (c:Int) (a d:LA):=((d.getD (xaY b c a) .top).cells.getD 1 .top).toList++[AV.agg [AV.int .i64 (gC b c 1).toInt,AV.int .i64 (gC b c 2).toInt]]
def xeO (c:LA) (a:Nat) (d:Int) (b:LA):=((xgl c a d b).getD (xci a) .top).cells
def xgm (c:LA) (d:Int) (a b:LA):=b.set (xaY c d a) (AV.agg (List.take 1 (b.getD (xaY c d a) .top).cells++[AV.int .i64 (↑(xa8 c d a b):Int)]++List.drop 2 (b.getD (xaY c d a) .top).cells))
def xeP (c:LA) (d:Int) (a b:LA):=((xgm c d a b).getD (xaY c d a) .top).cells
def xfg {T:Type} (d:LA) (f:Int) (e:Nat) (c:Int) (b a:LA) (δ:T) (κl:(Nat×Int×LA×LA)->T) (κr:(Nat×LA)->T):T:=br (decide (c<f)) (br (ixI d c) (br (ixT d c 3 [Sh.list 3,Sh.int .i64,Sh.int .i64] 0) (br (!xhd (gC d c 1).toInt (gC d c 2).toInt) (κl (e,i64.wrap (c+1),b,a)) (br ((xpH (gC d c 0).toList).isSome) (br (xic d c&&xSi (Sh.int .i64) (xSD (AV.int .i64 0) b (xcx d c))) (br (!xSP b (xcx d c)) (br (decide (b.length<4611686018427387904)&&xic d c) (br (rmB e a 1 48) (br (xjP d f e c b a) (br (xjO d f e c b a&&(xSx 2 ((xbu d e c a).getD 1 .top)&&(xbu d e c a).length==2)) (br (xjO d f e c b a&&(xSx 2 ((xbu d e c a).getD 1 .top)&&((xbu d e c a).length==2&&(2*xa7 d e c a==2*xa7 d e c a&&(xa7 d e c a==xa7 d e c a&&(xa7 d e c a==xa7 d e c a&&(decide ((xa7 d e c a+1)*16<=140737488355328)&&decide (xa7 d e c a+1<=4611686018427387904)))))))) (br (xjP d f e c b a) (br (decide (xci e<(xgl d e c a).length)&&((xeO d e c a).length==2&&(xa7 d e c a+1==(xib d e c a).length&&xTo ((xeO d e c a).getD 1 .top) (xa7 d e c a+1)))) (κl (e+1,i64.wrap (c+1),xSB b (xcx d c) (AV.int .i64 (↑e:Int)),(xgl d e c a).set (xci e) (AV.agg (List.take 1 (xeO d e c a)++[AV.list 2 (xib d e c a)]++List.drop 2 (xeO d e c a))))) δ) δ) δ) δ) δ) δ) δ) (br (xjQ d e c b) (br (xjR d c b a&&(xSx 2 ((a.getD (xaY d c b) .top).cells.getD 1 .top)&&(a.getD (xaY d c b) .top).cells.length==2)) (br (xjR d c b a&&(xSx 2 ((a.getD (xaY d c b) .top).cells.getD 1 .top)&&((a.getD (xaY d c b) .top).cells.length==2&&(2*xa8 d c b a==2*xa8 d c b a&&(xa8 d c b a==xa8 d c b a&&(xa8 d c b a==xa8 d c b a&&(decide ((xa8 d c b a+1)*16<=140737488355328)&&decide (xa8 d c b a+1<=4611686018427387904)))))))) (br (xjQ d e c b) (br (decide (xaY d c b<(xgm d c b a).length)&&((xeP d c b a).length==2&&(xa8 d c b a+1==(xia d c b a).length&&xTo ((xeP d c b a).getD 1 .top) (xa8 d c b a+1)))) (κl (e,i64.wrap (c+1),b,(xgm d c b a).set (xaY d c b) (AV.agg (List.take 1 (xeP d c b a)++[AV.list 2 (xia d c b a)]++List.drop 2 (xeP d c b a))))) δ) δ) δ) δ) δ)) δ) δ)) δ) δ) (κr (e,a))
def xb1 (d:LA) (e:Int):StT (Nat×Int×LA×LA) (Nat×LA):=fun (c,f,a,b)=>xfg d e c f a b none inL inR
def xvn:=xNX.l 60 0 [] [] Tryz.f111 0 lk0 [3,4,11,12,13] [4] [(4,2,150460170399)] (q5 (xTh 0 0 0 0) (xTg 1 0 0) (qL 3) qI qI) (q2 (qB 0 2 1208925819615114573119488 xS6) (qB 0 2 150460170399 xS6)) (fun (_,c,d,e,f,_) (a,b,_)=>(xb1 d e,(c,f,a,b),fun p=>(.leaf (.exit 0) [AV.osl 0 0 0 p.1] [bF 0 2 150460170399 p.2]))) (0,[]) fun (_,_,d,e,_,_) _ (c,f,a,b)=>((((),c,d,e,f,()),(a,b,())),xfg d e c f a b none)
def xsJ (l:LA):=Iter (xb1 l (↑l.length:Int)) (0,0,[],[])
def xsI (l:LA):=(xsJ l).getD (0,[])
def xnD (l:LA):=(xsI l).fst
def xsH (l:LA):=(xsI l).snd
def xsG (l:LA):=xj4 (xnD l) (xsH l)
def xsF (l:LA):=(xsG l).getD []
def xtR {T:Type} (l:LA) (δ:T) (κ:LA->T):T:=br ((xsJ l).isSome) (br (xSQ 2 1 (xsH l)) (br ((xsG l).isSome) (br (decide (0+xnD l<=(xsF l).length)&&true) (κ (List.take (xnD l) (List.drop 0 (xsF l)))) δ) δ) δ) δ
def xnY (l:LA):=xtR l none some
def xNY:EO:=xNX.f Tryz.func111 60 0 [] [(4,xvn.lp)] (lk1 xvn.ok) (u1 (uL 3)) (fun (l,_) _=>xtR l) (fun _ p=>AV.list 2 p) []
def xhq {T:Type} (d:LA) (e:Int) (c:Nat) (b:Int) (a:LA) (δ:T) (κl:(Nat×Int×LA)->T) (κr:(Nat×LA)->T):T:=br (decide (b<e)) (br (ixI d b) (br (ixT d b 2 [Sh.int .i64,Sh.int .i64] 0) (br (rmB c a 1 24) (κl (c+1,i64.wrap (b+1),a++[AV.agg [AV.int .i64 (gC d b 0).toInt,AV.int .i64 (gC d b 1).toInt,AV.int .i64 1]])) δ) δ) δ) (κr (c,a))
def xcF (c:LA) (d:Int):StT (Nat×Int×LA) (Nat×LA):=fun (b,e,a)=>xhq c d b e a none inL inR
def xrQ:=xNY.l 20 0 [] [] Tryz.f76 0 lk0 [3,6,7,8] [3] [(3,3,89)] (q4 (xTg 0 0 0) (qL 2) qI qI) (q1 (qB 0 3 89 xS6)) (fun (b,c,d,e,_) (a,_)=>(xcF c d,(b,e,a),fun p=>(.leaf (.exit 0) [AV.osl 0 0 0 p.1] [bF 0 3 89 p.2]))) (0,[]) fun (_,c,d,_,_) _ (b,e,a)=>(((b,c,d,e,()),(a,())),xhq c d b e a none)
def xoy (l:LA):=(Iter (xcF l (↑l.length:Int)) (0,0,[])).getD (0,[])
def xov (l:LA):=(xoy l).snd
def xow (l:LA):=(xoy l).fst
def xou (l:LA):=xBo (List.take (xow l) (List.drop 0 (xov l)))
def xpG {T:Type} (l:LA) (δ:T) (κ:LA->T):T:=br ((Iter (xcF l (↑l.length:Int)) (0,0,[])).isSome) (br (decide (0+xow l<=(xov l).length)&&true) (br ((xou l).isSome) (κ ((xou l).getD [])) δ) δ) δ
def xgD (l:LA):=xpG l none some
def xyO:EO:=xNY.f Tryz.func76 20 0 [] [(3,xrQ.lp)] (lk1 xrQ.ok) (u1 (uL 2)) (fun (l,_) _=>xpG l) (fun _ p=>AV.list 2 p) []
def xoY {T:Type} (o n:Int) (e f:Nat) (k p m j:Int) (h l i g a:Nat) (b:LA) (d:Nat) (c:LA) (δ:T) (κl:(Int×Int×Nat×Nat×Nat×Nat×Nat×LA×Nat×LA)->T) (κr:(Int×Nat×Nat×Nat×Nat×LA×Nat×LA×Nat)->T):T:=br (decide (m<p)) (br (a==e) (br (a==e) (br (a==e&&(decide (f<b.length)&&xSi (Sh.int .i64) ((b.getD f .top).cells.getD 0 .top))) (br (d==g&&(rmB i c 1 16)) (κl (i64.wrap (m+1),j,h,l,i+1,g+1,a,List.take h b,g+1,c++[AV.agg [AV.int .i64 ((b.getD f .top).cells.getD 0 .top).toInt,AV.int .i64 o]])) δ) δ) δ) δ) (κr (j,l,h,g,i,b,a,c,d))
def xdV (m n:Int) (e f:Nat) (k o:Int):StT (Int×Int×Nat×Nat×Nat×Nat×Nat×LA×Nat×LA) (Int×Nat×Nat×Nat×Nat×LA×Nat×LA×Nat):=fun (p,g,h,i,j,l,a,b,c,d)=>xoY m n e f k o p g h i j l a b c d none inL inR
def xnH:=xyO.l 71 5 [] [] Tryz.f112 1 lk0 [0,1,2,3,4,7,8,37,38] [0,1,2,3,4,7,8] [(3,0,0)] (q9 qI qI (xTh 0 0 0 0) (xTh 1 0 0 0) (xTh 2 0 0 0) (pOwnV 3 0) qI qI qI) (q5 (qB 0 1 3 (q1 qI)) (xTj 0 1 160 false false (q1 (pOslV 3 0))) (xTj 0 1 108 false false (q1 (pOslV 4 0))) (pBoxV 2 162 false true xS6) (pBoxV 2 35 false true xS6)) (fun (o,n,_,_,_,(e,f),k,q,r,_) ((g,_),((h,i),_),((j,m),_),(a,b),(c,d),_)=>(xdV o n e f k q,(r,g,i,h,m,j,a,b,c,d),fun p=>(.leaf (.exit 2) [AV.int .i64 o,AV.int .i64 n,AV.own 0 0 0 0,AV.own 1 0 0 0,AV.own 2 0 0 0,AV.own 3 e f 0,AV.int .i64 k] [bF 0 1 3 [AV.int .i64 p.1],⟨0,1,160,[AV.osl 3 p.2.1 0 p.2.2.1],false,false⟩,⟨0,1,108,[AV.osl 4 p.2.2.2.1 0 p.2.2.2.2.1],false,false⟩,bF p.2.2.2.2.2.2.1 2 162 p.2.2.2.2.2.1,bF p.2.2.2.2.2.2.2.2 2 35 p.2.2.2.2.2.2.2.1]))) (0,0,0,0,0,[],0,[],0) fun (o,n,_,_,_,(e,f),k,q,_,_) _ (r,g,i,h,m,j,a,b,c,d)=>(((o,n,(),(),(),(e,f),k,q,r,()),((g,()),((h,i),()),((j,m),()),(a,b),(c,d),())),xoY o n e f k q r g i h m j a b c d none)
def xbl (a:Nat):Nat:=0+(i64.wrap ((↑a:Int) - 1)).toNat
def xeH (n b:Int) (c d:Nat) (a:LA):Int:=if i64.wrap (b - n)<((a.getD (xbl c) .top).cells.getD 1 .top).toInt then i64.wrap (b - n) else ((a.getD (xbl c) .top).cells.getD 1 .top).toInt
def xlP (j n d:Int) (c g h i a:Nat) (b:LA) (e:Nat) (f:LA):=Iter (xdV j n g (xbl c) (xeH n d c a b) (xeH n d c a b)) (0,d,c,g,h,i,a,List.take c b,e,f)
def xhZ (j n e:Int) (f g h i a:Nat) (b:LA) (c:Nat) (d:LA):=(xlP j n e f g h i a b c d).getD (0,0,0,0,0,[],0,[],0)
def xlO (j n e:Int) (f g h i a:Nat) (b:LA) (c:Nat) (d:LA):=(xhZ j n e f g h i a b c d).snd
def xgI (j n e:Int) (f g h i a:Nat) (b:LA) (c:Nat) (d:LA):=(xlO j n e f g h i a b c d).fst
def xlN (j n e:Int) (f g h i a:Nat) (b:LA) (c:Nat) (d:LA):=(xlO j n e f g h i a b c d).snd
def xgH (j n e:Int) (f g h i a:Nat) (b:LA) (c:Nat) (d:LA):=(xlN j n e f g h i a b c d).fst
def xhY (j n e:Int) (f g h i a:Nat) (b:LA) (c:Nat) (d:LA):=(xlN j n e f g h i a b c d).snd
def xgG (j n e:Int) (f g h i a:Nat) (b:LA) (c:Nat) (d:LA):=i64.wrap ((↑(xgH j n e f g h i a b c d):Int) - 1)
def xhX (j n e:Int) (f g h i a:Nat) (b:LA) (c:Nat) (d:LA):=(xhY j n e f g h i a b c d).snd
def xlM (j n e:Int) (f g h i a:Nat) (b:LA) (c:Nat) (d:LA):=(xhX j n e f g h i a b c d).snd
def xjd (j n e:Int) (f g h i a:Nat) (b:LA) (c:Nat) (d:LA):=(xlM j n e f g h i a b c d).fst
def xnG (j n e:Int) (f g h i a:Nat) (b:LA) (c:Nat) (d:LA):=(xlM j n e f g h i a b c d).snd
def xdU (j n f:Int) (g e h i a:Nat) (b:LA) (c:Nat) (d:LA):=(xnG j n f g e h i a b c d).fst==e
def xnF (j n f:Int) (e g h i a:Nat) (b:LA) (c:Nat) (d:LA):=decide (xbl e<(xjd j n f e g h i a b c d).length)
def xgF (j n f:Int) (e g h i a:Nat) (b:LA) (c:Nat) (d:LA):=((xjd j n f e g h i a b c d).getD (xbl e) .top).cells
def xgJ (j n e:Int) (f g h i a:Nat) (b:LA) (c:Nat) (d:LA):=(xnG j n e f g h i a b c d).snd
def xe5 (j n f:Int) (e g h i a:Nat) (b:LA) (c:Nat) (d:LA):=(xjd j n f e g h i a b c d).set (xbl e) (AV.agg (List.take 1 (xgF j n f e g h i a b c d)++[AV.int .i64 (i64.wrap (((xgF j n f e g h i a b c d).getD 1 .top).toInt - xeH n f e a b))]++List.drop 2 (xgF j n f e g h i a b c d)))
def xhr {T:Type} (j n g:Int) (f e h i a:Nat) (b:LA) (c:Nat) (d:LA) (δ:T) (κl:(Int×Nat×Nat×Nat×Nat×Nat×LA×Nat×LA)->T) (κr:(Int×Nat×Nat×Nat×Nat×LA×Nat×LA×Nat)->T):T:=br (decide (g>n)) (br (a==e) (br (a==e&&(decide (0<=i64.wrap ((↑f:Int) - 1))&&decide (i64.wrap ((↑f:Int) - 1)<(↑f:Int)))) (br (a==e) (br (a==e) (br (a==e&&(decide (xbl f<b.length)&&xSi (Sh.int .i64) ((b.getD (xbl f) .top).cells.getD 1 .top))) (br ((xlP j n g f e h i a b c d).isSome) (br (xdU j n g f e h i a b c d) (br (xdU j n g f e h i a b c d) (br (xdU j n g f e h i a b c d&&(xnF j n g f e h i a b c d&&xSi (Sh.int .i64) ((xgF j n g f e h i a b c d).getD 1 .top))) (br (xdU j n g f e h i a b c d) (br (xdU j n g f e h i a b c d) (br (xdU j n g f e h i a b c d&&xnF j n g f e h i a b c d) (br (e==e) (br (e==e) (br (e==e&&(decide (xbl f<(xe5 j n g f e h i a b c d).length)&&xSi (Sh.int .i64) (((xe5 j n g f e h i a b c d).getD (xbl f) .top).cells.getD 1 .top))) (br ((((xe5 j n g f e h i a b c d).getD (xbl f) .top).cells.getD 1 .top).toInt==0) (br (e==xgI j n g f e h i a b c d) (br (e==xgI j n g f e h i a b c d&&(decide (0<=xgG j n g f e h i a b c d)&&decide (xgG j n g f e h i a b c d<=(↑(xgH j n g f e h i a b c d):Int))&&true)) (κl (i64.wrap ((xhZ j n g f e h i a b c d).fst - xeH n g f a b),(xgG j n g f e h i a b c d).toNat - 0,xgI j n g f e h i a b c d,(xhX j n g f e h i a b c d).fst,(xhY j n g f e h i a b c d).fst,e,List.take ((xgG j n g f e h i a b c d).toNat - 0) (xe5 j n g f e h i a b c d),(xgJ j n g f e h i a b c d).snd,(xgJ j n g f e h i a b c d).fst)) δ) δ) (κl (i64.wrap ((xhZ j n g f e h i a b c d).fst - xeH n g f a b),xgH j n g f e h i a b c d,xgI j n g f e h i a b c d,(xhX j n g f e h i a b c d).fst,(xhY j n g f e h i a b c d).fst,e,List.take (xgH j n g f e h i a b c d) (xe5 j n g f e h i a b c d),(xgJ j n g f e h i a b c d).snd,(xgJ j n g f e h i a b c d).fst))) δ) δ) δ) δ) δ) δ) δ) δ) δ) δ) δ) δ) δ) δ) δ) (κr (g,e,f,i,h,b,a,d,c))
def xcQ (j n:Int):StT (Int×Nat×Nat×Nat×Nat×Nat×LA×Nat×LA) (Int×Nat×Nat×Nat×Nat×LA×Nat×LA×Nat):=fun (e,f,g,h,i,a,b,c,d)=>xhr j n e f g h i a b c d none inL inR
def xy9:=xyO.l 71 5 [] [(7,xnH.lp)] Tryz.f112 0 (lk1 xnH.ok) [0,1,2,3,4] [] [(3,0,0)] (q5 qI qI (xTh 0 0 0 0) (xTh 1 0 0 0) (xTh 2 0 0 0)) (q5 (qB 0 1 3 (q1 qI)) (xTj 0 1 160 false false (q1 (pOslV 3 0))) (xTj 0 1 108 false false (q1 (pOslV 4 0))) (pBoxV 2 162 false true xS6) (pBoxV 2 35 false true xS6)) (fun (j,n,_,_,_,_) ((e,_),((f,g),_),((h,i),_),(a,b),(c,d),_)=>(xcQ j n,(e,g,f,i,h,a,b,c,d),fun p=>(.leaf (.exit 0) [] [bF 0 1 3 [AV.int .i64 p.1],⟨0,1,160,[AV.osl 3 p.2.1 0 p.2.2.1],false,false⟩,⟨0,1,108,[AV.osl 4 p.2.2.2.1 0 p.2.2.2.2.1],false,false⟩,bF p.2.2.2.2.2.2.1 2 162 p.2.2.2.2.2.1,bF p.2.2.2.2.2.2.2.2 2 35 p.2.2.2.2.2.2.2.1]))) (0,0,0,0,0,[],0,[],0) fun (j,n,_,_,_,_) _ (e,g,f,i,h,a,b,c,d)=>(((j,n,(),(),(),()),((e,()),((f,g),()),((h,i),()),(a,b),(c,d),())),xhr j n e g f i h a b c d none)
def xnZ:Env:=xyO.E.fn 71 5 (lsOf []) (xSH [(7,xnH.lp),(3,xy9.lp)])
theorem xDs:xSk P0 (xS1.at 5) xnZ:=xyO.ok.fn
theorem xBJ:LoOk P0 (xS1.at xnZ.pin) xnZ (Tryz.f112.body.getD .skip):=xgK (ls:=[xSo Tryz.f112 0,xSo Tryz.f112 1]) (by kernel_rfl) (lkC xy9.ok (lkC xnH.ok lkN))
def xqT (a n h:Int) (b c:Nat) (d e:LA):=Iter (xcQ a n) (n,b+1,1,c,0,1,List.take (b+1) (d++[AV.agg [AV.int .i64 a,AV.int .i64 (i64.wrap (n - h))]]),0,e)
def xqU (a n h:Int) (b c:Nat) (d e:LA):=Iter (xcQ a n) (h,b,0,c,0,0,List.take b d,0,e)
def xqO (a n h:Int) (b c:Nat) (d e:LA):=(xqT a n h b c d e).getD (0,0,0,0,0,[],0,[],0)
def xqS (a n h:Int) (b c:Nat) (d e:LA):=(xqU a n h b c d e).getD (0,0,0,0,0,[],0,[],0)
def xsg (a n h:Int) (b c:Nat) (d e:LA):=(xqO a n h b c d e).snd
def xqR (a n h:Int) (b c:Nat) (d e:LA):=(xqS a n h b c d e).snd
def xsd (a n h:Int) (b c:Nat) (d e:LA):=(xsg a n h b c d e).snd
def xqQ (a n h:Int) (b c:Nat) (d e:LA):=(xqR a n h b c d e).snd
def xsc (a n h:Int) (b c:Nat) (d e:LA):=(xsd a n h b c d e).snd
def xqP (a n h:Int) (b c:Nat) (d e:LA):=(xqQ a n h b c d e).snd
def xsb (a n h:Int) (b c:Nat) (d e:LA):=(xsc a n h b c d e).snd
def xqN (a n h:Int) (b c:Nat) (d e:LA):=(xqP a n h b c d e).snd
def xsa (a n h:Int) (b c:Nat) (d e:LA):=(xsb a n h b c d e).snd
def xsh (a n h:Int) (b c:Nat) (d e:LA):=(xqN a n h b c d e).snd
def xr9 (a n h:Int) (b c:Nat) (d e:LA):=(xsa a n h b c d e).snd
def xsf (a n h:Int) (b c:Nat) (d e:LA):=(xsh a n h b c d e).snd
def xr8 (a n h:Int) (b c:Nat) (d e:LA):=(xr9 a n h b c d e).snd
def xse (a n h:Int) (b c:Nat) (d e:LA):=(xsf a n h b c d e).snd
def xpU {T:Type} (a n h:Int) (b d:Nat) (c e:LA) (δ:T) (κ:Int×Nat×Nat×Nat×Nat×LA×Nat×LA×Nat->T):T:=br (decide (n>h)) (br (rmB b c 1 16) (br ((xqT a n h b d c e).isSome) (κ ((xqO a n h b d c e).fst,(xsg a n h b d c e).fst,(xsd a n h b d c e).fst,(xsc a n h b d c e).fst,(xsb a n h b d c e).fst,(xsa a n h b d c e).fst,(xr9 a n h b d c e).fst,(xr8 a n h b d c e).fst,(xr8 a n h b d c e).snd)) δ) δ) (br ((xqU a n h b d c e).isSome) (κ ((xqS a n h b d c e).fst,(xqR a n h b d c e).fst,(xqQ a n h b d c e).fst,(xqP a n h b d c e).fst,(xqN a n h b d c e).fst,(xsh a n h b d c e).fst,(xsf a n h b d c e).fst,(xse a n h b d c e).fst,(xse a n h b d c e).snd)) δ)
def xqM (a n h:Int) (b c:Nat) (d e:LA):=xpU a n h b c d e none some
theorem xHa (a n h:Int) (b c:Nat) (d e:LA):Enc (fun (p:Int×Nat×Nat×Nat×Nat×LA×Nat×LA×Nat)=>(((AV.tuple [],([⟨0,1,3,[AV.int .i64 p.1],false,true⟩,⟨0,1,160,[AV.osl 3 p.2.1 0 p.2.2.1],false,false⟩,⟨0,1,108,[AV.osl 4 p.2.2.2.1 0 p.2.2.2.2.1],false,false⟩,⟨p.2.2.2.2.2.2.1,2,162,p.2.2.2.2.2.1,false,true⟩,⟨p.2.2.2.2.2.2.2.2,2,35,p.2.2.2.2.2.2.2.1,false,true⟩]:List Box))):(AV×List Box))) (xqM a n h b c d e) (XFM P0 xnZ Tryz.f112 (Tryz.f112.body.getD .skip) [AV.int .i64 a,AV.int .i64 n,AV.own (0:Id) 0 0 0,AV.own (1:Id) 0 0 0,AV.own (2:Id) 0 0 0] [{ ver:=0,sz:=1,ty:=(3:TypeId),xs:=[AV.int .i64 h],frz:=false,pm:=true },{ ver:=0,sz:=1,ty:=(160:TypeId),xs:=[AV.osl (3:Id) 0 0 b],frz:=false,pm:=false },{ ver:=0,sz:=1,ty:=(108:TypeId),xs:=[AV.osl (4:Id) 0 0 c],frz:=false,pm:=false },{ ver:=0,sz:=2,ty:=(162:TypeId),xs:=d,frz:=false,pm:=true },{ ver:=0,sz:=2,ty:=(35:TypeId),xs:=e,frz:=false,pm:=true }]):=by
 refine eV (xpU a n h b c d e none (fun (p:Int×Nat×Nat×Nat×Nat×LA×Nat×LA×Nat)=>some (((AV.tuple [],([⟨0,1,3,[AV.int .i64 p.1],false,true⟩,⟨0,1,160,[AV.osl 3 p.2.1 0 p.2.2.1],false,false⟩,⟨0,1,108,[AV.osl 4 p.2.2.2.1 0 p.2.2.2.2.1],false,false⟩,⟨p.2.2.2.2.2.2.1,2,162,p.2.2.2.2.2.1,false,true⟩,⟨p.2.2.2.2.2.2.2.2,2,35,p.2.2.2.2.2.2.2.1,false,true⟩]:List Box))):(AV×List Box)))) (by kernel_rfl) ?_;unfold xqM xpU;repeat' first|exact eN|exact eS rfl|apply eB
end Go.Sim.M
end
noncomputable section
set_option maxRecDepth 100000
namespace Go.Sim
open Go.RowKit
theorem GoodM.aged {P:Program} {Inv:IV} {f:FuncId} {aa:List AV} {H:List Box} {x0:AV} {v3 v4 k3 k4 t0 t1 t2 t3 t4 s3 s4:Nat} {Z Y:List AV} (aw:H.length=5) (an:∀ bx,H[3]?=some bx->bx.ver=0) (al:∀ bx,H[4]?=some bx->bx.ver=0)
  (p0:isC t0=false) (p1:isC t1=false) (p2:isC t2=false) (p3:isC t3=false) (p4:isC t4=false)
  (h:GoodM P Inv f aa H (.tuple []) [⟨0,1,t0,[x0],false,true⟩,⟨0,1,t1,[.osl (.b 3) v3 0 k3],false,false⟩,⟨0,1,t2,[.osl (.b 4) v4 0 k4],false,false⟩,⟨v3,s3,t3,Z,false,true⟩,⟨v4,s4,t4,Y,false,true⟩]) :
  GoodM P Inv f aa H (.tuple []) [⟨0,1,t0,[x0],false,true⟩,⟨0,1,t1,[.osl (.b 3) 1 0 k3],false,false⟩,⟨0,1,t2,[.osl (.b 4) 1 0 k4],false,false⟩,⟨1,s3,t3,Z,false,true⟩,⟨1,s4,t4,Y,false,true⟩]:=by
 refine ⟨h.1,fun w0 w A M vs hI hB hR ao=>(h.2 w0 w A M vs hI hB hR ao).mono ?_⟩
 rintro e w' ⟨u,A',M',rfl,h1,h2,h3,h4,h5⟩;let M'':Id->Option MB:=fun id=>if id=.b 3\/id=.b 4 then (M' id).map fun m=>⟨m.b,1,m.sz,m.cap,m.ty⟩ else M' id
 have e3:∀ m,M' (.b 3)=some m->M'' (.b 3)=some ⟨m.b,1,m.sz,m.cap,m.ty⟩:=fun m hm=>by simp [M'',hm]
 have e4:∀ m,M' (.b 4)=some m->M'' (.b 4)=some ⟨m.b,1,m.sz,m.cap,m.ty⟩:=fun m hm=>by
  show (if (Id.b 4=.b 3\/Id.b 4=.b 4) then _ else _)=_
  rw [if_pos (.inr rfl),hm];rfl
 have eo:∀ id,id≠.b 3->id≠.b 4->M'' id=M' id:=fun id g1 g2=>by
  show (if _ then _ else _)=_
  rw [if_neg (fun e=>e.elim g1 g2)]
 have V:∀ id m1,M'' id=some m1->∃ m0,M' id=some m0/\m1.b=m0.b/\m1.cap=m0.cap/\m1.sz=m0.sz/\m1.ty=m0.ty:=fun id m1 J=>by
  by_cases g3:id=.b 3
  . subst g3;cases hm:M' (.b 3) with
    | none=>simp [M'',hm] at J
    | some m=>rw [e3 m hm] at J;simp only [z6] at J;subst J;exact ⟨m,rfl,rfl,rfl,rfl,rfl⟩
  . by_cases g4:id=.b 4
    . subst g4;cases hm:M' (.b 4) with
      | none =>
       have:M'' (.b 4)=none:=by
        show (if (Id.b 4=.b 3\/Id.b 4=.b 4) then _ else _)=_
        rw [if_pos (.inr rfl),hm];rfl
       rw [this] at J;cases J
      | some m=>rw [e4 m hm] at J;simp only [z6] at J;subst J;exact ⟨m,rfl,rfl,rfl,rfl,rfl⟩
    . rw [eo id g3 g4] at J;exact ⟨m1,J,rfl,rfl,rfl,rfl⟩
 have ah:∀ (n v k:Nat) (c:Value) (m:MB),M' (.b n)=some m->M'' (.b n)=some ⟨m.b,1,m.sz,m.cap,m.ty⟩->v=m.ver->Rel w' A' M' c (.osl (.b n) v 0 k)->Rel w' A' M'' c (.osl (.b n) 1 0 k):=fun n v k c m hm af hv hr=>by
  obtain ⟨m0,g1,g2,g3,g4⟩:=Rel.osl_inv hr;rw [hm] at g1;simp only [z6] at g1;subst g1;exact .osl c (.b n) 1 0 k _ af (zd _) g3 fun _=>g4 hv
 have O:∀ (n:Nat) (bx:Box) (m:MB),[⟨0,1,t0,[x0],false,true⟩,⟨0,1,t1,[.osl (.b 3) v3 0 k3],false,false⟩,⟨0,1,t2,[.osl (.b 4) v4 0 k4],false,false⟩,⟨v3,s3,t3,Z,false,true⟩,⟨v4,s4,t4,Y,false,true⟩][n]?=some bx->M' (.b n)=some m->BoxAt w' A' M' w0.heap.size (.b n) m bx:=fun n bx m hn hm=>by
  obtain ⟨bx',g1,g2⟩:=h4.box _ m hm;rw [xb6,hn] at g1;simp only [z6] at g1;subst g1;exact g2
 have U:∀ (id:Id) (bx:Box) (m:MB) (v:Nat),isC bx.ty=false->bx.pm=true->BoxAt w' A' M' w0.heap.size id m bx->BoxAt w' A' M'' w0.heap.size id ⟨m.b,v,m.sz,m.cap,m.ty⟩ ⟨v,bx.sz,bx.ty,bx.xs,bx.frz,bx.pm⟩:=fun id bx m v Q hp g=>by
  have W:xSm m.ty=false:=g.nomap (xba Q);refine ⟨rfl,g.sz,g.ty,g.capm,g.fits,g.ok,g.low,g.lt,fun h0=>?_,g.guard⟩
  obtain ⟨c,c1,c2,c3⟩:=g.cells h0;refine ⟨c,.of W (c1.plain W),c2,fun i j hi hj=>?_⟩
  have:=c3 i j hi hj;rw [xaR Q,xa6 Q,hp] at this;rw [xaR Q,xa6 (bx:=⟨v,bx.sz,bx.ty,bx.xs,bx.frz,bx.pm⟩) Q];show Rel w' A' (MP M'' bx.pm) _ _;rw [hp];exact this
 have ab:∀ (n n2 v k t:Nat) (m m2:MB),isC t=false->n≠3->n≠4->BoxAt w' A' M' w0.heap.size (.b n) m ⟨0,1,t,[.osl (.b n2) v 0 k],false,false⟩->M' (.b n2)=some m2->M'' (.b n2)=some ⟨m2.b,1,m2.sz,m2.cap,m2.ty⟩->v=m2.ver ->
   BoxAt w' A' M'' w0.heap.size (.b n) m ⟨0,1,t,[.osl (.b n2) 1 0 k],false,false⟩:=fun n n2 v k t m m2 Q _ _ g aq ae hv=>by
  have W:xSm m.ty=false:=g.nomap (xba Q);have hsz:m.sz=1:=g.sz.symm;refine ⟨g.ver,g.sz,g.ty,g.capm,g.fits,fun y hy=>?_,g.low,g.lt,fun h0=>?_,g.guard⟩
  . simp only [zv] at hy;subst hy;rw [hsz];rfl
  . obtain ⟨c,c1,c2,c3⟩:=g.cells h0;refine ⟨c,.of W (c1.plain W),c2,fun i j hi hj=>?_⟩
    have am:i=0:=by simpa using hi
    have ap:j=0:=by omega
    subst am ap;have:=c3 0 0 (by simp) hj
    rw [xaR Q,xa6 Q] at this;rw [xaR Q,xa6 (bx:=⟨0,1,t,[.osl (.b n2) 1 0 k],false,false⟩) Q];exact ah n2 v k _ m2 aq ae hv this
 have aj:∀ m,M (.b 3)=some m->m.ver=0:=fun m hm=>by
  obtain ⟨bx,g1,g2⟩:=hR.box _ m hm;rw [<-g2.ver];exact an bx g1
 have ar:∀ m,M (.b 4)=some m->m.ver=0:=fun m hm=>by
  obtain ⟨bx,g1,g2⟩:=hR.box _ m hm;rw [<-g2.ver];exact al bx g1
 have ad:∀ m,M' (.b 3)=some m->v3=m.ver:=fun m hm=>(O 3 _ m rfl hm).ver
 have ac:∀ m,M' (.b 4)=some m->v4=m.ver:=fun m hm=>(O 4 _ m rfl hm).ver
 have ag:∀ n i j m,M' (.r n i j)=some m->BoxAt w' A' M' w0.heap.size (.r n i j) m tombB/\n<5:=fun n i j m hm=>by
  obtain ⟨bx,g1,g2⟩:=h4.box _ m hm;obtain ⟨b0,q1,_⟩:=xrR g1;have hn:n<5:=by
   have:=xcP q1;simpa using this
  have hp:isC b0.ty=false:=by
   match n,hn with
   | 0,_=>simp only [zY,z6] at q1;subst q1;exact p0
   | 1,_=>simp only [zY,zZ,z6] at q1;subst q1;exact p1
   | 2,_=>simp only [zY,zZ,z6] at q1;subst q1;exact p2
   | 3,_=>simp only [zY,zZ,z6] at q1;subst q1;exact p3
   | 4,_=>simp only [zY,zZ,z6] at q1;subst q1;exact p4
  rw [xbz q1 hp] at g1;simp only [z6] at g1;subst g1;exact ⟨g2,hn⟩
 have hR':HR w' A' M'' w0.heap.size [⟨0,1,t0,[x0],false,true⟩,⟨0,1,t1,[.osl (.b 3) 1 0 k3],false,false⟩,⟨0,1,t2,[.osl (.b 4) 1 0 k4],false,false⟩,⟨1,s3,t3,Z,false,true⟩,⟨1,s4,t4,Y,false,true⟩]:=by
  refine ⟨fun id m1 J=>?_,fun id id' m1 m2 k1 k2 c1 c2 he=>?_,h4.lt⟩
  . obtain ⟨m0,g1,g2,g3,g4,g5⟩:=V id m1 J;cases id with
    | r n i j =>
     rw [eo (.r n i j) (fun e=>by cases e) (fun e=>by cases e),g1] at J
     simp only [z6] at J;subst J;obtain ⟨q1,q2⟩:=ag n i j _ g1;refine ⟨tombB,?_,?_⟩
     . match n,q2 with
       | 0,_=>exact xbz rfl p0
       | 1,_=>exact xbz rfl p1
       | 2,_=>exact xbz rfl p2
       | 3,_=>exact xbz rfl p3
       | 4,_=>exact xbz rfl p4
     . have hv:tombB.ver=m0.ver:=q1.ver;have:=U (.r n i j) tombB m0 m0.ver rfl rfl q1;exact ⟨q1.ver,this.sz,this.ty,this.capm,this.fits,this.ok,this.low,this.lt,this.cells,this.guard⟩
    | b n =>
     have hn:n<5:=by
      obtain ⟨bx,q1,_⟩:=h4.box _ m0 g1;have:=xcP q1;simpa using this
     match n,hn with
     | 0,_ =>
      rw [eo (.b 0) (fun e=>by cases e) (fun e=>by cases e),g1] at J
      simp only [z6] at J;subst J;have q:=O 0 _ m0 rfl g1;have:=U (.b 0) _ m0 m0.ver p0 rfl q;exact ⟨⟨0,1,t0,[x0],false,true⟩,rfl,q.ver,this.sz,this.ty,this.capm,this.fits,this.ok,this.low,this.lt,this.cells,this.guard⟩
     | 1,_ =>
      rw [eo (.b 1) (fun e=>by cases e) (fun e=>by cases e),g1] at J
      simp only [z6] at J;subst J;have q:=O 1 _ m0 rfl g1;have hc:0<m0.cap:=Nat.lt_of_lt_of_le Nat.zero_lt_one q.fits;obtain ⟨c,c1,c2,c3⟩:=q.cells hc;have hr:=c3 0 0 (by simp) (by rw [<-q.sz];exact Nat.zero_lt_one)
      rw [xaR p1,xa6 (bx:=⟨0,1,t1,[.osl (.b 3) v3 0 k3],false,false⟩) p1] at hr;have hr:Rel w' A' M' _ (.osl (.b 3) v3 0 k3):=hr;obtain ⟨m3,a1,_⟩:=Rel.osl_inv hr;exact ⟨_,rfl,ab 1 3 v3 k3 t1 m0 m3 p1 (by decide) (by decide) q a1 (e3 m3 a1) (ad m3 a1)⟩
     | 2,_ =>
      rw [eo (.b 2) (fun e=>by cases e) (fun e=>by cases e),g1] at J
      simp only [z6] at J;subst J;have q:=O 2 _ m0 rfl g1;have hc:0<m0.cap:=Nat.lt_of_lt_of_le Nat.zero_lt_one q.fits;obtain ⟨c,c1,c2,c3⟩:=q.cells hc;have hr:=c3 0 0 (by simp) (by rw [<-q.sz];exact Nat.zero_lt_one)
      rw [xaR p2,xa6 (bx:=⟨0,1,t2,[.osl (.b 4) v4 0 k4],false,false⟩) p2] at hr;have hr:Rel w' A' M' _ (.osl (.b 4) v4 0 k4):=hr;obtain ⟨m4,a1,_⟩:=Rel.osl_inv hr;exact ⟨_,rfl,ab 2 4 v4 k4 t2 m0 m4 p2 (by decide) (by decide) q a1 (e4 m4 a1) (ac m4 a1)⟩
     | 3,_ =>
      rw [e3 m0 g1] at J;simp only [z6] at J;subst J;exact ⟨_,rfl,U (.b 3) _ m0 1 p3 rfl (O 3 _ m0 rfl g1)⟩
     | 4,_ =>
      rw [e4 m0 g1] at J;simp only [z6] at J;subst J;exact ⟨_,rfl,U (.b 4) _ m0 1 p4 rfl (O 4 _ m0 rfl g1)⟩
  . obtain ⟨n1,a1,a2,a3,_⟩:=V id m1 k1;obtain ⟨n2,b1,b2,b3,_⟩:=V id' m2 k2;exact h4.inj id id' n1 n2 a1 b1 (by omega) (by omega) (by rw [<-a2,<-b2,he])
 refine ⟨u,A',M'',rfl,h1,h2,⟨h3.size,h3.keep,h3.less,h3.more,fun id m ai hm=>?_,fun id m1 J h0=>?_⟩,hR',?_⟩
 . obtain ⟨m',g1,g2⟩:=h3.ids id m ai hm;by_cases q3:id=.b 3
   . subst q3;exact ⟨_,e3 m' g1,.inr (by have:m.ver=0:=aj m hm;show m.ver<1;omega)⟩
   . by_cases q4:id=.b 4
     . subst q4;exact ⟨_,e4 m' g1,.inr (by have:m.ver=0:=ar m hm;show m.ver<1;omega)⟩
     . exact ⟨m',by rw [eo id q3 q4];exact g1,g2⟩
 . obtain ⟨m0,g1,g2,g3,_⟩:=V id m1 J;rw [g2];exact h3.src id m0 g1 (by omega)
 . obtain ⟨au,rfl,q1,_⟩:=h5.tuple_inv;exact .tuple au [] q1 (by simp)
namespace M
open Go.Proofs
noncomputable def set2 (q n h:Int) (ns no:Nat) (sx ox:List AV):Option (Int×Nat×Nat×List AV×List AV):=(xqM q n h ns no sx ox).bind fun p =>
 br (Nat.beq p.2.1 p.2.2.2.2.2.2.1&&Nat.beq p.2.2.2.1 p.2.2.2.2.2.2.2.2) (some (p.1,p.2.2.1,p.2.2.2.2.1,p.2.2.2.2.2.1,p.2.2.2.2.2.2.2.1)) none
noncomputable def xMB:List AV->List Box->Option (Bool×AV×List Box):=omOf (xS3 (sEq (pInt IntKind.i64)) (xS3 (sEq (pInt IntKind.i64)) (xS3 (sEq (xTh 0 0 0 0)) (xS3 (sEq (xTh 1 0 0 0)) (xS3 (sEq (xTh 2 0 0 0)) xS5)))))
 (xS2 (xTj 0 1 3 false true (xS2 (pInt IntKind.i64) xS4)) (xS2 (xTj 0 1 160 false false (xS2 (xTg 3 0 0) xS4)) (xS2 (xTj 0 1 108 false false (xS2 (xTg 4 0 0) xS4)) (xS2 (xTj 0 2 162 false true xS6) (xS2 (xTj 0 2 35 false true xS6) xS4)))))
 fun (q,(n,(_,(_,(_,_))))) ((h,_),((ns,_),((no,_),(sx,(ox,_)))))=>((set2 q n h ns no sx ox).isSome,(.tuple [],[⟨0,1,3,[.int .i64 ((set2 q n h ns no sx ox).getD (0,0,0,[],[])).1],false,true⟩,⟨0,1,160,[.osl (.b 3) 1 0 ((set2 q n h ns no sx ox).getD (0,0,0,[],[])).2.1],false,false⟩,⟨0,1,108,[.osl (.b 4) 1 0 ((set2 q n h ns no sx ox).getD (0,0,0,[],[])).2.2.1],false,false⟩,⟨1,2,162,((set2 q n h ns no sx ox).getD (0,0,0,[],[])).2.2.2.1,false,true⟩,⟨1,2,35,((set2 q n h ns no sx ox).getD (0,0,0,[],[])).2.2.2.2,false,true⟩]))
theorem xQl:OmOk P0 xS1 112 xMB:=xqV fun vv bb rr W hh=>by
 obtain ⟨q,⟨n,⟨_,⟨_,⟨_,_⟩⟩⟩⟩⟩:=vv;obtain ⟨⟨h,_⟩,⟨⟨ns,_⟩,⟨⟨no,_⟩,⟨sx,⟨ox,_⟩⟩⟩⟩⟩:=bb;obtain ⟨J,O⟩:=Prod.mk.inj hh;cases hs:xqM q n h ns no sx ox with
 | none=>rw [show set2 q n h ns no sx ox=none by unfold set2;rw [hs];rfl] at J;simp at J
 | some p =>
  have Q:set2 q n h ns no sx ox=br (Nat.beq p.2.1 p.2.2.2.2.2.2.1&&Nat.beq p.2.2.2.1 p.2.2.2.2.2.2.2.2) (some (p.1,p.2.2.1,p.2.2.2.2.1,p.2.2.2.2.2.1,p.2.2.2.2.2.2.2.1)) none:=by unfold set2;rw [hs];rfl
  cases ht:Nat.beq p.2.1 p.2.2.2.2.2.2.1&&Nat.beq p.2.2.2.1 p.2.2.2.2.2.2.2.2 with
  | false=>rw [Q,ht] at J;simp [br] at J
  | true =>
   rw [ht] at Q;have U:set2 q n h ns no sx ox=some (p.1,p.2.2.1,p.2.2.2.2.1,p.2.2.2.2.2.1,p.2.2.2.2.2.2.2.1):=Q;rw [U] at O;simp only [zh] at O;simp only [zf] at ht;have e1:=zg ht.1;have e2:=zg ht.2;have hx:=xHa q n h ns no sx ox p hs;have hg:GoodM P0 xS1 112 _ _ _ _:=xi0 (p:=xnZ.pin) (xkc xSt (xSu P0 _) rfl xDs rfl Tryz.func112 rfl (by kernel_rfl) xBJ hx)
   rw [<-e1,<-e2] at hg;have V:=GoodM.aged rfl (fun bx hb=>by simp only [zY,zZ,z6] at hb;subst hb;rfl) (fun bx hb=>by simp only [zY,zZ,z6] at hb;subst hb;rfl) rfl rfl rfl rfl rfl hg
   obtain ⟨rfl,rfl⟩:=Prod.mk.inj O;exact V
noncomputable def ESet:Env:=xyO.E.withM 112 xMB
theorem xOj:xSk P0 xS1 ESet:=xyO.ok.withM xQl
noncomputable def xIP:EO:=EO.mk ESet xOj
end M
end Go.Sim
end
noncomputable section
set_option maxRecDepth 100000
namespace Go.Sim.M
open Go.IntKind (i64 u64 u8)
open Go.RowKit Go.Proofs
def xqE (a:LA) (h b:Int) (f c:Nat) (g:Int) (d e:LA):Int:=if 0>(gC a b 1).toInt then 0 else (gC a b 1).toInt
def xqD (f:LA) (h g:Int) (d a:Nat) (e:Int) (b c:LA):=set2 (gC f g 0).toInt (if 1048576<xqE f h g d a e b c then 1048576 else xqE f h g d a e b c) e a d c b
def xqC (f:LA) (g h:Int) (d a:Nat) (e:Int) (b c:LA):=(xqD f g h d a e b c).getD (0,0,0,[],[])
def xqB (f:LA) (g h:Int) (d a:Nat) (e:Int) (b c:LA):=(xqC f g h d a e b c).snd
def xqz (f:LA) (g h:Int) (d a:Nat) (e:Int) (b c:LA):=(xqB f g h d a e b c).snd
def xqA (f:LA) (g h:Int) (d a:Nat) (e:Int) (b c:LA):=(xqB f g h d a e b c).fst
def xqy (f:LA) (g h:Int) (d a:Nat) (e:Int) (b c:LA):=(xqz f g h d a e b c).snd
def xme {T:Type} (g:LA) (h e:Int) (d a:Nat) (f:Int) (b c:LA) (δ:T) (κl:(Int×Nat×Nat×Int×LA×LA)->T) (κr:(Nat×Int×Nat×LA×LA)->T):T:=br (decide (e<h)) (br (ixI g e) (br (ixT g e 2 [Sh.int .i64,Sh.int .i64] 0) (br ((xqD g h e d a f b c).isSome) (κl (i64.wrap (e+1),(xqz g h e d a f b c).fst,xqA g h e d a f b c,(xqC g h e d a f b c).fst,(xqy g h e d a f b c).snd,List.take (xqA g h e d a f b c) (xqy g h e d a f b c).fst)) δ) δ) δ) (κr (d,f,a,b,c))
def xeD (f:LA) (g:Int):StT (Int×Nat×Nat×Int×LA×LA) (Nat×Int×Nat×LA×LA):=fun (h,d,a,e,b,c)=>xme f g h d a e b c none inL inR
def xwQ:=xIP.l 30 0 [] [] Tryz.f75 0 lk0 [3,4,6,10,11,12] [3,6] [(3,2,35),(4,2,162),(4,0,0)] (q6 (xTh 0 0 0 0) (xTh 1 0 0 0) (xSI 112 (q3 (xTh 2 0 0 0) (xTh 1 0 0 0) (xTh 0 0 0 0))) (qL 2) qI qI) (q5 (xTj 0 1 108 false false (q1 (xTg 3 0 0))) (xTj 0 1 160 false false (q1 (xTg 4 0 0))) (qB 0 1 3 (q1 qI)) (qB 0 2 35 xS6) (qB 0 2 162 xS6)) (fun (_,_,(_,_,_,_),f,g,h,_) ((d,_),(a,_),(e,_),b,c,_)=>(xeD f g,(h,d,a,e,b,c),fun p=>(.leaf (.exit 0) [AV.own 0 0 0 0,AV.func 112 [AV.own 1 0 0 0,AV.own 2 0 0 0,AV.own 0 0 0 0]] [⟨0,1,108,[AV.osl 3 0 0 p.1],false,false⟩,bF 0 1 3 [AV.int .i64 p.2.1],⟨0,1,160,[AV.osl 4 0 0 p.2.2.1],false,false⟩,bF 0 2 35 p.2.2.2.1,bF 0 2 162 p.2.2.2.2]))) (0,0,0,[],[]) fun (_,_,(_,_,_,_),f,g,_,_) _ (h,d,a,e,b,c)=>((((),(),((),(),(),()),f,g,h,()),((d,()),(a,()),(e,()),b,c,())),xme f g h d a e b c none)
def xu7 (l:LA):=Iter (xeD l (↑l.length:Int)) (0,0,0,0,[],[])
def xu6 (l:LA):=(xu7 l).getD (0,0,0,[],[])
def xu5 (l:LA):=(xu6 l).snd
def xu4 (l:LA):=(xu5 l).snd
def xu3 (l:LA):=(xu4 l).snd
def xu2 (l:LA):=set2 1099511627776 0 (xu5 l).fst (xu4 l).fst (xu6 l).fst (xu3 l).snd (xu3 l).fst
def xu1 (l:LA):=((xu2 l).getD (0,0,0,[],[])).snd.snd
def xk7 (l:LA):=(xu1 l).fst
def xk8 (l:LA):=(xu1 l).snd.snd
def xwd {T:Type} (l:LA) (δ:T) (κ:LA->T):T:=br ((xu7 l).isSome) (br ((xu2 l).isSome) (br ((xk7 l).beq (xk8 l).length&&(decide (xk7 l<4611686018427387904)&&(xk8 l).all isP)) (br (decide (0+xk7 l<=(srtP (xk8 l)).length)&&true) (κ (List.take (xk7 l) (List.drop 0 (srtP (xk8 l))))) δ) δ) δ) δ
def xu0 (l:LA):=xwd l none some
def xPv:EO:=xIP.f Tryz.func75 30 0 [] [(6,xwQ.lp)] (lk1 xwQ.ok) (u1 (uL 2)) (fun (l,_) _=>xwd l) (fun _ p=>AV.list 2 p) []
def xtH {T:Type} (a:LA) (δ:T) (κ:LA->T):T:=br ((↑a.length:Int)==1) (κ (a)) (br ((xgD a).isSome) (br ((xu0 ((xgD a).getD [])).isSome) (κ ((xu0 ((xgD a).getD [])).getD [])) δ) δ)
def xhU (a:LA):=xtH a none some
def xGs:EO:=xPv.f Tryz.func74 10 0 [] [] lk0 (u1 (uL 2)) (fun (a,_) _=>xtH a) (fun _ p=>AV.list 2 p) []
def xhp {T:Type} (h:LA) (i j:Int) (e:LA) (f:Int) (d:Nat) (c:Int) (a b g:LA) (δ:T) (κl:(Nat×Int×LA×LA×LA)->T) (κr:(Nat×LA)->T):T:=br (decide (c<f)) (br (ixI e c) (br (ixT e c 2 [Sh.int .i64,Sh.int .i64] 0) (br (decide (b.length*32<=140737488355328)&&decide (b.length<=4611686018427387904)) (br (decide (0+b.length<=b.length)&&true&&true&&true&&true) (br (rmB d a 1 40) (κl (d+1,i64.wrap (c+1),a++[AV.agg [AV.list 3 (List.take b.length (List.drop 0 b)),AV.int .i64 (gC e c 0).toInt,AV.int .i64 (gC e c 1).toInt]],b,g)) δ) δ) δ) δ) δ) (κr (d,a))
def xcE (c:LA) (d e:Int) (f:LA) (g:Int):StT (Nat×Int×LA×LA×LA) (Nat×LA):=fun (b,h,a,i,j)=>xhp c d e f g b h a i j none inL inR
def xg4:=xGs.l 38 0 [59] [] Tryz.f73 1 lk0 [1,5,7,11,12,13,20,21,22] [1,5,11,12,13] [(5,3,59)] (q9 (xSI 74 xS4) (xTg 0 0 0) (xTh 1 0 0 0) (qL 2) qI qI (qL 2) qI qI) (q2 (qB 0 3 59 xS6) (qB 0 2 159 (q1 (xTi (q2 (qL 3) (qL 2)))))) (fun (_,b,_,c,d,e,f,g,h,_) (a,((i,j,_),_),_)=>(xcE c d e f g,(b,h,a,i,j),fun p=>(.leaf (.exit 2) [AV.func 74 [],AV.osl 0 0 0 p.1,AV.list 2 c,AV.int .i64 d,AV.int .i64 e] [bF 0 3 59 p.2]))) (0,[]) fun (_,_,_,c,d,e,f,g,_,_) _ (b,h,a,i,j)=>((((),b,(),c,d,e,f,g,h,()),(a,((i,j,()),()),())),xhp c d e f g b h a i j none)
def xlo (a:LA) (e:Int) (d:Nat) (b:Int) (c:LA):=Iter (xcE a e b ((xhU (gC a b 1).toList).getD []) (↑((xhU (gC a b 1).toList).getD []).length:Int)) (d,0,c,(gC a b 0).toList,(gC a b 1).toList)
def xln (c:LA) (d:Int) (b:Nat) (e:Int) (a:LA):=(xlo c d b e a).getD (0,[])
def xho {T:Type} (d:LA) (e:Int) (c:Nat) (b:Int) (a:LA) (δ:T) (κl:(Nat×Int×LA)->T) (κr:(Nat×LA)->T):T:=br (decide (b<e)) (br (ixI d b) (br (ixT d b 2 [Sh.list 3,Sh.list 2] 0) (br ((xhU (gC d b 1).toList).isSome) (br ((xlo d e c b a).isSome) (κl ((xln d e c b a).fst,i64.wrap (b+1),(xln d e c b a).snd)) δ) δ) δ) δ) (κr (c,a))
def xdQ (c:LA) (d:Int):StT (Nat×Int×LA) (Nat×LA):=fun (b,e,a)=>xho c d b e a none inL inR
def xrP:=xGs.l 38 0 [59] [(6,xg4.lp)] Tryz.f73 0 (lk1 xg4.ok) [1,5,11,12,13] [5] [(5,3,59)] (q5 (xSI 74 xS4) (xTg 0 0 0) (qL 2) qI qI) (q1 (qB 0 3 59 xS6)) (fun (_,b,c,d,e,_) (a,_)=>(xdQ c d,(b,e,a),fun p=>(.leaf (.exit 0) [AV.osl 0 0 0 p.1] [bF 0 3 59 p.2]))) (0,[]) fun (_,_,c,d,_,_) _ (b,e,a)=>((((),b,c,d,e,()),(a,())),xho c d b e a none)
def xot (l:LA):=Iter (xdQ ((xnY l).getD []) (↑((xnY l).getD []).length:Int)) (0,0,[])
def xos (l:LA):=(xot l).getD (0,[])
def xoq (l:LA):=(xos l).snd
def xor (l:LA):=(xos l).fst
def xpF {T:Type} (l:LA) (δ:T) (κ:LA->T):T:=br ((xnY l).isSome) (br ((xot l).isSome) (br (decide (0+xor l<=(xoq l).length)&&true) (κ (List.take (xor l) (List.drop 0 (xoq l)))) δ) δ) δ
def xsD (l:LA):=xpF l none some
def xPw:EO:=xGs.f Tryz.func73 38 0 [59] [(6,xg4.lp),(3,xrP.lp)] (lks (lkC xrP.ok (lkC xg4.ok lkN))) (u2 (uL 3) (sEq (xSI (74:FuncId) xS4))) (fun (l,_,_) _=>xpF l) (fun _ p=>AV.list 3 p) []
def xvF {T:Type} (l:LA) (δ:T) (κ:LA->T):T:=br ((xsD l).isSome) (κ ((xsD l).getD [])) δ
def xmu (l:LA):=xvF l none some
def xGt:EO:=xPw.f Tryz.func44 5 0 [] [] lk0 (u1 (uL 3)) (fun (l,_) _=>xvF l) (fun _ p=>AV.list 3 p) []
def xel (a:Nat) (j:Int):=decide (0<=i64.wrap (j - 1))&&decide (i64.wrap (j - 1)<(↑a:Int))
def xaZ (j:Int):Nat:=0+(i64.wrap (j - 1)).toNat
def xem (a:Nat) (j:Int):=decide (0<=j)&&decide (j<(↑a:Int))
def xhA (j:Int) (a:LA):=decide (0+j.toNat<a.length)
def xhy (j:Int) (a:LA):=decide (xaZ j<a.length)&&xSi (Sh.list 3) ((a.getD (xaZ j) .top).cells.getD 0 .top)
def xhz (j:Int) (a:LA):=xhA j a&&xSi (Sh.list 3) ((a.getD (0+j.toNat) .top).cells.getD 0 .top)
def xh4 {T:Type} (d:Nat) (a b i j:Int) (c:LA) (δ:T) (κl:(Int×LA)->T) (κr:(LA)->T):T:=br (decide (j>a)) (br (xem d j) (br (xhz j c) (br (xel d j) (br (xhy j c) (br ((xgc ((c.getD (0+j.toNat) .top).cells.getD 0 .top).toList ((c.getD (xaZ j) .top).cells.getD 0 .top).toList).isSome) (br (decide ((xgc ((c.getD (0+j.toNat) .top).cells.getD 0 .top).toList ((c.getD (xaZ j) .top).cells.getD 0 .top).toList).getD 0<0)) (br (xel d j) (br (xhy j c) (br (xem d j) (br (xhz j c) (br (xem d j) (br (xhA j c) (br (xel d j) (br (decide (xaZ j<(c.set (0+j.toNat) (AV.list 3 ((c.getD (xaZ j) .top).cells.getD 0 .top).toList)).length)) (κl (i64.wrap (j - 1),(c.set (0+j.toNat) (AV.list 3 ((c.getD (xaZ j) .top).cells.getD 0 .top).toList)).set (xaZ j) (AV.list 3 ((c.getD (0+j.toNat) .top).cells.getD 0 .top).toList))) δ) δ) δ) δ) δ) δ) δ) δ) (κr (c))) δ) δ) δ) δ) δ) (κr (c))
def xb9 (d:Nat) (a b i:Int):StT (Int×LA) (LA):=fun (j,c)=>xh4 d a b i j c none inL inR
def xcy:=xGt.l 53 1 [57] [] Tryz.f203 1 lk0 [0,1,2,3,8,9] [0,1,2,3,8] [] (q6 (xTg 0 0 0) qI qI (xSI 134 xS4) qI qI) (q1 (qB 0 1 57 xS6)) (fun (c,a,b,_,i,j,_) (d,_)=>(xb9 c a b i,(j,d),fun p=>(.leaf (.exit 2) [AV.osl 0 0 0 c,AV.int .i64 a,AV.int .i64 b,AV.func 134 [],AV.int .i64 i] [bF 0 1 57 p]))) [] fun (c,a,b,_,i,_,_) _ (j,d)=>(((c,a,b,(),i,j,()),(d,())),xh4 c a b i j d none)
def xh3 {T:Type} (d:Nat) (a b i:Int) (c:LA) (δ:T) (κl:(Int×LA)->T) (κr:(LA)->T):T:=br (decide (i<b)) (br ((Iter (xb9 d a b i) (i,c)).isSome) (κl (i64.wrap (i+1),(Iter (xb9 d a b i) (i,c)).getD [])) δ) (κr (c))
def xb8 (d:Nat) (a b:Int):StT (Int×LA) (LA):=fun (i,c)=>xh3 d a b i c none inL inR
def xhw:=xGt.l 53 1 [57] [(4,xcy.lp)] Tryz.f203 0 (lk1 xcy.ok) [0,1,2,3,8] [] [] (q5 (xTg 0 0 0) qI qI (xSI 134 xS4) qI) (q1 (qB 0 1 57 xS6)) (fun (d,a,b,_,i,_) (c,_)=>(xb8 d a b,(i,c),fun p=>(.leaf (.exit 0) [] [bF 0 1 57 p]))) [] fun (d,a,b,_,_,_) _ (i,c)=>(((d,a,b,(),i,()),(c,())),xh3 d a b i c none)
def xfD {T:Type} (n:Nat) (a b:Int) (c:LA) (δ:T) (κ:LA->T):T:=br ((Iter (xb8 n a b) (i64.wrap (a+1),c)).isSome) (κ ((Iter (xb8 n a b) (i64.wrap (a+1),c)).getD [])) δ
def xbL (n:Nat) (a b:Int) (c:LA):=xfD n a b c none some
def xGl:EO:=xGt.fM Tryz.func203 53 1 [57] [(4,xcy.lp),(1,xhw.lp)] (lks (lkC xhw.ok (lkC xcy.ok lkN))) (u4 (sEq (xTg 0 0 0)) uI uI (sEq (xSI (134:FuncId) xS4))) (q1 (qB 0 1 57 xS6)) (fun (n,a,b,_,_) (c,_) _=>xfD n a b c) (fun _ _ p=>(AV.tuple [],([bF 0 1 57 p]:List Box))) []
def xhf {T:Type} (d:Nat) (n e a b:Int) (c:LA) (δ:T) (κl:(Int×Int×LA)->T) (κr:(Int×LA)->T):T:=br (decide (b<=n)) (br ((xbL d a b c).isSome) (κl (b,i64.wrap (b+e),(xbL d a b c).getD [])) δ) (κr (a,c))
def xco (e:Nat) (n c:Int):StT (Int×Int×LA) (Int×LA):=fun (a,b,d)=>xhf e n c a b d none inL inR
def xep:=xGl.l 63 1 [57] [] Tryz.f189 0 lk0 [0,1,2,6,7,8] [0,1,2,6,7] [] (q6 (xTg 0 0 0) qI (xSI 134 xS4) qI qI qI) (q1 (qB 0 1 57 xS6)) (fun (d,n,_,c,a,b,_) (e,_)=>(xco d n c,(a,b,e),fun p=>(.leaf (.exit 0) [AV.osl 0 0 0 d,AV.int .i64 n,AV.func 134 [],AV.int .i64 c,AV.int .i64 p.1] [bF 0 1 57 p.2]))) (0,[]) fun (d,n,_,c,_,_,_) _ (a,b,e)=>(((d,n,(),c,a,b,()),(e,())),xhf d n c a b e none)
def xny {T:Type} (d:Nat) (n e a b:Int) (c:LA) (δ:T) (κl:(Int×Int×LA)->T) (κr:(Int×LA)->T):T:=br (decide (b<=n)) (br (decide (0+d<=c.length)&&true) δ δ) (κr (a,c))
def xkD (e:Nat) (n c:Int):StT (Int×Int×LA) (Int×LA):=fun (a,b,d)=>xny e n c a b d none inL inR
def xeq:=xGl.l 63 1 [57] [(2,xep.lp)] Tryz.f189 2 lk0 [0,1,2,6,7,8] [0,1,2,6,7] [] (q6 (xTg 0 0 0) qI (xSI 134 xS4) qI qI qI) (q1 (qB 0 1 57 xS6)) (fun (d,n,_,c,a,b,_) (e,_)=>(xkD d n c,(a,b,e),fun p=>(.leaf (.exit 4) [AV.osl 0 0 0 d,AV.int .i64 n,AV.func 134 [],AV.int .i64 c,AV.int .i64 p.1] [bF 0 1 57 p.2]))) (0,[]) fun (d,n,_,c,_,_,_) _ (a,b,e)=>(((d,n,(),c,a,b,()),(e,())),xny d n c a b e none)
def xm4 (c:Nat) (n a:Int) (b:LA):=Iter (xkD c n a) (0,i64.wrap (2*a),b)
def xm3 (c:Nat) (n a:Int) (b:LA):=(xm4 c n a b).getD (0,[])
def xm2 (c:Nat) (n a:Int) (b:LA):=(xm3 c n a b).snd
def xhg {T:Type} (c:Nat) (n a:Int) (b:LA) (δ:T) (κl:(Int×LA)->T) (κr:(LA)->T):T:=br (decide (a<n)) (br ((xm4 c n a b).isSome) (br (decide (i64.wrap ((xm3 c n a b).fst+a)<n)) (br (decide (0+c<=(xm2 c n a b).length)&&true) δ δ) (κl (i64.wrap (a*2),xm2 c n a b))) δ) (κr (b))
def xdt (c:Nat) (n:Int):StT (Int×LA) (LA):=fun (a,b)=>xhg c n a b none inL inR
def xm1:=xGl.l 63 1 [57] [(2,xep.lp),(9,xeq.lp)] Tryz.f189 1 (lk1 xeq.ok) [0,1,2,6] [] [] (q4 (xTg 0 0 0) qI (xSI 134 xS4) qI) (q1 (qB 0 1 57 xS6)) (fun (c,n,_,a,_) (b,_)=>(xdt c n,(a,b),fun p=>(.leaf (.exit 2) [] [bF 0 1 57 p]))) [] fun (c,n,_,_,_) _ (a,b)=>(((c,n,(),a,()),(b,())),xhg c n a b none)
def xiE (n:Nat) (k:Int) (a:LA):=(Iter (xco n k 20) (0,20,a)).getD (0,[])
def xiD (n:Nat) (k:Int) (a:LA):=xbL n (xiE n k a).fst k (xiE n k a).snd
def xiC (n:Nat) (k:Int) (a:LA):=Iter (xdt n k) (20,(xiD n k a).getD [])
def xjz {T:Type} (n:Nat) (k:Int) (a:LA) (δ:T) (κ:LA->T):T:=br ((Iter (xco n k 20) (0,20,a)).isSome) (br ((xiD n k a).isSome) (br ((xiC n k a).isSome) (κ ((xiC n k a).getD [])) δ) δ) δ
def xg8 (n:Nat) (k:Int) (a:LA):=xjz n k a none some
def xQM:EO:=xGl.fM Tryz.func189 63 1 [57] [(2,xep.lp),(9,xeq.lp),(7,xm1.lp)] (lks (lkC xep.ok (lkC xm1.ok (lkC xeq.ok lkN)))) (u3 (sEq (xTg 0 0 0)) uI (sEq (xSI (134:FuncId) xS4))) (q1 (qB 0 1 57 xS6)) (fun (n,k,_,_) (a,_) _=>xjz n k a) (fun _ _ p=>(AV.tuple [],([bF 0 1 57 p]:List Box))) []
def xiv {T:Type} (n:Nat) (a:LA) (δ:T) (κ:LA->T):T:=br ((xg8 n (↑n:Int) a).isSome) (κ ((xg8 n (↑n:Int) a).getD [])) δ
def xri (n:Nat) (a:LA):=xiv n a none some
def xN1:EO:=xQM.fM Tryz.func164 9 1 [57] [] lk0 (u2 (sEq (xTg 0 0 0)) (sEq (xSI (134:FuncId) xS4))) (q1 (qB 0 1 57 xS6)) (fun (n,_,_) (a,_) _=>xiv n a) (fun _ _ p=>(AV.tuple [],([bF 0 1 57 p]:List Box))) []
def xjX {T:Type} (d:LA) (e:Int) (c:Nat) (b:Int) (a:LA) (δ:T) (κl:(Nat×Int×LA)->T) (κr:(Nat×LA)->T):T:=br (decide (b<e)) (br (ixI d b) (br (ixS d b (Sh.list 3) 0) (br (decide ((gC d b 0).toList.length<=4398046511104)) (br (rmB c a 1 24) (κl (c+1,i64.wrap (b+1),a++[AV.list 3 (gC d b 0).toList])) δ) δ) δ) δ) (κr (c,a))
def xcw (c:LA) (d:Int):StT (Nat×Int×LA) (Nat×LA):=fun (b,e,a)=>xjX c d b e a none inL inR
def xva:=xN1.l 27 0 [57] [] Tryz.f133 0 lk0 [1,5,11,12,13] [1,5] [(5,1,57)] (q5 (xSI 134 xS4) (xTg 0 0 0) (qL 1) qI qI) (q1 (qB 0 1 57 xS6)) (fun (_,b,c,d,e,_) (a,_)=>(xcw c d,(b,e,a),fun p=>(.leaf (.exit 0) [AV.func 134 [],AV.osl 0 0 0 p.1] [bF 0 1 57 p.2]))) (0,[]) fun (_,_,c,d,_,_) _ (b,e,a)=>((((),b,c,d,e,()),(a,())),xjX c d b e a none)
def xrM (l:LA):=(Iter (xcw l (↑l.length:Int)) (0,0,[])).getD (0,[])
def xmg (l:LA):=(xrM l).fst
def xrL (l:LA):=xri (xmg l) (xrM l).snd
def xrK (l:LA):=(xrL l).getD []
def xtk {T:Type} (l:LA) (δ:T) (κ:LA->T):T:=br (decide (24*(↑l.length:Int)<=281474976710656)&&decide ((↑l.length:Int)<=4611686018427387904)) (br ((Iter (xcw l (↑l.length:Int)) (0,0,[])).isSome) (br ((xrL l).isSome) (br (decide (0+xmg l<=(xrK l).length)&&true) (κ (List.take (xmg l) (List.drop 0 (xrK l)))) δ) δ) δ) δ
def xwe (l:LA):=xtk l none some
def xQN:EO:=xN1.f Tryz.func133 27 0 [57] [(3,xva.lp)] (lk1 xva.ok) (u2 (uL 1) (sEq (xSI (134:FuncId) xS4))) (fun (l,_,_) _=>xtk l) (fun _ p=>AV.list 1 p) []
def xzI {T:Type} (l:LA) (δ:T) (κ:LA->T):T:=br ((xwe l).isSome) (κ ((xwe l).getD [])) δ
def xnW (l:LA):=xzI l none some
def xJJ:EO:=xQN.f Tryz.func106 5 0 [] [] lk0 (u1 (uL 1)) (fun (l,_) _=>xzI l) (fun _ p=>AV.list 1 p) []
def xiu (b:Nat) (c:Int) (a:LA):=decide (b+c.toNat<a.length)&&xSi (Sh.int .i64) ((a.getD (b+c.toNat) .top).cells.getD 0 .top)
def xgp {T:Type} (e c d:Nat) (k b:Int) (a:LA) (δ:T) (κl:(Int×Int×LA)->T) (κr:(Int×LA)->T):T:=br (decide (b<(↑d:Int))) (br (decide (0<=b)&&decide (b<(↑d:Int))) (br (xiu c b a) (br (decide (0<=i64.wrap (b - 1))&&decide (i64.wrap (b - 1)<(↑d:Int))) (br (decide (c+(i64.wrap (b - 1)).toNat<a.length)&&xSi (Sh.int .i64) ((a.getD (c+(i64.wrap (b - 1)).toNat) .top).cells.getD 0 .top)) (br (((a.getD (c+b.toNat) .top).cells.getD 0 .top).toInt != ((a.getD (c+(i64.wrap (b - 1)).toNat) .top).cells.getD 0 .top).toInt) (br (decide (0<=b)&&decide (b<(↑d:Int))) (br (xiu c b a) (br (decide (0<=k)&&decide (k<(↑e:Int))) (br (decide (0+k.toNat<a.length)) (κl (i64.wrap (k+1),i64.wrap (b+1),a.set (0+k.toNat) (AV.int .i64 ((a.getD (c+b.toNat) .top).cells.getD 0 .top).toInt))) δ) δ) δ) δ) (κl (k,i64.wrap (b+1),a))) δ) δ) δ) δ) (κr (k,a))
def xcs (b c d:Nat):StT (Int×Int×LA) (Int×LA):=fun (k,e,a)=>xgp b c d k e a none inL inR
def xit:=xJJ.l 61 1 [] [] Tryz.f104 1 lk0 [0,3,4,5] [0,3] [] (q4 (xTg 0 0 0) qI (pOslO 0 0) qI) (q1 (qB 0 1 3 xS6)) (fun (b,k,(c,d),e,_) (a,_)=>(xcs b c d,(k,e,a),fun p=>(.leaf (.exit 2) [AV.osl 0 0 0 b,AV.int .i64 p.1] [bF 0 1 3 p.2]))) (0,[]) fun (b,_,(c,d),_,_) _ (k,e,a)=>(((b,k,(c,d),e,()),(a,())),xgp b c d k e a none)
def xnP (a:Nat) (k:Int) (b:LA):=Iter (xcs a (0+k.toNat) (a - k.toNat)) (k,1,b)
def xnO (b:Nat) (k:Int) (a:LA):=(xnP b k a).getD (0,[])
def xir (b:Nat) (k:Int) (a:LA):=(xnO b k a).fst
def xis (b:Nat) (k:Int) (a:LA):=(xnO b k a).snd
def xnM (a:Nat) (k:Int) (b:LA):=decide (0<=xir a k b)&&decide (xir a k b<=(↑a:Int))
def xek (b:Nat) (k:Int) (a:LA):=(xir b k a).toNat
def xnN (a:Nat) (k:Int) (b:LA):Nat:=0+xek a k b+(a - xek a k b)
def xgo {T:Type} (b:Nat) (k:Int) (a:LA) (δ:T) (κl:(Int×LA)->T) (κr:(Bool×(Nat×LA)×(LA))->T):T:=br (decide (k<(↑b:Int))) (br (decide (0<=k)&&decide (k<(↑b:Int))) (br (decide (0+k.toNat<a.length)&&xSi (Sh.int .i64) ((a.getD (0+k.toNat) .top).cells.getD 0 .top)) (br (decide (0<=i64.wrap (k - 1))&&decide (i64.wrap (k - 1)<(↑b:Int))) (br (decide (0+(i64.wrap (k - 1)).toNat<a.length)&&xSi (Sh.int .i64) ((a.getD (0+(i64.wrap (k - 1)).toNat) .top).cells.getD 0 .top)) (br (((a.getD (0+k.toNat) .top).cells.getD 0 .top).toInt==((a.getD (0+(i64.wrap (k - 1)).toNat) .top).cells.getD 0 .top).toInt) (br (decide (0<=k)&&decide (k<=(↑b:Int))) (br ((xnP b k a).isSome) (br (xnM b k a) (br (decide (xnN b k a<=(xis b k a).length)) (br (xnM b k a&&true) (κr (true,(xek b k a - 0,List.take (0+xek b k a) (xis b k a)++(List.replicate (b - xek b k a) (AV.int .i64 0)++List.drop (xnN b k a) (xis b k a))),[])) δ) δ) δ) δ) δ) (κl (i64.wrap (k+1),a))) δ) δ) δ) δ) (κr (false,(0,[]),(a)))
def xbd (b:Nat):StT (Int×LA) (Bool×(Nat×LA)×(LA)):=fun (k,a)=>xgo b k a none inL inR
def xuJ:=xJJ.l 61 1 [] [(9,xit.lp)] Tryz.f104 0 (lk1 xit.ok) [0,3] [0,2] [] (q2 (xTg 0 0 0) qI) (q1 (qB 0 1 3 xS6)) (fun (a,k,_) (b,_)=>(xbd a,(k,b),fun p=>(.node p.1 (.leaf .ret [AV.osl 0 0 0 a,AV.osl 0 0 0 p.2.1.1] [bF 0 1 3 p.2.1.2]) (.leaf (.exit 0) [AV.osl 0 0 0 a,.top] [bF 0 1 3 p.2.2])))) (false,(0,[]),[]) fun (a,_,_) _ (k,b)=>(((a,k,()),(b,())),xgo a k b none)
def xrJ (n:Nat) (a:LA):=(Iter (xbd n) (1,a)).getD (false,(0,[]),[])
def xrI (n:Nat) (a:LA):=(xrJ n a).snd
def xrH (n:Nat) (a:LA):=(xrI n a).fst
def xtb {T:Type} (n:Nat) (a:LA) (δ:T) (κ:Nat×LA->T):T:=br (decide ((↑n:Int)<2)) (κ (n,a)) (br ((Iter (xbd n) (1,a)).isSome) (br ((xrJ n a).fst) (κ ((xrH n a).fst,(xrH n a).snd)) (κ (n,(xrI n a).snd))) δ)
def xv9 (n:Nat) (a:LA):=xtb n a none some
def xNx:EO:=xJJ.fM Tryz.func104 61 1 [] [(9,xit.lp),(4,xuJ.lp)] (lks (lkC xuJ.ok (lkC xit.ok lkN))) (u1 (sEq (xTg 0 0 0))) (q1 (qB 0 1 3 xS6)) (fun (n,_) (a,_) _=>xtb n a) (fun _ _ p=>(AV.osl 0 0 0 p.1,([bF 0 1 3 p.2]:List Box))) (0,[])
def xhn (b:LA) (c:Int) (a:LA):=a++[AV.int .i64 (gC b c 1).toInt]
def xh9 {T:Type} (d:LA) (e:Int) (a:Nat) (c:Int) (b:LA) (δ:T) (κl:(Nat×Int×LA)->T) (κr:(Nat×LA)->T):T:=br (decide (c<e)) (br (ixI d c) (br (ixT d c 3 [Sh.list 3,Sh.int .i64,Sh.int .i64] 0) (br (xhd (gC d c 1).toInt (gC d c 2).toInt) (br (rmB a b 1 8) (br (decide ((gC d c 2).toInt<1099511627776)) (br (a+1==(xhn d c b).length&&(decide ((a+1+1)*8<=140737488355328)&&decide (a+1+1<=4611686018427387904))) (κl (a+1+1,i64.wrap (c+1),xhn d c b++[AV.int .i64 (gC d c 2).toInt])) δ) (κl (a+1,i64.wrap (c+1),xhn d c b))) δ) (κl (a,i64.wrap (c+1),b))) δ) δ) (κr (a,b))
def xcc (c:LA) (d:Int):StT (Nat×Int×LA) (Nat×LA):=fun (b,e,a)=>xh9 c d b e a none inL inR
def xto:=xNx.l 37 0 [] [] Tryz.f67 0 lk0 [3,7,8,9] [3] [(3,1,3)] (q4 (xTg 0 0 0) (qL 3) qI qI) (q1 (qB 0 1 3 xS6)) (fun (b,c,d,e,_) (a,_)=>(xcc c d,(b,e,a),fun p=>(.leaf (.exit 0) [AV.osl 0 0 0 p.1] [bF 0 1 3 p.2]))) (0,[]) fun (_,c,d,_,_) _ (b,e,a)=>(((b,c,d,e,()),(a,())),xh9 c d b e a none)
def xpE (l:LA):=Iter (xcc l (↑l.length:Int)) (1,0,[AV.int .i64 0])
def xpD (l:LA):=(xpE l).getD (0,[])
def xj8 (l:LA):=(xpD l).fst
def xj9 (l:LA):=(xpD l).snd
def xpC (l:LA):=xv9 (xj8 l) (srtI (xj9 l))
def xpB (l:LA):=(xpC l).getD (0,[])
def xpz (l:LA):=(xpB l).snd
def xpA (l:LA):=(xpB l).fst
def xrk {T:Type} (l:LA) (δ:T) (κ:LA->T):T:=br ((xpE l).isSome) (br ((xj8 l).beq (xj9 l).length&&(decide (xj8 l<4611686018427387904)&&(xj9 l).all isI)) (br ((xpC l).isSome) (br (decide (0+xpA l<=(xpz l).length)&&true) (κ (List.take (xpA l) (List.drop 0 (xpz l)))) δ) δ) δ) δ
def xhm (l:LA):=xrk l none some
def xQK:EO:=xNx.f Tryz.func67 37 0 [] [(3,xto.lp)] (lk1 xto.ok) (u1 (uL 3)) (fun (l,_) _=>xrk l) (fun _ p=>AV.list 1 p) []
def xoZ (a b t:Int):Bool:=(br (xhd a b) (br (decide (t>=a)) ((decide (t<b))) ((false))) ((false)))
def xCM {T:Type} (a b t:Int) (δ:T) (κ:Bool->T):T:=br (xhd a b) (br (decide (t>=a)) (κ (decide (t<b))) (κ (false))) (κ (false))
def xN0:EO:=xQK.fT Tryz.func105 19 0 [] [] lk0 (fun ((a,b,_),t,_)=>xCM a b t none) (u2 (xTl (u2 uI uI)) uI) (fun ((a,b,_),t,_)=>xoZ a b t) (fun _ p=>(AV.bool p))
def xnC {T:Type} (t:Int) (d:LA) (e:Int) (c:Nat) (b:Int) (a:LA) (δ:T) (κl:(Nat×Int×LA)->T) (κr:(Nat×LA)->T):T:=br (decide (b<e)) (br (ixI d b) (br (ixT d b 3 [Sh.list 3,Sh.int .i64,Sh.int .i64] 0) (br (xoZ (gC d b 1).toInt (gC d b 2).toInt t) (br (rmB c a 1 24) (κl (c+1,i64.wrap (b+1),a++[AV.list 3 (gC d b 0).toList])) δ) (κl (c,i64.wrap (b+1),a))) δ) δ) (κr (c,a))
def xeN (t:Int) (d:LA) (e:Int):StT (Nat×Int×LA) (Nat×LA):=fun (b,c,a)=>xnC t d e b c a none inL inR
def xyt:=xN0.l 26 0 [] [] Tryz.f68 0 lk0 [1,5,8,9,10] [5] [(5,1,57)] (q5 qI (xTg 0 0 0) (qL 3) qI qI) (q1 (qB 0 1 57 xS6)) (fun (t,b,d,e,c,_) (a,_)=>(xeN t d e,(b,c,a),fun p=>(.leaf (.exit 0) [AV.osl 0 0 0 p.1] [bF 0 1 57 p.2]))) (0,[]) fun (t,_,d,e,_,_) _ (b,c,a)=>(((t,b,d,e,c,()),(a,())),xnC t d e b c a none)
def xvE (l:LA) (t:Int):=(Iter (xeN t l (↑l.length:Int)) (0,0,[])).getD (0,[])
def xvC (l:LA) (t:Int):=(xvE l t).fst
def xvD (l:LA) (t:Int):=(xvE l t).snd
def xvB (l:LA) (t:Int):=xnW (List.take (xvC l t) (List.drop 0 (xvD l t)))
def xw1 {T:Type} (l:LA) (t:Int) (δ:T) (κ:LA->T):T:=br ((Iter (xeN t l (↑l.length:Int)) (0,0,[])).isSome) (br (decide (0+xvC l t<=(xvD l t).length)&&true) (br ((xvB l t).isSome) (κ ((xvB l t).getD [])) δ) δ) δ
def xe2 (l:LA) (t:Int):=xw1 l t none some
def xQL:EO:=xN0.f Tryz.func68 26 0 [] [(3,xyt.lp)] (lk1 xyt.ok) (u2 (uL 3) uI) (fun (l,t,_) _=>xw1 l t) (fun _ p=>AV.list 1 p) []
def xko (b a:Bool):Int:=(br (b) (((-1))) (br (a) ((1)) ((0))))
def xHy {T:Type} (b a:Bool) (δ:T) (κ:Int->T):T:=br (b) (κ ((-1))) (br (a) (κ (1)) (κ (0)))
def xPy:EO:=xQL.fT Tryz.func128 7 0 [] [] lk0 (fun (b,a,_)=>xHy b a none) (u2 (sEq pBool) (sEq pBool)) (fun (b,a,_)=>xko b a) (fun _ p=>(AV.int .i64 p))
def xhW (a b:Int) (c:List UInt8) (d e:Int) (f:List UInt8):Int:=(br (a != d) ((xko (decide (a<d)) (decide (a>d)))) (br (b != e) ((xko (decide (b<e)) (decide (b>e)))) ((xko (Op.bytesLess c f) !(Op.bytesLess c f || c==f)))))
def xEr {T:Type} (a b:Int) (c:List UInt8) (d e:Int) (f:List UInt8) (δ:T) (κ:Int->T):T:=br (a != d) (κ (xko (decide (a<d)) (decide (a>d)))) (br (b != e) (κ (xko (decide (b<e)) (decide (b>e)))) (κ (xko (Op.bytesLess c f) !(Op.bytesLess c f || c==f))))
def xKP:EO:=xPy.fT Tryz.func96 48 0 [] [] lk0 (fun ((a,b,c,_),(d,e,f,_),_)=>xEr a b c d e f none) (u2 (xTl (u3 uI uI (sEq pStr))) (xTl (u3 uI uI (sEq pStr)))) (fun ((a,b,c,_),(d,e,f,_),_)=>xhW a b c d e f) (fun _ p=>(AV.int .i64 p))
def xe0 (a b:LA) (i:Int):=xhW (gC a i 0).toInt (gC a i 1).toInt (gC a i 2).toStr (gC b i 0).toInt (gC b i 1).toInt (gC b i 2).toStr
def xfi {T:Type} (a b:LA) (i:Int) (δ:T) (κl:(Int)->T) (κr:(Bool×(Int)×(Unit))->T):T:=br (decide (i<a.length)) (br (decide (i<b.length)) (br (ixI a i) (br (ixT a i 3 [Sh.int .i64,Sh.int .i64,Sh.str] 0) (br (ixI b i) (br (ixT b i 3 [Sh.int .i64,Sh.int .i64,Sh.str] 0) (br (xe0 a b i != 0) (κr (true,(xe0 a b i),())) (κl (i64.wrap (i+1)))) δ) δ) δ) δ) (κr (false,0,()))) (κr (false,0,()))
def xbD (a b:LA):StT (Int) (Bool×(Int)×(Unit)):=fun (i)=>xfi a b i none inL inR
def xvp:=xKP.l 41 0 [] [] Tryz.f64 0 lk0 [0,1,5] [0,1,4] [] (q3 (qL 3) (qL 3) qI) xS4 (fun (a,b,i,_) _=>(xbD a b,(i),fun p=>(.node p.1 (.leaf .ret [AV.list 3 a,AV.list 3 b,AV.int .i64 p.2.1] []) (.leaf (.exit 0) [AV.list 3 a,AV.list 3 b,.top] [])))) (false,0,()) fun (a,b,_,_) _ (i)=>(((a,b,i,()),()),xfi a b i none)
def xt7 {T:Type} (a b:LA) (δ:T) (κ:Int->T):T:=br ((Iter (xbD a b) 0).isSome) (br (((Iter (xbD a b) 0).getD (false,0,())).fst) (κ (((Iter (xbD a b) 0).getD (false,0,())).snd.fst)) (br (decide ((↑a.length:Int)<(↑b.length:Int))) (κ ((-1))) (br (decide ((↑a.length:Int)>(↑b.length:Int))) (κ (1)) (κ (0))))) δ
def xbs (a b:LA):=xt7 a b none some
def xPz:EO:=xKP.f Tryz.func64 41 0 [] [(2,xvp.lp)] (lk1 xvp.ok) (u2 (uL 3) (uL 3)) (fun (a,b,_) _=>xt7 a b) (fun _ p=>AV.int .i64 p) 0
def xw6 {T:Type} (a b:LA) (δ:T) (κ:Bool->T):T:=br ((xbs a b).isSome) (κ ((xbs a b).getD 0==0)) δ
def xrX (a b:LA):=xw6 a b none some
def xKQ:EO:=xPz.f Tryz.func57 9 0 [] [] lk0 (u2 (uL 3) (uL 3)) (fun (a,b,_) _=>xw6 a b) (fun _ p=>AV.bool p) false
def xiq {T:Type} (a b:LA) (i:Int) (δ:T) (κl:(Int)->T) (κr:(Bool×(Bool)×(Unit))->T):T:=br (decide (i<a.length)) (br (ixI a i) (br (ixT a i 3 [Sh.int .i64,Sh.int .i64] 1) (br (ixI b i) (br (ixT b i 3 [Sh.int .i64,Sh.int .i64] 1) (br (!((gC a i 1).toInt==(gC b i 1).toInt&&((gC a i 2).toInt==(gC b i 2).toInt&&true))) (κr (true,(false),())) (br (ixI a i) (br (ixS a i (Sh.list 3) 0) (br (ixI b i) (br (ixS b i (Sh.list 3) 0) (br ((xbs (gC a i 0).toList (gC b i 0).toList).isSome) (br ((xbs (gC a i 0).toList (gC b i 0).toList).getD 0 != 0) (κr (true,(false),())) (κl (i64.wrap (i+1)))) δ) δ) δ) δ) δ)) δ) δ) δ) δ) (κr (false,false,()))
def xce (a b:LA):StT (Int) (Bool×(Bool)×(Unit)):=fun (i)=>xiq a b i none inL inR
def xtv:=xKQ.l 42 0 [] [] Tryz.f38 0 lk0 [0,1,5] [4] [] (q3 (qL 3) (qL 3) qI) xS4 (fun (a,b,i,_) _=>(xce a b,(i),fun p=>(.node p.1 (.leaf .ret [AV.bool p.2.1] []) (.leaf (.exit 0) [.top] [])))) (false,false,()) fun (a,b,_,_) _ (i)=>(((a,b,i,()),()),xiq a b i none)
def xrG {T:Type} (a b:LA) (δ:T) (κ:Bool->T):T:=br ((↑a.length:Int) != (↑b.length:Int)) (κ (false)) (br ((Iter (xce a b) 0).isSome) (br (((Iter (xce a b) 0).getD (false,false,())).fst) (κ (((Iter (xce a b) 0).getD (false,false,())).snd.fst)) (κ (true))) δ)
def xky (a b:LA):=xrG a b none some
def xKR:EO:=xKQ.f Tryz.func38 42 0 [] [(4,xtv.lp)] (lk1 xtv.ok) (u2 (uL 3) (uL 3)) (fun (a,b,_) _=>xrG a b) (fun _ p=>AV.bool p) false
def xfp (a b:LA) (i k:Int):=decide ((xbs (gC b k 0).toList (gC a i 0).toList).getD 0<0)
def xfq (b:LA) (k:Int):=decide (k.toNat<b.length)&&((b.getD k.toNat .top).cells.length==3&&xSp [Sh.list 3,Sh.int .i64,Sh.int .i64] (b.getD k.toNat .top).cells 0)
def xfr (a:LA) (i:Int):=decide (i.toNat<a.length)&&((a.getD i.toNat .top).cells.length==3&&xSp [Sh.list 3,Sh.int .i64,Sh.int .i64] (a.getD i.toNat .top).cells 0)
def xd3 (b:LA) (k:Int):=ixI b k
def xd4 (a:LA) (i:Int):=ixI a i
def xdr {T:Type} (b:LA) (c:Nat) (i k:Int) (a:LA) (δ:T) (κl:(Nat×Int×Int×LA)->T):T:=br (xd3 b k) (br (xfq b k) (br (rmB c a 1 40) (κl (c+1,i,i64.wrap (k+1),a++[AV.agg [AV.list 3 (gC b k 0).toList,AV.int .i64 (gC b k 1).toInt,AV.int .i64 (gC b k 2).toInt]])) δ) δ) δ
def xds {T:Type} (a:LA) (c:Nat) (i k:Int) (b:LA) (δ:T) (κl:(Nat×Int×Int×LA)->T):T:=br (xd4 a i) (br (xfr a i) (br (rmB c b 1 40) (κl (c+1,i64.wrap (i+1),k,b++[AV.agg [AV.list 3 (gC a i 0).toList,AV.int .i64 (gC a i 1).toInt,AV.int .i64 (gC a i 2).toInt]])) δ) δ) δ
def xdq {T:Type} (a b:LA) (d:Nat) (i k:Int) (c:LA) (δ:T) (κl:(Nat×Int×Int×LA)->T):T:=br (i==(↑a.length:Int)) (xdr b d i k c δ κl) (br (decide (k<b.length)) (br (xd3 b k) (br (ixS b k (Sh.list 3) 0) (br (xd4 a i) (br (ixS a i (Sh.list 3) 0) (br ((xbs (gC b k 0).toList (gC a i 0).toList).isSome) (br (xfp a b i k) (xdr b d i k c δ κl) (xds a d i k c δ κl)) δ) δ) δ) δ) δ) (xds a d i k c δ κl))
def xeJ {T:Type} (a b:LA) (d:Nat) (i k:Int) (c:LA) (δ:T) (κl:(Nat×Int×Int×LA)->T) (κr:(Nat×LA)->T):T:=br (decide (i<a.length)) (xdq a b d i k c δ κl) (br (decide (k<b.length)) (xdq a b d i k c δ κl) (κr (d,c)))
def xbP (a b:LA):StT (Nat×Int×Int×LA) (Nat×LA):=fun (d,i,k,c)=>xeJ a b d i k c none inL inR
def xwM:=xKR.l 61 0 [] [] Tryz.f123 0 lk0 [0,1,5,6,7] [5] [(5,3,59)] (q5 (qL 3) (qL 3) (xTg 0 0 0) qI qI) (q1 (qB 0 3 59 xS6)) (fun (a,b,d,i,k,_) (c,_)=>(xbP a b,(d,i,k,c),fun p=>(.leaf (.exit 0) [AV.osl 0 0 0 p.1] [bF 0 3 59 p.2]))) (0,[]) fun (a,b,_,_,_,_) _ (d,i,k,c)=>(((a,b,d,i,k,()),(c,())),xeJ a b d i k c none)
def xuG (a b:LA):=Iter (xbP a b) (0,0,0,[])
def xuF (a b:LA):=(xuG a b).getD (0,[])
def xuD (a b:LA):=(xuF a b).fst
def xuE (a b:LA):=(xuF a b).snd
def xv7 {T:Type} (a b:LA) (δ:T) (κ:LA->T):T:=br ((xuG a b).isSome) (br (decide (0+xuD a b<=(xuE a b).length)&&true) (κ (List.take (xuD a b) (List.drop 0 (xuE a b)))) δ) δ
def xzv (a b:LA):=xv7 a b none some
def xDP:EO:=xKR.f Tryz.func123 61 0 [] [(3,xwM.lp)] (lk1 xwM.ok) (u2 (uL 3) (uL 3)) (fun (a,b,_) _=>xv7 a b) (fun _ p=>AV.list 3 p) []
def xqg (R:LA->Option (LA)):LA->Option (Bool×AV):=ocOf (xS3 (xTk 3 xS6) xS5) fun (l,_)=>((R l).isSome,AV.list 3 ((R l).getD []))
def xjw (R:LA->Option (LA)):Env:=(xDP.E.with 89 (xqg R)).fn 20 0 (lsOf []) (xSH [])
def xoR (R:LA->Option (LA)):Prop:=OcOk P0 xS1 89 (xqg R)
theorem xBO (R:LA->Option (LA)) (a:xoR R):xSk P0 (xS1.at 0) (xjw R):=(xDP.ok.with a).fn
theorem xAR (R:LA->Option (LA)):LoOk P0 (xS1.at (xjw R).pin) (xjw R) (Tryz.f89.body.getD .skip):=xsM (by kernel_rfl)
def xs4 (l:LA):=decide (0<=i64.wrap ((↑l.length:Int).tdiv 2))&&decide (i64.wrap ((↑l.length:Int).tdiv 2)<=(↑l.length:Int))
def xs5 (R:LA->Option (LA)) (l:LA):Option (LA):=R (List.take (l.length - (i64.wrap ((↑l.length:Int).tdiv 2)).toNat) (List.drop (i64.wrap ((↑l.length:Int).tdiv 2)).toNat l))
def xs3 (R:LA->Option (LA)) (l:LA):Option (LA):=xzv ((R (List.take ((i64.wrap ((↑l.length:Int).tdiv 2)).toNat - 0) (List.drop 0 l))).getD []) ((xs5 R l).getD [])
def xhv {T:Type} (R:LA->Option (LA)) (l:LA) (δ:T) (κ:LA->T):T:=br (decide ((↑l.length:Int)<2)) (κ (l)) (br (xs4 l&&true) (br ((R (List.take ((i64.wrap ((↑l.length:Int).tdiv 2)).toNat - 0) (List.drop 0 l))).isSome) (br (xs4 l) (br ((xs5 R l).isSome) (br ((xs3 R l).isSome) (κ ((xs3 R l).getD [])) δ) δ) δ) δ) δ)
def xda (R:LA->Option (LA)) (l:LA):=xhv R l none some
theorem xEB (R:LA->Option (LA)) (l:LA):Enc (fun (p:LA)=>((AV.list 3 p):AV)) (xda R l) (XF P0 (xjw R) Tryz.f89 (Tryz.f89.body.getD .skip) [AV.list 3 l]):=by
 refine eV (xhv R l none (fun (p:LA)=>some ((AV.list 3 p):AV))) (by kernel_rfl) ?_;unfold xda xhv;repeat' first|exact eN|exact eS rfl|apply eB
def xEA (R:LA->Option (LA)):LA->Option (Bool×AV):=ocOf (xS3 (xTk 3 xS6) xS5) fun (l,_)=>((xda R l).isSome,(AV.list 3 ((xda R l).getD [])))
theorem xEz (R:LA->Option (LA)) (c:xoR R):OcOk P0 xS1 89 (xEA R):=xmw fun e g f=>by
 obtain ⟨l,_⟩:=e;obtain ⟨a,b⟩:=Prod.mk.inj f;refine xdT (p:=(xjw R).pin) (xf4 xSt (xSu P0 _) rfl (xBO R c) Tryz.func89 rfl (by kernel_rfl) (xAR R) ((xEB R _ _ (xcf (d:=[]) a)).trans ?_))
 exact congrArg some b
def xcn:Nat->LA->Option (LA)
 | 0=>fun _=>none
 | fu_+1=>fun l=>xda (xcn fu_) l
theorem xwN:∀ n,xoR (xcn n)
 | 0=>xmw fun _ _ h=>absurd (Prod.mk.inj h).1 Bool.false_ne_true
 | fu_+1=>fun a r h=>xEz (xcn fu_) (xwN fu_) a r h
def xKS:Env:=xDP.E.with 89 (xqg (xcn 100))
theorem xKU:xSk P0 xS1 xKS:=xDP.ok.with (xwN _)
def xKT:EO:=EO.mk xKS xKU
def xsi (a b c d:Int):Int:=(br (a==c&&(b==d&&true)) ((0)) (br (decide (a<c)) (((-1))) (br (a==c) (br (decide (b<d)) (((-1))) ((1))) ((1)))))
def xEp {T:Type} (a b c d:Int) (δ:T) (κ:Int->T):T:=br (a==c&&(b==d&&true)) (κ (0)) (br (decide (a<c)) (κ ((-1))) (br (a==c) (br (decide (b<d)) (κ ((-1))) (κ (1))) (κ (1))))
def xPA:EO:=xKT.fT Tryz.func126 27 0 [] [] lk0 (fun ((a,b,_),(c,d,_),_)=>xEp a b c d none) (u2 (xTl (u2 uI uI)) (xTl (u2 uI uI))) (fun ((a,b,_),(c,d,_),_)=>xsi a b c d) (fun _ p=>(AV.int .i64 p))
def xKk:Int×Int×List UInt8:=((0,0,[]))
def xHw {T:Type} (δ:T) (κ:Int×Int×List UInt8->T):T:=κ (0,0,[])
def xPB:EO:=xPA.fT Tryz.func120 2 0 [] [] lk0 (fun _=>xHw none) xS5 (fun _=>xKk) (fun _ p=>(AV.agg [AV.int .i64 p.1,AV.int .i64 p.2.1,AV.str p.2.2]))
def xBb {T:Type} (a:LA) (i:Int) (δ:T) (κ:Int×Int×List UInt8->T):T:=br (decide (i<0)) (κ (0,0,[])) (br (decide (i>=a.length)) (κ (0,0,[])) (br (ixI a i) (br (ixT a i 3 [Sh.int .i64,Sh.int .i64,Sh.str] 0) (κ ((gC a i 0).toInt,(gC a i 1).toInt,(gC a i 2).toStr)) δ) δ))
def xpx (a:LA) (i:Int):=xBb a i none some
def xII:EO:=xPB.f Tryz.func86 18 0 [] [] lk0 (u2 (uL 3) uI) (fun (a,i,_) _=>xBb a i) (fun _ p=>AV.agg [AV.int .i64 p.1,AV.int .i64 p.2.1,AV.str p.2.2]) (0,0,[])
def xp0 (o:LA) (i:Int):=ixI o i
def xwC (a o:LA) (i:Int):=(xpx a (gC o i 0).toInt).getD (0,0,[])
def xwD (b o:LA) (i:Int):=(xpx b (gC o i 0).toInt).getD (0,0,[])
def xwA (a o:LA) (i:Int):=(xwC a o i).snd
def xwB (b o:LA) (i:Int):=(xwD b o i).snd
def xwz (a b o:LA) (i:Int):=xhW (xwC a o i).fst (xwA a o i).fst (xwA a o i).snd (xwD b o i).fst (xwB b o i).fst (xwB b o i).snd
def xrq {T:Type} (a b o:LA) (i:Int) (δ:T) (κl:(Int)->T) (κr:(Bool×(Bool)×(Unit))->T):T:=br (decide (i<o.length)) (br (xp0 o i) (br (ixS o i (Sh.int .i64) 0) (br ((xpx a (gC o i 0).toInt).isSome) (br (xp0 o i) (br (ixS o i (Sh.int .i64) 0) (br ((xpx b (gC o i 0).toInt).isSome) (br (xwz a b o i != 0) (br (xp0 o i) (br (decide (i.toNat<o.length)&&xSi Sh.bool (gC o i 1)) (κr (true,(!decide (xwz a b o i<0)==(gC o i 1).toBool),())) δ) δ) (κl (i64.wrap (i+1)))) δ) δ) δ) δ) δ) δ) (κr (false,false,()))
def xee (a b o:LA):StT (Int) (Bool×(Bool)×(Unit)):=fun (i)=>xrq a b o i none inL inR
def xwy:=xII.l 44 0 [] [] Tryz.f152 0 lk0 [0,1,2,7] [0,1,6] [] (q4 (qL 3) (qL 3) (qL 2) qI) xS4 (fun (a,b,o,i,_) _=>(xee a b o,(i),fun p=>(.node p.1 (.leaf .ret [AV.list 3 a,AV.list 3 b,AV.bool p.2.1] []) (.leaf (.exit 0) [AV.list 3 a,AV.list 3 b,.top] [])))) (false,false,()) fun (a,b,o,_,_) _ (i)=>(((a,b,o,i,()),()),xrq a b o i none)
def xvx {T:Type} (a b o:LA) (δ:T) (κ:Bool->T):T:=br ((Iter (xee a b o) 0).isSome) (br (((Iter (xee a b o) 0).getD (false,false,())).fst) (κ (((Iter (xee a b o) 0).getD (false,false,())).snd.fst)) (br ((xbs a b).isSome) (κ (decide ((xbs a b).getD 0<0))) δ)) δ
def xt9 (a b o:LA):=xvx a b o none some
def xIJ:EO:=xII.f Tryz.func152 44 0 [] [(2,xwy.lp)] (lk1 xwy.ok) (u3 (uL 3) (uL 3) (uL 2)) (fun (a,b,o,_) _=>xvx a b o) (fun _ p=>AV.bool p) false
def xdZ (a:LA) (i:Int):=decide (i.toNat<a.length)&&xSi (Sh.list 3) (gC a i 0)
def xdx (b:LA) (k:Int):=decide (k.toNat<b.length)&&xSi (Sh.list 3) (gC b k 0)
def xd0 (b:LA) (k:Int):=ixI b k
def xd1 (a:LA) (i:Int):=ixI a i
def xdl {T:Type} (b:LA) (c:Nat) (i k:Int) (a:LA) (δ:T) (κl:(Nat×Int×Int×LA)->T):T:=br (xd0 b k) (br (xdx b k) (br (rmB c a 1 24) (κl (c+1,i,i64.wrap (k+1),a++[AV.list 3 (gC b k 0).toList])) δ) δ) δ
def xdm {T:Type} (a:LA) (c:Nat) (i k:Int) (b:LA) (δ:T) (κl:(Nat×Int×Int×LA)->T):T:=br (xd1 a i) (br (xdZ a i) (br (rmB c b 1 24) (κl (c+1,i64.wrap (i+1),k,b++[AV.list 3 (gC a i 0).toList])) δ) δ) δ
def xdk {T:Type} (a b o:LA) (d:Nat) (i k:Int) (c:LA) (δ:T) (κl:(Nat×Int×Int×LA)->T):T:=br (i==(↑a.length:Int)) (xdl b d i k c δ κl) (br (decide (k<b.length)) (br (xd0 b k) (br (xdx b k) (br (xd1 a i) (br (xdZ a i) (br ((xt9 (gC b k 0).toList (gC a i 0).toList o).isSome) (br ((xt9 (gC b k 0).toList (gC a i 0).toList o).getD false) (xdl b d i k c δ κl) (xdm a d i k c δ κl)) δ) δ) δ) δ) δ) (xdm a d i k c δ κl))
def xeI {T:Type} (a b o:LA) (d:Nat) (i k:Int) (c:LA) (δ:T) (κl:(Nat×Int×Int×LA)->T) (κr:(Nat×LA)->T):T:=br (decide (i<a.length)) (xdk a b o d i k c δ κl) (br (decide (k<b.length)) (xdk a b o d i k c δ κl) (κr (d,c)))
def xbO (a b o:LA):StT (Nat×Int×Int×LA) (Nat×LA):=fun (d,i,k,c)=>xeI a b o d i k c none inL inR
def xwE:=xIJ.l 62 0 [] [] Tryz.f122 0 lk0 [0,1,2,7,8,9] [7] [(7,1,57)] (q6 (qL 1) (qL 1) (qL 2) (xTg 0 0 0) qI qI) (q1 (qB 0 1 57 xS6)) (fun (a,b,o,d,i,k,_) (c,_)=>(xbO a b o,(d,i,k,c),fun p=>(.leaf (.exit 0) [AV.osl 0 0 0 p.1] [bF 0 1 57 p.2]))) (0,[]) fun (a,b,o,_,_,_,_) _ (d,i,k,c)=>(((a,b,o,d,i,k,()),(c,())),xeI a b o d i k c none)
def xud (a b o:LA):=Iter (xbO a b o) (0,0,0,[])
def xuc (a b o:LA):=(xud a b o).getD (0,[])
def xua (a b o:LA):=(xuc a b o).snd
def xub (a b o:LA):=(xuc a b o).fst
def xv0 {T:Type} (a b o:LA) (δ:T) (κ:LA->T):T:=br ((xud a b o).isSome) (br (decide (0+xub a b o<=(xua a b o).length)&&true) (κ (List.take (xub a b o) (List.drop 0 (xua a b o)))) δ) δ
def xzk (a b o:LA):=xv0 a b o none some
def xCC:EO:=xIJ.f Tryz.func122 62 0 [] [(3,xwE.lp)] (lk1 xwE.ok) (u3 (uL 1) (uL 1) (uL 2)) (fun (a,b,o,_) _=>xv0 a b o) (fun _ p=>AV.list 1 p) []
def xsV (R:LA->LA->Option (LA)):LA->Option (Bool×AV):=ocOf (xS3 (xTk 1 xS6) (xS3 (xTk 2 xS6) xS5)) fun (l,(o,_))=>((R l o).isSome,AV.list 1 ((R l o).getD []))
def xmL (R:LA->LA->Option (LA)):Env:=(xCC.E.with 88 (xsV R)).fn 34 0 (lsOf []) (xSH [])
def xrp (R:LA->LA->Option (LA)):Prop:=OcOk P0 xS1 88 (xsV R)
theorem xCO (R:LA->LA->Option (LA)) (a:xrp R):xSk P0 (xS1.at 0) (xmL R):=(xCC.ok.with a).fn
theorem xBL (R:LA->LA->Option (LA)):LoOk P0 (xS1.at (xmL R).pin) (xmL R) (Tryz.f88.body.getD .skip):=xsM (by kernel_rfl)
def xmN (l:LA):=decide (0<=i64.wrap ((↑l.length:Int).tdiv 2))&&decide (i64.wrap ((↑l.length:Int).tdiv 2)<=(↑l.length:Int))
def xgS (l:LA):Nat:=0+((l.getD 0 .top).cells.getD 0 .top).toList.length
def xmO (R:LA->LA->Option (LA)) (l o:LA):Option (LA):=R (List.take (l.length - (i64.wrap ((↑l.length:Int).tdiv 2)).toNat) (List.drop (i64.wrap ((↑l.length:Int).tdiv 2)).toNat l)) o
def xmM (R:LA->LA->Option (LA)) (l o:LA):Option (LA):=xzk ((R (List.take ((i64.wrap ((↑l.length:Int).tdiv 2)).toNat - 0) (List.drop 0 l)) o).getD []) ((xmO R l o).getD []) o
def xga {T:Type} (R:LA->LA->Option (LA)) (l o:LA) (δ:T) (κ:LA->T):T:=br ((↑l.length:Int)==0) (κ ([])) (br ((↑l.length:Int)==1) (br (decide (0<(↑l.length:Int))) (br (decide (0<l.length)&&xSi (Sh.list 3) ((l.getD 0 .top).cells.getD 0 .top)) (br (decide (xgS l*32<=140737488355328)&&decide (xgS l<=4611686018427387904)) (br (decide (0+xgS l<=([]++((l.getD 0 .top).cells.getD 0 .top).toList).length)&&true&&true&&true) (κ ([AV.list 3 (List.take (xgS l) (List.drop 0 ([]++((l.getD 0 .top).cells.getD 0 .top).toList)))])) δ) δ) δ) δ) (br (xmN l&&true) (br ((R (List.take ((i64.wrap ((↑l.length:Int).tdiv 2)).toNat - 0) (List.drop 0 l)) o).isSome) (br (xmN l) (br ((xmO R l o).isSome) (br ((xmM R l o).isSome) (κ ((xmM R l o).getD [])) δ) δ) δ) δ) δ))
def xcL (R:LA->LA->Option (LA)) (l o:LA):=xga R l o none some
theorem xGj (R:LA->LA->Option (LA)) (l o:LA):Enc (fun (p:LA)=>((AV.list 1 p):AV)) (xcL R l o) (XF P0 (xmL R) Tryz.f88 (Tryz.f88.body.getD .skip) [AV.list 1 l,AV.list 2 o]):=by
 refine eV (xga R l o none (fun (p:LA)=>some ((AV.list 1 p):AV))) (by kernel_rfl) ?_;unfold xcL xga;repeat' first|exact eN|exact eS rfl|apply eB
def xGi (R:LA->LA->Option (LA)):LA->Option (Bool×AV):=ocOf (xS3 (xTk 1 xS6) (xS3 (xTk 2 xS6) xS5)) fun (l,(o,_))=>((xcL R l o).isSome,(AV.list 1 ((xcL R l o).getD [])))
theorem xGh (R:LA->LA->Option (LA)) (c:xrp R):OcOk P0 xS1 88 (xGi R):=xmw fun e g f=>by
 obtain ⟨l,⟨o,_⟩⟩:=e;obtain ⟨a,b⟩:=Prod.mk.inj f;refine xdT (p:=(xmL R).pin) (xf4 xSt (xSu P0 _) rfl (xCO R c) Tryz.func88 rfl (by kernel_rfl) (xBL R) ((xGj R _ _ _ (xcf (d:=[]) a)).trans ?_))
 exact congrArg some b
def xcD:Nat->LA->LA->Option (LA)
 | 0=>fun _ _=>none
 | fu_+1=>fun l o=>xcL (xcD fu_) l o
theorem xzg:∀ n,xrp (xcD n)
 | 0=>xmw fun _ _ h=>absurd (Prod.mk.inj h).1 Bool.false_ne_true
 | fu_+1=>fun a r h=>xGh (xcD fu_) (xzg fu_) a r h
def xIK:Env:=xCC.E.with 88 (xsV (xcD 1000))
theorem xJI:xSk P0 xS1 xIK:=xCC.ok.with (xzg _)
def xJH:EO:=EO.mk xIK xJI
def xzj {T:Type} (l:LA) (δ:T) (κ:LA->T):T:=br ((xcD 1000 l []).isSome) (κ ((xcD 1000 l []).getD [])) δ
def xih (l:LA):=xzj l none some
def xIL:EO:=xJH.f Tryz.func58 5 0 [] [] lk0 (u1 (uL 1)) (fun (l,_) _=>xzj l) (fun _ p=>AV.list 1 p) []
def xie (a:LA) (i:Int):=decide (i.toNat<a.length)&&xSi (Sh.list 3) (gC a i 0)
def xif (a:LA) (i:Int):=ixI a i
def xig (a:LA) (i:Int):=xrX ((a.getD (i64.wrap (i - 1)).toNat .top).cells.getD 0 .top).toList (gC a i 0).toList
def xfj {T:Type} (c:LA) (b:Nat) (i:Int) (a:LA) (δ:T) (κl:(Nat×Int×LA)->T):T:=br (xif c i) (br (xie c i) (br (rmB b a 1 24) (κl (b+1,i64.wrap (i+1),a++[AV.list 3 (gC c i 0).toList])) δ) δ) δ
def xgn {T:Type} (a:LA) (c:Nat) (i:Int) (b:LA) (δ:T) (κl:(Nat×Int×LA)->T) (κr:(Nat×LA)->T):T:=br (decide (i<a.length)) (br (i==0) (xfj a c i b δ κl) (br (decide (0<=i64.wrap (i - 1))&&decide (i64.wrap (i - 1)<(↑a.length:Int))) (br (decide ((i64.wrap (i - 1)).toNat<a.length)&&xSi (Sh.list 3) ((a.getD (i64.wrap (i - 1)).toNat .top).cells.getD 0 .top)) (br (xif a i) (br (xie a i) (br ((xig a i).isSome) (br (!(xig a i).getD false) (xfj a c i b δ κl) (κl (c,i64.wrap (i+1),b))) δ) δ) δ) δ) δ)) (κr (c,b))
def xcr (c:LA):StT (Nat×Int×LA) (Nat×LA):=fun (b,i,a)=>xgn c b i a none inL inR
def xt8:=xIL.l 38 0 [] [] Tryz.f124 0 lk0 [3,4,5] [4] [(4,1,57)] (q3 (qL 1) (xTg 0 0 0) qI) (q1 (qB 0 1 57 xS6)) (fun (c,b,i,_) (a,_)=>(xcr c,(b,i,a),fun p=>(.leaf (.exit 0) [AV.osl 0 0 0 p.1] [bF 0 1 57 p.2]))) (0,[]) fun (c,_,_,_) _ (b,i,a)=>(((c,b,i,()),(a,())),xgn c b i a none)
def xro (l:LA):=(Iter (xcr ((xih l).getD [])) (0,0,[])).getD (0,[])
def xrm (l:LA):=(xro l).snd
def xrn (l:LA):=(xro l).fst
def xsU {T:Type} (l:LA) (δ:T) (κ:LA->T):T:=br ((xih l).isSome) (br ((Iter (xcr ((xih l).getD [])) (0,0,[])).isSome) (br (decide (0+xrn l<=(xrm l).length)&&true) (κ (List.take (xrn l) (List.drop 0 (xrm l)))) δ) δ) δ
def xvZ (l:LA):=xsU l none some
def xIM:EO:=xIL.f Tryz.func124 38 0 [] [(4,xt8.lp)] (lk1 xt8.ok) (u1 (uL 1)) (fun (l,_) _=>xsU l) (fun _ p=>AV.list 1 p) []
def xph {T:Type} (l:LA) (b:Nat) (i:Int) (a:LA) (δ:T) (κl:(Nat×Int×LA)->T) (κr:(Nat×LA)->T):T:=br (decide (i<l.length)) (br (ixI l i) (br (ixT l i 3 [Sh.int .i64,Sh.int .i64] 1) (br (xdg (gC l i 1).toInt (gC l i 2).toInt) (br (ixI l i) (br (ixS l i (Sh.list 3) 0) (br (rmB b a 1 24) (κl (b+1,i64.wrap (i+1),a++[AV.list 3 (gC l i 0).toList])) δ) δ) δ) (κl (b,i64.wrap (i+1),a))) δ) δ) (κr (b,a))
def xfo (l:LA):StT (Nat×Int×LA) (Nat×LA):=fun (b,i,a)=>xph l b i a none inL inR
def xzt:=xIM.l 27 0 [] [] Tryz.f90 0 lk0 [0,3,4] [3] [(3,1,57)] (q3 (qL 3) (xTg 0 0 0) qI) (q1 (qB 0 1 57 xS6)) (fun (l,b,i,_) (a,_)=>(xfo l,(b,i,a),fun p=>(.leaf (.exit 0) [AV.osl 0 0 0 p.1] [bF 0 1 57 p.2]))) (0,[]) fun (l,_,_,_) _ (b,i,a)=>(((l,b,i,()),(a,())),xph l b i a none)
def xyf (l:LA):=(Iter (xfo l) (0,0,[])).getD (0,[])
def xyd (l:LA):=(xyf l).fst
def xye (l:LA):=(xyf l).snd
def xyc (l:LA):=xvZ (List.take (xyd l) (List.drop 0 (xye l)))
def xzu {T:Type} (l:LA) (δ:T) (κ:LA->T):T:=br ((Iter (xfo l) (0,0,[])).isSome) (br (decide (0+xyd l<=(xye l).length)&&true) (br ((xyc l).isSome) (κ ((xyc l).getD [])) δ) δ) δ
def xyL (l:LA):=xzu l none some
def xER:EO:=xIM.f Tryz.func90 27 0 [] [(3,xzt.lp)] (lk1 xzt.ok) (u1 (uL 3)) (fun (l,_) _=>xzu l) (fun _ p=>AV.list 1 p) []
def xn0:Env:=xER.E.fn 51 1 (lsOf []) (xSH [])
theorem xDF:xSk P0 (xS1.at 1) xn0:=xER.ok.fn
theorem xBK:LoOk P0 (xS1.at xn0.pin) xn0 (Tryz.f125.body.getD .skip):=xsM (by kernel_rfl)
def xe4 (k:Nat) (a:LA):=(List.take ((i64.wrap ((↑k:Int) - 1)).toNat - 0) (List.drop 0 a)).length
def xsk (k:Nat) (a:LA):=decide (0+(i64.wrap ((↑k:Int) - 1)).toNat<a.length)
def xn2 (k:Nat) (a:LA):=((a.getD (0+(i64.wrap ((↑k:Int) - 1)).toNat) .top).cells.getD 1 .top).toInt
def xsl (k:Nat):=decide (0<=i64.wrap ((↑k:Int) - 1))
def xn1 (k:Nat):=xsl k&&decide (i64.wrap ((↑k:Int) - 1)<(↑k:Int))
def xsj (k:Nat) (a:LA):=xsk k a&&xSi (Sh.int .i64) ((a.getD (0+(i64.wrap ((↑k:Int) - 1)).toNat) .top).cells.getD 1 .top)
def xmz {T:Type} (k:Nat) (a b:Int) (c:LA) (δ:T) (κ:Bool×(Nat×LA×LA)×(Nat×LA)->T):T:=br (rmB k c 1 16) (κ (false,(0,[],[]),(k+1,c++[AV.agg [AV.int .i64 a,AV.int .i64 b]]))) δ
def xpY {T:Type} (k:Nat) (b c:Int) (a:LA) (δ:T) (κ:Bool×(Nat×LA×LA)×(Nat×LA)->T):T:=br (decide ((↑k:Int)>0)) (br (xn1 k) (br (xsj k a) (br (decide (xn2 k a>=b)) (br (xsl k&&decide (i64.wrap ((↑k:Int) - 1)<=(↑k:Int))&&true) (br (decide (0+((i64.wrap ((↑k:Int) - 1)).toNat - 0)<=a.length)&&(decide (xe4 k a*16<=140737488355328)&&decide (xe4 k a<=4611686018427387904))) (br (xn1 k) (br (xsk k a&&xSi (Sh.int .i64) ((a.getD (0+(i64.wrap ((↑k:Int) - 1)).toNat) .top).cells.getD 0 .top)) (br (xn1 k) (br (xsj k a) (br (xe4 k a==xe4 k a&&(decide ((xe4 k a+1)*16<=140737488355328)&&decide (xe4 k a+1<=4611686018427387904))) (κ (true,(xe4 k a+1,a,List.take ((i64.wrap ((↑k:Int) - 1)).toNat - 0) (List.drop 0 a)++[AV.agg [AV.int .i64 ((a.getD (0+(i64.wrap ((↑k:Int) - 1)).toNat) .top).cells.getD 0 .top).toInt,AV.int .i64 (if c>xn2 k a then c else xn2 k a)]]),(0,[]))) δ) δ) δ) δ) δ) δ) δ) (xmz k b c a δ κ)) δ) δ) (xmz k b c a δ κ)
def xcC (k:Nat) (a b:Int) (c:LA):=xpY k a b c none some
theorem xHv (k:Nat) (a b:Int) (xs:LA):Enc (fun (p:Bool×(Nat×LA×LA)×(Nat×LA))=>((br p.1 ((AV.osl 1 0 0 p.2.1.1,([⟨0,2,35,p.2.1.2.1,false,true⟩,⟨0,2,35,p.2.1.2.2,false,true⟩]:List Box))) ((AV.osl 0 1 0 p.2.2.1,([⟨1,2,35,p.2.2.2,false,true⟩]:List Box)))):(AV×List Box))) (xcC k a b xs) (XFM P0 xn0 Tryz.f125 (Tryz.f125.body.getD .skip) [AV.osl (0:Id) 0 0 k,AV.agg [AV.int .i64 a,AV.int .i64 b]] [{ ver:=0,sz:=2,ty:=(35:TypeId),xs:=xs,frz:=false,pm:=true }]):=by
 refine eV (xpY k a b xs none (fun (p:Bool×(Nat×LA×LA)×(Nat×LA))=>some ((br p.1 ((AV.osl 1 0 0 p.2.1.1,([⟨0,2,35,p.2.1.2.1,false,true⟩,⟨0,2,35,p.2.1.2.2,false,true⟩]:List Box))) ((AV.osl 0 1 0 p.2.2.1,([⟨1,2,35,p.2.2.2,false,true⟩]:List Box)))):(AV×List Box)))) (by kernel_rfl) ?_;unfold xcC xpY xmz;repeat' first|exact eN|exact eS rfl|apply eB
def xHu:LA->List Box->Option (Bool×AV×List Box):=omOf (xS3 (sEq (xTg 0 0 0)) (xS3 (xTl (xS3 (sEq (pInt .i64)) (xS3 (sEq (pInt .i64)) xS5))) xS5)) (xS2 (xTj 0 2 (35:TypeId) false true xS6) xS4) fun (k,((a,(b,_)),_)) (c,_)=>((xcC k a b c).isSome,(AV.osl 1 0 0 (br ((xcC k a b c).getD (false,(0,[],[]),(0,[]))).1 ((xcC k a b c).getD (false,(0,[],[]),(0,[]))).2.1.1 ((xcC k a b c).getD (false,(0,[],[]),(0,[]))).2.2.1),
 ([⟨2,2,35,[],false,true⟩,⟨0,2,35,br ((xcC k a b c).getD (false,(0,[],[]),(0,[]))).1 ((xcC k a b c).getD (false,(0,[],[]),(0,[]))).2.1.2.2 ((xcC k a b c).getD (false,(0,[],[]),(0,[]))).2.2.2,false,true⟩]:List Box)))
theorem xHt:OmOk P0 xS1 125 (xHu):=xqV fun e f j h g=>by
 obtain ⟨k,⟨⟨c,⟨i,_⟩⟩,_⟩⟩:=e;obtain ⟨l,_⟩:=f;obtain ⟨b,a⟩:=Prod.mk.inj g;have hx:=xHv _ _ _ _ _ (xcf (d:=(false,(0,[],[]),(0,[]))) b);revert hx a;generalize ((xcC _ _ _ _).getD (false,(0,[],[]),(0,[])))=p;intro a hx;obtain ⟨rfl,rfl⟩:=Prod.mk.inj a;obtain ⟨t,⟨m,n,o⟩,q,r⟩:=p;have hg:GoodM P0 xS1 125 _ _ _ _:=xi0 (p:=xn0.pin) (xkc xSt (xSu P0 _) rfl xDF rfl Tryz.func125 rfl (by kernel_rfl) xBK hx)
 cases t
 . exact GoodM.move0 rfl (by decide) hg
 . exact GoodM.drop0 rfl (by decide) hg
def xNZ:EO:=xER.wM xHt
def xlZ {T:Type} (l c:LA) (b:Nat) (i:Int) (a:LA) (δ:T) (κl:(Nat×Int×LA)->T) (κr:(Nat×LA)->T):T:=br (decide (i<l.length)) (br (ixI l i) (br (ixS l i (Sh.list 3) 0) (br ((xbs (gC l i 0).toList c).isSome) (br ((xbs (gC l i 0).toList c).getD 0==0) (br (ixI l i) (br (ixT l i 3 [Sh.int .i64,Sh.int .i64] 1) (br (rmB b a 1 24) (κl (b+1,i64.wrap (i+1),a++[AV.agg [AV.int .i64 (gC l i 1).toInt,AV.int .i64 (gC l i 2).toInt,AV.int .i64 1]])) δ) δ) δ) (κl (b,i64.wrap (i+1),a))) δ) δ) δ) (κr (b,a))
def xeg (l b:LA):StT (Nat×Int×LA) (Nat×LA):=fun (c,i,a)=>xlZ l b c i a none inL inR
def xwH:=xNZ.l 32 0 [] [] Tryz.f91 0 lk0 [0,1,5,6] [5] [(5,3,89)] (q4 (qL 3) (qL 3) (xTg 0 0 0) qI) (q1 (qB 0 3 89 xS6)) (fun (l,b,c,i,_) (a,_)=>(xeg l b,(c,i,a),fun p=>(.leaf (.exit 0) [AV.osl 0 0 0 p.1] [bF 0 3 89 p.2]))) (0,[]) fun (l,b,_,_,_) _ (c,i,a)=>(((l,b,c,i,()),(a,())),xlZ l b c i a none)
def xuo (l a:LA):=(Iter (xeg l a) (0,0,[])).getD (0,[])
def xum (l a:LA):=(xuo l a).fst
def xun (l a:LA):=(xuo l a).snd
def xul (l a:LA):=xDG (List.take (xum l a) (List.drop 0 (xun l a)))
def xv2 {T:Type} (l a:LA) (δ:T) (κ:LA->T):T:=br ((Iter (xeg l a) (0,0,[])).isSome) (br (decide (0+xum l a<=(xun l a).length)&&true) (br ((xul l a).isSome) (κ ((xul l a).getD [])) δ) δ) δ
def xuk (l a:LA):=xv2 l a none some
def xDQ:EO:=xNZ.f Tryz.func91 32 0 [] [(3,xwH.lp)] (lk1 xwH.ok) (u2 (uL 3) (uL 3)) (fun (l,a,_) _=>xv2 l a) (fun _ p=>AV.list 2 p) []
def xh1 {T:Type} (a:LA) (c:Nat) (i k:Int) (b:LA) (δ:T) (κl:(Int×LA)->T) (κr:(Int×LA)->T):T:=br (decide (k<a.length)) (br (ixI a k) (br (ixS a k (Sh.list 3) 0) (br (ixI a i) (br (ixS a i (Sh.list 3) 0) (br ((xbs (gC a k 0).toList (gC a i 0).toList).isSome) (br ((xbs (gC a k 0).toList (gC a i 0).toList).getD 0==0) (κl (i64.wrap (k+1),b)) (κr (k,b))) δ) δ) δ) δ) δ) (κr (k,b))
def xcm (c:LA) (b:Nat) (i:Int):StT (Int×LA) (Int×LA):=fun (k,a)=>xh1 c b i k a none inL inR
def xhe:=xDQ.l 66 0 [] [] Tryz.f59 1 lk0 [3,4,5,6] [3,4,5,6] [(4,2,107)] (q4 (qL 3) (xTg 0 0 0) qI qI) (q1 (qB 0 2 107 xS6)) (fun (c,a,i,k,_) (b,_)=>(xcm c a i,(k,b),fun p=>(.leaf (.exit 2) [AV.list 3 c,AV.osl 0 0 0 a,AV.int .i64 i,AV.int .i64 p.1] [bF 0 2 107 p.2]))) (0,[]) fun (c,a,i,_,_) _ (k,b)=>(((c,a,i,k,()),(b,())),xh1 c a i k b none)
def xh2 {T:Type} (d:LA) (i k:Int) (a:LA) (c:Nat) (n:Int) (b:LA) (δ:T) (κl:(Nat×Int×LA)->T) (κr:(Nat×LA)->T):T:=br (decide (n<a.length)) (br (ixI a n) (br (ixS a n (Sh.list 3) 0) (br (decide (0<=k)&&decide (k<=d.length)&&(decide (0<=i)&&decide (i<=(↑k.toNat:Int)))) (br (ixI a n) (br (ixS a n (Sh.list 3) 0) (br ((xuk (List.take (k.toNat - i.toNat) (List.drop i.toNat d)) (gC a n 0).toList).isSome) (br (rmB c b 1 48) (κl (c+1,i64.wrap (n+1),b++[AV.agg [AV.list 3 (gC a n 0).toList,AV.list 2 ((xuk (List.take (k.toNat - i.toNat) (List.drop i.toNat d)) (gC a n 0).toList).getD [])]])) δ) δ) δ) δ) δ) δ) δ) (κr (c,b))
def xej (d:LA) (i k:Int) (c:LA):StT (Nat×Int×LA) (Nat×LA):=fun (b,n,a)=>xh2 d i k c b n a none inL inR
def xkA:=xDQ.l 66 0 [] [(6,xhe.lp)] Tryz.f59 2 lk0 [3,4,5,6,7,8] [3,4,6] [(4,2,107)] (q6 (qL 3) (xTg 0 0 0) qI qI (qL 1) qI) (q1 (qB 0 2 107 xS6)) (fun (d,b,i,k,c,n,_) (a,_)=>(xej d i k c,(b,n,a),fun p=>(.leaf (.exit 4) [AV.list 3 d,AV.osl 0 0 0 p.1,AV.int .i64 k] [bF 0 2 107 p.2]))) (0,[]) fun (d,_,i,k,c,_,_) _ (b,n,a)=>(((d,b,i,k,c,n,()),(a,())),xh2 d i k c b n a none)
def xcR (c:LA) (b:Nat) (i:Int) (a:LA):=((Iter (xcm c b i) (i,a)).getD (0,[])).fst
def xqf (c:LA) (a:Nat) (i:Int) (b:LA):=Iter (xej c i (xcR c a i b) ((xyL (List.take ((xcR c a i b).toNat - i.toNat) (List.drop i.toNat c))).getD [])) (a,0,((Iter (xcm c a i) (i,b)).getD (0,[])).snd)
def xqe (c:LA) (b:Nat) (i:Int) (a:LA):=(xqf c b i a).getD (0,[])
def xl1 {T:Type} (c:LA) (b:Nat) (i:Int) (a:LA) (δ:T) (κl:(Nat×Int×LA)->T) (κr:(Nat×LA)->T):T:=br (decide (i<c.length)) (br ((Iter (xcm c b i) (i,a)).isSome) (br (decide (0<=xcR c b i a)&&decide (xcR c b i a<=c.length)&&(decide (0<=i)&&decide (i<=(↑(xcR c b i a).toNat:Int)))) (br ((xyL (List.take ((xcR c b i a).toNat - i.toNat) (List.drop i.toNat c))).isSome) (br ((xqf c b i a).isSome) (κl ((xqe c b i a).fst,xcR c b i a,(xqe c b i a).snd)) δ) δ) δ) δ) (κr (b,a))
def xei (c:LA):StT (Nat×Int×LA) (Nat×LA):=fun (b,i,a)=>xl1 c b i a none inL inR
def xwL:=xDQ.l 66 0 [] [(6,xhe.lp),(10,xkA.lp)] Tryz.f59 0 (lks (lkC xhe.ok (lkC xkA.ok lkN))) [3,4,5] [4] [(4,2,107)] (q3 (qL 3) (xTg 0 0 0) qI) (q1 (qB 0 2 107 xS6)) (fun (c,b,i,_) (a,_)=>(xei c,(b,i,a),fun p=>(.leaf (.exit 0) [AV.osl 0 0 0 p.1] [bF 0 2 107 p.2]))) (0,[]) fun (c,_,_,_) _ (b,i,a)=>(((c,b,i,()),(a,())),xl1 c b i a none)
def xuC (l:LA):=Iter (xei ((xcn 100 l).getD [])) (0,0,[])
def xuB (l:LA):=(xuC l).getD (0,[])
def xuz (l:LA):=(xuB l).fst
def xuA (l:LA):=(xuB l).snd
def xv6 {T:Type} (l:LA) (δ:T) (κ:LA->T):T:=br ((xcn 100 l).isSome) (br ((xuC l).isSome) (br (decide (0+xuz l<=(xuA l).length)&&true) (κ (List.take (xuz l) (List.drop 0 (xuA l)))) δ) δ) δ
def xqd (l:LA):=xv6 l none some
def xKV:EO:=xDQ.f Tryz.func59 66 0 [] [(6,xhe.lp),(10,xkA.lp),(4,xwL.lp)] (lks (lkC xwL.ok (lkC xhe.ok (lkC xkA.ok lkN)))) (u1 (uL 3)) (fun (l,_) _=>xv6 l) (fun _ p=>AV.list 2 p) []
def xeR (l:LA) (n i:Int):=decide ((gC l i 1).toInt>=n)
def xck (l:LA) (i:Int):=ixI l i
def xea (l:LA) (b:Nat) (i:Int) (a:LA):=(xcC b (gC l i 0).toInt 1099511627776 a).getD (false,(0,[],[]),0,[])
def xeb (l:LA) (b:Nat) (i:Int) (a:LA):=xcC b (gC l i 0).toInt ((l.getD (i64.wrap (i+1)).toNat .top).cells.getD 0 .top).toInt a
def xec (l:LA) (i:Int):=decide (i64.wrap (i+1)<(↑l.length:Int))
def xeY (l:LA) (b:Nat) (i:Int) (a:LA):=(xeb l b i a).getD (false,(0,[],[]),0,[])
def xeZ (l:LA) (b:Nat) (i:Int) (a:LA):=(xea l b i a).snd
def xex (l:LA) (b:Nat) (i:Int) (a:LA):=(xea l b i a).fst
def xeU (l:LA) (b:Nat) (i:Int) (a:LA):=(xeY l b i a).fst
def xeV (l:LA) (b:Nat) (i:Int) (a:LA):=(xeY l b i a).snd
def xeW (l:LA) (b:Nat) (i:Int) (a:LA):=(xeZ l b i a).fst
def xeX (l:LA) (b:Nat) (i:Int) (a:LA):=(xeZ l b i a).snd
def xeS (l:LA) (b:Nat) (i:Int) (a:LA):=(xeV l b i a).fst
def xeT (l:LA) (b:Nat) (i:Int) (a:LA):=(xeV l b i a).snd
def xdW {T:Type} (l:LA) (n:Int) (b:Nat) (i:Int) (a:LA) (δ:T) (κl:(Nat×Int×LA)->T) (κr:(Nat×LA)->T):T:=br (decide (i<l.length)) (br (xec l i) (br (decide (0<=i64.wrap (i+1))&&xec l i) (br (decide ((i64.wrap (i+1)).toNat<l.length)&&xSi (Sh.int .i64) ((l.getD (i64.wrap (i+1)).toNat .top).cells.getD 0 .top)) (br (xck l i) (br (ixS l i (Sh.int .i64) 1) (br (xeR l n i) (br (xck l i) (br (ixS l i (Sh.int .i64) 0) (br ((xeb l b i a).isSome) (κl (br (xeU l b i a) (xeS l b i a).fst (xeT l b i a).fst,i64.wrap (i+1),br (xeU l b i a) (xeS l b i a).snd.snd (xeT l b i a).snd)) δ) δ) δ) (κl (b,i64.wrap (i+1),a))) δ) δ) δ) δ) (br (xck l i) (br (ixS l i (Sh.int .i64) 1) (br (xeR l n i) (br (xck l i) (br (ixS l i (Sh.int .i64) 0) (br ((xcC b (gC l i 0).toInt 1099511627776 a).isSome) (κl (br (xex l b i a) (xeW l b i a).fst (xeX l b i a).fst,i64.wrap (i+1),br (xex l b i a) (xeW l b i a).snd.snd (xeX l b i a).snd)) δ) δ) δ) (κl (b,i64.wrap (i+1),a))) δ) δ)) (κr (b,a))
def xbn (l:LA) (n:Int):StT (Nat×Int×LA) (Nat×LA):=fun (b,i,a)=>xdW l n b i a none inL inR
def xvo:=xKV.l 42 0 [] [] Tryz.f92 0 lk0 [0,1,5,6] [5] [(5,2,35)] (q4 (qL 2) qI (xTg 0 0 0) qI) (q1 (qB 0 2 35 xS6)) (fun (l,n,b,i,_) (a,_)=>(xbn l n,(b,i,a),fun p=>(.leaf (.exit 0) [AV.osl 0 0 0 p.1] [bF 0 2 35 p.2]))) (0,[]) fun (l,n,_,_,_) _ (b,i,a)=>(((l,n,b,i,()),(a,())),xdW l n b i a none)
def xsT (l:LA) (n:Int):=(Iter (xbn l n) (0,0,[])).getD (0,[])
def xsR (l:LA) (n:Int):=(xsT l n).snd
def xsS (l:LA) (n:Int):=(xsT l n).fst
def xt1 {T:Type} (l:LA) (n:Int) (δ:T) (κ:LA->T):T:=br ((Iter (xbn l n) (0,0,[])).isSome) (br (decide (0+xsS l n<=(xsR l n).length)&&true) (κ (List.take (xsS l n) (List.drop 0 (xsR l n)))) δ) δ
def xf9 (l:LA) (n:Int):=xt1 l n none some
def xKW:EO:=xKV.f Tryz.func92 42 0 [] [(3,xvo.lp)] (lk1 xvo.ok) (u2 (uL 2) uI) (fun (l,n,_) _=>xt1 l n) (fun _ p=>AV.list 2 p) []
def xlT (l:LA) (i:Int):=decide (i.toNat<l.length)&&((l.getD i.toNat .top).cells.length==2&&xSp [Sh.int .i64,Sh.int .i64] (l.getD i.toNat .top).cells 0)
def xjg {T:Type} (l:LA) (b:Nat) (i c d:Int) (a:LA) (δ:T) (κl:(Nat×Int×Int×Int×LA)->T) (κr:(Nat×Int×Int×Int×LA)->T):T:=br (decide (i<l.length)) (br (ixI l i) (br (xlT l i) (br (decide (xsi (gC l i 0).toInt (gC l i 1).toInt c d<=0)) (br (ixI l i) (br (xlT l i) (br (rmB b a 1 16) (κl (b+1,i64.wrap (i+1),c,d,a++[AV.agg [AV.int .i64 (gC l i 0).toInt,AV.int .i64 (gC l i 1).toInt]])) δ) δ) δ) (κr (b,i,c,d,a))) δ) δ) (κr (b,i,c,d,a))
def xdj (l:LA):StT (Nat×Int×Int×Int×LA) (Nat×Int×Int×Int×LA):=fun (b,i,c,d,a)=>xjg l b i c d a none inL inR
def xyu:=xKW.l 38 0 [] [] Tryz.f93 0 lk0 [0,3,5,6] [0,3,5,6] [(5,2,35)] (q4 (qL 2) (xTh 0 0 0 0) (xTg 1 0 0) qI) (q2 (qB 0 2 35 (q1 (xTi (q2 qI qI)))) (qB 0 2 35 xS6)) (fun (l,_,b,i,_) (((c,d,_),_),a,_)=>(xdj l,(b,i,c,d,a),fun p=>(.leaf (.exit 0) [AV.list 2 l,AV.own 0 0 0 0,AV.osl 1 0 0 p.1,AV.int .i64 p.2.1] [bF 0 2 35 [AV.agg [AV.int .i64 p.2.2.1,AV.int .i64 p.2.2.2.1]],bF 0 2 35 p.2.2.2.2]))) (0,0,0,0,[]) fun (l,_,_,_,_) _ (b,i,c,d,a)=>(((l,(),b,i,()),(((c,d,()),()),a,())),xjg l b i c d a none)
def xt6 (l:LA) (a b:Int):=Iter (xdj l) (0,0,a,b,[])
def xt5 (l:LA) (a b:Int):=(xt6 l a b).getD (0,0,0,0,[])
def xvY (l:LA) (a b:Int):=(xt5 l a b).fst
def xt4 (l:LA) (a b:Int):=(xt5 l a b).snd
def xmJ (l:LA) (a b:Int):=xvY l a b+1
def xmK (l:LA) (a b:Int):=(xt4 l a b).fst
def xvX (l:LA) (a b:Int):=(xt4 l a b).snd
def xvU (l:LA) (a b:Int):=List.take (l.length - (xmK l a b).toNat) (List.drop (xmK l a b).toNat l)
def xvW (l:LA) (a b:Int):=(xvX l a b).snd
def xmI (l:LA) (a b:Int):=xmJ l a b+(xvU l a b).length
def xvV (l:LA) (a b:Int):=(xvW l a b).snd
def xvT (l:LA) (a b:Int):=xvV l a b++[AV.agg [AV.int .i64 (xvX l a b).fst,AV.int .i64 (xvW l a b).fst]]
def xvS (l:LA) (a b:Int):=xvT l a b++xvU l a b
def xw4 {T:Type} (l:LA) (a b:Int) (δ:T) (κ:LA->T):T:=br ((xt6 l a b).isSome) (br (xvY l a b==(xvV l a b).length&&(decide (xmJ l a b*16<=140737488355328)&&decide (xmJ l a b<=4611686018427387904))) (br (decide (0<=xmK l a b)&&decide (xmK l a b<=l.length)) (br (xmJ l a b==(xvT l a b).length&&(decide (xmI l a b*16<=140737488355328)&&decide (xmI l a b<=4611686018427387904))) (br (decide (0+xmI l a b<=(xvS l a b).length)&&true) (κ (List.take (xmI l a b) (List.drop 0 (xvS l a b)))) δ) δ) δ) δ) δ
def xwn (l:LA) (a b:Int):=xw4 l a b none some
def xGu:EO:=xKW.f Tryz.func93 38 0 [] [(3,xyu.lp)] (lk1 xyu.ok) (u2 (uL 2) (xTl (u2 uI uI))) (fun (l,(a,b,_),_) _=>xw4 l a b) (fun _ p=>AV.list 2 p) []
def xlS {T:Type} (l:LA) (n:Int) (a b:LA) (i:Int) (δ:T) (κl:(LA×Int)->T) (κr:(LA)->T):T:=br (decide (i<a.length)) (br (ixI a i) (br (ixT a i 2 [Sh.int .i64,Sh.int .i64] 0) (br ((xwn b (gC a i 0).toInt (gC a i 1).toInt).isSome) (κl ((xwn b (gC a i 0).toInt (gC a i 1).toInt).getD [],i64.wrap (i+1))) δ) δ) δ) (κr (b))
def xc3 (l:LA) (n:Int) (b:LA):StT (LA×Int) (LA):=fun (a,i)=>xlS l n b a i none inL inR
def xkn:=xGu.l 31 0 [] [] Tryz.f61 1 lk0 [0,3,4,5,6] [0,3,4] [(3,2,1073741824)] (q5 (qL 2) (qL 2) qI (qL 2) qI) xS4 (fun (l,a,n,b,i,_) _=>(xc3 l n b,(a,i),fun p=>(.leaf (.exit 2) [AV.list 2 l,AV.list 2 p,AV.int .i64 n] []))) [] fun (l,_,n,b,_,_) _ (a,i)=>(((l,a,n,b,i,()),()),xlS l n b a i none)
def xlR {T:Type} (l a:LA) (n:Int) (δ:T) (κl:(LA×Int)->T) (κr:(Bool×(LA×LA)×(LA))->T):T:=br (decide (n<=1048576)) (br ((xf9 l n).isSome) (br ((↑((xf9 l n).getD []).length:Int)==0) (κr (true,(a,a),[])) (br ((Iter (xc3 l n ((xf9 l n).getD [])) (a,0)).isSome) (κl ((Iter (xc3 l n ((xf9 l n).getD [])) (a,0)).getD [],i64.wrap (n+1))) δ)) δ) (κr (false,([],[]),(a)))
def xc2 (l:LA):StT (LA×Int) (Bool×(LA×LA)×(LA)):=fun (a,n)=>xlR l a n none inL inR
def xww:=xGu.l 31 0 [] [(9,xkn.lp)] Tryz.f61 0 (lk1 xkn.ok) [0,3,4] [2,3] [(3,2,1073741824)] (q3 (qL 2) (qL 2) qI) xS4 (fun (l,a,n,_) _=>(xc2 l,(a,n),fun p=>(.node p.1 (.leaf .ret [AV.list 2 p.2.1.1,AV.list 2 p.2.1.2] []) (.leaf (.exit 0) [.top,AV.list 2 p.2.2] [])))) (false,([],[]),[]) fun (l,_,_,_) _ (a,n)=>(((l,a,n,()),()),xlR l a n none)
def xt3 (l:LA):=(Iter (xc2 l) ([],1)).getD (false,([],[]),[])
def xt2 (l:LA):=(xt3 l).snd
def xvR {T:Type} (l:LA) (δ:T) (κ:LA->T):T:=br ((Iter (xc2 l) ([],1)).isSome) (br ((xt3 l).fst) (κ ((xt2 l).fst.fst)) (κ ((xt2 l).snd))) δ
def xfX (l:LA):=xvR l none some
def xKX:EO:=xGu.f Tryz.func61 31 0 [] [(9,xkn.lp),(3,xww.lp)] (lks (lkC xww.ok (lkC xkn.ok lkN))) (u1 (uL 2)) (fun (l,_) _=>xvR l) (fun _ p=>AV.list 2 p) []
def xlx {T:Type} (d c:LA) (b:Nat) (i:Int) (a:LA) (δ:T) (κl:(Nat×Int×LA)->T) (κr:(Nat×LA)->T):T:=br (decide (i<c.length)) (br (ixI c i) (br (ixT c i 2 [Sh.int .i64,Sh.int .i64] 0) (br (rmB b a 1 40) (κl (b+1,i64.wrap (i+1),a++[AV.agg [AV.list 3 d,AV.int .i64 (gC c i 0).toInt,AV.int .i64 (gC c i 1).toInt]])) δ) δ) δ) (κr (b,a))
def xc4 (c d:LA):StT (Nat×Int×LA) (Nat×LA):=fun (b,i,a)=>xlx c d b i a none inL inR
def xwI:=xKX.l 23 0 [] [] Tryz.f60 0 lk0 [0,1,5,6] [5] [(5,3,59)] (q4 (qL 3) (qL 2) (xTg 0 0 0) qI) (q1 (qB 0 3 59 xS6)) (fun (c,d,b,i,_) (a,_)=>(xc4 c d,(b,i,a),fun p=>(.leaf (.exit 0) [AV.osl 0 0 0 p.1] [bF 0 3 59 p.2]))) (0,[]) fun (c,d,_,_,_) _ (b,i,a)=>(((c,d,b,i,()),(a,())),xlx c d b i a none)
def xur (a b:LA):=(Iter (xc4 a b) (0,0,[])).getD (0,[])
def xup (a b:LA):=(xur a b).snd
def xuq (a b:LA):=(xur a b).fst
def xv3 {T:Type} (a b:LA) (δ:T) (κ:LA->T):T:=br ((Iter (xc4 a b) (0,0,[])).isSome) (br (decide (0+xuq a b<=(xup a b).length)&&true) (κ (List.take (xuq a b) (List.drop 0 (xup a b)))) δ) δ
def xqc (a b:LA):=xv3 a b none some
def xKY:EO:=xKX.f Tryz.func60 23 0 [] [(3,xwI.lp)] (lk1 xwI.ok) (u2 (uL 3) (uL 2)) (fun (a,b,_) _=>xv3 a b) (fun _ p=>AV.list 3 p) []
def xpg (g:LA) (a:Nat) (i:Int):=a+((xqc (gC g i 0).toList ((xfX (gC g i 1).toList).getD [])).getD []).length
def xq9 {T:Type} (g:LA) (a:Nat) (i:Int) (b:LA) (δ:T) (κl:(Nat×Int×LA)->T) (κr:(Nat×LA)->T):T:=br (decide (i<g.length)) (br (ixI g i) (br (ixS g i (Sh.list 3) 0) (br (ixI g i) (br (ixS g i (Sh.list 2) 1) (br ((xfX (gC g i 1).toList).isSome) (br ((xqc (gC g i 0).toList ((xfX (gC g i 1).toList).getD [])).isSome) (br (a==b.length&&(decide (xpg g a i*40<=140737488355328)&&decide (xpg g a i<=4611686018427387904))) (κl (xpg g a i,i64.wrap (i+1),b++(xqc (gC g i 0).toList ((xfX (gC g i 1).toList).getD [])).getD [])) δ) δ) δ) δ) δ) δ) δ) (κr (a,b))
def xf6 (g:LA):StT (Nat×Int×LA) (Nat×LA):=fun (b,i,a)=>xq9 g b i a none inL inR
def xzY:=xKY.l 29 0 [] [] Tryz.f29 0 lk0 [3,4,5] [4] [(4,3,59)] (q3 (qL 2) (xTg 0 0 0) qI) (q1 (qB 0 3 59 xS6)) (fun (g,b,i,_) (a,_)=>(xf6 g,(b,i,a),fun p=>(.leaf (.exit 0) [AV.osl 0 0 0 p.1] [bF 0 3 59 p.2]))) (0,[]) fun (g,_,_,_) _ (b,i,a)=>(((g,b,i,()),(a,())),xq9 g b i a none)
def xzs (l:LA):=(Iter (xf6 ((xqd l).getD [])) (0,0,[])).getD (0,[])
def xzq (l:LA):=(xzs l).fst
def xzr (l:LA):=(xzs l).snd
def xAk {T:Type} (l:LA) (δ:T) (κ:LA->T):T:=br ((xqd l).isSome) (br ((Iter (xf6 ((xqd l).getD [])) (0,0,[])).isSome) (br (decide (0+xzq l<=(xzr l).length)&&true) (κ (List.take (xzq l) (List.drop 0 (xzr l)))) δ) δ) δ
def xCl (l:LA):=xAk l none some
def xKZ:EO:=xKY.f Tryz.func29 29 0 [] [(4,xzY.lp)] (lk1 xzY.ok) (u1 (uL 3)) (fun (l,_) _=>xAk l) (fun _ p=>AV.list 3 p) []
def xfn (l:LA) (i:Int):=ixI l i
def xl0 {T:Type} (l a:LA) (i:Int) (δ:T) (κl:(LA×Int)->T) (κr:(LA)->T):T:=br (decide (i<l.length)) (br (xfn l i) (br (ixT l i 3 [Sh.int .i64,Sh.int .i64] 1) (br (xdg (gC l i 1).toInt (gC l i 2).toInt) (br (xfn l i) (br (ixS l i (Sh.int .i64) 1) (br ((xcG a (gC l i 1).toInt).isSome) (br (xfn l i) (br (ixS l i (Sh.int .i64) 2) (br (decide ((gC l i 2).toInt<1099511627776)) (br (xfn l i) (br (ixS l i (Sh.int .i64) 2) (br ((xcG ((xcG a (gC l i 1).toInt).getD []) (gC l i 2).toInt).isSome) (κl ((xcG ((xcG a (gC l i 1).toInt).getD []) (gC l i 2).toInt).getD [],i64.wrap (i+1))) δ) δ) δ) (κl ((xcG a (gC l i 1).toInt).getD [],i64.wrap (i+1)))) δ) δ) δ) δ) δ) (κl (a,i64.wrap (i+1)))) δ) δ) (κr (a))
def xeh (l:LA):StT (LA×Int) (LA):=fun (a,i)=>xl0 l a i none inL inR
def xwK:=xKZ.l 42 0 [] [] Tryz.f116 0 lk0 [0,3,4] [3] [(3,1,1073741824)] (q3 (qL 3) (qL 1) qI) xS4 (fun (l,a,i,_) _=>(xeh l,(a,i),fun p=>(.leaf (.exit 0) [AV.list 1 p] []))) [] fun (l,_,_,_) _ (a,i)=>(((l,a,i,()),()),xl0 l a i none)
def xv5 {T:Type} (l:LA) (δ:T) (κ:LA->T):T:=br ((Iter (xeh l) ([AV.int .i64 0],0)).isSome) (κ ((Iter (xeh l) ([AV.int .i64 0],0)).getD [])) δ
def xuy (l:LA):=xv5 l none some
def xKx:EO:=xKZ.f Tryz.func116 42 0 [] [(3,xwK.lp)] (lk1 xwK.ok) (u1 (uL 3)) (fun (l,_) _=>xv5 l) (fun _ p=>AV.list 1 p) []
def xsq {T:Type} (l:LA) (t:Int) (b:Nat) (i:Int) (a:LA) (δ:T) (κl:(Nat×Int×LA)->T) (κr:(Nat×LA)->T):T:=br (decide (i<l.length)) (br (ixI l i) (br (ixT l i 3 [Sh.int .i64,Sh.int .i64] 1) (br (xmy (gC l i 1).toInt (gC l i 2).toInt t) (br (ixI l i) (br (ixS l i (Sh.list 3) 0) (br (rmB b a 1 24) (κl (b+1,i64.wrap (i+1),a++[AV.list 3 (gC l i 0).toList])) δ) δ) δ) (κl (b,i64.wrap (i+1),a))) δ) δ) (κr (b,a))
def xgU (l:LA) (t:Int):StT (Nat×Int×LA) (Nat×LA):=fun (b,i,a)=>xsq l t b i a none inL inR
def xAQ:=xKx.l 30 0 [] [] Tryz.f53 0 lk0 [0,1,5,6] [5] [(5,1,57)] (q4 (qL 3) qI (xTg 0 0 0) qI) (q1 (qB 0 1 57 xS6)) (fun (l,t,b,i,_) (a,_)=>(xgU l t,(b,i,a),fun p=>(.leaf (.exit 0) [AV.osl 0 0 0 p.1] [bF 0 1 57 p.2]))) (0,[]) fun (l,t,_,_,_) _ (b,i,a)=>(((l,t,b,i,()),(a,())),xsq l t b i a none)
def xAj (l:LA) (t:Int):=(Iter (xgU l t) (0,0,[])).getD (0,[])
def xAh (l:LA) (t:Int):=(xAj l t).snd
def xAi (l:LA) (t:Int):=(xAj l t).fst
def xAg (l:LA) (t:Int):=xih (List.take (xAi l t) (List.drop 0 (xAh l t)))
def xBd {T:Type} (l:LA) (t:Int) (δ:T) (κ:LA->T):T:=br ((Iter (xgU l t) (0,0,[])).isSome) (br (decide (0+xAi l t<=(xAh l t).length)&&true) (br ((xAg l t).isSome) (κ ((xAg l t).getD [])) δ) δ) δ
def xqb (l:LA) (t:Int):=xBd l t none some
def xK0:EO:=xKx.f Tryz.func53 30 0 [] [(3,xAQ.lp)] (lk1 xAQ.ok) (u2 (uL 3) uI) (fun (l,t,_) _=>xBd l t) (fun _ p=>AV.list 1 p) []
def xkz (a:LA) (i:Int):=decide (i64.wrap (i+1)<(↑a.length:Int))
def xh0 {T:Type} (c:LA) (b:Nat) (i:Int) (a:LA) (δ:T) (κl:(Nat×Int×LA)->T) (κr:(Nat×LA)->T):T:=br (decide (i<c.length)) (br (xkz c i) (br (decide (0<=i64.wrap (i+1))&&xkz c i) (br (decide ((i64.wrap (i+1)).toNat<c.length)&&xSi (Sh.int .i64) ((c.getD (i64.wrap (i+1)).toNat .top).cells.getD 0 .top)) (br (ixI c i) (br (ixS c i (Sh.int .i64) 0) (br (rmB b a 1 16) (κl (b+1,i64.wrap (i+1),a++[AV.agg [AV.int .i64 (gC c i 0).toInt,AV.int .i64 ((c.getD (i64.wrap (i+1)).toNat .top).cells.getD 0 .top).toInt]])) δ) δ) δ) δ) δ) (br (ixI c i) (br (ixS c i (Sh.int .i64) 0) (br (rmB b a 1 16) (κl (b+1,i64.wrap (i+1),a++[AV.agg [AV.int .i64 (gC c i 0).toInt,AV.int .i64 1099511627776]])) δ) δ) δ)) (κr (b,a))
def xc5 (c:LA):StT (Nat×Int×LA) (Nat×LA):=fun (b,i,a)=>xh0 c b i a none inL inR
def xwJ:=xK0.l 44 0 [] [] Tryz.f77 0 lk0 [6,7,8] [7] [(7,2,35)] (q3 (qL 1) (xTg 0 0 0) qI) (q1 (qB 0 2 35 xS6)) (fun (c,b,i,_) (a,_)=>(xc5 c,(b,i,a),fun p=>(.leaf (.exit 0) [AV.osl 0 0 0 p.1] [bF 0 2 35 p.2]))) (0,[]) fun (c,_,_,_) _ (b,i,a)=>(((c,b,i,()),(a,())),xh0 c b i a none)
def xuw (a b:LA):=Iter (xc5 ((xuy (List.take (a.length+b.length) (List.drop 0 (a++b)))).getD [])) (0,0,[])
def xuv (a b:LA):=(xuw a b).getD (0,[])
def xut (a b:LA):=(xuv a b).snd
def xuu (a b:LA):=(xuv a b).fst
def xv4 {T:Type} (a b:LA) (δ:T) (κ:LA->T):T:=br (decide (a.length*40<=140737488355328)&&decide (a.length<=4611686018427387904)) (br (a.length==a.length&&(decide ((a.length+b.length)*40<=140737488355328)&&decide (a.length+b.length<=4611686018427387904))) (br (decide (0+(a.length+b.length)<=(a++b).length)&&true) (br ((xuy (List.take (a.length+b.length) (List.drop 0 (a++b)))).isSome) (br ((xuw a b).isSome) (br (decide (0+xuu a b<=(xut a b).length)&&true) (κ (List.take (xuu a b) (List.drop 0 (xut a b)))) δ) δ) δ) δ) δ) δ
def xus (a b:LA):=xv4 a b none some
def xK1:EO:=xK0.f Tryz.func77 44 0 [] [(7,xwJ.lp)] (lk1 xwJ.ok) (u2 (uL 3) (uL 3)) (fun (a,b,_) _=>xv4 a b) (fun _ p=>AV.list 2 p) []
def xlY {T:Type} (b:LA) (c:Nat) (i d e:Int) (a:LA) (δ:T) (κl:(Nat×Int×Int×Int×LA)->T) (κr:(Nat×LA)->T):T:=br (decide (i<b.length)) (br (ixI b i) (br (ixS b i (Sh.list 3) 0) (br (rmB c a 1 40) (κl (c+1,i64.wrap (i+1),d,e,a++[AV.agg [AV.list 3 (gC b i 0).toList,AV.int .i64 d,AV.int .i64 e]])) δ) δ) δ) (κr (c,a))
def xfZ (c:LA):StT (Nat×Int×Int×Int×LA) (Nat×LA):=fun (b,i,d,e,a)=>xlY c b i d e a none inL inR
def xwG:=xK1.l 23 0 [] [] Tryz.f78 0 lk0 [0,3,5,6] [5] [(5,3,59)] (q4 (qL 1) (xTh 0 0 0 0) (xTg 1 0 0) qI) (q2 (qB 0 2 35 (q1 (xTi (q2 qI qI)))) (qB 0 3 59 xS6)) (fun (c,_,b,i,_) (((d,e,_),_),a,_)=>(xfZ c,(b,i,d,e,a),fun p=>(.leaf (.exit 0) [AV.osl 0 0 0 p.1] [bF 0 3 59 p.2]))) (0,[]) fun (c,_,_,_,_) _ (b,i,d,e,a)=>(((c,(),b,i,()),(((d,e,()),()),a,())),xlY c b i d e a none)
def xuj (a:LA) (b c:Int):=Iter (xfZ a) (0,0,b,c,[])
def xui (a:LA) (b c:Int):=(xuj a b c).getD (0,[])
def xug (a:LA) (b c:Int):=(xui a b c).fst
def xuh (a:LA) (b c:Int):=(xui a b c).snd
def xv1 {T:Type} (a:LA) (b c:Int) (δ:T) (κ:LA->T):T:=br ((xuj a b c).isSome) (br (decide (0+xug a b c<=(xuh a b c).length)&&true) (κ (List.take (xug a b c) (List.drop 0 (xuh a b c)))) δ) δ
def xzp (a:LA) (b c:Int):=xv1 a b c none some
def xK2:EO:=xK1.f Tryz.func78 23 0 [] [(3,xwG.lp)] (lk1 xwG.ok) (u2 (uL 1) (xTl (u2 uI uI))) (fun (a,(b,c,_),_) _=>xv1 a b c) (fun _ p=>AV.list 3 p) []
def xvb {T:Type} (b:List UInt8) (c a:Int) (δ:T) (κl:(Int)->T) (κr:(Bool×(Bool)×(Unit))->T):T:=br (decide (a<c)) (br (decide (0<=a)&&decide (a<b.length)) (br (decide ((↑(b.getD a.toNat (0:UInt8)).toNat:Int)<32)) (κr (true,(false),())) (br (decide (0<=a)&&decide (a<b.length)) (br (decide ((↑(b.getD a.toNat (0:UInt8)).toNat:Int)>126)) (κr (true,(false),())) (κl (i64.wrap (a+1)))) δ)) δ) (κr (false,false,()))
def xgj (a:List UInt8) (b:Int):StT (Int) (Bool×(Bool)×(Unit)):=fun (c)=>xvb a b c none inL inR
def xtB:=xK2.l 20 0 [] [] Tryz.f190 0 lk0 [0,5,6] [2] [] (q3 pStr qI qI) xS4 (fun (a,b,c,_) _=>(xgj a b,(c),fun p=>(.node p.1 (.leaf .ret [AV.bool p.2.1] []) (.leaf (.exit 0) [.top] [])))) (false,false,()) fun (a,b,_,_) _ (c)=>(((a,b,c,()),()),xvb a b c none)
def xyA {T:Type} (a:List UInt8) (δ:T) (κ:Bool->T):T:=br ((Iter (xgj a (↑a.length:Int)) 0).isSome) (br (((Iter (xgj a (↑a.length:Int)) 0).getD (false,false,())).fst) (κ (((Iter (xgj a (↑a.length:Int)) 0).getD (false,false,())).snd.fst)) (κ (true))) δ
def xz1 (a:List UInt8):=xyA a none some
def xPC:EO:=xK2.f Tryz.func190 20 0 [] [(2,xtB.lp)] (lk1 xtB.ok) (u1 (sEq pStr)) (fun (a,_) _=>xyA a) (fun _ p=>AV.bool p) false
def xyq {T:Type} (c a:Int) (b:List UInt8) (δ:T) (κ:Bool->T):T:=br (c==0) (br (a==0) (κ (b==[])) (κ (false))) (br (c==1) (br (b==[]) (br (decide (a>=(-1125899906842624))) (κ (decide (a<=1125899906842624))) (κ (false))) (κ (false))) (br (c==2) (br (a==0) (br (decide ((↑b.length:Int)<=200)) (br ((xz1 b).isSome) (κ ((xz1 b).getD false)) δ) (κ (false))) (κ (false))) (br (c==3) (br (b==[]) (br (a==0) (κ (true)) (κ (a==1))) (κ (false))) (κ (false)))))
def xAC (a b:Int) (c:List UInt8):=xyq a b c none some
def xPD:EO:=xPC.f Tryz.func166 61 0 [] [] lk0 (u1 (xTl (u3 uI uI (sEq pStr)))) (fun ((a,b,c,_),_) _=>xyq a b c) (fun _ p=>AV.bool p) false
def xKH:Int×Int×List UInt8:=((0,0,[]))
def xHS {T:Type} (δ:T) (κ:Int×Int×List UInt8->T):T:=κ (0,0,[])
def xPE:EO:=xPD.fT Tryz.func108 2 0 [] [] lk0 (fun _=>xHS none) xS5 (fun _=>xKH) (fun _ p=>(AV.agg [AV.int .i64 p.1,AV.int .i64 p.2.1,AV.str p.2.2]))
def xwf {T:Type} (a b:Int) (c:List UInt8) (δ:T) (κ:Int×Int×List UInt8->T):T:=br ((xAC a b c).isSome) (br (!(xAC a b c).getD false) (κ (0,0,[])) (κ (a,b,c))) δ
def xqH (a b:Int) (c:List UInt8):=xwf a b c none some
def xPF:EO:=xPE.f Tryz.func135 8 0 [] [] lk0 (u1 (xTl (u3 uI uI (sEq pStr)))) (fun ((a,b,c,_),_) _=>xwf a b c) (fun _ p=>AV.agg [AV.int .i64 p.1,AV.int .i64 p.2.1,AV.str p.2.2]) (0,0,[])
def xAB {T:Type} (n:Int) (δ:T) (κ:Int×Int×List UInt8->T):T:=br ((xqH 1 n []).isSome) (κ (((xqH 1 n []).getD (0,0,[])).fst,((xqH 1 n []).getD (0,0,[])).snd.fst,((xqH 1 n []).getD (0,0,[])).snd.snd)) δ
def xeM (n:Int):=xAB n none some
def xPG:EO:=xPF.f Tryz.func107 6 0 [] [] lk0 (u1 uI) (fun (n,_) _=>xAB n) (fun _ p=>AV.agg [AV.int .i64 p.1,AV.int .i64 p.2.1,AV.str p.2.2]) (0,0,[])
def xBt {T:Type} (a:LA) (i:Int) (δ:T) (κ:Int×Int×List UInt8->T):T:=br (decide (i<0)) (κ (0,0,[])) (br (decide (i>=a.length)) (κ (0,0,[])) (br (ixI a i) (br (ixT a i 3 [Sh.int .i64,Sh.int .i64,Sh.str] 0) (κ ((gC a i 0).toInt,(gC a i 1).toInt,(gC a i 2).toStr)) δ) δ))
def xBs (a:LA) (i:Int):=xBt a i none some
def xK3:EO:=xPG.f Tryz.func101 18 0 [] [] lk0 (u2 (uL 3) uI) (fun (a,i,_) _=>xBt a i) (fun _ p=>AV.agg [AV.int .i64 p.1,AV.int .i64 p.2.1,AV.str p.2.2]) (0,0,[])
def xnV (a b:LA) (c:Int):=(xBs a (gC b c 0).toInt).getD (0,0,[])
def xnU (a b:LA) (c:Int):=(xnV a b c).snd
def xpj {T:Type} (e c:LA) (f:Int) (d:Nat) (a:Int) (b:LA) (δ:T) (κl:(Nat×Int×LA)->T) (κr:(Nat×LA)->T):T:=br (decide (a<f)) (br (ixI c a) (br (ixS c a (Sh.int .i64) 0) (br ((xBs e (gC c a 0).toInt).isSome) (br (rmB d b 1 32) (κl (d+1,i64.wrap (a+1),b++[AV.agg [AV.int .i64 (xnV e c a).fst,AV.int .i64 (xnU e c a).fst,AV.str (xnU e c a).snd]])) δ) δ) δ) δ) (κr (d,b))
def xfs (c d:LA) (e:Int):StT (Nat×Int×LA) (Nat×LA):=fun (b,f,a)=>xpj c d e b f a none inL inR
def xzG:=xK3.l 25 0 [] [] Tryz.f66 0 lk0 [0,5,11,12,13] [5] [(5,3,76)] (q5 (qL 3) (xTg 0 0 0) (qL 1) qI qI) (q1 (qB 0 3 76 xS6)) (fun (c,b,d,e,f,_) (a,_)=>(xfs c d e,(b,f,a),fun p=>(.leaf (.exit 0) [AV.osl 0 0 0 p.1] [bF 0 3 76 p.2]))) (0,[]) fun (c,_,d,e,_,_) _ (b,f,a)=>(((c,b,d,e,f,()),(a,())),xpj c d e b f a none)
def xyp (a b:LA):=(Iter (xfs a b (↑b.length:Int)) (0,0,[])).getD (0,[])
def xzH {T:Type} (b a:LA) (δ:T) (κ:Nat×LA->T):T:=br (decide (32*(↑a.length:Int)<=281474976710656)&&decide ((↑a.length:Int)<=4611686018427387904)) (br ((Iter (xfs b a (↑a.length:Int)) (0,0,[])).isSome) (κ ((xyp b a).fst,(xyp b a).snd)) δ) δ
def xdG (a b:LA):=xzH a b none some
def xGv:EO:=xK3.fM Tryz.func66 25 0 [] [(3,xzG.lp)] (lk1 xzG.ok) (u2 (uL 3) (uL 1)) xS4 (fun (a,b,_) _ _=>xzH a b) (fun _ _ p=>(AV.osl 0 0 0 p.1,([bF 0 3 76 p.2]:List Box))) (0,[])
def xgk (b:Int) (a:LA):=((a.getD (0+b.toNat) .top).cells.getD 0 .top).toInt
def xoo (d:Int) (c:Nat) (b a:LA):=((xaQ (Lib.itoa (xgk d b)) c a).getD (0,0,[])).snd
def xon (d:Int) (c:Nat) (b a:LA):=xbr 32 (xoo d c b a).fst (xoo d c b a).snd
def xom (d:Int) (c:Nat) (b a:LA):=(xon d c b a).getD (0,[])
def xj7 {T:Type} (k:LA) (l j:Int) (e:Nat) (i c:Int) (d:Nat) (f g:Int) (h:List UInt8) (a b:LA) (δ:T) (κl:(Int×Nat×Int×Int×List UInt8×LA×LA)->T) (κr:(Nat×Int×Int×List UInt8×LA)->T):T:=br (decide (c<i)) (br (decide (0<=c)&&decide (c<(↑e:Int))) (br (decide (0+c.toNat<a.length)&&xSi (Sh.int .i64) ((a.getD (0+c.toNat) .top).cells.getD 0 .top)) (br (decide ((-9223372036854775808)<=xgk c a)&&decide (xgk c a<=9223372036854775807)) (br ((xaQ (Lib.itoa (xgk c a)) d b).isSome) (br ((xon c d a b).isSome) (κl (i64.wrap (c+1),(xom c d a b).fst,f,g,h,a,(xom c d a b).snd)) δ) δ) δ) δ) δ) (κr (d,f,g,h,b))
def xbC (k:LA) (l e:Int) (c:Nat) (f:Int):StT (Int×Nat×Int×Int×List UInt8×LA×LA) (Nat×Int×Int×List UInt8×LA):=fun (g,d,h,i,j,b,a)=>xj7 k l e c f g d h i j b a none inL inR
def xjN:=xGv.l 37 0 [] [] Tryz.f65 1 lk0 [3,5,8,9,10,21,22,23] [3,5,8,9,10] [] (q8 (xTh 0 0 0 0) (xTh 1 0 0 0) (qL 3) qI qI (xTg 2 0 0) qI qI) (q4 (xTj 0 2 142 false false (q1 (xTi (q2 (xTh 0 0 0 0) (xTg 3 0 0))))) (qB 0 3 76 (q1 (xTi (q3 qI qI pStr)))) (qB 0 1 3 xS6) (qB 0 1 5 xS6)) (fun (_,_,k,m,e,c,f,g,_) (((_,d,_),_),((h,i,j,_),_),b,a,_)=>(xbC k m e c f,(g,d,h,i,j,b,a),fun p=>(.leaf (.exit 2) [AV.own 0 0 0 0,AV.own 1 0 0 0,AV.list 3 k,AV.int .i64 m,AV.int .i64 e] [⟨0,2,142,[AV.agg [AV.own 0 0 0 0,AV.osl 2 0 0 p.1]],false,false⟩,bF 0 3 76 [AV.agg [AV.int .i64 p.2.1,AV.int .i64 p.2.2.1,AV.str p.2.2.2.1]],bF 0 1 5 p.2.2.2.2]))) (0,0,0,[],[]) fun (_,_,k,m,e,c,f,_,_) _ (g,d,h,i,j,b,a)=>((((),(),k,m,e,c,f,g,()),((((),d,()),()),((h,i,j,()),()),b,a,())),xj7 k m e c f g d h i j b a none)
def xol (b:LA) (e a:Int) (d:Nat) (c:LA):=Iter (xbC b e a 3 3) (0,d,(gC b a 0).toInt,(gC b a 1).toInt,(gC b a 2).toStr,[AV.int .i64 (gC b a 0).toInt,AV.int .i64 (gC b a 1).toInt,AV.int .i64 (↑(gC b a 2).toStr.length:Int)],c)
def xok (d:LA) (e c:Int) (b:Nat) (a:LA):=(xol d e c b a).getD (0,0,0,[],[])
def xoj (d:LA) (e c:Int) (b:Nat) (a:LA):=(xok d e c b a).snd.snd.snd
def xoi (d:LA) (e c:Int) (b:Nat) (a:LA):=xaQ (xoj d e c b a).fst (xok d e c b a).fst (xoj d e c b a).snd
def xoh (d:LA) (e c:Int) (b:Nat) (a:LA):=((xoi d e c b a).getD (0,0,[])).snd
def xj6 {T:Type} (d:LA) (e b:Int) (c:Nat) (a:LA) (δ:T) (κl:(Int×Nat×LA)->T) (κr:(Nat×LA)->T):T:=br (decide (b<e)) (br (ixI d b) (br (ixT d b 3 [Sh.int .i64,Sh.int .i64,Sh.str] 0) (br ((xol d e b c a).isSome) (br ((xoi d e b c a).isSome) (κl (i64.wrap (b+1),(xoh d e b c a).fst,(xoh d e b c a).snd)) δ) δ) δ) δ) (κr (c,a))
def xdH (d:LA) (e:Int):StT (Int×Nat×LA) (Nat×LA):=fun (c,b,a)=>xj6 d e c b a none inL inR
def xvm:=xGv.l 37 0 [] [(6,xjN.lp)] Tryz.f65 0 (lk1 xjN.ok) [3,8,9,10] [3] [] (q4 (xTh 0 0 0 0) (qL 3) qI qI) (q2 (xTj 0 2 142 false false (q1 (xTi (q2 (xTh 0 0 0 0) (xTg 1 0 0))))) (qB 0 1 5 xS6)) (fun (_,d,e,c,_) (((_,b,_),_),a,_)=>(xdH d e,(c,b,a),fun p=>(.leaf (.exit 0) [AV.own 0 0 0 0] [⟨0,2,142,[AV.agg [AV.own 0 0 0 0,AV.osl 1 0 0 p.1]],false,false⟩,bF 0 1 5 p.2]))) (0,[]) fun (_,d,e,_,_) _ (c,b,a)=>((((),d,e,c,()),((((),b,()),()),a,())),xj6 d e c b a none)
def xdh (a:LA):=((a.getD 0 .top).cells.getD 0 .top).toInt
def xsB (a:LA):=xbU 32 ((xaN (Lib.itoa (xdh a))).getD (0,0,[])).snd.fst ((xaN (Lib.itoa (xdh a))).getD (0,0,[])).snd.snd
def xsA (a:LA):=(xsB a).getD (0,[])
def xsz (a:LA):=Iter (xbC a (↑a.length:Int) 0 3 3) (1,(xsA a).fst,xdh a,((a.getD 0 .top).cells.getD 1 .top).toInt,((a.getD 0 .top).cells.getD 2 .top).toStr,[AV.int .i64 (xdh a),AV.int .i64 ((a.getD 0 .top).cells.getD 1 .top).toInt,AV.int .i64 (↑((a.getD 0 .top).cells.getD 2 .top).toStr.length:Int)],(xsA a).snd)
def xsy (a:LA):=(xsz a).getD (0,0,0,[],[])
def xsw (a:LA):=(xsy a).snd.snd.snd
def xsv (a:LA):=xaQ (xsw a).fst (xsy a).fst (xsw a).snd
def xsu (a:LA):=((xsv a).getD (0,0,[])).snd
def xst (a:LA):=Iter (xdH a (↑a.length:Int)) (1,(xsu a).fst,(xsu a).snd)
def xss (a:LA):=(xst a).getD (0,[])
def xi7 (a:LA):=(xss a).snd
def xtD {T:Type} (a:LA) (δ:T) (κ:List UInt8->T):T:=br (decide (0<(↑a.length:Int))) (br (decide (0<(↑a.length:Int))) (br (decide (0<a.length)&&((a.getD 0 .top).cells.length==3&&xSp [Sh.int .i64,Sh.int .i64,Sh.str] (a.getD 0 .top).cells 0)) (br (decide ((-9223372036854775808)<=xdh a)&&decide (xdh a<=9223372036854775807)) (br ((xaN (Lib.itoa (xdh a))).isSome) (br ((xsB a).isSome) (br ((xsz a).isSome) (br ((xsv a).isSome) (br ((xst a).isSome) (br (decide ((xss a).fst=(xi7 a).length)&&isBytes (xi7 a)&&decide ((xi7 a).length≠0)) (κ (strOf (xi7 a))) δ) δ) δ) δ) δ) δ) δ) δ) δ) (κ ([]))
def xr6 (a:LA):=xtD a none some
def xPH:EO:=xGv.f Tryz.func65 37 0 [] [(6,xjN.lp),(3,xvm.lp)] (lks (lkC xvm.ok (lkC xjN.ok lkN))) (u1 (uL 3)) (fun (a,_) _=>xtD a) (fun _ p=>AV.str p) []
def xjI {T:Type} (a:List UInt8) (n:Nat) (b:LA) (δ:T) (κ:Int×Nat×LA->T):T:=br (n==b.length&&(decide ((n+(byteAVs a).length)*1<=140737488355328)&&decide (n+(byteAVs a).length<=4611686018427387904))) (κ ((↑a.length:Int),n+(byteAVs a).length,b++byteAVs a)) δ
def xlh (a:List UInt8) (n:Nat) (b:LA):=xjI a n b none some
def xOb:EO:=xPH.fM Tryz.func97 19 2 [] [] lk0 (u2 (sEq (xTh 0 0 0 0)) (sEq pStr)) (q2 (xTj 0 2 142 false false (q1 (xTi (q2 (xTh 0 0 0 0) (xTg 1 2 0))))) (qB 2 1 5 xS6)) (fun (_,a,_) (((_,n,_),_),b,_) _=>xjI a n b) (fun _ _ p=>(AV.tuple [AV.int .i64 p.1,.top],([⟨0,2,142,[AV.agg [AV.own 0 0 0 0,AV.osl 1 3 0 p.2.1]],false,false⟩,bF 3 1 5 p.2.2]:List Box))) (0,0,[])
def xjJ {T:Type} (a:List UInt8) (n:Nat) (b:LA) (δ:T) (κ:Int×Nat×LA->T):T:=br (n==b.length&&(decide ((n+(byteAVs a).length)*1<=140737488355328)&&decide (n+(byteAVs a).length<=4611686018427387904))) (κ ((↑a.length:Int),n+(byteAVs a).length,b++byteAVs a)) δ
def xli (a:List UInt8) (n:Nat) (b:LA):=xjJ a n b none some
def xOc:EO:=xOb.fM Tryz.func97 19 2 [] [] lk0 (u2 (sEq (xTh 0 0 0 0)) (sEq pStr)) (q2 (xTj 0 2 142 false false (q1 (xTi (q2 (xTh 0 0 0 0) (xTg 1 3 0))))) (qB 3 1 5 xS6)) (fun (_,a,_) (((_,n,_),_),b,_) _=>xjJ a n b) (fun _ _ p=>(AV.tuple [AV.int .i64 p.1,.top],([⟨0,2,142,[AV.agg [AV.own 0 0 0 0,AV.osl 1 4 0 p.2.1]],false,false⟩,bF 4 1 5 p.2.2]:List Box))) (0,0,[])
def xjK {T:Type} (a:List UInt8) (n:Nat) (b:LA) (δ:T) (κ:Int×Nat×LA->T):T:=br (n==b.length&&(decide ((n+(byteAVs a).length)*1<=140737488355328)&&decide (n+(byteAVs a).length<=4611686018427387904))) (κ ((↑a.length:Int),n+(byteAVs a).length,b++byteAVs a)) δ
def xlj (a:List UInt8) (n:Nat) (b:LA):=xjK a n b none some
def xOd:EO:=xOc.fM Tryz.func97 19 2 [] [] lk0 (u2 (sEq (xTh 0 0 0 0)) (sEq pStr)) (q2 (xTj 0 2 142 false false (q1 (xTi (q2 (xTh 0 0 0 0) (xTg 1 4 0))))) (qB 4 1 5 xS6)) (fun (_,a,_) (((_,n,_),_),b,_) _=>xjK a n b) (fun _ _ p=>(AV.tuple [AV.int .i64 p.1,.top],([⟨0,2,142,[AV.agg [AV.own 0 0 0 0,AV.osl 1 5 0 p.2.1]],false,false⟩,bF 5 1 5 p.2.2]:List Box))) (0,0,[])
def xjL {T:Type} (a:List UInt8) (n:Nat) (b:LA) (δ:T) (κ:Int×Nat×LA->T):T:=br (n==b.length&&(decide ((n+(byteAVs a).length)*1<=140737488355328)&&decide (n+(byteAVs a).length<=4611686018427387904))) (κ ((↑a.length:Int),n+(byteAVs a).length,b++byteAVs a)) δ
def xlk (a:List UInt8) (n:Nat) (b:LA):=xjL a n b none some
def xOe:EO:=xOd.fM Tryz.func97 19 2 [] [] lk0 (u2 (sEq (xTh 0 0 0 0)) (sEq pStr)) (q2 (xTj 0 2 142 false false (q1 (xTi (q2 (xTh 0 0 0 0) (xTg 1 5 0))))) (qB 5 1 5 xS6)) (fun (_,a,_) (((_,n,_),_),b,_) _=>xjL a n b) (fun _ _ p=>(AV.tuple [AV.int .i64 p.1,.top],([⟨0,2,142,[AV.agg [AV.own 0 0 0 0,AV.osl 1 6 0 p.2.1]],false,false⟩,bF 6 1 5 p.2.2]:List Box))) (0,0,[])
def xjM {T:Type} (a:List UInt8) (n:Nat) (b:LA) (δ:T) (κ:Int×Nat×LA->T):T:=br (n==b.length&&(decide ((n+(byteAVs a).length)*1<=140737488355328)&&decide (n+(byteAVs a).length<=4611686018427387904))) (κ ((↑a.length:Int),n+(byteAVs a).length,b++byteAVs a)) δ
def xll (a:List UInt8) (n:Nat) (b:LA):=xjM a n b none some
def xOf:EO:=xOe.fM Tryz.func97 19 2 [] [] lk0 (u2 (sEq (xTh 0 0 0 0)) (sEq pStr)) (q2 (xTj 0 2 142 false false (q1 (xTi (q2 (xTh 0 0 0 0) (xTg 1 6 0))))) (qB 6 1 5 xS6)) (fun (_,a,_) (((_,n,_),_),b,_) _=>xjM a n b) (fun _ _ p=>(AV.tuple [AV.int .i64 p.1,.top],([⟨0,2,142,[AV.agg [AV.own 0 0 0 0,AV.osl 1 7 0 p.2.1]],false,false⟩,bF 7 1 5 p.2.2]:List Box))) (0,0,[])
def xlc {T:Type} (c:Int) (n:Nat) (a:LA) (δ:T) (κ:Nat×LA->T):T:=br (rmB n a 1 1) (κ (n+1,a++[AV.int .u8 c])) δ
def xnn (c:Int) (n:Nat) (a:LA):=xlc c n a none some
def xOg:EO:=xOf.fM Tryz.func99 17 2 [] [] lk0 (u2 (sEq (xTh 0 0 0 0)) (sEq (pInt .u8))) (q2 (xTj 0 2 142 false false (q1 (xTi (q2 (xTh 0 0 0 0) (xTg 1 2 0))))) (qB 2 1 5 xS6)) (fun (_,c,_) (((_,n,_),_),a,_) _=>xlc c n a) (fun _ _ p=>(.top,([⟨0,2,142,[AV.agg [AV.own 0 0 0 0,AV.osl 1 3 0 p.1]],false,false⟩,bF 3 1 5 p.2]:List Box))) (0,[])
def xld {T:Type} (c:Int) (n:Nat) (a:LA) (δ:T) (κ:Nat×LA->T):T:=br (rmB n a 1 1) (κ (n+1,a++[AV.int .u8 c])) δ
def xno (c:Int) (n:Nat) (a:LA):=xld c n a none some
def xOh:EO:=xOg.fM Tryz.func99 17 2 [] [] lk0 (u2 (sEq (xTh 0 0 0 0)) (sEq (pInt .u8))) (q2 (xTj 0 2 142 false false (q1 (xTi (q2 (xTh 0 0 0 0) (xTg 1 3 0))))) (qB 3 1 5 xS6)) (fun (_,c,_) (((_,n,_),_),a,_) _=>xld c n a) (fun _ _ p=>(.top,([⟨0,2,142,[AV.agg [AV.own 0 0 0 0,AV.osl 1 4 0 p.1]],false,false⟩,bF 4 1 5 p.2]:List Box))) (0,[])
def xle {T:Type} (c:Int) (n:Nat) (a:LA) (δ:T) (κ:Nat×LA->T):T:=br (rmB n a 1 1) (κ (n+1,a++[AV.int .u8 c])) δ
def xnp (c:Int) (n:Nat) (a:LA):=xle c n a none some
def xOi:EO:=xOh.fM Tryz.func99 17 2 [] [] lk0 (u2 (sEq (xTh 0 0 0 0)) (sEq (pInt .u8))) (q2 (xTj 0 2 142 false false (q1 (xTi (q2 (xTh 0 0 0 0) (xTg 1 4 0))))) (qB 4 1 5 xS6)) (fun (_,c,_) (((_,n,_),_),a,_) _=>xle c n a) (fun _ _ p=>(.top,([⟨0,2,142,[AV.agg [AV.own 0 0 0 0,AV.osl 1 5 0 p.1]],false,false⟩,bF 5 1 5 p.2]:List Box))) (0,[])
def xlf {T:Type} (c:Int) (n:Nat) (a:LA) (δ:T) (κ:Nat×LA->T):T:=br (rmB n a 1 1) (κ (n+1,a++[AV.int .u8 c])) δ
def xnq (c:Int) (n:Nat) (a:LA):=xlf c n a none some
def xIN:EO:=xOi.fM Tryz.func99 17 2 [] [] lk0 (u2 (sEq (xTh 0 0 0 0)) (sEq (pInt .u8))) (q2 (xTj 0 2 142 false false (q1 (xTi (q2 (xTh 0 0 0 0) (xTg 1 5 0))))) (qB 5 1 5 xS6)) (fun (_,c,_) (((_,n,_),_),a,_) _=>xlf c n a) (fun _ _ p=>(.top,([⟨0,2,142,[AV.agg [AV.own 0 0 0 0,AV.osl 1 6 0 p.1]],false,false⟩,bF 6 1 5 p.2]:List Box))) (0,[])
def xoW (c:LA) (d:Int) (b:Nat) (a:LA):=((xaQ (Lib.itoa (gC c d 0).toInt) b a).getD (0,0,[])).snd
def xoV (c:LA) (d:Int) (b:Nat) (a:LA):=xbr 58 (xoW c d b a).fst (xoW c d b a).snd
def xoU (c:LA) (d:Int) (b:Nat) (a:LA):=(xoV c d b a).getD (0,[])
def xqw (c:LA) (d:Int) (b:Nat) (a:LA):=xlh (Lib.itoa (gC c d 1).toInt) (xoU c d b a).fst (xoU c d b a).snd
def xqv (c:LA) (d:Int) (b:Nat) (a:LA):=((xqw c d b a).getD (0,0,[])).snd
def xqu (c:LA) (d:Int) (b:Nat) (a:LA):=xno 58 (xqv c d b a).fst (xqv c d b a).snd
def xqt (c:LA) (d:Int) (b:Nat) (a:LA):=(xqu c d b a).getD (0,[])
def xqs (c:LA) (d:Int) (b:Nat) (a:LA):=xlj (Lib.itoa (↑(gC c d 2).toStr.length:Int)) (xqt c d b a).fst (xqt c d b a).snd
def xqr (c:LA) (d:Int) (b:Nat) (a:LA):=((xqs c d b a).getD (0,0,[])).snd
def xqq (c:LA) (d:Int) (b:Nat) (a:LA):=xnq 58 (xqr c d b a).fst (xqr c d b a).snd
def xqp (c:LA) (d:Int) (b:Nat) (a:LA):=(xqq c d b a).getD (0,[])
def xqo (c:LA) (d:Int) (b:Nat) (a:LA):=xll (gC c d 2).toStr (xqp c d b a).fst (xqp c d b a).snd
def xqn (c:LA) (d:Int) (b:Nat) (a:LA):=((xqo c d b a).getD (0,0,[])).snd
def xmc {T:Type} (d:LA) (e c:Int) (b:Nat) (a:LA) (δ:T) (κl:(Int×Nat×LA)->T) (κr:(Nat×LA)->T):T:=br (decide (c<e)) (br (ixI d c) (br (ixT d c 3 [Sh.int .i64,Sh.int .i64,Sh.str] 0) (br (decide ((-9223372036854775808)<=(gC d c 0).toInt)&&decide ((gC d c 0).toInt<=9223372036854775807)) (br ((xaQ (Lib.itoa (gC d c 0).toInt) b a).isSome) (br ((xoV d c b a).isSome) (br (decide ((-9223372036854775808)<=(gC d c 1).toInt)&&decide ((gC d c 1).toInt<=9223372036854775807)) (br ((xqw d c b a).isSome) (br ((xqu d c b a).isSome) (br (decide ((↑(gC d c 2).toStr.length:Int)<=9223372036854775807)) (br ((xqs d c b a).isSome) (br ((xqq d c b a).isSome) (br ((xqo d c b a).isSome) (κl (i64.wrap (c+1),(xqn d c b a).fst,(xqn d c b a).snd)) δ) δ) δ) δ) δ) δ) δ) δ) δ) δ) δ) δ) (κr (b,a))
def xeB (c:LA) (d:Int):StT (Int×Nat×LA) (Nat×LA):=fun (e,b,a)=>xmc c d e b a none inL inR
def xwO:=xIN.l 33 0 [] [] Tryz.f69 0 lk0 [3,6,7,8] [3] [] (q4 (xTh 0 0 0 0) (qL 3) qI qI) (q2 (xTj 0 2 142 false false (q1 (xTi (q2 (xTh 0 0 0 0) (xTg 1 0 0))))) (qB 0 1 5 xS6)) (fun (_,c,d,e,_) (((_,b,_),_),a,_)=>(xeB c d,(e,b,a),fun p=>(.leaf (.exit 0) [AV.own 0 0 0 0] [⟨0,2,142,[AV.agg [AV.own 0 0 0 0,AV.osl 1 0 0 p.1]],false,false⟩,bF 0 1 5 p.2]))) (0,[]) fun (_,c,d,_,_) _ (e,b,a)=>((((),c,d,e,()),((((),b,()),()),a,())),xmc c d e b a none)
def xti (a:LA):=((xaN (Lib.itoa ((a.getD 0 .top).cells.getD 0 .top).toInt)).getD (0,0,[])).snd
def xth (a:LA):=xbU 58 (xti a).fst (xti a).snd
def xtg (a:LA):=(xth a).getD (0,[])
def xtf (a:LA):=xlg (Lib.itoa ((a.getD 0 .top).cells.getD 1 .top).toInt) (xtg a).fst (xtg a).snd
def xte (a:LA):=((xtf a).getD (0,0,[])).snd
def xtd (a:LA):=xnn 58 (xte a).fst (xte a).snd
def xuW (a:LA):=(xtd a).getD (0,[])
def xuV (a:LA):=xli (Lib.itoa (↑((a.getD 0 .top).cells.getD 2 .top).toStr.length:Int)) (xuW a).fst (xuW a).snd
def xuU (a:LA):=((xuV a).getD (0,0,[])).snd
def xuT (a:LA):=xnp 58 (xuU a).fst (xuU a).snd
def xuS (a:LA):=(xuT a).getD (0,[])
def xuR (a:LA):=xlk ((a.getD 0 .top).cells.getD 2 .top).toStr (xuS a).fst (xuS a).snd
def xuQ (a:LA):=((xuR a).getD (0,0,[])).snd
def xuP (a:LA):=Iter (xeB a (↑a.length:Int)) (1,(xuQ a).fst,(xuQ a).snd)
def xuO (a:LA):=(xuP a).getD (0,[])
def xk6 (a:LA):=(xuO a).snd
def xwb {T:Type} (a:LA) (δ:T) (κ:List UInt8->T):T:=br (decide (0<(↑a.length:Int))) (br (decide (0<(↑a.length:Int))) (br (decide (0<a.length)&&((a.getD 0 .top).cells.length==3&&xSp [Sh.int .i64,Sh.int .i64,Sh.str] (a.getD 0 .top).cells 0)) (br (decide ((-9223372036854775808)<=((a.getD 0 .top).cells.getD 0 .top).toInt)&&decide (((a.getD 0 .top).cells.getD 0 .top).toInt<=9223372036854775807)) (br ((xaN (Lib.itoa ((a.getD 0 .top).cells.getD 0 .top).toInt)).isSome) (br ((xth a).isSome) (br (decide ((-9223372036854775808)<=((a.getD 0 .top).cells.getD 1 .top).toInt)&&decide (((a.getD 0 .top).cells.getD 1 .top).toInt<=9223372036854775807)) (br ((xtf a).isSome) (br ((xtd a).isSome) (br (decide ((↑((a.getD 0 .top).cells.getD 2 .top).toStr.length:Int)<=9223372036854775807)) (br ((xuV a).isSome) (br ((xuT a).isSome) (br ((xuR a).isSome) (br ((xuP a).isSome) (br (decide ((xuO a).fst=(xk6 a).length)&&isBytes (xk6 a)&&decide ((xk6 a).length≠0)) (κ (strOf (xk6 a))) δ) δ) δ) δ) δ) δ) δ) δ) δ) δ) δ) δ) δ) δ) (κ ([]))
def xuN (a:LA):=xwb a none some
def xGw:EO:=xIN.f Tryz.func69 33 0 [] [(3,xwO.lp)] (lk1 xwO.ok) (u1 (uL 3)) (fun (a,_) _=>xwb a) (fun _ p=>AV.str p) []
def xgZ (d e:LA) (f:Int) (a:Nat) (g:Int) (b c:LA):=decide ((↑a:Int)<(↑(a+1):Int))
def xge (a b:LA) (c:Int):=xr6 (List.take ((xdG (gC b c 0).toList a).getD (0,[])).fst (List.drop 0 ((xdG (gC b c 0).toList a).getD (0,[])).snd))
def xaU (a:Nat):Nat:=0+(↑a:Int).toNat
def xgY (d e:LA) (f:Int) (b:Nat) (g:Int) (c a:LA):=decide (xaU b<(a++[AV.list 3 []]).length)
def xbt (a b:LA) (c:Int):=(xge a b c).getD []
def xa0 (b:Nat) (a:LA):=(((a++[AV.list 3 []]).getD (xaU b) .top).cells.getD 0 .top).toList.length
def xg2 (a:LA) (d:Nat) (b:Int) (c:LA):=(((c++[AV.list 3 []]).getD (xaU d) .top).cells.getD 0 .top).toList++[AV.agg [AV.list 3 (gC a b 0).toList,AV.int .i64 (gC a b 1).toInt,AV.int .i64 (gC a b 2).toInt]]
def xgx (b d:LA) (c:Nat) (e:Int) (a:LA):=decide (0<=(xSD (AV.int .i64 0) a (xbt b d e)).toInt)&&decide ((xSD (AV.int .i64 0) a (xbt b d e)).toInt<(↑c:Int))
def xaO (b c:LA) (d:Int) (a:LA):Nat:=0+(xSD (AV.int .i64 0) a (xbt b c d)).toInt.toNat
def xg1 (a b:LA) (c:Int):=decide ((xbt a b c).length<=4611686018427387904)
def xcU (b:Nat) (a:LA):=(a++[AV.list 3 []]).set (xaU b) (AV.int .i64 (↑(xa0 b a):Int))
def xg0 (c d:LA) (e:Int) (a b:LA):=decide (xaO c d e a<b.length)
def xg3 (e b:LA) (c:Int) (a d:LA):=((d.getD (xaO e b c a) .top).cells.getD 0 .top).toList++[AV.agg [AV.list 3 (gC b c 0).toList,AV.int .i64 (gC b c 1).toInt,AV.int .i64 (gC b c 2).toInt]]
def xaX (c d:LA) (e:Int) (a b:LA):=((b.getD (xaO c d e a) .top).cells.getD 0 .top).toList.length
def xcV (c d:LA) (e:Int) (a b:LA):=xaX c d e a b+1
def xfd {T:Type} (c f:LA) (g:Int) (d:Nat) (e:Int) (a b:LA) (δ:T) (κl:(Nat×Int×LA×LA)->T) (κr:(Nat×LA)->T):T:=br (decide (e<g)) (br (ixI f e) (br (ixT f e 3 [Sh.list 3,Sh.int .i64,Sh.int .i64] 0) (br ((xdG (gC f e 0).toList c).isSome) (br (decide (0+((xdG (gC f e 0).toList c).getD (0,[])).fst<=((xdG (gC f e 0).toList c).getD (0,[])).snd.length)&&true) (br ((xge c f e).isSome) (br (xg1 c f e&&xSi (Sh.int .i64) (xSD (AV.int .i64 0) a (xbt c f e))) (br (!xSP a (xbt c f e)) (br (decide (a.length<4611686018427387904)&&xg1 c f e) (br (rmB d b 1 24) (br (xgZ c f g d e a b) (br (xgY c f g d e a b&&(xSx 3 (((b++[AV.list 3 []]).getD (xaU d) .top).cells.getD 0 .top)&&((b++[AV.list 3 []]).getD (xaU d) .top).cells.length==1)) (br (xgY c f g d e a b&&(xSx 3 (((b++[AV.list 3 []]).getD (xaU d) .top).cells.getD 0 .top)&&(((b++[AV.list 3 []]).getD (xaU d) .top).cells.length==1&&(2*xa0 d b==2*xa0 d b&&(xa0 d b==xa0 d b&&(xa0 d b==xa0 d b&&(decide ((xa0 d b+1)*40<=140737488355328)&&decide (xa0 d b+1<=4611686018427387904)))))))) (br (xgZ c f g d e a b) (br (decide (xaU d<(xcU d b).length)&&(((xcU d b).getD (xaU d) .top).cells.length==1&&(xa0 d b+1==(xg2 f d e b).length&&xTo (((xcU d b).getD (xaU d) .top).cells.getD 0 .top) (xa0 d b+1)))) (κl (d+1,i64.wrap (e+1),xSB a (xbt c f e) (AV.int .i64 (↑d:Int)),(xcU d b).set (xaU d) (AV.list 3 (xg2 f d e b)))) δ) δ) δ) δ) δ) δ) δ) (br (xgx c f d e a) (br (xg0 c f e a b&&(xSx 3 ((b.getD (xaO c f e a) .top).cells.getD 0 .top)&&(b.getD (xaO c f e a) .top).cells.length==1)) (br (xg0 c f e a b&&(xSx 3 ((b.getD (xaO c f e a) .top).cells.getD 0 .top)&&((b.getD (xaO c f e a) .top).cells.length==1&&(2*xaX c f e a b==2*xaX c f e a b&&(xaX c f e a b==xaX c f e a b&&(xaX c f e a b==xaX c f e a b&&(decide (xcV c f e a b*40<=140737488355328)&&decide (xcV c f e a b<=4611686018427387904)))))))) (br (xgx c f d e a) (br (decide (xaO c f e a<(b.set (xaO c f e a) (AV.int .i64 (↑(xaX c f e a b):Int))).length)&&(((b.set (xaO c f e a) (AV.int .i64 (↑(xaX c f e a b):Int))).getD (xaO c f e a) .top).cells.length==1&&(xcV c f e a b==(xg3 c f e a b).length&&xTo (((b.set (xaO c f e a) (AV.int .i64 (↑(xaX c f e a b):Int))).getD (xaO c f e a) .top).cells.getD 0 .top) (xcV c f e a b)))) (κl (d,i64.wrap (e+1),a,(b.set (xaO c f e a) (AV.int .i64 (↑(xaX c f e a b):Int))).set (xaO c f e a) (AV.list 3 (xg3 c f e a b)))) δ) δ) δ) δ) δ)) δ) δ) δ) δ) δ) δ) (κr (d,b))
def xby (d e:LA) (f:Int):StT (Nat×Int×LA×LA) (Nat×LA):=fun (c,g,a,b)=>xfd d e f c g a b none inL inR
def xrO:=xGw.l 57 0 [] [] Tryz.f40 0 lk0 [1,5,6,18,19,20] [6] [(6,1,253605445655)] (q6 (qL 1) (xTh 0 0 0 0) (xTg 1 0 0) (qL 3) qI qI) (q2 (qB 0 2 1208925819615114573119488 xS6) (qB 0 1 253605445655 xS6)) (fun (d,_,c,e,f,g,_) (a,b,_)=>(xby d e f,(c,g,a,b),fun p=>(.leaf (.exit 0) [AV.osl 0 0 0 p.1] [bF 0 1 253605445655 p.2]))) (0,[]) fun (d,_,_,e,f,_,_) _ (c,g,a,b)=>(((d,(),c,e,f,g,()),(a,b,())),xfd d e f c g a b none)
def xog (l a:LA):=Iter (xby a l (↑l.length:Int)) (0,0,[],[])
def xof (l a:LA):=(xog l a).getD (0,[])
def xod (l a:LA):=(xof l a).fst
def xoe (l a:LA):=(xof l a).snd
def xoc (l a:LA):=List.take (xod l a) (List.drop 0 (xoe l a))
def xpu {T:Type} (l a:LA) (δ:T) (κ:LA->T):T:=br ((↑a.length:Int)==0) (κ ([AV.list 3 l])) (br ((xog l a).isSome) (br (decide (0+xod l a<=(xoe l a).length)&&xSQ 3 0 (xoc l a)&&true) (κ (xoc l a)) δ) δ)
def xi6 (l a:LA):=xpu l a none some
def xK4:EO:=xGw.f Tryz.func40 57 0 [] [(6,xrO.lp)] (lk1 xrO.ok) (u2 (uL 3) (uL 1)) (fun (l,a,_) _=>xpu l a) (fun _ p=>AV.list 1 p) []
def xmd {T:Type} (f:LA) (h b g a c d:Int) (e:List UInt8) (δ:T) (κl:(Int×Int×Int×Int×Int×List UInt8)->T) (κr:(Int×Int×Int×Int×List UInt8)->T):T:=br (decide (a<h)) (br (ixI f a) (br (ixT f a 3 [Sh.int .i64,Sh.int .i64,Sh.str] 0) (κl (i64.wrap (b+(gC f a 1).toInt.fdiv 1048576),i64.wrap (g+andI IntKind.i64 (gC f a 1).toInt 1048575),i64.wrap (a+1),c,d,e)) δ) δ) (κr (b,g,c,d,e))
def xeC (g:LA) (h:Int):StT (Int×Int×Int×Int×Int×List UInt8) (Int×Int×Int×Int×List UInt8):=fun (a,e,f,b,c,d)=>xmd g h a e f b c d none inL inR
def xwP:=xK4.l 51 0 [] [] Tryz.f109 0 lk0 [2,3,4,8,9,10] [2,3,4] [] (q6 (xTh 0 0 0 0) qI qI (qL 3) qI qI) (q1 (qB 0 3 76 (q1 (xTi (q3 qI qI pStr))))) (fun (_,a,e,g,h,f,_) (((b,c,d,_),_),_)=>(xeC g h,(a,e,f,b,c,d),fun p=>(.leaf (.exit 0) [AV.own 0 0 0 0,AV.int .i64 p.1,AV.int .i64 p.2.1] [bF 0 3 76 [AV.agg [AV.int .i64 p.2.2.1,AV.int .i64 p.2.2.2.1,AV.str p.2.2.2.2]]]))) (0,0,0,0,[]) fun (_,_,_,g,h,_,_) _ (a,e,f,b,c,d)=>((((),a,e,g,h,f,()),(((b,c,d,()),()),())),xmd g h a e f b c d none)
def xux (l:LA):=Iter (xeC l (↑l.length:Int)) (0,0,0,0,0,[])
def xuZ (l:LA):=(xux l).getD (0,0,0,0,[])
def xuY (l:LA):=(xuZ l).snd.fst
def xpi (l:LA):=i64.wrap ((xuZ l).fst+(xuY l).fdiv 1048576)
def xf2 (l:LA):=i64.wrap (i64.wrap (xpi l*1048576)+andI IntKind.i64 (xuY l) 1048575)
def xwc {T:Type} (l:LA) (δ:T) (κ:Int×Int×List UInt8->T):T:=br ((xux l).isSome) (br (decide (xpi l<(-2147483648))) (κ (0,0,[])) (br (decide (xpi l>2147483648)) (κ (0,0,[])) (br (decide (xf2 l<(-1125899906842624))) (κ (0,0,[])) (br (decide (xf2 l>1125899906842624)) (κ (0,0,[])) (br ((xeM (xf2 l)).isSome) (κ (((xeM (xf2 l)).getD (0,0,[])).fst,((xeM (xf2 l)).getD (0,0,[])).snd.fst,((xeM (xf2 l)).getD (0,0,[])).snd.snd)) δ))))) δ
def xuX (l:LA):=xwc l none some
def xGy:EO:=xK4.f Tryz.func109 51 0 [] [(3,xwP.lp)] (lk1 xwP.ok) (u1 (uL 3)) (fun (l,_) _=>xwc l) (fun _ p=>AV.agg [AV.int .i64 p.1,AV.int .i64 p.2.1,AV.str p.2.2]) (0,0,[])
def xjD (a:LA) (b d c:Int):=decide (c<(↑(gC a b 0).toList.length:Int))
def xjE (a:LA) (b d c:Int):=decide (c.toNat<(gC a b 0).toList.length)
def xbB (a:LA) (b c:Int):=((gC a b 0).toList.getD c.toNat .top).cells
def xjC (b:LA) (c d a:Int):=decide (0<=a)&&xjD b c d a
def xgf {T:Type} (c:LA) (j:Int) (i:Nat) (a d b f g:Int) (h:List UInt8) (e:LA) (δ:T) (κl:(Nat×Int×Int×Int×Int×Int×List UInt8×LA)->T) (κr:(Nat×Int×Int×Int×Int×List UInt8×LA)->T):T:=br (decide (a<j)) (br (ixI c a) (br (ixS c a (Sh.list 3) 0) (br (xjD c a d b) (br (xjC c a d b) (br (xjE c a d b&&xSi (Sh.int .i64) ((xbB c a b).getD 0 .top)) (br (((xbB c a b).getD 0 .top).toInt != 0) (br (xjC c a d b) (br (xjE c a d b&&((xbB c a b).length==3&&xSp [Sh.int .i64,Sh.int .i64,Sh.str] (xbB c a b) 0)) (br (rmB i e 1 32) (κl (i+1,i64.wrap (a+1),d,b,f,g,h,e++[AV.agg [AV.int .i64 ((xbB c a b).getD 0 .top).toInt,AV.int .i64 ((xbB c a b).getD 1 .top).toInt,AV.str ((xbB c a b).getD 2 .top).toStr]])) δ) δ) δ) (κl (i,i64.wrap (a+1),d,b,f,g,h,e))) δ) δ) (κl (i,i64.wrap (a+1),d,b,f,g,h,e))) δ) δ) (κr (i,d,b,f,g,h,e))
def xcg (e:LA) (f:Int):StT (Nat×Int×Int×Int×Int×Int×List UInt8×LA) (Nat×Int×Int×Int×Int×List UInt8×LA):=fun (g,h,i,j,a,b,c,d)=>xgf e f g h i j a b c d none inL inR
def xjB:=xGy.l 96 0 [] [] Tryz.f70 0 lk0 [3,4,5,18,19,20] [3,4,5] [(5,3,76)] (q6 (xTh 0 0 0 0) (xTh 1 0 0 0) (xTg 2 0 0) (qL 1) qI qI) (q3 (qB 0 2 74 (q1 (xTi (q2 qI qI)))) (qB 0 3 76 (q1 (xTi (q3 qI qI pStr)))) (qB 0 3 76 xS6)) (fun (_,_,e,f,g,h,_) (((i,j,_),_),((a,b,c,_),_),d,_)=>(xcg f g,(e,h,i,j,a,b,c,d),fun p=>(.leaf (.exit 0) [AV.own 0 0 0 0,AV.own 1 0 0 0,AV.osl 2 0 0 p.1] [bF 0 2 74 [AV.agg [AV.int .i64 p.2.1,AV.int .i64 p.2.2.1]],bF 0 3 76 [AV.agg [AV.int .i64 p.2.2.2.1,AV.int .i64 p.2.2.2.2.1,AV.str p.2.2.2.2.2.1]],bF 0 3 76 p.2.2.2.2.2.2]))) (0,0,0,0,0,[],[]) fun (_,_,_,f,g,_,_) _ (e,h,i,j,a,b,c,d)=>((((),(),e,f,g,h,()),(((i,j,()),()),((a,b,c,()),()),d,())),xgf f g e h i j a b c d none)
def xbj (b:Int) (a:LA):=(a.getD (0+b.toNat) .top).cells
def xjF (b c d:Int) (e:List UInt8) (a:LA):=xbK ((xbj b a).getD 0 .top).toInt ((xbj b a).getD 1 .top).toInt ((xbj b a).getD 2 .top).toStr c d e
def xfC {T:Type} (b f g c d:Int) (e:List UInt8) (a:LA) (κl:(Int×Int×Int×Int×Int×List UInt8×Int×Int×List UInt8×LA)->T):T:=κl (i64.wrap (b+1),f,g,c,d,e,((xbj b a).getD 0 .top).toInt,((xbj b a).getD 1 .top).toInt,((xbj b a).getD 2 .top).toStr,a)
def xfB {T:Type} (h i j e f:Int) (g:List UInt8) (b c:Int) (d:List UInt8) (a:LA) (κl:(Int×Int×Int×Int×Int×List UInt8×Int×Int×List UInt8×LA)->T):T:=br (i==4) (br (decide (xjF h b c d a>0)) (xfC h i j e f g a κl) (κl (i64.wrap (h+1),i,j,e,f,g,b,c,d,a))) (κl (i64.wrap (h+1),i,j,e,f,g,b,c,d,a))
def xgg {T:Type} (k:Nat) (l b i j f g:Int) (h:List UInt8) (c d:Int) (e:List UInt8) (a:LA) (δ:T) (κl:(Int×Int×Int×Int×Int×List UInt8×Int×Int×List UInt8×LA)->T) (κr:(Int×Int×List UInt8×Int×Int×List UInt8)->T):T:=br (decide (b<l)) (br (decide (0<=b)&&decide (b<(↑k:Int))) (br (decide (0+b.toNat<a.length)&&((xbj b a).length==3&&xSp [Sh.int .i64,Sh.int .i64,Sh.str] (xbj b a) 0)) (br (i==3) (br (decide (xjF b c d e a<0)) (xfC b i j f g h a κl) (xfB b i j f g h c d e a κl)) (xfB b i j f g h c d e a κl)) δ) δ) (κr (f,g,h,c,d,e))
def xch (b:Nat) (i:Int):StT (Int×Int×Int×Int×Int×List UInt8×Int×Int×List UInt8×LA) (Int×Int×List UInt8×Int×Int×List UInt8):=fun (j,k,l,f,g,h,c,d,e,a)=>xgg b i j k l f g h c d e a none inL inR
def xqm:=xGy.l 96 0 [] [(5,xjB.lp)] Tryz.f70 1 lk0 [3,4,8,68,69,70] [4,8] [] (q6 (xTh 0 0 0 0) (xTh 1 0 0 0) (xTh 2 0 0 0) (xTg 3 0 0) qI qI) (q4 (qB 0 2 74 (q1 (xTi (q2 qI qI)))) (qB 0 3 76 (q1 (xTi (q3 qI qI pStr)))) (qB 0 3 76 (q1 (xTi (q3 qI qI pStr)))) (qB 0 3 76 xS6)) (fun (_,_,_,b,i,j,_) (((k,m,_),_),((f,g,h,_),_),((c,d,e,_),_),a,_)=>(xch b i,(j,k,m,f,g,h,c,d,e,a),fun p=>(.leaf (.exit 3) [AV.own 0 0 0 0,AV.own 1 0 0 0] [bF 0 3 76 [AV.agg [AV.int .i64 p.1,AV.int .i64 p.2.1,AV.str p.2.2.1]],bF 0 3 76 [AV.agg [AV.int .i64 p.2.2.2.1,AV.int .i64 p.2.2.2.2.1,AV.str p.2.2.2.2.2]]]))) (0,0,[],0,0,[]) fun (_,_,_,b,i,_,_) _ (j,k,m,f,g,h,c,d,e,a)=>((((),(),(),b,i,j,()),(((k,m,()),()),((f,g,h,()),()),((c,d,e,()),()),a,())),xgg b i j k m f g h c d e a none)
def xlu (a:LA) (c b:Int):=Iter (xcg a (↑a.length:Int)) (0,0,c,b,0,0,[],[])
def xlt (b:LA) (c a:Int):=(xlu b c a).getD (0,0,0,0,0,[],[])
def xdO (b:LA) (c a:Int):=(xlt b c a).fst
def xls (b:LA) (c a:Int):=(xlt b c a).snd
def xb5 (b:LA) (c a:Int):=(↑(xdO b c a):Int)
def xhQ (b:LA) (c a:Int):=(xls b c a).fst
def xlr (b:LA) (c a:Int):=(xls b c a).snd
def xlq (b:LA) (c a:Int):=(xlr b c a).snd
def xna (b:LA) (c a:Int):=(xlq b c a).snd
def xm9 (b:LA) (c a:Int):=(xna b c a).snd
def xcI (b:LA) (c a:Int):=(xm9 b c a).snd
def xdN (b:LA) (c a:Int):=((xcI b c a).getD 0 .top).cells
def xlw (b:LA) (c a:Int):=(xuX (List.take (xdO b c a) (List.drop 0 (xcI b c a)))).getD (0,0,[])
def xm8 (b:LA) (c a:Int):=Iter (xch (xdO b c a) (xb5 b c a)) (0,xhQ b c a,(xlr b c a).fst,(xlq b c a).fst,(xna b c a).fst,(xm9 b c a).fst,((xdN b c a).getD 0 .top).toInt,((xdN b c a).getD 1 .top).toInt,((xdN b c a).getD 2 .top).toStr,xcI b c a)
def xlv (b:LA) (c a:Int):=(xlw b c a).snd
def xm7 (b:LA) (c a:Int):=((xm8 b c a).getD (0,0,[],0,0,[])).snd.snd.snd
def xm6 (b:LA) (c a:Int):=(xm7 b c a).snd
def xix {T:Type} (b:LA) (c a:Int) (δ:T) (κ:Int×Int×List UInt8->T):T:=br (decide (a<0)) (br ((xeM (↑b.length:Int)).isSome) (κ (((xeM (↑b.length:Int)).getD (0,0,[])).fst,((xeM (↑b.length:Int)).getD (0,0,[])).snd.fst,((xeM (↑b.length:Int)).getD (0,0,[])).snd.snd)) δ) (br ((xlu b c a).isSome) (br (xhQ b c a==1) (br ((xeM (xb5 b c a)).isSome) (κ (((xeM (xb5 b c a)).getD (0,0,[])).fst,((xeM (xb5 b c a)).getD (0,0,[])).snd.fst,((xeM (xb5 b c a)).getD (0,0,[])).snd.snd)) δ) (br (xb5 b c a==0) (κ (0,0,[])) (br (xhQ b c a==2) (br (decide (0+xdO b c a<=(xcI b c a).length)&&true) (br ((xuX (List.take (xdO b c a) (List.drop 0 (xcI b c a)))).isSome) (κ ((xlw b c a).fst,(xlv b c a).fst,(xlv b c a).snd)) δ) δ) (br (decide (0<xb5 b c a)) (br (decide (0<(xcI b c a).length)&&((xdN b c a).length==3&&xSp [Sh.int .i64,Sh.int .i64,Sh.str] (xdN b c a) 0)) (br ((xm8 b c a).isSome) (κ ((xm7 b c a).fst,(xm6 b c a).fst,(xm6 b c a).snd)) δ) δ) δ)))) δ)
def xhk (b:LA) (c a:Int):=xix b c a none some
def xBP:EO:=xGy.f Tryz.func70 96 0 [] [(5,xjB.lp),(18,xqm.lp)] (lks (lkC xjB.ok (lkC xqm.ok lkN))) (u2 (uL 1) (xTl (u2 uI uI))) (fun (b,(c,a,_),_) _=>xix b c a) (fun _ p=>AV.agg [AV.int .i64 p.1,AV.int .i64 p.2.1,AV.str p.2.2]) (0,0,[])
def xbS (a:LA) (b:Int):=(gC a b 0).toInt
def xhR {T:Type} (l c d:LA) (f:Int) (e:Nat) (a:Int) (b:LA) (δ:T) (κl:(Nat×Int×LA)->T) (κr:(Bool×(Int×Nat×LA)×(Nat×LA))->T):T:=br (decide (a<f)) (br (ixI d a) (br (ixS d a (Sh.int .i64) 0) (br (decide (xbS d a<0)) (κr (true,(6,e,b),(0,[]))) (br (decide (xbS d a>=c.length)) (κr (true,(6,e,b),(0,[]))) (br (decide (0<=xbS d a)&&decide (xbS d a<c.length)) (br (decide ((xbS d a).toNat<c.length)&&xSi (Sh.int .i64) ((c.getD (xbS d a).toNat .top).cells.getD 0 .top)) (br (rmB e b 1 8) (κl (e+1,i64.wrap (a+1),b++[AV.int .i64 ((c.getD (xbS d a).toNat .top).cells.getD 0 .top).toInt])) δ) δ) δ))) δ) δ) (κr (false,(0,0,[]),(e,b)))
def xcJ (l b d:LA) (e:Int):StT (Nat×Int×LA) (Bool×(Int×Nat×LA)×(Nat×LA)):=fun (c,f,a)=>xhR l b d e c f a none inL inR
def xly:=xBP.l 103 0 [] [] Tryz.f71 0 lk0 [1,2,8,13,14,15] [1,2,6,7,8] [(8,1,3)] (q6 (qL 2) (qL 1) (xTg 0 0 0) (qL 1) qI qI) (q1 (qB 0 1 3 xS6)) (fun (l,a,c,d,e,f,_) (b,_)=>(xcJ l a d e,(c,f,b),fun p=>(.node p.1 (.leaf .ret [AV.list 2 l,AV.list 1 a,AV.nils,AV.int .i64 p.2.1.1,AV.osl 0 0 0 p.2.1.2.1] [bF 0 1 3 p.2.1.2.2]) (.leaf (.exit 0) [AV.list 2 l,AV.list 1 a,.top,.top,AV.osl 0 0 0 p.2.2.1] [bF 0 1 3 p.2.2.2])))) (false,(0,0,[]),(0,[])) fun (l,a,_,d,e,_,_) _ (c,f,b)=>(((l,a,c,d,e,f,()),(b,())),xhR l a d e c f b none)
def xbf (a:LA) (b:Int):=(gC a b 1).toInt
def xcv (a:LA) (b:Int):=(gC a b 0).toInt
def xlz (a b:LA) (f:Int) (e:Nat) (c:Int) (d:LA):=decide (0<=xbf b c)&&decide (xbf b c<a.length)
def xlA (a b:LA) (f:Int) (e:Nat) (c:Int) (d:LA):=decide ((xbf b c).toNat<a.length)&&xSi (Sh.int .i64) ((a.getD (xbf b c).toNat .top).cells.getD 0 .top)
def xr0 (a b:LA) (f:Int) (e:Nat) (c:Int) (d:LA):=decide (xbf b c>=a.length)
def xr1 (d a:LA) (f:Int) (e:Nat) (b:Int) (c:LA):=decide (xbf a b<0)
def xr2 (a:LA) (b:Int):=xcv a b==3
def xr3 (a:LA) (b:Int):=xcv a b==4
def xgi {T:Type} (c e:LA) (f:Int) (b:Nat) (d:Int) (a:LA) (δ:T) (κl:(Nat×Int×LA)->T):T:=br (xlz c e f b d a) (br (xlA c e f b d a) (br (rmB b a 1 8) (κl (b+1,i64.wrap (d+1),a++[AV.int .i64 ((c.getD (xbf e d).toNat .top).cells.getD 0 .top).toInt])) δ) δ) δ
def xeG {T:Type} (d e:LA) (f:Int) (b:Nat) (c:Int) (a:LA) (δ:T) (κl:(Nat×Int×LA)->T):T:=br (xr2 e c) (xgi d e f b c a δ κl) (br (xr3 e c) (xgi d e f b c a δ κl) (br (rmB b a 1 8) (κl (b+1,i64.wrap (c+1),a++[AV.int .i64 1])) δ))
def xgh {T:Type} (c d:LA) (f:Int) (b:Nat) (e:Int) (a:LA) (δ:T) (κl:(Nat×Int×LA)->T) (κr:(Bool×(Int×Nat×LA)×(Nat×LA))->T):T:=br (xr1 c d f b e a) (κr (true,(6,b,a),(0,[]))) (br (xr0 c d f b e a) (κr (true,(6,b,a),(0,[]))) (br (xcv d e==2) (br (xlz c d f b e a) (br (xlA c d f b e a) (br (((c.getD (xbf d e).toNat .top).cells.getD 0 .top).toInt != 1) (κr (true,(7,b,a),(0,[]))) (xeG c d f b e a δ κl)) δ) δ) (xeG c d f b e a δ κl)))
def xhS {T:Type} (e d:LA) (f:Int) (b:Nat) (c:Int) (a:LA) (δ:T) (κl:(Nat×Int×LA)->T) (κr:(Bool×(Int×Nat×LA)×(Nat×LA))->T):T:=br (decide (c<f)) (br (ixI d c) (br (ixT d c 2 [Sh.int .i64,Sh.int .i64] 0) (br (decide (xcv d c<1)) (κr (true,(7,b,a),(0,[]))) (br (decide (xcv d c>4)) (κr (true,(7,b,a),(0,[]))) (br (xbf d c==(-1)) (br (xcv d c==1) (xeG e d f b c a δ κl) (xgh e d f b c a δ κl κr)) (xgh e d f b c a δ κl κr)))) δ) δ) (κr (false,(0,0,[]),(b,a)))
def xcK (b d:LA) (e:Int):StT (Nat×Int×LA) (Bool×(Int×Nat×LA)×(Nat×LA)):=fun (c,f,a)=>xhS b d e c f a none inL inR
def xrx:=xBP.l 103 0 [] [(3,xly.lp)] Tryz.f71 1 lk0 [2,8,35,36,37] [6,7,8] [(8,1,3)] (q5 (qL 1) (xTg 0 0 0) (qL 2) qI qI) (q1 (qB 0 1 3 xS6)) (fun (b,c,d,e,f,_) (a,_)=>(xcK b d e,(c,f,a),fun p=>(.node p.1 (.leaf .ret [AV.nils,AV.int .i64 p.2.1.1,AV.osl 0 0 0 p.2.1.2.1] [bF 0 1 3 p.2.1.2.2]) (.leaf (.exit 2) [.top,.top,AV.osl 0 0 0 p.2.2.1] [bF 0 1 3 p.2.2.2])))) (false,(0,0,[]),(0,[])) fun (b,_,d,e,_,_) _ (c,f,a)=>(((b,c,d,e,f,()),(a,())),xhS b d e c f a none)
def xe1:Env:=xBP.E.fn 103 0 (lsOf []) (xSH [(3,xly.lp),(10,xrx.lp)])
theorem xAo:xSk P0 (xS1.at 0) xe1:=xBP.ok.fn
theorem xzy:LoOk P0 (xS1.at xe1.pin) xe1 (Tryz.f71.body.getD .skip):=xgK (ls:=[xSo Tryz.f71 0,xSo Tryz.f71 1]) (by kernel_rfl) (lkC xly.ok (lkC xrx.ok lkN))
def xgC (a l b:LA):=Iter (xcJ l b a (↑a.length:Int)) (0,0,[])
def xgB (b l a:LA):=(xgC b l a).getD (false,(0,0,[]),0,[])
def xgA (b l a:LA):=(xgB b l a).snd
def xgz (b l a:LA):=(xgA b l a).snd
def xgy (b l a:LA):=Iter (xcK a l (↑l.length:Int)) ((xgz b l a).fst,0,(xgz b l a).snd)
def xgw (b l a:LA):=(xgy b l a).getD (false,(0,0,[]),0,[])
def xgv (b l a:LA):=(xgw b l a).snd
def xgu (b l a:LA):=(xgv b l a).snd
def xgs (b l a:LA):=(xgu b l a).fst
def xgt (b l a:LA):=(xgu b l a).snd
def xk5 {T:Type} (b l a:LA) (δ:T) (κ:Bool×(Int)×(LA×Int)->T):T:=br ((xgC b l a).isSome) (br ((xgB b l a).fst) (κ (true,((xgA b l a).fst.fst),([],0))) (br ((xgy b l a).isSome) (br ((xgw b l a).fst) (κ (true,((xgv b l a).fst.fst),([],0))) (br (decide (0+xgs b l a<=(xgt b l a).length)&&true) (κ (false,0,(List.take (xgs b l a) (List.drop 0 (xgt b l a)),0))) δ)) δ)) δ
def xc7 (b l a:LA):Option (LA×Int):=xk5 b l a none (fun (p:Bool×(Int)×(LA×Int))=>some (br p.1 (([],p.2.1)) p.2.2))
theorem xCv (b l a:LA):EncS (fun (p:LA×Int)=>(AV.tuple [AV.list 1 p.1,AV.int .i64 p.2]:AV)) (xc7 b l a) (XF P0 xe1 Tryz.f71 (Tryz.f71.body.getD .skip) [AV.list 1 b,AV.list 2 l,AV.list 1 a]):=by
 have h:XF P0 xe1 Tryz.f71 (Tryz.f71.body.getD .skip) [AV.list 1 b,AV.list 2 l,AV.list 1 a]=xk5 b l a none (fun (p:Bool×(Int)×(LA×Int))=>some ((br p.1 (AV.tuple [AV.nils,AV.int .i64 p.2.1]) (AV.tuple [AV.list 1 p.2.2.1,AV.int .i64 p.2.2.2])):AV)):=by kernel_rfl
 rw [h];unfold xc7 xk5;repeat' (first|exact EncS.none|exact EncS.some (Sub.refl _)|exact EncS.some (xBr _)|exact EncS.some (xBG _ _)|refine EncS.br ?_ ?_)
def xCu:LA->Option (Bool×AV):=ocOf (xS3 (xTk 1 xS6) (xS3 (xTk 2 xS6) (xS3 (xTk 1 xS6) xS5))) fun (b,(l,(a,_)))=>((xc7 b l a).isSome,(AV.tuple [AV.list 1 ((xc7 b l a).getD ([],0)).1,AV.int .i64 ((xc7 b l a).getD ([],0)).2]))
theorem xCt:OcOk P0 xS1 71 (xCu):=xmw fun e j f=>by
 obtain ⟨g,⟨l,⟨c,_⟩⟩⟩:=e;obtain ⟨a,b⟩:=Prod.mk.inj f;obtain ⟨y,h,i⟩:=xCv _ _ _ _ (xcf (d:=([],0)) a);have hg:Good P0 xS1 71 _ _:=xdT (p:=xe1.pin) (xf4 xSt (xSu P0 _) rfl xAo Tryz.func71 rfl (by kernel_rfl) xzy h)
 rw [<-b];exact Good.sub hg i
def xPI:EO:=xBP.w xCt
def xwa {T:Type} (a b:LA) (δ:T) (κ:LA×LA->T):T:=br (decide ((0+a.length)*8<=140737488355328)&&decide (0+a.length<=4611686018427387904)) (br ((xnW b).isSome) (br (decide (0+(0+a.length)<=([]++a).length)&&true&&true) (κ (List.take (0+a.length) (List.drop 0 ([]++a)),(xnW b).getD [])) δ) δ) δ
def xuM (a b:LA):=xwa a b none some
def xAD:EO:=xPI.f Tryz.func72 11 0 [] [] lk0 (u2 (uL 1) (uL 1)) (fun (a,b,_) _=>xwa a b) (fun _ p=>AV.agg [AV.list 1 p.1,AV.list 1 p.2]) ([],[])
def xed {T:Type} (a:List UInt8) (i:Int) (δ:T) (κl:(Int)->T) (κr:(Bool×(Bool)×(Unit))->T):T:=br (decide (i<a.length)) (br (decide (0<=i)&&decide (i<a.length)) (br (decide ((↑(a.getD i.toNat (0:UInt8)).toNat:Int)<32)) (κr (true,(false),())) (br (decide (0<=i)&&decide (i<a.length)) (br (decide ((↑(a.getD i.toNat (0:UInt8)).toNat:Int)>126)) (κr (true,(false),())) (κl (i64.wrap (i+1)))) δ)) δ) (κr (false,false,()))
def xbb (a:List UInt8):StT (Int) (Bool×(Bool)×(Unit)):=fun (i)=>xed a i none inL inR
def xtr:=xAD.l 20 0 [] [] Tryz.f127 0 lk0 [0,3] [2] [] (q2 pStr qI) xS4 (fun (a,i,_) _=>(xbb a,(i),fun p=>(.node p.1 (.leaf .ret [AV.bool p.2.1] []) (.leaf (.exit 0) [.top] [])))) (false,false,()) fun (a,_,_) _ (i)=>(((a,i,()),()),xed a i none)
def xrl {T:Type} (a:List UInt8) (δ:T) (κ:Bool->T):T:=br ((Iter (xbb a) 0).isSome) (br (((Iter (xbb a) 0).getD (false,false,())).fst) (κ (((Iter (xbb a) 0).getD (false,false,())).snd.fst)) (κ (true))) δ
def xo0 (a:List UInt8):=xrl a none some
def xPJ:EO:=xAD.f Tryz.func127 20 0 [] [(2,xtr.lp)] (lk1 xtr.ok) (u1 (sEq pStr)) (fun (a,_) _=>xrl a) (fun _ p=>AV.bool p) false
def xso {T:Type} (c a:Int) (b:List UInt8) (δ:T) (κ:Bool->T):T:=br (c==0) (br (a==0) (κ (b==[])) (κ (false))) (br (c==1) (br (b==[]) (br (decide (a>=(-1125899906842624))) (κ (decide (a<=1125899906842624))) (κ (false))) (κ (false))) (br (c==2) (br (a==0) (br (decide ((↑b.length:Int)<=200)) (br ((xo0 b).isSome) (κ ((xo0 b).getD false)) δ) (κ (false))) (κ (false))) (br (c==3) (br (b==[]) (br (a==0) (κ (true)) (κ (a==1))) (κ (false))) (κ (false)))))
def xob (a b:Int) (c:List UInt8):=xso a b c none some
def xPK:EO:=xPJ.f Tryz.func94 61 0 [] [] lk0 (u1 (xTl (u3 uI uI (sEq pStr)))) (fun ((a,b,c,_),_) _=>xso a b c) (fun _ p=>AV.bool p) false
def xw5 {T:Type} (a b:Int) (c:List UInt8) (δ:T) (κ:Int×Int×List UInt8->T):T:=br ((xob a b c).isSome) (br ((xob a b c).getD false) (κ (a,b,c)) (κ (0,0,[]))) δ
def xrW (a b:Int) (c:List UInt8):=xw5 a b c none some
def xPL:EO:=xPK.f Tryz.func151 7 0 [] [] lk0 (u1 (xTl (u3 uI uI (sEq pStr)))) (fun ((a,b,c,_),_) _=>xw5 a b c) (fun _ p=>AV.agg [AV.int .i64 p.1,AV.int .i64 p.2.1,AV.str p.2.2]) (0,0,[])
def xAc {T:Type} (n:Int) (δ:T) (κ:Int×Int×List UInt8->T):T:=br ((xrW 1 n []).isSome) (κ (((xrW 1 n []).getD (0,0,[])).fst,((xrW 1 n []).getD (0,0,[])).snd.fst,((xrW 1 n []).getD (0,0,[])).snd.snd)) δ
def xdY (n:Int):=xAc n none some
def xK7:EO:=xPL.f Tryz.func121 6 0 [] [] lk0 (u1 uI) (fun (n,_) _=>xAc n) (fun _ p=>AV.agg [AV.int .i64 p.1,AV.int .i64 p.2.1,AV.str p.2.2]) (0,0,[])
def xnK (a l:LA) (i:Int):=(xpx a (gC l i 0).toInt).getD (0,0,[])
def xnJ (a l:LA) (i:Int):=(xnK a l i).snd
def xo1 {T:Type} (c l:LA) (b:Nat) (i:Int) (a:LA) (δ:T) (κl:(Nat×Int×LA)->T) (κr:(Nat×LA)->T):T:=br (decide (i<l.length)) (br (ixI l i) (br (ixS l i (Sh.int .i64) 0) (br ((xpx c (gC l i 0).toInt).isSome) (br (rmB b a 1 32) (κl (b+1,i64.wrap (i+1),a++[AV.agg [AV.int .i64 (xnK c l i).fst,AV.int .i64 (xnJ c l i).fst,AV.str (xnJ c l i).snd]])) δ) δ) δ) δ) (κr (b,a))
def xfk (c l:LA):StT (Nat×Int×LA) (Nat×LA):=fun (b,i,a)=>xo1 c l b i a none inL inR
def xzh:=xK7.l 24 0 [] [] Tryz.f54 0 lk0 [0,1,5,6] [5] [(5,3,76)] (q4 (qL 3) (qL 1) (xTg 0 0 0) qI) (q1 (qB 0 3 76 xS6)) (fun (c,l,b,i,_) (a,_)=>(xfk c l,(b,i,a),fun p=>(.leaf (.exit 0) [AV.osl 0 0 0 p.1] [bF 0 3 76 p.2]))) (0,[]) fun (c,l,_,_,_) _ (b,i,a)=>(((c,l,b,i,()),(a,())),xo1 c l b i a none)
def xw9 (a l:LA):=(Iter (xfk a l) (0,0,[])).getD (0,[])
def xw7 (a l:LA):=(xw9 a l).snd
def xw8 (a l:LA):=(xw9 a l).fst
def xzi {T:Type} (a l:LA) (δ:T) (κ:LA->T):T:=br ((Iter (xfk a l) (0,0,[])).isSome) (br (decide (0+xw8 a l<=(xw7 a l).length)&&true) (κ (List.take (xw8 a l) (List.drop 0 (xw7 a l)))) δ) δ
def xyK (a l:LA):=xzi a l none some
def xK8:EO:=xK7.f Tryz.func54 24 0 [] [(3,xzh.lp)] (lk1 xzh.ok) (u2 (uL 3) (uL 1)) (fun (a,l,_) _=>xzi a l) (fun _ p=>AV.list 3 p) []
def xe6 (a:LA) (i:Int):=ixI a i
def xgR (a:LA) (i:Int):=xob (gC a i 0).toInt (gC a i 1).toInt (gC a i 2).toStr
def xfY {T:Type} (a b:LA) (i:Int) (δ:T) (κl:(Int)->T) (κr:(Bool×(Bool)×(Unit))->T):T:=br (decide (i<a.length)) (br (xe6 a i) (br (ixT a i 3 [Sh.int .i64,Sh.int .i64,Sh.str] 0) (br ((xgR a i).isSome) (br (!(xgR a i).getD false) (κr (true,(false),())) (br (xe6 a i) (br (ixS a i (Sh.int .i64) 0) (br ((gC a i 0).toInt != 0) (br (xe6 a i) (br (ixS a i (Sh.int .i64) 0) (br (ixI b i) (br (ixS b i (Sh.int .i64) 0) (br ((gC a i 0).toInt != (gC b i 0).toInt) (κr (true,(false),())) (κl (i64.wrap (i+1)))) δ) δ) δ) δ) (κl (i64.wrap (i+1)))) δ) δ)) δ) δ) δ) (κr (false,false,()))
def xbA (b a:LA):StT (Int) (Bool×(Bool)×(Unit)):=fun (i)=>xfY b a i none inL inR
def xze:=xK8.l 43 0 [] [] Tryz.f62 0 lk0 [0,1,5] [4] [] (q3 (qL 3) (qL 1) qI) xS4 (fun (b,a,i,_) _=>(xbA b a,(i),fun p=>(.node p.1 (.leaf .ret [AV.bool p.2.1] []) (.leaf (.exit 0) [.top] [])))) (false,false,()) fun (b,a,_,_) _ (i)=>(((b,a,i,()),()),xfY b a i none)
def xzf {T:Type} (b a:LA) (δ:T) (κ:Bool->T):T:=br ((↑b.length:Int) != (↑a.length:Int)) (κ (false)) (br ((Iter (xbA b a) 0).isSome) (br (((Iter (xbA b a) 0).getD (false,false,())).fst) (κ (((Iter (xbA b a) 0).getD (false,false,())).snd.fst)) (κ (true))) δ)
def xyJ (b a:LA):=xzf b a none some
def xPM:EO:=xK8.f Tryz.func62 43 0 [] [(4,xze.lp)] (lk1 xze.ok) (u2 (uL 3) (uL 1)) (fun (b,a,_) _=>xzf b a) (fun _ p=>AV.bool p) false
def xBc (k:Int):Bool:=(br (k==1) ((true)) (br (k==2) ((true)) ((k==3))))
def xHz {T:Type} (k:Int) (δ:T) (κ:Bool->T):T:=br (k==1) (κ (true)) (br (k==2) (κ (true)) (κ (k==3)))
def xK9:EO:=xPM.fT Tryz.func95 13 0 [] [] lk0 (fun (k,_)=>xHz k none) (u1 uI) (fun (k,_)=>xBc k) (fun _ p=>(AV.bool p))
def xjt {T:Type} (l:LA) (i:Int) (δ:T) (κl:(Int)->T) (κr:(Bool×(Bool)×(Unit))->T):T:=br (decide (i<l.length)) (br (ixI l i) (br (ixS l i (Sh.int .i64) 0) (br (!xBc (gC l i 0).toInt) (κr (true,(false),())) (κl (i64.wrap (i+1)))) δ) δ) (κr (false,false,()))
def xbx (l:LA):StT (Int) (Bool×(Bool)×(Unit)):=fun (i)=>xjt l i none inL inR
def xyw:=xK9.l 16 0 [] [] Tryz.f63 0 lk0 [0,3] [2] [] (q2 (qL 1) qI) xS4 (fun (l,i,_) _=>(xbx l,(i),fun p=>(.node p.1 (.leaf .ret [AV.bool p.2.1] []) (.leaf (.exit 0) [.top] [])))) (false,false,()) fun (l,_,_) _ (i)=>(((l,i,()),()),xjt l i none)
def xya {T:Type} (l:LA) (δ:T) (κ:Bool->T):T:=br ((Iter (xbx l) 0).isSome) (br (((Iter (xbx l) 0).getD (false,false,())).fst) (κ (((Iter (xbx l) 0).getD (false,false,())).snd.fst)) (κ (true))) δ
def xAd (l:LA):=xya l none some
def xBR:EO:=xK9.f Tryz.func63 16 0 [] [(2,xyw.lp)] (lk1 xyw.ok) (u1 (uL 1)) (fun (l,_) _=>xya l) (fun _ p=>AV.bool p) false
def xjT (a:LA) (i:Int):=ixI a i
def xjU (a:LA) (i:Int):=decide (i.toNat<a.length)&&xSi (Sh.int .i64) (gC a i 0)
def xcB (a:LA) (i:Int):=(gC a i 0).toInt
def xkv {T:Type} (c a l:LA) (d:Nat) (i:Int) (b:LA) (δ:T) (κl:(Nat×Int×LA)->T) (κr:(Bool×(Int×Nat×LA)×(Nat×LA))->T):T:=br (decide (i<a.length)) (br (xjT a i) (br (xjU a i) (br (decide (xcB a i<0)) (κr (true,(6,d,b),(0,[]))) (br (xjT a i) (br (xjU a i) (br (decide (xcB a i>=c.length)) (κr (true,(6,d,b),(0,[]))) (br (xjT a i) (br (xjU a i) (br (decide (0<=xcB a i)&&decide (xcB a i<c.length)) (br (decide ((xcB a i).toNat<c.length)&&xSi (Sh.int .i64) ((c.getD (xcB a i).toNat .top).cells.getD 0 .top)) (br (rmB d b 1 8) (κl (d+1,i64.wrap (i+1),b++[AV.int .i64 ((c.getD (xcB a i).toNat .top).cells.getD 0 .top).toInt])) δ) δ) δ) δ) δ)) δ) δ)) δ) δ) (κr (false,(0,0,[]),(d,b)))
def xdJ (b d l:LA):StT (Nat×Int×LA) (Bool×(Int×Nat×LA)×(Nat×LA)):=fun (c,i,a)=>xkv b d l c i a none inL inR
def xoM:=xBR.l 122 0 [] [] Tryz.f36 0 lk0 [0,1,2,8,9] [0,2,6,7,8] [(8,1,3)] (q5 (qL 1) (qL 1) (qL 2) (xTg 0 0 0) qI) (q1 (qB 0 1 3 xS6)) (fun (a,d,l,c,i,_) (b,_)=>(xdJ a d l,(c,i,b),fun p=>(.node p.1 (.leaf .ret [AV.list 1 a,AV.list 2 l,AV.nils,AV.int .i64 p.2.1.1,AV.osl 0 0 0 p.2.1.2.1] [bF 0 1 3 p.2.1.2.2]) (.leaf (.exit 0) [AV.list 1 a,AV.list 2 l,.top,.top,AV.osl 0 0 0 p.2.2.1] [bF 0 1 3 p.2.2.2])))) (false,(0,0,[]),(0,[])) fun (a,d,l,_,_,_) _ (c,i,b)=>(((a,d,l,c,i,()),(b,())),xkv a d l c i b none)
def xbZ (l:LA) (i:Int):=(gC l i 0).toInt
def xbv (l:LA) (i:Int):=(gC l i 1).toInt
def xoN (a l:LA) (c:Nat) (i:Int) (b:LA):=decide (0<=xbv l i)&&decide (xbv l i<a.length)
def xoO (a l:LA) (c:Nat) (i:Int) (b:LA):=decide ((xbv l i).toNat<a.length)&&xSi (Sh.int .i64) ((a.getD (xbv l i).toNat .top).cells.getD 0 .top)
def xvr (a l:LA) (c:Nat) (i:Int) (b:LA):=decide (xbv l i>=a.length)
def xvs (b l:LA) (c:Nat) (i:Int) (a:LA):=decide (xbv l i<0)
def xvt (l:LA) (i:Int):=xbZ l i==4
def xvu (l:LA) (i:Int):=xbZ l i==3
def xvv (a l:LA) (i:Int):=((a.getD (xbv l i).toNat .top).cells.getD 0 .top).toInt != 1
def xvw (l:LA) (i:Int):=xbZ l i==2
def xvy (l:LA) (i:Int):=xbv l i==(-1)
def xim {T:Type} (c l:LA) (b:Nat) (i:Int) (a:LA) (δ:T) (κl:(Nat×Int×LA)->T):T:=br (xoN c l b i a) (br (xoO c l b i a) (br (rmB b a 1 8) (κl (b+1,i64.wrap (i+1),a++[AV.int .i64 ((c.getD (xbv l i).toNat .top).cells.getD 0 .top).toInt])) δ) δ) δ
def xin {T:Type} (b:Nat) (i:Int) (a:LA) (δ:T) (κl:(Nat×Int×LA)->T):T:=br (rmB b a 1 8) (κl (b+1,i64.wrap (i+1),a++[AV.int .i64 1])) δ
def xio {T:Type} (c l:LA) (b:Nat) (i:Int) (a:LA) (δ:T) (κl:(Nat×Int×LA)->T):T:=br (xvu l i) (xim c l b i a δ κl) (br (xvt l i) (xim c l b i a δ κl) (xin b i a δ κl))
def xil {T:Type} (c l:LA) (b:Nat) (i:Int) (a:LA) (δ:T) (κl:(Nat×Int×LA)->T) (κr:(Bool×(Int×Nat×LA)×(Nat×LA))->T):T:=br (xvs c l b i a) (κr (true,(6,b,a),(0,[]))) (br (xvr c l b i a) (κr (true,(6,b,a),(0,[]))) (br (xvw l i) (br (xoN c l b i a) (br (xoO c l b i a) (br (xvv c l i) (κr (true,(7,b,a),(0,[]))) (xio c l b i a δ κl)) δ) δ) (xio c l b i a δ κl)))
def xef {T:Type} (c l:LA) (b:Nat) (i:Int) (a:LA) (δ:T) (κl:(Nat×Int×LA)->T) (κr:(Bool×(Int×Nat×LA)×(Nat×LA))->T):T:=br (xvy l i) (br (xbZ l i==1) (xin b i a δ κl) (xil c l b i a δ κl κr)) (xil c l b i a δ κl κr)
def xkw {T:Type} (c l:LA) (b:Nat) (i:Int) (a:LA) (δ:T) (κl:(Nat×Int×LA)->T) (κr:(Bool×(Int×Nat×LA)×(Nat×LA))->T):T:=br (decide (i<l.length)) (br (ixI l i) (br (ixT l i 2 [Sh.int .i64,Sh.int .i64] 0) (br (xbZ l i != 1) (br (xbZ l i != 2) (br (xbZ l i != 3) (br (xbZ l i != 4) (κr (true,(7,b,a),(0,[]))) (xef c l b i a δ κl κr)) (xef c l b i a δ κl κr)) (xef c l b i a δ κl κr)) (xef c l b i a δ κl κr)) δ) δ) (κr (false,(0,0,[]),(b,a)))
def xdK (b l:LA):StT (Nat×Int×LA) (Bool×(Int×Nat×LA)×(Nat×LA)):=fun (c,i,a)=>xkw b l c i a none inL inR
def xvq:=xBR.l 122 0 [] [(3,xoM.lp)] Tryz.f36 1 lk0 [0,2,8,10] [6,7,8] [(8,1,3)] (q4 (qL 1) (qL 2) (xTg 0 0 0) qI) (q1 (qB 0 1 3 xS6)) (fun (b,l,c,i,_) (a,_)=>(xdK b l,(c,i,a),fun p=>(.node p.1 (.leaf .ret [AV.nils,AV.int .i64 p.2.1.1,AV.osl 0 0 0 p.2.1.2.1] [bF 0 1 3 p.2.1.2.2]) (.leaf (.exit 2) [.top,.top,AV.osl 0 0 0 p.2.2.1] [bF 0 1 3 p.2.2.2])))) (false,(0,0,[]),(0,[])) fun (b,l,_,_,_) _ (c,i,a)=>(((b,l,c,i,()),(a,())),xkw b l c i a none)
def xgT:Env:=xBR.E.fn 122 0 (lsOf []) (xSH [(3,xoM.lp),(9,xvq.lp)])
theorem xBM:xSk P0 (xS1.at 0) xgT:=xBR.ok.fn
theorem xAO:LoOk P0 (xS1.at xgT.pin) xgT (Tryz.f36.body.getD .skip):=xgK (ls:=[xSo Tryz.f36 0,xSo Tryz.f36 1]) (by kernel_rfl) (lkC xoM.ok (lkC xvq.ok lkN))
def xjs (a b l:LA):=Iter (xdJ a b l) (0,0,[])
def xjr (a b l:LA):=(xjs a b l).getD (false,(0,0,[]),0,[])
def xjq (a b l:LA):=(xjr a b l).snd
def xjp (a b l:LA):=(xjq a b l).snd
def xjo (a b l:LA):=Iter (xdK a l) ((xjp a b l).fst,0,(xjp a b l).snd)
def xjn (a b l:LA):=(xjo a b l).getD (false,(0,0,[]),0,[])
def xjm (a b l:LA):=(xjn a b l).snd
def xjl (a b l:LA):=(xjm a b l).snd
def xjj (a b l:LA):=(xjl a b l).snd
def xjk (a b l:LA):=(xjl a b l).fst
def xpe {T:Type} (a b l:LA) (δ:T) (κ:Bool×(Int)×(LA×Int)->T):T:=br ((xjs a b l).isSome) (br ((xjr a b l).fst) (κ (true,((xjq a b l).fst.fst),([],0))) (br ((xjo a b l).isSome) (br ((xjn a b l).fst) (κ (true,((xjm a b l).fst.fst),([],0))) (br (decide (0+xjk a b l<=(xjj a b l).length)&&true) (κ (false,0,(List.take (xjk a b l) (List.drop 0 (xjj a b l)),0))) δ)) δ)) δ
def xbV (a b l:LA):Option (LA×Int):=xpe a b l none (fun (p:Bool×(Int)×(LA×Int))=>some (br p.1 (([],p.2.1)) p.2.2))
theorem xEu (a b l:LA):EncS (fun (p:LA×Int)=>(AV.tuple [AV.list 1 p.1,AV.int .i64 p.2]:AV)) (xbV a b l) (XF P0 xgT Tryz.f36 (Tryz.f36.body.getD .skip) [AV.list 1 a,AV.list 1 b,AV.list 2 l]):=by
 have h:XF P0 xgT Tryz.f36 (Tryz.f36.body.getD .skip) [AV.list 1 a,AV.list 1 b,AV.list 2 l]=xpe a b l none (fun (p:Bool×(Int)×(LA×Int))=>some ((br p.1 (AV.tuple [AV.nils,AV.int .i64 p.2.1]) (AV.tuple [AV.list 1 p.2.2.1,AV.int .i64 p.2.2.2])):AV)):=by kernel_rfl
 rw [h];unfold xbV xpe;repeat' (first|exact EncS.none|exact EncS.some (Sub.refl _)|exact EncS.some (xBr _)|exact EncS.some (xBG _ _)|refine EncS.br ?_ ?_)
def xEt:LA->Option (Bool×AV):=ocOf (xS3 (xTk 1 xS6) (xS3 (xTk 1 xS6) (xS3 (xTk 2 xS6) xS5))) fun (a,(b,(l,_)))=>((xbV a b l).isSome,(AV.tuple [AV.list 1 ((xbV a b l).getD ([],0)).1,AV.int .i64 ((xbV a b l).getD ([],0)).2]))
theorem xEs:OcOk P0 xS1 36 (xEt):=xmw fun e j f=>by
 obtain ⟨c,⟨g,⟨l,_⟩⟩⟩:=e;obtain ⟨a,b⟩:=Prod.mk.inj f;obtain ⟨y,h,i⟩:=xEu _ _ _ _ (xcf (d:=([],0)) a);have hg:Good P0 xS1 36 _ _:=xdT (p:=xgT.pin) (xf4 xSt (xSu P0 _) rfl xBM Tryz.func36 rfl (by kernel_rfl) xAO h)
 rw [<-b];exact Good.sub hg i
def xDR:EO:=xBR.w xEs
def xmP (b:LA) (i c a:Int):=decide (0<=a)&&decide (a<(↑(gC b i 0).toList.length:Int))
def xmQ (a:LA) (i c b:Int):=decide (b.toNat<(gC a i 0).toList.length)
def xb3 (a:LA) (i b:Int):=((gC a i 0).toList.getD b.toNat .top).cells
def xii {T:Type} (a:LA) (h:Nat) (i c b e f:Int) (g:List UInt8) (d:LA) (δ:T) (κl:(Nat×Int×Int×Int×Int×Int×List UInt8×LA)->T) (κr:(Nat×Int×Int×Int×Int×List UInt8×LA)->T):T:=br (decide (i<a.length)) (br (ixI a i) (br (ixS a i (Sh.list 3) 0) (br (xmP a i c b) (br (xmQ a i c b&&xSi (Sh.int .i64) ((xb3 a i b).getD 0 .top)) (br (((xb3 a i b).getD 0 .top).toInt != 0) (br (ixI a i) (br (ixS a i (Sh.list 3) 0) (br (xmP a i c b) (br (xmQ a i c b&&((xb3 a i b).length==3&&xSp [Sh.int .i64,Sh.int .i64,Sh.str] (xb3 a i b) 0)) (br (rmB h d 1 32) (κl (h+1,i64.wrap (i+1),c,b,e,f,g,d++[AV.agg [AV.int .i64 ((xb3 a i b).getD 0 .top).toInt,AV.int .i64 ((xb3 a i b).getD 1 .top).toInt,AV.str ((xb3 a i b).getD 2 .top).toStr]])) δ) δ) δ) δ) δ) (κl (h,i64.wrap (i+1),c,b,e,f,g,d))) δ) δ) δ) δ) (κr (h,c,b,e,f,g,d))
def xcW (a:LA):StT (Nat×Int×Int×Int×Int×Int×List UInt8×LA) (Nat×Int×Int×Int×Int×List UInt8×LA):=fun (f,i,g,h,b,c,d,e)=>xii a f i g h b c d e none inL inR
def xht:=xDR.l 135 0 [3000052] [] Tryz.f87 0 lk0 [0,3,4,5,6] [3,4,5] [(5,3,76)] (q5 (qL 1) (xTh 0 0 0 0) (xTh 1 0 0 0) (xTg 2 0 0) qI) (q3 (qB 0 2 74 (q1 (xTi (q2 qI qI)))) (qB 0 3 76 (q1 (xTi (q3 qI qI pStr)))) (qB 0 3 76 xS6)) (fun (a,_,_,f,i,_) (((g,h,_),_),((b,c,d,_),_),e,_)=>(xcW a,(f,i,g,h,b,c,d,e),fun p=>(.leaf (.exit 0) [AV.own 0 0 0 0,AV.own 1 0 0 0,AV.osl 2 0 0 p.1] [bF 0 2 74 [AV.agg [AV.int .i64 p.2.1,AV.int .i64 p.2.2.1]],bF 0 3 76 [AV.agg [AV.int .i64 p.2.2.2.1,AV.int .i64 p.2.2.2.2.1,AV.str p.2.2.2.2.2.1]],bF 0 3 76 p.2.2.2.2.2.2]))) (0,0,0,0,0,[],[]) fun (a,_,_,_,_,_) _ (f,i,g,h,b,c,d,e)=>(((a,(),(),f,i,()),(((g,h,()),()),((b,c,d,()),()),e,())),xii a f i g h b c d e none)
def xij {T:Type} (l:LA) (a e i b c:Int) (d:List UInt8) (δ:T) (κl:(Int×Int×Int×Int×Int×List UInt8)->T) (κr:(Int×Int×Int×Int×List UInt8)->T):T:=br (decide (i<l.length)) (br (ixI l i) (br (ixS l i (Sh.int .i64) 1) (br (ixI l i) (br (ixS l i (Sh.int .i64) 1) (κl (i64.wrap (a+i64.wrap ((gC l i 1).toInt.tdiv 1048576)),i64.wrap (e+(gC l i 1).toInt.tmod 1048576),i64.wrap (i+1),b,c,d)) δ) δ) δ) δ) (κr (a,e,b,c,d))
def xcX (l:LA):StT (Int×Int×Int×Int×Int×List UInt8) (Int×Int×Int×Int×List UInt8):=fun (a,e,i,b,c,d)=>xij l a e i b c d none inL inR
def xmR:=xDR.l 135 0 [3000052] [(5,xht.lp)] Tryz.f87 1 lk0 [4,5,7,8,9] [4,7,8] [(5,3,76)] (q5 (xTh 0 0 0 0) (qL 3) qI qI qI) (q1 (qB 0 3 76 (q1 (xTi (q3 qI qI pStr))))) (fun (_,l,a,e,i,_) (((b,c,d,_),_),_)=>(xcX l,(a,e,i,b,c,d),fun p=>(.leaf (.exit 2) [AV.own 0 0 0 0,AV.int .i64 p.1,AV.int .i64 p.2.1] [bF 0 3 76 [AV.agg [AV.int .i64 p.2.2.1,AV.int .i64 p.2.2.2.1,AV.str p.2.2.2.2]]]))) (0,0,0,0,[]) fun (_,l,_,_,_,_) _ (a,e,i,b,c,d)=>((((),l,a,e,i,()),(((b,c,d,()),()),())),xij l a e i b c d none)
def xmS (l:LA) (i:Int):=decide (i.toNat<l.length)&&((l.getD i.toNat .top).cells.length==3&&xSp [Sh.int .i64,Sh.int .i64,Sh.str] (l.getD i.toNat .top).cells 0)
def xmT (l:LA) (i a b:Int) (c:List UInt8):=xhW (gC l i 0).toInt (gC l i 1).toInt (gC l i 2).toStr a b c
def xg6 {T:Type} (l:LA) (i d e a b:Int) (c:List UInt8) (δ:T) (κl:(Int×Int×Int×Int×Int×List UInt8×Int×Int×List UInt8)->T):T:=br (ixI l i) (br (xmS l i) (κl (i64.wrap (i+1),d,e,a,b,c,(gC l i 0).toInt,(gC l i 1).toInt,(gC l i 2).toStr)) δ) δ
def xg7 {T:Type} (l:LA) (i g h d e:Int) (f:List UInt8) (a b:Int) (c:List UInt8) (δ:T) (κl:(Int×Int×Int×Int×Int×List UInt8×Int×Int×List UInt8)->T):T:=br (g==4) (br (decide (xmT l i a b c>0)) (xg6 l i g h d e f δ κl) (κl (i64.wrap (i+1),g,h,d,e,f,a,b,c))) (κl (i64.wrap (i+1),g,h,d,e,f,a,b,c))
def xik {T:Type} (l:LA) (i g h d e:Int) (f:List UInt8) (a b:Int) (c:List UInt8) (δ:T) (κl:(Int×Int×Int×Int×Int×List UInt8×Int×Int×List UInt8)->T) (κr:(Int×Int×List UInt8×Int×Int×List UInt8)->T):T:=br (decide (i<l.length)) (br (ixI l i) (br (xmS l i) (br (g==3) (br (decide (xmT l i a b c<0)) (xg6 l i g h d e f δ κl) (xg7 l i g h d e f a b c δ κl)) (xg7 l i g h d e f a b c δ κl)) δ) δ) (κr (d,e,f,a,b,c))
def xcY (l:LA):StT (Int×Int×Int×Int×Int×List UInt8×Int×Int×List UInt8) (Int×Int×List UInt8×Int×Int×List UInt8):=fun (i,g,h,d,e,f,a,b,c)=>xik l i g h d e f a b c none inL inR
def xts:=xDR.l 135 0 [3000052] [(5,xht.lp),(16,xmR.lp)] Tryz.f87 2 lk0 [3,4,5,10,11] [4,10] [(5,3,76)] (q5 (xTh 0 0 0 0) (xTh 1 0 0 0) (qL 3) (xTh 2 0 0 0) qI) (q3 (qB 0 2 74 (q1 (xTi (q2 qI qI)))) (qB 0 3 76 (q1 (xTi (q3 qI qI pStr)))) (qB 0 3 76 (q1 (xTi (q3 qI qI pStr))))) (fun (_,_,l,_,i,_) (((g,h,_),_),((d,e,f,_),_),((a,b,c,_),_),_)=>(xcY l,(i,g,h,d,e,f,a,b,c),fun p=>(.leaf (.exit 4) [AV.own 0 0 0 0,AV.own 1 0 0 0] [bF 0 3 76 [AV.agg [AV.int .i64 p.1,AV.int .i64 p.2.1,AV.str p.2.2.1]],bF 0 3 76 [AV.agg [AV.int .i64 p.2.2.2.1,AV.int .i64 p.2.2.2.2.1,AV.str p.2.2.2.2.2]]]))) (0,0,[],0,0,[]) fun (_,_,l,_,_,_) _ (i,g,h,d,e,f,a,b,c)=>((((),(),l,(),i,()),(((g,h,()),()),((d,e,f,()),()),((a,b,c,()),()),())),xik l i g h d e f a b c none)
def xoL (b:LA) (c a:Int):=Iter (xcW b) (0,0,c,a,0,0,[],[])
def xoK (b:LA) (c a:Int):=(xoL b c a).getD (0,0,0,0,0,[],[])
def xdn (b:LA) (c a:Int):=(xoK b c a).fst
def xoJ (b:LA) (c a:Int):=(xoK b c a).snd
def xjS (b:LA) (c a:Int):=(xoJ b c a).fst
def xoI (b:LA) (c a:Int):=(xoJ b c a).snd
def xoH (b:LA) (c a:Int):=(xoI b c a).snd
def xoF (b:LA) (c a:Int):=(xoH b c a).snd
def xoG (b:LA) (c a:Int):=(xoH b c a).fst
def xoD (b:LA) (c a:Int):=(xoF b c a).snd
def xoE (b:LA) (c a:Int):=(xoF b c a).fst
def xoB (b:LA) (c a:Int):=(xoD b c a).fst
def xoC (b:LA) (c a:Int):=(xoD b c a).snd
def xd2 (b:LA) (c a:Int):=List.take (xdn b c a) (List.drop 0 (xoC b c a))
def xfl (b:LA) (c a:Int):=((xd2 b c a).getD 0 .top).cells
def xoA (b:LA) (c a:Int):=Iter (xcX (xd2 b c a)) (0,0,0,xoG b c a,xoE b c a,xoB b c a)
def xp3 (b:LA) (c a:Int):=Iter (xcY (xd2 b c a)) (1,xjS b c a,(xoI b c a).fst,xoG b c a,xoE b c a,xoB b c a,((xfl b c a).getD 0 .top).toInt,((xfl b c a).getD 1 .top).toInt,((xfl b c a).getD 2 .top).toStr)
def xoz (b:LA) (c a:Int):=(xoA b c a).getD (0,0,0,0,[])
def xp2 (b:LA) (c a:Int):=((xp3 b c a).getD (0,0,[],0,0,[])).snd.snd.snd
def xp7 (b:LA) (c a:Int):=(xoz b c a).snd.fst
def xkq (b:LA) (c a:Int):=i64.wrap ((xoz b c a).fst+i64.wrap ((xp7 b c a).tdiv 1048576))
def xp1 (b:LA) (c a:Int):=(xp2 b c a).snd
def xp6 (b:LA) (c a:Int):=xdY (i64.wrap (i64.wrap (xkq b c a*1048576)+(xp7 b c a).tmod 1048576))
def xp5 (b:LA) (c a:Int):=(xp6 b c a).getD (0,0,[])
def xp4 (b:LA) (c a:Int):=(xp5 b c a).snd
def xlU {T:Type} (b:LA) (c a:Int) (δ:T) (κ:Int×Int×List UInt8->T):T:=br (decide (a<0)) (br ((xdY (↑b.length:Int)).isSome) (κ (((xdY (↑b.length:Int)).getD (0,0,[])).fst,((xdY (↑b.length:Int)).getD (0,0,[])).snd.fst,((xdY (↑b.length:Int)).getD (0,0,[])).snd.snd)) δ) (br ((xoL b c a).isSome) (br (xjS b c a==1) (br ((xdY (↑(xdn b c a):Int)).isSome) (κ (((xdY (↑(xdn b c a):Int)).getD (0,0,[])).fst,((xdY (↑(xdn b c a):Int)).getD (0,0,[])).snd.fst,((xdY (↑(xdn b c a):Int)).getD (0,0,[])).snd.snd)) δ) (br (decide (0+xdn b c a<=(xoC b c a).length)&&true) (br ((↑(xd2 b c a).length:Int)==0) (κ (0,0,[])) (br (xjS b c a==2) (br ((xoA b c a).isSome) (br (decide (xkq b c a>1099511627776)) (κ (0,0,[])) (br (decide (xkq b c a<(-1099511627776))) (κ (0,0,[])) (br ((xp6 b c a).isSome) (κ ((xp5 b c a).fst,(xp4 b c a).fst,(xp4 b c a).snd)) δ))) δ) (br (decide (0<(↑(xd2 b c a).length:Int))) (br (decide (0<(xd2 b c a).length)&&((xfl b c a).length==3&&xSp [Sh.int .i64,Sh.int .i64,Sh.str] (xfl b c a) 0)) (br ((xp3 b c a).isSome) (κ ((xp2 b c a).fst,(xp1 b c a).fst,(xp1 b c a).snd)) δ) δ) δ))) δ)) δ)
def xkp (b:LA) (c a:Int):=xlU b c a none some
def xIO:EO:=xDR.f Tryz.func87 135 0 [3000052] [(5,xht.lp),(16,xmR.lp),(25,xts.lp)] (lks (lkC xht.ok (lkC xmR.ok (lkC xts.ok lkN)))) (u2 (uL 1) (xTl (u2 uI uI))) (fun (b,(c,a,_),_) _=>xlU b c a) (fun _ p=>AV.agg [AV.int .i64 p.1,AV.int .i64 p.2.1,AV.str p.2.2]) (0,0,[])
def xuf (a l:LA) (k:Int):=(xkp a (gC l k 0).toInt (gC l k 1).toInt).getD (0,0,[])
def xue (a l:LA) (k:Int):=(xuf a l k).snd
def xq8 {T:Type} (b l:LA) (c:Nat) (k:Int) (a:LA) (δ:T) (κl:(Nat×Int×LA)->T) (κr:(Nat×LA)->T):T:=br (decide (k<l.length)) (br (ixI l k) (br (ixT l k 2 [Sh.int .i64,Sh.int .i64] 0) (br ((xkp b (gC l k 0).toInt (gC l k 1).toInt).isSome) (br (rmB c a 1 32) (κl (c+1,i64.wrap (k+1),a++[AV.agg [AV.int .i64 (xuf b l k).fst,AV.int .i64 (xue b l k).fst,AV.str (xue b l k).snd]])) δ) δ) δ) δ) (κr (c,a))
def xf5 (c l:LA):StT (Nat×Int×LA) (Nat×LA):=fun (b,k,a)=>xq8 c l b k a none inL inR
def xzX:=xIO.l 28 0 [] [] Tryz.f56 0 lk0 [1,2,7,8] [7] [(7,3,76)] (q4 (qL 1) (qL 2) (xTg 0 0 0) qI) (q1 (qB 0 3 76 xS6)) (fun (c,l,b,k,_) (a,_)=>(xf5 c l,(b,k,a),fun p=>(.leaf (.exit 0) [AV.osl 0 0 0 p.1] [bF 0 3 76 p.2]))) (0,[]) fun (c,l,_,_,_) _ (b,k,a)=>(((c,l,b,k,()),(a,())),xq8 c l b k a none)
def xzo (a b l:LA):=Iter (xf5 b l) (0+a.length,0,[]++a)
def xzn (b a l:LA):=(xzo b a l).getD (0,[])
def xzl (b a l:LA):=(xzn b a l).snd
def xzm (b a l:LA):=(xzn b a l).fst
def xAe {T:Type} (a b l:LA) (δ:T) (κ:LA->T):T:=br (decide ((0+a.length)*32<=140737488355328)&&decide (0+a.length<=4611686018427387904)) (br ((xzo a b l).isSome) (br (decide (0+xzm a b l<=(xzl a b l).length)&&true) (κ (List.take (xzm a b l) (List.drop 0 (xzl a b l)))) δ) δ) δ
def xtu (b a l:LA):=xAe b a l none some
def xAE:EO:=xIO.f Tryz.func56 28 0 [] [(3,xzX.lp)] (lk1 xzX.ok) (u3 (uL 3) (uL 1) (uL 2)) (fun (b,a,l,_) _=>xAe b a l) (fun _ p=>AV.list 3 p) []
def xiK (d l e:LA) (f:Int) (a:Nat) (g:Int) (h i b c:LA):=decide ((↑a:Int)<(↑(a+1):Int))
def xhH (a b:LA) (c:Int):=xuN (List.take ((xdG (gC b c 0).toList a).getD (0,[])).fst (List.drop 0 ((xdG (gC b c 0).toList a).getD (0,[])).snd))
def xax (a:Nat):Nat:=0+(↑a:Int).toNat
def xiJ (d l e:LA) (f:Int) (b:Nat) (g:Int) (h i c a:LA):=decide (xax b<(a++[AV.list 1 []]).length)
def xbQ (a b:LA) (c:Int):=(xhH a b c).getD []
def xa4 (b:Nat) (a:LA):=(((a++[AV.list 1 []]).getD (xax b) .top).cells.getD 0 .top).toList.length
def xiO (c:LA) (b:Nat) (d:Int) (a:LA):=(((a++[AV.list 1 []]).getD (xax b) .top).cells.getD 0 .top).toList++[AV.list 3 (gC c d 0).toList]
def xiL (c d:LA) (b:Nat) (e:Int) (a:LA):=decide (0<=(xSD (AV.int .i64 0) a (xbQ c d e)).toInt)&&decide ((xSD (AV.int .i64 0) a (xbQ c d e)).toInt<(↑b:Int))
def xaT (b c:LA) (d:Int) (a:LA):Nat:=0+(xSD (AV.int .i64 0) a (xbQ b c d)).toInt.toNat
def xiN (a b:LA) (c:Int):=decide ((xbQ a b c).length<=4611686018427387904)
def xeA (b:Nat) (a:LA):=(a++[AV.list 1 []]).set (xax b) (AV.int .i64 (↑(xa4 b a):Int))
def xiM (c d:LA) (e:Int) (a b:LA):=decide (xaT c d e a<b.length)
def xa2 (c d:LA) (e:Int) (a b:LA):=((b.getD (xaT c d e a) .top).cells.getD 0 .top).toList.length
def xhI (e c:LA) (d:Int) (a b:LA):=((b.getD (xaT e c d a) .top).cells.getD 0 .top).toList++[AV.list 3 (gC c d 0).toList]
def xdM (c d:LA) (e:Int) (a b:LA):=xa2 c d e a b+1
def xgq {T:Type} (d l f:LA) (i:Int) (c:Nat) (e:Int) (g h b a:LA) (δ:T) (κl:(Nat×Int×LA×LA×LA×LA)->T) (κr:(Nat×LA×LA×LA)->T):T:=br (decide (e<i)) (br (ixI f e) (br (ixS f e (Sh.list 3) 0) (br ((xdG (gC f e 0).toList d).isSome) (br (decide (0+((xdG (gC f e 0).toList d).getD (0,[])).fst<=((xdG (gC f e 0).toList d).getD (0,[])).snd.length)&&true) (br ((xhH d f e).isSome) (br (xiN d f e&&xSi (Sh.int .i64) (xSD (AV.int .i64 0) b (xbQ d f e))) (br (!xSP b (xbQ d f e)) (br (decide (b.length<4611686018427387904)&&xiN d f e) (br (rmB c a 1 24) (br (xiK d l f i c e g h b a) (br (xiJ d l f i c e g h b a&&(xSx 1 (((a++[AV.list 1 []]).getD (xax c) .top).cells.getD 0 .top)&&((a++[AV.list 1 []]).getD (xax c) .top).cells.length==1)) (br (xiJ d l f i c e g h b a&&(xSx 1 (((a++[AV.list 1 []]).getD (xax c) .top).cells.getD 0 .top)&&(((a++[AV.list 1 []]).getD (xax c) .top).cells.length==1&&(2*xa4 c a==2*xa4 c a&&(xa4 c a==xa4 c a&&(xa4 c a==xa4 c a&&(decide ((xa4 c a+1)*24<=140737488355328)&&decide (xa4 c a+1<=4611686018427387904)))))))) (br (xiK d l f i c e g h b a) (br (decide (xax c<(xeA c a).length)&&(((xeA c a).getD (xax c) .top).cells.length==1&&(xa4 c a+1==(xiO f c e a).length&&xTo (((xeA c a).getD (xax c) .top).cells.getD 0 .top) (xa4 c a+1)))) (κl (c+1,i64.wrap (e+1),g,h,xSB b (xbQ d f e) (AV.int .i64 (↑c:Int)),(xeA c a).set (xax c) (AV.list 1 (xiO f c e a)))) δ) δ) δ) δ) δ) δ) δ) (br (xiL d f c e b) (br (xiM d f e b a&&(xSx 1 ((a.getD (xaT d f e b) .top).cells.getD 0 .top)&&(a.getD (xaT d f e b) .top).cells.length==1)) (br (xiM d f e b a&&(xSx 1 ((a.getD (xaT d f e b) .top).cells.getD 0 .top)&&((a.getD (xaT d f e b) .top).cells.length==1&&(2*xa2 d f e b a==2*xa2 d f e b a&&(xa2 d f e b a==xa2 d f e b a&&(xa2 d f e b a==xa2 d f e b a&&(decide (xdM d f e b a*24<=140737488355328)&&decide (xdM d f e b a<=4611686018427387904)))))))) (br (xiL d f c e b) (br (decide (xaT d f e b<(a.set (xaT d f e b) (AV.int .i64 (↑(xa2 d f e b a):Int))).length)&&(((a.set (xaT d f e b) (AV.int .i64 (↑(xa2 d f e b a):Int))).getD (xaT d f e b) .top).cells.length==1&&(xdM d f e b a==(xhI d f e b a).length&&xTo (((a.set (xaT d f e b) (AV.int .i64 (↑(xa2 d f e b a):Int))).getD (xaT d f e b) .top).cells.getD 0 .top) (xdM d f e b a)))) (κl (c,i64.wrap (e+1),g,h,b,(a.set (xaT d f e b) (AV.int .i64 (↑(xa2 d f e b a):Int))).set (xaT d f e b) (AV.list 1 (xhI d f e b a)))) δ) δ) δ) δ) δ)) δ) δ) δ) δ) δ) δ) (κr (c,g,h,a))
def xbe (d l e:LA) (f:Int):StT (Nat×Int×LA×LA×LA×LA) (Nat×LA×LA×LA):=fun (c,g,h,i,a,b)=>xgq d l e f c g h i a b none inL inR
def xiI:=xAD.l 111 0 [57,2000068] [] Tryz.f43 0 lk0 [1,2,3,6,7,8,31,32,33] [1,2,3,6,8] [(8,1,244881293359)] (q9 (qL 1) (qL 2) (xTh 0 0 0 0) (xTh 1 0 0 0) (xTh 2 0 0 0) (xTg 3 0 0) (qL 1) qI qI) (q4 (qB 0 2 49 (q1 (xTi (q2 (qL 1) (qL 1))))) (qB 0 2 49 (q1 (xTi (q2 pNils pNils)))) (qB 0 2 1208925819615114573119488 xS6) (qB 0 1 244881293359 xS6)) (fun (d,l,_,_,_,c,e,f,g,_) (((h,i,_),_),((_,_,_),_),a,b,_)=>(xbe d l e f,(c,g,h,i,a,b),fun p=>(.leaf (.exit 0) [AV.list 1 d,AV.list 2 l,AV.own 0 0 0 0,AV.own 1 0 0 0,AV.osl 2 0 0 p.1] [bF 0 2 49 [AV.agg [AV.list 1 p.2.1,AV.list 1 p.2.2.1]],bF 0 2 49 [AV.agg [AV.nils,AV.nils]],bF 0 1 244881293359 p.2.2.2]))) (0,[],[],[]) fun (d,l,_,_,_,_,e,f,_,_) _ (c,g,h,i,a,b)=>(((d,l,(),(),(),c,e,f,g,()),(((h,i,()),()),(((),(),()),()),a,b,())),xgq d l e f c g h i a b none)
def xnS (g a:LA) (b:Int):=(xhk g (gC a b 0).toInt (gC a b 1).toInt).getD (0,0,[])
def xnR (g a:LA) (b:Int):=(xnS g a b).snd
def xjW {T:Type} (k l:LA) (j:Nat) (g m:LA) (n o:Int) (b:LA) (i:Int) (d:Nat) (a:Int) (f h e c:LA) (δ:T) (κl:(Nat×Int×LA×LA×LA×LA)->T) (κr:(Nat×LA×LA×LA×LA)->T):T:=br (decide (a<i)) (br (ixI b a) (br (ixT b a 2 [Sh.int .i64,Sh.int .i64] 0) (br ((xhk g (gC b a 0).toInt (gC b a 1).toInt).isSome) (br (rmB d c 1 32) (κl (d+1,i64.wrap (a+1),f,h,e,c++[AV.agg [AV.int .i64 (xnS g b a).fst,AV.int .i64 (xnR g b a).fst,AV.str (xnR g b a).snd]])) δ) δ) δ) δ) (κr (d,f,h,e,c))
def xcu (e l:LA) (c:Nat) (g f:LA) (h i:Int) (j:LA) (k:Int):StT (Nat×Int×LA×LA×LA×LA) (Nat×LA×LA×LA×LA):=fun (d,m,n,o,a,b)=>xjW e l c g f h i j k d m n o a b none inL inR
def xiZ:=xAD.l 111 0 [57,2000068] [(7,xiI.lp)] Tryz.f43 2 lk0 [1,2,3,6,14,16,17,68,69,70,82,83,84] [1,2,3,6,14,17,68,69,70] [(14,1,57),(17,3,76)] (xS2 (qL 1) (xS2 (qL 2) (xS2 (xTh 0 0 0 0) (q10 (xTh 1 0 0 0) (xTg 2 0 0) (qL 1) (xTg 3 0 0) (qL 1) qI qI (qL 2) qI qI)))) (q4 (qB 0 2 49 (q1 (xTi (q2 (qL 1) (qL 1))))) (qB 0 2 49 (q1 (xTi (q2 pNils pNils)))) (qB 0 1 57 xS6) (qB 0 3 76 xS6)) (fun (e,l,_,_,a,g,d,f,h,i,j,k,m,_) (((n,o,_),_),((_,_,_),_),b,c,_)=>(xcu e l a g f h i j k,(d,m,n,o,b,c),fun p=>(.leaf (.exit 4) [AV.list 1 e,AV.list 2 l,AV.own 0 0 0 0,AV.own 1 0 0 0,AV.osl 2 0 0 a,AV.osl 3 0 0 p.1,AV.list 1 f,AV.int .i64 h,AV.int .i64 i] [bF 0 2 49 [AV.agg [AV.list 1 p.2.1,AV.list 1 p.2.2.1]],bF 0 2 49 [AV.agg [AV.nils,AV.nils]],bF 0 1 57 p.2.2.2.1,bF 0 3 76 p.2.2.2.2]))) (0,[],[],[],[]) fun (e,l,_,_,a,g,_,f,h,i,j,k,_,_) _ (d,m,n,o,b,c)=>(((e,l,(),(),a,g,d,f,h,i,j,k,m,()),(((n,o,()),()),(((),(),()),()),b,c,())),xjW e l a g f h i j k d m n o b c none)
def xhO (e l c:LA) (f:Int) (b:Nat) (d:Int) (g h a:LA):=Iter (xcu e l b (gC c d 0).toList c f d l (↑l.length:Int)) (0,0,g,h,a,[])
def xhP (a b:LA) (c:Int):=(xdG (((gC b c 0).toList.getD 0 .top).cells.getD 0 .top).toList a).getD (0,[])
def xiW (a l b:LA) (f:Int) (e:Nat) (c:Int) (g h d:LA):=Iter (xcu a l e (gC b c 0).toList b f c l (↑l.length:Int)) ((xhP a b c).fst,0,g,h,d,(xhP a b c).snd)
def xhN (c l d:LA) (e:Int) (b:Nat) (f:Int) (g h a:LA):=(xhO c l d e b f g h a).getD (0,[],[],[],[])
def xiV (c l d:LA) (e:Int) (b:Nat) (f:Int) (g h a:LA):=(xiW c l d e b f g h a).getD (0,[],[],[],[])
def xhL (c l d:LA) (e:Int) (b:Nat) (f:Int) (g h a:LA):=(xhN c l d e b f g h a).snd
def xhM (c l d:LA) (e:Int) (b:Nat) (f:Int) (g h a:LA):=(xhN c l d e b f g h a).fst
def xiT (c l d:LA) (e:Int) (b:Nat) (f:Int) (g h a:LA):=(xiV c l d e b f g h a).fst
def xiU (c l d:LA) (e:Int) (b:Nat) (f:Int) (g h a:LA):=(xiV c l d e b f g h a).snd
def xhK (c l d:LA) (e:Int) (b:Nat) (f:Int) (g h a:LA):=(xhL c l d e b f g h a).snd
def xiS (c l d:LA) (e:Int) (b:Nat) (f:Int) (g h a:LA):=(xiU c l d e b f g h a).snd
def xhJ (c l d:LA) (e:Int) (b:Nat) (f:Int) (g h a:LA):=(xhK c l d e b f g h a).snd
def xiR (c l d:LA) (e:Int) (b:Nat) (f:Int) (g h a:LA):=(xiS c l d e b f g h a).snd
def xiX (c l d:LA) (e:Int) (b:Nat) (f:Int) (g h a:LA):=(xhJ c l d e b f g h a).fst
def xiY (c l d:LA) (e:Int) (b:Nat) (f:Int) (g h a:LA):=(xhJ c l d e b f g h a).snd
def xiP (c l d:LA) (e:Int) (b:Nat) (f:Int) (g h a:LA):=(xiR c l d e b f g h a).snd
def xiQ (c l d:LA) (e:Int) (b:Nat) (f:Int) (g h a:LA):=(xiR c l d e b f g h a).fst
def xgr {T:Type} (c l e:LA) (f:Int) (a:Nat) (d:Int) (g h b:LA) (δ:T) (κl:(Nat×Int×LA×LA×LA)->T) (κr:(Nat×LA×LA×LA)->T):T:=br (decide (d<f)) (br (ixI e d) (br (ixS e d (Sh.list 1) 0) (br (decide ((↑c.length:Int)>0)) (br (decide (0<(↑(gC e d 0).toList.length:Int))) (br (decide (0<(gC e d 0).toList.length)&&xSi (Sh.list 3) (((gC e d 0).toList.getD 0 .top).cells.getD 0 .top)) (br ((xdG (((gC e d 0).toList.getD 0 .top).cells.getD 0 .top).toList c).isSome) (br ((xiW c l e f a d g h b).isSome) (br (decide (0+xiT c l e f a d g h b<=(xiP c l e f a d g h b).length)&&true) (br (a==(xiQ c l e f a d g h b).length&&(decide ((a+1)*24<=140737488355328)&&decide (a+1<=4611686018427387904))) (κl (a+1,i64.wrap (d+1),(xiU c l e f a d g h b).fst,(xiS c l e f a d g h b).fst,xiQ c l e f a d g h b++[AV.list 3 (List.take (xiT c l e f a d g h b) (List.drop 0 (xiP c l e f a d g h b)))])) δ) δ) δ) δ) δ) δ) (br ((xhO c l e f a d g h b).isSome) (br (decide (0+xhM c l e f a d g h b<=(xiY c l e f a d g h b).length)&&true) (br (a==(xiX c l e f a d g h b).length&&(decide ((a+1)*24<=140737488355328)&&decide (a+1<=4611686018427387904))) (κl (a+1,i64.wrap (d+1),(xhL c l e f a d g h b).fst,(xhK c l e f a d g h b).fst,xiX c l e f a d g h b++[AV.list 3 (List.take (xhM c l e f a d g h b) (List.drop 0 (xiY c l e f a d g h b)))])) δ) δ) δ)) δ) δ) (κr (a,g,h,b))
def xbw (c l d:LA) (e:Int):StT (Nat×Int×LA×LA×LA) (Nat×LA×LA×LA):=fun (b,f,g,h,a)=>xgr c l d e b f g h a none inL inR
def xuL:=xAD.l 111 0 [57,2000068] [(7,xiI.lp),(25,xiZ.lp)] Tryz.f43 1 (lk1 xiZ.ok) [1,2,3,6,14,68,69,70] [1,2,3,6,14] [(14,1,57)] (q8 (qL 1) (qL 2) (xTh 0 0 0 0) (xTh 1 0 0 0) (xTg 2 0 0) (qL 1) qI qI) (q3 (qB 0 2 49 (q1 (xTi (q2 (qL 1) (qL 1))))) (qB 0 2 49 (q1 (xTi (q2 pNils pNils)))) (qB 0 1 57 xS6)) (fun (c,l,_,_,b,d,e,f,_) (((g,h,_),_),((_,_,_),_),a,_)=>(xbw c l d e,(b,f,g,h,a),fun p=>(.leaf (.exit 2) [AV.list 1 c,AV.list 2 l,AV.own 0 0 0 0,AV.own 1 0 0 0,AV.osl 2 0 0 p.1] [bF 0 2 49 [AV.agg [AV.list 1 p.2.1,AV.list 1 p.2.2.1]],bF 0 2 49 [AV.agg [AV.nils,AV.nils]],bF 0 1 57 p.2.2.2]))) (0,[],[],[]) fun (c,l,_,_,_,d,e,_,_) _ (b,f,g,h,a)=>(((c,l,(),(),b,d,e,f,()),(((g,h,()),()),(((),(),()),()),a,())),xgr c l d e b f g h a none)
def xk3 (c a b l:LA):=Iter (xbe b l a (↑a.length:Int)) (1,0,c,a,[AV.agg [AV.str [],AV.int .i64 0]],[AV.list 1 []])
def xk4 (c a b l:LA):=Iter (xbe b l a (↑a.length:Int)) (0,0,c,a,[],[])
def xkY (c a b l:LA):=(xk3 c a b l).getD (0,[],[],[])
def xk2 (c a b l:LA):=(xk4 c a b l).getD (0,[],[],[])
def xkW (c a b l:LA):=(xkY c a b l).snd
def xkX (c a b l:LA):=(xkY c a b l).fst
def xk0 (c a b l:LA):=(xk2 c a b l).snd
def xk1 (c a b l:LA):=(xk2 c a b l).fst
def xkV (c a b l:LA):=(xkW c a b l).snd
def xkx (c a b l:LA):=(xk0 c a b l).snd
def xkU (c a b l:LA):=(xkV c a b l).snd
def xkZ (c a b l:LA):=(xkx c a b l).snd
def xhi (c a b l:LA):=List.take (xkX c a b l) (List.drop 0 (xkU c a b l))
def xhj (c a b l:LA):=List.take (xk1 c a b l) (List.drop 0 (xkZ c a b l))
def xmb (c b a l:LA):=Iter (xbw a l (xhi c b a l) (↑(xhi c b a l).length:Int)) (0,0,(xkW c b a l).fst,(xkV c b a l).fst,[])
def xkT (c b a l:LA):=Iter (xbw a l (xhj c b a l) (↑(xhj c b a l).length:Int)) (0,0,(xk0 c b a l).fst,(xkx c b a l).fst,[])
def xma (c a b l:LA):=(xmb c a b l).getD (0,[],[],[])
def xkS (c a b l:LA):=(xkT c a b l).getD (0,[],[],[])
def xl8 (c a b l:LA):=(xma c a b l).fst
def xl9 (c a b l:LA):=(xma c a b l).snd
def xkQ (c a b l:LA):=(xkS c a b l).snd
def xkR (c a b l:LA):=(xkS c a b l).fst
def xl6 (c a b l:LA):=(xl9 c a b l).snd.snd
def xl7 (c b a l:LA):=xc7 a l (xl9 c b a l).fst
def xkO (c a b l:LA):=(xkQ c a b l).snd.snd
def xkP (c b a l:LA):=xc7 a l (xkQ c b a l).fst
def xl3 (c a b l:LA):=xuM ((xl7 c a b l).getD ([],0)).fst (List.take (xl8 c a b l) (List.drop 0 (xl6 c a b l)))
def xl5 (c a b l:LA):=xuM ((xkP c a b l).getD ([],0)).fst (List.take (xkR c a b l) (List.drop 0 (xkO c a b l)))
def xl2 (c a b l:LA):=(xl3 c a b l).getD ([],[])
def xl4 (c a b l:LA):=(xl5 c a b l).getD ([],[])
def xtc {T:Type} (c b a l:LA) (δ:T) (κ:LA×LA->T):T:=br ((↑a.length:Int)==0) (br ((xk3 c b a l).isSome) (br (decide (0+xkX c b a l<=(xkU c b a l).length)&&xSQ 1 0 (xhi c b a l)&&true) (br ((xmb c b a l).isSome) (br ((xl7 c b a l).isSome) (br (decide (0+xl8 c b a l<=(xl6 c b a l).length)&&true) (br ((xl3 c b a l).isSome) (κ ((xl2 c b a l).fst,(xl2 c b a l).snd)) δ) δ) δ) δ) δ) δ) (br ((xk4 c b a l).isSome) (br (decide (0+xk1 c b a l<=(xkZ c b a l).length)&&xSQ 1 0 (xhj c b a l)&&true) (br ((xkT c b a l).isSome) (br ((xkP c b a l).isSome) (br (decide (0+xkR c b a l<=(xkO c b a l).length)&&true) (br ((xl5 c b a l).isSome) (κ ((xl4 c b a l).fst,(xl4 c b a l).snd)) δ) δ) δ) δ) δ) δ)
def xbT (c a b l:LA):=xtc c a b l none some
def xK5:EO:=xAD.f Tryz.func43 111 0 [57,2000068] [(7,xiI.lp),(25,xiZ.lp),(19,xuL.lp)] (lks (lkC xiI.ok (lkC xuL.ok (lkC xiZ.ok lkN)))) (u3 (xTl (u2 (uL 1) (uL 1))) (uL 1) (uL 2)) (fun ((c,a,_),b,l,_) _=>xtc c a b l) (fun _ p=>AV.agg [AV.list 1 p.1,AV.list 1 p.2]) ([],[])
def xfm {T:Type} (a b:LA) (d:Nat) (c:LA) (δ:T) (κl:(LA×LA×Nat×LA)->T) (κr:(LA×LA×Nat×LA)->T):T:=br (decide ((↑a.length:Int)>0)) (br (decide ((↑b.length:Int)>0)) (br (decide (0<(↑b.length:Int))) (br (decide (0<b.length)&&xSi (Sh.list 3) ((b.getD 0 .top).cells.getD 0 .top)) (br (decide (0<(↑a.length:Int))) (br (decide (0<a.length)&&xSi (Sh.list 3) ((a.getD 0 .top).cells.getD 0 .top)) (br ((xbs ((b.getD 0 .top).cells.getD 0 .top).toList ((a.getD 0 .top).cells.getD 0 .top).toList).isSome) (br (decide ((xbs ((b.getD 0 .top).cells.getD 0 .top).toList ((a.getD 0 .top).cells.getD 0 .top).toList).getD 0<0)) (br (decide (0<(↑b.length:Int))) (br (decide (0<b.length)&&((b.getD 0 .top).cells.length==2&&xSp [Sh.list 3,Sh.list 3] (b.getD 0 .top).cells 0)) (br (rmB d c 1 48) (br (decide (1<=(↑b.length:Int))) (κl (a,List.take (b.length - 1) (List.drop 1 b),d+1,c++[AV.agg [AV.list 3 ((b.getD 0 .top).cells.getD 0 .top).toList,AV.list 3 ((b.getD 0 .top).cells.getD 1 .top).toList]])) δ) δ) δ) δ) (br (decide (0<(↑a.length:Int))) (br (decide (0<a.length)&&((a.getD 0 .top).cells.length==2&&xSp [Sh.list 3,Sh.list 3] (a.getD 0 .top).cells 0)) (br (rmB d c 1 48) (br (decide (1<=(↑a.length:Int))) (κl (List.take (a.length - 1) (List.drop 1 a),b,d+1,c++[AV.agg [AV.list 3 ((a.getD 0 .top).cells.getD 0 .top).toList,AV.list 3 ((a.getD 0 .top).cells.getD 1 .top).toList]])) δ) δ) δ) δ)) δ) δ) δ) δ) δ) (κr (a,b,d,c))) (κr (a,b,d,c))
def xb4:StT (LA×LA×Nat×LA) (LA×LA×Nat×LA):=fun (a,b,d,c)=>xfm a b d c none inL inR
def xoQ:=xAE.l 61 0 [98] [] Tryz.f55 0 lk0 [3,4,5] [3,4,5] [(5,2,98)] (q3 (qL 2) (qL 2) (xTg 0 0 0)) (q1 (qB 0 2 98 xS6)) (fun (a,b,d,_) (c,_)=>(xb4,(a,b,d,c),fun p=>(.leaf (.exit 0) [AV.list 2 p.1,AV.list 2 p.2.1,AV.osl 0 0 0 p.2.2.1] [bF 0 2 98 p.2.2.2]))) ([],[],0,[]) fun _ _ (a,b,d,c)=>(((a,b,d,()),(c,())),xfm a b d c none)
def xqa (R:LA->Option (LA)):LA->Option (Bool×AV):=ocOf (xS3 (xTk 2 xS6) xS5) fun (l,_)=>((R l).isSome,AV.list 2 ((R l).getD []))
def xe7 (R:LA->Option (LA)):Env:=(xAE.E.with 55 (xqa R)).fn 61 0 (lsOf [98]) (xSH [(5,xoQ.lp)])
def xoP (R:LA->Option (LA)):Prop:=OcOk P0 xS1 55 (xqa R)
theorem xBN (R:LA->Option (LA)) (a:xoP R):xSk P0 (xS1.at 0) (xe7 R):=(xAE.ok.with a).fn
theorem xAP (R:LA->Option (LA)):LoOk P0 (xS1.at (xe7 R).pin) (xe7 R) (Tryz.f55.body.getD .skip):=xgK (ls:=[xSo Tryz.f55 0]) (by kernel_rfl) (fun l b lp a=>by
 simp only [zC,List.not_mem_nil,or_false] at b;rcases b with rfl
 . rw [show (xe7 R).lp (xSz (xSo Tryz.f55 0))=some xoQ.lp by kernel_rfl] at a
   simp only [z6] at a;subst a;exact xoQ.ok)
def xrE (l:LA):=decide (0<=i64.wrap ((↑l.length:Int).tdiv 2))&&decide (i64.wrap ((↑l.length:Int).tdiv 2)<=(↑l.length:Int))
def xrF (R:LA->Option (LA)) (l:LA):Option (LA):=R (List.take (l.length - (i64.wrap ((↑l.length:Int).tdiv 2)).toNat) (List.drop (i64.wrap ((↑l.length:Int).tdiv 2)).toNat l))
def xrD (R:LA->Option (LA)) (l:LA):Option (LA×LA×Nat×LA):=Iter xb4 ((R (List.take ((i64.wrap ((↑l.length:Int).tdiv 2)).toNat - 0) (List.drop 0 l))).getD [],(xrF R l).getD [],0,[])
def xrC (R:LA->Option (LA)) (l:LA):LA×LA×Nat×LA:=(xrD R l).getD ([],[],0,[])
def xs1 (R:LA->Option (LA)) (l:LA):LA×Nat×LA:=(xrC R l).snd
def xs2 (R:LA->Option (LA)) (l:LA):LA:=(xrC R l).fst
def xsx (R:LA->Option (LA)) (l:LA):Nat×LA:=(xs1 R l).snd
def xs0 (R:LA->Option (LA)) (l:LA):LA:=(xs1 R l).fst
def xsY (R:LA->Option (LA)) (l:LA):LA:=(xsx R l).snd
def xsZ (R:LA->Option (LA)) (l:LA):Nat:=(xsx R l).fst
def xjv (R:LA->Option (LA)) (l:LA):Nat:=xsZ R l+(xs2 R l).length
def xsX (R:LA->Option (LA)) (l:LA):LA:=xsY R l++xs2 R l
def xju (R:LA->Option (LA)) (l:LA):Nat:=xjv R l+(xs0 R l).length
def xsW (R:LA->Option (LA)) (l:LA):LA:=xsX R l++xs0 R l
def xhu {T:Type} (R:LA->Option (LA)) (l:LA) (δ:T) (κ:LA->T):T:=br (decide ((↑l.length:Int)<2)) (κ (l)) (br (xrE l&&true) (br ((R (List.take ((i64.wrap ((↑l.length:Int).tdiv 2)).toNat - 0) (List.drop 0 l))).isSome) (br (xrE l) (br ((xrF R l).isSome) (br ((xrD R l).isSome) (br (xsZ R l==(xsY R l).length&&(decide (xjv R l*48<=140737488355328)&&decide (xjv R l<=4611686018427387904))) (br (xjv R l==(xsX R l).length&&(decide (xju R l*48<=140737488355328)&&decide (xju R l<=4611686018427387904))) (br (decide (0+xju R l<=(xsW R l).length)&&true) (κ (List.take (xju R l) (List.drop 0 (xsW R l)))) δ) δ) δ) δ) δ) δ) δ) δ)
def xc9 (R:LA->Option (LA)) (l:LA):=xhu R l none some
theorem xEy (R:LA->Option (LA)) (l:LA):Enc (fun (p:LA)=>((AV.list 2 p):AV)) (xc9 R l) (XF P0 (xe7 R) Tryz.f55 (Tryz.f55.body.getD .skip) [AV.list 2 l]):=by
 have h:XF P0 (xe7 R) Tryz.f55 (Tryz.f55.body.getD .skip) [AV.list 2 l]=xhu R l none (fun (p:LA)=>some ((AV.list 2 p):AV)):=by kernel_rfl
 rw [h];unfold xc9 xhu;repeat' (first|refine Enc.br ?_ ?_|exact Enc.none|exact Enc.some rfl)
def xEw (R:LA->Option (LA)):LA->Option (Bool×AV):=ocOf (xS3 (xTk 2 xS6) xS5) fun (l,_)=>((xc9 R l).isSome,(AV.list 2 ((xc9 R l).getD [])))
theorem xEv (R:LA->Option (LA)) (c:xoP R):OcOk P0 xS1 55 (xEw R):=xmw fun e g f=>by
 obtain ⟨l,_⟩:=e;obtain ⟨a,b⟩:=Prod.mk.inj f;refine xdT (p:=(xe7 R).pin) (xf4 xSt (xSu P0 _) rfl (xBN R c) Tryz.func55 rfl (by kernel_rfl) (xAP R) ((xEy R _ _ (xcf (d:=[]) a)).trans ?_))
 exact congrArg some b
def xcl:Nat->LA->Option (LA)
 | 0=>fun _=>none
 | fu_+1=>fun l=>xc9 (xcl fu_) l
theorem xwF:∀ n,xoP (xcl n)
 | 0=>xmw fun _ _ h=>absurd (Prod.mk.inj h).1 Bool.false_ne_true
 | fu_+1=>fun a r h=>xEv (xcl fu_) (xwF fu_) a r h
def xLa:Env:=xAE.E.with 55 (xqa (xcl 100))
theorem xLb:xSk P0 xS1 xLa:=xAE.ok.with (xwF _)
def xzN:EO:=EO.mk xLa xLb
def xnL {T:Type} (g l:LA) (d:Nat) (i:Int) (h a e:LA) (f:Nat) (b c:LA) (δ:T) (κl:(Nat×Int×LA×LA×LA×Nat×LA×LA)->T) (κr:(Nat×LA×Nat×LA×LA)->T):T:=br (decide (i<a.length)) (br (ixI a i) (br (ixS a i (Sh.list 3) 0) (br ((xyK (gC a i 0).toList g).isSome) (br (ixI a i) (br (ixS a i (Sh.list 3) 0) (br (rmB d b 1 48) (κl (d+1,i64.wrap (i+1),h,a,e,f,b++[AV.agg [AV.list 3 ((xyK (gC a i 0).toList g).getD []),AV.list 3 (gC a i 0).toList]],c)) δ) δ) δ) δ) δ) δ) (κr (d,e,f,b,c))
def xdo (f l:LA):StT (Nat×Int×LA×LA×LA×Nat×LA×LA) (Nat×LA×Nat×LA×LA):=fun (c,i,g,h,d,e,b,a)=>xnL f l c i g h d e b a none inL inR
def xlV:=xzN.l 116 0 [57,98] [] Tryz.f28 0 lk0 [1,2,3,6,9,10,11] [1,2,6,9,10] [(10,2,98),(9,1,57)] (q7 (qL 1) (qL 2) (xTh 0 0 0 0) (xTh 1 0 0 0) (xTh 2 0 0 0) (xTg 3 0 0) qI) (q5 (qB 0 2 49 (q1 (xTi (q2 (qL 1) (qL 1))))) (qB 0 2 49 (q1 (xTi (q2 pNils pNils)))) (xTj 0 2 49 false false (q1 (xTi (q2 (qL 1) (xTg 4 0 0))))) (qB 0 2 98 xS6) (qB 0 1 57 xS6)) (fun (f,l,_,_,_,c,i,_) (((g,h,_),_),((_,_,_),_),((d,e,_),_),b,a,_)=>(xdo f l,(c,i,g,h,d,e,b,a),fun p=>(.leaf (.exit 0) [AV.list 1 f,AV.list 2 l,AV.own 0 0 0 0,AV.own 1 0 0 0,AV.osl 2 0 0 p.1] [bF 0 2 49 [AV.agg [AV.nils,AV.nils]],⟨0,2,49,[AV.agg [AV.list 1 p.2.1,AV.osl 3 0 0 p.2.2.1]],false,false⟩,bF 0 2 98 p.2.2.2.1,bF 0 1 57 p.2.2.2.2]))) (0,[],0,[],[]) fun (f,l,_,_,_,_,_,_) _ (c,i,g,h,d,e,b,a)=>(((f,l,(),(),(),c,i,()),(((g,h,()),()),(((),(),()),()),((d,e,()),()),b,a,())),xnL f l c i g h d e b a none)
def xji {T:Type} (l a:LA) (i:Int) (c:Nat) (k:Int) (e:LA) (f:Nat) (b d:LA) (δ:T) (κl:(Nat×Int×LA×Nat×LA×LA)->T) (κr:(Nat×Int×LA×Nat×LA×LA)->T):T:=br (decide (k<a.length)) (br (ixI a k) (br (ixS a k (Sh.list 3) 0) (br (ixI a i) (br (ixS a i (Sh.list 3) 0) (br ((xrX (gC a k 0).toList (gC a i 0).toList).isSome) (br ((xrX (gC a k 0).toList (gC a i 0).toList).getD false) (br (ixI a k) (br (ixS a k (Sh.list 3) 1) (br (rmB c b 1 24) (κl (c+1,i64.wrap (k+1),e,f,b++[AV.list 3 (gC a k 1).toList],d)) δ) δ) δ) (κr (c,k,e,f,b,d))) δ) δ) δ) δ) δ) (κr (c,k,e,f,b,d))
def xdp (l f:LA) (i:Int):StT (Nat×Int×LA×Nat×LA×LA) (Nat×Int×LA×Nat×LA×LA):=fun (c,k,d,e,a,b)=>xji l f i c k d e a b none inL inR
def xlX:=xzN.l 116 0 [57,98] [(5,xlV.lp)] Tryz.f28 2 lk0 [2,6,9,10,12,13,14] [2,6,9,10,12,13,14] [(10,2,98),(13,1,57),(9,1,57)] (q7 (qL 2) (xTh 0 0 0 0) (xTh 1 0 0 0) (qL 2) qI (xTg 2 0 0) qI) (q4 (qB 0 2 49 (q1 (xTi (q2 pNils pNils)))) (xTj 0 2 49 false false (q1 (xTi (q2 (qL 1) (xTg 3 0 0))))) (qB 0 1 57 xS6) (qB 0 1 57 xS6)) (fun (l,_,_,f,i,c,k,_) (((_,_,_),_),((d,e,_),_),a,b,_)=>(xdp l f i,(c,k,d,e,a,b),fun p=>(.leaf (.exit 4) [AV.list 2 l,AV.own 0 0 0 0,AV.own 1 0 0 0,AV.list 2 f,AV.int .i64 i,AV.osl 2 0 0 p.1,AV.int .i64 p.2.1] [bF 0 2 49 [AV.agg [AV.nils,AV.nils]],⟨0,2,49,[AV.agg [AV.list 1 p.2.2.1,AV.osl 3 0 0 p.2.2.2.1]],false,false⟩,bF 0 1 57 p.2.2.2.2.1,bF 0 1 57 p.2.2.2.2.2]))) (0,0,[],0,[],[]) fun (l,_,_,f,i,_,_,_) _ (c,k,d,e,a,b)=>(((l,(),(),f,i,c,k,()),((((),(),()),()),((d,e,()),()),a,b,())),xji l f i c k d e a b none)
def xp9 (l d:LA) (i:Int) (b:LA) (c:Nat) (a:LA):=Iter (xdp l d i) (0,i,b,c,[],a)
def xp8 (l d:LA) (i:Int) (b:LA) (c:Nat) (a:LA):=(xp9 l d i b c a).getD (0,0,[],0,[],[])
def xrz (l d:LA) (i:Int) (b:LA) (c:Nat) (a:LA):=(xp8 l d i b c a).snd
def xrA (l d:LA) (i:Int) (b:LA) (c:Nat) (a:LA):=(xp8 l d i b c a).fst
def xry (l d:LA) (i:Int) (b:LA) (c:Nat) (a:LA):=(xrz l d i b c a).snd
def xrw (l d:LA) (i:Int) (b:LA) (c:Nat) (a:LA):=(xry l d i b c a).snd
def xru (l d:LA) (i:Int) (b:LA) (c:Nat) (a:LA):=(xrw l d i b c a).fst
def xrv (l d:LA) (i:Int) (b:LA) (c:Nat) (a:LA):=(xrw l d i b c a).snd
def xlW (l d:LA) (i:Int) (b:LA) (c:Nat) (a:LA):=xru l d i b c a+1
def xrs (l d:LA) (i:Int) (b:LA) (c:Nat) (a:LA):=(xrv l d i b c a).snd
def xrt (l d:LA) (i:Int) (b:LA) (c:Nat) (a:LA):=(xrv l d i b c a).fst
def xrr (l d:LA) (i:Int) (b:LA) (c:Nat) (a:LA):=xtu (gC d i 0).toList (List.take (xrA l d i b c a) (List.drop 0 (xrt l d i b c a))) l
def xjh {T:Type} (l d:LA) (i:Int) (b:LA) (c:Nat) (a:LA) (δ:T) (κl:(Int×LA×Nat×LA)->T) (κr:(LA×Nat×LA)->T):T:=br (decide (i<d.length)) (br ((xp9 l d i b c a).isSome) (br (ixI d i) (br (ixS d i (Sh.list 3) 0) (br (decide (0+xrA l d i b c a<=(xrt l d i b c a).length)&&true) (br ((xrr l d i b c a).isSome) (br (xru l d i b c a==(xrs l d i b c a).length&&(decide (xlW l d i b c a*24<=140737488355328)&&decide (xlW l d i b c a<=4611686018427387904))) (κl ((xrz l d i b c a).fst,(xry l d i b c a).fst,xlW l d i b c a,xrs l d i b c a++[AV.list 3 ((xrr l d i b c a).getD [])])) δ) δ) δ) δ) δ) δ) (κr (b,c,a))
def xbY (l d:LA):StT (Int×LA×Nat×LA) (LA×Nat×LA):=fun (i,b,c,a)=>xjh l d i b c a none inL inR
def xyv:=xzN.l 116 0 [57,98] [(5,xlV.lp),(15,xlX.lp)] Tryz.f28 1 (lk1 xlX.ok) [2,6,9,10,12] [6,9] [(10,2,98),(9,1,57)] (q5 (qL 2) (xTh 0 0 0 0) (xTh 1 0 0 0) (qL 2) qI) (q3 (qB 0 2 49 (q1 (xTi (q2 pNils pNils)))) (xTj 0 2 49 false false (q1 (xTi (q2 (qL 1) (xTg 2 0 0))))) (qB 0 1 57 xS6)) (fun (l,_,_,d,i,_) (((_,_,_),_),((b,c,_),_),a,_)=>(xbY l d,(i,b,c,a),fun p=>(.leaf (.exit 2) [AV.own 0 0 0 0,AV.own 1 0 0 0] [bF 0 2 49 [AV.agg [AV.nils,AV.nils]],⟨0,2,49,[AV.agg [AV.list 1 p.1,AV.osl 2 0 0 p.2.1]],false,false⟩,bF 0 1 57 p.2.2]))) ([],0,[]) fun (l,_,_,d,_,_) _ (i,b,c,a)=>(((l,(),(),d,i,()),((((),(),()),()),((b,c,()),()),a,())),xjh l d i b c a none)
def xpd (b c a l:LA):=Iter (xdo a l) (0,0,b,c,((xbV b a l).getD ([],0)).fst,0,[],[])
def xpc (c a b l:LA):=(xpd c a b l).getD (0,[],0,[],[])
def xpa (c a b l:LA):=(xpc c a b l).snd
def xpb (c a b l:LA):=(xpc c a b l).fst
def xo8 (c a b l:LA):=(xpa c a b l).snd
def xo9 (c a b l:LA):=(xpa c a b l).fst
def xku (c a b l:LA):=(xo8 c a b l).fst
def xo7 (c a b l:LA):=(xo8 c a b l).snd
def xkr (c a b l:LA):=xku c a b l+1
def xkt (c a b l:LA):=(xo7 c a b l).snd
def xo6 (c a b l:LA):=(xo7 c a b l).fst
def xo5 (c a b l:LA):=xcl 100 (List.take (xpb c a b l) (List.drop 0 (xo6 c a b l)))
def xks (c a b l:LA):=(xo5 c a b l).getD []
def xq4 (c a b l:LA):=Iter (xbY l (xks c a b l)) (0,xo9 c a b l,xkr c a b l,xkt c a b l++[AV.list 3 ((xtu [] [] l).getD [])])
def xo4 (c a b l:LA):=Iter (xbY l (xks c a b l)) (0,xo9 c a b l,xku c a b l,xkt c a b l)
def xq3 (c a b l:LA):=(xq4 c a b l).getD ([],0,[])
def xo3 (c a b l:LA):=(xo4 c a b l).getD ([],0,[])
def xq2 (c a b l:LA):=(xq3 c a b l).snd
def xq7 (c a b l:LA):=(xo3 c a b l).snd
def xq0 (c a b l:LA):=(xq2 c a b l).fst
def xq1 (c a b l:LA):=(xq2 c a b l).snd
def xq5 (c a b l:LA):=(xq7 c a b l).fst
def xq6 (c a b l:LA):=(xq7 c a b l).snd
def xqZ (c a b l:LA):=xih (List.take (xq0 c a b l) (List.drop 0 (xq1 c a b l)))
def xqx (c a b l:LA):=xih (List.take (xq5 c a b l) (List.drop 0 (xq6 c a b l)))
def xo2 {T:Type} (c a b l:LA) (δ:T) (κ:LA×LA->T):T:=br ((xo4 c a b l).isSome) (br (decide (0+xq5 c a b l<=(xq6 c a b l).length)&&true) (br ((xqx c a b l).isSome) (κ ((xo3 c a b l).fst,(xqx c a b l).getD [])) δ) δ) δ
def xsp {T:Type} (c b a l:LA) (δ:T) (κ:LA×LA->T):T:=br ((xbV c a l).isSome) (br ((xpd c b a l).isSome) (br (decide (0+xpb c b a l<=(xo6 c b a l).length)&&true) (br ((xo5 c b a l).isSome) (br ((↑(xks c b a l).length:Int)==0) (br ((↑a.length:Int)==0) (br ((xtu [] [] l).isSome) (br (xku c b a l==(xkt c b a l).length&&(decide (xkr c b a l*24<=140737488355328)&&decide (xkr c b a l<=4611686018427387904))) (br ((xq4 c b a l).isSome) (br (decide (0+xq0 c b a l<=(xq1 c b a l).length)&&true) (br ((xqZ c b a l).isSome) (κ ((xq3 c b a l).fst,(xqZ c b a l).getD [])) δ) δ) δ) δ) δ) (xo2 c b a l δ κ)) (xo2 c b a l δ κ)) δ) δ) δ) δ
def xi2 (c a b l:LA):=xsp c a b l none some
def xLc:EO:=xzN.f Tryz.func28 116 0 [57,98] [(5,xlV.lp),(15,xlX.lp),(12,xyv.lp)] (lks (lkC xlV.ok (lkC xyv.ok (lkC xlX.ok lkN)))) (u3 (xTl (u2 (uL 1) (uL 1))) (uL 1) (uL 2)) (fun ((c,a,_),b,l,_) _=>xsp c a b l) (fun _ p=>AV.agg [AV.list 1 p.1,AV.list 1 p.2]) ([],[])
def xoX {T:Type} (k l:Int) (f:LA) (m d:Int) (g h i j:LA) (e c b:Nat) (a:LA) (δ:T) (κl:(Int×LA×LA×LA×LA×Nat×Nat×Nat×LA)->T) (κr:(LA×LA×LA×LA×Nat×Nat×LA×Nat)->T):T:=br (decide (d<m)) (br (ixI f d) (br (ixS f d (Sh.list 3) 0) (br (b==c&&(rmB e a 1 40)) (κl (i64.wrap (d+1),g,h,i,j,e+1,c+1,c+1,a++[AV.agg [AV.list 3 (gC f d 0).toList,AV.int .i64 k,AV.int .i64 l]])) δ) δ) δ) (κr (g,h,i,j,c,e,a,b))
def xdP (c d:Int) (k:LA) (l:Int):StT (Int×LA×LA×LA×LA×Nat×Nat×Nat×LA) (LA×LA×LA×LA×Nat×Nat×LA×Nat):=fun (m,e,f,g,h,i,j,a,b)=>xoX c d k l m e f g h i j a b none inL inR
def xyX:=xK5.l 30 5 [1000035,59] [] Tryz.f42 0 lk0 [5,6,17,18,19] [] [] (q5 (xTh 3 0 0 0) (pEptr 2 0 0 (q1 (xTi (q2 qI qI)))) (qL 1) qI qI) (q5 (qB 0 2 25 (q1 (xTi (q2 (qL 1) (qL 3))))) (qB 0 1 22 (q1 (qL 1))) (qB 0 1 26 (q1 (qL 2))) (xTj 0 1 23 false false (q1 (pOslV 4 0))) (pBoxV 3 59 false true xS6)) (fun (_,((c,d,_),_),k,m,n,_) (((e,f,_),_),(g,_),(h,_),((i,j),_),(a,b),_)=>(xdP c d k m,(n,e,f,g,h,j,i,a,b),fun p=>(.leaf (.exit 0) [] [bF 0 2 25 [AV.agg [AV.list 1 p.1,AV.list 3 p.2.1]],bF 0 1 22 [AV.list 1 p.2.2.1],bF 0 1 26 [AV.list 2 p.2.2.2.1],⟨0,1,23,[AV.osl 4 p.2.2.2.2.1 0 p.2.2.2.2.2.1],false,false⟩,bF p.2.2.2.2.2.2.2 3 59 p.2.2.2.2.2.2.1]))) ([],[],[],[],0,0,[],0) fun (_,((c,d,_),_),k,m,_,_) _ (n,e,f,g,h,j,i,a,b)=>((((),((c,d,()),()),k,m,n,()),(((e,f,()),()),(g,()),(h,()),((i,j),()),(a,b),())),xoX c d k m n e f g h j i a b none)
def xwZ (f t:Int) (a b e c d:LA) (v n g:Nat) (h:LA):=Iter (xdP f t ((xbT b a c d).getD ([],[])).snd (↑((xbT b a c d).getD ([],[])).snd.length:Int)) (0,b,e,c,d,n,v,g,h)
def xwY (f t:Int) (a b c d e:LA) (v n g:Nat) (h:LA):=(xwZ f t a b c d e v n g h).getD ([],[],[],[],0,0,[],0)
def xwX (f t:Int) (a b c d e:LA) (v n g:Nat) (h:LA):=(xwY f t a b c d e v n g h).snd
def xwW (f t:Int) (a b c d e:LA) (v n g:Nat) (h:LA):=(xwX f t a b c d e v n g h).snd
def xwV (f t:Int) (a b c d e:LA) (v n g:Nat) (h:LA):=(xwW f t a b c d e v n g h).snd
def xwU (f t:Int) (a b c d e:LA) (v n g:Nat) (h:LA):=(xwV f t a b c d e v n g h).snd
def xwT (f t:Int) (a b c d e:LA) (v n g:Nat) (h:LA):=(xwU f t a b c d e v n g h).snd
def xwS (f t:Int) (a b c d e:LA) (v n g:Nat) (h:LA):=(xwT f t a b c d e v n g h).snd
def xyY {T:Type} (f t:Int) (a b e c d:LA) (v n g:Nat) (h:LA) (δ:T) (κ:LA×LA×LA×LA×Nat×Nat×LA×Nat->T):T:=br ((xbT b a c d).isSome) (br ((xwZ f t a b e c d v n g h).isSome) (κ ((xwY f t a b e c d v n g h).fst,(xwX f t a b e c d v n g h).fst,(xwW f t a b e c d v n g h).fst,(xwV f t a b e c d v n g h).fst,(xwU f t a b e c d v n g h).fst,(xwT f t a b e c d v n g h).fst,(xwS f t a b e c d v n g h).fst,(xwS f t a b e c d v n g h).snd)) δ) δ
def xyC (f t:Int) (a b c d e:LA) (v n g:Nat) (h:LA):=xyY f t a b c d e v n g h none some
def xBQ:EO:=xK5.fM Tryz.func42 30 5 [1000035,59] [(2,xyX.lp)] (lk1 xyX.ok) (u6 (xTl (u2 uI uI)) (uL 1) (sEq (xTh 0 0 0 0)) (sEq (xTh 1 0 0 0)) (sEq (xTh 2 0 0 0)) (sEq (xTh 3 0 0 0))) (q5 (qB 0 2 25 (q1 (xTi (q2 (qL 1) (qL 3))))) (qB 0 1 22 (q1 (qL 1))) (qB 0 1 26 (q1 (qL 2))) (xTj 0 1 23 false false (q1 (pOslV 4 0))) (pBoxV 3 (59:TypeId) false true xS6)) (fun ((f,t,_),a,_,_,_,_,_) (((b,c,_),_),(d,_),(e,_),((v,n),_),(g,h),_) _=>xyY f t a b c d e v n g h) (fun _ _ p=>(AV.tuple [],([bF 0 2 25 [AV.agg [AV.list 1 p.1,AV.list 3 p.2.1]],bF 0 1 22 [AV.list 1 p.2.2.1],bF 0 1 26 [AV.list 2 p.2.2.2.1],⟨0,1,23,[AV.osl 4 p.2.2.2.2.1 0 p.2.2.2.2.2.1],false,false⟩,bF p.2.2.2.2.2.2.2 3 59 p.2.2.2.2.2.2.1]:List Box))) ([],[],[],[],0,0,[],0)
def xfy (l c e:LA) (d:Int) (f g h i:LA) (j k a:Nat) (b:LA):=xyC (gC e d 0).toInt ((c.getD (i64.wrap (d+1)).toNat .top).cells.getD 0 .top).toInt ((xe2 l (gC e d 0).toInt).getD []) f g h i k j a b
def xfz (l c:LA) (d:Int) (e f g h:LA) (i j a:Nat) (b:LA):=xyC (gC c d 0).toInt 1099511627776 ((xe2 l (gC c d 0).toInt).getD []) e f g h j i a b
def xfA (a:LA) (b:Int):=decide (i64.wrap (b+1)<(↑a.length:Int))
def xfu (l c j:LA) (k:Int) (d e f g:LA) (h i a:Nat) (b:LA):=(xfy l c j k d e f g h i a b).getD ([],[],[],[],0,0,[],0)
def xfw (l i:LA) (j:Int) (c d e f:LA) (g h a:Nat) (b:LA):=(xfz l i j c d e f g h a b).getD ([],[],[],[],0,0,[],0)
def xfS (l c j:LA) (k:Int) (d e f g:LA) (h i a:Nat) (b:LA):=(xfu l c j k d e f g h i a b).snd
def xfv (l i:LA) (j:Int) (c d e f:LA) (g h a:Nat) (b:LA):=(xfw l i j c d e f g h a b).snd
def xfQ (l c j:LA) (k:Int) (d e f g:LA) (h i a:Nat) (b:LA):=(xfS l c j k d e f g h i a b).snd
def xft (l i:LA) (j:Int) (c d e f:LA) (g h a:Nat) (b:LA):=(xfv l i j c d e f g h a b).snd
def xfM (l c j:LA) (k:Int) (d e f g:LA) (h i a:Nat) (b:LA):=(xfQ l c j k d e f g h i a b).snd
def xfR (l i:LA) (j:Int) (c d e f:LA) (g h a:Nat) (b:LA):=(xft l i j c d e f g h a b).snd
def xfL (l c j:LA) (k:Int) (d e f g:LA) (h i a:Nat) (b:LA):=(xfM l c j k d e f g h i a b).snd
def xfP (l i:LA) (j:Int) (c d e f:LA) (g h a:Nat) (b:LA):=(xfR l i j c d e f g h a b).snd
def xfK (l c j:LA) (k:Int) (d e f g:LA) (h i a:Nat) (b:LA):=(xfL l c j k d e f g h i a b).snd
def xfO (l i:LA) (j:Int) (c d e f:LA) (g h a:Nat) (b:LA):=(xfP l i j c d e f g h a b).snd
def xfJ (l c j:LA) (k:Int) (d e f g:LA) (h i a:Nat) (b:LA):=(xfK l c j k d e f g h i a b).snd
def xfN (l i:LA) (j:Int) (c d e f:LA) (g h a:Nat) (b:LA):=(xfO l i j c d e f g h a b).snd
def xeE {T:Type} (l d k:LA) (m c:Int) (e f g h:LA) (i j a:Nat) (b:LA) (δ:T) (κl:(Int×LA×LA×LA×LA×Nat×Nat×Nat×LA)->T) (κr:(LA×LA×LA×LA×Nat×Nat×LA×Nat)->T):T:=br (decide (c<m)) (br (ixI k c) (br (ixS k c (Sh.int .i64) 0) (br (xfA d c) (br (decide (0<=i64.wrap (c+1))&&xfA d c) (br (decide ((i64.wrap (c+1)).toNat<d.length)&&xSi (Sh.int .i64) ((d.getD (i64.wrap (c+1)).toNat .top).cells.getD 0 .top)) (br ((xe2 l (gC k c 0).toInt).isSome) (br ((xfy l d k c e f g h i j a b).isSome) (κl (i64.wrap (c+1),(xfu l d k c e f g h i j a b).fst,(xfS l d k c e f g h i j a b).fst,(xfQ l d k c e f g h i j a b).fst,(xfM l d k c e f g h i j a b).fst,(xfK l d k c e f g h i j a b).fst,(xfL l d k c e f g h i j a b).fst,(xfJ l d k c e f g h i j a b).snd,(xfJ l d k c e f g h i j a b).fst)) δ) δ) δ) δ) (br ((xe2 l (gC k c 0).toInt).isSome) (br ((xfz l k c e f g h i j a b).isSome) (κl (i64.wrap (c+1),(xfw l k c e f g h i j a b).fst,(xfv l k c e f g h i j a b).fst,(xft l k c e f g h i j a b).fst,(xfR l k c e f g h i j a b).fst,(xfO l k c e f g h i j a b).fst,(xfP l k c e f g h i j a b).fst,(xfN l k c e f g h i j a b).snd,(xfN l k c e f g h i j a b).fst)) δ) δ)) δ) δ) (κr (e,f,g,h,j,i,b,a))
def xbJ (l c j:LA) (k:Int):StT (Int×LA×LA×LA×LA×Nat×Nat×Nat×LA) (LA×LA×LA×LA×Nat×Nat×LA×Nat):=fun (m,d,e,f,g,h,i,a,b)=>xeE l c j k m d e f g h i a b none inL inR
def xpv:=xBQ.l 36 5 [] [] Tryz.f41 0 lk0 [0,1,4,10,11,12] [] [] (q6 (qL 3) (xSI 42 (q4 (xTh 0 0 0 0) (xTh 1 0 0 0) (xTh 2 0 0 0) (xTh 3 0 0 0))) (qL 1) (qL 1) qI qI) (q5 (qB 0 2 25 (q1 (xTi (q2 (qL 1) (qL 3))))) (qB 0 1 22 (q1 (qL 1))) (qB 0 1 26 (q1 (qL 2))) (xTj 0 1 23 false false (q1 (pOslV 4 0))) (pBoxV 3 59 false true xS6)) (fun (l,(_,_,_,_,_),c,j,k,m,_) (((d,e,_),_),(f,_),(g,_),((h,i),_),(a,b),_)=>(xbJ l c j k,(m,d,e,f,g,i,h,a,b),fun p=>(.leaf (.exit 0) [] [bF 0 2 25 [AV.agg [AV.list 1 p.1,AV.list 3 p.2.1]],bF 0 1 22 [AV.list 1 p.2.2.1],bF 0 1 26 [AV.list 2 p.2.2.2.1],⟨0,1,23,[AV.osl 4 p.2.2.2.2.1 0 p.2.2.2.2.2.1],false,false⟩,bF p.2.2.2.2.2.2.2 3 59 p.2.2.2.2.2.2.1]))) ([],[],[],[],0,0,[],0) fun (l,(_,_,_,_,_),c,j,k,_,_) _ (m,d,e,f,g,i,h,a,b)=>(((l,((),(),(),(),()),c,j,k,m,()),(((d,e,()),()),(f,()),(g,()),((h,i),()),(a,b),())),xeE l c j k m d e f g i h a b none)
def xdI:Env:=xBQ.E.fn 36 5 (lsOf []) (xSH [(2,xpv.lp)])
theorem xyZ:xSk P0 (xS1.at 5) xdI:=xBQ.ok.fn
theorem xwx:LoOk P0 (xS1.at xdI.pin) xdI (Tryz.f41.body.getD .skip):=xgK (ls:=[xSo Tryz.f41 0]) (by kernel_rfl) (lkC xpv.ok lkN)
def xmt (l a b c d:LA) (v n e:Nat) (f:LA):=Iter (xbJ l ((xhm l).getD []) ((xhm l).getD []) (↑((xhm l).getD []).length:Int)) (0,a,b,c,d,n,v,e,f)
def xms (l a b c d:LA) (v n e:Nat) (f:LA):=(xmt l a b c d v n e f).getD ([],[],[],[],0,0,[],0)
def xmr (l a b c d:LA) (v n e:Nat) (f:LA):=(xms l a b c d v n e f).snd
def xmq (l a b c d:LA) (v n e:Nat) (f:LA):=(xmr l a b c d v n e f).snd
def xmp (l a b c d:LA) (v n e:Nat) (f:LA):=(xmq l a b c d v n e f).snd
def xmo (l a b c d:LA) (v n e:Nat) (f:LA):=(xmp l a b c d v n e f).snd
def xmn (l a b c d:LA) (v n e:Nat) (f:LA):=(xmo l a b c d v n e f).snd
def xmm (l a b c d:LA) (v n e:Nat) (f:LA):=(xmn l a b c d v n e f).snd
def xh8 {T:Type} (l a b c d:LA) (v n e:Nat) (f:LA) (δ:T) (κ:LA×LA×LA×LA×Nat×Nat×LA×Nat->T):T:=br ((xhm l).isSome) (br ((xmt l a b c d v n e f).isSome) (κ ((xms l a b c d v n e f).fst,(xmr l a b c d v n e f).fst,(xmq l a b c d v n e f).fst,(xmp l a b c d v n e f).fst,(xmo l a b c d v n e f).fst,(xmn l a b c d v n e f).fst,(xmm l a b c d v n e f).fst,(xmm l a b c d v n e f).snd)) δ) δ
def xfe (l a b c d:LA) (v n e:Nat) (f:LA):=xh8 l a b c d v n e f none some
theorem xA0 (l a b c d:LA) (v n e:Nat) (xs:LA):Enc (fun (p:LA×LA×LA×LA×Nat×Nat×LA×Nat)=>(((AV.tuple [],([⟨0,2,25,[AV.agg [AV.list 1 p.1,AV.list 3 p.2.1]],false,true⟩,⟨0,1,22,[AV.list 1 p.2.2.1],false,true⟩,⟨0,1,26,[AV.list 2 p.2.2.2.1],false,true⟩,⟨0,1,23,[AV.osl 4 p.2.2.2.2.1 0 p.2.2.2.2.2.1],false,false⟩,⟨p.2.2.2.2.2.2.2,3,59,p.2.2.2.2.2.2.1,false,true⟩]:List Box))):(AV×List Box))) (xfe l a b c d v n e xs) (XFM P0 xdI Tryz.f41 (Tryz.f41.body.getD .skip) [AV.list 3 l,AV.func (42:FuncId) [AV.own (0:Id) 0 0 0,AV.own (1:Id) 0 0 0,AV.own (2:Id) 0 0 0,AV.own (3:Id) 0 0 0]] [{ ver:=0,sz:=2,ty:=(25:TypeId),xs:=[AV.agg [AV.list 1 a,AV.list 3 b]],frz:=false,pm:=true },{ ver:=0,sz:=1,ty:=(22:TypeId),xs:=[AV.list 1 c],frz:=false,pm:=true },{ ver:=0,sz:=1,ty:=(26:TypeId),xs:=[AV.list 2 d],frz:=false,pm:=true },{ ver:=0,sz:=1,ty:=(23:TypeId),xs:=[AV.osl (4:Id) v 0 n],frz:=false,pm:=false },{ ver:=e,sz:=3,ty:=(59:TypeId),xs:=xs,frz:=false,pm:=true }]):=by
 have h:XFM P0 xdI Tryz.f41 (Tryz.f41.body.getD .skip) [AV.list 3 l,AV.func (42:FuncId) [AV.own (0:Id) 0 0 0,AV.own (1:Id) 0 0 0,AV.own (2:Id) 0 0 0,AV.own (3:Id) 0 0 0]] [{ ver:=0,sz:=2,ty:=(25:TypeId),xs:=[AV.agg [AV.list 1 a,AV.list 3 b]],frz:=false,pm:=true },{ ver:=0,sz:=1,ty:=(22:TypeId),xs:=[AV.list 1 c],frz:=false,pm:=true },{ ver:=0,sz:=1,ty:=(26:TypeId),xs:=[AV.list 2 d],frz:=false,pm:=true },{ ver:=0,sz:=1,ty:=(23:TypeId),xs:=[AV.osl (4:Id) v 0 n],frz:=false,pm:=false },{ ver:=e,sz:=3,ty:=(59:TypeId),xs:=xs,frz:=false,pm:=true }]=xh8 l a b c d v n e xs none (fun (p:LA×LA×LA×LA×Nat×Nat×LA×Nat)=>some (((AV.tuple [],([⟨0,2,25,[AV.agg [AV.list 1 p.1,AV.list 3 p.2.1]],false,true⟩,⟨0,1,22,[AV.list 1 p.2.2.1],false,true⟩,⟨0,1,26,[AV.list 2 p.2.2.2.1],false,true⟩,⟨0,1,23,[AV.osl 4 p.2.2.2.2.1 0 p.2.2.2.2.2.1],false,false⟩,⟨p.2.2.2.2.2.2.2,3,59,p.2.2.2.2.2.2.1,false,true⟩]:List Box))):(AV×List Box))):=by kernel_rfl
 rw [h];unfold xfe xh8;repeat' (first|refine Enc.br ?_ ?_|exact Enc.none|exact Enc.some rfl)
end Go.Sim.M
end
noncomputable section
set_option maxRecDepth 100000
namespace Go.Sim
open Go.RowKit
theorem GoodM.aged1 {P:Program} {Inv:IV} {f:FuncId} {Z:List AV} {H:List Box} {b0 b1 b2:Box} {v4 k4 t3 t4 s4:Nat} {Y:List AV} (ai:∀ bx,H[4]?=some bx->bx.ver=0)
  (p0:isC b0.ty=false) (p1:isC b1.ty=false) (p2:isC b2.ty=false) (p3:isC t3=false) (p4:isC t4=false) (q0:b0.pm=true) (q1:b1.pm=true) (q2:b2.pm=true)
  (h:GoodM P Inv f Z H (.tuple []) [b0,b1,b2,⟨0,1,t3,[.osl (.b 4) v4 0 k4],false,false⟩,⟨v4,s4,t4,Y,false,true⟩]) :
  GoodM P Inv f Z H (.tuple []) [b0,b1,b2,⟨0,1,t3,[.osl (.b 4) 1 0 k4],false,false⟩,⟨1,s4,t4,Y,false,true⟩]:=by
 refine ⟨h.1,fun w0 w A M vs hI hB hR al=>(h.2 w0 w A M vs hI hB hR al).mono ?_⟩
 rintro e w' ⟨u,A',M',rfl,h1,h2,h3,h4,h5⟩;let M'':Id->Option MB:=fun id=>if id=.b 4 then (M' id).map fun m=>⟨m.b,1,m.sz,m.cap,m.ty⟩ else M' id
 have e4:∀ m,M' (.b 4)=some m->M'' (.b 4)=some ⟨m.b,1,m.sz,m.cap,m.ty⟩:=fun m hm=>by simp [M'',hm]
 have eo:∀ id,id≠.b 4->M'' id=M' id:=fun id g1=>by
  show (if _ then _ else _)=_
  rw [if_neg g1]
 have V:∀ id m1,M'' id=some m1->∃ m0,M' id=some m0/\m1.b=m0.b/\m1.cap=m0.cap/\m1.sz=m0.sz/\m1.ty=m0.ty:=fun id m1 J=>by
  by_cases g3:id=.b 4
  . subst g3;cases hm:M' (.b 4) with
    | none=>simp [M'',hm] at J
    | some m=>rw [e4 m hm] at J;simp only [z6] at J;subst J;exact ⟨m,rfl,rfl,rfl,rfl,rfl⟩
  . rw [eo id g3] at J;exact ⟨m1,J,rfl,rfl,rfl,rfl⟩
 have ag:∀ (n v k:Nat) (c:Value) (m:MB),M' (.b n)=some m->M'' (.b n)=some ⟨m.b,1,m.sz,m.cap,m.ty⟩->v=m.ver->Rel w' A' M' c (.osl (.b n) v 0 k)->Rel w' A' M'' c (.osl (.b n) 1 0 k):=fun n v k c m hm ad hv hr=>by
  obtain ⟨m0,g1,g2,g3,g4⟩:=Rel.osl_inv hr;rw [hm] at g1;simp only [z6] at g1;subst g1;exact .osl c (.b n) 1 0 k _ ad (zd _) g3 fun _=>g4 hv
 have Q:∀ (n:Nat) (bx:Box) (m:MB),([b0,b1,b2,⟨0,1,t3,[.osl (.b 4) v4 0 k4],false,false⟩,⟨v4,s4,t4,Y,false,true⟩]:List Box)[n]?=some bx->M' (.b n)=some m->BoxAt w' A' M' w0.heap.size (.b n) m bx:=fun n bx m hn hm=>by
  obtain ⟨bx',g1,g2⟩:=h4.box _ m hm;rw [xb6,hn] at g1;simp only [z6] at g1;subst g1;exact g2
 have U:∀ (id:Id) (bx:Box) (m:MB) (v:Nat),isC bx.ty=false->bx.pm=true->BoxAt w' A' M' w0.heap.size id m bx->BoxAt w' A' M'' w0.heap.size id ⟨m.b,v,m.sz,m.cap,m.ty⟩ ⟨v,bx.sz,bx.ty,bx.xs,bx.frz,bx.pm⟩:=fun id bx m v O hp g=>by
  have W:xSm m.ty=false:=g.nomap (xba O);refine ⟨rfl,g.sz,g.ty,g.capm,g.fits,g.ok,g.low,g.lt,fun h0=>?_,g.guard⟩
  obtain ⟨c,c1,c2,c3⟩:=g.cells h0;refine ⟨c,.of W (c1.plain W),c2,fun i j hi hj=>?_⟩
  have:=c3 i j hi hj;rw [xaR O,xa6 O,hp] at this;rw [xaR O,xa6 (bx:=⟨v,bx.sz,bx.ty,bx.xs,bx.frz,bx.pm⟩) O];show Rel w' A' (MP M'' bx.pm) _ _;rw [hp];exact this
 have ae:∀ (n n2 v k t:Nat) (m m2:MB),isC t=false->BoxAt w' A' M' w0.heap.size (.b n) m ⟨0,1,t,[.osl (.b n2) v 0 k],false,false⟩->M' (.b n2)=some m2->M'' (.b n2)=some ⟨m2.b,1,m2.sz,m2.cap,m2.ty⟩->v=m2.ver ->
   BoxAt w' A' M'' w0.heap.size (.b n) m ⟨0,1,t,[.osl (.b n2) 1 0 k],false,false⟩:=fun n n2 v k t m m2 O g ap ac hv=>by
  have W:xSm m.ty=false:=g.nomap (xba O);have hsz:m.sz=1:=g.sz.symm;refine ⟨g.ver,g.sz,g.ty,g.capm,g.fits,fun y hy=>?_,g.low,g.lt,fun h0=>?_,g.guard⟩
  . simp only [zv] at hy;subst hy;rw [hsz];rfl
  . obtain ⟨c,c1,c2,c3⟩:=g.cells h0;refine ⟨c,.of W (c1.plain W),c2,fun i j hi hj=>?_⟩
    have aj:i=0:=by simpa using hi
    have an:j=0:=by omega
    subst aj an;have:=c3 0 0 (by simp) hj
    rw [xaR O,xa6 O] at this;rw [xaR O,xa6 (bx:=⟨0,1,t,[.osl (.b n2) 1 0 k],false,false⟩) O];exact ag n2 v k _ m2 ap ac hv this
 have aq:∀ m,M (.b 4)=some m->m.ver=0:=fun m hm=>by
  obtain ⟨bx,g1,g2⟩:=hR.box _ m hm;rw [<-g2.ver];exact ai bx g1
 have aa:∀ m,M' (.b 4)=some m->v4=m.ver:=fun m hm=>(Q 4 _ m rfl hm).ver
 have af:∀ n i j m,M' (.r n i j)=some m->BoxAt w' A' M' w0.heap.size (.r n i j) m tombB/\n<5:=fun n i j m hm=>by
  obtain ⟨bx,g1,g2⟩:=h4.box _ m hm;obtain ⟨c0,q1,_⟩:=xrR g1;have hn:n<5:=by
   have:=xcP q1;simpa using this
  have hp:isC c0.ty=false:=by
   match n,hn with
   | 0,_=>simp only [zY,z6] at q1;subst q1;exact p0
   | 1,_=>simp only [zY,zZ,z6] at q1;subst q1;exact p1
   | 2,_=>simp only [zY,zZ,z6] at q1;subst q1;exact p2
   | 3,_=>simp only [zY,zZ,z6] at q1;subst q1;exact p3
   | 4,_=>simp only [zY,zZ,z6] at q1;subst q1;exact p4
  rw [xbz q1 hp] at g1;simp only [z6] at g1;subst g1;exact ⟨g2,hn⟩
 have ab:∀ (n:Nat) (bx:Box) (m:MB),isC bx.ty=false->bx.pm=true->BoxAt w' A' M' w0.heap.size (.b n) m bx->BoxAt w' A' M'' w0.heap.size (.b n) m bx:=fun n bx m O am q=>by
  have:=U (.b n) bx m m.ver O am q;exact ⟨q.ver,this.sz,this.ty,this.capm,this.fits,this.ok,this.low,this.lt,this.cells,this.guard⟩
 have hR':HR w' A' M'' w0.heap.size [b0,b1,b2,⟨0,1,t3,[.osl (.b 4) 1 0 k4],false,false⟩,⟨1,s4,t4,Y,false,true⟩]:=by
  refine ⟨fun id m1 J=>?_,fun id id' m1 m2 k1 k2 c1 c2 he=>?_,h4.lt⟩
  . obtain ⟨m0,g1,g2,g3,g4,g5⟩:=V id m1 J;cases id with
    | r n i j =>
     rw [eo (.r n i j) (fun e=>by cases e),g1] at J
     simp only [z6] at J;subst J;obtain ⟨q1,q2⟩:=af n i j _ g1;refine ⟨tombB,?_,?_⟩
     . match n,q2 with
       | 0,_=>exact xbz rfl p0
       | 1,_=>exact xbz rfl p1
       | 2,_=>exact xbz rfl p2
       | 3,_=>exact xbz rfl p3
       | 4,_=>exact xbz rfl p4
     . have:=U (.r n i j) tombB m0 m0.ver rfl rfl q1;exact ⟨q1.ver,this.sz,this.ty,this.capm,this.fits,this.ok,this.low,this.lt,this.cells,this.guard⟩
    | b n =>
     have hn:n<5:=by
      obtain ⟨bx,q1,_⟩:=h4.box _ m0 g1;have:=xcP q1;simpa using this
     match n,hn with
     | 0,_ =>
      rw [eo (.b 0) (fun e=>by cases e),g1] at J
      simp only [z6] at J;subst J;exact ⟨b0,rfl,ab 0 b0 _ p0 q0 (Q 0 _ _ rfl g1)⟩
     | 1,_ =>
      rw [eo (.b 1) (fun e=>by cases e),g1] at J
      simp only [z6] at J;subst J;exact ⟨b1,rfl,ab 1 b1 _ p1 q1 (Q 1 _ _ rfl g1)⟩
     | 2,_ =>
      rw [eo (.b 2) (fun e=>by cases e),g1] at J
      simp only [z6] at J;subst J;exact ⟨b2,rfl,ab 2 b2 _ p2 q2 (Q 2 _ _ rfl g1)⟩
     | 3,_ =>
      rw [eo (.b 3) (fun e=>by cases e),g1] at J
      simp only [z6] at J;subst J;have q:=Q 3 _ m0 rfl g1;have hc:0<m0.cap:=Nat.lt_of_lt_of_le Nat.zero_lt_one q.fits;obtain ⟨c,c1,c2,c3⟩:=q.cells hc;have hr:=c3 0 0 (by simp) (by rw [<-q.sz];exact Nat.zero_lt_one)
      rw [xaR p3,xa6 (bx:=⟨0,1,t3,[.osl (.b 4) v4 0 k4],false,false⟩) p3] at hr;have hr:Rel w' A' M' _ (.osl (.b 4) v4 0 k4):=hr;obtain ⟨m4,a1,_⟩:=Rel.osl_inv hr;exact ⟨_,rfl,ae 3 4 v4 k4 t3 m0 m4 p3 q a1 (e4 m4 a1) (aa m4 a1)⟩
     | 4,_ =>
      rw [e4 m0 g1] at J;simp only [z6] at J;subst J;exact ⟨_,rfl,U (.b 4) _ m0 1 p4 rfl (Q 4 _ m0 rfl g1)⟩
  . obtain ⟨n1,a1,a2,a3,_⟩:=V id m1 k1;obtain ⟨n2,ao,ar,aw,_⟩:=V id' m2 k2;exact h4.inj id id' n1 n2 a1 ao (by omega) (by omega) (by rw [<-a2,<-ar,he])
 refine ⟨u,A',M'',rfl,h1,h2,⟨h3.size,h3.keep,h3.less,h3.more,fun id m ah hm=>?_,fun id m1 J h0=>?_⟩,hR',?_⟩
 . obtain ⟨m',g1,g2⟩:=h3.ids id m ah hm;by_cases q4:id=.b 4
   . subst q4;exact ⟨_,e4 m' g1,.inr (by have:m.ver=0:=aq m hm;show m.ver<1;omega)⟩
   . exact ⟨m',by rw [eo id q4];exact g1,g2⟩
 . obtain ⟨m0,g1,g2,g3,_⟩:=V id m1 J;rw [g2];exact h3.src id m0 g1 (by omega)
 . obtain ⟨au,rfl,q1,_⟩:=h5.tuple_inv;exact .tuple au [] q1 (by simp)
namespace M
open Go.Proofs
noncomputable def gset (l kd fs ks ag:List AV) (n:Nat) (xs:List AV):Option (List AV×List AV×List AV×List AV×Nat×List AV):=(xfe l kd fs ks ag 0 n 0 xs).bind fun p =>
 br (Nat.beq p.2.2.2.2.1 p.2.2.2.2.2.2.2) (some (p.1,p.2.1,p.2.2.1,p.2.2.2.1,p.2.2.2.2.2.1,p.2.2.2.2.2.2.1)) none
noncomputable def xLS:List AV->List Box->Option (Bool×AV×List Box):=omOf (xS3 (xTk 3 xS6) (xS3 (sEq (xSI 42 (xS2 (xTh 0 0 0 0) (xS2 (xTh 1 0 0 0) (xS2 (xTh 2 0 0 0) (xS2 (xTh 3 0 0 0) xS4)))))) xS5))
 (xS2 (xTj 0 2 25 false true (xS2 (xTi (xS2 (xTm 1 xS6) (xS2 (xTm 3 xS6) xS4))) xS4)) (xS2 (xTj 0 1 22 false true (xS2 (xTm 1 xS6) xS4)) (xS2 (xTj 0 1 26 false true (xS2 (xTm 2 xS6) xS4)) (xS2 (xTj 0 1 23 false false (xS2 (xTg 4 0 0) xS4)) (xS2 (xTj 0 3 59 false true xS6) xS4)))))
 fun (l,((_,(_,(_,(_,_)))),_)) (((kd,(fs,_)),_),((ks,_),((ag,_),((n,_),(xs,_)))))=>((gset l kd fs ks ag n xs).isSome,(.tuple [],[⟨0,2,25,[.agg [.list 1 ((gset l kd fs ks ag n xs).getD ([],[],[],[],0,[])).1,.list 3 ((gset l kd fs ks ag n xs).getD ([],[],[],[],0,[])).2.1]],false,true⟩,⟨0,1,22,[.list 1 ((gset l kd fs ks ag n xs).getD ([],[],[],[],0,[])).2.2.1],false,true⟩,⟨0,1,26,[.list 2 ((gset l kd fs ks ag n xs).getD ([],[],[],[],0,[])).2.2.2.1],false,true⟩,⟨0,1,23,[.osl (.b 4) 1 0 ((gset l kd fs ks ag n xs).getD ([],[],[],[],0,[])).2.2.2.2.1],false,false⟩,⟨1,3,59,((gset l kd fs ks ag n xs).getD ([],[],[],[],0,[])).2.2.2.2.2,false,true⟩]))
theorem xP8:OmOk P0 xS1 41 xLS:=xqV fun vv bb rr V hh=>by
 obtain ⟨l,⟨⟨_,⟨_,⟨_,⟨_,_⟩⟩⟩⟩,_⟩⟩:=vv;obtain ⟨⟨⟨kd,⟨fs,_⟩⟩,_⟩,⟨⟨ks,_⟩,⟨⟨ag,_⟩,⟨⟨n,_⟩,⟨xs,_⟩⟩⟩⟩⟩:=bb;obtain ⟨q,J⟩:=Prod.mk.inj hh;cases hs:xfe l kd fs ks ag 0 n 0 xs with
 | none=>rw [show gset l kd fs ks ag n xs=none by unfold gset;rw [hs];rfl] at q;simp at q
 | some p =>
  have O:gset l kd fs ks ag n xs=br (Nat.beq p.2.2.2.2.1 p.2.2.2.2.2.2.2) (some (p.1,p.2.1,p.2.2.1,p.2.2.2.1,p.2.2.2.2.2.1,p.2.2.2.2.2.2.1)) none:=by unfold gset;rw [hs];rfl
  cases ht:Nat.beq p.2.2.2.2.1 p.2.2.2.2.2.2.2 with
  | false=>rw [O,ht] at q;simp [br] at q
  | true =>
   rw [ht] at O;have Q:gset l kd fs ks ag n xs=some (p.1,p.2.1,p.2.2.1,p.2.2.2.1,p.2.2.2.2.2.1,p.2.2.2.2.2.2.1):=O;rw [Q] at J;simp only [zh] at J;have e1:=zg ht;have hx:=xA0 l kd fs ks ag 0 n 0 xs p hs;have hg:GoodM P0 xS1 41 _ _ _ _:=xi0 (p:=xdI.pin) (xkc xSt (xSu P0 _) rfl xyZ rfl Tryz.func41 rfl (by kernel_rfl) xwx hx)
   rw [<-e1] at hg;have U:=GoodM.aged1 (fun bx hb=>by simp only [zY,zZ,z6] at hb;subst hb;rfl) rfl rfl rfl rfl rfl rfl rfl rfl hg
   obtain ⟨rfl,rfl⟩:=Prod.mk.inj J;exact U
noncomputable def EGset:Env:=xBQ.E.withM 41 xLS
theorem xGn:xSk P0 xS1 EGset:=xBQ.ok.withM xP8
noncomputable def xGm:EO:=EO.mk EGset xGn
end M
end Go.Sim
end
noncomputable section
set_option maxRecDepth 100000
namespace Go.Sim.M
open Go.IntKind (i64 u64 u8)
open Go.RowKit Go.Proofs
def xml (d:LA) (e:Int) (f g b h:LA) (c:Nat) (a:LA):=(gset (gC d e 0).toList f g b h c a).getD ([],[],[],[],0,[])
def xmk (d:LA) (e:Int) (f g b h:LA) (c:Nat) (a:LA):=(xml d e f g b h c a).snd
def xmj (d:LA) (e:Int) (f g b h:LA) (c:Nat) (a:LA):=(xmk d e f g b h c a).snd
def xmi (d:LA) (e:Int) (f g b h:LA) (c:Nat) (a:LA):=(xmj d e f g b h c a).snd
def xmh (d:LA) (e:Int) (f g b h:LA) (c:Nat) (a:LA):=(xmi d e f g b h c a).snd
def xh7 {T:Type} (e:LA) (i d:Int) (f g b h:LA) (c:Nat) (a:LA) (δ:T) (κl:(Int×LA×LA×LA×LA×Nat×LA)->T) (κr:(LA×LA×LA×LA×Nat×LA)->T):T:=br (decide (d<i)) (br (ixI e d) (br (ixS e d (Sh.list 3) 0) (br ((gset (gC e d 0).toList f g b h c a).isSome) (κl (i64.wrap (d+1),(xml e d f g b h c a).fst,(xmk e d f g b h c a).fst,(xmj e d f g b h c a).fst,(xmi e d f g b h c a).fst,(xmh e d f g b h c a).fst,(xmh e d f g b h c a).snd)) δ) δ) δ) (κr (f,g,b,h,c,a))
def xcT (d:LA) (e:Int):StT (Int×LA×LA×LA×LA×Nat×LA) (LA×LA×LA×LA×Nat×LA):=fun (f,g,h,b,i,c,a)=>xh7 d e f g h b i c a none inL inR
def xtl:=xGm.l 33 0 [] [] Tryz.f13 0 lk0 [3,4,5,6,7,13,14,15] [3,4,5,6,7] [(7,3,59)] (q8 (xTh 0 0 0 0) (xTh 1 0 0 0) (xTh 2 0 0 0) (xTh 3 0 0 0) (xTh 4 0 0 0) (qL 1) qI qI) (q6 (qB 0 2 25 (q1 (xTi (q2 (qL 1) (qL 3))))) (qB 0 1 22 (q1 (qL 1))) (qB 0 1 26 (q1 (qL 2))) (qB 0 2 25 (q1 (xTi (q2 pNils pNils)))) (xTj 0 1 23 false false (q1 (xTg 5 0 0))) (qB 0 3 59 xS6)) (fun (_,_,_,_,_,d,e,f,_) (((g,h,_),_),(b,_),(i,_),((_,_,_),_),(c,_),a,_)=>(xcT d e,(f,g,h,b,i,c,a),fun p=>(.leaf (.exit 0) [AV.own 0 0 0 0,AV.own 1 0 0 0,AV.own 2 0 0 0,AV.own 3 0 0 0,AV.own 4 0 0 0] [bF 0 2 25 [AV.agg [AV.list 1 p.1,AV.list 3 p.2.1]],bF 0 1 22 [AV.list 1 p.2.2.1],bF 0 1 26 [AV.list 2 p.2.2.2.1],bF 0 2 25 [AV.agg [AV.nils,AV.nils]],⟨0,1,23,[AV.osl 5 0 0 p.2.2.2.2.1],false,false⟩,bF 0 3 59 p.2.2.2.2.2]))) ([],[],[],[],0,[]) fun (_,_,_,_,_,d,e,_,_) _ (f,g,h,b,i,c,a)=>((((),(),(),(),(),d,e,f,()),(((g,h,()),()),(b,()),(i,()),(((),(),()),()),(c,()),a,())),xh7 d e f g h b i c a none)
def xps (c a b l:LA):=Iter (xcT ((xi6 a b).getD []) (↑((xi6 a b).getD []).length:Int)) (0,c,a,b,l,0,[])
def xpr (c a b l:LA):=(xps c a b l).getD ([],[],[],[],0,[])
def xpq (c a b l:LA):=(xpr c a b l).snd.snd
def xpp (c a b l:LA):=(xpq c a b l).snd
def xpk (c a b l:LA):=xbT (xpr c a b l).fst [] (xpq c a b l).fst (xpp c a b l).fst
def xpo (c a b l:LA):=(xpp c a b l).snd
def xpm (c a b l:LA):=(xpo c a b l).snd
def xpn (c a b l:LA):=(xpo c a b l).fst
def xpl (c a b l:LA):=xmu (List.take (xpn c a b l) (List.drop 0 (xpm c a b l)))
def xrj {T:Type} (c a b l:LA) (δ:T) (κ:LA×LA->T):T:=br ((xi6 a b).isSome) (br ((xps c a b l).isSome) (br ((xpk c a b l).isSome) (br (decide (0+xpn c a b l<=(xpm c a b l).length)&&true) (br ((xpl c a b l).isSome) (κ (((xpk c a b l).getD ([],[])).fst,(xpl c a b l).getD [])) δ) δ) δ) δ) δ
def xfI (c a b l:LA):=xrj c a b l none some
def xys:LA->Option (Bool×AV):=fnO (u3 (xTl (u2 (uL 1) (uL 3))) (uL 1) (uL 2)) (fun ((c,a,_),b,l,_) _=>xrj c a b l) (fun _ p=>AV.agg [AV.list 1 p.1,AV.list 3 p.2]) ([],[])
theorem xyr:OcOk P0 xS1 13 xys:=fnC xGn Tryz.func13 33 0 [] [(3,xtl.lp)] (lk1 xtl.ok)
def xK6:EO:=xGm.w xyr
def xtm {T:Type} (l:LA) (e:Int) (c:LA) (h:Int) (d:Nat) (a:Int) (f g b:LA) (δ:T) (κl:(Nat×Int×LA×LA×LA)->T) (κr:(Nat×LA×LA×LA)->T):T:=br (decide (a<h)) (br (ixI c a) (br (ixT c a 3 [Sh.list 3,Sh.int .i64,Sh.int .i64] 0) (br (rmB d b 1 40) (κl (d+1,i64.wrap (a+1),f,g,b++[AV.agg [AV.list 3 (gC c a 0).toList,AV.int .i64 (gC c a 1).toInt,AV.int .i64 (if 1099511627776<i64.wrap ((gC c a 2).toInt+e) then 1099511627776 else i64.wrap ((gC c a 2).toInt+e))]])) δ) δ) δ) (κr (d,f,g,b))
def xpt (l:LA) (c:Int) (d:LA) (e:Int):StT (Nat×Int×LA×LA×LA) (Nat×LA×LA×LA):=fun (b,f,g,h,a)=>xtm l c d e b f g h a none inL inR
def xrN:=xK6.l 42 0 [59] [] Tryz.f15 0 lk0 [1,3,6,7,8,17,18,19] [1,3,6,8] [(8,3,59)] (q8 (qL 2) (xTh 0 0 0 0) (xTh 1 0 0 0) qI (xTg 2 0 0) (qL 3) qI qI) (q3 (qB 0 2 25 (q1 (xTi (q2 (qL 1) (qL 3))))) (qB 0 2 25 (q1 (xTi (q2 pNils pNils)))) (qB 0 3 59 xS6)) (fun (l,_,_,c,b,d,e,f,_) (((g,h,_),_),((_,_,_),_),a,_)=>(xpt l c d e,(b,f,g,h,a),fun p=>(.leaf (.exit 0) [AV.list 2 l,AV.own 0 0 0 0,AV.own 1 0 0 0,AV.osl 2 0 0 p.1] [bF 0 2 25 [AV.agg [AV.list 1 p.2.1,AV.list 3 p.2.2.1]],bF 0 2 25 [AV.agg [AV.nils,AV.nils]],bF 0 3 59 p.2.2.2]))) (0,[],[],[]) fun (l,_,_,c,_,d,e,_,_) _ (b,f,g,h,a)=>(((l,(),(),c,b,d,e,f,()),(((g,h,()),()),(((),(),()),()),a,())),xtm l c d e b f g h a none)
def xvl (c b l:LA) (a:Int):=Iter (xpt l (i64.wrap ((if 1099511627776<if 1>a then 1 else a then 1099511627776 else if 1>a then 1 else a) - 1)) ((xmu b).getD []) (↑((xmu b).getD []).length:Int)) (0,0,c,b,[])
def xvk (c b l:LA) (a:Int):=(xvl c b l a).getD (0,[],[],[])
def xvi (c b l:LA) (a:Int):=(xvk c b l a).snd
def xvj (c b l:LA) (a:Int):=(xvk c b l a).fst
def xvh (c b l:LA) (a:Int):=(xvi c b l a).snd.snd
def xvg (c b l:LA) (a:Int):=xfI (xvi c b l a).fst (List.take (xvj c b l a) (List.drop 0 (xvh c b l a))) [] l
def xvf (c b l:LA) (a:Int):=(xvg c b l a).getD ([],[])
def xBY {T:Type} (c b l:LA) (a:Int) (δ:T) (κ:LA×LA->T):T:=br ((xmu b).isSome) (br ((xvl c b l a).isSome) (br (decide (0+xvj c b l a<=(xvh c b l a).length)&&true&&true) (br ((xvg c b l a).isSome) (κ ((xvf c b l a).fst,(xvf c b l a).snd)) δ) δ) δ) δ
def xws:LA->Option (Bool×AV):=fnO (u3 (xTl (u2 (uL 1) (uL 3))) (uL 2) uI) (fun ((c,b,_),l,a,_) _=>xBY c b l a) (fun _ p=>AV.agg [AV.list 1 p.1,AV.list 3 p.2]) ([],[])
theorem xBX:OcOk P0 xS1 15 xws:=fnC xK6.ok Tryz.func15 42 0 [59] [(4,xrN.lp)] (lk1 xrN.ok)
def xgV {T:Type} (i:Int) (b a:LA) (δ:T) (κl:(Int×LA×LA)->T) (κr:(Bool×(Bool×LA×LA)×(LA×LA))->T):T:=br (decide (i<a.length)) (br (ixI a i) (br (ixT a i 3 [Sh.int .i64,Sh.int .i64] 1) (br (!xdg (gC a i 1).toInt (gC a i 2).toInt) (κr (true,(false,b,a),([],[]))) (br (ixI a i) (br (ixS a i (Sh.list 3) 0) (br ((xyJ (gC a i 0).toList b).isSome) (br (!(xyJ (gC a i 0).toList b).getD false) (κr (true,(false,b,a),([],[]))) (κl (i64.wrap (i+1),b,a))) δ) δ) δ)) δ) δ) (κr (false,(false,[],[]),(b,a)))
def xb0:StT (Int×LA×LA) (Bool×(Bool×LA×LA)×(LA×LA)):=fun (i,a,b)=>xgV i a b none inL inR
def xyy:=xLc.l 46 0 [] [] Tryz.f35 0 lk0 [1,3] [1,2] [] (q2 (xTh 0 0 0 0) qI) (q1 (qB 0 2 25 (q1 (xTi (q2 (qL 1) (qL 3)))))) (fun (_,i,_) (((a,b,_),_),_)=>(xb0,(i,a,b),fun p=>(.node p.1 (.leaf .ret [AV.own 0 0 0 0,AV.bool p.2.1.1] [bF 0 2 25 [AV.agg [AV.list 1 p.2.1.2.1,AV.list 3 p.2.1.2.2]]]) (.leaf (.exit 0) [AV.own 0 0 0 0,.top] [bF 0 2 25 [AV.agg [AV.list 1 p.2.2.1,AV.list 3 p.2.2.2]]])))) (false,(false,[],[]),([],[])) fun _ _ (i,a,b)=>((((),i,()),(((a,b,()),()),())),xgV i a b none)
def xmY (b a:LA):=(Iter xb0 (0,b,a)).getD (false,(false,[],[]),[],[])
def xmX (b a:LA):=(xmY b a).snd
def xmW (b a:LA):=(xmX b a).snd.fst
def xmU (b a:LA):=(↑(xmW b a).length:Int)
def xmV (b a:LA):=xAd (xmW b a)
def xyg {T:Type} (b a:LA) (δ:T) (κ:Bool->T):T:=br ((Iter xb0 (0,b,a)).isSome) (br ((xmY b a).fst) (κ ((xmX b a).fst.fst)) (br (decide (xmU b a>0)) (br (decide (xmU b a<=48)) (br ((xmV b a).isSome) (κ ((xmV b a).getD false)) δ) (κ (false))) (κ (false)))) δ
def xwo (b a:LA):=xyg b a none some
def xLd:EO:=xLc.f Tryz.func35 46 0 [] [(2,xyy.lp)] (lk1 xyy.ok) (u1 (xTl (u2 (uL 1) (uL 3)))) (fun ((b,a,_),_) _=>xyg b a) (fun _ p=>AV.bool p) false
def xip {T:Type} (a b:LA) (i:Int) (δ:T) (κl:(Int)->T) (κr:(Bool×(Bool)×(Unit))->T):T:=br (decide (i<a.length)) (br (ixI a i) (br (ixS a i (Sh.int .i64) 0) (br (ixI b i) (br (ixS b i (Sh.int .i64) 0) (br ((gC a i 0).toInt != (gC b i 0).toInt) (κr (true,(false),())) (κl (i64.wrap (i+1)))) δ) δ) δ) δ) (κr (false,false,()))
def xcd (a b:LA):StT (Int) (Bool×(Bool)×(Unit)):=fun (i)=>xip a b i none inL inR
def xtt:=xLd.l 26 0 [] [] Tryz.f39 0 lk0 [0,1,5] [4] [] (q3 (qL 1) (qL 1) qI) xS4 (fun (a,b,i,_) _=>(xcd a b,(i),fun p=>(.node p.1 (.leaf .ret [AV.bool p.2.1] []) (.leaf (.exit 0) [.top] [])))) (false,false,()) fun (a,b,_,_) _ (i)=>(((a,b,i,()),()),xip a b i none)
def xrB {T:Type} (a b:LA) (δ:T) (κ:Bool->T):T:=br ((↑a.length:Int) != (↑b.length:Int)) (κ (false)) (br ((Iter (xcd a b) 0).isSome) (br (((Iter (xcd a b) 0).getD (false,false,())).fst) (κ (((Iter (xcd a b) 0).getD (false,false,())).snd.fst)) (κ (true))) δ)
def xpf (a b:LA):=xrB a b none some
def xPN:EO:=xLd.f Tryz.func39 26 0 [] [(4,xtt.lp)] (lk1 xtt.ok) (u2 (uL 1) (uL 1)) (fun (a,b,_) _=>xrB a b) (fun _ p=>AV.bool p) false
def xyb {T:Type} (c a d b:LA) (δ:T) (κ:Bool->T):T:=br ((xpf c d).isSome) (br ((xpf c d).getD false) (br ((xky a b).isSome) (κ ((xky a b).getD false)) δ) (κ (false))) δ
def xAf (c a d b:LA):=xyb c a d b none some
def xLe:EO:=xPN.f Tryz.func12 17 0 [] [] lk0 (u2 (xTl (u2 (uL 1) (uL 3))) (xTl (u2 (uL 1) (uL 3)))) (fun ((c,a,_),(d,b,_),_) _=>xyb c a d b) (fun _ p=>AV.bool p) false
def xoT (b l c a d:LA) (i:Int):=xzp ((xi2 b ((xqb l (gC d i 0).toInt).getD []) c a).getD ([],[])).snd (gC d i 0).toInt (gC d i 1).toInt
def xoS (b l c a d:LA) (i:Int):=(xoT b l c a d i).getD []
def xjV (b l d a e:LA) (c:Nat) (i:Int):=c+(xoS b l d a e i).length
def xkB {T:Type} (b l d a e:LA) (c:Nat) (i:Int) (f:LA) (δ:T) (κl:(Nat×Int×LA)->T) (κr:(Nat×LA)->T):T:=br (decide (i<e.length)) (br (ixI e i) (br (ixS e i (Sh.int .i64) 0) (br ((xqb l (gC e i 0).toInt).isSome) (br ((xi2 b ((xqb l (gC e i 0).toInt).getD []) d a).isSome) (br (ixI e i) (br (ixT e i 2 [Sh.int .i64,Sh.int .i64] 0) (br ((xoT b l d a e i).isSome) (br (c==f.length&&(decide (xjV b l d a e c i*40<=140737488355328)&&decide (xjV b l d a e c i<=4611686018427387904))) (κl (xjV b l d a e c i,i64.wrap (i+1),f++xoS b l d a e i)) δ) δ) δ) δ) δ) δ) δ) δ) (κr (c,f))
def xdL (c l e a f:LA):StT (Nat×Int×LA) (Nat×LA):=fun (d,i,b)=>xkB c l e a f d i b none inL inR
def xvz:=xLe.l 44 0 [] [] Tryz.f45 0 lk0 [0,1,2,3,9,10,11] [10] [(10,3,59)] (q7 (qL 1) (qL 3) (qL 1) (qL 2) (qL 2) (xTg 0 0 0) qI) (q1 (qB 0 3 59 xS6)) (fun (c,l,e,a,f,d,i,_) (b,_)=>(xdL c l e a f,(d,i,b),fun p=>(.leaf (.exit 0) [AV.osl 0 0 0 p.1] [bF 0 3 59 p.2]))) (0,[]) fun (c,l,e,a,f,_,_,_) _ (d,i,b)=>(((c,l,e,a,f,d,i,()),(b,())),xkB c l e a f d i b none)
def xta (b l c a:LA):=Iter (xdL b l c a ((xus l []).getD [])) (0,0,[])
def xs9 (b l c a:LA):=(xta b l c a).getD (0,[])
def xs7 (b l c a:LA):=(xs9 b l c a).snd
def xs8 (b l c a:LA):=(xs9 b l c a).fst
def xs6 (b l c a:LA):=xCl (List.take (xs8 b l c a) (List.drop 0 (xs7 b l c a)))
def xuH {T:Type} (b l c a:LA) (δ:T) (κ:LA->T):T:=br ((xus l []).isSome) (br ((xta b l c a).isSome) (br (decide (0+xs8 b l c a<=(xs7 b l c a).length)&&true) (br ((xs6 b l c a).isSome) (κ ((xs6 b l c a).getD [])) δ) δ) δ) δ
def xn4 (b l c a:LA):=xuH b l c a none some
def xPO:EO:=xLe.f Tryz.func45 44 0 [] [(4,xvz.lp)] (lk1 xvz.ok) (u4 (uL 1) (uL 3) (uL 1) (uL 2)) (fun (b,l,c,a,_) _=>xuH b l c a) (fun _ p=>AV.list 3 p) []
def xyh {T:Type} (b c a l:LA) (δ:T) (κ:LA×LA->T):T:=br ((xbV b a l).isSome) (br ((xn4 b c a l).isSome) (κ (((xbV b a l).getD ([],0)).fst,(xn4 b c a l).getD [])) δ) δ
def xrY (c a b l:LA):=xyh c a b l none some
def xPP:EO:=xPO.f Tryz.func14 26 0 [] [] lk0 (u3 (xTl (u2 (uL 1) (uL 3))) (uL 1) (uL 2)) (fun ((c,a,_),b,l,_) _=>xyh c a b l) (fun _ p=>AV.agg [AV.list 1 p.1,AV.list 3 p.2]) ([],[])
def xvN {T:Type} (b c a l:LA) (δ:T) (κ:Bool->T):T:=br (decide ((↑c.length:Int)>14)) (κ (false)) (br (decide ((↑b.length:Int)>48)) (κ (false)) (br ((xwo b c).isSome) (br (!(xwo b c).getD false) (κ (false)) (br (decide ((↑a.length:Int)>20)) (κ (false)) (br (decide ((↑l.length:Int)>20)) (κ (false)) (br (i64.wrap ((↑a.length:Int)+(↑l.length:Int))==0) (κ (false)) (br ((xbV b a l).isSome) (κ (((xbV b a l).getD ([],0)).snd==0)) δ))))) δ))
def xtX (c a b l:LA):=xvN c a b l none some
def xLf:EO:=xPP.f Tryz.func10 52 0 [] [] lk0 (u3 (xTl (u2 (uL 1) (uL 3))) (uL 1) (uL 2)) (fun ((c,a,_),b,l,_) _=>xvN c a b l) (fun _ p=>AV.bool p) false
end Go.Sim.M
end
noncomputable section
namespace Go.Sim.M
open Go.RowKit Go.Proofs
def E0:Env:=((((Env.none.with 136 xmf).with 98 xre).with 163 xrb).withM 129 xwj).withM 100 xnB
theorem xQv:xSk Tryz.prog xS1 E0:=((((xEk.with xyz).with xAW).with xAT).withM xCS).withM xyx
end Go.Sim.M
end
noncomputable section
set_option maxRecDepth 100000
namespace Go.Sim
def stepX (P:Program) (E:Env) (live liveO:List Nat) (conv:List (Nat×Nat×TypeId)) (c:Code) (s:List AV×List Box):Option ((List AV×List Box)⊕{r:Exit×List AV×List Box // r.1≠.normal}) :=
 match XR P E live liveO conv c s.1 s.2 with
 | some (.normal,v,H)=>some (.inl (v,H))
 | some (.exit i,v,H)=>some (.inr ⟨(.exit i,v,H),by simp⟩)
 | some (.ret,v,H)=>some (.inr ⟨(.ret,v,H),by simp⟩)
 | _=>none
def closedLp (P:Program) (E:Env) (live liveO:List Nat) (conv:List (Nat×Nat×TypeId)) (c:Code) (n:Nat):Lp:=⟨live,liveO,conv,fun vals H =>
 match iterN (stepX P E live liveO conv c) n (vals,H) with
 | some r=>some (true,.leaf r.1.1 r.1.2.1 r.1.2.2)
 | none=>none⟩
theorem xwi {P:Program} {Inv:IV} {E:Env} (Q:P.follows .mixedOrders=true) (U:InvOk Inv) (q:Inv.pin=E.pin) (J:xSk P Inv E) {c:Code} (O:LoOk P Inv E c) {live liveO:List Nat} {conv:List (Nat×Nat×TypeId)} {n:Nat} :
  LoopOk P Inv E.nt c (closedLp P E live liveO conv c n):=fun vals H r h=>by
 simp only [closedLp] at h;split at h
 case h_2=>simp at h
 rename_i r0 hr;simp only [z6,zb,true_and] at h;subst h;exact xEc Q U q J O (σ:=List AV×List Box) (ρ:={r:Exit×List AV×List Box // r.1≠.normal}) (step:=stepX P E live liveO conv c) (fun s=>s) (fun r=>.leaf r.1.1 r.1.2.1 r.1.2.2) (fun r=>r.2)
  (fun s r hs=>by
   unfold stepX at hs;split at hs<;>simp only [z6,reduceCtorEq] at hs;all_goals (subst hs;rename_i hx;exact hx)) (s:=(vals,H)) (r:=r0) (xvK.2 ⟨n,hr⟩)
end Go.Sim
namespace Go.Sim.M
open Go.RowKit Go.Proofs
def mmA (g:FuncId):Bool:=([97,99,
 80,117,141,
 113,140,169,
 102,131,155,104,
 138,168,192,
 164,189,203,
 82,112,84,125,
 41,42,49,51,50,66]:List Nat).contains g
noncomputable def EA0:Env:={ E0 with ls:=lsOf [57,59,159],fuel:=1000 }
theorem xyU:xSk P0 xS1 EA0:=xQv
noncomputable def EAr:Env:={ Env.deep P0 mmA EA0 10 with pin:=0,nt:=60,ls:=lsOf [] }
theorem xKL:xSk P0 (xS1.at 0) EAr:=xg5 xSt mmA (xSu P0 0) xyU (fun _=>rfl) 10
noncomputable def xKK:Lp:=closedLp P0 EAr [3,4,11,12,13] [4] [(4,2,150460170399)] (xSo Tryz.f111 0) 100
noncomputable def EAr1:Env:={ EAr with lp:=xSH [(xSz (xSo Tryz.f111 0),xKK)] }
theorem xN9:xSk P0 (xS1.at 0) EAr1:=xKL
noncomputable def xFf:List AV->Option (Bool×AV):=fun xs=>match XF P0 EAr1 Tryz.f111 (Tryz.f111.body.getD .skip) xs with
 | some r=>some (true,r)
 | none=>none
theorem xO1:OcOk P0 xS1 111 xFf:=fun xs r h=>by
 unfold xFf at h;split at h
 case h_2=>simp at h
 rename_i r0 hr;simp only [z6,zb,true_and] at h;subst h;refine xdT (p:=0) (xf4 xSt (xSu P0 _) rfl xN9 Tryz.func111 rfl (by kernel_rfl) (xgK (ls:=[xSo Tryz.f111 0]) (by kernel_rfl) (fun l hl lp hs=>?_)) hr)
 simp only [zC,List.not_mem_nil,or_false] at hl;subst hl;rw [show EAr1.lp (xSz (xSo Tryz.f111 0))=some xKK by kernel_rfl] at hs
 cases hs;exact xwi (E:=EAr) xSt (xSu P0 _) rfl xKL (xhc fun _=>rfl)
noncomputable def EAgr:Env:={ Env.deep P0 mmA EA0 12 with pin:=0,nt:=57,ls:=lsOf [57,59] }
theorem xID:xSk P0 (xS1.at 0) EAgr:=xg5 xSt mmA (xSu P0 0) xyU (fun _=>rfl) 12
noncomputable def xIC:Lp:=closedLp P0 EAgr [1,5,6,18,19,20] [6] [(6,1,253605445655)] (xSo Tryz.f40 0) 100
noncomputable def EAgr1:Env:={ EAgr with lp:=xSH [(xSz (xSo Tryz.f40 0),xIC)] }
theorem xML:xSk P0 (xS1.at 0) EAgr1:=xID
noncomputable def xJ3:List AV->Option (Bool×AV):=fun xs=>match XF P0 EAgr1 Tryz.f40 (Tryz.f40.body.getD .skip) xs with
 | some r=>some (true,r)
 | none=>none
theorem xQP:OcOk P0 xS1 40 xJ3:=fun xs r h=>by
 unfold xJ3 at h;split at h
 case h_2=>simp at h
 rename_i r0 hr;simp only [z6,zb,true_and] at h;subst h;refine xdT (p:=0) (xf4 xSt (xSu P0 _) rfl xML Tryz.func40 rfl (by kernel_rfl) (xgK (ls:=[xSo Tryz.f40 0]) (by kernel_rfl) (fun l hl lp hs=>?_)) hr)
 simp only [zC,List.not_mem_nil,or_false] at hl;subst hl;rw [show EAgr1.lp (xSz (xSo Tryz.f40 0))=some xIC by kernel_rfl] at hs
 cases hs;exact xwi (E:=EAgr) xSt (xSu P0 _) rfl xID (xhc fun _=>rfl)
noncomputable def EAsg:Env:={ Env.deep P0 mmA EA0 12 with pin:=0,nt:=111,ls:=lsOf [57,59] }
theorem xIH:xSk P0 (xS1.at 0) EAsg:=xg5 xSt mmA (xSu P0 0) xyU (fun _=>rfl) 12
noncomputable def xIG:Lp:=closedLp P0 EAsg [1,2,3,6,7,8,31,32,33] [1,2,3,6,8] [(8,1,244881293359)] (xSo Tryz.f43 0) 100
noncomputable def EAsg1:Env:={ EAsg with lp:=xSH [(xSz (xSo Tryz.f43 0),xIG)] }
theorem xMN:xSk P0 (xS1.at 0) EAsg1:=xIH
noncomputable def xKB:List AV->Option (Bool×AV):=fun xs=>match XF P0 EAsg1 Tryz.f43 (Tryz.f43.body.getD .skip) xs with
 | some r=>some (true,r)
 | none=>none
theorem xQU:OcOk P0 xS1 43 xKB:=fun xs r h=>by
 unfold xKB at h;split at h
 case h_2=>simp at h
 rename_i r0 hr;simp only [z6,zb,true_and] at h;subst h;refine xdT (p:=0) (xf4 xSt (xSu P0 _) rfl xMN Tryz.func43 rfl (by kernel_rfl) (xgK (ls:=[xSo Tryz.f43 0,xSo Tryz.f43 1,xSo Tryz.f43 2]) (by kernel_rfl) (fun l hl lp hs=>?_)) hr)
 simp only [zC,List.not_mem_nil,or_false] at hl;rcases hl with rfl|rfl|rfl
 . rw [show EAsg1.lp (xSz (xSo Tryz.f43 0))=some xIG by kernel_rfl] at hs
   cases hs;exact xwi (E:=EAsg) xSt (xSu P0 _) rfl xIH (xhc fun _=>rfl)
 . rw [show EAsg1.lp (xSz (xSo Tryz.f43 1))=none by kernel_rfl] at hs
   simp at hs
 . rw [show EAsg1.lp (xSz (xSo Tryz.f43 2))=none by kernel_rfl] at hs
   simp at hs
noncomputable def EAlv (p:Nat):Env:={ Env.deep P0 mmA EA0 6 with pin:=p,nt:=71,ls:=lsOf [] }
theorem xIF (p:Nat):xSk P0 (xS1.at p) (EAlv p):=xnt (xg5 xSt mmA (xSu P0 0) xyU (fun _=>rfl) 6)
noncomputable def xIE (p:Nat):Lp:=closedLp P0 (EAlv p) [0,1,2,3,4] [] [(3,0,0)] (xSo Tryz.f112 0) 100
noncomputable def EAlv1 (p:Nat):Env:={ EAlv p with lp:=xSH [(xSz (xSo Tryz.f112 0),xIE p)] }
theorem xMM (p:Nat):xSk P0 (xS1.at p) (EAlv1 p):=xIF p
noncomputable def xG8:List AV->List Box->Option (Bool×AV×List Box):=fun xs H=>match XFM P0 (EAlv1 H.length) Tryz.f112 (Tryz.f112.body.getD .skip) xs H with
 | some (r,H')=>some (true,r,H')
 | none=>none
theorem xQd:OmOk P0 xS1 112 xG8:=fun xs H r H' h=>by
 unfold xG8 at h;split at h
 case h_2=>simp at h
 rename_i r0 H0 hr;simp only [z6,zb,true_and] at h;obtain ⟨rfl,rfl⟩:=h;refine xi0 (p:=H.length) (xkc xSt (xSu P0 _) rfl (xMM H.length) rfl Tryz.func112 rfl (by kernel_rfl) (xgK (ls:=[xSo Tryz.f112 0,xSo Tryz.f112 1]) (by kernel_rfl) (fun l hl lp hs=>?_) (by kernel_rfl)) hr)
 simp only [zC,List.not_mem_nil,or_false] at hl;rcases hl with rfl|rfl
 . rw [show (EAlv1 H.length).lp (xSz (xSo Tryz.f112 0))=some (xIE H.length) by kernel_rfl] at hs
   cases hs;exact xwi (E:=EAlv H.length) xSt (xSu P0 _) rfl (xIF H.length) (xhc fun _=>rfl)
 . rw [show (EAlv1 H.length).lp (xSz (xSo Tryz.f112 1))=none by kernel_rfl] at hs
   simp at hs
noncomputable def EAs:Env:=(((EA0.with 111 xFf).with 40 xJ3).with 43 xKB).withM 112 xG8
theorem xKM:xSk P0 xS1 EAs:=(((xyU.with xO1).with xQP).with xQU).withM xQd
noncomputable def EAd:Env:={ Env.deep P0 mmA EAs 14 with pin:=0 }
mutual
def eqV:AV->AV->Bool
 | .int k a,.int k' b=>decide (k=k')&&decide (a=b)
 | .bool a,.bool b=>a==b
 | .str a,.str b=>decide (a=b)
 | .list n a,.list m b=>Nat.beq n m&&eqVs a b
 | .agg a,.agg b=>eqVs a b
 | .nils,.nils=>true
 | _,_=>false
def eqVs:List AV->List AV->Bool
 | [],[]=>true
 | a::l,b::m=>eqV a b&&eqVs l m
 | _,_=>false
end
mutual
theorem xPY:∀ (a b:AV),eqV a b=true->a=b:=fun a b h=>by
 cases a<;>cases b<;>first|rfl|(simp [eqV] at h;done)|skip
 all_goals simp only [eqV,zf,zl,beq_iff_eq] at h
 all_goals first|(rw [h.1,h.2];done)|(rw [h];done)|(rw [zg h.1,xCD _ _ h.2];done)|(rw [xCD _ _ h])
theorem xCD:∀ (a b:List AV),eqVs a b=true->a=b
 | [],[],_=>rfl
 | a::l,b::m,h=>by simp only [eqVs,zf] at h;rw [xPY a b h.1,xCD l m h.2]
 | [],_::_,h=>by simp [eqVs] at h
 | _::_,[],h=>by simp [eqVs] at h
end
def ptO (q:List AV) (r:AV):List AV->Option (Bool×AV):=fun xs=>match eqVs xs q with
 | true=>some (true,r)
 | false=>none
theorem xA8 {P:Program} {Inv:IV} {f:FuncId} {q:List AV} {r:AV} (h:Good P Inv f q r):OcOk P Inv f (ptO q r):=fun xs r0 h0=>by
 unfold ptO at h0;split at h0
 case h_2=>simp at h0
 rename_i he;simp only [z6,zb,true_and] at h0;subst h0;rw [xCD _ _ he];exact h
theorem xzS {f:FuncId} {fn:Func} {q:List AV} {r:AV} (hf:P0.funcs[f]?=some fn) (hb:fn.body.isSome=true) (J:(fn.name == "runtime.NumGoroutine")=false) (h:XF P0 EAd fn (fn.body.getD .skip) q=some r):Good P0 xS1 f q r :=
 xdT (p:=0) (xf4 xSt (xSu P0 _) rfl (xnt (xg5 xSt mmA (xSu P0 0) xKM (fun _=>rfl) 14)) hf hb J (xhc fun _=>rfl) h)
end Go.Sim.M
end
noncomputable section
set_option maxRecDepth 100000
namespace Go.Sim.M
open Go.RowKit Go.Proofs
def vA (n:Int):AV:=.agg [.int .i64 1,.int .i64 n,.str []]
def nA:AV:=.agg [.int .i64 0,.int .i64 0,.str []]
def fA (a b:Int) (r:List Int):AV:=.agg [.list 3 (r.map vA),.int .i64 a,.int .i64 b]
def agA (o a:Int):AV:=.agg [.int .i64 o,.int .i64 a]
def itsA (l:List Int):AV:=.list 1 (l.map (AV.int .i64))
def bGi:AV:=.list 3 [fA 0 4 [1,1,5],fA 4 6 [1,2,12],fA 6 9 [1,1,7],fA 2 3 [2,1,1]]
def bGo:AV:=.list 3 [fA 0 4 [1,1,5],fA 6 9 [1,1,7],fA 4 6 [1,2,12],fA 2 3 [2,1,1]]
theorem xQ1:XF P0 EAd Tryz.f44 (Tryz.f44.body.getD .skip) [bGi]=some bGo:=by kernel_rfl
theorem xQ0:OcOk P0 xS1 44 (ptO [bGi] bGo):=xA8 (xzS Tryz.func44 rfl (by kernel_rfl) xQ1)
def bCi:AV:=.list 3 [fA 0 2 [1],fA 2 3 [2],fA 3 4 [1],fA 4 6 [2],fA 6 9 [1],fA 9 1099511627776 [0]]
def bCo:AV:=.list 3 [fA 9 1099511627776 [0],fA 0 2 [1],fA 3 4 [1],fA 6 9 [1],fA 2 3 [2],fA 4 6 [2]]
theorem xQx:XF P0 EAd Tryz.f44 (Tryz.f44.body.getD .skip) [bCi]=some bCo:=by kernel_rfl
theorem xQZ:OcOk P0 xS1 44 (ptO [bCi] bCo):=xA8 (xzS Tryz.func44 rfl (by kernel_rfl) xQx)
def bRi:AV:=.list 3 [fA 0 6 [1,5],fA 4 9 [1,7],fA 2 3 [2,1]]
def bRo:AV:=.list 3 [fA 0 6 [1,5],fA 4 9 [1,7],fA 2 3 [2,1]]
theorem xQ5:XF P0 EAd Tryz.f44 (Tryz.f44.body.getD .skip) [bRi]=some bRo:=by kernel_rfl
theorem xQ4:OcOk P0 xS1 44 (ptO [bRi] bRo):=xA8 (xzS Tryz.func44 rfl (by kernel_rfl) xQ5)
def bMi:AV:=.list 3 [fA 0 2 [5],fA 2 4 [5],fA 4 5 [7],fA 5 8 [7],fA 8 11 [7],.agg [.list 3 [nA],.int .i64 11,.int .i64 1099511627776]]
def bMo:AV:=.list 3 [.agg [.list 3 [nA],.int .i64 11,.int .i64 1099511627776],fA 0 4 [5],fA 4 11 [7]]
theorem xQ3:XF P0 EAd Tryz.f44 (Tryz.f44.body.getD .skip) [bMi]=some bMo:=by kernel_rfl
theorem xQ2:OcOk P0 xS1 44 (ptO [bMi] bMo):=xA8 (xzS Tryz.func44 rfl (by kernel_rfl) xQ3)
noncomputable def EAt:Env:=((((EAs).with 44 (ptO [bGi] bGo)).with 44 (ptO [bCi] bCo)).with 44 (ptO [bRi] bRo)).with 44 (ptO [bMi] bMo)
theorem xKN:xSk P0 xS1 EAt:=((((xKM).with xQ0).with xQZ).with xQ4).with xQ2
noncomputable def EAtd:Env:={ Env.deep P0 mmA EAt 14 with pin:=0 }
theorem xA5 {f:FuncId} {fn:Func} {q:List AV} {r:AV} (hf:P0.funcs[f]?=some fn) (hb:fn.body.isSome=true) (J:(fn.name == "runtime.NumGoroutine")=false) (h:XF P0 EAtd fn (fn.body.getD .skip) q=some r):Good P0 xS1 f q r :=
 xdT (p:=0) (xf4 xSt (xSu P0 _) rfl (xnt (xg5 xSt mmA (xSu P0 0) xKN (fun _=>rfl) 14)) hf hb J (xhc fun _=>rfl) h)
def relA:AV:=.agg [itsA [1,1],bRi]
def relM:AV:=.agg [itsA [1,1],.list 3 [fA 0 8 [1,5],fA 4 11 [1,7],fA 2 5 [2,1]]]
theorem xRa:XF P0 EAtd Tryz.f13 (Tryz.f13.body.getD .skip) [relA,itsA [0],.list 2 [agA 1 (-1),agA 2 1]]=some (.agg [itsA [1,1,1],bGo]):=by kernel_rfl
theorem xQ9:OcOk P0 xS1 13 (ptO [relA,itsA [0],.list 2 [agA 1 (-1),agA 2 1]] (.agg [itsA [1,1,1],bGo])):=xA8 (xA5 Tryz.func13 rfl (by kernel_rfl) xRa)
theorem xQ8:XF P0 EAtd Tryz.f13 (Tryz.f13.body.getD .skip) [relA,.nils,.list 2 [agA 1 (-1)]]=some (.agg [itsA [1],bCo]):=by kernel_rfl
theorem xQ7:OcOk P0 xS1 13 (ptO [relA,.nils,.list 2 [agA 1 (-1)]] (.agg [itsA [1],bCo])):=xA8 (xA5 Tryz.func13 rfl (by kernel_rfl) xQ8)
theorem xRc:XF P0 EAtd Tryz.f13 (Tryz.f13.body.getD .skip) [relM,.nils,.list 2 [agA 4 1]]=some (.agg [itsA [1],bMo]):=by kernel_rfl
theorem xRb:OcOk P0 xS1 13 (ptO [relM,.nils,.list 2 [agA 4 1]] (.agg [itsA [1],bMo])):=xA8 (xA5 Tryz.func13 rfl (by kernel_rfl) xRc)
noncomputable def EAu:Env:=(((EAt).with 13 (ptO [relA,itsA [0],.list 2 [agA 1 (-1),agA 2 1]] (.agg [itsA [1,1,1],bGo]))).with 13 (ptO [relA,.nils,.list 2 [agA 1 (-1)]] (.agg [itsA [1],bCo]))).with 13 (ptO [relM,.nils,.list 2 [agA 4 1]] (.agg [itsA [1],bMo]))
theorem xPr:xSk P0 xS1 EAu:=(((xKN).with xQ9).with xQ7).with xRb
end Go.Sim.M
end
