/- Part 14 of the proof of the law. -/
import Derived.Test.YtoemghmemdnelaaGreatDoorMN13
import Derived.Deep.LoopGhost
import Derived.Lib.SliceRun
set_option linter.unusedVariables false
set_option linter.unusedSimpArgs false
noncomputable section
namespace Go.Proofs
open Go.RowKit Go.Lib Go.Shelf
set_option maxHeartbeats 2000000 in
set_option maxRecDepth 100000 in
theorem Tryz.clone_nil (n c:Nat) (w:World) :
  Calls Tryz.prog 163 #[.slice none n c] w fun e w'=>e=.returned (.slice none 0 0)/\w'=w:=by
 have q22:∀ (w:World) (a:Option Addr) (n c n' c':Nat),(binOp .eql 57 (.slice a n c) (.slice none n' c')).run Tryz.prog w=.ok (.bool a.isNone) w:=fun w a n c n' c'=>Lib.run_eql_slice_nil w 57 76 a n c n' c' (by kernel_rfl)
 go_enter Tryz.func163,Tryz.ntmps163
 go_wp2
 go_ret
 exact ⟨rfl,rfl⟩
set_option maxHeartbeats 2000000 in
set_option maxRecDepth 100000 in
theorem Tryz.clone_some (i0:TypeInfo) (z:Value) (hi:Tryz.prog.info? 76=some i0) (W:i0.zero=some z) (Y:i0.size=3) (U:i0.bytes=32) (V:z.cells.size=3)
  (a:Addr) (n c:Nat) (news:List Value) (w:World) (hl:news.length=n*3) (hn:n<=maxLen) (O:n*32<=140737488355328)
  (hc:∀ j u,news[j]?=some u->w.cell? (a.add j)=some u) (h1:∀ u∈news,u.oneCell'=true) :
  Calls Tryz.prog 163 #[.slice (some a) n c] w fun e w'=>∃ v',e=.returned v'/\w'.ownsRow w.heap.size 76 3 v' n news/\Below w.heap.size w w':=by
 have q:Tryz.prog.underlying 57=some (.slice 76):=by kernel_rfl
 have q22:∀ (w:World) (a:Option Addr) (n c n' c':Nat),(binOp .eql 57 (.slice a n c) (.slice none n' c')).run Tryz.prog w=.ok (.bool a.isNone) w:=fun w a n c n' c'=>Lib.run_eql_slice_nil w 57 76 a n c n' c' q
 have u22:∀ w,Sem.run Tryz.prog (underlying 57) w=.ok (TypeDesc.slice 76) w:=run_underlying q;have A:Aside (∀ j u,news[j]?=some u->w.cell? (a.add j)=some u):=hc;clear hc
 go_enter Tryz.func163,Tryz.ntmps163
 go_wp2_with (at_builtin;refine wpList_append_own _ rfl _ _ 57 rfl w.heap.size 76 i0 z 3 32 q hi W Y U V (by decide) _ _ _ rfl (World.ownsRow_made w #[] 0 (Nat.le_refl _) (Nat.zero_le _) (by simp)) a n c news rfl ?qc1 ?qc2 ?qc3 ?qc4 ?qc5 ?qc6 ?_)
 case qc1=>exact hl
 case qc2 =>
  intro j u hj;exact Lib.cell?_alloc_some _ (A.out j u hj)
 case qc3=>exact h1
 case qc4=>rw [Nat.zero_add];exact hn
 case qc5=>rw [Nat.zero_add];exact O
 case qc6=>simp
 intro v' w1 Q J Z
 go_wp2
 go_ret
 refine ⟨v',rfl,by simpa using Q,?_⟩
 exact ((Below.refl _ w).alloc (Nat.le_refl _) _).grown J (by simp) (by intro k hk;simp [Value.ownBlock] at hk;omega)
end Go.Proofs
namespace Go.Sim
open Go.RowKit Go.Proofs
def xrk:List AV->Option (Bool×AV)
 | [.list 3 xs]=>some (decide (xs.length<=4398046511104),.list 3 xs)
 | _=>none
theorem xCm {w w':World} {A:Nat->Prop} {e:TypeId} {sz:Nat} {v:Value} {xs:List AV} {news:List Value} (hl:∀ b,A b->b<w.heap.size) (O:w'.ownsRow w.heap.size e sz v xs.length news) (W:∀ x,x∈xs->x.okElem sz=true)
  (hr:∀ i j,i<xs.length->j<sz->Rel w' A xSO (news.getD (i*sz+j) undef) ((xs.getD i .top).cells.getD j .top)):Rel w' A xSO v (.list sz xs):=by
 obtain ⟨Z,h⟩:=O;rcases h with ⟨rfl,h0⟩|⟨g,cap,cur,rfl,hg,hh,J,aa,Y,U⟩
 . have:xs=[]:=List.eq_nil_of_length_eq_zero h0;subst this;exact .list0 _ _ _
 . by_cases hne:xs=[]
   . subst hne;exact .list0 _ _ _
   . have V:g<w'.heap.size:=by
      rcases Nat.lt_or_ge g w'.heap.size with h|h
      . exact h
      . rw [Array.getElem?_eq_none h] at hh;simp at hh
     have q:∀ i j,i<xs.length->j<sz->w'.cell? ⟨g,0+i*sz+j,none⟩=some (news.getD (i*sz+j) undef):=fun i j hi hj=>by
      have hk:i*sz+j<xs.length*sz:=xeF hi hj;have Q:i*sz+j<cur.size:=by
       rw [Y];exact Nat.lt_of_lt_of_le hk (Nat.mul_le_mul_right _ J)
      have e1:news.getD (i*sz+j) undef=cur[i*sz+j]:=by
       rw [<-U];simp [List.getD_eq_getElem?_getD,List.getElem?_take,hk,Q]
      rw [e1,Nat.zero_add];simp [World.cell?,hh,Q]
     exact .list g 0 cap sz xs (fun i j=>news.getD (i*sz+j) undef) (fun hA=>by have:=hl g hA;omega) V hne J W q hr
theorem xA2:OcOk Tryz.prog xTh 163 xrk:=fun xs r h=>by
 unfold xrk at h;split at h
 . rename_i xs;simp only [Option.some.injEq,Prod.mk.injEq,decide_eq_true_eq] at h;obtain ⟨aa,rfl⟩:=h;refine ⟨xfh Tryz.func163 rfl (by kernel_rfl),fun w A vs hI hA Z=>?_⟩
   obtain ⟨v,rfl,h1⟩:=rc1 Z;have O:∃ ti,xSA Tryz.prog 76=some ti/\ti.sz=3/\ti.bytes=32/\ti.zero.okElem 3=true:=by
    have h:(match xSA Tryz.prog 76 with|some ti=>(ti.sz==3)&&((ti.bytes==32)&&ti.zero.okElem 3)|none=>false)=true:=by kernel_rfl
    split at h
    . rename_i ti O;simp only [Bool.and_eq_true,beq_iff_eq] at h;exact ⟨ti,O,h.1,h.2.1,h.2.2⟩
    . simp at h
   obtain ⟨ti,O,s1,s2,s3⟩:=O;obtain ⟨i,z,g1,g2,g3,g4,g5,g6,_⟩:=xbR O;have V:z.cells.size=3:=by
    have Y:Rel w A xSO z ti.zero:=by rw [g6];exact xeK w A xSO z
    rw [(Y.cells (xbo s3)).1,xa3 s3]
   have U:∀ n c,v=.slice none n c->xs=[]->Calls Tryz.prog 163 [v].toArray w fun e w'=>∃ v,e=.returned v/\Below w.heap.size w w'/\Rel w' A xSO v (.list 3 xs):=by
    rintro n c rfl rfl;refine (Tryz.clone_nil n c w).mono ?_;rintro e w' ⟨rfl,rfl⟩;exact ⟨_,rfl,Below.refl _ _,.list0 _ _ _⟩
   have Q:∀ b off c (val:Nat->Nat->Value),v=.slice (some ⟨b,off,none⟩) xs.length c->(∀ x,x∈xs->x.okElem 3=true)->(∀ i j,i<xs.length->j<3->w.cell? ⟨b,off+i*3+j,none⟩=some (val i j))->(∀ i j,i<xs.length->j<3->Rel w A xSO (val i j) ((xs.getD i .top).cells.getD j .top)) ->
     Calls Tryz.prog 163 [v].toArray w fun e w'=>∃ v,e=.returned v/\Below w.heap.size w w'/\Rel w' A xSO v (.list 3 xs):=by
    rintro b off c val rfl W hc hr;have hs:∀ i j,i<xs.length->j<3->∃ u,w.cell? ⟨b,off+(i*3+j),none⟩=some u/\Rel w A xSO u ((xs.getD i .top).cells.getD j .top):=fun i j hi hj=>⟨val i j,by rw [<-Nat.add_assoc];exact hc i j hi hj,hr i j hi hj⟩
    refine (Tryz.clone_some i z g1 g3 (by rw [<-g4,s1]) (by rw [<-g5,s2]) V ⟨b,off,none⟩ xs.length c (xSx w b off (xs.length*3)) w (xjP _ _ _ _) (by unfold maxLen;omega) (by omega)
     (fun j u hj=>xBw (by decide) hs j u hj) (xJM (by decide) hs W)).mono ?_
    rintro e w' ⟨v',rfl,J,q⟩;exact ⟨v',rfl,q,xCm hA J W fun i j hi hj=>(xJN hs hi hj).grow q⟩
   have h1':=h1;generalize hx:AV.list 3 xs=x at h1;cases h1 with
   | list0 a cap sz =>
    simp only [AV.list.injEq] at hx;obtain ⟨rfl,rfl⟩:=hx;cases a with
    | none=>exact U 0 cap rfl rfl
    | some a =>
     refine (Tryz.clone_some i z g1 g3 (by rw [<-g4,s1]) (by rw [<-g5,s2]) V a 0 cap [] w rfl (Nat.zero_le _) (by omega) (by simp) (by simp)).mono ?_
     rintro e w' ⟨v',rfl,J,q⟩;exact ⟨v',rfl,q,xCm hA (xs:=[]) J (by simp) (by simp)⟩
   | list b off cap sz ys val ha hb hne hcap hsz hc hr =>
    simp only [AV.list.injEq] at hx;obtain ⟨rfl,rfl⟩:=hx;exact Q b off cap val rfl hsz hc hr
   | _=>simp at hx
 . simp at h
end Go.Sim
end
noncomputable section
namespace Go.Sim.M
open Go.RowKit Go.Proofs
noncomputable def E0A:Env:=((((((xK2.E.with 136 xmo).with 98 xrn).with 163 xrk).withM 129 xwt).withM 100 xnI).withM 113 xFu).withM 102 xFt
theorem xPE:xSB Tryz.prog xTh E0A:=((((((xK2.ok.with xyH).with xA5).with xA2).withM xC0).withM xy7).withM xPt).withM xPs
noncomputable def xPD:EO:=EO.mk E0A xPE
end Go.Sim.M
end
noncomputable section
set_option maxRecDepth 100000
namespace Go.Sim.M
open Go.IntKind (i64 u64 u8)
open Go.RowKit Go.Proofs
def xb7 {T:Type} (a:List UInt8) (δ:T) (κ:Int×Nat×LA->T):T:=br (decide ((byteAVs a).length*1<=140737488355328)&&decide ((byteAVs a).length<=4611686018427387904)) (κ ((↑a.length:Int),(byteAVs a).length,byteAVs a)) δ
def xaN (a:List UInt8):=xb7 a none some
def xQP:EO:=xPD.fM Tryz.func97 19 1 [] [] lk0 (u2 (sEq (xTy 0 0 0 0)) (sEq pStr)) (q1 (qB 0 2 142 (q1 (xTz (q2 pNilptr pNils))))) (fun (_,a,_) (((_,_,_),_),_) _=>xb7 a) (fun _ _ p=>(AV.tuple [AV.int .i64 p.1,.top],([⟨0,2,142,[AV.agg [AV.own 0 0 0 0,AV.osl 1 0 0 p.2.1]],false,false⟩,bF 0 1 5 p.2.2]:List Box))) (0,0,[])
def xfc {T:Type} (a:List UInt8) (n:Nat) (b:LA) (δ:T) (κ:Int×Nat×LA->T):T:=br (n==b.length&&(decide ((n+(byteAVs a).length)*1<=140737488355328)&&decide (n+(byteAVs a).length<=4611686018427387904))) (κ ((↑a.length:Int),n+(byteAVs a).length,b++byteAVs a)) δ
def xaQ (a:List UInt8) (n:Nat) (b:LA):=xfc a n b none some
def xQQ:EO:=xQP.fM Tryz.func97 19 2 [] [] lk0 (u2 (sEq (xTy 0 0 0 0)) (sEq pStr)) (q2 (xTA 0 2 142 false false (q1 (xTz (q2 (xTy 0 0 0 0) (xTw 1 0 0))))) (qB 0 1 5 xTm)) (fun (_,a,_) (((_,n,_),_),b,_) _=>xfc a n b) (fun _ _ p=>(AV.tuple [AV.int .i64 p.1,.top],([⟨0,2,142,[AV.agg [AV.own 0 0 0 0,AV.osl 1 1 0 p.2.1]],false,false⟩,bF 1 1 5 p.2.2]:List Box))) (0,0,[])
def xjQ {T:Type} (a:List UInt8) (n:Nat) (b:LA) (δ:T) (κ:Int×Nat×LA->T):T:=br (n==b.length&&(decide ((n+(byteAVs a).length)*1<=140737488355328)&&decide (n+(byteAVs a).length<=4611686018427387904))) (κ ((↑a.length:Int),n+(byteAVs a).length,b++byteAVs a)) δ
def xlp (a:List UInt8) (n:Nat) (b:LA):=xjQ a n b none some
def xJT:EO:=xQQ.fM Tryz.func97 19 2 [] [] lk0 (u2 (sEq (xTy 0 0 0 0)) (sEq pStr)) (q2 (xTA 0 2 142 false false (q1 (xTz (q2 (xTy 0 0 0 0) (xTw 1 1 0))))) (qB 1 1 5 xTm)) (fun (_,a,_) (((_,n,_),_),b,_) _=>xjQ a n b) (fun _ _ p=>(AV.tuple [AV.int .i64 p.1,.top],([⟨0,2,142,[AV.agg [AV.own 0 0 0 0,AV.osl 1 2 0 p.2.1]],false,false⟩,bF 2 1 5 p.2.2]:List Box))) (0,0,[])
def xbI:Env:=xJT.E.fn 17 1 (lsOf []) (xSX [])
theorem xse:xSB P0 (xTh.at 1) xbI:=xJT.ok.fn
theorem xro:LoOk P0 (xTh.at xbI.pin) xbI (Tryz.f99.body.getD .skip):=xsV (by kernel_rfl)
def xhs (c:Int):Int:=((c))
def xkc (c:Int):Bool:=true
def xlT {T:Type} (c:Int) (δ:T) (κ:Int->T):T:=κ (c)
theorem xvs (c:Int):Pre (xkc c) (XFM P0 xbI Tryz.f99 (Tryz.f99.body.getD .skip) [AV.own (0:Id) 0 0 0,AV.int .u8 c] [{ ver:=0,sz:=2,ty:=(142:TypeId),xs:=[AV.agg [AV.nilptr,AV.nils]],frz:=false,pm:=true }]) ((.top,([⟨0,2,142,[AV.agg [AV.own 0 0 0 0,AV.osl 1 0 0 1]],false,false⟩,⟨0,1,5,[AV.int .u8 (xhs c)],false,true⟩]:List Box))):=by
 have h:XFM P0 xbI Tryz.f99 (Tryz.f99.body.getD .skip) [AV.own (0:Id) 0 0 0,AV.int .u8 c] [{ ver:=0,sz:=2,ty:=(142:TypeId),xs:=[AV.agg [AV.nilptr,AV.nils]],frz:=false,pm:=true }]=xlT c none (fun (p:Int)=>some (((.top,([⟨0,2,142,[AV.agg [AV.own 0 0 0 0,AV.osl 1 0 0 1]],false,false⟩,⟨0,1,5,[AV.int .u8 p],false,true⟩]:List Box))):(AV×List Box))):=by kernel_rfl
 rw [h];unfold xhs xkc xlT;repeat' (first|exact Pre.none|exact Pre.tt rfl|exact Pre.some rfl|refine Pre.l ?_|refine Pre.r ?_|refine Pre.br (f:=fun (p:Int)=>(((.top,([⟨0,2,142,[AV.agg [AV.own 0 0 0 0,AV.osl 1 0 0 1]],false,false⟩,⟨0,1,5,[AV.int .u8 p],false,true⟩]:List Box))):(AV×List Box))) ?_ ?_|refine Pre.brt (f:=fun (p:Int)=>(((.top,([⟨0,2,142,[AV.agg [AV.own 0 0 0 0,AV.osl 1 0 0 1]],false,false⟩,⟨0,1,5,[AV.int .u8 p],false,true⟩]:List Box))):(AV×List Box))) ?_ ?_)
def xvr:LA->List Box->Option (Bool×AV×List Box):=omOf (xTj (sEq (xTy 0 0 0 0)) (xTj (sEq (pInt .u8)) xTl)) (xTi (xTA 0 2 (142:TypeId) false true (xTi (xTz (xTi pNilptr (xTi pNils xTk))) xTk)) xTk) fun (_,(c,_)) (((_,(_,_)),_),_)=>(true,((.top,([⟨0,2,142,[AV.agg [AV.own 0 0 0 0,AV.osl 1 0 0 1]],false,false⟩,⟨0,1,5,[AV.int .u8 (xhs c)],false,true⟩]:List Box))))
theorem xvq:OmOk P0 xTh 99 (xvr):=xq3 fun b d h f e=>by
 obtain ⟨_,⟨c,_⟩⟩:=b;obtain ⟨⟨⟨_,⟨_,_⟩⟩,_⟩,_⟩:=d;obtain ⟨g,a⟩:=Prod.mk.inj e;refine xi9 (p:=xbI.pin) (xkm xSK (xSL P0 _) rfl xse rfl Tryz.func99 rfl (by kernel_rfl) xro ((Pre.get (xvs _) rfl).trans ?_))
 exact congrArg some a
def xQR:EO:=xJT.wM xvq
def xlk {T:Type} (c:Int) (n:Nat) (a:LA) (δ:T) (κ:Nat×LA->T):T:=br (rmB n a 1 1) (κ (n+1,a++[AV.int .u8 c])) δ
def xbU (c:Int) (n:Nat) (a:LA):=xlk c n a none some
def xQS:EO:=xQR.fM Tryz.func99 17 2 [] [] lk0 (u2 (sEq (xTy 0 0 0 0)) (sEq (pInt .u8))) (q2 (xTA 0 2 142 false false (q1 (xTz (q2 (xTy 0 0 0 0) (xTw 1 0 0))))) (qB 0 1 5 xTm)) (fun (_,c,_) (((_,n,_),_),a,_) _=>xlk c n a) (fun _ _ p=>(.top,([⟨0,2,142,[AV.agg [AV.own 0 0 0 0,AV.osl 1 1 0 p.1]],false,false⟩,bF 1 1 5 p.2]:List Box))) (0,[])
def xdG {T:Type} (c:Int) (n:Nat) (a:LA) (δ:T) (κ:Nat×LA->T):T:=br (rmB n a 1 1) (κ (n+1,a++[AV.int .u8 c])) δ
def xbr (c:Int) (n:Nat) (a:LA):=xdG c n a none some
def xJU:EO:=xQS.fM Tryz.func99 17 2 [] [] lk0 (u2 (sEq (xTy 0 0 0 0)) (sEq (pInt .u8))) (q2 (xTA 0 2 142 false false (q1 (xTz (q2 (xTy 0 0 0 0) (xTw 1 1 0))))) (qB 1 1 5 xTm)) (fun (_,c,_) (((_,n,_),_),a,_) _=>xdG c n a) (fun _ _ p=>(.top,([⟨0,2,142,[AV.agg [AV.own 0 0 0 0,AV.osl 1 2 0 p.1]],false,false⟩,bF 2 1 5 p.2]:List Box))) (0,[])
def xhc (b:Int) (a:LA):=((a.getD (0+b.toNat) .top).cells.getD 0 .top).toInt
def xpY (d:Int) (c:Nat) (b a:LA):=((xaQ (Lib.itoa (xhc d b)) c a).getD (0,0,[])).snd
def xpX (d:Int) (c:Nat) (b a:LA):=xbr 32 (xpY d c b a).fst (xpY d c b a).snd
def xpW (d:Int) (c:Nat) (b a:LA):=(xpX d c b a).getD (0,[])
def xlV {T:Type} (k:LA) (l j:Int) (e:Nat) (i c:Int) (d:Nat) (f g:Int) (h:List UInt8) (a b:LA) (δ:T) (κl:(Int×Nat×Int×Int×List UInt8×LA×LA)->T) (κr:(Nat×Int×Int×List UInt8×LA)->T):T:=br (decide (c<i)) (br (decide (0<=c)&&decide (c<(↑e:Int))) (br (decide (0+c.toNat<a.length)&&xSz (Sh.int .i64) ((a.getD (0+c.toNat) .top).cells.getD 0 .top)) (br (decide ((-9223372036854775808)<=xhc c a)&&decide (xhc c a<=9223372036854775807)) (br ((xaQ (Lib.itoa (xhc c a)) d b).isSome) (br ((xpX c d a b).isSome) (κl (i64.wrap (c+1),(xpW c d a b).fst,f,g,h,a,(xpW c d a b).snd)) δ) δ) δ) δ) δ) (κr (d,f,g,h,b))
def xbN (k:LA) (l e:Int) (c:Nat) (f:Int):StT (Int×Nat×Int×Int×List UInt8×LA×LA) (Nat×Int×Int×List UInt8×LA):=fun (g,d,h,i,j,b,a)=>xlV k l e c f g d h i j b a none inL inR
def xkk:=xJU.l 37 0 [] [] Tryz.f137 1 lk0 [3,5,8,9,10,21,22,23] [3,5,8,9,10] [] (q8 (xTy 0 0 0 0) (xTy 1 0 0 0) (qL 3) qI qI (xTw 2 0 0) qI qI) (q4 (xTA 0 2 142 false false (q1 (xTz (q2 (xTy 0 0 0 0) (xTw 3 0 0))))) (qB 0 3 76 (q1 (xTz (q3 qI qI pStr)))) (qB 0 1 3 xTm) (qB 0 1 5 xTm)) (fun (_,_,k,m,e,c,f,g,_) (((_,d,_),_),((h,i,j,_),_),b,a,_)=>(xbN k m e c f,(g,d,h,i,j,b,a),fun p=>(.leaf (.exit 2) [AV.own 0 0 0 0,AV.own 1 0 0 0,AV.list 3 k,AV.int .i64 m,AV.int .i64 e] [⟨0,2,142,[AV.agg [AV.own 0 0 0 0,AV.osl 2 0 0 p.1]],false,false⟩,bF 0 3 76 [AV.agg [AV.int .i64 p.2.1,AV.int .i64 p.2.2.1,AV.str p.2.2.2.1]],bF 0 1 5 p.2.2.2.2]))) (0,0,0,[],[]) fun (_,_,k,m,e,c,f,_,_) _ (g,d,h,i,j,b,a)=>((((),(),k,m,e,c,f,g,()),((((),d,()),()),((h,i,j,()),()),b,a,())),xlV k m e c f g d h i j b a none)
def xpV (b:LA) (e a:Int) (d:Nat) (c:LA):=Iter (xbN b e a 3 3) (0,d,(gC b a 0).toInt,(gC b a 1).toInt,(gC b a 2).toStr,[AV.int .i64 (gC b a 0).toInt,AV.int .i64 (gC b a 1).toInt,AV.int .i64 (↑(gC b a 2).toStr.length:Int)],c)
def xpU (d:LA) (e c:Int) (b:Nat) (a:LA):=(xpV d e c b a).getD (0,0,0,[],[])
def xpT (d:LA) (e c:Int) (b:Nat) (a:LA):=(xpU d e c b a).snd.snd.snd
def xpS (d:LA) (e c:Int) (b:Nat) (a:LA):=xaQ (xpT d e c b a).fst (xpU d e c b a).fst (xpT d e c b a).snd
def xpR (d:LA) (e c:Int) (b:Nat) (a:LA):=((xpS d e c b a).getD (0,0,[])).snd
def xlU {T:Type} (d:LA) (e b:Int) (c:Nat) (a:LA) (δ:T) (κl:(Int×Nat×LA)->T) (κr:(Nat×LA)->T):T:=br (decide (b<e)) (br (ixI d b) (br (ixT d b 3 [Sh.int .i64,Sh.int .i64,Sh.str] 0) (br ((xpV d e b c a).isSome) (br ((xpS d e b c a).isSome) (κl (i64.wrap (b+1),(xpR d e b c a).fst,(xpR d e b c a).snd)) δ) δ) δ) δ) (κr (c,a))
def xd8 (d:LA) (e:Int):StT (Int×Nat×LA) (Nat×LA):=fun (c,b,a)=>xlU d e c b a none inL inR
def xwE:=xJU.l 37 0 [] [(6,xkk.lp)] Tryz.f137 0 (lk1 xkk.ok) [3,8,9,10] [3] [] (q4 (xTy 0 0 0 0) (qL 3) qI qI) (q2 (xTA 0 2 142 false false (q1 (xTz (q2 (xTy 0 0 0 0) (xTw 1 0 0))))) (qB 0 1 5 xTm)) (fun (_,d,e,c,_) (((_,b,_),_),a,_)=>(xd8 d e,(c,b,a),fun p=>(.leaf (.exit 0) [AV.own 0 0 0 0] [⟨0,2,142,[AV.agg [AV.own 0 0 0 0,AV.osl 1 0 0 p.1]],false,false⟩,bF 0 1 5 p.2]))) (0,[]) fun (_,d,e,_,_) _ (c,b,a)=>((((),d,e,c,()),((((),b,()),()),a,())),xlU d e c b a none)
def xdR (a:LA):=((a.getD 0 .top).cells.getD 0 .top).toInt
def xt2 (a:LA):=xbU 32 ((xaN (Lib.itoa (xdR a))).getD (0,0,[])).snd.fst ((xaN (Lib.itoa (xdR a))).getD (0,0,[])).snd.snd
def xt1 (a:LA):=(xt2 a).getD (0,[])
def xt0 (a:LA):=Iter (xbN a (↑a.length:Int) 0 3 3) (1,(xt1 a).fst,xdR a,((a.getD 0 .top).cells.getD 1 .top).toInt,((a.getD 0 .top).cells.getD 2 .top).toStr,[AV.int .i64 (xdR a),AV.int .i64 ((a.getD 0 .top).cells.getD 1 .top).toInt,AV.int .i64 (↑((a.getD 0 .top).cells.getD 2 .top).toStr.length:Int)],(xt1 a).snd)
def xtx (a:LA):=(xt0 a).getD (0,0,0,[],[])
def xtZ (a:LA):=(xtx a).snd.snd.snd
def xtY (a:LA):=xaQ (xtZ a).fst (xtx a).fst (xtZ a).snd
def xtX (a:LA):=((xtY a).getD (0,0,[])).snd
def xtW (a:LA):=Iter (xd8 a (↑a.length:Int)) (1,(xtX a).fst,(xtX a).snd)
def xtV (a:LA):=(xtW a).getD (0,[])
def xkl (a:LA):=(xtV a).snd
def xvT {T:Type} (a:LA) (δ:T) (κ:List UInt8->T):T:=br (decide (0<(↑a.length:Int))) (br (decide (0<(↑a.length:Int))) (br (decide (0<a.length)&&((a.getD 0 .top).cells.length==3&&xSG [Sh.int .i64,Sh.int .i64,Sh.str] (a.getD 0 .top).cells 0)) (br (decide ((-9223372036854775808)<=xdR a)&&decide (xdR a<=9223372036854775807)) (br ((xaN (Lib.itoa (xdR a))).isSome) (br ((xt2 a).isSome) (br ((xt0 a).isSome) (br ((xtY a).isSome) (br ((xtW a).isSome) (br (decide ((xtV a).fst=(xkl a).length)&&isBytes (xkl a)&&decide ((xkl a).length≠0)) (κ (strOf (xkl a))) δ) δ) δ) δ) δ) δ) δ) δ) δ) (κ ([]))
def xpQ (a:LA):=xvT a none some
def xQT:EO:=xJU.f Tryz.func137 37 0 [] [(6,xkk.lp),(3,xwE.lp)] (lks (lkC xwE.ok (lkC xkk.ok lkN))) (u1 (uL 3)) (fun (a,_) _=>xvT a) (fun _ p=>AV.str p) []
def xnA (x:Int):Bool:=((x != x))
def xIk {T:Type} (x:Int) (δ:T) (κ:Bool->T):T:=κ (x != x)
def xQU:EO:=xQT.fT Tryz.func132 6 0 [] [] lk0 (fun (x,_)=>xIk x none) (u1 uI) (fun (x,_)=>xnA x) (fun _ p=>(AV.bool p))
def xlv (x y:Int):Int:=(br (xnA x) (br (xnA y) ((0)) (((-1)))) (br (xnA y) ((1)) (br (decide (x<y)) (((-1))) (br (decide (x>y)) ((1)) ((0))))))
def xGm {T:Type} (x y:Int) (δ:T) (κ:Int->T):T:=br (xnA x) (br (xnA y) (κ (0)) (κ ((-1)))) (br (xnA y) (κ (1)) (br (decide (x<y)) (κ ((-1))) (br (decide (x>y)) (κ (1)) (κ (0)))))
def xJV:EO:=xQU.fT Tryz.func103 20 0 [] [] lk0 (fun (x,y,_)=>xGm x y none) (u2 uI uI) (fun (x,y,_)=>xlv x y) (fun _ p=>(AV.int .i64 p))
def xpH:Env:=xJV.E.fn 18 0 (lsOf []) (xSX [])
theorem xGx:xSB P0 (xTh.at 0) xpH:=xJV.ok.fn
theorem xD8:LoOk P0 (xTh.at xpH.pin) xpH (Tryz.f115.body.getD .skip):=xgK (ls:=[xSF Tryz.f115 0]) (by kernel_rfl) (fun l a lp b=>by
 simp only [zC,List.not_mem_nil,or_false] at a;rcases a with rfl
 . rw [show xpH.lp (xSP (xSF Tryz.f115 0))=none by kernel_rfl] at b
   simp at b)
def xza (a b c:Int):Int:=(br (a != 0) ((a)) (br (b != 0) ((b)) (br (c != 0) ((c)) ((0)))))
def xD9 (a b c:Int):Bool:=true
def xG0 {T:Type} (a b c:Int) (δ:T) (κ:Int->T):T:=br (a != 0) (κ (a)) (br (b != 0) (κ (b)) (br (c != 0) (κ (c)) (κ (0))))
theorem xM8 (a b c:Int):Pre (xD9 a b c) (XF P0 xpH Tryz.f115 (Tryz.f115.body.getD .skip) [AV.list 1 [AV.int .i64 a,AV.int .i64 b,AV.int .i64 c]]) (AV.int .i64 (xza a b c)):=by
 have h:XF P0 xpH Tryz.f115 (Tryz.f115.body.getD .skip) [AV.list 1 [AV.int .i64 a,AV.int .i64 b,AV.int .i64 c]]=xG0 a b c none (fun (p:Int)=>some ((AV.int .i64 p):AV)):=by kernel_rfl
 rw [h];unfold xza xD9 xG0;repeat' (first|exact Pre.none|exact Pre.tt rfl|exact Pre.some rfl|refine Pre.l ?_|refine Pre.r ?_|refine Pre.br (f:=fun (p:Int)=>((AV.int .i64 p):AV)) ?_ ?_|refine Pre.brt (f:=fun (p:Int)=>((AV.int .i64 p):AV)) ?_ ?_)
def xM7:LA->Option (Bool×AV):=ocOf (xTj (xTB 1 (xTi (pInt .i64) (xTi (pInt .i64) (xTi (pInt .i64) xTk)))) xTl) fun ((a,(b,(c,_))),_)=>(true,(AV.int .i64 (xza a b c)))
theorem xM6:OcOk P0 xTh 115 (xM7):=xmF fun e h f=>by
 obtain ⟨⟨a,⟨b,⟨c,_⟩⟩⟩,_⟩:=e;obtain ⟨g,d⟩:=Prod.mk.inj f;refine xdT (p:=xpH.pin) (xf4 xSK (xSL P0 _) rfl xGx Tryz.func115 rfl (by kernel_rfl) xD8 ((Pre.get (xM8 _ _ _) rfl).trans ?_))
 exact congrArg some d
def xQV:EO:=xJV.w xM6
def xbK (a b:Int) (c:List UInt8) (d e:Int) (f:List UInt8):Int:=((xza (xlv a d) (xlv b e) (Lib.compareBytes c f)))
def xEY {T:Type} (a b:Int) (c:List UInt8) (d e:Int) (f:List UInt8) (δ:T) (κ:Int->T):T:=κ (xza (xlv a d) (xlv b e) (Lib.compareBytes c f))
def xN5:EO:=xQV.fT Tryz.func110 22 0 [] [] lk0 (fun ((a,b,c,_),(d,e,f,_),_)=>xEY a b c d e f none) (u2 (xTC (u3 uI uI (sEq pStr))) (xTC (u3 uI uI (sEq pStr)))) (fun ((a,b,c,_),(d,e,f,_),_)=>xbK a b c d e f) (fun _ p=>(AV.int .i64 p))
def xcI (c b:LA) (a:Int):=xbK (gC b a 0).toInt (gC b a 1).toInt (gC b a 2).toStr (gC c a 0).toInt (gC c a 1).toInt (gC c a 2).toStr
def xcx {T:Type} (e c b:LA) (d a:Int) (δ:T) (κl:(Int)->T) (κr:(Bool×(Int)×(Unit))->T):T:=br (decide (a<d)) (br (ixI b a) (br (ixT b a 3 [Sh.int .i64,Sh.int .i64,Sh.str] 0) (br (decide (a>=c.length)) (κr (true,(1),())) (br (ixI c a) (br (ixT c a 3 [Sh.int .i64,Sh.int .i64,Sh.str] 0) (br (xcI c b a != 0) (κr (true,(xcI c b a),())) (κl (i64.wrap (a+1)))) δ) δ)) δ) δ) (κr (false,0,()))
def xa9 (d e a:LA) (b:Int):StT (Int) (Bool×(Int)×(Unit)):=fun (c)=>xcx d e a b c none inL inR
def xqu:=xN5.l 39 0 [] [] Tryz.f165 0 lk0 [0,1,2,11,12,13] [0,1,6] [] (q6 (qL 3) (qL 3) (xSY 110 xTk) (qL 3) qI qI) xTk (fun (d,e,_,a,b,c,_) _=>(xa9 d e a b,(c),fun p=>(.node p.1 (.leaf .ret [AV.list 3 d,AV.list 3 e,AV.int .i64 p.2.1] []) (.leaf (.exit 0) [AV.list 3 d,AV.list 3 e,.top] [])))) (false,0,()) fun (d,e,_,a,b,_,_) _ (c)=>(((d,e,(),a,b,c,()),()),xcx d e a b c none)
def xnX {T:Type} (a b:LA) (δ:T) (κ:Int->T):T:=br ((Iter (xa9 a b a (↑a.length:Int)) 0).isSome) (br (((Iter (xa9 a b a (↑a.length:Int)) 0).getD (false,0,())).fst) (κ (((Iter (xa9 a b a (↑a.length:Int)) 0).getD (false,0,())).snd.fst)) (br (decide ((↑a.length:Int)<(↑b.length:Int))) (κ ((-1))) (κ (0)))) δ
def xqt (a b:LA):=xnX a b none some
def xQW:EO:=xN5.f Tryz.func165 39 0 [] [(2,xqu.lp)] (lk1 xqu.ok) (u3 (uL 3) (uL 3) (sEq (xSY (110:FuncId) xTk))) (fun (a,b,_,_) _=>xnX a b) (fun _ p=>AV.int .i64 p) 0
def xvn {T:Type} (a b:LA) (δ:T) (κ:Int->T):T:=br ((xqt a b).isSome) (κ ((xqt a b).getD 0)) δ
def xgc (a b:LA):=xvn a b none some
def xQX:EO:=xQW.f Tryz.func134 8 0 [] [] lk0 (u2 (uL 3) (uL 3)) (fun (a,b,_) _=>xvn a b) (fun _ p=>AV.int .i64 p) 0
def xsN {T:Type} (a c b d:LA) (δ:T) (κ:Int->T):T:=br ((xgc a b).isSome) (κ ((xgc a b).getD 0)) δ
def xd9 (c a d b:LA):=xsN c a d b none some
def xJW:EO:=xQX.f Tryz.func139 10 0 [] [] lk0 (u2 (xTC (u2 (uL 3) (uL 2))) (xTC (u2 (uL 3) (uL 2)))) (fun ((c,a,_),(d,b,_),_) _=>xsN c a d b) (fun _ p=>AV.int .i64 p) 0
def xen (a:Nat) (j:Int):=decide (0<=i64.wrap (j - 1))&&decide (i64.wrap (j - 1)<(↑a:Int))
def xcB (j:Int):Nat:=0+(i64.wrap (j - 1)).toNat
def xeo (a:Nat) (j:Int):=decide (0<=j)&&decide (j<(↑a:Int))
def xhN (j:Int) (a:LA):=decide (0+j.toNat<a.length)
def xhL (j:Int) (a:LA):=xhN j a&&((a.getD (0+j.toNat) .top).cells.length==2&&xSG [Sh.list 3,Sh.list 2] (a.getD (0+j.toNat) .top).cells 0)
def xbc (j:Int) (a:LA):=(a.getD (xcB j) .top).cells
def xhJ (j:Int) (a:LA):=decide (xcB j<a.length)&&((xbc j a).length==2&&xSG [Sh.list 3,Sh.list 2] (xbc j a) 0)
def xhK (j:Int) (a:LA):=xd9 ((a.getD (0+j.toNat) .top).cells.getD 0 .top).toList ((a.getD (0+j.toNat) .top).cells.getD 1 .top).toList ((xbc j a).getD 0 .top).toList ((xbc j a).getD 1 .top).toList
def xhM (j:Int) (a:LA):=a.set (0+j.toNat) (AV.agg [AV.list 3 ((xbc j a).getD 0 .top).toList,AV.list 2 ((xbc j a).getD 1 .top).toList])
def xie {T:Type} (d:Nat) (a b i j:Int) (c:LA) (δ:T) (κl:(Int×LA)->T) (κr:(LA)->T):T:=br (decide (j>a)) (br (xeo d j) (br (xhL j c) (br (xen d j) (br (xhJ j c) (br ((xhK j c).isSome) (br (decide ((xhK j c).getD 0<0)) (br (xen d j) (br (xhJ j c) (br (xeo d j) (br (xhL j c) (br (xeo d j) (br (xhN j c) (br (xen d j) (br (decide (xcB j<(xhM j c).length)) (κl (i64.wrap (j - 1),(xhM j c).set (xcB j) (AV.agg [AV.list 3 ((c.getD (0+j.toNat) .top).cells.getD 0 .top).toList,AV.list 2 ((c.getD (0+j.toNat) .top).cells.getD 1 .top).toList]))) δ) δ) δ) δ) δ) δ) δ) δ) (κr (c))) δ) δ) δ) δ) δ) (κr (c))
def xcb (d:Nat) (a b i:Int):StT (Int×LA) (LA):=fun (j,c)=>xie d a b i j c none inL inR
def xcA:=xJW.l 53 1 [159] [] Tryz.f192 1 lk0 [0,1,2,3,8,9] [0,1,2,3,8] [] (q6 (xTw 0 0 0) qI qI (xSY 139 xTk) qI qI) (q1 (qB 0 2 159 xTm)) (fun (c,a,b,_,i,j,_) (d,_)=>(xcb c a b i,(j,d),fun p=>(.leaf (.exit 2) [AV.osl 0 0 0 c,AV.int .i64 a,AV.int .i64 b,AV.func 139 [],AV.int .i64 i] [bF 0 2 159 p]))) [] fun (c,a,b,_,i,_,_) _ (j,d)=>(((c,a,b,(),i,j,()),(d,())),xie c a b i j d none)
def xid {T:Type} (d:Nat) (a b i:Int) (c:LA) (δ:T) (κl:(Int×LA)->T) (κr:(LA)->T):T:=br (decide (i<b)) (br ((Iter (xcb d a b i) (i,c)).isSome) (κl (i64.wrap (i+1),(Iter (xcb d a b i) (i,c)).getD [])) δ) (κr (c))
def xca (d:Nat) (a b:Int):StT (Int×LA) (LA):=fun (i,c)=>xid d a b i c none inL inR
def xhI:=xJW.l 53 1 [159] [(4,xcA.lp)] Tryz.f192 0 (lk1 xcA.ok) [0,1,2,3,8] [] [] (q5 (xTw 0 0 0) qI qI (xSY 139 xTk) qI) (q1 (qB 0 2 159 xTm)) (fun (d,a,b,_,i,_) (c,_)=>(xca d a b,(i,c),fun p=>(.leaf (.exit 0) [] [bF 0 2 159 p]))) [] fun (d,a,b,_,_,_) _ (i,c)=>(((d,a,b,(),i,()),(c,())),xid d a b i c none)
def xfF {T:Type} (n:Nat) (a b:Int) (c:LA) (δ:T) (κ:LA->T):T:=br ((Iter (xca n a b) (i64.wrap (a+1),c)).isSome) (κ ((Iter (xca n a b) (i64.wrap (a+1),c)).getD [])) δ
def xbM (n:Nat) (a b:Int) (c:LA):=xfF n a b c none some
def xN6:EO:=xJW.fM Tryz.func192 53 1 [159] [(4,xcA.lp),(1,xhI.lp)] (lks (lkC xhI.ok (lkC xcA.ok lkN))) (u4 (sEq (xTw 0 0 0)) uI uI (sEq (xSY (139:FuncId) xTk))) (q1 (qB 0 2 159 xTm)) (fun (n,a,b,_,_) (c,_) _=>xfF n a b c) (fun _ _ p=>(AV.tuple [],([bF 0 2 159 p]:List Box))) []
def xj9 (a i:Int) (b:LA):=decide (0+(i64.wrap (a+i)).toNat<b.length)
def xdc (a i:Int) (b:LA):=(b.getD (0+(i64.wrap (a+i)).toNat) .top).cells
def xka (a:Nat) (b i:Int):=decide (0<=i64.wrap (b+i))&&decide (i64.wrap (b+i)<(↑a:Int))
def xkb (b:Nat) (a i:Int):=decide (0<=i64.wrap (a+i))&&decide (i64.wrap (a+i)<(↑b:Int))
def xdd (b i:Int):Nat:=0+(i64.wrap (b+i)).toNat
def xdb (b i:Int) (a:LA):=(a.getD (xdd b i) .top).cells
def xj8 (a b i:Int) (c:LA):=c.set (0+(i64.wrap (a+i)).toNat) (AV.agg [AV.list 3 ((xdb b i c).getD 0 .top).toList,AV.list 2 ((xdb b i c).getD 1 .top).toList])
def xkN {T:Type} (d:Nat) (a b n i:Int) (c:LA) (δ:T) (κl:(Int×LA)->T) (κr:(LA)->T):T:=br (decide (i<n)) (br (xka d b i) (br (decide (xdd b i<c.length)&&((xdb b i c).length==2&&xSG [Sh.list 3,Sh.list 2] (xdb b i c) 0)) (br (xkb d a i) (br (xj9 a i c&&((xdc a i c).length==2&&xSG [Sh.list 3,Sh.list 2] (xdc a i c) 0)) (br (xkb d a i) (br (xj9 a i c) (br (xka d b i) (br (decide (xdd b i<(xj8 a b i c).length)) (κl (i64.wrap (i+1),(xj8 a b i c).set (xdd b i) (AV.agg [AV.list 3 ((xdc a i c).getD 0 .top).toList,AV.list 2 ((xdc a i c).getD 1 .top).toList]))) δ) δ) δ) δ) δ) δ) δ) δ) (κr (c))
def xcO (d:Nat) (a b n:Int):StT (Int×LA) (LA):=fun (i,c)=>xkN d a b n i c none inL inR
def xj7:=xN6.l 38 1 [159] [] Tryz.f210 0 lk0 [0,1,2,3,10] [] [] (q5 (xTw 0 0 0) qI qI qI qI) (q1 (qB 0 2 159 xTm)) (fun (d,a,b,n,i,_) (c,_)=>(xcO d a b n,(i,c),fun p=>(.leaf (.exit 0) [] [bF 0 2 159 p]))) [] fun (d,a,b,n,_,_) _ (i,c)=>(((d,a,b,n,i,()),(c,())),xkN d a b n i c none)
def xho {T:Type} (n:Nat) (a b k:Int) (c:LA) (δ:T) (κ:LA->T):T:=br ((Iter (xcO n a b k) (0,c)).isSome) (κ ((Iter (xcO n a b k) (0,c)).getD [])) δ
def xbq (n:Nat) (a b k:Int) (c:LA):=xho n a b k c none some
def xN7:EO:=xN6.fM Tryz.func210 38 1 [159] [(1,xj7.lp)] (lk1 xj7.ok) (u5 (sEq (xTw 0 0 0)) uI uI uI (sEq (xSY (139:FuncId) xTk))) (q1 (qB 0 2 159 xTm)) (fun (n,a,b,k,_,_) (c,_) _=>xho n a b k c) (fun _ _ p=>(AV.tuple [],([bF 0 2 159 p]:List Box))) []
def xnE {T:Type} (b:Nat) (m i j:Int) (a:LA) (δ:T) (κl:(Int×Int×LA)->T) (κr:(Int×LA)->T):T:=br (i != j) (br (decide (i>j)) (br ((xbq b (i64.wrap (m - i)) m j a).isSome) (κl (i64.wrap (i - j),j,(xbq b (i64.wrap (m - i)) m j a).getD [])) δ) (br ((xbq b (i64.wrap (m - i)) (i64.wrap (i64.wrap (m+j) - i)) i a).isSome) (κl (i,i64.wrap (j - i),(xbq b (i64.wrap (m - i)) (i64.wrap (i64.wrap (m+j) - i)) i a).getD [])) δ)) (κr (i,a))
def xfx (b:Nat) (m:Int):StT (Int×Int×LA) (Int×LA):=fun (i,j,a)=>xnE b m i j a none inL inR
def xm8:=xN7.l 58 1 [159] [] Tryz.f205 0 lk0 [0,2,4,10,11] [0,2,4,10] [] (q5 (xTw 0 0 0) qI (xSY 139 xTk) qI qI) (q1 (qB 0 2 159 xTm)) (fun (a,m,_,i,j,_) (b,_)=>(xfx a m,(i,j,b),fun p=>(.leaf (.exit 0) [AV.osl 0 0 0 a,AV.int .i64 m,AV.func 139 [],AV.int .i64 p.1] [bF 0 2 159 p.2]))) (0,[]) fun (a,m,_,_,_,_) _ (i,j,b)=>(((a,m,(),i,j,()),(b,())),xnE a m i j b none)
def xiK (n:Nat) (a m b:Int) (c:LA):=Iter (xfx n m) (i64.wrap (m - a),i64.wrap (b - m),c)
def xiJ (n:Nat) (a m b:Int) (c:LA):=(xiK n a m b c).getD (0,[])
def xiI (n:Nat) (a m b:Int) (c:LA):=(xiJ n a m b c).fst
def xiH (n:Nat) (a m b:Int) (c:LA):=xbq n (i64.wrap (m - xiI n a m b c)) m (xiI n a m b c) (xiJ n a m b c).snd
def xjH {T:Type} (n:Nat) (a m b:Int) (c:LA) (δ:T) (κ:LA->T):T:=br ((xiK n a m b c).isSome) (br ((xiH n a m b c).isSome) (κ ((xiH n a m b c).getD [])) δ) δ
def xcu (n:Nat) (a m b:Int) (c:LA):=xjH n a m b c none some
def xyJ:EO:=xN7.fM Tryz.func205 58 1 [159] [(2,xm8.lp)] (lk1 xm8.ok) (u5 (sEq (xTw 0 0 0)) uI uI uI (sEq (xSY (139:FuncId) xTk))) (q1 (qB 0 2 159 xTm)) (fun (n,a,m,b,_,_) (c,_) _=>xjH n a m b c) (fun _ _ p=>(AV.tuple [],([bF 0 2 159 p]:List Box))) []
def xbE (i j:Int):=i64.wrap ((u64.wrap (i64.wrap (i+j))).fdiv 2)
def xdw (i j:Int) (a:LA):=(a.getD (0+(xbE i j).toNat) .top).cells
def xkO (a i j:Int) (b:LA):=xd9 ((xdw i j b).getD 0 .top).toList ((xdw i j b).getD 1 .top).toList ((b.getD (0+a.toNat) .top).cells.getD 0 .top).toList ((b.getD (0+a.toNat) .top).cells.getD 1 .top).toList
def xlO {T:Type} (c:Nat) (a i j:Int) (b:LA) (δ:T) (κl:(Int×Int×LA)->T) (κr:(Int×LA)->T):T:=br (decide (i<j)) (br (decide (0<=xbE i j)&&decide (xbE i j<(↑c:Int))) (br (decide (0+(xbE i j).toNat<b.length)&&((xdw i j b).length==2&&xSG [Sh.list 3,Sh.list 2] (xdw i j b) 0)) (br (decide (0<=a)&&decide (a<(↑c:Int))) (br (decide (0+a.toNat<b.length)&&((b.getD (0+a.toNat) .top).cells.length==2&&xSG [Sh.list 3,Sh.list 2] (b.getD (0+a.toNat) .top).cells 0)) (br ((xkO a i j b).isSome) (br (decide ((xkO a i j b).getD 0<0)) (κl (i64.wrap (xbE i j+1),j,b)) (κl (i,xbE i j,b))) δ) δ) δ) δ) δ) (κr (i,b))
def xbW (c:Nat) (a:Int):StT (Int×Int×LA) (Int×LA):=fun (i,j,b)=>xlO c a i j b none inL inR
def xbi:=xyJ.l 220 1 [159] [] Tryz.f193 0 lk0 [0,1,4,10,11] [0,1,10] [] (q5 (xTw 0 0 0) qI (xSY 139 xTk) qI qI) (q1 (qB 0 2 159 xTm)) (fun (b,a,_,i,j,_) (c,_)=>(xbW b a,(i,j,c),fun p=>(.leaf (.exit 0) [AV.osl 0 0 0 b,AV.int .i64 a,AV.int .i64 p.1] [bF 0 2 159 p.2]))) (0,[]) fun (b,a,_,_,_,_) _ (i,j,c)=>(((b,a,(),i,j,()),(c,())),xlO b a i j c none)
def xkQ (a:Nat) (k:Int):=decide (0<=i64.wrap (k+1))&&decide (i64.wrap (k+1)<(↑a:Int))
def xdz (k:Int):Nat:=0+(i64.wrap (k+1)).toNat
def xkR (k:Int) (a:LA):=decide (0+k.toNat<a.length)
def xdy (k:Int) (a:LA):=(a.getD (xdz k) .top).cells
def xkP (k:Int) (a:LA):=a.set (0+k.toNat) (AV.agg [AV.list 3 ((xdy k a).getD 0 .top).toList,AV.list 2 ((xdy k a).getD 1 .top).toList])
def xlP {T:Type} (b:Nat) (i k:Int) (a:LA) (δ:T) (κl:(Int×LA)->T) (κr:(LA)->T):T:=br (decide (k<i64.wrap (i - 1))) (br (xkQ b k) (br (decide (xdz k<a.length)&&((xdy k a).length==2&&xSG [Sh.list 3,Sh.list 2] (xdy k a) 0)) (br (decide (0<=k)&&decide (k<(↑b:Int))) (br (xkR k a&&((a.getD (0+k.toNat) .top).cells.length==2&&xSG [Sh.list 3,Sh.list 2] (a.getD (0+k.toNat) .top).cells 0)) (br (decide (0<=k)&&decide (k<(↑b:Int))) (br (xkR k a) (br (xkQ b k) (br (decide (xdz k<(xkP k a).length)) (κl (i64.wrap (k+1),(xkP k a).set (xdz k) (AV.agg [AV.list 3 ((a.getD (0+k.toNat) .top).cells.getD 0 .top).toList,AV.list 2 ((a.getD (0+k.toNat) .top).cells.getD 1 .top).toList]))) δ) δ) δ) δ) δ) δ) δ) δ) (κr (a))
def xe9 (b:Nat) (i:Int):StT (Int×LA) (LA):=fun (k,a)=>xlP b i k a none inL inR
def xbF:=xyJ.l 220 1 [159] [(3,xbi.lp)] Tryz.f193 1 lk0 [0,10,13] [] [] (q3 (xTw 0 0 0) qI qI) (q1 (qB 0 2 159 xTm)) (fun (b,i,k,_) (a,_)=>(xe9 b i,(k,a),fun p=>(.leaf (.exit 2) [] [bF 0 2 159 p]))) [] fun (b,i,_,_) _ (k,a)=>(((b,i,k,()),(a,())),xlP b i k a none)
def xbG (i j:Int):=i64.wrap ((u64.wrap (i64.wrap (i+j))).fdiv 2)
def xdA (i j:Int) (a:LA):=(a.getD (0+(xbG i j).toNat) .top).cells
def xkS (m i j:Int) (a:LA):=xd9 ((a.getD (0+m.toNat) .top).cells.getD 0 .top).toList ((a.getD (0+m.toNat) .top).cells.getD 1 .top).toList ((xdA i j a).getD 0 .top).toList ((xdA i j a).getD 1 .top).toList
def xlQ {T:Type} (b:Nat) (m i j:Int) (a:LA) (δ:T) (κl:(Int×Int×LA)->T) (κr:(Int×LA)->T):T:=br (decide (i<j)) (br (decide (0<=m)&&decide (m<(↑b:Int))) (br (decide (0+m.toNat<a.length)&&((a.getD (0+m.toNat) .top).cells.length==2&&xSG [Sh.list 3,Sh.list 2] (a.getD (0+m.toNat) .top).cells 0)) (br (decide (0<=xbG i j)&&decide (xbG i j<(↑b:Int))) (br (decide (0+(xbG i j).toNat<a.length)&&((xdA i j a).length==2&&xSG [Sh.list 3,Sh.list 2] (xdA i j a) 0)) (br ((xkS m i j a).isSome) (br (!decide ((xkS m i j a).getD 0<0)) (κl (i64.wrap (xbG i j+1),j,a)) (κl (i,xbG i j,a))) δ) δ) δ) δ) δ) (κr (i,a))
def xbX (b:Nat) (m:Int):StT (Int×Int×LA) (Int×LA):=fun (i,j,a)=>xlQ b m i j a none inL inR
def xcq:=xyJ.l 220 1 [159] [(3,xbi.lp),(9,xbF.lp)] Tryz.f193 2 lk0 [0,2,4,14,15] [0,2,14] [] (q5 (xTw 0 0 0) qI (xSY 139 xTk) qI qI) (q1 (qB 0 2 159 xTm)) (fun (a,m,_,i,j,_) (b,_)=>(xbX a m,(i,j,b),fun p=>(.leaf (.exit 4) [AV.osl 0 0 0 a,AV.int .i64 m,AV.int .i64 p.1] [bF 0 2 159 p.2]))) (0,[]) fun (a,m,_,_,_,_) _ (i,j,b)=>(((a,m,(),i,j,()),(b,())),xlQ a m i j b none)
def xkU (a:Nat) (k:Int):=decide (0<=i64.wrap (k - 1))&&decide (i64.wrap (k - 1)<(↑a:Int))
def xdD (k:Int):Nat:=0+(i64.wrap (k - 1)).toNat
def xkV (k:Int) (a:LA):=decide (0+k.toNat<a.length)
def xdC (k:Int) (a:LA):=(a.getD (xdD k) .top).cells
def xkT (k:Int) (a:LA):=a.set (0+k.toNat) (AV.agg [AV.list 3 ((xdC k a).getD 0 .top).toList,AV.list 2 ((xdC k a).getD 1 .top).toList])
def xlR {T:Type} (b:Nat) (i k:Int) (a:LA) (δ:T) (κl:(Int×LA)->T) (κr:(LA)->T):T:=br (decide (k>i)) (br (xkU b k) (br (decide (xdD k<a.length)&&((xdC k a).length==2&&xSG [Sh.list 3,Sh.list 2] (xdC k a) 0)) (br (decide (0<=k)&&decide (k<(↑b:Int))) (br (xkV k a&&((a.getD (0+k.toNat) .top).cells.length==2&&xSG [Sh.list 3,Sh.list 2] (a.getD (0+k.toNat) .top).cells 0)) (br (decide (0<=k)&&decide (k<(↑b:Int))) (br (xkV k a) (br (xkU b k) (br (decide (xdD k<(xkT k a).length)) (κl (i64.wrap (k - 1),(xkT k a).set (xdD k) (AV.agg [AV.list 3 ((a.getD (0+k.toNat) .top).cells.getD 0 .top).toList,AV.list 2 ((a.getD (0+k.toNat) .top).cells.getD 1 .top).toList]))) δ) δ) δ) δ) δ) δ) δ) δ) (κr (a))
def xfa (b:Nat) (i:Int):StT (Int×LA) (LA):=fun (k,a)=>xlR b i k a none inL inR
def xdB:=xyJ.l 220 1 [159] [(3,xbi.lp),(9,xbF.lp),(15,xcq.lp)] Tryz.f193 3 lk0 [0,14,17] [] [] (q3 (xTw 0 0 0) qI qI) (q1 (qB 0 2 159 xTm)) (fun (b,i,k,_) (a,_)=>(xfa b i,(k,a),fun p=>(.leaf (.exit 6) [] [bF 0 2 159 p]))) [] fun (b,i,_,_) _ (k,a)=>(((b,i,k,()),(a,())),xlR b i k a none)
def xaW (a r:Int):=i64.wrap ((u64.wrap (i64.wrap (a+r))).fdiv 2)
def xdE (c b r:Int) (a:LA):=(a.getD (0+(i64.wrap (c - xaW b r)).toNat) .top).cells
def xdF (b r:Int) (a:LA):=(a.getD (0+(xaW b r).toNat) .top).cells
def xkW (c b r:Int) (a:LA):=xd9 ((xdE c b r a).getD 0 .top).toList ((xdE c b r a).getD 1 .top).toList ((xdF b r a).getD 0 .top).toList ((xdF b r a).getD 1 .top).toList
def xlS {T:Type} (e:Nat) (a m b g n f c r:Int) (d:LA) (δ:T) (κl:(Int×Int×LA)->T) (κr:(Int×LA)->T):T:=br (decide (c<r)) (br (decide (0<=i64.wrap (f - xaW c r))&&decide (i64.wrap (f - xaW c r)<(↑e:Int))) (br (decide (0+(i64.wrap (f - xaW c r)).toNat<d.length)&&((xdE f c r d).length==2&&xSG [Sh.list 3,Sh.list 2] (xdE f c r d) 0)) (br (decide (0<=xaW c r)&&decide (xaW c r<(↑e:Int))) (br (decide (0+(xaW c r).toNat<d.length)&&((xdF c r d).length==2&&xSG [Sh.list 3,Sh.list 2] (xdF c r d) 0)) (br ((xkW f c r d).isSome) (br (!decide ((xkW f c r d).getD 0<0)) (κl (i64.wrap (xaW c r+1),r,d)) (κl (c,xaW c r,d))) δ) δ) δ) δ) δ) (κr (c,d))
def xc6 (d:Nat) (a m b f n g:Int):StT (Int×Int×LA) (Int×LA):=fun (e,r,c)=>xlS d a m b f n g e r c none inL inR
def xf1:=xyJ.l 220 1 [159] [(3,xbi.lp),(9,xbF.lp),(15,xcq.lp),(21,xdB.lp)] Tryz.f193 4 lk0 [0,1,2,3,4,18,19,20,21,22] [0,1,2,3,4,18,19,20] [] (q10 (xTw 0 0 0) qI qI qI (xSY 139 xTk) qI qI qI qI qI) (q1 (qB 0 2 159 xTm)) (fun (c,a,m,b,_,f,n,e,r,g,_) (d,_)=>(xc6 c a m b f n g,(e,r,d),fun p=>(.leaf (.exit 8) [AV.osl 0 0 0 c,AV.int .i64 a,AV.int .i64 m,AV.int .i64 b,AV.func 139 [],AV.int .i64 f,AV.int .i64 n,AV.int .i64 p.1] [bF 0 2 159 p.2]))) (0,[]) fun (c,a,m,b,_,f,n,_,_,g,_) _ (e,r,d)=>(((c,a,m,b,(),f,n,e,r,g,()),(d,())),xlS c a m b f n g e r d none)
def xgd (R:Nat->Int->Int->Int->LA->Option (LA)):LA->List Box->Option (Bool×AV×List Box):=omOf (xTj (sEq (xTw 0 0 0)) (xTj (sEq (pInt .i64)) (xTj (sEq (pInt .i64)) (xTj (sEq (pInt .i64)) (xTj (sEq (xSY (139:FuncId) xTk)) xTl))))) (xTi (xTA 0 2 (159:TypeId) false true xTm) xTk) fun (n,(a,(m,(b,(_,_))))) (c,_)=>((R n a m b c).isSome,(AV.tuple [],([⟨0,2,159,((R n a m b c).getD []),false,true⟩]:List Box)))
def xa1 (R:Nat->Int->Int->Int->LA->Option (LA)):Env:=(xyJ.E.withM 193 (xgd R)).fn 220 1 (lsOf [159]) (xSX [(3,xbi.lp),(9,xbF.lp),(15,xcq.lp),(21,xdB.lp),(33,xf1.lp)])
def xf0 (R:Nat->Int->Int->Int->LA->Option (LA)):Prop:=OmOk P0 xTh 193 (xgd R)
theorem xuY (R:Nat->Int->Int->Int->LA->Option (LA)) (a:xf0 R):xSB P0 (xTh.at 1) (xa1 R):=(xyJ.ok.withM a).fn
theorem xr8 (R:Nat->Int->Int->Int->LA->Option (LA)):LoOk P0 (xTh.at (xa1 R).pin) (xa1 R) (Tryz.f193.body.getD .skip):=xgK (ls:=[xSF Tryz.f193 0,xSF Tryz.f193 1,xSF Tryz.f193 2,xSF Tryz.f193 3,xSF Tryz.f193 4]) (by kernel_rfl) (fun l b lp a=>by
 simp only [zC,List.not_mem_nil,or_false] at b;rcases b with rfl|rfl|rfl|rfl|rfl
 . rw [show (xa1 R).lp (xSP (xSF Tryz.f193 0))=some xbi.lp by kernel_rfl] at a
   simp only [z6] at a;subst a;exact xbi.ok
 . rw [show (xa1 R).lp (xSP (xSF Tryz.f193 1))=some xbF.lp by kernel_rfl] at a
   simp only [z6] at a;subst a;exact xbF.ok
 . rw [show (xa1 R).lp (xSP (xSF Tryz.f193 2))=some xcq.lp by kernel_rfl] at a
   simp only [z6] at a;subst a;exact xcq.ok
 . rw [show (xa1 R).lp (xSP (xSF Tryz.f193 3))=some xdB.lp by kernel_rfl] at a
   simp only [z6] at a;subst a;exact xdB.ok
 . rw [show (xa1 R).lp (xSP (xSF Tryz.f193 4))=some xf1.lp by kernel_rfl] at a
   simp only [z6] at a;subst a;exact xf1.ok)
def xaa (a b:Int):=i64.wrap ((u64.wrap (i64.wrap (a+b))).fdiv 2)
def xaE (n:Nat) (a m b:Int) (c:LA):=Iter (xe9 n ((Iter (xbW n a) (m,b,c)).getD (0,[])).fst) (a,((Iter (xbW n a) (m,b,c)).getD (0,[])).snd)
def xaF (n:Nat) (a m:Int) (b:LA):=Iter (xfa n ((Iter (xbX n m) (a,m,b)).getD (0,[])).fst) (m,((Iter (xbX n m) (a,m,b)).getD (0,[])).snd)
def xaG (n:Nat) (a m b:Int) (c:LA):=Iter (xc6 n a m b (xaa a b) (i64.wrap (xaa a b+m)) (i64.wrap (i64.wrap (xaa a b+m) - 1))) (i64.wrap (i64.wrap (xaa a b+m) - b),xaa a b,c)
def xaI (n:Nat) (a m b:Int) (c:LA):=Iter (xc6 n a m b (xaa a b) (i64.wrap (xaa a b+m)) (i64.wrap (i64.wrap (xaa a b+m) - 1))) (a,m,c)
def xaD (n:Nat) (a m b:Int) (c:LA):=(xaG n a m b c).getD (0,[])
def xaH (n:Nat) (a m b:Int) (c:LA):=(xaI n a m b c).getD (0,[])
def xab (n:Nat) (a m b:Int) (c:LA):=(xaD n a m b c).fst
def xac (n:Nat) (a m b:Int) (c:LA):=(xaH n a m b c).fst
def xah (n:Nat) (a m b:Int) (c:LA):=(xaD n a m b c).snd
def xai (n:Nat) (a m b:Int) (c:LA):=(xaH n a m b c).snd
def xad (n:Nat) (a m b:Int) (c:LA):=i64.wrap (i64.wrap (xaa a b+m) - xab n a m b c)
def xae (n:Nat) (a m b:Int) (c:LA):=i64.wrap (i64.wrap (xaa a b+m) - xac n a m b c)
def xaz (n:Nat) (a m b:Int) (c:LA):=decide (xab n a m b c<xaa a b)
def xaA (n:Nat) (a m b:Int) (c:LA):=decide (a<xab n a m b c)
def xaB (n:Nat) (a m b:Int) (c:LA):=decide (xac n a m b c<xaa a b)
def xaC (n:Nat) (a m b:Int) (c:LA):=decide (a<xac n a m b c)
def xan (n:Nat) (a m b:Int) (c:LA):=decide (xaa a b<xad n a m b c)
def xao (n:Nat) (a m b:Int) (c:LA):=decide (xad n a m b c<b)
def xap (n:Nat) (a m b:Int) (c:LA):=decide (xaa a b<xae n a m b c)
def xaq (n:Nat) (a m b:Int) (c:LA):=decide (xae n a m b c<b)
def xaj (n:Nat) (a m b:Int) (c:LA):=(xcu n (xab n a m b c) m (xad n a m b c) (xah n a m b c)).getD []
def xak (n:Nat) (a m b:Int) (c:LA):=(xcu n (xac n a m b c) m (xae n a m b c) (xai n a m b c)).getD []
def xaJ (R:Nat->Int->Int->Int->LA->Option (LA)) (n:Nat) (a m b:Int) (c:LA):Option (LA):=R n (xaa a b) (xae n a m b c) b ((R n a (xac n a m b c) (xaa a b) (xak n a m b c)).getD [])
def xaK (R:Nat->Int->Int->Int->LA->Option (LA)) (n:Nat) (a m b:Int) (c:LA):Option (LA):=R n (xaa a b) (xad n a m b c) b ((R n a (xab n a m b c) (xaa a b) (xaj n a m b c)).getD [])
def xat {T:Type} (R:Nat->Int->Int->Int->LA->Option (LA)) (n:Nat) (a m b:Int) (c:LA) (δ:T) (κ:LA->T):T:=br (xan n a m b c) (br (xao n a m b c) (br ((R n (xaa a b) (xad n a m b c) b (xaj n a m b c)).isSome) (κ ((R n (xaa a b) (xad n a m b c) b (xaj n a m b c)).getD [])) δ) (κ (xaj n a m b c))) (κ (xaj n a m b c))
def xau {T:Type} (R:Nat->Int->Int->Int->LA->Option (LA)) (n:Nat) (a m b:Int) (c:LA) (δ:T) (κ:LA->T):T:=br (xap n a m b c) (br (xaq n a m b c) (br ((R n (xaa a b) (xae n a m b c) b (xak n a m b c)).isSome) (κ ((R n (xaa a b) (xae n a m b c) b (xak n a m b c)).getD [])) δ) (κ (xak n a m b c))) (κ (xak n a m b c))
def xav {T:Type} (R:Nat->Int->Int->Int->LA->Option (LA)) (n:Nat) (a m b:Int) (c:LA) (δ:T) (κ:LA->T):T:=br (xan n a m b c) (br (xao n a m b c) (br ((R n (xaa a b) (xad n a m b c) b (xah n a m b c)).isSome) (κ ((R n (xaa a b) (xad n a m b c) b (xah n a m b c)).getD [])) δ) (κ (xah n a m b c))) (κ (xah n a m b c))
def xar {T:Type} (R:Nat->Int->Int->Int->LA->Option (LA)) (n:Nat) (a m b:Int) (c:LA) (δ:T) (κ:LA->T):T:=br (xaA n a m b c) (br (xaz n a m b c) (br ((R n a (xab n a m b c) (xaa a b) (xah n a m b c)).isSome) (br (xan n a m b c) (br (xao n a m b c) (br ((R n (xaa a b) (xad n a m b c) b ((R n a (xab n a m b c) (xaa a b) (xah n a m b c)).getD [])).isSome) (κ ((R n (xaa a b) (xad n a m b c) b ((R n a (xab n a m b c) (xaa a b) (xah n a m b c)).getD [])).getD [])) δ) (κ ((R n a (xab n a m b c) (xaa a b) (xah n a m b c)).getD []))) (κ ((R n a (xab n a m b c) (xaa a b) (xah n a m b c)).getD []))) δ) (xav R n a m b c δ κ)) (xav R n a m b c δ κ)
def xaw {T:Type} (R:Nat->Int->Int->Int->LA->Option (LA)) (n:Nat) (a m b:Int) (c:LA) (δ:T) (κ:LA->T):T:=br (xap n a m b c) (br (xaq n a m b c) (br ((R n (xaa a b) (xae n a m b c) b (xai n a m b c)).isSome) (κ ((R n (xaa a b) (xae n a m b c) b (xai n a m b c)).getD [])) δ) (κ (xai n a m b c))) (κ (xai n a m b c))
def xas {T:Type} (R:Nat->Int->Int->Int->LA->Option (LA)) (n:Nat) (a m b:Int) (c:LA) (δ:T) (κ:LA->T):T:=br (xaC n a m b c) (br (xaB n a m b c) (br ((R n a (xac n a m b c) (xaa a b) (xai n a m b c)).isSome) (br (xap n a m b c) (br (xaq n a m b c) (br ((R n (xaa a b) (xae n a m b c) b ((R n a (xac n a m b c) (xaa a b) (xai n a m b c)).getD [])).isSome) (κ ((R n (xaa a b) (xae n a m b c) b ((R n a (xac n a m b c) (xaa a b) (xai n a m b c)).getD [])).getD [])) δ) (κ ((R n a (xac n a m b c) (xaa a b) (xai n a m b c)).getD []))) (κ ((R n a (xac n a m b c) (xaa a b) (xai n a m b c)).getD []))) δ) (xaw R n a m b c δ κ)) (xaw R n a m b c δ κ)
def xaL {T:Type} (R:Nat->Int->Int->Int->LA->Option (LA)) (n:Nat) (a m b:Int) (c:LA) (δ:T) (κ:LA->T):T:=br (i64.wrap (m - a)==1) (br ((Iter (xbW n a) (m,b,c)).isSome) (br ((xaE n a m b c).isSome) (κ ((xaE n a m b c).getD [])) δ) δ) (br (i64.wrap (b - m)==1) (br ((Iter (xbX n m) (a,m,c)).isSome) (br ((xaF n a m c).isSome) (κ ((xaF n a m c).getD [])) δ) δ) (br (decide (m>xaa a b)) (br ((xaG n a m b c).isSome) (br (decide (xab n a m b c<m)) (br (decide (m<xad n a m b c)) (br ((xcu n (xab n a m b c) m (xad n a m b c) (xah n a m b c)).isSome) (br (xaA n a m b c) (br (xaz n a m b c) (br ((R n a (xab n a m b c) (xaa a b) (xaj n a m b c)).isSome) (br (xan n a m b c) (br (xao n a m b c) (br ((xaK R n a m b c).isSome) (κ ((xaK R n a m b c).getD [])) δ) (κ ((R n a (xab n a m b c) (xaa a b) (xaj n a m b c)).getD []))) (κ ((R n a (xab n a m b c) (xaa a b) (xaj n a m b c)).getD []))) δ) (xat R n a m b c δ κ)) (xat R n a m b c δ κ)) δ) (xar R n a m b c δ κ)) (xar R n a m b c δ κ)) δ) (br ((xaI n a m b c).isSome) (br (decide (xac n a m b c<m)) (br (decide (m<xae n a m b c)) (br ((xcu n (xac n a m b c) m (xae n a m b c) (xai n a m b c)).isSome) (br (xaC n a m b c) (br (xaB n a m b c) (br ((R n a (xac n a m b c) (xaa a b) (xak n a m b c)).isSome) (br (xap n a m b c) (br (xaq n a m b c) (br ((xaJ R n a m b c).isSome) (κ ((xaJ R n a m b c).getD [])) δ) (κ ((R n a (xac n a m b c) (xaa a b) (xak n a m b c)).getD []))) (κ ((R n a (xac n a m b c) (xaa a b) (xak n a m b c)).getD []))) δ) (xau R n a m b c δ κ)) (xau R n a m b c δ κ)) δ) (xas R n a m b c δ κ)) (xas R n a m b c δ κ)) δ)))
def xay (R:Nat->Int->Int->Int->LA->Option (LA)) (n:Nat) (a m b:Int) (c:LA):=xaL R n a m b c none some
theorem xyt (R:Nat->Int->Int->Int->LA->Option (LA)) (n:Nat) (a m b:Int) (xs:LA):Enc (fun (p:LA)=>(((AV.tuple [],([⟨0,2,159,p,false,true⟩]:List Box))):(AV×List Box))) (xay R n a m b xs) (XFM P0 (xa1 R) Tryz.f193 (Tryz.f193.body.getD .skip) [AV.osl (0:Id) 0 0 n,AV.int .i64 a,AV.int .i64 m,AV.int .i64 b,AV.func (139:FuncId) []] [{ ver:=0,sz:=2,ty:=(159:TypeId),xs:=xs,frz:=false,pm:=true }]):=by
 refine eV (xaL R n a m b xs none (fun (p:LA)=>some (((AV.tuple [],([⟨0,2,159,p,false,true⟩]:List Box))):(AV×List Box)))) (by kernel_rfl) ?_;unfold xay xaL xar xas xat xau xav xaw;repeat' first|exact eN|exact eS rfl|apply eB
def xys (R:Nat->Int->Int->Int->LA->Option (LA)):LA->List Box->Option (Bool×AV×List Box):=omOf (xTj (sEq (xTw 0 0 0)) (xTj (sEq (pInt .i64)) (xTj (sEq (pInt .i64)) (xTj (sEq (pInt .i64)) (xTj (sEq (xSY (139:FuncId) xTk)) xTl))))) (xTi (xTA 0 2 (159:TypeId) false true xTm) xTk) fun (n,(a,(m,(b,(_,_))))) (c,_)=>((xay R n a m b c).isSome,((AV.tuple [],([⟨0,2,159,((xay R n a m b c).getD []),false,true⟩]:List Box))))
theorem xyr (R:Nat->Int->Int->Int->LA->Option (LA)) (f:xf0 R):OmOk P0 xTh 193 (xys R):=xq3 fun g h k j i=>by
 obtain ⟨n,⟨a,⟨m,⟨b,⟨_,_⟩⟩⟩⟩⟩:=g;obtain ⟨l,_⟩:=h;obtain ⟨c,e⟩:=Prod.mk.inj i;refine xi9 (p:=(xa1 R).pin) (xkm xSK (xSL P0 _) rfl (xuY R f) rfl Tryz.func193 rfl (by kernel_rfl) (xr8 R) ((xyt R _ _ _ _ _ _ (xcf (d:=[]) c)).trans ?_))
 exact congrArg some e
def xaV:Nat->Nat->Int->Int->Int->LA->Option (LA)
 | 0=>fun _ _ _ _ _=>none
 | fu_+1=>fun n a m b c=>xay (xaV fu_) n a m b c
theorem xlN:∀ n,xf0 (xaV n)
 | 0=>xq3 fun _ _ _ _ h=>absurd (Prod.mk.inj h).1 Bool.false_ne_true
 | fu_+1=>fun a H r b h=>xyr (xaV fu_) (xlN fu_) a H r b h
def xN8:Env:=xyJ.E.withM 193 (xgd (xaV 1000))
theorem xMX:xSB P0 xTh xN8:=xyJ.ok.withM (xlN _)
def xA8:EO:=EO.mk xN8 xMX
def xnG {T:Type} (d:Nat) (n e a b:Int) (c:LA) (δ:T) (κl:(Int×Int×LA)->T) (κr:(Int×LA)->T):T:=br (decide (b<=n)) (br ((xbM d a b c).isSome) (κl (b,i64.wrap (b+e),(xbM d a b c).getD [])) δ) (κr (a,c))
def xcp (e:Nat) (n c:Int):StT (Int×Int×LA) (Int×LA):=fun (a,b,d)=>xnG e n c a b d none inL inR
def xer:=xA8.l 63 1 [159] [] Tryz.f168 0 lk0 [0,1,2,6,7,8] [0,1,2,6,7] [] (q6 (xTw 0 0 0) qI (xSY 139 xTk) qI qI qI) (q1 (qB 0 2 159 xTm)) (fun (d,n,_,c,a,b,_) (e,_)=>(xcp d n c,(a,b,e),fun p=>(.leaf (.exit 0) [AV.osl 0 0 0 d,AV.int .i64 n,AV.func 139 [],AV.int .i64 c,AV.int .i64 p.1] [bF 0 2 159 p.2]))) (0,[]) fun (d,n,_,c,_,_,_) _ (a,b,e)=>(((d,n,(),c,a,b,()),(e,())),xnG d n c a b e none)
def xnH {T:Type} (e:Nat) (n c a b:Int) (d:LA) (δ:T) (κl:(Int×Int×LA)->T) (κr:(Int×LA)->T):T:=br (decide (b<=n)) (br ((xaV 1000 e a (i64.wrap (a+c)) b d).isSome) (κl (b,i64.wrap (b+i64.wrap (2*c)),(xaV 1000 e a (i64.wrap (a+c)) b d).getD [])) δ) (κr (a,d))
def xdv (e:Nat) (n c:Int):StT (Int×Int×LA) (Int×LA):=fun (a,b,d)=>xnH e n c a b d none inL inR
def xez:=xA8.l 63 1 [159] [(2,xer.lp)] Tryz.f168 2 lk0 [0,1,2,6,7,8] [0,1,2,6,7] [] (q6 (xTw 0 0 0) qI (xSY 139 xTk) qI qI qI) (q1 (qB 0 2 159 xTm)) (fun (d,n,_,c,a,b,_) (e,_)=>(xdv d n c,(a,b,e),fun p=>(.leaf (.exit 4) [AV.osl 0 0 0 d,AV.int .i64 n,AV.func 139 [],AV.int .i64 c,AV.int .i64 p.1] [bF 0 2 159 p.2]))) (0,[]) fun (d,n,_,c,_,_,_) _ (a,b,e)=>(((d,n,(),c,a,b,()),(e,())),xnH d n c a b e none)
def xey (c:Nat) (n a:Int) (b:LA):=Iter (xdv c n a) (0,i64.wrap (2*a),b)
def xew (c:Nat) (n a:Int) (b:LA):=(xey c n a b).getD (0,[])
def xeu (c:Nat) (n a:Int) (b:LA):=(xew c n a b).snd
def xev (c:Nat) (n a:Int) (b:LA):=(xew c n a b).fst
def xet (c:Nat) (n a:Int) (b:LA):=i64.wrap (xev c n a b+a)
def xes (b:Nat) (n a:Int) (c:LA):=xaV 1000 b (xev b n a c) (xet b n a c) n (xeu b n a c)
def xcT {T:Type} (c:Nat) (n a:Int) (b:LA) (δ:T) (κl:(Int×LA)->T) (κr:(LA)->T):T:=br (decide (a<n)) (br ((xey c n a b).isSome) (br (decide (xet c n a b<n)) (br ((xes c n a b).isSome) (κl (i64.wrap (a*2),(xes c n a b).getD [])) δ) (κl (i64.wrap (a*2),xeu c n a b))) δ) (κr (b))
def xbh (c:Nat) (n:Int):StT (Int×LA) (LA):=fun (a,b)=>xcT c n a b none inL inR
def xnd:=xA8.l 63 1 [159] [(2,xer.lp),(9,xez.lp)] Tryz.f168 1 (lk1 xez.ok) [0,1,2,6] [] [] (q4 (xTw 0 0 0) qI (xSY 139 xTk) qI) (q1 (qB 0 2 159 xTm)) (fun (c,n,_,a,_) (b,_)=>(xbh c n,(a,b),fun p=>(.leaf (.exit 2) [] [bF 0 2 159 p]))) [] fun (c,n,_,_,_) _ (a,b)=>(((c,n,(),a,()),(b,())),xcT c n a b none)
def xiQ (n:Nat) (k:Int) (a:LA):=(Iter (xcp n k 20) (0,20,a)).getD (0,[])
def xiP (n:Nat) (k:Int) (a:LA):=xbM n (xiQ n k a).fst k (xiQ n k a).snd
def xiO (n:Nat) (k:Int) (a:LA):=Iter (xbh n k) (20,(xiP n k a).getD [])
def xjJ {T:Type} (n:Nat) (k:Int) (a:LA) (δ:T) (κ:LA->T):T:=br ((Iter (xcp n k 20) (0,20,a)).isSome) (br ((xiP n k a).isSome) (br ((xiO n k a).isSome) (κ ((xiO n k a).getD [])) δ) δ) δ
def xhb (n:Nat) (k:Int) (a:LA):=xjJ n k a none some
def xQY:EO:=xA8.fM Tryz.func168 63 1 [159] [(2,xer.lp),(9,xez.lp),(7,xnd.lp)] (lks (lkC xer.ok (lkC xnd.ok (lkC xez.ok lkN)))) (u3 (sEq (xTw 0 0 0)) uI (sEq (xSY (139:FuncId) xTk))) (q1 (qB 0 2 159 xTm)) (fun (n,k,_,_) (a,_) _=>xjJ n k a) (fun _ _ p=>(AV.tuple [],([bF 0 2 159 p]:List Box))) []
def xiG {T:Type} (n:Nat) (a:LA) (δ:T) (κ:LA->T):T:=br ((xhb n (↑n:Int) a).isSome) (κ ((xhb n (↑n:Int) a).getD [])) δ
def xkd (n:Nat) (a:LA):=xiG n a none some
def xN9:EO:=xQY.fM Tryz.func138 9 1 [159] [] lk0 (u2 (sEq (xTw 0 0 0)) (sEq (xSY (139:FuncId) xTk))) (q1 (qB 0 2 159 xTm)) (fun (n,_,_) (a,_) _=>xiG n a) (fun _ _ p=>(AV.tuple [],([bF 0 2 159 p]:List Box))) []
def xfT (b:LA) (c:Int) (a:LA):=a++[AV.agg [AV.list 3 (gC b c 0).toList,AV.list 2 []]]
def xci (a:Nat):Nat:=0+(↑a:Int).toNat
def xc0 (a:LA) (b:Int):=(xpQ (gC a b 0).toList).getD []
def xjX (d:LA) (f:Int) (b:Nat) (e:Int) (c a:LA):=decide (xci b<(xfT d e a).length)
def xjY (d:LA) (e:Int) (a:Nat) (f:Int) (b c:LA):=decide ((↑a:Int)<(↑(a+1):Int))
def xbu (c:LA) (b:Nat) (d:Int) (a:LA):=((xfT c d a).getD (xci b) .top).cells
def xik (a:LA) (b:Int):=decide ((xc0 a b).length<=4611686018427387904)
def xfU (b:LA) (c:Int) (a:LA):=(xST (AV.int .i64 0) a (xc0 b c)).toInt
def xjZ (c:LA) (b:Nat) (d:Int) (a:LA):=decide (0<=xfU c d a)&&decide (xfU c d a<(↑b:Int))
def xa7 (c:LA) (b:Nat) (d:Int) (a:LA):=((xbu c b d a).getD 1 .top).toList.length
def xaY (b:LA) (c:Int) (a:LA):Nat:=0+(xfU b c a).toNat
def xij (a:LA) (d:Nat) (b:Int) (c:LA):=((xbu a d b c).getD 1 .top).toList++[AV.agg [AV.int .i64 (gC a b 1).toInt,AV.int .i64 (gC a b 2).toInt]]
def xgl (c:LA) (b:Nat) (d:Int) (a:LA):=(xfT c d a).set (xci b) (AV.agg (List.take 1 (xbu c b d a)++[AV.int .i64 (↑(xa7 c b d a):Int)]++List.drop 2 (xbu c b d a)))
def xjx (c:LA) (d:Int) (a b:LA):=decide (xaY c d a<b.length)
def xa8 (c:LA) (d:Int) (a b:LA):=((b.getD (xaY c d a) .top).cells.getD 1 .top).toList.length
def xii (b:LA) (c:Int) (a d:LA):=((d.getD (xaY b c a) .top).cells.getD 1 .top).toList++[AV.agg [AV.int .i64 (gC b c 1).toInt,AV.int .i64 (gC b c 2).toInt]]
def xeO (c:LA) (a:Nat) (d:Int) (b:LA):=((xgl c a d b).getD (xci a) .top).cells
def xgm (c:LA) (d:Int) (a b:LA):=b.set (xaY c d a) (AV.agg (List.take 1 (b.getD (xaY c d a) .top).cells++[AV.int .i64 (↑(xa8 c d a b):Int)]++List.drop 2 (b.getD (xaY c d a) .top).cells))
def xeP (c:LA) (d:Int) (a b:LA):=((xgm c d a b).getD (xaY c d a) .top).cells
def xfg {T:Type} (d:LA) (f:Int) (e:Nat) (c:Int) (b a:LA) (δ:T) (κl:(Nat×Int×LA×LA)->T) (κr:(Nat×LA)->T):T:=br (decide (c<f)) (br (ixI d c) (br (ixT d c 3 [Sh.list 3,Sh.int .i64,Sh.int .i64] 0) (br (!xhk (gC d c 1).toInt (gC d c 2).toInt) (κl (e,i64.wrap (c+1),b,a)) (br ((xpQ (gC d c 0).toList).isSome) (br (xik d c&&xSz (Sh.int .i64) (xST (AV.int .i64 0) b (xc0 d c))) (br (!xS4 b (xc0 d c)) (br (decide (b.length<4611686018427387904)&&xik d c) (br (rmB e a 1 48) (br (xjY d f e c b a) (br (xjX d f e c b a&&(xTf 2 ((xbu d e c a).getD 1 .top)&&(xbu d e c a).length==2)) (br (xjX d f e c b a&&(xTf 2 ((xbu d e c a).getD 1 .top)&&((xbu d e c a).length==2&&(2*xa7 d e c a==2*xa7 d e c a&&(xa7 d e c a==xa7 d e c a&&(xa7 d e c a==xa7 d e c a&&(decide ((xa7 d e c a+1)*16<=140737488355328)&&decide (xa7 d e c a+1<=4611686018427387904)))))))) (br (xjY d f e c b a) (br (decide (xci e<(xgl d e c a).length)&&((xeO d e c a).length==2&&(xa7 d e c a+1==(xij d e c a).length&&xTF ((xeO d e c a).getD 1 .top) (xa7 d e c a+1)))) (κl (e+1,i64.wrap (c+1),xSR b (xc0 d c) (AV.int .i64 (↑e:Int)),(xgl d e c a).set (xci e) (AV.agg (List.take 1 (xeO d e c a)++[AV.list 2 (xij d e c a)]++List.drop 2 (xeO d e c a))))) δ) δ) δ) δ) δ) δ) δ) (br (xjZ d e c b) (br (xjx d c b a&&(xTf 2 ((a.getD (xaY d c b) .top).cells.getD 1 .top)&&(a.getD (xaY d c b) .top).cells.length==2)) (br (xjx d c b a&&(xTf 2 ((a.getD (xaY d c b) .top).cells.getD 1 .top)&&((a.getD (xaY d c b) .top).cells.length==2&&(2*xa8 d c b a==2*xa8 d c b a&&(xa8 d c b a==xa8 d c b a&&(xa8 d c b a==xa8 d c b a&&(decide ((xa8 d c b a+1)*16<=140737488355328)&&decide (xa8 d c b a+1<=4611686018427387904)))))))) (br (xjZ d e c b) (br (decide (xaY d c b<(xgm d c b a).length)&&((xeP d c b a).length==2&&(xa8 d c b a+1==(xii d c b a).length&&xTF ((xeP d c b a).getD 1 .top) (xa8 d c b a+1)))) (κl (e,i64.wrap (c+1),b,(xgm d c b a).set (xaY d c b) (AV.agg (List.take 1 (xeP d c b a)++[AV.list 2 (xii d c b a)]++List.drop 2 (xeP d c b a))))) δ) δ) δ) δ) δ)) δ) δ)) δ) δ) (κr (e,a))
def xb1 (d:LA) (e:Int):StT (Nat×Int×LA×LA) (Nat×LA):=fun (c,f,a,b)=>xfg d e c f a b none inL inR
def xvC:=xN9.l 60 0 [] [] Tryz.f111 0 lk0 [3,4,11,12,13] [4] [(4,2,150460170399)] (q5 (xTy 0 0 0 0) (xTw 1 0 0) (qL 3) qI qI) (q2 (qB 0 2 1208925819615114573119488 xTm) (qB 0 2 150460170399 xTm)) (fun (_,c,d,e,f,_) (a,b,_)=>(xb1 d e,(c,f,a,b),fun p=>(.leaf (.exit 0) [AV.osl 0 0 0 p.1] [bF 0 2 150460170399 p.2]))) (0,[]) fun (_,_,d,e,_,_) _ (c,f,a,b)=>((((),c,d,e,f,()),(a,b,())),xfg d e c f a b none)
def xsS (l:LA):=Iter (xb1 l (↑l.length:Int)) (0,0,[],[])
def xsR (l:LA):=(xsS l).getD (0,[])
def xnK (l:LA):=(xsR l).fst
def xsQ (l:LA):=(xsR l).snd
def xsP (l:LA):=xkd (xnK l) (xsQ l)
def xsO (l:LA):=(xsP l).getD []
def xt3 {T:Type} (l:LA) (δ:T) (κ:LA->T):T:=br ((xsS l).isSome) (br (xS5 2 1 (xsQ l)) (br ((xsP l).isSome) (br (decide (0+xnK l<=(xsO l).length)&&true) (κ (List.take (xnK l) (List.drop 0 (xsO l)))) δ) δ) δ) δ
def xn4 (l:LA):=xt3 l none some
def xOa:EO:=xN9.f Tryz.func111 60 0 [] [(4,xvC.lp)] (lk1 xvC.ok) (u1 (uL 3)) (fun (l,_) _=>xt3 l) (fun _ p=>AV.list 2 p) []
def xhy {T:Type} (d:LA) (e:Int) (c:Nat) (b:Int) (a:LA) (δ:T) (κl:(Nat×Int×LA)->T) (κr:(Nat×LA)->T):T:=br (decide (b<e)) (br (ixI d b) (br (ixT d b 2 [Sh.int .i64,Sh.int .i64] 0) (br (rmB c a 1 24) (κl (c+1,i64.wrap (b+1),a++[AV.agg [AV.int .i64 (gC d b 0).toInt,AV.int .i64 (gC d b 1).toInt,AV.int .i64 1]])) δ) δ) δ) (κr (c,a))
def xcG (c:LA) (d:Int):StT (Nat×Int×LA) (Nat×LA):=fun (b,e,a)=>xhy c d b e a none inL inR
def xr1:=xOa.l 20 0 [] [] Tryz.f76 0 lk0 [3,6,7,8] [3] [(3,3,89)] (q4 (xTw 0 0 0) (qL 2) qI qI) (q1 (qB 0 3 89 xTm)) (fun (b,c,d,e,_) (a,_)=>(xcG c d,(b,e,a),fun p=>(.leaf (.exit 0) [AV.osl 0 0 0 p.1] [bF 0 3 89 p.2]))) (0,[]) fun (_,c,d,_,_) _ (b,e,a)=>(((b,c,d,e,()),(a,())),xhy c d b e a none)
def xoF (l:LA):=(Iter (xcG l (↑l.length:Int)) (0,0,[])).getD (0,[])
def xoD (l:LA):=(xoF l).snd
def xoE (l:LA):=(xoF l).fst
def xoC (l:LA):=xBy (List.take (xoE l) (List.drop 0 (xoD l)))
def xpP {T:Type} (l:LA) (δ:T) (κ:LA->T):T:=br ((Iter (xcG l (↑l.length:Int)) (0,0,[])).isSome) (br (decide (0+xoE l<=(xoD l).length)&&true) (br ((xoC l).isSome) (κ ((xoC l).getD [])) δ) δ) δ
def xgD (l:LA):=xpP l none some
def xyW:EO:=xOa.f Tryz.func76 20 0 [] [(3,xr1.lp)] (lk1 xr1.ok) (u1 (uL 2)) (fun (l,_) _=>xpP l) (fun _ p=>AV.list 2 p) []
def xo4 {T:Type} (o n:Int) (e f:Nat) (k p m j:Int) (h l i g a:Nat) (b:LA) (d:Nat) (c:LA) (δ:T) (κl:(Int×Int×Nat×Nat×Nat×Nat×Nat×LA×Nat×LA)->T) (κr:(Int×Nat×Nat×Nat×Nat×LA×Nat×LA×Nat)->T):T:=br (decide (m<p)) (br (a==e) (br (a==e) (br (a==e&&(decide (f<b.length)&&xSz (Sh.int .i64) ((b.getD f .top).cells.getD 0 .top))) (br (d==g&&(rmB i c 1 16)) (κl (i64.wrap (m+1),j,h,l,i+1,g+1,a,List.take h b,g+1,c++[AV.agg [AV.int .i64 ((b.getD f .top).cells.getD 0 .top).toInt,AV.int .i64 o]])) δ) δ) δ) δ) (κr (j,l,h,g,i,b,a,c,d))
def xdV (m n:Int) (e f:Nat) (k o:Int):StT (Int×Int×Nat×Nat×Nat×Nat×Nat×LA×Nat×LA) (Int×Nat×Nat×Nat×Nat×LA×Nat×LA×Nat):=fun (p,g,h,i,j,l,a,b,c,d)=>xo4 m n e f k o p g h i j l a b c d none inL inR
def xnO:=xyW.l 71 5 [] [] Tryz.f112 1 lk0 [0,1,2,3,4,7,8,37,38] [0,1,2,3,4,7,8] [(3,0,0)] (q9 qI qI (xTy 0 0 0 0) (xTy 1 0 0 0) (xTy 2 0 0 0) (pOwnV 3 0) qI qI qI) (q5 (qB 0 1 3 (q1 qI)) (xTA 0 1 160 false false (q1 (pOslV 3 0))) (xTA 0 1 108 false false (q1 (pOslV 4 0))) (pBoxV 2 162 false true xTm) (pBoxV 2 35 false true xTm)) (fun (o,n,_,_,_,(e,f),k,q,r,_) ((g,_),((h,i),_),((j,m),_),(a,b),(c,d),_)=>(xdV o n e f k q,(r,g,i,h,m,j,a,b,c,d),fun p=>(.leaf (.exit 2) [AV.int .i64 o,AV.int .i64 n,AV.own 0 0 0 0,AV.own 1 0 0 0,AV.own 2 0 0 0,AV.own 3 e f 0,AV.int .i64 k] [bF 0 1 3 [AV.int .i64 p.1],⟨0,1,160,[AV.osl 3 p.2.1 0 p.2.2.1],false,false⟩,⟨0,1,108,[AV.osl 4 p.2.2.2.1 0 p.2.2.2.2.1],false,false⟩,bF p.2.2.2.2.2.2.1 2 162 p.2.2.2.2.2.1,bF p.2.2.2.2.2.2.2.2 2 35 p.2.2.2.2.2.2.2.1]))) (0,0,0,0,0,[],0,[],0) fun (o,n,_,_,_,(e,f),k,q,_,_) _ (r,g,i,h,m,j,a,b,c,d)=>(((o,n,(),(),(),(e,f),k,q,r,()),((g,()),((h,i),()),((j,m),()),(a,b),(c,d),())),xo4 o n e f k q r g i h m j a b c d none)
def xbl (a:Nat):Nat:=0+(i64.wrap ((↑a:Int) - 1)).toNat
def xeH (n b:Int) (c d:Nat) (a:LA):Int:=if i64.wrap (b - n)<((a.getD (xbl c) .top).cells.getD 1 .top).toInt then i64.wrap (b - n) else ((a.getD (xbl c) .top).cells.getD 1 .top).toInt
def xlZ (j n d:Int) (c g h i a:Nat) (b:LA) (e:Nat) (f:LA):=Iter (xdV j n g (xbl c) (xeH n d c a b) (xeH n d c a b)) (0,d,c,g,h,i,a,List.take c b,e,f)
def xh7 (j n e:Int) (f g h i a:Nat) (b:LA) (c:Nat) (d:LA):=(xlZ j n e f g h i a b c d).getD (0,0,0,0,0,[],0,[],0)
def xlY (j n e:Int) (f g h i a:Nat) (b:LA) (c:Nat) (d:LA):=(xh7 j n e f g h i a b c d).snd
def xgI (j n e:Int) (f g h i a:Nat) (b:LA) (c:Nat) (d:LA):=(xlY j n e f g h i a b c d).fst
def xlX (j n e:Int) (f g h i a:Nat) (b:LA) (c:Nat) (d:LA):=(xlY j n e f g h i a b c d).snd
def xgH (j n e:Int) (f g h i a:Nat) (b:LA) (c:Nat) (d:LA):=(xlX j n e f g h i a b c d).fst
def xh6 (j n e:Int) (f g h i a:Nat) (b:LA) (c:Nat) (d:LA):=(xlX j n e f g h i a b c d).snd
def xgG (j n e:Int) (f g h i a:Nat) (b:LA) (c:Nat) (d:LA):=i64.wrap ((↑(xgH j n e f g h i a b c d):Int) - 1)
def xh5 (j n e:Int) (f g h i a:Nat) (b:LA) (c:Nat) (d:LA):=(xh6 j n e f g h i a b c d).snd
def xlW (j n e:Int) (f g h i a:Nat) (b:LA) (c:Nat) (d:LA):=(xh5 j n e f g h i a b c d).snd
def xjm (j n e:Int) (f g h i a:Nat) (b:LA) (c:Nat) (d:LA):=(xlW j n e f g h i a b c d).fst
def xnN (j n e:Int) (f g h i a:Nat) (b:LA) (c:Nat) (d:LA):=(xlW j n e f g h i a b c d).snd
def xdU (j n f:Int) (g e h i a:Nat) (b:LA) (c:Nat) (d:LA):=(xnN j n f g e h i a b c d).fst==e
def xnM (j n f:Int) (e g h i a:Nat) (b:LA) (c:Nat) (d:LA):=decide (xbl e<(xjm j n f e g h i a b c d).length)
def xgF (j n f:Int) (e g h i a:Nat) (b:LA) (c:Nat) (d:LA):=((xjm j n f e g h i a b c d).getD (xbl e) .top).cells
def xgJ (j n e:Int) (f g h i a:Nat) (b:LA) (c:Nat) (d:LA):=(xnN j n e f g h i a b c d).snd
def xe5 (j n f:Int) (e g h i a:Nat) (b:LA) (c:Nat) (d:LA):=(xjm j n f e g h i a b c d).set (xbl e) (AV.agg (List.take 1 (xgF j n f e g h i a b c d)++[AV.int .i64 (i64.wrap (((xgF j n f e g h i a b c d).getD 1 .top).toInt - xeH n f e a b))]++List.drop 2 (xgF j n f e g h i a b c d)))
def xhz {T:Type} (j n g:Int) (f e h i a:Nat) (b:LA) (c:Nat) (d:LA) (δ:T) (κl:(Int×Nat×Nat×Nat×Nat×Nat×LA×Nat×LA)->T) (κr:(Int×Nat×Nat×Nat×Nat×LA×Nat×LA×Nat)->T):T:=br (decide (g>n)) (br (a==e) (br (a==e&&(decide (0<=i64.wrap ((↑f:Int) - 1))&&decide (i64.wrap ((↑f:Int) - 1)<(↑f:Int)))) (br (a==e) (br (a==e) (br (a==e&&(decide (xbl f<b.length)&&xSz (Sh.int .i64) ((b.getD (xbl f) .top).cells.getD 1 .top))) (br ((xlZ j n g f e h i a b c d).isSome) (br (xdU j n g f e h i a b c d) (br (xdU j n g f e h i a b c d) (br (xdU j n g f e h i a b c d&&(xnM j n g f e h i a b c d&&xSz (Sh.int .i64) ((xgF j n g f e h i a b c d).getD 1 .top))) (br (xdU j n g f e h i a b c d) (br (xdU j n g f e h i a b c d) (br (xdU j n g f e h i a b c d&&xnM j n g f e h i a b c d) (br (e==e) (br (e==e) (br (e==e&&(decide (xbl f<(xe5 j n g f e h i a b c d).length)&&xSz (Sh.int .i64) (((xe5 j n g f e h i a b c d).getD (xbl f) .top).cells.getD 1 .top))) (br ((((xe5 j n g f e h i a b c d).getD (xbl f) .top).cells.getD 1 .top).toInt==0) (br (e==xgI j n g f e h i a b c d) (br (e==xgI j n g f e h i a b c d&&(decide (0<=xgG j n g f e h i a b c d)&&decide (xgG j n g f e h i a b c d<=(↑(xgH j n g f e h i a b c d):Int))&&true)) (κl (i64.wrap ((xh7 j n g f e h i a b c d).fst - xeH n g f a b),(xgG j n g f e h i a b c d).toNat - 0,xgI j n g f e h i a b c d,(xh5 j n g f e h i a b c d).fst,(xh6 j n g f e h i a b c d).fst,e,List.take ((xgG j n g f e h i a b c d).toNat - 0) (xe5 j n g f e h i a b c d),(xgJ j n g f e h i a b c d).snd,(xgJ j n g f e h i a b c d).fst)) δ) δ) (κl (i64.wrap ((xh7 j n g f e h i a b c d).fst - xeH n g f a b),xgH j n g f e h i a b c d,xgI j n g f e h i a b c d,(xh5 j n g f e h i a b c d).fst,(xh6 j n g f e h i a b c d).fst,e,List.take (xgH j n g f e h i a b c d) (xe5 j n g f e h i a b c d),(xgJ j n g f e h i a b c d).snd,(xgJ j n g f e h i a b c d).fst))) δ) δ) δ) δ) δ) δ) δ) δ) δ) δ) δ) δ) δ) δ) δ) (κr (g,e,f,i,h,b,a,d,c))
def xcR (j n:Int):StT (Int×Nat×Nat×Nat×Nat×Nat×LA×Nat×LA) (Int×Nat×Nat×Nat×Nat×LA×Nat×LA×Nat):=fun (e,f,g,h,i,a,b,c,d)=>xhz j n e f g h i a b c d none inL inR
def xzh:=xyW.l 71 5 [] [(7,xnO.lp)] Tryz.f112 0 (lk1 xnO.ok) [0,1,2,3,4] [] [(3,0,0)] (q5 qI qI (xTy 0 0 0 0) (xTy 1 0 0 0) (xTy 2 0 0 0)) (q5 (qB 0 1 3 (q1 qI)) (xTA 0 1 160 false false (q1 (pOslV 3 0))) (xTA 0 1 108 false false (q1 (pOslV 4 0))) (pBoxV 2 162 false true xTm) (pBoxV 2 35 false true xTm)) (fun (j,n,_,_,_,_) ((e,_),((f,g),_),((h,i),_),(a,b),(c,d),_)=>(xcR j n,(e,g,f,i,h,a,b,c,d),fun p=>(.leaf (.exit 0) [] [bF 0 1 3 [AV.int .i64 p.1],⟨0,1,160,[AV.osl 3 p.2.1 0 p.2.2.1],false,false⟩,⟨0,1,108,[AV.osl 4 p.2.2.2.1 0 p.2.2.2.2.1],false,false⟩,bF p.2.2.2.2.2.2.1 2 162 p.2.2.2.2.2.1,bF p.2.2.2.2.2.2.2.2 2 35 p.2.2.2.2.2.2.2.1]))) (0,0,0,0,0,[],0,[],0) fun (j,n,_,_,_,_) _ (e,g,f,i,h,a,b,c,d)=>(((j,n,(),(),(),()),((e,()),((f,g),()),((h,i),()),(a,b),(c,d),())),xhz j n e g f i h a b c d none)
def xn5:Env:=xyW.E.fn 71 5 (lsOf []) (xSX [(7,xnO.lp),(3,xzh.lp)])
theorem xDD:xSB P0 (xTh.at 5) xn5:=xyW.ok.fn
theorem xBT:LoOk P0 (xTh.at xn5.pin) xn5 (Tryz.f112.body.getD .skip):=xgK (ls:=[xSF Tryz.f112 0,xSF Tryz.f112 1]) (by kernel_rfl) (lkC xzh.ok (lkC xnO.ok lkN))
def xq1 (a n h:Int) (b c:Nat) (d e:LA):=Iter (xcR a n) (n,b+1,1,c,0,1,List.take (b+1) (d++[AV.agg [AV.int .i64 a,AV.int .i64 (i64.wrap (n - h))]]),0,e)
def xq2 (a n h:Int) (b c:Nat) (d e:LA):=Iter (xcR a n) (h,b,0,c,0,0,List.take b d,0,e)
def xqX (a n h:Int) (b c:Nat) (d e:LA):=(xq1 a n h b c d e).getD (0,0,0,0,0,[],0,[],0)
def xq0 (a n h:Int) (b c:Nat) (d e:LA):=(xq2 a n h b c d e).getD (0,0,0,0,0,[],0,[],0)
def xsq (a n h:Int) (b c:Nat) (d e:LA):=(xqX a n h b c d e).snd
def xqx (a n h:Int) (b c:Nat) (d e:LA):=(xq0 a n h b c d e).snd
def xsn (a n h:Int) (b c:Nat) (d e:LA):=(xsq a n h b c d e).snd
def xqZ (a n h:Int) (b c:Nat) (d e:LA):=(xqx a n h b c d e).snd
def xsm (a n h:Int) (b c:Nat) (d e:LA):=(xsn a n h b c d e).snd
def xqY (a n h:Int) (b c:Nat) (d e:LA):=(xqZ a n h b c d e).snd
def xsl (a n h:Int) (b c:Nat) (d e:LA):=(xsm a n h b c d e).snd
def xqW (a n h:Int) (b c:Nat) (d e:LA):=(xqY a n h b c d e).snd
def xsk (a n h:Int) (b c:Nat) (d e:LA):=(xsl a n h b c d e).snd
def xsr (a n h:Int) (b c:Nat) (d e:LA):=(xqW a n h b c d e).snd
def xsj (a n h:Int) (b c:Nat) (d e:LA):=(xsk a n h b c d e).snd
def xsp (a n h:Int) (b c:Nat) (d e:LA):=(xsr a n h b c d e).snd
def xsi (a n h:Int) (b c:Nat) (d e:LA):=(xsj a n h b c d e).snd
def xso (a n h:Int) (b c:Nat) (d e:LA):=(xsp a n h b c d e).snd
def xp2 {T:Type} (a n h:Int) (b d:Nat) (c e:LA) (δ:T) (κ:Int×Nat×Nat×Nat×Nat×LA×Nat×LA×Nat->T):T:=br (decide (n>h)) (br (rmB b c 1 16) (br ((xq1 a n h b d c e).isSome) (κ ((xqX a n h b d c e).fst,(xsq a n h b d c e).fst,(xsn a n h b d c e).fst,(xsm a n h b d c e).fst,(xsl a n h b d c e).fst,(xsk a n h b d c e).fst,(xsj a n h b d c e).fst,(xsi a n h b d c e).fst,(xsi a n h b d c e).snd)) δ) δ) (br ((xq2 a n h b d c e).isSome) (κ ((xq0 a n h b d c e).fst,(xqx a n h b d c e).fst,(xqZ a n h b d c e).fst,(xqY a n h b d c e).fst,(xqW a n h b d c e).fst,(xsr a n h b d c e).fst,(xsp a n h b d c e).fst,(xso a n h b d c e).fst,(xso a n h b d c e).snd)) δ)
def xqV (a n h:Int) (b c:Nat) (d e:LA):=xp2 a n h b c d e none some
theorem xHo (a n h:Int) (b c:Nat) (d e:LA):Enc (fun (p:Int×Nat×Nat×Nat×Nat×LA×Nat×LA×Nat)=>(((AV.tuple [],([⟨0,1,3,[AV.int .i64 p.1],false,true⟩,⟨0,1,160,[AV.osl 3 p.2.1 0 p.2.2.1],false,false⟩,⟨0,1,108,[AV.osl 4 p.2.2.2.1 0 p.2.2.2.2.1],false,false⟩,⟨p.2.2.2.2.2.2.1,2,162,p.2.2.2.2.2.1,false,true⟩,⟨p.2.2.2.2.2.2.2.2,2,35,p.2.2.2.2.2.2.2.1,false,true⟩]:List Box))):(AV×List Box))) (xqV a n h b c d e) (XFM P0 xn5 Tryz.f112 (Tryz.f112.body.getD .skip) [AV.int .i64 a,AV.int .i64 n,AV.own (0:Id) 0 0 0,AV.own (1:Id) 0 0 0,AV.own (2:Id) 0 0 0] [{ ver:=0,sz:=1,ty:=(3:TypeId),xs:=[AV.int .i64 h],frz:=false,pm:=true },{ ver:=0,sz:=1,ty:=(160:TypeId),xs:=[AV.osl (3:Id) 0 0 b],frz:=false,pm:=false },{ ver:=0,sz:=1,ty:=(108:TypeId),xs:=[AV.osl (4:Id) 0 0 c],frz:=false,pm:=false },{ ver:=0,sz:=2,ty:=(162:TypeId),xs:=d,frz:=false,pm:=true },{ ver:=0,sz:=2,ty:=(35:TypeId),xs:=e,frz:=false,pm:=true }]):=by
 refine eV (xp2 a n h b c d e none (fun (p:Int×Nat×Nat×Nat×Nat×LA×Nat×LA×Nat)=>some (((AV.tuple [],([⟨0,1,3,[AV.int .i64 p.1],false,true⟩,⟨0,1,160,[AV.osl 3 p.2.1 0 p.2.2.1],false,false⟩,⟨0,1,108,[AV.osl 4 p.2.2.2.1 0 p.2.2.2.2.1],false,false⟩,⟨p.2.2.2.2.2.2.1,2,162,p.2.2.2.2.2.1,false,true⟩,⟨p.2.2.2.2.2.2.2.2,2,35,p.2.2.2.2.2.2.2.1,false,true⟩]:List Box))):(AV×List Box)))) (by kernel_rfl) ?_;unfold xqV xp2;repeat' first|exact eN|exact eS rfl|apply eB
end Go.Sim.M
end
noncomputable section
set_option maxRecDepth 100000
namespace Go.Sim
open Go.RowKit
theorem GoodM.aged {P:Program} {Inv:IV} {f:FuncId} {aa:List AV} {H:List Box} {x0:AV} {v3 v4 k3 k4 t0 t1 t2 t3 t4 s3 s4:Nat} {Y Z:List AV} (aw:H.length=5) (an:∀ bx,H[3]?=some bx->bx.ver=0) (aq:∀ bx,H[4]?=some bx->bx.ver=0)
  (p0:isC t0=false) (p1:isC t1=false) (p2:isC t2=false) (p3:isC t3=false) (p4:isC t4=false)
  (h:GoodM P Inv f aa H (.tuple []) [⟨0,1,t0,[x0],false,true⟩,⟨0,1,t1,[.osl (.b 3) v3 0 k3],false,false⟩,⟨0,1,t2,[.osl (.b 4) v4 0 k4],false,false⟩,⟨v3,s3,t3,Y,false,true⟩,⟨v4,s4,t4,Z,false,true⟩]) :
  GoodM P Inv f aa H (.tuple []) [⟨0,1,t0,[x0],false,true⟩,⟨0,1,t1,[.osl (.b 3) 1 0 k3],false,false⟩,⟨0,1,t2,[.osl (.b 4) 1 0 k4],false,false⟩,⟨1,s3,t3,Y,false,true⟩,⟨1,s4,t4,Z,false,true⟩]:=by
 refine ⟨h.1,fun w0 w A M vs hI hB hR au=>(h.2 w0 w A M vs hI hB hR au).mono ?_⟩
 rintro e w' ⟨u,A',M',rfl,h1,h2,h3,h4,h5⟩;let M'':Id->Option MB:=fun id=>if id=.b 3\/id=.b 4 then (M' id).map fun m=>⟨m.b,1,m.sz,m.cap,m.ty⟩ else M' id
 have e3:∀ m,M' (.b 3)=some m->M'' (.b 3)=some ⟨m.b,1,m.sz,m.cap,m.ty⟩:=fun m hm=>by simp [M'',hm]
 have e4:∀ m,M' (.b 4)=some m->M'' (.b 4)=some ⟨m.b,1,m.sz,m.cap,m.ty⟩:=fun m hm=>by
  show (if (Id.b 4=.b 3\/Id.b 4=.b 4) then _ else _)=_
  rw [if_pos (.inr rfl),hm];rfl
 have eo:∀ id,id≠.b 3->id≠.b 4->M'' id=M' id:=fun id g1 g2=>by
  show (if _ then _ else _)=_
  rw [if_neg (fun e=>e.elim g1 g2)]
 have V:∀ id m1,M'' id=some m1->∃ m0,M' id=some m0/\m1.b=m0.b/\m1.cap=m0.cap/\m1.sz=m0.sz/\m1.ty=m0.ty:=fun id m1 J=>by
  by_cases g3:id=.b 3
  . subst g3;cases hm:M' (.b 3) with
    | none=>simp [M'',hm] at J
    | some m=>rw [e3 m hm] at J;simp only [z6] at J;subst J;exact ⟨m,rfl,rfl,rfl,rfl,rfl⟩
  . by_cases g4:id=.b 4
    . subst g4;cases hm:M' (.b 4) with
      | none =>
       have:M'' (.b 4)=none:=by
        show (if (Id.b 4=.b 3\/Id.b 4=.b 4) then _ else _)=_
        rw [if_pos (.inr rfl),hm];rfl
       rw [this] at J;cases J
      | some m=>rw [e4 m hm] at J;simp only [z6] at J;subst J;exact ⟨m,rfl,rfl,rfl,rfl,rfl⟩
    . rw [eo id g3 g4] at J;exact ⟨m1,J,rfl,rfl,rfl,rfl⟩
 have ah:∀ (n v k:Nat) (c:Value) (m:MB),M' (.b n)=some m->M'' (.b n)=some ⟨m.b,1,m.sz,m.cap,m.ty⟩->v=m.ver->Rel w' A' M' c (.osl (.b n) v 0 k)->Rel w' A' M'' c (.osl (.b n) 1 0 k):=fun n v k c m hm af hv hr=>by
  obtain ⟨m0,g1,g2,g3,g4⟩:=Rel.osl_inv hr;rw [hm] at g1;simp only [z6] at g1;subst g1;exact .osl c (.b n) 1 0 k _ af (zd _) g3 fun _=>g4 hv
 have Q:∀ (n:Nat) (bx:Box) (m:MB),[⟨0,1,t0,[x0],false,true⟩,⟨0,1,t1,[.osl (.b 3) v3 0 k3],false,false⟩,⟨0,1,t2,[.osl (.b 4) v4 0 k4],false,false⟩,⟨v3,s3,t3,Y,false,true⟩,⟨v4,s4,t4,Z,false,true⟩][n]?=some bx->M' (.b n)=some m->BoxAt w' A' M' w0.heap.size (.b n) m bx:=fun n bx m hn hm=>by
  obtain ⟨bx',g1,g2⟩:=h4.box _ m hm;rw [xb6,hn] at g1;simp only [z6] at g1;subst g1;exact g2
 have U:∀ (id:Id) (bx:Box) (m:MB) (v:Nat),isC bx.ty=false->bx.pm=true->BoxAt w' A' M' w0.heap.size id m bx->BoxAt w' A' M'' w0.heap.size id ⟨m.b,v,m.sz,m.cap,m.ty⟩ ⟨v,bx.sz,bx.ty,bx.xs,bx.frz,bx.pm⟩:=fun id bx m v O hp g=>by
  have W:xSD m.ty=false:=g.nomap (xba O);refine ⟨rfl,g.sz,g.ty,g.capm,g.fits,g.ok,g.low,g.lt,fun h0=>?_,g.guard⟩
  obtain ⟨c,c1,c2,c3⟩:=g.cells h0;refine ⟨c,.of W (c1.plain W),c2,fun i j hi hj=>?_⟩
  have:=c3 i j hi hj;rw [xaR O,xa6 O,hp] at this;rw [xaR O,xa6 (bx:=⟨v,bx.sz,bx.ty,bx.xs,bx.frz,bx.pm⟩) O];show Rel w' A' (MP M'' bx.pm) _ _;rw [hp];exact this
 have ab:∀ (n n2 v k t:Nat) (m m2:MB),isC t=false->n≠3->n≠4->BoxAt w' A' M' w0.heap.size (.b n) m ⟨0,1,t,[.osl (.b n2) v 0 k],false,false⟩->M' (.b n2)=some m2->M'' (.b n2)=some ⟨m2.b,1,m2.sz,m2.cap,m2.ty⟩->v=m2.ver ->
   BoxAt w' A' M'' w0.heap.size (.b n) m ⟨0,1,t,[.osl (.b n2) 1 0 k],false,false⟩:=fun n n2 v k t m m2 O _ _ g ap ac hv=>by
  have W:xSD m.ty=false:=g.nomap (xba O);have hsz:m.sz=1:=g.sz.symm;refine ⟨g.ver,g.sz,g.ty,g.capm,g.fits,fun y hy=>?_,g.low,g.lt,fun h0=>?_,g.guard⟩
  . simp only [zv] at hy;subst hy;rw [hsz];rfl
  . obtain ⟨c,c1,c2,c3⟩:=g.cells h0;refine ⟨c,.of W (c1.plain W),c2,fun i j hi hj=>?_⟩
    have ar:i=0:=by simpa using hi
    have ai:j=0:=by omega
    subst ar ai;have:=c3 0 0 (by simp) hj
    rw [xaR O,xa6 O] at this;rw [xaR O,xa6 (bx:=⟨0,1,t,[.osl (.b n2) 1 0 k],false,false⟩) O];exact ah n2 v k _ m2 ap ac hv this
 have am:∀ m,M (.b 3)=some m->m.ver=0:=fun m hm=>by
  obtain ⟨bx,g1,g2⟩:=hR.box _ m hm;rw [<-g2.ver];exact an bx g1
 have ao:∀ m,M (.b 4)=some m->m.ver=0:=fun m hm=>by
  obtain ⟨bx,g1,g2⟩:=hR.box _ m hm;rw [<-g2.ver];exact aq bx g1
 have ad:∀ m,M' (.b 3)=some m->v3=m.ver:=fun m hm=>(Q 3 _ m rfl hm).ver
 have ae:∀ m,M' (.b 4)=some m->v4=m.ver:=fun m hm=>(Q 4 _ m rfl hm).ver
 have ag:∀ n i j m,M' (.r n i j)=some m->BoxAt w' A' M' w0.heap.size (.r n i j) m tombB/\n<5:=fun n i j m hm=>by
  obtain ⟨bx,g1,g2⟩:=h4.box _ m hm;obtain ⟨b0,q1,_⟩:=xr2 g1;have hn:n<5:=by
   have:=xcQ q1;simpa using this
  have hp:isC b0.ty=false:=by
   match n,hn with
   | 0,_=>simp only [zY,z6] at q1;subst q1;exact p0
   | 1,_=>simp only [zY,zZ,z6] at q1;subst q1;exact p1
   | 2,_=>simp only [zY,zZ,z6] at q1;subst q1;exact p2
   | 3,_=>simp only [zY,zZ,z6] at q1;subst q1;exact p3
   | 4,_=>simp only [zY,zZ,z6] at q1;subst q1;exact p4
  rw [xbz q1 hp] at g1;simp only [z6] at g1;subst g1;exact ⟨g2,hn⟩
 have hR':HR w' A' M'' w0.heap.size [⟨0,1,t0,[x0],false,true⟩,⟨0,1,t1,[.osl (.b 3) 1 0 k3],false,false⟩,⟨0,1,t2,[.osl (.b 4) 1 0 k4],false,false⟩,⟨1,s3,t3,Y,false,true⟩,⟨1,s4,t4,Z,false,true⟩]:=by
  refine ⟨fun id m1 J=>?_,fun id id' m1 m2 k1 k2 c1 c2 he=>?_,h4.lt⟩
  . obtain ⟨m0,g1,g2,g3,g4,g5⟩:=V id m1 J;cases id with
    | r n i j =>
     rw [eo (.r n i j) (fun e=>by cases e) (fun e=>by cases e),g1] at J
     simp only [z6] at J;subst J;obtain ⟨q1,q2⟩:=ag n i j _ g1;refine ⟨tombB,?_,?_⟩
     . match n,q2 with
       | 0,_=>exact xbz rfl p0
       | 1,_=>exact xbz rfl p1
       | 2,_=>exact xbz rfl p2
       | 3,_=>exact xbz rfl p3
       | 4,_=>exact xbz rfl p4
     . have hv:tombB.ver=m0.ver:=q1.ver;have:=U (.r n i j) tombB m0 m0.ver rfl rfl q1;exact ⟨q1.ver,this.sz,this.ty,this.capm,this.fits,this.ok,this.low,this.lt,this.cells,this.guard⟩
    | b n =>
     have hn:n<5:=by
      obtain ⟨bx,q1,_⟩:=h4.box _ m0 g1;have:=xcQ q1;simpa using this
     match n,hn with
     | 0,_ =>
      rw [eo (.b 0) (fun e=>by cases e) (fun e=>by cases e),g1] at J
      simp only [z6] at J;subst J;have q:=Q 0 _ m0 rfl g1;have:=U (.b 0) _ m0 m0.ver p0 rfl q;exact ⟨⟨0,1,t0,[x0],false,true⟩,rfl,q.ver,this.sz,this.ty,this.capm,this.fits,this.ok,this.low,this.lt,this.cells,this.guard⟩
     | 1,_ =>
      rw [eo (.b 1) (fun e=>by cases e) (fun e=>by cases e),g1] at J
      simp only [z6] at J;subst J;have q:=Q 1 _ m0 rfl g1;have hc:0<m0.cap:=Nat.lt_of_lt_of_le Nat.zero_lt_one q.fits;obtain ⟨c,c1,c2,c3⟩:=q.cells hc;have hr:=c3 0 0 (by simp) (by rw [<-q.sz];exact Nat.zero_lt_one)
      rw [xaR p1,xa6 (bx:=⟨0,1,t1,[.osl (.b 3) v3 0 k3],false,false⟩) p1] at hr;have hr:Rel w' A' M' _ (.osl (.b 3) v3 0 k3):=hr;obtain ⟨m3,a1,_⟩:=Rel.osl_inv hr;exact ⟨_,rfl,ab 1 3 v3 k3 t1 m0 m3 p1 (by decide) (by decide) q a1 (e3 m3 a1) (ad m3 a1)⟩
     | 2,_ =>
      rw [eo (.b 2) (fun e=>by cases e) (fun e=>by cases e),g1] at J
      simp only [z6] at J;subst J;have q:=Q 2 _ m0 rfl g1;have hc:0<m0.cap:=Nat.lt_of_lt_of_le Nat.zero_lt_one q.fits;obtain ⟨c,c1,c2,c3⟩:=q.cells hc;have hr:=c3 0 0 (by simp) (by rw [<-q.sz];exact Nat.zero_lt_one)
      rw [xaR p2,xa6 (bx:=⟨0,1,t2,[.osl (.b 4) v4 0 k4],false,false⟩) p2] at hr;have hr:Rel w' A' M' _ (.osl (.b 4) v4 0 k4):=hr;obtain ⟨m4,a1,_⟩:=Rel.osl_inv hr;exact ⟨_,rfl,ab 2 4 v4 k4 t2 m0 m4 p2 (by decide) (by decide) q a1 (e4 m4 a1) (ae m4 a1)⟩
     | 3,_ =>
      rw [e3 m0 g1] at J;simp only [z6] at J;subst J;exact ⟨_,rfl,U (.b 3) _ m0 1 p3 rfl (Q 3 _ m0 rfl g1)⟩
     | 4,_ =>
      rw [e4 m0 g1] at J;simp only [z6] at J;subst J;exact ⟨_,rfl,U (.b 4) _ m0 1 p4 rfl (Q 4 _ m0 rfl g1)⟩
  . obtain ⟨n1,a1,a2,a3,_⟩:=V id m1 k1;obtain ⟨n2,b1,b2,b3,_⟩:=V id' m2 k2;exact h4.inj id id' n1 n2 a1 b1 (by omega) (by omega) (by rw [<-a2,<-b2,he])
 refine ⟨u,A',M'',rfl,h1,h2,⟨h3.size,h3.keep,h3.less,h3.more,fun id m aj hm=>?_,fun id m1 J h0=>?_⟩,hR',?_⟩
 . obtain ⟨m',g1,g2⟩:=h3.ids id m aj hm;by_cases q3:id=.b 3
   . subst q3;exact ⟨_,e3 m' g1,.inr (by have:m.ver=0:=am m hm;show m.ver<1;omega)⟩
   . by_cases q4:id=.b 4
     . subst q4;exact ⟨_,e4 m' g1,.inr (by have:m.ver=0:=ao m hm;show m.ver<1;omega)⟩
     . exact ⟨m',by rw [eo id q3 q4];exact g1,g2⟩
 . obtain ⟨m0,g1,g2,g3,_⟩:=V id m1 J;rw [g2];exact h3.src id m0 g1 (by omega)
 . obtain ⟨al,rfl,q1,_⟩:=h5.tuple_inv;exact .tuple al [] q1 (by simp)
namespace M
open Go.Proofs
noncomputable def set2 (q n h:Int) (ns no:Nat) (sx ox:List AV):Option (Int×Nat×Nat×List AV×List AV):=(xqV q n h ns no sx ox).bind fun p =>
 br (Nat.beq p.2.1 p.2.2.2.2.2.2.1&&Nat.beq p.2.2.2.1 p.2.2.2.2.2.2.2.2) (some (p.1,p.2.2.1,p.2.2.2.2.1,p.2.2.2.2.2.1,p.2.2.2.2.2.2.2.1)) none
noncomputable def xMK:List AV->List Box->Option (Bool×AV×List Box):=omOf (xTj (sEq (pInt IntKind.i64)) (xTj (sEq (pInt IntKind.i64)) (xTj (sEq (xTy 0 0 0 0)) (xTj (sEq (xTy 1 0 0 0)) (xTj (sEq (xTy 2 0 0 0)) xTl)))))
 (xTi (xTA 0 1 3 false true (xTi (pInt IntKind.i64) xTk)) (xTi (xTA 0 1 160 false false (xTi (xTw 3 0 0) xTk)) (xTi (xTA 0 1 108 false false (xTi (xTw 4 0 0) xTk)) (xTi (xTA 0 2 162 false true xTm) (xTi (xTA 0 2 35 false true xTm) xTk)))))
 fun (q,(n,(_,(_,(_,_))))) ((h,_),((ns,_),((no,_),(sx,(ox,_)))))=>((set2 q n h ns no sx ox).isSome,(.tuple [],[⟨0,1,3,[.int .i64 ((set2 q n h ns no sx ox).getD (0,0,0,[],[])).1],false,true⟩,⟨0,1,160,[.osl (.b 3) 1 0 ((set2 q n h ns no sx ox).getD (0,0,0,[],[])).2.1],false,false⟩,⟨0,1,108,[.osl (.b 4) 1 0 ((set2 q n h ns no sx ox).getD (0,0,0,[],[])).2.2.1],false,false⟩,⟨1,2,162,((set2 q n h ns no sx ox).getD (0,0,0,[],[])).2.2.2.1,false,true⟩,⟨1,2,35,((set2 q n h ns no sx ox).getD (0,0,0,[],[])).2.2.2.2,false,true⟩]))
theorem xQB:OmOk P0 xTh 112 xMK:=xq3 fun vv bb rr W hh=>by
 obtain ⟨q,⟨n,⟨_,⟨_,⟨_,_⟩⟩⟩⟩⟩:=vv;obtain ⟨⟨h,_⟩,⟨⟨ns,_⟩,⟨⟨no,_⟩,⟨sx,⟨ox,_⟩⟩⟩⟩⟩:=bb;obtain ⟨J,O⟩:=Prod.mk.inj hh;cases hs:xqV q n h ns no sx ox with
 | none=>rw [show set2 q n h ns no sx ox=none by unfold set2;rw [hs];rfl] at J;simp at J
 | some p =>
  have Q:set2 q n h ns no sx ox=br (Nat.beq p.2.1 p.2.2.2.2.2.2.1&&Nat.beq p.2.2.2.1 p.2.2.2.2.2.2.2.2) (some (p.1,p.2.2.1,p.2.2.2.2.1,p.2.2.2.2.2.1,p.2.2.2.2.2.2.2.1)) none:=by unfold set2;rw [hs];rfl
  cases ht:Nat.beq p.2.1 p.2.2.2.2.2.2.1&&Nat.beq p.2.2.2.1 p.2.2.2.2.2.2.2.2 with
  | false=>rw [Q,ht] at J;simp [br] at J
  | true =>
   rw [ht] at Q;have V:set2 q n h ns no sx ox=some (p.1,p.2.2.1,p.2.2.2.2.1,p.2.2.2.2.2.1,p.2.2.2.2.2.2.2.1):=Q;rw [V] at O;simp only [zh] at O;simp only [zf] at ht;have e1:=zg ht.1;have e2:=zg ht.2;have hx:=xHo q n h ns no sx ox p hs;have hg:GoodM P0 xTh 112 _ _ _ _:=xi9 (p:=xn5.pin) (xkm xSK (xSL P0 _) rfl xDD rfl Tryz.func112 rfl (by kernel_rfl) xBT hx)
   rw [<-e1,<-e2] at hg;have U:=GoodM.aged rfl (fun bx hb=>by simp only [zY,zZ,z6] at hb;subst hb;rfl) (fun bx hb=>by simp only [zY,zZ,z6] at hb;subst hb;rfl) rfl rfl rfl rfl rfl hg
   obtain ⟨rfl,rfl⟩:=Prod.mk.inj O;exact U
noncomputable def ESet:Env:=xyW.E.withM 112 xMK
theorem xOw:xSB P0 xTh ESet:=xyW.ok.withM xQB
noncomputable def xI5:EO:=EO.mk ESet xOw
end M
end Go.Sim
end
noncomputable section
set_option maxRecDepth 100000
namespace Go.Sim.M
open Go.IntKind (i64 u64 u8)
open Go.RowKit Go.Proofs
def xqN (a:LA) (h b:Int) (f c:Nat) (g:Int) (d e:LA):Int:=if 0>(gC a b 1).toInt then 0 else (gC a b 1).toInt
def xqM (f:LA) (h g:Int) (d a:Nat) (e:Int) (b c:LA):=set2 (gC f g 0).toInt (if 1048576<xqN f h g d a e b c then 1048576 else xqN f h g d a e b c) e a d c b
def xqL (f:LA) (g h:Int) (d a:Nat) (e:Int) (b c:LA):=(xqM f g h d a e b c).getD (0,0,0,[],[])
def xqK (f:LA) (g h:Int) (d a:Nat) (e:Int) (b c:LA):=(xqL f g h d a e b c).snd
def xqI (f:LA) (g h:Int) (d a:Nat) (e:Int) (b c:LA):=(xqK f g h d a e b c).snd
def xqJ (f:LA) (g h:Int) (d a:Nat) (e:Int) (b c:LA):=(xqK f g h d a e b c).fst
def xqH (f:LA) (g h:Int) (d a:Nat) (e:Int) (b c:LA):=(xqI f g h d a e b c).snd
def xmn {T:Type} (g:LA) (h e:Int) (d a:Nat) (f:Int) (b c:LA) (δ:T) (κl:(Int×Nat×Nat×Int×LA×LA)->T) (κr:(Nat×Int×Nat×LA×LA)->T):T:=br (decide (e<h)) (br (ixI g e) (br (ixT g e 2 [Sh.int .i64,Sh.int .i64] 0) (br ((xqM g h e d a f b c).isSome) (κl (i64.wrap (e+1),(xqI g h e d a f b c).fst,xqJ g h e d a f b c,(xqL g h e d a f b c).fst,(xqH g h e d a f b c).snd,List.take (xqJ g h e d a f b c) (xqH g h e d a f b c).fst)) δ) δ) δ) (κr (d,f,a,b,c))
def xeD (f:LA) (g:Int):StT (Int×Nat×Nat×Int×LA×LA) (Nat×Int×Nat×LA×LA):=fun (h,d,a,e,b,c)=>xmn f g h d a e b c none inL inR
def xwX:=xI5.l 30 0 [] [] Tryz.f75 0 lk0 [3,4,6,10,11,12] [3,6] [(3,2,35),(4,2,162),(4,0,0)] (q6 (xTy 0 0 0 0) (xTy 1 0 0 0) (xSY 112 (q3 (xTy 2 0 0 0) (xTy 1 0 0 0) (xTy 0 0 0 0))) (qL 2) qI qI) (q5 (xTA 0 1 108 false false (q1 (xTw 3 0 0))) (xTA 0 1 160 false false (q1 (xTw 4 0 0))) (qB 0 1 3 (q1 qI)) (qB 0 2 35 xTm) (qB 0 2 162 xTm)) (fun (_,_,(_,_,_,_),f,g,h,_) ((d,_),(a,_),(e,_),b,c,_)=>(xeD f g,(h,d,a,e,b,c),fun p=>(.leaf (.exit 0) [AV.own 0 0 0 0,AV.func 112 [AV.own 1 0 0 0,AV.own 2 0 0 0,AV.own 0 0 0 0]] [⟨0,1,108,[AV.osl 3 0 0 p.1],false,false⟩,bF 0 1 3 [AV.int .i64 p.2.1],⟨0,1,160,[AV.osl 4 0 0 p.2.2.1],false,false⟩,bF 0 2 35 p.2.2.2.1,bF 0 2 162 p.2.2.2.2]))) (0,0,0,[],[]) fun (_,_,(_,_,_,_),f,g,_,_) _ (h,d,a,e,b,c)=>((((),(),((),(),(),()),f,g,h,()),((d,()),(a,()),(e,()),b,c,())),xmn f g h d a e b c none)
def xvl (l:LA):=Iter (xeD l (↑l.length:Int)) (0,0,0,0,[],[])
def xvk (l:LA):=(xvl l).getD (0,0,0,[],[])
def xvj (l:LA):=(xvk l).snd
def xvi (l:LA):=(xvj l).snd
def xvh (l:LA):=(xvi l).snd
def xvg (l:LA):=set2 1099511627776 0 (xvj l).fst (xvi l).fst (xvk l).fst (xvh l).snd (xvh l).fst
def xvf (l:LA):=((xvg l).getD (0,0,0,[],[])).snd.snd
def xlg (l:LA):=(xvf l).fst
def xlh (l:LA):=(xvf l).snd.snd
def xwn {T:Type} (l:LA) (δ:T) (κ:LA->T):T:=br ((xvl l).isSome) (br ((xvg l).isSome) (br ((xlg l).beq (xlh l).length&&(decide (xlg l<4611686018427387904)&&(xlh l).all isP)) (br (decide (0+xlg l<=(srtP (xlh l)).length)&&true) (κ (List.take (xlg l) (List.drop 0 (srtP (xlh l))))) δ) δ) δ) δ
def xve (l:LA):=xwn l none some
def xPL:EO:=xI5.f Tryz.func75 30 0 [] [(6,xwX.lp)] (lk1 xwX.ok) (u1 (uL 2)) (fun (l,_) _=>xwn l) (fun _ p=>AV.list 2 p) []
def xtU {T:Type} (a:LA) (δ:T) (κ:LA->T):T:=br ((↑a.length:Int)==1) (κ (a)) (br ((xgD a).isSome) (br ((xve ((xgD a).getD [])).isSome) (κ ((xve ((xgD a).getD [])).getD [])) δ) δ)
def xh0 (a:LA):=xtU a none some
def xGG:EO:=xPL.f Tryz.func74 10 0 [] [] lk0 (u1 (uL 2)) (fun (a,_) _=>xtU a) (fun _ p=>AV.list 2 p) []
def xhw {T:Type} (h:LA) (i j:Int) (e:LA) (f:Int) (d:Nat) (c:Int) (a b g:LA) (δ:T) (κl:(Nat×Int×LA×LA×LA)->T) (κr:(Nat×LA)->T):T:=br (decide (c<f)) (br (ixI e c) (br (ixT e c 2 [Sh.int .i64,Sh.int .i64] 0) (br (decide (b.length*32<=140737488355328)&&decide (b.length<=4611686018427387904)) (br (decide (0+b.length<=b.length)&&true&&true&&true&&true) (br (rmB d a 1 40) (κl (d+1,i64.wrap (c+1),a++[AV.agg [AV.list 3 (List.take b.length (List.drop 0 b)),AV.int .i64 (gC e c 0).toInt,AV.int .i64 (gC e c 1).toInt]],b,g)) δ) δ) δ) δ) δ) (κr (d,a))
def xcF (c:LA) (d e:Int) (f:LA) (g:Int):StT (Nat×Int×LA×LA×LA) (Nat×LA):=fun (b,h,a,i,j)=>xhw c d e f g b h a i j none inL inR
def xg5:=xGG.l 38 0 [59] [] Tryz.f73 1 lk0 [1,5,7,11,12,13,20,21,22] [1,5,11,12,13] [(5,3,59)] (q9 (xSY 74 xTk) (xTw 0 0 0) (xTy 1 0 0 0) (qL 2) qI qI (qL 2) qI qI) (q2 (qB 0 3 59 xTm) (qB 0 2 159 (q1 (xTz (q2 (qL 3) (qL 2)))))) (fun (_,b,_,c,d,e,f,g,h,_) (a,((i,j,_),_),_)=>(xcF c d e f g,(b,h,a,i,j),fun p=>(.leaf (.exit 2) [AV.func 74 [],AV.osl 0 0 0 p.1,AV.list 2 c,AV.int .i64 d,AV.int .i64 e] [bF 0 3 59 p.2]))) (0,[]) fun (_,_,_,c,d,e,f,g,_,_) _ (b,h,a,i,j)=>((((),b,(),c,d,e,f,g,h,()),(a,((i,j,()),()),())),xhw c d e f g b h a i j none)
def xly (a:LA) (e:Int) (d:Nat) (b:Int) (c:LA):=Iter (xcF a e b ((xh0 (gC a b 1).toList).getD []) (↑((xh0 (gC a b 1).toList).getD []).length:Int)) (d,0,c,(gC a b 0).toList,(gC a b 1).toList)
def xlw (c:LA) (d:Int) (b:Nat) (e:Int) (a:LA):=(xly c d b e a).getD (0,[])
def xhv {T:Type} (d:LA) (e:Int) (c:Nat) (b:Int) (a:LA) (δ:T) (κl:(Nat×Int×LA)->T) (κr:(Nat×LA)->T):T:=br (decide (b<e)) (br (ixI d b) (br (ixT d b 2 [Sh.list 3,Sh.list 2] 0) (br ((xh0 (gC d b 1).toList).isSome) (br ((xly d e c b a).isSome) (κl ((xlw d e c b a).fst,i64.wrap (b+1),(xlw d e c b a).snd)) δ) δ) δ) δ) (κr (c,a))
def xdQ (c:LA) (d:Int):StT (Nat×Int×LA) (Nat×LA):=fun (b,e,a)=>xhv c d b e a none inL inR
def xr0:=xGG.l 38 0 [59] [(6,xg5.lp)] Tryz.f73 0 (lk1 xg5.ok) [1,5,11,12,13] [5] [(5,3,59)] (q5 (xSY 74 xTk) (xTw 0 0 0) (qL 2) qI qI) (q1 (qB 0 3 59 xTm)) (fun (_,b,c,d,e,_) (a,_)=>(xdQ c d,(b,e,a),fun p=>(.leaf (.exit 0) [AV.osl 0 0 0 p.1] [bF 0 3 59 p.2]))) (0,[]) fun (_,_,c,d,_,_) _ (b,e,a)=>((((),b,c,d,e,()),(a,())),xhv c d b e a none)
def xoB (l:LA):=Iter (xdQ ((xn4 l).getD []) (↑((xn4 l).getD []).length:Int)) (0,0,[])
def xoA (l:LA):=(xoB l).getD (0,[])
def xoy (l:LA):=(xoA l).snd
def xoz (l:LA):=(xoA l).fst
def xpO {T:Type} (l:LA) (δ:T) (κ:LA->T):T:=br ((xn4 l).isSome) (br ((xoB l).isSome) (br (decide (0+xoz l<=(xoy l).length)&&true) (κ (List.take (xoz l) (List.drop 0 (xoy l)))) δ) δ) δ
def xsM (l:LA):=xpO l none some
def xPM:EO:=xGG.f Tryz.func73 38 0 [59] [(6,xg5.lp),(3,xr0.lp)] (lks (lkC xr0.ok (lkC xg5.ok lkN))) (u2 (uL 3) (sEq (xSY (74:FuncId) xTk))) (fun (l,_,_) _=>xpO l) (fun _ p=>AV.list 3 p) []
def xvS {T:Type} (l:LA) (δ:T) (κ:LA->T):T:=br ((xsM l).isSome) (κ ((xsM l).getD [])) δ
def xmE (l:LA):=xvS l none some
def xGH:EO:=xPM.f Tryz.func44 5 0 [] [] lk0 (u1 (uL 3)) (fun (l,_) _=>xvS l) (fun _ p=>AV.list 3 p) []
def xel (a:Nat) (j:Int):=decide (0<=i64.wrap (j - 1))&&decide (i64.wrap (j - 1)<(↑a:Int))
def xaZ (j:Int):Nat:=0+(i64.wrap (j - 1)).toNat
def xem (a:Nat) (j:Int):=decide (0<=j)&&decide (j<(↑a:Int))
def xhH (j:Int) (a:LA):=decide (0+j.toNat<a.length)
def xhF (j:Int) (a:LA):=decide (xaZ j<a.length)&&xSz (Sh.list 3) ((a.getD (xaZ j) .top).cells.getD 0 .top)
def xhG (j:Int) (a:LA):=xhH j a&&xSz (Sh.list 3) ((a.getD (0+j.toNat) .top).cells.getD 0 .top)
def xic {T:Type} (d:Nat) (a b i j:Int) (c:LA) (δ:T) (κl:(Int×LA)->T) (κr:(LA)->T):T:=br (decide (j>a)) (br (xem d j) (br (xhG j c) (br (xel d j) (br (xhF j c) (br ((xgc ((c.getD (0+j.toNat) .top).cells.getD 0 .top).toList ((c.getD (xaZ j) .top).cells.getD 0 .top).toList).isSome) (br (decide ((xgc ((c.getD (0+j.toNat) .top).cells.getD 0 .top).toList ((c.getD (xaZ j) .top).cells.getD 0 .top).toList).getD 0<0)) (br (xel d j) (br (xhF j c) (br (xem d j) (br (xhG j c) (br (xem d j) (br (xhH j c) (br (xel d j) (br (decide (xaZ j<(c.set (0+j.toNat) (AV.list 3 ((c.getD (xaZ j) .top).cells.getD 0 .top).toList)).length)) (κl (i64.wrap (j - 1),(c.set (0+j.toNat) (AV.list 3 ((c.getD (xaZ j) .top).cells.getD 0 .top).toList)).set (xaZ j) (AV.list 3 ((c.getD (0+j.toNat) .top).cells.getD 0 .top).toList))) δ) δ) δ) δ) δ) δ) δ) δ) (κr (c))) δ) δ) δ) δ) δ) (κr (c))
def xb9 (d:Nat) (a b i:Int):StT (Int×LA) (LA):=fun (j,c)=>xic d a b i j c none inL inR
def xcz:=xGH.l 53 1 [57] [] Tryz.f203 1 lk0 [0,1,2,3,8,9] [0,1,2,3,8] [] (q6 (xTw 0 0 0) qI qI (xSY 134 xTk) qI qI) (q1 (qB 0 1 57 xTm)) (fun (c,a,b,_,i,j,_) (d,_)=>(xb9 c a b i,(j,d),fun p=>(.leaf (.exit 2) [AV.osl 0 0 0 c,AV.int .i64 a,AV.int .i64 b,AV.func 134 [],AV.int .i64 i] [bF 0 1 57 p]))) [] fun (c,a,b,_,i,_,_) _ (j,d)=>(((c,a,b,(),i,j,()),(d,())),xic c a b i j d none)
def xib {T:Type} (d:Nat) (a b i:Int) (c:LA) (δ:T) (κl:(Int×LA)->T) (κr:(LA)->T):T:=br (decide (i<b)) (br ((Iter (xb9 d a b i) (i,c)).isSome) (κl (i64.wrap (i+1),(Iter (xb9 d a b i) (i,c)).getD [])) δ) (κr (c))
def xb8 (d:Nat) (a b:Int):StT (Int×LA) (LA):=fun (i,c)=>xib d a b i c none inL inR
def xhE:=xGH.l 53 1 [57] [(4,xcz.lp)] Tryz.f203 0 (lk1 xcz.ok) [0,1,2,3,8] [] [] (q5 (xTw 0 0 0) qI qI (xSY 134 xTk) qI) (q1 (qB 0 1 57 xTm)) (fun (d,a,b,_,i,_) (c,_)=>(xb8 d a b,(i,c),fun p=>(.leaf (.exit 0) [] [bF 0 1 57 p]))) [] fun (d,a,b,_,_,_) _ (i,c)=>(((d,a,b,(),i,()),(c,())),xib d a b i c none)
def xfE {T:Type} (n:Nat) (a b:Int) (c:LA) (δ:T) (κ:LA->T):T:=br ((Iter (xb8 n a b) (i64.wrap (a+1),c)).isSome) (κ ((Iter (xb8 n a b) (i64.wrap (a+1),c)).getD [])) δ
def xbL (n:Nat) (a b:Int) (c:LA):=xfE n a b c none some
def xGz:EO:=xGH.fM Tryz.func203 53 1 [57] [(4,xcz.lp),(1,xhE.lp)] (lks (lkC xhE.ok (lkC xcz.ok lkN))) (u4 (sEq (xTw 0 0 0)) uI uI (sEq (xSY (134:FuncId) xTk))) (q1 (qB 0 1 57 xTm)) (fun (n,a,b,_,_) (c,_) _=>xfE n a b c) (fun _ _ p=>(AV.tuple [],([bF 0 1 57 p]:List Box))) []
def xhm {T:Type} (d:Nat) (n e a b:Int) (c:LA) (δ:T) (κl:(Int×Int×LA)->T) (κr:(Int×LA)->T):T:=br (decide (b<=n)) (br ((xbL d a b c).isSome) (κl (b,i64.wrap (b+e),(xbL d a b c).getD [])) δ) (κr (a,c))
def xco (e:Nat) (n c:Int):StT (Int×Int×LA) (Int×LA):=fun (a,b,d)=>xhm e n c a b d none inL inR
def xep:=xGz.l 63 1 [57] [] Tryz.f189 0 lk0 [0,1,2,6,7,8] [0,1,2,6,7] [] (q6 (xTw 0 0 0) qI (xSY 134 xTk) qI qI qI) (q1 (qB 0 1 57 xTm)) (fun (d,n,_,c,a,b,_) (e,_)=>(xco d n c,(a,b,e),fun p=>(.leaf (.exit 0) [AV.osl 0 0 0 d,AV.int .i64 n,AV.func 134 [],AV.int .i64 c,AV.int .i64 p.1] [bF 0 1 57 p.2]))) (0,[]) fun (d,n,_,c,_,_,_) _ (a,b,e)=>(((d,n,(),c,a,b,()),(e,())),xhm d n c a b e none)
def xnF {T:Type} (d:Nat) (n e a b:Int) (c:LA) (δ:T) (κl:(Int×Int×LA)->T) (κr:(Int×LA)->T):T:=br (decide (b<=n)) (br (decide (0+d<=c.length)&&true) δ δ) (κr (a,c))
def xkM (e:Nat) (n c:Int):StT (Int×Int×LA) (Int×LA):=fun (a,b,d)=>xnF e n c a b d none inL inR
def xeq:=xGz.l 63 1 [57] [(2,xep.lp)] Tryz.f189 2 lk0 [0,1,2,6,7,8] [0,1,2,6,7] [] (q6 (xTw 0 0 0) qI (xSY 134 xTk) qI qI qI) (q1 (qB 0 1 57 xTm)) (fun (d,n,_,c,a,b,_) (e,_)=>(xkM d n c,(a,b,e),fun p=>(.leaf (.exit 4) [AV.osl 0 0 0 d,AV.int .i64 n,AV.func 134 [],AV.int .i64 c,AV.int .i64 p.1] [bF 0 1 57 p.2]))) (0,[]) fun (d,n,_,c,_,_,_) _ (a,b,e)=>(((d,n,(),c,a,b,()),(e,())),xnF d n c a b e none)
def xnc (c:Nat) (n a:Int) (b:LA):=Iter (xkM c n a) (0,i64.wrap (2*a),b)
def xnb (c:Nat) (n a:Int) (b:LA):=(xnc c n a b).getD (0,[])
def xna (c:Nat) (n a:Int) (b:LA):=(xnb c n a b).snd
def xhn {T:Type} (c:Nat) (n a:Int) (b:LA) (δ:T) (κl:(Int×LA)->T) (κr:(LA)->T):T:=br (decide (a<n)) (br ((xnc c n a b).isSome) (br (decide (i64.wrap ((xnb c n a b).fst+a)<n)) (br (decide (0+c<=(xna c n a b).length)&&true) δ δ) (κl (i64.wrap (a*2),xna c n a b))) δ) (κr (b))
def xdu (c:Nat) (n:Int):StT (Int×LA) (LA):=fun (a,b)=>xhn c n a b none inL inR
def xm9:=xGz.l 63 1 [57] [(2,xep.lp),(9,xeq.lp)] Tryz.f189 1 (lk1 xeq.ok) [0,1,2,6] [] [] (q4 (xTw 0 0 0) qI (xSY 134 xTk) qI) (q1 (qB 0 1 57 xTm)) (fun (c,n,_,a,_) (b,_)=>(xdu c n,(a,b),fun p=>(.leaf (.exit 2) [] [bF 0 1 57 p]))) [] fun (c,n,_,_,_) _ (a,b)=>(((c,n,(),a,()),(b,())),xhn c n a b none)
def xiN (n:Nat) (k:Int) (a:LA):=(Iter (xco n k 20) (0,20,a)).getD (0,[])
def xiM (n:Nat) (k:Int) (a:LA):=xbL n (xiN n k a).fst k (xiN n k a).snd
def xiL (n:Nat) (k:Int) (a:LA):=Iter (xdu n k) (20,(xiM n k a).getD [])
def xjI {T:Type} (n:Nat) (k:Int) (a:LA) (δ:T) (κ:LA->T):T:=br ((Iter (xco n k 20) (0,20,a)).isSome) (br ((xiM n k a).isSome) (br ((xiL n k a).isSome) (κ ((xiL n k a).getD [])) δ) δ) δ
def xha (n:Nat) (k:Int) (a:LA):=xjI n k a none some
def xQ0:EO:=xGz.fM Tryz.func189 63 1 [57] [(2,xep.lp),(9,xeq.lp),(7,xm9.lp)] (lks (lkC xep.ok (lkC xm9.ok (lkC xeq.ok lkN)))) (u3 (sEq (xTw 0 0 0)) uI (sEq (xSY (134:FuncId) xTk))) (q1 (qB 0 1 57 xTm)) (fun (n,k,_,_) (a,_) _=>xjI n k a) (fun _ _ p=>(AV.tuple [],([bF 0 1 57 p]:List Box))) []
def xiF {T:Type} (n:Nat) (a:LA) (δ:T) (κ:LA->T):T:=br ((xha n (↑n:Int) a).isSome) (κ ((xha n (↑n:Int) a).getD [])) δ
def xrr (n:Nat) (a:LA):=xiF n a none some
def xOe:EO:=xQ0.fM Tryz.func164 9 1 [57] [] lk0 (u2 (sEq (xTw 0 0 0)) (sEq (xSY (134:FuncId) xTk))) (q1 (qB 0 1 57 xTm)) (fun (n,_,_) (a,_) _=>xiF n a) (fun _ _ p=>(AV.tuple [],([bF 0 1 57 p]:List Box))) []
def xj6 {T:Type} (d:LA) (e:Int) (c:Nat) (b:Int) (a:LA) (δ:T) (κl:(Nat×Int×LA)->T) (κr:(Nat×LA)->T):T:=br (decide (b<e)) (br (ixI d b) (br (ixS d b (Sh.list 3) 0) (br (decide ((gC d b 0).toList.length<=4398046511104)) (br (rmB c a 1 24) (κl (c+1,i64.wrap (b+1),a++[AV.list 3 (gC d b 0).toList])) δ) δ) δ) δ) (κr (c,a))
def xcy (c:LA) (d:Int):StT (Nat×Int×LA) (Nat×LA):=fun (b,e,a)=>xj6 c d b e a none inL inR
def xvo:=xOe.l 27 0 [57] [] Tryz.f133 0 lk0 [1,5,11,12,13] [1,5] [(5,1,57)] (q5 (xSY 134 xTk) (xTw 0 0 0) (qL 1) qI qI) (q1 (qB 0 1 57 xTm)) (fun (_,b,c,d,e,_) (a,_)=>(xcy c d,(b,e,a),fun p=>(.leaf (.exit 0) [AV.func 134 [],AV.osl 0 0 0 p.1] [bF 0 1 57 p.2]))) (0,[]) fun (_,_,c,d,_,_) _ (b,e,a)=>((((),b,c,d,e,()),(a,())),xj6 c d b e a none)
def xrY (l:LA):=(Iter (xcy l (↑l.length:Int)) (0,0,[])).getD (0,[])
def xmp (l:LA):=(xrY l).fst
def xrX (l:LA):=xrr (xmp l) (xrY l).snd
def xrW (l:LA):=(xrX l).getD []
def xtv {T:Type} (l:LA) (δ:T) (κ:LA->T):T:=br (decide (24*(↑l.length:Int)<=281474976710656)&&decide ((↑l.length:Int)<=4611686018427387904)) (br ((Iter (xcy l (↑l.length:Int)) (0,0,[])).isSome) (br ((xrX l).isSome) (br (decide (0+xmp l<=(xrW l).length)&&true) (κ (List.take (xmp l) (List.drop 0 (xrW l)))) δ) δ) δ) δ
def xwo (l:LA):=xtv l none some
def xQ1:EO:=xOe.f Tryz.func133 27 0 [57] [(3,xvo.lp)] (lk1 xvo.ok) (u2 (uL 1) (sEq (xSY (134:FuncId) xTk))) (fun (l,_,_) _=>xtv l) (fun _ p=>AV.list 1 p) []
def xzQ {T:Type} (l:LA) (δ:T) (κ:LA->T):T:=br ((xwo l).isSome) (κ ((xwo l).getD [])) δ
def xn2 (l:LA):=xzQ l none some
def xJZ:EO:=xQ1.f Tryz.func106 5 0 [] [] lk0 (u1 (uL 1)) (fun (l,_) _=>xzQ l) (fun _ p=>AV.list 1 p) []
def xiE (b:Nat) (c:Int) (a:LA):=decide (b+c.toNat<a.length)&&xSz (Sh.int .i64) ((a.getD (b+c.toNat) .top).cells.getD 0 .top)
def xgp {T:Type} (e c d:Nat) (k b:Int) (a:LA) (δ:T) (κl:(Int×Int×LA)->T) (κr:(Int×LA)->T):T:=br (decide (b<(↑d:Int))) (br (decide (0<=b)&&decide (b<(↑d:Int))) (br (xiE c b a) (br (decide (0<=i64.wrap (b - 1))&&decide (i64.wrap (b - 1)<(↑d:Int))) (br (decide (c+(i64.wrap (b - 1)).toNat<a.length)&&xSz (Sh.int .i64) ((a.getD (c+(i64.wrap (b - 1)).toNat) .top).cells.getD 0 .top)) (br (((a.getD (c+b.toNat) .top).cells.getD 0 .top).toInt != ((a.getD (c+(i64.wrap (b - 1)).toNat) .top).cells.getD 0 .top).toInt) (br (decide (0<=b)&&decide (b<(↑d:Int))) (br (xiE c b a) (br (decide (0<=k)&&decide (k<(↑e:Int))) (br (decide (0+k.toNat<a.length)) (κl (i64.wrap (k+1),i64.wrap (b+1),a.set (0+k.toNat) (AV.int .i64 ((a.getD (c+b.toNat) .top).cells.getD 0 .top).toInt))) δ) δ) δ) δ) (κl (k,i64.wrap (b+1),a))) δ) δ) δ) δ) (κr (k,a))
def xct (b c d:Nat):StT (Int×Int×LA) (Int×LA):=fun (k,e,a)=>xgp b c d k e a none inL inR
def xiD:=xJZ.l 61 1 [] [] Tryz.f104 1 lk0 [0,3,4,5] [0,3] [] (q4 (xTw 0 0 0) qI (pOslO 0 0) qI) (q1 (qB 0 1 3 xTm)) (fun (b,k,(c,d),e,_) (a,_)=>(xct b c d,(k,e,a),fun p=>(.leaf (.exit 2) [AV.osl 0 0 0 b,AV.int .i64 p.1] [bF 0 1 3 p.2]))) (0,[]) fun (b,_,(c,d),_,_) _ (k,e,a)=>(((b,k,(c,d),e,()),(a,())),xgp b c d k e a none)
def xnW (a:Nat) (k:Int) (b:LA):=Iter (xct a (0+k.toNat) (a - k.toNat)) (k,1,b)
def xnV (b:Nat) (k:Int) (a:LA):=(xnW b k a).getD (0,[])
def xiB (b:Nat) (k:Int) (a:LA):=(xnV b k a).fst
def xiC (b:Nat) (k:Int) (a:LA):=(xnV b k a).snd
def xnT (a:Nat) (k:Int) (b:LA):=decide (0<=xiB a k b)&&decide (xiB a k b<=(↑a:Int))
def xek (b:Nat) (k:Int) (a:LA):=(xiB b k a).toNat
def xnU (a:Nat) (k:Int) (b:LA):Nat:=0+xek a k b+(a - xek a k b)
def xgo {T:Type} (b:Nat) (k:Int) (a:LA) (δ:T) (κl:(Int×LA)->T) (κr:(Bool×(Nat×LA)×(LA))->T):T:=br (decide (k<(↑b:Int))) (br (decide (0<=k)&&decide (k<(↑b:Int))) (br (decide (0+k.toNat<a.length)&&xSz (Sh.int .i64) ((a.getD (0+k.toNat) .top).cells.getD 0 .top)) (br (decide (0<=i64.wrap (k - 1))&&decide (i64.wrap (k - 1)<(↑b:Int))) (br (decide (0+(i64.wrap (k - 1)).toNat<a.length)&&xSz (Sh.int .i64) ((a.getD (0+(i64.wrap (k - 1)).toNat) .top).cells.getD 0 .top)) (br (((a.getD (0+k.toNat) .top).cells.getD 0 .top).toInt==((a.getD (0+(i64.wrap (k - 1)).toNat) .top).cells.getD 0 .top).toInt) (br (decide (0<=k)&&decide (k<=(↑b:Int))) (br ((xnW b k a).isSome) (br (xnT b k a) (br (decide (xnU b k a<=(xiC b k a).length)) (br (xnT b k a&&true) (κr (true,(xek b k a - 0,List.take (0+xek b k a) (xiC b k a)++(List.replicate (b - xek b k a) (AV.int .i64 0)++List.drop (xnU b k a) (xiC b k a))),[])) δ) δ) δ) δ) δ) (κl (i64.wrap (k+1),a))) δ) δ) δ) δ) (κr (false,(0,[]),(a)))
def xbd (b:Nat):StT (Int×LA) (Bool×(Nat×LA)×(LA)):=fun (k,a)=>xgo b k a none inL inR
def xuX:=xJZ.l 61 1 [] [(9,xiD.lp)] Tryz.f104 0 (lk1 xiD.ok) [0,3] [0,2] [] (q2 (xTw 0 0 0) qI) (q1 (qB 0 1 3 xTm)) (fun (a,k,_) (b,_)=>(xbd a,(k,b),fun p=>(.node p.1 (.leaf .ret [AV.osl 0 0 0 a,AV.osl 0 0 0 p.2.1.1] [bF 0 1 3 p.2.1.2]) (.leaf (.exit 0) [AV.osl 0 0 0 a,.top] [bF 0 1 3 p.2.2])))) (false,(0,[]),[]) fun (a,_,_) _ (k,b)=>(((a,k,()),(b,())),xgo a k b none)
def xrV (n:Nat) (a:LA):=(Iter (xbd n) (1,a)).getD (false,(0,[]),[])
def xrU (n:Nat) (a:LA):=(xrV n a).snd
def xrT (n:Nat) (a:LA):=(xrU n a).fst
def xtm {T:Type} (n:Nat) (a:LA) (δ:T) (κ:Nat×LA->T):T:=br (decide ((↑n:Int)<2)) (κ (n,a)) (br ((Iter (xbd n) (1,a)).isSome) (br ((xrV n a).fst) (κ ((xrT n a).fst,(xrT n a).snd)) (κ (n,(xrU n a).snd))) δ)
def xwj (n:Nat) (a:LA):=xtm n a none some
def xOc:EO:=xJZ.fM Tryz.func104 61 1 [] [(9,xiD.lp),(4,xuX.lp)] (lks (lkC xuX.ok (lkC xiD.ok lkN))) (u1 (sEq (xTw 0 0 0))) (q1 (qB 0 1 3 xTm)) (fun (n,_) (a,_) _=>xtm n a) (fun _ _ p=>(AV.osl 0 0 0 p.1,([bF 0 1 3 p.2]:List Box))) (0,[])
def xhu (b:LA) (c:Int) (a:LA):=a++[AV.int .i64 (gC b c 1).toInt]
def xih {T:Type} (d:LA) (e:Int) (a:Nat) (c:Int) (b:LA) (δ:T) (κl:(Nat×Int×LA)->T) (κr:(Nat×LA)->T):T:=br (decide (c<e)) (br (ixI d c) (br (ixT d c 3 [Sh.list 3,Sh.int .i64,Sh.int .i64] 0) (br (xhk (gC d c 1).toInt (gC d c 2).toInt) (br (rmB a b 1 8) (br (decide ((gC d c 2).toInt<1099511627776)) (br (a+1==(xhu d c b).length&&(decide ((a+1+1)*8<=140737488355328)&&decide (a+1+1<=4611686018427387904))) (κl (a+1+1,i64.wrap (c+1),xhu d c b++[AV.int .i64 (gC d c 2).toInt])) δ) (κl (a+1,i64.wrap (c+1),xhu d c b))) δ) (κl (a,i64.wrap (c+1),b))) δ) δ) (κr (a,b))
def xcc (c:LA) (d:Int):StT (Nat×Int×LA) (Nat×LA):=fun (b,e,a)=>xih c d b e a none inL inR
def xtA:=xOc.l 37 0 [] [] Tryz.f67 0 lk0 [3,7,8,9] [3] [(3,1,3)] (q4 (xTw 0 0 0) (qL 3) qI qI) (q1 (qB 0 1 3 xTm)) (fun (b,c,d,e,_) (a,_)=>(xcc c d,(b,e,a),fun p=>(.leaf (.exit 0) [AV.osl 0 0 0 p.1] [bF 0 1 3 p.2]))) (0,[]) fun (_,c,d,_,_) _ (b,e,a)=>(((b,c,d,e,()),(a,())),xih c d b e a none)
def xpN (l:LA):=Iter (xcc l (↑l.length:Int)) (1,0,[AV.int .i64 0])
def xpM (l:LA):=(xpN l).getD (0,[])
def xki (l:LA):=(xpM l).fst
def xkj (l:LA):=(xpM l).snd
def xpL (l:LA):=xwj (xki l) (srtI (xkj l))
def xpK (l:LA):=(xpL l).getD (0,[])
def xpI (l:LA):=(xpK l).snd
def xpJ (l:LA):=(xpK l).fst
def xrt {T:Type} (l:LA) (δ:T) (κ:LA->T):T:=br ((xpN l).isSome) (br ((xki l).beq (xkj l).length&&(decide (xki l<4611686018427387904)&&(xkj l).all isI)) (br ((xpL l).isSome) (br (decide (0+xpJ l<=(xpI l).length)&&true) (κ (List.take (xpJ l) (List.drop 0 (xpI l)))) δ) δ) δ) δ
def xht (l:LA):=xrt l none some
def xQZ:EO:=xOc.f Tryz.func67 37 0 [] [(3,xtA.lp)] (lk1 xtA.ok) (u1 (uL 3)) (fun (l,_) _=>xrt l) (fun _ p=>AV.list 1 p) []
def xo5 (a b t:Int):Bool:=(br (xhk a b) (br (decide (t>=a)) ((decide (t<b))) ((false))) ((false)))
def xCV {T:Type} (a b t:Int) (δ:T) (κ:Bool->T):T:=br (xhk a b) (br (decide (t>=a)) (κ (decide (t<b))) (κ (false))) (κ (false))
def xOd:EO:=xQZ.fT Tryz.func105 19 0 [] [] lk0 (fun ((a,b,_),t,_)=>xCV a b t none) (u2 (xTC (u2 uI uI)) uI) (fun ((a,b,_),t,_)=>xo5 a b t) (fun _ p=>(AV.bool p))
def xnJ {T:Type} (t:Int) (d:LA) (e:Int) (c:Nat) (b:Int) (a:LA) (δ:T) (κl:(Nat×Int×LA)->T) (κr:(Nat×LA)->T):T:=br (decide (b<e)) (br (ixI d b) (br (ixT d b 3 [Sh.list 3,Sh.int .i64,Sh.int .i64] 0) (br (xo5 (gC d b 1).toInt (gC d b 2).toInt t) (br (rmB c a 1 24) (κl (c+1,i64.wrap (b+1),a++[AV.list 3 (gC d b 0).toList])) δ) (κl (c,i64.wrap (b+1),a))) δ) δ) (κr (c,a))
def xeN (t:Int) (d:LA) (e:Int):StT (Nat×Int×LA) (Nat×LA):=fun (b,c,a)=>xnJ t d e b c a none inL inR
def xyC:=xOd.l 26 0 [] [] Tryz.f68 0 lk0 [1,5,8,9,10] [5] [(5,1,57)] (q5 qI (xTw 0 0 0) (qL 3) qI qI) (q1 (qB 0 1 57 xTm)) (fun (t,b,d,e,c,_) (a,_)=>(xeN t d e,(b,c,a),fun p=>(.leaf (.exit 0) [AV.osl 0 0 0 p.1] [bF 0 1 57 p.2]))) (0,[]) fun (t,_,d,e,_,_) _ (b,c,a)=>(((t,b,d,e,c,()),(a,())),xnJ t d e b c a none)
def xvR (l:LA) (t:Int):=(Iter (xeN t l (↑l.length:Int)) (0,0,[])).getD (0,[])
def xvP (l:LA) (t:Int):=(xvR l t).fst
def xvQ (l:LA) (t:Int):=(xvR l t).snd
def xvO (l:LA) (t:Int):=xn2 (List.take (xvP l t) (List.drop 0 (xvQ l t)))
def xw8 {T:Type} (l:LA) (t:Int) (δ:T) (κ:LA->T):T:=br ((Iter (xeN t l (↑l.length:Int)) (0,0,[])).isSome) (br (decide (0+xvP l t<=(xvQ l t).length)&&true) (br ((xvO l t).isSome) (κ ((xvO l t).getD [])) δ) δ) δ
def xe2 (l:LA) (t:Int):=xw8 l t none some
def xQx:EO:=xOd.f Tryz.func68 26 0 [] [(3,xyC.lp)] (lk1 xyC.ok) (u2 (uL 3) uI) (fun (l,t,_) _=>xw8 l t) (fun _ p=>AV.list 1 p) []
def xkz (b a:Bool):Int:=(br (b) (((-1))) (br (a) ((1)) ((0))))
def xHM {T:Type} (b a:Bool) (δ:T) (κ:Int->T):T:=br (b) (κ ((-1))) (br (a) (κ (1)) (κ (0)))
def xPN:EO:=xQx.fT Tryz.func128 7 0 [] [] lk0 (fun (b,a,_)=>xHM b a none) (u2 (sEq pBool) (sEq pBool)) (fun (b,a,_)=>xkz b a) (fun _ p=>(AV.int .i64 p))
def xh3 (a b:Int) (c:List UInt8) (d e:Int) (f:List UInt8):Int:=(br (a != d) ((xkz (decide (a<d)) (decide (a>d)))) (br (b != e) ((xkz (decide (b<e)) (decide (b>e)))) ((xkz (Op.bytesLess c f) !(Op.bytesLess c f || c==f)))))
def xEC {T:Type} (a b:Int) (c:List UInt8) (d e:Int) (f:List UInt8) (δ:T) (κ:Int->T):T:=br (a != d) (κ (xkz (decide (a<d)) (decide (a>d)))) (br (b != e) (κ (xkz (decide (b<e)) (decide (b>e)))) (κ (xkz (Op.bytesLess c f) !(Op.bytesLess c f || c==f))))
def xK3:EO:=xPN.fT Tryz.func96 48 0 [] [] lk0 (fun ((a,b,c,_),(d,e,f,_),_)=>xEC a b c d e f none) (u2 (xTC (u3 uI uI (sEq pStr))) (xTC (u3 uI uI (sEq pStr)))) (fun ((a,b,c,_),(d,e,f,_),_)=>xh3 a b c d e f) (fun _ p=>(AV.int .i64 p))
def xe0 (a b:LA) (i:Int):=xh3 (gC a i 0).toInt (gC a i 1).toInt (gC a i 2).toStr (gC b i 0).toInt (gC b i 1).toInt (gC b i 2).toStr
def xfi {T:Type} (a b:LA) (i:Int) (δ:T) (κl:(Int)->T) (κr:(Bool×(Int)×(Unit))->T):T:=br (decide (i<a.length)) (br (decide (i<b.length)) (br (ixI a i) (br (ixT a i 3 [Sh.int .i64,Sh.int .i64,Sh.str] 0) (br (ixI b i) (br (ixT b i 3 [Sh.int .i64,Sh.int .i64,Sh.str] 0) (br (xe0 a b i != 0) (κr (true,(xe0 a b i),())) (κl (i64.wrap (i+1)))) δ) δ) δ) δ) (κr (false,0,()))) (κr (false,0,()))
def xbD (a b:LA):StT (Int) (Bool×(Int)×(Unit)):=fun (i)=>xfi a b i none inL inR
def xvE:=xK3.l 41 0 [] [] Tryz.f64 0 lk0 [0,1,5] [0,1,4] [] (q3 (qL 3) (qL 3) qI) xTk (fun (a,b,i,_) _=>(xbD a b,(i),fun p=>(.node p.1 (.leaf .ret [AV.list 3 a,AV.list 3 b,AV.int .i64 p.2.1] []) (.leaf (.exit 0) [AV.list 3 a,AV.list 3 b,.top] [])))) (false,0,()) fun (a,b,_,_) _ (i)=>(((a,b,i,()),()),xfi a b i none)
def xuk {T:Type} (a b:LA) (δ:T) (κ:Int->T):T:=br ((Iter (xbD a b) 0).isSome) (br (((Iter (xbD a b) 0).getD (false,0,())).fst) (κ (((Iter (xbD a b) 0).getD (false,0,())).snd.fst)) (br (decide ((↑a.length:Int)<(↑b.length:Int))) (κ ((-1))) (br (decide ((↑a.length:Int)>(↑b.length:Int))) (κ (1)) (κ (0))))) δ
def xbs (a b:LA):=xuk a b none some
def xPO:EO:=xK3.f Tryz.func64 41 0 [] [(2,xvE.lp)] (lk1 xvE.ok) (u2 (uL 3) (uL 3)) (fun (a,b,_) _=>xuk a b) (fun _ p=>AV.int .i64 p) 0
def xyf {T:Type} (a b:LA) (δ:T) (κ:Bool->T):T:=br ((xbs a b).isSome) (κ ((xbs a b).getD 0==0)) δ
def xlz (a b:LA):=xyf a b none some
def xK4:EO:=xPO.f Tryz.func57 9 0 [] [] lk0 (u2 (uL 3) (uL 3)) (fun (a,b,_) _=>xyf a b) (fun _ p=>AV.bool p) false
def xiA {T:Type} (a b:LA) (i:Int) (δ:T) (κl:(Int)->T) (κr:(Bool×(Bool)×(Unit))->T):T:=br (decide (i<a.length)) (br (ixI a i) (br (ixT a i 3 [Sh.int .i64,Sh.int .i64] 1) (br (ixI b i) (br (ixT b i 3 [Sh.int .i64,Sh.int .i64] 1) (br (!((gC a i 1).toInt==(gC b i 1).toInt&&((gC a i 2).toInt==(gC b i 2).toInt&&true))) (κr (true,(false),())) (br (ixI a i) (br (ixS a i (Sh.list 3) 0) (br (ixI b i) (br (ixS b i (Sh.list 3) 0) (br ((xbs (gC a i 0).toList (gC b i 0).toList).isSome) (br ((xbs (gC a i 0).toList (gC b i 0).toList).getD 0 != 0) (κr (true,(false),())) (κl (i64.wrap (i+1)))) δ) δ) δ) δ) δ)) δ) δ) δ) δ) (κr (false,false,()))
def xce (a b:LA):StT (Int) (Bool×(Bool)×(Unit)):=fun (i)=>xiA a b i none inL inR
def xtI:=xK4.l 42 0 [] [] Tryz.f38 0 lk0 [0,1,5] [4] [] (q3 (qL 3) (qL 3) qI) xTk (fun (a,b,i,_) _=>(xce a b,(i),fun p=>(.node p.1 (.leaf .ret [AV.bool p.2.1] []) (.leaf (.exit 0) [.top] [])))) (false,false,()) fun (a,b,_,_) _ (i)=>(((a,b,i,()),()),xiA a b i none)
def xrR {T:Type} (a b:LA) (δ:T) (κ:Bool->T):T:=br ((↑a.length:Int) != (↑b.length:Int)) (κ (false)) (br ((Iter (xce a b) 0).isSome) (br (((Iter (xce a b) 0).getD (false,false,())).fst) (κ (((Iter (xce a b) 0).getD (false,false,())).snd.fst)) (κ (true))) δ)
def xkI (a b:LA):=xrR a b none some
def xK5:EO:=xK4.f Tryz.func38 42 0 [] [(4,xtI.lp)] (lk1 xtI.ok) (u2 (uL 3) (uL 3)) (fun (a,b,_) _=>xrR a b) (fun _ p=>AV.bool p) false
def xfp (a b:LA) (i k:Int):=decide ((xbs (gC b k 0).toList (gC a i 0).toList).getD 0<0)
def xfq (b:LA) (k:Int):=decide (k.toNat<b.length)&&((b.getD k.toNat .top).cells.length==3&&xSG [Sh.list 3,Sh.int .i64,Sh.int .i64] (b.getD k.toNat .top).cells 0)
def xfr (a:LA) (i:Int):=decide (i.toNat<a.length)&&((a.getD i.toNat .top).cells.length==3&&xSG [Sh.list 3,Sh.int .i64,Sh.int .i64] (a.getD i.toNat .top).cells 0)
def xd3 (b:LA) (k:Int):=ixI b k
def xd4 (a:LA) (i:Int):=ixI a i
def xdr {T:Type} (b:LA) (c:Nat) (i k:Int) (a:LA) (δ:T) (κl:(Nat×Int×Int×LA)->T):T:=br (xd3 b k) (br (xfq b k) (br (rmB c a 1 40) (κl (c+1,i,i64.wrap (k+1),a++[AV.agg [AV.list 3 (gC b k 0).toList,AV.int .i64 (gC b k 1).toInt,AV.int .i64 (gC b k 2).toInt]])) δ) δ) δ
def xds {T:Type} (a:LA) (c:Nat) (i k:Int) (b:LA) (δ:T) (κl:(Nat×Int×Int×LA)->T):T:=br (xd4 a i) (br (xfr a i) (br (rmB c b 1 40) (κl (c+1,i64.wrap (i+1),k,b++[AV.agg [AV.list 3 (gC a i 0).toList,AV.int .i64 (gC a i 1).toInt,AV.int .i64 (gC a i 2).toInt]])) δ) δ) δ
def xdq {T:Type} (a b:LA) (d:Nat) (i k:Int) (c:LA) (δ:T) (κl:(Nat×Int×Int×LA)->T):T:=br (i==(↑a.length:Int)) (xdr b d i k c δ κl) (br (decide (k<b.length)) (br (xd3 b k) (br (ixS b k (Sh.list 3) 0) (br (xd4 a i) (br (ixS a i (Sh.list 3) 0) (br ((xbs (gC b k 0).toList (gC a i 0).toList).isSome) (br (xfp a b i k) (xdr b d i k c δ κl) (xds a d i k c δ κl)) δ) δ) δ) δ) δ) (xds a d i k c δ κl))
def xeJ {T:Type} (a b:LA) (d:Nat) (i k:Int) (c:LA) (δ:T) (κl:(Nat×Int×Int×LA)->T) (κr:(Nat×LA)->T):T:=br (decide (i<a.length)) (xdq a b d i k c δ κl) (br (decide (k<b.length)) (xdq a b d i k c δ κl) (κr (d,c)))
def xbP (a b:LA):StT (Nat×Int×Int×LA) (Nat×LA):=fun (d,i,k,c)=>xeJ a b d i k c none inL inR
def xwT:=xK5.l 61 0 [] [] Tryz.f123 0 lk0 [0,1,5,6,7] [5] [(5,3,59)] (q5 (qL 3) (qL 3) (xTw 0 0 0) qI qI) (q1 (qB 0 3 59 xTm)) (fun (a,b,d,i,k,_) (c,_)=>(xbP a b,(d,i,k,c),fun p=>(.leaf (.exit 0) [AV.osl 0 0 0 p.1] [bF 0 3 59 p.2]))) (0,[]) fun (a,b,_,_,_,_) _ (d,i,k,c)=>(((a,b,d,i,k,()),(c,())),xeJ a b d i k c none)
def xuV (a b:LA):=Iter (xbP a b) (0,0,0,[])
def xuU (a b:LA):=(xuV a b).getD (0,[])
def xuS (a b:LA):=(xuU a b).fst
def xuT (a b:LA):=(xuU a b).snd
def xwh {T:Type} (a b:LA) (δ:T) (κ:LA->T):T:=br ((xuV a b).isSome) (br (decide (0+xuS a b<=(xuT a b).length)&&true) (κ (List.take (xuS a b) (List.drop 0 (xuT a b)))) δ) δ
def xzE (a b:LA):=xwh a b none some
def xDZ:EO:=xK5.f Tryz.func123 61 0 [] [(3,xwT.lp)] (lk1 xwT.ok) (u2 (uL 3) (uL 3)) (fun (a,b,_) _=>xwh a b) (fun _ p=>AV.list 3 p) []
def xqo (R:LA->Option (LA)):LA->Option (Bool×AV):=ocOf (xTj (xTB 3 xTm) xTl) fun (l,_)=>((R l).isSome,AV.list 3 ((R l).getD []))
def xjG (R:LA->Option (LA)):Env:=(xDZ.E.with 89 (xqo R)).fn 20 0 (lsOf []) (xSX [])
def xoY (R:LA->Option (LA)):Prop:=OcOk P0 xTh 89 (xqo R)
theorem xBY (R:LA->Option (LA)) (a:xoY R):xSB P0 (xTh.at 0) (xjG R):=(xDZ.ok.with a).fn
theorem xA0 (R:LA->Option (LA)):LoOk P0 (xTh.at (xjG R).pin) (xjG R) (Tryz.f89.body.getD .skip):=xsV (by kernel_rfl)
def xtf (l:LA):=decide (0<=i64.wrap ((↑l.length:Int).tdiv 2))&&decide (i64.wrap ((↑l.length:Int).tdiv 2)<=(↑l.length:Int))
def xtg (R:LA->Option (LA)) (l:LA):Option (LA):=R (List.take (l.length - (i64.wrap ((↑l.length:Int).tdiv 2)).toNat) (List.drop (i64.wrap ((↑l.length:Int).tdiv 2)).toNat l))
def xte (R:LA->Option (LA)) (l:LA):Option (LA):=xzE ((R (List.take ((i64.wrap ((↑l.length:Int).tdiv 2)).toNat - 0) (List.drop 0 l))).getD []) ((xtg R l).getD [])
def xhD {T:Type} (R:LA->Option (LA)) (l:LA) (δ:T) (κ:LA->T):T:=br (decide ((↑l.length:Int)<2)) (κ (l)) (br (xtf l&&true) (br ((R (List.take ((i64.wrap ((↑l.length:Int).tdiv 2)).toNat - 0) (List.drop 0 l))).isSome) (br (xtf l) (br ((xtg R l).isSome) (br ((xte R l).isSome) (κ ((xte R l).getD [])) δ) δ) δ) δ) δ)
def xda (R:LA->Option (LA)) (l:LA):=xhD R l none some
theorem xEL (R:LA->Option (LA)) (l:LA):Enc (fun (p:LA)=>((AV.list 3 p):AV)) (xda R l) (XF P0 (xjG R) Tryz.f89 (Tryz.f89.body.getD .skip) [AV.list 3 l]):=by
 refine eV (xhD R l none (fun (p:LA)=>some ((AV.list 3 p):AV))) (by kernel_rfl) ?_;unfold xda xhD;repeat' first|exact eN|exact eS rfl|apply eB
def xEK (R:LA->Option (LA)):LA->Option (Bool×AV):=ocOf (xTj (xTB 3 xTm) xTl) fun (l,_)=>((xda R l).isSome,(AV.list 3 ((xda R l).getD [])))
theorem xEJ (R:LA->Option (LA)) (c:xoY R):OcOk P0 xTh 89 (xEK R):=xmF fun e g f=>by
 obtain ⟨l,_⟩:=e;obtain ⟨a,b⟩:=Prod.mk.inj f;refine xdT (p:=(xjG R).pin) (xf4 xSK (xSL P0 _) rfl (xBY R c) Tryz.func89 rfl (by kernel_rfl) (xA0 R) ((xEL R _ _ (xcf (d:=[]) a)).trans ?_))
 exact congrArg some b
def xcn:Nat->LA->Option (LA)
 | 0=>fun _=>none
 | fu_+1=>fun l=>xda (xcn fu_) l
theorem xwU:∀ n,xoY (xcn n)
 | 0=>xmF fun _ _ h=>absurd (Prod.mk.inj h).1 Bool.false_ne_true
 | fu_+1=>fun a r h=>xEJ (xcn fu_) (xwU fu_) a r h
def xK6:Env:=xDZ.E.with 89 (xqo (xcn 100))
theorem xK8:xSB P0 xTh xK6:=xDZ.ok.with (xwU _)
def xK7:EO:=EO.mk xK6 xK8
def xss (a b c d:Int):Int:=(br (a==c&&(b==d&&true)) ((0)) (br (decide (a<c)) (((-1))) (br (a==c) (br (decide (b<d)) (((-1))) ((1))) ((1)))))
def xEA {T:Type} (a b c d:Int) (δ:T) (κ:Int->T):T:=br (a==c&&(b==d&&true)) (κ (0)) (br (decide (a<c)) (κ ((-1))) (br (a==c) (br (decide (b<d)) (κ ((-1))) (κ (1))) (κ (1))))
def xPP:EO:=xK7.fT Tryz.func126 27 0 [] [] lk0 (fun ((a,b,_),(c,d,_),_)=>xEA a b c d none) (u2 (xTC (u2 uI uI)) (xTC (u2 uI uI))) (fun ((a,b,_),(c,d,_),_)=>xss a b c d) (fun _ p=>(AV.int .i64 p))
def xKA:Int×Int×List UInt8:=((0,0,[]))
def xHL {T:Type} (δ:T) (κ:Int×Int×List UInt8->T):T:=κ (0,0,[])
def xPQ:EO:=xPP.fT Tryz.func120 2 0 [] [] lk0 (fun _=>xHL none) xTl (fun _=>xKA) (fun _ p=>(AV.agg [AV.int .i64 p.1,AV.int .i64 p.2.1,AV.str p.2.2]))
def xBl {T:Type} (a:LA) (i:Int) (δ:T) (κ:Int×Int×List UInt8->T):T:=br (decide (i<0)) (κ (0,0,[])) (br (decide (i>=a.length)) (κ (0,0,[])) (br (ixI a i) (br (ixT a i 3 [Sh.int .i64,Sh.int .i64,Sh.str] 0) (κ ((gC a i 0).toInt,(gC a i 1).toInt,(gC a i 2).toStr)) δ) δ))
def xp8 (a:LA) (i:Int):=xBl a i none some
def xIZ:EO:=xPQ.f Tryz.func86 18 0 [] [] lk0 (u2 (uL 3) uI) (fun (a,i,_) _=>xBl a i) (fun _ p=>AV.agg [AV.int .i64 p.1,AV.int .i64 p.2.1,AV.str p.2.2]) (0,0,[])
def xp9 (o:LA) (i:Int):=ixI o i
def xwM (a o:LA) (i:Int):=(xp8 a (gC o i 0).toInt).getD (0,0,[])
def xwN (b o:LA) (i:Int):=(xp8 b (gC o i 0).toInt).getD (0,0,[])
def xwK (a o:LA) (i:Int):=(xwM a o i).snd
def xwL (b o:LA) (i:Int):=(xwN b o i).snd
def xwJ (a b o:LA) (i:Int):=xh3 (xwM a o i).fst (xwK a o i).fst (xwK a o i).snd (xwN b o i).fst (xwL b o i).fst (xwL b o i).snd
def xrA {T:Type} (a b o:LA) (i:Int) (δ:T) (κl:(Int)->T) (κr:(Bool×(Bool)×(Unit))->T):T:=br (decide (i<o.length)) (br (xp9 o i) (br (ixS o i (Sh.int .i64) 0) (br ((xp8 a (gC o i 0).toInt).isSome) (br (xp9 o i) (br (ixS o i (Sh.int .i64) 0) (br ((xp8 b (gC o i 0).toInt).isSome) (br (xwJ a b o i != 0) (br (xp9 o i) (br (decide (i.toNat<o.length)&&xSz Sh.bool (gC o i 1)) (κr (true,(!decide (xwJ a b o i<0)==(gC o i 1).toBool),())) δ) δ) (κl (i64.wrap (i+1)))) δ) δ) δ) δ) δ) δ) (κr (false,false,()))
def xee (a b o:LA):StT (Int) (Bool×(Bool)×(Unit)):=fun (i)=>xrA a b o i none inL inR
def xwI:=xIZ.l 44 0 [] [] Tryz.f152 0 lk0 [0,1,2,7] [0,1,6] [] (q4 (qL 3) (qL 3) (qL 2) qI) xTk (fun (a,b,o,i,_) _=>(xee a b o,(i),fun p=>(.node p.1 (.leaf .ret [AV.list 3 a,AV.list 3 b,AV.bool p.2.1] []) (.leaf (.exit 0) [AV.list 3 a,AV.list 3 b,.top] [])))) (false,false,()) fun (a,b,o,_,_) _ (i)=>(((a,b,o,i,()),()),xrA a b o i none)
def xwc {T:Type} (a b o:LA) (δ:T) (κ:Bool->T):T:=br ((Iter (xee a b o) 0).isSome) (br (((Iter (xee a b o) 0).getD (false,false,())).fst) (κ (((Iter (xee a b o) 0).getD (false,false,())).snd.fst)) (br ((xbs a b).isSome) (κ (decide ((xbs a b).getD 0<0))) δ)) δ
def xum (a b o:LA):=xwc a b o none some
def xIx:EO:=xIZ.f Tryz.func152 44 0 [] [(2,xwI.lp)] (lk1 xwI.ok) (u3 (uL 3) (uL 3) (uL 2)) (fun (a,b,o,_) _=>xwc a b o) (fun _ p=>AV.bool p) false
def xdZ (a:LA) (i:Int):=decide (i.toNat<a.length)&&xSz (Sh.list 3) (gC a i 0)
def xdx (b:LA) (k:Int):=decide (k.toNat<b.length)&&xSz (Sh.list 3) (gC b k 0)
def xd0 (b:LA) (k:Int):=ixI b k
def xd1 (a:LA) (i:Int):=ixI a i
def xdl {T:Type} (b:LA) (c:Nat) (i k:Int) (a:LA) (δ:T) (κl:(Nat×Int×Int×LA)->T):T:=br (xd0 b k) (br (xdx b k) (br (rmB c a 1 24) (κl (c+1,i,i64.wrap (k+1),a++[AV.list 3 (gC b k 0).toList])) δ) δ) δ
def xdm {T:Type} (a:LA) (c:Nat) (i k:Int) (b:LA) (δ:T) (κl:(Nat×Int×Int×LA)->T):T:=br (xd1 a i) (br (xdZ a i) (br (rmB c b 1 24) (κl (c+1,i64.wrap (i+1),k,b++[AV.list 3 (gC a i 0).toList])) δ) δ) δ
def xdk {T:Type} (a b o:LA) (d:Nat) (i k:Int) (c:LA) (δ:T) (κl:(Nat×Int×Int×LA)->T):T:=br (i==(↑a.length:Int)) (xdl b d i k c δ κl) (br (decide (k<b.length)) (br (xd0 b k) (br (xdx b k) (br (xd1 a i) (br (xdZ a i) (br ((xum (gC b k 0).toList (gC a i 0).toList o).isSome) (br ((xum (gC b k 0).toList (gC a i 0).toList o).getD false) (xdl b d i k c δ κl) (xdm a d i k c δ κl)) δ) δ) δ) δ) δ) (xdm a d i k c δ κl))
def xeI {T:Type} (a b o:LA) (d:Nat) (i k:Int) (c:LA) (δ:T) (κl:(Nat×Int×Int×LA)->T) (κr:(Nat×LA)->T):T:=br (decide (i<a.length)) (xdk a b o d i k c δ κl) (br (decide (k<b.length)) (xdk a b o d i k c δ κl) (κr (d,c)))
def xbO (a b o:LA):StT (Nat×Int×Int×LA) (Nat×LA):=fun (d,i,k,c)=>xeI a b o d i k c none inL inR
def xwO:=xIx.l 62 0 [] [] Tryz.f122 0 lk0 [0,1,2,7,8,9] [7] [(7,1,57)] (q6 (qL 1) (qL 1) (qL 2) (xTw 0 0 0) qI qI) (q1 (qB 0 1 57 xTm)) (fun (a,b,o,d,i,k,_) (c,_)=>(xbO a b o,(d,i,k,c),fun p=>(.leaf (.exit 0) [AV.osl 0 0 0 p.1] [bF 0 1 57 p.2]))) (0,[]) fun (a,b,o,_,_,_,_) _ (d,i,k,c)=>(((a,b,o,d,i,k,()),(c,())),xeI a b o d i k c none)
def xuq (a b o:LA):=Iter (xbO a b o) (0,0,0,[])
def xup (a b o:LA):=(xuq a b o).getD (0,[])
def xun (a b o:LA):=(xup a b o).snd
def xuo (a b o:LA):=(xup a b o).fst
def xwd {T:Type} (a b o:LA) (δ:T) (κ:LA->T):T:=br ((xuq a b o).isSome) (br (decide (0+xuo a b o<=(xun a b o).length)&&true) (κ (List.take (xuo a b o) (List.drop 0 (xun a b o)))) δ) δ
def xzs (a b o:LA):=xwd a b o none some
def xCL:EO:=xIx.f Tryz.func122 62 0 [] [(3,xwO.lp)] (lk1 xwO.ok) (u3 (uL 1) (uL 1) (uL 2)) (fun (a,b,o,_) _=>xwd a b o) (fun _ p=>AV.list 1 p) []
def xs3 (R:LA->LA->Option (LA)):LA->Option (Bool×AV):=ocOf (xTj (xTB 1 xTm) (xTj (xTB 2 xTm) xTl)) fun (l,(o,_))=>((R l o).isSome,AV.list 1 ((R l o).getD []))
def xmT (R:LA->LA->Option (LA)):Env:=(xCL.E.with 88 (xs3 R)).fn 34 0 (lsOf []) (xSX [])
def xrz (R:LA->LA->Option (LA)):Prop:=OcOk P0 xTh 88 (xs3 R)
theorem xCX (R:LA->LA->Option (LA)) (a:xrz R):xSB P0 (xTh.at 0) (xmT R):=(xCL.ok.with a).fn
theorem xBV (R:LA->LA->Option (LA)):LoOk P0 (xTh.at (xmT R).pin) (xmT R) (Tryz.f88.body.getD .skip):=xsV (by kernel_rfl)
def xmV (l:LA):=decide (0<=i64.wrap ((↑l.length:Int).tdiv 2))&&decide (i64.wrap ((↑l.length:Int).tdiv 2)<=(↑l.length:Int))
def xgS (l:LA):Nat:=0+((l.getD 0 .top).cells.getD 0 .top).toList.length
def xmW (R:LA->LA->Option (LA)) (l o:LA):Option (LA):=R (List.take (l.length - (i64.wrap ((↑l.length:Int).tdiv 2)).toNat) (List.drop (i64.wrap ((↑l.length:Int).tdiv 2)).toNat l)) o
def xmU (R:LA->LA->Option (LA)) (l o:LA):Option (LA):=xzs ((R (List.take ((i64.wrap ((↑l.length:Int).tdiv 2)).toNat - 0) (List.drop 0 l)) o).getD []) ((xmW R l o).getD []) o
def xga {T:Type} (R:LA->LA->Option (LA)) (l o:LA) (δ:T) (κ:LA->T):T:=br ((↑l.length:Int)==0) (κ ([])) (br ((↑l.length:Int)==1) (br (decide (0<(↑l.length:Int))) (br (decide (0<l.length)&&xSz (Sh.list 3) ((l.getD 0 .top).cells.getD 0 .top)) (br (decide (xgS l*32<=140737488355328)&&decide (xgS l<=4611686018427387904)) (br (decide (0+xgS l<=([]++((l.getD 0 .top).cells.getD 0 .top).toList).length)&&true&&true&&true) (κ ([AV.list 3 (List.take (xgS l) (List.drop 0 ([]++((l.getD 0 .top).cells.getD 0 .top).toList)))])) δ) δ) δ) δ) (br (xmV l&&true) (br ((R (List.take ((i64.wrap ((↑l.length:Int).tdiv 2)).toNat - 0) (List.drop 0 l)) o).isSome) (br (xmV l) (br ((xmW R l o).isSome) (br ((xmU R l o).isSome) (κ ((xmU R l o).getD [])) δ) δ) δ) δ) δ))
def xcM (R:LA->LA->Option (LA)) (l o:LA):=xga R l o none some
theorem xGw (R:LA->LA->Option (LA)) (l o:LA):Enc (fun (p:LA)=>((AV.list 1 p):AV)) (xcM R l o) (XF P0 (xmT R) Tryz.f88 (Tryz.f88.body.getD .skip) [AV.list 1 l,AV.list 2 o]):=by
 refine eV (xga R l o none (fun (p:LA)=>some ((AV.list 1 p):AV))) (by kernel_rfl) ?_;unfold xcM xga;repeat' first|exact eN|exact eS rfl|apply eB
def xGv (R:LA->LA->Option (LA)):LA->Option (Bool×AV):=ocOf (xTj (xTB 1 xTm) (xTj (xTB 2 xTm) xTl)) fun (l,(o,_))=>((xcM R l o).isSome,(AV.list 1 ((xcM R l o).getD [])))
theorem xGu (R:LA->LA->Option (LA)) (c:xrz R):OcOk P0 xTh 88 (xGv R):=xmF fun e g f=>by
 obtain ⟨l,⟨o,_⟩⟩:=e;obtain ⟨a,b⟩:=Prod.mk.inj f;refine xdT (p:=(xmT R).pin) (xf4 xSK (xSL P0 _) rfl (xCX R c) Tryz.func88 rfl (by kernel_rfl) (xBV R) ((xGw R _ _ _ (xcf (d:=[]) a)).trans ?_))
 exact congrArg some b
def xcE:Nat->LA->LA->Option (LA)
 | 0=>fun _ _=>none
 | fu_+1=>fun l o=>xcM (xcE fu_) l o
theorem xzo:∀ n,xrz (xcE n)
 | 0=>xmF fun _ _ h=>absurd (Prod.mk.inj h).1 Bool.false_ne_true
 | fu_+1=>fun a r h=>xGu (xcE fu_) (xzo fu_) a r h
def xI0:Env:=xCL.E.with 88 (xs3 (xcE 1000))
theorem xJY:xSB P0 xTh xI0:=xCL.ok.with (xzo _)
def xJX:EO:=EO.mk xI0 xJY
def xzr {T:Type} (l:LA) (δ:T) (κ:LA->T):T:=br ((xcE 1000 l []).isSome) (κ ((xcE 1000 l []).getD [])) δ
def xip (l:LA):=xzr l none some
def xI1:EO:=xJX.f Tryz.func58 5 0 [] [] lk0 (u1 (uL 1)) (fun (l,_) _=>xzr l) (fun _ p=>AV.list 1 p) []
def xim (a:LA) (i:Int):=decide (i.toNat<a.length)&&xSz (Sh.list 3) (gC a i 0)
def xin (a:LA) (i:Int):=ixI a i
def xio (a:LA) (i:Int):=xlz ((a.getD (i64.wrap (i - 1)).toNat .top).cells.getD 0 .top).toList (gC a i 0).toList
def xfj {T:Type} (c:LA) (b:Nat) (i:Int) (a:LA) (δ:T) (κl:(Nat×Int×LA)->T):T:=br (xin c i) (br (xim c i) (br (rmB b a 1 24) (κl (b+1,i64.wrap (i+1),a++[AV.list 3 (gC c i 0).toList])) δ) δ) δ
def xgn {T:Type} (a:LA) (c:Nat) (i:Int) (b:LA) (δ:T) (κl:(Nat×Int×LA)->T) (κr:(Nat×LA)->T):T:=br (decide (i<a.length)) (br (i==0) (xfj a c i b δ κl) (br (decide (0<=i64.wrap (i - 1))&&decide (i64.wrap (i - 1)<(↑a.length:Int))) (br (decide ((i64.wrap (i - 1)).toNat<a.length)&&xSz (Sh.list 3) ((a.getD (i64.wrap (i - 1)).toNat .top).cells.getD 0 .top)) (br (xin a i) (br (xim a i) (br ((xio a i).isSome) (br (!(xio a i).getD false) (xfj a c i b δ κl) (κl (c,i64.wrap (i+1),b))) δ) δ) δ) δ) δ)) (κr (c,b))
def xcr (c:LA):StT (Nat×Int×LA) (Nat×LA):=fun (b,i,a)=>xgn c b i a none inL inR
def xul:=xI1.l 38 0 [] [] Tryz.f124 0 lk0 [3,4,5] [4] [(4,1,57)] (q3 (qL 1) (xTw 0 0 0) qI) (q1 (qB 0 1 57 xTm)) (fun (c,b,i,_) (a,_)=>(xcr c,(b,i,a),fun p=>(.leaf (.exit 0) [AV.osl 0 0 0 p.1] [bF 0 1 57 p.2]))) (0,[]) fun (c,_,_,_) _ (b,i,a)=>(((c,b,i,()),(a,())),xgn c b i a none)
def xry (l:LA):=(Iter (xcr ((xip l).getD [])) (0,0,[])).getD (0,[])
def xrv (l:LA):=(xry l).snd
def xrw (l:LA):=(xry l).fst
def xs2 {T:Type} (l:LA) (δ:T) (κ:LA->T):T:=br ((xip l).isSome) (br ((Iter (xcr ((xip l).getD [])) (0,0,[])).isSome) (br (decide (0+xrw l<=(xrv l).length)&&true) (κ (List.take (xrw l) (List.drop 0 (xrv l)))) δ) δ) δ
def xwb (l:LA):=xs2 l none some
def xI2:EO:=xI1.f Tryz.func124 38 0 [] [(4,xul.lp)] (lk1 xul.ok) (u1 (uL 1)) (fun (l,_) _=>xs2 l) (fun _ p=>AV.list 1 p) []
def xpp {T:Type} (l:LA) (b:Nat) (i:Int) (a:LA) (δ:T) (κl:(Nat×Int×LA)->T) (κr:(Nat×LA)->T):T:=br (decide (i<l.length)) (br (ixI l i) (br (ixT l i 3 [Sh.int .i64,Sh.int .i64] 1) (br (xdg (gC l i 1).toInt (gC l i 2).toInt) (br (ixI l i) (br (ixS l i (Sh.list 3) 0) (br (rmB b a 1 24) (κl (b+1,i64.wrap (i+1),a++[AV.list 3 (gC l i 0).toList])) δ) δ) δ) (κl (b,i64.wrap (i+1),a))) δ) δ) (κr (b,a))
def xfo (l:LA):StT (Nat×Int×LA) (Nat×LA):=fun (b,i,a)=>xpp l b i a none inL inR
def xzC:=xI2.l 27 0 [] [] Tryz.f90 0 lk0 [0,3,4] [3] [(3,1,57)] (q3 (qL 3) (xTw 0 0 0) qI) (q1 (qB 0 1 57 xTm)) (fun (l,b,i,_) (a,_)=>(xfo l,(b,i,a),fun p=>(.leaf (.exit 0) [AV.osl 0 0 0 p.1] [bF 0 1 57 p.2]))) (0,[]) fun (l,_,_,_) _ (b,i,a)=>(((l,b,i,()),(a,())),xpp l b i a none)
def xyo (l:LA):=(Iter (xfo l) (0,0,[])).getD (0,[])
def xym (l:LA):=(xyo l).fst
def xyn (l:LA):=(xyo l).snd
def xyl (l:LA):=xwb (List.take (xym l) (List.drop 0 (xyn l)))
def xzD {T:Type} (l:LA) (δ:T) (κ:LA->T):T:=br ((Iter (xfo l) (0,0,[])).isSome) (br (decide (0+xym l<=(xyn l).length)&&true) (br ((xyl l).isSome) (κ ((xyl l).getD [])) δ) δ) δ
def xyS (l:LA):=xzD l none some
def xE0:EO:=xI2.f Tryz.func90 27 0 [] [(3,xzC.lp)] (lk1 xzC.ok) (u1 (uL 3)) (fun (l,_) _=>xzD l) (fun _ p=>AV.list 1 p) []
def xn7:Env:=xE0.E.fn 51 1 (lsOf []) (xSX [])
theorem xDP:xSB P0 (xTh.at 1) xn7:=xE0.ok.fn
theorem xBU:LoOk P0 (xTh.at xn7.pin) xn7 (Tryz.f125.body.getD .skip):=xsV (by kernel_rfl)
def xe4 (k:Nat) (a:LA):=(List.take ((i64.wrap ((↑k:Int) - 1)).toNat - 0) (List.drop 0 a)).length
def xsu (k:Nat) (a:LA):=decide (0+(i64.wrap ((↑k:Int) - 1)).toNat<a.length)
def xn9 (k:Nat) (a:LA):=((a.getD (0+(i64.wrap ((↑k:Int) - 1)).toNat) .top).cells.getD 1 .top).toInt
def xsv (k:Nat):=decide (0<=i64.wrap ((↑k:Int) - 1))
def xn8 (k:Nat):=xsv k&&decide (i64.wrap ((↑k:Int) - 1)<(↑k:Int))
def xst (k:Nat) (a:LA):=xsu k a&&xSz (Sh.int .i64) ((a.getD (0+(i64.wrap ((↑k:Int) - 1)).toNat) .top).cells.getD 1 .top)
def xmH {T:Type} (k:Nat) (a b:Int) (c:LA) (δ:T) (κ:Bool×(Nat×LA×LA)×(Nat×LA)->T):T:=br (rmB k c 1 16) (κ (false,(0,[],[]),(k+1,c++[AV.agg [AV.int .i64 a,AV.int .i64 b]]))) δ
def xp6 {T:Type} (k:Nat) (b c:Int) (a:LA) (δ:T) (κ:Bool×(Nat×LA×LA)×(Nat×LA)->T):T:=br (decide ((↑k:Int)>0)) (br (xn8 k) (br (xst k a) (br (decide (xn9 k a>=b)) (br (xsv k&&decide (i64.wrap ((↑k:Int) - 1)<=(↑k:Int))&&true) (br (decide (0+((i64.wrap ((↑k:Int) - 1)).toNat - 0)<=a.length)&&(decide (xe4 k a*16<=140737488355328)&&decide (xe4 k a<=4611686018427387904))) (br (xn8 k) (br (xsu k a&&xSz (Sh.int .i64) ((a.getD (0+(i64.wrap ((↑k:Int) - 1)).toNat) .top).cells.getD 0 .top)) (br (xn8 k) (br (xst k a) (br (xe4 k a==xe4 k a&&(decide ((xe4 k a+1)*16<=140737488355328)&&decide (xe4 k a+1<=4611686018427387904))) (κ (true,(xe4 k a+1,a,List.take ((i64.wrap ((↑k:Int) - 1)).toNat - 0) (List.drop 0 a)++[AV.agg [AV.int .i64 ((a.getD (0+(i64.wrap ((↑k:Int) - 1)).toNat) .top).cells.getD 0 .top).toInt,AV.int .i64 (if c>xn9 k a then c else xn9 k a)]]),(0,[]))) δ) δ) δ) δ) δ) δ) δ) (xmH k b c a δ κ)) δ) δ) (xmH k b c a δ κ)
def xcD (k:Nat) (a b:Int) (c:LA):=xp6 k a b c none some
theorem xHK (k:Nat) (a b:Int) (xs:LA):Enc (fun (p:Bool×(Nat×LA×LA)×(Nat×LA))=>((br p.1 ((AV.osl 1 0 0 p.2.1.1,([⟨0,2,35,p.2.1.2.1,false,true⟩,⟨0,2,35,p.2.1.2.2,false,true⟩]:List Box))) ((AV.osl 0 1 0 p.2.2.1,([⟨1,2,35,p.2.2.2,false,true⟩]:List Box)))):(AV×List Box))) (xcD k a b xs) (XFM P0 xn7 Tryz.f125 (Tryz.f125.body.getD .skip) [AV.osl (0:Id) 0 0 k,AV.agg [AV.int .i64 a,AV.int .i64 b]] [{ ver:=0,sz:=2,ty:=(35:TypeId),xs:=xs,frz:=false,pm:=true }]):=by
 refine eV (xp6 k a b xs none (fun (p:Bool×(Nat×LA×LA)×(Nat×LA))=>some ((br p.1 ((AV.osl 1 0 0 p.2.1.1,([⟨0,2,35,p.2.1.2.1,false,true⟩,⟨0,2,35,p.2.1.2.2,false,true⟩]:List Box))) ((AV.osl 0 1 0 p.2.2.1,([⟨1,2,35,p.2.2.2,false,true⟩]:List Box)))):(AV×List Box)))) (by kernel_rfl) ?_;unfold xcD xp6 xmH;repeat' first|exact eN|exact eS rfl|apply eB
def xHJ:LA->List Box->Option (Bool×AV×List Box):=omOf (xTj (sEq (xTw 0 0 0)) (xTj (xTC (xTj (sEq (pInt .i64)) (xTj (sEq (pInt .i64)) xTl))) xTl)) (xTi (xTA 0 2 (35:TypeId) false true xTm) xTk) fun (k,((a,(b,_)),_)) (c,_)=>((xcD k a b c).isSome,(AV.osl 1 0 0 (br ((xcD k a b c).getD (false,(0,[],[]),(0,[]))).1 ((xcD k a b c).getD (false,(0,[],[]),(0,[]))).2.1.1 ((xcD k a b c).getD (false,(0,[],[]),(0,[]))).2.2.1),
 ([⟨2,2,35,[],false,true⟩,⟨0,2,35,br ((xcD k a b c).getD (false,(0,[],[]),(0,[]))).1 ((xcD k a b c).getD (false,(0,[],[]),(0,[]))).2.1.2.2 ((xcD k a b c).getD (false,(0,[],[]),(0,[]))).2.2.2,false,true⟩]:List Box)))
theorem xHI:OmOk P0 xTh 125 (xHJ):=xq3 fun e f j h g=>by
 obtain ⟨k,⟨⟨c,⟨i,_⟩⟩,_⟩⟩:=e;obtain ⟨l,_⟩:=f;obtain ⟨b,a⟩:=Prod.mk.inj g;have hx:=xHK _ _ _ _ _ (xcf (d:=(false,(0,[],[]),(0,[]))) b);revert hx a;generalize ((xcD _ _ _ _).getD (false,(0,[],[]),(0,[])))=p;intro a hx;obtain ⟨rfl,rfl⟩:=Prod.mk.inj a;obtain ⟨t,⟨m,n,o⟩,q,r⟩:=p;have hg:GoodM P0 xTh 125 _ _ _ _:=xi9 (p:=xn7.pin) (xkm xSK (xSL P0 _) rfl xDP rfl Tryz.func125 rfl (by kernel_rfl) xBU hx)
 cases t
 . exact GoodM.move0 rfl (by decide) hg
 . exact GoodM.drop0 rfl (by decide) hg
def xOb:EO:=xE0.wM xHI
def xl7 {T:Type} (l c:LA) (b:Nat) (i:Int) (a:LA) (δ:T) (κl:(Nat×Int×LA)->T) (κr:(Nat×LA)->T):T:=br (decide (i<l.length)) (br (ixI l i) (br (ixS l i (Sh.list 3) 0) (br ((xbs (gC l i 0).toList c).isSome) (br ((xbs (gC l i 0).toList c).getD 0==0) (br (ixI l i) (br (ixT l i 3 [Sh.int .i64,Sh.int .i64] 1) (br (rmB b a 1 24) (κl (b+1,i64.wrap (i+1),a++[AV.agg [AV.int .i64 (gC l i 1).toInt,AV.int .i64 (gC l i 2).toInt,AV.int .i64 1]])) δ) δ) δ) (κl (b,i64.wrap (i+1),a))) δ) δ) δ) (κr (b,a))
def xeg (l b:LA):StT (Nat×Int×LA) (Nat×LA):=fun (c,i,a)=>xl7 l b c i a none inL inR
def xwQ:=xOb.l 32 0 [] [] Tryz.f91 0 lk0 [0,1,5,6] [5] [(5,3,89)] (q4 (qL 3) (qL 3) (xTw 0 0 0) qI) (q1 (qB 0 3 89 xTm)) (fun (l,b,c,i,_) (a,_)=>(xeg l b,(c,i,a),fun p=>(.leaf (.exit 0) [AV.osl 0 0 0 p.1] [bF 0 3 89 p.2]))) (0,[]) fun (l,b,_,_,_) _ (c,i,a)=>(((l,b,c,i,()),(a,())),xl7 l b c i a none)
def xuE (l a:LA):=(Iter (xeg l a) (0,0,[])).getD (0,[])
def xuC (l a:LA):=(xuE l a).fst
def xuD (l a:LA):=(xuE l a).snd
def xuB (l a:LA):=xDQ (List.take (xuC l a) (List.drop 0 (xuD l a)))
def xwe {T:Type} (l a:LA) (δ:T) (κ:LA->T):T:=br ((Iter (xeg l a) (0,0,[])).isSome) (br (decide (0+xuC l a<=(xuD l a).length)&&true) (br ((xuB l a).isSome) (κ ((xuB l a).getD [])) δ) δ) δ
def xuA (l a:LA):=xwe l a none some
def xDx:EO:=xOb.f Tryz.func91 32 0 [] [(3,xwQ.lp)] (lk1 xwQ.ok) (u2 (uL 3) (uL 3)) (fun (l,a,_) _=>xwe l a) (fun _ p=>AV.list 2 p) []
def xh9 {T:Type} (a:LA) (c:Nat) (i k:Int) (b:LA) (δ:T) (κl:(Int×LA)->T) (κr:(Int×LA)->T):T:=br (decide (k<a.length)) (br (ixI a k) (br (ixS a k (Sh.list 3) 0) (br (ixI a i) (br (ixS a i (Sh.list 3) 0) (br ((xbs (gC a k 0).toList (gC a i 0).toList).isSome) (br ((xbs (gC a k 0).toList (gC a i 0).toList).getD 0==0) (κl (i64.wrap (k+1),b)) (κr (k,b))) δ) δ) δ) δ) δ) (κr (k,b))
def xcm (c:LA) (b:Nat) (i:Int):StT (Int×LA) (Int×LA):=fun (k,a)=>xh9 c b i k a none inL inR
def xhl:=xDx.l 66 0 [] [] Tryz.f59 1 lk0 [3,4,5,6] [3,4,5,6] [(4,2,107)] (q4 (qL 3) (xTw 0 0 0) qI qI) (q1 (qB 0 2 107 xTm)) (fun (c,a,i,k,_) (b,_)=>(xcm c a i,(k,b),fun p=>(.leaf (.exit 2) [AV.list 3 c,AV.osl 0 0 0 a,AV.int .i64 i,AV.int .i64 p.1] [bF 0 2 107 p.2]))) (0,[]) fun (c,a,i,_,_) _ (k,b)=>(((c,a,i,k,()),(b,())),xh9 c a i k b none)
def xia {T:Type} (d:LA) (i k:Int) (a:LA) (c:Nat) (n:Int) (b:LA) (δ:T) (κl:(Nat×Int×LA)->T) (κr:(Nat×LA)->T):T:=br (decide (n<a.length)) (br (ixI a n) (br (ixS a n (Sh.list 3) 0) (br (decide (0<=k)&&decide (k<=d.length)&&(decide (0<=i)&&decide (i<=(↑k.toNat:Int)))) (br (ixI a n) (br (ixS a n (Sh.list 3) 0) (br ((xuA (List.take (k.toNat - i.toNat) (List.drop i.toNat d)) (gC a n 0).toList).isSome) (br (rmB c b 1 48) (κl (c+1,i64.wrap (n+1),b++[AV.agg [AV.list 3 (gC a n 0).toList,AV.list 2 ((xuA (List.take (k.toNat - i.toNat) (List.drop i.toNat d)) (gC a n 0).toList).getD [])]])) δ) δ) δ) δ) δ) δ) δ) (κr (c,b))
def xej (d:LA) (i k:Int) (c:LA):StT (Nat×Int×LA) (Nat×LA):=fun (b,n,a)=>xia d i k c b n a none inL inR
def xkK:=xDx.l 66 0 [] [(6,xhl.lp)] Tryz.f59 2 lk0 [3,4,5,6,7,8] [3,4,6] [(4,2,107)] (q6 (qL 3) (xTw 0 0 0) qI qI (qL 1) qI) (q1 (qB 0 2 107 xTm)) (fun (d,b,i,k,c,n,_) (a,_)=>(xej d i k c,(b,n,a),fun p=>(.leaf (.exit 4) [AV.list 3 d,AV.osl 0 0 0 p.1,AV.int .i64 k] [bF 0 2 107 p.2]))) (0,[]) fun (d,_,i,k,c,_,_) _ (b,n,a)=>(((d,b,i,k,c,n,()),(a,())),xia d i k c b n a none)
def xcS (c:LA) (b:Nat) (i:Int) (a:LA):=((Iter (xcm c b i) (i,a)).getD (0,[])).fst
def xqn (c:LA) (a:Nat) (i:Int) (b:LA):=Iter (xej c i (xcS c a i b) ((xyS (List.take ((xcS c a i b).toNat - i.toNat) (List.drop i.toNat c))).getD [])) (a,0,((Iter (xcm c a i) (i,b)).getD (0,[])).snd)
def xqm (c:LA) (b:Nat) (i:Int) (a:LA):=(xqn c b i a).getD (0,[])
def xma {T:Type} (c:LA) (b:Nat) (i:Int) (a:LA) (δ:T) (κl:(Nat×Int×LA)->T) (κr:(Nat×LA)->T):T:=br (decide (i<c.length)) (br ((Iter (xcm c b i) (i,a)).isSome) (br (decide (0<=xcS c b i a)&&decide (xcS c b i a<=c.length)&&(decide (0<=i)&&decide (i<=(↑(xcS c b i a).toNat:Int)))) (br ((xyS (List.take ((xcS c b i a).toNat - i.toNat) (List.drop i.toNat c))).isSome) (br ((xqn c b i a).isSome) (κl ((xqm c b i a).fst,xcS c b i a,(xqm c b i a).snd)) δ) δ) δ) δ) (κr (b,a))
def xei (c:LA):StT (Nat×Int×LA) (Nat×LA):=fun (b,i,a)=>xma c b i a none inL inR
def xwS:=xDx.l 66 0 [] [(6,xhl.lp),(10,xkK.lp)] Tryz.f59 0 (lks (lkC xhl.ok (lkC xkK.ok lkN))) [3,4,5] [4] [(4,2,107)] (q3 (qL 3) (xTw 0 0 0) qI) (q1 (qB 0 2 107 xTm)) (fun (c,b,i,_) (a,_)=>(xei c,(b,i,a),fun p=>(.leaf (.exit 0) [AV.osl 0 0 0 p.1] [bF 0 2 107 p.2]))) (0,[]) fun (c,_,_,_) _ (b,i,a)=>(((c,b,i,()),(a,())),xma c b i a none)
def xuR (l:LA):=Iter (xei ((xcn 100 l).getD [])) (0,0,[])
def xuQ (l:LA):=(xuR l).getD (0,[])
def xuO (l:LA):=(xuQ l).fst
def xuP (l:LA):=(xuQ l).snd
def xwg {T:Type} (l:LA) (δ:T) (κ:LA->T):T:=br ((xcn 100 l).isSome) (br ((xuR l).isSome) (br (decide (0+xuO l<=(xuP l).length)&&true) (κ (List.take (xuO l) (List.drop 0 (xuP l)))) δ) δ) δ
def xql (l:LA):=xwg l none some
def xK9:EO:=xDx.f Tryz.func59 66 0 [] [(6,xhl.lp),(10,xkK.lp),(4,xwS.lp)] (lks (lkC xwS.ok (lkC xhl.ok (lkC xkK.ok lkN)))) (u1 (uL 3)) (fun (l,_) _=>xwg l) (fun _ p=>AV.list 2 p) []
def xeR (l:LA) (n i:Int):=decide ((gC l i 1).toInt>=n)
def xck (l:LA) (i:Int):=ixI l i
def xea (l:LA) (b:Nat) (i:Int) (a:LA):=(xcD b (gC l i 0).toInt 1099511627776 a).getD (false,(0,[],[]),0,[])
def xeb (l:LA) (b:Nat) (i:Int) (a:LA):=xcD b (gC l i 0).toInt ((l.getD (i64.wrap (i+1)).toNat .top).cells.getD 0 .top).toInt a
def xec (l:LA) (i:Int):=decide (i64.wrap (i+1)<(↑l.length:Int))
def xeY (l:LA) (b:Nat) (i:Int) (a:LA):=(xeb l b i a).getD (false,(0,[],[]),0,[])
def xeZ (l:LA) (b:Nat) (i:Int) (a:LA):=(xea l b i a).snd
def xex (l:LA) (b:Nat) (i:Int) (a:LA):=(xea l b i a).fst
def xeU (l:LA) (b:Nat) (i:Int) (a:LA):=(xeY l b i a).fst
def xeV (l:LA) (b:Nat) (i:Int) (a:LA):=(xeY l b i a).snd
def xeW (l:LA) (b:Nat) (i:Int) (a:LA):=(xeZ l b i a).fst
def xeX (l:LA) (b:Nat) (i:Int) (a:LA):=(xeZ l b i a).snd
def xeS (l:LA) (b:Nat) (i:Int) (a:LA):=(xeV l b i a).fst
def xeT (l:LA) (b:Nat) (i:Int) (a:LA):=(xeV l b i a).snd
def xdW {T:Type} (l:LA) (n:Int) (b:Nat) (i:Int) (a:LA) (δ:T) (κl:(Nat×Int×LA)->T) (κr:(Nat×LA)->T):T:=br (decide (i<l.length)) (br (xec l i) (br (decide (0<=i64.wrap (i+1))&&xec l i) (br (decide ((i64.wrap (i+1)).toNat<l.length)&&xSz (Sh.int .i64) ((l.getD (i64.wrap (i+1)).toNat .top).cells.getD 0 .top)) (br (xck l i) (br (ixS l i (Sh.int .i64) 1) (br (xeR l n i) (br (xck l i) (br (ixS l i (Sh.int .i64) 0) (br ((xeb l b i a).isSome) (κl (br (xeU l b i a) (xeS l b i a).fst (xeT l b i a).fst,i64.wrap (i+1),br (xeU l b i a) (xeS l b i a).snd.snd (xeT l b i a).snd)) δ) δ) δ) (κl (b,i64.wrap (i+1),a))) δ) δ) δ) δ) (br (xck l i) (br (ixS l i (Sh.int .i64) 1) (br (xeR l n i) (br (xck l i) (br (ixS l i (Sh.int .i64) 0) (br ((xcD b (gC l i 0).toInt 1099511627776 a).isSome) (κl (br (xex l b i a) (xeW l b i a).fst (xeX l b i a).fst,i64.wrap (i+1),br (xex l b i a) (xeW l b i a).snd.snd (xeX l b i a).snd)) δ) δ) δ) (κl (b,i64.wrap (i+1),a))) δ) δ)) (κr (b,a))
def xbn (l:LA) (n:Int):StT (Nat×Int×LA) (Nat×LA):=fun (b,i,a)=>xdW l n b i a none inL inR
def xvD:=xK9.l 42 0 [] [] Tryz.f92 0 lk0 [0,1,5,6] [5] [(5,2,35)] (q4 (qL 2) qI (xTw 0 0 0) qI) (q1 (qB 0 2 35 xTm)) (fun (l,n,b,i,_) (a,_)=>(xbn l n,(b,i,a),fun p=>(.leaf (.exit 0) [AV.osl 0 0 0 p.1] [bF 0 2 35 p.2]))) (0,[]) fun (l,n,_,_,_) _ (b,i,a)=>(((l,n,b,i,()),(a,())),xdW l n b i a none)
def xs1 (l:LA) (n:Int):=(Iter (xbn l n) (0,0,[])).getD (0,[])
def xsx (l:LA) (n:Int):=(xs1 l n).snd
def xs0 (l:LA) (n:Int):=(xs1 l n).fst
def xue {T:Type} (l:LA) (n:Int) (δ:T) (κ:LA->T):T:=br ((Iter (xbn l n) (0,0,[])).isSome) (br (decide (0+xs0 l n<=(xsx l n).length)&&true) (κ (List.take (xs0 l n) (List.drop 0 (xsx l n)))) δ) δ
def xf9 (l:LA) (n:Int):=xue l n none some
def xLa:EO:=xK9.f Tryz.func92 42 0 [] [(3,xvD.lp)] (lk1 xvD.ok) (u2 (uL 2) uI) (fun (l,n,_) _=>xue l n) (fun _ p=>AV.list 2 p) []
def xl2 (l:LA) (i:Int):=decide (i.toNat<l.length)&&((l.getD i.toNat .top).cells.length==2&&xSG [Sh.int .i64,Sh.int .i64] (l.getD i.toNat .top).cells 0)
def xjp {T:Type} (l:LA) (b:Nat) (i c d:Int) (a:LA) (δ:T) (κl:(Nat×Int×Int×Int×LA)->T) (κr:(Nat×Int×Int×Int×LA)->T):T:=br (decide (i<l.length)) (br (ixI l i) (br (xl2 l i) (br (decide (xss (gC l i 0).toInt (gC l i 1).toInt c d<=0)) (br (ixI l i) (br (xl2 l i) (br (rmB b a 1 16) (κl (b+1,i64.wrap (i+1),c,d,a++[AV.agg [AV.int .i64 (gC l i 0).toInt,AV.int .i64 (gC l i 1).toInt]])) δ) δ) δ) (κr (b,i,c,d,a))) δ) δ) (κr (b,i,c,d,a))
def xdj (l:LA):StT (Nat×Int×Int×Int×LA) (Nat×Int×Int×Int×LA):=fun (b,i,c,d,a)=>xjp l b i c d a none inL inR
def xyD:=xLa.l 38 0 [] [] Tryz.f93 0 lk0 [0,3,5,6] [0,3,5,6] [(5,2,35)] (q4 (qL 2) (xTy 0 0 0 0) (xTw 1 0 0) qI) (q2 (qB 0 2 35 (q1 (xTz (q2 qI qI)))) (qB 0 2 35 xTm)) (fun (l,_,b,i,_) (((c,d,_),_),a,_)=>(xdj l,(b,i,c,d,a),fun p=>(.leaf (.exit 0) [AV.list 2 l,AV.own 0 0 0 0,AV.osl 1 0 0 p.1,AV.int .i64 p.2.1] [bF 0 2 35 [AV.agg [AV.int .i64 p.2.2.1,AV.int .i64 p.2.2.2.1]],bF 0 2 35 p.2.2.2.2]))) (0,0,0,0,[]) fun (l,_,_,_,_) _ (b,i,c,d,a)=>(((l,(),b,i,()),(((c,d,()),()),a,())),xjp l b i c d a none)
def xuj (l:LA) (a b:Int):=Iter (xdj l) (0,0,a,b,[])
def xui (l:LA) (a b:Int):=(xuj l a b).getD (0,0,0,0,[])
def xwa (l:LA) (a b:Int):=(xui l a b).fst
def xuh (l:LA) (a b:Int):=(xui l a b).snd
def xmR (l:LA) (a b:Int):=xwa l a b+1
def xmS (l:LA) (a b:Int):=(xuh l a b).fst
def xv9 (l:LA) (a b:Int):=(xuh l a b).snd
def xv6 (l:LA) (a b:Int):=List.take (l.length - (xmS l a b).toNat) (List.drop (xmS l a b).toNat l)
def xv8 (l:LA) (a b:Int):=(xv9 l a b).snd
def xmQ (l:LA) (a b:Int):=xmR l a b+(xv6 l a b).length
def xv7 (l:LA) (a b:Int):=(xv8 l a b).snd
def xv5 (l:LA) (a b:Int):=xv7 l a b++[AV.agg [AV.int .i64 (xv9 l a b).fst,AV.int .i64 (xv8 l a b).fst]]
def xv4 (l:LA) (a b:Int):=xv5 l a b++xv6 l a b
def xyd {T:Type} (l:LA) (a b:Int) (δ:T) (κ:LA->T):T:=br ((xuj l a b).isSome) (br (xwa l a b==(xv7 l a b).length&&(decide (xmR l a b*16<=140737488355328)&&decide (xmR l a b<=4611686018427387904))) (br (decide (0<=xmS l a b)&&decide (xmS l a b<=l.length)) (br (xmR l a b==(xv5 l a b).length&&(decide (xmQ l a b*16<=140737488355328)&&decide (xmQ l a b<=4611686018427387904))) (br (decide (0+xmQ l a b<=(xv4 l a b).length)&&true) (κ (List.take (xmQ l a b) (List.drop 0 (xv4 l a b)))) δ) δ) δ) δ) δ
def xwy (l:LA) (a b:Int):=xyd l a b none some
def xGI:EO:=xLa.f Tryz.func93 38 0 [] [(3,xyD.lp)] (lk1 xyD.ok) (u2 (uL 2) (xTC (u2 uI uI))) (fun (l,(a,b,_),_) _=>xyd l a b) (fun _ p=>AV.list 2 p) []
def xl1 {T:Type} (l:LA) (n:Int) (a b:LA) (i:Int) (δ:T) (κl:(LA×Int)->T) (κr:(LA)->T):T:=br (decide (i<a.length)) (br (ixI a i) (br (ixT a i 2 [Sh.int .i64,Sh.int .i64] 0) (br ((xwy b (gC a i 0).toInt (gC a i 1).toInt).isSome) (κl ((xwy b (gC a i 0).toInt (gC a i 1).toInt).getD [],i64.wrap (i+1))) δ) δ) δ) (κr (b))
def xc4 (l:LA) (n:Int) (b:LA):StT (LA×Int) (LA):=fun (a,i)=>xl1 l n b a i none inL inR
def xky:=xGI.l 31 0 [] [] Tryz.f61 1 lk0 [0,3,4,5,6] [0,3,4] [(3,2,1073741824)] (q5 (qL 2) (qL 2) qI (qL 2) qI) xTk (fun (l,a,n,b,i,_) _=>(xc4 l n b,(a,i),fun p=>(.leaf (.exit 2) [AV.list 2 l,AV.list 2 p,AV.int .i64 n] []))) [] fun (l,_,n,b,_,_) _ (a,i)=>(((l,a,n,b,i,()),()),xl1 l n b a i none)
def xl0 {T:Type} (l a:LA) (n:Int) (δ:T) (κl:(LA×Int)->T) (κr:(Bool×(LA×LA)×(LA))->T):T:=br (decide (n<=1048576)) (br ((xf9 l n).isSome) (br ((↑((xf9 l n).getD []).length:Int)==0) (κr (true,(a,a),[])) (br ((Iter (xc4 l n ((xf9 l n).getD [])) (a,0)).isSome) (κl ((Iter (xc4 l n ((xf9 l n).getD [])) (a,0)).getD [],i64.wrap (n+1))) δ)) δ) (κr (false,([],[]),(a)))
def xc3 (l:LA):StT (LA×Int) (Bool×(LA×LA)×(LA)):=fun (a,n)=>xl0 l a n none inL inR
def xwH:=xGI.l 31 0 [] [(9,xky.lp)] Tryz.f61 0 (lk1 xky.ok) [0,3,4] [2,3] [(3,2,1073741824)] (q3 (qL 2) (qL 2) qI) xTk (fun (l,a,n,_) _=>(xc3 l,(a,n),fun p=>(.node p.1 (.leaf .ret [AV.list 2 p.2.1.1,AV.list 2 p.2.1.2] []) (.leaf (.exit 0) [.top,AV.list 2 p.2.2] [])))) (false,([],[]),[]) fun (l,_,_,_) _ (a,n)=>(((l,a,n,()),()),xl0 l a n none)
def xug (l:LA):=(Iter (xc3 l) ([],1)).getD (false,([],[]),[])
def xuf (l:LA):=(xug l).snd
def xv3 {T:Type} (l:LA) (δ:T) (κ:LA->T):T:=br ((Iter (xc3 l) ([],1)).isSome) (br ((xug l).fst) (κ ((xuf l).fst.fst)) (κ ((xuf l).snd))) δ
def xfX (l:LA):=xv3 l none some
def xLb:EO:=xGI.f Tryz.func61 31 0 [] [(9,xky.lp),(3,xwH.lp)] (lks (lkC xwH.ok (lkC xky.ok lkN))) (u1 (uL 2)) (fun (l,_) _=>xv3 l) (fun _ p=>AV.list 2 p) []
def xl8 {T:Type} (d c:LA) (b:Nat) (i:Int) (a:LA) (δ:T) (κl:(Nat×Int×LA)->T) (κr:(Nat×LA)->T):T:=br (decide (i<c.length)) (br (ixI c i) (br (ixT c i 2 [Sh.int .i64,Sh.int .i64] 0) (br (rmB b a 1 40) (κl (b+1,i64.wrap (i+1),a++[AV.agg [AV.list 3 d,AV.int .i64 (gC c i 0).toInt,AV.int .i64 (gC c i 1).toInt]])) δ) δ) δ) (κr (b,a))
def xc5 (c d:LA):StT (Nat×Int×LA) (Nat×LA):=fun (b,i,a)=>xl8 c d b i a none inL inR
def xwR:=xLb.l 23 0 [] [] Tryz.f60 0 lk0 [0,1,5,6] [5] [(5,3,59)] (q4 (qL 3) (qL 2) (xTw 0 0 0) qI) (q1 (qB 0 3 59 xTm)) (fun (c,d,b,i,_) (a,_)=>(xc5 c d,(b,i,a),fun p=>(.leaf (.exit 0) [AV.osl 0 0 0 p.1] [bF 0 3 59 p.2]))) (0,[]) fun (c,d,_,_,_) _ (b,i,a)=>(((c,d,b,i,()),(a,())),xl8 c d b i a none)
def xuH (a b:LA):=(Iter (xc5 a b) (0,0,[])).getD (0,[])
def xuF (a b:LA):=(xuH a b).snd
def xuG (a b:LA):=(xuH a b).fst
def xwf {T:Type} (a b:LA) (δ:T) (κ:LA->T):T:=br ((Iter (xc5 a b) (0,0,[])).isSome) (br (decide (0+xuG a b<=(xuF a b).length)&&true) (κ (List.take (xuG a b) (List.drop 0 (xuF a b)))) δ) δ
def xqk (a b:LA):=xwf a b none some
def xLc:EO:=xLb.f Tryz.func60 23 0 [] [(3,xwR.lp)] (lk1 xwR.ok) (u2 (uL 3) (uL 2)) (fun (a,b,_) _=>xwf a b) (fun _ p=>AV.list 3 p) []
def xpn (g:LA) (a:Nat) (i:Int):=a+((xqk (gC g i 0).toList ((xfX (gC g i 1).toList).getD [])).getD []).length
def xri {T:Type} (g:LA) (a:Nat) (i:Int) (b:LA) (δ:T) (κl:(Nat×Int×LA)->T) (κr:(Nat×LA)->T):T:=br (decide (i<g.length)) (br (ixI g i) (br (ixS g i (Sh.list 3) 0) (br (ixI g i) (br (ixS g i (Sh.list 2) 1) (br ((xfX (gC g i 1).toList).isSome) (br ((xqk (gC g i 0).toList ((xfX (gC g i 1).toList).getD [])).isSome) (br (a==b.length&&(decide (xpn g a i*40<=140737488355328)&&decide (xpn g a i<=4611686018427387904))) (κl (xpn g a i,i64.wrap (i+1),b++(xqk (gC g i 0).toList ((xfX (gC g i 1).toList).getD [])).getD [])) δ) δ) δ) δ) δ) δ) δ) (κr (a,b))
def xf6 (g:LA):StT (Nat×Int×LA) (Nat×LA):=fun (b,i,a)=>xri g b i a none inL inR
def xz3:=xLc.l 29 0 [] [] Tryz.f29 0 lk0 [3,4,5] [4] [(4,3,59)] (q3 (qL 2) (xTw 0 0 0) qI) (q1 (qB 0 3 59 xTm)) (fun (g,b,i,_) (a,_)=>(xf6 g,(b,i,a),fun p=>(.leaf (.exit 0) [AV.osl 0 0 0 p.1] [bF 0 3 59 p.2]))) (0,[]) fun (g,_,_,_) _ (b,i,a)=>(((g,b,i,()),(a,())),xri g b i a none)
def xzB (l:LA):=(Iter (xf6 ((xql l).getD [])) (0,0,[])).getD (0,[])
def xzz (l:LA):=(xzB l).fst
def xzA (l:LA):=(xzB l).snd
def xAr {T:Type} (l:LA) (δ:T) (κ:LA->T):T:=br ((xql l).isSome) (br ((Iter (xf6 ((xql l).getD [])) (0,0,[])).isSome) (br (decide (0+xzz l<=(xzA l).length)&&true) (κ (List.take (xzz l) (List.drop 0 (xzA l)))) δ) δ) δ
def xtH (l:LA):=xAr l none some
def xPR:EO:=xLc.f Tryz.func29 29 0 [] [(4,xz3.lp)] (lk1 xz3.ok) (u1 (uL 3)) (fun (l,_) _=>xAr l) (fun _ p=>AV.list 3 p) []
def xrQ {T:Type} (l:LA) (δ:T) (κ:Bool->T):T:=br ((xtH l).isSome) (br ((xkI l ((xtH l).getD [])).isSome) (κ ((xkI l ((xtH l).getD [])).getD false)) δ) δ
def xpo (l:LA):=xrQ l none some
def xLd:EO:=xPR.f Tryz.func25 7 0 [] [] lk0 (u1 (uL 3)) (fun (l,_) _=>xrQ l) (fun _ p=>AV.bool p) false
def xfn (l:LA) (i:Int):=ixI l i
def xrS {T:Type} (l a:LA) (i:Int) (δ:T) (κl:(LA×Int)->T) (κr:(LA)->T):T:=br (decide (i<l.length)) (br (xfn l i) (br (ixT l i 3 [Sh.int .i64,Sh.int .i64] 1) (br (xdg (gC l i 1).toInt (gC l i 2).toInt) (br (xfn l i) (br (ixS l i (Sh.int .i64) 1) (br ((xcH a (gC l i 1).toInt).isSome) (br (xfn l i) (br (ixS l i (Sh.int .i64) 2) (br (decide ((gC l i 2).toInt<1099511627776)) (br (xfn l i) (br (ixS l i (Sh.int .i64) 2) (br ((xcH ((xcH a (gC l i 1).toInt).getD []) (gC l i 2).toInt).isSome) (κl ((xcH ((xcH a (gC l i 1).toInt).getD []) (gC l i 2).toInt).getD [],i64.wrap (i+1))) δ) δ) δ) (κl ((xcH a (gC l i 1).toInt).getD [],i64.wrap (i+1)))) δ) δ) δ) δ) δ) (κl (a,i64.wrap (i+1)))) δ) δ) (κr (a))
def xfZ (l:LA):StT (LA×Int) (LA):=fun (a,i)=>xrS l a i none inL inR
def xAx {T:Type} (l:LA) (δ:T) (κ:LA->T):T:=br ((Iter (xfZ l) ([AV.int .i64 0],0)).isSome) (κ ((Iter (xfZ l) ([AV.int .i64 0],0)).getD [])) δ
def xuN (l:LA):=xAx l none some
def xsB {T:Type} (l:LA) (t:Int) (b:Nat) (i:Int) (a:LA) (δ:T) (κl:(Nat×Int×LA)->T) (κr:(Nat×LA)->T):T:=br (decide (i<l.length)) (br (ixI l i) (br (ixT l i 3 [Sh.int .i64,Sh.int .i64] 1) (br (xmG (gC l i 1).toInt (gC l i 2).toInt t) (br (ixI l i) (br (ixS l i (Sh.list 3) 0) (br (rmB b a 1 24) (κl (b+1,i64.wrap (i+1),a++[AV.list 3 (gC l i 0).toList])) δ) δ) δ) (κl (b,i64.wrap (i+1),a))) δ) δ) (κr (b,a))
def xgV (l:LA) (t:Int):StT (Nat×Int×LA) (Nat×LA):=fun (b,i,a)=>xsB l t b i a none inL inR
def xAY:=xLd.l 30 0 [] [] Tryz.f53 0 lk0 [0,1,5,6] [5] [(5,1,57)] (q4 (qL 3) qI (xTw 0 0 0) qI) (q1 (qB 0 1 57 xTm)) (fun (l,t,b,i,_) (a,_)=>(xgV l t,(b,i,a),fun p=>(.leaf (.exit 0) [AV.osl 0 0 0 p.1] [bF 0 1 57 p.2]))) (0,[]) fun (l,t,_,_,_) _ (b,i,a)=>(((l,t,b,i,()),(a,())),xsB l t b i a none)
def xAq (l:LA) (t:Int):=(Iter (xgV l t) (0,0,[])).getD (0,[])
def xAo (l:LA) (t:Int):=(xAq l t).snd
def xAp (l:LA) (t:Int):=(xAq l t).fst
def xAn (l:LA) (t:Int):=xip (List.take (xAp l t) (List.drop 0 (xAo l t)))
def xBn {T:Type} (l:LA) (t:Int) (δ:T) (κ:LA->T):T:=br ((Iter (xgV l t) (0,0,[])).isSome) (br (decide (0+xAp l t<=(xAo l t).length)&&true) (br ((xAn l t).isSome) (κ ((xAn l t).getD [])) δ) δ) δ
def xh4 (l:LA) (t:Int):=xBn l t none some
def xLe:EO:=xLd.f Tryz.func53 30 0 [] [(3,xAY.lp)] (lk1 xAY.ok) (u2 (uL 3) uI) (fun (l,t,_) _=>xBn l t) (fun _ p=>AV.list 1 p) []
def xj3 {T:Type} (a b:LA) (i:Int) (δ:T) (κl:(Int)->T) (κr:(Bool×(Bool)×(Unit))->T):T:=br (decide (i<a.length)) (br (ixI a i) (br (ixS a i (Sh.list 3) 0) (br (ixI b i) (br (ixS b i (Sh.list 3) 0) (br ((xlz (gC a i 0).toList (gC b i 0).toList).isSome) (br (!(xlz (gC a i 0).toList (gC b i 0).toList).getD false) (κr (true,(false),())) (κl (i64.wrap (i+1)))) δ) δ) δ) δ) δ) (κr (false,false,()))
def xcs (a b:LA):StT (Int) (Bool×(Bool)×(Unit)):=fun (i)=>xj3 a b i none inL inR
def xus:=xLe.l 27 0 [] [] Tryz.f52 0 lk0 [0,1,5] [4] [] (q3 (qL 1) (qL 1) qI) xTk (fun (a,b,i,_) _=>(xcs a b,(i),fun p=>(.node p.1 (.leaf .ret [AV.bool p.2.1] []) (.leaf (.exit 0) [.top] [])))) (false,false,()) fun (a,b,_,_) _ (i)=>(((a,b,i,()),()),xj3 a b i none)
def xs4 {T:Type} (a b:LA) (δ:T) (κ:Bool->T):T:=br ((↑a.length:Int) != (↑b.length:Int)) (κ (false)) (br ((Iter (xcs a b) 0).isSome) (br (((Iter (xcs a b) 0).getD (false,false,())).fst) (κ (((Iter (xcs a b) 0).getD (false,false,())).snd.fst)) (κ (true))) δ)
def xgU (a b:LA):=xs4 a b none some
def xPS:EO:=xLe.f Tryz.func52 27 0 [] [(4,xus.lp)] (lk1 xus.ok) (u2 (uL 1) (uL 1)) (fun (a,b,_) _=>xs4 a b) (fun _ p=>AV.bool p) false
def xkJ (a:LA) (i:Int):=decide (i64.wrap (i+1)<(↑a.length:Int))
def xl9 {T:Type} (c:LA) (b:Nat) (i:Int) (a:LA) (δ:T) (κl:(Nat×Int×LA)->T) (κr:(Nat×LA)->T):T:=br (decide (i<c.length)) (br (xkJ c i) (br (decide (0<=i64.wrap (i+1))&&xkJ c i) (br (decide ((i64.wrap (i+1)).toNat<c.length)&&xSz (Sh.int .i64) ((c.getD (i64.wrap (i+1)).toNat .top).cells.getD 0 .top)) (br (ixI c i) (br (ixS c i (Sh.int .i64) 0) (br (rmB b a 1 16) (κl (b+1,i64.wrap (i+1),a++[AV.agg [AV.int .i64 (gC c i 0).toInt,AV.int .i64 ((c.getD (i64.wrap (i+1)).toNat .top).cells.getD 0 .top).toInt]])) δ) δ) δ) δ) δ) (br (ixI c i) (br (ixS c i (Sh.int .i64) 0) (br (rmB b a 1 16) (κl (b+1,i64.wrap (i+1),a++[AV.agg [AV.int .i64 (gC c i 0).toInt,AV.int .i64 1099511627776]])) δ) δ) δ)) (κr (b,a))
def xeh (c:LA):StT (Nat×Int×LA) (Nat×LA):=fun (b,i,a)=>xl9 c b i a none inL inR
def xuM (a b:LA):=Iter (xeh ((xuN (List.take (a.length+b.length) (List.drop 0 (a++b)))).getD [])) (0,0,[])
def xuL (a b:LA):=(xuM a b).getD (0,[])
def xuJ (a b:LA):=(xuL a b).snd
def xuK (a b:LA):=(xuL a b).fst
def xAZ {T:Type} (a b:LA) (δ:T) (κ:LA->T):T:=br (decide (a.length*40<=140737488355328)&&decide (a.length<=4611686018427387904)) (br (a.length==a.length&&(decide ((a.length+b.length)*40<=140737488355328)&&decide (a.length+b.length<=4611686018427387904))) (br (decide (0+(a.length+b.length)<=(a++b).length)&&true) (br ((xuN (List.take (a.length+b.length) (List.drop 0 (a++b)))).isSome) (br ((xuM a b).isSome) (br (decide (0+xuK a b<=(xuJ a b).length)&&true) (κ (List.take (xuK a b) (List.drop 0 (xuJ a b)))) δ) δ) δ) δ) δ) δ
def xuI (a b:LA):=xAZ a b none some
def xrP {T:Type} (b:LA) (c:Nat) (i d e:Int) (a:LA) (δ:T) (κl:(Nat×Int×Int×Int×LA)->T) (κr:(Nat×LA)->T):T:=br (decide (i<b.length)) (br (ixI b i) (br (ixS b i (Sh.list 3) 0) (br (rmB c a 1 40) (κl (c+1,i64.wrap (i+1),d,e,a++[AV.agg [AV.list 3 (gC b i 0).toList,AV.int .i64 d,AV.int .i64 e]])) δ) δ) δ) (κr (c,a))
def xiz (c:LA):StT (Nat×Int×Int×Int×LA) (Nat×LA):=fun (b,i,d,e,a)=>xrP c b i d e a none inL inR
def xuz (a:LA) (b c:Int):=Iter (xiz a) (0,0,b,c,[])
def xuy (a:LA) (b c:Int):=(xuz a b c).getD (0,[])
def xuv (a:LA) (b c:Int):=(xuy a b c).fst
def xuw (a:LA) (b c:Int):=(xuy a b c).snd
def xAX {T:Type} (a:LA) (b c:Int) (δ:T) (κ:LA->T):T:=br ((xuz a b c).isSome) (br (decide (0+xuv a b c<=(xuw a b c).length)&&true) (κ (List.take (xuv a b c) (List.drop 0 (xuw a b c)))) δ) δ
def xzy (a:LA) (b c:Int):=xAX a b c none some
def xtd {T:Type} (b a:LA) (t:Int) (δ:T) (κ:LA×LA->T):T:=br ((xh4 a t).isSome) (κ (b,(xh4 a t).getD [])) δ
def xjc (b a:LA) (t:Int):=xtd b a t none some
def xLf:EO:=xPS.f Tryz.func27 12 0 [] [] lk0 (u2 (xTC (u2 (uL 1) (uL 3))) uI) (fun ((b,a,_),t,_) _=>xtd b a t) (fun _ p=>AV.agg [AV.list 1 p.1,AV.list 1 p.2]) ([],[])
def xvp {T:Type} (b:List UInt8) (c a:Int) (δ:T) (κl:(Int)->T) (κr:(Bool×(Bool)×(Unit))->T):T:=br (decide (a<c)) (br (decide (0<=a)&&decide (a<b.length)) (br (decide ((↑(b.getD a.toNat (0:UInt8)).toNat:Int)<32)) (κr (true,(false),())) (br (decide (0<=a)&&decide (a<b.length)) (br (decide ((↑(b.getD a.toNat (0:UInt8)).toNat:Int)>126)) (κr (true,(false),())) (κl (i64.wrap (a+1)))) δ)) δ) (κr (false,false,()))
def xgj (a:List UInt8) (b:Int):StT (Int) (Bool×(Bool)×(Unit)):=fun (c)=>xvp a b c none inL inR
def xtN:=xLf.l 20 0 [] [] Tryz.f190 0 lk0 [0,5,6] [2] [] (q3 pStr qI qI) xTk (fun (a,b,c,_) _=>(xgj a b,(c),fun p=>(.node p.1 (.leaf .ret [AV.bool p.2.1] []) (.leaf (.exit 0) [.top] [])))) (false,false,()) fun (a,b,_,_) _ (c)=>(((a,b,c,()),()),xvp a b c none)
def xyI {T:Type} (a:List UInt8) (δ:T) (κ:Bool->T):T:=br ((Iter (xgj a (↑a.length:Int)) 0).isSome) (br (((Iter (xgj a (↑a.length:Int)) 0).getD (false,false,())).fst) (κ (((Iter (xgj a (↑a.length:Int)) 0).getD (false,false,())).snd.fst)) (κ (true))) δ
def xz8 (a:List UInt8):=xyI a none some
def xPT:EO:=xLf.f Tryz.func190 20 0 [] [(2,xtN.lp)] (lk1 xtN.ok) (u1 (sEq pStr)) (fun (a,_) _=>xyI a) (fun _ p=>AV.bool p) false
def xyz {T:Type} (c a:Int) (b:List UInt8) (δ:T) (κ:Bool->T):T:=br (c==0) (br (a==0) (κ (b==[])) (κ (false))) (br (c==1) (br (b==[]) (br (decide (a>=(-1125899906842624))) (κ (decide (a<=1125899906842624))) (κ (false))) (κ (false))) (br (c==2) (br (a==0) (br (decide ((↑b.length:Int)<=200)) (br ((xz8 b).isSome) (κ ((xz8 b).getD false)) δ) (κ (false))) (κ (false))) (br (c==3) (br (b==[]) (br (a==0) (κ (true)) (κ (a==1))) (κ (false))) (κ (false)))))
def xAJ (a b:Int) (c:List UInt8):=xyz a b c none some
def xPU:EO:=xPT.f Tryz.func166 61 0 [] [] lk0 (u1 (xTC (u3 uI uI (sEq pStr)))) (fun ((a,b,c,_),_) _=>xyz a b c) (fun _ p=>AV.bool p) false
def xKW:Int×Int×List UInt8:=((0,0,[]))
def xH7 {T:Type} (δ:T) (κ:Int×Int×List UInt8->T):T:=κ (0,0,[])
def xPV:EO:=xPU.fT Tryz.func108 2 0 [] [] lk0 (fun _=>xH7 none) xTl (fun _=>xKW) (fun _ p=>(AV.agg [AV.int .i64 p.1,AV.int .i64 p.2.1,AV.str p.2.2]))
def xwp {T:Type} (a b:Int) (c:List UInt8) (δ:T) (κ:Int×Int×List UInt8->T):T:=br ((xAJ a b c).isSome) (br (!(xAJ a b c).getD false) (κ (0,0,[])) (κ (a,b,c))) δ
def xqQ (a b:Int) (c:List UInt8):=xwp a b c none some
def xPW:EO:=xPV.f Tryz.func135 8 0 [] [] lk0 (u1 (xTC (u3 uI uI (sEq pStr)))) (fun ((a,b,c,_),_) _=>xwp a b c) (fun _ p=>AV.agg [AV.int .i64 p.1,AV.int .i64 p.2.1,AV.str p.2.2]) (0,0,[])
def xAI {T:Type} (n:Int) (δ:T) (κ:Int×Int×List UInt8->T):T:=br ((xqQ 1 n []).isSome) (κ (((xqQ 1 n []).getD (0,0,[])).fst,((xqQ 1 n []).getD (0,0,[])).snd.fst,((xqQ 1 n []).getD (0,0,[])).snd.snd)) δ
def xeM (n:Int):=xAI n none some
def xPX:EO:=xPW.f Tryz.func107 6 0 [] [] lk0 (u1 uI) (fun (n,_) _=>xAI n) (fun _ p=>AV.agg [AV.int .i64 p.1,AV.int .i64 p.2.1,AV.str p.2.2]) (0,0,[])
def xBD {T:Type} (a:LA) (i:Int) (δ:T) (κ:Int×Int×List UInt8->T):T:=br (decide (i<0)) (κ (0,0,[])) (br (decide (i>=a.length)) (κ (0,0,[])) (br (ixI a i) (br (ixT a i 3 [Sh.int .i64,Sh.int .i64,Sh.str] 0) (κ ((gC a i 0).toInt,(gC a i 1).toInt,(gC a i 2).toStr)) δ) δ))
def xBC (a:LA) (i:Int):=xBD a i none some
def xLg:EO:=xPX.f Tryz.func101 18 0 [] [] lk0 (u2 (uL 3) uI) (fun (a,i,_) _=>xBD a i) (fun _ p=>AV.agg [AV.int .i64 p.1,AV.int .i64 p.2.1,AV.str p.2.2]) (0,0,[])
def xn1 (a b:LA) (c:Int):=(xBC a (gC b c 0).toInt).getD (0,0,[])
def xn0 (a b:LA) (c:Int):=(xn1 a b c).snd
def xpr {T:Type} (e c:LA) (f:Int) (d:Nat) (a:Int) (b:LA) (δ:T) (κl:(Nat×Int×LA)->T) (κr:(Nat×LA)->T):T:=br (decide (a<f)) (br (ixI c a) (br (ixS c a (Sh.int .i64) 0) (br ((xBC e (gC c a 0).toInt).isSome) (br (rmB d b 1 32) (κl (d+1,i64.wrap (a+1),b++[AV.agg [AV.int .i64 (xn1 e c a).fst,AV.int .i64 (xn0 e c a).fst,AV.str (xn0 e c a).snd]])) δ) δ) δ) δ) (κr (d,b))
def xft (c d:LA) (e:Int):StT (Nat×Int×LA) (Nat×LA):=fun (b,f,a)=>xpr c d e b f a none inL inR
def xzO:=xLg.l 25 0 [] [] Tryz.f66 0 lk0 [0,5,11,12,13] [5] [(5,3,76)] (q5 (qL 3) (xTw 0 0 0) (qL 1) qI qI) (q1 (qB 0 3 76 xTm)) (fun (c,b,d,e,f,_) (a,_)=>(xft c d e,(b,f,a),fun p=>(.leaf (.exit 0) [AV.osl 0 0 0 p.1] [bF 0 3 76 p.2]))) (0,[]) fun (c,_,d,e,_,_) _ (b,f,a)=>(((c,b,d,e,f,()),(a,())),xpr c d e b f a none)
def xyy (a b:LA):=(Iter (xft a b (↑b.length:Int)) (0,0,[])).getD (0,[])
def xzP {T:Type} (b a:LA) (δ:T) (κ:Nat×LA->T):T:=br (decide (32*(↑a.length:Int)<=281474976710656)&&decide ((↑a.length:Int)<=4611686018427387904)) (br ((Iter (xft b a (↑a.length:Int)) (0,0,[])).isSome) (κ ((xyy b a).fst,(xyy b a).snd)) δ) δ
def xdH (a b:LA):=xzP a b none some
def xGJ:EO:=xLg.fM Tryz.func66 25 0 [] [(3,xzO.lp)] (lk1 xzO.ok) (u2 (uL 3) (uL 1)) xTk (fun (a,b,_) _ _=>xzP a b) (fun _ _ p=>(AV.osl 0 0 0 p.1,([bF 0 3 76 p.2]:List Box))) (0,[])
def xgk (b:Int) (a:LA):=((a.getD (0+b.toNat) .top).cells.getD 0 .top).toInt
def xow (d:Int) (c:Nat) (b a:LA):=((xaQ (Lib.itoa (xgk d b)) c a).getD (0,0,[])).snd
def xov (d:Int) (c:Nat) (b a:LA):=xbr 32 (xow d c b a).fst (xow d c b a).snd
def xou (d:Int) (c:Nat) (b a:LA):=(xov d c b a).getD (0,[])
def xkg {T:Type} (k:LA) (l j:Int) (e:Nat) (i c:Int) (d:Nat) (f g:Int) (h:List UInt8) (a b:LA) (δ:T) (κl:(Int×Nat×Int×Int×List UInt8×LA×LA)->T) (κr:(Nat×Int×Int×List UInt8×LA)->T):T:=br (decide (c<i)) (br (decide (0<=c)&&decide (c<(↑e:Int))) (br (decide (0+c.toNat<a.length)&&xSz (Sh.int .i64) ((a.getD (0+c.toNat) .top).cells.getD 0 .top)) (br (decide ((-9223372036854775808)<=xgk c a)&&decide (xgk c a<=9223372036854775807)) (br ((xaQ (Lib.itoa (xgk c a)) d b).isSome) (br ((xov c d a b).isSome) (κl (i64.wrap (c+1),(xou c d a b).fst,f,g,h,a,(xou c d a b).snd)) δ) δ) δ) δ) δ) (κr (d,f,g,h,b))
def xbC (k:LA) (l e:Int) (c:Nat) (f:Int):StT (Int×Nat×Int×Int×List UInt8×LA×LA) (Nat×Int×Int×List UInt8×LA):=fun (g,d,h,i,j,b,a)=>xkg k l e c f g d h i j b a none inL inR
def xjW:=xGJ.l 37 0 [] [] Tryz.f65 1 lk0 [3,5,8,9,10,21,22,23] [3,5,8,9,10] [] (q8 (xTy 0 0 0 0) (xTy 1 0 0 0) (qL 3) qI qI (xTw 2 0 0) qI qI) (q4 (xTA 0 2 142 false false (q1 (xTz (q2 (xTy 0 0 0 0) (xTw 3 0 0))))) (qB 0 3 76 (q1 (xTz (q3 qI qI pStr)))) (qB 0 1 3 xTm) (qB 0 1 5 xTm)) (fun (_,_,k,m,e,c,f,g,_) (((_,d,_),_),((h,i,j,_),_),b,a,_)=>(xbC k m e c f,(g,d,h,i,j,b,a),fun p=>(.leaf (.exit 2) [AV.own 0 0 0 0,AV.own 1 0 0 0,AV.list 3 k,AV.int .i64 m,AV.int .i64 e] [⟨0,2,142,[AV.agg [AV.own 0 0 0 0,AV.osl 2 0 0 p.1]],false,false⟩,bF 0 3 76 [AV.agg [AV.int .i64 p.2.1,AV.int .i64 p.2.2.1,AV.str p.2.2.2.1]],bF 0 1 5 p.2.2.2.2]))) (0,0,0,[],[]) fun (_,_,k,m,e,c,f,_,_) _ (g,d,h,i,j,b,a)=>((((),(),k,m,e,c,f,g,()),((((),d,()),()),((h,i,j,()),()),b,a,())),xkg k m e c f g d h i j b a none)
def xot (b:LA) (e a:Int) (d:Nat) (c:LA):=Iter (xbC b e a 3 3) (0,d,(gC b a 0).toInt,(gC b a 1).toInt,(gC b a 2).toStr,[AV.int .i64 (gC b a 0).toInt,AV.int .i64 (gC b a 1).toInt,AV.int .i64 (↑(gC b a 2).toStr.length:Int)],c)
def xos (d:LA) (e c:Int) (b:Nat) (a:LA):=(xot d e c b a).getD (0,0,0,[],[])
def xor (d:LA) (e c:Int) (b:Nat) (a:LA):=(xos d e c b a).snd.snd.snd
def xoq (d:LA) (e c:Int) (b:Nat) (a:LA):=xaQ (xor d e c b a).fst (xos d e c b a).fst (xor d e c b a).snd
def xoo (d:LA) (e c:Int) (b:Nat) (a:LA):=((xoq d e c b a).getD (0,0,[])).snd
def xkf {T:Type} (d:LA) (e b:Int) (c:Nat) (a:LA) (δ:T) (κl:(Int×Nat×LA)->T) (κr:(Nat×LA)->T):T:=br (decide (b<e)) (br (ixI d b) (br (ixT d b 3 [Sh.int .i64,Sh.int .i64,Sh.str] 0) (br ((xot d e b c a).isSome) (br ((xoq d e b c a).isSome) (κl (i64.wrap (b+1),(xoo d e b c a).fst,(xoo d e b c a).snd)) δ) δ) δ) δ) (κr (c,a))
def xdI (d:LA) (e:Int):StT (Int×Nat×LA) (Nat×LA):=fun (c,b,a)=>xkf d e c b a none inL inR
def xvB:=xGJ.l 37 0 [] [(6,xjW.lp)] Tryz.f65 0 (lk1 xjW.ok) [3,8,9,10] [3] [] (q4 (xTy 0 0 0 0) (qL 3) qI qI) (q2 (xTA 0 2 142 false false (q1 (xTz (q2 (xTy 0 0 0 0) (xTw 1 0 0))))) (qB 0 1 5 xTm)) (fun (_,d,e,c,_) (((_,b,_),_),a,_)=>(xdI d e,(c,b,a),fun p=>(.leaf (.exit 0) [AV.own 0 0 0 0] [⟨0,2,142,[AV.agg [AV.own 0 0 0 0,AV.osl 1 0 0 p.1]],false,false⟩,bF 0 1 5 p.2]))) (0,[]) fun (_,d,e,_,_) _ (c,b,a)=>((((),d,e,c,()),((((),b,()),()),a,())),xkf d e c b a none)
def xdh (a:LA):=((a.getD 0 .top).cells.getD 0 .top).toInt
def xsL (a:LA):=xbU 32 ((xaN (Lib.itoa (xdh a))).getD (0,0,[])).snd.fst ((xaN (Lib.itoa (xdh a))).getD (0,0,[])).snd.snd
def xsK (a:LA):=(xsL a).getD (0,[])
def xsJ (a:LA):=Iter (xbC a (↑a.length:Int) 0 3 3) (1,(xsK a).fst,xdh a,((a.getD 0 .top).cells.getD 1 .top).toInt,((a.getD 0 .top).cells.getD 2 .top).toStr,[AV.int .i64 (xdh a),AV.int .i64 ((a.getD 0 .top).cells.getD 1 .top).toInt,AV.int .i64 (↑((a.getD 0 .top).cells.getD 2 .top).toStr.length:Int)],(xsK a).snd)
def xsI (a:LA):=(xsJ a).getD (0,0,0,[],[])
def xsH (a:LA):=(xsI a).snd.snd.snd
def xsG (a:LA):=xaQ (xsH a).fst (xsI a).fst (xsH a).snd
def xsF (a:LA):=((xsG a).getD (0,0,[])).snd
def xsE (a:LA):=Iter (xdI a (↑a.length:Int)) (1,(xsF a).fst,(xsF a).snd)
def xsD (a:LA):=(xsE a).getD (0,[])
def xjg (a:LA):=(xsD a).snd
def xtP {T:Type} (a:LA) (δ:T) (κ:List UInt8->T):T:=br (decide (0<(↑a.length:Int))) (br (decide (0<(↑a.length:Int))) (br (decide (0<a.length)&&((a.getD 0 .top).cells.length==3&&xSG [Sh.int .i64,Sh.int .i64,Sh.str] (a.getD 0 .top).cells 0)) (br (decide ((-9223372036854775808)<=xdh a)&&decide (xdh a<=9223372036854775807)) (br ((xaN (Lib.itoa (xdh a))).isSome) (br ((xsL a).isSome) (br ((xsJ a).isSome) (br ((xsG a).isSome) (br ((xsE a).isSome) (br (decide ((xsD a).fst=(xjg a).length)&&isBytes (xjg a)&&decide ((xjg a).length≠0)) (κ (strOf (xjg a))) δ) δ) δ) δ) δ) δ) δ) δ) δ) (κ ([]))
def xsg (a:LA):=xtP a none some
def xPY:EO:=xGJ.f Tryz.func65 37 0 [] [(6,xjW.lp),(3,xvB.lp)] (lks (lkC xvB.ok (lkC xjW.ok lkN))) (u1 (uL 3)) (fun (a,_) _=>xtP a) (fun _ p=>AV.str p) []
def xjR {T:Type} (a:List UInt8) (n:Nat) (b:LA) (δ:T) (κ:Int×Nat×LA->T):T:=br (n==b.length&&(decide ((n+(byteAVs a).length)*1<=140737488355328)&&decide (n+(byteAVs a).length<=4611686018427387904))) (κ ((↑a.length:Int),n+(byteAVs a).length,b++byteAVs a)) δ
def xlq (a:List UInt8) (n:Nat) (b:LA):=xjR a n b none some
def xOo:EO:=xPY.fM Tryz.func97 19 2 [] [] lk0 (u2 (sEq (xTy 0 0 0 0)) (sEq pStr)) (q2 (xTA 0 2 142 false false (q1 (xTz (q2 (xTy 0 0 0 0) (xTw 1 2 0))))) (qB 2 1 5 xTm)) (fun (_,a,_) (((_,n,_),_),b,_) _=>xjR a n b) (fun _ _ p=>(AV.tuple [AV.int .i64 p.1,.top],([⟨0,2,142,[AV.agg [AV.own 0 0 0 0,AV.osl 1 3 0 p.2.1]],false,false⟩,bF 3 1 5 p.2.2]:List Box))) (0,0,[])
def xjS {T:Type} (a:List UInt8) (n:Nat) (b:LA) (δ:T) (κ:Int×Nat×LA->T):T:=br (n==b.length&&(decide ((n+(byteAVs a).length)*1<=140737488355328)&&decide (n+(byteAVs a).length<=4611686018427387904))) (κ ((↑a.length:Int),n+(byteAVs a).length,b++byteAVs a)) δ
def xlr (a:List UInt8) (n:Nat) (b:LA):=xjS a n b none some
def xOp:EO:=xOo.fM Tryz.func97 19 2 [] [] lk0 (u2 (sEq (xTy 0 0 0 0)) (sEq pStr)) (q2 (xTA 0 2 142 false false (q1 (xTz (q2 (xTy 0 0 0 0) (xTw 1 3 0))))) (qB 3 1 5 xTm)) (fun (_,a,_) (((_,n,_),_),b,_) _=>xjS a n b) (fun _ _ p=>(AV.tuple [AV.int .i64 p.1,.top],([⟨0,2,142,[AV.agg [AV.own 0 0 0 0,AV.osl 1 4 0 p.2.1]],false,false⟩,bF 4 1 5 p.2.2]:List Box))) (0,0,[])
def xjT {T:Type} (a:List UInt8) (n:Nat) (b:LA) (δ:T) (κ:Int×Nat×LA->T):T:=br (n==b.length&&(decide ((n+(byteAVs a).length)*1<=140737488355328)&&decide (n+(byteAVs a).length<=4611686018427387904))) (κ ((↑a.length:Int),n+(byteAVs a).length,b++byteAVs a)) δ
def xls (a:List UInt8) (n:Nat) (b:LA):=xjT a n b none some
def xOq:EO:=xOp.fM Tryz.func97 19 2 [] [] lk0 (u2 (sEq (xTy 0 0 0 0)) (sEq pStr)) (q2 (xTA 0 2 142 false false (q1 (xTz (q2 (xTy 0 0 0 0) (xTw 1 4 0))))) (qB 4 1 5 xTm)) (fun (_,a,_) (((_,n,_),_),b,_) _=>xjT a n b) (fun _ _ p=>(AV.tuple [AV.int .i64 p.1,.top],([⟨0,2,142,[AV.agg [AV.own 0 0 0 0,AV.osl 1 5 0 p.2.1]],false,false⟩,bF 5 1 5 p.2.2]:List Box))) (0,0,[])
def xjU {T:Type} (a:List UInt8) (n:Nat) (b:LA) (δ:T) (κ:Int×Nat×LA->T):T:=br (n==b.length&&(decide ((n+(byteAVs a).length)*1<=140737488355328)&&decide (n+(byteAVs a).length<=4611686018427387904))) (κ ((↑a.length:Int),n+(byteAVs a).length,b++byteAVs a)) δ
def xlt (a:List UInt8) (n:Nat) (b:LA):=xjU a n b none some
def xOr:EO:=xOq.fM Tryz.func97 19 2 [] [] lk0 (u2 (sEq (xTy 0 0 0 0)) (sEq pStr)) (q2 (xTA 0 2 142 false false (q1 (xTz (q2 (xTy 0 0 0 0) (xTw 1 5 0))))) (qB 5 1 5 xTm)) (fun (_,a,_) (((_,n,_),_),b,_) _=>xjU a n b) (fun _ _ p=>(AV.tuple [AV.int .i64 p.1,.top],([⟨0,2,142,[AV.agg [AV.own 0 0 0 0,AV.osl 1 6 0 p.2.1]],false,false⟩,bF 6 1 5 p.2.2]:List Box))) (0,0,[])
def xjV {T:Type} (a:List UInt8) (n:Nat) (b:LA) (δ:T) (κ:Int×Nat×LA->T):T:=br (n==b.length&&(decide ((n+(byteAVs a).length)*1<=140737488355328)&&decide (n+(byteAVs a).length<=4611686018427387904))) (κ ((↑a.length:Int),n+(byteAVs a).length,b++byteAVs a)) δ
def xlu (a:List UInt8) (n:Nat) (b:LA):=xjV a n b none some
def xOs:EO:=xOr.fM Tryz.func97 19 2 [] [] lk0 (u2 (sEq (xTy 0 0 0 0)) (sEq pStr)) (q2 (xTA 0 2 142 false false (q1 (xTz (q2 (xTy 0 0 0 0) (xTw 1 6 0))))) (qB 6 1 5 xTm)) (fun (_,a,_) (((_,n,_),_),b,_) _=>xjV a n b) (fun _ _ p=>(AV.tuple [AV.int .i64 p.1,.top],([⟨0,2,142,[AV.agg [AV.own 0 0 0 0,AV.osl 1 7 0 p.2.1]],false,false⟩,bF 7 1 5 p.2.2]:List Box))) (0,0,[])
def xll {T:Type} (c:Int) (n:Nat) (a:LA) (δ:T) (κ:Nat×LA->T):T:=br (rmB n a 1 1) (κ (n+1,a++[AV.int .u8 c])) δ
def xnv (c:Int) (n:Nat) (a:LA):=xll c n a none some
def xOt:EO:=xOs.fM Tryz.func99 17 2 [] [] lk0 (u2 (sEq (xTy 0 0 0 0)) (sEq (pInt .u8))) (q2 (xTA 0 2 142 false false (q1 (xTz (q2 (xTy 0 0 0 0) (xTw 1 2 0))))) (qB 2 1 5 xTm)) (fun (_,c,_) (((_,n,_),_),a,_) _=>xll c n a) (fun _ _ p=>(.top,([⟨0,2,142,[AV.agg [AV.own 0 0 0 0,AV.osl 1 3 0 p.1]],false,false⟩,bF 3 1 5 p.2]:List Box))) (0,[])
def xlm {T:Type} (c:Int) (n:Nat) (a:LA) (δ:T) (κ:Nat×LA->T):T:=br (rmB n a 1 1) (κ (n+1,a++[AV.int .u8 c])) δ
def xnw (c:Int) (n:Nat) (a:LA):=xlm c n a none some
def xOu:EO:=xOt.fM Tryz.func99 17 2 [] [] lk0 (u2 (sEq (xTy 0 0 0 0)) (sEq (pInt .u8))) (q2 (xTA 0 2 142 false false (q1 (xTz (q2 (xTy 0 0 0 0) (xTw 1 3 0))))) (qB 3 1 5 xTm)) (fun (_,c,_) (((_,n,_),_),a,_) _=>xlm c n a) (fun _ _ p=>(.top,([⟨0,2,142,[AV.agg [AV.own 0 0 0 0,AV.osl 1 4 0 p.1]],false,false⟩,bF 4 1 5 p.2]:List Box))) (0,[])
def xln {T:Type} (c:Int) (n:Nat) (a:LA) (δ:T) (κ:Nat×LA->T):T:=br (rmB n a 1 1) (κ (n+1,a++[AV.int .u8 c])) δ
def xny (c:Int) (n:Nat) (a:LA):=xln c n a none some
def xOv:EO:=xOu.fM Tryz.func99 17 2 [] [] lk0 (u2 (sEq (xTy 0 0 0 0)) (sEq (pInt .u8))) (q2 (xTA 0 2 142 false false (q1 (xTz (q2 (xTy 0 0 0 0) (xTw 1 4 0))))) (qB 4 1 5 xTm)) (fun (_,c,_) (((_,n,_),_),a,_) _=>xln c n a) (fun _ _ p=>(.top,([⟨0,2,142,[AV.agg [AV.own 0 0 0 0,AV.osl 1 5 0 p.1]],false,false⟩,bF 5 1 5 p.2]:List Box))) (0,[])
def xlo {T:Type} (c:Int) (n:Nat) (a:LA) (δ:T) (κ:Nat×LA->T):T:=br (rmB n a 1 1) (κ (n+1,a++[AV.int .u8 c])) δ
def xnz (c:Int) (n:Nat) (a:LA):=xlo c n a none some
def xI3:EO:=xOv.fM Tryz.func99 17 2 [] [] lk0 (u2 (sEq (xTy 0 0 0 0)) (sEq (pInt .u8))) (q2 (xTA 0 2 142 false false (q1 (xTz (q2 (xTy 0 0 0 0) (xTw 1 5 0))))) (qB 5 1 5 xTm)) (fun (_,c,_) (((_,n,_),_),a,_) _=>xlo c n a) (fun _ _ p=>(.top,([⟨0,2,142,[AV.agg [AV.own 0 0 0 0,AV.osl 1 6 0 p.1]],false,false⟩,bF 6 1 5 p.2]:List Box))) (0,[])
def xo2 (c:LA) (d:Int) (b:Nat) (a:LA):=((xaQ (Lib.itoa (gC c d 0).toInt) b a).getD (0,0,[])).snd
def xo1 (c:LA) (d:Int) (b:Nat) (a:LA):=xbr 58 (xo2 c d b a).fst (xo2 c d b a).snd
def xo0 (c:LA) (d:Int) (b:Nat) (a:LA):=(xo1 c d b a).getD (0,[])
def xqG (c:LA) (d:Int) (b:Nat) (a:LA):=xlq (Lib.itoa (gC c d 1).toInt) (xo0 c d b a).fst (xo0 c d b a).snd
def xqF (c:LA) (d:Int) (b:Nat) (a:LA):=((xqG c d b a).getD (0,0,[])).snd
def xqE (c:LA) (d:Int) (b:Nat) (a:LA):=xnw 58 (xqF c d b a).fst (xqF c d b a).snd
def xqD (c:LA) (d:Int) (b:Nat) (a:LA):=(xqE c d b a).getD (0,[])
def xqC (c:LA) (d:Int) (b:Nat) (a:LA):=xls (Lib.itoa (↑(gC c d 2).toStr.length:Int)) (xqD c d b a).fst (xqD c d b a).snd
def xqB (c:LA) (d:Int) (b:Nat) (a:LA):=((xqC c d b a).getD (0,0,[])).snd
def xqA (c:LA) (d:Int) (b:Nat) (a:LA):=xnz 58 (xqB c d b a).fst (xqB c d b a).snd
def xqz (c:LA) (d:Int) (b:Nat) (a:LA):=(xqA c d b a).getD (0,[])
def xqy (c:LA) (d:Int) (b:Nat) (a:LA):=xlu (gC c d 2).toStr (xqz c d b a).fst (xqz c d b a).snd
def xqw (c:LA) (d:Int) (b:Nat) (a:LA):=((xqy c d b a).getD (0,0,[])).snd
def xml {T:Type} (d:LA) (e c:Int) (b:Nat) (a:LA) (δ:T) (κl:(Int×Nat×LA)->T) (κr:(Nat×LA)->T):T:=br (decide (c<e)) (br (ixI d c) (br (ixT d c 3 [Sh.int .i64,Sh.int .i64,Sh.str] 0) (br (decide ((-9223372036854775808)<=(gC d c 0).toInt)&&decide ((gC d c 0).toInt<=9223372036854775807)) (br ((xaQ (Lib.itoa (gC d c 0).toInt) b a).isSome) (br ((xo1 d c b a).isSome) (br (decide ((-9223372036854775808)<=(gC d c 1).toInt)&&decide ((gC d c 1).toInt<=9223372036854775807)) (br ((xqG d c b a).isSome) (br ((xqE d c b a).isSome) (br (decide ((↑(gC d c 2).toStr.length:Int)<=9223372036854775807)) (br ((xqC d c b a).isSome) (br ((xqA d c b a).isSome) (br ((xqy d c b a).isSome) (κl (i64.wrap (c+1),(xqw d c b a).fst,(xqw d c b a).snd)) δ) δ) δ) δ) δ) δ) δ) δ) δ) δ) δ) δ) (κr (b,a))
def xeB (c:LA) (d:Int):StT (Int×Nat×LA) (Nat×LA):=fun (e,b,a)=>xml c d e b a none inL inR
def xwV:=xI3.l 33 0 [] [] Tryz.f69 0 lk0 [3,6,7,8] [3] [] (q4 (xTy 0 0 0 0) (qL 3) qI qI) (q2 (xTA 0 2 142 false false (q1 (xTz (q2 (xTy 0 0 0 0) (xTw 1 0 0))))) (qB 0 1 5 xTm)) (fun (_,c,d,e,_) (((_,b,_),_),a,_)=>(xeB c d,(e,b,a),fun p=>(.leaf (.exit 0) [AV.own 0 0 0 0] [⟨0,2,142,[AV.agg [AV.own 0 0 0 0,AV.osl 1 0 0 p.1]],false,false⟩,bF 0 1 5 p.2]))) (0,[]) fun (_,c,d,_,_) _ (e,b,a)=>((((),c,d,e,()),((((),b,()),()),a,())),xml c d e b a none)
def xtt (a:LA):=((xaN (Lib.itoa ((a.getD 0 .top).cells.getD 0 .top).toInt)).getD (0,0,[])).snd
def xts (a:LA):=xbU 58 (xtt a).fst (xtt a).snd
def xtr (a:LA):=(xts a).getD (0,[])
def xtq (a:LA):=xlp (Lib.itoa ((a.getD 0 .top).cells.getD 1 .top).toInt) (xtr a).fst (xtr a).snd
def xtp (a:LA):=((xtq a).getD (0,0,[])).snd
def xto (a:LA):=xnv 58 (xtp a).fst (xtp a).snd
def xu9 (a:LA):=(xto a).getD (0,[])
def xu8 (a:LA):=xlr (Lib.itoa (↑((a.getD 0 .top).cells.getD 2 .top).toStr.length:Int)) (xu9 a).fst (xu9 a).snd
def xu7 (a:LA):=((xu8 a).getD (0,0,[])).snd
def xu6 (a:LA):=xny 58 (xu7 a).fst (xu7 a).snd
def xu5 (a:LA):=(xu6 a).getD (0,[])
def xu4 (a:LA):=xlt ((a.getD 0 .top).cells.getD 2 .top).toStr (xu5 a).fst (xu5 a).snd
def xu3 (a:LA):=((xu4 a).getD (0,0,[])).snd
def xu2 (a:LA):=Iter (xeB a (↑a.length:Int)) (1,(xu3 a).fst,(xu3 a).snd)
def xu1 (a:LA):=(xu2 a).getD (0,[])
def xlf (a:LA):=(xu1 a).snd
def xwl {T:Type} (a:LA) (δ:T) (κ:List UInt8->T):T:=br (decide (0<(↑a.length:Int))) (br (decide (0<(↑a.length:Int))) (br (decide (0<a.length)&&((a.getD 0 .top).cells.length==3&&xSG [Sh.int .i64,Sh.int .i64,Sh.str] (a.getD 0 .top).cells 0)) (br (decide ((-9223372036854775808)<=((a.getD 0 .top).cells.getD 0 .top).toInt)&&decide (((a.getD 0 .top).cells.getD 0 .top).toInt<=9223372036854775807)) (br ((xaN (Lib.itoa ((a.getD 0 .top).cells.getD 0 .top).toInt)).isSome) (br ((xts a).isSome) (br (decide ((-9223372036854775808)<=((a.getD 0 .top).cells.getD 1 .top).toInt)&&decide (((a.getD 0 .top).cells.getD 1 .top).toInt<=9223372036854775807)) (br ((xtq a).isSome) (br ((xto a).isSome) (br (decide ((↑((a.getD 0 .top).cells.getD 2 .top).toStr.length:Int)<=9223372036854775807)) (br ((xu8 a).isSome) (br ((xu6 a).isSome) (br ((xu4 a).isSome) (br ((xu2 a).isSome) (br (decide ((xu1 a).fst=(xlf a).length)&&isBytes (xlf a)&&decide ((xlf a).length≠0)) (κ (strOf (xlf a))) δ) δ) δ) δ) δ) δ) δ) δ) δ) δ) δ) δ) δ) δ) (κ ([]))
def xu0 (a:LA):=xwl a none some
def xGK:EO:=xI3.f Tryz.func69 33 0 [] [(3,xwV.lp)] (lk1 xwV.ok) (u1 (uL 3)) (fun (a,_) _=>xwl a) (fun _ p=>AV.str p) []
def xgx (d e:LA) (f:Int) (a:Nat) (g:Int) (b c:LA):=decide ((↑a:Int)<(↑(a+1):Int))
def xge (a b:LA) (c:Int):=xsg (List.take ((xdH (gC b c 0).toList a).getD (0,[])).fst (List.drop 0 ((xdH (gC b c 0).toList a).getD (0,[])).snd))
def xaU (a:Nat):Nat:=0+(↑a:Int).toNat
def xgZ (d e:LA) (f:Int) (b:Nat) (g:Int) (c a:LA):=decide (xaU b<(a++[AV.list 3 []]).length)
def xbt (a b:LA) (c:Int):=(xge a b c).getD []
def xa0 (b:Nat) (a:LA):=(((a++[AV.list 3 []]).getD (xaU b) .top).cells.getD 0 .top).toList.length
def xg3 (a:LA) (d:Nat) (b:Int) (c:LA):=(((c++[AV.list 3 []]).getD (xaU d) .top).cells.getD 0 .top).toList++[AV.agg [AV.list 3 (gC a b 0).toList,AV.int .i64 (gC a b 1).toInt,AV.int .i64 (gC a b 2).toInt]]
def xg0 (b d:LA) (c:Nat) (e:Int) (a:LA):=decide (0<=(xST (AV.int .i64 0) a (xbt b d e)).toInt)&&decide ((xST (AV.int .i64 0) a (xbt b d e)).toInt<(↑c:Int))
def xaP (b c:LA) (d:Int) (a:LA):Nat:=0+(xST (AV.int .i64 0) a (xbt b c d)).toInt.toNat
def xg2 (a b:LA) (c:Int):=decide ((xbt a b c).length<=4611686018427387904)
def xcV (b:Nat) (a:LA):=(a++[AV.list 3 []]).set (xaU b) (AV.int .i64 (↑(xa0 b a):Int))
def xg1 (c d:LA) (e:Int) (a b:LA):=decide (xaP c d e a<b.length)
def xg4 (e b:LA) (c:Int) (a d:LA):=((d.getD (xaP e b c a) .top).cells.getD 0 .top).toList++[AV.agg [AV.list 3 (gC b c 0).toList,AV.int .i64 (gC b c 1).toInt,AV.int .i64 (gC b c 2).toInt]]
def xaX (c d:LA) (e:Int) (a b:LA):=((b.getD (xaP c d e a) .top).cells.getD 0 .top).toList.length
def xcW (c d:LA) (e:Int) (a b:LA):=xaX c d e a b+1
def xfd {T:Type} (c f:LA) (g:Int) (d:Nat) (e:Int) (a b:LA) (δ:T) (κl:(Nat×Int×LA×LA)->T) (κr:(Nat×LA)->T):T:=br (decide (e<g)) (br (ixI f e) (br (ixT f e 3 [Sh.list 3,Sh.int .i64,Sh.int .i64] 0) (br ((xdH (gC f e 0).toList c).isSome) (br (decide (0+((xdH (gC f e 0).toList c).getD (0,[])).fst<=((xdH (gC f e 0).toList c).getD (0,[])).snd.length)&&true) (br ((xge c f e).isSome) (br (xg2 c f e&&xSz (Sh.int .i64) (xST (AV.int .i64 0) a (xbt c f e))) (br (!xS4 a (xbt c f e)) (br (decide (a.length<4611686018427387904)&&xg2 c f e) (br (rmB d b 1 24) (br (xgx c f g d e a b) (br (xgZ c f g d e a b&&(xTf 3 (((b++[AV.list 3 []]).getD (xaU d) .top).cells.getD 0 .top)&&((b++[AV.list 3 []]).getD (xaU d) .top).cells.length==1)) (br (xgZ c f g d e a b&&(xTf 3 (((b++[AV.list 3 []]).getD (xaU d) .top).cells.getD 0 .top)&&(((b++[AV.list 3 []]).getD (xaU d) .top).cells.length==1&&(2*xa0 d b==2*xa0 d b&&(xa0 d b==xa0 d b&&(xa0 d b==xa0 d b&&(decide ((xa0 d b+1)*40<=140737488355328)&&decide (xa0 d b+1<=4611686018427387904)))))))) (br (xgx c f g d e a b) (br (decide (xaU d<(xcV d b).length)&&(((xcV d b).getD (xaU d) .top).cells.length==1&&(xa0 d b+1==(xg3 f d e b).length&&xTF (((xcV d b).getD (xaU d) .top).cells.getD 0 .top) (xa0 d b+1)))) (κl (d+1,i64.wrap (e+1),xSR a (xbt c f e) (AV.int .i64 (↑d:Int)),(xcV d b).set (xaU d) (AV.list 3 (xg3 f d e b)))) δ) δ) δ) δ) δ) δ) δ) (br (xg0 c f d e a) (br (xg1 c f e a b&&(xTf 3 ((b.getD (xaP c f e a) .top).cells.getD 0 .top)&&(b.getD (xaP c f e a) .top).cells.length==1)) (br (xg1 c f e a b&&(xTf 3 ((b.getD (xaP c f e a) .top).cells.getD 0 .top)&&((b.getD (xaP c f e a) .top).cells.length==1&&(2*xaX c f e a b==2*xaX c f e a b&&(xaX c f e a b==xaX c f e a b&&(xaX c f e a b==xaX c f e a b&&(decide (xcW c f e a b*40<=140737488355328)&&decide (xcW c f e a b<=4611686018427387904)))))))) (br (xg0 c f d e a) (br (decide (xaP c f e a<(b.set (xaP c f e a) (AV.int .i64 (↑(xaX c f e a b):Int))).length)&&(((b.set (xaP c f e a) (AV.int .i64 (↑(xaX c f e a b):Int))).getD (xaP c f e a) .top).cells.length==1&&(xcW c f e a b==(xg4 c f e a b).length&&xTF (((b.set (xaP c f e a) (AV.int .i64 (↑(xaX c f e a b):Int))).getD (xaP c f e a) .top).cells.getD 0 .top) (xcW c f e a b)))) (κl (d,i64.wrap (e+1),a,(b.set (xaP c f e a) (AV.int .i64 (↑(xaX c f e a b):Int))).set (xaP c f e a) (AV.list 3 (xg4 c f e a b)))) δ) δ) δ) δ) δ)) δ) δ) δ) δ) δ) δ) (κr (d,b))
def xby (d e:LA) (f:Int):StT (Nat×Int×LA×LA) (Nat×LA):=fun (c,g,a,b)=>xfd d e f c g a b none inL inR
def xrx:=xGK.l 57 0 [] [] Tryz.f40 0 lk0 [1,5,6,18,19,20] [6] [(6,1,253605445655)] (q6 (qL 1) (xTy 0 0 0 0) (xTw 1 0 0) (qL 3) qI qI) (q2 (qB 0 2 1208925819615114573119488 xTm) (qB 0 1 253605445655 xTm)) (fun (d,_,c,e,f,g,_) (a,b,_)=>(xby d e f,(c,g,a,b),fun p=>(.leaf (.exit 0) [AV.osl 0 0 0 p.1] [bF 0 1 253605445655 p.2]))) (0,[]) fun (d,_,_,e,f,_,_) _ (c,g,a,b)=>(((d,(),c,e,f,g,()),(a,b,())),xfd d e f c g a b none)
def xon (l a:LA):=Iter (xby a l (↑l.length:Int)) (0,0,[],[])
def xom (l a:LA):=(xon l a).getD (0,[])
def xok (l a:LA):=(xom l a).fst
def xol (l a:LA):=(xom l a).snd
def xoj (l a:LA):=List.take (xok l a) (List.drop 0 (xol l a))
def xpD {T:Type} (l a:LA) (δ:T) (κ:LA->T):T:=br ((↑a.length:Int)==0) (κ ([AV.list 3 l])) (br ((xon l a).isSome) (br (decide (0+xok l a<=(xol l a).length)&&xS5 3 0 (xoj l a)&&true) (κ (xoj l a)) δ) δ)
def xjf (l a:LA):=xpD l a none some
def xLh:EO:=xGK.f Tryz.func40 57 0 [] [(6,xrx.lp)] (lk1 xrx.ok) (u2 (uL 3) (uL 1)) (fun (l,a,_) _=>xpD l a) (fun _ p=>AV.list 1 p) []
def xmm {T:Type} (f:LA) (h b g a c d:Int) (e:List UInt8) (δ:T) (κl:(Int×Int×Int×Int×Int×List UInt8)->T) (κr:(Int×Int×Int×Int×List UInt8)->T):T:=br (decide (a<h)) (br (ixI f a) (br (ixT f a 3 [Sh.int .i64,Sh.int .i64,Sh.str] 0) (κl (i64.wrap (b+(gC f a 1).toInt.fdiv 1048576),i64.wrap (g+andI IntKind.i64 (gC f a 1).toInt 1048575),i64.wrap (a+1),c,d,e)) δ) δ) (κr (b,g,c,d,e))
def xeC (g:LA) (h:Int):StT (Int×Int×Int×Int×Int×List UInt8) (Int×Int×Int×Int×List UInt8):=fun (a,e,f,b,c,d)=>xmm g h a e f b c d none inL inR
def xwW:=xLh.l 51 0 [] [] Tryz.f109 0 lk0 [2,3,4,8,9,10] [2,3,4] [] (q6 (xTy 0 0 0 0) qI qI (qL 3) qI qI) (q1 (qB 0 3 76 (q1 (xTz (q3 qI qI pStr))))) (fun (_,a,e,g,h,f,_) (((b,c,d,_),_),_)=>(xeC g h,(a,e,f,b,c,d),fun p=>(.leaf (.exit 0) [AV.own 0 0 0 0,AV.int .i64 p.1,AV.int .i64 p.2.1] [bF 0 3 76 [AV.agg [AV.int .i64 p.2.2.1,AV.int .i64 p.2.2.2.1,AV.str p.2.2.2.2]]]))) (0,0,0,0,[]) fun (_,_,_,g,h,_,_) _ (a,e,f,b,c,d)=>((((),a,e,g,h,f,()),(((b,c,d,()),()),())),xmm g h a e f b c d none)
def xvd (l:LA):=Iter (xeC l (↑l.length:Int)) (0,0,0,0,0,[])
def xvc (l:LA):=(xvd l).getD (0,0,0,0,[])
def xvb (l:LA):=(xvc l).snd.fst
def xpq (l:LA):=i64.wrap ((xvc l).fst+(xvb l).fdiv 1048576)
def xf2 (l:LA):=i64.wrap (i64.wrap (xpq l*1048576)+andI IntKind.i64 (xvb l) 1048575)
def xwm {T:Type} (l:LA) (δ:T) (κ:Int×Int×List UInt8->T):T:=br ((xvd l).isSome) (br (decide (xpq l<(-2147483648))) (κ (0,0,[])) (br (decide (xpq l>2147483648)) (κ (0,0,[])) (br (decide (xf2 l<(-1125899906842624))) (κ (0,0,[])) (br (decide (xf2 l>1125899906842624)) (κ (0,0,[])) (br ((xeM (xf2 l)).isSome) (κ (((xeM (xf2 l)).getD (0,0,[])).fst,((xeM (xf2 l)).getD (0,0,[])).snd.fst,((xeM (xf2 l)).getD (0,0,[])).snd.snd)) δ))))) δ
def xva (l:LA):=xwm l none some
def xGL:EO:=xLh.f Tryz.func109 51 0 [] [(3,xwW.lp)] (lk1 xwW.ok) (u1 (uL 3)) (fun (l,_) _=>xwm l) (fun _ p=>AV.agg [AV.int .i64 p.1,AV.int .i64 p.2.1,AV.str p.2.2]) (0,0,[])
def xjM (a:LA) (b d c:Int):=decide (c<(↑(gC a b 0).toList.length:Int))
def xjN (a:LA) (b d c:Int):=decide (c.toNat<(gC a b 0).toList.length)
def xbB (a:LA) (b c:Int):=((gC a b 0).toList.getD c.toNat .top).cells
def xjL (b:LA) (c d a:Int):=decide (0<=a)&&xjM b c d a
def xgf {T:Type} (c:LA) (j:Int) (i:Nat) (a d b f g:Int) (h:List UInt8) (e:LA) (δ:T) (κl:(Nat×Int×Int×Int×Int×Int×List UInt8×LA)->T) (κr:(Nat×Int×Int×Int×Int×List UInt8×LA)->T):T:=br (decide (a<j)) (br (ixI c a) (br (ixS c a (Sh.list 3) 0) (br (xjM c a d b) (br (xjL c a d b) (br (xjN c a d b&&xSz (Sh.int .i64) ((xbB c a b).getD 0 .top)) (br (((xbB c a b).getD 0 .top).toInt != 0) (br (xjL c a d b) (br (xjN c a d b&&((xbB c a b).length==3&&xSG [Sh.int .i64,Sh.int .i64,Sh.str] (xbB c a b) 0)) (br (rmB i e 1 32) (κl (i+1,i64.wrap (a+1),d,b,f,g,h,e++[AV.agg [AV.int .i64 ((xbB c a b).getD 0 .top).toInt,AV.int .i64 ((xbB c a b).getD 1 .top).toInt,AV.str ((xbB c a b).getD 2 .top).toStr]])) δ) δ) δ) (κl (i,i64.wrap (a+1),d,b,f,g,h,e))) δ) δ) (κl (i,i64.wrap (a+1),d,b,f,g,h,e))) δ) δ) (κr (i,d,b,f,g,h,e))
def xcg (e:LA) (f:Int):StT (Nat×Int×Int×Int×Int×Int×List UInt8×LA) (Nat×Int×Int×Int×Int×List UInt8×LA):=fun (g,h,i,j,a,b,c,d)=>xgf e f g h i j a b c d none inL inR
def xjK:=xGL.l 96 0 [] [] Tryz.f70 0 lk0 [3,4,5,18,19,20] [3,4,5] [(5,3,76)] (q6 (xTy 0 0 0 0) (xTy 1 0 0 0) (xTw 2 0 0) (qL 1) qI qI) (q3 (qB 0 2 74 (q1 (xTz (q2 qI qI)))) (qB 0 3 76 (q1 (xTz (q3 qI qI pStr)))) (qB 0 3 76 xTm)) (fun (_,_,e,f,g,h,_) (((i,j,_),_),((a,b,c,_),_),d,_)=>(xcg f g,(e,h,i,j,a,b,c,d),fun p=>(.leaf (.exit 0) [AV.own 0 0 0 0,AV.own 1 0 0 0,AV.osl 2 0 0 p.1] [bF 0 2 74 [AV.agg [AV.int .i64 p.2.1,AV.int .i64 p.2.2.1]],bF 0 3 76 [AV.agg [AV.int .i64 p.2.2.2.1,AV.int .i64 p.2.2.2.2.1,AV.str p.2.2.2.2.2.1]],bF 0 3 76 p.2.2.2.2.2.2]))) (0,0,0,0,0,[],[]) fun (_,_,_,f,g,_,_) _ (e,h,i,j,a,b,c,d)=>((((),(),e,f,g,h,()),(((i,j,()),()),((a,b,c,()),()),d,())),xgf f g e h i j a b c d none)
def xbj (b:Int) (a:LA):=(a.getD (0+b.toNat) .top).cells
def xjO (b c d:Int) (e:List UInt8) (a:LA):=xbK ((xbj b a).getD 0 .top).toInt ((xbj b a).getD 1 .top).toInt ((xbj b a).getD 2 .top).toStr c d e
def xfD {T:Type} (b f g c d:Int) (e:List UInt8) (a:LA) (κl:(Int×Int×Int×Int×Int×List UInt8×Int×Int×List UInt8×LA)->T):T:=κl (i64.wrap (b+1),f,g,c,d,e,((xbj b a).getD 0 .top).toInt,((xbj b a).getD 1 .top).toInt,((xbj b a).getD 2 .top).toStr,a)
def xfC {T:Type} (h i j e f:Int) (g:List UInt8) (b c:Int) (d:List UInt8) (a:LA) (κl:(Int×Int×Int×Int×Int×List UInt8×Int×Int×List UInt8×LA)->T):T:=br (i==4) (br (decide (xjO h b c d a>0)) (xfD h i j e f g a κl) (κl (i64.wrap (h+1),i,j,e,f,g,b,c,d,a))) (κl (i64.wrap (h+1),i,j,e,f,g,b,c,d,a))
def xgg {T:Type} (k:Nat) (l b i j f g:Int) (h:List UInt8) (c d:Int) (e:List UInt8) (a:LA) (δ:T) (κl:(Int×Int×Int×Int×Int×List UInt8×Int×Int×List UInt8×LA)->T) (κr:(Int×Int×List UInt8×Int×Int×List UInt8)->T):T:=br (decide (b<l)) (br (decide (0<=b)&&decide (b<(↑k:Int))) (br (decide (0+b.toNat<a.length)&&((xbj b a).length==3&&xSG [Sh.int .i64,Sh.int .i64,Sh.str] (xbj b a) 0)) (br (i==3) (br (decide (xjO b c d e a<0)) (xfD b i j f g h a κl) (xfC b i j f g h c d e a κl)) (xfC b i j f g h c d e a κl)) δ) δ) (κr (f,g,h,c,d,e))
def xch (b:Nat) (i:Int):StT (Int×Int×Int×Int×Int×List UInt8×Int×Int×List UInt8×LA) (Int×Int×List UInt8×Int×Int×List UInt8):=fun (j,k,l,f,g,h,c,d,e,a)=>xgg b i j k l f g h c d e a none inL inR
def xqv:=xGL.l 96 0 [] [(5,xjK.lp)] Tryz.f70 1 lk0 [3,4,8,68,69,70] [4,8] [] (q6 (xTy 0 0 0 0) (xTy 1 0 0 0) (xTy 2 0 0 0) (xTw 3 0 0) qI qI) (q4 (qB 0 2 74 (q1 (xTz (q2 qI qI)))) (qB 0 3 76 (q1 (xTz (q3 qI qI pStr)))) (qB 0 3 76 (q1 (xTz (q3 qI qI pStr)))) (qB 0 3 76 xTm)) (fun (_,_,_,b,i,j,_) (((k,m,_),_),((f,g,h,_),_),((c,d,e,_),_),a,_)=>(xch b i,(j,k,m,f,g,h,c,d,e,a),fun p=>(.leaf (.exit 3) [AV.own 0 0 0 0,AV.own 1 0 0 0] [bF 0 3 76 [AV.agg [AV.int .i64 p.1,AV.int .i64 p.2.1,AV.str p.2.2.1]],bF 0 3 76 [AV.agg [AV.int .i64 p.2.2.2.1,AV.int .i64 p.2.2.2.2.1,AV.str p.2.2.2.2.2]]]))) (0,0,[],0,0,[]) fun (_,_,_,b,i,_,_) _ (j,k,m,f,g,h,c,d,e,a)=>((((),(),(),b,i,j,()),(((k,m,()),()),((f,g,h,()),()),((c,d,e,()),()),a,())),xgg b i j k m f g h c d e a none)
def xlF (a:LA) (c b:Int):=Iter (xcg a (↑a.length:Int)) (0,0,c,b,0,0,[],[])
def xlE (b:LA) (c a:Int):=(xlF b c a).getD (0,0,0,0,0,[],[])
def xdO (b:LA) (c a:Int):=(xlE b c a).fst
def xlD (b:LA) (c a:Int):=(xlE b c a).snd
def xb5 (b:LA) (c a:Int):=(↑(xdO b c a):Int)
def xhX (b:LA) (c a:Int):=(xlD b c a).fst
def xlC (b:LA) (c a:Int):=(xlD b c a).snd
def xlB (b:LA) (c a:Int):=(xlC b c a).snd
def xni (b:LA) (c a:Int):=(xlB b c a).snd
def xnh (b:LA) (c a:Int):=(xni b c a).snd
def xcJ (b:LA) (c a:Int):=(xnh b c a).snd
def xdN (b:LA) (c a:Int):=((xcJ b c a).getD 0 .top).cells
def xlH (b:LA) (c a:Int):=(xva (List.take (xdO b c a) (List.drop 0 (xcJ b c a)))).getD (0,0,[])
def xng (b:LA) (c a:Int):=Iter (xch (xdO b c a) (xb5 b c a)) (0,xhX b c a,(xlC b c a).fst,(xlB b c a).fst,(xni b c a).fst,(xnh b c a).fst,((xdN b c a).getD 0 .top).toInt,((xdN b c a).getD 1 .top).toInt,((xdN b c a).getD 2 .top).toStr,xcJ b c a)
def xlG (b:LA) (c a:Int):=(xlH b c a).snd
def xnf (b:LA) (c a:Int):=((xng b c a).getD (0,0,[],0,0,[])).snd.snd.snd
def xne (b:LA) (c a:Int):=(xnf b c a).snd
def xi8 {T:Type} (b:LA) (c a:Int) (δ:T) (κ:Int×Int×List UInt8->T):T:=br (decide (a<0)) (br ((xeM (↑b.length:Int)).isSome) (κ (((xeM (↑b.length:Int)).getD (0,0,[])).fst,((xeM (↑b.length:Int)).getD (0,0,[])).snd.fst,((xeM (↑b.length:Int)).getD (0,0,[])).snd.snd)) δ) (br ((xlF b c a).isSome) (br (xhX b c a==1) (br ((xeM (xb5 b c a)).isSome) (κ (((xeM (xb5 b c a)).getD (0,0,[])).fst,((xeM (xb5 b c a)).getD (0,0,[])).snd.fst,((xeM (xb5 b c a)).getD (0,0,[])).snd.snd)) δ) (br (xb5 b c a==0) (κ (0,0,[])) (br (xhX b c a==2) (br (decide (0+xdO b c a<=(xcJ b c a).length)&&true) (br ((xva (List.take (xdO b c a) (List.drop 0 (xcJ b c a)))).isSome) (κ ((xlH b c a).fst,(xlG b c a).fst,(xlG b c a).snd)) δ) δ) (br (decide (0<xb5 b c a)) (br (decide (0<(xcJ b c a).length)&&((xdN b c a).length==3&&xSG [Sh.int .i64,Sh.int .i64,Sh.str] (xdN b c a) 0)) (br ((xng b c a).isSome) (κ ((xnf b c a).fst,(xne b c a).fst,(xne b c a).snd)) δ) δ) δ)))) δ)
def xhr (b:LA) (c a:Int):=xi8 b c a none some
def xBZ:EO:=xGL.f Tryz.func70 96 0 [] [(5,xjK.lp),(18,xqv.lp)] (lks (lkC xjK.ok (lkC xqv.ok lkN))) (u2 (uL 1) (xTC (u2 uI uI))) (fun (b,(c,a,_),_) _=>xi8 b c a) (fun _ p=>AV.agg [AV.int .i64 p.1,AV.int .i64 p.2.1,AV.str p.2.2]) (0,0,[])
def xbS (a:LA) (b:Int):=(gC a b 0).toInt
def xhY {T:Type} (l c d:LA) (f:Int) (e:Nat) (a:Int) (b:LA) (δ:T) (κl:(Nat×Int×LA)->T) (κr:(Bool×(Int×Nat×LA)×(Nat×LA))->T):T:=br (decide (a<f)) (br (ixI d a) (br (ixS d a (Sh.int .i64) 0) (br (decide (xbS d a<0)) (κr (true,(6,e,b),(0,[]))) (br (decide (xbS d a>=c.length)) (κr (true,(6,e,b),(0,[]))) (br (decide (0<=xbS d a)&&decide (xbS d a<c.length)) (br (decide ((xbS d a).toNat<c.length)&&xSz (Sh.int .i64) ((c.getD (xbS d a).toNat .top).cells.getD 0 .top)) (br (rmB e b 1 8) (κl (e+1,i64.wrap (a+1),b++[AV.int .i64 ((c.getD (xbS d a).toNat .top).cells.getD 0 .top).toInt])) δ) δ) δ))) δ) δ) (κr (false,(0,0,[]),(e,b)))
def xcK (l b d:LA) (e:Int):StT (Nat×Int×LA) (Bool×(Int×Nat×LA)×(Nat×LA)):=fun (c,f,a)=>xhY l b d e c f a none inL inR
def xlI:=xBZ.l 103 0 [] [] Tryz.f71 0 lk0 [1,2,8,13,14,15] [1,2,6,7,8] [(8,1,3)] (q6 (qL 2) (qL 1) (xTw 0 0 0) (qL 1) qI qI) (q1 (qB 0 1 3 xTm)) (fun (l,a,c,d,e,f,_) (b,_)=>(xcK l a d e,(c,f,b),fun p=>(.node p.1 (.leaf .ret [AV.list 2 l,AV.list 1 a,AV.nils,AV.int .i64 p.2.1.1,AV.osl 0 0 0 p.2.1.2.1] [bF 0 1 3 p.2.1.2.2]) (.leaf (.exit 0) [AV.list 2 l,AV.list 1 a,.top,.top,AV.osl 0 0 0 p.2.2.1] [bF 0 1 3 p.2.2.2])))) (false,(0,0,[]),(0,[])) fun (l,a,_,d,e,_,_) _ (c,f,b)=>(((l,a,c,d,e,f,()),(b,())),xhY l a d e c f b none)
def xbf (a:LA) (b:Int):=(gC a b 1).toInt
def xcw (a:LA) (b:Int):=(gC a b 0).toInt
def xlJ (a b:LA) (f:Int) (e:Nat) (c:Int) (d:LA):=decide (0<=xbf b c)&&decide (xbf b c<a.length)
def xlK (a b:LA) (f:Int) (e:Nat) (c:Int) (d:LA):=decide ((xbf b c).toNat<a.length)&&xSz (Sh.int .i64) ((a.getD (xbf b c).toNat .top).cells.getD 0 .top)
def xsa (a b:LA) (f:Int) (e:Nat) (c:Int) (d:LA):=decide (xbf b c>=a.length)
def xsb (d a:LA) (f:Int) (e:Nat) (b:Int) (c:LA):=decide (xbf a b<0)
def xsc (a:LA) (b:Int):=xcw a b==3
def xsd (a:LA) (b:Int):=xcw a b==4
def xgi {T:Type} (c e:LA) (f:Int) (b:Nat) (d:Int) (a:LA) (δ:T) (κl:(Nat×Int×LA)->T):T:=br (xlJ c e f b d a) (br (xlK c e f b d a) (br (rmB b a 1 8) (κl (b+1,i64.wrap (d+1),a++[AV.int .i64 ((c.getD (xbf e d).toNat .top).cells.getD 0 .top).toInt])) δ) δ) δ
def xeG {T:Type} (d e:LA) (f:Int) (b:Nat) (c:Int) (a:LA) (δ:T) (κl:(Nat×Int×LA)->T):T:=br (xsc e c) (xgi d e f b c a δ κl) (br (xsd e c) (xgi d e f b c a δ κl) (br (rmB b a 1 8) (κl (b+1,i64.wrap (c+1),a++[AV.int .i64 1])) δ))
def xgh {T:Type} (c d:LA) (f:Int) (b:Nat) (e:Int) (a:LA) (δ:T) (κl:(Nat×Int×LA)->T) (κr:(Bool×(Int×Nat×LA)×(Nat×LA))->T):T:=br (xsb c d f b e a) (κr (true,(6,b,a),(0,[]))) (br (xsa c d f b e a) (κr (true,(6,b,a),(0,[]))) (br (xcw d e==2) (br (xlJ c d f b e a) (br (xlK c d f b e a) (br (((c.getD (xbf d e).toNat .top).cells.getD 0 .top).toInt != 1) (κr (true,(7,b,a),(0,[]))) (xeG c d f b e a δ κl)) δ) δ) (xeG c d f b e a δ κl)))
def xhZ {T:Type} (e d:LA) (f:Int) (b:Nat) (c:Int) (a:LA) (δ:T) (κl:(Nat×Int×LA)->T) (κr:(Bool×(Int×Nat×LA)×(Nat×LA))->T):T:=br (decide (c<f)) (br (ixI d c) (br (ixT d c 2 [Sh.int .i64,Sh.int .i64] 0) (br (decide (xcw d c<1)) (κr (true,(7,b,a),(0,[]))) (br (decide (xcw d c>4)) (κr (true,(7,b,a),(0,[]))) (br (xbf d c==(-1)) (br (xcw d c==1) (xeG e d f b c a δ κl) (xgh e d f b c a δ κl κr)) (xgh e d f b c a δ κl κr)))) δ) δ) (κr (false,(0,0,[]),(b,a)))
def xcL (b d:LA) (e:Int):StT (Nat×Int×LA) (Bool×(Int×Nat×LA)×(Nat×LA)):=fun (c,f,a)=>xhZ b d e c f a none inL inR
def xr9:=xBZ.l 103 0 [] [(3,xlI.lp)] Tryz.f71 1 lk0 [2,8,35,36,37] [6,7,8] [(8,1,3)] (q5 (qL 1) (xTw 0 0 0) (qL 2) qI qI) (q1 (qB 0 1 3 xTm)) (fun (b,c,d,e,f,_) (a,_)=>(xcL b d e,(c,f,a),fun p=>(.node p.1 (.leaf .ret [AV.nils,AV.int .i64 p.2.1.1,AV.osl 0 0 0 p.2.1.2.1] [bF 0 1 3 p.2.1.2.2]) (.leaf (.exit 2) [.top,.top,AV.osl 0 0 0 p.2.2.1] [bF 0 1 3 p.2.2.2])))) (false,(0,0,[]),(0,[])) fun (b,_,d,e,_,_) _ (c,f,a)=>(((b,c,d,e,f,()),(a,())),xhZ b d e c f a none)
def xe1:Env:=xBZ.E.fn 103 0 (lsOf []) (xSX [(3,xlI.lp),(10,xr9.lp)])
theorem xAv:xSB P0 (xTh.at 0) xe1:=xBZ.ok.fn
theorem xzG:LoOk P0 (xTh.at xe1.pin) xe1 (Tryz.f71.body.getD .skip):=xgK (ls:=[xSF Tryz.f71 0,xSF Tryz.f71 1]) (by kernel_rfl) (lkC xlI.ok (lkC xr9.ok lkN))
def xgC (a l b:LA):=Iter (xcK l b a (↑a.length:Int)) (0,0,[])
def xgB (b l a:LA):=(xgC b l a).getD (false,(0,0,[]),0,[])
def xgA (b l a:LA):=(xgB b l a).snd
def xgz (b l a:LA):=(xgA b l a).snd
def xgy (b l a:LA):=Iter (xcL a l (↑l.length:Int)) ((xgz b l a).fst,0,(xgz b l a).snd)
def xgw (b l a:LA):=(xgy b l a).getD (false,(0,0,[]),0,[])
def xgv (b l a:LA):=(xgw b l a).snd
def xgu (b l a:LA):=(xgv b l a).snd
def xgs (b l a:LA):=(xgu b l a).fst
def xgt (b l a:LA):=(xgu b l a).snd
def xle {T:Type} (b l a:LA) (δ:T) (κ:Bool×(Int)×(LA×Int)->T):T:=br ((xgC b l a).isSome) (br ((xgB b l a).fst) (κ (true,((xgA b l a).fst.fst),([],0))) (br ((xgy b l a).isSome) (br ((xgw b l a).fst) (κ (true,((xgv b l a).fst.fst),([],0))) (br (decide (0+xgs b l a<=(xgt b l a).length)&&true) (κ (false,0,(List.take (xgs b l a) (List.drop 0 (xgt b l a)),0))) δ)) δ)) δ
def xc7 (b l a:LA):Option (LA×Int):=xle b l a none (fun (p:Bool×(Int)×(LA×Int))=>some (br p.1 (([],p.2.1)) p.2.2))
theorem xCF (b l a:LA):EncS (fun (p:LA×Int)=>(AV.tuple [AV.list 1 p.1,AV.int .i64 p.2]:AV)) (xc7 b l a) (XF P0 xe1 Tryz.f71 (Tryz.f71.body.getD .skip) [AV.list 1 b,AV.list 2 l,AV.list 1 a]):=by
 have h:XF P0 xe1 Tryz.f71 (Tryz.f71.body.getD .skip) [AV.list 1 b,AV.list 2 l,AV.list 1 a]=xle b l a none (fun (p:Bool×(Int)×(LA×Int))=>some ((br p.1 (AV.tuple [AV.nils,AV.int .i64 p.2.1]) (AV.tuple [AV.list 1 p.2.2.1,AV.int .i64 p.2.2.2])):AV)):=by kernel_rfl
 rw [h];unfold xc7 xle;repeat' (first|exact EncS.none|exact EncS.some (Sub.refl _)|exact EncS.some (xBB _)|exact EncS.some (xBQ _ _)|refine EncS.br ?_ ?_)
def xCE:LA->Option (Bool×AV):=ocOf (xTj (xTB 1 xTm) (xTj (xTB 2 xTm) (xTj (xTB 1 xTm) xTl))) fun (b,(l,(a,_)))=>((xc7 b l a).isSome,(AV.tuple [AV.list 1 ((xc7 b l a).getD ([],0)).1,AV.int .i64 ((xc7 b l a).getD ([],0)).2]))
theorem xCD:OcOk P0 xTh 71 (xCE):=xmF fun e j f=>by
 obtain ⟨g,⟨l,⟨c,_⟩⟩⟩:=e;obtain ⟨a,b⟩:=Prod.mk.inj f;obtain ⟨y,h,i⟩:=xCF _ _ _ _ (xcf (d:=([],0)) a);have hg:Good P0 xTh 71 _ _:=xdT (p:=xe1.pin) (xf4 xSK (xSL P0 _) rfl xAv Tryz.func71 rfl (by kernel_rfl) xzG h)
 rw [<-b];exact Good.sub hg i
def xPZ:EO:=xBZ.w xCD
def xwk {T:Type} (a b:LA) (δ:T) (κ:LA×LA->T):T:=br (decide ((0+a.length)*8<=140737488355328)&&decide (0+a.length<=4611686018427387904)) (br ((xn2 b).isSome) (br (decide (0+(0+a.length)<=([]++a).length)&&true&&true) (κ (List.take (0+a.length) (List.drop 0 ([]++a)),(xn2 b).getD [])) δ) δ) δ
def xux (a b:LA):=xwk a b none some
def xAK:EO:=xPZ.f Tryz.func72 11 0 [] [] lk0 (u2 (uL 1) (uL 1)) (fun (a,b,_) _=>xwk a b) (fun _ p=>AV.agg [AV.list 1 p.1,AV.list 1 p.2]) ([],[])
def xed {T:Type} (a:List UInt8) (i:Int) (δ:T) (κl:(Int)->T) (κr:(Bool×(Bool)×(Unit))->T):T:=br (decide (i<a.length)) (br (decide (0<=i)&&decide (i<a.length)) (br (decide ((↑(a.getD i.toNat (0:UInt8)).toNat:Int)<32)) (κr (true,(false),())) (br (decide (0<=i)&&decide (i<a.length)) (br (decide ((↑(a.getD i.toNat (0:UInt8)).toNat:Int)>126)) (κr (true,(false),())) (κl (i64.wrap (i+1)))) δ)) δ) (κr (false,false,()))
def xbb (a:List UInt8):StT (Int) (Bool×(Bool)×(Unit)):=fun (i)=>xed a i none inL inR
def xtD:=xAK.l 20 0 [] [] Tryz.f127 0 lk0 [0,3] [2] [] (q2 pStr qI) xTk (fun (a,i,_) _=>(xbb a,(i),fun p=>(.node p.1 (.leaf .ret [AV.bool p.2.1] []) (.leaf (.exit 0) [.top] [])))) (false,false,()) fun (a,_,_) _ (i)=>(((a,i,()),()),xed a i none)
def xru {T:Type} (a:List UInt8) (δ:T) (κ:Bool->T):T:=br ((Iter (xbb a) 0).isSome) (br (((Iter (xbb a) 0).getD (false,false,())).fst) (κ (((Iter (xbb a) 0).getD (false,false,())).snd.fst)) (κ (true))) δ
def xo7 (a:List UInt8):=xru a none some
def xPx:EO:=xAK.f Tryz.func127 20 0 [] [(2,xtD.lp)] (lk1 xtD.ok) (u1 (sEq pStr)) (fun (a,_) _=>xru a) (fun _ p=>AV.bool p) false
def xsz {T:Type} (c a:Int) (b:List UInt8) (δ:T) (κ:Bool->T):T:=br (c==0) (br (a==0) (κ (b==[])) (κ (false))) (br (c==1) (br (b==[]) (br (decide (a>=(-1125899906842624))) (κ (decide (a<=1125899906842624))) (κ (false))) (κ (false))) (br (c==2) (br (a==0) (br (decide ((↑b.length:Int)<=200)) (br ((xo7 b).isSome) (κ ((xo7 b).getD false)) δ) (κ (false))) (κ (false))) (br (c==3) (br (b==[]) (br (a==0) (κ (true)) (κ (a==1))) (κ (false))) (κ (false)))))
def xoi (a b:Int) (c:List UInt8):=xsz a b c none some
def xP0:EO:=xPx.f Tryz.func94 61 0 [] [] lk0 (u1 (xTC (u3 uI uI (sEq pStr)))) (fun ((a,b,c,_),_) _=>xsz a b c) (fun _ p=>AV.bool p) false
def xye {T:Type} (a b:Int) (c:List UInt8) (δ:T) (κ:Int×Int×List UInt8->T):T:=br ((xoi a b c).isSome) (br ((xoi a b c).getD false) (κ (a,b,c)) (κ (0,0,[]))) δ
def xr7 (a b:Int) (c:List UInt8):=xye a b c none some
def xP1:EO:=xP0.f Tryz.func151 7 0 [] [] lk0 (u1 (xTC (u3 uI uI (sEq pStr)))) (fun ((a,b,c,_),_) _=>xye a b c) (fun _ p=>AV.agg [AV.int .i64 p.1,AV.int .i64 p.2.1,AV.str p.2.2]) (0,0,[])
def xAj {T:Type} (n:Int) (δ:T) (κ:Int×Int×List UInt8->T):T:=br ((xr7 1 n []).isSome) (κ (((xr7 1 n []).getD (0,0,[])).fst,((xr7 1 n []).getD (0,0,[])).snd.fst,((xr7 1 n []).getD (0,0,[])).snd.snd)) δ
def xdY (n:Int):=xAj n none some
def xLk:EO:=xP1.f Tryz.func121 6 0 [] [] lk0 (u1 uI) (fun (n,_) _=>xAj n) (fun _ p=>AV.agg [AV.int .i64 p.1,AV.int .i64 p.2.1,AV.str p.2.2]) (0,0,[])
def xnR (a l:LA) (i:Int):=(xp8 a (gC l i 0).toInt).getD (0,0,[])
def xnQ (a l:LA) (i:Int):=(xnR a l i).snd
def xo8 {T:Type} (c l:LA) (b:Nat) (i:Int) (a:LA) (δ:T) (κl:(Nat×Int×LA)->T) (κr:(Nat×LA)->T):T:=br (decide (i<l.length)) (br (ixI l i) (br (ixS l i (Sh.int .i64) 0) (br ((xp8 c (gC l i 0).toInt).isSome) (br (rmB b a 1 32) (κl (b+1,i64.wrap (i+1),a++[AV.agg [AV.int .i64 (xnR c l i).fst,AV.int .i64 (xnQ c l i).fst,AV.str (xnQ c l i).snd]])) δ) δ) δ) δ) (κr (b,a))
def xfk (c l:LA):StT (Nat×Int×LA) (Nat×LA):=fun (b,i,a)=>xo8 c l b i a none inL inR
def xzp:=xLk.l 24 0 [] [] Tryz.f54 0 lk0 [0,1,5,6] [5] [(5,3,76)] (q4 (qL 3) (qL 1) (xTw 0 0 0) qI) (q1 (qB 0 3 76 xTm)) (fun (c,l,b,i,_) (a,_)=>(xfk c l,(b,i,a),fun p=>(.leaf (.exit 0) [AV.osl 0 0 0 p.1] [bF 0 3 76 p.2]))) (0,[]) fun (c,l,_,_,_) _ (b,i,a)=>(((c,l,b,i,()),(a,())),xo8 c l b i a none)
def xyi (a l:LA):=(Iter (xfk a l) (0,0,[])).getD (0,[])
def xyg (a l:LA):=(xyi a l).snd
def xyh (a l:LA):=(xyi a l).fst
def xzq {T:Type} (a l:LA) (δ:T) (κ:LA->T):T:=br ((Iter (xfk a l) (0,0,[])).isSome) (br (decide (0+xyh a l<=(xyg a l).length)&&true) (κ (List.take (xyh a l) (List.drop 0 (xyg a l)))) δ) δ
def xyR (a l:LA):=xzq a l none some
def xLl:EO:=xLk.f Tryz.func54 24 0 [] [(3,xzp.lp)] (lk1 xzp.ok) (u2 (uL 3) (uL 1)) (fun (a,l,_) _=>xzq a l) (fun _ p=>AV.list 3 p) []
def xe6 (a:LA) (i:Int):=ixI a i
def xgR (a:LA) (i:Int):=xoi (gC a i 0).toInt (gC a i 1).toInt (gC a i 2).toStr
def xfY {T:Type} (a b:LA) (i:Int) (δ:T) (κl:(Int)->T) (κr:(Bool×(Bool)×(Unit))->T):T:=br (decide (i<a.length)) (br (xe6 a i) (br (ixT a i 3 [Sh.int .i64,Sh.int .i64,Sh.str] 0) (br ((xgR a i).isSome) (br (!(xgR a i).getD false) (κr (true,(false),())) (br (xe6 a i) (br (ixS a i (Sh.int .i64) 0) (br ((gC a i 0).toInt != 0) (br (xe6 a i) (br (ixS a i (Sh.int .i64) 0) (br (ixI b i) (br (ixS b i (Sh.int .i64) 0) (br ((gC a i 0).toInt != (gC b i 0).toInt) (κr (true,(false),())) (κl (i64.wrap (i+1)))) δ) δ) δ) δ) (κl (i64.wrap (i+1)))) δ) δ)) δ) δ) δ) (κr (false,false,()))
def xbA (b a:LA):StT (Int) (Bool×(Bool)×(Unit)):=fun (i)=>xfY b a i none inL inR
def xzm:=xLl.l 43 0 [] [] Tryz.f62 0 lk0 [0,1,5] [4] [] (q3 (qL 3) (qL 1) qI) xTk (fun (b,a,i,_) _=>(xbA b a,(i),fun p=>(.node p.1 (.leaf .ret [AV.bool p.2.1] []) (.leaf (.exit 0) [.top] [])))) (false,false,()) fun (b,a,_,_) _ (i)=>(((b,a,i,()),()),xfY b a i none)
def xzn {T:Type} (b a:LA) (δ:T) (κ:Bool->T):T:=br ((↑b.length:Int) != (↑a.length:Int)) (κ (false)) (br ((Iter (xbA b a) 0).isSome) (br (((Iter (xbA b a) 0).getD (false,false,())).fst) (κ (((Iter (xbA b a) 0).getD (false,false,())).snd.fst)) (κ (true))) δ)
def xyQ (b a:LA):=xzn b a none some
def xP2:EO:=xLl.f Tryz.func62 43 0 [] [(4,xzm.lp)] (lk1 xzm.ok) (u2 (uL 3) (uL 1)) (fun (b,a,_) _=>xzn b a) (fun _ p=>AV.bool p) false
def xBm (k:Int):Bool:=(br (k==1) ((true)) (br (k==2) ((true)) ((k==3))))
def xHN {T:Type} (k:Int) (δ:T) (κ:Bool->T):T:=br (k==1) (κ (true)) (br (k==2) (κ (true)) (κ (k==3)))
def xLm:EO:=xP2.fT Tryz.func95 13 0 [] [] lk0 (fun (k,_)=>xHN k none) (u1 uI) (fun (k,_)=>xBm k) (fun _ p=>(AV.bool p))
def xjD {T:Type} (l:LA) (i:Int) (δ:T) (κl:(Int)->T) (κr:(Bool×(Bool)×(Unit))->T):T:=br (decide (i<l.length)) (br (ixI l i) (br (ixS l i (Sh.int .i64) 0) (br (!xBm (gC l i 0).toInt) (κr (true,(false),())) (κl (i64.wrap (i+1)))) δ) δ) (κr (false,false,()))
def xbx (l:LA):StT (Int) (Bool×(Bool)×(Unit)):=fun (i)=>xjD l i none inL inR
def xyF:=xLm.l 16 0 [] [] Tryz.f63 0 lk0 [0,3] [2] [] (q2 (qL 1) qI) xTk (fun (l,i,_) _=>(xbx l,(i),fun p=>(.node p.1 (.leaf .ret [AV.bool p.2.1] []) (.leaf (.exit 0) [.top] [])))) (false,false,()) fun (l,_,_) _ (i)=>(((l,i,()),()),xjD l i none)
def xyk {T:Type} (l:LA) (δ:T) (κ:Bool->T):T:=br ((Iter (xbx l) 0).isSome) (br (((Iter (xbx l) 0).getD (false,false,())).fst) (κ (((Iter (xbx l) 0).getD (false,false,())).snd.fst)) (κ (true))) δ
def xAk (l:LA):=xyk l none some
def xB0:EO:=xLm.f Tryz.func63 16 0 [] [(2,xyF.lp)] (lk1 xyF.ok) (u1 (uL 1)) (fun (l,_) _=>xyk l) (fun _ p=>AV.bool p) false
def xj1 (a:LA) (i:Int):=ixI a i
def xj2 (a:LA) (i:Int):=decide (i.toNat<a.length)&&xSz (Sh.int .i64) (gC a i 0)
def xcC (a:LA) (i:Int):=(gC a i 0).toInt
def xkG {T:Type} (c a l:LA) (d:Nat) (i:Int) (b:LA) (δ:T) (κl:(Nat×Int×LA)->T) (κr:(Bool×(Int×Nat×LA)×(Nat×LA))->T):T:=br (decide (i<a.length)) (br (xj1 a i) (br (xj2 a i) (br (decide (xcC a i<0)) (κr (true,(6,d,b),(0,[]))) (br (xj1 a i) (br (xj2 a i) (br (decide (xcC a i>=c.length)) (κr (true,(6,d,b),(0,[]))) (br (xj1 a i) (br (xj2 a i) (br (decide (0<=xcC a i)&&decide (xcC a i<c.length)) (br (decide ((xcC a i).toNat<c.length)&&xSz (Sh.int .i64) ((c.getD (xcC a i).toNat .top).cells.getD 0 .top)) (br (rmB d b 1 8) (κl (d+1,i64.wrap (i+1),b++[AV.int .i64 ((c.getD (xcC a i).toNat .top).cells.getD 0 .top).toInt])) δ) δ) δ) δ) δ)) δ) δ)) δ) δ) (κr (false,(0,0,[]),(d,b)))
def xdK (b d l:LA):StT (Nat×Int×LA) (Bool×(Int×Nat×LA)×(Nat×LA)):=fun (c,i,a)=>xkG b d l c i a none inL inR
def xoT:=xB0.l 122 0 [] [] Tryz.f36 0 lk0 [0,1,2,8,9] [0,2,6,7,8] [(8,1,3)] (q5 (qL 1) (qL 1) (qL 2) (xTw 0 0 0) qI) (q1 (qB 0 1 3 xTm)) (fun (a,d,l,c,i,_) (b,_)=>(xdK a d l,(c,i,b),fun p=>(.node p.1 (.leaf .ret [AV.list 1 a,AV.list 2 l,AV.nils,AV.int .i64 p.2.1.1,AV.osl 0 0 0 p.2.1.2.1] [bF 0 1 3 p.2.1.2.2]) (.leaf (.exit 0) [AV.list 1 a,AV.list 2 l,.top,.top,AV.osl 0 0 0 p.2.2.1] [bF 0 1 3 p.2.2.2])))) (false,(0,0,[]),(0,[])) fun (a,d,l,_,_,_) _ (c,i,b)=>(((a,d,l,c,i,()),(b,())),xkG a d l c i b none)
def xbZ (l:LA) (i:Int):=(gC l i 0).toInt
def xbv (l:LA) (i:Int):=(gC l i 1).toInt
def xoU (a l:LA) (c:Nat) (i:Int) (b:LA):=decide (0<=xbv l i)&&decide (xbv l i<a.length)
def xoV (a l:LA) (c:Nat) (i:Int) (b:LA):=decide ((xbv l i).toNat<a.length)&&xSz (Sh.int .i64) ((a.getD (xbv l i).toNat .top).cells.getD 0 .top)
def xvG (a l:LA) (c:Nat) (i:Int) (b:LA):=decide (xbv l i>=a.length)
def xvH (b l:LA) (c:Nat) (i:Int) (a:LA):=decide (xbv l i<0)
def xvI (l:LA) (i:Int):=xbZ l i==4
def xvJ (l:LA) (i:Int):=xbZ l i==3
def xvK (a l:LA) (i:Int):=((a.getD (xbv l i).toNat .top).cells.getD 0 .top).toInt != 1
def xvL (l:LA) (i:Int):=xbZ l i==2
def xvM (l:LA) (i:Int):=xbv l i==(-1)
def xiu {T:Type} (c l:LA) (b:Nat) (i:Int) (a:LA) (δ:T) (κl:(Nat×Int×LA)->T):T:=br (xoU c l b i a) (br (xoV c l b i a) (br (rmB b a 1 8) (κl (b+1,i64.wrap (i+1),a++[AV.int .i64 ((c.getD (xbv l i).toNat .top).cells.getD 0 .top).toInt])) δ) δ) δ
def xiv {T:Type} (b:Nat) (i:Int) (a:LA) (δ:T) (κl:(Nat×Int×LA)->T):T:=br (rmB b a 1 8) (κl (b+1,i64.wrap (i+1),a++[AV.int .i64 1])) δ
def xiw {T:Type} (c l:LA) (b:Nat) (i:Int) (a:LA) (δ:T) (κl:(Nat×Int×LA)->T):T:=br (xvJ l i) (xiu c l b i a δ κl) (br (xvI l i) (xiu c l b i a δ κl) (xiv b i a δ κl))
def xit {T:Type} (c l:LA) (b:Nat) (i:Int) (a:LA) (δ:T) (κl:(Nat×Int×LA)->T) (κr:(Bool×(Int×Nat×LA)×(Nat×LA))->T):T:=br (xvH c l b i a) (κr (true,(6,b,a),(0,[]))) (br (xvG c l b i a) (κr (true,(6,b,a),(0,[]))) (br (xvL l i) (br (xoU c l b i a) (br (xoV c l b i a) (br (xvK c l i) (κr (true,(7,b,a),(0,[]))) (xiw c l b i a δ κl)) δ) δ) (xiw c l b i a δ κl)))
def xef {T:Type} (c l:LA) (b:Nat) (i:Int) (a:LA) (δ:T) (κl:(Nat×Int×LA)->T) (κr:(Bool×(Int×Nat×LA)×(Nat×LA))->T):T:=br (xvM l i) (br (xbZ l i==1) (xiv b i a δ κl) (xit c l b i a δ κl κr)) (xit c l b i a δ κl κr)
def xkH {T:Type} (c l:LA) (b:Nat) (i:Int) (a:LA) (δ:T) (κl:(Nat×Int×LA)->T) (κr:(Bool×(Int×Nat×LA)×(Nat×LA))->T):T:=br (decide (i<l.length)) (br (ixI l i) (br (ixT l i 2 [Sh.int .i64,Sh.int .i64] 0) (br (xbZ l i != 1) (br (xbZ l i != 2) (br (xbZ l i != 3) (br (xbZ l i != 4) (κr (true,(7,b,a),(0,[]))) (xef c l b i a δ κl κr)) (xef c l b i a δ κl κr)) (xef c l b i a δ κl κr)) (xef c l b i a δ κl κr)) δ) δ) (κr (false,(0,0,[]),(b,a)))
def xdL (b l:LA):StT (Nat×Int×LA) (Bool×(Int×Nat×LA)×(Nat×LA)):=fun (c,i,a)=>xkH b l c i a none inL inR
def xvF:=xB0.l 122 0 [] [(3,xoT.lp)] Tryz.f36 1 lk0 [0,2,8,10] [6,7,8] [(8,1,3)] (q4 (qL 1) (qL 2) (xTw 0 0 0) qI) (q1 (qB 0 1 3 xTm)) (fun (b,l,c,i,_) (a,_)=>(xdL b l,(c,i,a),fun p=>(.node p.1 (.leaf .ret [AV.nils,AV.int .i64 p.2.1.1,AV.osl 0 0 0 p.2.1.2.1] [bF 0 1 3 p.2.1.2.2]) (.leaf (.exit 2) [.top,.top,AV.osl 0 0 0 p.2.2.1] [bF 0 1 3 p.2.2.2])))) (false,(0,0,[]),(0,[])) fun (b,l,_,_,_) _ (c,i,a)=>(((b,l,c,i,()),(a,())),xkH b l c i a none)
def xgT:Env:=xB0.E.fn 122 0 (lsOf []) (xSX [(3,xoT.lp),(9,xvF.lp)])
theorem xBW:xSB P0 (xTh.at 0) xgT:=xB0.ok.fn
theorem xAV:LoOk P0 (xTh.at xgT.pin) xgT (Tryz.f36.body.getD .skip):=xgK (ls:=[xSF Tryz.f36 0,xSF Tryz.f36 1]) (by kernel_rfl) (lkC xoT.ok (lkC xvF.ok lkN))
def xjC (a b l:LA):=Iter (xdK a b l) (0,0,[])
def xjB (a b l:LA):=(xjC a b l).getD (false,(0,0,[]),0,[])
def xjA (a b l:LA):=(xjB a b l).snd
def xjz (a b l:LA):=(xjA a b l).snd
def xjy (a b l:LA):=Iter (xdL a l) ((xjz a b l).fst,0,(xjz a b l).snd)
def xjw (a b l:LA):=(xjy a b l).getD (false,(0,0,[]),0,[])
def xjv (a b l:LA):=(xjw a b l).snd
def xju (a b l:LA):=(xjv a b l).snd
def xjs (a b l:LA):=(xju a b l).snd
def xjt (a b l:LA):=(xju a b l).fst
def xpl {T:Type} (a b l:LA) (δ:T) (κ:Bool×(Int)×(LA×Int)->T):T:=br ((xjC a b l).isSome) (br ((xjB a b l).fst) (κ (true,((xjA a b l).fst.fst),([],0))) (br ((xjy a b l).isSome) (br ((xjw a b l).fst) (κ (true,((xjv a b l).fst.fst),([],0))) (br (decide (0+xjt a b l<=(xjs a b l).length)&&true) (κ (false,0,(List.take (xjt a b l) (List.drop 0 (xjs a b l)),0))) δ)) δ)) δ
def xbV (a b l:LA):Option (LA×Int):=xpl a b l none (fun (p:Bool×(Int)×(LA×Int))=>some (br p.1 (([],p.2.1)) p.2.2))
theorem xEF (a b l:LA):EncS (fun (p:LA×Int)=>(AV.tuple [AV.list 1 p.1,AV.int .i64 p.2]:AV)) (xbV a b l) (XF P0 xgT Tryz.f36 (Tryz.f36.body.getD .skip) [AV.list 1 a,AV.list 1 b,AV.list 2 l]):=by
 have h:XF P0 xgT Tryz.f36 (Tryz.f36.body.getD .skip) [AV.list 1 a,AV.list 1 b,AV.list 2 l]=xpl a b l none (fun (p:Bool×(Int)×(LA×Int))=>some ((br p.1 (AV.tuple [AV.nils,AV.int .i64 p.2.1]) (AV.tuple [AV.list 1 p.2.2.1,AV.int .i64 p.2.2.2])):AV)):=by kernel_rfl
 rw [h];unfold xbV xpl;repeat' (first|exact EncS.none|exact EncS.some (Sub.refl _)|exact EncS.some (xBB _)|exact EncS.some (xBQ _ _)|refine EncS.br ?_ ?_)
def xEE:LA->Option (Bool×AV):=ocOf (xTj (xTB 1 xTm) (xTj (xTB 1 xTm) (xTj (xTB 2 xTm) xTl))) fun (a,(b,(l,_)))=>((xbV a b l).isSome,(AV.tuple [AV.list 1 ((xbV a b l).getD ([],0)).1,AV.int .i64 ((xbV a b l).getD ([],0)).2]))
theorem xED:OcOk P0 xTh 36 (xEE):=xmF fun e j f=>by
 obtain ⟨c,⟨g,⟨l,_⟩⟩⟩:=e;obtain ⟨a,b⟩:=Prod.mk.inj f;obtain ⟨y,h,i⟩:=xEF _ _ _ _ (xcf (d:=([],0)) a);have hg:Good P0 xTh 36 _ _:=xdT (p:=xgT.pin) (xf4 xSK (xSL P0 _) rfl xBW Tryz.func36 rfl (by kernel_rfl) xAV h)
 rw [<-b];exact Good.sub hg i
def xD0:EO:=xB0.w xED
def xmX (b:LA) (i c a:Int):=decide (0<=a)&&decide (a<(↑(gC b i 0).toList.length:Int))
def xmY (a:LA) (i c b:Int):=decide (b.toNat<(gC a i 0).toList.length)
def xb3 (a:LA) (i b:Int):=((gC a i 0).toList.getD b.toNat .top).cells
def xiq {T:Type} (a:LA) (h:Nat) (i c b e f:Int) (g:List UInt8) (d:LA) (δ:T) (κl:(Nat×Int×Int×Int×Int×Int×List UInt8×LA)->T) (κr:(Nat×Int×Int×Int×Int×List UInt8×LA)->T):T:=br (decide (i<a.length)) (br (ixI a i) (br (ixS a i (Sh.list 3) 0) (br (xmX a i c b) (br (xmY a i c b&&xSz (Sh.int .i64) ((xb3 a i b).getD 0 .top)) (br (((xb3 a i b).getD 0 .top).toInt != 0) (br (ixI a i) (br (ixS a i (Sh.list 3) 0) (br (xmX a i c b) (br (xmY a i c b&&((xb3 a i b).length==3&&xSG [Sh.int .i64,Sh.int .i64,Sh.str] (xb3 a i b) 0)) (br (rmB h d 1 32) (κl (h+1,i64.wrap (i+1),c,b,e,f,g,d++[AV.agg [AV.int .i64 ((xb3 a i b).getD 0 .top).toInt,AV.int .i64 ((xb3 a i b).getD 1 .top).toInt,AV.str ((xb3 a i b).getD 2 .top).toStr]])) δ) δ) δ) δ) δ) (κl (h,i64.wrap (i+1),c,b,e,f,g,d))) δ) δ) δ) δ) (κr (h,c,b,e,f,g,d))
def xcX (a:LA):StT (Nat×Int×Int×Int×Int×Int×List UInt8×LA) (Nat×Int×Int×Int×Int×List UInt8×LA):=fun (f,i,g,h,b,c,d,e)=>xiq a f i g h b c d e none inL inR
def xhB:=xD0.l 135 0 [3000052] [] Tryz.f87 0 lk0 [0,3,4,5,6] [3,4,5] [(5,3,76)] (q5 (qL 1) (xTy 0 0 0 0) (xTy 1 0 0 0) (xTw 2 0 0) qI) (q3 (qB 0 2 74 (q1 (xTz (q2 qI qI)))) (qB 0 3 76 (q1 (xTz (q3 qI qI pStr)))) (qB 0 3 76 xTm)) (fun (a,_,_,f,i,_) (((g,h,_),_),((b,c,d,_),_),e,_)=>(xcX a,(f,i,g,h,b,c,d,e),fun p=>(.leaf (.exit 0) [AV.own 0 0 0 0,AV.own 1 0 0 0,AV.osl 2 0 0 p.1] [bF 0 2 74 [AV.agg [AV.int .i64 p.2.1,AV.int .i64 p.2.2.1]],bF 0 3 76 [AV.agg [AV.int .i64 p.2.2.2.1,AV.int .i64 p.2.2.2.2.1,AV.str p.2.2.2.2.2.1]],bF 0 3 76 p.2.2.2.2.2.2]))) (0,0,0,0,0,[],[]) fun (a,_,_,_,_,_) _ (f,i,g,h,b,c,d,e)=>(((a,(),(),f,i,()),(((g,h,()),()),((b,c,d,()),()),e,())),xiq a f i g h b c d e none)
def xir {T:Type} (l:LA) (a e i b c:Int) (d:List UInt8) (δ:T) (κl:(Int×Int×Int×Int×Int×List UInt8)->T) (κr:(Int×Int×Int×Int×List UInt8)->T):T:=br (decide (i<l.length)) (br (ixI l i) (br (ixS l i (Sh.int .i64) 1) (br (ixI l i) (br (ixS l i (Sh.int .i64) 1) (κl (i64.wrap (a+i64.wrap ((gC l i 1).toInt.tdiv 1048576)),i64.wrap (e+(gC l i 1).toInt.tmod 1048576),i64.wrap (i+1),b,c,d)) δ) δ) δ) δ) (κr (a,e,b,c,d))
def xcY (l:LA):StT (Int×Int×Int×Int×Int×List UInt8) (Int×Int×Int×Int×List UInt8):=fun (a,e,i,b,c,d)=>xir l a e i b c d none inL inR
def xmZ:=xD0.l 135 0 [3000052] [(5,xhB.lp)] Tryz.f87 1 lk0 [4,5,7,8,9] [4,7,8] [(5,3,76)] (q5 (xTy 0 0 0 0) (qL 3) qI qI qI) (q1 (qB 0 3 76 (q1 (xTz (q3 qI qI pStr))))) (fun (_,l,a,e,i,_) (((b,c,d,_),_),_)=>(xcY l,(a,e,i,b,c,d),fun p=>(.leaf (.exit 2) [AV.own 0 0 0 0,AV.int .i64 p.1,AV.int .i64 p.2.1] [bF 0 3 76 [AV.agg [AV.int .i64 p.2.2.1,AV.int .i64 p.2.2.2.1,AV.str p.2.2.2.2]]]))) (0,0,0,0,[]) fun (_,l,_,_,_,_) _ (a,e,i,b,c,d)=>((((),l,a,e,i,()),(((b,c,d,()),()),())),xir l a e i b c d none)
def xmx (l:LA) (i:Int):=decide (i.toNat<l.length)&&((l.getD i.toNat .top).cells.length==3&&xSG [Sh.int .i64,Sh.int .i64,Sh.str] (l.getD i.toNat .top).cells 0)
def xm0 (l:LA) (i a b:Int) (c:List UInt8):=xh3 (gC l i 0).toInt (gC l i 1).toInt (gC l i 2).toStr a b c
def xg7 {T:Type} (l:LA) (i d e a b:Int) (c:List UInt8) (δ:T) (κl:(Int×Int×Int×Int×Int×List UInt8×Int×Int×List UInt8)->T):T:=br (ixI l i) (br (xmx l i) (κl (i64.wrap (i+1),d,e,a,b,c,(gC l i 0).toInt,(gC l i 1).toInt,(gC l i 2).toStr)) δ) δ
def xg8 {T:Type} (l:LA) (i g h d e:Int) (f:List UInt8) (a b:Int) (c:List UInt8) (δ:T) (κl:(Int×Int×Int×Int×Int×List UInt8×Int×Int×List UInt8)->T):T:=br (g==4) (br (decide (xm0 l i a b c>0)) (xg7 l i g h d e f δ κl) (κl (i64.wrap (i+1),g,h,d,e,f,a,b,c))) (κl (i64.wrap (i+1),g,h,d,e,f,a,b,c))
def xis {T:Type} (l:LA) (i g h d e:Int) (f:List UInt8) (a b:Int) (c:List UInt8) (δ:T) (κl:(Int×Int×Int×Int×Int×List UInt8×Int×Int×List UInt8)->T) (κr:(Int×Int×List UInt8×Int×Int×List UInt8)->T):T:=br (decide (i<l.length)) (br (ixI l i) (br (xmx l i) (br (g==3) (br (decide (xm0 l i a b c<0)) (xg7 l i g h d e f δ κl) (xg8 l i g h d e f a b c δ κl)) (xg8 l i g h d e f a b c δ κl)) δ) δ) (κr (d,e,f,a,b,c))
def xcZ (l:LA):StT (Int×Int×Int×Int×Int×List UInt8×Int×Int×List UInt8) (Int×Int×List UInt8×Int×Int×List UInt8):=fun (i,g,h,d,e,f,a,b,c)=>xis l i g h d e f a b c none inL inR
def xtE:=xD0.l 135 0 [3000052] [(5,xhB.lp),(16,xmZ.lp)] Tryz.f87 2 lk0 [3,4,5,10,11] [4,10] [(5,3,76)] (q5 (xTy 0 0 0 0) (xTy 1 0 0 0) (qL 3) (xTy 2 0 0 0) qI) (q3 (qB 0 2 74 (q1 (xTz (q2 qI qI)))) (qB 0 3 76 (q1 (xTz (q3 qI qI pStr)))) (qB 0 3 76 (q1 (xTz (q3 qI qI pStr))))) (fun (_,_,l,_,i,_) (((g,h,_),_),((d,e,f,_),_),((a,b,c,_),_),_)=>(xcZ l,(i,g,h,d,e,f,a,b,c),fun p=>(.leaf (.exit 4) [AV.own 0 0 0 0,AV.own 1 0 0 0] [bF 0 3 76 [AV.agg [AV.int .i64 p.1,AV.int .i64 p.2.1,AV.str p.2.2.1]],bF 0 3 76 [AV.agg [AV.int .i64 p.2.2.2.1,AV.int .i64 p.2.2.2.2.1,AV.str p.2.2.2.2.2]]]))) (0,0,[],0,0,[]) fun (_,_,l,_,_,_) _ (i,g,h,d,e,f,a,b,c)=>((((),(),l,(),i,()),(((g,h,()),()),((d,e,f,()),()),((a,b,c,()),()),())),xis l i g h d e f a b c none)
def xoS (b:LA) (c a:Int):=Iter (xcX b) (0,0,c,a,0,0,[],[])
def xoR (b:LA) (c a:Int):=(xoS b c a).getD (0,0,0,0,0,[],[])
def xdn (b:LA) (c a:Int):=(xoR b c a).fst
def xoQ (b:LA) (c a:Int):=(xoR b c a).snd
def xj0 (b:LA) (c a:Int):=(xoQ b c a).fst
def xoP (b:LA) (c a:Int):=(xoQ b c a).snd
def xoO (b:LA) (c a:Int):=(xoP b c a).snd
def xoM (b:LA) (c a:Int):=(xoO b c a).snd
def xoN (b:LA) (c a:Int):=(xoO b c a).fst
def xoK (b:LA) (c a:Int):=(xoM b c a).snd
def xoL (b:LA) (c a:Int):=(xoM b c a).fst
def xoI (b:LA) (c a:Int):=(xoK b c a).fst
def xoJ (b:LA) (c a:Int):=(xoK b c a).snd
def xd2 (b:LA) (c a:Int):=List.take (xdn b c a) (List.drop 0 (xoJ b c a))
def xfl (b:LA) (c a:Int):=((xd2 b c a).getD 0 .top).cells
def xoH (b:LA) (c a:Int):=Iter (xcY (xd2 b c a)) (0,0,0,xoN b c a,xoL b c a,xoI b c a)
def xqc (b:LA) (c a:Int):=Iter (xcZ (xd2 b c a)) (1,xj0 b c a,(xoP b c a).fst,xoN b c a,xoL b c a,xoI b c a,((xfl b c a).getD 0 .top).toInt,((xfl b c a).getD 1 .top).toInt,((xfl b c a).getD 2 .top).toStr)
def xoG (b:LA) (c a:Int):=(xoH b c a).getD (0,0,0,0,[])
def xqb (b:LA) (c a:Int):=((xqc b c a).getD (0,0,[],0,0,[])).snd.snd.snd
def xqg (b:LA) (c a:Int):=(xoG b c a).snd.fst
def xkB (b:LA) (c a:Int):=i64.wrap ((xoG b c a).fst+i64.wrap ((xqg b c a).tdiv 1048576))
def xqa (b:LA) (c a:Int):=(xqb b c a).snd
def xqf (b:LA) (c a:Int):=xdY (i64.wrap (i64.wrap (xkB b c a*1048576)+(xqg b c a).tmod 1048576))
def xqe (b:LA) (c a:Int):=(xqf b c a).getD (0,0,[])
def xqd (b:LA) (c a:Int):=(xqe b c a).snd
def xl3 {T:Type} (b:LA) (c a:Int) (δ:T) (κ:Int×Int×List UInt8->T):T:=br (decide (a<0)) (br ((xdY (↑b.length:Int)).isSome) (κ (((xdY (↑b.length:Int)).getD (0,0,[])).fst,((xdY (↑b.length:Int)).getD (0,0,[])).snd.fst,((xdY (↑b.length:Int)).getD (0,0,[])).snd.snd)) δ) (br ((xoS b c a).isSome) (br (xj0 b c a==1) (br ((xdY (↑(xdn b c a):Int)).isSome) (κ (((xdY (↑(xdn b c a):Int)).getD (0,0,[])).fst,((xdY (↑(xdn b c a):Int)).getD (0,0,[])).snd.fst,((xdY (↑(xdn b c a):Int)).getD (0,0,[])).snd.snd)) δ) (br (decide (0+xdn b c a<=(xoJ b c a).length)&&true) (br ((↑(xd2 b c a).length:Int)==0) (κ (0,0,[])) (br (xj0 b c a==2) (br ((xoH b c a).isSome) (br (decide (xkB b c a>1099511627776)) (κ (0,0,[])) (br (decide (xkB b c a<(-1099511627776))) (κ (0,0,[])) (br ((xqf b c a).isSome) (κ ((xqe b c a).fst,(xqd b c a).fst,(xqd b c a).snd)) δ))) δ) (br (decide (0<(↑(xd2 b c a).length:Int))) (br (decide (0<(xd2 b c a).length)&&((xfl b c a).length==3&&xSG [Sh.int .i64,Sh.int .i64,Sh.str] (xfl b c a) 0)) (br ((xqc b c a).isSome) (κ ((xqb b c a).fst,(xqa b c a).fst,(xqa b c a).snd)) δ) δ) δ))) δ)) δ)
def xkA (b:LA) (c a:Int):=xl3 b c a none some
def xI4:EO:=xD0.f Tryz.func87 135 0 [3000052] [(5,xhB.lp),(16,xmZ.lp),(25,xtE.lp)] (lks (lkC xhB.ok (lkC xmZ.ok (lkC xtE.ok lkN)))) (u2 (uL 1) (xTC (u2 uI uI))) (fun (b,(c,a,_),_) _=>xl3 b c a) (fun _ p=>AV.agg [AV.int .i64 p.1,AV.int .i64 p.2.1,AV.str p.2.2]) (0,0,[])
def xuu (a l:LA) (k:Int):=(xkA a (gC l k 0).toInt (gC l k 1).toInt).getD (0,0,[])
def xut (a l:LA) (k:Int):=(xuu a l k).snd
def xrh {T:Type} (b l:LA) (c:Nat) (k:Int) (a:LA) (δ:T) (κl:(Nat×Int×LA)->T) (κr:(Nat×LA)->T):T:=br (decide (k<l.length)) (br (ixI l k) (br (ixT l k 2 [Sh.int .i64,Sh.int .i64] 0) (br ((xkA b (gC l k 0).toInt (gC l k 1).toInt).isSome) (br (rmB c a 1 32) (κl (c+1,i64.wrap (k+1),a++[AV.agg [AV.int .i64 (xuu b l k).fst,AV.int .i64 (xut b l k).fst,AV.str (xut b l k).snd]])) δ) δ) δ) δ) (κr (c,a))
def xf5 (c l:LA):StT (Nat×Int×LA) (Nat×LA):=fun (b,k,a)=>xrh c l b k a none inL inR
def xz2:=xI4.l 28 0 [] [] Tryz.f56 0 lk0 [1,2,7,8] [7] [(7,3,76)] (q4 (qL 1) (qL 2) (xTw 0 0 0) qI) (q1 (qB 0 3 76 xTm)) (fun (c,l,b,k,_) (a,_)=>(xf5 c l,(b,k,a),fun p=>(.leaf (.exit 0) [AV.osl 0 0 0 p.1] [bF 0 3 76 p.2]))) (0,[]) fun (c,l,_,_,_) _ (b,k,a)=>(((c,l,b,k,()),(a,())),xrh c l b k a none)
def xzw (a b l:LA):=Iter (xf5 b l) (0+a.length,0,[]++a)
def xzv (b a l:LA):=(xzw b a l).getD (0,[])
def xzt (b a l:LA):=(xzv b a l).snd
def xzu (b a l:LA):=(xzv b a l).fst
def xAm {T:Type} (a b l:LA) (δ:T) (κ:LA->T):T:=br (decide ((0+a.length)*32<=140737488355328)&&decide (0+a.length<=4611686018427387904)) (br ((xzw a b l).isSome) (br (decide (0+xzu a b l<=(xzt a b l).length)&&true) (κ (List.take (xzu a b l) (List.drop 0 (xzt a b l)))) δ) δ) δ
def xtG (b a l:LA):=xAm b a l none some
def xAL:EO:=xI4.f Tryz.func56 28 0 [] [(3,xz2.lp)] (lk1 xz2.ok) (u3 (uL 3) (uL 1) (uL 2)) (fun (b,a,l,_) _=>xAm b a l) (fun _ p=>AV.list 3 p) []
def xiT (d l e:LA) (f:Int) (a:Nat) (g:Int) (h i b c:LA):=decide ((↑a:Int)<(↑(a+1):Int))
def xhO (a b:LA) (c:Int):=xu0 (List.take ((xdH (gC b c 0).toList a).getD (0,[])).fst (List.drop 0 ((xdH (gC b c 0).toList a).getD (0,[])).snd))
def xax (a:Nat):Nat:=0+(↑a:Int).toNat
def xiS (d l e:LA) (f:Int) (b:Nat) (g:Int) (h i c a:LA):=decide (xax b<(a++[AV.list 1 []]).length)
def xbQ (a b:LA) (c:Int):=(xhO a b c).getD []
def xa4 (b:Nat) (a:LA):=(((a++[AV.list 1 []]).getD (xax b) .top).cells.getD 0 .top).toList.length
def xiX (c:LA) (b:Nat) (d:Int) (a:LA):=(((a++[AV.list 1 []]).getD (xax b) .top).cells.getD 0 .top).toList++[AV.list 3 (gC c d 0).toList]
def xiU (c d:LA) (b:Nat) (e:Int) (a:LA):=decide (0<=(xST (AV.int .i64 0) a (xbQ c d e)).toInt)&&decide ((xST (AV.int .i64 0) a (xbQ c d e)).toInt<(↑b:Int))
def xaT (b c:LA) (d:Int) (a:LA):Nat:=0+(xST (AV.int .i64 0) a (xbQ b c d)).toInt.toNat
def xiW (a b:LA) (c:Int):=decide ((xbQ a b c).length<=4611686018427387904)
def xeA (b:Nat) (a:LA):=(a++[AV.list 1 []]).set (xax b) (AV.int .i64 (↑(xa4 b a):Int))
def xiV (c d:LA) (e:Int) (a b:LA):=decide (xaT c d e a<b.length)
def xa2 (c d:LA) (e:Int) (a b:LA):=((b.getD (xaT c d e a) .top).cells.getD 0 .top).toList.length
def xhP (e c:LA) (d:Int) (a b:LA):=((b.getD (xaT e c d a) .top).cells.getD 0 .top).toList++[AV.list 3 (gC c d 0).toList]
def xdM (c d:LA) (e:Int) (a b:LA):=xa2 c d e a b+1
def xgq {T:Type} (d l f:LA) (i:Int) (c:Nat) (e:Int) (g h b a:LA) (δ:T) (κl:(Nat×Int×LA×LA×LA×LA)->T) (κr:(Nat×LA×LA×LA)->T):T:=br (decide (e<i)) (br (ixI f e) (br (ixS f e (Sh.list 3) 0) (br ((xdH (gC f e 0).toList d).isSome) (br (decide (0+((xdH (gC f e 0).toList d).getD (0,[])).fst<=((xdH (gC f e 0).toList d).getD (0,[])).snd.length)&&true) (br ((xhO d f e).isSome) (br (xiW d f e&&xSz (Sh.int .i64) (xST (AV.int .i64 0) b (xbQ d f e))) (br (!xS4 b (xbQ d f e)) (br (decide (b.length<4611686018427387904)&&xiW d f e) (br (rmB c a 1 24) (br (xiT d l f i c e g h b a) (br (xiS d l f i c e g h b a&&(xTf 1 (((a++[AV.list 1 []]).getD (xax c) .top).cells.getD 0 .top)&&((a++[AV.list 1 []]).getD (xax c) .top).cells.length==1)) (br (xiS d l f i c e g h b a&&(xTf 1 (((a++[AV.list 1 []]).getD (xax c) .top).cells.getD 0 .top)&&(((a++[AV.list 1 []]).getD (xax c) .top).cells.length==1&&(2*xa4 c a==2*xa4 c a&&(xa4 c a==xa4 c a&&(xa4 c a==xa4 c a&&(decide ((xa4 c a+1)*24<=140737488355328)&&decide (xa4 c a+1<=4611686018427387904)))))))) (br (xiT d l f i c e g h b a) (br (decide (xax c<(xeA c a).length)&&(((xeA c a).getD (xax c) .top).cells.length==1&&(xa4 c a+1==(xiX f c e a).length&&xTF (((xeA c a).getD (xax c) .top).cells.getD 0 .top) (xa4 c a+1)))) (κl (c+1,i64.wrap (e+1),g,h,xSR b (xbQ d f e) (AV.int .i64 (↑c:Int)),(xeA c a).set (xax c) (AV.list 1 (xiX f c e a)))) δ) δ) δ) δ) δ) δ) δ) (br (xiU d f c e b) (br (xiV d f e b a&&(xTf 1 ((a.getD (xaT d f e b) .top).cells.getD 0 .top)&&(a.getD (xaT d f e b) .top).cells.length==1)) (br (xiV d f e b a&&(xTf 1 ((a.getD (xaT d f e b) .top).cells.getD 0 .top)&&((a.getD (xaT d f e b) .top).cells.length==1&&(2*xa2 d f e b a==2*xa2 d f e b a&&(xa2 d f e b a==xa2 d f e b a&&(xa2 d f e b a==xa2 d f e b a&&(decide (xdM d f e b a*24<=140737488355328)&&decide (xdM d f e b a<=4611686018427387904)))))))) (br (xiU d f c e b) (br (decide (xaT d f e b<(a.set (xaT d f e b) (AV.int .i64 (↑(xa2 d f e b a):Int))).length)&&(((a.set (xaT d f e b) (AV.int .i64 (↑(xa2 d f e b a):Int))).getD (xaT d f e b) .top).cells.length==1&&(xdM d f e b a==(xhP d f e b a).length&&xTF (((a.set (xaT d f e b) (AV.int .i64 (↑(xa2 d f e b a):Int))).getD (xaT d f e b) .top).cells.getD 0 .top) (xdM d f e b a)))) (κl (c,i64.wrap (e+1),g,h,b,(a.set (xaT d f e b) (AV.int .i64 (↑(xa2 d f e b a):Int))).set (xaT d f e b) (AV.list 1 (xhP d f e b a)))) δ) δ) δ) δ) δ)) δ) δ) δ) δ) δ) δ) (κr (c,g,h,a))
def xbe (d l e:LA) (f:Int):StT (Nat×Int×LA×LA×LA×LA) (Nat×LA×LA×LA):=fun (c,g,h,i,a,b)=>xgq d l e f c g h i a b none inL inR
def xiR:=xAK.l 111 0 [57,2000068] [] Tryz.f43 0 lk0 [1,2,3,6,7,8,31,32,33] [1,2,3,6,8] [(8,1,244881293359)] (q9 (qL 1) (qL 2) (xTy 0 0 0 0) (xTy 1 0 0 0) (xTy 2 0 0 0) (xTw 3 0 0) (qL 1) qI qI) (q4 (qB 0 2 49 (q1 (xTz (q2 (qL 1) (qL 1))))) (qB 0 2 49 (q1 (xTz (q2 pNils pNils)))) (qB 0 2 1208925819615114573119488 xTm) (qB 0 1 244881293359 xTm)) (fun (d,l,_,_,_,c,e,f,g,_) (((h,i,_),_),((_,_,_),_),a,b,_)=>(xbe d l e f,(c,g,h,i,a,b),fun p=>(.leaf (.exit 0) [AV.list 1 d,AV.list 2 l,AV.own 0 0 0 0,AV.own 1 0 0 0,AV.osl 2 0 0 p.1] [bF 0 2 49 [AV.agg [AV.list 1 p.2.1,AV.list 1 p.2.2.1]],bF 0 2 49 [AV.agg [AV.nils,AV.nils]],bF 0 1 244881293359 p.2.2.2]))) (0,[],[],[]) fun (d,l,_,_,_,_,e,f,_,_) _ (c,g,h,i,a,b)=>(((d,l,(),(),(),c,e,f,g,()),(((h,i,()),()),(((),(),()),()),a,b,())),xgq d l e f c g h i a b none)
def xnZ (g a:LA) (b:Int):=(xhr g (gC a b 0).toInt (gC a b 1).toInt).getD (0,0,[])
def xnY (g a:LA) (b:Int):=(xnZ g a b).snd
def xj5 {T:Type} (k l:LA) (j:Nat) (g m:LA) (n o:Int) (b:LA) (i:Int) (d:Nat) (a:Int) (f h e c:LA) (δ:T) (κl:(Nat×Int×LA×LA×LA×LA)->T) (κr:(Nat×LA×LA×LA×LA)->T):T:=br (decide (a<i)) (br (ixI b a) (br (ixT b a 2 [Sh.int .i64,Sh.int .i64] 0) (br ((xhr g (gC b a 0).toInt (gC b a 1).toInt).isSome) (br (rmB d c 1 32) (κl (d+1,i64.wrap (a+1),f,h,e,c++[AV.agg [AV.int .i64 (xnZ g b a).fst,AV.int .i64 (xnY g b a).fst,AV.str (xnY g b a).snd]])) δ) δ) δ) δ) (κr (d,f,h,e,c))
def xcv (e l:LA) (c:Nat) (g f:LA) (h i:Int) (j:LA) (k:Int):StT (Nat×Int×LA×LA×LA×LA) (Nat×LA×LA×LA×LA):=fun (d,m,n,o,a,b)=>xj5 e l c g f h i j k d m n o a b none inL inR
def xi7:=xAK.l 111 0 [57,2000068] [(7,xiR.lp)] Tryz.f43 2 lk0 [1,2,3,6,14,16,17,68,69,70,82,83,84] [1,2,3,6,14,17,68,69,70] [(14,1,57),(17,3,76)] (xTi (qL 1) (xTi (qL 2) (xTi (xTy 0 0 0 0) (q10 (xTy 1 0 0 0) (xTw 2 0 0) (qL 1) (xTw 3 0 0) (qL 1) qI qI (qL 2) qI qI)))) (q4 (qB 0 2 49 (q1 (xTz (q2 (qL 1) (qL 1))))) (qB 0 2 49 (q1 (xTz (q2 pNils pNils)))) (qB 0 1 57 xTm) (qB 0 3 76 xTm)) (fun (e,l,_,_,a,g,d,f,h,i,j,k,m,_) (((n,o,_),_),((_,_,_),_),b,c,_)=>(xcv e l a g f h i j k,(d,m,n,o,b,c),fun p=>(.leaf (.exit 4) [AV.list 1 e,AV.list 2 l,AV.own 0 0 0 0,AV.own 1 0 0 0,AV.osl 2 0 0 a,AV.osl 3 0 0 p.1,AV.list 1 f,AV.int .i64 h,AV.int .i64 i] [bF 0 2 49 [AV.agg [AV.list 1 p.2.1,AV.list 1 p.2.2.1]],bF 0 2 49 [AV.agg [AV.nils,AV.nils]],bF 0 1 57 p.2.2.2.1,bF 0 3 76 p.2.2.2.2]))) (0,[],[],[],[]) fun (e,l,_,_,a,g,_,f,h,i,j,k,_,_) _ (d,m,n,o,b,c)=>(((e,l,(),(),a,g,d,f,h,i,j,k,m,()),(((n,o,()),()),(((),(),()),()),b,c,())),xj5 e l a g f h i j k d m n o b c none)
def xhV (e l c:LA) (f:Int) (b:Nat) (d:Int) (g h a:LA):=Iter (xcv e l b (gC c d 0).toList c f d l (↑l.length:Int)) (0,0,g,h,a,[])
def xhW (a b:LA) (c:Int):=(xdH (((gC b c 0).toList.getD 0 .top).cells.getD 0 .top).toList a).getD (0,[])
def xi4 (a l b:LA) (f:Int) (e:Nat) (c:Int) (g h d:LA):=Iter (xcv a l e (gC b c 0).toList b f c l (↑l.length:Int)) ((xhW a b c).fst,0,g,h,d,(xhW a b c).snd)
def xhU (c l d:LA) (e:Int) (b:Nat) (f:Int) (g h a:LA):=(xhV c l d e b f g h a).getD (0,[],[],[],[])
def xi3 (c l d:LA) (e:Int) (b:Nat) (f:Int) (g h a:LA):=(xi4 c l d e b f g h a).getD (0,[],[],[],[])
def xhS (c l d:LA) (e:Int) (b:Nat) (f:Int) (g h a:LA):=(xhU c l d e b f g h a).snd
def xhT (c l d:LA) (e:Int) (b:Nat) (f:Int) (g h a:LA):=(xhU c l d e b f g h a).fst
def xi1 (c l d:LA) (e:Int) (b:Nat) (f:Int) (g h a:LA):=(xi3 c l d e b f g h a).fst
def xi2 (c l d:LA) (e:Int) (b:Nat) (f:Int) (g h a:LA):=(xi3 c l d e b f g h a).snd
def xhR (c l d:LA) (e:Int) (b:Nat) (f:Int) (g h a:LA):=(xhS c l d e b f g h a).snd
def xi0 (c l d:LA) (e:Int) (b:Nat) (f:Int) (g h a:LA):=(xi2 c l d e b f g h a).snd
def xhQ (c l d:LA) (e:Int) (b:Nat) (f:Int) (g h a:LA):=(xhR c l d e b f g h a).snd
def xix (c l d:LA) (e:Int) (b:Nat) (f:Int) (g h a:LA):=(xi0 c l d e b f g h a).snd
def xi5 (c l d:LA) (e:Int) (b:Nat) (f:Int) (g h a:LA):=(xhQ c l d e b f g h a).fst
def xi6 (c l d:LA) (e:Int) (b:Nat) (f:Int) (g h a:LA):=(xhQ c l d e b f g h a).snd
def xiY (c l d:LA) (e:Int) (b:Nat) (f:Int) (g h a:LA):=(xix c l d e b f g h a).snd
def xiZ (c l d:LA) (e:Int) (b:Nat) (f:Int) (g h a:LA):=(xix c l d e b f g h a).fst
def xgr {T:Type} (c l e:LA) (f:Int) (a:Nat) (d:Int) (g h b:LA) (δ:T) (κl:(Nat×Int×LA×LA×LA)->T) (κr:(Nat×LA×LA×LA)->T):T:=br (decide (d<f)) (br (ixI e d) (br (ixS e d (Sh.list 1) 0) (br (decide ((↑c.length:Int)>0)) (br (decide (0<(↑(gC e d 0).toList.length:Int))) (br (decide (0<(gC e d 0).toList.length)&&xSz (Sh.list 3) (((gC e d 0).toList.getD 0 .top).cells.getD 0 .top)) (br ((xdH (((gC e d 0).toList.getD 0 .top).cells.getD 0 .top).toList c).isSome) (br ((xi4 c l e f a d g h b).isSome) (br (decide (0+xi1 c l e f a d g h b<=(xiY c l e f a d g h b).length)&&true) (br (a==(xiZ c l e f a d g h b).length&&(decide ((a+1)*24<=140737488355328)&&decide (a+1<=4611686018427387904))) (κl (a+1,i64.wrap (d+1),(xi2 c l e f a d g h b).fst,(xi0 c l e f a d g h b).fst,xiZ c l e f a d g h b++[AV.list 3 (List.take (xi1 c l e f a d g h b) (List.drop 0 (xiY c l e f a d g h b)))])) δ) δ) δ) δ) δ) δ) (br ((xhV c l e f a d g h b).isSome) (br (decide (0+xhT c l e f a d g h b<=(xi6 c l e f a d g h b).length)&&true) (br (a==(xi5 c l e f a d g h b).length&&(decide ((a+1)*24<=140737488355328)&&decide (a+1<=4611686018427387904))) (κl (a+1,i64.wrap (d+1),(xhS c l e f a d g h b).fst,(xhR c l e f a d g h b).fst,xi5 c l e f a d g h b++[AV.list 3 (List.take (xhT c l e f a d g h b) (List.drop 0 (xi6 c l e f a d g h b)))])) δ) δ) δ)) δ) δ) (κr (a,g,h,b))
def xbw (c l d:LA) (e:Int):StT (Nat×Int×LA×LA×LA) (Nat×LA×LA×LA):=fun (b,f,g,h,a)=>xgr c l d e b f g h a none inL inR
def xuZ:=xAK.l 111 0 [57,2000068] [(7,xiR.lp),(25,xi7.lp)] Tryz.f43 1 (lk1 xi7.ok) [1,2,3,6,14,68,69,70] [1,2,3,6,14] [(14,1,57)] (q8 (qL 1) (qL 2) (xTy 0 0 0 0) (xTy 1 0 0 0) (xTw 2 0 0) (qL 1) qI qI) (q3 (qB 0 2 49 (q1 (xTz (q2 (qL 1) (qL 1))))) (qB 0 2 49 (q1 (xTz (q2 pNils pNils)))) (qB 0 1 57 xTm)) (fun (c,l,_,_,b,d,e,f,_) (((g,h,_),_),((_,_,_),_),a,_)=>(xbw c l d e,(b,f,g,h,a),fun p=>(.leaf (.exit 2) [AV.list 1 c,AV.list 2 l,AV.own 0 0 0 0,AV.own 1 0 0 0,AV.osl 2 0 0 p.1] [bF 0 2 49 [AV.agg [AV.list 1 p.2.1,AV.list 1 p.2.2.1]],bF 0 2 49 [AV.agg [AV.nils,AV.nils]],bF 0 1 57 p.2.2.2]))) (0,[],[],[]) fun (c,l,_,_,_,d,e,_,_) _ (b,f,g,h,a)=>(((c,l,(),(),b,d,e,f,()),(((g,h,()),()),(((),(),()),()),a,())),xgr c l d e b f g h a none)
def xlc (c a b l:LA):=Iter (xbe b l a (↑a.length:Int)) (1,0,c,a,[AV.agg [AV.str [],AV.int .i64 0]],[AV.list 1 []])
def xld (c a b l:LA):=Iter (xbe b l a (↑a.length:Int)) (0,0,c,a,[],[])
def xk6 (c a b l:LA):=(xlc c a b l).getD (0,[],[],[])
def xlb (c a b l:LA):=(xld c a b l).getD (0,[],[],[])
def xk4 (c a b l:LA):=(xk6 c a b l).snd
def xk5 (c a b l:LA):=(xk6 c a b l).fst
def xk9 (c a b l:LA):=(xlb c a b l).snd
def xla (c a b l:LA):=(xlb c a b l).fst
def xk3 (c a b l:LA):=(xk4 c a b l).snd
def xk8 (c a b l:LA):=(xk9 c a b l).snd
def xk2 (c a b l:LA):=(xk3 c a b l).snd
def xk7 (c a b l:LA):=(xk8 c a b l).snd
def xhp (c a b l:LA):=List.take (xk5 c a b l) (List.drop 0 (xk2 c a b l))
def xhq (c a b l:LA):=List.take (xla c a b l) (List.drop 0 (xk7 c a b l))
def xmk (c b a l:LA):=Iter (xbw a l (xhp c b a l) (↑(xhp c b a l).length:Int)) (0,0,(xk4 c b a l).fst,(xk3 c b a l).fst,[])
def xk1 (c b a l:LA):=Iter (xbw a l (xhq c b a l) (↑(xhq c b a l).length:Int)) (0,0,(xk9 c b a l).fst,(xk8 c b a l).fst,[])
def xmj (c a b l:LA):=(xmk c a b l).getD (0,[],[],[])
def xk0 (c a b l:LA):=(xk1 c a b l).getD (0,[],[],[])
def xmh (c a b l:LA):=(xmj c a b l).fst
def xmi (c a b l:LA):=(xmj c a b l).snd
def xkZ (c a b l:LA):=(xk0 c a b l).snd
def xkx (c a b l:LA):=(xk0 c a b l).fst
def xmf (c a b l:LA):=(xmi c a b l).snd.snd
def xmg (c b a l:LA):=xc7 a l (xmi c b a l).fst
def xkX (c a b l:LA):=(xkZ c a b l).snd.snd
def xkY (c b a l:LA):=xc7 a l (xkZ c b a l).fst
def xmc (c a b l:LA):=xux ((xmg c a b l).getD ([],0)).fst (List.take (xmh c a b l) (List.drop 0 (xmf c a b l)))
def xme (c a b l:LA):=xux ((xkY c a b l).getD ([],0)).fst (List.take (xkx c a b l) (List.drop 0 (xkX c a b l)))
def xmb (c a b l:LA):=(xmc c a b l).getD ([],[])
def xmd (c a b l:LA):=(xme c a b l).getD ([],[])
def xtn {T:Type} (c b a l:LA) (δ:T) (κ:LA×LA->T):T:=br ((↑a.length:Int)==0) (br ((xlc c b a l).isSome) (br (decide (0+xk5 c b a l<=(xk2 c b a l).length)&&xS5 1 0 (xhp c b a l)&&true) (br ((xmk c b a l).isSome) (br ((xmg c b a l).isSome) (br (decide (0+xmh c b a l<=(xmf c b a l).length)&&true) (br ((xmc c b a l).isSome) (κ ((xmb c b a l).fst,(xmb c b a l).snd)) δ) δ) δ) δ) δ) δ) (br ((xld c b a l).isSome) (br (decide (0+xla c b a l<=(xk7 c b a l).length)&&xS5 1 0 (xhq c b a l)&&true) (br ((xk1 c b a l).isSome) (br ((xkY c b a l).isSome) (br (decide (0+xkx c b a l<=(xkX c b a l).length)&&true) (br ((xme c b a l).isSome) (κ ((xmd c b a l).fst,(xmd c b a l).snd)) δ) δ) δ) δ) δ) δ)
def xbT (c a b l:LA):=xtn c a b l none some
def xLi:EO:=xAK.f Tryz.func43 111 0 [57,2000068] [(7,xiR.lp),(25,xi7.lp),(19,xuZ.lp)] (lks (lkC xiR.ok (lkC xuZ.ok (lkC xi7.ok lkN)))) (u3 (xTC (u2 (uL 1) (uL 1))) (uL 1) (uL 2)) (fun ((c,a,_),b,l,_) _=>xtn c a b l) (fun _ p=>AV.agg [AV.list 1 p.1,AV.list 1 p.2]) ([],[])
def xfm {T:Type} (a b:LA) (d:Nat) (c:LA) (δ:T) (κl:(LA×LA×Nat×LA)->T) (κr:(LA×LA×Nat×LA)->T):T:=br (decide ((↑a.length:Int)>0)) (br (decide ((↑b.length:Int)>0)) (br (decide (0<(↑b.length:Int))) (br (decide (0<b.length)&&xSz (Sh.list 3) ((b.getD 0 .top).cells.getD 0 .top)) (br (decide (0<(↑a.length:Int))) (br (decide (0<a.length)&&xSz (Sh.list 3) ((a.getD 0 .top).cells.getD 0 .top)) (br ((xbs ((b.getD 0 .top).cells.getD 0 .top).toList ((a.getD 0 .top).cells.getD 0 .top).toList).isSome) (br (decide ((xbs ((b.getD 0 .top).cells.getD 0 .top).toList ((a.getD 0 .top).cells.getD 0 .top).toList).getD 0<0)) (br (decide (0<(↑b.length:Int))) (br (decide (0<b.length)&&((b.getD 0 .top).cells.length==2&&xSG [Sh.list 3,Sh.list 3] (b.getD 0 .top).cells 0)) (br (rmB d c 1 48) (br (decide (1<=(↑b.length:Int))) (κl (a,List.take (b.length - 1) (List.drop 1 b),d+1,c++[AV.agg [AV.list 3 ((b.getD 0 .top).cells.getD 0 .top).toList,AV.list 3 ((b.getD 0 .top).cells.getD 1 .top).toList]])) δ) δ) δ) δ) (br (decide (0<(↑a.length:Int))) (br (decide (0<a.length)&&((a.getD 0 .top).cells.length==2&&xSG [Sh.list 3,Sh.list 3] (a.getD 0 .top).cells 0)) (br (rmB d c 1 48) (br (decide (1<=(↑a.length:Int))) (κl (List.take (a.length - 1) (List.drop 1 a),b,d+1,c++[AV.agg [AV.list 3 ((a.getD 0 .top).cells.getD 0 .top).toList,AV.list 3 ((a.getD 0 .top).cells.getD 1 .top).toList]])) δ) δ) δ) δ)) δ) δ) δ) δ) δ) (κr (a,b,d,c))) (κr (a,b,d,c))
def xb4:StT (LA×LA×Nat×LA) (LA×LA×Nat×LA):=fun (a,b,d,c)=>xfm a b d c none inL inR
def xoX:=xAL.l 61 0 [98] [] Tryz.f55 0 lk0 [3,4,5] [3,4,5] [(5,2,98)] (q3 (qL 2) (qL 2) (xTw 0 0 0)) (q1 (qB 0 2 98 xTm)) (fun (a,b,d,_) (c,_)=>(xb4,(a,b,d,c),fun p=>(.leaf (.exit 0) [AV.list 2 p.1,AV.list 2 p.2.1,AV.osl 0 0 0 p.2.2.1] [bF 0 2 98 p.2.2.2]))) ([],[],0,[]) fun _ _ (a,b,d,c)=>(((a,b,d,()),(c,())),xfm a b d c none)
def xqj (R:LA->Option (LA)):LA->Option (Bool×AV):=ocOf (xTj (xTB 2 xTm) xTl) fun (l,_)=>((R l).isSome,AV.list 2 ((R l).getD []))
def xe7 (R:LA->Option (LA)):Env:=(xAL.E.with 55 (xqj R)).fn 61 0 (lsOf [98]) (xSX [(5,xoX.lp)])
def xoW (R:LA->Option (LA)):Prop:=OcOk P0 xTh 55 (xqj R)
theorem xBX (R:LA->Option (LA)) (a:xoW R):xSB P0 (xTh.at 0) (xe7 R):=(xAL.ok.with a).fn
theorem xAW (R:LA->Option (LA)):LoOk P0 (xTh.at (xe7 R).pin) (xe7 R) (Tryz.f55.body.getD .skip):=xgK (ls:=[xSF Tryz.f55 0]) (by kernel_rfl) (fun l b lp a=>by
 simp only [zC,List.not_mem_nil,or_false] at b;rcases b with rfl
 . rw [show (xe7 R).lp (xSP (xSF Tryz.f55 0))=some xoX.lp by kernel_rfl] at a
   simp only [z6] at a;subst a;exact xoX.ok)
def xrN (l:LA):=decide (0<=i64.wrap ((↑l.length:Int).tdiv 2))&&decide (i64.wrap ((↑l.length:Int).tdiv 2)<=(↑l.length:Int))
def xrO (R:LA->Option (LA)) (l:LA):Option (LA):=R (List.take (l.length - (i64.wrap ((↑l.length:Int).tdiv 2)).toNat) (List.drop (i64.wrap ((↑l.length:Int).tdiv 2)).toNat l))
def xrM (R:LA->Option (LA)) (l:LA):Option (LA×LA×Nat×LA):=Iter xb4 ((R (List.take ((i64.wrap ((↑l.length:Int).tdiv 2)).toNat - 0) (List.drop 0 l))).getD [],(xrO R l).getD [],0,[])
def xrL (R:LA->Option (LA)) (l:LA):LA×LA×Nat×LA:=(xrM R l).getD ([],[],0,[])
def xtb (R:LA->Option (LA)) (l:LA):LA×Nat×LA:=(xrL R l).snd
def xtc (R:LA->Option (LA)) (l:LA):LA:=(xrL R l).fst
def xs9 (R:LA->Option (LA)) (l:LA):Nat×LA:=(xtb R l).snd
def xta (R:LA->Option (LA)) (l:LA):LA:=(xtb R l).fst
def xs7 (R:LA->Option (LA)) (l:LA):LA:=(xs9 R l).snd
def xs8 (R:LA->Option (LA)) (l:LA):Nat:=(xs9 R l).fst
def xjF (R:LA->Option (LA)) (l:LA):Nat:=xs8 R l+(xtc R l).length
def xs6 (R:LA->Option (LA)) (l:LA):LA:=xs7 R l++xtc R l
def xjE (R:LA->Option (LA)) (l:LA):Nat:=xjF R l+(xta R l).length
def xs5 (R:LA->Option (LA)) (l:LA):LA:=xs6 R l++xta R l
def xhC {T:Type} (R:LA->Option (LA)) (l:LA) (δ:T) (κ:LA->T):T:=br (decide ((↑l.length:Int)<2)) (κ (l)) (br (xrN l&&true) (br ((R (List.take ((i64.wrap ((↑l.length:Int).tdiv 2)).toNat - 0) (List.drop 0 l))).isSome) (br (xrN l) (br ((xrO R l).isSome) (br ((xrM R l).isSome) (br (xs8 R l==(xs7 R l).length&&(decide (xjF R l*48<=140737488355328)&&decide (xjF R l<=4611686018427387904))) (br (xjF R l==(xs6 R l).length&&(decide (xjE R l*48<=140737488355328)&&decide (xjE R l<=4611686018427387904))) (br (decide (0+xjE R l<=(xs5 R l).length)&&true) (κ (List.take (xjE R l) (List.drop 0 (xs5 R l)))) δ) δ) δ) δ) δ) δ) δ) δ)
def xc9 (R:LA->Option (LA)) (l:LA):=xhC R l none some
theorem xEI (R:LA->Option (LA)) (l:LA):Enc (fun (p:LA)=>((AV.list 2 p):AV)) (xc9 R l) (XF P0 (xe7 R) Tryz.f55 (Tryz.f55.body.getD .skip) [AV.list 2 l]):=by
 have h:XF P0 (xe7 R) Tryz.f55 (Tryz.f55.body.getD .skip) [AV.list 2 l]=xhC R l none (fun (p:LA)=>some ((AV.list 2 p):AV)):=by kernel_rfl
 rw [h];unfold xc9 xhC;repeat' (first|refine Enc.br ?_ ?_|exact Enc.none|exact Enc.some rfl)
def xEH (R:LA->Option (LA)):LA->Option (Bool×AV):=ocOf (xTj (xTB 2 xTm) xTl) fun (l,_)=>((xc9 R l).isSome,(AV.list 2 ((xc9 R l).getD [])))
theorem xEG (R:LA->Option (LA)) (c:xoW R):OcOk P0 xTh 55 (xEH R):=xmF fun e g f=>by
 obtain ⟨l,_⟩:=e;obtain ⟨a,b⟩:=Prod.mk.inj f;refine xdT (p:=(xe7 R).pin) (xf4 xSK (xSL P0 _) rfl (xBX R c) Tryz.func55 rfl (by kernel_rfl) (xAW R) ((xEI R _ _ (xcf (d:=[]) a)).trans ?_))
 exact congrArg some b
def xcl:Nat->LA->Option (LA)
 | 0=>fun _=>none
 | fu_+1=>fun l=>xc9 (xcl fu_) l
theorem xwP:∀ n,xoW (xcl n)
 | 0=>xmF fun _ _ h=>absurd (Prod.mk.inj h).1 Bool.false_ne_true
 | fu_+1=>fun a r h=>xEG (xcl fu_) (xwP fu_) a r h
def xLn:Env:=xAL.E.with 55 (xqj (xcl 100))
theorem xLo:xSB P0 xTh xLn:=xAL.ok.with (xwP _)
def xzT:EO:=EO.mk xLn xLo
def xnS {T:Type} (g l:LA) (d:Nat) (i:Int) (h a e:LA) (f:Nat) (b c:LA) (δ:T) (κl:(Nat×Int×LA×LA×LA×Nat×LA×LA)->T) (κr:(Nat×LA×Nat×LA×LA)->T):T:=br (decide (i<a.length)) (br (ixI a i) (br (ixS a i (Sh.list 3) 0) (br ((xyR (gC a i 0).toList g).isSome) (br (ixI a i) (br (ixS a i (Sh.list 3) 0) (br (rmB d b 1 48) (κl (d+1,i64.wrap (i+1),h,a,e,f,b++[AV.agg [AV.list 3 ((xyR (gC a i 0).toList g).getD []),AV.list 3 (gC a i 0).toList]],c)) δ) δ) δ) δ) δ) δ) (κr (d,e,f,b,c))
def xdo (f l:LA):StT (Nat×Int×LA×LA×LA×Nat×LA×LA) (Nat×LA×Nat×LA×LA):=fun (c,i,g,h,d,e,b,a)=>xnS f l c i g h d e b a none inL inR
def xl4:=xzT.l 116 0 [57,98] [] Tryz.f28 0 lk0 [1,2,3,6,9,10,11] [1,2,6,9,10] [(10,2,98),(9,1,57)] (q7 (qL 1) (qL 2) (xTy 0 0 0 0) (xTy 1 0 0 0) (xTy 2 0 0 0) (xTw 3 0 0) qI) (q5 (qB 0 2 49 (q1 (xTz (q2 (qL 1) (qL 1))))) (qB 0 2 49 (q1 (xTz (q2 pNils pNils)))) (xTA 0 2 49 false false (q1 (xTz (q2 (qL 1) (xTw 4 0 0))))) (qB 0 2 98 xTm) (qB 0 1 57 xTm)) (fun (f,l,_,_,_,c,i,_) (((g,h,_),_),((_,_,_),_),((d,e,_),_),b,a,_)=>(xdo f l,(c,i,g,h,d,e,b,a),fun p=>(.leaf (.exit 0) [AV.list 1 f,AV.list 2 l,AV.own 0 0 0 0,AV.own 1 0 0 0,AV.osl 2 0 0 p.1] [bF 0 2 49 [AV.agg [AV.nils,AV.nils]],⟨0,2,49,[AV.agg [AV.list 1 p.2.1,AV.osl 3 0 0 p.2.2.1]],false,false⟩,bF 0 2 98 p.2.2.2.1,bF 0 1 57 p.2.2.2.2]))) (0,[],0,[],[]) fun (f,l,_,_,_,_,_,_) _ (c,i,g,h,d,e,b,a)=>(((f,l,(),(),(),c,i,()),(((g,h,()),()),(((),(),()),()),((d,e,()),()),b,a,())),xnS f l c i g h d e b a none)
def xjr {T:Type} (l a:LA) (i:Int) (c:Nat) (k:Int) (e:LA) (f:Nat) (b d:LA) (δ:T) (κl:(Nat×Int×LA×Nat×LA×LA)->T) (κr:(Nat×Int×LA×Nat×LA×LA)->T):T:=br (decide (k<a.length)) (br (ixI a k) (br (ixS a k (Sh.list 3) 0) (br (ixI a i) (br (ixS a i (Sh.list 3) 0) (br ((xlz (gC a k 0).toList (gC a i 0).toList).isSome) (br ((xlz (gC a k 0).toList (gC a i 0).toList).getD false) (br (ixI a k) (br (ixS a k (Sh.list 3) 1) (br (rmB c b 1 24) (κl (c+1,i64.wrap (k+1),e,f,b++[AV.list 3 (gC a k 1).toList],d)) δ) δ) δ) (κr (c,k,e,f,b,d))) δ) δ) δ) δ) δ) (κr (c,k,e,f,b,d))
def xdp (l f:LA) (i:Int):StT (Nat×Int×LA×Nat×LA×LA) (Nat×Int×LA×Nat×LA×LA):=fun (c,k,d,e,a,b)=>xjr l f i c k d e a b none inL inR
def xl6:=xzT.l 116 0 [57,98] [(5,xl4.lp)] Tryz.f28 2 lk0 [2,6,9,10,12,13,14] [2,6,9,10,12,13,14] [(10,2,98),(13,1,57),(9,1,57)] (q7 (qL 2) (xTy 0 0 0 0) (xTy 1 0 0 0) (qL 2) qI (xTw 2 0 0) qI) (q4 (qB 0 2 49 (q1 (xTz (q2 pNils pNils)))) (xTA 0 2 49 false false (q1 (xTz (q2 (qL 1) (xTw 3 0 0))))) (qB 0 1 57 xTm) (qB 0 1 57 xTm)) (fun (l,_,_,f,i,c,k,_) (((_,_,_),_),((d,e,_),_),a,b,_)=>(xdp l f i,(c,k,d,e,a,b),fun p=>(.leaf (.exit 4) [AV.list 2 l,AV.own 0 0 0 0,AV.own 1 0 0 0,AV.list 2 f,AV.int .i64 i,AV.osl 2 0 0 p.1,AV.int .i64 p.2.1] [bF 0 2 49 [AV.agg [AV.nils,AV.nils]],⟨0,2,49,[AV.agg [AV.list 1 p.2.2.1,AV.osl 3 0 0 p.2.2.2.1]],false,false⟩,bF 0 1 57 p.2.2.2.2.1,bF 0 1 57 p.2.2.2.2.2]))) (0,0,[],0,[],[]) fun (l,_,_,f,i,_,_,_) _ (c,k,d,e,a,b)=>(((l,(),(),f,i,c,k,()),((((),(),()),()),((d,e,()),()),a,b,())),xjr l f i c k d e a b none)
def xqi (l d:LA) (i:Int) (b:LA) (c:Nat) (a:LA):=Iter (xdp l d i) (0,i,b,c,[],a)
def xqh (l d:LA) (i:Int) (b:LA) (c:Nat) (a:LA):=(xqi l d i b c a).getD (0,0,[],0,[],[])
def xrI (l d:LA) (i:Int) (b:LA) (c:Nat) (a:LA):=(xqh l d i b c a).snd
def xrJ (l d:LA) (i:Int) (b:LA) (c:Nat) (a:LA):=(xqh l d i b c a).fst
def xrH (l d:LA) (i:Int) (b:LA) (c:Nat) (a:LA):=(xrI l d i b c a).snd
def xrG (l d:LA) (i:Int) (b:LA) (c:Nat) (a:LA):=(xrH l d i b c a).snd
def xrE (l d:LA) (i:Int) (b:LA) (c:Nat) (a:LA):=(xrG l d i b c a).fst
def xrF (l d:LA) (i:Int) (b:LA) (c:Nat) (a:LA):=(xrG l d i b c a).snd
def xl5 (l d:LA) (i:Int) (b:LA) (c:Nat) (a:LA):=xrE l d i b c a+1
def xrC (l d:LA) (i:Int) (b:LA) (c:Nat) (a:LA):=(xrF l d i b c a).snd
def xrD (l d:LA) (i:Int) (b:LA) (c:Nat) (a:LA):=(xrF l d i b c a).fst
def xrB (l d:LA) (i:Int) (b:LA) (c:Nat) (a:LA):=xtG (gC d i 0).toList (List.take (xrJ l d i b c a) (List.drop 0 (xrD l d i b c a))) l
def xjq {T:Type} (l d:LA) (i:Int) (b:LA) (c:Nat) (a:LA) (δ:T) (κl:(Int×LA×Nat×LA)->T) (κr:(LA×Nat×LA)->T):T:=br (decide (i<d.length)) (br ((xqi l d i b c a).isSome) (br (ixI d i) (br (ixS d i (Sh.list 3) 0) (br (decide (0+xrJ l d i b c a<=(xrD l d i b c a).length)&&true) (br ((xrB l d i b c a).isSome) (br (xrE l d i b c a==(xrC l d i b c a).length&&(decide (xl5 l d i b c a*24<=140737488355328)&&decide (xl5 l d i b c a<=4611686018427387904))) (κl ((xrI l d i b c a).fst,(xrH l d i b c a).fst,xl5 l d i b c a,xrC l d i b c a++[AV.list 3 ((xrB l d i b c a).getD [])])) δ) δ) δ) δ) δ) δ) (κr (b,c,a))
def xbY (l d:LA):StT (Int×LA×Nat×LA) (LA×Nat×LA):=fun (i,b,c,a)=>xjq l d i b c a none inL inR
def xyE:=xzT.l 116 0 [57,98] [(5,xl4.lp),(15,xl6.lp)] Tryz.f28 1 (lk1 xl6.ok) [2,6,9,10,12] [6,9] [(10,2,98),(9,1,57)] (q5 (qL 2) (xTy 0 0 0 0) (xTy 1 0 0 0) (qL 2) qI) (q3 (qB 0 2 49 (q1 (xTz (q2 pNils pNils)))) (xTA 0 2 49 false false (q1 (xTz (q2 (qL 1) (xTw 2 0 0))))) (qB 0 1 57 xTm)) (fun (l,_,_,d,i,_) (((_,_,_),_),((b,c,_),_),a,_)=>(xbY l d,(i,b,c,a),fun p=>(.leaf (.exit 2) [AV.own 0 0 0 0,AV.own 1 0 0 0] [bF 0 2 49 [AV.agg [AV.nils,AV.nils]],⟨0,2,49,[AV.agg [AV.list 1 p.1,AV.osl 2 0 0 p.2.1]],false,false⟩,bF 0 1 57 p.2.2]))) ([],0,[]) fun (l,_,_,d,_,_) _ (i,b,c,a)=>(((l,(),(),d,i,()),((((),(),()),()),((b,c,()),()),a,())),xjq l d i b c a none)
def xpk (b c a l:LA):=Iter (xdo a l) (0,0,b,c,((xbV b a l).getD ([],0)).fst,0,[],[])
def xpj (c a b l:LA):=(xpk c a b l).getD (0,[],0,[],[])
def xph (c a b l:LA):=(xpj c a b l).snd
def xpi (c a b l:LA):=(xpj c a b l).fst
def xpf (c a b l:LA):=(xph c a b l).snd
def xpg (c a b l:LA):=(xph c a b l).fst
def xkF (c a b l:LA):=(xpf c a b l).fst
def xpe (c a b l:LA):=(xpf c a b l).snd
def xkC (c a b l:LA):=xkF c a b l+1
def xkE (c a b l:LA):=(xpe c a b l).snd
def xpd (c a b l:LA):=(xpe c a b l).fst
def xpc (c a b l:LA):=xcl 100 (List.take (xpi c a b l) (List.drop 0 (xpd c a b l)))
def xkD (c a b l:LA):=(xpc c a b l).getD []
def xrd (c a b l:LA):=Iter (xbY l (xkD c a b l)) (0,xpg c a b l,xkC c a b l,xkE c a b l++[AV.list 3 ((xtG [] [] l).getD [])])
def xpb (c a b l:LA):=Iter (xbY l (xkD c a b l)) (0,xpg c a b l,xkF c a b l,xkE c a b l)
def xrc (c a b l:LA):=(xrd c a b l).getD ([],0,[])
def xpa (c a b l:LA):=(xpb c a b l).getD ([],0,[])
def xrb (c a b l:LA):=(xrc c a b l).snd
def xrg (c a b l:LA):=(xpa c a b l).snd
def xq9 (c a b l:LA):=(xrb c a b l).fst
def xra (c a b l:LA):=(xrb c a b l).snd
def xre (c a b l:LA):=(xrg c a b l).fst
def xrf (c a b l:LA):=(xrg c a b l).snd
def xq7 (c a b l:LA):=xip (List.take (xq9 c a b l) (List.drop 0 (xra c a b l)))
def xq8 (c a b l:LA):=xip (List.take (xre c a b l) (List.drop 0 (xrf c a b l)))
def xo9 {T:Type} (c a b l:LA) (δ:T) (κ:LA×LA->T):T:=br ((xpb c a b l).isSome) (br (decide (0+xre c a b l<=(xrf c a b l).length)&&true) (br ((xq8 c a b l).isSome) (κ ((xpa c a b l).fst,(xq8 c a b l).getD [])) δ) δ) δ
def xsA {T:Type} (c b a l:LA) (δ:T) (κ:LA×LA->T):T:=br ((xbV c a l).isSome) (br ((xpk c b a l).isSome) (br (decide (0+xpi c b a l<=(xpd c b a l).length)&&true) (br ((xpc c b a l).isSome) (br ((↑(xkD c b a l).length:Int)==0) (br ((↑a.length:Int)==0) (br ((xtG [] [] l).isSome) (br (xkF c b a l==(xkE c b a l).length&&(decide (xkC c b a l*24<=140737488355328)&&decide (xkC c b a l<=4611686018427387904))) (br ((xrd c b a l).isSome) (br (decide (0+xq9 c b a l<=(xra c b a l).length)&&true) (br ((xq7 c b a l).isSome) (κ ((xrc c b a l).fst,(xq7 c b a l).getD [])) δ) δ) δ) δ) δ) (xo9 c b a l δ κ)) (xo9 c b a l δ κ)) δ) δ) δ) δ
def xg9 (c a b l:LA):=xsA c a b l none some
def xLp:EO:=xzT.f Tryz.func28 116 0 [57,98] [(5,xl4.lp),(15,xl6.lp),(12,xyE.lp)] (lks (lkC xl4.ok (lkC xyE.ok (lkC xl6.ok lkN)))) (u3 (xTC (u2 (uL 1) (uL 1))) (uL 1) (uL 2)) (fun ((c,a,_),b,l,_) _=>xsA c a b l) (fun _ p=>AV.agg [AV.list 1 p.1,AV.list 1 p.2]) ([],[])
def xo3 {T:Type} (k l:Int) (f:LA) (m d:Int) (g h i j:LA) (e c b:Nat) (a:LA) (δ:T) (κl:(Int×LA×LA×LA×LA×Nat×Nat×Nat×LA)->T) (κr:(LA×LA×LA×LA×Nat×Nat×LA×Nat)->T):T:=br (decide (d<m)) (br (ixI f d) (br (ixS f d (Sh.list 3) 0) (br (b==c&&(rmB e a 1 40)) (κl (i64.wrap (d+1),g,h,i,j,e+1,c+1,c+1,a++[AV.agg [AV.list 3 (gC f d 0).toList,AV.int .i64 k,AV.int .i64 l]])) δ) δ) δ) (κr (g,h,i,j,c,e,a,b))
def xdP (c d:Int) (k:LA) (l:Int):StT (Int×LA×LA×LA×LA×Nat×Nat×Nat×LA) (LA×LA×LA×LA×Nat×Nat×LA×Nat):=fun (m,e,f,g,h,i,j,a,b)=>xo3 c d k l m e f g h i j a b none inL inR
def xy4:=xLi.l 30 5 [1000035,59] [] Tryz.f42 0 lk0 [5,6,17,18,19] [] [] (q5 (xTy 3 0 0 0) (pEptr 2 0 0 (q1 (xTz (q2 qI qI)))) (qL 1) qI qI) (q5 (qB 0 2 25 (q1 (xTz (q2 (qL 1) (qL 3))))) (qB 0 1 22 (q1 (qL 1))) (qB 0 1 26 (q1 (qL 2))) (xTA 0 1 23 false false (q1 (pOslV 4 0))) (pBoxV 3 59 false true xTm)) (fun (_,((c,d,_),_),k,m,n,_) (((e,f,_),_),(g,_),(h,_),((i,j),_),(a,b),_)=>(xdP c d k m,(n,e,f,g,h,j,i,a,b),fun p=>(.leaf (.exit 0) [] [bF 0 2 25 [AV.agg [AV.list 1 p.1,AV.list 3 p.2.1]],bF 0 1 22 [AV.list 1 p.2.2.1],bF 0 1 26 [AV.list 2 p.2.2.2.1],⟨0,1,23,[AV.osl 4 p.2.2.2.2.1 0 p.2.2.2.2.2.1],false,false⟩,bF p.2.2.2.2.2.2.2 3 59 p.2.2.2.2.2.2.1]))) ([],[],[],[],0,0,[],0) fun (_,((c,d,_),_),k,m,_,_) _ (n,e,f,g,h,j,i,a,b)=>((((),((c,d,()),()),k,m,n,()),(((e,f,()),()),(g,()),(h,()),((i,j),()),(a,b),())),xo3 c d k m n e f g h j i a b none)
def xw5 (f t:Int) (a b e c d:LA) (v n g:Nat) (h:LA):=Iter (xdP f t ((xbT b a c d).getD ([],[])).snd (↑((xbT b a c d).getD ([],[])).snd.length:Int)) (0,b,e,c,d,n,v,g,h)
def xw4 (f t:Int) (a b c d e:LA) (v n g:Nat) (h:LA):=(xw5 f t a b c d e v n g h).getD ([],[],[],[],0,0,[],0)
def xw3 (f t:Int) (a b c d e:LA) (v n g:Nat) (h:LA):=(xw4 f t a b c d e v n g h).snd
def xw2 (f t:Int) (a b c d e:LA) (v n g:Nat) (h:LA):=(xw3 f t a b c d e v n g h).snd
def xw1 (f t:Int) (a b c d e:LA) (v n g:Nat) (h:LA):=(xw2 f t a b c d e v n g h).snd
def xw0 (f t:Int) (a b c d e:LA) (v n g:Nat) (h:LA):=(xw1 f t a b c d e v n g h).snd
def xwx (f t:Int) (a b c d e:LA) (v n g:Nat) (h:LA):=(xw0 f t a b c d e v n g h).snd
def xwZ (f t:Int) (a b c d e:LA) (v n g:Nat) (h:LA):=(xwx f t a b c d e v n g h).snd
def xy5 {T:Type} (f t:Int) (a b e c d:LA) (v n g:Nat) (h:LA) (δ:T) (κ:LA×LA×LA×LA×Nat×Nat×LA×Nat->T):T:=br ((xbT b a c d).isSome) (br ((xw5 f t a b e c d v n g h).isSome) (κ ((xw4 f t a b e c d v n g h).fst,(xw3 f t a b e c d v n g h).fst,(xw2 f t a b e c d v n g h).fst,(xw1 f t a b e c d v n g h).fst,(xw0 f t a b e c d v n g h).fst,(xwx f t a b e c d v n g h).fst,(xwZ f t a b e c d v n g h).fst,(xwZ f t a b e c d v n g h).snd)) δ) δ
def xyK (f t:Int) (a b c d e:LA) (v n g:Nat) (h:LA):=xy5 f t a b c d e v n g h none some
def xBx:EO:=xLi.fM Tryz.func42 30 5 [1000035,59] [(2,xy4.lp)] (lk1 xy4.ok) (u6 (xTC (u2 uI uI)) (uL 1) (sEq (xTy 0 0 0 0)) (sEq (xTy 1 0 0 0)) (sEq (xTy 2 0 0 0)) (sEq (xTy 3 0 0 0))) (q5 (qB 0 2 25 (q1 (xTz (q2 (qL 1) (qL 3))))) (qB 0 1 22 (q1 (qL 1))) (qB 0 1 26 (q1 (qL 2))) (xTA 0 1 23 false false (q1 (pOslV 4 0))) (pBoxV 3 (59:TypeId) false true xTm)) (fun ((f,t,_),a,_,_,_,_,_) (((b,c,_),_),(d,_),(e,_),((v,n),_),(g,h),_) _=>xy5 f t a b c d e v n g h) (fun _ _ p=>(AV.tuple [],([bF 0 2 25 [AV.agg [AV.list 1 p.1,AV.list 3 p.2.1]],bF 0 1 22 [AV.list 1 p.2.2.1],bF 0 1 26 [AV.list 2 p.2.2.2.1],⟨0,1,23,[AV.osl 4 p.2.2.2.2.1 0 p.2.2.2.2.2.1],false,false⟩,bF p.2.2.2.2.2.2.2 3 59 p.2.2.2.2.2.2.1]:List Box))) ([],[],[],[],0,0,[],0)
def xfz (l c e:LA) (d:Int) (f g h i:LA) (j k a:Nat) (b:LA):=xyK (gC e d 0).toInt ((c.getD (i64.wrap (d+1)).toNat .top).cells.getD 0 .top).toInt ((xe2 l (gC e d 0).toInt).getD []) f g h i k j a b
def xfA (l c:LA) (d:Int) (e f g h:LA) (i j a:Nat) (b:LA):=xyK (gC c d 0).toInt 1099511627776 ((xe2 l (gC c d 0).toInt).getD []) e f g h j i a b
def xfB (a:LA) (b:Int):=decide (i64.wrap (b+1)<(↑a.length:Int))
def xfv (l c j:LA) (k:Int) (d e f g:LA) (h i a:Nat) (b:LA):=(xfz l c j k d e f g h i a b).getD ([],[],[],[],0,0,[],0)
def xfy (l i:LA) (j:Int) (c d e f:LA) (g h a:Nat) (b:LA):=(xfA l i j c d e f g h a b).getD ([],[],[],[],0,0,[],0)
def xfS (l c j:LA) (k:Int) (d e f g:LA) (h i a:Nat) (b:LA):=(xfv l c j k d e f g h i a b).snd
def xfw (l i:LA) (j:Int) (c d e f:LA) (g h a:Nat) (b:LA):=(xfy l i j c d e f g h a b).snd
def xfQ (l c j:LA) (k:Int) (d e f g:LA) (h i a:Nat) (b:LA):=(xfS l c j k d e f g h i a b).snd
def xfu (l i:LA) (j:Int) (c d e f:LA) (g h a:Nat) (b:LA):=(xfw l i j c d e f g h a b).snd
def xfM (l c j:LA) (k:Int) (d e f g:LA) (h i a:Nat) (b:LA):=(xfQ l c j k d e f g h i a b).snd
def xfR (l i:LA) (j:Int) (c d e f:LA) (g h a:Nat) (b:LA):=(xfu l i j c d e f g h a b).snd
def xfL (l c j:LA) (k:Int) (d e f g:LA) (h i a:Nat) (b:LA):=(xfM l c j k d e f g h i a b).snd
def xfP (l i:LA) (j:Int) (c d e f:LA) (g h a:Nat) (b:LA):=(xfR l i j c d e f g h a b).snd
def xfK (l c j:LA) (k:Int) (d e f g:LA) (h i a:Nat) (b:LA):=(xfL l c j k d e f g h i a b).snd
def xfO (l i:LA) (j:Int) (c d e f:LA) (g h a:Nat) (b:LA):=(xfP l i j c d e f g h a b).snd
def xfJ (l c j:LA) (k:Int) (d e f g:LA) (h i a:Nat) (b:LA):=(xfK l c j k d e f g h i a b).snd
def xfN (l i:LA) (j:Int) (c d e f:LA) (g h a:Nat) (b:LA):=(xfO l i j c d e f g h a b).snd
def xeE {T:Type} (l d k:LA) (m c:Int) (e f g h:LA) (i j a:Nat) (b:LA) (δ:T) (κl:(Int×LA×LA×LA×LA×Nat×Nat×Nat×LA)->T) (κr:(LA×LA×LA×LA×Nat×Nat×LA×Nat)->T):T:=br (decide (c<m)) (br (ixI k c) (br (ixS k c (Sh.int .i64) 0) (br (xfB d c) (br (decide (0<=i64.wrap (c+1))&&xfB d c) (br (decide ((i64.wrap (c+1)).toNat<d.length)&&xSz (Sh.int .i64) ((d.getD (i64.wrap (c+1)).toNat .top).cells.getD 0 .top)) (br ((xe2 l (gC k c 0).toInt).isSome) (br ((xfz l d k c e f g h i j a b).isSome) (κl (i64.wrap (c+1),(xfv l d k c e f g h i j a b).fst,(xfS l d k c e f g h i j a b).fst,(xfQ l d k c e f g h i j a b).fst,(xfM l d k c e f g h i j a b).fst,(xfK l d k c e f g h i j a b).fst,(xfL l d k c e f g h i j a b).fst,(xfJ l d k c e f g h i j a b).snd,(xfJ l d k c e f g h i j a b).fst)) δ) δ) δ) δ) (br ((xe2 l (gC k c 0).toInt).isSome) (br ((xfA l k c e f g h i j a b).isSome) (κl (i64.wrap (c+1),(xfy l k c e f g h i j a b).fst,(xfw l k c e f g h i j a b).fst,(xfu l k c e f g h i j a b).fst,(xfR l k c e f g h i j a b).fst,(xfO l k c e f g h i j a b).fst,(xfP l k c e f g h i j a b).fst,(xfN l k c e f g h i j a b).snd,(xfN l k c e f g h i j a b).fst)) δ) δ)) δ) δ) (κr (e,f,g,h,j,i,b,a))
def xbJ (l c j:LA) (k:Int):StT (Int×LA×LA×LA×LA×Nat×Nat×Nat×LA) (LA×LA×LA×LA×Nat×Nat×LA×Nat):=fun (m,d,e,f,g,h,i,a,b)=>xeE l c j k m d e f g h i a b none inL inR
def xpE:=xBx.l 36 5 [] [] Tryz.f41 0 lk0 [0,1,4,10,11,12] [] [] (q6 (qL 3) (xSY 42 (q4 (xTy 0 0 0 0) (xTy 1 0 0 0) (xTy 2 0 0 0) (xTy 3 0 0 0))) (qL 1) (qL 1) qI qI) (q5 (qB 0 2 25 (q1 (xTz (q2 (qL 1) (qL 3))))) (qB 0 1 22 (q1 (qL 1))) (qB 0 1 26 (q1 (qL 2))) (xTA 0 1 23 false false (q1 (pOslV 4 0))) (pBoxV 3 59 false true xTm)) (fun (l,(_,_,_,_,_),c,j,k,m,_) (((d,e,_),_),(f,_),(g,_),((h,i),_),(a,b),_)=>(xbJ l c j k,(m,d,e,f,g,i,h,a,b),fun p=>(.leaf (.exit 0) [] [bF 0 2 25 [AV.agg [AV.list 1 p.1,AV.list 3 p.2.1]],bF 0 1 22 [AV.list 1 p.2.2.1],bF 0 1 26 [AV.list 2 p.2.2.2.1],⟨0,1,23,[AV.osl 4 p.2.2.2.2.1 0 p.2.2.2.2.2.1],false,false⟩,bF p.2.2.2.2.2.2.2 3 59 p.2.2.2.2.2.2.1]))) ([],[],[],[],0,0,[],0) fun (l,(_,_,_,_,_),c,j,k,_,_) _ (m,d,e,f,g,i,h,a,b)=>(((l,((),(),(),(),()),c,j,k,m,()),(((d,e,()),()),(f,()),(g,()),((h,i),()),(a,b),())),xeE l c j k m d e f g i h a b none)
def xdJ:Env:=xBx.E.fn 36 5 (lsOf []) (xSX [(2,xpE.lp)])
theorem xy6:xSB P0 (xTh.at 5) xdJ:=xBx.ok.fn
theorem xw6:LoOk P0 (xTh.at xdJ.pin) xdJ (Tryz.f41.body.getD .skip):=xgK (ls:=[xSF Tryz.f41 0]) (by kernel_rfl) (lkC xpE.ok lkN)
def xmD (l a b c d:LA) (v n e:Nat) (f:LA):=Iter (xbJ l ((xht l).getD []) ((xht l).getD []) (↑((xht l).getD []).length:Int)) (0,a,b,c,d,n,v,e,f)
def xmC (l a b c d:LA) (v n e:Nat) (f:LA):=(xmD l a b c d v n e f).getD ([],[],[],[],0,0,[],0)
def xmB (l a b c d:LA) (v n e:Nat) (f:LA):=(xmC l a b c d v n e f).snd
def xmA (l a b c d:LA) (v n e:Nat) (f:LA):=(xmB l a b c d v n e f).snd
def xmz (l a b c d:LA) (v n e:Nat) (f:LA):=(xmA l a b c d v n e f).snd
def xmy (l a b c d:LA) (v n e:Nat) (f:LA):=(xmz l a b c d v n e f).snd
def xmw (l a b c d:LA) (v n e:Nat) (f:LA):=(xmy l a b c d v n e f).snd
def xmv (l a b c d:LA) (v n e:Nat) (f:LA):=(xmw l a b c d v n e f).snd
def xig {T:Type} (l a b c d:LA) (v n e:Nat) (f:LA) (δ:T) (κ:LA×LA×LA×LA×Nat×Nat×LA×Nat->T):T:=br ((xht l).isSome) (br ((xmD l a b c d v n e f).isSome) (κ ((xmC l a b c d v n e f).fst,(xmB l a b c d v n e f).fst,(xmA l a b c d v n e f).fst,(xmz l a b c d v n e f).fst,(xmy l a b c d v n e f).fst,(xmw l a b c d v n e f).fst,(xmv l a b c d v n e f).fst,(xmv l a b c d v n e f).snd)) δ) δ
def xfe (l a b c d:LA) (v n e:Nat) (f:LA):=xig l a b c d v n e f none some
theorem xBa (l a b c d:LA) (v n e:Nat) (xs:LA):Enc (fun (p:LA×LA×LA×LA×Nat×Nat×LA×Nat)=>(((AV.tuple [],([⟨0,2,25,[AV.agg [AV.list 1 p.1,AV.list 3 p.2.1]],false,true⟩,⟨0,1,22,[AV.list 1 p.2.2.1],false,true⟩,⟨0,1,26,[AV.list 2 p.2.2.2.1],false,true⟩,⟨0,1,23,[AV.osl 4 p.2.2.2.2.1 0 p.2.2.2.2.2.1],false,false⟩,⟨p.2.2.2.2.2.2.2,3,59,p.2.2.2.2.2.2.1,false,true⟩]:List Box))):(AV×List Box))) (xfe l a b c d v n e xs) (XFM P0 xdJ Tryz.f41 (Tryz.f41.body.getD .skip) [AV.list 3 l,AV.func (42:FuncId) [AV.own (0:Id) 0 0 0,AV.own (1:Id) 0 0 0,AV.own (2:Id) 0 0 0,AV.own (3:Id) 0 0 0]] [{ ver:=0,sz:=2,ty:=(25:TypeId),xs:=[AV.agg [AV.list 1 a,AV.list 3 b]],frz:=false,pm:=true },{ ver:=0,sz:=1,ty:=(22:TypeId),xs:=[AV.list 1 c],frz:=false,pm:=true },{ ver:=0,sz:=1,ty:=(26:TypeId),xs:=[AV.list 2 d],frz:=false,pm:=true },{ ver:=0,sz:=1,ty:=(23:TypeId),xs:=[AV.osl (4:Id) v 0 n],frz:=false,pm:=false },{ ver:=e,sz:=3,ty:=(59:TypeId),xs:=xs,frz:=false,pm:=true }]):=by
 have h:XFM P0 xdJ Tryz.f41 (Tryz.f41.body.getD .skip) [AV.list 3 l,AV.func (42:FuncId) [AV.own (0:Id) 0 0 0,AV.own (1:Id) 0 0 0,AV.own (2:Id) 0 0 0,AV.own (3:Id) 0 0 0]] [{ ver:=0,sz:=2,ty:=(25:TypeId),xs:=[AV.agg [AV.list 1 a,AV.list 3 b]],frz:=false,pm:=true },{ ver:=0,sz:=1,ty:=(22:TypeId),xs:=[AV.list 1 c],frz:=false,pm:=true },{ ver:=0,sz:=1,ty:=(26:TypeId),xs:=[AV.list 2 d],frz:=false,pm:=true },{ ver:=0,sz:=1,ty:=(23:TypeId),xs:=[AV.osl (4:Id) v 0 n],frz:=false,pm:=false },{ ver:=e,sz:=3,ty:=(59:TypeId),xs:=xs,frz:=false,pm:=true }]=xig l a b c d v n e xs none (fun (p:LA×LA×LA×LA×Nat×Nat×LA×Nat)=>some (((AV.tuple [],([⟨0,2,25,[AV.agg [AV.list 1 p.1,AV.list 3 p.2.1]],false,true⟩,⟨0,1,22,[AV.list 1 p.2.2.1],false,true⟩,⟨0,1,26,[AV.list 2 p.2.2.2.1],false,true⟩,⟨0,1,23,[AV.osl 4 p.2.2.2.2.1 0 p.2.2.2.2.2.1],false,false⟩,⟨p.2.2.2.2.2.2.2,3,59,p.2.2.2.2.2.2.1,false,true⟩]:List Box))):(AV×List Box))):=by kernel_rfl
 rw [h];unfold xfe xig;repeat' (first|refine Enc.br ?_ ?_|exact Enc.none|exact Enc.some rfl)
end Go.Sim.M
end
noncomputable section
set_option maxRecDepth 100000
namespace Go.Sim
open Go.RowKit
theorem GoodM.aged1 {P:Program} {Inv:IV} {f:FuncId} {Z:List AV} {H:List Box} {b0 b1 b2:Box} {v4 k4 t3 t4 s4:Nat} {Y:List AV} (am:∀ bx,H[4]?=some bx->bx.ver=0)
  (p0:isC b0.ty=false) (p1:isC b1.ty=false) (p2:isC b2.ty=false) (p3:isC t3=false) (p4:isC t4=false) (q0:b0.pm=true) (q1:b1.pm=true) (q2:b2.pm=true)
  (h:GoodM P Inv f Z H (.tuple []) [b0,b1,b2,⟨0,1,t3,[.osl (.b 4) v4 0 k4],false,false⟩,⟨v4,s4,t4,Y,false,true⟩]) :
  GoodM P Inv f Z H (.tuple []) [b0,b1,b2,⟨0,1,t3,[.osl (.b 4) 1 0 k4],false,false⟩,⟨1,s4,t4,Y,false,true⟩]:=by
 refine ⟨h.1,fun w0 w A M vs hI hB hR ar=>(h.2 w0 w A M vs hI hB hR ar).mono ?_⟩
 rintro e w' ⟨u,A',M',rfl,h1,h2,h3,h4,h5⟩;let M'':Id->Option MB:=fun id=>if id=.b 4 then (M' id).map fun m=>⟨m.b,1,m.sz,m.cap,m.ty⟩ else M' id
 have e4:∀ m,M' (.b 4)=some m->M'' (.b 4)=some ⟨m.b,1,m.sz,m.cap,m.ty⟩:=fun m hm=>by simp [M'',hm]
 have eo:∀ id,id≠.b 4->M'' id=M' id:=fun id g1=>by
  show (if _ then _ else _)=_
  rw [if_neg g1]
 have V:∀ id m1,M'' id=some m1->∃ m0,M' id=some m0/\m1.b=m0.b/\m1.cap=m0.cap/\m1.sz=m0.sz/\m1.ty=m0.ty:=fun id m1 J=>by
  by_cases g3:id=.b 4
  . subst g3;cases hm:M' (.b 4) with
    | none=>simp [M'',hm] at J
    | some m=>rw [e4 m hm] at J;simp only [z6] at J;subst J;exact ⟨m,rfl,rfl,rfl,rfl,rfl⟩
  . rw [eo id g3] at J;exact ⟨m1,J,rfl,rfl,rfl,rfl⟩
 have ag:∀ (n v k:Nat) (c:Value) (m:MB),M' (.b n)=some m->M'' (.b n)=some ⟨m.b,1,m.sz,m.cap,m.ty⟩->v=m.ver->Rel w' A' M' c (.osl (.b n) v 0 k)->Rel w' A' M'' c (.osl (.b n) 1 0 k):=fun n v k c m hm ad hv hr=>by
  obtain ⟨m0,g1,g2,g3,g4⟩:=Rel.osl_inv hr;rw [hm] at g1;simp only [z6] at g1;subst g1;exact .osl c (.b n) 1 0 k _ ad (zd _) g3 fun _=>g4 hv
 have Q:∀ (n:Nat) (bx:Box) (m:MB),([b0,b1,b2,⟨0,1,t3,[.osl (.b 4) v4 0 k4],false,false⟩,⟨v4,s4,t4,Y,false,true⟩]:List Box)[n]?=some bx->M' (.b n)=some m->BoxAt w' A' M' w0.heap.size (.b n) m bx:=fun n bx m hn hm=>by
  obtain ⟨bx',g1,g2⟩:=h4.box _ m hm;rw [xb6,hn] at g1;simp only [z6] at g1;subst g1;exact g2
 have U:∀ (id:Id) (bx:Box) (m:MB) (v:Nat),isC bx.ty=false->bx.pm=true->BoxAt w' A' M' w0.heap.size id m bx->BoxAt w' A' M'' w0.heap.size id ⟨m.b,v,m.sz,m.cap,m.ty⟩ ⟨v,bx.sz,bx.ty,bx.xs,bx.frz,bx.pm⟩:=fun id bx m v O hp g=>by
  have W:xSD m.ty=false:=g.nomap (xba O);refine ⟨rfl,g.sz,g.ty,g.capm,g.fits,g.ok,g.low,g.lt,fun h0=>?_,g.guard⟩
  obtain ⟨c,c1,c2,c3⟩:=g.cells h0;refine ⟨c,.of W (c1.plain W),c2,fun i j hi hj=>?_⟩
  have:=c3 i j hi hj;rw [xaR O,xa6 O,hp] at this;rw [xaR O,xa6 (bx:=⟨v,bx.sz,bx.ty,bx.xs,bx.frz,bx.pm⟩) O];show Rel w' A' (MP M'' bx.pm) _ _;rw [hp];exact this
 have ae:∀ (n n2 v k t:Nat) (m m2:MB),isC t=false->BoxAt w' A' M' w0.heap.size (.b n) m ⟨0,1,t,[.osl (.b n2) v 0 k],false,false⟩->M' (.b n2)=some m2->M'' (.b n2)=some ⟨m2.b,1,m2.sz,m2.cap,m2.ty⟩->v=m2.ver ->
   BoxAt w' A' M'' w0.heap.size (.b n) m ⟨0,1,t,[.osl (.b n2) 1 0 k],false,false⟩:=fun n n2 v k t m m2 O g al aa hv=>by
  have W:xSD m.ty=false:=g.nomap (xba O);have hsz:m.sz=1:=g.sz.symm;refine ⟨g.ver,g.sz,g.ty,g.capm,g.fits,fun y hy=>?_,g.low,g.lt,fun h0=>?_,g.guard⟩
  . simp only [zv] at hy;subst hy;rw [hsz];rfl
  . obtain ⟨c,c1,c2,c3⟩:=g.cells h0;refine ⟨c,.of W (c1.plain W),c2,fun i j hi hj=>?_⟩
    have ao:i=0:=by simpa using hi
    have ah:j=0:=by omega
    subst ao ah;have:=c3 0 0 (by simp) hj
    rw [xaR O,xa6 O] at this;rw [xaR O,xa6 (bx:=⟨0,1,t,[.osl (.b n2) 1 0 k],false,false⟩) O];exact ag n2 v k _ m2 al aa hv this
 have aj:∀ m,M (.b 4)=some m->m.ver=0:=fun m hm=>by
  obtain ⟨bx,g1,g2⟩:=hR.box _ m hm;rw [<-g2.ver];exact am bx g1
 have ab:∀ m,M' (.b 4)=some m->v4=m.ver:=fun m hm=>(Q 4 _ m rfl hm).ver
 have af:∀ n i j m,M' (.r n i j)=some m->BoxAt w' A' M' w0.heap.size (.r n i j) m tombB/\n<5:=fun n i j m hm=>by
  obtain ⟨bx,g1,g2⟩:=h4.box _ m hm;obtain ⟨c0,q1,_⟩:=xr2 g1;have hn:n<5:=by
   have:=xcQ q1;simpa using this
  have hp:isC c0.ty=false:=by
   match n,hn with
   | 0,_=>simp only [zY,z6] at q1;subst q1;exact p0
   | 1,_=>simp only [zY,zZ,z6] at q1;subst q1;exact p1
   | 2,_=>simp only [zY,zZ,z6] at q1;subst q1;exact p2
   | 3,_=>simp only [zY,zZ,z6] at q1;subst q1;exact p3
   | 4,_=>simp only [zY,zZ,z6] at q1;subst q1;exact p4
  rw [xbz q1 hp] at g1;simp only [z6] at g1;subst g1;exact ⟨g2,hn⟩
 have ac:∀ (n:Nat) (bx:Box) (m:MB),isC bx.ty=false->bx.pm=true->BoxAt w' A' M' w0.heap.size (.b n) m bx->BoxAt w' A' M'' w0.heap.size (.b n) m bx:=fun n bx m O aq q=>by
  have:=U (.b n) bx m m.ver O aq q;exact ⟨q.ver,this.sz,this.ty,this.capm,this.fits,this.ok,this.low,this.lt,this.cells,this.guard⟩
 have hR':HR w' A' M'' w0.heap.size [b0,b1,b2,⟨0,1,t3,[.osl (.b 4) 1 0 k4],false,false⟩,⟨1,s4,t4,Y,false,true⟩]:=by
  refine ⟨fun id m1 J=>?_,fun id id' m1 m2 k1 k2 c1 c2 he=>?_,h4.lt⟩
  . obtain ⟨m0,g1,g2,g3,g4,g5⟩:=V id m1 J;cases id with
    | r n i j =>
     rw [eo (.r n i j) (fun e=>by cases e),g1] at J
     simp only [z6] at J;subst J;obtain ⟨q1,q2⟩:=af n i j _ g1;refine ⟨tombB,?_,?_⟩
     . match n,q2 with
       | 0,_=>exact xbz rfl p0
       | 1,_=>exact xbz rfl p1
       | 2,_=>exact xbz rfl p2
       | 3,_=>exact xbz rfl p3
       | 4,_=>exact xbz rfl p4
     . have:=U (.r n i j) tombB m0 m0.ver rfl rfl q1;exact ⟨q1.ver,this.sz,this.ty,this.capm,this.fits,this.ok,this.low,this.lt,this.cells,this.guard⟩
    | b n =>
     have hn:n<5:=by
      obtain ⟨bx,q1,_⟩:=h4.box _ m0 g1;have:=xcQ q1;simpa using this
     match n,hn with
     | 0,_ =>
      rw [eo (.b 0) (fun e=>by cases e),g1] at J
      simp only [z6] at J;subst J;exact ⟨b0,rfl,ac 0 b0 _ p0 q0 (Q 0 _ _ rfl g1)⟩
     | 1,_ =>
      rw [eo (.b 1) (fun e=>by cases e),g1] at J
      simp only [z6] at J;subst J;exact ⟨b1,rfl,ac 1 b1 _ p1 q1 (Q 1 _ _ rfl g1)⟩
     | 2,_ =>
      rw [eo (.b 2) (fun e=>by cases e),g1] at J
      simp only [z6] at J;subst J;exact ⟨b2,rfl,ac 2 b2 _ p2 q2 (Q 2 _ _ rfl g1)⟩
     | 3,_ =>
      rw [eo (.b 3) (fun e=>by cases e),g1] at J
      simp only [z6] at J;subst J;have q:=Q 3 _ m0 rfl g1;have hc:0<m0.cap:=Nat.lt_of_lt_of_le Nat.zero_lt_one q.fits;obtain ⟨c,c1,c2,c3⟩:=q.cells hc;have hr:=c3 0 0 (by simp) (by rw [<-q.sz];exact Nat.zero_lt_one)
      rw [xaR p3,xa6 (bx:=⟨0,1,t3,[.osl (.b 4) v4 0 k4],false,false⟩) p3] at hr;have hr:Rel w' A' M' _ (.osl (.b 4) v4 0 k4):=hr;obtain ⟨m4,a1,_⟩:=Rel.osl_inv hr;exact ⟨_,rfl,ae 3 4 v4 k4 t3 m0 m4 p3 q a1 (e4 m4 a1) (ab m4 a1)⟩
     | 4,_ =>
      rw [e4 m0 g1] at J;simp only [z6] at J;subst J;exact ⟨_,rfl,U (.b 4) _ m0 1 p4 rfl (Q 4 _ m0 rfl g1)⟩
  . obtain ⟨n1,a1,a2,a3,_⟩:=V id m1 k1;obtain ⟨n2,an,ap,aw,_⟩:=V id' m2 k2;exact h4.inj id id' n1 n2 a1 an (by omega) (by omega) (by rw [<-a2,<-ap,he])
 refine ⟨u,A',M'',rfl,h1,h2,⟨h3.size,h3.keep,h3.less,h3.more,fun id m ai hm=>?_,fun id m1 J h0=>?_⟩,hR',?_⟩
 . obtain ⟨m',g1,g2⟩:=h3.ids id m ai hm;by_cases q4:id=.b 4
   . subst q4;exact ⟨_,e4 m' g1,.inr (by have:m.ver=0:=aj m hm;show m.ver<1;omega)⟩
   . exact ⟨m',by rw [eo id q4];exact g1,g2⟩
 . obtain ⟨m0,g1,g2,g3,_⟩:=V id m1 J;rw [g2];exact h3.src id m0 g1 (by omega)
 . obtain ⟨au,rfl,q1,_⟩:=h5.tuple_inv;exact .tuple au [] q1 (by simp)
namespace M
open Go.Proofs
noncomputable def gset (l kd fs ks ag:List AV) (n:Nat) (xs:List AV):Option (List AV×List AV×List AV×List AV×Nat×List AV):=(xfe l kd fs ks ag 0 n 0 xs).bind fun p =>
 br (Nat.beq p.2.2.2.2.1 p.2.2.2.2.2.2.2) (some (p.1,p.2.1,p.2.2.1,p.2.2.2.1,p.2.2.2.2.2.1,p.2.2.2.2.2.2.1)) none
noncomputable def xL2:List AV->List Box->Option (Bool×AV×List Box):=omOf (xTj (xTB 3 xTm) (xTj (sEq (xSY 42 (xTi (xTy 0 0 0 0) (xTi (xTy 1 0 0 0) (xTi (xTy 2 0 0 0) (xTi (xTy 3 0 0 0) xTk)))))) xTl))
 (xTi (xTA 0 2 25 false true (xTi (xTz (xTi (xTD 1 xTm) (xTi (xTD 3 xTm) xTk))) xTk)) (xTi (xTA 0 1 22 false true (xTi (xTD 1 xTm) xTk)) (xTi (xTA 0 1 26 false true (xTi (xTD 2 xTm) xTk)) (xTi (xTA 0 1 23 false false (xTi (xTw 4 0 0) xTk)) (xTi (xTA 0 3 59 false true xTm) xTk)))))
 fun (l,((_,(_,(_,(_,_)))),_)) (((kd,(fs,_)),_),((ks,_),((ag,_),((n,_),(xs,_)))))=>((gset l kd fs ks ag n xs).isSome,(.tuple [],[⟨0,2,25,[.agg [.list 1 ((gset l kd fs ks ag n xs).getD ([],[],[],[],0,[])).1,.list 3 ((gset l kd fs ks ag n xs).getD ([],[],[],[],0,[])).2.1]],false,true⟩,⟨0,1,22,[.list 1 ((gset l kd fs ks ag n xs).getD ([],[],[],[],0,[])).2.2.1],false,true⟩,⟨0,1,26,[.list 2 ((gset l kd fs ks ag n xs).getD ([],[],[],[],0,[])).2.2.2.1],false,true⟩,⟨0,1,23,[.osl (.b 4) 1 0 ((gset l kd fs ks ag n xs).getD ([],[],[],[],0,[])).2.2.2.2.1],false,false⟩,⟨1,3,59,((gset l kd fs ks ag n xs).getD ([],[],[],[],0,[])).2.2.2.2.2,false,true⟩]))
theorem xQo:OmOk P0 xTh 41 xL2:=xq3 fun vv bb rr V hh=>by
 obtain ⟨l,⟨⟨_,⟨_,⟨_,⟨_,_⟩⟩⟩⟩,_⟩⟩:=vv;obtain ⟨⟨⟨kd,⟨fs,_⟩⟩,_⟩,⟨⟨ks,_⟩,⟨⟨ag,_⟩,⟨⟨n,_⟩,⟨xs,_⟩⟩⟩⟩⟩:=bb;obtain ⟨q,J⟩:=Prod.mk.inj hh;cases hs:xfe l kd fs ks ag 0 n 0 xs with
 | none=>rw [show gset l kd fs ks ag n xs=none by unfold gset;rw [hs];rfl] at q;simp at q
 | some p =>
  have O:gset l kd fs ks ag n xs=br (Nat.beq p.2.2.2.2.1 p.2.2.2.2.2.2.2) (some (p.1,p.2.1,p.2.2.1,p.2.2.2.1,p.2.2.2.2.2.1,p.2.2.2.2.2.2.1)) none:=by unfold gset;rw [hs];rfl
  cases ht:Nat.beq p.2.2.2.2.1 p.2.2.2.2.2.2.2 with
  | false=>rw [O,ht] at q;simp [br] at q
  | true =>
   rw [ht] at O;have U:gset l kd fs ks ag n xs=some (p.1,p.2.1,p.2.2.1,p.2.2.2.1,p.2.2.2.2.2.1,p.2.2.2.2.2.2.1):=O;rw [U] at J;simp only [zh] at J;have e1:=zg ht;have hx:=xBa l kd fs ks ag 0 n 0 xs p hs;have hg:GoodM P0 xTh 41 _ _ _ _:=xi9 (p:=xdJ.pin) (xkm xSK (xSL P0 _) rfl xy6 rfl Tryz.func41 rfl (by kernel_rfl) xw6 hx)
   rw [<-e1] at hg;have Q:=GoodM.aged1 (fun bx hb=>by simp only [zY,zZ,z6] at hb;subst hb;rfl) rfl rfl rfl rfl rfl rfl rfl rfl hg
   obtain ⟨rfl,rfl⟩:=Prod.mk.inj J;exact Q
noncomputable def EGset:Env:=xBx.E.withM 41 xL2
theorem xGB:xSB P0 xTh EGset:=xBx.ok.withM xQo
noncomputable def xGA:EO:=EO.mk EGset xGB
end M
end Go.Sim
end
noncomputable section
set_option maxRecDepth 100000
namespace Go.Sim.M
open Go.IntKind (i64 u64 u8)
open Go.RowKit Go.Proofs
def xmu (d:LA) (e:Int) (f g b h:LA) (c:Nat) (a:LA):=(gset (gC d e 0).toList f g b h c a).getD ([],[],[],[],0,[])
def xmt (d:LA) (e:Int) (f g b h:LA) (c:Nat) (a:LA):=(xmu d e f g b h c a).snd
def xms (d:LA) (e:Int) (f g b h:LA) (c:Nat) (a:LA):=(xmt d e f g b h c a).snd
def xmr (d:LA) (e:Int) (f g b h:LA) (c:Nat) (a:LA):=(xms d e f g b h c a).snd
def xmq (d:LA) (e:Int) (f g b h:LA) (c:Nat) (a:LA):=(xmr d e f g b h c a).snd
def xif {T:Type} (e:LA) (i d:Int) (f g b h:LA) (c:Nat) (a:LA) (δ:T) (κl:(Int×LA×LA×LA×LA×Nat×LA)->T) (κr:(LA×LA×LA×LA×Nat×LA)->T):T:=br (decide (d<i)) (br (ixI e d) (br (ixS e d (Sh.list 3) 0) (br ((gset (gC e d 0).toList f g b h c a).isSome) (κl (i64.wrap (d+1),(xmu e d f g b h c a).fst,(xmt e d f g b h c a).fst,(xms e d f g b h c a).fst,(xmr e d f g b h c a).fst,(xmq e d f g b h c a).fst,(xmq e d f g b h c a).snd)) δ) δ) δ) (κr (f,g,b,h,c,a))
def xcU (d:LA) (e:Int):StT (Int×LA×LA×LA×LA×Nat×LA) (LA×LA×LA×LA×Nat×LA):=fun (f,g,h,b,i,c,a)=>xif d e f g h b i c a none inL inR
def xtw:=xGA.l 33 0 [] [] Tryz.f13 0 lk0 [3,4,5,6,7,13,14,15] [3,4,5,6,7] [(7,3,59)] (q8 (xTy 0 0 0 0) (xTy 1 0 0 0) (xTy 2 0 0 0) (xTy 3 0 0 0) (xTy 4 0 0 0) (qL 1) qI qI) (q6 (qB 0 2 25 (q1 (xTz (q2 (qL 1) (qL 3))))) (qB 0 1 22 (q1 (qL 1))) (qB 0 1 26 (q1 (qL 2))) (qB 0 2 25 (q1 (xTz (q2 pNils pNils)))) (xTA 0 1 23 false false (q1 (xTw 5 0 0))) (qB 0 3 59 xTm)) (fun (_,_,_,_,_,d,e,f,_) (((g,h,_),_),(b,_),(i,_),((_,_,_),_),(c,_),a,_)=>(xcU d e,(f,g,h,b,i,c,a),fun p=>(.leaf (.exit 0) [AV.own 0 0 0 0,AV.own 1 0 0 0,AV.own 2 0 0 0,AV.own 3 0 0 0,AV.own 4 0 0 0] [bF 0 2 25 [AV.agg [AV.list 1 p.1,AV.list 3 p.2.1]],bF 0 1 22 [AV.list 1 p.2.2.1],bF 0 1 26 [AV.list 2 p.2.2.2.1],bF 0 2 25 [AV.agg [AV.nils,AV.nils]],⟨0,1,23,[AV.osl 5 0 0 p.2.2.2.2.1],false,false⟩,bF 0 3 59 p.2.2.2.2.2]))) ([],[],[],[],0,[]) fun (_,_,_,_,_,d,e,_,_) _ (f,g,h,b,i,c,a)=>((((),(),(),(),(),d,e,f,()),(((g,h,()),()),(b,()),(i,()),(((),(),()),()),(c,()),a,())),xif d e f g h b i c a none)
def xpB (c a b l:LA):=Iter (xcU ((xjf a b).getD []) (↑((xjf a b).getD []).length:Int)) (0,c,a,b,l,0,[])
def xpA (c a b l:LA):=(xpB c a b l).getD ([],[],[],[],0,[])
def xpz (c a b l:LA):=(xpA c a b l).snd.snd
def xpy (c a b l:LA):=(xpz c a b l).snd
def xps (c a b l:LA):=xbT (xpA c a b l).fst [] (xpz c a b l).fst (xpy c a b l).fst
def xpw (c a b l:LA):=(xpy c a b l).snd
def xpu (c a b l:LA):=(xpw c a b l).snd
def xpv (c a b l:LA):=(xpw c a b l).fst
def xpt (c a b l:LA):=xmE (List.take (xpv c a b l) (List.drop 0 (xpu c a b l)))
def xrs {T:Type} (c a b l:LA) (δ:T) (κ:LA×LA->T):T:=br ((xjf a b).isSome) (br ((xpB c a b l).isSome) (br ((xps c a b l).isSome) (br (decide (0+xpv c a b l<=(xpu c a b l).length)&&true) (br ((xpt c a b l).isSome) (κ (((xps c a b l).getD ([],[])).fst,(xpt c a b l).getD [])) δ) δ) δ) δ) δ
def xdt (c a b l:LA):=xrs c a b l none some
def xyB:LA->Option (Bool×AV):=fnO (u3 (xTC (u2 (uL 1) (uL 3))) (uL 1) (uL 2)) (fun ((c,a,_),b,l,_) _=>xrs c a b l) (fun _ p=>AV.agg [AV.list 1 p.1,AV.list 3 p.2]) ([],[])
theorem xyA:OcOk P0 xTh 13 xyB:=fnC xGB Tryz.func13 33 0 [] [(3,xtw.lp)] (lk1 xtw.ok)
def xLj:EO:=xGA.w xyA
def xty {T:Type} (l:LA) (e:Int) (c:LA) (h:Int) (d:Nat) (a:Int) (f g b:LA) (δ:T) (κl:(Nat×Int×LA×LA×LA)->T) (κr:(Nat×LA×LA×LA)->T):T:=br (decide (a<h)) (br (ixI c a) (br (ixT c a 3 [Sh.list 3,Sh.int .i64,Sh.int .i64] 0) (br (rmB d b 1 40) (κl (d+1,i64.wrap (a+1),f,g,b++[AV.agg [AV.list 3 (gC c a 0).toList,AV.int .i64 (gC c a 1).toInt,AV.int .i64 (if 1099511627776<i64.wrap ((gC c a 2).toInt+e) then 1099511627776 else i64.wrap ((gC c a 2).toInt+e))]])) δ) δ) δ) (κr (d,f,g,b))
def xpC (l:LA) (c:Int) (d:LA) (e:Int):StT (Nat×Int×LA×LA×LA) (Nat×LA×LA×LA):=fun (b,f,g,h,a)=>xty l c d e b f g h a none inL inR
def xrZ:=xLj.l 42 0 [59] [] Tryz.f15 0 lk0 [1,3,6,7,8,17,18,19] [1,3,6,8] [(8,3,59)] (q8 (qL 2) (xTy 0 0 0 0) (xTy 1 0 0 0) qI (xTw 2 0 0) (qL 3) qI qI) (q3 (qB 0 2 25 (q1 (xTz (q2 (qL 1) (qL 3))))) (qB 0 2 25 (q1 (xTz (q2 pNils pNils)))) (qB 0 3 59 xTm)) (fun (l,_,_,c,b,d,e,f,_) (((g,h,_),_),((_,_,_),_),a,_)=>(xpC l c d e,(b,f,g,h,a),fun p=>(.leaf (.exit 0) [AV.list 2 l,AV.own 0 0 0 0,AV.own 1 0 0 0,AV.osl 2 0 0 p.1] [bF 0 2 25 [AV.agg [AV.list 1 p.2.1,AV.list 3 p.2.2.1]],bF 0 2 25 [AV.agg [AV.nils,AV.nils]],bF 0 3 59 p.2.2.2]))) (0,[],[],[]) fun (l,_,_,c,_,d,e,_,_) _ (b,f,g,h,a)=>(((l,(),(),c,b,d,e,f,()),(((g,h,()),()),(((),(),()),()),a,())),xty l c d e b f g h a none)
def xvA (c b l:LA) (a:Int):=Iter (xpC l (i64.wrap ((if 1099511627776<if 1>a then 1 else a then 1099511627776 else if 1>a then 1 else a) - 1)) ((xmE b).getD []) (↑((xmE b).getD []).length:Int)) (0,0,c,b,[])
def xvz (c b l:LA) (a:Int):=(xvA c b l a).getD (0,[],[],[])
def xvw (c b l:LA) (a:Int):=(xvz c b l a).snd
def xvy (c b l:LA) (a:Int):=(xvz c b l a).fst
def xvv (c b l:LA) (a:Int):=(xvw c b l a).snd.snd
def xvu (c b l:LA) (a:Int):=xdt (xvw c b l a).fst (List.take (xvy c b l a) (List.drop 0 (xvv c b l a))) [] l
def xvt (c b l:LA) (a:Int):=(xvu c b l a).getD ([],[])
def xB7 {T:Type} (c b l:LA) (a:Int) (δ:T) (κ:LA×LA->T):T:=br ((xmE b).isSome) (br ((xvA c b l a).isSome) (br (decide (0+xvy c b l a<=(xvv c b l a).length)&&true&&true) (br ((xvu c b l a).isSome) (κ ((xvt c b l a).fst,(xvt c b l a).snd)) δ) δ) δ) δ
def xwD:LA->Option (Bool×AV):=fnO (u3 (xTC (u2 (uL 1) (uL 3))) (uL 2) uI) (fun ((c,b,_),l,a,_) _=>xB7 c b l a) (fun _ p=>AV.agg [AV.list 1 p.1,AV.list 3 p.2]) ([],[])
theorem xB6:OcOk P0 xTh 15 xwD:=fnC xLj.ok Tryz.func15 42 0 [59] [(4,xrZ.lp)] (lk1 xrZ.ok)
def xgW {T:Type} (i:Int) (b a:LA) (δ:T) (κl:(Int×LA×LA)->T) (κr:(Bool×(Bool×LA×LA)×(LA×LA))->T):T:=br (decide (i<a.length)) (br (ixI a i) (br (ixT a i 3 [Sh.int .i64,Sh.int .i64] 1) (br (!xdg (gC a i 1).toInt (gC a i 2).toInt) (κr (true,(false,b,a),([],[]))) (br (ixI a i) (br (ixS a i (Sh.list 3) 0) (br ((xyQ (gC a i 0).toList b).isSome) (br (!(xyQ (gC a i 0).toList b).getD false) (κr (true,(false,b,a),([],[]))) (κl (i64.wrap (i+1),b,a))) δ) δ) δ)) δ) δ) (κr (false,(false,[],[]),(b,a)))
def xb0:StT (Int×LA×LA) (Bool×(Bool×LA×LA)×(LA×LA)):=fun (i,a,b)=>xgW i a b none inL inR
def xyG:=xLp.l 46 0 [] [] Tryz.f35 0 lk0 [1,3] [1,2] [] (q2 (xTy 0 0 0 0) qI) (q1 (qB 0 2 25 (q1 (xTz (q2 (qL 1) (qL 3)))))) (fun (_,i,_) (((a,b,_),_),_)=>(xb0,(i,a,b),fun p=>(.node p.1 (.leaf .ret [AV.own 0 0 0 0,AV.bool p.2.1.1] [bF 0 2 25 [AV.agg [AV.list 1 p.2.1.2.1,AV.list 3 p.2.1.2.2]]]) (.leaf (.exit 0) [AV.own 0 0 0 0,.top] [bF 0 2 25 [AV.agg [AV.list 1 p.2.2.1,AV.list 3 p.2.2.2]]])))) (false,(false,[],[]),([],[])) fun _ _ (i,a,b)=>((((),i,()),(((a,b,()),()),())),xgW i a b none)
def xm5 (b a:LA):=(Iter xb0 (0,b,a)).getD (false,(false,[],[]),[],[])
def xm4 (b a:LA):=(xm5 b a).snd
def xm3 (b a:LA):=(xm4 b a).snd.fst
def xm1 (b a:LA):=(↑(xm3 b a).length:Int)
def xm2 (b a:LA):=xAk (xm3 b a)
def xyp {T:Type} (b a:LA) (δ:T) (κ:Bool->T):T:=br ((Iter xb0 (0,b,a)).isSome) (br ((xm5 b a).fst) (κ ((xm4 b a).fst.fst)) (br (decide (xm1 b a>0)) (br (decide (xm1 b a<=48)) (br ((xm2 b a).isSome) (κ ((xm2 b a).getD false)) δ) (κ (false))) (κ (false)))) δ
def xwz (b a:LA):=xyp b a none some
def xLq:EO:=xLp.f Tryz.func35 46 0 [] [(2,xyG.lp)] (lk1 xyG.ok) (u1 (xTC (u2 (uL 1) (uL 3)))) (fun ((b,a,_),_) _=>xyp b a) (fun _ p=>AV.bool p) false
def xiy {T:Type} (a b:LA) (i:Int) (δ:T) (κl:(Int)->T) (κr:(Bool×(Bool)×(Unit))->T):T:=br (decide (i<a.length)) (br (ixI a i) (br (ixS a i (Sh.int .i64) 0) (br (ixI b i) (br (ixS b i (Sh.int .i64) 0) (br ((gC a i 0).toInt != (gC b i 0).toInt) (κr (true,(false),())) (κl (i64.wrap (i+1)))) δ) δ) δ) δ) (κr (false,false,()))
def xcd (a b:LA):StT (Int) (Bool×(Bool)×(Unit)):=fun (i)=>xiy a b i none inL inR
def xtF:=xLq.l 26 0 [] [] Tryz.f39 0 lk0 [0,1,5] [4] [] (q3 (qL 1) (qL 1) qI) xTk (fun (a,b,i,_) _=>(xcd a b,(i),fun p=>(.node p.1 (.leaf .ret [AV.bool p.2.1] []) (.leaf (.exit 0) [.top] [])))) (false,false,()) fun (a,b,_,_) _ (i)=>(((a,b,i,()),()),xiy a b i none)
def xrK {T:Type} (a b:LA) (δ:T) (κ:Bool->T):T:=br ((↑a.length:Int) != (↑b.length:Int)) (κ (false)) (br ((Iter (xcd a b) 0).isSome) (br (((Iter (xcd a b) 0).getD (false,false,())).fst) (κ (((Iter (xcd a b) 0).getD (false,false,())).snd.fst)) (κ (true))) δ)
def xpm (a b:LA):=xrK a b none some
def xP3:EO:=xLq.f Tryz.func39 26 0 [] [(4,xtF.lp)] (lk1 xtF.ok) (u2 (uL 1) (uL 1)) (fun (a,b,_) _=>xrK a b) (fun _ p=>AV.bool p) false
def xur {T:Type} (c a d b:LA) (δ:T) (κ:Bool->T):T:=br ((xpm c d).isSome) (br ((xpm c d).getD false) (br ((xgU a b).isSome) (κ ((xgU a b).getD false)) δ) (κ (false))) δ
def xyj (c a d b:LA):=xur c a d b none some
def xP4:EO:=xP3.f Tryz.func26 17 0 [] [] lk0 (u2 (xTC (u2 (uL 1) (uL 1))) (xTC (u2 (uL 1) (uL 1)))) (fun ((c,a,_),(d,b,_),_) _=>xur c a d b) (fun _ p=>AV.bool p) false
def xox (b l c a d:LA) (i:Int):=xzy ((xg9 b ((xh4 l (gC d i 0).toInt).getD []) c a).getD ([],[])).snd (gC d i 0).toInt (gC d i 1).toInt
def xoZ (b l c a d:LA) (i:Int):=(xox b l c a d i).getD []
def xj4 (b l d a e:LA) (c:Nat) (i:Int):=c+(xoZ b l d a e i).length
def xqp {T:Type} (b l d a e:LA) (c:Nat) (i:Int) (f:LA) (δ:T) (κl:(Nat×Int×LA)->T) (κr:(Nat×LA)->T):T:=br (decide (i<e.length)) (br (ixI e i) (br (ixS e i (Sh.int .i64) 0) (br ((xh4 l (gC e i 0).toInt).isSome) (br ((xg9 b ((xh4 l (gC e i 0).toInt).getD []) d a).isSome) (br (ixI e i) (br (ixT e i 2 [Sh.int .i64,Sh.int .i64] 0) (br ((xox b l d a e i).isSome) (br (c==f.length&&(decide (xj4 b l d a e c i*40<=140737488355328)&&decide (xj4 b l d a e c i<=4611686018427387904))) (κl (xj4 b l d a e c i,i64.wrap (i+1),f++xoZ b l d a e i)) δ) δ) δ) δ) δ) δ) δ) δ) (κr (c,f))
def xfs (c l e a f:LA):StT (Nat×Int×LA) (Nat×LA):=fun (d,i,b)=>xqp c l e a f d i b none inL inR
def xtl (b l c a:LA):=Iter (xfs b l c a ((xuI l []).getD [])) (0,0,[])
def xtk (b l c a:LA):=(xtl b l c a).getD (0,[])
def xti (b l c a:LA):=(xtk b l c a).snd
def xtj (b l c a:LA):=(xtk b l c a).fst
def xth (b l c a:LA):=xtH (List.take (xtj b l c a) (List.drop 0 (xti b l c a)))
def xz4 {T:Type} (b l c a:LA) (δ:T) (κ:LA->T):T:=br ((xuI l []).isSome) (br ((xtl b l c a).isSome) (br (decide (0+xtj b l c a<=(xti b l c a).length)&&true) (br ((xth b l c a).isSome) (κ ((xth b l c a).getD [])) δ) δ) δ) δ
def xob (b l c a:LA):=xz4 b l c a none some
def xBJ {T:Type} (b c a l:LA) (δ:T) (κ:LA×LA->T):T:=br ((xbV b a l).isSome) (br ((xob b c a l).isSome) (κ (((xbV b a l).getD ([],0)).fst,(xob b c a l).getD [])) δ) δ
def xDe (c a b l:LA):=xBJ c a b l none some
def xvx {T:Type} (b c a l:LA) (δ:T) (κ:Bool->T):T:=br (decide ((↑c.length:Int)>14)) (κ (false)) (br (decide ((↑b.length:Int)>48)) (κ (false)) (br ((xwz b c).isSome) (br (!(xwz b c).getD false) (κ (false)) (br (decide ((↑a.length:Int)>20)) (κ (false)) (br (decide ((↑l.length:Int)>20)) (κ (false)) (br (i64.wrap ((↑a.length:Int)+(↑l.length:Int))==0) (κ (false)) (br ((xbV b a l).isSome) (κ (((xbV b a l).getD ([],0)).snd==0)) δ))))) δ))
def xt9 (c a b l:LA):=xvx c a b l none some
def xLr:EO:=xP4.f Tryz.func10 52 0 [] [] lk0 (u3 (xTC (u2 (uL 1) (uL 3))) (uL 1) (uL 2)) (fun ((c,a,_),b,l,_) _=>xvx c a b l) (fun _ p=>AV.bool p) false
end Go.Sim.M
end
noncomputable section
namespace Go.Sim.M
open Go.RowKit Go.Proofs
def E0:Env:=((((Env.none.with 136 xmo).with 98 xrn).with 163 xrk).withM 129 xwt).withM 100 xnI
theorem xQL:xSB Tryz.prog xTh E0:=((((xEu.with xyH).with xA5).with xA2).withM xC0).withM xy7
end Go.Sim.M
end
noncomputable section
set_option maxRecDepth 100000
namespace Go.Sim
def stepX (P:Program) (E:Env) (live liveO:List Nat) (conv:List (Nat×Nat×TypeId)) (c:Code) (s:List AV×List Box):Option ((List AV×List Box)⊕{r:Exit×List AV×List Box // r.1≠.normal}) :=
 match XR P E live liveO conv c s.1 s.2 with
 | some (.normal,v,H)=>some (.inl (v,H))
 | some (.exit i,v,H)=>some (.inr ⟨(.exit i,v,H),by simp⟩)
 | some (.ret,v,H)=>some (.inr ⟨(.ret,v,H),by simp⟩)
 | _=>none
def closedLp (P:Program) (E:Env) (live liveO:List Nat) (conv:List (Nat×Nat×TypeId)) (c:Code) (n:Nat):Lp:=⟨live,liveO,conv,fun vals H =>
 match iterN (stepX P E live liveO conv c) n (vals,H) with
 | some r=>some (true,.leaf r.1.1 r.1.2.1 r.1.2.2)
 | none=>none⟩
theorem xws {P:Program} {Inv:IV} {E:Env} (U:P.follows .mixedOrders=true) (J:InvOk Inv) (q:Inv.pin=E.pin) (O:xSB P Inv E) {c:Code} (Q:LoOk P Inv E c) {live liveO:List Nat} {conv:List (Nat×Nat×TypeId)} {n:Nat} :
  LoopOk P Inv E.nt c (closedLp P E live liveO conv c n):=fun vals H r h=>by
 simp only [closedLp] at h;split at h
 case h_2=>simp at h
 rename_i r0 hr;simp only [z6,zb,true_and] at h;subst h;exact xEm U J q O Q (σ:=List AV×List Box) (ρ:={r:Exit×List AV×List Box // r.1≠.normal}) (step:=stepX P E live liveO conv c) (fun s=>s) (fun r=>.leaf r.1.1 r.1.2.1 r.1.2.2) (fun r=>r.2)
  (fun s r hs=>by
   unfold stepX at hs;split at hs<;>simp only [z6,reduceCtorEq] at hs;all_goals (subst hs;rename_i hx;exact hx)) (s:=(vals,H)) (r:=r0) (xvX.2 ⟨n,hr⟩)
end Go.Sim
namespace Go.Sim.M
open Go.RowKit Go.Proofs
def mmA (g:FuncId):Bool:=([97,99,
 80,117,141,
 113,140,169,
 102,131,155,104,
 138,168,192,
 164,189,203,
 82,112,84,125,
 41,42,49,51,50,66]:List Nat).contains g
noncomputable def EA0:Env:={ E0 with ls:=lsOf [57,59,159],fuel:=1000 }
theorem xy1:xSB P0 xTh EA0:=xQL
noncomputable def EAr:Env:={ Env.deep P0 mmA EA0 10 with pin:=0,nt:=60,ls:=lsOf [] }
theorem xKx:xSB P0 (xTh.at 0) EAr:=xg6 xSK mmA (xSL P0 0) xy1 (fun _=>rfl) 10
noncomputable def xKZ:Lp:=closedLp P0 EAr [3,4,11,12,13] [4] [(4,2,150460170399)] (xSF Tryz.f111 0) 100
noncomputable def EAr1:Env:={ EAr with lp:=xSX [(xSP (xSF Tryz.f111 0),xKZ)] }
theorem xOm:xSB P0 (xTh.at 0) EAr1:=xKx
noncomputable def xFq:List AV->Option (Bool×AV):=fun xs=>match XF P0 EAr1 Tryz.f111 (Tryz.f111.body.getD .skip) xs with
 | some r=>some (true,r)
 | none=>none
theorem xPg:OcOk P0 xTh 111 xFq:=fun xs r h=>by
 unfold xFq at h;split at h
 case h_2=>simp at h
 rename_i r0 hr;simp only [z6,zb,true_and] at h;subst h;refine xdT (p:=0) (xf4 xSK (xSL P0 _) rfl xOm Tryz.func111 rfl (by kernel_rfl) (xgK (ls:=[xSF Tryz.f111 0]) (by kernel_rfl) (fun l hl lp hs=>?_)) hr)
 simp only [zC,List.not_mem_nil,or_false] at hl;subst hl;rw [show EAr1.lp (xSP (xSF Tryz.f111 0))=some xKZ by kernel_rfl] at hs
 cases hs;exact xws (E:=EAr) xSK (xSL P0 _) rfl xKx (xhj fun _=>rfl)
noncomputable def EAgr:Env:={ Env.deep P0 mmA EA0 12 with pin:=0,nt:=57,ls:=lsOf [57,59] }
theorem xIU:xSB P0 (xTh.at 0) EAgr:=xg6 xSK mmA (xSL P0 0) xy1 (fun _=>rfl) 12
noncomputable def xIT:Lp:=closedLp P0 EAgr [1,5,6,18,19,20] [6] [(6,1,253605445655)] (xSF Tryz.f40 0) 100
noncomputable def EAgr1:Env:={ EAgr with lp:=xSX [(xSP (xSF Tryz.f40 0),xIT)] }
theorem xMU:xSB P0 (xTh.at 0) EAgr1:=xIU
noncomputable def xKj:List AV->Option (Bool×AV):=fun xs=>match XF P0 EAgr1 Tryz.f40 (Tryz.f40.body.getD .skip) xs with
 | some r=>some (true,r)
 | none=>none
theorem xQ3:OcOk P0 xTh 40 xKj:=fun xs r h=>by
 unfold xKj at h;split at h
 case h_2=>simp at h
 rename_i r0 hr;simp only [z6,zb,true_and] at h;subst h;refine xdT (p:=0) (xf4 xSK (xSL P0 _) rfl xMU Tryz.func40 rfl (by kernel_rfl) (xgK (ls:=[xSF Tryz.f40 0]) (by kernel_rfl) (fun l hl lp hs=>?_)) hr)
 simp only [zC,List.not_mem_nil,or_false] at hl;subst hl;rw [show EAgr1.lp (xSP (xSF Tryz.f40 0))=some xIT by kernel_rfl] at hs
 cases hs;exact xws (E:=EAgr) xSK (xSL P0 _) rfl xIU (xhj fun _=>rfl)
noncomputable def EAsg:Env:={ Env.deep P0 mmA EA0 12 with pin:=0,nt:=111,ls:=lsOf [57,59] }
theorem xIY:xSB P0 (xTh.at 0) EAsg:=xg6 xSK mmA (xSL P0 0) xy1 (fun _=>rfl) 12
noncomputable def xIX:Lp:=closedLp P0 EAsg [1,2,3,6,7,8,31,32,33] [1,2,3,6,8] [(8,1,244881293359)] (xSF Tryz.f43 0) 100
noncomputable def EAsg1:Env:={ EAsg with lp:=xSX [(xSP (xSF Tryz.f43 0),xIX)] }
theorem xMW:xSB P0 (xTh.at 0) EAsg1:=xIY
noncomputable def xKQ:List AV->Option (Bool×AV):=fun xs=>match XF P0 EAsg1 Tryz.f43 (Tryz.f43.body.getD .skip) xs with
 | some r=>some (true,r)
 | none=>none
theorem xQ8:OcOk P0 xTh 43 xKQ:=fun xs r h=>by
 unfold xKQ at h;split at h
 case h_2=>simp at h
 rename_i r0 hr;simp only [z6,zb,true_and] at h;subst h;refine xdT (p:=0) (xf4 xSK (xSL P0 _) rfl xMW Tryz.func43 rfl (by kernel_rfl) (xgK (ls:=[xSF Tryz.f43 0,xSF Tryz.f43 1,xSF Tryz.f43 2]) (by kernel_rfl) (fun l hl lp hs=>?_)) hr)
 simp only [zC,List.not_mem_nil,or_false] at hl;rcases hl with rfl|rfl|rfl
 . rw [show EAsg1.lp (xSP (xSF Tryz.f43 0))=some xIX by kernel_rfl] at hs
   cases hs;exact xws (E:=EAsg) xSK (xSL P0 _) rfl xIY (xhj fun _=>rfl)
 . rw [show EAsg1.lp (xSP (xSF Tryz.f43 1))=none by kernel_rfl] at hs
   simp at hs
 . rw [show EAsg1.lp (xSP (xSF Tryz.f43 2))=none by kernel_rfl] at hs
   simp at hs
noncomputable def EAlv (p:Nat):Env:={ Env.deep P0 mmA EA0 6 with pin:=p,nt:=71,ls:=lsOf [] }
theorem xIW (p:Nat):xSB P0 (xTh.at p) (EAlv p):=xnB (xg6 xSK mmA (xSL P0 0) xy1 (fun _=>rfl) 6)
noncomputable def xIV (p:Nat):Lp:=closedLp P0 (EAlv p) [0,1,2,3,4] [] [(3,0,0)] (xSF Tryz.f112 0) 100
noncomputable def EAlv1 (p:Nat):Env:={ EAlv p with lp:=xSX [(xSP (xSF Tryz.f112 0),xIV p)] }
theorem xMV (p:Nat):xSB P0 (xTh.at p) (EAlv1 p):=xIW p
noncomputable def xHm:List AV->List Box->Option (Bool×AV×List Box):=fun xs H=>match XFM P0 (EAlv1 H.length) Tryz.f112 (Tryz.f112.body.getD .skip) xs H with
 | some (r,H')=>some (true,r,H')
 | none=>none
theorem xQt:OmOk P0 xTh 112 xHm:=fun xs H r H' h=>by
 unfold xHm at h;split at h
 case h_2=>simp at h
 rename_i r0 H0 hr;simp only [z6,zb,true_and] at h;obtain ⟨rfl,rfl⟩:=h;refine xi9 (p:=H.length) (xkm xSK (xSL P0 _) rfl (xMV H.length) rfl Tryz.func112 rfl (by kernel_rfl) (xgK (ls:=[xSF Tryz.f112 0,xSF Tryz.f112 1]) (by kernel_rfl) (fun l hl lp hs=>?_) (by kernel_rfl)) hr)
 simp only [zC,List.not_mem_nil,or_false] at hl;rcases hl with rfl|rfl
 . rw [show (EAlv1 H.length).lp (xSP (xSF Tryz.f112 0))=some (xIV H.length) by kernel_rfl] at hs
   cases hs;exact xws (E:=EAlv H.length) xSK (xSL P0 _) rfl (xIW H.length) (xhj fun _=>rfl)
 . rw [show (EAlv1 H.length).lp (xSP (xSF Tryz.f112 1))=none by kernel_rfl] at hs
   simp at hs
noncomputable def EAs:Env:=(((EA0.with 111 xFq).with 40 xKj).with 43 xKQ).withM 112 xHm
theorem xK0:xSB P0 xTh EAs:=(((xy1.with xPg).with xQ3).with xQ8).withM xQt
noncomputable def EAd:Env:={ Env.deep P0 mmA EAs 14 with pin:=0 }
mutual
def eqV:AV->AV->Bool
 | .int k a,.int k' b=>decide (k=k')&&decide (a=b)
 | .bool a,.bool b=>a==b
 | .str a,.str b=>decide (a=b)
 | .list n a,.list m b=>Nat.beq n m&&eqVs a b
 | .agg a,.agg b=>eqVs a b
 | .nils,.nils=>true
 | _,_=>false
def eqVs:List AV->List AV->Bool
 | [],[]=>true
 | a::l,b::m=>eqV a b&&eqVs l m
 | _,_=>false
end
mutual
theorem xQd:∀ (a b:AV),eqV a b=true->a=b:=fun a b h=>by
 cases a<;>cases b<;>first|rfl|(simp [eqV] at h;done)|skip
 all_goals simp only [eqV,zf,zl,beq_iff_eq] at h
 all_goals first|(rw [h.1,h.2];done)|(rw [h];done)|(rw [zg h.1,xCM _ _ h.2];done)|(rw [xCM _ _ h])
theorem xCM:∀ (a b:List AV),eqVs a b=true->a=b
 | [],[],_=>rfl
 | a::l,b::m,h=>by simp only [eqVs,zf] at h;rw [xQd a b h.1,xCM l m h.2]
 | [],_::_,h=>by simp [eqVs] at h
 | _::_,[],h=>by simp [eqVs] at h
end
def ptO (q:List AV) (r:AV):List AV->Option (Bool×AV):=fun xs=>match eqVs xs q with
 | true=>some (true,r)
 | false=>none
theorem xBi {P:Program} {Inv:IV} {f:FuncId} {q:List AV} {r:AV} (h:Good P Inv f q r):OcOk P Inv f (ptO q r):=fun xs r0 h0=>by
 unfold ptO at h0;split at h0
 case h_2=>simp at h0
 rename_i he;simp only [z6,zb,true_and] at h0;subst h0;rw [xCM _ _ he];exact h
theorem xzY {f:FuncId} {fn:Func} {q:List AV} {r:AV} (hf:P0.funcs[f]?=some fn) (hb:fn.body.isSome=true) (J:(fn.name == "runtime.NumGoroutine")=false) (h:XF P0 EAd fn (fn.body.getD .skip) q=some r):Good P0 xTh f q r :=
 xdT (p:=0) (xf4 xSK (xSL P0 _) rfl (xnB (xg6 xSK mmA (xSL P0 0) xK0 (fun _=>rfl) 14)) hf hb J (xhj fun _=>rfl) h)
end Go.Sim.M
end
noncomputable section
set_option maxRecDepth 100000
namespace Go.Sim.M
open Go.RowKit Go.Proofs
def vA (n:Int):AV:=.agg [.int .i64 1,.int .i64 n,.str []]
def nA:AV:=.agg [.int .i64 0,.int .i64 0,.str []]
def fA (a b:Int) (r:List Int):AV:=.agg [.list 3 (r.map vA),.int .i64 a,.int .i64 b]
def agA (o a:Int):AV:=.agg [.int .i64 o,.int .i64 a]
def itsA (l:List Int):AV:=.list 1 (l.map (AV.int .i64))
def bGi:AV:=.list 3 [fA 0 4 [1,1,5],fA 4 6 [1,2,12],fA 6 9 [1,1,7],fA 2 3 [2,1,1]]
def bGo:AV:=.list 3 [fA 0 4 [1,1,5],fA 6 9 [1,1,7],fA 4 6 [1,2,12],fA 2 3 [2,1,1]]
theorem xRh:XF P0 EAd Tryz.f44 (Tryz.f44.body.getD .skip) [bGi]=some bGo:=by kernel_rfl
theorem xRg:OcOk P0 xTh 44 (ptO [bGi] bGo):=xBi (xzY Tryz.func44 rfl (by kernel_rfl) xRh)
def bCi:AV:=.list 3 [fA 0 2 [1],fA 2 3 [2],fA 3 4 [1],fA 4 6 [2],fA 6 9 [1],fA 9 1099511627776 [0]]
def bCo:AV:=.list 3 [fA 9 1099511627776 [0],fA 0 2 [1],fA 3 4 [1],fA 6 9 [1],fA 2 3 [2],fA 4 6 [2]]
theorem xRf:XF P0 EAd Tryz.f44 (Tryz.f44.body.getD .skip) [bCi]=some bCo:=by kernel_rfl
theorem xRe:OcOk P0 xTh 44 (ptO [bCi] bCo):=xBi (xzY Tryz.func44 rfl (by kernel_rfl) xRf)
def bRi:AV:=.list 3 [fA 0 6 [1,5],fA 4 9 [1,7],fA 2 3 [2,1]]
def bRo:AV:=.list 3 [fA 0 6 [1,5],fA 4 9 [1,7],fA 2 3 [2,1]]
theorem xRl:XF P0 EAd Tryz.f44 (Tryz.f44.body.getD .skip) [bRi]=some bRo:=by kernel_rfl
theorem xRk:OcOk P0 xTh 44 (ptO [bRi] bRo):=xBi (xzY Tryz.func44 rfl (by kernel_rfl) xRl)
def bMi:AV:=.list 3 [fA 0 2 [5],fA 2 4 [5],fA 4 5 [7],fA 5 8 [7],fA 8 11 [7],.agg [.list 3 [nA],.int .i64 11,.int .i64 1099511627776]]
def bMo:AV:=.list 3 [.agg [.list 3 [nA],.int .i64 11,.int .i64 1099511627776],fA 0 4 [5],fA 4 11 [7]]
theorem xRj:XF P0 EAd Tryz.f44 (Tryz.f44.body.getD .skip) [bMi]=some bMo:=by kernel_rfl
theorem xRi:OcOk P0 xTh 44 (ptO [bMi] bMo):=xBi (xzY Tryz.func44 rfl (by kernel_rfl) xRj)
noncomputable def EAt:Env:=((((EAs).with 44 (ptO [bGi] bGo)).with 44 (ptO [bCi] bCo)).with 44 (ptO [bRi] bRo)).with 44 (ptO [bMi] bMo)
theorem xK1:xSB P0 xTh EAt:=((((xK0).with xRg).with xRe).with xRk).with xRi
noncomputable def EAtd:Env:={ Env.deep P0 mmA EAt 14 with pin:=0 }
theorem xBf {f:FuncId} {fn:Func} {q:List AV} {r:AV} (hf:P0.funcs[f]?=some fn) (hb:fn.body.isSome=true) (J:(fn.name == "runtime.NumGoroutine")=false) (h:XF P0 EAtd fn (fn.body.getD .skip) q=some r):Good P0 xTh f q r :=
 xdT (p:=0) (xf4 xSK (xSL P0 _) rfl (xnB (xg6 xSK mmA (xSL P0 0) xK1 (fun _=>rfl) 14)) hf hb J (xhj fun _=>rfl) h)
def relA:AV:=.agg [itsA [1,1],bRi]
def relM:AV:=.agg [itsA [1,1],.list 3 [fA 0 8 [1,5],fA 4 11 [1,7],fA 2 5 [2,1]]]
theorem xRq:XF P0 EAtd Tryz.f13 (Tryz.f13.body.getD .skip) [relA,itsA [0],.list 2 [agA 1 (-1),agA 2 1]]=some (.agg [itsA [1,1,1],bGo]):=by kernel_rfl
theorem xRp:OcOk P0 xTh 13 (ptO [relA,itsA [0],.list 2 [agA 1 (-1),agA 2 1]] (.agg [itsA [1,1,1],bGo])):=xBi (xBf Tryz.func13 rfl (by kernel_rfl) xRq)
theorem xRo:XF P0 EAtd Tryz.f13 (Tryz.f13.body.getD .skip) [relA,.nils,.list 2 [agA 1 (-1)]]=some (.agg [itsA [1],bCo]):=by kernel_rfl
theorem xRn:OcOk P0 xTh 13 (ptO [relA,.nils,.list 2 [agA 1 (-1)]] (.agg [itsA [1],bCo])):=xBi (xBf Tryz.func13 rfl (by kernel_rfl) xRo)
theorem xRs:XF P0 EAtd Tryz.f13 (Tryz.f13.body.getD .skip) [relM,.nils,.list 2 [agA 4 1]]=some (.agg [itsA [1],bMo]):=by kernel_rfl
theorem xRr:OcOk P0 xTh 13 (ptO [relM,.nils,.list 2 [agA 4 1]] (.agg [itsA [1],bMo])):=xBi (xBf Tryz.func13 rfl (by kernel_rfl) xRs)
noncomputable def EAu:Env:=(((EAt).with 13 (ptO [relA,itsA [0],.list 2 [agA 1 (-1),agA 2 1]] (.agg [itsA [1,1,1],bGo]))).with 13 (ptO [relA,.nils,.list 2 [agA 1 (-1)]] (.agg [itsA [1],bCo]))).with 13 (ptO [relM,.nils,.list 2 [agA 4 1]] (.agg [itsA [1],bMo]))
theorem xPH:xSB P0 xTh EAu:=(((xK1).with xRp).with xRn).with xRr
end Go.Sim.M
end
