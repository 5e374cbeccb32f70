/- Part 14 of the proof of the law. -/
import Derived.Test.YtoemghmemdnelaaGreatDoorMM13
import Derived.Deep.LoopGhost
import Derived.Lib.SliceRun
set_option linter.unusedVariables false
set_option linter.unusedSimpArgs false
noncomputable section
namespace Go.Proofs
open Go.RowKit Go.Lib Go.Shelf
set_option maxHeartbeats 2000000 in
set_option maxRecDepth 100000 in
theorem Tryz.clone_nil (n c:Nat) (w:World) :
  Calls Tryz.prog 163 #[.slice none n c] w fun e w'=>e=.returned (.slice none 0 0)/\w'=w:=by
 have q22:∀ (w:World) (a:Option Addr) (n c n' c':Nat),(binOp .eql 57 (.slice a n c) (.slice none n' c')).run Tryz.prog w=.ok (.bool a.isNone) w:=fun w a n c n' c'=>Lib.run_eql_slice_nil w 57 76 a n c n' c' (by kernel_rfl)
 go_enter Tryz.func163,Tryz.ntmps163
 go_wp2
 go_ret
 exact ⟨rfl,rfl⟩
set_option maxHeartbeats 2000000 in
set_option maxRecDepth 100000 in
theorem Tryz.clone_some (i0:TypeInfo) (z:Value) (hi:Tryz.prog.info? 76=some i0) (U:i0.zero=some z) (V:i0.size=3) (Y:i0.bytes=32) (W:z.cells.size=3)
  (a:Addr) (n c:Nat) (news:List Value) (w:World) (hl:news.length=n*3) (hn:n<=maxLen) (Q:n*32<=140737488355328)
  (hc:∀ j u,news[j]?=some u->w.cell? (a.add j)=some u) (h1:∀ u∈news,u.oneCell'=true) :
  Calls Tryz.prog 163 #[.slice (some a) n c] w fun e w'=>∃ v',e=.returned v'/\w'.ownsRow w.heap.size 76 3 v' n news/\Below w.heap.size w w':=by
 have q:Tryz.prog.underlying 57=some (.slice 76):=by kernel_rfl
 have q22:∀ (w:World) (a:Option Addr) (n c n' c':Nat),(binOp .eql 57 (.slice a n c) (.slice none n' c')).run Tryz.prog w=.ok (.bool a.isNone) w:=fun w a n c n' c'=>Lib.run_eql_slice_nil w 57 76 a n c n' c' q
 have u22:∀ w,Sem.run Tryz.prog (underlying 57) w=.ok (TypeDesc.slice 76) w:=run_underlying q;have A:Aside (∀ j u,news[j]?=some u->w.cell? (a.add j)=some u):=hc;clear hc
 go_enter Tryz.func163,Tryz.ntmps163
 go_wp2_with (at_builtin;refine wpList_append_own _ rfl _ _ 57 rfl w.heap.size 76 i0 z 3 32 q hi U V Y W (by decide) _ _ _ rfl (World.ownsRow_made w #[] 0 (Nat.le_refl _) (Nat.zero_le _) (by simp)) a n c news rfl ?qc1 ?qc2 ?qc3 ?qc4 ?qc5 ?qc6 ?_)
 case qc1=>exact hl
 case qc2 =>
  intro j u hj;exact Lib.cell?_alloc_some _ (A.out j u hj)
 case qc3=>exact h1
 case qc4=>rw [Nat.zero_add];exact hn
 case qc5=>rw [Nat.zero_add];exact Q
 case qc6=>simp
 intro v' w1 O J Z
 go_wp2
 go_ret
 refine ⟨v',rfl,by simpa using O,?_⟩
 exact ((Below.refl _ w).alloc (Nat.le_refl _) _).grown J (by simp) (by intro k hk;simp [Value.ownBlock] at hk;omega)
end Go.Proofs
namespace Go.Sim
open Go.RowKit Go.Proofs
def xrr:List AV->Option (Bool×AV)
 | [.list 3 xs]=>some (decide (xs.length<=4398046511104),.list 3 xs)
 | _=>none
theorem xCr {w w':World} {A:Nat->Prop} {e:TypeId} {sz:Nat} {v:Value} {xs:List AV} {news:List Value} (hl:∀ b,A b->b<w.heap.size) (J:w'.ownsRow w.heap.size e sz v xs.length news) (W:∀ x,x∈xs->x.okElem sz=true)
  (hr:∀ i j,i<xs.length->j<sz->Rel w' A xSV (news.getD (i*sz+j) undef) ((xs.getD i .top).cells.getD j .top)):Rel w' A xSV v (.list sz xs):=by
 obtain ⟨Z,h⟩:=J;rcases h with ⟨rfl,h0⟩|⟨g,cap,cur,rfl,hg,hh,Q,aa,Y,U⟩
 . have:xs=[]:=List.eq_nil_of_length_eq_zero h0;subst this;exact .list0 _ _ _
 . by_cases hne:xs=[]
   . subst hne;exact .list0 _ _ _
   . have V:g<w'.heap.size:=by
      rcases Nat.lt_or_ge g w'.heap.size with h|h
      . exact h
      . rw [Array.getElem?_eq_none h] at hh;simp at hh
     have q:∀ i j,i<xs.length->j<sz->w'.cell? ⟨g,0+i*sz+j,none⟩=some (news.getD (i*sz+j) undef):=fun i j hi hj=>by
      have hk:i*sz+j<xs.length*sz:=xeG hi hj;have O:i*sz+j<cur.size:=by
       rw [Y];exact Nat.lt_of_lt_of_le hk (Nat.mul_le_mul_right _ Q)
      have e1:news.getD (i*sz+j) undef=cur[i*sz+j]:=by
       rw [<-U];simp [List.getD_eq_getElem?_getD,List.getElem?_take,hk,O]
      rw [e1,Nat.zero_add];simp [World.cell?,hh,O]
     exact .list g 0 cap sz xs (fun i j=>news.getD (i*sz+j) undef) (fun hA=>by have:=hl g hA;omega) V hne Q W q hr
theorem xA7:OcOk Tryz.prog xTo 163 xrr:=fun xs r h=>by
 unfold xrr at h;split at h
 . rename_i xs;simp only [Option.some.injEq,Prod.mk.injEq,decide_eq_true_eq] at h;obtain ⟨aa,rfl⟩:=h;refine ⟨xfj Tryz.func163 rfl (by kernel_rfl),fun w A vs hI hA Z=>?_⟩
   obtain ⟨v,rfl,h1⟩:=rc1 Z;have J:∃ ti,xSH Tryz.prog 76=some ti/\ti.sz=3/\ti.bytes=32/\ti.zero.okElem 3=true:=by
    have h:(match xSH Tryz.prog 76 with|some ti=>(ti.sz==3)&&((ti.bytes==32)&&ti.zero.okElem 3)|none=>false)=true:=by kernel_rfl
    split at h
    . rename_i ti J;simp only [Bool.and_eq_true,beq_iff_eq] at h;exact ⟨ti,J,h.1,h.2.1,h.2.2⟩
    . simp at h
   obtain ⟨ti,J,s1,s2,s3⟩:=J;obtain ⟨i,z,g1,g2,g3,g4,g5,g6,_⟩:=xbS J;have U:z.cells.size=3:=by
    have Y:Rel w A xSV z ti.zero:=by rw [g6];exact xeL w A xSV z
    rw [(Y.cells (xbp s3)).1,xa3 s3]
   have V:∀ n c,v=.slice none n c->xs=[]->Calls Tryz.prog 163 [v].toArray w fun e w'=>∃ v,e=.returned v/\Below w.heap.size w w'/\Rel w' A xSV v (.list 3 xs):=by
    rintro n c rfl rfl;refine (Tryz.clone_nil n c w).mono ?_;rintro e w' ⟨rfl,rfl⟩;exact ⟨_,rfl,Below.refl _ _,.list0 _ _ _⟩
   have Q:∀ b off c (val:Nat->Nat->Value),v=.slice (some ⟨b,off,none⟩) xs.length c->(∀ x,x∈xs->x.okElem 3=true)->(∀ i j,i<xs.length->j<3->w.cell? ⟨b,off+i*3+j,none⟩=some (val i j))->(∀ i j,i<xs.length->j<3->Rel w A xSV (val i j) ((xs.getD i .top).cells.getD j .top)) ->
     Calls Tryz.prog 163 [v].toArray w fun e w'=>∃ v,e=.returned v/\Below w.heap.size w w'/\Rel w' A xSV v (.list 3 xs):=by
    rintro b off c val rfl W hc hr;have hs:∀ i j,i<xs.length->j<3->∃ u,w.cell? ⟨b,off+(i*3+j),none⟩=some u/\Rel w A xSV u ((xs.getD i .top).cells.getD j .top):=fun i j hi hj=>⟨val i j,by rw [<-Nat.add_assoc];exact hc i j hi hj,hr i j hi hj⟩
    refine (Tryz.clone_some i z g1 g3 (by rw [<-g4,s1]) (by rw [<-g5,s2]) U ⟨b,off,none⟩ xs.length c (xS6 w b off (xs.length*3)) w (xjK _ _ _ _) (by unfold maxLen;omega) (by omega)
     (fun j u hj=>xBD (by decide) hs j u hj) (xJL (by decide) hs W)).mono ?_
    rintro e w' ⟨v',rfl,O,q⟩;exact ⟨v',rfl,q,xCr hA O W fun i j hi hj=>(xJM hs hi hj).grow q⟩
   have h1':=h1;generalize hx:AV.list 3 xs=x at h1;cases h1 with
   | list0 a cap sz =>
    simp only [AV.list.injEq] at hx;obtain ⟨rfl,rfl⟩:=hx;cases a with
    | none=>exact V 0 cap rfl rfl
    | some a =>
     refine (Tryz.clone_some i z g1 g3 (by rw [<-g4,s1]) (by rw [<-g5,s2]) U a 0 cap [] w rfl (Nat.zero_le _) (by omega) (by simp) (by simp)).mono ?_
     rintro e w' ⟨v',rfl,O,q⟩;exact ⟨v',rfl,q,xCr hA (xs:=[]) O (by simp) (by simp)⟩
   | list b off cap sz ys val ha hb hne hcap hsz hc hr =>
    simp only [AV.list.injEq] at hx;obtain ⟨rfl,rfl⟩:=hx;exact Q b off cap val rfl hsz hc hr
   | _=>simp at hx
 . simp at h
end Go.Sim
end
noncomputable section
namespace Go.Sim.M
open Go.RowKit Go.Proofs
noncomputable def E0A:Env:=((((((xK2.E.with 136 xmn).with 98 xru).with 163 xrr).withM 129 xwy).withM 100 xnH).withM 113 xFz).withM 102 xFy
theorem xPO:xSI Tryz.prog xTo E0A:=((((((xK2.ok.with xyN).with xBa).with xA7).withM xC5).withM xzd).withM xPE).withM xPD
noncomputable def xPN:EO:=EO.mk E0A xPO
end Go.Sim.M
end
noncomputable section
set_option maxRecDepth 100000
namespace Go.Sim.M
open Go.IntKind (i64 u64 u8)
open Go.RowKit Go.Proofs
def xb7 {T:Type} (a:List UInt8) (δ:T) (κ:Int×Nat×LA->T):T:=br (decide ((byteAVs a).length*1<=140737488355328)&&decide ((byteAVs a).length<=4611686018427387904)) (κ ((↑a.length:Int),(byteAVs a).length,byteAVs a)) δ
def xaN (a:List UInt8):=xb7 a none some
def xQX:EO:=xPN.fM Tryz.func97 19 1 [] [] lk0 (u2 (sEq (xTF 0 0 0 0)) (sEq pStr)) (q1 (qB 0 2 142 (q1 (xTG (q2 pNilptr pNils))))) (fun (_,a,_) (((_,_,_),_),_) _=>xb7 a) (fun _ _ p=>(AV.tuple [AV.int .i64 p.1,.top],([⟨0,2,142,[AV.agg [AV.own 0 0 0 0,AV.osl 1 0 0 p.2.1]],false,false⟩,bF 0 1 5 p.2.2]:List Box))) (0,0,[])
def xfe {T:Type} (a:List UInt8) (n:Nat) (b:LA) (δ:T) (κ:Int×Nat×LA->T):T:=br (n==b.length&&(decide ((n+(byteAVs a).length)*1<=140737488355328)&&decide (n+(byteAVs a).length<=4611686018427387904))) (κ ((↑a.length:Int),n+(byteAVs a).length,b++byteAVs a)) δ
def xaQ (a:List UInt8) (n:Nat) (b:LA):=xfe a n b none some
def xQY:EO:=xQX.fM Tryz.func97 19 2 [] [] lk0 (u2 (sEq (xTF 0 0 0 0)) (sEq pStr)) (q2 (xTH 0 2 142 false false (q1 (xTG (q2 (xTF 0 0 0 0) (xTE 1 0 0))))) (qB 0 1 5 xTt)) (fun (_,a,_) (((_,n,_),_),b,_) _=>xfe a n b) (fun _ _ p=>(AV.tuple [AV.int .i64 p.1,.top],([⟨0,2,142,[AV.agg [AV.own 0 0 0 0,AV.osl 1 1 0 p.2.1]],false,false⟩,bF 1 1 5 p.2.2]:List Box))) (0,0,[])
def xjL {T:Type} (a:List UInt8) (n:Nat) (b:LA) (δ:T) (κ:Int×Nat×LA->T):T:=br (n==b.length&&(decide ((n+(byteAVs a).length)*1<=140737488355328)&&decide (n+(byteAVs a).length<=4611686018427387904))) (κ ((↑a.length:Int),n+(byteAVs a).length,b++byteAVs a)) δ
def xlm (a:List UInt8) (n:Nat) (b:LA):=xjL a n b none some
def xJS:EO:=xQY.fM Tryz.func97 19 2 [] [] lk0 (u2 (sEq (xTF 0 0 0 0)) (sEq pStr)) (q2 (xTH 0 2 142 false false (q1 (xTG (q2 (xTF 0 0 0 0) (xTE 1 1 0))))) (qB 1 1 5 xTt)) (fun (_,a,_) (((_,n,_),_),b,_) _=>xjL a n b) (fun _ _ p=>(AV.tuple [AV.int .i64 p.1,.top],([⟨0,2,142,[AV.agg [AV.own 0 0 0 0,AV.osl 1 2 0 p.2.1]],false,false⟩,bF 2 1 5 p.2.2]:List Box))) (0,0,[])
def xbJ:Env:=xJS.E.fn 17 1 (lsOf []) (xS3 [])
theorem xsj:xSI P0 (xTo.at 1) xbJ:=xJS.ok.fn
theorem xrv:LoOk P0 (xTo.at xbJ.pin) xbJ (Tryz.f99.body.getD .skip):=xs0 (by kernel_rfl)
def xhm (c:Int):Int:=((c))
def xj6 (c:Int):Bool:=true
def xlQ {T:Type} (c:Int) (δ:T) (κ:Int->T):T:=κ (c)
theorem xvy (c:Int):Pre (xj6 c) (XFM P0 xbJ Tryz.f99 (Tryz.f99.body.getD .skip) [AV.own (0:Id) 0 0 0,AV.int .u8 c] [{ ver:=0,sz:=2,ty:=(142:TypeId),xs:=[AV.agg [AV.nilptr,AV.nils]],frz:=false,pm:=true }]) ((.top,([⟨0,2,142,[AV.agg [AV.own 0 0 0 0,AV.osl 1 0 0 1]],false,false⟩,⟨0,1,5,[AV.int .u8 (xhm c)],false,true⟩]:List Box))):=by
 have h:XFM P0 xbJ Tryz.f99 (Tryz.f99.body.getD .skip) [AV.own (0:Id) 0 0 0,AV.int .u8 c] [{ ver:=0,sz:=2,ty:=(142:TypeId),xs:=[AV.agg [AV.nilptr,AV.nils]],frz:=false,pm:=true }]=xlQ c none (fun (p:Int)=>some (((.top,([⟨0,2,142,[AV.agg [AV.own 0 0 0 0,AV.osl 1 0 0 1]],false,false⟩,⟨0,1,5,[AV.int .u8 p],false,true⟩]:List Box))):(AV×List Box))):=by kernel_rfl
 rw [h];unfold xhm xj6 xlQ;repeat' (first|exact Pre.none|exact Pre.tt rfl|exact Pre.some rfl|refine Pre.l ?_|refine Pre.r ?_|refine Pre.br (f:=fun (p:Int)=>(((.top,([⟨0,2,142,[AV.agg [AV.own 0 0 0 0,AV.osl 1 0 0 1]],false,false⟩,⟨0,1,5,[AV.int .u8 p],false,true⟩]:List Box))):(AV×List Box))) ?_ ?_|refine Pre.brt (f:=fun (p:Int)=>(((.top,([⟨0,2,142,[AV.agg [AV.own 0 0 0 0,AV.osl 1 0 0 1]],false,false⟩,⟨0,1,5,[AV.int .u8 p],false,true⟩]:List Box))):(AV×List Box))) ?_ ?_)
def xvw:LA->List Box->Option (Bool×AV×List Box):=omOf (xTq (sEq (xTF 0 0 0 0)) (xTq (sEq (pInt .u8)) xTs)) (xTp (xTH 0 2 (142:TypeId) false true (xTp (xTG (xTp pNilptr (xTp pNils xTr))) xTr)) xTr) fun (_,(c,_)) (((_,(_,_)),_),_)=>(true,((.top,([⟨0,2,142,[AV.agg [AV.own 0 0 0 0,AV.osl 1 0 0 1]],false,false⟩,⟨0,1,5,[AV.int .u8 (xhm c)],false,true⟩]:List Box))))
theorem xvv:OmOk P0 xTo 99 (xvw):=xra fun b d h f e=>by
 obtain ⟨_,⟨c,_⟩⟩:=b;obtain ⟨⟨⟨_,⟨_,_⟩⟩,_⟩,_⟩:=d;obtain ⟨g,a⟩:=Prod.mk.inj e;refine xi3 (p:=xbJ.pin) (xkh xSR (xSS P0 _) rfl xsj rfl Tryz.func99 rfl (by kernel_rfl) xrv ((Pre.get (xvy _) rfl).trans ?_))
 exact congrArg some a
def xQZ:EO:=xJS.wM xvv
def xlh {T:Type} (c:Int) (n:Nat) (a:LA) (δ:T) (κ:Nat×LA->T):T:=br (rmB n a 1 1) (κ (n+1,a++[AV.int .u8 c])) δ
def xbV (c:Int) (n:Nat) (a:LA):=xlh c n a none some
def xQx:EO:=xQZ.fM Tryz.func99 17 2 [] [] lk0 (u2 (sEq (xTF 0 0 0 0)) (sEq (pInt .u8))) (q2 (xTH 0 2 142 false false (q1 (xTG (q2 (xTF 0 0 0 0) (xTE 1 0 0))))) (qB 0 1 5 xTt)) (fun (_,c,_) (((_,n,_),_),a,_) _=>xlh c n a) (fun _ _ p=>(.top,([⟨0,2,142,[AV.agg [AV.own 0 0 0 0,AV.osl 1 1 0 p.1]],false,false⟩,bF 1 1 5 p.2]:List Box))) (0,[])
def xdF {T:Type} (c:Int) (n:Nat) (a:LA) (δ:T) (κ:Nat×LA->T):T:=br (rmB n a 1 1) (κ (n+1,a++[AV.int .u8 c])) δ
def xbs (c:Int) (n:Nat) (a:LA):=xdF c n a none some
def xJT:EO:=xQx.fM Tryz.func99 17 2 [] [] lk0 (u2 (sEq (xTF 0 0 0 0)) (sEq (pInt .u8))) (q2 (xTH 0 2 142 false false (q1 (xTG (q2 (xTF 0 0 0 0) (xTE 1 1 0))))) (qB 1 1 5 xTt)) (fun (_,c,_) (((_,n,_),_),a,_) _=>xdF c n a) (fun _ _ p=>(.top,([⟨0,2,142,[AV.agg [AV.own 0 0 0 0,AV.osl 1 2 0 p.1]],false,false⟩,bF 2 1 5 p.2]:List Box))) (0,[])
def xhb (b:Int) (a:LA):=((a.getD (0+b.toNat) .top).cells.getD 0 .top).toInt
def xp1 (d:Int) (c:Nat) (b a:LA):=((xaQ (Lib.itoa (xhb d b)) c a).getD (0,0,[])).snd
def xp0 (d:Int) (c:Nat) (b a:LA):=xbs 32 (xp1 d c b a).fst (xp1 d c b a).snd
def xpx (d:Int) (c:Nat) (b a:LA):=(xp0 d c b a).getD (0,[])
def xlS {T:Type} (k:LA) (l j:Int) (e:Nat) (i c:Int) (d:Nat) (f g:Int) (h:List UInt8) (a b:LA) (δ:T) (κl:(Int×Nat×Int×Int×List UInt8×LA×LA)->T) (κr:(Nat×Int×Int×List UInt8×LA)->T):T:=br (decide (c<i)) (br (decide (0<=c)&&decide (c<(↑e:Int))) (br (decide (0+c.toNat<a.length)&&xSG (Sh.int .i64) ((a.getD (0+c.toNat) .top).cells.getD 0 .top)) (br (decide ((-9223372036854775808)<=xhb c a)&&decide (xhb c a<=9223372036854775807)) (br ((xaQ (Lib.itoa (xhb c a)) d b).isSome) (br ((xp0 c d a b).isSome) (κl (i64.wrap (c+1),(xpx c d a b).fst,f,g,h,a,(xpx c d a b).snd)) δ) δ) δ) δ) δ) (κr (d,f,g,h,b))
def xbO (k:LA) (l e:Int) (c:Nat) (f:Int):StT (Int×Nat×Int×Int×List UInt8×LA×LA) (Nat×Int×Int×List UInt8×LA):=fun (g,d,h,i,j,b,a)=>xlS k l e c f g d h i j b a none inL inR
def xkf:=xJT.l 37 0 [] [] Tryz.f137 1 lk0 [3,5,8,9,10,21,22,23] [3,5,8,9,10] [] (q8 (xTF 0 0 0 0) (xTF 1 0 0 0) (qL 3) qI qI (xTE 2 0 0) qI qI) (q4 (xTH 0 2 142 false false (q1 (xTG (q2 (xTF 0 0 0 0) (xTE 3 0 0))))) (qB 0 3 76 (q1 (xTG (q3 qI qI pStr)))) (qB 0 1 3 xTt) (qB 0 1 5 xTt)) (fun (_,_,k,m,e,c,f,g,_) (((_,d,_),_),((h,i,j,_),_),b,a,_)=>(xbO k m e c f,(g,d,h,i,j,b,a),fun p=>(.leaf (.exit 2) [AV.own 0 0 0 0,AV.own 1 0 0 0,AV.list 3 k,AV.int .i64 m,AV.int .i64 e] [⟨0,2,142,[AV.agg [AV.own 0 0 0 0,AV.osl 2 0 0 p.1]],false,false⟩,bF 0 3 76 [AV.agg [AV.int .i64 p.2.1,AV.int .i64 p.2.2.1,AV.str p.2.2.2.1]],bF 0 1 5 p.2.2.2.2]))) (0,0,0,[],[]) fun (_,_,k,m,e,c,f,_,_) _ (g,d,h,i,j,b,a)=>((((),(),k,m,e,c,f,g,()),((((),d,()),()),((h,i,j,()),()),b,a,())),xlS k m e c f g d h i j b a none)
def xpZ (b:LA) (e a:Int) (d:Nat) (c:LA):=Iter (xbO b e a 3 3) (0,d,(gC b a 0).toInt,(gC b a 1).toInt,(gC b a 2).toStr,[AV.int .i64 (gC b a 0).toInt,AV.int .i64 (gC b a 1).toInt,AV.int .i64 (↑(gC b a 2).toStr.length:Int)],c)
def xpY (d:LA) (e c:Int) (b:Nat) (a:LA):=(xpZ d e c b a).getD (0,0,0,[],[])
def xpX (d:LA) (e c:Int) (b:Nat) (a:LA):=(xpY d e c b a).snd.snd.snd
def xpW (d:LA) (e c:Int) (b:Nat) (a:LA):=xaQ (xpX d e c b a).fst (xpY d e c b a).fst (xpX d e c b a).snd
def xpV (d:LA) (e c:Int) (b:Nat) (a:LA):=((xpW d e c b a).getD (0,0,[])).snd
def xlR {T:Type} (d:LA) (e b:Int) (c:Nat) (a:LA) (δ:T) (κl:(Int×Nat×LA)->T) (κr:(Nat×LA)->T):T:=br (decide (b<e)) (br (ixI d b) (br (ixT d b 3 [Sh.int .i64,Sh.int .i64,Sh.str] 0) (br ((xpZ d e b c a).isSome) (br ((xpW d e b c a).isSome) (κl (i64.wrap (b+1),(xpV d e b c a).fst,(xpV d e b c a).snd)) δ) δ) δ) δ) (κr (c,a))
def xd9 (d:LA) (e:Int):StT (Int×Nat×LA) (Nat×LA):=fun (c,b,a)=>xlR d e c b a none inL inR
def xwJ:=xJT.l 37 0 [] [(6,xkf.lp)] Tryz.f137 0 (lk1 xkf.ok) [3,8,9,10] [3] [] (q4 (xTF 0 0 0 0) (qL 3) qI qI) (q2 (xTH 0 2 142 false false (q1 (xTG (q2 (xTF 0 0 0 0) (xTE 1 0 0))))) (qB 0 1 5 xTt)) (fun (_,d,e,c,_) (((_,b,_),_),a,_)=>(xd9 d e,(c,b,a),fun p=>(.leaf (.exit 0) [AV.own 0 0 0 0] [⟨0,2,142,[AV.agg [AV.own 0 0 0 0,AV.osl 1 0 0 p.1]],false,false⟩,bF 0 1 5 p.2]))) (0,[]) fun (_,d,e,_,_) _ (c,b,a)=>((((),d,e,c,()),((((),b,()),()),a,())),xlR d e c b a none)
def xdS (a:LA):=((a.getD 0 .top).cells.getD 0 .top).toInt
def xt3 (a:LA):=xbV 32 ((xaN (Lib.itoa (xdS a))).getD (0,0,[])).snd.fst ((xaN (Lib.itoa (xdS a))).getD (0,0,[])).snd.snd
def xt2 (a:LA):=(xt3 a).getD (0,[])
def xt1 (a:LA):=Iter (xbO a (↑a.length:Int) 0 3 3) (1,(xt2 a).fst,xdS a,((a.getD 0 .top).cells.getD 1 .top).toInt,((a.getD 0 .top).cells.getD 2 .top).toStr,[AV.int .i64 (xdS a),AV.int .i64 ((a.getD 0 .top).cells.getD 1 .top).toInt,AV.int .i64 (↑((a.getD 0 .top).cells.getD 2 .top).toStr.length:Int)],(xt2 a).snd)
def xt0 (a:LA):=(xt1 a).getD (0,0,0,[],[])
def xtx (a:LA):=(xt0 a).snd.snd.snd
def xtZ (a:LA):=xaQ (xtx a).fst (xt0 a).fst (xtx a).snd
def xtY (a:LA):=((xtZ a).getD (0,0,[])).snd
def xtX (a:LA):=Iter (xd9 a (↑a.length:Int)) (1,(xtY a).fst,(xtY a).snd)
def xtW (a:LA):=(xtX a).getD (0,[])
def xkg (a:LA):=(xtW a).snd
def xvS {T:Type} (a:LA) (δ:T) (κ:List UInt8->T):T:=br (decide (0<(↑a.length:Int))) (br (decide (0<(↑a.length:Int))) (br (decide (0<a.length)&&((a.getD 0 .top).cells.length==3&&xSN [Sh.int .i64,Sh.int .i64,Sh.str] (a.getD 0 .top).cells 0)) (br (decide ((-9223372036854775808)<=xdS a)&&decide (xdS a<=9223372036854775807)) (br ((xaN (Lib.itoa (xdS a))).isSome) (br ((xt3 a).isSome) (br ((xt1 a).isSome) (br ((xtZ a).isSome) (br ((xtX a).isSome) (br (decide ((xtW a).fst=(xkg a).length)&&isBytes (xkg a)&&decide ((xkg a).length≠0)) (κ (strOf (xkg a))) δ) δ) δ) δ) δ) δ) δ) δ) δ) (κ ([]))
def xpU (a:LA):=xvS a none some
def xQ0:EO:=xJT.f Tryz.func137 37 0 [] [(6,xkf.lp),(3,xwJ.lp)] (lks (lkC xwJ.ok (lkC xkf.ok lkN))) (u1 (uL 3)) (fun (a,_) _=>xvS a) (fun _ p=>AV.str p) []
def xnz (x:Int):Bool:=((x != x))
def xIj {T:Type} (x:Int) (δ:T) (κ:Bool->T):T:=κ (x != x)
def xQ1:EO:=xQ0.fT Tryz.func132 6 0 [] [] lk0 (fun (x,_)=>xIj x none) (u1 uI) (fun (x,_)=>xnz x) (fun _ p=>(AV.bool p))
def xls (x y:Int):Int:=(br (xnz x) (br (xnz y) ((0)) (((-1)))) (br (xnz y) ((1)) (br (decide (x<y)) (((-1))) (br (decide (x>y)) ((1)) ((0))))))
def xGp {T:Type} (x y:Int) (δ:T) (κ:Int->T):T:=br (xnz x) (br (xnz y) (κ (0)) (κ ((-1)))) (br (xnz y) (κ (1)) (br (decide (x<y)) (κ ((-1))) (br (decide (x>y)) (κ (1)) (κ (0)))))
def xJU:EO:=xQ1.fT Tryz.func103 20 0 [] [] lk0 (fun (x,y,_)=>xGp x y none) (u2 uI uI) (fun (x,y,_)=>xls x y) (fun _ p=>(AV.int .i64 p))
def xpL:Env:=xJU.E.fn 18 0 (lsOf []) (xS3 [])
theorem xG2:xSI P0 (xTo.at 0) xpL:=xJU.ok.fn
theorem xEd:LoOk P0 (xTo.at xpL.pin) xpL (Tryz.f115.body.getD .skip):=xgL (ls:=[xSM Tryz.f115 0]) (by kernel_rfl) (fun l a lp b=>by
 simp only [zC,List.not_mem_nil,or_false] at a;rcases a with rfl
 . rw [show xpL.lp (xSW (xSM Tryz.f115 0))=none by kernel_rfl] at b
   simp at b)
def xzg (a b c:Int):Int:=(br (a != 0) ((a)) (br (b != 0) ((b)) (br (c != 0) ((c)) ((0)))))
def xEe (a b c:Int):Bool:=true
def xG3 {T:Type} (a b c:Int) (δ:T) (κ:Int->T):T:=br (a != 0) (κ (a)) (br (b != 0) (κ (b)) (br (c != 0) (κ (c)) (κ (0))))
theorem xNh (a b c:Int):Pre (xEe a b c) (XF P0 xpL Tryz.f115 (Tryz.f115.body.getD .skip) [AV.list 1 [AV.int .i64 a,AV.int .i64 b,AV.int .i64 c]]) (AV.int .i64 (xzg a b c)):=by
 have h:XF P0 xpL Tryz.f115 (Tryz.f115.body.getD .skip) [AV.list 1 [AV.int .i64 a,AV.int .i64 b,AV.int .i64 c]]=xG3 a b c none (fun (p:Int)=>some ((AV.int .i64 p):AV)):=by kernel_rfl
 rw [h];unfold xzg xEe xG3;repeat' (first|exact Pre.none|exact Pre.tt rfl|exact Pre.some rfl|refine Pre.l ?_|refine Pre.r ?_|refine Pre.br (f:=fun (p:Int)=>((AV.int .i64 p):AV)) ?_ ?_|refine Pre.brt (f:=fun (p:Int)=>((AV.int .i64 p):AV)) ?_ ?_)
def xNg:LA->Option (Bool×AV):=ocOf (xTq (xTI 1 (xTp (pInt .i64) (xTp (pInt .i64) (xTp (pInt .i64) xTr)))) xTs) fun ((a,(b,(c,_))),_)=>(true,(AV.int .i64 (xzg a b c)))
theorem xNf:OcOk P0 xTo 115 (xNg):=xmD fun e h f=>by
 obtain ⟨⟨a,⟨b,⟨c,_⟩⟩⟩,_⟩:=e;obtain ⟨g,d⟩:=Prod.mk.inj f;refine xdU (p:=xpL.pin) (xf6 xSR (xSS P0 _) rfl xG2 Tryz.func115 rfl (by kernel_rfl) xEd ((Pre.get (xNh _ _ _) rfl).trans ?_))
 exact congrArg some d
def xQ2:EO:=xJU.w xNf
def xbL (a b:Int) (c:List UInt8) (d e:Int) (f:List UInt8):Int:=((xzg (xls a d) (xls b e) (Lib.compareBytes c f)))
def xE2 {T:Type} (a b:Int) (c:List UInt8) (d e:Int) (f:List UInt8) (δ:T) (κ:Int->T):T:=κ (xzg (xls a d) (xls b e) (Lib.compareBytes c f))
def xOe:EO:=xQ2.fT Tryz.func110 22 0 [] [] lk0 (fun ((a,b,c,_),(d,e,f,_),_)=>xE2 a b c d e f none) (u2 (xTJ (u3 uI uI (sEq pStr))) (xTJ (u3 uI uI (sEq pStr)))) (fun ((a,b,c,_),(d,e,f,_),_)=>xbL a b c d e f) (fun _ p=>(AV.int .i64 p))
def xcI (c b:LA) (a:Int):=xbL (gC b a 0).toInt (gC b a 1).toInt (gC b a 2).toStr (gC c a 0).toInt (gC c a 1).toInt (gC c a 2).toStr
def xcx {T:Type} (e c b:LA) (d a:Int) (δ:T) (κl:(Int)->T) (κr:(Bool×(Int)×(Unit))->T):T:=br (decide (a<d)) (br (ixI b a) (br (ixT b a 3 [Sh.int .i64,Sh.int .i64,Sh.str] 0) (br (decide (a>=c.length)) (κr (true,(1),())) (br (ixI c a) (br (ixT c a 3 [Sh.int .i64,Sh.int .i64,Sh.str] 0) (br (xcI c b a != 0) (κr (true,(xcI c b a),())) (κl (i64.wrap (a+1)))) δ) δ)) δ) δ) (κr (false,0,()))
def xba (d e a:LA) (b:Int):StT (Int) (Bool×(Int)×(Unit)):=fun (c)=>xcx d e a b c none inL inR
def xqC:=xOe.l 39 0 [] [] Tryz.f165 0 lk0 [0,1,2,11,12,13] [0,1,6] [] (q6 (qL 3) (qL 3) (xS4 110 xTr) (qL 3) qI qI) xTr (fun (d,e,_,a,b,c,_) _=>(xba d e a b,(c),fun p=>(.node p.1 (.leaf .ret [AV.list 3 d,AV.list 3 e,AV.int .i64 p.2.1] []) (.leaf (.exit 0) [AV.list 3 d,AV.list 3 e,.top] [])))) (false,0,()) fun (d,e,_,a,b,_,_) _ (c)=>(((d,e,(),a,b,c,()),()),xcx d e a b c none)
def xnX {T:Type} (a b:LA) (δ:T) (κ:Int->T):T:=br ((Iter (xba a b a (↑a.length:Int)) 0).isSome) (br (((Iter (xba a b a (↑a.length:Int)) 0).getD (false,0,())).fst) (κ (((Iter (xba a b a (↑a.length:Int)) 0).getD (false,0,())).snd.fst)) (br (decide ((↑a.length:Int)<(↑b.length:Int))) (κ ((-1))) (κ (0)))) δ
def xqB (a b:LA):=xnX a b none some
def xQ3:EO:=xOe.f Tryz.func165 39 0 [] [(2,xqC.lp)] (lk1 xqC.ok) (u3 (uL 3) (uL 3) (sEq (xS4 (110:FuncId) xTr))) (fun (a,b,_,_) _=>xnX a b) (fun _ p=>AV.int .i64 p) 0
def xvs {T:Type} (a b:LA) (δ:T) (κ:Int->T):T:=br ((xqB a b).isSome) (κ ((xqB a b).getD 0)) δ
def xge (a b:LA):=xvs a b none some
def xQ4:EO:=xQ3.f Tryz.func134 8 0 [] [] lk0 (u2 (uL 3) (uL 3)) (fun (a,b,_) _=>xvs a b) (fun _ p=>AV.int .i64 p) 0
def xsT {T:Type} (a c b d:LA) (δ:T) (κ:Int->T):T:=br ((xge a b).isSome) (κ ((xge a b).getD 0)) δ
def xea (c a d b:LA):=xsT c a d b none some
def xJV:EO:=xQ4.f Tryz.func139 10 0 [] [] lk0 (u2 (xTJ (u2 (uL 3) (uL 2))) (xTJ (u2 (uL 3) (uL 2)))) (fun ((c,a,_),(d,b,_),_) _=>xsT c a d b) (fun _ p=>AV.int .i64 p) 0
def xeo (a:Nat) (j:Int):=decide (0<=i64.wrap (j - 1))&&decide (i64.wrap (j - 1)<(↑a:Int))
def xcA (j:Int):Nat:=0+(i64.wrap (j - 1)).toNat
def xep (a:Nat) (j:Int):=decide (0<=j)&&decide (j<(↑a:Int))
def xhI (j:Int) (a:LA):=decide (0+j.toNat<a.length)
def xhG (j:Int) (a:LA):=xhI j a&&((a.getD (0+j.toNat) .top).cells.length==2&&xSN [Sh.list 3,Sh.list 2] (a.getD (0+j.toNat) .top).cells 0)
def xbd (j:Int) (a:LA):=(a.getD (xcA j) .top).cells
def xhE (j:Int) (a:LA):=decide (xcA j<a.length)&&((xbd j a).length==2&&xSN [Sh.list 3,Sh.list 2] (xbd j a) 0)
def xhF (j:Int) (a:LA):=xea ((a.getD (0+j.toNat) .top).cells.getD 0 .top).toList ((a.getD (0+j.toNat) .top).cells.getD 1 .top).toList ((xbd j a).getD 0 .top).toList ((xbd j a).getD 1 .top).toList
def xhH (j:Int) (a:LA):=a.set (0+j.toNat) (AV.agg [AV.list 3 ((xbd j a).getD 0 .top).toList,AV.list 2 ((xbd j a).getD 1 .top).toList])
def xh9 {T:Type} (d:Nat) (a b i j:Int) (c:LA) (δ:T) (κl:(Int×LA)->T) (κr:(LA)->T):T:=br (decide (j>a)) (br (xep d j) (br (xhG j c) (br (xeo d j) (br (xhE j c) (br ((xhF j c).isSome) (br (decide ((xhF j c).getD 0<0)) (br (xeo d j) (br (xhE j c) (br (xep d j) (br (xhG j c) (br (xep d j) (br (xhI j c) (br (xeo d j) (br (decide (xcA j<(xhH j c).length)) (κl (i64.wrap (j - 1),(xhH j c).set (xcA j) (AV.agg [AV.list 3 ((c.getD (0+j.toNat) .top).cells.getD 0 .top).toList,AV.list 2 ((c.getD (0+j.toNat) .top).cells.getD 1 .top).toList]))) δ) δ) δ) δ) δ) δ) δ) δ) (κr (c))) δ) δ) δ) δ) δ) (κr (c))
def xcb (d:Nat) (a b i:Int):StT (Int×LA) (LA):=fun (j,c)=>xh9 d a b i j c none inL inR
def xcz:=xJV.l 53 1 [159] [] Tryz.f192 1 lk0 [0,1,2,3,8,9] [0,1,2,3,8] [] (q6 (xTE 0 0 0) qI qI (xS4 139 xTr) qI qI) (q1 (qB 0 2 159 xTt)) (fun (c,a,b,_,i,j,_) (d,_)=>(xcb c a b i,(j,d),fun p=>(.leaf (.exit 2) [AV.osl 0 0 0 c,AV.int .i64 a,AV.int .i64 b,AV.func 139 [],AV.int .i64 i] [bF 0 2 159 p]))) [] fun (c,a,b,_,i,_,_) _ (j,d)=>(((c,a,b,(),i,j,()),(d,())),xh9 c a b i j d none)
def xh8 {T:Type} (d:Nat) (a b i:Int) (c:LA) (δ:T) (κl:(Int×LA)->T) (κr:(LA)->T):T:=br (decide (i<b)) (br ((Iter (xcb d a b i) (i,c)).isSome) (κl (i64.wrap (i+1),(Iter (xcb d a b i) (i,c)).getD [])) δ) (κr (c))
def xca (d:Nat) (a b:Int):StT (Int×LA) (LA):=fun (i,c)=>xh8 d a b i c none inL inR
def xhD:=xJV.l 53 1 [159] [(4,xcz.lp)] Tryz.f192 0 (lk1 xcz.ok) [0,1,2,3,8] [] [] (q5 (xTE 0 0 0) qI qI (xS4 139 xTr) qI) (q1 (qB 0 2 159 xTt)) (fun (d,a,b,_,i,_) (c,_)=>(xca d a b,(i,c),fun p=>(.leaf (.exit 0) [] [bF 0 2 159 p]))) [] fun (d,a,b,_,_,_) _ (i,c)=>(((d,a,b,(),i,()),(c,())),xh8 d a b i c none)
def xfG {T:Type} (n:Nat) (a b:Int) (c:LA) (δ:T) (κ:LA->T):T:=br ((Iter (xca n a b) (i64.wrap (a+1),c)).isSome) (κ ((Iter (xca n a b) (i64.wrap (a+1),c)).getD [])) δ
def xbN (n:Nat) (a b:Int) (c:LA):=xfG n a b c none some
def xOf:EO:=xJV.fM Tryz.func192 53 1 [159] [(4,xcz.lp),(1,xhD.lp)] (lks (lkC xhD.ok (lkC xcz.ok lkN))) (u4 (sEq (xTE 0 0 0)) uI uI (sEq (xS4 (139:FuncId) xTr))) (q1 (qB 0 2 159 xTt)) (fun (n,a,b,_,_) (c,_) _=>xfG n a b c) (fun _ _ p=>(AV.tuple [],([bF 0 2 159 p]:List Box))) []
def xj3 (a i:Int) (b:LA):=decide (0+(i64.wrap (a+i)).toNat<b.length)
def xdc (a i:Int) (b:LA):=(b.getD (0+(i64.wrap (a+i)).toNat) .top).cells
def xj4 (a:Nat) (b i:Int):=decide (0<=i64.wrap (b+i))&&decide (i64.wrap (b+i)<(↑a:Int))
def xj5 (b:Nat) (a i:Int):=decide (0<=i64.wrap (a+i))&&decide (i64.wrap (a+i)<(↑b:Int))
def xdd (b i:Int):Nat:=0+(i64.wrap (b+i)).toNat
def xdb (b i:Int) (a:LA):=(a.getD (xdd b i) .top).cells
def xj2 (a b i:Int) (c:LA):=c.set (0+(i64.wrap (a+i)).toNat) (AV.agg [AV.list 3 ((xdb b i c).getD 0 .top).toList,AV.list 2 ((xdb b i c).getD 1 .top).toList])
def xkK {T:Type} (d:Nat) (a b n i:Int) (c:LA) (δ:T) (κl:(Int×LA)->T) (κr:(LA)->T):T:=br (decide (i<n)) (br (xj4 d b i) (br (decide (xdd b i<c.length)&&((xdb b i c).length==2&&xSN [Sh.list 3,Sh.list 2] (xdb b i c) 0)) (br (xj5 d a i) (br (xj3 a i c&&((xdc a i c).length==2&&xSN [Sh.list 3,Sh.list 2] (xdc a i c) 0)) (br (xj5 d a i) (br (xj3 a i c) (br (xj4 d b i) (br (decide (xdd b i<(xj2 a b i c).length)) (κl (i64.wrap (i+1),(xj2 a b i c).set (xdd b i) (AV.agg [AV.list 3 ((xdc a i c).getD 0 .top).toList,AV.list 2 ((xdc a i c).getD 1 .top).toList]))) δ) δ) δ) δ) δ) δ) δ) δ) (κr (c))
def xcO (d:Nat) (a b n:Int):StT (Int×LA) (LA):=fun (i,c)=>xkK d a b n i c none inL inR
def xj1:=xOf.l 38 1 [159] [] Tryz.f210 0 lk0 [0,1,2,3,10] [] [] (q5 (xTE 0 0 0) qI qI qI qI) (q1 (qB 0 2 159 xTt)) (fun (d,a,b,n,i,_) (c,_)=>(xcO d a b n,(i,c),fun p=>(.leaf (.exit 0) [] [bF 0 2 159 p]))) [] fun (d,a,b,n,_,_) _ (i,c)=>(((d,a,b,n,i,()),(c,())),xkK d a b n i c none)
def xhi {T:Type} (n:Nat) (a b k:Int) (c:LA) (δ:T) (κ:LA->T):T:=br ((Iter (xcO n a b k) (0,c)).isSome) (κ ((Iter (xcO n a b k) (0,c)).getD [])) δ
def xbr (n:Nat) (a b k:Int) (c:LA):=xhi n a b k c none some
def xOg:EO:=xOf.fM Tryz.func210 38 1 [159] [(1,xj1.lp)] (lk1 xj1.ok) (u5 (sEq (xTE 0 0 0)) uI uI uI (sEq (xS4 (139:FuncId) xTr))) (q1 (qB 0 2 159 xTt)) (fun (n,a,b,k,_,_) (c,_) _=>xhi n a b k c) (fun _ _ p=>(AV.tuple [],([bF 0 2 159 p]:List Box))) []
def xnD {T:Type} (b:Nat) (m i j:Int) (a:LA) (δ:T) (κl:(Int×Int×LA)->T) (κr:(Int×LA)->T):T:=br (i != j) (br (decide (i>j)) (br ((xbr b (i64.wrap (m - i)) m j a).isSome) (κl (i64.wrap (i - j),j,(xbr b (i64.wrap (m - i)) m j a).getD [])) δ) (br ((xbr b (i64.wrap (m - i)) (i64.wrap (i64.wrap (m+j) - i)) i a).isSome) (κl (i,i64.wrap (j - i),(xbr b (i64.wrap (m - i)) (i64.wrap (i64.wrap (m+j) - i)) i a).getD [])) δ)) (κr (i,a))
def xf1 (b:Nat) (m:Int):StT (Int×Int×LA) (Int×LA):=fun (i,j,a)=>xnD b m i j a none inL inR
def xm6:=xOg.l 58 1 [159] [] Tryz.f205 0 lk0 [0,2,4,10,11] [0,2,4,10] [] (q5 (xTE 0 0 0) qI (xS4 139 xTr) qI qI) (q1 (qB 0 2 159 xTt)) (fun (a,m,_,i,j,_) (b,_)=>(xf1 a m,(i,j,b),fun p=>(.leaf (.exit 0) [AV.osl 0 0 0 a,AV.int .i64 m,AV.func 139 [],AV.int .i64 p.1] [bF 0 2 159 p.2]))) (0,[]) fun (a,m,_,_,_,_) _ (i,j,b)=>(((a,m,(),i,j,()),(b,())),xnD a m i j b none)
def xiE (n:Nat) (a m b:Int) (c:LA):=Iter (xf1 n m) (i64.wrap (m - a),i64.wrap (b - m),c)
def xiD (n:Nat) (a m b:Int) (c:LA):=(xiE n a m b c).getD (0,[])
def xiC (n:Nat) (a m b:Int) (c:LA):=(xiD n a m b c).fst
def xiB (n:Nat) (a m b:Int) (c:LA):=xbr n (i64.wrap (m - xiC n a m b c)) m (xiC n a m b c) (xiD n a m b c).snd
def xjC {T:Type} (n:Nat) (a m b:Int) (c:LA) (δ:T) (κ:LA->T):T:=br ((xiE n a m b c).isSome) (br ((xiB n a m b c).isSome) (κ ((xiB n a m b c).getD [])) δ) δ
def xct (n:Nat) (a m b:Int) (c:LA):=xjC n a m b c none some
def xyP:EO:=xOg.fM Tryz.func205 58 1 [159] [(2,xm6.lp)] (lk1 xm6.ok) (u5 (sEq (xTE 0 0 0)) uI uI uI (sEq (xS4 (139:FuncId) xTr))) (q1 (qB 0 2 159 xTt)) (fun (n,a,m,b,_,_) (c,_) _=>xjC n a m b c) (fun _ _ p=>(AV.tuple [],([bF 0 2 159 p]:List Box))) []
def xbF (i j:Int):=i64.wrap ((u64.wrap (i64.wrap (i+j))).fdiv 2)
def xdv (i j:Int) (a:LA):=(a.getD (0+(xbF i j).toNat) .top).cells
def xkL (a i j:Int) (b:LA):=xea ((xdv i j b).getD 0 .top).toList ((xdv i j b).getD 1 .top).toList ((b.getD (0+a.toNat) .top).cells.getD 0 .top).toList ((b.getD (0+a.toNat) .top).cells.getD 1 .top).toList
def xlL {T:Type} (c:Nat) (a i j:Int) (b:LA) (δ:T) (κl:(Int×Int×LA)->T) (κr:(Int×LA)->T):T:=br (decide (i<j)) (br (decide (0<=xbF i j)&&decide (xbF i j<(↑c:Int))) (br (decide (0+(xbF i j).toNat<b.length)&&((xdv i j b).length==2&&xSN [Sh.list 3,Sh.list 2] (xdv i j b) 0)) (br (decide (0<=a)&&decide (a<(↑c:Int))) (br (decide (0+a.toNat<b.length)&&((b.getD (0+a.toNat) .top).cells.length==2&&xSN [Sh.list 3,Sh.list 2] (b.getD (0+a.toNat) .top).cells 0)) (br ((xkL a i j b).isSome) (br (decide ((xkL a i j b).getD 0<0)) (κl (i64.wrap (xbF i j+1),j,b)) (κl (i,xbF i j,b))) δ) δ) δ) δ) δ) (κr (i,b))
def xbW (c:Nat) (a:Int):StT (Int×Int×LA) (Int×LA):=fun (i,j,b)=>xlL c a i j b none inL inR
def xbj:=xyP.l 220 1 [159] [] Tryz.f193 0 lk0 [0,1,4,10,11] [0,1,10] [] (q5 (xTE 0 0 0) qI (xS4 139 xTr) qI qI) (q1 (qB 0 2 159 xTt)) (fun (b,a,_,i,j,_) (c,_)=>(xbW b a,(i,j,c),fun p=>(.leaf (.exit 0) [AV.osl 0 0 0 b,AV.int .i64 a,AV.int .i64 p.1] [bF 0 2 159 p.2]))) (0,[]) fun (b,a,_,_,_,_) _ (i,j,c)=>(((b,a,(),i,j,()),(c,())),xlL b a i j c none)
def xkN (a:Nat) (k:Int):=decide (0<=i64.wrap (k+1))&&decide (i64.wrap (k+1)<(↑a:Int))
def xdy (k:Int):Nat:=0+(i64.wrap (k+1)).toNat
def xkO (k:Int) (a:LA):=decide (0+k.toNat<a.length)
def xdw (k:Int) (a:LA):=(a.getD (xdy k) .top).cells
def xkM (k:Int) (a:LA):=a.set (0+k.toNat) (AV.agg [AV.list 3 ((xdw k a).getD 0 .top).toList,AV.list 2 ((xdw k a).getD 1 .top).toList])
def xlM {T:Type} (b:Nat) (i k:Int) (a:LA) (δ:T) (κl:(Int×LA)->T) (κr:(LA)->T):T:=br (decide (k<i64.wrap (i - 1))) (br (xkN b k) (br (decide (xdy k<a.length)&&((xdw k a).length==2&&xSN [Sh.list 3,Sh.list 2] (xdw k a) 0)) (br (decide (0<=k)&&decide (k<(↑b:Int))) (br (xkO k a&&((a.getD (0+k.toNat) .top).cells.length==2&&xSN [Sh.list 3,Sh.list 2] (a.getD (0+k.toNat) .top).cells 0)) (br (decide (0<=k)&&decide (k<(↑b:Int))) (br (xkO k a) (br (xkN b k) (br (decide (xdy k<(xkM k a).length)) (κl (i64.wrap (k+1),(xkM k a).set (xdy k) (AV.agg [AV.list 3 ((a.getD (0+k.toNat) .top).cells.getD 0 .top).toList,AV.list 2 ((a.getD (0+k.toNat) .top).cells.getD 1 .top).toList]))) δ) δ) δ) δ) δ) δ) δ) δ) (κr (a))
def xfb (b:Nat) (i:Int):StT (Int×LA) (LA):=fun (k,a)=>xlM b i k a none inL inR
def xbG:=xyP.l 220 1 [159] [(3,xbj.lp)] Tryz.f193 1 lk0 [0,10,13] [] [] (q3 (xTE 0 0 0) qI qI) (q1 (qB 0 2 159 xTt)) (fun (b,i,k,_) (a,_)=>(xfb b i,(k,a),fun p=>(.leaf (.exit 2) [] [bF 0 2 159 p]))) [] fun (b,i,_,_) _ (k,a)=>(((b,i,k,()),(a,())),xlM b i k a none)
def xbH (i j:Int):=i64.wrap ((u64.wrap (i64.wrap (i+j))).fdiv 2)
def xdz (i j:Int) (a:LA):=(a.getD (0+(xbH i j).toNat) .top).cells
def xkP (m i j:Int) (a:LA):=xea ((a.getD (0+m.toNat) .top).cells.getD 0 .top).toList ((a.getD (0+m.toNat) .top).cells.getD 1 .top).toList ((xdz i j a).getD 0 .top).toList ((xdz i j a).getD 1 .top).toList
def xlN {T:Type} (b:Nat) (m i j:Int) (a:LA) (δ:T) (κl:(Int×Int×LA)->T) (κr:(Int×LA)->T):T:=br (decide (i<j)) (br (decide (0<=m)&&decide (m<(↑b:Int))) (br (decide (0+m.toNat<a.length)&&((a.getD (0+m.toNat) .top).cells.length==2&&xSN [Sh.list 3,Sh.list 2] (a.getD (0+m.toNat) .top).cells 0)) (br (decide (0<=xbH i j)&&decide (xbH i j<(↑b:Int))) (br (decide (0+(xbH i j).toNat<a.length)&&((xdz i j a).length==2&&xSN [Sh.list 3,Sh.list 2] (xdz i j a) 0)) (br ((xkP m i j a).isSome) (br (!decide ((xkP m i j a).getD 0<0)) (κl (i64.wrap (xbH i j+1),j,a)) (κl (i,xbH i j,a))) δ) δ) δ) δ) δ) (κr (i,a))
def xbX (b:Nat) (m:Int):StT (Int×Int×LA) (Int×LA):=fun (i,j,a)=>xlN b m i j a none inL inR
def xcq:=xyP.l 220 1 [159] [(3,xbj.lp),(9,xbG.lp)] Tryz.f193 2 lk0 [0,2,4,14,15] [0,2,14] [] (q5 (xTE 0 0 0) qI (xS4 139 xTr) qI qI) (q1 (qB 0 2 159 xTt)) (fun (a,m,_,i,j,_) (b,_)=>(xbX a m,(i,j,b),fun p=>(.leaf (.exit 4) [AV.osl 0 0 0 a,AV.int .i64 m,AV.int .i64 p.1] [bF 0 2 159 p.2]))) (0,[]) fun (a,m,_,_,_,_) _ (i,j,b)=>(((a,m,(),i,j,()),(b,())),xlN a m i j b none)
def xkR (a:Nat) (k:Int):=decide (0<=i64.wrap (k - 1))&&decide (i64.wrap (k - 1)<(↑a:Int))
def xdC (k:Int):Nat:=0+(i64.wrap (k - 1)).toNat
def xkS (k:Int) (a:LA):=decide (0+k.toNat<a.length)
def xdB (k:Int) (a:LA):=(a.getD (xdC k) .top).cells
def xkQ (k:Int) (a:LA):=a.set (0+k.toNat) (AV.agg [AV.list 3 ((xdB k a).getD 0 .top).toList,AV.list 2 ((xdB k a).getD 1 .top).toList])
def xlO {T:Type} (b:Nat) (i k:Int) (a:LA) (δ:T) (κl:(Int×LA)->T) (κr:(LA)->T):T:=br (decide (k>i)) (br (xkR b k) (br (decide (xdC k<a.length)&&((xdB k a).length==2&&xSN [Sh.list 3,Sh.list 2] (xdB k a) 0)) (br (decide (0<=k)&&decide (k<(↑b:Int))) (br (xkS k a&&((a.getD (0+k.toNat) .top).cells.length==2&&xSN [Sh.list 3,Sh.list 2] (a.getD (0+k.toNat) .top).cells 0)) (br (decide (0<=k)&&decide (k<(↑b:Int))) (br (xkS k a) (br (xkR b k) (br (decide (xdC k<(xkQ k a).length)) (κl (i64.wrap (k - 1),(xkQ k a).set (xdC k) (AV.agg [AV.list 3 ((a.getD (0+k.toNat) .top).cells.getD 0 .top).toList,AV.list 2 ((a.getD (0+k.toNat) .top).cells.getD 1 .top).toList]))) δ) δ) δ) δ) δ) δ) δ) δ) (κr (a))
def xfc (b:Nat) (i:Int):StT (Int×LA) (LA):=fun (k,a)=>xlO b i k a none inL inR
def xdA:=xyP.l 220 1 [159] [(3,xbj.lp),(9,xbG.lp),(15,xcq.lp)] Tryz.f193 3 lk0 [0,14,17] [] [] (q3 (xTE 0 0 0) qI qI) (q1 (qB 0 2 159 xTt)) (fun (b,i,k,_) (a,_)=>(xfc b i,(k,a),fun p=>(.leaf (.exit 6) [] [bF 0 2 159 p]))) [] fun (b,i,_,_) _ (k,a)=>(((b,i,k,()),(a,())),xlO b i k a none)
def xaW (a r:Int):=i64.wrap ((u64.wrap (i64.wrap (a+r))).fdiv 2)
def xdD (c b r:Int) (a:LA):=(a.getD (0+(i64.wrap (c - xaW b r)).toNat) .top).cells
def xdE (b r:Int) (a:LA):=(a.getD (0+(xaW b r).toNat) .top).cells
def xkT (c b r:Int) (a:LA):=xea ((xdD c b r a).getD 0 .top).toList ((xdD c b r a).getD 1 .top).toList ((xdE b r a).getD 0 .top).toList ((xdE b r a).getD 1 .top).toList
def xlP {T:Type} (e:Nat) (a m b g n f c r:Int) (d:LA) (δ:T) (κl:(Int×Int×LA)->T) (κr:(Int×LA)->T):T:=br (decide (c<r)) (br (decide (0<=i64.wrap (f - xaW c r))&&decide (i64.wrap (f - xaW c r)<(↑e:Int))) (br (decide (0+(i64.wrap (f - xaW c r)).toNat<d.length)&&((xdD f c r d).length==2&&xSN [Sh.list 3,Sh.list 2] (xdD f c r d) 0)) (br (decide (0<=xaW c r)&&decide (xaW c r<(↑e:Int))) (br (decide (0+(xaW c r).toNat<d.length)&&((xdE c r d).length==2&&xSN [Sh.list 3,Sh.list 2] (xdE c r d) 0)) (br ((xkT f c r d).isSome) (br (!decide ((xkT f c r d).getD 0<0)) (κl (i64.wrap (xaW c r+1),r,d)) (κl (c,xaW c r,d))) δ) δ) δ) δ) δ) (κr (c,d))
def xc7 (d:Nat) (a m b f n g:Int):StT (Int×Int×LA) (Int×LA):=fun (e,r,c)=>xlP d a m b f n g e r c none inL inR
def xf3:=xyP.l 220 1 [159] [(3,xbj.lp),(9,xbG.lp),(15,xcq.lp),(21,xdA.lp)] Tryz.f193 4 lk0 [0,1,2,3,4,18,19,20,21,22] [0,1,2,3,4,18,19,20] [] (q10 (xTE 0 0 0) qI qI qI (xS4 139 xTr) qI qI qI qI qI) (q1 (qB 0 2 159 xTt)) (fun (c,a,m,b,_,f,n,e,r,g,_) (d,_)=>(xc7 c a m b f n g,(e,r,d),fun p=>(.leaf (.exit 8) [AV.osl 0 0 0 c,AV.int .i64 a,AV.int .i64 m,AV.int .i64 b,AV.func 139 [],AV.int .i64 f,AV.int .i64 n,AV.int .i64 p.1] [bF 0 2 159 p.2]))) (0,[]) fun (c,a,m,b,_,f,n,_,_,g,_) _ (e,r,d)=>(((c,a,m,b,(),f,n,e,r,g,()),(d,())),xlP c a m b f n g e r d none)
def xgf (R:Nat->Int->Int->Int->LA->Option (LA)):LA->List Box->Option (Bool×AV×List Box):=omOf (xTq (sEq (xTE 0 0 0)) (xTq (sEq (pInt .i64)) (xTq (sEq (pInt .i64)) (xTq (sEq (pInt .i64)) (xTq (sEq (xS4 (139:FuncId) xTr)) xTs))))) (xTp (xTH 0 2 (159:TypeId) false true xTt) xTr) fun (n,(a,(m,(b,(_,_))))) (c,_)=>((R n a m b c).isSome,(AV.tuple [],([⟨0,2,159,((R n a m b c).getD []),false,true⟩]:List Box)))
def xa1 (R:Nat->Int->Int->Int->LA->Option (LA)):Env:=(xyP.E.withM 193 (xgf R)).fn 220 1 (lsOf [159]) (xS3 [(3,xbj.lp),(9,xbG.lp),(15,xcq.lp),(21,xdA.lp),(33,xf3.lp)])
def xf2 (R:Nat->Int->Int->Int->LA->Option (LA)):Prop:=OmOk P0 xTo 193 (xgf R)
theorem xu2 (R:Nat->Int->Int->Int->LA->Option (LA)) (a:xf2 R):xSI P0 (xTo.at 1) (xa1 R):=(xyP.ok.withM a).fn
theorem xsd (R:Nat->Int->Int->Int->LA->Option (LA)):LoOk P0 (xTo.at (xa1 R).pin) (xa1 R) (Tryz.f193.body.getD .skip):=xgL (ls:=[xSM Tryz.f193 0,xSM Tryz.f193 1,xSM Tryz.f193 2,xSM Tryz.f193 3,xSM Tryz.f193 4]) (by kernel_rfl) (fun l b lp a=>by
 simp only [zC,List.not_mem_nil,or_false] at b;rcases b with rfl|rfl|rfl|rfl|rfl
 . rw [show (xa1 R).lp (xSW (xSM Tryz.f193 0))=some xbj.lp by kernel_rfl] at a
   simp only [z6] at a;subst a;exact xbj.ok
 . rw [show (xa1 R).lp (xSW (xSM Tryz.f193 1))=some xbG.lp by kernel_rfl] at a
   simp only [z6] at a;subst a;exact xbG.ok
 . rw [show (xa1 R).lp (xSW (xSM Tryz.f193 2))=some xcq.lp by kernel_rfl] at a
   simp only [z6] at a;subst a;exact xcq.ok
 . rw [show (xa1 R).lp (xSW (xSM Tryz.f193 3))=some xdA.lp by kernel_rfl] at a
   simp only [z6] at a;subst a;exact xdA.ok
 . rw [show (xa1 R).lp (xSW (xSM Tryz.f193 4))=some xf3.lp by kernel_rfl] at a
   simp only [z6] at a;subst a;exact xf3.ok)
def xaa (a b:Int):=i64.wrap ((u64.wrap (i64.wrap (a+b))).fdiv 2)
def xaE (n:Nat) (a m b:Int) (c:LA):=Iter (xfb n ((Iter (xbW n a) (m,b,c)).getD (0,[])).fst) (a,((Iter (xbW n a) (m,b,c)).getD (0,[])).snd)
def xaF (n:Nat) (a m:Int) (b:LA):=Iter (xfc n ((Iter (xbX n m) (a,m,b)).getD (0,[])).fst) (m,((Iter (xbX n m) (a,m,b)).getD (0,[])).snd)
def xaG (n:Nat) (a m b:Int) (c:LA):=Iter (xc7 n a m b (xaa a b) (i64.wrap (xaa a b+m)) (i64.wrap (i64.wrap (xaa a b+m) - 1))) (i64.wrap (i64.wrap (xaa a b+m) - b),xaa a b,c)
def xaI (n:Nat) (a m b:Int) (c:LA):=Iter (xc7 n a m b (xaa a b) (i64.wrap (xaa a b+m)) (i64.wrap (i64.wrap (xaa a b+m) - 1))) (a,m,c)
def xaD (n:Nat) (a m b:Int) (c:LA):=(xaG n a m b c).getD (0,[])
def xaH (n:Nat) (a m b:Int) (c:LA):=(xaI n a m b c).getD (0,[])
def xab (n:Nat) (a m b:Int) (c:LA):=(xaD n a m b c).fst
def xac (n:Nat) (a m b:Int) (c:LA):=(xaH n a m b c).fst
def xag (n:Nat) (a m b:Int) (c:LA):=(xaD n a m b c).snd
def xah (n:Nat) (a m b:Int) (c:LA):=(xaH n a m b c).snd
def xad (n:Nat) (a m b:Int) (c:LA):=i64.wrap (i64.wrap (xaa a b+m) - xab n a m b c)
def xae (n:Nat) (a m b:Int) (c:LA):=i64.wrap (i64.wrap (xaa a b+m) - xac n a m b c)
def xaz (n:Nat) (a m b:Int) (c:LA):=decide (xab n a m b c<xaa a b)
def xaA (n:Nat) (a m b:Int) (c:LA):=decide (a<xab n a m b c)
def xaB (n:Nat) (a m b:Int) (c:LA):=decide (xac n a m b c<xaa a b)
def xaC (n:Nat) (a m b:Int) (c:LA):=decide (a<xac n a m b c)
def xan (n:Nat) (a m b:Int) (c:LA):=decide (xaa a b<xad n a m b c)
def xao (n:Nat) (a m b:Int) (c:LA):=decide (xad n a m b c<b)
def xap (n:Nat) (a m b:Int) (c:LA):=decide (xaa a b<xae n a m b c)
def xaq (n:Nat) (a m b:Int) (c:LA):=decide (xae n a m b c<b)
def xaj (n:Nat) (a m b:Int) (c:LA):=(xct n (xab n a m b c) m (xad n a m b c) (xag n a m b c)).getD []
def xak (n:Nat) (a m b:Int) (c:LA):=(xct n (xac n a m b c) m (xae n a m b c) (xah n a m b c)).getD []
def xaJ (R:Nat->Int->Int->Int->LA->Option (LA)) (n:Nat) (a m b:Int) (c:LA):Option (LA):=R n (xaa a b) (xae n a m b c) b ((R n a (xac n a m b c) (xaa a b) (xak n a m b c)).getD [])
def xaK (R:Nat->Int->Int->Int->LA->Option (LA)) (n:Nat) (a m b:Int) (c:LA):Option (LA):=R n (xaa a b) (xad n a m b c) b ((R n a (xab n a m b c) (xaa a b) (xaj n a m b c)).getD [])
def xat {T:Type} (R:Nat->Int->Int->Int->LA->Option (LA)) (n:Nat) (a m b:Int) (c:LA) (δ:T) (κ:LA->T):T:=br (xan n a m b c) (br (xao n a m b c) (br ((R n (xaa a b) (xad n a m b c) b (xaj n a m b c)).isSome) (κ ((R n (xaa a b) (xad n a m b c) b (xaj n a m b c)).getD [])) δ) (κ (xaj n a m b c))) (κ (xaj n a m b c))
def xau {T:Type} (R:Nat->Int->Int->Int->LA->Option (LA)) (n:Nat) (a m b:Int) (c:LA) (δ:T) (κ:LA->T):T:=br (xap n a m b c) (br (xaq n a m b c) (br ((R n (xaa a b) (xae n a m b c) b (xak n a m b c)).isSome) (κ ((R n (xaa a b) (xae n a m b c) b (xak n a m b c)).getD [])) δ) (κ (xak n a m b c))) (κ (xak n a m b c))
def xav {T:Type} (R:Nat->Int->Int->Int->LA->Option (LA)) (n:Nat) (a m b:Int) (c:LA) (δ:T) (κ:LA->T):T:=br (xan n a m b c) (br (xao n a m b c) (br ((R n (xaa a b) (xad n a m b c) b (xag n a m b c)).isSome) (κ ((R n (xaa a b) (xad n a m b c) b (xag n a m b c)).getD [])) δ) (κ (xag n a m b c))) (κ (xag n a m b c))
def xar {T:Type} (R:Nat->Int->Int->Int->LA->Option (LA)) (n:Nat) (a m b:Int) (c:LA) (δ:T) (κ:LA->T):T:=br (xaA n a m b c) (br (xaz n a m b c) (br ((R n a (xab n a m b c) (xaa a b) (xag n a m b c)).isSome) (br (xan n a m b c) (br (xao n a m b c) (br ((R n (xaa a b) (xad n a m b c) b ((R n a (xab n a m b c) (xaa a b) (xag n a m b c)).getD [])).isSome) (κ ((R n (xaa a b) (xad n a m b c) b ((R n a (xab n a m b c) (xaa a b) (xag n a m b c)).getD [])).getD [])) δ) (κ ((R n a (xab n a m b c) (xaa a b) (xag n a m b c)).getD []))) (κ ((R n a (xab n a m b c) (xaa a b) (xag n a m b c)).getD []))) δ) (xav R n a m b c δ κ)) (xav R n a m b c δ κ)
def xaw {T:Type} (R:Nat->Int->Int->Int->LA->Option (LA)) (n:Nat) (a m b:Int) (c:LA) (δ:T) (κ:LA->T):T:=br (xap n a m b c) (br (xaq n a m b c) (br ((R n (xaa a b) (xae n a m b c) b (xah n a m b c)).isSome) (κ ((R n (xaa a b) (xae n a m b c) b (xah n a m b c)).getD [])) δ) (κ (xah n a m b c))) (κ (xah n a m b c))
def xas {T:Type} (R:Nat->Int->Int->Int->LA->Option (LA)) (n:Nat) (a m b:Int) (c:LA) (δ:T) (κ:LA->T):T:=br (xaC n a m b c) (br (xaB n a m b c) (br ((R n a (xac n a m b c) (xaa a b) (xah n a m b c)).isSome) (br (xap n a m b c) (br (xaq n a m b c) (br ((R n (xaa a b) (xae n a m b c) b ((R n a (xac n a m b c) (xaa a b) (xah n a m b c)).getD [])).isSome) (κ ((R n (xaa a b) (xae n a m b c) b ((R n a (xac n a m b c) (xaa a b) (xah n a m b c)).getD [])).getD [])) δ) (κ ((R n a (xac n a m b c) (xaa a b) (xah n a m b c)).getD []))) (κ ((R n a (xac n a m b c) (xaa a b) (xah n a m b c)).getD []))) δ) (xaw R n a m b c δ κ)) (xaw R n a m b c δ κ)
def xaL {T:Type} (R:Nat->Int->Int->Int->LA->Option (LA)) (n:Nat) (a m b:Int) (c:LA) (δ:T) (κ:LA->T):T:=br (i64.wrap (m - a)==1) (br ((Iter (xbW n a) (m,b,c)).isSome) (br ((xaE n a m b c).isSome) (κ ((xaE n a m b c).getD [])) δ) δ) (br (i64.wrap (b - m)==1) (br ((Iter (xbX n m) (a,m,c)).isSome) (br ((xaF n a m c).isSome) (κ ((xaF n a m c).getD [])) δ) δ) (br (decide (m>xaa a b)) (br ((xaG n a m b c).isSome) (br (decide (xab n a m b c<m)) (br (decide (m<xad n a m b c)) (br ((xct n (xab n a m b c) m (xad n a m b c) (xag n a m b c)).isSome) (br (xaA n a m b c) (br (xaz n a m b c) (br ((R n a (xab n a m b c) (xaa a b) (xaj n a m b c)).isSome) (br (xan n a m b c) (br (xao n a m b c) (br ((xaK R n a m b c).isSome) (κ ((xaK R n a m b c).getD [])) δ) (κ ((R n a (xab n a m b c) (xaa a b) (xaj n a m b c)).getD []))) (κ ((R n a (xab n a m b c) (xaa a b) (xaj n a m b c)).getD []))) δ) (xat R n a m b c δ κ)) (xat R n a m b c δ κ)) δ) (xar R n a m b c δ κ)) (xar R n a m b c δ κ)) δ) (br ((xaI n a m b c).isSome) (br (decide (xac n a m b c<m)) (br (decide (m<xae n a m b c)) (br ((xct n (xac n a m b c) m (xae n a m b c) (xah n a m b c)).isSome) (br (xaC n a m b c) (br (xaB n a m b c) (br ((R n a (xac n a m b c) (xaa a b) (xak n a m b c)).isSome) (br (xap n a m b c) (br (xaq n a m b c) (br ((xaJ R n a m b c).isSome) (κ ((xaJ R n a m b c).getD [])) δ) (κ ((R n a (xac n a m b c) (xaa a b) (xak n a m b c)).getD []))) (κ ((R n a (xac n a m b c) (xaa a b) (xak n a m b c)).getD []))) δ) (xau R n a m b c δ κ)) (xau R n a m b c δ κ)) δ) (xas R n a m b c δ κ)) (xas R n a m b c δ κ)) δ)))
def xay (R:Nat->Int->Int->Int->LA->Option (LA)) (n:Nat) (a m b:Int) (c:LA):=xaL R n a m b c none some
theorem xyA (R:Nat->Int->Int->Int->LA->Option (LA)) (n:Nat) (a m b:Int) (xs:LA):Enc (fun (p:LA)=>(((AV.tuple [],([⟨0,2,159,p,false,true⟩]:List Box))):(AV×List Box))) (xay R n a m b xs) (XFM P0 (xa1 R) Tryz.f193 (Tryz.f193.body.getD .skip) [AV.osl (0:Id) 0 0 n,AV.int .i64 a,AV.int .i64 m,AV.int .i64 b,AV.func (139:FuncId) []] [{ ver:=0,sz:=2,ty:=(159:TypeId),xs:=xs,frz:=false,pm:=true }]):=by
 refine eV (xaL R n a m b xs none (fun (p:LA)=>some (((AV.tuple [],([⟨0,2,159,p,false,true⟩]:List Box))):(AV×List Box)))) (by kernel_rfl) ?_;unfold xay xaL xar xas xat xau xav xaw;repeat' first|exact eN|exact eS rfl|apply eB
def xyz (R:Nat->Int->Int->Int->LA->Option (LA)):LA->List Box->Option (Bool×AV×List Box):=omOf (xTq (sEq (xTE 0 0 0)) (xTq (sEq (pInt .i64)) (xTq (sEq (pInt .i64)) (xTq (sEq (pInt .i64)) (xTq (sEq (xS4 (139:FuncId) xTr)) xTs))))) (xTp (xTH 0 2 (159:TypeId) false true xTt) xTr) fun (n,(a,(m,(b,(_,_))))) (c,_)=>((xay R n a m b c).isSome,((AV.tuple [],([⟨0,2,159,((xay R n a m b c).getD []),false,true⟩]:List Box))))
theorem xyy (R:Nat->Int->Int->Int->LA->Option (LA)) (f:xf2 R):OmOk P0 xTo 193 (xyz R):=xra fun g h k j i=>by
 obtain ⟨n,⟨a,⟨m,⟨b,⟨_,_⟩⟩⟩⟩⟩:=g;obtain ⟨l,_⟩:=h;obtain ⟨c,e⟩:=Prod.mk.inj i;refine xi3 (p:=(xa1 R).pin) (xkh xSR (xSS P0 _) rfl (xu2 R f) rfl Tryz.func193 rfl (by kernel_rfl) (xsd R) ((xyA R _ _ _ _ _ _ (xcf (d:=[]) c)).trans ?_))
 exact congrArg some e
def xaV:Nat->Nat->Int->Int->Int->LA->Option (LA)
 | 0=>fun _ _ _ _ _=>none
 | fu_+1=>fun n a m b c=>xay (xaV fu_) n a m b c
theorem xlK:∀ n,xf2 (xaV n)
 | 0=>xra fun _ _ _ _ h=>absurd (Prod.mk.inj h).1 Bool.false_ne_true
 | fu_+1=>fun a H r b h=>xyy (xaV fu_) (xlK fu_) a H r b h
def xOh:Env:=xyP.E.withM 193 (xgf (xaV 1000))
theorem xM4:xSI P0 xTo xOh:=xyP.ok.withM (xlK _)
def xBd:EO:=EO.mk xOh xM4
def xnF {T:Type} (d:Nat) (n e a b:Int) (c:LA) (δ:T) (κl:(Int×Int×LA)->T) (κr:(Int×LA)->T):T:=br (decide (b<=n)) (br ((xbN d a b c).isSome) (κl (b,i64.wrap (b+e),(xbN d a b c).getD [])) δ) (κr (a,c))
def xcp (e:Nat) (n c:Int):StT (Int×Int×LA) (Int×LA):=fun (a,b,d)=>xnF e n c a b d none inL inR
def xes:=xBd.l 63 1 [159] [] Tryz.f168 0 lk0 [0,1,2,6,7,8] [0,1,2,6,7] [] (q6 (xTE 0 0 0) qI (xS4 139 xTr) qI qI qI) (q1 (qB 0 2 159 xTt)) (fun (d,n,_,c,a,b,_) (e,_)=>(xcp d n c,(a,b,e),fun p=>(.leaf (.exit 0) [AV.osl 0 0 0 d,AV.int .i64 n,AV.func 139 [],AV.int .i64 c,AV.int .i64 p.1] [bF 0 2 159 p.2]))) (0,[]) fun (d,n,_,c,_,_,_) _ (a,b,e)=>(((d,n,(),c,a,b,()),(e,())),xnF d n c a b e none)
def xnG {T:Type} (e:Nat) (n c a b:Int) (d:LA) (δ:T) (κl:(Int×Int×LA)->T) (κr:(Int×LA)->T):T:=br (decide (b<=n)) (br ((xaV 1000 e a (i64.wrap (a+c)) b d).isSome) (κl (b,i64.wrap (b+i64.wrap (2*c)),(xaV 1000 e a (i64.wrap (a+c)) b d).getD [])) δ) (κr (a,d))
def xdu (e:Nat) (n c:Int):StT (Int×Int×LA) (Int×LA):=fun (a,b,d)=>xnG e n c a b d none inL inR
def xeA:=xBd.l 63 1 [159] [(2,xes.lp)] Tryz.f168 2 lk0 [0,1,2,6,7,8] [0,1,2,6,7] [] (q6 (xTE 0 0 0) qI (xS4 139 xTr) qI qI qI) (q1 (qB 0 2 159 xTt)) (fun (d,n,_,c,a,b,_) (e,_)=>(xdu d n c,(a,b,e),fun p=>(.leaf (.exit 4) [AV.osl 0 0 0 d,AV.int .i64 n,AV.func 139 [],AV.int .i64 c,AV.int .i64 p.1] [bF 0 2 159 p.2]))) (0,[]) fun (d,n,_,c,_,_,_) _ (a,b,e)=>(((d,n,(),c,a,b,()),(e,())),xnG d n c a b e none)
def xez (c:Nat) (n a:Int) (b:LA):=Iter (xdu c n a) (0,i64.wrap (2*a),b)
def xey (c:Nat) (n a:Int) (b:LA):=(xez c n a b).getD (0,[])
def xev (c:Nat) (n a:Int) (b:LA):=(xey c n a b).snd
def xew (c:Nat) (n a:Int) (b:LA):=(xey c n a b).fst
def xeu (c:Nat) (n a:Int) (b:LA):=i64.wrap (xew c n a b+a)
def xet (b:Nat) (n a:Int) (c:LA):=xaV 1000 b (xew b n a c) (xeu b n a c) n (xev b n a c)
def xcT {T:Type} (c:Nat) (n a:Int) (b:LA) (δ:T) (κl:(Int×LA)->T) (κr:(LA)->T):T:=br (decide (a<n)) (br ((xez c n a b).isSome) (br (decide (xeu c n a b<n)) (br ((xet c n a b).isSome) (κl (i64.wrap (a*2),(xet c n a b).getD [])) δ) (κl (i64.wrap (a*2),xev c n a b))) δ) (κr (b))
def xbi (c:Nat) (n:Int):StT (Int×LA) (LA):=fun (a,b)=>xcT c n a b none inL inR
def xnb:=xBd.l 63 1 [159] [(2,xes.lp),(9,xeA.lp)] Tryz.f168 1 (lk1 xeA.ok) [0,1,2,6] [] [] (q4 (xTE 0 0 0) qI (xS4 139 xTr) qI) (q1 (qB 0 2 159 xTt)) (fun (c,n,_,a,_) (b,_)=>(xbi c n,(a,b),fun p=>(.leaf (.exit 2) [] [bF 0 2 159 p]))) [] fun (c,n,_,_,_) _ (a,b)=>(((c,n,(),a,()),(b,())),xcT c n a b none)
def xiK (n:Nat) (k:Int) (a:LA):=(Iter (xcp n k 20) (0,20,a)).getD (0,[])
def xiJ (n:Nat) (k:Int) (a:LA):=xbN n (xiK n k a).fst k (xiK n k a).snd
def xiI (n:Nat) (k:Int) (a:LA):=Iter (xbi n k) (20,(xiJ n k a).getD [])
def xjE {T:Type} (n:Nat) (k:Int) (a:LA) (δ:T) (κ:LA->T):T:=br ((Iter (xcp n k 20) (0,20,a)).isSome) (br ((xiJ n k a).isSome) (br ((xiI n k a).isSome) (κ ((xiI n k a).getD [])) δ) δ) δ
def xha (n:Nat) (k:Int) (a:LA):=xjE n k a none some
def xQ5:EO:=xBd.fM Tryz.func168 63 1 [159] [(2,xes.lp),(9,xeA.lp),(7,xnb.lp)] (lks (lkC xes.ok (lkC xnb.ok (lkC xeA.ok lkN)))) (u3 (sEq (xTE 0 0 0)) uI (sEq (xS4 (139:FuncId) xTr))) (q1 (qB 0 2 159 xTt)) (fun (n,k,_,_) (a,_) _=>xjE n k a) (fun _ _ p=>(AV.tuple [],([bF 0 2 159 p]:List Box))) []
def xiA {T:Type} (n:Nat) (a:LA) (δ:T) (κ:LA->T):T:=br ((xha n (↑n:Int) a).isSome) (κ ((xha n (↑n:Int) a).getD [])) δ
def xj8 (n:Nat) (a:LA):=xiA n a none some
def xOi:EO:=xQ5.fM Tryz.func138 9 1 [159] [] lk0 (u2 (sEq (xTE 0 0 0)) (sEq (xS4 (139:FuncId) xTr))) (q1 (qB 0 2 159 xTt)) (fun (n,_,_) (a,_) _=>xiA n a) (fun _ _ p=>(AV.tuple [],([bF 0 2 159 p]:List Box))) []
def xfU (b:LA) (c:Int) (a:LA):=a++[AV.agg [AV.list 3 (gC b c 0).toList,AV.list 2 []]]
def xci (a:Nat):Nat:=0+(↑a:Int).toNat
def xc0 (a:LA) (b:Int):=(xpU (gC a b 0).toList).getD []
def xjS (d:LA) (f:Int) (b:Nat) (e:Int) (c a:LA):=decide (xci b<(xfU d e a).length)
def xjT (d:LA) (e:Int) (a:Nat) (f:Int) (b c:LA):=decide ((↑a:Int)<(↑(a+1):Int))
def xbv (c:LA) (b:Nat) (d:Int) (a:LA):=((xfU c d a).getD (xci b) .top).cells
def xif (a:LA) (b:Int):=decide ((xc0 a b).length<=4611686018427387904)
def xfV (b:LA) (c:Int) (a:LA):=(xSx (AV.int .i64 0) a (xc0 b c)).toInt
def xjU (c:LA) (b:Nat) (d:Int) (a:LA):=decide (0<=xfV c d a)&&decide (xfV c d a<(↑b:Int))
def xa8 (c:LA) (b:Nat) (d:Int) (a:LA):=((xbv c b d a).getD 1 .top).toList.length
def xaY (b:LA) (c:Int) (a:LA):Nat:=0+(xfV b c a).toNat
def xie (a:LA) (d:Nat) (b:Int) (c:LA):=((xbv a d b c).getD 1 .top).toList++[AV.agg [AV.int .i64 (gC a b 1).toInt,AV.int .i64 (gC a b 2).toInt]]
def xgn (c:LA) (b:Nat) (d:Int) (a:LA):=(xfU c d a).set (xci b) (AV.agg (List.take 1 (xbv c b d a)++[AV.int .i64 (↑(xa8 c b d a):Int)]++List.drop 2 (xbv c b d a)))
def xjV (c:LA) (d:Int) (a b:LA):=decide (xaY c d a<b.length)
def xa9 (c:LA) (d:Int) (a b:LA):=((b.getD (xaY c d a) .top).cells.getD 1 .top).toList.length
def xid (b:LA) (c:Int) (a d:LA):=((d.getD (xaY b c a) .top).cells.getD 1 .top).toList++[AV.agg [AV.int .i64 (gC b c 1).toInt,AV.int .i64 (gC b c 2).toInt]]
def xeP (c:LA) (a:Nat) (d:Int) (b:LA):=((xgn c a d b).getD (xci a) .top).cells
def xgo (c:LA) (d:Int) (a b:LA):=b.set (xaY c d a) (AV.agg (List.take 1 (b.getD (xaY c d a) .top).cells++[AV.int .i64 (↑(xa9 c d a b):Int)]++List.drop 2 (b.getD (xaY c d a) .top).cells))
def xeQ (c:LA) (d:Int) (a b:LA):=((xgo c d a b).getD (xaY c d a) .top).cells
def xfi {T:Type} (d:LA) (f:Int) (e:Nat) (c:Int) (b a:LA) (δ:T) (κl:(Nat×Int×LA×LA)->T) (κr:(Nat×LA)->T):T:=br (decide (c<f)) (br (ixI d c) (br (ixT d c 3 [Sh.list 3,Sh.int .i64,Sh.int .i64] 0) (br (!xhe (gC d c 1).toInt (gC d c 2).toInt) (κl (e,i64.wrap (c+1),b,a)) (br ((xpU (gC d c 0).toList).isSome) (br (xif d c&&xSG (Sh.int .i64) (xSx (AV.int .i64 0) b (xc0 d c))) (br (!xTb b (xc0 d c)) (br (decide (b.length<4611686018427387904)&&xif d c) (br (rmB e a 1 48) (br (xjT d f e c b a) (br (xjS d f e c b a&&(xTm 2 ((xbv d e c a).getD 1 .top)&&(xbv d e c a).length==2)) (br (xjS d f e c b a&&(xTm 2 ((xbv d e c a).getD 1 .top)&&((xbv d e c a).length==2&&(2*xa8 d e c a==2*xa8 d e c a&&(xa8 d e c a==xa8 d e c a&&(xa8 d e c a==xa8 d e c a&&(decide ((xa8 d e c a+1)*16<=140737488355328)&&decide (xa8 d e c a+1<=4611686018427387904)))))))) (br (xjT d f e c b a) (br (decide (xci e<(xgn d e c a).length)&&((xeP d e c a).length==2&&(xa8 d e c a+1==(xie d e c a).length&&xTM ((xeP d e c a).getD 1 .top) (xa8 d e c a+1)))) (κl (e+1,i64.wrap (c+1),xSY b (xc0 d c) (AV.int .i64 (↑e:Int)),(xgn d e c a).set (xci e) (AV.agg (List.take 1 (xeP d e c a)++[AV.list 2 (xie d e c a)]++List.drop 2 (xeP d e c a))))) δ) δ) δ) δ) δ) δ) δ) (br (xjU d e c b) (br (xjV d c b a&&(xTm 2 ((a.getD (xaY d c b) .top).cells.getD 1 .top)&&(a.getD (xaY d c b) .top).cells.length==2)) (br (xjV d c b a&&(xTm 2 ((a.getD (xaY d c b) .top).cells.getD 1 .top)&&((a.getD (xaY d c b) .top).cells.length==2&&(2*xa9 d c b a==2*xa9 d c b a&&(xa9 d c b a==xa9 d c b a&&(xa9 d c b a==xa9 d c b a&&(decide ((xa9 d c b a+1)*16<=140737488355328)&&decide (xa9 d c b a+1<=4611686018427387904)))))))) (br (xjU d e c b) (br (decide (xaY d c b<(xgo d c b a).length)&&((xeQ d c b a).length==2&&(xa9 d c b a+1==(xid d c b a).length&&xTM ((xeQ d c b a).getD 1 .top) (xa9 d c b a+1)))) (κl (e,i64.wrap (c+1),b,(xgo d c b a).set (xaY d c b) (AV.agg (List.take 1 (xeQ d c b a)++[AV.list 2 (xid d c b a)]++List.drop 2 (xeQ d c b a))))) δ) δ) δ) δ) δ)) δ) δ)) δ) δ) (κr (e,a))
def xb1 (d:LA) (e:Int):StT (Nat×Int×LA×LA) (Nat×LA):=fun (c,f,a,b)=>xfi d e c f a b none inL inR
def xvA:=xOi.l 60 0 [] [] Tryz.f111 0 lk0 [3,4,11,12,13] [4] [(4,2,150460170399)] (q5 (xTF 0 0 0 0) (xTE 1 0 0) (qL 3) qI qI) (q2 (qB 0 2 1208925819615114573119488 xTt) (qB 0 2 150460170399 xTt)) (fun (_,c,d,e,f,_) (a,b,_)=>(xb1 d e,(c,f,a,b),fun p=>(.leaf (.exit 0) [AV.osl 0 0 0 p.1] [bF 0 2 150460170399 p.2]))) (0,[]) fun (_,_,d,e,_,_) _ (c,f,a,b)=>((((),c,d,e,f,()),(a,b,())),xfi d e c f a b none)
def xsY (l:LA):=Iter (xb1 l (↑l.length:Int)) (0,0,[],[])
def xsX (l:LA):=(xsY l).getD (0,[])
def xnJ (l:LA):=(xsX l).fst
def xsW (l:LA):=(xsX l).snd
def xsV (l:LA):=xj8 (xnJ l) (xsW l)
def xsU (l:LA):=(xsV l).getD []
def xt4 {T:Type} (l:LA) (δ:T) (κ:LA->T):T:=br ((xsY l).isSome) (br (xTc 2 1 (xsW l)) (br ((xsV l).isSome) (br (decide (0+xnJ l<=(xsU l).length)&&true) (κ (List.take (xnJ l) (List.drop 0 (xsU l)))) δ) δ) δ) δ
def xn4 (l:LA):=xt4 l none some
def xOj:EO:=xOi.f Tryz.func111 60 0 [] [(4,xvA.lp)] (lk1 xvA.ok) (u1 (uL 3)) (fun (l,_) _=>xt4 l) (fun _ p=>AV.list 2 p) []
def xhs {T:Type} (d:LA) (e:Int) (c:Nat) (b:Int) (a:LA) (δ:T) (κl:(Nat×Int×LA)->T) (κr:(Nat×LA)->T):T:=br (decide (b<e)) (br (ixI d b) (br (ixT d b 2 [Sh.int .i64,Sh.int .i64] 0) (br (rmB c a 1 24) (κl (c+1,i64.wrap (b+1),a++[AV.agg [AV.int .i64 (gC d b 0).toInt,AV.int .i64 (gC d b 1).toInt,AV.int .i64 1]])) δ) δ) δ) (κr (c,a))
def xcG (c:LA) (d:Int):StT (Nat×Int×LA) (Nat×LA):=fun (b,e,a)=>xhs c d b e a none inL inR
def xr5:=xOj.l 20 0 [] [] Tryz.f76 0 lk0 [3,6,7,8] [3] [(3,3,89)] (q4 (xTE 0 0 0) (qL 2) qI qI) (q1 (qB 0 3 89 xTt)) (fun (b,c,d,e,_) (a,_)=>(xcG c d,(b,e,a),fun p=>(.leaf (.exit 0) [AV.osl 0 0 0 p.1] [bF 0 3 89 p.2]))) (0,[]) fun (_,c,d,_,_) _ (b,e,a)=>(((b,c,d,e,()),(a,())),xhs c d b e a none)
def xoL (l:LA):=(Iter (xcG l (↑l.length:Int)) (0,0,[])).getD (0,[])
def xoJ (l:LA):=(xoL l).snd
def xoK (l:LA):=(xoL l).fst
def xoI (l:LA):=xBE (List.take (xoK l) (List.drop 0 (xoJ l)))
def xpT {T:Type} (l:LA) (δ:T) (κ:LA->T):T:=br ((Iter (xcG l (↑l.length:Int)) (0,0,[])).isSome) (br (decide (0+xoK l<=(xoJ l).length)&&true) (br ((xoI l).isSome) (κ ((xoI l).getD [])) δ) δ) δ
def xgF (l:LA):=xpT l none some
def xy1:EO:=xOj.f Tryz.func76 20 0 [] [(3,xr5.lp)] (lk1 xr5.ok) (u1 (uL 2)) (fun (l,_) _=>xpT l) (fun _ p=>AV.list 2 p) []
def xpa {T:Type} (o n:Int) (e f:Nat) (k p m j:Int) (h l i g a:Nat) (b:LA) (d:Nat) (c:LA) (δ:T) (κl:(Int×Int×Nat×Nat×Nat×Nat×Nat×LA×Nat×LA)->T) (κr:(Int×Nat×Nat×Nat×Nat×LA×Nat×LA×Nat)->T):T:=br (decide (m<p)) (br (a==e) (br (a==e) (br (a==e&&(decide (f<b.length)&&xSG (Sh.int .i64) ((b.getD f .top).cells.getD 0 .top))) (br (d==g&&(rmB i c 1 16)) (κl (i64.wrap (m+1),j,h,l,i+1,g+1,a,List.take h b,g+1,c++[AV.agg [AV.int .i64 ((b.getD f .top).cells.getD 0 .top).toInt,AV.int .i64 o]])) δ) δ) δ) δ) (κr (j,l,h,g,i,b,a,c,d))
def xdW (m n:Int) (e f:Nat) (k o:Int):StT (Int×Int×Nat×Nat×Nat×Nat×Nat×LA×Nat×LA) (Int×Nat×Nat×Nat×Nat×LA×Nat×LA×Nat):=fun (p,g,h,i,j,l,a,b,c,d)=>xpa m n e f k o p g h i j l a b c d none inL inR
def xnO:=xy1.l 71 5 [] [] Tryz.f112 1 lk0 [0,1,2,3,4,7,8,37,38] [0,1,2,3,4,7,8] [(3,0,0)] (q9 qI qI (xTF 0 0 0 0) (xTF 1 0 0 0) (xTF 2 0 0 0) (pOwnV 3 0) qI qI qI) (q5 (qB 0 1 3 (q1 qI)) (xTH 0 1 160 false false (q1 (pOslV 3 0))) (xTH 0 1 108 false false (q1 (pOslV 4 0))) (pBoxV 2 162 false true xTt) (pBoxV 2 35 false true xTt)) (fun (o,n,_,_,_,(e,f),k,q,r,_) ((g,_),((h,i),_),((j,m),_),(a,b),(c,d),_)=>(xdW o n e f k q,(r,g,i,h,m,j,a,b,c,d),fun p=>(.leaf (.exit 2) [AV.int .i64 o,AV.int .i64 n,AV.own 0 0 0 0,AV.own 1 0 0 0,AV.own 2 0 0 0,AV.own 3 e f 0,AV.int .i64 k] [bF 0 1 3 [AV.int .i64 p.1],⟨0,1,160,[AV.osl 3 p.2.1 0 p.2.2.1],false,false⟩,⟨0,1,108,[AV.osl 4 p.2.2.2.1 0 p.2.2.2.2.1],false,false⟩,bF p.2.2.2.2.2.2.1 2 162 p.2.2.2.2.2.1,bF p.2.2.2.2.2.2.2.2 2 35 p.2.2.2.2.2.2.2.1]))) (0,0,0,0,0,[],0,[],0) fun (o,n,_,_,_,(e,f),k,q,_,_) _ (r,g,i,h,m,j,a,b,c,d)=>(((o,n,(),(),(),(e,f),k,q,r,()),((g,()),((h,i),()),((j,m),()),(a,b),(c,d),())),xpa o n e f k q r g i h m j a b c d none)
def xbl (a:Nat):Nat:=0+(i64.wrap ((↑a:Int) - 1)).toNat
def xeI (n b:Int) (c d:Nat) (a:LA):Int:=if i64.wrap (b - n)<((a.getD (xbl c) .top).cells.getD 1 .top).toInt then i64.wrap (b - n) else ((a.getD (xbl c) .top).cells.getD 1 .top).toInt
def xlW (j n d:Int) (c g h i a:Nat) (b:LA) (e:Nat) (f:LA):=Iter (xdW j n g (xbl c) (xeI n d c a b) (xeI n d c a b)) (0,d,c,g,h,i,a,List.take c b,e,f)
def xh1 (j n e:Int) (f g h i a:Nat) (b:LA) (c:Nat) (d:LA):=(xlW j n e f g h i a b c d).getD (0,0,0,0,0,[],0,[],0)
def xlV (j n e:Int) (f g h i a:Nat) (b:LA) (c:Nat) (d:LA):=(xh1 j n e f g h i a b c d).snd
def xgJ (j n e:Int) (f g h i a:Nat) (b:LA) (c:Nat) (d:LA):=(xlV j n e f g h i a b c d).fst
def xlU (j n e:Int) (f g h i a:Nat) (b:LA) (c:Nat) (d:LA):=(xlV j n e f g h i a b c d).snd
def xgI (j n e:Int) (f g h i a:Nat) (b:LA) (c:Nat) (d:LA):=(xlU j n e f g h i a b c d).fst
def xh0 (j n e:Int) (f g h i a:Nat) (b:LA) (c:Nat) (d:LA):=(xlU j n e f g h i a b c d).snd
def xgH (j n e:Int) (f g h i a:Nat) (b:LA) (c:Nat) (d:LA):=i64.wrap ((↑(xgI j n e f g h i a b c d):Int) - 1)
def xhx (j n e:Int) (f g h i a:Nat) (b:LA) (c:Nat) (d:LA):=(xh0 j n e f g h i a b c d).snd
def xlT (j n e:Int) (f g h i a:Nat) (b:LA) (c:Nat) (d:LA):=(xhx j n e f g h i a b c d).snd
def xjh (j n e:Int) (f g h i a:Nat) (b:LA) (c:Nat) (d:LA):=(xlT j n e f g h i a b c d).fst
def xnN (j n e:Int) (f g h i a:Nat) (b:LA) (c:Nat) (d:LA):=(xlT j n e f g h i a b c d).snd
def xdV (j n f:Int) (g e h i a:Nat) (b:LA) (c:Nat) (d:LA):=(xnN j n f g e h i a b c d).fst==e
def xnM (j n f:Int) (e g h i a:Nat) (b:LA) (c:Nat) (d:LA):=decide (xbl e<(xjh j n f e g h i a b c d).length)
def xgG (j n f:Int) (e g h i a:Nat) (b:LA) (c:Nat) (d:LA):=((xjh j n f e g h i a b c d).getD (xbl e) .top).cells
def xgK (j n e:Int) (f g h i a:Nat) (b:LA) (c:Nat) (d:LA):=(xnN j n e f g h i a b c d).snd
def xe7 (j n f:Int) (e g h i a:Nat) (b:LA) (c:Nat) (d:LA):=(xjh j n f e g h i a b c d).set (xbl e) (AV.agg (List.take 1 (xgG j n f e g h i a b c d)++[AV.int .i64 (i64.wrap (((xgG j n f e g h i a b c d).getD 1 .top).toInt - xeI n f e a b))]++List.drop 2 (xgG j n f e g h i a b c d)))
def xht {T:Type} (j n g:Int) (f e h i a:Nat) (b:LA) (c:Nat) (d:LA) (δ:T) (κl:(Int×Nat×Nat×Nat×Nat×Nat×LA×Nat×LA)->T) (κr:(Int×Nat×Nat×Nat×Nat×LA×Nat×LA×Nat)->T):T:=br (decide (g>n)) (br (a==e) (br (a==e&&(decide (0<=i64.wrap ((↑f:Int) - 1))&&decide (i64.wrap ((↑f:Int) - 1)<(↑f:Int)))) (br (a==e) (br (a==e) (br (a==e&&(decide (xbl f<b.length)&&xSG (Sh.int .i64) ((b.getD (xbl f) .top).cells.getD 1 .top))) (br ((xlW j n g f e h i a b c d).isSome) (br (xdV j n g f e h i a b c d) (br (xdV j n g f e h i a b c d) (br (xdV j n g f e h i a b c d&&(xnM j n g f e h i a b c d&&xSG (Sh.int .i64) ((xgG j n g f e h i a b c d).getD 1 .top))) (br (xdV j n g f e h i a b c d) (br (xdV j n g f e h i a b c d) (br (xdV j n g f e h i a b c d&&xnM j n g f e h i a b c d) (br (e==e) (br (e==e) (br (e==e&&(decide (xbl f<(xe7 j n g f e h i a b c d).length)&&xSG (Sh.int .i64) (((xe7 j n g f e h i a b c d).getD (xbl f) .top).cells.getD 1 .top))) (br ((((xe7 j n g f e h i a b c d).getD (xbl f) .top).cells.getD 1 .top).toInt==0) (br (e==xgJ j n g f e h i a b c d) (br (e==xgJ j n g f e h i a b c d&&(decide (0<=xgH j n g f e h i a b c d)&&decide (xgH j n g f e h i a b c d<=(↑(xgI j n g f e h i a b c d):Int))&&true)) (κl (i64.wrap ((xh1 j n g f e h i a b c d).fst - xeI n g f a b),(xgH j n g f e h i a b c d).toNat - 0,xgJ j n g f e h i a b c d,(xhx j n g f e h i a b c d).fst,(xh0 j n g f e h i a b c d).fst,e,List.take ((xgH j n g f e h i a b c d).toNat - 0) (xe7 j n g f e h i a b c d),(xgK j n g f e h i a b c d).snd,(xgK j n g f e h i a b c d).fst)) δ) δ) (κl (i64.wrap ((xh1 j n g f e h i a b c d).fst - xeI n g f a b),xgI j n g f e h i a b c d,xgJ j n g f e h i a b c d,(xhx j n g f e h i a b c d).fst,(xh0 j n g f e h i a b c d).fst,e,List.take (xgI j n g f e h i a b c d) (xe7 j n g f e h i a b c d),(xgK j n g f e h i a b c d).snd,(xgK j n g f e h i a b c d).fst))) δ) δ) δ) δ) δ) δ) δ) δ) δ) δ) δ) δ) δ) δ) δ) (κr (g,e,f,i,h,b,a,d,c))
def xcR (j n:Int):StT (Int×Nat×Nat×Nat×Nat×Nat×LA×Nat×LA) (Int×Nat×Nat×Nat×Nat×LA×Nat×LA×Nat):=fun (e,f,g,h,i,a,b,c,d)=>xht j n e f g h i a b c d none inL inR
def xzn:=xy1.l 71 5 [] [(7,xnO.lp)] Tryz.f112 0 (lk1 xnO.ok) [0,1,2,3,4] [] [(3,0,0)] (q5 qI qI (xTF 0 0 0 0) (xTF 1 0 0 0) (xTF 2 0 0 0)) (q5 (qB 0 1 3 (q1 qI)) (xTH 0 1 160 false false (q1 (pOslV 3 0))) (xTH 0 1 108 false false (q1 (pOslV 4 0))) (pBoxV 2 162 false true xTt) (pBoxV 2 35 false true xTt)) (fun (j,n,_,_,_,_) ((e,_),((f,g),_),((h,i),_),(a,b),(c,d),_)=>(xcR j n,(e,g,f,i,h,a,b,c,d),fun p=>(.leaf (.exit 0) [] [bF 0 1 3 [AV.int .i64 p.1],⟨0,1,160,[AV.osl 3 p.2.1 0 p.2.2.1],false,false⟩,⟨0,1,108,[AV.osl 4 p.2.2.2.1 0 p.2.2.2.2.1],false,false⟩,bF p.2.2.2.2.2.2.1 2 162 p.2.2.2.2.2.1,bF p.2.2.2.2.2.2.2.2 2 35 p.2.2.2.2.2.2.2.1]))) (0,0,0,0,0,[],0,[],0) fun (j,n,_,_,_,_) _ (e,g,f,i,h,a,b,c,d)=>(((j,n,(),(),(),()),((e,()),((f,g),()),((h,i),()),(a,b),(c,d),())),xht j n e g f i h a b c d none)
def xn5:Env:=xy1.E.fn 71 5 (lsOf []) (xS3 [(7,xnO.lp),(3,xzn.lp)])
theorem xDI:xSI P0 (xTo.at 5) xn5:=xy1.ok.fn
theorem xBZ:LoOk P0 (xTo.at xn5.pin) xn5 (Tryz.f112.body.getD .skip):=xgL (ls:=[xSM Tryz.f112 0,xSM Tryz.f112 1]) (by kernel_rfl) (lkC xzn.ok (lkC xnO.ok lkN))
def xq8 (a n h:Int) (b c:Nat) (d e:LA):=Iter (xcR a n) (n,b+1,1,c,0,1,List.take (b+1) (d++[AV.agg [AV.int .i64 a,AV.int .i64 (i64.wrap (n - h))]]),0,e)
def xq9 (a n h:Int) (b c:Nat) (d e:LA):=Iter (xcR a n) (h,b,0,c,0,0,List.take b d,0,e)
def xq3 (a n h:Int) (b c:Nat) (d e:LA):=(xq8 a n h b c d e).getD (0,0,0,0,0,[],0,[],0)
def xq7 (a n h:Int) (b c:Nat) (d e:LA):=(xq9 a n h b c d e).getD (0,0,0,0,0,[],0,[],0)
def xsv (a n h:Int) (b c:Nat) (d e:LA):=(xq3 a n h b c d e).snd
def xq6 (a n h:Int) (b c:Nat) (d e:LA):=(xq7 a n h b c d e).snd
def xss (a n h:Int) (b c:Nat) (d e:LA):=(xsv a n h b c d e).snd
def xq5 (a n h:Int) (b c:Nat) (d e:LA):=(xq6 a n h b c d e).snd
def xsr (a n h:Int) (b c:Nat) (d e:LA):=(xss a n h b c d e).snd
def xq4 (a n h:Int) (b c:Nat) (d e:LA):=(xq5 a n h b c d e).snd
def xsq (a n h:Int) (b c:Nat) (d e:LA):=(xsr a n h b c d e).snd
def xq2 (a n h:Int) (b c:Nat) (d e:LA):=(xq4 a n h b c d e).snd
def xsp (a n h:Int) (b c:Nat) (d e:LA):=(xsq a n h b c d e).snd
def xsw (a n h:Int) (b c:Nat) (d e:LA):=(xq2 a n h b c d e).snd
def xso (a n h:Int) (b c:Nat) (d e:LA):=(xsp a n h b c d e).snd
def xsu (a n h:Int) (b c:Nat) (d e:LA):=(xsw a n h b c d e).snd
def xsn (a n h:Int) (b c:Nat) (d e:LA):=(xso a n h b c d e).snd
def xst (a n h:Int) (b c:Nat) (d e:LA):=(xsu a n h b c d e).snd
def xp7 {T:Type} (a n h:Int) (b d:Nat) (c e:LA) (δ:T) (κ:Int×Nat×Nat×Nat×Nat×LA×Nat×LA×Nat->T):T:=br (decide (n>h)) (br (rmB b c 1 16) (br ((xq8 a n h b d c e).isSome) (κ ((xq3 a n h b d c e).fst,(xsv a n h b d c e).fst,(xss a n h b d c e).fst,(xsr a n h b d c e).fst,(xsq a n h b d c e).fst,(xsp a n h b d c e).fst,(xso a n h b d c e).fst,(xsn a n h b d c e).fst,(xsn a n h b d c e).snd)) δ) δ) (br ((xq9 a n h b d c e).isSome) (κ ((xq7 a n h b d c e).fst,(xq6 a n h b d c e).fst,(xq5 a n h b d c e).fst,(xq4 a n h b d c e).fst,(xq2 a n h b d c e).fst,(xsw a n h b d c e).fst,(xsu a n h b d c e).fst,(xst a n h b d c e).fst,(xst a n h b d c e).snd)) δ)
def xq1 (a n h:Int) (b c:Nat) (d e:LA):=xp7 a n h b c d e none some
theorem xHq (a n h:Int) (b c:Nat) (d e:LA):Enc (fun (p:Int×Nat×Nat×Nat×Nat×LA×Nat×LA×Nat)=>(((AV.tuple [],([⟨0,1,3,[AV.int .i64 p.1],false,true⟩,⟨0,1,160,[AV.osl 3 p.2.1 0 p.2.2.1],false,false⟩,⟨0,1,108,[AV.osl 4 p.2.2.2.1 0 p.2.2.2.2.1],false,false⟩,⟨p.2.2.2.2.2.2.1,2,162,p.2.2.2.2.2.1,false,true⟩,⟨p.2.2.2.2.2.2.2.2,2,35,p.2.2.2.2.2.2.2.1,false,true⟩]:List Box))):(AV×List Box))) (xq1 a n h b c d e) (XFM P0 xn5 Tryz.f112 (Tryz.f112.body.getD .skip) [AV.int .i64 a,AV.int .i64 n,AV.own (0:Id) 0 0 0,AV.own (1:Id) 0 0 0,AV.own (2:Id) 0 0 0] [{ ver:=0,sz:=1,ty:=(3:TypeId),xs:=[AV.int .i64 h],frz:=false,pm:=true },{ ver:=0,sz:=1,ty:=(160:TypeId),xs:=[AV.osl (3:Id) 0 0 b],frz:=false,pm:=false },{ ver:=0,sz:=1,ty:=(108:TypeId),xs:=[AV.osl (4:Id) 0 0 c],frz:=false,pm:=false },{ ver:=0,sz:=2,ty:=(162:TypeId),xs:=d,frz:=false,pm:=true },{ ver:=0,sz:=2,ty:=(35:TypeId),xs:=e,frz:=false,pm:=true }]):=by
 refine eV (xp7 a n h b c d e none (fun (p:Int×Nat×Nat×Nat×Nat×LA×Nat×LA×Nat)=>some (((AV.tuple [],([⟨0,1,3,[AV.int .i64 p.1],false,true⟩,⟨0,1,160,[AV.osl 3 p.2.1 0 p.2.2.1],false,false⟩,⟨0,1,108,[AV.osl 4 p.2.2.2.1 0 p.2.2.2.2.1],false,false⟩,⟨p.2.2.2.2.2.2.1,2,162,p.2.2.2.2.2.1,false,true⟩,⟨p.2.2.2.2.2.2.2.2,2,35,p.2.2.2.2.2.2.2.1,false,true⟩]:List Box))):(AV×List Box)))) (by kernel_rfl) ?_;unfold xq1 xp7;repeat' first|exact eN|exact eS rfl|apply eB
end Go.Sim.M
end
noncomputable section
set_option maxRecDepth 100000
namespace Go.Sim
open Go.RowKit
theorem GoodM.aged {P:Program} {Inv:IV} {f:FuncId} {ab:List AV} {H:List Box} {x0:AV} {v3 v4 k3 k4 t0 t1 t2 t3 t4 s3 s4:Nat} {Y Z:List AV} (aw:H.length=5) (ai:∀ bx,H[3]?=some bx->bx.ver=0) (au:∀ bx,H[4]?=some bx->bx.ver=0)
  (p0:isC t0=false) (p1:isC t1=false) (p2:isC t2=false) (p3:isC t3=false) (p4:isC t4=false)
  (h:GoodM P Inv f ab H (.tuple []) [⟨0,1,t0,[x0],false,true⟩,⟨0,1,t1,[.osl (.b 3) v3 0 k3],false,false⟩,⟨0,1,t2,[.osl (.b 4) v4 0 k4],false,false⟩,⟨v3,s3,t3,Y,false,true⟩,⟨v4,s4,t4,Z,false,true⟩]) :
  GoodM P Inv f ab H (.tuple []) [⟨0,1,t0,[x0],false,true⟩,⟨0,1,t1,[.osl (.b 3) 1 0 k3],false,false⟩,⟨0,1,t2,[.osl (.b 4) 1 0 k4],false,false⟩,⟨1,s3,t3,Y,false,true⟩,⟨1,s4,t4,Z,false,true⟩]:=by
 refine ⟨h.1,fun w0 w A M vs hI hB hR ap=>(h.2 w0 w A M vs hI hB hR ap).mono ?_⟩
 rintro e w' ⟨u,A',M',rfl,h1,h2,h3,h4,h5⟩;let M'':Id->Option MB:=fun id=>if id=.b 3\/id=.b 4 then (M' id).map fun m=>⟨m.b,1,m.sz,m.cap,m.ty⟩ else M' id
 have e3:∀ m,M' (.b 3)=some m->M'' (.b 3)=some ⟨m.b,1,m.sz,m.cap,m.ty⟩:=fun m hm=>by simp [M'',hm]
 have e4:∀ m,M' (.b 4)=some m->M'' (.b 4)=some ⟨m.b,1,m.sz,m.cap,m.ty⟩:=fun m hm=>by
  show (if (Id.b 4=.b 3\/Id.b 4=.b 4) then _ else _)=_
  rw [if_pos (.inr rfl),hm];rfl
 have eo:∀ id,id≠.b 3->id≠.b 4->M'' id=M' id:=fun id g1 g2=>by
  show (if _ then _ else _)=_
  rw [if_neg (fun e=>e.elim g1 g2)]
 have V:∀ id m1,M'' id=some m1->∃ m0,M' id=some m0/\m1.b=m0.b/\m1.cap=m0.cap/\m1.sz=m0.sz/\m1.ty=m0.ty:=fun id m1 J=>by
  by_cases g3:id=.b 3
  . subst g3;cases hm:M' (.b 3) with
    | none=>simp [M'',hm] at J
    | some m=>rw [e3 m hm] at J;simp only [z6] at J;subst J;exact ⟨m,rfl,rfl,rfl,rfl,rfl⟩
  . by_cases g4:id=.b 4
    . subst g4;cases hm:M' (.b 4) with
      | none =>
       have:M'' (.b 4)=none:=by
        show (if (Id.b 4=.b 3\/Id.b 4=.b 4) then _ else _)=_
        rw [if_pos (.inr rfl),hm];rfl
       rw [this] at J;cases J
      | some m=>rw [e4 m hm] at J;simp only [z6] at J;subst J;exact ⟨m,rfl,rfl,rfl,rfl,rfl⟩
    . rw [eo id g3 g4] at J;exact ⟨m1,J,rfl,rfl,rfl,rfl⟩
 have ag:∀ (n v k:Nat) (c:Value) (m:MB),M' (.b n)=some m->M'' (.b n)=some ⟨m.b,1,m.sz,m.cap,m.ty⟩->v=m.ver->Rel w' A' M' c (.osl (.b n) v 0 k)->Rel w' A' M'' c (.osl (.b n) 1 0 k):=fun n v k c m hm ah hv hr=>by
  obtain ⟨m0,g1,g2,g3,g4⟩:=Rel.osl_inv hr;rw [hm] at g1;simp only [z6] at g1;subst g1;exact .osl c (.b n) 1 0 k _ ah (zd _) g3 fun _=>g4 hv
 have Q:∀ (n:Nat) (bx:Box) (m:MB),[⟨0,1,t0,[x0],false,true⟩,⟨0,1,t1,[.osl (.b 3) v3 0 k3],false,false⟩,⟨0,1,t2,[.osl (.b 4) v4 0 k4],false,false⟩,⟨v3,s3,t3,Y,false,true⟩,⟨v4,s4,t4,Z,false,true⟩][n]?=some bx->M' (.b n)=some m->BoxAt w' A' M' w0.heap.size (.b n) m bx:=fun n bx m hn hm=>by
  obtain ⟨bx',g1,g2⟩:=h4.box _ m hm;rw [xb6,hn] at g1;simp only [z6] at g1;subst g1;exact g2
 have U:∀ (id:Id) (bx:Box) (m:MB) (v:Nat),isC bx.ty=false->bx.pm=true->BoxAt w' A' M' w0.heap.size id m bx->BoxAt w' A' M'' w0.heap.size id ⟨m.b,v,m.sz,m.cap,m.ty⟩ ⟨v,bx.sz,bx.ty,bx.xs,bx.frz,bx.pm⟩:=fun id bx m v O hp g=>by
  have W:xSK m.ty=false:=g.nomap (xbb O);refine ⟨rfl,g.sz,g.ty,g.capm,g.fits,g.ok,g.low,g.lt,fun h0=>?_,g.guard⟩
  obtain ⟨c,c1,c2,c3⟩:=g.cells h0;refine ⟨c,.of W (c1.plain W),c2,fun i j hi hj=>?_⟩
  have:=c3 i j hi hj;rw [xaR O,xa6 O,hp] at this;rw [xaR O,xa6 (bx:=⟨v,bx.sz,bx.ty,bx.xs,bx.frz,bx.pm⟩) O];show Rel w' A' (MP M'' bx.pm) _ _;rw [hp];exact this
 have aa:∀ (n n2 v k t:Nat) (m m2:MB),isC t=false->n≠3->n≠4->BoxAt w' A' M' w0.heap.size (.b n) m ⟨0,1,t,[.osl (.b n2) v 0 k],false,false⟩->M' (.b n2)=some m2->M'' (.b n2)=some ⟨m2.b,1,m2.sz,m2.cap,m2.ty⟩->v=m2.ver ->
   BoxAt w' A' M'' w0.heap.size (.b n) m ⟨0,1,t,[.osl (.b n2) 1 0 k],false,false⟩:=fun n n2 v k t m m2 O _ _ g ar ac hv=>by
  have W:xSK m.ty=false:=g.nomap (xbb O);have hsz:m.sz=1:=g.sz.symm;refine ⟨g.ver,g.sz,g.ty,g.capm,g.fits,fun y hy=>?_,g.low,g.lt,fun h0=>?_,g.guard⟩
  . simp only [zv] at hy;subst hy;rw [hsz];rfl
  . obtain ⟨c,c1,c2,c3⟩:=g.cells h0;refine ⟨c,.of W (c1.plain W),c2,fun i j hi hj=>?_⟩
    have ao:i=0:=by simpa using hi
    have an:j=0:=by omega
    subst ao an;have:=c3 0 0 (by simp) hj
    rw [xaR O,xa6 O] at this;rw [xaR O,xa6 (bx:=⟨0,1,t,[.osl (.b n2) 1 0 k],false,false⟩) O];exact ag n2 v k _ m2 ar ac hv this
 have am:∀ m,M (.b 3)=some m->m.ver=0:=fun m hm=>by
  obtain ⟨bx,g1,g2⟩:=hR.box _ m hm;rw [<-g2.ver];exact ai bx g1
 have al:∀ m,M (.b 4)=some m->m.ver=0:=fun m hm=>by
  obtain ⟨bx,g1,g2⟩:=hR.box _ m hm;rw [<-g2.ver];exact au bx g1
 have ae:∀ m,M' (.b 3)=some m->v3=m.ver:=fun m hm=>(Q 3 _ m rfl hm).ver
 have ad:∀ m,M' (.b 4)=some m->v4=m.ver:=fun m hm=>(Q 4 _ m rfl hm).ver
 have af:∀ n i j m,M' (.r n i j)=some m->BoxAt w' A' M' w0.heap.size (.r n i j) m tombB/\n<5:=fun n i j m hm=>by
  obtain ⟨bx,g1,g2⟩:=h4.box _ m hm;obtain ⟨b0,q1,_⟩:=xr6 g1;have hn:n<5:=by
   have:=xcQ q1;simpa using this
  have hp:isC b0.ty=false:=by
   match n,hn with
   | 0,_=>simp only [zY,z6] at q1;subst q1;exact p0
   | 1,_=>simp only [zY,zZ,z6] at q1;subst q1;exact p1
   | 2,_=>simp only [zY,zZ,z6] at q1;subst q1;exact p2
   | 3,_=>simp only [zY,zZ,z6] at q1;subst q1;exact p3
   | 4,_=>simp only [zY,zZ,z6] at q1;subst q1;exact p4
  rw [xbA q1 hp] at g1;simp only [z6] at g1;subst g1;exact ⟨g2,hn⟩
 have hR':HR w' A' M'' w0.heap.size [⟨0,1,t0,[x0],false,true⟩,⟨0,1,t1,[.osl (.b 3) 1 0 k3],false,false⟩,⟨0,1,t2,[.osl (.b 4) 1 0 k4],false,false⟩,⟨1,s3,t3,Y,false,true⟩,⟨1,s4,t4,Z,false,true⟩]:=by
  refine ⟨fun id m1 J=>?_,fun id id' m1 m2 k1 k2 c1 c2 he=>?_,h4.lt⟩
  . obtain ⟨m0,g1,g2,g3,g4,g5⟩:=V id m1 J;cases id with
    | r n i j =>
     rw [eo (.r n i j) (fun e=>by cases e) (fun e=>by cases e),g1] at J
     simp only [z6] at J;subst J;obtain ⟨q1,q2⟩:=af n i j _ g1;refine ⟨tombB,?_,?_⟩
     . match n,q2 with
       | 0,_=>exact xbA rfl p0
       | 1,_=>exact xbA rfl p1
       | 2,_=>exact xbA rfl p2
       | 3,_=>exact xbA rfl p3
       | 4,_=>exact xbA rfl p4
     . have hv:tombB.ver=m0.ver:=q1.ver;have:=U (.r n i j) tombB m0 m0.ver rfl rfl q1;exact ⟨q1.ver,this.sz,this.ty,this.capm,this.fits,this.ok,this.low,this.lt,this.cells,this.guard⟩
    | b n =>
     have hn:n<5:=by
      obtain ⟨bx,q1,_⟩:=h4.box _ m0 g1;have:=xcQ q1;simpa using this
     match n,hn with
     | 0,_ =>
      rw [eo (.b 0) (fun e=>by cases e) (fun e=>by cases e),g1] at J
      simp only [z6] at J;subst J;have q:=Q 0 _ m0 rfl g1;have:=U (.b 0) _ m0 m0.ver p0 rfl q;exact ⟨⟨0,1,t0,[x0],false,true⟩,rfl,q.ver,this.sz,this.ty,this.capm,this.fits,this.ok,this.low,this.lt,this.cells,this.guard⟩
     | 1,_ =>
      rw [eo (.b 1) (fun e=>by cases e) (fun e=>by cases e),g1] at J
      simp only [z6] at J;subst J;have q:=Q 1 _ m0 rfl g1;have hc:0<m0.cap:=Nat.lt_of_lt_of_le Nat.zero_lt_one q.fits;obtain ⟨c,c1,c2,c3⟩:=q.cells hc;have hr:=c3 0 0 (by simp) (by rw [<-q.sz];exact Nat.zero_lt_one)
      rw [xaR p1,xa6 (bx:=⟨0,1,t1,[.osl (.b 3) v3 0 k3],false,false⟩) p1] at hr;have hr:Rel w' A' M' _ (.osl (.b 3) v3 0 k3):=hr;obtain ⟨m3,a1,_⟩:=Rel.osl_inv hr;exact ⟨_,rfl,aa 1 3 v3 k3 t1 m0 m3 p1 (by decide) (by decide) q a1 (e3 m3 a1) (ae m3 a1)⟩
     | 2,_ =>
      rw [eo (.b 2) (fun e=>by cases e) (fun e=>by cases e),g1] at J
      simp only [z6] at J;subst J;have q:=Q 2 _ m0 rfl g1;have hc:0<m0.cap:=Nat.lt_of_lt_of_le Nat.zero_lt_one q.fits;obtain ⟨c,c1,c2,c3⟩:=q.cells hc;have hr:=c3 0 0 (by simp) (by rw [<-q.sz];exact Nat.zero_lt_one)
      rw [xaR p2,xa6 (bx:=⟨0,1,t2,[.osl (.b 4) v4 0 k4],false,false⟩) p2] at hr;have hr:Rel w' A' M' _ (.osl (.b 4) v4 0 k4):=hr;obtain ⟨m4,a1,_⟩:=Rel.osl_inv hr;exact ⟨_,rfl,aa 2 4 v4 k4 t2 m0 m4 p2 (by decide) (by decide) q a1 (e4 m4 a1) (ad m4 a1)⟩
     | 3,_ =>
      rw [e3 m0 g1] at J;simp only [z6] at J;subst J;exact ⟨_,rfl,U (.b 3) _ m0 1 p3 rfl (Q 3 _ m0 rfl g1)⟩
     | 4,_ =>
      rw [e4 m0 g1] at J;simp only [z6] at J;subst J;exact ⟨_,rfl,U (.b 4) _ m0 1 p4 rfl (Q 4 _ m0 rfl g1)⟩
  . obtain ⟨n1,a1,a2,a3,_⟩:=V id m1 k1;obtain ⟨n2,b1,b2,b3,_⟩:=V id' m2 k2;exact h4.inj id id' n1 n2 a1 b1 (by omega) (by omega) (by rw [<-a2,<-b2,he])
 refine ⟨u,A',M'',rfl,h1,h2,⟨h3.size,h3.keep,h3.less,h3.more,fun id m aq hm=>?_,fun id m1 J h0=>?_⟩,hR',?_⟩
 . obtain ⟨m',g1,g2⟩:=h3.ids id m aq hm;by_cases q3:id=.b 3
   . subst q3;exact ⟨_,e3 m' g1,.inr (by have:m.ver=0:=am m hm;show m.ver<1;omega)⟩
   . by_cases q4:id=.b 4
     . subst q4;exact ⟨_,e4 m' g1,.inr (by have:m.ver=0:=al m hm;show m.ver<1;omega)⟩
     . exact ⟨m',by rw [eo id q3 q4];exact g1,g2⟩
 . obtain ⟨m0,g1,g2,g3,_⟩:=V id m1 J;rw [g2];exact h3.src id m0 g1 (by omega)
 . obtain ⟨aj,rfl,q1,_⟩:=h5.tuple_inv;exact .tuple aj [] q1 (by simp)
namespace M
open Go.Proofs
noncomputable def set2 (q n h:Int) (ns no:Nat) (sx ox:List AV):Option (Int×Nat×Nat×List AV×List AV):=(xq1 q n h ns no sx ox).bind fun p =>
 br (Nat.beq p.2.1 p.2.2.2.2.2.2.1&&Nat.beq p.2.2.2.1 p.2.2.2.2.2.2.2.2) (some (p.1,p.2.2.1,p.2.2.2.2.1,p.2.2.2.2.2.1,p.2.2.2.2.2.2.2.1)) none
noncomputable def xMR:List AV->List Box->Option (Bool×AV×List Box):=omOf (xTq (sEq (pInt IntKind.i64)) (xTq (sEq (pInt IntKind.i64)) (xTq (sEq (xTF 0 0 0 0)) (xTq (sEq (xTF 1 0 0 0)) (xTq (sEq (xTF 2 0 0 0)) xTs)))))
 (xTp (xTH 0 1 3 false true (xTp (pInt IntKind.i64) xTr)) (xTp (xTH 0 1 160 false false (xTp (xTE 3 0 0) xTr)) (xTp (xTH 0 1 108 false false (xTp (xTE 4 0 0) xTr)) (xTp (xTH 0 2 162 false true xTt) (xTp (xTH 0 2 35 false true xTt) xTr)))))
 fun (q,(n,(_,(_,(_,_))))) ((h,_),((ns,_),((no,_),(sx,(ox,_)))))=>((set2 q n h ns no sx ox).isSome,(.tuple [],[⟨0,1,3,[.int .i64 ((set2 q n h ns no sx ox).getD (0,0,0,[],[])).1],false,true⟩,⟨0,1,160,[.osl (.b 3) 1 0 ((set2 q n h ns no sx ox).getD (0,0,0,[],[])).2.1],false,false⟩,⟨0,1,108,[.osl (.b 4) 1 0 ((set2 q n h ns no sx ox).getD (0,0,0,[],[])).2.2.1],false,false⟩,⟨1,2,162,((set2 q n h ns no sx ox).getD (0,0,0,[],[])).2.2.2.1,false,true⟩,⟨1,2,35,((set2 q n h ns no sx ox).getD (0,0,0,[],[])).2.2.2.2,false,true⟩]))
theorem xQK:OmOk P0 xTo 112 xMR:=xra fun vv bb rr W hh=>by
 obtain ⟨q,⟨n,⟨_,⟨_,⟨_,_⟩⟩⟩⟩⟩:=vv;obtain ⟨⟨h,_⟩,⟨⟨ns,_⟩,⟨⟨no,_⟩,⟨sx,⟨ox,_⟩⟩⟩⟩⟩:=bb;obtain ⟨J,Q⟩:=Prod.mk.inj hh;cases hs:xq1 q n h ns no sx ox with
 | none=>rw [show set2 q n h ns no sx ox=none by unfold set2;rw [hs];rfl] at J;simp at J
 | some p =>
  have O:set2 q n h ns no sx ox=br (Nat.beq p.2.1 p.2.2.2.2.2.2.1&&Nat.beq p.2.2.2.1 p.2.2.2.2.2.2.2.2) (some (p.1,p.2.2.1,p.2.2.2.2.1,p.2.2.2.2.2.1,p.2.2.2.2.2.2.2.1)) none:=by unfold set2;rw [hs];rfl
  cases ht:Nat.beq p.2.1 p.2.2.2.2.2.2.1&&Nat.beq p.2.2.2.1 p.2.2.2.2.2.2.2.2 with
  | false=>rw [O,ht] at J;simp [br] at J
  | true =>
   rw [ht] at O;have U:set2 q n h ns no sx ox=some (p.1,p.2.2.1,p.2.2.2.2.1,p.2.2.2.2.2.1,p.2.2.2.2.2.2.2.1):=O;rw [U] at Q;simp only [zh] at Q;simp only [zf] at ht;have e1:=zg ht.1;have e2:=zg ht.2;have hx:=xHq q n h ns no sx ox p hs;have hg:GoodM P0 xTo 112 _ _ _ _:=xi3 (p:=xn5.pin) (xkh xSR (xSS P0 _) rfl xDI rfl Tryz.func112 rfl (by kernel_rfl) xBZ hx)
   rw [<-e1,<-e2] at hg;have V:=GoodM.aged rfl (fun bx hb=>by simp only [zY,zZ,z6] at hb;subst hb;rfl) (fun bx hb=>by simp only [zY,zZ,z6] at hb;subst hb;rfl) rfl rfl rfl rfl rfl hg
   obtain ⟨rfl,rfl⟩:=Prod.mk.inj Q;exact V
noncomputable def ESet:Env:=xy1.E.withM 112 xMR
theorem xOG:xSI P0 xTo ESet:=xy1.ok.withM xQK
noncomputable def xI3:EO:=EO.mk ESet xOG
end M
end Go.Sim
end
noncomputable section
set_option maxRecDepth 100000
namespace Go.Sim.M
open Go.IntKind (i64 u64 u8)
open Go.RowKit Go.Proofs
def xqU (a:LA) (h b:Int) (f c:Nat) (g:Int) (d e:LA):Int:=if 0>(gC a b 1).toInt then 0 else (gC a b 1).toInt
def xqT (f:LA) (h g:Int) (d a:Nat) (e:Int) (b c:LA):=set2 (gC f g 0).toInt (if 1048576<xqU f h g d a e b c then 1048576 else xqU f h g d a e b c) e a d c b
def xqS (f:LA) (g h:Int) (d a:Nat) (e:Int) (b c:LA):=(xqT f g h d a e b c).getD (0,0,0,[],[])
def xqR (f:LA) (g h:Int) (d a:Nat) (e:Int) (b c:LA):=(xqS f g h d a e b c).snd
def xqP (f:LA) (g h:Int) (d a:Nat) (e:Int) (b c:LA):=(xqR f g h d a e b c).snd
def xqQ (f:LA) (g h:Int) (d a:Nat) (e:Int) (b c:LA):=(xqR f g h d a e b c).fst
def xqO (f:LA) (g h:Int) (d a:Nat) (e:Int) (b c:LA):=(xqP f g h d a e b c).snd
def xmm {T:Type} (g:LA) (h e:Int) (d a:Nat) (f:Int) (b c:LA) (δ:T) (κl:(Int×Nat×Nat×Int×LA×LA)->T) (κr:(Nat×Int×Nat×LA×LA)->T):T:=br (decide (e<h)) (br (ixI g e) (br (ixT g e 2 [Sh.int .i64,Sh.int .i64] 0) (br ((xqT g h e d a f b c).isSome) (κl (i64.wrap (e+1),(xqP g h e d a f b c).fst,xqQ g h e d a f b c,(xqS g h e d a f b c).fst,(xqO g h e d a f b c).snd,List.take (xqQ g h e d a f b c) (xqO g h e d a f b c).fst)) δ) δ) δ) (κr (d,f,a,b,c))
def xeE (f:LA) (g:Int):StT (Int×Nat×Nat×Int×LA×LA) (Nat×Int×Nat×LA×LA):=fun (h,d,a,e,b,c)=>xmm f g h d a e b c none inL inR
def xw5:=xI3.l 30 0 [] [] Tryz.f75 0 lk0 [3,4,6,10,11,12] [3,6] [(3,2,35),(4,2,162),(4,0,0)] (q6 (xTF 0 0 0 0) (xTF 1 0 0 0) (xS4 112 (q3 (xTF 2 0 0 0) (xTF 1 0 0 0) (xTF 0 0 0 0))) (qL 2) qI qI) (q5 (xTH 0 1 108 false false (q1 (xTE 3 0 0))) (xTH 0 1 160 false false (q1 (xTE 4 0 0))) (qB 0 1 3 (q1 qI)) (qB 0 2 35 xTt) (qB 0 2 162 xTt)) (fun (_,_,(_,_,_,_),f,g,h,_) ((d,_),(a,_),(e,_),b,c,_)=>(xeE f g,(h,d,a,e,b,c),fun p=>(.leaf (.exit 0) [AV.own 0 0 0 0,AV.func 112 [AV.own 1 0 0 0,AV.own 2 0 0 0,AV.own 0 0 0 0]] [⟨0,1,108,[AV.osl 3 0 0 p.1],false,false⟩,bF 0 1 3 [AV.int .i64 p.2.1],⟨0,1,160,[AV.osl 4 0 0 p.2.2.1],false,false⟩,bF 0 2 35 p.2.2.2.1,bF 0 2 162 p.2.2.2.2]))) (0,0,0,[],[]) fun (_,_,(_,_,_,_),f,g,_,_) _ (h,d,a,e,b,c)=>((((),(),((),(),(),()),f,g,h,()),((d,()),(a,()),(e,()),b,c,())),xmm f g h d a e b c none)
def xvq (l:LA):=Iter (xeE l (↑l.length:Int)) (0,0,0,0,[],[])
def xvp (l:LA):=(xvq l).getD (0,0,0,[],[])
def xvo (l:LA):=(xvp l).snd
def xvn (l:LA):=(xvo l).snd
def xvm (l:LA):=(xvn l).snd
def xvl (l:LA):=set2 1099511627776 0 (xvo l).fst (xvn l).fst (xvp l).fst (xvm l).snd (xvm l).fst
def xvk (l:LA):=((xvl l).getD (0,0,0,[],[])).snd.snd
def xld (l:LA):=(xvk l).fst
def xle (l:LA):=(xvk l).snd.snd
def xwr {T:Type} (l:LA) (δ:T) (κ:LA->T):T:=br ((xvq l).isSome) (br ((xvl l).isSome) (br ((xld l).beq (xle l).length&&(decide (xld l<4611686018427387904)&&(xle l).all isP)) (br (decide (0+xld l<=(srtP (xle l)).length)&&true) (κ (List.take (xld l) (List.drop 0 (srtP (xle l))))) δ) δ) δ) δ
def xvj (l:LA):=xwr l none some
def xPV:EO:=xI3.f Tryz.func75 30 0 [] [(6,xw5.lp)] (lk1 xw5.ok) (u1 (uL 2)) (fun (l,_) _=>xwr l) (fun _ p=>AV.list 2 p) []
def xtV {T:Type} (a:LA) (δ:T) (κ:LA->T):T:=br ((↑a.length:Int)==1) (κ (a)) (br ((xgF a).isSome) (br ((xvj ((xgF a).getD [])).isSome) (κ ((xvj ((xgF a).getD [])).getD [])) δ) δ)
def xhW (a:LA):=xtV a none some
def xGJ:EO:=xPV.f Tryz.func74 10 0 [] [] lk0 (u1 (uL 2)) (fun (a,_) _=>xtV a) (fun _ p=>AV.list 2 p) []
def xhr {T:Type} (h:LA) (i j:Int) (e:LA) (f:Int) (d:Nat) (c:Int) (a b g:LA) (δ:T) (κl:(Nat×Int×LA×LA×LA)->T) (κr:(Nat×LA)->T):T:=br (decide (c<f)) (br (ixI e c) (br (ixT e c 2 [Sh.int .i64,Sh.int .i64] 0) (br (decide (b.length*32<=140737488355328)&&decide (b.length<=4611686018427387904)) (br (decide (0+b.length<=b.length)&&true&&true&&true&&true) (br (rmB d a 1 40) (κl (d+1,i64.wrap (c+1),a++[AV.agg [AV.list 3 (List.take b.length (List.drop 0 b)),AV.int .i64 (gC e c 0).toInt,AV.int .i64 (gC e c 1).toInt]],b,g)) δ) δ) δ) δ) δ) (κr (d,a))
def xcF (c:LA) (d e:Int) (f:LA) (g:Int):StT (Nat×Int×LA×LA×LA) (Nat×LA):=fun (b,h,a,i,j)=>xhr c d e f g b h a i j none inL inR
def xg5:=xGJ.l 38 0 [59] [] Tryz.f73 1 lk0 [1,5,7,11,12,13,20,21,22] [1,5,11,12,13] [(5,3,59)] (q9 (xS4 74 xTr) (xTE 0 0 0) (xTF 1 0 0 0) (qL 2) qI qI (qL 2) qI qI) (q2 (qB 0 3 59 xTt) (qB 0 2 159 (q1 (xTG (q2 (qL 3) (qL 2)))))) (fun (_,b,_,c,d,e,f,g,h,_) (a,((i,j,_),_),_)=>(xcF c d e f g,(b,h,a,i,j),fun p=>(.leaf (.exit 2) [AV.func 74 [],AV.osl 0 0 0 p.1,AV.list 2 c,AV.int .i64 d,AV.int .i64 e] [bF 0 3 59 p.2]))) (0,[]) fun (_,_,_,c,d,e,f,g,_,_) _ (b,h,a,i,j)=>((((),b,(),c,d,e,f,g,h,()),(a,((i,j,()),()),())),xhr c d e f g b h a i j none)
def xlu (a:LA) (e:Int) (d:Nat) (b:Int) (c:LA):=Iter (xcF a e b ((xhW (gC a b 1).toList).getD []) (↑((xhW (gC a b 1).toList).getD []).length:Int)) (d,0,c,(gC a b 0).toList,(gC a b 1).toList)
def xlt (c:LA) (d:Int) (b:Nat) (e:Int) (a:LA):=(xlu c d b e a).getD (0,[])
def xhq {T:Type} (d:LA) (e:Int) (c:Nat) (b:Int) (a:LA) (δ:T) (κl:(Nat×Int×LA)->T) (κr:(Nat×LA)->T):T:=br (decide (b<e)) (br (ixI d b) (br (ixT d b 2 [Sh.list 3,Sh.list 2] 0) (br ((xhW (gC d b 1).toList).isSome) (br ((xlu d e c b a).isSome) (κl ((xlt d e c b a).fst,i64.wrap (b+1),(xlt d e c b a).snd)) δ) δ) δ) δ) (κr (c,a))
def xdR (c:LA) (d:Int):StT (Nat×Int×LA) (Nat×LA):=fun (b,e,a)=>xhq c d b e a none inL inR
def xr4:=xGJ.l 38 0 [59] [(6,xg5.lp)] Tryz.f73 0 (lk1 xg5.ok) [1,5,11,12,13] [5] [(5,3,59)] (q5 (xS4 74 xTr) (xTE 0 0 0) (qL 2) qI qI) (q1 (qB 0 3 59 xTt)) (fun (_,b,c,d,e,_) (a,_)=>(xdR c d,(b,e,a),fun p=>(.leaf (.exit 0) [AV.osl 0 0 0 p.1] [bF 0 3 59 p.2]))) (0,[]) fun (_,_,c,d,_,_) _ (b,e,a)=>((((),b,c,d,e,()),(a,())),xhq c d b e a none)
def xoH (l:LA):=Iter (xdR ((xn4 l).getD []) (↑((xn4 l).getD []).length:Int)) (0,0,[])
def xoG (l:LA):=(xoH l).getD (0,[])
def xoE (l:LA):=(xoG l).snd
def xoF (l:LA):=(xoG l).fst
def xpS {T:Type} (l:LA) (δ:T) (κ:LA->T):T:=br ((xn4 l).isSome) (br ((xoH l).isSome) (br (decide (0+xoF l<=(xoE l).length)&&true) (κ (List.take (xoF l) (List.drop 0 (xoE l)))) δ) δ) δ
def xsS (l:LA):=xpS l none some
def xPW:EO:=xGJ.f Tryz.func73 38 0 [59] [(6,xg5.lp),(3,xr4.lp)] (lks (lkC xr4.ok (lkC xg5.ok lkN))) (u2 (uL 3) (sEq (xS4 (74:FuncId) xTr))) (fun (l,_,_) _=>xpS l) (fun _ p=>AV.list 3 p) []
def xvR {T:Type} (l:LA) (δ:T) (κ:LA->T):T:=br ((xsS l).isSome) (κ ((xsS l).getD [])) δ
def xjc (l:LA):=xvR l none some
def xGK:EO:=xPW.f Tryz.func44 5 0 [] [] lk0 (u1 (uL 3)) (fun (l,_) _=>xvR l) (fun _ p=>AV.list 3 p) []
def xem (a:Nat) (j:Int):=decide (0<=i64.wrap (j - 1))&&decide (i64.wrap (j - 1)<(↑a:Int))
def xaZ (j:Int):Nat:=0+(i64.wrap (j - 1)).toNat
def xen (a:Nat) (j:Int):=decide (0<=j)&&decide (j<(↑a:Int))
def xhC (j:Int) (a:LA):=decide (0+j.toNat<a.length)
def xhA (j:Int) (a:LA):=decide (xaZ j<a.length)&&xSG (Sh.list 3) ((a.getD (xaZ j) .top).cells.getD 0 .top)
def xhB (j:Int) (a:LA):=xhC j a&&xSG (Sh.list 3) ((a.getD (0+j.toNat) .top).cells.getD 0 .top)
def xh7 {T:Type} (d:Nat) (a b i j:Int) (c:LA) (δ:T) (κl:(Int×LA)->T) (κr:(LA)->T):T:=br (decide (j>a)) (br (xen d j) (br (xhB j c) (br (xem d j) (br (xhA j c) (br ((xge ((c.getD (0+j.toNat) .top).cells.getD 0 .top).toList ((c.getD (xaZ j) .top).cells.getD 0 .top).toList).isSome) (br (decide ((xge ((c.getD (0+j.toNat) .top).cells.getD 0 .top).toList ((c.getD (xaZ j) .top).cells.getD 0 .top).toList).getD 0<0)) (br (xem d j) (br (xhA j c) (br (xen d j) (br (xhB j c) (br (xen d j) (br (xhC j c) (br (xem d j) (br (decide (xaZ j<(c.set (0+j.toNat) (AV.list 3 ((c.getD (xaZ j) .top).cells.getD 0 .top).toList)).length)) (κl (i64.wrap (j - 1),(c.set (0+j.toNat) (AV.list 3 ((c.getD (xaZ j) .top).cells.getD 0 .top).toList)).set (xaZ j) (AV.list 3 ((c.getD (0+j.toNat) .top).cells.getD 0 .top).toList))) δ) δ) δ) δ) δ) δ) δ) δ) (κr (c))) δ) δ) δ) δ) δ) (κr (c))
def xb9 (d:Nat) (a b i:Int):StT (Int×LA) (LA):=fun (j,c)=>xh7 d a b i j c none inL inR
def xcy:=xGK.l 53 1 [57] [] Tryz.f203 1 lk0 [0,1,2,3,8,9] [0,1,2,3,8] [] (q6 (xTE 0 0 0) qI qI (xS4 134 xTr) qI qI) (q1 (qB 0 1 57 xTt)) (fun (c,a,b,_,i,j,_) (d,_)=>(xb9 c a b i,(j,d),fun p=>(.leaf (.exit 2) [AV.osl 0 0 0 c,AV.int .i64 a,AV.int .i64 b,AV.func 134 [],AV.int .i64 i] [bF 0 1 57 p]))) [] fun (c,a,b,_,i,_,_) _ (j,d)=>(((c,a,b,(),i,j,()),(d,())),xh7 c a b i j d none)
def xh6 {T:Type} (d:Nat) (a b i:Int) (c:LA) (δ:T) (κl:(Int×LA)->T) (κr:(LA)->T):T:=br (decide (i<b)) (br ((Iter (xb9 d a b i) (i,c)).isSome) (κl (i64.wrap (i+1),(Iter (xb9 d a b i) (i,c)).getD [])) δ) (κr (c))
def xb8 (d:Nat) (a b:Int):StT (Int×LA) (LA):=fun (i,c)=>xh6 d a b i c none inL inR
def xhz:=xGK.l 53 1 [57] [(4,xcy.lp)] Tryz.f203 0 (lk1 xcy.ok) [0,1,2,3,8] [] [] (q5 (xTE 0 0 0) qI qI (xS4 134 xTr) qI) (q1 (qB 0 1 57 xTt)) (fun (d,a,b,_,i,_) (c,_)=>(xb8 d a b,(i,c),fun p=>(.leaf (.exit 0) [] [bF 0 1 57 p]))) [] fun (d,a,b,_,_,_) _ (i,c)=>(((d,a,b,(),i,()),(c,())),xh6 d a b i c none)
def xfF {T:Type} (n:Nat) (a b:Int) (c:LA) (δ:T) (κ:LA->T):T:=br ((Iter (xb8 n a b) (i64.wrap (a+1),c)).isSome) (κ ((Iter (xb8 n a b) (i64.wrap (a+1),c)).getD [])) δ
def xbM (n:Nat) (a b:Int) (c:LA):=xfF n a b c none some
def xGC:EO:=xGK.fM Tryz.func203 53 1 [57] [(4,xcy.lp),(1,xhz.lp)] (lks (lkC xhz.ok (lkC xcy.ok lkN))) (u4 (sEq (xTE 0 0 0)) uI uI (sEq (xS4 (134:FuncId) xTr))) (q1 (qB 0 1 57 xTt)) (fun (n,a,b,_,_) (c,_) _=>xfF n a b c) (fun _ _ p=>(AV.tuple [],([bF 0 1 57 p]:List Box))) []
def xhg {T:Type} (d:Nat) (n e a b:Int) (c:LA) (δ:T) (κl:(Int×Int×LA)->T) (κr:(Int×LA)->T):T:=br (decide (b<=n)) (br ((xbM d a b c).isSome) (κl (b,i64.wrap (b+e),(xbM d a b c).getD [])) δ) (κr (a,c))
def xco (e:Nat) (n c:Int):StT (Int×Int×LA) (Int×LA):=fun (a,b,d)=>xhg e n c a b d none inL inR
def xeq:=xGC.l 63 1 [57] [] Tryz.f189 0 lk0 [0,1,2,6,7,8] [0,1,2,6,7] [] (q6 (xTE 0 0 0) qI (xS4 134 xTr) qI qI qI) (q1 (qB 0 1 57 xTt)) (fun (d,n,_,c,a,b,_) (e,_)=>(xco d n c,(a,b,e),fun p=>(.leaf (.exit 0) [AV.osl 0 0 0 d,AV.int .i64 n,AV.func 134 [],AV.int .i64 c,AV.int .i64 p.1] [bF 0 1 57 p.2]))) (0,[]) fun (d,n,_,c,_,_,_) _ (a,b,e)=>(((d,n,(),c,a,b,()),(e,())),xhg d n c a b e none)
def xnE {T:Type} (d:Nat) (n e a b:Int) (c:LA) (δ:T) (κl:(Int×Int×LA)->T) (κr:(Int×LA)->T):T:=br (decide (b<=n)) (br (decide (0+d<=c.length)&&true) δ δ) (κr (a,c))
def xkJ (e:Nat) (n c:Int):StT (Int×Int×LA) (Int×LA):=fun (a,b,d)=>xnE e n c a b d none inL inR
def xer:=xGC.l 63 1 [57] [(2,xeq.lp)] Tryz.f189 2 lk0 [0,1,2,6,7,8] [0,1,2,6,7] [] (q6 (xTE 0 0 0) qI (xS4 134 xTr) qI qI qI) (q1 (qB 0 1 57 xTt)) (fun (d,n,_,c,a,b,_) (e,_)=>(xkJ d n c,(a,b,e),fun p=>(.leaf (.exit 4) [AV.osl 0 0 0 d,AV.int .i64 n,AV.func 134 [],AV.int .i64 c,AV.int .i64 p.1] [bF 0 1 57 p.2]))) (0,[]) fun (d,n,_,c,_,_,_) _ (a,b,e)=>(((d,n,(),c,a,b,()),(e,())),xnE d n c a b e none)
def xna (c:Nat) (n a:Int) (b:LA):=Iter (xkJ c n a) (0,i64.wrap (2*a),b)
def xm9 (c:Nat) (n a:Int) (b:LA):=(xna c n a b).getD (0,[])
def xm8 (c:Nat) (n a:Int) (b:LA):=(xm9 c n a b).snd
def xhh {T:Type} (c:Nat) (n a:Int) (b:LA) (δ:T) (κl:(Int×LA)->T) (κr:(LA)->T):T:=br (decide (a<n)) (br ((xna c n a b).isSome) (br (decide (i64.wrap ((xm9 c n a b).fst+a)<n)) (br (decide (0+c<=(xm8 c n a b).length)&&true) δ δ) (κl (i64.wrap (a*2),xm8 c n a b))) δ) (κr (b))
def xdt (c:Nat) (n:Int):StT (Int×LA) (LA):=fun (a,b)=>xhh c n a b none inL inR
def xm7:=xGC.l 63 1 [57] [(2,xeq.lp),(9,xer.lp)] Tryz.f189 1 (lk1 xer.ok) [0,1,2,6] [] [] (q4 (xTE 0 0 0) qI (xS4 134 xTr) qI) (q1 (qB 0 1 57 xTt)) (fun (c,n,_,a,_) (b,_)=>(xdt c n,(a,b),fun p=>(.leaf (.exit 2) [] [bF 0 1 57 p]))) [] fun (c,n,_,_,_) _ (a,b)=>(((c,n,(),a,()),(b,())),xhh c n a b none)
def xiH (n:Nat) (k:Int) (a:LA):=(Iter (xco n k 20) (0,20,a)).getD (0,[])
def xiG (n:Nat) (k:Int) (a:LA):=xbM n (xiH n k a).fst k (xiH n k a).snd
def xiF (n:Nat) (k:Int) (a:LA):=Iter (xdt n k) (20,(xiG n k a).getD [])
def xjD {T:Type} (n:Nat) (k:Int) (a:LA) (δ:T) (κ:LA->T):T:=br ((Iter (xco n k 20) (0,20,a)).isSome) (br ((xiG n k a).isSome) (br ((xiF n k a).isSome) (κ ((xiF n k a).getD [])) δ) δ) δ
def xg9 (n:Nat) (k:Int) (a:LA):=xjD n k a none some
def xQ8:EO:=xGC.fM Tryz.func189 63 1 [57] [(2,xeq.lp),(9,xer.lp),(7,xm7.lp)] (lks (lkC xeq.ok (lkC xm7.ok (lkC xer.ok lkN)))) (u3 (sEq (xTE 0 0 0)) uI (sEq (xS4 (134:FuncId) xTr))) (q1 (qB 0 1 57 xTt)) (fun (n,k,_,_) (a,_) _=>xjD n k a) (fun _ _ p=>(AV.tuple [],([bF 0 1 57 p]:List Box))) []
def xiz {T:Type} (n:Nat) (a:LA) (δ:T) (κ:LA->T):T:=br ((xg9 n (↑n:Int) a).isSome) (κ ((xg9 n (↑n:Int) a).getD [])) δ
def xrz (n:Nat) (a:LA):=xiz n a none some
def xOn:EO:=xQ8.fM Tryz.func164 9 1 [57] [] lk0 (u2 (sEq (xTE 0 0 0)) (sEq (xS4 (134:FuncId) xTr))) (q1 (qB 0 1 57 xTt)) (fun (n,_,_) (a,_) _=>xiz n a) (fun _ _ p=>(AV.tuple [],([bF 0 1 57 p]:List Box))) []
def xj0 {T:Type} (d:LA) (e:Int) (c:Nat) (b:Int) (a:LA) (δ:T) (κl:(Nat×Int×LA)->T) (κr:(Nat×LA)->T):T:=br (decide (b<e)) (br (ixI d b) (br (ixS d b (Sh.list 3) 0) (br (decide ((gC d b 0).toList.length<=4398046511104)) (br (rmB c a 1 24) (κl (c+1,i64.wrap (b+1),a++[AV.list 3 (gC d b 0).toList])) δ) δ) δ) δ) (κr (c,a))
def xcw (c:LA) (d:Int):StT (Nat×Int×LA) (Nat×LA):=fun (b,e,a)=>xj0 c d b e a none inL inR
def xvt:=xOn.l 27 0 [57] [] Tryz.f133 0 lk0 [1,5,11,12,13] [1,5] [(5,1,57)] (q5 (xS4 134 xTr) (xTE 0 0 0) (qL 1) qI qI) (q1 (qB 0 1 57 xTt)) (fun (_,b,c,d,e,_) (a,_)=>(xcw c d,(b,e,a),fun p=>(.leaf (.exit 0) [AV.func 134 [],AV.osl 0 0 0 p.1] [bF 0 1 57 p.2]))) (0,[]) fun (_,_,c,d,_,_) _ (b,e,a)=>((((),b,c,d,e,()),(a,())),xj0 c d b e a none)
def xr1 (l:LA):=(Iter (xcw l (↑l.length:Int)) (0,0,[])).getD (0,[])
def xmo (l:LA):=(xr1 l).fst
def xr0 (l:LA):=xrz (xmo l) (xr1 l).snd
def xrx (l:LA):=(xr0 l).getD []
def xtA {T:Type} (l:LA) (δ:T) (κ:LA->T):T:=br (decide (24*(↑l.length:Int)<=281474976710656)&&decide ((↑l.length:Int)<=4611686018427387904)) (br ((Iter (xcw l (↑l.length:Int)) (0,0,[])).isSome) (br ((xr0 l).isSome) (br (decide (0+xmo l<=(xrx l).length)&&true) (κ (List.take (xmo l) (List.drop 0 (xrx l)))) δ) δ) δ) δ
def xws (l:LA):=xtA l none some
def xQ9:EO:=xOn.f Tryz.func133 27 0 [57] [(3,xvt.lp)] (lk1 xvt.ok) (u2 (uL 1) (sEq (xS4 (134:FuncId) xTr))) (fun (l,_,_) _=>xtA l) (fun _ p=>AV.list 1 p) []
def xzX {T:Type} (l:LA) (δ:T) (κ:LA->T):T:=br ((xws l).isSome) (κ ((xws l).getD [])) δ
def xn2 (l:LA):=xzX l none some
def xJY:EO:=xQ9.f Tryz.func106 5 0 [] [] lk0 (u1 (uL 1)) (fun (l,_) _=>xzX l) (fun _ p=>AV.list 1 p) []
def xiy (b:Nat) (c:Int) (a:LA):=decide (b+c.toNat<a.length)&&xSG (Sh.int .i64) ((a.getD (b+c.toNat) .top).cells.getD 0 .top)
def xgr {T:Type} (e c d:Nat) (k b:Int) (a:LA) (δ:T) (κl:(Int×Int×LA)->T) (κr:(Int×LA)->T):T:=br (decide (b<(↑d:Int))) (br (decide (0<=b)&&decide (b<(↑d:Int))) (br (xiy c b a) (br (decide (0<=i64.wrap (b - 1))&&decide (i64.wrap (b - 1)<(↑d:Int))) (br (decide (c+(i64.wrap (b - 1)).toNat<a.length)&&xSG (Sh.int .i64) ((a.getD (c+(i64.wrap (b - 1)).toNat) .top).cells.getD 0 .top)) (br (((a.getD (c+b.toNat) .top).cells.getD 0 .top).toInt != ((a.getD (c+(i64.wrap (b - 1)).toNat) .top).cells.getD 0 .top).toInt) (br (decide (0<=b)&&decide (b<(↑d:Int))) (br (xiy c b a) (br (decide (0<=k)&&decide (k<(↑e:Int))) (br (decide (0+k.toNat<a.length)) (κl (i64.wrap (k+1),i64.wrap (b+1),a.set (0+k.toNat) (AV.int .i64 ((a.getD (c+b.toNat) .top).cells.getD 0 .top).toInt))) δ) δ) δ) δ) (κl (k,i64.wrap (b+1),a))) δ) δ) δ) δ) (κr (k,a))
def xcs (b c d:Nat):StT (Int×Int×LA) (Int×LA):=fun (k,e,a)=>xgr b c d k e a none inL inR
def xiw:=xJY.l 61 1 [] [] Tryz.f104 1 lk0 [0,3,4,5] [0,3] [] (q4 (xTE 0 0 0) qI (pOslO 0 0) qI) (q1 (qB 0 1 3 xTt)) (fun (b,k,(c,d),e,_) (a,_)=>(xcs b c d,(k,e,a),fun p=>(.leaf (.exit 2) [AV.osl 0 0 0 b,AV.int .i64 p.1] [bF 0 1 3 p.2]))) (0,[]) fun (b,_,(c,d),_,_) _ (k,e,a)=>(((b,k,(c,d),e,()),(a,())),xgr b c d k e a none)
def xnW (a:Nat) (k:Int) (b:LA):=Iter (xcs a (0+k.toNat) (a - k.toNat)) (k,1,b)
def xnV (b:Nat) (k:Int) (a:LA):=(xnW b k a).getD (0,[])
def xiu (b:Nat) (k:Int) (a:LA):=(xnV b k a).fst
def xiv (b:Nat) (k:Int) (a:LA):=(xnV b k a).snd
def xnT (a:Nat) (k:Int) (b:LA):=decide (0<=xiu a k b)&&decide (xiu a k b<=(↑a:Int))
def xel (b:Nat) (k:Int) (a:LA):=(xiu b k a).toNat
def xnU (a:Nat) (k:Int) (b:LA):Nat:=0+xel a k b+(a - xel a k b)
def xgq {T:Type} (b:Nat) (k:Int) (a:LA) (δ:T) (κl:(Int×LA)->T) (κr:(Bool×(Nat×LA)×(LA))->T):T:=br (decide (k<(↑b:Int))) (br (decide (0<=k)&&decide (k<(↑b:Int))) (br (decide (0+k.toNat<a.length)&&xSG (Sh.int .i64) ((a.getD (0+k.toNat) .top).cells.getD 0 .top)) (br (decide (0<=i64.wrap (k - 1))&&decide (i64.wrap (k - 1)<(↑b:Int))) (br (decide (0+(i64.wrap (k - 1)).toNat<a.length)&&xSG (Sh.int .i64) ((a.getD (0+(i64.wrap (k - 1)).toNat) .top).cells.getD 0 .top)) (br (((a.getD (0+k.toNat) .top).cells.getD 0 .top).toInt==((a.getD (0+(i64.wrap (k - 1)).toNat) .top).cells.getD 0 .top).toInt) (br (decide (0<=k)&&decide (k<=(↑b:Int))) (br ((xnW b k a).isSome) (br (xnT b k a) (br (decide (xnU b k a<=(xiv b k a).length)) (br (xnT b k a&&true) (κr (true,(xel b k a - 0,List.take (0+xel b k a) (xiv b k a)++(List.replicate (b - xel b k a) (AV.int .i64 0)++List.drop (xnU b k a) (xiv b k a))),[])) δ) δ) δ) δ) δ) (κl (i64.wrap (k+1),a))) δ) δ) δ) δ) (κr (false,(0,[]),(a)))
def xbe (b:Nat):StT (Int×LA) (Bool×(Nat×LA)×(LA)):=fun (k,a)=>xgq b k a none inL inR
def xu1:=xJY.l 61 1 [] [(9,xiw.lp)] Tryz.f104 0 (lk1 xiw.ok) [0,3] [0,2] [] (q2 (xTE 0 0 0) qI) (q1 (qB 0 1 3 xTt)) (fun (a,k,_) (b,_)=>(xbe a,(k,b),fun p=>(.node p.1 (.leaf .ret [AV.osl 0 0 0 a,AV.osl 0 0 0 p.2.1.1] [bF 0 1 3 p.2.1.2]) (.leaf (.exit 0) [AV.osl 0 0 0 a,.top] [bF 0 1 3 p.2.2])))) (false,(0,[]),[]) fun (a,_,_) _ (k,b)=>(((a,k,()),(b,())),xgq a k b none)
def xrZ (n:Nat) (a:LA):=(Iter (xbe n) (1,a)).getD (false,(0,[]),[])
def xrY (n:Nat) (a:LA):=(xrZ n a).snd
def xrX (n:Nat) (a:LA):=(xrY n a).fst
def xtq {T:Type} (n:Nat) (a:LA) (δ:T) (κ:Nat×LA->T):T:=br (decide ((↑n:Int)<2)) (κ (n,a)) (br ((Iter (xbe n) (1,a)).isSome) (br ((xrZ n a).fst) (κ ((xrX n a).fst,(xrX n a).snd)) (κ (n,(xrY n a).snd))) δ)
def xwn (n:Nat) (a:LA):=xtq n a none some
def xOl:EO:=xJY.fM Tryz.func104 61 1 [] [(9,xiw.lp),(4,xu1.lp)] (lks (lkC xu1.ok (lkC xiw.ok lkN))) (u1 (sEq (xTE 0 0 0))) (q1 (qB 0 1 3 xTt)) (fun (n,_) (a,_) _=>xtq n a) (fun _ _ p=>(AV.osl 0 0 0 p.1,([bF 0 1 3 p.2]:List Box))) (0,[])
def xhp (b:LA) (c:Int) (a:LA):=a++[AV.int .i64 (gC b c 1).toInt]
def xic {T:Type} (d:LA) (e:Int) (a:Nat) (c:Int) (b:LA) (δ:T) (κl:(Nat×Int×LA)->T) (κr:(Nat×LA)->T):T:=br (decide (c<e)) (br (ixI d c) (br (ixT d c 3 [Sh.list 3,Sh.int .i64,Sh.int .i64] 0) (br (xhe (gC d c 1).toInt (gC d c 2).toInt) (br (rmB a b 1 8) (br (decide ((gC d c 2).toInt<1099511627776)) (br (a+1==(xhp d c b).length&&(decide ((a+1+1)*8<=140737488355328)&&decide (a+1+1<=4611686018427387904))) (κl (a+1+1,i64.wrap (c+1),xhp d c b++[AV.int .i64 (gC d c 2).toInt])) δ) (κl (a+1,i64.wrap (c+1),xhp d c b))) δ) (κl (a,i64.wrap (c+1),b))) δ) δ) (κr (a,b))
def xcc (c:LA) (d:Int):StT (Nat×Int×LA) (Nat×LA):=fun (b,e,a)=>xic c d b e a none inL inR
def xtD:=xOl.l 37 0 [] [] Tryz.f67 0 lk0 [3,7,8,9] [3] [(3,1,3)] (q4 (xTE 0 0 0) (qL 3) qI qI) (q1 (qB 0 1 3 xTt)) (fun (b,c,d,e,_) (a,_)=>(xcc c d,(b,e,a),fun p=>(.leaf (.exit 0) [AV.osl 0 0 0 p.1] [bF 0 1 3 p.2]))) (0,[]) fun (_,c,d,_,_) _ (b,e,a)=>(((b,c,d,e,()),(a,())),xic c d b e a none)
def xpR (l:LA):=Iter (xcc l (↑l.length:Int)) (1,0,[AV.int .i64 0])
def xpQ (l:LA):=(xpR l).getD (0,[])
def xkd (l:LA):=(xpQ l).fst
def xke (l:LA):=(xpQ l).snd
def xpP (l:LA):=xwn (xkd l) (srtI (xke l))
def xpO (l:LA):=(xpP l).getD (0,[])
def xpM (l:LA):=(xpO l).snd
def xpN (l:LA):=(xpO l).fst
def xrB {T:Type} (l:LA) (δ:T) (κ:LA->T):T:=br ((xpR l).isSome) (br ((xkd l).beq (xke l).length&&(decide (xkd l<4611686018427387904)&&(xke l).all isI)) (br ((xpP l).isSome) (br (decide (0+xpN l<=(xpM l).length)&&true) (κ (List.take (xpN l) (List.drop 0 (xpM l)))) δ) δ) δ) δ
def xho (l:LA):=xrB l none some
def xQ6:EO:=xOl.f Tryz.func67 37 0 [] [(3,xtD.lp)] (lk1 xtD.ok) (u1 (uL 3)) (fun (l,_) _=>xrB l) (fun _ p=>AV.list 1 p) []
def xpb (a b t:Int):Bool:=(br (xhe a b) (br (decide (t>=a)) ((decide (t<b))) ((false))) ((false)))
def xCx {T:Type} (a b t:Int) (δ:T) (κ:Bool->T):T:=br (xhe a b) (br (decide (t>=a)) (κ (decide (t<b))) (κ (false))) (κ (false))
def xOm:EO:=xQ6.fT Tryz.func105 19 0 [] [] lk0 (fun ((a,b,_),t,_)=>xCx a b t none) (u2 (xTJ (u2 uI uI)) uI) (fun ((a,b,_),t,_)=>xpb a b t) (fun _ p=>(AV.bool p))
def xnI {T:Type} (t:Int) (d:LA) (e:Int) (c:Nat) (b:Int) (a:LA) (δ:T) (κl:(Nat×Int×LA)->T) (κr:(Nat×LA)->T):T:=br (decide (b<e)) (br (ixI d b) (br (ixT d b 3 [Sh.list 3,Sh.int .i64,Sh.int .i64] 0) (br (xpb (gC d b 1).toInt (gC d b 2).toInt t) (br (rmB c a 1 24) (κl (c+1,i64.wrap (b+1),a++[AV.list 3 (gC d b 0).toList])) δ) (κl (c,i64.wrap (b+1),a))) δ) δ) (κr (c,a))
def xeO (t:Int) (d:LA) (e:Int):StT (Nat×Int×LA) (Nat×LA):=fun (b,c,a)=>xnI t d e b c a none inL inR
def xyI:=xOm.l 26 0 [] [] Tryz.f68 0 lk0 [1,5,8,9,10] [5] [(5,1,57)] (q5 qI (xTE 0 0 0) (qL 3) qI qI) (q1 (qB 0 1 57 xTt)) (fun (t,b,d,e,c,_) (a,_)=>(xeO t d e,(b,c,a),fun p=>(.leaf (.exit 0) [AV.osl 0 0 0 p.1] [bF 0 1 57 p.2]))) (0,[]) fun (t,_,d,e,_,_) _ (b,c,a)=>(((t,b,d,e,c,()),(a,())),xnI t d e b c a none)
def xvQ (l:LA) (t:Int):=(Iter (xeO t l (↑l.length:Int)) (0,0,[])).getD (0,[])
def xvO (l:LA) (t:Int):=(xvQ l t).fst
def xvP (l:LA) (t:Int):=(xvQ l t).snd
def xvN (l:LA) (t:Int):=xn2 (List.take (xvO l t) (List.drop 0 (xvP l t)))
def xyg {T:Type} (l:LA) (t:Int) (δ:T) (κ:LA->T):T:=br ((Iter (xeO t l (↑l.length:Int)) (0,0,[])).isSome) (br (decide (0+xvO l t<=(xvP l t).length)&&true) (br ((xvN l t).isSome) (κ ((xvN l t).getD [])) δ) δ) δ
def xe3 (l:LA) (t:Int):=xyg l t none some
def xQ7:EO:=xOm.f Tryz.func68 26 0 [] [(3,xyI.lp)] (lk1 xyI.ok) (u2 (uL 3) uI) (fun (l,t,_) _=>xyg l t) (fun _ p=>AV.list 1 p) []
def xkt (b a:Bool):Int:=(br (b) (((-1))) (br (a) ((1)) ((0))))
def xHO {T:Type} (b a:Bool) (δ:T) (κ:Int->T):T:=br (b) (κ ((-1))) (br (a) (κ (1)) (κ (0)))
def xPX:EO:=xQ7.fT Tryz.func128 7 0 [] [] lk0 (fun (b,a,_)=>xHO b a none) (u2 (sEq pBool) (sEq pBool)) (fun (b,a,_)=>xkt b a) (fun _ p=>(AV.int .i64 p))
def xhY (a b:Int) (c:List UInt8) (d e:Int) (f:List UInt8):Int:=(br (a != d) ((xkt (decide (a<d)) (decide (a>d)))) (br (b != e) ((xkt (decide (b<e)) (decide (b>e)))) ((xkt (Op.bytesLess c f) !(Op.bytesLess c f || c==f)))))
def xEH {T:Type} (a b:Int) (c:List UInt8) (d e:Int) (f:List UInt8) (δ:T) (κ:Int->T):T:=br (a != d) (κ (xkt (decide (a<d)) (decide (a>d)))) (br (b != e) (κ (xkt (decide (b<e)) (decide (b>e)))) (κ (xkt (Op.bytesLess c f) !(Op.bytesLess c f || c==f))))
def xK3:EO:=xPX.fT Tryz.func96 48 0 [] [] lk0 (fun ((a,b,c,_),(d,e,f,_),_)=>xEH a b c d e f none) (u2 (xTJ (u3 uI uI (sEq pStr))) (xTJ (u3 uI uI (sEq pStr)))) (fun ((a,b,c,_),(d,e,f,_),_)=>xhY a b c d e f) (fun _ p=>(AV.int .i64 p))
def xe1 (a b:LA) (i:Int):=xhY (gC a i 0).toInt (gC a i 1).toInt (gC a i 2).toStr (gC b i 0).toInt (gC b i 1).toInt (gC b i 2).toStr
def xfk {T:Type} (a b:LA) (i:Int) (δ:T) (κl:(Int)->T) (κr:(Bool×(Int)×(Unit))->T):T:=br (decide (i<a.length)) (br (decide (i<b.length)) (br (ixI a i) (br (ixT a i 3 [Sh.int .i64,Sh.int .i64,Sh.str] 0) (br (ixI b i) (br (ixT b i 3 [Sh.int .i64,Sh.int .i64,Sh.str] 0) (br (xe1 a b i != 0) (κr (true,(xe1 a b i),())) (κl (i64.wrap (i+1)))) δ) δ) δ) δ) (κr (false,0,()))) (κr (false,0,()))
def xbE (a b:LA):StT (Int) (Bool×(Int)×(Unit)):=fun (i)=>xfk a b i none inL inR
def xvC:=xK3.l 41 0 [] [] Tryz.f64 0 lk0 [0,1,5] [0,1,4] [] (q3 (qL 3) (qL 3) qI) xTr (fun (a,b,i,_) _=>(xbE a b,(i),fun p=>(.node p.1 (.leaf .ret [AV.list 3 a,AV.list 3 b,AV.int .i64 p.2.1] []) (.leaf (.exit 0) [AV.list 3 a,AV.list 3 b,.top] [])))) (false,0,()) fun (a,b,_,_) _ (i)=>(((a,b,i,()),()),xfk a b i none)
def xuk {T:Type} (a b:LA) (δ:T) (κ:Int->T):T:=br ((Iter (xbE a b) 0).isSome) (br (((Iter (xbE a b) 0).getD (false,0,())).fst) (κ (((Iter (xbE a b) 0).getD (false,0,())).snd.fst)) (br (decide ((↑a.length:Int)<(↑b.length:Int))) (κ ((-1))) (br (decide ((↑a.length:Int)>(↑b.length:Int))) (κ (1)) (κ (0))))) δ
def xbt (a b:LA):=xuk a b none some
def xPY:EO:=xK3.f Tryz.func64 41 0 [] [(2,xvC.lp)] (lk1 xvC.ok) (u2 (uL 3) (uL 3)) (fun (a,b,_) _=>xuk a b) (fun _ p=>AV.int .i64 p) 0
def xyl {T:Type} (a b:LA) (δ:T) (κ:Bool->T):T:=br ((xbt a b).isSome) (κ ((xbt a b).getD 0==0)) δ
def xsc (a b:LA):=xyl a b none some
def xK4:EO:=xPY.f Tryz.func57 9 0 [] [] lk0 (u2 (uL 3) (uL 3)) (fun (a,b,_) _=>xyl a b) (fun _ p=>AV.bool p) false
def xit {T:Type} (a b:LA) (i:Int) (δ:T) (κl:(Int)->T) (κr:(Bool×(Bool)×(Unit))->T):T:=br (decide (i<a.length)) (br (ixI a i) (br (ixT a i 3 [Sh.int .i64,Sh.int .i64] 1) (br (ixI b i) (br (ixT b i 3 [Sh.int .i64,Sh.int .i64] 1) (br (!((gC a i 1).toInt==(gC b i 1).toInt&&((gC a i 2).toInt==(gC b i 2).toInt&&true))) (κr (true,(false),())) (br (ixI a i) (br (ixS a i (Sh.list 3) 0) (br (ixI b i) (br (ixS b i (Sh.list 3) 0) (br ((xbt (gC a i 0).toList (gC b i 0).toList).isSome) (br ((xbt (gC a i 0).toList (gC b i 0).toList).getD 0 != 0) (κr (true,(false),())) (κl (i64.wrap (i+1)))) δ) δ) δ) δ) δ)) δ) δ) δ) δ) (κr (false,false,()))
def xce (a b:LA):StT (Int) (Bool×(Bool)×(Unit)):=fun (i)=>xit a b i none inL inR
def xtK:=xK4.l 42 0 [] [] Tryz.f38 0 lk0 [0,1,5] [4] [] (q3 (qL 3) (qL 3) qI) xTr (fun (a,b,i,_) _=>(xce a b,(i),fun p=>(.node p.1 (.leaf .ret [AV.bool p.2.1] []) (.leaf (.exit 0) [.top] [])))) (false,false,()) fun (a,b,_,_) _ (i)=>(((a,b,i,()),()),xit a b i none)
def xrW {T:Type} (a b:LA) (δ:T) (κ:Bool->T):T:=br ((↑a.length:Int) != (↑b.length:Int)) (κ (false)) (br ((Iter (xce a b) 0).isSome) (br (((Iter (xce a b) 0).getD (false,false,())).fst) (κ (((Iter (xce a b) 0).getD (false,false,())).snd.fst)) (κ (true))) δ)
def xkD (a b:LA):=xrW a b none some
def xK5:EO:=xK4.f Tryz.func38 42 0 [] [(4,xtK.lp)] (lk1 xtK.ok) (u2 (uL 3) (uL 3)) (fun (a,b,_) _=>xrW a b) (fun _ p=>AV.bool p) false
def xfr (a b:LA) (i k:Int):=decide ((xbt (gC b k 0).toList (gC a i 0).toList).getD 0<0)
def xfs (b:LA) (k:Int):=decide (k.toNat<b.length)&&((b.getD k.toNat .top).cells.length==3&&xSN [Sh.list 3,Sh.int .i64,Sh.int .i64] (b.getD k.toNat .top).cells 0)
def xft (a:LA) (i:Int):=decide (i.toNat<a.length)&&((a.getD i.toNat .top).cells.length==3&&xSN [Sh.list 3,Sh.int .i64,Sh.int .i64] (a.getD i.toNat .top).cells 0)
def xd4 (b:LA) (k:Int):=ixI b k
def xd5 (a:LA) (i:Int):=ixI a i
def xdr {T:Type} (b:LA) (c:Nat) (i k:Int) (a:LA) (δ:T) (κl:(Nat×Int×Int×LA)->T):T:=br (xd4 b k) (br (xfs b k) (br (rmB c a 1 40) (κl (c+1,i,i64.wrap (k+1),a++[AV.agg [AV.list 3 (gC b k 0).toList,AV.int .i64 (gC b k 1).toInt,AV.int .i64 (gC b k 2).toInt]])) δ) δ) δ
def xds {T:Type} (a:LA) (c:Nat) (i k:Int) (b:LA) (δ:T) (κl:(Nat×Int×Int×LA)->T):T:=br (xd5 a i) (br (xft a i) (br (rmB c b 1 40) (κl (c+1,i64.wrap (i+1),k,b++[AV.agg [AV.list 3 (gC a i 0).toList,AV.int .i64 (gC a i 1).toInt,AV.int .i64 (gC a i 2).toInt]])) δ) δ) δ
def xdq {T:Type} (a b:LA) (d:Nat) (i k:Int) (c:LA) (δ:T) (κl:(Nat×Int×Int×LA)->T):T:=br (i==(↑a.length:Int)) (xdr b d i k c δ κl) (br (decide (k<b.length)) (br (xd4 b k) (br (ixS b k (Sh.list 3) 0) (br (xd5 a i) (br (ixS a i (Sh.list 3) 0) (br ((xbt (gC b k 0).toList (gC a i 0).toList).isSome) (br (xfr a b i k) (xdr b d i k c δ κl) (xds a d i k c δ κl)) δ) δ) δ) δ) δ) (xds a d i k c δ κl))
def xeK {T:Type} (a b:LA) (d:Nat) (i k:Int) (c:LA) (δ:T) (κl:(Nat×Int×Int×LA)->T) (κr:(Nat×LA)->T):T:=br (decide (i<a.length)) (xdq a b d i k c δ κl) (br (decide (k<b.length)) (xdq a b d i k c δ κl) (κr (d,c)))
def xbQ (a b:LA):StT (Nat×Int×Int×LA) (Nat×LA):=fun (d,i,k,c)=>xeK a b d i k c none inL inR
def xw0:=xK5.l 61 0 [] [] Tryz.f123 0 lk0 [0,1,5,6,7] [5] [(5,3,59)] (q5 (qL 3) (qL 3) (xTE 0 0 0) qI qI) (q1 (qB 0 3 59 xTt)) (fun (a,b,d,i,k,_) (c,_)=>(xbQ a b,(d,i,k,c),fun p=>(.leaf (.exit 0) [AV.osl 0 0 0 p.1] [bF 0 3 59 p.2]))) (0,[]) fun (a,b,_,_,_,_) _ (d,i,k,c)=>(((a,b,d,i,k,()),(c,())),xeK a b d i k c none)
def xuT (a b:LA):=Iter (xbQ a b) (0,0,0,[])
def xuS (a b:LA):=(xuT a b).getD (0,[])
def xuQ (a b:LA):=(xuS a b).fst
def xuR (a b:LA):=(xuS a b).snd
def xwj {T:Type} (a b:LA) (δ:T) (κ:LA->T):T:=br ((xuT a b).isSome) (br (decide (0+xuQ a b<=(xuR a b).length)&&true) (κ (List.take (xuQ a b) (List.drop 0 (xuR a b)))) δ) δ
def xzK (a b:LA):=xwj a b none some
def xD3:EO:=xK5.f Tryz.func123 61 0 [] [(3,xw0.lp)] (lk1 xw0.ok) (u2 (uL 3) (uL 3)) (fun (a,b,_) _=>xwj a b) (fun _ p=>AV.list 3 p) []
def xqv (R:LA->Option (LA)):LA->Option (Bool×AV):=ocOf (xTq (xTI 3 xTt) xTs) fun (l,_)=>((R l).isSome,AV.list 3 ((R l).getD []))
def xjB (R:LA->Option (LA)):Env:=(xD3.E.with 89 (xqv R)).fn 20 0 (lsOf []) (xS3 [])
def xo3 (R:LA->Option (LA)):Prop:=OcOk P0 xTo 89 (xqv R)
theorem xB3 (R:LA->Option (LA)) (a:xo3 R):xSI P0 (xTo.at 0) (xjB R):=(xD3.ok.with a).fn
theorem xA5 (R:LA->Option (LA)):LoOk P0 (xTo.at (xjB R).pin) (xjB R) (Tryz.f89.body.getD .skip):=xs0 (by kernel_rfl)
def xtj (l:LA):=decide (0<=i64.wrap ((↑l.length:Int).tdiv 2))&&decide (i64.wrap ((↑l.length:Int).tdiv 2)<=(↑l.length:Int))
def xtk (R:LA->Option (LA)) (l:LA):Option (LA):=R (List.take (l.length - (i64.wrap ((↑l.length:Int).tdiv 2)).toNat) (List.drop (i64.wrap ((↑l.length:Int).tdiv 2)).toNat l))
def xti (R:LA->Option (LA)) (l:LA):Option (LA):=xzK ((R (List.take ((i64.wrap ((↑l.length:Int).tdiv 2)).toNat - 0) (List.drop 0 l))).getD []) ((xtk R l).getD [])
def xhy {T:Type} (R:LA->Option (LA)) (l:LA) (δ:T) (κ:LA->T):T:=br (decide ((↑l.length:Int)<2)) (κ (l)) (br (xtj l&&true) (br ((R (List.take ((i64.wrap ((↑l.length:Int).tdiv 2)).toNat - 0) (List.drop 0 l))).isSome) (br (xtj l) (br ((xtk R l).isSome) (br ((xti R l).isSome) (κ ((xti R l).getD [])) δ) δ) δ) δ) δ)
def xda (R:LA->Option (LA)) (l:LA):=xhy R l none some
theorem xEQ (R:LA->Option (LA)) (l:LA):Enc (fun (p:LA)=>((AV.list 3 p):AV)) (xda R l) (XF P0 (xjB R) Tryz.f89 (Tryz.f89.body.getD .skip) [AV.list 3 l]):=by
 refine eV (xhy R l none (fun (p:LA)=>some ((AV.list 3 p):AV))) (by kernel_rfl) ?_;unfold xda xhy;repeat' first|exact eN|exact eS rfl|apply eB
def xEP (R:LA->Option (LA)):LA->Option (Bool×AV):=ocOf (xTq (xTI 3 xTt) xTs) fun (l,_)=>((xda R l).isSome,(AV.list 3 ((xda R l).getD [])))
theorem xEO (R:LA->Option (LA)) (c:xo3 R):OcOk P0 xTo 89 (xEP R):=xmD fun e g f=>by
 obtain ⟨l,_⟩:=e;obtain ⟨a,b⟩:=Prod.mk.inj f;refine xdU (p:=(xjB R).pin) (xf6 xSR (xSS P0 _) rfl (xB3 R c) Tryz.func89 rfl (by kernel_rfl) (xA5 R) ((xEQ R _ _ (xcf (d:=[]) a)).trans ?_))
 exact congrArg some b
def xcn:Nat->LA->Option (LA)
 | 0=>fun _=>none
 | fu_+1=>fun l=>xda (xcn fu_) l
theorem xw1:∀ n,xo3 (xcn n)
 | 0=>xmD fun _ _ h=>absurd (Prod.mk.inj h).1 Bool.false_ne_true
 | fu_+1=>fun a r h=>xEO (xcn fu_) (xw1 fu_) a r h
def xK6:Env:=xD3.E.with 89 (xqv (xcn 100))
theorem xK8:xSI P0 xTo xK6:=xD3.ok.with (xw1 _)
def xK7:EO:=EO.mk xK6 xK8
def xsy (a b c d:Int):Int:=(br (a==c&&(b==d&&true)) ((0)) (br (decide (a<c)) (((-1))) (br (a==c) (br (decide (b<d)) (((-1))) ((1))) ((1)))))
def xEF {T:Type} (a b c d:Int) (δ:T) (κ:Int->T):T:=br (a==c&&(b==d&&true)) (κ (0)) (br (decide (a<c)) (κ ((-1))) (br (a==c) (br (decide (b<d)) (κ ((-1))) (κ (1))) (κ (1))))
def xPZ:EO:=xK7.fT Tryz.func126 27 0 [] [] lk0 (fun ((a,b,_),(c,d,_),_)=>xEF a b c d none) (u2 (xTJ (u2 uI uI)) (xTJ (u2 uI uI))) (fun ((a,b,_),(c,d,_),_)=>xsy a b c d) (fun _ p=>(AV.int .i64 p))
def xKA:Int×Int×List UInt8:=((0,0,[]))
def xHN {T:Type} (δ:T) (κ:Int×Int×List UInt8->T):T:=κ (0,0,[])
def xPx:EO:=xPZ.fT Tryz.func120 2 0 [] [] lk0 (fun _=>xHN none) xTs (fun _=>xKA) (fun _ p=>(AV.agg [AV.int .i64 p.1,AV.int .i64 p.2.1,AV.str p.2.2]))
def xBq {T:Type} (a:LA) (i:Int) (δ:T) (κ:Int×Int×List UInt8->T):T:=br (decide (i<0)) (κ (0,0,[])) (br (decide (i>=a.length)) (κ (0,0,[])) (br (ixI a i) (br (ixT a i 3 [Sh.int .i64,Sh.int .i64,Sh.str] 0) (κ ((gC a i 0).toInt,(gC a i 1).toInt,(gC a i 2).toStr)) δ) δ))
def xqd (a:LA) (i:Int):=xBq a i none some
def xIX:EO:=xPx.f Tryz.func86 18 0 [] [] lk0 (u2 (uL 3) uI) (fun (a,i,_) _=>xBq a i) (fun _ p=>AV.agg [AV.int .i64 p.1,AV.int .i64 p.2.1,AV.str p.2.2]) (0,0,[])
def xqe (o:LA) (i:Int):=ixI o i
def xwR (a o:LA) (i:Int):=(xqd a (gC o i 0).toInt).getD (0,0,[])
def xwS (b o:LA) (i:Int):=(xqd b (gC o i 0).toInt).getD (0,0,[])
def xwP (a o:LA) (i:Int):=(xwR a o i).snd
def xwQ (b o:LA) (i:Int):=(xwS b o i).snd
def xwO (a b o:LA) (i:Int):=xhY (xwR a o i).fst (xwP a o i).fst (xwP a o i).snd (xwS b o i).fst (xwQ b o i).fst (xwQ b o i).snd
def xrH {T:Type} (a b o:LA) (i:Int) (δ:T) (κl:(Int)->T) (κr:(Bool×(Bool)×(Unit))->T):T:=br (decide (i<o.length)) (br (xqe o i) (br (ixS o i (Sh.int .i64) 0) (br ((xqd a (gC o i 0).toInt).isSome) (br (xqe o i) (br (ixS o i (Sh.int .i64) 0) (br ((xqd b (gC o i 0).toInt).isSome) (br (xwO a b o i != 0) (br (xqe o i) (br (decide (i.toNat<o.length)&&xSG Sh.bool (gC o i 1)) (κr (true,(!decide (xwO a b o i<0)==(gC o i 1).toBool),())) δ) δ) (κl (i64.wrap (i+1)))) δ) δ) δ) δ) δ) δ) (κr (false,false,()))
def xef (a b o:LA):StT (Int) (Bool×(Bool)×(Unit)):=fun (i)=>xrH a b o i none inL inR
def xwN:=xIX.l 44 0 [] [] Tryz.f152 0 lk0 [0,1,2,7] [0,1,6] [] (q4 (qL 3) (qL 3) (qL 2) qI) xTr (fun (a,b,o,i,_) _=>(xef a b o,(i),fun p=>(.node p.1 (.leaf .ret [AV.list 3 a,AV.list 3 b,AV.bool p.2.1] []) (.leaf (.exit 0) [AV.list 3 a,AV.list 3 b,.top] [])))) (false,false,()) fun (a,b,o,_,_) _ (i)=>(((a,b,o,i,()),()),xrH a b o i none)
def xwb {T:Type} (a b o:LA) (δ:T) (κ:Bool->T):T:=br ((Iter (xef a b o) 0).isSome) (br (((Iter (xef a b o) 0).getD (false,false,())).fst) (κ (((Iter (xef a b o) 0).getD (false,false,())).snd.fst)) (br ((xbt a b).isSome) (κ (decide ((xbt a b).getD 0<0))) δ)) δ
def xum (a b o:LA):=xwb a b o none some
def xIY:EO:=xIX.f Tryz.func152 44 0 [] [(2,xwN.lp)] (lk1 xwN.ok) (u3 (uL 3) (uL 3) (uL 2)) (fun (a,b,o,_) _=>xwb a b o) (fun _ p=>AV.bool p) false
def xdx (a:LA) (i:Int):=decide (i.toNat<a.length)&&xSG (Sh.list 3) (gC a i 0)
def xd0 (b:LA) (k:Int):=decide (k.toNat<b.length)&&xSG (Sh.list 3) (gC b k 0)
def xd1 (b:LA) (k:Int):=ixI b k
def xd2 (a:LA) (i:Int):=ixI a i
def xdl {T:Type} (b:LA) (c:Nat) (i k:Int) (a:LA) (δ:T) (κl:(Nat×Int×Int×LA)->T):T:=br (xd1 b k) (br (xd0 b k) (br (rmB c a 1 24) (κl (c+1,i,i64.wrap (k+1),a++[AV.list 3 (gC b k 0).toList])) δ) δ) δ
def xdm {T:Type} (a:LA) (c:Nat) (i k:Int) (b:LA) (δ:T) (κl:(Nat×Int×Int×LA)->T):T:=br (xd2 a i) (br (xdx a i) (br (rmB c b 1 24) (κl (c+1,i64.wrap (i+1),k,b++[AV.list 3 (gC a i 0).toList])) δ) δ) δ
def xdk {T:Type} (a b o:LA) (d:Nat) (i k:Int) (c:LA) (δ:T) (κl:(Nat×Int×Int×LA)->T):T:=br (i==(↑a.length:Int)) (xdl b d i k c δ κl) (br (decide (k<b.length)) (br (xd1 b k) (br (xd0 b k) (br (xd2 a i) (br (xdx a i) (br ((xum (gC b k 0).toList (gC a i 0).toList o).isSome) (br ((xum (gC b k 0).toList (gC a i 0).toList o).getD false) (xdl b d i k c δ κl) (xdm a d i k c δ κl)) δ) δ) δ) δ) δ) (xdm a d i k c δ κl))
def xeJ {T:Type} (a b o:LA) (d:Nat) (i k:Int) (c:LA) (δ:T) (κl:(Nat×Int×Int×LA)->T) (κr:(Nat×LA)->T):T:=br (decide (i<a.length)) (xdk a b o d i k c δ κl) (br (decide (k<b.length)) (xdk a b o d i k c δ κl) (κr (d,c)))
def xbP (a b o:LA):StT (Nat×Int×Int×LA) (Nat×LA):=fun (d,i,k,c)=>xeJ a b o d i k c none inL inR
def xwT:=xIY.l 62 0 [] [] Tryz.f122 0 lk0 [0,1,2,7,8,9] [7] [(7,1,57)] (q6 (qL 1) (qL 1) (qL 2) (xTE 0 0 0) qI qI) (q1 (qB 0 1 57 xTt)) (fun (a,b,o,d,i,k,_) (c,_)=>(xbP a b o,(d,i,k,c),fun p=>(.leaf (.exit 0) [AV.osl 0 0 0 p.1] [bF 0 1 57 p.2]))) (0,[]) fun (a,b,o,_,_,_,_) _ (d,i,k,c)=>(((a,b,o,d,i,k,()),(c,())),xeJ a b o d i k c none)
def xuq (a b o:LA):=Iter (xbP a b o) (0,0,0,[])
def xup (a b o:LA):=(xuq a b o).getD (0,[])
def xun (a b o:LA):=(xup a b o).snd
def xuo (a b o:LA):=(xup a b o).fst
def xwc {T:Type} (a b o:LA) (δ:T) (κ:LA->T):T:=br ((xuq a b o).isSome) (br (decide (0+xuo a b o<=(xun a b o).length)&&true) (κ (List.take (xuo a b o) (List.drop 0 (xun a b o)))) δ) δ
def xzz (a b o:LA):=xwc a b o none some
def xCQ:EO:=xIY.f Tryz.func122 62 0 [] [(3,xwT.lp)] (lk1 xwT.ok) (u3 (uL 1) (uL 1) (uL 2)) (fun (a,b,o,_) _=>xwc a b o) (fun _ p=>AV.list 1 p) []
def xs9 (R:LA->LA->Option (LA)):LA->Option (Bool×AV):=ocOf (xTq (xTI 1 xTt) (xTq (xTI 2 xTt) xTs)) fun (l,(o,_))=>((R l o).isSome,AV.list 1 ((R l o).getD []))
def xmR (R:LA->LA->Option (LA)):Env:=(xCQ.E.with 88 (xs9 R)).fn 34 0 (lsOf []) (xS3 [])
def xrG (R:LA->LA->Option (LA)):Prop:=OcOk P0 xTo 88 (xs9 R)
theorem xC1 (R:LA->LA->Option (LA)) (a:xrG R):xSI P0 (xTo.at 0) (xmR R):=(xCQ.ok.with a).fn
theorem xB0 (R:LA->LA->Option (LA)):LoOk P0 (xTo.at (xmR R).pin) (xmR R) (Tryz.f88.body.getD .skip):=xs0 (by kernel_rfl)
def xmT (l:LA):=decide (0<=i64.wrap ((↑l.length:Int).tdiv 2))&&decide (i64.wrap ((↑l.length:Int).tdiv 2)<=(↑l.length:Int))
def xgT (l:LA):Nat:=0+((l.getD 0 .top).cells.getD 0 .top).toList.length
def xmU (R:LA->LA->Option (LA)) (l o:LA):Option (LA):=R (List.take (l.length - (i64.wrap ((↑l.length:Int).tdiv 2)).toNat) (List.drop (i64.wrap ((↑l.length:Int).tdiv 2)).toNat l)) o
def xmS (R:LA->LA->Option (LA)) (l o:LA):Option (LA):=xzz ((R (List.take ((i64.wrap ((↑l.length:Int).tdiv 2)).toNat - 0) (List.drop 0 l)) o).getD []) ((xmU R l o).getD []) o
def xgc {T:Type} (R:LA->LA->Option (LA)) (l o:LA) (δ:T) (κ:LA->T):T:=br ((↑l.length:Int)==0) (κ ([])) (br ((↑l.length:Int)==1) (br (decide (0<(↑l.length:Int))) (br (decide (0<l.length)&&xSG (Sh.list 3) ((l.getD 0 .top).cells.getD 0 .top)) (br (decide (xgT l*32<=140737488355328)&&decide (xgT l<=4611686018427387904)) (br (decide (0+xgT l<=([]++((l.getD 0 .top).cells.getD 0 .top).toList).length)&&true&&true&&true) (κ ([AV.list 3 (List.take (xgT l) (List.drop 0 ([]++((l.getD 0 .top).cells.getD 0 .top).toList)))])) δ) δ) δ) δ) (br (xmT l&&true) (br ((R (List.take ((i64.wrap ((↑l.length:Int).tdiv 2)).toNat - 0) (List.drop 0 l)) o).isSome) (br (xmT l) (br ((xmU R l o).isSome) (br ((xmS R l o).isSome) (κ ((xmS R l o).getD [])) δ) δ) δ) δ) δ))
def xcM (R:LA->LA->Option (LA)) (l o:LA):=xgc R l o none some
theorem xGA (R:LA->LA->Option (LA)) (l o:LA):Enc (fun (p:LA)=>((AV.list 1 p):AV)) (xcM R l o) (XF P0 (xmR R) Tryz.f88 (Tryz.f88.body.getD .skip) [AV.list 1 l,AV.list 2 o]):=by
 refine eV (xgc R l o none (fun (p:LA)=>some ((AV.list 1 p):AV))) (by kernel_rfl) ?_;unfold xcM xgc;repeat' first|exact eN|exact eS rfl|apply eB
def xGz (R:LA->LA->Option (LA)):LA->Option (Bool×AV):=ocOf (xTq (xTI 1 xTt) (xTq (xTI 2 xTt) xTs)) fun (l,(o,_))=>((xcM R l o).isSome,(AV.list 1 ((xcM R l o).getD [])))
theorem xGy (R:LA->LA->Option (LA)) (c:xrG R):OcOk P0 xTo 88 (xGz R):=xmD fun e g f=>by
 obtain ⟨l,⟨o,_⟩⟩:=e;obtain ⟨a,b⟩:=Prod.mk.inj f;refine xdU (p:=(xmR R).pin) (xf6 xSR (xSS P0 _) rfl (xC1 R c) Tryz.func88 rfl (by kernel_rfl) (xB0 R) ((xGA R _ _ _ (xcf (d:=[]) a)).trans ?_))
 exact congrArg some b
def xcE:Nat->LA->LA->Option (LA)
 | 0=>fun _ _=>none
 | fu_+1=>fun l o=>xcM (xcE fu_) l o
theorem xzu:∀ n,xrG (xcE n)
 | 0=>xmD fun _ _ h=>absurd (Prod.mk.inj h).1 Bool.false_ne_true
 | fu_+1=>fun a r h=>xGy (xcE fu_) (xzu fu_) a r h
def xIZ:Env:=xCQ.E.with 88 (xs9 (xcE 1000))
theorem xJX:xSI P0 xTo xIZ:=xCQ.ok.with (xzu _)
def xJW:EO:=EO.mk xIZ xJX
def xzy {T:Type} (l:LA) (δ:T) (κ:LA->T):T:=br ((xcE 1000 l []).isSome) (κ ((xcE 1000 l []).getD [])) δ
def xik (l:LA):=xzy l none some
def xIx:EO:=xJW.f Tryz.func58 5 0 [] [] lk0 (u1 (uL 1)) (fun (l,_) _=>xzy l) (fun _ p=>AV.list 1 p) []
def xih (a:LA) (i:Int):=decide (i.toNat<a.length)&&xSG (Sh.list 3) (gC a i 0)
def xii (a:LA) (i:Int):=ixI a i
def xij (a:LA) (i:Int):=xsc ((a.getD (i64.wrap (i - 1)).toNat .top).cells.getD 0 .top).toList (gC a i 0).toList
def xfl {T:Type} (c:LA) (b:Nat) (i:Int) (a:LA) (δ:T) (κl:(Nat×Int×LA)->T):T:=br (xii c i) (br (xih c i) (br (rmB b a 1 24) (κl (b+1,i64.wrap (i+1),a++[AV.list 3 (gC c i 0).toList])) δ) δ) δ
def xgp {T:Type} (a:LA) (c:Nat) (i:Int) (b:LA) (δ:T) (κl:(Nat×Int×LA)->T) (κr:(Nat×LA)->T):T:=br (decide (i<a.length)) (br (i==0) (xfl a c i b δ κl) (br (decide (0<=i64.wrap (i - 1))&&decide (i64.wrap (i - 1)<(↑a.length:Int))) (br (decide ((i64.wrap (i - 1)).toNat<a.length)&&xSG (Sh.list 3) ((a.getD (i64.wrap (i - 1)).toNat .top).cells.getD 0 .top)) (br (xii a i) (br (xih a i) (br ((xij a i).isSome) (br (!(xij a i).getD false) (xfl a c i b δ κl) (κl (c,i64.wrap (i+1),b))) δ) δ) δ) δ) δ)) (κr (c,b))
def xcr (c:LA):StT (Nat×Int×LA) (Nat×LA):=fun (b,i,a)=>xgp c b i a none inL inR
def xul:=xIx.l 38 0 [] [] Tryz.f124 0 lk0 [3,4,5] [4] [(4,1,57)] (q3 (qL 1) (xTE 0 0 0) qI) (q1 (qB 0 1 57 xTt)) (fun (c,b,i,_) (a,_)=>(xcr c,(b,i,a),fun p=>(.leaf (.exit 0) [AV.osl 0 0 0 p.1] [bF 0 1 57 p.2]))) (0,[]) fun (c,_,_,_) _ (b,i,a)=>(((c,b,i,()),(a,())),xgp c b i a none)
def xrF (l:LA):=(Iter (xcr ((xik l).getD [])) (0,0,[])).getD (0,[])
def xrD (l:LA):=(xrF l).snd
def xrE (l:LA):=(xrF l).fst
def xs8 {T:Type} (l:LA) (δ:T) (κ:LA->T):T:=br ((xik l).isSome) (br ((Iter (xcr ((xik l).getD [])) (0,0,[])).isSome) (br (decide (0+xrE l<=(xrD l).length)&&true) (κ (List.take (xrE l) (List.drop 0 (xrD l)))) δ) δ) δ
def xwa (l:LA):=xs8 l none some
def xI0:EO:=xIx.f Tryz.func124 38 0 [] [(4,xul.lp)] (lk1 xul.ok) (u1 (uL 1)) (fun (l,_) _=>xs8 l) (fun _ p=>AV.list 1 p) []
def xpu {T:Type} (l:LA) (b:Nat) (i:Int) (a:LA) (δ:T) (κl:(Nat×Int×LA)->T) (κr:(Nat×LA)->T):T:=br (decide (i<l.length)) (br (ixI l i) (br (ixT l i 3 [Sh.int .i64,Sh.int .i64] 1) (br (xdg (gC l i 1).toInt (gC l i 2).toInt) (br (ixI l i) (br (ixS l i (Sh.list 3) 0) (br (rmB b a 1 24) (κl (b+1,i64.wrap (i+1),a++[AV.list 3 (gC l i 0).toList])) δ) δ) δ) (κl (b,i64.wrap (i+1),a))) δ) δ) (κr (b,a))
def xfq (l:LA):StT (Nat×Int×LA) (Nat×LA):=fun (b,i,a)=>xpu l b i a none inL inR
def xzI:=xI0.l 27 0 [] [] Tryz.f90 0 lk0 [0,3,4] [3] [(3,1,57)] (q3 (qL 3) (xTE 0 0 0) qI) (q1 (qB 0 1 57 xTt)) (fun (l,b,i,_) (a,_)=>(xfq l,(b,i,a),fun p=>(.leaf (.exit 0) [AV.osl 0 0 0 p.1] [bF 0 1 57 p.2]))) (0,[]) fun (l,_,_,_) _ (b,i,a)=>(((l,b,i,()),(a,())),xpu l b i a none)
def xyu (l:LA):=(Iter (xfq l) (0,0,[])).getD (0,[])
def xys (l:LA):=(xyu l).fst
def xyt (l:LA):=(xyu l).snd
def xyr (l:LA):=xwa (List.take (xys l) (List.drop 0 (xyt l)))
def xzJ {T:Type} (l:LA) (δ:T) (κ:LA->T):T:=br ((Iter (xfq l) (0,0,[])).isSome) (br (decide (0+xys l<=(xyt l).length)&&true) (br ((xyr l).isSome) (κ ((xyr l).getD [])) δ) δ) δ
def xyZ (l:LA):=xzJ l none some
def xE5:EO:=xI0.f Tryz.func90 27 0 [] [(3,xzI.lp)] (lk1 xzI.ok) (u1 (uL 3)) (fun (l,_) _=>xzJ l) (fun _ p=>AV.list 1 p) []
def xn7:Env:=xE5.E.fn 51 1 (lsOf []) (xS3 [])
theorem xDU:xSI P0 (xTo.at 1) xn7:=xE5.ok.fn
theorem xBx:LoOk P0 (xTo.at xn7.pin) xn7 (Tryz.f125.body.getD .skip):=xs0 (by kernel_rfl)
def xe5 (k:Nat) (a:LA):=(List.take ((i64.wrap ((↑k:Int) - 1)).toNat - 0) (List.drop 0 a)).length
def xsA (k:Nat) (a:LA):=decide (0+(i64.wrap ((↑k:Int) - 1)).toNat<a.length)
def xn9 (k:Nat) (a:LA):=((a.getD (0+(i64.wrap ((↑k:Int) - 1)).toNat) .top).cells.getD 1 .top).toInt
def xsB (k:Nat):=decide (0<=i64.wrap ((↑k:Int) - 1))
def xn8 (k:Nat):=xsB k&&decide (i64.wrap ((↑k:Int) - 1)<(↑k:Int))
def xsz (k:Nat) (a:LA):=xsA k a&&xSG (Sh.int .i64) ((a.getD (0+(i64.wrap ((↑k:Int) - 1)).toNat) .top).cells.getD 1 .top)
def xmF {T:Type} (k:Nat) (a b:Int) (c:LA) (δ:T) (κ:Bool×(Nat×LA×LA)×(Nat×LA)->T):T:=br (rmB k c 1 16) (κ (false,(0,[],[]),(k+1,c++[AV.agg [AV.int .i64 a,AV.int .i64 b]]))) δ
def xqb {T:Type} (k:Nat) (b c:Int) (a:LA) (δ:T) (κ:Bool×(Nat×LA×LA)×(Nat×LA)->T):T:=br (decide ((↑k:Int)>0)) (br (xn8 k) (br (xsz k a) (br (decide (xn9 k a>=b)) (br (xsB k&&decide (i64.wrap ((↑k:Int) - 1)<=(↑k:Int))&&true) (br (decide (0+((i64.wrap ((↑k:Int) - 1)).toNat - 0)<=a.length)&&(decide (xe5 k a*16<=140737488355328)&&decide (xe5 k a<=4611686018427387904))) (br (xn8 k) (br (xsA k a&&xSG (Sh.int .i64) ((a.getD (0+(i64.wrap ((↑k:Int) - 1)).toNat) .top).cells.getD 0 .top)) (br (xn8 k) (br (xsz k a) (br (xe5 k a==xe5 k a&&(decide ((xe5 k a+1)*16<=140737488355328)&&decide (xe5 k a+1<=4611686018427387904))) (κ (true,(xe5 k a+1,a,List.take ((i64.wrap ((↑k:Int) - 1)).toNat - 0) (List.drop 0 a)++[AV.agg [AV.int .i64 ((a.getD (0+(i64.wrap ((↑k:Int) - 1)).toNat) .top).cells.getD 0 .top).toInt,AV.int .i64 (if c>xn9 k a then c else xn9 k a)]]),(0,[]))) δ) δ) δ) δ) δ) δ) δ) (xmF k b c a δ κ)) δ) δ) (xmF k b c a δ κ)
def xcD (k:Nat) (a b:Int) (c:LA):=xqb k a b c none some
theorem xHM (k:Nat) (a b:Int) (xs:LA):Enc (fun (p:Bool×(Nat×LA×LA)×(Nat×LA))=>((br p.1 ((AV.osl 1 0 0 p.2.1.1,([⟨0,2,35,p.2.1.2.1,false,true⟩,⟨0,2,35,p.2.1.2.2,false,true⟩]:List Box))) ((AV.osl 0 1 0 p.2.2.1,([⟨1,2,35,p.2.2.2,false,true⟩]:List Box)))):(AV×List Box))) (xcD k a b xs) (XFM P0 xn7 Tryz.f125 (Tryz.f125.body.getD .skip) [AV.osl (0:Id) 0 0 k,AV.agg [AV.int .i64 a,AV.int .i64 b]] [{ ver:=0,sz:=2,ty:=(35:TypeId),xs:=xs,frz:=false,pm:=true }]):=by
 refine eV (xqb k a b xs none (fun (p:Bool×(Nat×LA×LA)×(Nat×LA))=>some ((br p.1 ((AV.osl 1 0 0 p.2.1.1,([⟨0,2,35,p.2.1.2.1,false,true⟩,⟨0,2,35,p.2.1.2.2,false,true⟩]:List Box))) ((AV.osl 0 1 0 p.2.2.1,([⟨1,2,35,p.2.2.2,false,true⟩]:List Box)))):(AV×List Box)))) (by kernel_rfl) ?_;unfold xcD xqb xmF;repeat' first|exact eN|exact eS rfl|apply eB
def xHL:LA->List Box->Option (Bool×AV×List Box):=omOf (xTq (sEq (xTE 0 0 0)) (xTq (xTJ (xTq (sEq (pInt .i64)) (xTq (sEq (pInt .i64)) xTs))) xTs)) (xTp (xTH 0 2 (35:TypeId) false true xTt) xTr) fun (k,((a,(b,_)),_)) (c,_)=>((xcD k a b c).isSome,(AV.osl 1 0 0 (br ((xcD k a b c).getD (false,(0,[],[]),(0,[]))).1 ((xcD k a b c).getD (false,(0,[],[]),(0,[]))).2.1.1 ((xcD k a b c).getD (false,(0,[],[]),(0,[]))).2.2.1),
 ([⟨2,2,35,[],false,true⟩,⟨0,2,35,br ((xcD k a b c).getD (false,(0,[],[]),(0,[]))).1 ((xcD k a b c).getD (false,(0,[],[]),(0,[]))).2.1.2.2 ((xcD k a b c).getD (false,(0,[],[]),(0,[]))).2.2.2,false,true⟩]:List Box)))
theorem xHK:OmOk P0 xTo 125 (xHL):=xra fun e f j h g=>by
 obtain ⟨k,⟨⟨c,⟨i,_⟩⟩,_⟩⟩:=e;obtain ⟨l,_⟩:=f;obtain ⟨b,a⟩:=Prod.mk.inj g;have hx:=xHM _ _ _ _ _ (xcf (d:=(false,(0,[],[]),(0,[]))) b);revert hx a;generalize ((xcD _ _ _ _).getD (false,(0,[],[]),(0,[])))=p;intro a hx;obtain ⟨rfl,rfl⟩:=Prod.mk.inj a;obtain ⟨t,⟨m,n,o⟩,q,r⟩:=p;have hg:GoodM P0 xTo 125 _ _ _ _:=xi3 (p:=xn7.pin) (xkh xSR (xSS P0 _) rfl xDU rfl Tryz.func125 rfl (by kernel_rfl) xBx hx)
 cases t
 . exact GoodM.move0 rfl (by decide) hg
 . exact GoodM.drop0 rfl (by decide) hg
def xOk:EO:=xE5.wM xHK
def xl5 {T:Type} (l c:LA) (b:Nat) (i:Int) (a:LA) (δ:T) (κl:(Nat×Int×LA)->T) (κr:(Nat×LA)->T):T:=br (decide (i<l.length)) (br (ixI l i) (br (ixS l i (Sh.list 3) 0) (br ((xbt (gC l i 0).toList c).isSome) (br ((xbt (gC l i 0).toList c).getD 0==0) (br (ixI l i) (br (ixT l i 3 [Sh.int .i64,Sh.int .i64] 1) (br (rmB b a 1 24) (κl (b+1,i64.wrap (i+1),a++[AV.agg [AV.int .i64 (gC l i 1).toInt,AV.int .i64 (gC l i 2).toInt,AV.int .i64 1]])) δ) δ) δ) (κl (b,i64.wrap (i+1),a))) δ) δ) δ) (κr (b,a))
def xeh (l b:LA):StT (Nat×Int×LA) (Nat×LA):=fun (c,i,a)=>xl5 l b c i a none inL inR
def xwW:=xOk.l 32 0 [] [] Tryz.f91 0 lk0 [0,1,5,6] [5] [(5,3,89)] (q4 (qL 3) (qL 3) (xTE 0 0 0) qI) (q1 (qB 0 3 89 xTt)) (fun (l,b,c,i,_) (a,_)=>(xeh l b,(c,i,a),fun p=>(.leaf (.exit 0) [AV.osl 0 0 0 p.1] [bF 0 3 89 p.2]))) (0,[]) fun (l,b,_,_,_) _ (c,i,a)=>(((l,b,c,i,()),(a,())),xl5 l b c i a none)
def xuC (l a:LA):=(Iter (xeh l a) (0,0,[])).getD (0,[])
def xuA (l a:LA):=(xuC l a).fst
def xuB (l a:LA):=(xuC l a).snd
def xuz (l a:LA):=xDV (List.take (xuA l a) (List.drop 0 (xuB l a)))
def xwe {T:Type} (l a:LA) (δ:T) (κ:LA->T):T:=br ((Iter (xeh l a) (0,0,[])).isSome) (br (decide (0+xuA l a<=(xuB l a).length)&&true) (br ((xuz l a).isSome) (κ ((xuz l a).getD [])) δ) δ) δ
def xuy (l a:LA):=xwe l a none some
def xD4:EO:=xOk.f Tryz.func91 32 0 [] [(3,xwW.lp)] (lk1 xwW.ok) (u2 (uL 3) (uL 3)) (fun (l,a,_) _=>xwe l a) (fun _ p=>AV.list 2 p) []
def xh4 {T:Type} (a:LA) (c:Nat) (i k:Int) (b:LA) (δ:T) (κl:(Int×LA)->T) (κr:(Int×LA)->T):T:=br (decide (k<a.length)) (br (ixI a k) (br (ixS a k (Sh.list 3) 0) (br (ixI a i) (br (ixS a i (Sh.list 3) 0) (br ((xbt (gC a k 0).toList (gC a i 0).toList).isSome) (br ((xbt (gC a k 0).toList (gC a i 0).toList).getD 0==0) (κl (i64.wrap (k+1),b)) (κr (k,b))) δ) δ) δ) δ) δ) (κr (k,b))
def xcm (c:LA) (b:Nat) (i:Int):StT (Int×LA) (Int×LA):=fun (k,a)=>xh4 c b i k a none inL inR
def xhf:=xD4.l 66 0 [] [] Tryz.f59 1 lk0 [3,4,5,6] [3,4,5,6] [(4,2,107)] (q4 (qL 3) (xTE 0 0 0) qI qI) (q1 (qB 0 2 107 xTt)) (fun (c,a,i,k,_) (b,_)=>(xcm c a i,(k,b),fun p=>(.leaf (.exit 2) [AV.list 3 c,AV.osl 0 0 0 a,AV.int .i64 i,AV.int .i64 p.1] [bF 0 2 107 p.2]))) (0,[]) fun (c,a,i,_,_) _ (k,b)=>(((c,a,i,k,()),(b,())),xh4 c a i k b none)
def xh5 {T:Type} (d:LA) (i k:Int) (a:LA) (c:Nat) (n:Int) (b:LA) (δ:T) (κl:(Nat×Int×LA)->T) (κr:(Nat×LA)->T):T:=br (decide (n<a.length)) (br (ixI a n) (br (ixS a n (Sh.list 3) 0) (br (decide (0<=k)&&decide (k<=d.length)&&(decide (0<=i)&&decide (i<=(↑k.toNat:Int)))) (br (ixI a n) (br (ixS a n (Sh.list 3) 0) (br ((xuy (List.take (k.toNat - i.toNat) (List.drop i.toNat d)) (gC a n 0).toList).isSome) (br (rmB c b 1 48) (κl (c+1,i64.wrap (n+1),b++[AV.agg [AV.list 3 (gC a n 0).toList,AV.list 2 ((xuy (List.take (k.toNat - i.toNat) (List.drop i.toNat d)) (gC a n 0).toList).getD [])]])) δ) δ) δ) δ) δ) δ) δ) (κr (c,b))
def xek (d:LA) (i k:Int) (c:LA):StT (Nat×Int×LA) (Nat×LA):=fun (b,n,a)=>xh5 d i k c b n a none inL inR
def xkF:=xD4.l 66 0 [] [(6,xhf.lp)] Tryz.f59 2 lk0 [3,4,5,6,7,8] [3,4,6] [(4,2,107)] (q6 (qL 3) (xTE 0 0 0) qI qI (qL 1) qI) (q1 (qB 0 2 107 xTt)) (fun (d,b,i,k,c,n,_) (a,_)=>(xek d i k c,(b,n,a),fun p=>(.leaf (.exit 4) [AV.list 3 d,AV.osl 0 0 0 p.1,AV.int .i64 k] [bF 0 2 107 p.2]))) (0,[]) fun (d,_,i,k,c,_,_) _ (b,n,a)=>(((d,b,i,k,c,n,()),(a,())),xh5 d i k c b n a none)
def xcS (c:LA) (b:Nat) (i:Int) (a:LA):=((Iter (xcm c b i) (i,a)).getD (0,[])).fst
def xqu (c:LA) (a:Nat) (i:Int) (b:LA):=Iter (xek c i (xcS c a i b) ((xyZ (List.take ((xcS c a i b).toNat - i.toNat) (List.drop i.toNat c))).getD [])) (a,0,((Iter (xcm c a i) (i,b)).getD (0,[])).snd)
def xqt (c:LA) (b:Nat) (i:Int) (a:LA):=(xqu c b i a).getD (0,[])
def xl8 {T:Type} (c:LA) (b:Nat) (i:Int) (a:LA) (δ:T) (κl:(Nat×Int×LA)->T) (κr:(Nat×LA)->T):T:=br (decide (i<c.length)) (br ((Iter (xcm c b i) (i,a)).isSome) (br (decide (0<=xcS c b i a)&&decide (xcS c b i a<=c.length)&&(decide (0<=i)&&decide (i<=(↑(xcS c b i a).toNat:Int)))) (br ((xyZ (List.take ((xcS c b i a).toNat - i.toNat) (List.drop i.toNat c))).isSome) (br ((xqu c b i a).isSome) (κl ((xqt c b i a).fst,xcS c b i a,(xqt c b i a).snd)) δ) δ) δ) δ) (κr (b,a))
def xej (c:LA):StT (Nat×Int×LA) (Nat×LA):=fun (b,i,a)=>xl8 c b i a none inL inR
def xwx:=xD4.l 66 0 [] [(6,xhf.lp),(10,xkF.lp)] Tryz.f59 0 (lks (lkC xhf.ok (lkC xkF.ok lkN))) [3,4,5] [4] [(4,2,107)] (q3 (qL 3) (xTE 0 0 0) qI) (q1 (qB 0 2 107 xTt)) (fun (c,b,i,_) (a,_)=>(xej c,(b,i,a),fun p=>(.leaf (.exit 0) [AV.osl 0 0 0 p.1] [bF 0 2 107 p.2]))) (0,[]) fun (c,_,_,_) _ (b,i,a)=>(((c,b,i,()),(a,())),xl8 c b i a none)
def xuP (l:LA):=Iter (xej ((xcn 100 l).getD [])) (0,0,[])
def xuO (l:LA):=(xuP l).getD (0,[])
def xuM (l:LA):=(xuO l).fst
def xuN (l:LA):=(xuO l).snd
def xwi {T:Type} (l:LA) (δ:T) (κ:LA->T):T:=br ((xcn 100 l).isSome) (br ((xuP l).isSome) (br (decide (0+xuM l<=(xuN l).length)&&true) (κ (List.take (xuM l) (List.drop 0 (xuN l)))) δ) δ) δ
def xqs (l:LA):=xwi l none some
def xK9:EO:=xD4.f Tryz.func59 66 0 [] [(6,xhf.lp),(10,xkF.lp),(4,xwx.lp)] (lks (lkC xwx.ok (lkC xhf.ok (lkC xkF.ok lkN)))) (u1 (uL 3)) (fun (l,_) _=>xwi l) (fun _ p=>AV.list 2 p) []
def xeS (l:LA) (n i:Int):=decide ((gC l i 1).toInt>=n)
def xck (l:LA) (i:Int):=ixI l i
def xeb (l:LA) (b:Nat) (i:Int) (a:LA):=(xcD b (gC l i 0).toInt 1099511627776 a).getD (false,(0,[],[]),0,[])
def xec (l:LA) (b:Nat) (i:Int) (a:LA):=xcD b (gC l i 0).toInt ((l.getD (i64.wrap (i+1)).toNat .top).cells.getD 0 .top).toInt a
def xed (l:LA) (i:Int):=decide (i64.wrap (i+1)<(↑l.length:Int))
def xeZ (l:LA) (b:Nat) (i:Int) (a:LA):=(xec l b i a).getD (false,(0,[],[]),0,[])
def xex (l:LA) (b:Nat) (i:Int) (a:LA):=(xeb l b i a).snd
def xe0 (l:LA) (b:Nat) (i:Int) (a:LA):=(xeb l b i a).fst
def xeV (l:LA) (b:Nat) (i:Int) (a:LA):=(xeZ l b i a).fst
def xeW (l:LA) (b:Nat) (i:Int) (a:LA):=(xeZ l b i a).snd
def xeX (l:LA) (b:Nat) (i:Int) (a:LA):=(xex l b i a).fst
def xeY (l:LA) (b:Nat) (i:Int) (a:LA):=(xex l b i a).snd
def xeT (l:LA) (b:Nat) (i:Int) (a:LA):=(xeW l b i a).fst
def xeU (l:LA) (b:Nat) (i:Int) (a:LA):=(xeW l b i a).snd
def xdX {T:Type} (l:LA) (n:Int) (b:Nat) (i:Int) (a:LA) (δ:T) (κl:(Nat×Int×LA)->T) (κr:(Nat×LA)->T):T:=br (decide (i<l.length)) (br (xed l i) (br (decide (0<=i64.wrap (i+1))&&xed l i) (br (decide ((i64.wrap (i+1)).toNat<l.length)&&xSG (Sh.int .i64) ((l.getD (i64.wrap (i+1)).toNat .top).cells.getD 0 .top)) (br (xck l i) (br (ixS l i (Sh.int .i64) 1) (br (xeS l n i) (br (xck l i) (br (ixS l i (Sh.int .i64) 0) (br ((xec l b i a).isSome) (κl (br (xeV l b i a) (xeT l b i a).fst (xeU l b i a).fst,i64.wrap (i+1),br (xeV l b i a) (xeT l b i a).snd.snd (xeU l b i a).snd)) δ) δ) δ) (κl (b,i64.wrap (i+1),a))) δ) δ) δ) δ) (br (xck l i) (br (ixS l i (Sh.int .i64) 1) (br (xeS l n i) (br (xck l i) (br (ixS l i (Sh.int .i64) 0) (br ((xcD b (gC l i 0).toInt 1099511627776 a).isSome) (κl (br (xe0 l b i a) (xeX l b i a).fst (xeY l b i a).fst,i64.wrap (i+1),br (xe0 l b i a) (xeX l b i a).snd.snd (xeY l b i a).snd)) δ) δ) δ) (κl (b,i64.wrap (i+1),a))) δ) δ)) (κr (b,a))
def xbo (l:LA) (n:Int):StT (Nat×Int×LA) (Nat×LA):=fun (b,i,a)=>xdX l n b i a none inL inR
def xvB:=xK9.l 42 0 [] [] Tryz.f92 0 lk0 [0,1,5,6] [5] [(5,2,35)] (q4 (qL 2) qI (xTE 0 0 0) qI) (q1 (qB 0 2 35 xTt)) (fun (l,n,b,i,_) (a,_)=>(xbo l n,(b,i,a),fun p=>(.leaf (.exit 0) [AV.osl 0 0 0 p.1] [bF 0 2 35 p.2]))) (0,[]) fun (l,n,_,_,_) _ (b,i,a)=>(((l,n,b,i,()),(a,())),xdX l n b i a none)
def xs7 (l:LA) (n:Int):=(Iter (xbo l n) (0,0,[])).getD (0,[])
def xs5 (l:LA) (n:Int):=(xs7 l n).snd
def xs6 (l:LA) (n:Int):=(xs7 l n).fst
def xue {T:Type} (l:LA) (n:Int) (δ:T) (κ:LA->T):T:=br ((Iter (xbo l n) (0,0,[])).isSome) (br (decide (0+xs6 l n<=(xs5 l n).length)&&true) (κ (List.take (xs6 l n) (List.drop 0 (xs5 l n)))) δ) δ
def xgb (l:LA) (n:Int):=xue l n none some
def xLa:EO:=xK9.f Tryz.func92 42 0 [] [(3,xvB.lp)] (lk1 xvB.ok) (u2 (uL 2) uI) (fun (l,n,_) _=>xue l n) (fun _ p=>AV.list 2 p) []
def xlx (l:LA) (i:Int):=decide (i.toNat<l.length)&&((l.getD i.toNat .top).cells.length==2&&xSN [Sh.int .i64,Sh.int .i64] (l.getD i.toNat .top).cells 0)
def xjk {T:Type} (l:LA) (b:Nat) (i c d:Int) (a:LA) (δ:T) (κl:(Nat×Int×Int×Int×LA)->T) (κr:(Nat×Int×Int×Int×LA)->T):T:=br (decide (i<l.length)) (br (ixI l i) (br (xlx l i) (br (decide (xsy (gC l i 0).toInt (gC l i 1).toInt c d<=0)) (br (ixI l i) (br (xlx l i) (br (rmB b a 1 16) (κl (b+1,i64.wrap (i+1),c,d,a++[AV.agg [AV.int .i64 (gC l i 0).toInt,AV.int .i64 (gC l i 1).toInt]])) δ) δ) δ) (κr (b,i,c,d,a))) δ) δ) (κr (b,i,c,d,a))
def xdj (l:LA):StT (Nat×Int×Int×Int×LA) (Nat×Int×Int×Int×LA):=fun (b,i,c,d,a)=>xjk l b i c d a none inL inR
def xyJ:=xLa.l 38 0 [] [] Tryz.f93 0 lk0 [0,3,5,6] [0,3,5,6] [(5,2,35)] (q4 (qL 2) (xTF 0 0 0 0) (xTE 1 0 0) qI) (q2 (qB 0 2 35 (q1 (xTG (q2 qI qI)))) (qB 0 2 35 xTt)) (fun (l,_,b,i,_) (((c,d,_),_),a,_)=>(xdj l,(b,i,c,d,a),fun p=>(.leaf (.exit 0) [AV.list 2 l,AV.own 0 0 0 0,AV.osl 1 0 0 p.1,AV.int .i64 p.2.1] [bF 0 2 35 [AV.agg [AV.int .i64 p.2.2.1,AV.int .i64 p.2.2.2.1]],bF 0 2 35 p.2.2.2.2]))) (0,0,0,0,[]) fun (l,_,_,_,_) _ (b,i,c,d,a)=>(((l,(),b,i,()),(((c,d,()),()),a,())),xjk l b i c d a none)
def xuj (l:LA) (a b:Int):=Iter (xdj l) (0,0,a,b,[])
def xui (l:LA) (a b:Int):=(xuj l a b).getD (0,0,0,0,[])
def xv9 (l:LA) (a b:Int):=(xui l a b).fst
def xuh (l:LA) (a b:Int):=(xui l a b).snd
def xmP (l:LA) (a b:Int):=xv9 l a b+1
def xmQ (l:LA) (a b:Int):=(xuh l a b).fst
def xv8 (l:LA) (a b:Int):=(xuh l a b).snd
def xv5 (l:LA) (a b:Int):=List.take (l.length - (xmQ l a b).toNat) (List.drop (xmQ l a b).toNat l)
def xv7 (l:LA) (a b:Int):=(xv8 l a b).snd
def xmO (l:LA) (a b:Int):=xmP l a b+(xv5 l a b).length
def xv6 (l:LA) (a b:Int):=(xv7 l a b).snd
def xv4 (l:LA) (a b:Int):=xv6 l a b++[AV.agg [AV.int .i64 (xv8 l a b).fst,AV.int .i64 (xv7 l a b).fst]]
def xv3 (l:LA) (a b:Int):=xv4 l a b++xv5 l a b
def xyj {T:Type} (l:LA) (a b:Int) (δ:T) (κ:LA->T):T:=br ((xuj l a b).isSome) (br (xv9 l a b==(xv6 l a b).length&&(decide (xmP l a b*16<=140737488355328)&&decide (xmP l a b<=4611686018427387904))) (br (decide (0<=xmQ l a b)&&decide (xmQ l a b<=l.length)) (br (xmP l a b==(xv4 l a b).length&&(decide (xmO l a b*16<=140737488355328)&&decide (xmO l a b<=4611686018427387904))) (br (decide (0+xmO l a b<=(xv3 l a b).length)&&true) (κ (List.take (xmO l a b) (List.drop 0 (xv3 l a b)))) δ) δ) δ) δ) δ
def xwD (l:LA) (a b:Int):=xyj l a b none some
def xGL:EO:=xLa.f Tryz.func93 38 0 [] [(3,xyJ.lp)] (lk1 xyJ.ok) (u2 (uL 2) (xTJ (u2 uI uI))) (fun (l,(a,b,_),_) _=>xyj l a b) (fun _ p=>AV.list 2 p) []
def xlZ {T:Type} (l:LA) (n:Int) (a b:LA) (i:Int) (δ:T) (κl:(LA×Int)->T) (κr:(LA)->T):T:=br (decide (i<a.length)) (br (ixI a i) (br (ixT a i 2 [Sh.int .i64,Sh.int .i64] 0) (br ((xwD b (gC a i 0).toInt (gC a i 1).toInt).isSome) (κl ((xwD b (gC a i 0).toInt (gC a i 1).toInt).getD [],i64.wrap (i+1))) δ) δ) δ) (κr (b))
def xc4 (l:LA) (n:Int) (b:LA):StT (LA×Int) (LA):=fun (a,i)=>xlZ l n b a i none inL inR
def xks:=xGL.l 31 0 [] [] Tryz.f61 1 lk0 [0,3,4,5,6] [0,3,4] [(3,2,1073741824)] (q5 (qL 2) (qL 2) qI (qL 2) qI) xTr (fun (l,a,n,b,i,_) _=>(xc4 l n b,(a,i),fun p=>(.leaf (.exit 2) [AV.list 2 l,AV.list 2 p,AV.int .i64 n] []))) [] fun (l,_,n,b,_,_) _ (a,i)=>(((l,a,n,b,i,()),()),xlZ l n b a i none)
def xlY {T:Type} (l a:LA) (n:Int) (δ:T) (κl:(LA×Int)->T) (κr:(Bool×(LA×LA)×(LA))->T):T:=br (decide (n<=1048576)) (br ((xgb l n).isSome) (br ((↑((xgb l n).getD []).length:Int)==0) (κr (true,(a,a),[])) (br ((Iter (xc4 l n ((xgb l n).getD [])) (a,0)).isSome) (κl ((Iter (xc4 l n ((xgb l n).getD [])) (a,0)).getD [],i64.wrap (n+1))) δ)) δ) (κr (false,([],[]),(a)))
def xc3 (l:LA):StT (LA×Int) (Bool×(LA×LA)×(LA)):=fun (a,n)=>xlY l a n none inL inR
def xwM:=xGL.l 31 0 [] [(9,xks.lp)] Tryz.f61 0 (lk1 xks.ok) [0,3,4] [2,3] [(3,2,1073741824)] (q3 (qL 2) (qL 2) qI) xTr (fun (l,a,n,_) _=>(xc3 l,(a,n),fun p=>(.node p.1 (.leaf .ret [AV.list 2 p.2.1.1,AV.list 2 p.2.1.2] []) (.leaf (.exit 0) [.top,AV.list 2 p.2.2] [])))) (false,([],[]),[]) fun (l,_,_,_) _ (a,n)=>(((l,a,n,()),()),xlY l a n none)
def xug (l:LA):=(Iter (xc3 l) ([],1)).getD (false,([],[]),[])
def xuf (l:LA):=(xug l).snd
def xv2 {T:Type} (l:LA) (δ:T) (κ:LA->T):T:=br ((Iter (xc3 l) ([],1)).isSome) (br ((xug l).fst) (κ ((xuf l).fst.fst)) (κ ((xuf l).snd))) δ
def xfY (l:LA):=xv2 l none some
def xLb:EO:=xGL.f Tryz.func61 31 0 [] [(9,xks.lp),(3,xwM.lp)] (lks (lkC xwM.ok (lkC xks.ok lkN))) (u1 (uL 2)) (fun (l,_) _=>xv2 l) (fun _ p=>AV.list 2 p) []
def xl6 {T:Type} (d c:LA) (b:Nat) (i:Int) (a:LA) (δ:T) (κl:(Nat×Int×LA)->T) (κr:(Nat×LA)->T):T:=br (decide (i<c.length)) (br (ixI c i) (br (ixT c i 2 [Sh.int .i64,Sh.int .i64] 0) (br (rmB b a 1 40) (κl (b+1,i64.wrap (i+1),a++[AV.agg [AV.list 3 d,AV.int .i64 (gC c i 0).toInt,AV.int .i64 (gC c i 1).toInt]])) δ) δ) δ) (κr (b,a))
def xc5 (c d:LA):StT (Nat×Int×LA) (Nat×LA):=fun (b,i,a)=>xl6 c d b i a none inL inR
def xwX:=xLb.l 23 0 [] [] Tryz.f60 0 lk0 [0,1,5,6] [5] [(5,3,59)] (q4 (qL 3) (qL 2) (xTE 0 0 0) qI) (q1 (qB 0 3 59 xTt)) (fun (c,d,b,i,_) (a,_)=>(xc5 c d,(b,i,a),fun p=>(.leaf (.exit 0) [AV.osl 0 0 0 p.1] [bF 0 3 59 p.2]))) (0,[]) fun (c,d,_,_,_) _ (b,i,a)=>(((c,d,b,i,()),(a,())),xl6 c d b i a none)
def xuF (a b:LA):=(Iter (xc5 a b) (0,0,[])).getD (0,[])
def xuD (a b:LA):=(xuF a b).snd
def xuE (a b:LA):=(xuF a b).fst
def xwf {T:Type} (a b:LA) (δ:T) (κ:LA->T):T:=br ((Iter (xc5 a b) (0,0,[])).isSome) (br (decide (0+xuE a b<=(xuD a b).length)&&true) (κ (List.take (xuE a b) (List.drop 0 (xuD a b)))) δ) δ
def xqr (a b:LA):=xwf a b none some
def xLc:EO:=xLb.f Tryz.func60 23 0 [] [(3,xwX.lp)] (lk1 xwX.ok) (u2 (uL 3) (uL 2)) (fun (a,b,_) _=>xwf a b) (fun _ p=>AV.list 3 p) []
def xpt (g:LA) (a:Nat) (i:Int):=a+((xqr (gC g i 0).toList ((xfY (gC g i 1).toList).getD [])).getD []).length
def xrp {T:Type} (g:LA) (a:Nat) (i:Int) (b:LA) (δ:T) (κl:(Nat×Int×LA)->T) (κr:(Nat×LA)->T):T:=br (decide (i<g.length)) (br (ixI g i) (br (ixS g i (Sh.list 3) 0) (br (ixI g i) (br (ixS g i (Sh.list 2) 1) (br ((xfY (gC g i 1).toList).isSome) (br ((xqr (gC g i 0).toList ((xfY (gC g i 1).toList).getD [])).isSome) (br (a==b.length&&(decide (xpt g a i*40<=140737488355328)&&decide (xpt g a i<=4611686018427387904))) (κl (xpt g a i,i64.wrap (i+1),b++(xqr (gC g i 0).toList ((xfY (gC g i 1).toList).getD [])).getD [])) δ) δ) δ) δ) δ) δ) δ) (κr (a,b))
def xf8 (g:LA):StT (Nat×Int×LA) (Nat×LA):=fun (b,i,a)=>xrp g b i a none inL inR
def xAa:=xLc.l 29 0 [] [] Tryz.f29 0 lk0 [3,4,5] [4] [(4,3,59)] (q3 (qL 2) (xTE 0 0 0) qI) (q1 (qB 0 3 59 xTt)) (fun (g,b,i,_) (a,_)=>(xf8 g,(b,i,a),fun p=>(.leaf (.exit 0) [AV.osl 0 0 0 p.1] [bF 0 3 59 p.2]))) (0,[]) fun (g,_,_,_) _ (b,i,a)=>(((g,b,i,()),(a,())),xrp g b i a none)
def xzH (l:LA):=(Iter (xf8 ((xqs l).getD [])) (0,0,[])).getD (0,[])
def xzF (l:LA):=(xzH l).fst
def xzG (l:LA):=(xzH l).snd
def xAA {T:Type} (l:LA) (δ:T) (κ:LA->T):T:=br ((xqs l).isSome) (br ((Iter (xf8 ((xqs l).getD [])) (0,0,[])).isSome) (br (decide (0+xzF l<=(xzG l).length)&&true) (κ (List.take (xzF l) (List.drop 0 (xzG l)))) δ) δ) δ
def xqq (l:LA):=xAA l none some
def xLd:EO:=xLc.f Tryz.func29 29 0 [] [(4,xAa.lp)] (lk1 xAa.ok) (u1 (uL 3)) (fun (l,_) _=>xAA l) (fun _ p=>AV.list 3 p) []
def xfp (l:LA) (i:Int):=ixI l i
def xl7 {T:Type} (l a:LA) (i:Int) (δ:T) (κl:(LA×Int)->T) (κr:(LA)->T):T:=br (decide (i<l.length)) (br (xfp l i) (br (ixT l i 3 [Sh.int .i64,Sh.int .i64] 1) (br (xdg (gC l i 1).toInt (gC l i 2).toInt) (br (xfp l i) (br (ixS l i (Sh.int .i64) 1) (br ((xcH a (gC l i 1).toInt).isSome) (br (xfp l i) (br (ixS l i (Sh.int .i64) 2) (br (decide ((gC l i 2).toInt<1099511627776)) (br (xfp l i) (br (ixS l i (Sh.int .i64) 2) (br ((xcH ((xcH a (gC l i 1).toInt).getD []) (gC l i 2).toInt).isSome) (κl ((xcH ((xcH a (gC l i 1).toInt).getD []) (gC l i 2).toInt).getD [],i64.wrap (i+1))) δ) δ) δ) (κl ((xcH a (gC l i 1).toInt).getD [],i64.wrap (i+1)))) δ) δ) δ) δ) δ) (κl (a,i64.wrap (i+1)))) δ) δ) (κr (a))
def xei (l:LA):StT (LA×Int) (LA):=fun (a,i)=>xl7 l a i none inL inR
def xwZ:=xLd.l 42 0 [] [] Tryz.f116 0 lk0 [0,3,4] [3] [(3,1,1073741824)] (q3 (qL 3) (qL 1) qI) xTr (fun (l,a,i,_) _=>(xei l,(a,i),fun p=>(.leaf (.exit 0) [AV.list 1 p] []))) [] fun (l,_,_,_) _ (a,i)=>(((l,a,i,()),()),xl7 l a i none)
def xwh {T:Type} (l:LA) (δ:T) (κ:LA->T):T:=br ((Iter (xei l) ([AV.int .i64 0],0)).isSome) (κ ((Iter (xei l) ([AV.int .i64 0],0)).getD [])) δ
def xuL (l:LA):=xwh l none some
def xLe:EO:=xLd.f Tryz.func116 42 0 [] [(3,xwZ.lp)] (lk1 xwZ.ok) (u1 (uL 3)) (fun (l,_) _=>xwh l) (fun _ p=>AV.list 1 p) []
def xsG {T:Type} (l:LA) (t:Int) (b:Nat) (i:Int) (a:LA) (δ:T) (κl:(Nat×Int×LA)->T) (κr:(Nat×LA)->T):T:=br (decide (i<l.length)) (br (ixI l i) (br (ixT l i 3 [Sh.int .i64,Sh.int .i64] 1) (br (xmE (gC l i 1).toInt (gC l i 2).toInt t) (br (ixI l i) (br (ixS l i (Sh.list 3) 0) (br (rmB b a 1 24) (κl (b+1,i64.wrap (i+1),a++[AV.list 3 (gC l i 0).toList])) δ) δ) δ) (κl (b,i64.wrap (i+1),a))) δ) δ) (κr (b,a))
def xgV (l:LA) (t:Int):StT (Nat×Int×LA) (Nat×LA):=fun (b,i,a)=>xsG l t b i a none inL inR
def xA4:=xLe.l 30 0 [] [] Tryz.f53 0 lk0 [0,1,5,6] [5] [(5,1,57)] (q4 (qL 3) qI (xTE 0 0 0) qI) (q1 (qB 0 1 57 xTt)) (fun (l,t,b,i,_) (a,_)=>(xgV l t,(b,i,a),fun p=>(.leaf (.exit 0) [AV.osl 0 0 0 p.1] [bF 0 1 57 p.2]))) (0,[]) fun (l,t,_,_,_) _ (b,i,a)=>(((l,t,b,i,()),(a,())),xsG l t b i a none)
def xAz (l:LA) (t:Int):=(Iter (xgV l t) (0,0,[])).getD (0,[])
def xAw (l:LA) (t:Int):=(xAz l t).snd
def xAy (l:LA) (t:Int):=(xAz l t).fst
def xAv (l:LA) (t:Int):=xik (List.take (xAy l t) (List.drop 0 (xAw l t)))
def xBs {T:Type} (l:LA) (t:Int) (δ:T) (κ:LA->T):T:=br ((Iter (xgV l t) (0,0,[])).isSome) (br (decide (0+xAy l t<=(xAw l t).length)&&true) (br ((xAv l t).isSome) (κ ((xAv l t).getD [])) δ) δ) δ
def xqp (l:LA) (t:Int):=xBs l t none some
def xLf:EO:=xLe.f Tryz.func53 30 0 [] [(3,xA4.lp)] (lk1 xA4.ok) (u2 (uL 3) uI) (fun (l,t,_) _=>xBs l t) (fun _ p=>AV.list 1 p) []
def xkE (a:LA) (i:Int):=decide (i64.wrap (i+1)<(↑a.length:Int))
def xh3 {T:Type} (c:LA) (b:Nat) (i:Int) (a:LA) (δ:T) (κl:(Nat×Int×LA)->T) (κr:(Nat×LA)->T):T:=br (decide (i<c.length)) (br (xkE c i) (br (decide (0<=i64.wrap (i+1))&&xkE c i) (br (decide ((i64.wrap (i+1)).toNat<c.length)&&xSG (Sh.int .i64) ((c.getD (i64.wrap (i+1)).toNat .top).cells.getD 0 .top)) (br (ixI c i) (br (ixS c i (Sh.int .i64) 0) (br (rmB b a 1 16) (κl (b+1,i64.wrap (i+1),a++[AV.agg [AV.int .i64 (gC c i 0).toInt,AV.int .i64 ((c.getD (i64.wrap (i+1)).toNat .top).cells.getD 0 .top).toInt]])) δ) δ) δ) δ) δ) (br (ixI c i) (br (ixS c i (Sh.int .i64) 0) (br (rmB b a 1 16) (κl (b+1,i64.wrap (i+1),a++[AV.agg [AV.int .i64 (gC c i 0).toInt,AV.int .i64 1099511627776]])) δ) δ) δ)) (κr (b,a))
def xc6 (c:LA):StT (Nat×Int×LA) (Nat×LA):=fun (b,i,a)=>xh3 c b i a none inL inR
def xwY:=xLf.l 44 0 [] [] Tryz.f77 0 lk0 [6,7,8] [7] [(7,2,35)] (q3 (qL 1) (xTE 0 0 0) qI) (q1 (qB 0 2 35 xTt)) (fun (c,b,i,_) (a,_)=>(xc6 c,(b,i,a),fun p=>(.leaf (.exit 0) [AV.osl 0 0 0 p.1] [bF 0 2 35 p.2]))) (0,[]) fun (c,_,_,_) _ (b,i,a)=>(((c,b,i,()),(a,())),xh3 c b i a none)
def xuK (a b:LA):=Iter (xc6 ((xuL (List.take (a.length+b.length) (List.drop 0 (a++b)))).getD [])) (0,0,[])
def xuJ (a b:LA):=(xuK a b).getD (0,[])
def xuH (a b:LA):=(xuJ a b).snd
def xuI (a b:LA):=(xuJ a b).fst
def xwg {T:Type} (a b:LA) (δ:T) (κ:LA->T):T:=br (decide (a.length*40<=140737488355328)&&decide (a.length<=4611686018427387904)) (br (a.length==a.length&&(decide ((a.length+b.length)*40<=140737488355328)&&decide (a.length+b.length<=4611686018427387904))) (br (decide (0+(a.length+b.length)<=(a++b).length)&&true) (br ((xuL (List.take (a.length+b.length) (List.drop 0 (a++b)))).isSome) (br ((xuK a b).isSome) (br (decide (0+xuI a b<=(xuH a b).length)&&true) (κ (List.take (xuI a b) (List.drop 0 (xuH a b)))) δ) δ) δ) δ) δ) δ
def xuG (a b:LA):=xwg a b none some
def xLg:EO:=xLf.f Tryz.func77 44 0 [] [(7,xwY.lp)] (lk1 xwY.ok) (u2 (uL 3) (uL 3)) (fun (a,b,_) _=>xwg a b) (fun _ p=>AV.list 2 p) []
def xl4 {T:Type} (b:LA) (c:Nat) (i d e:Int) (a:LA) (δ:T) (κl:(Nat×Int×Int×Int×LA)->T) (κr:(Nat×LA)->T):T:=br (decide (i<b.length)) (br (ixI b i) (br (ixS b i (Sh.list 3) 0) (br (rmB c a 1 40) (κl (c+1,i64.wrap (i+1),d,e,a++[AV.agg [AV.list 3 (gC b i 0).toList,AV.int .i64 d,AV.int .i64 e]])) δ) δ) δ) (κr (c,a))
def xfx (c:LA):StT (Nat×Int×Int×Int×LA) (Nat×LA):=fun (b,i,d,e,a)=>xl4 c b i d e a none inL inR
def xwV:=xLg.l 23 0 [] [] Tryz.f78 0 lk0 [0,3,5,6] [5] [(5,3,59)] (q4 (qL 1) (xTF 0 0 0 0) (xTE 1 0 0) qI) (q2 (qB 0 2 35 (q1 (xTG (q2 qI qI)))) (qB 0 3 59 xTt)) (fun (c,_,b,i,_) (((d,e,_),_),a,_)=>(xfx c,(b,i,d,e,a),fun p=>(.leaf (.exit 0) [AV.osl 0 0 0 p.1] [bF 0 3 59 p.2]))) (0,[]) fun (c,_,_,_,_) _ (b,i,d,e,a)=>(((c,(),b,i,()),(((d,e,()),()),a,())),xl4 c b i d e a none)
def xuw (a:LA) (b c:Int):=Iter (xfx a) (0,0,b,c,[])
def xuv (a:LA) (b c:Int):=(xuw a b c).getD (0,[])
def xut (a:LA) (b c:Int):=(xuv a b c).fst
def xuu (a:LA) (b c:Int):=(xuv a b c).snd
def xwd {T:Type} (a:LA) (b c:Int) (δ:T) (κ:LA->T):T:=br ((xuw a b c).isSome) (br (decide (0+xut a b c<=(xuu a b c).length)&&true) (κ (List.take (xut a b c) (List.drop 0 (xuu a b c)))) δ) δ
def xzE (a:LA) (b c:Int):=xwd a b c none some
def xLh:EO:=xLg.f Tryz.func78 23 0 [] [(3,xwV.lp)] (lk1 xwV.ok) (u2 (uL 1) (xTJ (u2 uI uI))) (fun (a,(b,c,_),_) _=>xwd a b c) (fun _ p=>AV.list 3 p) []
def xvu {T:Type} (b:List UInt8) (c a:Int) (δ:T) (κl:(Int)->T) (κr:(Bool×(Bool)×(Unit))->T):T:=br (decide (a<c)) (br (decide (0<=a)&&decide (a<b.length)) (br (decide ((↑(b.getD a.toNat (0:UInt8)).toNat:Int)<32)) (κr (true,(false),())) (br (decide (0<=a)&&decide (a<b.length)) (br (decide ((↑(b.getD a.toNat (0:UInt8)).toNat:Int)>126)) (κr (true,(false),())) (κl (i64.wrap (a+1)))) δ)) δ) (κr (false,false,()))
def xgl (a:List UInt8) (b:Int):StT (Int) (Bool×(Bool)×(Unit)):=fun (c)=>xvu a b c none inL inR
def xtP:=xLh.l 20 0 [] [] Tryz.f190 0 lk0 [0,5,6] [2] [] (q3 pStr qI qI) xTr (fun (a,b,c,_) _=>(xgl a b,(c),fun p=>(.node p.1 (.leaf .ret [AV.bool p.2.1] []) (.leaf (.exit 0) [.top] [])))) (false,false,()) fun (a,b,_,_) _ (c)=>(((a,b,c,()),()),xvu a b c none)
def xyO {T:Type} (a:List UInt8) (δ:T) (κ:Bool->T):T:=br ((Iter (xgl a (↑a.length:Int)) 0).isSome) (br (((Iter (xgl a (↑a.length:Int)) 0).getD (false,false,())).fst) (κ (((Iter (xgl a (↑a.length:Int)) 0).getD (false,false,())).snd.fst)) (κ (true))) δ
def xAe (a:List UInt8):=xyO a none some
def xP0:EO:=xLh.f Tryz.func190 20 0 [] [(2,xtP.lp)] (lk1 xtP.ok) (u1 (sEq pStr)) (fun (a,_) _=>xyO a) (fun _ p=>AV.bool p) false
def xyF {T:Type} (c a:Int) (b:List UInt8) (δ:T) (κ:Bool->T):T:=br (c==0) (br (a==0) (κ (b==[])) (κ (false))) (br (c==1) (br (b==[]) (br (decide (a>=(-1125899906842624))) (κ (decide (a<=1125899906842624))) (κ (false))) (κ (false))) (br (c==2) (br (a==0) (br (decide ((↑b.length:Int)<=200)) (br ((xAe b).isSome) (κ ((xAe b).getD false)) δ) (κ (false))) (κ (false))) (br (c==3) (br (b==[]) (br (a==0) (κ (true)) (κ (a==1))) (κ (false))) (κ (false)))))
def xAR (a b:Int) (c:List UInt8):=xyF a b c none some
def xP1:EO:=xP0.f Tryz.func166 61 0 [] [] lk0 (u1 (xTJ (u3 uI uI (sEq pStr)))) (fun ((a,b,c,_),_) _=>xyF a b c) (fun _ p=>AV.bool p) false
def xKW:Int×Int×List UInt8:=((0,0,[]))
def xH7 {T:Type} (δ:T) (κ:Int×Int×List UInt8->T):T:=κ (0,0,[])
def xP2:EO:=xP1.fT Tryz.func108 2 0 [] [] lk0 (fun _=>xH7 none) xTs (fun _=>xKW) (fun _ p=>(AV.agg [AV.int .i64 p.1,AV.int .i64 p.2.1,AV.str p.2.2]))
def xwt {T:Type} (a b:Int) (c:List UInt8) (δ:T) (κ:Int×Int×List UInt8->T):T:=br ((xAR a b c).isSome) (br (!(xAR a b c).getD false) (κ (0,0,[])) (κ (a,b,c))) δ
def xqX (a b:Int) (c:List UInt8):=xwt a b c none some
def xP3:EO:=xP2.f Tryz.func135 8 0 [] [] lk0 (u1 (xTJ (u3 uI uI (sEq pStr)))) (fun ((a,b,c,_),_) _=>xwt a b c) (fun _ p=>AV.agg [AV.int .i64 p.1,AV.int .i64 p.2.1,AV.str p.2.2]) (0,0,[])
def xAQ {T:Type} (n:Int) (δ:T) (κ:Int×Int×List UInt8->T):T:=br ((xqX 1 n []).isSome) (κ (((xqX 1 n []).getD (0,0,[])).fst,((xqX 1 n []).getD (0,0,[])).snd.fst,((xqX 1 n []).getD (0,0,[])).snd.snd)) δ
def xeN (n:Int):=xAQ n none some
def xP4:EO:=xP3.f Tryz.func107 6 0 [] [] lk0 (u1 uI) (fun (n,_) _=>xAQ n) (fun _ p=>AV.agg [AV.int .i64 p.1,AV.int .i64 p.2.1,AV.str p.2.2]) (0,0,[])
def xBJ {T:Type} (a:LA) (i:Int) (δ:T) (κ:Int×Int×List UInt8->T):T:=br (decide (i<0)) (κ (0,0,[])) (br (decide (i>=a.length)) (κ (0,0,[])) (br (ixI a i) (br (ixT a i 3 [Sh.int .i64,Sh.int .i64,Sh.str] 0) (κ ((gC a i 0).toInt,(gC a i 1).toInt,(gC a i 2).toStr)) δ) δ))
def xBI (a:LA) (i:Int):=xBJ a i none some
def xLi:EO:=xP4.f Tryz.func101 18 0 [] [] lk0 (u2 (uL 3) uI) (fun (a,i,_) _=>xBJ a i) (fun _ p=>AV.agg [AV.int .i64 p.1,AV.int .i64 p.2.1,AV.str p.2.2]) (0,0,[])
def xn1 (a b:LA) (c:Int):=(xBI a (gC b c 0).toInt).getD (0,0,[])
def xn0 (a b:LA) (c:Int):=(xn1 a b c).snd
def xpw {T:Type} (e c:LA) (f:Int) (d:Nat) (a:Int) (b:LA) (δ:T) (κl:(Nat×Int×LA)->T) (κr:(Nat×LA)->T):T:=br (decide (a<f)) (br (ixI c a) (br (ixS c a (Sh.int .i64) 0) (br ((xBI e (gC c a 0).toInt).isSome) (br (rmB d b 1 32) (κl (d+1,i64.wrap (a+1),b++[AV.agg [AV.int .i64 (xn1 e c a).fst,AV.int .i64 (xn0 e c a).fst,AV.str (xn0 e c a).snd]])) δ) δ) δ) δ) (κr (d,b))
def xfu (c d:LA) (e:Int):StT (Nat×Int×LA) (Nat×LA):=fun (b,f,a)=>xpw c d e b f a none inL inR
def xzV:=xLi.l 25 0 [] [] Tryz.f66 0 lk0 [0,5,11,12,13] [5] [(5,3,76)] (q5 (qL 3) (xTE 0 0 0) (qL 1) qI qI) (q1 (qB 0 3 76 xTt)) (fun (c,b,d,e,f,_) (a,_)=>(xfu c d e,(b,f,a),fun p=>(.leaf (.exit 0) [AV.osl 0 0 0 p.1] [bF 0 3 76 p.2]))) (0,[]) fun (c,_,d,e,_,_) _ (b,f,a)=>(((c,b,d,e,f,()),(a,())),xpw c d e b f a none)
def xyE (a b:LA):=(Iter (xfu a b (↑b.length:Int)) (0,0,[])).getD (0,[])
def xzW {T:Type} (b a:LA) (δ:T) (κ:Nat×LA->T):T:=br (decide (32*(↑a.length:Int)<=281474976710656)&&decide ((↑a.length:Int)<=4611686018427387904)) (br ((Iter (xfu b a (↑a.length:Int)) (0,0,[])).isSome) (κ ((xyE b a).fst,(xyE b a).snd)) δ) δ
def xdG (a b:LA):=xzW a b none some
def xGM:EO:=xLi.fM Tryz.func66 25 0 [] [(3,xzV.lp)] (lk1 xzV.ok) (u2 (uL 3) (uL 1)) xTr (fun (a,b,_) _ _=>xzW a b) (fun _ _ p=>(AV.osl 0 0 0 p.1,([bF 0 3 76 p.2]:List Box))) (0,[])
def xgm (b:Int) (a:LA):=((a.getD (0+b.toNat) .top).cells.getD 0 .top).toInt
def xoD (d:Int) (c:Nat) (b a:LA):=((xaQ (Lib.itoa (xgm d b)) c a).getD (0,0,[])).snd
def xoC (d:Int) (c:Nat) (b a:LA):=xbs 32 (xoD d c b a).fst (xoD d c b a).snd
def xoB (d:Int) (c:Nat) (b a:LA):=(xoC d c b a).getD (0,[])
def xkc {T:Type} (k:LA) (l j:Int) (e:Nat) (i c:Int) (d:Nat) (f g:Int) (h:List UInt8) (a b:LA) (δ:T) (κl:(Int×Nat×Int×Int×List UInt8×LA×LA)->T) (κr:(Nat×Int×Int×List UInt8×LA)->T):T:=br (decide (c<i)) (br (decide (0<=c)&&decide (c<(↑e:Int))) (br (decide (0+c.toNat<a.length)&&xSG (Sh.int .i64) ((a.getD (0+c.toNat) .top).cells.getD 0 .top)) (br (decide ((-9223372036854775808)<=xgm c a)&&decide (xgm c a<=9223372036854775807)) (br ((xaQ (Lib.itoa (xgm c a)) d b).isSome) (br ((xoC c d a b).isSome) (κl (i64.wrap (c+1),(xoB c d a b).fst,f,g,h,a,(xoB c d a b).snd)) δ) δ) δ) δ) δ) (κr (d,f,g,h,b))
def xbD (k:LA) (l e:Int) (c:Nat) (f:Int):StT (Int×Nat×Int×Int×List UInt8×LA×LA) (Nat×Int×Int×List UInt8×LA):=fun (g,d,h,i,j,b,a)=>xkc k l e c f g d h i j b a none inL inR
def xjR:=xGM.l 37 0 [] [] Tryz.f65 1 lk0 [3,5,8,9,10,21,22,23] [3,5,8,9,10] [] (q8 (xTF 0 0 0 0) (xTF 1 0 0 0) (qL 3) qI qI (xTE 2 0 0) qI qI) (q4 (xTH 0 2 142 false false (q1 (xTG (q2 (xTF 0 0 0 0) (xTE 3 0 0))))) (qB 0 3 76 (q1 (xTG (q3 qI qI pStr)))) (qB 0 1 3 xTt) (qB 0 1 5 xTt)) (fun (_,_,k,m,e,c,f,g,_) (((_,d,_),_),((h,i,j,_),_),b,a,_)=>(xbD k m e c f,(g,d,h,i,j,b,a),fun p=>(.leaf (.exit 2) [AV.own 0 0 0 0,AV.own 1 0 0 0,AV.list 3 k,AV.int .i64 m,AV.int .i64 e] [⟨0,2,142,[AV.agg [AV.own 0 0 0 0,AV.osl 2 0 0 p.1]],false,false⟩,bF 0 3 76 [AV.agg [AV.int .i64 p.2.1,AV.int .i64 p.2.2.1,AV.str p.2.2.2.1]],bF 0 1 5 p.2.2.2.2]))) (0,0,0,[],[]) fun (_,_,k,m,e,c,f,_,_) _ (g,d,h,i,j,b,a)=>((((),(),k,m,e,c,f,g,()),((((),d,()),()),((h,i,j,()),()),b,a,())),xkc k m e c f g d h i j b a none)
def xoA (b:LA) (e a:Int) (d:Nat) (c:LA):=Iter (xbD b e a 3 3) (0,d,(gC b a 0).toInt,(gC b a 1).toInt,(gC b a 2).toStr,[AV.int .i64 (gC b a 0).toInt,AV.int .i64 (gC b a 1).toInt,AV.int .i64 (↑(gC b a 2).toStr.length:Int)],c)
def xoz (d:LA) (e c:Int) (b:Nat) (a:LA):=(xoA d e c b a).getD (0,0,0,[],[])
def xoy (d:LA) (e c:Int) (b:Nat) (a:LA):=(xoz d e c b a).snd.snd.snd
def xow (d:LA) (e c:Int) (b:Nat) (a:LA):=xaQ (xoy d e c b a).fst (xoz d e c b a).fst (xoy d e c b a).snd
def xov (d:LA) (e c:Int) (b:Nat) (a:LA):=((xow d e c b a).getD (0,0,[])).snd
def xkb {T:Type} (d:LA) (e b:Int) (c:Nat) (a:LA) (δ:T) (κl:(Int×Nat×LA)->T) (κr:(Nat×LA)->T):T:=br (decide (b<e)) (br (ixI d b) (br (ixT d b 3 [Sh.int .i64,Sh.int .i64,Sh.str] 0) (br ((xoA d e b c a).isSome) (br ((xow d e b c a).isSome) (κl (i64.wrap (b+1),(xov d e b c a).fst,(xov d e b c a).snd)) δ) δ) δ) δ) (κr (c,a))
def xdH (d:LA) (e:Int):StT (Int×Nat×LA) (Nat×LA):=fun (c,b,a)=>xkb d e c b a none inL inR
def xvz:=xGM.l 37 0 [] [(6,xjR.lp)] Tryz.f65 0 (lk1 xjR.ok) [3,8,9,10] [3] [] (q4 (xTF 0 0 0 0) (qL 3) qI qI) (q2 (xTH 0 2 142 false false (q1 (xTG (q2 (xTF 0 0 0 0) (xTE 1 0 0))))) (qB 0 1 5 xTt)) (fun (_,d,e,c,_) (((_,b,_),_),a,_)=>(xdH d e,(c,b,a),fun p=>(.leaf (.exit 0) [AV.own 0 0 0 0] [⟨0,2,142,[AV.agg [AV.own 0 0 0 0,AV.osl 1 0 0 p.1]],false,false⟩,bF 0 1 5 p.2]))) (0,[]) fun (_,d,e,_,_) _ (c,b,a)=>((((),d,e,c,()),((((),b,()),()),a,())),xkb d e c b a none)
def xdh (a:LA):=((a.getD 0 .top).cells.getD 0 .top).toInt
def xsQ (a:LA):=xbV 32 ((xaN (Lib.itoa (xdh a))).getD (0,0,[])).snd.fst ((xaN (Lib.itoa (xdh a))).getD (0,0,[])).snd.snd
def xsP (a:LA):=(xsQ a).getD (0,[])
def xsO (a:LA):=Iter (xbD a (↑a.length:Int) 0 3 3) (1,(xsP a).fst,xdh a,((a.getD 0 .top).cells.getD 1 .top).toInt,((a.getD 0 .top).cells.getD 2 .top).toStr,[AV.int .i64 (xdh a),AV.int .i64 ((a.getD 0 .top).cells.getD 1 .top).toInt,AV.int .i64 (↑((a.getD 0 .top).cells.getD 2 .top).toStr.length:Int)],(xsP a).snd)
def xsN (a:LA):=(xsO a).getD (0,0,0,[],[])
def xsM (a:LA):=(xsN a).snd.snd.snd
def xsL (a:LA):=xaQ (xsM a).fst (xsN a).fst (xsM a).snd
def xsK (a:LA):=((xsL a).getD (0,0,[])).snd
def xsJ (a:LA):=Iter (xdH a (↑a.length:Int)) (1,(xsK a).fst,(xsK a).snd)
def xsI (a:LA):=(xsJ a).getD (0,[])
def xjb (a:LA):=(xsI a).snd
def xtR {T:Type} (a:LA) (δ:T) (κ:List UInt8->T):T:=br (decide (0<(↑a.length:Int))) (br (decide (0<(↑a.length:Int))) (br (decide (0<a.length)&&((a.getD 0 .top).cells.length==3&&xSN [Sh.int .i64,Sh.int .i64,Sh.str] (a.getD 0 .top).cells 0)) (br (decide ((-9223372036854775808)<=xdh a)&&decide (xdh a<=9223372036854775807)) (br ((xaN (Lib.itoa (xdh a))).isSome) (br ((xsQ a).isSome) (br ((xsO a).isSome) (br ((xsL a).isSome) (br ((xsJ a).isSome) (br (decide ((xsI a).fst=(xjb a).length)&&isBytes (xjb a)&&decide ((xjb a).length≠0)) (κ (strOf (xjb a))) δ) δ) δ) δ) δ) δ) δ) δ) δ) (κ ([]))
def xsl (a:LA):=xtR a none some
def xP5:EO:=xGM.f Tryz.func65 37 0 [] [(6,xjR.lp),(3,xvz.lp)] (lks (lkC xvz.ok (lkC xjR.ok lkN))) (u1 (uL 3)) (fun (a,_) _=>xtR a) (fun _ p=>AV.str p) []
def xjM {T:Type} (a:List UInt8) (n:Nat) (b:LA) (δ:T) (κ:Int×Nat×LA->T):T:=br (n==b.length&&(decide ((n+(byteAVs a).length)*1<=140737488355328)&&decide (n+(byteAVs a).length<=4611686018427387904))) (κ ((↑a.length:Int),n+(byteAVs a).length,b++byteAVs a)) δ
def xln (a:List UInt8) (n:Nat) (b:LA):=xjM a n b none some
def xOy:EO:=xP5.fM Tryz.func97 19 2 [] [] lk0 (u2 (sEq (xTF 0 0 0 0)) (sEq pStr)) (q2 (xTH 0 2 142 false false (q1 (xTG (q2 (xTF 0 0 0 0) (xTE 1 2 0))))) (qB 2 1 5 xTt)) (fun (_,a,_) (((_,n,_),_),b,_) _=>xjM a n b) (fun _ _ p=>(AV.tuple [AV.int .i64 p.1,.top],([⟨0,2,142,[AV.agg [AV.own 0 0 0 0,AV.osl 1 3 0 p.2.1]],false,false⟩,bF 3 1 5 p.2.2]:List Box))) (0,0,[])
def xjN {T:Type} (a:List UInt8) (n:Nat) (b:LA) (δ:T) (κ:Int×Nat×LA->T):T:=br (n==b.length&&(decide ((n+(byteAVs a).length)*1<=140737488355328)&&decide (n+(byteAVs a).length<=4611686018427387904))) (κ ((↑a.length:Int),n+(byteAVs a).length,b++byteAVs a)) δ
def xlo (a:List UInt8) (n:Nat) (b:LA):=xjN a n b none some
def xOz:EO:=xOy.fM Tryz.func97 19 2 [] [] lk0 (u2 (sEq (xTF 0 0 0 0)) (sEq pStr)) (q2 (xTH 0 2 142 false false (q1 (xTG (q2 (xTF 0 0 0 0) (xTE 1 3 0))))) (qB 3 1 5 xTt)) (fun (_,a,_) (((_,n,_),_),b,_) _=>xjN a n b) (fun _ _ p=>(AV.tuple [AV.int .i64 p.1,.top],([⟨0,2,142,[AV.agg [AV.own 0 0 0 0,AV.osl 1 4 0 p.2.1]],false,false⟩,bF 4 1 5 p.2.2]:List Box))) (0,0,[])
def xjO {T:Type} (a:List UInt8) (n:Nat) (b:LA) (δ:T) (κ:Int×Nat×LA->T):T:=br (n==b.length&&(decide ((n+(byteAVs a).length)*1<=140737488355328)&&decide (n+(byteAVs a).length<=4611686018427387904))) (κ ((↑a.length:Int),n+(byteAVs a).length,b++byteAVs a)) δ
def xlp (a:List UInt8) (n:Nat) (b:LA):=xjO a n b none some
def xOA:EO:=xOz.fM Tryz.func97 19 2 [] [] lk0 (u2 (sEq (xTF 0 0 0 0)) (sEq pStr)) (q2 (xTH 0 2 142 false false (q1 (xTG (q2 (xTF 0 0 0 0) (xTE 1 4 0))))) (qB 4 1 5 xTt)) (fun (_,a,_) (((_,n,_),_),b,_) _=>xjO a n b) (fun _ _ p=>(AV.tuple [AV.int .i64 p.1,.top],([⟨0,2,142,[AV.agg [AV.own 0 0 0 0,AV.osl 1 5 0 p.2.1]],false,false⟩,bF 5 1 5 p.2.2]:List Box))) (0,0,[])
def xjP {T:Type} (a:List UInt8) (n:Nat) (b:LA) (δ:T) (κ:Int×Nat×LA->T):T:=br (n==b.length&&(decide ((n+(byteAVs a).length)*1<=140737488355328)&&decide (n+(byteAVs a).length<=4611686018427387904))) (κ ((↑a.length:Int),n+(byteAVs a).length,b++byteAVs a)) δ
def xlq (a:List UInt8) (n:Nat) (b:LA):=xjP a n b none some
def xOB:EO:=xOA.fM Tryz.func97 19 2 [] [] lk0 (u2 (sEq (xTF 0 0 0 0)) (sEq pStr)) (q2 (xTH 0 2 142 false false (q1 (xTG (q2 (xTF 0 0 0 0) (xTE 1 5 0))))) (qB 5 1 5 xTt)) (fun (_,a,_) (((_,n,_),_),b,_) _=>xjP a n b) (fun _ _ p=>(AV.tuple [AV.int .i64 p.1,.top],([⟨0,2,142,[AV.agg [AV.own 0 0 0 0,AV.osl 1 6 0 p.2.1]],false,false⟩,bF 6 1 5 p.2.2]:List Box))) (0,0,[])
def xjQ {T:Type} (a:List UInt8) (n:Nat) (b:LA) (δ:T) (κ:Int×Nat×LA->T):T:=br (n==b.length&&(decide ((n+(byteAVs a).length)*1<=140737488355328)&&decide (n+(byteAVs a).length<=4611686018427387904))) (κ ((↑a.length:Int),n+(byteAVs a).length,b++byteAVs a)) δ
def xlr (a:List UInt8) (n:Nat) (b:LA):=xjQ a n b none some
def xOC:EO:=xOB.fM Tryz.func97 19 2 [] [] lk0 (u2 (sEq (xTF 0 0 0 0)) (sEq pStr)) (q2 (xTH 0 2 142 false false (q1 (xTG (q2 (xTF 0 0 0 0) (xTE 1 6 0))))) (qB 6 1 5 xTt)) (fun (_,a,_) (((_,n,_),_),b,_) _=>xjQ a n b) (fun _ _ p=>(AV.tuple [AV.int .i64 p.1,.top],([⟨0,2,142,[AV.agg [AV.own 0 0 0 0,AV.osl 1 7 0 p.2.1]],false,false⟩,bF 7 1 5 p.2.2]:List Box))) (0,0,[])
def xli {T:Type} (c:Int) (n:Nat) (a:LA) (δ:T) (κ:Nat×LA->T):T:=br (rmB n a 1 1) (κ (n+1,a++[AV.int .u8 c])) δ
def xnt (c:Int) (n:Nat) (a:LA):=xli c n a none some
def xOD:EO:=xOC.fM Tryz.func99 17 2 [] [] lk0 (u2 (sEq (xTF 0 0 0 0)) (sEq (pInt .u8))) (q2 (xTH 0 2 142 false false (q1 (xTG (q2 (xTF 0 0 0 0) (xTE 1 2 0))))) (qB 2 1 5 xTt)) (fun (_,c,_) (((_,n,_),_),a,_) _=>xli c n a) (fun _ _ p=>(.top,([⟨0,2,142,[AV.agg [AV.own 0 0 0 0,AV.osl 1 3 0 p.1]],false,false⟩,bF 3 1 5 p.2]:List Box))) (0,[])
def xlj {T:Type} (c:Int) (n:Nat) (a:LA) (δ:T) (κ:Nat×LA->T):T:=br (rmB n a 1 1) (κ (n+1,a++[AV.int .u8 c])) δ
def xnu (c:Int) (n:Nat) (a:LA):=xlj c n a none some
def xOE:EO:=xOD.fM Tryz.func99 17 2 [] [] lk0 (u2 (sEq (xTF 0 0 0 0)) (sEq (pInt .u8))) (q2 (xTH 0 2 142 false false (q1 (xTG (q2 (xTF 0 0 0 0) (xTE 1 3 0))))) (qB 3 1 5 xTt)) (fun (_,c,_) (((_,n,_),_),a,_) _=>xlj c n a) (fun _ _ p=>(.top,([⟨0,2,142,[AV.agg [AV.own 0 0 0 0,AV.osl 1 4 0 p.1]],false,false⟩,bF 4 1 5 p.2]:List Box))) (0,[])
def xlk {T:Type} (c:Int) (n:Nat) (a:LA) (δ:T) (κ:Nat×LA->T):T:=br (rmB n a 1 1) (κ (n+1,a++[AV.int .u8 c])) δ
def xnv (c:Int) (n:Nat) (a:LA):=xlk c n a none some
def xOF:EO:=xOE.fM Tryz.func99 17 2 [] [] lk0 (u2 (sEq (xTF 0 0 0 0)) (sEq (pInt .u8))) (q2 (xTH 0 2 142 false false (q1 (xTG (q2 (xTF 0 0 0 0) (xTE 1 4 0))))) (qB 4 1 5 xTt)) (fun (_,c,_) (((_,n,_),_),a,_) _=>xlk c n a) (fun _ _ p=>(.top,([⟨0,2,142,[AV.agg [AV.own 0 0 0 0,AV.osl 1 5 0 p.1]],false,false⟩,bF 5 1 5 p.2]:List Box))) (0,[])
def xll {T:Type} (c:Int) (n:Nat) (a:LA) (δ:T) (κ:Nat×LA->T):T:=br (rmB n a 1 1) (κ (n+1,a++[AV.int .u8 c])) δ
def xnw (c:Int) (n:Nat) (a:LA):=xll c n a none some
def xI1:EO:=xOF.fM Tryz.func99 17 2 [] [] lk0 (u2 (sEq (xTF 0 0 0 0)) (sEq (pInt .u8))) (q2 (xTH 0 2 142 false false (q1 (xTG (q2 (xTF 0 0 0 0) (xTE 1 5 0))))) (qB 5 1 5 xTt)) (fun (_,c,_) (((_,n,_),_),a,_) _=>xll c n a) (fun _ _ p=>(.top,([⟨0,2,142,[AV.agg [AV.own 0 0 0 0,AV.osl 1 6 0 p.1]],false,false⟩,bF 6 1 5 p.2]:List Box))) (0,[])
def xo8 (c:LA) (d:Int) (b:Nat) (a:LA):=((xaQ (Lib.itoa (gC c d 0).toInt) b a).getD (0,0,[])).snd
def xo7 (c:LA) (d:Int) (b:Nat) (a:LA):=xbs 58 (xo8 c d b a).fst (xo8 c d b a).snd
def xo6 (c:LA) (d:Int) (b:Nat) (a:LA):=(xo7 c d b a).getD (0,[])
def xqN (c:LA) (d:Int) (b:Nat) (a:LA):=xln (Lib.itoa (gC c d 1).toInt) (xo6 c d b a).fst (xo6 c d b a).snd
def xqM (c:LA) (d:Int) (b:Nat) (a:LA):=((xqN c d b a).getD (0,0,[])).snd
def xqL (c:LA) (d:Int) (b:Nat) (a:LA):=xnu 58 (xqM c d b a).fst (xqM c d b a).snd
def xqK (c:LA) (d:Int) (b:Nat) (a:LA):=(xqL c d b a).getD (0,[])
def xqJ (c:LA) (d:Int) (b:Nat) (a:LA):=xlp (Lib.itoa (↑(gC c d 2).toStr.length:Int)) (xqK c d b a).fst (xqK c d b a).snd
def xqI (c:LA) (d:Int) (b:Nat) (a:LA):=((xqJ c d b a).getD (0,0,[])).snd
def xqH (c:LA) (d:Int) (b:Nat) (a:LA):=xnw 58 (xqI c d b a).fst (xqI c d b a).snd
def xqG (c:LA) (d:Int) (b:Nat) (a:LA):=(xqH c d b a).getD (0,[])
def xqF (c:LA) (d:Int) (b:Nat) (a:LA):=xlr (gC c d 2).toStr (xqG c d b a).fst (xqG c d b a).snd
def xqE (c:LA) (d:Int) (b:Nat) (a:LA):=((xqF c d b a).getD (0,0,[])).snd
def xmk {T:Type} (d:LA) (e c:Int) (b:Nat) (a:LA) (δ:T) (κl:(Int×Nat×LA)->T) (κr:(Nat×LA)->T):T:=br (decide (c<e)) (br (ixI d c) (br (ixT d c 3 [Sh.int .i64,Sh.int .i64,Sh.str] 0) (br (decide ((-9223372036854775808)<=(gC d c 0).toInt)&&decide ((gC d c 0).toInt<=9223372036854775807)) (br ((xaQ (Lib.itoa (gC d c 0).toInt) b a).isSome) (br ((xo7 d c b a).isSome) (br (decide ((-9223372036854775808)<=(gC d c 1).toInt)&&decide ((gC d c 1).toInt<=9223372036854775807)) (br ((xqN d c b a).isSome) (br ((xqL d c b a).isSome) (br (decide ((↑(gC d c 2).toStr.length:Int)<=9223372036854775807)) (br ((xqJ d c b a).isSome) (br ((xqH d c b a).isSome) (br ((xqF d c b a).isSome) (κl (i64.wrap (c+1),(xqE d c b a).fst,(xqE d c b a).snd)) δ) δ) δ) δ) δ) δ) δ) δ) δ) δ) δ) δ) (κr (b,a))
def xeC (c:LA) (d:Int):StT (Int×Nat×LA) (Nat×LA):=fun (e,b,a)=>xmk c d e b a none inL inR
def xw3:=xI1.l 33 0 [] [] Tryz.f69 0 lk0 [3,6,7,8] [3] [] (q4 (xTF 0 0 0 0) (qL 3) qI qI) (q2 (xTH 0 2 142 false false (q1 (xTG (q2 (xTF 0 0 0 0) (xTE 1 0 0))))) (qB 0 1 5 xTt)) (fun (_,c,d,e,_) (((_,b,_),_),a,_)=>(xeC c d,(e,b,a),fun p=>(.leaf (.exit 0) [AV.own 0 0 0 0] [⟨0,2,142,[AV.agg [AV.own 0 0 0 0,AV.osl 1 0 0 p.1]],false,false⟩,bF 0 1 5 p.2]))) (0,[]) fun (_,c,d,_,_) _ (e,b,a)=>((((),c,d,e,()),((((),b,()),()),a,())),xmk c d e b a none)
def xty (a:LA):=((xaN (Lib.itoa ((a.getD 0 .top).cells.getD 0 .top).toInt)).getD (0,0,[])).snd
def xtw (a:LA):=xbV 58 (xty a).fst (xty a).snd
def xtv (a:LA):=(xtw a).getD (0,[])
def xtu (a:LA):=xlm (Lib.itoa ((a.getD 0 .top).cells.getD 1 .top).toInt) (xtv a).fst (xtv a).snd
def xtt (a:LA):=((xtu a).getD (0,0,[])).snd
def xts (a:LA):=xnt 58 (xtt a).fst (xtt a).snd
def xve (a:LA):=(xts a).getD (0,[])
def xvd (a:LA):=xlo (Lib.itoa (↑((a.getD 0 .top).cells.getD 2 .top).toStr.length:Int)) (xve a).fst (xve a).snd
def xvc (a:LA):=((xvd a).getD (0,0,[])).snd
def xvb (a:LA):=xnv 58 (xvc a).fst (xvc a).snd
def xva (a:LA):=(xvb a).getD (0,[])
def xu9 (a:LA):=xlq ((a.getD 0 .top).cells.getD 2 .top).toStr (xva a).fst (xva a).snd
def xu8 (a:LA):=((xu9 a).getD (0,0,[])).snd
def xu7 (a:LA):=Iter (xeC a (↑a.length:Int)) (1,(xu8 a).fst,(xu8 a).snd)
def xu6 (a:LA):=(xu7 a).getD (0,[])
def xlc (a:LA):=(xu6 a).snd
def xwp {T:Type} (a:LA) (δ:T) (κ:List UInt8->T):T:=br (decide (0<(↑a.length:Int))) (br (decide (0<(↑a.length:Int))) (br (decide (0<a.length)&&((a.getD 0 .top).cells.length==3&&xSN [Sh.int .i64,Sh.int .i64,Sh.str] (a.getD 0 .top).cells 0)) (br (decide ((-9223372036854775808)<=((a.getD 0 .top).cells.getD 0 .top).toInt)&&decide (((a.getD 0 .top).cells.getD 0 .top).toInt<=9223372036854775807)) (br ((xaN (Lib.itoa ((a.getD 0 .top).cells.getD 0 .top).toInt)).isSome) (br ((xtw a).isSome) (br (decide ((-9223372036854775808)<=((a.getD 0 .top).cells.getD 1 .top).toInt)&&decide (((a.getD 0 .top).cells.getD 1 .top).toInt<=9223372036854775807)) (br ((xtu a).isSome) (br ((xts a).isSome) (br (decide ((↑((a.getD 0 .top).cells.getD 2 .top).toStr.length:Int)<=9223372036854775807)) (br ((xvd a).isSome) (br ((xvb a).isSome) (br ((xu9 a).isSome) (br ((xu7 a).isSome) (br (decide ((xu6 a).fst=(xlc a).length)&&isBytes (xlc a)&&decide ((xlc a).length≠0)) (κ (strOf (xlc a))) δ) δ) δ) δ) δ) δ) δ) δ) δ) δ) δ) δ) δ) δ) (κ ([]))
def xu5 (a:LA):=xwp a none some
def xGN:EO:=xI1.f Tryz.func69 33 0 [] [(3,xw3.lp)] (lk1 xw3.ok) (u1 (uL 3)) (fun (a,_) _=>xwp a) (fun _ p=>AV.str p) []
def xgx (d e:LA) (f:Int) (a:Nat) (g:Int) (b c:LA):=decide ((↑a:Int)<(↑(a+1):Int))
def xgg (a b:LA) (c:Int):=xsl (List.take ((xdG (gC b c 0).toList a).getD (0,[])).fst (List.drop 0 ((xdG (gC b c 0).toList a).getD (0,[])).snd))
def xaU (a:Nat):Nat:=0+(↑a:Int).toNat
def xgZ (d e:LA) (f:Int) (b:Nat) (g:Int) (c a:LA):=decide (xaU b<(a++[AV.list 3 []]).length)
def xbu (a b:LA) (c:Int):=(xgg a b c).getD []
def xa0 (b:Nat) (a:LA):=(((a++[AV.list 3 []]).getD (xaU b) .top).cells.getD 0 .top).toList.length
def xg3 (a:LA) (d:Nat) (b:Int) (c:LA):=(((c++[AV.list 3 []]).getD (xaU d) .top).cells.getD 0 .top).toList++[AV.agg [AV.list 3 (gC a b 0).toList,AV.int .i64 (gC a b 1).toInt,AV.int .i64 (gC a b 2).toInt]]
def xg0 (b d:LA) (c:Nat) (e:Int) (a:LA):=decide (0<=(xSx (AV.int .i64 0) a (xbu b d e)).toInt)&&decide ((xSx (AV.int .i64 0) a (xbu b d e)).toInt<(↑c:Int))
def xaO (b c:LA) (d:Int) (a:LA):Nat:=0+(xSx (AV.int .i64 0) a (xbu b c d)).toInt.toNat
def xg2 (a b:LA) (c:Int):=decide ((xbu a b c).length<=4611686018427387904)
def xcV (b:Nat) (a:LA):=(a++[AV.list 3 []]).set (xaU b) (AV.int .i64 (↑(xa0 b a):Int))
def xg1 (c d:LA) (e:Int) (a b:LA):=decide (xaO c d e a<b.length)
def xg4 (e b:LA) (c:Int) (a d:LA):=((d.getD (xaO e b c a) .top).cells.getD 0 .top).toList++[AV.agg [AV.list 3 (gC b c 0).toList,AV.int .i64 (gC b c 1).toInt,AV.int .i64 (gC b c 2).toInt]]
def xaX (c d:LA) (e:Int) (a b:LA):=((b.getD (xaO c d e a) .top).cells.getD 0 .top).toList.length
def xcW (c d:LA) (e:Int) (a b:LA):=xaX c d e a b+1
def xff {T:Type} (c f:LA) (g:Int) (d:Nat) (e:Int) (a b:LA) (δ:T) (κl:(Nat×Int×LA×LA)->T) (κr:(Nat×LA)->T):T:=br (decide (e<g)) (br (ixI f e) (br (ixT f e 3 [Sh.list 3,Sh.int .i64,Sh.int .i64] 0) (br ((xdG (gC f e 0).toList c).isSome) (br (decide (0+((xdG (gC f e 0).toList c).getD (0,[])).fst<=((xdG (gC f e 0).toList c).getD (0,[])).snd.length)&&true) (br ((xgg c f e).isSome) (br (xg2 c f e&&xSG (Sh.int .i64) (xSx (AV.int .i64 0) a (xbu c f e))) (br (!xTb a (xbu c f e)) (br (decide (a.length<4611686018427387904)&&xg2 c f e) (br (rmB d b 1 24) (br (xgx c f g d e a b) (br (xgZ c f g d e a b&&(xTm 3 (((b++[AV.list 3 []]).getD (xaU d) .top).cells.getD 0 .top)&&((b++[AV.list 3 []]).getD (xaU d) .top).cells.length==1)) (br (xgZ c f g d e a b&&(xTm 3 (((b++[AV.list 3 []]).getD (xaU d) .top).cells.getD 0 .top)&&(((b++[AV.list 3 []]).getD (xaU d) .top).cells.length==1&&(2*xa0 d b==2*xa0 d b&&(xa0 d b==xa0 d b&&(xa0 d b==xa0 d b&&(decide ((xa0 d b+1)*40<=140737488355328)&&decide (xa0 d b+1<=4611686018427387904)))))))) (br (xgx c f g d e a b) (br (decide (xaU d<(xcV d b).length)&&(((xcV d b).getD (xaU d) .top).cells.length==1&&(xa0 d b+1==(xg3 f d e b).length&&xTM (((xcV d b).getD (xaU d) .top).cells.getD 0 .top) (xa0 d b+1)))) (κl (d+1,i64.wrap (e+1),xSY a (xbu c f e) (AV.int .i64 (↑d:Int)),(xcV d b).set (xaU d) (AV.list 3 (xg3 f d e b)))) δ) δ) δ) δ) δ) δ) δ) (br (xg0 c f d e a) (br (xg1 c f e a b&&(xTm 3 ((b.getD (xaO c f e a) .top).cells.getD 0 .top)&&(b.getD (xaO c f e a) .top).cells.length==1)) (br (xg1 c f e a b&&(xTm 3 ((b.getD (xaO c f e a) .top).cells.getD 0 .top)&&((b.getD (xaO c f e a) .top).cells.length==1&&(2*xaX c f e a b==2*xaX c f e a b&&(xaX c f e a b==xaX c f e a b&&(xaX c f e a b==xaX c f e a b&&(decide (xcW c f e a b*40<=140737488355328)&&decide (xcW c f e a b<=4611686018427387904)))))))) (br (xg0 c f d e a) (br (decide (xaO c f e a<(b.set (xaO c f e a) (AV.int .i64 (↑(xaX c f e a b):Int))).length)&&(((b.set (xaO c f e a) (AV.int .i64 (↑(xaX c f e a b):Int))).getD (xaO c f e a) .top).cells.length==1&&(xcW c f e a b==(xg4 c f e a b).length&&xTM (((b.set (xaO c f e a) (AV.int .i64 (↑(xaX c f e a b):Int))).getD (xaO c f e a) .top).cells.getD 0 .top) (xcW c f e a b)))) (κl (d,i64.wrap (e+1),a,(b.set (xaO c f e a) (AV.int .i64 (↑(xaX c f e a b):Int))).set (xaO c f e a) (AV.list 3 (xg4 c f e a b)))) δ) δ) δ) δ) δ)) δ) δ) δ) δ) δ) δ) (κr (d,b))
def xbz (d e:LA) (f:Int):StT (Nat×Int×LA×LA) (Nat×LA):=fun (c,g,a,b)=>xff d e f c g a b none inL inR
def xr3:=xGN.l 57 0 [] [] Tryz.f40 0 lk0 [1,5,6,18,19,20] [6] [(6,1,253605445655)] (q6 (qL 1) (xTF 0 0 0 0) (xTE 1 0 0) (qL 3) qI qI) (q2 (qB 0 2 1208925819615114573119488 xTt) (qB 0 1 253605445655 xTt)) (fun (d,_,c,e,f,g,_) (a,b,_)=>(xbz d e f,(c,g,a,b),fun p=>(.leaf (.exit 0) [AV.osl 0 0 0 p.1] [bF 0 1 253605445655 p.2]))) (0,[]) fun (d,_,_,e,f,_,_) _ (c,g,a,b)=>(((d,(),c,e,f,g,()),(a,b,())),xff d e f c g a b none)
def xou (l a:LA):=Iter (xbz a l (↑l.length:Int)) (0,0,[],[])
def xot (l a:LA):=(xou l a).getD (0,[])
def xor (l a:LA):=(xot l a).fst
def xos (l a:LA):=(xot l a).snd
def xoq (l a:LA):=List.take (xor l a) (List.drop 0 (xos l a))
def xpI {T:Type} (l a:LA) (δ:T) (κ:LA->T):T:=br ((↑a.length:Int)==0) (κ ([AV.list 3 l])) (br ((xou l a).isSome) (br (decide (0+xor l a<=(xos l a).length)&&xTc 3 0 (xoq l a)&&true) (κ (xoq l a)) δ) δ)
def xja (l a:LA):=xpI l a none some
def xLj:EO:=xGN.f Tryz.func40 57 0 [] [(6,xr3.lp)] (lk1 xr3.ok) (u2 (uL 3) (uL 1)) (fun (l,a,_) _=>xpI l a) (fun _ p=>AV.list 1 p) []
def xml {T:Type} (f:LA) (h b g a c d:Int) (e:List UInt8) (δ:T) (κl:(Int×Int×Int×Int×Int×List UInt8)->T) (κr:(Int×Int×Int×Int×List UInt8)->T):T:=br (decide (a<h)) (br (ixI f a) (br (ixT f a 3 [Sh.int .i64,Sh.int .i64,Sh.str] 0) (κl (i64.wrap (b+(gC f a 1).toInt.fdiv 1048576),i64.wrap (g+andI IntKind.i64 (gC f a 1).toInt 1048575),i64.wrap (a+1),c,d,e)) δ) δ) (κr (b,g,c,d,e))
def xeD (g:LA) (h:Int):StT (Int×Int×Int×Int×Int×List UInt8) (Int×Int×Int×Int×List UInt8):=fun (a,e,f,b,c,d)=>xml g h a e f b c d none inL inR
def xw4:=xLj.l 51 0 [] [] Tryz.f109 0 lk0 [2,3,4,8,9,10] [2,3,4] [] (q6 (xTF 0 0 0 0) qI qI (qL 3) qI qI) (q1 (qB 0 3 76 (q1 (xTG (q3 qI qI pStr))))) (fun (_,a,e,g,h,f,_) (((b,c,d,_),_),_)=>(xeD g h,(a,e,f,b,c,d),fun p=>(.leaf (.exit 0) [AV.own 0 0 0 0,AV.int .i64 p.1,AV.int .i64 p.2.1] [bF 0 3 76 [AV.agg [AV.int .i64 p.2.2.1,AV.int .i64 p.2.2.2.1,AV.str p.2.2.2.2]]]))) (0,0,0,0,[]) fun (_,_,_,g,h,_,_) _ (a,e,f,b,c,d)=>((((),a,e,g,h,f,()),(((b,c,d,()),()),())),xml g h a e f b c d none)
def xvi (l:LA):=Iter (xeD l (↑l.length:Int)) (0,0,0,0,0,[])
def xvh (l:LA):=(xvi l).getD (0,0,0,0,[])
def xvg (l:LA):=(xvh l).snd.fst
def xpv (l:LA):=i64.wrap ((xvh l).fst+(xvg l).fdiv 1048576)
def xf4 (l:LA):=i64.wrap (i64.wrap (xpv l*1048576)+andI IntKind.i64 (xvg l) 1048575)
def xwq {T:Type} (l:LA) (δ:T) (κ:Int×Int×List UInt8->T):T:=br ((xvi l).isSome) (br (decide (xpv l<(-2147483648))) (κ (0,0,[])) (br (decide (xpv l>2147483648)) (κ (0,0,[])) (br (decide (xf4 l<(-1125899906842624))) (κ (0,0,[])) (br (decide (xf4 l>1125899906842624)) (κ (0,0,[])) (br ((xeN (xf4 l)).isSome) (κ (((xeN (xf4 l)).getD (0,0,[])).fst,((xeN (xf4 l)).getD (0,0,[])).snd.fst,((xeN (xf4 l)).getD (0,0,[])).snd.snd)) δ))))) δ
def xvf (l:LA):=xwq l none some
def xGO:EO:=xLj.f Tryz.func109 51 0 [] [(3,xw4.lp)] (lk1 xw4.ok) (u1 (uL 3)) (fun (l,_) _=>xwq l) (fun _ p=>AV.agg [AV.int .i64 p.1,AV.int .i64 p.2.1,AV.str p.2.2]) (0,0,[])
def xjH (a:LA) (b d c:Int):=decide (c<(↑(gC a b 0).toList.length:Int))
def xjI (a:LA) (b d c:Int):=decide (c.toNat<(gC a b 0).toList.length)
def xbC (a:LA) (b c:Int):=((gC a b 0).toList.getD c.toNat .top).cells
def xjG (b:LA) (c d a:Int):=decide (0<=a)&&xjH b c d a
def xgh {T:Type} (c:LA) (j:Int) (i:Nat) (a d b f g:Int) (h:List UInt8) (e:LA) (δ:T) (κl:(Nat×Int×Int×Int×Int×Int×List UInt8×LA)->T) (κr:(Nat×Int×Int×Int×Int×List UInt8×LA)->T):T:=br (decide (a<j)) (br (ixI c a) (br (ixS c a (Sh.list 3) 0) (br (xjH c a d b) (br (xjG c a d b) (br (xjI c a d b&&xSG (Sh.int .i64) ((xbC c a b).getD 0 .top)) (br (((xbC c a b).getD 0 .top).toInt != 0) (br (xjG c a d b) (br (xjI c a d b&&((xbC c a b).length==3&&xSN [Sh.int .i64,Sh.int .i64,Sh.str] (xbC c a b) 0)) (br (rmB i e 1 32) (κl (i+1,i64.wrap (a+1),d,b,f,g,h,e++[AV.agg [AV.int .i64 ((xbC c a b).getD 0 .top).toInt,AV.int .i64 ((xbC c a b).getD 1 .top).toInt,AV.str ((xbC c a b).getD 2 .top).toStr]])) δ) δ) δ) (κl (i,i64.wrap (a+1),d,b,f,g,h,e))) δ) δ) (κl (i,i64.wrap (a+1),d,b,f,g,h,e))) δ) δ) (κr (i,d,b,f,g,h,e))
def xcg (e:LA) (f:Int):StT (Nat×Int×Int×Int×Int×Int×List UInt8×LA) (Nat×Int×Int×Int×Int×List UInt8×LA):=fun (g,h,i,j,a,b,c,d)=>xgh e f g h i j a b c d none inL inR
def xjF:=xGO.l 96 0 [] [] Tryz.f70 0 lk0 [3,4,5,18,19,20] [3,4,5] [(5,3,76)] (q6 (xTF 0 0 0 0) (xTF 1 0 0 0) (xTE 2 0 0) (qL 1) qI qI) (q3 (qB 0 2 74 (q1 (xTG (q2 qI qI)))) (qB 0 3 76 (q1 (xTG (q3 qI qI pStr)))) (qB 0 3 76 xTt)) (fun (_,_,e,f,g,h,_) (((i,j,_),_),((a,b,c,_),_),d,_)=>(xcg f g,(e,h,i,j,a,b,c,d),fun p=>(.leaf (.exit 0) [AV.own 0 0 0 0,AV.own 1 0 0 0,AV.osl 2 0 0 p.1] [bF 0 2 74 [AV.agg [AV.int .i64 p.2.1,AV.int .i64 p.2.2.1]],bF 0 3 76 [AV.agg [AV.int .i64 p.2.2.2.1,AV.int .i64 p.2.2.2.2.1,AV.str p.2.2.2.2.2.1]],bF 0 3 76 p.2.2.2.2.2.2]))) (0,0,0,0,0,[],[]) fun (_,_,_,f,g,_,_) _ (e,h,i,j,a,b,c,d)=>((((),(),e,f,g,h,()),(((i,j,()),()),((a,b,c,()),()),d,())),xgh f g e h i j a b c d none)
def xbk (b:Int) (a:LA):=(a.getD (0+b.toNat) .top).cells
def xjJ (b c d:Int) (e:List UInt8) (a:LA):=xbL ((xbk b a).getD 0 .top).toInt ((xbk b a).getD 1 .top).toInt ((xbk b a).getD 2 .top).toStr c d e
def xfE {T:Type} (b f g c d:Int) (e:List UInt8) (a:LA) (κl:(Int×Int×Int×Int×Int×List UInt8×Int×Int×List UInt8×LA)->T):T:=κl (i64.wrap (b+1),f,g,c,d,e,((xbk b a).getD 0 .top).toInt,((xbk b a).getD 1 .top).toInt,((xbk b a).getD 2 .top).toStr,a)
def xfD {T:Type} (h i j e f:Int) (g:List UInt8) (b c:Int) (d:List UInt8) (a:LA) (κl:(Int×Int×Int×Int×Int×List UInt8×Int×Int×List UInt8×LA)->T):T:=br (i==4) (br (decide (xjJ h b c d a>0)) (xfE h i j e f g a κl) (κl (i64.wrap (h+1),i,j,e,f,g,b,c,d,a))) (κl (i64.wrap (h+1),i,j,e,f,g,b,c,d,a))
def xgi {T:Type} (k:Nat) (l b i j f g:Int) (h:List UInt8) (c d:Int) (e:List UInt8) (a:LA) (δ:T) (κl:(Int×Int×Int×Int×Int×List UInt8×Int×Int×List UInt8×LA)->T) (κr:(Int×Int×List UInt8×Int×Int×List UInt8)->T):T:=br (decide (b<l)) (br (decide (0<=b)&&decide (b<(↑k:Int))) (br (decide (0+b.toNat<a.length)&&((xbk b a).length==3&&xSN [Sh.int .i64,Sh.int .i64,Sh.str] (xbk b a) 0)) (br (i==3) (br (decide (xjJ b c d e a<0)) (xfE b i j f g h a κl) (xfD b i j f g h c d e a κl)) (xfD b i j f g h c d e a κl)) δ) δ) (κr (f,g,h,c,d,e))
def xch (b:Nat) (i:Int):StT (Int×Int×Int×Int×Int×List UInt8×Int×Int×List UInt8×LA) (Int×Int×List UInt8×Int×Int×List UInt8):=fun (j,k,l,f,g,h,c,d,e,a)=>xgi b i j k l f g h c d e a none inL inR
def xqD:=xGO.l 96 0 [] [(5,xjF.lp)] Tryz.f70 1 lk0 [3,4,8,68,69,70] [4,8] [] (q6 (xTF 0 0 0 0) (xTF 1 0 0 0) (xTF 2 0 0 0) (xTE 3 0 0) qI qI) (q4 (qB 0 2 74 (q1 (xTG (q2 qI qI)))) (qB 0 3 76 (q1 (xTG (q3 qI qI pStr)))) (qB 0 3 76 (q1 (xTG (q3 qI qI pStr)))) (qB 0 3 76 xTt)) (fun (_,_,_,b,i,j,_) (((k,m,_),_),((f,g,h,_),_),((c,d,e,_),_),a,_)=>(xch b i,(j,k,m,f,g,h,c,d,e,a),fun p=>(.leaf (.exit 3) [AV.own 0 0 0 0,AV.own 1 0 0 0] [bF 0 3 76 [AV.agg [AV.int .i64 p.1,AV.int .i64 p.2.1,AV.str p.2.2.1]],bF 0 3 76 [AV.agg [AV.int .i64 p.2.2.2.1,AV.int .i64 p.2.2.2.2.1,AV.str p.2.2.2.2.2]]]))) (0,0,[],0,0,[]) fun (_,_,_,b,i,_,_) _ (j,k,m,f,g,h,c,d,e,a)=>((((),(),(),b,i,j,()),(((k,m,()),()),((f,g,h,()),()),((c,d,e,()),()),a,())),xgi b i j k m f g h c d e a none)
def xlC (a:LA) (c b:Int):=Iter (xcg a (↑a.length:Int)) (0,0,c,b,0,0,[],[])
def xlB (b:LA) (c a:Int):=(xlC b c a).getD (0,0,0,0,0,[],[])
def xdO (b:LA) (c a:Int):=(xlB b c a).fst
def xlA (b:LA) (c a:Int):=(xlB b c a).snd
def xb5 (b:LA) (c a:Int):=(↑(xdO b c a):Int)
def xhS (b:LA) (c a:Int):=(xlA b c a).fst
def xlz (b:LA) (c a:Int):=(xlA b c a).snd
def xly (b:LA) (c a:Int):=(xlz b c a).snd
def xng (b:LA) (c a:Int):=(xly b c a).snd
def xnf (b:LA) (c a:Int):=(xng b c a).snd
def xcJ (b:LA) (c a:Int):=(xnf b c a).snd
def xdN (b:LA) (c a:Int):=((xcJ b c a).getD 0 .top).cells
def xlE (b:LA) (c a:Int):=(xvf (List.take (xdO b c a) (List.drop 0 (xcJ b c a)))).getD (0,0,[])
def xne (b:LA) (c a:Int):=Iter (xch (xdO b c a) (xb5 b c a)) (0,xhS b c a,(xlz b c a).fst,(xly b c a).fst,(xng b c a).fst,(xnf b c a).fst,((xdN b c a).getD 0 .top).toInt,((xdN b c a).getD 1 .top).toInt,((xdN b c a).getD 2 .top).toStr,xcJ b c a)
def xlD (b:LA) (c a:Int):=(xlE b c a).snd
def xnd (b:LA) (c a:Int):=((xne b c a).getD (0,0,[],0,0,[])).snd.snd.snd
def xnc (b:LA) (c a:Int):=(xnd b c a).snd
def xi2 {T:Type} (b:LA) (c a:Int) (δ:T) (κ:Int×Int×List UInt8->T):T:=br (decide (a<0)) (br ((xeN (↑b.length:Int)).isSome) (κ (((xeN (↑b.length:Int)).getD (0,0,[])).fst,((xeN (↑b.length:Int)).getD (0,0,[])).snd.fst,((xeN (↑b.length:Int)).getD (0,0,[])).snd.snd)) δ) (br ((xlC b c a).isSome) (br (xhS b c a==1) (br ((xeN (xb5 b c a)).isSome) (κ (((xeN (xb5 b c a)).getD (0,0,[])).fst,((xeN (xb5 b c a)).getD (0,0,[])).snd.fst,((xeN (xb5 b c a)).getD (0,0,[])).snd.snd)) δ) (br (xb5 b c a==0) (κ (0,0,[])) (br (xhS b c a==2) (br (decide (0+xdO b c a<=(xcJ b c a).length)&&true) (br ((xvf (List.take (xdO b c a) (List.drop 0 (xcJ b c a)))).isSome) (κ ((xlE b c a).fst,(xlD b c a).fst,(xlD b c a).snd)) δ) δ) (br (decide (0<xb5 b c a)) (br (decide (0<(xcJ b c a).length)&&((xdN b c a).length==3&&xSN [Sh.int .i64,Sh.int .i64,Sh.str] (xdN b c a) 0)) (br ((xne b c a).isSome) (κ ((xnd b c a).fst,(xnc b c a).fst,(xnc b c a).snd)) δ) δ) δ)))) δ)
def xhl (b:LA) (c a:Int):=xi2 b c a none some
def xB4:EO:=xGO.f Tryz.func70 96 0 [] [(5,xjF.lp),(18,xqD.lp)] (lks (lkC xjF.ok (lkC xqD.ok lkN))) (u2 (uL 1) (xTJ (u2 uI uI))) (fun (b,(c,a,_),_) _=>xi2 b c a) (fun _ p=>AV.agg [AV.int .i64 p.1,AV.int .i64 p.2.1,AV.str p.2.2]) (0,0,[])
def xbT (a:LA) (b:Int):=(gC a b 0).toInt
def xhT {T:Type} (l c d:LA) (f:Int) (e:Nat) (a:Int) (b:LA) (δ:T) (κl:(Nat×Int×LA)->T) (κr:(Bool×(Int×Nat×LA)×(Nat×LA))->T):T:=br (decide (a<f)) (br (ixI d a) (br (ixS d a (Sh.int .i64) 0) (br (decide (xbT d a<0)) (κr (true,(6,e,b),(0,[]))) (br (decide (xbT d a>=c.length)) (κr (true,(6,e,b),(0,[]))) (br (decide (0<=xbT d a)&&decide (xbT d a<c.length)) (br (decide ((xbT d a).toNat<c.length)&&xSG (Sh.int .i64) ((c.getD (xbT d a).toNat .top).cells.getD 0 .top)) (br (rmB e b 1 8) (κl (e+1,i64.wrap (a+1),b++[AV.int .i64 ((c.getD (xbT d a).toNat .top).cells.getD 0 .top).toInt])) δ) δ) δ))) δ) δ) (κr (false,(0,0,[]),(e,b)))
def xcK (l b d:LA) (e:Int):StT (Nat×Int×LA) (Bool×(Int×Nat×LA)×(Nat×LA)):=fun (c,f,a)=>xhT l b d e c f a none inL inR
def xlF:=xB4.l 103 0 [] [] Tryz.f71 0 lk0 [1,2,8,13,14,15] [1,2,6,7,8] [(8,1,3)] (q6 (qL 2) (qL 1) (xTE 0 0 0) (qL 1) qI qI) (q1 (qB 0 1 3 xTt)) (fun (l,a,c,d,e,f,_) (b,_)=>(xcK l a d e,(c,f,b),fun p=>(.node p.1 (.leaf .ret [AV.list 2 l,AV.list 1 a,AV.nils,AV.int .i64 p.2.1.1,AV.osl 0 0 0 p.2.1.2.1] [bF 0 1 3 p.2.1.2.2]) (.leaf (.exit 0) [AV.list 2 l,AV.list 1 a,.top,.top,AV.osl 0 0 0 p.2.2.1] [bF 0 1 3 p.2.2.2])))) (false,(0,0,[]),(0,[])) fun (l,a,_,d,e,_,_) _ (c,f,b)=>(((l,a,c,d,e,f,()),(b,())),xhT l a d e c f b none)
def xbg (a:LA) (b:Int):=(gC a b 1).toInt
def xcv (a:LA) (b:Int):=(gC a b 0).toInt
def xlG (a b:LA) (f:Int) (e:Nat) (c:Int) (d:LA):=decide (0<=xbg b c)&&decide (xbg b c<a.length)
def xlH (a b:LA) (f:Int) (e:Nat) (c:Int) (d:LA):=decide ((xbg b c).toNat<a.length)&&xSG (Sh.int .i64) ((a.getD (xbg b c).toNat .top).cells.getD 0 .top)
def xsf (a b:LA) (f:Int) (e:Nat) (c:Int) (d:LA):=decide (xbg b c>=a.length)
def xsg (d a:LA) (f:Int) (e:Nat) (b:Int) (c:LA):=decide (xbg a b<0)
def xsh (a:LA) (b:Int):=xcv a b==3
def xsi (a:LA) (b:Int):=xcv a b==4
def xgk {T:Type} (c e:LA) (f:Int) (b:Nat) (d:Int) (a:LA) (δ:T) (κl:(Nat×Int×LA)->T):T:=br (xlG c e f b d a) (br (xlH c e f b d a) (br (rmB b a 1 8) (κl (b+1,i64.wrap (d+1),a++[AV.int .i64 ((c.getD (xbg e d).toNat .top).cells.getD 0 .top).toInt])) δ) δ) δ
def xeH {T:Type} (d e:LA) (f:Int) (b:Nat) (c:Int) (a:LA) (δ:T) (κl:(Nat×Int×LA)->T):T:=br (xsh e c) (xgk d e f b c a δ κl) (br (xsi e c) (xgk d e f b c a δ κl) (br (rmB b a 1 8) (κl (b+1,i64.wrap (c+1),a++[AV.int .i64 1])) δ))
def xgj {T:Type} (c d:LA) (f:Int) (b:Nat) (e:Int) (a:LA) (δ:T) (κl:(Nat×Int×LA)->T) (κr:(Bool×(Int×Nat×LA)×(Nat×LA))->T):T:=br (xsg c d f b e a) (κr (true,(6,b,a),(0,[]))) (br (xsf c d f b e a) (κr (true,(6,b,a),(0,[]))) (br (xcv d e==2) (br (xlG c d f b e a) (br (xlH c d f b e a) (br (((c.getD (xbg d e).toNat .top).cells.getD 0 .top).toInt != 1) (κr (true,(7,b,a),(0,[]))) (xeH c d f b e a δ κl)) δ) δ) (xeH c d f b e a δ κl)))
def xhU {T:Type} (e d:LA) (f:Int) (b:Nat) (c:Int) (a:LA) (δ:T) (κl:(Nat×Int×LA)->T) (κr:(Bool×(Int×Nat×LA)×(Nat×LA))->T):T:=br (decide (c<f)) (br (ixI d c) (br (ixT d c 2 [Sh.int .i64,Sh.int .i64] 0) (br (decide (xcv d c<1)) (κr (true,(7,b,a),(0,[]))) (br (decide (xcv d c>4)) (κr (true,(7,b,a),(0,[]))) (br (xbg d c==(-1)) (br (xcv d c==1) (xeH e d f b c a δ κl) (xgj e d f b c a δ κl κr)) (xgj e d f b c a δ κl κr)))) δ) δ) (κr (false,(0,0,[]),(b,a)))
def xcL (b d:LA) (e:Int):StT (Nat×Int×LA) (Bool×(Int×Nat×LA)×(Nat×LA)):=fun (c,f,a)=>xhU b d e c f a none inL inR
def xse:=xB4.l 103 0 [] [(3,xlF.lp)] Tryz.f71 1 lk0 [2,8,35,36,37] [6,7,8] [(8,1,3)] (q5 (qL 1) (xTE 0 0 0) (qL 2) qI qI) (q1 (qB 0 1 3 xTt)) (fun (b,c,d,e,f,_) (a,_)=>(xcL b d e,(c,f,a),fun p=>(.node p.1 (.leaf .ret [AV.nils,AV.int .i64 p.2.1.1,AV.osl 0 0 0 p.2.1.2.1] [bF 0 1 3 p.2.1.2.2]) (.leaf (.exit 2) [.top,.top,AV.osl 0 0 0 p.2.2.1] [bF 0 1 3 p.2.2.2])))) (false,(0,0,[]),(0,[])) fun (b,_,d,e,_,_) _ (c,f,a)=>(((b,c,d,e,f,()),(a,())),xhU b d e c f a none)
def xe2:Env:=xB4.E.fn 103 0 (lsOf []) (xS3 [(3,xlF.lp),(10,xse.lp)])
theorem xAE:xSI P0 (xTo.at 0) xe2:=xB4.ok.fn
theorem xzN:LoOk P0 (xTo.at xe2.pin) xe2 (Tryz.f71.body.getD .skip):=xgL (ls:=[xSM Tryz.f71 0,xSM Tryz.f71 1]) (by kernel_rfl) (lkC xlF.ok (lkC xse.ok lkN))
def xgE (a l b:LA):=Iter (xcK l b a (↑a.length:Int)) (0,0,[])
def xgD (b l a:LA):=(xgE b l a).getD (false,(0,0,[]),0,[])
def xgC (b l a:LA):=(xgD b l a).snd
def xgB (b l a:LA):=(xgC b l a).snd
def xgA (b l a:LA):=Iter (xcL a l (↑l.length:Int)) ((xgB b l a).fst,0,(xgB b l a).snd)
def xgz (b l a:LA):=(xgA b l a).getD (false,(0,0,[]),0,[])
def xgy (b l a:LA):=(xgz b l a).snd
def xgw (b l a:LA):=(xgy b l a).snd
def xgu (b l a:LA):=(xgw b l a).fst
def xgv (b l a:LA):=(xgw b l a).snd
def xlb {T:Type} (b l a:LA) (δ:T) (κ:Bool×(Int)×(LA×Int)->T):T:=br ((xgE b l a).isSome) (br ((xgD b l a).fst) (κ (true,((xgC b l a).fst.fst),([],0))) (br ((xgA b l a).isSome) (br ((xgz b l a).fst) (κ (true,((xgy b l a).fst.fst),([],0))) (br (decide (0+xgu b l a<=(xgv b l a).length)&&true) (κ (false,0,(List.take (xgu b l a) (List.drop 0 (xgv b l a)),0))) δ)) δ)) δ
def xc8 (b l a:LA):Option (LA×Int):=xlb b l a none (fun (p:Bool×(Int)×(LA×Int))=>some (br p.1 (([],p.2.1)) p.2.2))
theorem xCK (b l a:LA):EncS (fun (p:LA×Int)=>(AV.tuple [AV.list 1 p.1,AV.int .i64 p.2]:AV)) (xc8 b l a) (XF P0 xe2 Tryz.f71 (Tryz.f71.body.getD .skip) [AV.list 1 b,AV.list 2 l,AV.list 1 a]):=by
 have h:XF P0 xe2 Tryz.f71 (Tryz.f71.body.getD .skip) [AV.list 1 b,AV.list 2 l,AV.list 1 a]=xlb b l a none (fun (p:Bool×(Int)×(LA×Int))=>some ((br p.1 (AV.tuple [AV.nils,AV.int .i64 p.2.1]) (AV.tuple [AV.list 1 p.2.2.1,AV.int .i64 p.2.2.2])):AV)):=by kernel_rfl
 rw [h];unfold xc8 xlb;repeat' (first|exact EncS.none|exact EncS.some (Sub.refl _)|exact EncS.some (xBH _)|exact EncS.some (xBW _ _)|refine EncS.br ?_ ?_)
def xCJ:LA->Option (Bool×AV):=ocOf (xTq (xTI 1 xTt) (xTq (xTI 2 xTt) (xTq (xTI 1 xTt) xTs))) fun (b,(l,(a,_)))=>((xc8 b l a).isSome,(AV.tuple [AV.list 1 ((xc8 b l a).getD ([],0)).1,AV.int .i64 ((xc8 b l a).getD ([],0)).2]))
theorem xCI:OcOk P0 xTo 71 (xCJ):=xmD fun e j f=>by
 obtain ⟨g,⟨l,⟨c,_⟩⟩⟩:=e;obtain ⟨a,b⟩:=Prod.mk.inj f;obtain ⟨y,h,i⟩:=xCK _ _ _ _ (xcf (d:=([],0)) a);have hg:Good P0 xTo 71 _ _:=xdU (p:=xe2.pin) (xf6 xSR (xSS P0 _) rfl xAE Tryz.func71 rfl (by kernel_rfl) xzN h)
 rw [<-b];exact Good.sub hg i
def xP6:EO:=xB4.w xCI
def xwo {T:Type} (a b:LA) (δ:T) (κ:LA×LA->T):T:=br (decide ((0+a.length)*8<=140737488355328)&&decide (0+a.length<=4611686018427387904)) (br ((xn2 b).isSome) (br (decide (0+(0+a.length)<=([]++a).length)&&true&&true) (κ (List.take (0+a.length) (List.drop 0 ([]++a)),(xn2 b).getD [])) δ) δ) δ
def xu4 (a b:LA):=xwo a b none some
def xAS:EO:=xP6.f Tryz.func72 11 0 [] [] lk0 (u2 (uL 1) (uL 1)) (fun (a,b,_) _=>xwo a b) (fun _ p=>AV.agg [AV.list 1 p.1,AV.list 1 p.2]) ([],[])
def xee {T:Type} (a:List UInt8) (i:Int) (δ:T) (κl:(Int)->T) (κr:(Bool×(Bool)×(Unit))->T):T:=br (decide (i<a.length)) (br (decide (0<=i)&&decide (i<a.length)) (br (decide ((↑(a.getD i.toNat (0:UInt8)).toNat:Int)<32)) (κr (true,(false),())) (br (decide (0<=i)&&decide (i<a.length)) (br (decide ((↑(a.getD i.toNat (0:UInt8)).toNat:Int)>126)) (κr (true,(false),())) (κl (i64.wrap (i+1)))) δ)) δ) (κr (false,false,()))
def xbc (a:List UInt8):StT (Int) (Bool×(Bool)×(Unit)):=fun (i)=>xee a i none inL inR
def xtG:=xAS.l 20 0 [] [] Tryz.f127 0 lk0 [0,3] [2] [] (q2 pStr qI) xTr (fun (a,i,_) _=>(xbc a,(i),fun p=>(.node p.1 (.leaf .ret [AV.bool p.2.1] []) (.leaf (.exit 0) [.top] [])))) (false,false,()) fun (a,_,_) _ (i)=>(((a,i,()),()),xee a i none)
def xrC {T:Type} (a:List UInt8) (δ:T) (κ:Bool->T):T:=br ((Iter (xbc a) 0).isSome) (br (((Iter (xbc a) 0).getD (false,false,())).fst) (κ (((Iter (xbc a) 0).getD (false,false,())).snd.fst)) (κ (true))) δ
def xpd (a:List UInt8):=xrC a none some
def xP7:EO:=xAS.f Tryz.func127 20 0 [] [(2,xtG.lp)] (lk1 xtG.ok) (u1 (sEq pStr)) (fun (a,_) _=>xrC a) (fun _ p=>AV.bool p) false
def xsE {T:Type} (c a:Int) (b:List UInt8) (δ:T) (κ:Bool->T):T:=br (c==0) (br (a==0) (κ (b==[])) (κ (false))) (br (c==1) (br (b==[]) (br (decide (a>=(-1125899906842624))) (κ (decide (a<=1125899906842624))) (κ (false))) (κ (false))) (br (c==2) (br (a==0) (br (decide ((↑b.length:Int)<=200)) (br ((xpd b).isSome) (κ ((xpd b).getD false)) δ) (κ (false))) (κ (false))) (br (c==3) (br (b==[]) (br (a==0) (κ (true)) (κ (a==1))) (κ (false))) (κ (false)))))
def xoh (a b:Int) (c:List UInt8):=xsE a b c none some
def xP8:EO:=xP7.f Tryz.func94 61 0 [] [] lk0 (u1 (xTJ (u3 uI uI (sEq pStr)))) (fun ((a,b,c,_),_) _=>xsE a b c) (fun _ p=>AV.bool p) false
def xyk {T:Type} (a b:Int) (c:List UInt8) (δ:T) (κ:Int×Int×List UInt8->T):T:=br ((xoh a b c).isSome) (br ((xoh a b c).getD false) (κ (a,b,c)) (κ (0,0,[]))) δ
def xsb (a b:Int) (c:List UInt8):=xyk a b c none some
def xP9:EO:=xP8.f Tryz.func151 7 0 [] [] lk0 (u1 (xTJ (u3 uI uI (sEq pStr)))) (fun ((a,b,c,_),_) _=>xyk a b c) (fun _ p=>AV.agg [AV.int .i64 p.1,AV.int .i64 p.2.1,AV.str p.2.2]) (0,0,[])
def xAr {T:Type} (n:Int) (δ:T) (κ:Int×Int×List UInt8->T):T:=br ((xsb 1 n []).isSome) (κ (((xsb 1 n []).getD (0,0,[])).fst,((xsb 1 n []).getD (0,0,[])).snd.fst,((xsb 1 n []).getD (0,0,[])).snd.snd)) δ
def xdZ (n:Int):=xAr n none some
def xLm:EO:=xP9.f Tryz.func121 6 0 [] [] lk0 (u1 uI) (fun (n,_) _=>xAr n) (fun _ p=>AV.agg [AV.int .i64 p.1,AV.int .i64 p.2.1,AV.str p.2.2]) (0,0,[])
def xnR (a l:LA) (i:Int):=(xqd a (gC l i 0).toInt).getD (0,0,[])
def xnQ (a l:LA) (i:Int):=(xnR a l i).snd
def xpe {T:Type} (c l:LA) (b:Nat) (i:Int) (a:LA) (δ:T) (κl:(Nat×Int×LA)->T) (κr:(Nat×LA)->T):T:=br (decide (i<l.length)) (br (ixI l i) (br (ixS l i (Sh.int .i64) 0) (br ((xqd c (gC l i 0).toInt).isSome) (br (rmB b a 1 32) (κl (b+1,i64.wrap (i+1),a++[AV.agg [AV.int .i64 (xnR c l i).fst,AV.int .i64 (xnQ c l i).fst,AV.str (xnQ c l i).snd]])) δ) δ) δ) δ) (κr (b,a))
def xfm (c l:LA):StT (Nat×Int×LA) (Nat×LA):=fun (b,i,a)=>xpe c l b i a none inL inR
def xzv:=xLm.l 24 0 [] [] Tryz.f54 0 lk0 [0,1,5,6] [5] [(5,3,76)] (q4 (qL 3) (qL 1) (xTE 0 0 0) qI) (q1 (qB 0 3 76 xTt)) (fun (c,l,b,i,_) (a,_)=>(xfm c l,(b,i,a),fun p=>(.leaf (.exit 0) [AV.osl 0 0 0 p.1] [bF 0 3 76 p.2]))) (0,[]) fun (c,l,_,_,_) _ (b,i,a)=>(((c,l,b,i,()),(a,())),xpe c l b i a none)
def xyo (a l:LA):=(Iter (xfm a l) (0,0,[])).getD (0,[])
def xym (a l:LA):=(xyo a l).snd
def xyn (a l:LA):=(xyo a l).fst
def xzw {T:Type} (a l:LA) (δ:T) (κ:LA->T):T:=br ((Iter (xfm a l) (0,0,[])).isSome) (br (decide (0+xyn a l<=(xym a l).length)&&true) (κ (List.take (xyn a l) (List.drop 0 (xym a l)))) δ) δ
def xyY (a l:LA):=xzw a l none some
def xLn:EO:=xLm.f Tryz.func54 24 0 [] [(3,xzv.lp)] (lk1 xzv.ok) (u2 (uL 3) (uL 1)) (fun (a,l,_) _=>xzw a l) (fun _ p=>AV.list 3 p) []
def xe8 (a:LA) (i:Int):=ixI a i
def xgS (a:LA) (i:Int):=xoh (gC a i 0).toInt (gC a i 1).toInt (gC a i 2).toStr
def xfZ {T:Type} (a b:LA) (i:Int) (δ:T) (κl:(Int)->T) (κr:(Bool×(Bool)×(Unit))->T):T:=br (decide (i<a.length)) (br (xe8 a i) (br (ixT a i 3 [Sh.int .i64,Sh.int .i64,Sh.str] 0) (br ((xgS a i).isSome) (br (!(xgS a i).getD false) (κr (true,(false),())) (br (xe8 a i) (br (ixS a i (Sh.int .i64) 0) (br ((gC a i 0).toInt != 0) (br (xe8 a i) (br (ixS a i (Sh.int .i64) 0) (br (ixI b i) (br (ixS b i (Sh.int .i64) 0) (br ((gC a i 0).toInt != (gC b i 0).toInt) (κr (true,(false),())) (κl (i64.wrap (i+1)))) δ) δ) δ) δ) (κl (i64.wrap (i+1)))) δ) δ)) δ) δ) δ) (κr (false,false,()))
def xbB (b a:LA):StT (Int) (Bool×(Bool)×(Unit)):=fun (i)=>xfZ b a i none inL inR
def xzs:=xLn.l 43 0 [] [] Tryz.f62 0 lk0 [0,1,5] [4] [] (q3 (qL 3) (qL 1) qI) xTr (fun (b,a,i,_) _=>(xbB b a,(i),fun p=>(.node p.1 (.leaf .ret [AV.bool p.2.1] []) (.leaf (.exit 0) [.top] [])))) (false,false,()) fun (b,a,_,_) _ (i)=>(((b,a,i,()),()),xfZ b a i none)
def xzt {T:Type} (b a:LA) (δ:T) (κ:Bool->T):T:=br ((↑b.length:Int) != (↑a.length:Int)) (κ (false)) (br ((Iter (xbB b a) 0).isSome) (br (((Iter (xbB b a) 0).getD (false,false,())).fst) (κ (((Iter (xbB b a) 0).getD (false,false,())).snd.fst)) (κ (true))) δ)
def xyX (b a:LA):=xzt b a none some
def xQa:EO:=xLn.f Tryz.func62 43 0 [] [(4,xzs.lp)] (lk1 xzs.ok) (u2 (uL 3) (uL 1)) (fun (b,a,_) _=>xzt b a) (fun _ p=>AV.bool p) false
def xBr (k:Int):Bool:=(br (k==1) ((true)) (br (k==2) ((true)) ((k==3))))
def xHP {T:Type} (k:Int) (δ:T) (κ:Bool->T):T:=br (k==1) (κ (true)) (br (k==2) (κ (true)) (κ (k==3)))
def xLo:EO:=xQa.fT Tryz.func95 13 0 [] [] lk0 (fun (k,_)=>xHP k none) (u1 uI) (fun (k,_)=>xBr k) (fun _ p=>(AV.bool p))
def xjy {T:Type} (l:LA) (i:Int) (δ:T) (κl:(Int)->T) (κr:(Bool×(Bool)×(Unit))->T):T:=br (decide (i<l.length)) (br (ixI l i) (br (ixS l i (Sh.int .i64) 0) (br (!xBr (gC l i 0).toInt) (κr (true,(false),())) (κl (i64.wrap (i+1)))) δ) δ) (κr (false,false,()))
def xbx (l:LA):StT (Int) (Bool×(Bool)×(Unit)):=fun (i)=>xjy l i none inL inR
def xyL:=xLo.l 16 0 [] [] Tryz.f63 0 lk0 [0,3] [2] [] (q2 (qL 1) qI) xTr (fun (l,i,_) _=>(xbx l,(i),fun p=>(.node p.1 (.leaf .ret [AV.bool p.2.1] []) (.leaf (.exit 0) [.top] [])))) (false,false,()) fun (l,_,_) _ (i)=>(((l,i,()),()),xjy l i none)
def xyp {T:Type} (l:LA) (δ:T) (κ:Bool->T):T:=br ((Iter (xbx l) 0).isSome) (br (((Iter (xbx l) 0).getD (false,false,())).fst) (κ (((Iter (xbx l) 0).getD (false,false,())).snd.fst)) (κ (true))) δ
def xAs (l:LA):=xyp l none some
def xB6:EO:=xLo.f Tryz.func63 16 0 [] [(2,xyL.lp)] (lk1 xyL.ok) (u1 (uL 1)) (fun (l,_) _=>xyp l) (fun _ p=>AV.bool p) false
def xjX (a:LA) (i:Int):=ixI a i
def xjY (a:LA) (i:Int):=decide (i.toNat<a.length)&&xSG (Sh.int .i64) (gC a i 0)
def xcC (a:LA) (i:Int):=(gC a i 0).toInt
def xkB {T:Type} (c a l:LA) (d:Nat) (i:Int) (b:LA) (δ:T) (κl:(Nat×Int×LA)->T) (κr:(Bool×(Int×Nat×LA)×(Nat×LA))->T):T:=br (decide (i<a.length)) (br (xjX a i) (br (xjY a i) (br (decide (xcC a i<0)) (κr (true,(6,d,b),(0,[]))) (br (xjX a i) (br (xjY a i) (br (decide (xcC a i>=c.length)) (κr (true,(6,d,b),(0,[]))) (br (xjX a i) (br (xjY a i) (br (decide (0<=xcC a i)&&decide (xcC a i<c.length)) (br (decide ((xcC a i).toNat<c.length)&&xSG (Sh.int .i64) ((c.getD (xcC a i).toNat .top).cells.getD 0 .top)) (br (rmB d b 1 8) (κl (d+1,i64.wrap (i+1),b++[AV.int .i64 ((c.getD (xcC a i).toNat .top).cells.getD 0 .top).toInt])) δ) δ) δ) δ) δ)) δ) δ)) δ) δ) (κr (false,(0,0,[]),(d,b)))
def xdJ (b d l:LA):StT (Nat×Int×LA) (Bool×(Int×Nat×LA)×(Nat×LA)):=fun (c,i,a)=>xkB b d l c i a none inL inR
def xoZ:=xB6.l 122 0 [] [] Tryz.f36 0 lk0 [0,1,2,8,9] [0,2,6,7,8] [(8,1,3)] (q5 (qL 1) (qL 1) (qL 2) (xTE 0 0 0) qI) (q1 (qB 0 1 3 xTt)) (fun (a,d,l,c,i,_) (b,_)=>(xdJ a d l,(c,i,b),fun p=>(.node p.1 (.leaf .ret [AV.list 1 a,AV.list 2 l,AV.nils,AV.int .i64 p.2.1.1,AV.osl 0 0 0 p.2.1.2.1] [bF 0 1 3 p.2.1.2.2]) (.leaf (.exit 0) [AV.list 1 a,AV.list 2 l,.top,.top,AV.osl 0 0 0 p.2.2.1] [bF 0 1 3 p.2.2.2])))) (false,(0,0,[]),(0,[])) fun (a,d,l,_,_,_) _ (c,i,b)=>(((a,d,l,c,i,()),(b,())),xkB a d l c i b none)
def xbZ (l:LA) (i:Int):=(gC l i 0).toInt
def xbw (l:LA) (i:Int):=(gC l i 1).toInt
def xox (a l:LA) (c:Nat) (i:Int) (b:LA):=decide (0<=xbw l i)&&decide (xbw l i<a.length)
def xo0 (a l:LA) (c:Nat) (i:Int) (b:LA):=decide ((xbw l i).toNat<a.length)&&xSG (Sh.int .i64) ((a.getD (xbw l i).toNat .top).cells.getD 0 .top)
def xvE (a l:LA) (c:Nat) (i:Int) (b:LA):=decide (xbw l i>=a.length)
def xvF (b l:LA) (c:Nat) (i:Int) (a:LA):=decide (xbw l i<0)
def xvG (l:LA) (i:Int):=xbZ l i==4
def xvH (l:LA) (i:Int):=xbZ l i==3
def xvI (a l:LA) (i:Int):=((a.getD (xbw l i).toNat .top).cells.getD 0 .top).toInt != 1
def xvJ (l:LA) (i:Int):=xbZ l i==2
def xvK (l:LA) (i:Int):=xbw l i==(-1)
def xip {T:Type} (c l:LA) (b:Nat) (i:Int) (a:LA) (δ:T) (κl:(Nat×Int×LA)->T):T:=br (xox c l b i a) (br (xo0 c l b i a) (br (rmB b a 1 8) (κl (b+1,i64.wrap (i+1),a++[AV.int .i64 ((c.getD (xbw l i).toNat .top).cells.getD 0 .top).toInt])) δ) δ) δ
def xiq {T:Type} (b:Nat) (i:Int) (a:LA) (δ:T) (κl:(Nat×Int×LA)->T):T:=br (rmB b a 1 8) (κl (b+1,i64.wrap (i+1),a++[AV.int .i64 1])) δ
def xir {T:Type} (c l:LA) (b:Nat) (i:Int) (a:LA) (δ:T) (κl:(Nat×Int×LA)->T):T:=br (xvH l i) (xip c l b i a δ κl) (br (xvG l i) (xip c l b i a δ κl) (xiq b i a δ κl))
def xio {T:Type} (c l:LA) (b:Nat) (i:Int) (a:LA) (δ:T) (κl:(Nat×Int×LA)->T) (κr:(Bool×(Int×Nat×LA)×(Nat×LA))->T):T:=br (xvF c l b i a) (κr (true,(6,b,a),(0,[]))) (br (xvE c l b i a) (κr (true,(6,b,a),(0,[]))) (br (xvJ l i) (br (xox c l b i a) (br (xo0 c l b i a) (br (xvI c l i) (κr (true,(7,b,a),(0,[]))) (xir c l b i a δ κl)) δ) δ) (xir c l b i a δ κl)))
def xeg {T:Type} (c l:LA) (b:Nat) (i:Int) (a:LA) (δ:T) (κl:(Nat×Int×LA)->T) (κr:(Bool×(Int×Nat×LA)×(Nat×LA))->T):T:=br (xvK l i) (br (xbZ l i==1) (xiq b i a δ κl) (xio c l b i a δ κl κr)) (xio c l b i a δ κl κr)
def xkC {T:Type} (c l:LA) (b:Nat) (i:Int) (a:LA) (δ:T) (κl:(Nat×Int×LA)->T) (κr:(Bool×(Int×Nat×LA)×(Nat×LA))->T):T:=br (decide (i<l.length)) (br (ixI l i) (br (ixT l i 2 [Sh.int .i64,Sh.int .i64] 0) (br (xbZ l i != 1) (br (xbZ l i != 2) (br (xbZ l i != 3) (br (xbZ l i != 4) (κr (true,(7,b,a),(0,[]))) (xeg c l b i a δ κl κr)) (xeg c l b i a δ κl κr)) (xeg c l b i a δ κl κr)) (xeg c l b i a δ κl κr)) δ) δ) (κr (false,(0,0,[]),(b,a)))
def xdK (b l:LA):StT (Nat×Int×LA) (Bool×(Int×Nat×LA)×(Nat×LA)):=fun (c,i,a)=>xkC b l c i a none inL inR
def xvD:=xB6.l 122 0 [] [(3,xoZ.lp)] Tryz.f36 1 lk0 [0,2,8,10] [6,7,8] [(8,1,3)] (q4 (qL 1) (qL 2) (xTE 0 0 0) qI) (q1 (qB 0 1 3 xTt)) (fun (b,l,c,i,_) (a,_)=>(xdK b l,(c,i,a),fun p=>(.node p.1 (.leaf .ret [AV.nils,AV.int .i64 p.2.1.1,AV.osl 0 0 0 p.2.1.2.1] [bF 0 1 3 p.2.1.2.2]) (.leaf (.exit 2) [.top,.top,AV.osl 0 0 0 p.2.2.1] [bF 0 1 3 p.2.2.2])))) (false,(0,0,[]),(0,[])) fun (b,l,_,_,_) _ (c,i,a)=>(((b,l,c,i,()),(a,())),xkC b l c i a none)
def xgU:Env:=xB6.E.fn 122 0 (lsOf []) (xS3 [(3,xoZ.lp),(9,xvD.lp)])
theorem xB1:xSI P0 (xTo.at 0) xgU:=xB6.ok.fn
theorem xA2:LoOk P0 (xTo.at xgU.pin) xgU (Tryz.f36.body.getD .skip):=xgL (ls:=[xSM Tryz.f36 0,xSM Tryz.f36 1]) (by kernel_rfl) (lkC xoZ.ok (lkC xvD.ok lkN))
def xjw (a b l:LA):=Iter (xdJ a b l) (0,0,[])
def xjv (a b l:LA):=(xjw a b l).getD (false,(0,0,[]),0,[])
def xju (a b l:LA):=(xjv a b l).snd
def xjt (a b l:LA):=(xju a b l).snd
def xjs (a b l:LA):=Iter (xdK a l) ((xjt a b l).fst,0,(xjt a b l).snd)
def xjr (a b l:LA):=(xjs a b l).getD (false,(0,0,[]),0,[])
def xjq (a b l:LA):=(xjr a b l).snd
def xjp (a b l:LA):=(xjq a b l).snd
def xjn (a b l:LA):=(xjp a b l).snd
def xjo (a b l:LA):=(xjp a b l).fst
def xpr {T:Type} (a b l:LA) (δ:T) (κ:Bool×(Int)×(LA×Int)->T):T:=br ((xjw a b l).isSome) (br ((xjv a b l).fst) (κ (true,((xju a b l).fst.fst),([],0))) (br ((xjs a b l).isSome) (br ((xjr a b l).fst) (κ (true,((xjq a b l).fst.fst),([],0))) (br (decide (0+xjo a b l<=(xjn a b l).length)&&true) (κ (false,0,(List.take (xjo a b l) (List.drop 0 (xjn a b l)),0))) δ)) δ)) δ
def xbm (a b l:LA):Option (LA×Int):=xpr a b l none (fun (p:Bool×(Int)×(LA×Int))=>some (br p.1 (([],p.2.1)) p.2.2))
theorem xEK (a b l:LA):EncS (fun (p:LA×Int)=>(AV.tuple [AV.list 1 p.1,AV.int .i64 p.2]:AV)) (xbm a b l) (XF P0 xgU Tryz.f36 (Tryz.f36.body.getD .skip) [AV.list 1 a,AV.list 1 b,AV.list 2 l]):=by
 have h:XF P0 xgU Tryz.f36 (Tryz.f36.body.getD .skip) [AV.list 1 a,AV.list 1 b,AV.list 2 l]=xpr a b l none (fun (p:Bool×(Int)×(LA×Int))=>some ((br p.1 (AV.tuple [AV.nils,AV.int .i64 p.2.1]) (AV.tuple [AV.list 1 p.2.2.1,AV.int .i64 p.2.2.2])):AV)):=by kernel_rfl
 rw [h];unfold xbm xpr;repeat' (first|exact EncS.none|exact EncS.some (Sub.refl _)|exact EncS.some (xBH _)|exact EncS.some (xBW _ _)|refine EncS.br ?_ ?_)
def xEJ:LA->Option (Bool×AV):=ocOf (xTq (xTI 1 xTt) (xTq (xTI 1 xTt) (xTq (xTI 2 xTt) xTs))) fun (a,(b,(l,_)))=>((xbm a b l).isSome,(AV.tuple [AV.list 1 ((xbm a b l).getD ([],0)).1,AV.int .i64 ((xbm a b l).getD ([],0)).2]))
theorem xEI:OcOk P0 xTo 36 (xEJ):=xmD fun e j f=>by
 obtain ⟨c,⟨g,⟨l,_⟩⟩⟩:=e;obtain ⟨a,b⟩:=Prod.mk.inj f;obtain ⟨y,h,i⟩:=xEK _ _ _ _ (xcf (d:=([],0)) a);have hg:Good P0 xTo 36 _ _:=xdU (p:=xgU.pin) (xf6 xSR (xSS P0 _) rfl xB1 Tryz.func36 rfl (by kernel_rfl) xA2 h)
 rw [<-b];exact Good.sub hg i
def xD5:EO:=xB6.w xEI
def xmV (b:LA) (i c a:Int):=decide (0<=a)&&decide (a<(↑(gC b i 0).toList.length:Int))
def xmW (a:LA) (i c b:Int):=decide (b.toNat<(gC a i 0).toList.length)
def xb3 (a:LA) (i b:Int):=((gC a i 0).toList.getD b.toNat .top).cells
def xil {T:Type} (a:LA) (h:Nat) (i c b e f:Int) (g:List UInt8) (d:LA) (δ:T) (κl:(Nat×Int×Int×Int×Int×Int×List UInt8×LA)->T) (κr:(Nat×Int×Int×Int×Int×List UInt8×LA)->T):T:=br (decide (i<a.length)) (br (ixI a i) (br (ixS a i (Sh.list 3) 0) (br (xmV a i c b) (br (xmW a i c b&&xSG (Sh.int .i64) ((xb3 a i b).getD 0 .top)) (br (((xb3 a i b).getD 0 .top).toInt != 0) (br (ixI a i) (br (ixS a i (Sh.list 3) 0) (br (xmV a i c b) (br (xmW a i c b&&((xb3 a i b).length==3&&xSN [Sh.int .i64,Sh.int .i64,Sh.str] (xb3 a i b) 0)) (br (rmB h d 1 32) (κl (h+1,i64.wrap (i+1),c,b,e,f,g,d++[AV.agg [AV.int .i64 ((xb3 a i b).getD 0 .top).toInt,AV.int .i64 ((xb3 a i b).getD 1 .top).toInt,AV.str ((xb3 a i b).getD 2 .top).toStr]])) δ) δ) δ) δ) δ) (κl (h,i64.wrap (i+1),c,b,e,f,g,d))) δ) δ) δ) δ) (κr (h,c,b,e,f,g,d))
def xcX (a:LA):StT (Nat×Int×Int×Int×Int×Int×List UInt8×LA) (Nat×Int×Int×Int×Int×List UInt8×LA):=fun (f,i,g,h,b,c,d,e)=>xil a f i g h b c d e none inL inR
def xhv:=xD5.l 135 0 [3000052] [] Tryz.f87 0 lk0 [0,3,4,5,6] [3,4,5] [(5,3,76)] (q5 (qL 1) (xTF 0 0 0 0) (xTF 1 0 0 0) (xTE 2 0 0) qI) (q3 (qB 0 2 74 (q1 (xTG (q2 qI qI)))) (qB 0 3 76 (q1 (xTG (q3 qI qI pStr)))) (qB 0 3 76 xTt)) (fun (a,_,_,f,i,_) (((g,h,_),_),((b,c,d,_),_),e,_)=>(xcX a,(f,i,g,h,b,c,d,e),fun p=>(.leaf (.exit 0) [AV.own 0 0 0 0,AV.own 1 0 0 0,AV.osl 2 0 0 p.1] [bF 0 2 74 [AV.agg [AV.int .i64 p.2.1,AV.int .i64 p.2.2.1]],bF 0 3 76 [AV.agg [AV.int .i64 p.2.2.2.1,AV.int .i64 p.2.2.2.2.1,AV.str p.2.2.2.2.2.1]],bF 0 3 76 p.2.2.2.2.2.2]))) (0,0,0,0,0,[],[]) fun (a,_,_,_,_,_) _ (f,i,g,h,b,c,d,e)=>(((a,(),(),f,i,()),(((g,h,()),()),((b,c,d,()),()),e,())),xil a f i g h b c d e none)
def xim {T:Type} (l:LA) (a e i b c:Int) (d:List UInt8) (δ:T) (κl:(Int×Int×Int×Int×Int×List UInt8)->T) (κr:(Int×Int×Int×Int×List UInt8)->T):T:=br (decide (i<l.length)) (br (ixI l i) (br (ixS l i (Sh.int .i64) 1) (br (ixI l i) (br (ixS l i (Sh.int .i64) 1) (κl (i64.wrap (a+i64.wrap ((gC l i 1).toInt.tdiv 1048576)),i64.wrap (e+(gC l i 1).toInt.tmod 1048576),i64.wrap (i+1),b,c,d)) δ) δ) δ) δ) (κr (a,e,b,c,d))
def xcY (l:LA):StT (Int×Int×Int×Int×Int×List UInt8) (Int×Int×Int×Int×List UInt8):=fun (a,e,i,b,c,d)=>xim l a e i b c d none inL inR
def xmX:=xD5.l 135 0 [3000052] [(5,xhv.lp)] Tryz.f87 1 lk0 [4,5,7,8,9] [4,7,8] [(5,3,76)] (q5 (xTF 0 0 0 0) (qL 3) qI qI qI) (q1 (qB 0 3 76 (q1 (xTG (q3 qI qI pStr))))) (fun (_,l,a,e,i,_) (((b,c,d,_),_),_)=>(xcY l,(a,e,i,b,c,d),fun p=>(.leaf (.exit 2) [AV.own 0 0 0 0,AV.int .i64 p.1,AV.int .i64 p.2.1] [bF 0 3 76 [AV.agg [AV.int .i64 p.2.2.1,AV.int .i64 p.2.2.2.1,AV.str p.2.2.2.2]]]))) (0,0,0,0,[]) fun (_,l,_,_,_,_) _ (a,e,i,b,c,d)=>((((),l,a,e,i,()),(((b,c,d,()),()),())),xim l a e i b c d none)
def xmY (l:LA) (i:Int):=decide (i.toNat<l.length)&&((l.getD i.toNat .top).cells.length==3&&xSN [Sh.int .i64,Sh.int .i64,Sh.str] (l.getD i.toNat .top).cells 0)
def xmZ (l:LA) (i a b:Int) (c:List UInt8):=xhY (gC l i 0).toInt (gC l i 1).toInt (gC l i 2).toStr a b c
def xg7 {T:Type} (l:LA) (i d e a b:Int) (c:List UInt8) (δ:T) (κl:(Int×Int×Int×Int×Int×List UInt8×Int×Int×List UInt8)->T):T:=br (ixI l i) (br (xmY l i) (κl (i64.wrap (i+1),d,e,a,b,c,(gC l i 0).toInt,(gC l i 1).toInt,(gC l i 2).toStr)) δ) δ
def xg8 {T:Type} (l:LA) (i g h d e:Int) (f:List UInt8) (a b:Int) (c:List UInt8) (δ:T) (κl:(Int×Int×Int×Int×Int×List UInt8×Int×Int×List UInt8)->T):T:=br (g==4) (br (decide (xmZ l i a b c>0)) (xg7 l i g h d e f δ κl) (κl (i64.wrap (i+1),g,h,d,e,f,a,b,c))) (κl (i64.wrap (i+1),g,h,d,e,f,a,b,c))
def xin {T:Type} (l:LA) (i g h d e:Int) (f:List UInt8) (a b:Int) (c:List UInt8) (δ:T) (κl:(Int×Int×Int×Int×Int×List UInt8×Int×Int×List UInt8)->T) (κr:(Int×Int×List UInt8×Int×Int×List UInt8)->T):T:=br (decide (i<l.length)) (br (ixI l i) (br (xmY l i) (br (g==3) (br (decide (xmZ l i a b c<0)) (xg7 l i g h d e f δ κl) (xg8 l i g h d e f a b c δ κl)) (xg8 l i g h d e f a b c δ κl)) δ) δ) (κr (d,e,f,a,b,c))
def xcZ (l:LA):StT (Int×Int×Int×Int×Int×List UInt8×Int×Int×List UInt8) (Int×Int×List UInt8×Int×Int×List UInt8):=fun (i,g,h,d,e,f,a,b,c)=>xin l i g h d e f a b c none inL inR
def xtH:=xD5.l 135 0 [3000052] [(5,xhv.lp),(16,xmX.lp)] Tryz.f87 2 lk0 [3,4,5,10,11] [4,10] [(5,3,76)] (q5 (xTF 0 0 0 0) (xTF 1 0 0 0) (qL 3) (xTF 2 0 0 0) qI) (q3 (qB 0 2 74 (q1 (xTG (q2 qI qI)))) (qB 0 3 76 (q1 (xTG (q3 qI qI pStr)))) (qB 0 3 76 (q1 (xTG (q3 qI qI pStr))))) (fun (_,_,l,_,i,_) (((g,h,_),_),((d,e,f,_),_),((a,b,c,_),_),_)=>(xcZ l,(i,g,h,d,e,f,a,b,c),fun p=>(.leaf (.exit 4) [AV.own 0 0 0 0,AV.own 1 0 0 0] [bF 0 3 76 [AV.agg [AV.int .i64 p.1,AV.int .i64 p.2.1,AV.str p.2.2.1]],bF 0 3 76 [AV.agg [AV.int .i64 p.2.2.2.1,AV.int .i64 p.2.2.2.2.1,AV.str p.2.2.2.2.2]]]))) (0,0,[],0,0,[]) fun (_,_,l,_,_,_) _ (i,g,h,d,e,f,a,b,c)=>((((),(),l,(),i,()),(((g,h,()),()),((d,e,f,()),()),((a,b,c,()),()),())),xin l i g h d e f a b c none)
def xoY (b:LA) (c a:Int):=Iter (xcX b) (0,0,c,a,0,0,[],[])
def xoX (b:LA) (c a:Int):=(xoY b c a).getD (0,0,0,0,0,[],[])
def xdn (b:LA) (c a:Int):=(xoX b c a).fst
def xoW (b:LA) (c a:Int):=(xoX b c a).snd
def xjW (b:LA) (c a:Int):=(xoW b c a).fst
def xoV (b:LA) (c a:Int):=(xoW b c a).snd
def xoU (b:LA) (c a:Int):=(xoV b c a).snd
def xoS (b:LA) (c a:Int):=(xoU b c a).snd
def xoT (b:LA) (c a:Int):=(xoU b c a).fst
def xoQ (b:LA) (c a:Int):=(xoS b c a).snd
def xoR (b:LA) (c a:Int):=(xoS b c a).fst
def xoO (b:LA) (c a:Int):=(xoQ b c a).fst
def xoP (b:LA) (c a:Int):=(xoQ b c a).snd
def xd3 (b:LA) (c a:Int):=List.take (xdn b c a) (List.drop 0 (xoP b c a))
def xfn (b:LA) (c a:Int):=((xd3 b c a).getD 0 .top).cells
def xoN (b:LA) (c a:Int):=Iter (xcY (xd3 b c a)) (0,0,0,xoT b c a,xoR b c a,xoO b c a)
def xqh (b:LA) (c a:Int):=Iter (xcZ (xd3 b c a)) (1,xjW b c a,(xoV b c a).fst,xoT b c a,xoR b c a,xoO b c a,((xfn b c a).getD 0 .top).toInt,((xfn b c a).getD 1 .top).toInt,((xfn b c a).getD 2 .top).toStr)
def xoM (b:LA) (c a:Int):=(xoN b c a).getD (0,0,0,0,[])
def xqg (b:LA) (c a:Int):=((xqh b c a).getD (0,0,[],0,0,[])).snd.snd.snd
def xql (b:LA) (c a:Int):=(xoM b c a).snd.fst
def xkv (b:LA) (c a:Int):=i64.wrap ((xoM b c a).fst+i64.wrap ((xql b c a).tdiv 1048576))
def xqf (b:LA) (c a:Int):=(xqg b c a).snd
def xqk (b:LA) (c a:Int):=xdZ (i64.wrap (i64.wrap (xkv b c a*1048576)+(xql b c a).tmod 1048576))
def xqj (b:LA) (c a:Int):=(xqk b c a).getD (0,0,[])
def xqi (b:LA) (c a:Int):=(xqj b c a).snd
def xl0 {T:Type} (b:LA) (c a:Int) (δ:T) (κ:Int×Int×List UInt8->T):T:=br (decide (a<0)) (br ((xdZ (↑b.length:Int)).isSome) (κ (((xdZ (↑b.length:Int)).getD (0,0,[])).fst,((xdZ (↑b.length:Int)).getD (0,0,[])).snd.fst,((xdZ (↑b.length:Int)).getD (0,0,[])).snd.snd)) δ) (br ((xoY b c a).isSome) (br (xjW b c a==1) (br ((xdZ (↑(xdn b c a):Int)).isSome) (κ (((xdZ (↑(xdn b c a):Int)).getD (0,0,[])).fst,((xdZ (↑(xdn b c a):Int)).getD (0,0,[])).snd.fst,((xdZ (↑(xdn b c a):Int)).getD (0,0,[])).snd.snd)) δ) (br (decide (0+xdn b c a<=(xoP b c a).length)&&true) (br ((↑(xd3 b c a).length:Int)==0) (κ (0,0,[])) (br (xjW b c a==2) (br ((xoN b c a).isSome) (br (decide (xkv b c a>1099511627776)) (κ (0,0,[])) (br (decide (xkv b c a<(-1099511627776))) (κ (0,0,[])) (br ((xqk b c a).isSome) (κ ((xqj b c a).fst,(xqi b c a).fst,(xqi b c a).snd)) δ))) δ) (br (decide (0<(↑(xd3 b c a).length:Int))) (br (decide (0<(xd3 b c a).length)&&((xfn b c a).length==3&&xSN [Sh.int .i64,Sh.int .i64,Sh.str] (xfn b c a) 0)) (br ((xqh b c a).isSome) (κ ((xqg b c a).fst,(xqf b c a).fst,(xqf b c a).snd)) δ) δ) δ))) δ)) δ)
def xku (b:LA) (c a:Int):=xl0 b c a none some
def xI2:EO:=xD5.f Tryz.func87 135 0 [3000052] [(5,xhv.lp),(16,xmX.lp),(25,xtH.lp)] (lks (lkC xhv.ok (lkC xmX.ok (lkC xtH.ok lkN)))) (u2 (uL 1) (xTJ (u2 uI uI))) (fun (b,(c,a,_),_) _=>xl0 b c a) (fun _ p=>AV.agg [AV.int .i64 p.1,AV.int .i64 p.2.1,AV.str p.2.2]) (0,0,[])
def xus (a l:LA) (k:Int):=(xku a (gC l k 0).toInt (gC l k 1).toInt).getD (0,0,[])
def xur (a l:LA) (k:Int):=(xus a l k).snd
def xro {T:Type} (b l:LA) (c:Nat) (k:Int) (a:LA) (δ:T) (κl:(Nat×Int×LA)->T) (κr:(Nat×LA)->T):T:=br (decide (k<l.length)) (br (ixI l k) (br (ixT l k 2 [Sh.int .i64,Sh.int .i64] 0) (br ((xku b (gC l k 0).toInt (gC l k 1).toInt).isSome) (br (rmB c a 1 32) (κl (c+1,i64.wrap (k+1),a++[AV.agg [AV.int .i64 (xus b l k).fst,AV.int .i64 (xur b l k).fst,AV.str (xur b l k).snd]])) δ) δ) δ) δ) (κr (c,a))
def xf7 (c l:LA):StT (Nat×Int×LA) (Nat×LA):=fun (b,k,a)=>xro c l b k a none inL inR
def xz9:=xI2.l 28 0 [] [] Tryz.f56 0 lk0 [1,2,7,8] [7] [(7,3,76)] (q4 (qL 1) (qL 2) (xTE 0 0 0) qI) (q1 (qB 0 3 76 xTt)) (fun (c,l,b,k,_) (a,_)=>(xf7 c l,(b,k,a),fun p=>(.leaf (.exit 0) [AV.osl 0 0 0 p.1] [bF 0 3 76 p.2]))) (0,[]) fun (c,l,_,_,_) _ (b,k,a)=>(((c,l,b,k,()),(a,())),xro c l b k a none)
def xzD (a b l:LA):=Iter (xf7 b l) (0+a.length,0,[]++a)
def xzC (b a l:LA):=(xzD b a l).getD (0,[])
def xzA (b a l:LA):=(xzC b a l).snd
def xzB (b a l:LA):=(xzC b a l).fst
def xAt {T:Type} (a b l:LA) (δ:T) (κ:LA->T):T:=br (decide ((0+a.length)*32<=140737488355328)&&decide (0+a.length<=4611686018427387904)) (br ((xzD a b l).isSome) (br (decide (0+xzB a b l<=(xzA a b l).length)&&true) (κ (List.take (xzB a b l) (List.drop 0 (xzA a b l)))) δ) δ) δ
def xtJ (b a l:LA):=xAt b a l none some
def xAT:EO:=xI2.f Tryz.func56 28 0 [] [(3,xz9.lp)] (lk1 xz9.ok) (u3 (uL 3) (uL 1) (uL 2)) (fun (b,a,l,_) _=>xAt b a l) (fun _ p=>AV.list 3 p) []
def xiN (d l e:LA) (f:Int) (a:Nat) (g:Int) (h i b c:LA):=decide ((↑a:Int)<(↑(a+1):Int))
def xhJ (a b:LA) (c:Int):=xu5 (List.take ((xdG (gC b c 0).toList a).getD (0,[])).fst (List.drop 0 ((xdG (gC b c 0).toList a).getD (0,[])).snd))
def xax (a:Nat):Nat:=0+(↑a:Int).toNat
def xiM (d l e:LA) (f:Int) (b:Nat) (g:Int) (h i c a:LA):=decide (xax b<(a++[AV.list 1 []]).length)
def xbR (a b:LA) (c:Int):=(xhJ a b c).getD []
def xa4 (b:Nat) (a:LA):=(((a++[AV.list 1 []]).getD (xax b) .top).cells.getD 0 .top).toList.length
def xiR (c:LA) (b:Nat) (d:Int) (a:LA):=(((a++[AV.list 1 []]).getD (xax b) .top).cells.getD 0 .top).toList++[AV.list 3 (gC c d 0).toList]
def xiO (c d:LA) (b:Nat) (e:Int) (a:LA):=decide (0<=(xSx (AV.int .i64 0) a (xbR c d e)).toInt)&&decide ((xSx (AV.int .i64 0) a (xbR c d e)).toInt<(↑b:Int))
def xaT (b c:LA) (d:Int) (a:LA):Nat:=0+(xSx (AV.int .i64 0) a (xbR b c d)).toInt.toNat
def xiQ (a b:LA) (c:Int):=decide ((xbR a b c).length<=4611686018427387904)
def xeB (b:Nat) (a:LA):=(a++[AV.list 1 []]).set (xax b) (AV.int .i64 (↑(xa4 b a):Int))
def xiP (c d:LA) (e:Int) (a b:LA):=decide (xaT c d e a<b.length)
def xa2 (c d:LA) (e:Int) (a b:LA):=((b.getD (xaT c d e a) .top).cells.getD 0 .top).toList.length
def xhK (e c:LA) (d:Int) (a b:LA):=((b.getD (xaT e c d a) .top).cells.getD 0 .top).toList++[AV.list 3 (gC c d 0).toList]
def xdM (c d:LA) (e:Int) (a b:LA):=xa2 c d e a b+1
def xgs {T:Type} (d l f:LA) (i:Int) (c:Nat) (e:Int) (g h b a:LA) (δ:T) (κl:(Nat×Int×LA×LA×LA×LA)->T) (κr:(Nat×LA×LA×LA)->T):T:=br (decide (e<i)) (br (ixI f e) (br (ixS f e (Sh.list 3) 0) (br ((xdG (gC f e 0).toList d).isSome) (br (decide (0+((xdG (gC f e 0).toList d).getD (0,[])).fst<=((xdG (gC f e 0).toList d).getD (0,[])).snd.length)&&true) (br ((xhJ d f e).isSome) (br (xiQ d f e&&xSG (Sh.int .i64) (xSx (AV.int .i64 0) b (xbR d f e))) (br (!xTb b (xbR d f e)) (br (decide (b.length<4611686018427387904)&&xiQ d f e) (br (rmB c a 1 24) (br (xiN d l f i c e g h b a) (br (xiM d l f i c e g h b a&&(xTm 1 (((a++[AV.list 1 []]).getD (xax c) .top).cells.getD 0 .top)&&((a++[AV.list 1 []]).getD (xax c) .top).cells.length==1)) (br (xiM d l f i c e g h b a&&(xTm 1 (((a++[AV.list 1 []]).getD (xax c) .top).cells.getD 0 .top)&&(((a++[AV.list 1 []]).getD (xax c) .top).cells.length==1&&(2*xa4 c a==2*xa4 c a&&(xa4 c a==xa4 c a&&(xa4 c a==xa4 c a&&(decide ((xa4 c a+1)*24<=140737488355328)&&decide (xa4 c a+1<=4611686018427387904)))))))) (br (xiN d l f i c e g h b a) (br (decide (xax c<(xeB c a).length)&&(((xeB c a).getD (xax c) .top).cells.length==1&&(xa4 c a+1==(xiR f c e a).length&&xTM (((xeB c a).getD (xax c) .top).cells.getD 0 .top) (xa4 c a+1)))) (κl (c+1,i64.wrap (e+1),g,h,xSY b (xbR d f e) (AV.int .i64 (↑c:Int)),(xeB c a).set (xax c) (AV.list 1 (xiR f c e a)))) δ) δ) δ) δ) δ) δ) δ) (br (xiO d f c e b) (br (xiP d f e b a&&(xTm 1 ((a.getD (xaT d f e b) .top).cells.getD 0 .top)&&(a.getD (xaT d f e b) .top).cells.length==1)) (br (xiP d f e b a&&(xTm 1 ((a.getD (xaT d f e b) .top).cells.getD 0 .top)&&((a.getD (xaT d f e b) .top).cells.length==1&&(2*xa2 d f e b a==2*xa2 d f e b a&&(xa2 d f e b a==xa2 d f e b a&&(xa2 d f e b a==xa2 d f e b a&&(decide (xdM d f e b a*24<=140737488355328)&&decide (xdM d f e b a<=4611686018427387904)))))))) (br (xiO d f c e b) (br (decide (xaT d f e b<(a.set (xaT d f e b) (AV.int .i64 (↑(xa2 d f e b a):Int))).length)&&(((a.set (xaT d f e b) (AV.int .i64 (↑(xa2 d f e b a):Int))).getD (xaT d f e b) .top).cells.length==1&&(xdM d f e b a==(xhK d f e b a).length&&xTM (((a.set (xaT d f e b) (AV.int .i64 (↑(xa2 d f e b a):Int))).getD (xaT d f e b) .top).cells.getD 0 .top) (xdM d f e b a)))) (κl (c,i64.wrap (e+1),g,h,b,(a.set (xaT d f e b) (AV.int .i64 (↑(xa2 d f e b a):Int))).set (xaT d f e b) (AV.list 1 (xhK d f e b a)))) δ) δ) δ) δ) δ)) δ) δ) δ) δ) δ) δ) (κr (c,g,h,a))
def xbf (d l e:LA) (f:Int):StT (Nat×Int×LA×LA×LA×LA) (Nat×LA×LA×LA):=fun (c,g,h,i,a,b)=>xgs d l e f c g h i a b none inL inR
def xiL:=xAS.l 111 0 [57,2000068] [] Tryz.f43 0 lk0 [1,2,3,6,7,8,31,32,33] [1,2,3,6,8] [(8,1,244881293359)] (q9 (qL 1) (qL 2) (xTF 0 0 0 0) (xTF 1 0 0 0) (xTF 2 0 0 0) (xTE 3 0 0) (qL 1) qI qI) (q4 (qB 0 2 49 (q1 (xTG (q2 (qL 1) (qL 1))))) (qB 0 2 49 (q1 (xTG (q2 pNils pNils)))) (qB 0 2 1208925819615114573119488 xTt) (qB 0 1 244881293359 xTt)) (fun (d,l,_,_,_,c,e,f,g,_) (((h,i,_),_),((_,_,_),_),a,b,_)=>(xbf d l e f,(c,g,h,i,a,b),fun p=>(.leaf (.exit 0) [AV.list 1 d,AV.list 2 l,AV.own 0 0 0 0,AV.own 1 0 0 0,AV.osl 2 0 0 p.1] [bF 0 2 49 [AV.agg [AV.list 1 p.2.1,AV.list 1 p.2.2.1]],bF 0 2 49 [AV.agg [AV.nils,AV.nils]],bF 0 1 244881293359 p.2.2.2]))) (0,[],[],[]) fun (d,l,_,_,_,_,e,f,_,_) _ (c,g,h,i,a,b)=>(((d,l,(),(),(),c,e,f,g,()),(((h,i,()),()),(((),(),()),()),a,b,())),xgs d l e f c g h i a b none)
def xnZ (g a:LA) (b:Int):=(xhl g (gC a b 0).toInt (gC a b 1).toInt).getD (0,0,[])
def xnY (g a:LA) (b:Int):=(xnZ g a b).snd
def xjx {T:Type} (k l:LA) (j:Nat) (g m:LA) (n o:Int) (b:LA) (i:Int) (d:Nat) (a:Int) (f h e c:LA) (δ:T) (κl:(Nat×Int×LA×LA×LA×LA)->T) (κr:(Nat×LA×LA×LA×LA)->T):T:=br (decide (a<i)) (br (ixI b a) (br (ixT b a 2 [Sh.int .i64,Sh.int .i64] 0) (br ((xhl g (gC b a 0).toInt (gC b a 1).toInt).isSome) (br (rmB d c 1 32) (κl (d+1,i64.wrap (a+1),f,h,e,c++[AV.agg [AV.int .i64 (xnZ g b a).fst,AV.int .i64 (xnY g b a).fst,AV.str (xnY g b a).snd]])) δ) δ) δ) δ) (κr (d,f,h,e,c))
def xcu (e l:LA) (c:Nat) (g f:LA) (h i:Int) (j:LA) (k:Int):StT (Nat×Int×LA×LA×LA×LA) (Nat×LA×LA×LA×LA):=fun (d,m,n,o,a,b)=>xjx e l c g f h i j k d m n o a b none inL inR
def xi1:=xAS.l 111 0 [57,2000068] [(7,xiL.lp)] Tryz.f43 2 lk0 [1,2,3,6,14,16,17,68,69,70,82,83,84] [1,2,3,6,14,17,68,69,70] [(14,1,57),(17,3,76)] (xTp (qL 1) (xTp (qL 2) (xTp (xTF 0 0 0 0) (q10 (xTF 1 0 0 0) (xTE 2 0 0) (qL 1) (xTE 3 0 0) (qL 1) qI qI (qL 2) qI qI)))) (q4 (qB 0 2 49 (q1 (xTG (q2 (qL 1) (qL 1))))) (qB 0 2 49 (q1 (xTG (q2 pNils pNils)))) (qB 0 1 57 xTt) (qB 0 3 76 xTt)) (fun (e,l,_,_,a,g,d,f,h,i,j,k,m,_) (((n,o,_),_),((_,_,_),_),b,c,_)=>(xcu e l a g f h i j k,(d,m,n,o,b,c),fun p=>(.leaf (.exit 4) [AV.list 1 e,AV.list 2 l,AV.own 0 0 0 0,AV.own 1 0 0 0,AV.osl 2 0 0 a,AV.osl 3 0 0 p.1,AV.list 1 f,AV.int .i64 h,AV.int .i64 i] [bF 0 2 49 [AV.agg [AV.list 1 p.2.1,AV.list 1 p.2.2.1]],bF 0 2 49 [AV.agg [AV.nils,AV.nils]],bF 0 1 57 p.2.2.2.1,bF 0 3 76 p.2.2.2.2]))) (0,[],[],[],[]) fun (e,l,_,_,a,g,_,f,h,i,j,k,_,_) _ (d,m,n,o,b,c)=>(((e,l,(),(),a,g,d,f,h,i,j,k,m,()),(((n,o,()),()),(((),(),()),()),b,c,())),xjx e l a g f h i j k d m n o b c none)
def xhQ (e l c:LA) (f:Int) (b:Nat) (d:Int) (g h a:LA):=Iter (xcu e l b (gC c d 0).toList c f d l (↑l.length:Int)) (0,0,g,h,a,[])
def xhR (a b:LA) (c:Int):=(xdG (((gC b c 0).toList.getD 0 .top).cells.getD 0 .top).toList a).getD (0,[])
def xiZ (a l b:LA) (f:Int) (e:Nat) (c:Int) (g h d:LA):=Iter (xcu a l e (gC b c 0).toList b f c l (↑l.length:Int)) ((xhR a b c).fst,0,g,h,d,(xhR a b c).snd)
def xhP (c l d:LA) (e:Int) (b:Nat) (f:Int) (g h a:LA):=(xhQ c l d e b f g h a).getD (0,[],[],[],[])
def xiY (c l d:LA) (e:Int) (b:Nat) (f:Int) (g h a:LA):=(xiZ c l d e b f g h a).getD (0,[],[],[],[])
def xhN (c l d:LA) (e:Int) (b:Nat) (f:Int) (g h a:LA):=(xhP c l d e b f g h a).snd
def xhO (c l d:LA) (e:Int) (b:Nat) (f:Int) (g h a:LA):=(xhP c l d e b f g h a).fst
def xiW (c l d:LA) (e:Int) (b:Nat) (f:Int) (g h a:LA):=(xiY c l d e b f g h a).fst
def xiX (c l d:LA) (e:Int) (b:Nat) (f:Int) (g h a:LA):=(xiY c l d e b f g h a).snd
def xhM (c l d:LA) (e:Int) (b:Nat) (f:Int) (g h a:LA):=(xhN c l d e b f g h a).snd
def xiV (c l d:LA) (e:Int) (b:Nat) (f:Int) (g h a:LA):=(xiX c l d e b f g h a).snd
def xhL (c l d:LA) (e:Int) (b:Nat) (f:Int) (g h a:LA):=(xhM c l d e b f g h a).snd
def xiU (c l d:LA) (e:Int) (b:Nat) (f:Int) (g h a:LA):=(xiV c l d e b f g h a).snd
def xix (c l d:LA) (e:Int) (b:Nat) (f:Int) (g h a:LA):=(xhL c l d e b f g h a).fst
def xi0 (c l d:LA) (e:Int) (b:Nat) (f:Int) (g h a:LA):=(xhL c l d e b f g h a).snd
def xiS (c l d:LA) (e:Int) (b:Nat) (f:Int) (g h a:LA):=(xiU c l d e b f g h a).snd
def xiT (c l d:LA) (e:Int) (b:Nat) (f:Int) (g h a:LA):=(xiU c l d e b f g h a).fst
def xgt {T:Type} (c l e:LA) (f:Int) (a:Nat) (d:Int) (g h b:LA) (δ:T) (κl:(Nat×Int×LA×LA×LA)->T) (κr:(Nat×LA×LA×LA)->T):T:=br (decide (d<f)) (br (ixI e d) (br (ixS e d (Sh.list 1) 0) (br (decide ((↑c.length:Int)>0)) (br (decide (0<(↑(gC e d 0).toList.length:Int))) (br (decide (0<(gC e d 0).toList.length)&&xSG (Sh.list 3) (((gC e d 0).toList.getD 0 .top).cells.getD 0 .top)) (br ((xdG (((gC e d 0).toList.getD 0 .top).cells.getD 0 .top).toList c).isSome) (br ((xiZ c l e f a d g h b).isSome) (br (decide (0+xiW c l e f a d g h b<=(xiS c l e f a d g h b).length)&&true) (br (a==(xiT c l e f a d g h b).length&&(decide ((a+1)*24<=140737488355328)&&decide (a+1<=4611686018427387904))) (κl (a+1,i64.wrap (d+1),(xiX c l e f a d g h b).fst,(xiV c l e f a d g h b).fst,xiT c l e f a d g h b++[AV.list 3 (List.take (xiW c l e f a d g h b) (List.drop 0 (xiS c l e f a d g h b)))])) δ) δ) δ) δ) δ) δ) (br ((xhQ c l e f a d g h b).isSome) (br (decide (0+xhO c l e f a d g h b<=(xi0 c l e f a d g h b).length)&&true) (br (a==(xix c l e f a d g h b).length&&(decide ((a+1)*24<=140737488355328)&&decide (a+1<=4611686018427387904))) (κl (a+1,i64.wrap (d+1),(xhN c l e f a d g h b).fst,(xhM c l e f a d g h b).fst,xix c l e f a d g h b++[AV.list 3 (List.take (xhO c l e f a d g h b) (List.drop 0 (xi0 c l e f a d g h b)))])) δ) δ) δ)) δ) δ) (κr (a,g,h,b))
def xby (c l d:LA) (e:Int):StT (Nat×Int×LA×LA×LA) (Nat×LA×LA×LA):=fun (b,f,g,h,a)=>xgt c l d e b f g h a none inL inR
def xu3:=xAS.l 111 0 [57,2000068] [(7,xiL.lp),(25,xi1.lp)] Tryz.f43 1 (lk1 xi1.ok) [1,2,3,6,14,68,69,70] [1,2,3,6,14] [(14,1,57)] (q8 (qL 1) (qL 2) (xTF 0 0 0 0) (xTF 1 0 0 0) (xTE 2 0 0) (qL 1) qI qI) (q3 (qB 0 2 49 (q1 (xTG (q2 (qL 1) (qL 1))))) (qB 0 2 49 (q1 (xTG (q2 pNils pNils)))) (qB 0 1 57 xTt)) (fun (c,l,_,_,b,d,e,f,_) (((g,h,_),_),((_,_,_),_),a,_)=>(xby c l d e,(b,f,g,h,a),fun p=>(.leaf (.exit 2) [AV.list 1 c,AV.list 2 l,AV.own 0 0 0 0,AV.own 1 0 0 0,AV.osl 2 0 0 p.1] [bF 0 2 49 [AV.agg [AV.list 1 p.2.1,AV.list 1 p.2.2.1]],bF 0 2 49 [AV.agg [AV.nils,AV.nils]],bF 0 1 57 p.2.2.2]))) (0,[],[],[]) fun (c,l,_,_,_,d,e,_,_) _ (b,f,g,h,a)=>(((c,l,(),(),b,d,e,f,()),(((g,h,()),()),(((),(),()),()),a,())),xgt c l d e b f g h a none)
def xk9 (c a b l:LA):=Iter (xbf b l a (↑a.length:Int)) (1,0,c,a,[AV.agg [AV.str [],AV.int .i64 0]],[AV.list 1 []])
def xla (c a b l:LA):=Iter (xbf b l a (↑a.length:Int)) (0,0,c,a,[],[])
def xk3 (c a b l:LA):=(xk9 c a b l).getD (0,[],[],[])
def xk8 (c a b l:LA):=(xla c a b l).getD (0,[],[],[])
def xk1 (c a b l:LA):=(xk3 c a b l).snd
def xk2 (c a b l:LA):=(xk3 c a b l).fst
def xk6 (c a b l:LA):=(xk8 c a b l).snd
def xk7 (c a b l:LA):=(xk8 c a b l).fst
def xk0 (c a b l:LA):=(xk1 c a b l).snd
def xk5 (c a b l:LA):=(xk6 c a b l).snd
def xkx (c a b l:LA):=(xk0 c a b l).snd
def xk4 (c a b l:LA):=(xk5 c a b l).snd
def xhj (c a b l:LA):=List.take (xk2 c a b l) (List.drop 0 (xkx c a b l))
def xhk (c a b l:LA):=List.take (xk7 c a b l) (List.drop 0 (xk4 c a b l))
def xmj (c b a l:LA):=Iter (xby a l (xhj c b a l) (↑(xhj c b a l).length:Int)) (0,0,(xk1 c b a l).fst,(xk0 c b a l).fst,[])
def xkZ (c b a l:LA):=Iter (xby a l (xhk c b a l) (↑(xhk c b a l).length:Int)) (0,0,(xk6 c b a l).fst,(xk5 c b a l).fst,[])
def xmi (c a b l:LA):=(xmj c a b l).getD (0,[],[],[])
def xkY (c a b l:LA):=(xkZ c a b l).getD (0,[],[],[])
def xmg (c a b l:LA):=(xmi c a b l).fst
def xmh (c a b l:LA):=(xmi c a b l).snd
def xkW (c a b l:LA):=(xkY c a b l).snd
def xkX (c a b l:LA):=(xkY c a b l).fst
def xme (c a b l:LA):=(xmh c a b l).snd.snd
def xmf (c b a l:LA):=xc8 a l (xmh c b a l).fst
def xkU (c a b l:LA):=(xkW c a b l).snd.snd
def xkV (c b a l:LA):=xc8 a l (xkW c b a l).fst
def xmb (c a b l:LA):=xu4 ((xmf c a b l).getD ([],0)).fst (List.take (xmg c a b l) (List.drop 0 (xme c a b l)))
def xmd (c a b l:LA):=xu4 ((xkV c a b l).getD ([],0)).fst (List.take (xkX c a b l) (List.drop 0 (xkU c a b l)))
def xma (c a b l:LA):=(xmb c a b l).getD ([],[])
def xmc (c a b l:LA):=(xmd c a b l).getD ([],[])
def xtr {T:Type} (c b a l:LA) (δ:T) (κ:LA×LA->T):T:=br ((↑a.length:Int)==0) (br ((xk9 c b a l).isSome) (br (decide (0+xk2 c b a l<=(xkx c b a l).length)&&xTc 1 0 (xhj c b a l)&&true) (br ((xmj c b a l).isSome) (br ((xmf c b a l).isSome) (br (decide (0+xmg c b a l<=(xme c b a l).length)&&true) (br ((xmb c b a l).isSome) (κ ((xma c b a l).fst,(xma c b a l).snd)) δ) δ) δ) δ) δ) δ) (br ((xla c b a l).isSome) (br (decide (0+xk7 c b a l<=(xk4 c b a l).length)&&xTc 1 0 (xhk c b a l)&&true) (br ((xkZ c b a l).isSome) (br ((xkV c b a l).isSome) (br (decide (0+xkX c b a l<=(xkU c b a l).length)&&true) (br ((xmd c b a l).isSome) (κ ((xmc c b a l).fst,(xmc c b a l).snd)) δ) δ) δ) δ) δ) δ)
def xbU (c a b l:LA):=xtr c a b l none some
def xLk:EO:=xAS.f Tryz.func43 111 0 [57,2000068] [(7,xiL.lp),(25,xi1.lp),(19,xu3.lp)] (lks (lkC xiL.ok (lkC xu3.ok (lkC xi1.ok lkN)))) (u3 (xTJ (u2 (uL 1) (uL 1))) (uL 1) (uL 2)) (fun ((c,a,_),b,l,_) _=>xtr c a b l) (fun _ p=>AV.agg [AV.list 1 p.1,AV.list 1 p.2]) ([],[])
def xfo {T:Type} (a b:LA) (d:Nat) (c:LA) (δ:T) (κl:(LA×LA×Nat×LA)->T) (κr:(LA×LA×Nat×LA)->T):T:=br (decide ((↑a.length:Int)>0)) (br (decide ((↑b.length:Int)>0)) (br (decide (0<(↑b.length:Int))) (br (decide (0<b.length)&&xSG (Sh.list 3) ((b.getD 0 .top).cells.getD 0 .top)) (br (decide (0<(↑a.length:Int))) (br (decide (0<a.length)&&xSG (Sh.list 3) ((a.getD 0 .top).cells.getD 0 .top)) (br ((xbt ((b.getD 0 .top).cells.getD 0 .top).toList ((a.getD 0 .top).cells.getD 0 .top).toList).isSome) (br (decide ((xbt ((b.getD 0 .top).cells.getD 0 .top).toList ((a.getD 0 .top).cells.getD 0 .top).toList).getD 0<0)) (br (decide (0<(↑b.length:Int))) (br (decide (0<b.length)&&((b.getD 0 .top).cells.length==2&&xSN [Sh.list 3,Sh.list 3] (b.getD 0 .top).cells 0)) (br (rmB d c 1 48) (br (decide (1<=(↑b.length:Int))) (κl (a,List.take (b.length - 1) (List.drop 1 b),d+1,c++[AV.agg [AV.list 3 ((b.getD 0 .top).cells.getD 0 .top).toList,AV.list 3 ((b.getD 0 .top).cells.getD 1 .top).toList]])) δ) δ) δ) δ) (br (decide (0<(↑a.length:Int))) (br (decide (0<a.length)&&((a.getD 0 .top).cells.length==2&&xSN [Sh.list 3,Sh.list 3] (a.getD 0 .top).cells 0)) (br (rmB d c 1 48) (br (decide (1<=(↑a.length:Int))) (κl (List.take (a.length - 1) (List.drop 1 a),b,d+1,c++[AV.agg [AV.list 3 ((a.getD 0 .top).cells.getD 0 .top).toList,AV.list 3 ((a.getD 0 .top).cells.getD 1 .top).toList]])) δ) δ) δ) δ)) δ) δ) δ) δ) δ) (κr (a,b,d,c))) (κr (a,b,d,c))
def xb4:StT (LA×LA×Nat×LA) (LA×LA×Nat×LA):=fun (a,b,d,c)=>xfo a b d c none inL inR
def xo2:=xAT.l 61 0 [98] [] Tryz.f55 0 lk0 [3,4,5] [3,4,5] [(5,2,98)] (q3 (qL 2) (qL 2) (xTE 0 0 0)) (q1 (qB 0 2 98 xTt)) (fun (a,b,d,_) (c,_)=>(xb4,(a,b,d,c),fun p=>(.leaf (.exit 0) [AV.list 2 p.1,AV.list 2 p.2.1,AV.osl 0 0 0 p.2.2.1] [bF 0 2 98 p.2.2.2]))) ([],[],0,[]) fun _ _ (a,b,d,c)=>(((a,b,d,()),(c,())),xfo a b d c none)
def xqo (R:LA->Option (LA)):LA->Option (Bool×AV):=ocOf (xTq (xTI 2 xTt) xTs) fun (l,_)=>((R l).isSome,AV.list 2 ((R l).getD []))
def xe9 (R:LA->Option (LA)):Env:=(xAT.E.with 55 (xqo R)).fn 61 0 (lsOf [98]) (xS3 [(5,xo2.lp)])
def xo1 (R:LA->Option (LA)):Prop:=OcOk P0 xTo 55 (xqo R)
theorem xB2 (R:LA->Option (LA)) (a:xo1 R):xSI P0 (xTo.at 0) (xe9 R):=(xAT.ok.with a).fn
theorem xA3 (R:LA->Option (LA)):LoOk P0 (xTo.at (xe9 R).pin) (xe9 R) (Tryz.f55.body.getD .skip):=xgL (ls:=[xSM Tryz.f55 0]) (by kernel_rfl) (fun l b lp a=>by
 simp only [zC,List.not_mem_nil,or_false] at b;rcases b with rfl
 . rw [show (xe9 R).lp (xSW (xSM Tryz.f55 0))=some xo2.lp by kernel_rfl] at a
   simp only [z6] at a;subst a;exact xo2.ok)
def xrU (l:LA):=decide (0<=i64.wrap ((↑l.length:Int).tdiv 2))&&decide (i64.wrap ((↑l.length:Int).tdiv 2)<=(↑l.length:Int))
def xrV (R:LA->Option (LA)) (l:LA):Option (LA):=R (List.take (l.length - (i64.wrap ((↑l.length:Int).tdiv 2)).toNat) (List.drop (i64.wrap ((↑l.length:Int).tdiv 2)).toNat l))
def xrT (R:LA->Option (LA)) (l:LA):Option (LA×LA×Nat×LA):=Iter xb4 ((R (List.take ((i64.wrap ((↑l.length:Int).tdiv 2)).toNat - 0) (List.drop 0 l))).getD [],(xrV R l).getD [],0,[])
def xrS (R:LA->Option (LA)) (l:LA):LA×LA×Nat×LA:=(xrT R l).getD ([],[],0,[])
def xtg (R:LA->Option (LA)) (l:LA):LA×Nat×LA:=(xrS R l).snd
def xth (R:LA->Option (LA)) (l:LA):LA:=(xrS R l).fst
def xte (R:LA->Option (LA)) (l:LA):Nat×LA:=(xtg R l).snd
def xtf (R:LA->Option (LA)) (l:LA):LA:=(xtg R l).fst
def xtc (R:LA->Option (LA)) (l:LA):LA:=(xte R l).snd
def xtd (R:LA->Option (LA)) (l:LA):Nat:=(xte R l).fst
def xjA (R:LA->Option (LA)) (l:LA):Nat:=xtd R l+(xth R l).length
def xtb (R:LA->Option (LA)) (l:LA):LA:=xtc R l++xth R l
def xjz (R:LA->Option (LA)) (l:LA):Nat:=xjA R l+(xtf R l).length
def xta (R:LA->Option (LA)) (l:LA):LA:=xtb R l++xtf R l
def xhw {T:Type} (R:LA->Option (LA)) (l:LA) (δ:T) (κ:LA->T):T:=br (decide ((↑l.length:Int)<2)) (κ (l)) (br (xrU l&&true) (br ((R (List.take ((i64.wrap ((↑l.length:Int).tdiv 2)).toNat - 0) (List.drop 0 l))).isSome) (br (xrU l) (br ((xrV R l).isSome) (br ((xrT R l).isSome) (br (xtd R l==(xtc R l).length&&(decide (xjA R l*48<=140737488355328)&&decide (xjA R l<=4611686018427387904))) (br (xjA R l==(xtb R l).length&&(decide (xjz R l*48<=140737488355328)&&decide (xjz R l<=4611686018427387904))) (br (decide (0+xjz R l<=(xta R l).length)&&true) (κ (List.take (xjz R l) (List.drop 0 (xta R l)))) δ) δ) δ) δ) δ) δ) δ) δ)
def xc9 (R:LA->Option (LA)) (l:LA):=xhw R l none some
theorem xEN (R:LA->Option (LA)) (l:LA):Enc (fun (p:LA)=>((AV.list 2 p):AV)) (xc9 R l) (XF P0 (xe9 R) Tryz.f55 (Tryz.f55.body.getD .skip) [AV.list 2 l]):=by
 have h:XF P0 (xe9 R) Tryz.f55 (Tryz.f55.body.getD .skip) [AV.list 2 l]=xhw R l none (fun (p:LA)=>some ((AV.list 2 p):AV)):=by kernel_rfl
 rw [h];unfold xc9 xhw;repeat' (first|refine Enc.br ?_ ?_|exact Enc.none|exact Enc.some rfl)
def xEM (R:LA->Option (LA)):LA->Option (Bool×AV):=ocOf (xTq (xTI 2 xTt) xTs) fun (l,_)=>((xc9 R l).isSome,(AV.list 2 ((xc9 R l).getD [])))
theorem xEL (R:LA->Option (LA)) (c:xo1 R):OcOk P0 xTo 55 (xEM R):=xmD fun e g f=>by
 obtain ⟨l,_⟩:=e;obtain ⟨a,b⟩:=Prod.mk.inj f;refine xdU (p:=(xe9 R).pin) (xf6 xSR (xSS P0 _) rfl (xB2 R c) Tryz.func55 rfl (by kernel_rfl) (xA3 R) ((xEN R _ _ (xcf (d:=[]) a)).trans ?_))
 exact congrArg some b
def xcl:Nat->LA->Option (LA)
 | 0=>fun _=>none
 | fu_+1=>fun l=>xc9 (xcl fu_) l
theorem xwU:∀ n,xo1 (xcl n)
 | 0=>xmD fun _ _ h=>absurd (Prod.mk.inj h).1 Bool.false_ne_true
 | fu_+1=>fun a r h=>xEL (xcl fu_) (xwU fu_) a r h
def xLp:Env:=xAT.E.with 55 (xqo (xcl 100))
theorem xLq:xSI P0 xTo xLp:=xAT.ok.with (xwU _)
def xzx:EO:=EO.mk xLp xLq
def xnS {T:Type} (g l:LA) (d:Nat) (i:Int) (h a e:LA) (f:Nat) (b c:LA) (δ:T) (κl:(Nat×Int×LA×LA×LA×Nat×LA×LA)->T) (κr:(Nat×LA×Nat×LA×LA)->T):T:=br (decide (i<a.length)) (br (ixI a i) (br (ixS a i (Sh.list 3) 0) (br ((xyY (gC a i 0).toList g).isSome) (br (ixI a i) (br (ixS a i (Sh.list 3) 0) (br (rmB d b 1 48) (κl (d+1,i64.wrap (i+1),h,a,e,f,b++[AV.agg [AV.list 3 ((xyY (gC a i 0).toList g).getD []),AV.list 3 (gC a i 0).toList]],c)) δ) δ) δ) δ) δ) δ) (κr (d,e,f,b,c))
def xdo (f l:LA):StT (Nat×Int×LA×LA×LA×Nat×LA×LA) (Nat×LA×Nat×LA×LA):=fun (c,i,g,h,d,e,b,a)=>xnS f l c i g h d e b a none inL inR
def xl1:=xzx.l 116 0 [57,98] [] Tryz.f28 0 lk0 [1,2,3,6,9,10,11] [1,2,6,9,10] [(10,2,98),(9,1,57)] (q7 (qL 1) (qL 2) (xTF 0 0 0 0) (xTF 1 0 0 0) (xTF 2 0 0 0) (xTE 3 0 0) qI) (q5 (qB 0 2 49 (q1 (xTG (q2 (qL 1) (qL 1))))) (qB 0 2 49 (q1 (xTG (q2 pNils pNils)))) (xTH 0 2 49 false false (q1 (xTG (q2 (qL 1) (xTE 4 0 0))))) (qB 0 2 98 xTt) (qB 0 1 57 xTt)) (fun (f,l,_,_,_,c,i,_) (((g,h,_),_),((_,_,_),_),((d,e,_),_),b,a,_)=>(xdo f l,(c,i,g,h,d,e,b,a),fun p=>(.leaf (.exit 0) [AV.list 1 f,AV.list 2 l,AV.own 0 0 0 0,AV.own 1 0 0 0,AV.osl 2 0 0 p.1] [bF 0 2 49 [AV.agg [AV.nils,AV.nils]],⟨0,2,49,[AV.agg [AV.list 1 p.2.1,AV.osl 3 0 0 p.2.2.1]],false,false⟩,bF 0 2 98 p.2.2.2.1,bF 0 1 57 p.2.2.2.2]))) (0,[],0,[],[]) fun (f,l,_,_,_,_,_,_) _ (c,i,g,h,d,e,b,a)=>(((f,l,(),(),(),c,i,()),(((g,h,()),()),(((),(),()),()),((d,e,()),()),b,a,())),xnS f l c i g h d e b a none)
def xjm {T:Type} (l a:LA) (i:Int) (c:Nat) (k:Int) (e:LA) (f:Nat) (b d:LA) (δ:T) (κl:(Nat×Int×LA×Nat×LA×LA)->T) (κr:(Nat×Int×LA×Nat×LA×LA)->T):T:=br (decide (k<a.length)) (br (ixI a k) (br (ixS a k (Sh.list 3) 0) (br (ixI a i) (br (ixS a i (Sh.list 3) 0) (br ((xsc (gC a k 0).toList (gC a i 0).toList).isSome) (br ((xsc (gC a k 0).toList (gC a i 0).toList).getD false) (br (ixI a k) (br (ixS a k (Sh.list 3) 1) (br (rmB c b 1 24) (κl (c+1,i64.wrap (k+1),e,f,b++[AV.list 3 (gC a k 1).toList],d)) δ) δ) δ) (κr (c,k,e,f,b,d))) δ) δ) δ) δ) δ) (κr (c,k,e,f,b,d))
def xdp (l f:LA) (i:Int):StT (Nat×Int×LA×Nat×LA×LA) (Nat×Int×LA×Nat×LA×LA):=fun (c,k,d,e,a,b)=>xjm l f i c k d e a b none inL inR
def xl3:=xzx.l 116 0 [57,98] [(5,xl1.lp)] Tryz.f28 2 lk0 [2,6,9,10,12,13,14] [2,6,9,10,12,13,14] [(10,2,98),(13,1,57),(9,1,57)] (q7 (qL 2) (xTF 0 0 0 0) (xTF 1 0 0 0) (qL 2) qI (xTE 2 0 0) qI) (q4 (qB 0 2 49 (q1 (xTG (q2 pNils pNils)))) (xTH 0 2 49 false false (q1 (xTG (q2 (qL 1) (xTE 3 0 0))))) (qB 0 1 57 xTt) (qB 0 1 57 xTt)) (fun (l,_,_,f,i,c,k,_) (((_,_,_),_),((d,e,_),_),a,b,_)=>(xdp l f i,(c,k,d,e,a,b),fun p=>(.leaf (.exit 4) [AV.list 2 l,AV.own 0 0 0 0,AV.own 1 0 0 0,AV.list 2 f,AV.int .i64 i,AV.osl 2 0 0 p.1,AV.int .i64 p.2.1] [bF 0 2 49 [AV.agg [AV.nils,AV.nils]],⟨0,2,49,[AV.agg [AV.list 1 p.2.2.1,AV.osl 3 0 0 p.2.2.2.1]],false,false⟩,bF 0 1 57 p.2.2.2.2.1,bF 0 1 57 p.2.2.2.2.2]))) (0,0,[],0,[],[]) fun (l,_,_,f,i,_,_,_) _ (c,k,d,e,a,b)=>(((l,(),(),f,i,c,k,()),((((),(),()),()),((d,e,()),()),a,b,())),xjm l f i c k d e a b none)
def xqn (l d:LA) (i:Int) (b:LA) (c:Nat) (a:LA):=Iter (xdp l d i) (0,i,b,c,[],a)
def xqm (l d:LA) (i:Int) (b:LA) (c:Nat) (a:LA):=(xqn l d i b c a).getD (0,0,[],0,[],[])
def xrP (l d:LA) (i:Int) (b:LA) (c:Nat) (a:LA):=(xqm l d i b c a).snd
def xrQ (l d:LA) (i:Int) (b:LA) (c:Nat) (a:LA):=(xqm l d i b c a).fst
def xrO (l d:LA) (i:Int) (b:LA) (c:Nat) (a:LA):=(xrP l d i b c a).snd
def xrN (l d:LA) (i:Int) (b:LA) (c:Nat) (a:LA):=(xrO l d i b c a).snd
def xrL (l d:LA) (i:Int) (b:LA) (c:Nat) (a:LA):=(xrN l d i b c a).fst
def xrM (l d:LA) (i:Int) (b:LA) (c:Nat) (a:LA):=(xrN l d i b c a).snd
def xl2 (l d:LA) (i:Int) (b:LA) (c:Nat) (a:LA):=xrL l d i b c a+1
def xrJ (l d:LA) (i:Int) (b:LA) (c:Nat) (a:LA):=(xrM l d i b c a).snd
def xrK (l d:LA) (i:Int) (b:LA) (c:Nat) (a:LA):=(xrM l d i b c a).fst
def xrI (l d:LA) (i:Int) (b:LA) (c:Nat) (a:LA):=xtJ (gC d i 0).toList (List.take (xrQ l d i b c a) (List.drop 0 (xrK l d i b c a))) l
def xjl {T:Type} (l d:LA) (i:Int) (b:LA) (c:Nat) (a:LA) (δ:T) (κl:(Int×LA×Nat×LA)->T) (κr:(LA×Nat×LA)->T):T:=br (decide (i<d.length)) (br ((xqn l d i b c a).isSome) (br (ixI d i) (br (ixS d i (Sh.list 3) 0) (br (decide (0+xrQ l d i b c a<=(xrK l d i b c a).length)&&true) (br ((xrI l d i b c a).isSome) (br (xrL l d i b c a==(xrJ l d i b c a).length&&(decide (xl2 l d i b c a*24<=140737488355328)&&decide (xl2 l d i b c a<=4611686018427387904))) (κl ((xrP l d i b c a).fst,(xrO l d i b c a).fst,xl2 l d i b c a,xrJ l d i b c a++[AV.list 3 ((xrI l d i b c a).getD [])])) δ) δ) δ) δ) δ) δ) (κr (b,c,a))
def xbY (l d:LA):StT (Int×LA×Nat×LA) (LA×Nat×LA):=fun (i,b,c,a)=>xjl l d i b c a none inL inR
def xyK:=xzx.l 116 0 [57,98] [(5,xl1.lp),(15,xl3.lp)] Tryz.f28 1 (lk1 xl3.ok) [2,6,9,10,12] [6,9] [(10,2,98),(9,1,57)] (q5 (qL 2) (xTF 0 0 0 0) (xTF 1 0 0 0) (qL 2) qI) (q3 (qB 0 2 49 (q1 (xTG (q2 pNils pNils)))) (xTH 0 2 49 false false (q1 (xTG (q2 (qL 1) (xTE 2 0 0))))) (qB 0 1 57 xTt)) (fun (l,_,_,d,i,_) (((_,_,_),_),((b,c,_),_),a,_)=>(xbY l d,(i,b,c,a),fun p=>(.leaf (.exit 2) [AV.own 0 0 0 0,AV.own 1 0 0 0] [bF 0 2 49 [AV.agg [AV.nils,AV.nils]],⟨0,2,49,[AV.agg [AV.list 1 p.1,AV.osl 2 0 0 p.2.1]],false,false⟩,bF 0 1 57 p.2.2]))) ([],0,[]) fun (l,_,_,d,_,_) _ (i,b,c,a)=>(((l,(),(),d,i,()),((((),(),()),()),((b,c,()),()),a,())),xjl l d i b c a none)
def xpq (b c a l:LA):=Iter (xdo a l) (0,0,b,c,((xbm b a l).getD ([],0)).fst,0,[],[])
def xpp (c a b l:LA):=(xpq c a b l).getD (0,[],0,[],[])
def xpn (c a b l:LA):=(xpp c a b l).snd
def xpo (c a b l:LA):=(xpp c a b l).fst
def xpl (c a b l:LA):=(xpn c a b l).snd
def xpm (c a b l:LA):=(xpn c a b l).fst
def xkA (c a b l:LA):=(xpl c a b l).fst
def xpk (c a b l:LA):=(xpl c a b l).snd
def xkw (c a b l:LA):=xkA c a b l+1
def xkz (c a b l:LA):=(xpk c a b l).snd
def xpj (c a b l:LA):=(xpk c a b l).fst
def xpi (c a b l:LA):=xcl 100 (List.take (xpo c a b l) (List.drop 0 (xpj c a b l)))
def xky (c a b l:LA):=(xpi c a b l).getD []
def xrk (c a b l:LA):=Iter (xbY l (xky c a b l)) (0,xpm c a b l,xkw c a b l,xkz c a b l++[AV.list 3 ((xtJ [] [] l).getD [])])
def xph (c a b l:LA):=Iter (xbY l (xky c a b l)) (0,xpm c a b l,xkA c a b l,xkz c a b l)
def xrj (c a b l:LA):=(xrk c a b l).getD ([],0,[])
def xpg (c a b l:LA):=(xph c a b l).getD ([],0,[])
def xri (c a b l:LA):=(xrj c a b l).snd
def xrn (c a b l:LA):=(xpg c a b l).snd
def xrg (c a b l:LA):=(xri c a b l).fst
def xrh (c a b l:LA):=(xri c a b l).snd
def xrl (c a b l:LA):=(xrn c a b l).fst
def xrm (c a b l:LA):=(xrn c a b l).snd
def xre (c a b l:LA):=xik (List.take (xrg c a b l) (List.drop 0 (xrh c a b l)))
def xrf (c a b l:LA):=xik (List.take (xrl c a b l) (List.drop 0 (xrm c a b l)))
def xpf {T:Type} (c a b l:LA) (δ:T) (κ:LA×LA->T):T:=br ((xph c a b l).isSome) (br (decide (0+xrl c a b l<=(xrm c a b l).length)&&true) (br ((xrf c a b l).isSome) (κ ((xpg c a b l).fst,(xrf c a b l).getD [])) δ) δ) δ
def xsF {T:Type} (c b a l:LA) (δ:T) (κ:LA×LA->T):T:=br ((xbm c a l).isSome) (br ((xpq c b a l).isSome) (br (decide (0+xpo c b a l<=(xpj c b a l).length)&&true) (br ((xpi c b a l).isSome) (br ((↑(xky c b a l).length:Int)==0) (br ((↑a.length:Int)==0) (br ((xtJ [] [] l).isSome) (br (xkA c b a l==(xkz c b a l).length&&(decide (xkw c b a l*24<=140737488355328)&&decide (xkw c b a l<=4611686018427387904))) (br ((xrk c b a l).isSome) (br (decide (0+xrg c b a l<=(xrh c b a l).length)&&true) (br ((xre c b a l).isSome) (κ ((xrj c b a l).fst,(xre c b a l).getD [])) δ) δ) δ) δ) δ) (xpf c b a l δ κ)) (xpf c b a l δ κ)) δ) δ) δ) δ
def xi5 (c a b l:LA):=xsF c a b l none some
def xLr:EO:=xzx.f Tryz.func28 116 0 [57,98] [(5,xl1.lp),(15,xl3.lp),(12,xyK.lp)] (lks (lkC xl1.ok (lkC xyK.ok (lkC xl3.ok lkN)))) (u3 (xTJ (u2 (uL 1) (uL 1))) (uL 1) (uL 2)) (fun ((c,a,_),b,l,_) _=>xsF c a b l) (fun _ p=>AV.agg [AV.list 1 p.1,AV.list 1 p.2]) ([],[])
def xo9 {T:Type} (k l:Int) (f:LA) (m d:Int) (g h i j:LA) (e c b:Nat) (a:LA) (δ:T) (κl:(Int×LA×LA×LA×LA×Nat×Nat×Nat×LA)->T) (κr:(LA×LA×LA×LA×Nat×Nat×LA×Nat)->T):T:=br (decide (d<m)) (br (ixI f d) (br (ixS f d (Sh.list 3) 0) (br (b==c&&(rmB e a 1 40)) (κl (i64.wrap (d+1),g,h,i,j,e+1,c+1,c+1,a++[AV.agg [AV.list 3 (gC f d 0).toList,AV.int .i64 k,AV.int .i64 l]])) δ) δ) δ) (κr (g,h,i,j,c,e,a,b))
def xdP (c d:Int) (k:LA) (l:Int):StT (Int×LA×LA×LA×LA×Nat×Nat×Nat×LA) (LA×LA×LA×LA×Nat×Nat×LA×Nat):=fun (m,e,f,g,h,i,j,a,b)=>xo9 c d k l m e f g h i j a b none inL inR
def xza:=xLk.l 30 5 [1000035,59] [] Tryz.f42 0 lk0 [5,6,17,18,19] [] [] (q5 (xTF 3 0 0 0) (pEptr 2 0 0 (q1 (xTG (q2 qI qI)))) (qL 1) qI qI) (q5 (qB 0 2 25 (q1 (xTG (q2 (qL 1) (qL 3))))) (qB 0 1 22 (q1 (qL 1))) (qB 0 1 26 (q1 (qL 2))) (xTH 0 1 23 false false (q1 (pOslV 4 0))) (pBoxV 3 59 false true xTt)) (fun (_,((c,d,_),_),k,m,n,_) (((e,f,_),_),(g,_),(h,_),((i,j),_),(a,b),_)=>(xdP c d k m,(n,e,f,g,h,j,i,a,b),fun p=>(.leaf (.exit 0) [] [bF 0 2 25 [AV.agg [AV.list 1 p.1,AV.list 3 p.2.1]],bF 0 1 22 [AV.list 1 p.2.2.1],bF 0 1 26 [AV.list 2 p.2.2.2.1],⟨0,1,23,[AV.osl 4 p.2.2.2.2.1 0 p.2.2.2.2.2.1],false,false⟩,bF p.2.2.2.2.2.2.2 3 59 p.2.2.2.2.2.2.1]))) ([],[],[],[],0,0,[],0) fun (_,((c,d,_),_),k,m,_,_) _ (n,e,f,g,h,j,i,a,b)=>((((),((c,d,()),()),k,m,n,()),(((e,f,()),()),(g,()),(h,()),((i,j),()),(a,b),())),xo9 c d k m n e f g h j i a b none)
def xyd (f t:Int) (a b e c d:LA) (v n g:Nat) (h:LA):=Iter (xdP f t ((xbU b a c d).getD ([],[])).snd (↑((xbU b a c d).getD ([],[])).snd.length:Int)) (0,b,e,c,d,n,v,g,h)
def xyc (f t:Int) (a b c d e:LA) (v n g:Nat) (h:LA):=(xyd f t a b c d e v n g h).getD ([],[],[],[],0,0,[],0)
def xyb (f t:Int) (a b c d e:LA) (v n g:Nat) (h:LA):=(xyc f t a b c d e v n g h).snd
def xya (f t:Int) (a b c d e:LA) (v n g:Nat) (h:LA):=(xyb f t a b c d e v n g h).snd
def xw9 (f t:Int) (a b c d e:LA) (v n g:Nat) (h:LA):=(xya f t a b c d e v n g h).snd
def xw8 (f t:Int) (a b c d e:LA) (v n g:Nat) (h:LA):=(xw9 f t a b c d e v n g h).snd
def xw7 (f t:Int) (a b c d e:LA) (v n g:Nat) (h:LA):=(xw8 f t a b c d e v n g h).snd
def xw6 (f t:Int) (a b c d e:LA) (v n g:Nat) (h:LA):=(xw7 f t a b c d e v n g h).snd
def xzb {T:Type} (f t:Int) (a b e c d:LA) (v n g:Nat) (h:LA) (δ:T) (κ:LA×LA×LA×LA×Nat×Nat×LA×Nat->T):T:=br ((xbU b a c d).isSome) (br ((xyd f t a b e c d v n g h).isSome) (κ ((xyc f t a b e c d v n g h).fst,(xyb f t a b e c d v n g h).fst,(xya f t a b e c d v n g h).fst,(xw9 f t a b e c d v n g h).fst,(xw8 f t a b e c d v n g h).fst,(xw7 f t a b e c d v n g h).fst,(xw6 f t a b e c d v n g h).fst,(xw6 f t a b e c d v n g h).snd)) δ) δ
def xyQ (f t:Int) (a b c d e:LA) (v n g:Nat) (h:LA):=xzb f t a b c d e v n g h none some
def xB5:EO:=xLk.fM Tryz.func42 30 5 [1000035,59] [(2,xza.lp)] (lk1 xza.ok) (u6 (xTJ (u2 uI uI)) (uL 1) (sEq (xTF 0 0 0 0)) (sEq (xTF 1 0 0 0)) (sEq (xTF 2 0 0 0)) (sEq (xTF 3 0 0 0))) (q5 (qB 0 2 25 (q1 (xTG (q2 (qL 1) (qL 3))))) (qB 0 1 22 (q1 (qL 1))) (qB 0 1 26 (q1 (qL 2))) (xTH 0 1 23 false false (q1 (pOslV 4 0))) (pBoxV 3 (59:TypeId) false true xTt)) (fun ((f,t,_),a,_,_,_,_,_) (((b,c,_),_),(d,_),(e,_),((v,n),_),(g,h),_) _=>xzb f t a b c d e v n g h) (fun _ _ p=>(AV.tuple [],([bF 0 2 25 [AV.agg [AV.list 1 p.1,AV.list 3 p.2.1]],bF 0 1 22 [AV.list 1 p.2.2.1],bF 0 1 26 [AV.list 2 p.2.2.2.1],⟨0,1,23,[AV.osl 4 p.2.2.2.2.1 0 p.2.2.2.2.2.1],false,false⟩,bF p.2.2.2.2.2.2.2 3 59 p.2.2.2.2.2.2.1]:List Box))) ([],[],[],[],0,0,[],0)
def xfA (l c e:LA) (d:Int) (f g h i:LA) (j k a:Nat) (b:LA):=xyQ (gC e d 0).toInt ((c.getD (i64.wrap (d+1)).toNat .top).cells.getD 0 .top).toInt ((xe3 l (gC e d 0).toInt).getD []) f g h i k j a b
def xfB (l c:LA) (d:Int) (e f g h:LA) (i j a:Nat) (b:LA):=xyQ (gC c d 0).toInt 1099511627776 ((xe3 l (gC c d 0).toInt).getD []) e f g h j i a b
def xfC (a:LA) (b:Int):=decide (i64.wrap (b+1)<(↑a.length:Int))
def xfw (l c j:LA) (k:Int) (d e f g:LA) (h i a:Nat) (b:LA):=(xfA l c j k d e f g h i a b).getD ([],[],[],[],0,0,[],0)
def xfz (l i:LA) (j:Int) (c d e f:LA) (g h a:Nat) (b:LA):=(xfB l i j c d e f g h a b).getD ([],[],[],[],0,0,[],0)
def xfT (l c j:LA) (k:Int) (d e f g:LA) (h i a:Nat) (b:LA):=(xfw l c j k d e f g h i a b).snd
def xfy (l i:LA) (j:Int) (c d e f:LA) (g h a:Nat) (b:LA):=(xfz l i j c d e f g h a b).snd
def xfR (l c j:LA) (k:Int) (d e f g:LA) (h i a:Nat) (b:LA):=(xfT l c j k d e f g h i a b).snd
def xfv (l i:LA) (j:Int) (c d e f:LA) (g h a:Nat) (b:LA):=(xfy l i j c d e f g h a b).snd
def xfN (l c j:LA) (k:Int) (d e f g:LA) (h i a:Nat) (b:LA):=(xfR l c j k d e f g h i a b).snd
def xfS (l i:LA) (j:Int) (c d e f:LA) (g h a:Nat) (b:LA):=(xfv l i j c d e f g h a b).snd
def xfM (l c j:LA) (k:Int) (d e f g:LA) (h i a:Nat) (b:LA):=(xfN l c j k d e f g h i a b).snd
def xfQ (l i:LA) (j:Int) (c d e f:LA) (g h a:Nat) (b:LA):=(xfS l i j c d e f g h a b).snd
def xfL (l c j:LA) (k:Int) (d e f g:LA) (h i a:Nat) (b:LA):=(xfM l c j k d e f g h i a b).snd
def xfP (l i:LA) (j:Int) (c d e f:LA) (g h a:Nat) (b:LA):=(xfQ l i j c d e f g h a b).snd
def xfK (l c j:LA) (k:Int) (d e f g:LA) (h i a:Nat) (b:LA):=(xfL l c j k d e f g h i a b).snd
def xfO (l i:LA) (j:Int) (c d e f:LA) (g h a:Nat) (b:LA):=(xfP l i j c d e f g h a b).snd
def xeF {T:Type} (l d k:LA) (m c:Int) (e f g h:LA) (i j a:Nat) (b:LA) (δ:T) (κl:(Int×LA×LA×LA×LA×Nat×Nat×Nat×LA)->T) (κr:(LA×LA×LA×LA×Nat×Nat×LA×Nat)->T):T:=br (decide (c<m)) (br (ixI k c) (br (ixS k c (Sh.int .i64) 0) (br (xfC d c) (br (decide (0<=i64.wrap (c+1))&&xfC d c) (br (decide ((i64.wrap (c+1)).toNat<d.length)&&xSG (Sh.int .i64) ((d.getD (i64.wrap (c+1)).toNat .top).cells.getD 0 .top)) (br ((xe3 l (gC k c 0).toInt).isSome) (br ((xfA l d k c e f g h i j a b).isSome) (κl (i64.wrap (c+1),(xfw l d k c e f g h i j a b).fst,(xfT l d k c e f g h i j a b).fst,(xfR l d k c e f g h i j a b).fst,(xfN l d k c e f g h i j a b).fst,(xfL l d k c e f g h i j a b).fst,(xfM l d k c e f g h i j a b).fst,(xfK l d k c e f g h i j a b).snd,(xfK l d k c e f g h i j a b).fst)) δ) δ) δ) δ) (br ((xe3 l (gC k c 0).toInt).isSome) (br ((xfB l k c e f g h i j a b).isSome) (κl (i64.wrap (c+1),(xfz l k c e f g h i j a b).fst,(xfy l k c e f g h i j a b).fst,(xfv l k c e f g h i j a b).fst,(xfS l k c e f g h i j a b).fst,(xfP l k c e f g h i j a b).fst,(xfQ l k c e f g h i j a b).fst,(xfO l k c e f g h i j a b).snd,(xfO l k c e f g h i j a b).fst)) δ) δ)) δ) δ) (κr (e,f,g,h,j,i,b,a))
def xbK (l c j:LA) (k:Int):StT (Int×LA×LA×LA×LA×Nat×Nat×Nat×LA) (LA×LA×LA×LA×Nat×Nat×LA×Nat):=fun (m,d,e,f,g,h,i,a,b)=>xeF l c j k m d e f g h i a b none inL inR
def xpJ:=xB5.l 36 5 [] [] Tryz.f41 0 lk0 [0,1,4,10,11,12] [] [] (q6 (qL 3) (xS4 42 (q4 (xTF 0 0 0 0) (xTF 1 0 0 0) (xTF 2 0 0 0) (xTF 3 0 0 0))) (qL 1) (qL 1) qI qI) (q5 (qB 0 2 25 (q1 (xTG (q2 (qL 1) (qL 3))))) (qB 0 1 22 (q1 (qL 1))) (qB 0 1 26 (q1 (qL 2))) (xTH 0 1 23 false false (q1 (pOslV 4 0))) (pBoxV 3 59 false true xTt)) (fun (l,(_,_,_,_,_),c,j,k,m,_) (((d,e,_),_),(f,_),(g,_),((h,i),_),(a,b),_)=>(xbK l c j k,(m,d,e,f,g,i,h,a,b),fun p=>(.leaf (.exit 0) [] [bF 0 2 25 [AV.agg [AV.list 1 p.1,AV.list 3 p.2.1]],bF 0 1 22 [AV.list 1 p.2.2.1],bF 0 1 26 [AV.list 2 p.2.2.2.1],⟨0,1,23,[AV.osl 4 p.2.2.2.2.1 0 p.2.2.2.2.2.1],false,false⟩,bF p.2.2.2.2.2.2.2 3 59 p.2.2.2.2.2.2.1]))) ([],[],[],[],0,0,[],0) fun (l,(_,_,_,_,_),c,j,k,_,_) _ (m,d,e,f,g,i,h,a,b)=>(((l,((),(),(),(),()),c,j,k,m,()),(((d,e,()),()),(f,()),(g,()),((h,i),()),(a,b),())),xeF l c j k m d e f g i h a b none)
def xdI:Env:=xB5.E.fn 36 5 (lsOf []) (xS3 [(2,xpJ.lp)])
theorem xzc:xSI P0 (xTo.at 5) xdI:=xB5.ok.fn
theorem xye:LoOk P0 (xTo.at xdI.pin) xdI (Tryz.f41.body.getD .skip):=xgL (ls:=[xSM Tryz.f41 0]) (by kernel_rfl) (lkC xpJ.ok lkN)
def xmC (l a b c d:LA) (v n e:Nat) (f:LA):=Iter (xbK l ((xho l).getD []) ((xho l).getD []) (↑((xho l).getD []).length:Int)) (0,a,b,c,d,n,v,e,f)
def xmB (l a b c d:LA) (v n e:Nat) (f:LA):=(xmC l a b c d v n e f).getD ([],[],[],[],0,0,[],0)
def xmA (l a b c d:LA) (v n e:Nat) (f:LA):=(xmB l a b c d v n e f).snd
def xmz (l a b c d:LA) (v n e:Nat) (f:LA):=(xmA l a b c d v n e f).snd
def xmy (l a b c d:LA) (v n e:Nat) (f:LA):=(xmz l a b c d v n e f).snd
def xmw (l a b c d:LA) (v n e:Nat) (f:LA):=(xmy l a b c d v n e f).snd
def xmv (l a b c d:LA) (v n e:Nat) (f:LA):=(xmw l a b c d v n e f).snd
def xmu (l a b c d:LA) (v n e:Nat) (f:LA):=(xmv l a b c d v n e f).snd
def xib {T:Type} (l a b c d:LA) (v n e:Nat) (f:LA) (δ:T) (κ:LA×LA×LA×LA×Nat×Nat×LA×Nat->T):T:=br ((xho l).isSome) (br ((xmC l a b c d v n e f).isSome) (κ ((xmB l a b c d v n e f).fst,(xmA l a b c d v n e f).fst,(xmz l a b c d v n e f).fst,(xmy l a b c d v n e f).fst,(xmw l a b c d v n e f).fst,(xmv l a b c d v n e f).fst,(xmu l a b c d v n e f).fst,(xmu l a b c d v n e f).snd)) δ) δ
def xfg (l a b c d:LA) (v n e:Nat) (f:LA):=xib l a b c d v n e f none some
theorem xBf (l a b c d:LA) (v n e:Nat) (xs:LA):Enc (fun (p:LA×LA×LA×LA×Nat×Nat×LA×Nat)=>(((AV.tuple [],([⟨0,2,25,[AV.agg [AV.list 1 p.1,AV.list 3 p.2.1]],false,true⟩,⟨0,1,22,[AV.list 1 p.2.2.1],false,true⟩,⟨0,1,26,[AV.list 2 p.2.2.2.1],false,true⟩,⟨0,1,23,[AV.osl 4 p.2.2.2.2.1 0 p.2.2.2.2.2.1],false,false⟩,⟨p.2.2.2.2.2.2.2,3,59,p.2.2.2.2.2.2.1,false,true⟩]:List Box))):(AV×List Box))) (xfg l a b c d v n e xs) (XFM P0 xdI Tryz.f41 (Tryz.f41.body.getD .skip) [AV.list 3 l,AV.func (42:FuncId) [AV.own (0:Id) 0 0 0,AV.own (1:Id) 0 0 0,AV.own (2:Id) 0 0 0,AV.own (3:Id) 0 0 0]] [{ ver:=0,sz:=2,ty:=(25:TypeId),xs:=[AV.agg [AV.list 1 a,AV.list 3 b]],frz:=false,pm:=true },{ ver:=0,sz:=1,ty:=(22:TypeId),xs:=[AV.list 1 c],frz:=false,pm:=true },{ ver:=0,sz:=1,ty:=(26:TypeId),xs:=[AV.list 2 d],frz:=false,pm:=true },{ ver:=0,sz:=1,ty:=(23:TypeId),xs:=[AV.osl (4:Id) v 0 n],frz:=false,pm:=false },{ ver:=e,sz:=3,ty:=(59:TypeId),xs:=xs,frz:=false,pm:=true }]):=by
 have h:XFM P0 xdI Tryz.f41 (Tryz.f41.body.getD .skip) [AV.list 3 l,AV.func (42:FuncId) [AV.own (0:Id) 0 0 0,AV.own (1:Id) 0 0 0,AV.own (2:Id) 0 0 0,AV.own (3:Id) 0 0 0]] [{ ver:=0,sz:=2,ty:=(25:TypeId),xs:=[AV.agg [AV.list 1 a,AV.list 3 b]],frz:=false,pm:=true },{ ver:=0,sz:=1,ty:=(22:TypeId),xs:=[AV.list 1 c],frz:=false,pm:=true },{ ver:=0,sz:=1,ty:=(26:TypeId),xs:=[AV.list 2 d],frz:=false,pm:=true },{ ver:=0,sz:=1,ty:=(23:TypeId),xs:=[AV.osl (4:Id) v 0 n],frz:=false,pm:=false },{ ver:=e,sz:=3,ty:=(59:TypeId),xs:=xs,frz:=false,pm:=true }]=xib l a b c d v n e xs none (fun (p:LA×LA×LA×LA×Nat×Nat×LA×Nat)=>some (((AV.tuple [],([⟨0,2,25,[AV.agg [AV.list 1 p.1,AV.list 3 p.2.1]],false,true⟩,⟨0,1,22,[AV.list 1 p.2.2.1],false,true⟩,⟨0,1,26,[AV.list 2 p.2.2.2.1],false,true⟩,⟨0,1,23,[AV.osl 4 p.2.2.2.2.1 0 p.2.2.2.2.2.1],false,false⟩,⟨p.2.2.2.2.2.2.2,3,59,p.2.2.2.2.2.2.1,false,true⟩]:List Box))):(AV×List Box))):=by kernel_rfl
 rw [h];unfold xfg xib;repeat' (first|refine Enc.br ?_ ?_|exact Enc.none|exact Enc.some rfl)
end Go.Sim.M
end
noncomputable section
set_option maxRecDepth 100000
namespace Go.Sim
open Go.RowKit
theorem GoodM.aged1 {P:Program} {Inv:IV} {f:FuncId} {Z:List AV} {H:List Box} {b0 b1 b2:Box} {v4 k4 t3 t4 s4:Nat} {Y:List AV} (au:∀ bx,H[4]?=some bx->bx.ver=0)
  (p0:isC b0.ty=false) (p1:isC b1.ty=false) (p2:isC b2.ty=false) (p3:isC t3=false) (p4:isC t4=false) (q0:b0.pm=true) (q1:b1.pm=true) (q2:b2.pm=true)
  (h:GoodM P Inv f Z H (.tuple []) [b0,b1,b2,⟨0,1,t3,[.osl (.b 4) v4 0 k4],false,false⟩,⟨v4,s4,t4,Y,false,true⟩]) :
  GoodM P Inv f Z H (.tuple []) [b0,b1,b2,⟨0,1,t3,[.osl (.b 4) 1 0 k4],false,false⟩,⟨1,s4,t4,Y,false,true⟩]:=by
 refine ⟨h.1,fun w0 w A M vs hI hB hR ao=>(h.2 w0 w A M vs hI hB hR ao).mono ?_⟩
 rintro e w' ⟨u,A',M',rfl,h1,h2,h3,h4,h5⟩;let M'':Id->Option MB:=fun id=>if id=.b 4 then (M' id).map fun m=>⟨m.b,1,m.sz,m.cap,m.ty⟩ else M' id
 have e4:∀ m,M' (.b 4)=some m->M'' (.b 4)=some ⟨m.b,1,m.sz,m.cap,m.ty⟩:=fun m hm=>by simp [M'',hm]
 have eo:∀ id,id≠.b 4->M'' id=M' id:=fun id g1=>by
  show (if _ then _ else _)=_
  rw [if_neg g1]
 have V:∀ id m1,M'' id=some m1->∃ m0,M' id=some m0/\m1.b=m0.b/\m1.cap=m0.cap/\m1.sz=m0.sz/\m1.ty=m0.ty:=fun id m1 J=>by
  by_cases g3:id=.b 4
  . subst g3;cases hm:M' (.b 4) with
    | none=>simp [M'',hm] at J
    | some m=>rw [e4 m hm] at J;simp only [z6] at J;subst J;exact ⟨m,rfl,rfl,rfl,rfl,rfl⟩
  . rw [eo id g3] at J;exact ⟨m1,J,rfl,rfl,rfl,rfl⟩
 have ae:∀ (n v k:Nat) (c:Value) (m:MB),M' (.b n)=some m->M'' (.b n)=some ⟨m.b,1,m.sz,m.cap,m.ty⟩->v=m.ver->Rel w' A' M' c (.osl (.b n) v 0 k)->Rel w' A' M'' c (.osl (.b n) 1 0 k):=fun n v k c m hm af hv hr=>by
  obtain ⟨m0,g1,g2,g3,g4⟩:=Rel.osl_inv hr;rw [hm] at g1;simp only [z6] at g1;subst g1;exact .osl c (.b n) 1 0 k _ af (zd _) g3 fun _=>g4 hv
 have Q:∀ (n:Nat) (bx:Box) (m:MB),([b0,b1,b2,⟨0,1,t3,[.osl (.b 4) v4 0 k4],false,false⟩,⟨v4,s4,t4,Y,false,true⟩]:List Box)[n]?=some bx->M' (.b n)=some m->BoxAt w' A' M' w0.heap.size (.b n) m bx:=fun n bx m hn hm=>by
  obtain ⟨bx',g1,g2⟩:=h4.box _ m hm;rw [xb6,hn] at g1;simp only [z6] at g1;subst g1;exact g2
 have U:∀ (id:Id) (bx:Box) (m:MB) (v:Nat),isC bx.ty=false->bx.pm=true->BoxAt w' A' M' w0.heap.size id m bx->BoxAt w' A' M'' w0.heap.size id ⟨m.b,v,m.sz,m.cap,m.ty⟩ ⟨v,bx.sz,bx.ty,bx.xs,bx.frz,bx.pm⟩:=fun id bx m v O hp g=>by
  have W:xSK m.ty=false:=g.nomap (xbb O);refine ⟨rfl,g.sz,g.ty,g.capm,g.fits,g.ok,g.low,g.lt,fun h0=>?_,g.guard⟩
  obtain ⟨c,c1,c2,c3⟩:=g.cells h0;refine ⟨c,.of W (c1.plain W),c2,fun i j hi hj=>?_⟩
  have:=c3 i j hi hj;rw [xaR O,xa6 O,hp] at this;rw [xaR O,xa6 (bx:=⟨v,bx.sz,bx.ty,bx.xs,bx.frz,bx.pm⟩) O];show Rel w' A' (MP M'' bx.pm) _ _;rw [hp];exact this
 have ag:∀ (n n2 v k t:Nat) (m m2:MB),isC t=false->BoxAt w' A' M' w0.heap.size (.b n) m ⟨0,1,t,[.osl (.b n2) v 0 k],false,false⟩->M' (.b n2)=some m2->M'' (.b n2)=some ⟨m2.b,1,m2.sz,m2.cap,m2.ty⟩->v=m2.ver ->
   BoxAt w' A' M'' w0.heap.size (.b n) m ⟨0,1,t,[.osl (.b n2) 1 0 k],false,false⟩:=fun n n2 v k t m m2 O g aq aa hv=>by
  have W:xSK m.ty=false:=g.nomap (xbb O);have hsz:m.sz=1:=g.sz.symm;refine ⟨g.ver,g.sz,g.ty,g.capm,g.fits,fun y hy=>?_,g.low,g.lt,fun h0=>?_,g.guard⟩
  . simp only [zv] at hy;subst hy;rw [hsz];rfl
  . obtain ⟨c,c1,c2,c3⟩:=g.cells h0;refine ⟨c,.of W (c1.plain W),c2,fun i j hi hj=>?_⟩
    have am:i=0:=by simpa using hi
    have al:j=0:=by omega
    subst am al;have:=c3 0 0 (by simp) hj
    rw [xaR O,xa6 O] at this;rw [xaR O,xa6 (bx:=⟨0,1,t,[.osl (.b n2) 1 0 k],false,false⟩) O];exact ae n2 v k _ m2 aq aa hv this
 have ai:∀ m,M (.b 4)=some m->m.ver=0:=fun m hm=>by
  obtain ⟨bx,g1,g2⟩:=hR.box _ m hm;rw [<-g2.ver];exact au bx g1
 have ac:∀ m,M' (.b 4)=some m->v4=m.ver:=fun m hm=>(Q 4 _ m rfl hm).ver
 have ad:∀ n i j m,M' (.r n i j)=some m->BoxAt w' A' M' w0.heap.size (.r n i j) m tombB/\n<5:=fun n i j m hm=>by
  obtain ⟨bx,g1,g2⟩:=h4.box _ m hm;obtain ⟨c0,q1,_⟩:=xr6 g1;have hn:n<5:=by
   have:=xcQ q1;simpa using this
  have hp:isC c0.ty=false:=by
   match n,hn with
   | 0,_=>simp only [zY,z6] at q1;subst q1;exact p0
   | 1,_=>simp only [zY,zZ,z6] at q1;subst q1;exact p1
   | 2,_=>simp only [zY,zZ,z6] at q1;subst q1;exact p2
   | 3,_=>simp only [zY,zZ,z6] at q1;subst q1;exact p3
   | 4,_=>simp only [zY,zZ,z6] at q1;subst q1;exact p4
  rw [xbA q1 hp] at g1;simp only [z6] at g1;subst g1;exact ⟨g2,hn⟩
 have ab:∀ (n:Nat) (bx:Box) (m:MB),isC bx.ty=false->bx.pm=true->BoxAt w' A' M' w0.heap.size (.b n) m bx->BoxAt w' A' M'' w0.heap.size (.b n) m bx:=fun n bx m O ar q=>by
  have:=U (.b n) bx m m.ver O ar q;exact ⟨q.ver,this.sz,this.ty,this.capm,this.fits,this.ok,this.low,this.lt,this.cells,this.guard⟩
 have hR':HR w' A' M'' w0.heap.size [b0,b1,b2,⟨0,1,t3,[.osl (.b 4) 1 0 k4],false,false⟩,⟨1,s4,t4,Y,false,true⟩]:=by
  refine ⟨fun id m1 J=>?_,fun id id' m1 m2 k1 k2 c1 c2 he=>?_,h4.lt⟩
  . obtain ⟨m0,g1,g2,g3,g4,g5⟩:=V id m1 J;cases id with
    | r n i j =>
     rw [eo (.r n i j) (fun e=>by cases e),g1] at J
     simp only [z6] at J;subst J;obtain ⟨q1,q2⟩:=ad n i j _ g1;refine ⟨tombB,?_,?_⟩
     . match n,q2 with
       | 0,_=>exact xbA rfl p0
       | 1,_=>exact xbA rfl p1
       | 2,_=>exact xbA rfl p2
       | 3,_=>exact xbA rfl p3
       | 4,_=>exact xbA rfl p4
     . have:=U (.r n i j) tombB m0 m0.ver rfl rfl q1;exact ⟨q1.ver,this.sz,this.ty,this.capm,this.fits,this.ok,this.low,this.lt,this.cells,this.guard⟩
    | b n =>
     have hn:n<5:=by
      obtain ⟨bx,q1,_⟩:=h4.box _ m0 g1;have:=xcQ q1;simpa using this
     match n,hn with
     | 0,_ =>
      rw [eo (.b 0) (fun e=>by cases e),g1] at J
      simp only [z6] at J;subst J;exact ⟨b0,rfl,ab 0 b0 _ p0 q0 (Q 0 _ _ rfl g1)⟩
     | 1,_ =>
      rw [eo (.b 1) (fun e=>by cases e),g1] at J
      simp only [z6] at J;subst J;exact ⟨b1,rfl,ab 1 b1 _ p1 q1 (Q 1 _ _ rfl g1)⟩
     | 2,_ =>
      rw [eo (.b 2) (fun e=>by cases e),g1] at J
      simp only [z6] at J;subst J;exact ⟨b2,rfl,ab 2 b2 _ p2 q2 (Q 2 _ _ rfl g1)⟩
     | 3,_ =>
      rw [eo (.b 3) (fun e=>by cases e),g1] at J
      simp only [z6] at J;subst J;have q:=Q 3 _ m0 rfl g1;have hc:0<m0.cap:=Nat.lt_of_lt_of_le Nat.zero_lt_one q.fits;obtain ⟨c,c1,c2,c3⟩:=q.cells hc;have hr:=c3 0 0 (by simp) (by rw [<-q.sz];exact Nat.zero_lt_one)
      rw [xaR p3,xa6 (bx:=⟨0,1,t3,[.osl (.b 4) v4 0 k4],false,false⟩) p3] at hr;have hr:Rel w' A' M' _ (.osl (.b 4) v4 0 k4):=hr;obtain ⟨m4,a1,_⟩:=Rel.osl_inv hr;exact ⟨_,rfl,ag 3 4 v4 k4 t3 m0 m4 p3 q a1 (e4 m4 a1) (ac m4 a1)⟩
     | 4,_ =>
      rw [e4 m0 g1] at J;simp only [z6] at J;subst J;exact ⟨_,rfl,U (.b 4) _ m0 1 p4 rfl (Q 4 _ m0 rfl g1)⟩
  . obtain ⟨n1,a1,a2,a3,_⟩:=V id m1 k1;obtain ⟨n2,aj,an,aw,_⟩:=V id' m2 k2;exact h4.inj id id' n1 n2 a1 aj (by omega) (by omega) (by rw [<-a2,<-an,he])
 refine ⟨u,A',M'',rfl,h1,h2,⟨h3.size,h3.keep,h3.less,h3.more,fun id m ap hm=>?_,fun id m1 J h0=>?_⟩,hR',?_⟩
 . obtain ⟨m',g1,g2⟩:=h3.ids id m ap hm;by_cases q4:id=.b 4
   . subst q4;exact ⟨_,e4 m' g1,.inr (by have:m.ver=0:=ai m hm;show m.ver<1;omega)⟩
   . exact ⟨m',by rw [eo id q4];exact g1,g2⟩
 . obtain ⟨m0,g1,g2,g3,_⟩:=V id m1 J;rw [g2];exact h3.src id m0 g1 (by omega)
 . obtain ⟨ah,rfl,q1,_⟩:=h5.tuple_inv;exact .tuple ah [] q1 (by simp)
namespace M
open Go.Proofs
noncomputable def gset (l kd fs ks ag:List AV) (n:Nat) (xs:List AV):Option (List AV×List AV×List AV×List AV×Nat×List AV):=(xfg l kd fs ks ag 0 n 0 xs).bind fun p =>
 br (Nat.beq p.2.2.2.2.1 p.2.2.2.2.2.2.2) (some (p.1,p.2.1,p.2.2.1,p.2.2.2.1,p.2.2.2.2.2.1,p.2.2.2.2.2.2.1)) none
noncomputable def xL7:List AV->List Box->Option (Bool×AV×List Box):=omOf (xTq (xTI 3 xTt) (xTq (sEq (xS4 42 (xTp (xTF 0 0 0 0) (xTp (xTF 1 0 0 0) (xTp (xTF 2 0 0 0) (xTp (xTF 3 0 0 0) xTr)))))) xTs))
 (xTp (xTH 0 2 25 false true (xTp (xTG (xTp (xTK 1 xTt) (xTp (xTK 3 xTt) xTr))) xTr)) (xTp (xTH 0 1 22 false true (xTp (xTK 1 xTt) xTr)) (xTp (xTH 0 1 26 false true (xTp (xTK 2 xTt) xTr)) (xTp (xTH 0 1 23 false false (xTp (xTE 4 0 0) xTr)) (xTp (xTH 0 3 59 false true xTt) xTr)))))
 fun (l,((_,(_,(_,(_,_)))),_)) (((kd,(fs,_)),_),((ks,_),((ag,_),((n,_),(xs,_)))))=>((gset l kd fs ks ag n xs).isSome,(.tuple [],[⟨0,2,25,[.agg [.list 1 ((gset l kd fs ks ag n xs).getD ([],[],[],[],0,[])).1,.list 3 ((gset l kd fs ks ag n xs).getD ([],[],[],[],0,[])).2.1]],false,true⟩,⟨0,1,22,[.list 1 ((gset l kd fs ks ag n xs).getD ([],[],[],[],0,[])).2.2.1],false,true⟩,⟨0,1,26,[.list 2 ((gset l kd fs ks ag n xs).getD ([],[],[],[],0,[])).2.2.2.1],false,true⟩,⟨0,1,23,[.osl (.b 4) 1 0 ((gset l kd fs ks ag n xs).getD ([],[],[],[],0,[])).2.2.2.2.1],false,false⟩,⟨1,3,59,((gset l kd fs ks ag n xs).getD ([],[],[],[],0,[])).2.2.2.2.2,false,true⟩]))
theorem xQw:OmOk P0 xTo 41 xL7:=xra fun vv bb rr V hh=>by
 obtain ⟨l,⟨⟨_,⟨_,⟨_,⟨_,_⟩⟩⟩⟩,_⟩⟩:=vv;obtain ⟨⟨⟨kd,⟨fs,_⟩⟩,_⟩,⟨⟨ks,_⟩,⟨⟨ag,_⟩,⟨⟨n,_⟩,⟨xs,_⟩⟩⟩⟩⟩:=bb;obtain ⟨q,O⟩:=Prod.mk.inj hh;cases hs:xfg l kd fs ks ag 0 n 0 xs with
 | none=>rw [show gset l kd fs ks ag n xs=none by unfold gset;rw [hs];rfl] at q;simp at q
 | some p =>
  have J:gset l kd fs ks ag n xs=br (Nat.beq p.2.2.2.2.1 p.2.2.2.2.2.2.2) (some (p.1,p.2.1,p.2.2.1,p.2.2.2.1,p.2.2.2.2.2.1,p.2.2.2.2.2.2.1)) none:=by unfold gset;rw [hs];rfl
  cases ht:Nat.beq p.2.2.2.2.1 p.2.2.2.2.2.2.2 with
  | false=>rw [J,ht] at q;simp [br] at q
  | true =>
   rw [ht] at J;have Q:gset l kd fs ks ag n xs=some (p.1,p.2.1,p.2.2.1,p.2.2.2.1,p.2.2.2.2.2.1,p.2.2.2.2.2.2.1):=J;rw [Q] at O;simp only [zh] at O;have e1:=zg ht;have hx:=xBf l kd fs ks ag 0 n 0 xs p hs;have hg:GoodM P0 xTo 41 _ _ _ _:=xi3 (p:=xdI.pin) (xkh xSR (xSS P0 _) rfl xzc rfl Tryz.func41 rfl (by kernel_rfl) xye hx)
   rw [<-e1] at hg;have U:=GoodM.aged1 (fun bx hb=>by simp only [zY,zZ,z6] at hb;subst hb;rfl) rfl rfl rfl rfl rfl rfl rfl rfl hg
   obtain ⟨rfl,rfl⟩:=Prod.mk.inj O;exact U
noncomputable def EGset:Env:=xB5.E.withM 41 xL7
theorem xGE:xSI P0 xTo EGset:=xB5.ok.withM xQw
noncomputable def xGD:EO:=EO.mk EGset xGE
end M
end Go.Sim
end
noncomputable section
set_option maxRecDepth 100000
namespace Go.Sim.M
open Go.IntKind (i64 u64 u8)
open Go.RowKit Go.Proofs
def xmt (d:LA) (e:Int) (f g b h:LA) (c:Nat) (a:LA):=(gset (gC d e 0).toList f g b h c a).getD ([],[],[],[],0,[])
def xms (d:LA) (e:Int) (f g b h:LA) (c:Nat) (a:LA):=(xmt d e f g b h c a).snd
def xmr (d:LA) (e:Int) (f g b h:LA) (c:Nat) (a:LA):=(xms d e f g b h c a).snd
def xmq (d:LA) (e:Int) (f g b h:LA) (c:Nat) (a:LA):=(xmr d e f g b h c a).snd
def xmp (d:LA) (e:Int) (f g b h:LA) (c:Nat) (a:LA):=(xmq d e f g b h c a).snd
def xia {T:Type} (e:LA) (i d:Int) (f g b h:LA) (c:Nat) (a:LA) (δ:T) (κl:(Int×LA×LA×LA×LA×Nat×LA)->T) (κr:(LA×LA×LA×LA×Nat×LA)->T):T:=br (decide (d<i)) (br (ixI e d) (br (ixS e d (Sh.list 3) 0) (br ((gset (gC e d 0).toList f g b h c a).isSome) (κl (i64.wrap (d+1),(xmt e d f g b h c a).fst,(xms e d f g b h c a).fst,(xmr e d f g b h c a).fst,(xmq e d f g b h c a).fst,(xmp e d f g b h c a).fst,(xmp e d f g b h c a).snd)) δ) δ) δ) (κr (f,g,b,h,c,a))
def xcU (d:LA) (e:Int):StT (Int×LA×LA×LA×LA×Nat×LA) (LA×LA×LA×LA×Nat×LA):=fun (f,g,h,b,i,c,a)=>xia d e f g h b i c a none inL inR
def xtB:=xGD.l 33 0 [] [] Tryz.f13 0 lk0 [3,4,5,6,7,13,14,15] [3,4,5,6,7] [(7,3,59)] (q8 (xTF 0 0 0 0) (xTF 1 0 0 0) (xTF 2 0 0 0) (xTF 3 0 0 0) (xTF 4 0 0 0) (qL 1) qI qI) (q6 (qB 0 2 25 (q1 (xTG (q2 (qL 1) (qL 3))))) (qB 0 1 22 (q1 (qL 1))) (qB 0 1 26 (q1 (qL 2))) (qB 0 2 25 (q1 (xTG (q2 pNils pNils)))) (xTH 0 1 23 false false (q1 (xTE 5 0 0))) (qB 0 3 59 xTt)) (fun (_,_,_,_,_,d,e,f,_) (((g,h,_),_),(b,_),(i,_),((_,_,_),_),(c,_),a,_)=>(xcU d e,(f,g,h,b,i,c,a),fun p=>(.leaf (.exit 0) [AV.own 0 0 0 0,AV.own 1 0 0 0,AV.own 2 0 0 0,AV.own 3 0 0 0,AV.own 4 0 0 0] [bF 0 2 25 [AV.agg [AV.list 1 p.1,AV.list 3 p.2.1]],bF 0 1 22 [AV.list 1 p.2.2.1],bF 0 1 26 [AV.list 2 p.2.2.2.1],bF 0 2 25 [AV.agg [AV.nils,AV.nils]],⟨0,1,23,[AV.osl 5 0 0 p.2.2.2.2.1],false,false⟩,bF 0 3 59 p.2.2.2.2.2]))) ([],[],[],[],0,[]) fun (_,_,_,_,_,d,e,_,_) _ (f,g,h,b,i,c,a)=>((((),(),(),(),(),d,e,f,()),(((g,h,()),()),(b,()),(i,()),(((),(),()),()),(c,()),a,())),xia d e f g h b i c a none)
def xpG (c a b l:LA):=Iter (xcU ((xja a b).getD []) (↑((xja a b).getD []).length:Int)) (0,c,a,b,l,0,[])
def xpF (c a b l:LA):=(xpG c a b l).getD ([],[],[],[],0,[])
def xpE (c a b l:LA):=(xpF c a b l).snd.snd
def xpD (c a b l:LA):=(xpE c a b l).snd
def xpy (c a b l:LA):=xbU (xpF c a b l).fst [] (xpE c a b l).fst (xpD c a b l).fst
def xpC (c a b l:LA):=(xpD c a b l).snd
def xpA (c a b l:LA):=(xpC c a b l).snd
def xpB (c a b l:LA):=(xpC c a b l).fst
def xpz (c a b l:LA):=xjc (List.take (xpB c a b l) (List.drop 0 (xpA c a b l)))
def xrA {T:Type} (c a b l:LA) (δ:T) (κ:LA×LA->T):T:=br ((xja a b).isSome) (br ((xpG c a b l).isSome) (br ((xpy c a b l).isSome) (br (decide (0+xpB c a b l<=(xpA c a b l).length)&&true) (br ((xpz c a b l).isSome) (κ (((xpy c a b l).getD ([],[])).fst,(xpz c a b l).getD [])) δ) δ) δ) δ) δ
def xka (c a b l:LA):=xrA c a b l none some
def xyH:LA->Option (Bool×AV):=fnO (u3 (xTJ (u2 (uL 1) (uL 3))) (uL 1) (uL 2)) (fun ((c,a,_),b,l,_) _=>xrA c a b l) (fun _ p=>AV.agg [AV.list 1 p.1,AV.list 3 p.2]) ([],[])
theorem xyG:OcOk P0 xTo 13 xyH:=fnC xGE Tryz.func13 33 0 [] [(3,xtB.lp)] (lk1 xtB.ok)
def xLl:EO:=xGD.w xyG
def xhn {T:Type} (l:LA) (e:Int) (c:LA) (h:Int) (d:Nat) (a:Int) (f g b:LA) (δ:T) (κl:(Nat×Int×LA×LA×LA)->T) (κr:(Nat×LA×LA×LA)->T):T:=br (decide (a<h)) (br (ixI c a) (br (ixT c a 3 [Sh.list 3,Sh.int .i64,Sh.int .i64] 0) (br (rmB d b 1 40) (κl (d+1,i64.wrap (a+1),f,g,b++[AV.agg [AV.list 3 (gC c a 0).toList,AV.int .i64 (gC c a 1).toInt,AV.int .i64 (if 1099511627776<i64.wrap ((gC c a 2).toInt+e) then 1099511627776 else i64.wrap ((gC c a 2).toInt+e))]])) δ) δ) δ) (κr (d,f,g,b))
def xdQ (l:LA) (c:Int) (d:LA) (e:Int):StT (Nat×Int×LA×LA×LA) (Nat×LA×LA×LA):=fun (b,f,g,h,a)=>xhn l c d e b f g h a none inL inR
def xr2:=xLl.l 42 0 [59] [] Tryz.f15 0 lk0 [1,3,6,7,8,17,18,19] [1,3,6,8] [(8,3,59)] (q8 (qL 2) (xTF 0 0 0 0) (xTF 1 0 0 0) qI (xTE 2 0 0) (qL 3) qI qI) (q3 (qB 0 2 25 (q1 (xTG (q2 (qL 1) (qL 3))))) (qB 0 2 25 (q1 (xTG (q2 pNils pNils)))) (qB 0 3 59 xTt)) (fun (l,_,_,c,b,d,e,f,_) (((g,h,_),_),((_,_,_),_),a,_)=>(xdQ l c d e,(b,f,g,h,a),fun p=>(.leaf (.exit 0) [AV.list 2 l,AV.own 0 0 0 0,AV.own 1 0 0 0,AV.osl 2 0 0 p.1] [bF 0 2 25 [AV.agg [AV.list 1 p.2.1,AV.list 3 p.2.2.1]],bF 0 2 25 [AV.agg [AV.nils,AV.nils]],bF 0 3 59 p.2.2.2]))) (0,[],[],[]) fun (l,_,_,c,_,d,e,_,_) _ (b,f,g,h,a)=>(((l,(),(),c,b,d,e,f,()),(((g,h,()),()),(((),(),()),()),a,())),xhn l c d e b f g h a none)
def xoo (c b l:LA) (a:Int):=Iter (xdQ l (i64.wrap ((if 1099511627776<if 1>a then 1 else a then 1099511627776 else if 1>a then 1 else a) - 1)) ((xjc b).getD []) (↑((xjc b).getD []).length:Int)) (0,0,c,b,[])
def xon (c b l:LA) (a:Int):=(xoo c b l a).getD (0,[],[],[])
def xol (c b l:LA) (a:Int):=(xon c b l a).snd
def xom (c b l:LA) (a:Int):=(xon c b l a).fst
def xok (c b l:LA) (a:Int):=(xol c b l a).snd.snd
def xoj (c b l:LA) (a:Int):=xka (xol c b l a).fst (List.take (xom c b l a) (List.drop 0 (xok c b l a))) [] l
def xoi (c b l:LA) (a:Int):=(xoj c b l a).getD ([],[])
def xpH {T:Type} (c b l:LA) (a:Int) (δ:T) (κ:LA×LA->T):T:=br ((xjc b).isSome) (br ((xoo c b l a).isSome) (br (decide (0+xom c b l a<=(xok c b l a).length)&&true&&true) (br ((xoj c b l a).isSome) (κ ((xoi c b l a).fst,(xoi c b l a).snd)) δ) δ) δ) δ
def xi9 (c b l:LA) (a:Int):=xpH c b l a none some
def xwI:LA->Option (Bool×AV):=fnO (u3 (xTJ (u2 (uL 1) (uL 3))) (uL 2) uI) (fun ((c,b,_),l,a,_) _=>xpH c b l a) (fun _ p=>AV.agg [AV.list 1 p.1,AV.list 3 p.2]) ([],[])
theorem xCc:OcOk P0 xTo 15 xwI:=fnC xLl.ok Tryz.func15 42 0 [59] [(4,xr2.lp)] (lk1 xr2.ok)
def xgW {T:Type} (i:Int) (b a:LA) (δ:T) (κl:(Int×LA×LA)->T) (κr:(Bool×(Bool×LA×LA)×(LA×LA))->T):T:=br (decide (i<a.length)) (br (ixI a i) (br (ixT a i 3 [Sh.int .i64,Sh.int .i64] 1) (br (!xdg (gC a i 1).toInt (gC a i 2).toInt) (κr (true,(false,b,a),([],[]))) (br (ixI a i) (br (ixS a i (Sh.list 3) 0) (br ((xyX (gC a i 0).toList b).isSome) (br (!(xyX (gC a i 0).toList b).getD false) (κr (true,(false,b,a),([],[]))) (κl (i64.wrap (i+1),b,a))) δ) δ) δ)) δ) δ) (κr (false,(false,[],[]),(b,a)))
def xb0:StT (Int×LA×LA) (Bool×(Bool×LA×LA)×(LA×LA)):=fun (i,a,b)=>xgW i a b none inL inR
def xyM:=xLr.l 46 0 [] [] Tryz.f35 0 lk0 [1,3] [1,2] [] (q2 (xTF 0 0 0 0) qI) (q1 (qB 0 2 25 (q1 (xTG (q2 (qL 1) (qL 3)))))) (fun (_,i,_) (((a,b,_),_),_)=>(xb0,(i,a,b),fun p=>(.node p.1 (.leaf .ret [AV.own 0 0 0 0,AV.bool p.2.1.1] [bF 0 2 25 [AV.agg [AV.list 1 p.2.1.2.1,AV.list 3 p.2.1.2.2]]]) (.leaf (.exit 0) [AV.own 0 0 0 0,.top] [bF 0 2 25 [AV.agg [AV.list 1 p.2.2.1,AV.list 3 p.2.2.2]]])))) (false,(false,[],[]),([],[])) fun _ _ (i,a,b)=>((((),i,()),(((a,b,()),()),())),xgW i a b none)
def xm3 (b a:LA):=(Iter xb0 (0,b,a)).getD (false,(false,[],[]),[],[])
def xm2 (b a:LA):=(xm3 b a).snd
def xm1 (b a:LA):=(xm2 b a).snd.fst
def xmx (b a:LA):=(↑(xm1 b a).length:Int)
def xm0 (b a:LA):=xAs (xm1 b a)
def xyv {T:Type} (b a:LA) (δ:T) (κ:Bool->T):T:=br ((Iter xb0 (0,b,a)).isSome) (br ((xm3 b a).fst) (κ ((xm2 b a).fst.fst)) (br (decide (xmx b a>0)) (br (decide (xmx b a<=48)) (br ((xm0 b a).isSome) (κ ((xm0 b a).getD false)) δ) (κ (false))) (κ (false)))) δ
def xwE (b a:LA):=xyv b a none some
def xLs:EO:=xLr.f Tryz.func35 46 0 [] [(2,xyM.lp)] (lk1 xyM.ok) (u1 (xTJ (u2 (uL 1) (uL 3)))) (fun ((b,a,_),_) _=>xyv b a) (fun _ p=>AV.bool p) false
def xis {T:Type} (a b:LA) (i:Int) (δ:T) (κl:(Int)->T) (κr:(Bool×(Bool)×(Unit))->T):T:=br (decide (i<a.length)) (br (ixI a i) (br (ixS a i (Sh.int .i64) 0) (br (ixI b i) (br (ixS b i (Sh.int .i64) 0) (br ((gC a i 0).toInt != (gC b i 0).toInt) (κr (true,(false),())) (κl (i64.wrap (i+1)))) δ) δ) δ) δ) (κr (false,false,()))
def xcd (a b:LA):StT (Int) (Bool×(Bool)×(Unit)):=fun (i)=>xis a b i none inL inR
def xtI:=xLs.l 26 0 [] [] Tryz.f39 0 lk0 [0,1,5] [4] [] (q3 (qL 1) (qL 1) qI) xTr (fun (a,b,i,_) _=>(xcd a b,(i),fun p=>(.node p.1 (.leaf .ret [AV.bool p.2.1] []) (.leaf (.exit 0) [.top] [])))) (false,false,()) fun (a,b,_,_) _ (i)=>(((a,b,i,()),()),xis a b i none)
def xrR {T:Type} (a b:LA) (δ:T) (κ:Bool->T):T:=br ((↑a.length:Int) != (↑b.length:Int)) (κ (false)) (br ((Iter (xcd a b) 0).isSome) (br (((Iter (xcd a b) 0).getD (false,false,())).fst) (κ (((Iter (xcd a b) 0).getD (false,false,())).snd.fst)) (κ (true))) δ)
def xps (a b:LA):=xrR a b none some
def xQb:EO:=xLs.f Tryz.func39 26 0 [] [(4,xtI.lp)] (lk1 xtI.ok) (u2 (uL 1) (uL 1)) (fun (a,b,_) _=>xrR a b) (fun _ p=>AV.bool p) false
def xyq {T:Type} (c a d b:LA) (δ:T) (κ:Bool->T):T:=br ((xps c d).isSome) (br ((xps c d).getD false) (br ((xkD a b).isSome) (κ ((xkD a b).getD false)) δ) (κ (false))) δ
def xAu (c a d b:LA):=xyq c a d b none some
def xLt:EO:=xQb.f Tryz.func12 17 0 [] [] lk0 (u2 (xTJ (u2 (uL 1) (uL 3))) (xTJ (u2 (uL 1) (uL 3)))) (fun ((c,a,_),(d,b,_),_) _=>xyq c a d b) (fun _ p=>AV.bool p) false
def xo5 (b l c a d:LA) (i:Int):=xzE ((xi5 b ((xqp l (gC d i 0).toInt).getD []) c a).getD ([],[])).snd (gC d i 0).toInt (gC d i 1).toInt
def xo4 (b l c a d:LA) (i:Int):=(xo5 b l c a d i).getD []
def xjZ (b l d a e:LA) (c:Nat) (i:Int):=c+(xo4 b l d a e i).length
def xkH {T:Type} (b l d a e:LA) (c:Nat) (i:Int) (f:LA) (δ:T) (κl:(Nat×Int×LA)->T) (κr:(Nat×LA)->T):T:=br (decide (i<e.length)) (br (ixI e i) (br (ixS e i (Sh.int .i64) 0) (br ((xqp l (gC e i 0).toInt).isSome) (br ((xi5 b ((xqp l (gC e i 0).toInt).getD []) d a).isSome) (br (ixI e i) (br (ixT e i 2 [Sh.int .i64,Sh.int .i64] 0) (br ((xo5 b l d a e i).isSome) (br (c==f.length&&(decide (xjZ b l d a e c i*40<=140737488355328)&&decide (xjZ b l d a e c i<=4611686018427387904))) (κl (xjZ b l d a e c i,i64.wrap (i+1),f++xo4 b l d a e i)) δ) δ) δ) δ) δ) δ) δ) δ) (κr (c,f))
def xdL (c l e a f:LA):StT (Nat×Int×LA) (Nat×LA):=fun (d,i,b)=>xkH c l e a f d i b none inL inR
def xvL:=xLt.l 44 0 [] [] Tryz.f45 0 lk0 [0,1,2,3,9,10,11] [10] [(10,3,59)] (q7 (qL 1) (qL 3) (qL 1) (qL 2) (qL 2) (xTE 0 0 0) qI) (q1 (qB 0 3 59 xTt)) (fun (c,l,e,a,f,d,i,_) (b,_)=>(xdL c l e a f,(d,i,b),fun p=>(.leaf (.exit 0) [AV.osl 0 0 0 p.1] [bF 0 3 59 p.2]))) (0,[]) fun (c,l,e,a,f,_,_,_) _ (d,i,b)=>(((c,l,e,a,f,d,i,()),(b,())),xkH c l e a f d i b none)
def xtp (b l c a:LA):=Iter (xdL b l c a ((xuG l []).getD [])) (0,0,[])
def xto (b l c a:LA):=(xtp b l c a).getD (0,[])
def xtm (b l c a:LA):=(xto b l c a).snd
def xtn (b l c a:LA):=(xto b l c a).fst
def xtl (b l c a:LA):=xqq (List.take (xtn b l c a) (List.drop 0 (xtm b l c a)))
def xux {T:Type} (b l c a:LA) (δ:T) (κ:LA->T):T:=br ((xuG l []).isSome) (br ((xtp b l c a).isSome) (br (decide (0+xtn b l c a<=(xtm b l c a).length)&&true) (br ((xtl b l c a).isSome) (κ ((xtl b l c a).getD [])) δ) δ) δ) δ
def xhZ (b l c a:LA):=xux b l c a none some
def xLu:EO:=xLt.f Tryz.func45 44 0 [] [(4,xvL.lp)] (lk1 xvL.ok) (u4 (uL 1) (uL 3) (uL 1) (uL 2)) (fun (b,l,c,a,_) _=>xux b l c a) (fun _ p=>AV.list 3 p) []
def xBP {T:Type} (b c a l:LA) (δ:T) (κ:LA×LA->T):T:=br ((xbm b a l).isSome) (br ((xhZ b c a l).isSome) (κ (((xbm b a l).getD ([],0)).fst,(xhZ b c a l).getD [])) δ) δ
def xDj (c a b l:LA):=xBP c a b l none some
def xkG (l:LA) (i:Int):=ixI l i
def xl9 {T:Type} (l:LA) (n:Int) (b:Nat) (i:Int) (a:LA) (δ:T) (κl:(Nat×Int×LA)->T) (κr:(Nat×LA)->T):T:=br (decide (i<l.length)) (br (xkG l i) (br (ixS l i (Sh.list 3) 0) (br (xkG l i) (br (ixS l i (Sh.int .i64) 1) (br (xkG l i) (br (ixS l i (Sh.int .i64) 2) (br (rmB b a 1 40) (κl (b+1,i64.wrap (i+1),a++[AV.agg [AV.list 3 (gC l i 0).toList,AV.int .i64 (gC l i 1).toInt,AV.int .i64 (if i64.wrap ((gC l i 2).toInt+n)<1099511627776 then i64.wrap ((gC l i 2).toInt+n) else 1099511627776)]])) δ) δ) δ) δ) δ) δ) δ) (κr (b,a))
def xf0 (l:LA) (n:Int):StT (Nat×Int×LA) (Nat×LA):=fun (b,i,a)=>xl9 l n b i a none inL inR
def xw2:=xLu.l 42 0 [] [] Tryz.f46 0 lk0 [0,1,5,6] [5] [(5,3,59)] (q4 (qL 3) qI (xTE 0 0 0) qI) (q1 (qB 0 3 59 xTt)) (fun (l,n,b,i,_) (a,_)=>(xf0 l n,(b,i,a),fun p=>(.leaf (.exit 0) [AV.osl 0 0 0 p.1] [bF 0 3 59 p.2]))) (0,[]) fun (l,n,_,_,_) _ (b,i,a)=>(((l,n,b,i,()),(a,())),xl9 l n b i a none)
def xuX (l:LA) (n:Int):=Iter (xf0 l (if (if 1099511627776<n then 1099511627776 else n)>0 then if 1099511627776<n then 1099511627776 else n else 0)) (0,0,[])
def xuW (l:LA) (n:Int):=(xuX l n).getD (0,[])
def xuU (l:LA) (n:Int):=(xuW l n).fst
def xuV (l:LA) (n:Int):=(xuW l n).snd
def xwk {T:Type} (l:LA) (n:Int) (δ:T) (κ:LA->T):T:=br ((xuX l n).isSome) (br (decide (0+xuU l n<=(xuV l n).length)&&true) (κ (List.take (xuU l n) (List.drop 0 (xuV l n)))) δ) δ
def xzL (l:LA) (n:Int):=xwk l n none some
def xQc:EO:=xLu.f Tryz.func46 42 0 [] [(4,xw2.lp)] (lk1 xw2.ok) (u2 (uL 3) uI) (fun (l,n,_) _=>xwk l n) (fun _ p=>AV.list 3 p) []
def xuZ (b:LA) (a:Int):=xzL ((xqq b).getD []) (i64.wrap ((if 1>a then 1 else a) - 1))
def xuY (c b l:LA) (a:Int):=xhZ c ((xuZ b a).getD []) [] l
def xwl {T:Type} (c a l:LA) (b:Int) (δ:T) (κ:LA×LA->T):T:=br ((xbm c [] l).isSome) (br ((xqq a).isSome) (br ((xuZ a b).isSome) (br ((xuY c a l b).isSome) (κ (((xbm c [] l).getD ([],0)).fst,(xuY c a l b).getD [])) δ) δ) δ) δ
def xqw (c b l:LA) (a:Int):=xwl c b l a none some
def xQd:EO:=xQc.f Tryz.func16 29 0 [] [] lk0 (u3 (xTJ (u2 (uL 1) (uL 3))) (uL 2) uI) (fun ((c,b,_),l,a,_) _=>xwl c b l a) (fun _ p=>AV.agg [AV.list 1 p.1,AV.list 3 p.2]) ([],[])
def xvZ {T:Type} (b c a l:LA) (δ:T) (κ:Bool->T):T:=br (decide ((↑c.length:Int)>14)) (κ (false)) (br (decide ((↑b.length:Int)>48)) (κ (false)) (br ((xwE b c).isSome) (br (!(xwE b c).getD false) (κ (false)) (br (decide ((↑a.length:Int)>20)) (κ (false)) (br (decide ((↑l.length:Int)>20)) (κ (false)) (br (i64.wrap ((↑a.length:Int)+(↑l.length:Int))==0) (κ (false)) (br ((xbm b a l).isSome) (κ (((xbm b a l).getD ([],0)).snd==0)) δ))))) δ))
def xp6 (c a b l:LA):=xvZ c a b l none some
def xLv:EO:=xQd.f Tryz.func10 52 0 [] [] lk0 (u3 (xTJ (u2 (uL 1) (uL 3))) (uL 1) (uL 2)) (fun ((c,a,_),b,l,_) _=>xvZ c a b l) (fun _ p=>AV.bool p) false
end Go.Sim.M
end
noncomputable section
namespace Go.Sim.M
open Go.RowKit Go.Proofs
def E0:Env:=((((Env.none.with 136 xmn).with 98 xru).with 163 xrr).withM 129 xwy).withM 100 xnH
theorem xQT:xSI Tryz.prog xTo E0:=((((xEA.with xyN).with xBa).with xA7).withM xC5).withM xzd
end Go.Sim.M
end
noncomputable section
set_option maxRecDepth 100000
namespace Go.Sim
def stepX (P:Program) (E:Env) (live liveO:List Nat) (conv:List (Nat×Nat×TypeId)) (c:Code) (s:List AV×List Box):Option ((List AV×List Box)⊕{r:Exit×List AV×List Box // r.1≠.normal}) :=
 match XR P E live liveO conv c s.1 s.2 with
 | some (.normal,v,H)=>some (.inl (v,H))
 | some (.exit i,v,H)=>some (.inr ⟨(.exit i,v,H),by simp⟩)
 | some (.ret,v,H)=>some (.inr ⟨(.ret,v,H),by simp⟩)
 | _=>none
def closedLp (P:Program) (E:Env) (live liveO:List Nat) (conv:List (Nat×Nat×TypeId)) (c:Code) (n:Nat):Lp:=⟨live,liveO,conv,fun vals H =>
 match iterN (stepX P E live liveO conv c) n (vals,H) with
 | some r=>some (true,.leaf r.1.1 r.1.2.1 r.1.2.2)
 | none=>none⟩
theorem xww {P:Program} {Inv:IV} {E:Env} (U:P.follows .mixedOrders=true) (J:InvOk Inv) (q:Inv.pin=E.pin) (Q:xSI P Inv E) {c:Code} (O:LoOk P Inv E c) {live liveO:List Nat} {conv:List (Nat×Nat×TypeId)} {n:Nat} :
  LoopOk P Inv E.nt c (closedLp P E live liveO conv c n):=fun vals H r h=>by
 simp only [closedLp] at h;split at h
 case h_2=>simp at h
 rename_i r0 hr;simp only [z6,zb,true_and] at h;subst h;exact xEr U J q Q O (σ:=List AV×List Box) (ρ:={r:Exit×List AV×List Box // r.1≠.normal}) (step:=stepX P E live liveO conv c) (fun s=>s) (fun r=>.leaf r.1.1 r.1.2.1 r.1.2.2) (fun r=>r.2)
  (fun s r hs=>by
   unfold stepX at hs;split at hs<;>simp only [z6,reduceCtorEq] at hs;all_goals (subst hs;rename_i hx;exact hx)) (s:=(vals,H)) (r:=r0) (xvW.2 ⟨n,hr⟩)
end Go.Sim
namespace Go.Sim.M
open Go.RowKit Go.Proofs
def mmA (g:FuncId):Bool:=([97,99,
 80,117,141,
 113,140,169,
 102,131,155,104,
 138,168,192,
 164,189,203,
 82,112,84,125,
 41,42,49,51,50,66]:List Nat).contains g
noncomputable def EA0:Env:={ E0 with ls:=lsOf [57,59,159],fuel:=1000 }
theorem xy7:xSI P0 xTo EA0:=xQT
noncomputable def EAr:Env:={ Env.deep P0 mmA EA0 10 with pin:=0,nt:=60,ls:=lsOf [] }
theorem xKx:xSI P0 (xTo.at 0) EAr:=xg6 xSR mmA (xSS P0 0) xy7 (fun _=>rfl) 10
noncomputable def xKZ:Lp:=closedLp P0 EAr [3,4,11,12,13] [4] [(4,2,150460170399)] (xSM Tryz.f111 0) 100
noncomputable def EAr1:Env:={ EAr with lp:=xS3 [(xSW (xSM Tryz.f111 0),xKZ)] }
theorem xOv:xSI P0 (xTo.at 0) EAr1:=xKx
noncomputable def xFu:List AV->Option (Bool×AV):=fun xs=>match XF P0 EAr1 Tryz.f111 (Tryz.f111.body.getD .skip) xs with
 | some r=>some (true,r)
 | none=>none
theorem xPq:OcOk P0 xTo 111 xFu:=fun xs r h=>by
 unfold xFu at h;split at h
 case h_2=>simp at h
 rename_i r0 hr;simp only [z6,zb,true_and] at h;subst h;refine xdU (p:=0) (xf6 xSR (xSS P0 _) rfl xOv Tryz.func111 rfl (by kernel_rfl) (xgL (ls:=[xSM Tryz.f111 0]) (by kernel_rfl) (fun l hl lp hs=>?_)) hr)
 simp only [zC,List.not_mem_nil,or_false] at hl;subst hl;rw [show EAr1.lp (xSW (xSM Tryz.f111 0))=some xKZ by kernel_rfl] at hs
 cases hs;exact xww (E:=EAr) xSR (xSS P0 _) rfl xKx (xhd fun _=>rfl)
noncomputable def EAgr:Env:={ Env.deep P0 mmA EA0 12 with pin:=0,nt:=57,ls:=lsOf [57,59] }
theorem xIS:xSI P0 (xTo.at 0) EAgr:=xg6 xSR mmA (xSS P0 0) xy7 (fun _=>rfl) 12
noncomputable def xIR:Lp:=closedLp P0 EAgr [1,5,6,18,19,20] [6] [(6,1,253605445655)] (xSM Tryz.f40 0) 100
noncomputable def EAgr1:Env:={ EAgr with lp:=xS3 [(xSW (xSM Tryz.f40 0),xIR)] }
theorem xM1:xSI P0 (xTo.at 0) EAgr1:=xIS
noncomputable def xKi:List AV->Option (Bool×AV):=fun xs=>match XF P0 EAgr1 Tryz.f40 (Tryz.f40.body.getD .skip) xs with
 | some r=>some (true,r)
 | none=>none
theorem xRb:OcOk P0 xTo 40 xKi:=fun xs r h=>by
 unfold xKi at h;split at h
 case h_2=>simp at h
 rename_i r0 hr;simp only [z6,zb,true_and] at h;subst h;refine xdU (p:=0) (xf6 xSR (xSS P0 _) rfl xM1 Tryz.func40 rfl (by kernel_rfl) (xgL (ls:=[xSM Tryz.f40 0]) (by kernel_rfl) (fun l hl lp hs=>?_)) hr)
 simp only [zC,List.not_mem_nil,or_false] at hl;subst hl;rw [show EAgr1.lp (xSW (xSM Tryz.f40 0))=some xIR by kernel_rfl] at hs
 cases hs;exact xww (E:=EAgr) xSR (xSS P0 _) rfl xIS (xhd fun _=>rfl)
noncomputable def EAsg:Env:={ Env.deep P0 mmA EA0 12 with pin:=0,nt:=111,ls:=lsOf [57,59] }
theorem xIW:xSI P0 (xTo.at 0) EAsg:=xg6 xSR mmA (xSS P0 0) xy7 (fun _=>rfl) 12
noncomputable def xIV:Lp:=closedLp P0 EAsg [1,2,3,6,7,8,31,32,33] [1,2,3,6,8] [(8,1,244881293359)] (xSM Tryz.f43 0) 100
noncomputable def EAsg1:Env:={ EAsg with lp:=xS3 [(xSW (xSM Tryz.f43 0),xIV)] }
theorem xM3:xSI P0 (xTo.at 0) EAsg1:=xIW
noncomputable def xKQ:List AV->Option (Bool×AV):=fun xs=>match XF P0 EAsg1 Tryz.f43 (Tryz.f43.body.getD .skip) xs with
 | some r=>some (true,r)
 | none=>none
theorem xRg:OcOk P0 xTo 43 xKQ:=fun xs r h=>by
 unfold xKQ at h;split at h
 case h_2=>simp at h
 rename_i r0 hr;simp only [z6,zb,true_and] at h;subst h;refine xdU (p:=0) (xf6 xSR (xSS P0 _) rfl xM3 Tryz.func43 rfl (by kernel_rfl) (xgL (ls:=[xSM Tryz.f43 0,xSM Tryz.f43 1,xSM Tryz.f43 2]) (by kernel_rfl) (fun l hl lp hs=>?_)) hr)
 simp only [zC,List.not_mem_nil,or_false] at hl;rcases hl with rfl|rfl|rfl
 . rw [show EAsg1.lp (xSW (xSM Tryz.f43 0))=some xIV by kernel_rfl] at hs
   cases hs;exact xww (E:=EAsg) xSR (xSS P0 _) rfl xIW (xhd fun _=>rfl)
 . rw [show EAsg1.lp (xSW (xSM Tryz.f43 1))=none by kernel_rfl] at hs
   simp at hs
 . rw [show EAsg1.lp (xSW (xSM Tryz.f43 2))=none by kernel_rfl] at hs
   simp at hs
noncomputable def EAlv (p:Nat):Env:={ Env.deep P0 mmA EA0 6 with pin:=p,nt:=71,ls:=lsOf [] }
theorem xIU (p:Nat):xSI P0 (xTo.at p) (EAlv p):=xnA (xg6 xSR mmA (xSS P0 0) xy7 (fun _=>rfl) 6)
noncomputable def xIT (p:Nat):Lp:=closedLp P0 (EAlv p) [0,1,2,3,4] [] [(3,0,0)] (xSM Tryz.f112 0) 100
noncomputable def EAlv1 (p:Nat):Env:={ EAlv p with lp:=xS3 [(xSW (xSM Tryz.f112 0),xIT p)] }
theorem xM2 (p:Nat):xSI P0 (xTo.at p) (EAlv1 p):=xIU p
noncomputable def xHo:List AV->List Box->Option (Bool×AV×List Box):=fun xs H=>match XFM P0 (EAlv1 H.length) Tryz.f112 (Tryz.f112.body.getD .skip) xs H with
 | some (r,H')=>some (true,r,H')
 | none=>none
theorem xQC:OmOk P0 xTo 112 xHo:=fun xs H r H' h=>by
 unfold xHo at h;split at h
 case h_2=>simp at h
 rename_i r0 H0 hr;simp only [z6,zb,true_and] at h;obtain ⟨rfl,rfl⟩:=h;refine xi3 (p:=H.length) (xkh xSR (xSS P0 _) rfl (xM2 H.length) rfl Tryz.func112 rfl (by kernel_rfl) (xgL (ls:=[xSM Tryz.f112 0,xSM Tryz.f112 1]) (by kernel_rfl) (fun l hl lp hs=>?_) (by kernel_rfl)) hr)
 simp only [zC,List.not_mem_nil,or_false] at hl;rcases hl with rfl|rfl
 . rw [show (EAlv1 H.length).lp (xSW (xSM Tryz.f112 0))=some (xIT H.length) by kernel_rfl] at hs
   cases hs;exact xww (E:=EAlv H.length) xSR (xSS P0 _) rfl (xIU H.length) (xhd fun _=>rfl)
 . rw [show (EAlv1 H.length).lp (xSW (xSM Tryz.f112 1))=none by kernel_rfl] at hs
   simp at hs
noncomputable def EAs:Env:=(((EA0.with 111 xFu).with 40 xKi).with 43 xKQ).withM 112 xHo
theorem xK0:xSI P0 xTo EAs:=(((xy7.with xPq).with xRb).with xRg).withM xQC
noncomputable def EAd:Env:={ Env.deep P0 mmA EAs 14 with pin:=0 }
mutual
def eqV:AV->AV->Bool
 | .int k a,.int k' b=>decide (k=k')&&decide (a=b)
 | .bool a,.bool b=>a==b
 | .str a,.str b=>decide (a=b)
 | .list n a,.list m b=>Nat.beq n m&&eqVs a b
 | .agg a,.agg b=>eqVs a b
 | .nils,.nils=>true
 | _,_=>false
def eqVs:List AV->List AV->Bool
 | [],[]=>true
 | a::l,b::m=>eqV a b&&eqVs l m
 | _,_=>false
end
mutual
theorem xQl:∀ (a b:AV),eqV a b=true->a=b:=fun a b h=>by
 cases a<;>cases b<;>first|rfl|(simp [eqV] at h;done)|skip
 all_goals simp only [eqV,zf,zl,beq_iff_eq] at h
 all_goals first|(rw [h.1,h.2];done)|(rw [h];done)|(rw [zg h.1,xCR _ _ h.2];done)|(rw [xCR _ _ h])
theorem xCR:∀ (a b:List AV),eqVs a b=true->a=b
 | [],[],_=>rfl
 | a::l,b::m,h=>by simp only [eqVs,zf] at h;rw [xQl a b h.1,xCR l m h.2]
 | [],_::_,h=>by simp [eqVs] at h
 | _::_,[],h=>by simp [eqVs] at h
end
def ptO (q:List AV) (r:AV):List AV->Option (Bool×AV):=fun xs=>match eqVs xs q with
 | true=>some (true,r)
 | false=>none
theorem xBn {P:Program} {Inv:IV} {f:FuncId} {q:List AV} {r:AV} (h:Good P Inv f q r):OcOk P Inv f (ptO q r):=fun xs r0 h0=>by
 unfold ptO at h0;split at h0
 case h_2=>simp at h0
 rename_i he;simp only [z6,zb,true_and] at h0;subst h0;rw [xCR _ _ he];exact h
theorem xz4 {f:FuncId} {fn:Func} {q:List AV} {r:AV} (hf:P0.funcs[f]?=some fn) (hb:fn.body.isSome=true) (J:(fn.name == "runtime.NumGoroutine")=false) (h:XF P0 EAd fn (fn.body.getD .skip) q=some r):Good P0 xTo f q r :=
 xdU (p:=0) (xf6 xSR (xSS P0 _) rfl (xnA (xg6 xSR mmA (xSS P0 0) xK0 (fun _=>rfl) 14)) hf hb J (xhd fun _=>rfl) h)
end Go.Sim.M
end
