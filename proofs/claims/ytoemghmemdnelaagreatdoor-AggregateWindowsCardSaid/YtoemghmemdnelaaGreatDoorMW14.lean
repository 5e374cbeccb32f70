/- Part 14 of the proof of the law. -/
import Derived.Test.YtoemghmemdnelaaGreatDoorMW13
import Derived.Deep.LoopGhost
import Derived.Lib.SliceRun
set_option linter.unusedVariables false
set_option linter.unusedSimpArgs false
noncomputable section
namespace Go.Proofs
open Go.RowKit Go.Lib Go.Shelf
set_option maxHeartbeats 2000000 in
set_option maxRecDepth 100000 in
theorem Tryz.clone_nil (n c:Nat) (w:World) :
  Calls Tryz.prog 163 #[.slice none n c] w fun e w'=>e=.returned (.slice none 0 0)/\w'=w:=by
 have q22:∀ (w:World) (a:Option Addr) (n c n' c':Nat),(binOp .eql 57 (.slice a n c) (.slice none n' c')).run Tryz.prog w=.ok (.bool a.isNone) w:=fun w a n c n' c'=>Lib.run_eql_slice_nil w 57 76 a n c n' c' (by kernel_rfl)
 go_enter Tryz.func163,Tryz.ntmps163
 go_wp2
 go_ret
 exact ⟨rfl,rfl⟩
set_option maxHeartbeats 2000000 in
set_option maxRecDepth 100000 in
theorem Tryz.clone_some (i0:TypeInfo) (z:Value) (hi:Tryz.prog.info? 76=some i0) (V:i0.zero=some z) (W:i0.size=3) (Y:i0.bytes=32) (U:z.cells.size=3)
  (a:Addr) (n c:Nat) (news:List Value) (w:World) (hl:news.length=n*3) (hn:n<=maxLen) (Q:n*32<=140737488355328)
  (hc:∀ j u,news[j]?=some u->w.cell? (a.add j)=some u) (h1:∀ u∈news,u.oneCell'=true) :
  Calls Tryz.prog 163 #[.slice (some a) n c] w fun e w'=>∃ v',e=.returned v'/\w'.ownsRow w.heap.size 76 3 v' n news/\Below w.heap.size w w':=by
 have q:Tryz.prog.underlying 57=some (.slice 76):=by kernel_rfl
 have q22:∀ (w:World) (a:Option Addr) (n c n' c':Nat),(binOp .eql 57 (.slice a n c) (.slice none n' c')).run Tryz.prog w=.ok (.bool a.isNone) w:=fun w a n c n' c'=>Lib.run_eql_slice_nil w 57 76 a n c n' c' q
 have u22:∀ w,Sem.run Tryz.prog (underlying 57) w=.ok (TypeDesc.slice 76) w:=run_underlying q;have A:Aside (∀ j u,news[j]?=some u->w.cell? (a.add j)=some u):=hc;clear hc
 go_enter Tryz.func163,Tryz.ntmps163
 go_wp2_with (at_builtin;refine wpList_append_own _ rfl _ _ 57 rfl w.heap.size 76 i0 z 3 32 q hi V W Y U (by decide) _ _ _ rfl (World.ownsRow_made w #[] 0 (Nat.le_refl _) (Nat.zero_le _) (by simp)) a n c news rfl ?qc1 ?qc2 ?qc3 ?qc4 ?qc5 ?qc6 ?_)
 case qc1=>exact hl
 case qc2 =>
  intro j u hj;exact Lib.cell?_alloc_some _ (A.out j u hj)
 case qc3=>exact h1
 case qc4=>rw [Nat.zero_add];exact hn
 case qc5=>rw [Nat.zero_add];exact Q
 case qc6=>simp
 intro v' w1 O J Z
 go_wp2
 go_ret
 refine ⟨v',rfl,by simpa using O,?_⟩
 exact ((Below.refl _ w).alloc (Nat.le_refl _) _).grown J (by simp) (by intro k hk;simp [Value.ownBlock] at hk;omega)
end Go.Proofs
namespace Go.Sim
open Go.RowKit Go.Proofs
def xrS:List AV->Option (Bool×AV)
 | [.list 3 xs]=>some (decide (xs.length<=4398046511104),.list 3 xs)
 | _=>none
theorem xCW {w w':World} {A:Nat->Prop} {e:TypeId} {sz:Nat} {v:Value} {xs:List AV} {news:List Value} (hl:∀ b,A b->b<w.heap.size) (Q:w'.ownsRow w.heap.size e sz v xs.length news) (W:∀ x,x∈xs->x.okElem sz=true)
  (hr:∀ i j,i<xs.length->j<sz->Rel w' A xTC (news.getD (i*sz+j) undef) ((xs.getD i .top).cells.getD j .top)):Rel w' A xTC v (.list sz xs):=by
 obtain ⟨Z,h⟩:=Q;rcases h with ⟨rfl,h0⟩|⟨g,cap,cur,rfl,hg,hh,J,aa,Y,U⟩
 . have:xs=[]:=List.eq_nil_of_length_eq_zero h0;subst this;exact .list0 _ _ _
 . by_cases hne:xs=[]
   . subst hne;exact .list0 _ _ _
   . have V:g<w'.heap.size:=by
      rcases Nat.lt_or_ge g w'.heap.size with h|h
      . exact h
      . rw [Array.getElem?_eq_none h] at hh;simp at hh
     have q:∀ i j,i<xs.length->j<sz->w'.cell? ⟨g,0+i*sz+j,none⟩=some (news.getD (i*sz+j) undef):=fun i j hi hj=>by
      have hk:i*sz+j<xs.length*sz:=xeJ hi hj;have O:i*sz+j<cur.size:=by
       rw [Y];exact Nat.lt_of_lt_of_le hk (Nat.mul_le_mul_right _ J)
      have e1:news.getD (i*sz+j) undef=cur[i*sz+j]:=by
       rw [<-U];simp [List.getD_eq_getElem?_getD,List.getElem?_take,hk,O]
      rw [e1,Nat.zero_add];simp [World.cell?,hh,O]
     exact .list g 0 cap sz xs (fun i j=>news.getD (i*sz+j) undef) (fun hA=>by have:=hl g hA;omega) V hne J W q hr
theorem xBC:OcOk Tryz.prog xT5 163 xrS:=fun xs r h=>by
 unfold xrS at h;split at h
 . rename_i xs;simp only [Option.some.injEq,Prod.mk.injEq,decide_eq_true_eq] at h;obtain ⟨aa,rfl⟩:=h;refine ⟨xfn Tryz.func163 rfl (by kernel_rfl),fun w A vs hI hA Z=>?_⟩
   obtain ⟨v,rfl,h1⟩:=rc1 Z;have O:∃ ti,xTn Tryz.prog 76=some ti/\ti.sz=3/\ti.bytes=32/\ti.zero.okElem 3=true:=by
    have h:(match xTn Tryz.prog 76 with|some ti=>(ti.sz==3)&&((ti.bytes==32)&&ti.zero.okElem 3)|none=>false)=true:=by kernel_rfl
    split at h
    . rename_i ti O;simp only [Bool.and_eq_true,beq_iff_eq] at h;exact ⟨ti,O,h.1,h.2.1,h.2.2⟩
    . simp at h
   obtain ⟨ti,O,s1,s2,s3⟩:=O;obtain ⟨i,z,g1,g2,g3,g4,g5,g6,_⟩:=xbS O;have U:z.cells.size=3:=by
    have Y:Rel w A xTC z ti.zero:=by rw [g6];exact xeP w A xTC z
    rw [(Y.cells (xbn s3)).1,xa4 s3]
   have V:∀ n c,v=.slice none n c->xs=[]->Calls Tryz.prog 163 [v].toArray w fun e w'=>∃ v,e=.returned v/\Below w.heap.size w w'/\Rel w' A xTC v (.list 3 xs):=by
    rintro n c rfl rfl;refine (Tryz.clone_nil n c w).mono ?_;rintro e w' ⟨rfl,rfl⟩;exact ⟨_,rfl,Below.refl _ _,.list0 _ _ _⟩
   have Q:∀ b off c (val:Nat->Nat->Value),v=.slice (some ⟨b,off,none⟩) xs.length c->(∀ x,x∈xs->x.okElem 3=true)->(∀ i j,i<xs.length->j<3->w.cell? ⟨b,off+i*3+j,none⟩=some (val i j))->(∀ i j,i<xs.length->j<3->Rel w A xTC (val i j) ((xs.getD i .top).cells.getD j .top)) ->
     Calls Tryz.prog 163 [v].toArray w fun e w'=>∃ v,e=.returned v/\Below w.heap.size w w'/\Rel w' A xTC v (.list 3 xs):=by
    rintro b off c val rfl W hc hr;have hs:∀ i j,i<xs.length->j<3->∃ u,w.cell? ⟨b,off+(i*3+j),none⟩=some u/\Rel w A xTC u ((xs.getD i .top).cells.getD j .top):=fun i j hi hj=>⟨val i j,by rw [<-Nat.add_assoc];exact hc i j hi hj,hr i j hi hj⟩
    refine (Tryz.clone_some i z g1 g3 (by rw [<-g4,s1]) (by rw [<-g5,s2]) U ⟨b,off,none⟩ xs.length c (xTO w b off (xs.length*3)) w (xkc _ _ _ _) (by unfold maxLen;omega) (by omega)
     (fun j u hj=>xB5 (by decide) hs j u hj) (xKl (by decide) hs W)).mono ?_
    rintro e w' ⟨v',rfl,J,q⟩;exact ⟨v',rfl,q,xCW hA J W fun i j hi hj=>(xKm hs hi hj).grow q⟩
   have h1':=h1;generalize hx:AV.list 3 xs=x at h1;cases h1 with
   | list0 a cap sz =>
    simp only [AV.list.injEq] at hx;obtain ⟨rfl,rfl⟩:=hx;cases a with
    | none=>exact V 0 cap rfl rfl
    | some a =>
     refine (Tryz.clone_some i z g1 g3 (by rw [<-g4,s1]) (by rw [<-g5,s2]) U a 0 cap [] w rfl (Nat.zero_le _) (by omega) (by simp) (by simp)).mono ?_
     rintro e w' ⟨v',rfl,J,q⟩;exact ⟨v',rfl,q,xCW hA (xs:=[]) J (by simp) (by simp)⟩
   | list b off cap sz ys val ha hb hne hcap hsz hc hr =>
    simp only [AV.list.injEq] at hx;obtain ⟨rfl,rfl⟩:=hx;exact Q b off cap val rfl hsz hc hr
   | _=>simp at hx
 . simp at h
end Go.Sim
end
noncomputable section
namespace Go.Sim.M
open Go.RowKit Go.Proofs
noncomputable def E0A:Env:=((((((xLE.E.with 136 xmR).with 98 xrV).with 163 xrS).withM 129 xwY).withM 100 xn9).withM 113 xF6).withM 102 xF5
theorem xQr:xTo Tryz.prog xT5 E0A:=((((((xLE.ok.with xy9).with xBF).with xBC).withM xDC).withM xzB).withM xQh).withM xQg
noncomputable def xQq:EO:=EO.mk E0A xQr
end Go.Sim.M
end
noncomputable section
set_option maxRecDepth 100000
namespace Go.Sim.M
open Go.IntKind (i64 u64 u8)
open Go.RowKit Go.Proofs
def xb7 {T:Type} (a:List UInt8) (δ:T) (κ:Int×Nat×LA->T):T:=br (decide ((byteAVs a).length*1<=140737488355328)&&decide ((byteAVs a).length<=4611686018427387904)) (κ ((↑a.length:Int),(byteAVs a).length,byteAVs a)) δ
def xaN (a:List UInt8):=xb7 a none some
def xRD:EO:=xQq.fM Tryz.func97 19 1 [] [] lk0 (u2 (sEq (xUl 0 0 0 0)) (sEq pStr)) (q1 (qB 0 2 142 (q1 (xUm (q2 pNilptr pNils))))) (fun (_,a,_) (((_,_,_),_),_) _=>xb7 a) (fun _ _ p=>(AV.tuple [AV.int .i64 p.1,.top],([⟨0,2,142,[AV.agg [AV.own 0 0 0 0,AV.osl 1 0 0 p.2.1]],false,false⟩,bF 0 1 5 p.2.2]:List Box))) (0,0,[])
def xfi {T:Type} (a:List UInt8) (n:Nat) (b:LA) (δ:T) (κ:Int×Nat×LA->T):T:=br (n==b.length&&(decide ((n+(byteAVs a).length)*1<=140737488355328)&&decide (n+(byteAVs a).length<=4611686018427387904))) (κ ((↑a.length:Int),n+(byteAVs a).length,b++byteAVs a)) δ
def xaQ (a:List UInt8) (n:Nat) (b:LA):=xfi a n b none some
def xRE:EO:=xRD.fM Tryz.func97 19 2 [] [] lk0 (u2 (sEq (xUl 0 0 0 0)) (sEq pStr)) (q2 (xUn 0 2 142 false false (q1 (xUm (q2 (xUl 0 0 0 0) (xUk 1 0 0))))) (qB 0 1 5 xUa)) (fun (_,a,_) (((_,n,_),_),b,_) _=>xfi a n b) (fun _ _ p=>(AV.tuple [AV.int .i64 p.1,.top],([⟨0,2,142,[AV.agg [AV.own 0 0 0 0,AV.osl 1 1 0 p.2.1]],false,false⟩,bF 1 1 5 p.2.2]:List Box))) (0,0,[])
def xkd {T:Type} (a:List UInt8) (n:Nat) (b:LA) (δ:T) (κ:Int×Nat×LA->T):T:=br (n==b.length&&(decide ((n+(byteAVs a).length)*1<=140737488355328)&&decide (n+(byteAVs a).length<=4611686018427387904))) (κ ((↑a.length:Int),n+(byteAVs a).length,b++byteAVs a)) δ
def xlR (a:List UInt8) (n:Nat) (b:LA):=xkd a n b none some
def xKs:EO:=xRE.fM Tryz.func97 19 2 [] [] lk0 (u2 (sEq (xUl 0 0 0 0)) (sEq pStr)) (q2 (xUn 0 2 142 false false (q1 (xUm (q2 (xUl 0 0 0 0) (xUk 1 1 0))))) (qB 1 1 5 xUa)) (fun (_,a,_) (((_,n,_),_),b,_) _=>xkd a n b) (fun _ _ p=>(AV.tuple [AV.int .i64 p.1,.top],([⟨0,2,142,[AV.agg [AV.own 0 0 0 0,AV.osl 1 2 0 p.2.1]],false,false⟩,bF 2 1 5 p.2.2]:List Box))) (0,0,[])
def xbI:Env:=xKs.E.fn 17 1 (lsOf []) (xTL [])
theorem xsL:xTo P0 (xT5.at 1) xbI:=xKs.ok.fn
theorem xrW:LoOk P0 (xT5.at xbI.pin) xbI (Tryz.f99.body.getD .skip):=xtq (by kernel_rfl)
def xhu (c:Int):Int:=((c))
def xkB (c:Int):Bool:=true
def xmk {T:Type} (c:Int) (δ:T) (κ:Int->T):T:=κ (c)
theorem xv1 (c:Int):Pre (xkB c) (XFM P0 xbI Tryz.f99 (Tryz.f99.body.getD .skip) [AV.own (0:Id) 0 0 0,AV.int .u8 c] [{ ver:=0,sz:=2,ty:=(142:TypeId),xs:=[AV.agg [AV.nilptr,AV.nils]],frz:=false,pm:=true }]) ((.top,([⟨0,2,142,[AV.agg [AV.own 0 0 0 0,AV.osl 1 0 0 1]],false,false⟩,⟨0,1,5,[AV.int .u8 (xhu c)],false,true⟩]:List Box))):=by
 have h:XFM P0 xbI Tryz.f99 (Tryz.f99.body.getD .skip) [AV.own (0:Id) 0 0 0,AV.int .u8 c] [{ ver:=0,sz:=2,ty:=(142:TypeId),xs:=[AV.agg [AV.nilptr,AV.nils]],frz:=false,pm:=true }]=xmk c none (fun (p:Int)=>some (((.top,([⟨0,2,142,[AV.agg [AV.own 0 0 0 0,AV.osl 1 0 0 1]],false,false⟩,⟨0,1,5,[AV.int .u8 p],false,true⟩]:List Box))):(AV×List Box))):=by kernel_rfl
 rw [h];unfold xhu xkB xmk;repeat' (first|exact Pre.none|exact Pre.tt rfl|exact Pre.some rfl|refine Pre.l ?_|refine Pre.r ?_|refine Pre.br (f:=fun (p:Int)=>(((.top,([⟨0,2,142,[AV.agg [AV.own 0 0 0 0,AV.osl 1 0 0 1]],false,false⟩,⟨0,1,5,[AV.int .u8 p],false,true⟩]:List Box))):(AV×List Box))) ?_ ?_|refine Pre.brt (f:=fun (p:Int)=>(((.top,([⟨0,2,142,[AV.agg [AV.own 0 0 0 0,AV.osl 1 0 0 1]],false,false⟩,⟨0,1,5,[AV.int .u8 p],false,true⟩]:List Box))):(AV×List Box))) ?_ ?_)
def xv0:LA->List Box->Option (Bool×AV×List Box):=omOf (xT7 (sEq (xUl 0 0 0 0)) (xT7 (sEq (pInt .u8)) xT9)) (xT6 (xUn 0 2 (142:TypeId) false true (xT6 (xUm (xT6 pNilptr (xT6 pNils xT8))) xT8)) xT8) fun (_,(c,_)) (((_,(_,_)),_),_)=>(true,((.top,([⟨0,2,142,[AV.agg [AV.own 0 0 0 0,AV.osl 1 0 0 1]],false,false⟩,⟨0,1,5,[AV.int .u8 (xhu c)],false,true⟩]:List Box))))
theorem xvx:OmOk P0 xT5 99 (xv0):=xrA fun b d h f e=>by
 obtain ⟨_,⟨c,_⟩⟩:=b;obtain ⟨⟨⟨_,⟨_,_⟩⟩,_⟩,_⟩:=d;obtain ⟨g,a⟩:=Prod.mk.inj e;refine xjv (p:=xbI.pin) (xkL xTy (xTz P0 _) rfl xsL rfl Tryz.func99 rfl (by kernel_rfl) xrW ((Pre.get (xv1 _) rfl).trans ?_))
 exact congrArg some a
def xRF:EO:=xKs.wM xvx
def xlM {T:Type} (c:Int) (n:Nat) (a:LA) (δ:T) (κ:Nat×LA->T):T:=br (rmB n a 1 1) (κ (n+1,a++[AV.int .u8 c])) δ
def xbW (c:Int) (n:Nat) (a:LA):=xlM c n a none some
def xRG:EO:=xRF.fM Tryz.func99 17 2 [] [] lk0 (u2 (sEq (xUl 0 0 0 0)) (sEq (pInt .u8))) (q2 (xUn 0 2 142 false false (q1 (xUm (q2 (xUl 0 0 0 0) (xUk 1 0 0))))) (qB 0 1 5 xUa)) (fun (_,c,_) (((_,n,_),_),a,_) _=>xlM c n a) (fun _ _ p=>(.top,([⟨0,2,142,[AV.agg [AV.own 0 0 0 0,AV.osl 1 1 0 p.1]],false,false⟩,bF 1 1 5 p.2]:List Box))) (0,[])
def xdI {T:Type} (c:Int) (n:Nat) (a:LA) (δ:T) (κ:Nat×LA->T):T:=br (rmB n a 1 1) (κ (n+1,a++[AV.int .u8 c])) δ
def xbq (c:Int) (n:Nat) (a:LA):=xdI c n a none some
def xKt:EO:=xRG.fM Tryz.func99 17 2 [] [] lk0 (u2 (sEq (xUl 0 0 0 0)) (sEq (pInt .u8))) (q2 (xUn 0 2 142 false false (q1 (xUm (q2 (xUl 0 0 0 0) (xUk 1 1 0))))) (qB 1 1 5 xUa)) (fun (_,c,_) (((_,n,_),_),a,_) _=>xdI c n a) (fun _ _ p=>(.top,([⟨0,2,142,[AV.agg [AV.own 0 0 0 0,AV.osl 1 2 0 p.1]],false,false⟩,bF 2 1 5 p.2]:List Box))) (0,[])
def xhk (b:Int) (a:LA):=((a.getD (0+b.toNat) .top).cells.getD 0 .top).toInt
def xqt (d:Int) (c:Nat) (b a:LA):=((xaQ (Lib.itoa (xhk d b)) c a).getD (0,0,[])).snd
def xqs (d:Int) (c:Nat) (b a:LA):=xbq 32 (xqt d c b a).fst (xqt d c b a).snd
def xqr (d:Int) (c:Nat) (b a:LA):=(xqs d c b a).getD (0,[])
def xmm {T:Type} (k:LA) (l j:Int) (e:Nat) (i c:Int) (d:Nat) (f g:Int) (h:List UInt8) (a b:LA) (δ:T) (κl:(Int×Nat×Int×Int×List UInt8×LA×LA)->T) (κr:(Nat×Int×Int×List UInt8×LA)->T):T:=br (decide (c<i)) (br (decide (0<=c)&&decide (c<(↑e:Int))) (br (decide (0+c.toNat<a.length)&&xTm (Sh.int .i64) ((a.getD (0+c.toNat) .top).cells.getD 0 .top)) (br (decide ((-9223372036854775808)<=xhk c a)&&decide (xhk c a<=9223372036854775807)) (br ((xaQ (Lib.itoa (xhk c a)) d b).isSome) (br ((xqs c d a b).isSome) (κl (i64.wrap (c+1),(xqr c d a b).fst,f,g,h,a,(xqr c d a b).snd)) δ) δ) δ) δ) δ) (κr (d,f,g,h,b))
def xbO (k:LA) (l e:Int) (c:Nat) (f:Int):StT (Int×Nat×Int×Int×List UInt8×LA×LA) (Nat×Int×Int×List UInt8×LA):=fun (g,d,h,i,j,b,a)=>xmm k l e c f g d h i j b a none inL inR
def xkJ:=xKt.l 37 0 [] [] Tryz.f137 1 lk0 [3,5,8,9,10,21,22,23] [3,5,8,9,10] [] (q8 (xUl 0 0 0 0) (xUl 1 0 0 0) (qL 3) qI qI (xUk 2 0 0) qI qI) (q4 (xUn 0 2 142 false false (q1 (xUm (q2 (xUl 0 0 0 0) (xUk 3 0 0))))) (qB 0 3 76 (q1 (xUm (q3 qI qI pStr)))) (qB 0 1 3 xUa) (qB 0 1 5 xUa)) (fun (_,_,k,m,e,c,f,g,_) (((_,d,_),_),((h,i,j,_),_),b,a,_)=>(xbO k m e c f,(g,d,h,i,j,b,a),fun p=>(.leaf (.exit 2) [AV.own 0 0 0 0,AV.own 1 0 0 0,AV.list 3 k,AV.int .i64 m,AV.int .i64 e] [⟨0,2,142,[AV.agg [AV.own 0 0 0 0,AV.osl 2 0 0 p.1]],false,false⟩,bF 0 3 76 [AV.agg [AV.int .i64 p.2.1,AV.int .i64 p.2.2.1,AV.str p.2.2.2.1]],bF 0 1 5 p.2.2.2.2]))) (0,0,0,[],[]) fun (_,_,k,m,e,c,f,_,_) _ (g,d,h,i,j,b,a)=>((((),(),k,m,e,c,f,g,()),((((),d,()),()),((h,i,j,()),()),b,a,())),xmm k m e c f g d h i j b a none)
def xqq (b:LA) (e a:Int) (d:Nat) (c:LA):=Iter (xbO b e a 3 3) (0,d,(gC b a 0).toInt,(gC b a 1).toInt,(gC b a 2).toStr,[AV.int .i64 (gC b a 0).toInt,AV.int .i64 (gC b a 1).toInt,AV.int .i64 (↑(gC b a 2).toStr.length:Int)],c)
def xqp (d:LA) (e c:Int) (b:Nat) (a:LA):=(xqq d e c b a).getD (0,0,0,[],[])
def xqo (d:LA) (e c:Int) (b:Nat) (a:LA):=(xqp d e c b a).snd.snd.snd
def xqn (d:LA) (e c:Int) (b:Nat) (a:LA):=xaQ (xqo d e c b a).fst (xqp d e c b a).fst (xqo d e c b a).snd
def xqm (d:LA) (e c:Int) (b:Nat) (a:LA):=((xqn d e c b a).getD (0,0,[])).snd
def xml {T:Type} (d:LA) (e b:Int) (c:Nat) (a:LA) (δ:T) (κl:(Int×Nat×LA)->T) (κr:(Nat×LA)->T):T:=br (decide (b<e)) (br (ixI d b) (br (ixT d b 3 [Sh.int .i64,Sh.int .i64,Sh.str] 0) (br ((xqq d e b c a).isSome) (br ((xqn d e b c a).isSome) (κl (i64.wrap (b+1),(xqm d e b c a).fst,(xqm d e b c a).snd)) δ) δ) δ) δ) (κr (c,a))
def xec (d:LA) (e:Int):StT (Int×Nat×LA) (Nat×LA):=fun (c,b,a)=>xml d e c b a none inL inR
def xw8:=xKt.l 37 0 [] [(6,xkJ.lp)] Tryz.f137 0 (lk1 xkJ.ok) [3,8,9,10] [3] [] (q4 (xUl 0 0 0 0) (qL 3) qI qI) (q2 (xUn 0 2 142 false false (q1 (xUm (q2 (xUl 0 0 0 0) (xUk 1 0 0))))) (qB 0 1 5 xUa)) (fun (_,d,e,c,_) (((_,b,_),_),a,_)=>(xec d e,(c,b,a),fun p=>(.leaf (.exit 0) [AV.own 0 0 0 0] [⟨0,2,142,[AV.agg [AV.own 0 0 0 0,AV.osl 1 0 0 p.1]],false,false⟩,bF 0 1 5 p.2]))) (0,[]) fun (_,d,e,_,_) _ (c,b,a)=>((((),d,e,c,()),((((),b,()),()),a,())),xml d e c b a none)
def xdU (a:LA):=((a.getD 0 .top).cells.getD 0 .top).toInt
def xuv (a:LA):=xbW 32 ((xaN (Lib.itoa (xdU a))).getD (0,0,[])).snd.fst ((xaN (Lib.itoa (xdU a))).getD (0,0,[])).snd.snd
def xuu (a:LA):=(xuv a).getD (0,[])
def xut (a:LA):=Iter (xbO a (↑a.length:Int) 0 3 3) (1,(xuu a).fst,xdU a,((a.getD 0 .top).cells.getD 1 .top).toInt,((a.getD 0 .top).cells.getD 2 .top).toStr,[AV.int .i64 (xdU a),AV.int .i64 ((a.getD 0 .top).cells.getD 1 .top).toInt,AV.int .i64 (↑((a.getD 0 .top).cells.getD 2 .top).toStr.length:Int)],(xuu a).snd)
def xus (a:LA):=(xut a).getD (0,0,0,[],[])
def xur (a:LA):=(xus a).snd.snd.snd
def xuq (a:LA):=xaQ (xur a).fst (xus a).fst (xur a).snd
def xup (a:LA):=((xuq a).getD (0,0,[])).snd
def xuo (a:LA):=Iter (xec a (↑a.length:Int)) (1,(xup a).fst,(xup a).snd)
def xun (a:LA):=(xuo a).getD (0,[])
def xkK (a:LA):=(xun a).snd
def xwl {T:Type} (a:LA) (δ:T) (κ:List UInt8->T):T:=br (decide (0<(↑a.length:Int))) (br (decide (0<(↑a.length:Int))) (br (decide (0<a.length)&&((a.getD 0 .top).cells.length==3&&xTt [Sh.int .i64,Sh.int .i64,Sh.str] (a.getD 0 .top).cells 0)) (br (decide ((-9223372036854775808)<=xdU a)&&decide (xdU a<=9223372036854775807)) (br ((xaN (Lib.itoa (xdU a))).isSome) (br ((xuv a).isSome) (br ((xut a).isSome) (br ((xuq a).isSome) (br ((xuo a).isSome) (br (decide ((xun a).fst=(xkK a).length)&&isBytes (xkK a)&&decide ((xkK a).length≠0)) (κ (strOf (xkK a))) δ) δ) δ) δ) δ) δ) δ) δ) δ) (κ ([]))
def xql (a:LA):=xwl a none some
def xRH:EO:=xKt.f Tryz.func137 37 0 [] [(6,xkJ.lp),(3,xw8.lp)] (lks (lkC xw8.ok (lkC xkJ.ok lkN))) (u1 (uL 3)) (fun (a,_) _=>xwl a) (fun _ p=>AV.str p) []
def xn1 (x:Int):Bool:=((x != x))
def xIU {T:Type} (x:Int) (δ:T) (κ:Bool->T):T:=κ (x != x)
def xRI:EO:=xRH.fT Tryz.func132 6 0 [] [] lk0 (fun (x,_)=>xIU x none) (u1 uI) (fun (x,_)=>xn1 x) (fun _ p=>(AV.bool p))
def xlX (x y:Int):Int:=(br (xn1 x) (br (xn1 y) ((0)) (((-1)))) (br (xn1 y) ((1)) (br (decide (x<y)) (((-1))) (br (decide (x>y)) ((1)) ((0))))))
def xGx {T:Type} (x y:Int) (δ:T) (κ:Int->T):T:=br (xn1 x) (br (xn1 y) (κ (0)) (κ ((-1)))) (br (xn1 y) (κ (1)) (br (decide (x<y)) (κ ((-1))) (br (decide (x>y)) (κ (1)) (κ (0)))))
def xKu:EO:=xRI.fT Tryz.func103 20 0 [] [] lk0 (fun (x,y,_)=>xGx x y none) (u2 uI uI) (fun (x,y,_)=>xlX x y) (fun _ p=>(AV.int .i64 p))
def xqc:Env:=xKu.E.fn 18 0 (lsOf []) (xTL [])
theorem xHC:xTo P0 (xT5.at 0) xqc:=xKu.ok.fn
theorem xEK:LoOk P0 (xT5.at xqc.pin) xqc (Tryz.f115.body.getD .skip):=xgT (ls:=[xTs Tryz.f115 0]) (by kernel_rfl) (fun l a lp b=>by
 simp only [zC,List.not_mem_nil,or_false] at a;rcases a with rfl
 . rw [show xqc.lp (xTD (xTs Tryz.f115 0))=none by kernel_rfl] at b
   simp at b)
def xzE (a b c:Int):Int:=(br (a != 0) ((a)) (br (b != 0) ((b)) (br (c != 0) ((c)) ((0)))))
def xEL (a b c:Int):Bool:=true
def xHD {T:Type} (a b c:Int) (δ:T) (κ:Int->T):T:=br (a != 0) (κ (a)) (br (b != 0) (κ (b)) (br (c != 0) (κ (c)) (κ (0))))
theorem xNR (a b c:Int):Pre (xEL a b c) (XF P0 xqc Tryz.f115 (Tryz.f115.body.getD .skip) [AV.list 1 [AV.int .i64 a,AV.int .i64 b,AV.int .i64 c]]) (AV.int .i64 (xzE a b c)):=by
 have h:XF P0 xqc Tryz.f115 (Tryz.f115.body.getD .skip) [AV.list 1 [AV.int .i64 a,AV.int .i64 b,AV.int .i64 c]]=xHD a b c none (fun (p:Int)=>some ((AV.int .i64 p):AV)):=by kernel_rfl
 rw [h];unfold xzE xEL xHD;repeat' (first|exact Pre.none|exact Pre.tt rfl|exact Pre.some rfl|refine Pre.l ?_|refine Pre.r ?_|refine Pre.br (f:=fun (p:Int)=>((AV.int .i64 p):AV)) ?_ ?_|refine Pre.brt (f:=fun (p:Int)=>((AV.int .i64 p):AV)) ?_ ?_)
def xNQ:LA->Option (Bool×AV):=ocOf (xT7 (xUo 1 (xT6 (pInt .i64) (xT6 (pInt .i64) (xT6 (pInt .i64) xT8)))) xT9) fun ((a,(b,(c,_))),_)=>(true,(AV.int .i64 (xzE a b c)))
theorem xNP:OcOk P0 xT5 115 (xNQ):=xm6 fun e h f=>by
 obtain ⟨⟨a,⟨b,⟨c,_⟩⟩⟩,_⟩:=e;obtain ⟨g,d⟩:=Prod.mk.inj f;refine xdX (p:=xqc.pin) (xgd xTy (xTz P0 _) rfl xHC Tryz.func115 rfl (by kernel_rfl) xEK ((Pre.get (xNR _ _ _) rfl).trans ?_))
 exact congrArg some d
def xRJ:EO:=xKu.w xNP
def xbK (a b:Int) (c:List UInt8) (d e:Int) (f:List UInt8):Int:=((xzE (xlX a d) (xlX b e) (Lib.compareBytes c f)))
def xFB {T:Type} (a b:Int) (c:List UInt8) (d e:Int) (f:List UInt8) (δ:T) (κ:Int->T):T:=κ (xzE (xlX a d) (xlX b e) (Lib.compareBytes c f))
def xOS:EO:=xRJ.fT Tryz.func110 22 0 [] [] lk0 (fun ((a,b,c,_),(d,e,f,_),_)=>xFB a b c d e f none) (u2 (xUp (u3 uI uI (sEq pStr))) (xUp (u3 uI uI (sEq pStr)))) (fun ((a,b,c,_),(d,e,f,_),_)=>xbK a b c d e f) (fun _ p=>(AV.int .i64 p))
def xcJ (c b:LA) (a:Int):=xbK (gC b a 0).toInt (gC b a 1).toInt (gC b a 2).toStr (gC c a 0).toInt (gC c a 1).toInt (gC c a 2).toStr
def xc1 {T:Type} (e c b:LA) (d a:Int) (δ:T) (κl:(Int)->T) (κr:(Bool×(Int)×(Unit))->T):T:=br (decide (a<d)) (br (ixI b a) (br (ixT b a 3 [Sh.int .i64,Sh.int .i64,Sh.str] 0) (br (decide (a>=c.length)) (κr (true,(1),())) (br (ixI c a) (br (ixT c a 3 [Sh.int .i64,Sh.int .i64,Sh.str] 0) (br (xcJ c b a != 0) (κr (true,(xcJ c b a),())) (κl (i64.wrap (a+1)))) δ) δ)) δ) δ) (κr (false,0,()))
def xa9 (d e a:LA) (b:Int):StT (Int) (Bool×(Int)×(Unit)):=fun (c)=>xc1 d e a b c none inL inR
def xq0:=xOS.l 39 0 [] [] Tryz.f165 0 lk0 [0,1,2,11,12,13] [0,1,6] [] (q6 (qL 3) (qL 3) (xTM 110 xT8) (qL 3) qI qI) xT8 (fun (d,e,_,a,b,c,_) _=>(xa9 d e a b,(c),fun p=>(.node p.1 (.leaf .ret [AV.list 3 d,AV.list 3 e,AV.int .i64 p.2.1] []) (.leaf (.exit 0) [AV.list 3 d,AV.list 3 e,.top] [])))) (false,0,()) fun (d,e,_,a,b,_,_) _ (c)=>(((d,e,(),a,b,c,()),()),xc1 d e a b c none)
def xoo {T:Type} (a b:LA) (δ:T) (κ:Int->T):T:=br ((Iter (xa9 a b a (↑a.length:Int)) 0).isSome) (br (((Iter (xa9 a b a (↑a.length:Int)) 0).getD (false,0,())).fst) (κ (((Iter (xa9 a b a (↑a.length:Int)) 0).getD (false,0,())).snd.fst)) (br (decide ((↑a.length:Int)<(↑b.length:Int))) (κ ((-1))) (κ (0)))) δ
def xqx (a b:LA):=xoo a b none some
def xRK:EO:=xOS.f Tryz.func165 39 0 [] [(2,xq0.lp)] (lk1 xq0.ok) (u3 (uL 3) (uL 3) (sEq (xTM (110:FuncId) xT8))) (fun (a,b,_,_) _=>xoo a b) (fun _ p=>AV.int .i64 p) 0
def xvX {T:Type} (a b:LA) (δ:T) (κ:Int->T):T:=br ((xqx a b).isSome) (κ ((xqx a b).getD 0)) δ
def xgl (a b:LA):=xvX a b none some
def xRL:EO:=xRK.f Tryz.func134 8 0 [] [] lk0 (u2 (uL 3) (uL 3)) (fun (a,b,_) _=>xvX a b) (fun _ p=>AV.int .i64 p) 0
def xti {T:Type} (a c b d:LA) (δ:T) (κ:Int->T):T:=br ((xgl a b).isSome) (κ ((xgl a b).getD 0)) δ
def xed (c a d b:LA):=xti c a d b none some
def xKv:EO:=xRL.f Tryz.func139 10 0 [] [] lk0 (u2 (xUp (u2 (uL 3) (uL 2))) (xUp (u2 (uL 3) (uL 2)))) (fun ((c,a,_),(d,b,_),_) _=>xti c a d b) (fun _ p=>AV.int .i64 p) 0
def xer (a:Nat) (j:Int):=decide (0<=i64.wrap (j - 1))&&decide (i64.wrap (j - 1)<(↑a:Int))
def xcC (j:Int):Nat:=0+(i64.wrap (j - 1)).toNat
def xes (a:Nat) (j:Int):=decide (0<=j)&&decide (j<(↑a:Int))
def xhR (j:Int) (a:LA):=decide (0+j.toNat<a.length)
def xhP (j:Int) (a:LA):=xhR j a&&((a.getD (0+j.toNat) .top).cells.length==2&&xTt [Sh.list 3,Sh.list 2] (a.getD (0+j.toNat) .top).cells 0)
def xbb (j:Int) (a:LA):=(a.getD (xcC j) .top).cells
def xhN (j:Int) (a:LA):=decide (xcC j<a.length)&&((xbb j a).length==2&&xTt [Sh.list 3,Sh.list 2] (xbb j a) 0)
def xhO (j:Int) (a:LA):=xed ((a.getD (0+j.toNat) .top).cells.getD 0 .top).toList ((a.getD (0+j.toNat) .top).cells.getD 1 .top).toList ((xbb j a).getD 0 .top).toList ((xbb j a).getD 1 .top).toList
def xhQ (j:Int) (a:LA):=a.set (0+j.toNat) (AV.agg [AV.list 3 ((xbb j a).getD 0 .top).toList,AV.list 2 ((xbb j a).getD 1 .top).toList])
def xip {T:Type} (d:Nat) (a b i j:Int) (c:LA) (δ:T) (κl:(Int×LA)->T) (κr:(LA)->T):T:=br (decide (j>a)) (br (xes d j) (br (xhP j c) (br (xer d j) (br (xhN j c) (br ((xhO j c).isSome) (br (decide ((xhO j c).getD 0<0)) (br (xer d j) (br (xhN j c) (br (xes d j) (br (xhP j c) (br (xes d j) (br (xhR j c) (br (xer d j) (br (decide (xcC j<(xhQ j c).length)) (κl (i64.wrap (j - 1),(xhQ j c).set (xcC j) (AV.agg [AV.list 3 ((c.getD (0+j.toNat) .top).cells.getD 0 .top).toList,AV.list 2 ((c.getD (0+j.toNat) .top).cells.getD 1 .top).toList]))) δ) δ) δ) δ) δ) δ) δ) δ) (κr (c))) δ) δ) δ) δ) δ) (κr (c))
def xcb (d:Nat) (a b i:Int):StT (Int×LA) (LA):=fun (j,c)=>xip d a b i j c none inL inR
def xcB:=xKv.l 53 1 [159] [] Tryz.f192 1 lk0 [0,1,2,3,8,9] [0,1,2,3,8] [] (q6 (xUk 0 0 0) qI qI (xTM 139 xT8) qI qI) (q1 (qB 0 2 159 xUa)) (fun (c,a,b,_,i,j,_) (d,_)=>(xcb c a b i,(j,d),fun p=>(.leaf (.exit 2) [AV.osl 0 0 0 c,AV.int .i64 a,AV.int .i64 b,AV.func 139 [],AV.int .i64 i] [bF 0 2 159 p]))) [] fun (c,a,b,_,i,_,_) _ (j,d)=>(((c,a,b,(),i,j,()),(d,())),xip c a b i j d none)
def xio {T:Type} (d:Nat) (a b i:Int) (c:LA) (δ:T) (κl:(Int×LA)->T) (κr:(LA)->T):T:=br (decide (i<b)) (br ((Iter (xcb d a b i) (i,c)).isSome) (κl (i64.wrap (i+1),(Iter (xcb d a b i) (i,c)).getD [])) δ) (κr (c))
def xca (d:Nat) (a b:Int):StT (Int×LA) (LA):=fun (i,c)=>xio d a b i c none inL inR
def xhM:=xKv.l 53 1 [159] [(4,xcB.lp)] Tryz.f192 0 (lk1 xcB.ok) [0,1,2,3,8] [] [] (q5 (xUk 0 0 0) qI qI (xTM 139 xT8) qI) (q1 (qB 0 2 159 xUa)) (fun (d,a,b,_,i,_) (c,_)=>(xca d a b,(i,c),fun p=>(.leaf (.exit 0) [] [bF 0 2 159 p]))) [] fun (d,a,b,_,_,_) _ (i,c)=>(((d,a,b,(),i,()),(c,())),xio d a b i c none)
def xfM {T:Type} (n:Nat) (a b:Int) (c:LA) (δ:T) (κ:LA->T):T:=br ((Iter (xca n a b) (i64.wrap (a+1),c)).isSome) (κ ((Iter (xca n a b) (i64.wrap (a+1),c)).getD [])) δ
def xbM (n:Nat) (a b:Int) (c:LA):=xfM n a b c none some
def xOT:EO:=xKv.fM Tryz.func192 53 1 [159] [(4,xcB.lp),(1,xhM.lp)] (lks (lkC xhM.ok (lkC xcB.ok lkN))) (u4 (sEq (xUk 0 0 0)) uI uI (sEq (xTM (139:FuncId) xT8))) (q1 (qB 0 2 159 xUa)) (fun (n,a,b,_,_) (c,_) _=>xfM n a b c) (fun _ _ p=>(AV.tuple [],([bF 0 2 159 p]:List Box))) []
def xky (a i:Int) (b:LA):=decide (0+(i64.wrap (a+i)).toNat<b.length)
def xdf (a i:Int) (b:LA):=(b.getD (0+(i64.wrap (a+i)).toNat) .top).cells
def xkz (a:Nat) (b i:Int):=decide (0<=i64.wrap (b+i))&&decide (i64.wrap (b+i)<(↑a:Int))
def xkA (b:Nat) (a i:Int):=decide (0<=i64.wrap (a+i))&&decide (i64.wrap (a+i)<(↑b:Int))
def xdg (b i:Int):Nat:=0+(i64.wrap (b+i)).toNat
def xde (b i:Int) (a:LA):=(a.getD (xdg b i) .top).cells
def xkw (a b i:Int) (c:LA):=c.set (0+(i64.wrap (a+i)).toNat) (AV.agg [AV.list 3 ((xde b i c).getD 0 .top).toList,AV.list 2 ((xde b i c).getD 1 .top).toList])
def xld {T:Type} (d:Nat) (a b n i:Int) (c:LA) (δ:T) (κl:(Int×LA)->T) (κr:(LA)->T):T:=br (decide (i<n)) (br (xkz d b i) (br (decide (xdg b i<c.length)&&((xde b i c).length==2&&xTt [Sh.list 3,Sh.list 2] (xde b i c) 0)) (br (xkA d a i) (br (xky a i c&&((xdf a i c).length==2&&xTt [Sh.list 3,Sh.list 2] (xdf a i c) 0)) (br (xkA d a i) (br (xky a i c) (br (xkz d b i) (br (decide (xdg b i<(xkw a b i c).length)) (κl (i64.wrap (i+1),(xkw a b i c).set (xdg b i) (AV.agg [AV.list 3 ((xdf a i c).getD 0 .top).toList,AV.list 2 ((xdf a i c).getD 1 .top).toList]))) δ) δ) δ) δ) δ) δ) δ) δ) (κr (c))
def xcQ (d:Nat) (a b n:Int):StT (Int×LA) (LA):=fun (i,c)=>xld d a b n i c none inL inR
def xkv:=xOT.l 38 1 [159] [] Tryz.f210 0 lk0 [0,1,2,3,10] [] [] (q5 (xUk 0 0 0) qI qI qI qI) (q1 (qB 0 2 159 xUa)) (fun (d,a,b,n,i,_) (c,_)=>(xcQ d a b n,(i,c),fun p=>(.leaf (.exit 0) [] [bF 0 2 159 p]))) [] fun (d,a,b,n,_,_) _ (i,c)=>(((d,a,b,n,i,()),(c,())),xld d a b n i c none)
def xhq {T:Type} (n:Nat) (a b k:Int) (c:LA) (δ:T) (κ:LA->T):T:=br ((Iter (xcQ n a b k) (0,c)).isSome) (κ ((Iter (xcQ n a b k) (0,c)).getD [])) δ
def xbp (n:Nat) (a b k:Int) (c:LA):=xhq n a b k c none some
def xOU:EO:=xOT.fM Tryz.func210 38 1 [159] [(1,xkv.lp)] (lk1 xkv.ok) (u5 (sEq (xUk 0 0 0)) uI uI uI (sEq (xTM (139:FuncId) xT8))) (q1 (qB 0 2 159 xUa)) (fun (n,a,b,k,_,_) (c,_) _=>xhq n a b k c) (fun _ _ p=>(AV.tuple [],([bF 0 2 159 p]:List Box))) []
def xn5 {T:Type} (b:Nat) (m i j:Int) (a:LA) (δ:T) (κl:(Int×Int×LA)->T) (κr:(Int×LA)->T):T:=br (i != j) (br (decide (i>j)) (br ((xbp b (i64.wrap (m - i)) m j a).isSome) (κl (i64.wrap (i - j),j,(xbp b (i64.wrap (m - i)) m j a).getD [])) δ) (br ((xbp b (i64.wrap (m - i)) (i64.wrap (i64.wrap (m+j) - i)) i a).isSome) (κl (i,i64.wrap (j - i),(xbp b (i64.wrap (m - i)) (i64.wrap (i64.wrap (m+j) - i)) i a).getD [])) δ)) (κr (i,a))
def xf8 (b:Nat) (m:Int):StT (Int×Int×LA) (Int×LA):=fun (i,j,a)=>xn5 b m i j a none inL inR
def xnB:=xOU.l 58 1 [159] [] Tryz.f205 0 lk0 [0,2,4,10,11] [0,2,4,10] [] (q5 (xUk 0 0 0) qI (xTM 139 xT8) qI qI) (q1 (qB 0 2 159 xUa)) (fun (a,m,_,i,j,_) (b,_)=>(xf8 a m,(i,j,b),fun p=>(.leaf (.exit 0) [AV.osl 0 0 0 a,AV.int .i64 m,AV.func 139 [],AV.int .i64 p.1] [bF 0 2 159 p.2]))) (0,[]) fun (a,m,_,_,_,_) _ (i,j,b)=>(((a,m,(),i,j,()),(b,())),xn5 a m i j b none)
def xi5 (n:Nat) (a m b:Int) (c:LA):=Iter (xf8 n m) (i64.wrap (m - a),i64.wrap (b - m),c)
def xi4 (n:Nat) (a m b:Int) (c:LA):=(xi5 n a m b c).getD (0,[])
def xi3 (n:Nat) (a m b:Int) (c:LA):=(xi4 n a m b c).fst
def xi2 (n:Nat) (a m b:Int) (c:LA):=xbp n (i64.wrap (m - xi3 n a m b c)) m (xi3 n a m b c) (xi4 n a m b c).snd
def xj4 {T:Type} (n:Nat) (a m b:Int) (c:LA) (δ:T) (κ:LA->T):T:=br ((xi5 n a m b c).isSome) (br ((xi2 n a m b c).isSome) (κ ((xi2 n a m b c).getD [])) δ) δ
def xcv (n:Nat) (a m b:Int) (c:LA):=xj4 n a m b c none some
def xzb:EO:=xOU.fM Tryz.func205 58 1 [159] [(2,xnB.lp)] (lk1 xnB.ok) (u5 (sEq (xUk 0 0 0)) uI uI uI (sEq (xTM (139:FuncId) xT8))) (q1 (qB 0 2 159 xUa)) (fun (n,a,m,b,_,_) (c,_) _=>xj4 n a m b c) (fun _ _ p=>(AV.tuple [],([bF 0 2 159 p]:List Box))) []
def xbE (i j:Int):=i64.wrap ((u64.wrap (i64.wrap (i+j))).fdiv 2)
def xdz (i j:Int) (a:LA):=(a.getD (0+(xbE i j).toNat) .top).cells
def xle (a i j:Int) (b:LA):=xed ((xdz i j b).getD 0 .top).toList ((xdz i j b).getD 1 .top).toList ((b.getD (0+a.toNat) .top).cells.getD 0 .top).toList ((b.getD (0+a.toNat) .top).cells.getD 1 .top).toList
def xmf {T:Type} (c:Nat) (a i j:Int) (b:LA) (δ:T) (κl:(Int×Int×LA)->T) (κr:(Int×LA)->T):T:=br (decide (i<j)) (br (decide (0<=xbE i j)&&decide (xbE i j<(↑c:Int))) (br (decide (0+(xbE i j).toNat<b.length)&&((xdz i j b).length==2&&xTt [Sh.list 3,Sh.list 2] (xdz i j b) 0)) (br (decide (0<=a)&&decide (a<(↑c:Int))) (br (decide (0+a.toNat<b.length)&&((b.getD (0+a.toNat) .top).cells.length==2&&xTt [Sh.list 3,Sh.list 2] (b.getD (0+a.toNat) .top).cells 0)) (br ((xle a i j b).isSome) (br (decide ((xle a i j b).getD 0<0)) (κl (i64.wrap (xbE i j+1),j,b)) (κl (i,xbE i j,b))) δ) δ) δ) δ) δ) (κr (i,b))
def xbX (c:Nat) (a:Int):StT (Int×Int×LA) (Int×LA):=fun (i,j,b)=>xmf c a i j b none inL inR
def xbh:=xzb.l 220 1 [159] [] Tryz.f193 0 lk0 [0,1,4,10,11] [0,1,10] [] (q5 (xUk 0 0 0) qI (xTM 139 xT8) qI qI) (q1 (qB 0 2 159 xUa)) (fun (b,a,_,i,j,_) (c,_)=>(xbX b a,(i,j,c),fun p=>(.leaf (.exit 0) [AV.osl 0 0 0 b,AV.int .i64 a,AV.int .i64 p.1] [bF 0 2 159 p.2]))) (0,[]) fun (b,a,_,_,_,_) _ (i,j,c)=>(((b,a,(),i,j,()),(c,())),xmf b a i j c none)
def xlg (a:Nat) (k:Int):=decide (0<=i64.wrap (k+1))&&decide (i64.wrap (k+1)<(↑a:Int))
def xdB (k:Int):Nat:=0+(i64.wrap (k+1)).toNat
def xlh (k:Int) (a:LA):=decide (0+k.toNat<a.length)
def xdA (k:Int) (a:LA):=(a.getD (xdB k) .top).cells
def xlf (k:Int) (a:LA):=a.set (0+k.toNat) (AV.agg [AV.list 3 ((xdA k a).getD 0 .top).toList,AV.list 2 ((xdA k a).getD 1 .top).toList])
def xmg {T:Type} (b:Nat) (i k:Int) (a:LA) (δ:T) (κl:(Int×LA)->T) (κr:(LA)->T):T:=br (decide (k<i64.wrap (i - 1))) (br (xlg b k) (br (decide (xdB k<a.length)&&((xdA k a).length==2&&xTt [Sh.list 3,Sh.list 2] (xdA k a) 0)) (br (decide (0<=k)&&decide (k<(↑b:Int))) (br (xlh k a&&((a.getD (0+k.toNat) .top).cells.length==2&&xTt [Sh.list 3,Sh.list 2] (a.getD (0+k.toNat) .top).cells 0)) (br (decide (0<=k)&&decide (k<(↑b:Int))) (br (xlh k a) (br (xlg b k) (br (decide (xdB k<(xlf k a).length)) (κl (i64.wrap (k+1),(xlf k a).set (xdB k) (AV.agg [AV.list 3 ((a.getD (0+k.toNat) .top).cells.getD 0 .top).toList,AV.list 2 ((a.getD (0+k.toNat) .top).cells.getD 1 .top).toList]))) δ) δ) δ) δ) δ) δ) δ) δ) (κr (a))
def xff (b:Nat) (i:Int):StT (Int×LA) (LA):=fun (k,a)=>xmg b i k a none inL inR
def xbF:=xzb.l 220 1 [159] [(3,xbh.lp)] Tryz.f193 1 lk0 [0,10,13] [] [] (q3 (xUk 0 0 0) qI qI) (q1 (qB 0 2 159 xUa)) (fun (b,i,k,_) (a,_)=>(xff b i,(k,a),fun p=>(.leaf (.exit 2) [] [bF 0 2 159 p]))) [] fun (b,i,_,_) _ (k,a)=>(((b,i,k,()),(a,())),xmg b i k a none)
def xbG (i j:Int):=i64.wrap ((u64.wrap (i64.wrap (i+j))).fdiv 2)
def xdC (i j:Int) (a:LA):=(a.getD (0+(xbG i j).toNat) .top).cells
def xli (m i j:Int) (a:LA):=xed ((a.getD (0+m.toNat) .top).cells.getD 0 .top).toList ((a.getD (0+m.toNat) .top).cells.getD 1 .top).toList ((xdC i j a).getD 0 .top).toList ((xdC i j a).getD 1 .top).toList
def xmh {T:Type} (b:Nat) (m i j:Int) (a:LA) (δ:T) (κl:(Int×Int×LA)->T) (κr:(Int×LA)->T):T:=br (decide (i<j)) (br (decide (0<=m)&&decide (m<(↑b:Int))) (br (decide (0+m.toNat<a.length)&&((a.getD (0+m.toNat) .top).cells.length==2&&xTt [Sh.list 3,Sh.list 2] (a.getD (0+m.toNat) .top).cells 0)) (br (decide (0<=xbG i j)&&decide (xbG i j<(↑b:Int))) (br (decide (0+(xbG i j).toNat<a.length)&&((xdC i j a).length==2&&xTt [Sh.list 3,Sh.list 2] (xdC i j a) 0)) (br ((xli m i j a).isSome) (br (!decide ((xli m i j a).getD 0<0)) (κl (i64.wrap (xbG i j+1),j,a)) (κl (i,xbG i j,a))) δ) δ) δ) δ) δ) (κr (i,a))
def xbY (b:Nat) (m:Int):StT (Int×Int×LA) (Int×LA):=fun (i,j,a)=>xmh b m i j a none inL inR
def xcr:=xzb.l 220 1 [159] [(3,xbh.lp),(9,xbF.lp)] Tryz.f193 2 lk0 [0,2,4,14,15] [0,2,14] [] (q5 (xUk 0 0 0) qI (xTM 139 xT8) qI qI) (q1 (qB 0 2 159 xUa)) (fun (a,m,_,i,j,_) (b,_)=>(xbY a m,(i,j,b),fun p=>(.leaf (.exit 4) [AV.osl 0 0 0 a,AV.int .i64 m,AV.int .i64 p.1] [bF 0 2 159 p.2]))) (0,[]) fun (a,m,_,_,_,_) _ (i,j,b)=>(((a,m,(),i,j,()),(b,())),xmh a m i j b none)
def xlk (a:Nat) (k:Int):=decide (0<=i64.wrap (k - 1))&&decide (i64.wrap (k - 1)<(↑a:Int))
def xdF (k:Int):Nat:=0+(i64.wrap (k - 1)).toNat
def xll (k:Int) (a:LA):=decide (0+k.toNat<a.length)
def xdE (k:Int) (a:LA):=(a.getD (xdF k) .top).cells
def xlj (k:Int) (a:LA):=a.set (0+k.toNat) (AV.agg [AV.list 3 ((xdE k a).getD 0 .top).toList,AV.list 2 ((xdE k a).getD 1 .top).toList])
def xmi {T:Type} (b:Nat) (i k:Int) (a:LA) (δ:T) (κl:(Int×LA)->T) (κr:(LA)->T):T:=br (decide (k>i)) (br (xlk b k) (br (decide (xdF k<a.length)&&((xdE k a).length==2&&xTt [Sh.list 3,Sh.list 2] (xdE k a) 0)) (br (decide (0<=k)&&decide (k<(↑b:Int))) (br (xll k a&&((a.getD (0+k.toNat) .top).cells.length==2&&xTt [Sh.list 3,Sh.list 2] (a.getD (0+k.toNat) .top).cells 0)) (br (decide (0<=k)&&decide (k<(↑b:Int))) (br (xll k a) (br (xlk b k) (br (decide (xdF k<(xlj k a).length)) (κl (i64.wrap (k - 1),(xlj k a).set (xdF k) (AV.agg [AV.list 3 ((a.getD (0+k.toNat) .top).cells.getD 0 .top).toList,AV.list 2 ((a.getD (0+k.toNat) .top).cells.getD 1 .top).toList]))) δ) δ) δ) δ) δ) δ) δ) δ) (κr (a))
def xfg (b:Nat) (i:Int):StT (Int×LA) (LA):=fun (k,a)=>xmi b i k a none inL inR
def xdD:=xzb.l 220 1 [159] [(3,xbh.lp),(9,xbF.lp),(15,xcr.lp)] Tryz.f193 3 lk0 [0,14,17] [] [] (q3 (xUk 0 0 0) qI qI) (q1 (qB 0 2 159 xUa)) (fun (b,i,k,_) (a,_)=>(xfg b i,(k,a),fun p=>(.leaf (.exit 6) [] [bF 0 2 159 p]))) [] fun (b,i,_,_) _ (k,a)=>(((b,i,k,()),(a,())),xmi b i k a none)
def xaV (a r:Int):=i64.wrap ((u64.wrap (i64.wrap (a+r))).fdiv 2)
def xdG (c b r:Int) (a:LA):=(a.getD (0+(i64.wrap (c - xaV b r)).toNat) .top).cells
def xdH (b r:Int) (a:LA):=(a.getD (0+(xaV b r).toNat) .top).cells
def xlm (c b r:Int) (a:LA):=xed ((xdG c b r a).getD 0 .top).toList ((xdG c b r a).getD 1 .top).toList ((xdH b r a).getD 0 .top).toList ((xdH b r a).getD 1 .top).toList
def xmj {T:Type} (e:Nat) (a m b g n f c r:Int) (d:LA) (δ:T) (κl:(Int×Int×LA)->T) (κr:(Int×LA)->T):T:=br (decide (c<r)) (br (decide (0<=i64.wrap (f - xaV c r))&&decide (i64.wrap (f - xaV c r)<(↑e:Int))) (br (decide (0+(i64.wrap (f - xaV c r)).toNat<d.length)&&((xdG f c r d).length==2&&xTt [Sh.list 3,Sh.list 2] (xdG f c r d) 0)) (br (decide (0<=xaV c r)&&decide (xaV c r<(↑e:Int))) (br (decide (0+(xaV c r).toNat<d.length)&&((xdH c r d).length==2&&xTt [Sh.list 3,Sh.list 2] (xdH c r d) 0)) (br ((xlm f c r d).isSome) (br (!decide ((xlm f c r d).getD 0<0)) (κl (i64.wrap (xaV c r+1),r,d)) (κl (c,xaV c r,d))) δ) δ) δ) δ) δ) (κr (c,d))
def xc8 (d:Nat) (a m b f n g:Int):StT (Int×Int×LA) (Int×LA):=fun (e,r,c)=>xmj d a m b f n g e r c none inL inR
def xga:=xzb.l 220 1 [159] [(3,xbh.lp),(9,xbF.lp),(15,xcr.lp),(21,xdD.lp)] Tryz.f193 4 lk0 [0,1,2,3,4,18,19,20,21,22] [0,1,2,3,4,18,19,20] [] (q10 (xUk 0 0 0) qI qI qI (xTM 139 xT8) qI qI qI qI qI) (q1 (qB 0 2 159 xUa)) (fun (c,a,m,b,_,f,n,e,r,g,_) (d,_)=>(xc8 c a m b f n g,(e,r,d),fun p=>(.leaf (.exit 8) [AV.osl 0 0 0 c,AV.int .i64 a,AV.int .i64 m,AV.int .i64 b,AV.func 139 [],AV.int .i64 f,AV.int .i64 n,AV.int .i64 p.1] [bF 0 2 159 p.2]))) (0,[]) fun (c,a,m,b,_,f,n,_,_,g,_) _ (e,r,d)=>(((c,a,m,b,(),f,n,e,r,g,()),(d,())),xmj c a m b f n g e r d none)
def xgm (R:Nat->Int->Int->Int->LA->Option (LA)):LA->List Box->Option (Bool×AV×List Box):=omOf (xT7 (sEq (xUk 0 0 0)) (xT7 (sEq (pInt .i64)) (xT7 (sEq (pInt .i64)) (xT7 (sEq (pInt .i64)) (xT7 (sEq (xTM (139:FuncId) xT8)) xT9))))) (xT6 (xUn 0 2 (159:TypeId) false true xUa) xT8) fun (n,(a,(m,(b,(_,_))))) (c,_)=>((R n a m b c).isSome,(AV.tuple [],([⟨0,2,159,((R n a m b c).getD []),false,true⟩]:List Box)))
def xa0 (R:Nat->Int->Int->Int->LA->Option (LA)):Env:=(xzb.E.withM 193 (xgm R)).fn 220 1 (lsOf [159]) (xTL [(3,xbh.lp),(9,xbF.lp),(15,xcr.lp),(21,xdD.lp),(33,xga.lp)])
def xf9 (R:Nat->Int->Int->Int->LA->Option (LA)):Prop:=OmOk P0 xT5 193 (xgm R)
theorem xvw (R:Nat->Int->Int->Int->LA->Option (LA)) (a:xf9 R):xTo P0 (xT5.at 1) (xa0 R):=(xzb.ok.withM a).fn
theorem xsF (R:Nat->Int->Int->Int->LA->Option (LA)):LoOk P0 (xT5.at (xa0 R).pin) (xa0 R) (Tryz.f193.body.getD .skip):=xgT (ls:=[xTs Tryz.f193 0,xTs Tryz.f193 1,xTs Tryz.f193 2,xTs Tryz.f193 3,xTs Tryz.f193 4]) (by kernel_rfl) (fun l b lp a=>by
 simp only [zC,List.not_mem_nil,or_false] at b;rcases b with rfl|rfl|rfl|rfl|rfl
 . rw [show (xa0 R).lp (xTD (xTs Tryz.f193 0))=some xbh.lp by kernel_rfl] at a
   simp only [z6] at a;subst a;exact xbh.ok
 . rw [show (xa0 R).lp (xTD (xTs Tryz.f193 1))=some xbF.lp by kernel_rfl] at a
   simp only [z6] at a;subst a;exact xbF.ok
 . rw [show (xa0 R).lp (xTD (xTs Tryz.f193 2))=some xcr.lp by kernel_rfl] at a
   simp only [z6] at a;subst a;exact xcr.ok
 . rw [show (xa0 R).lp (xTD (xTs Tryz.f193 3))=some xdD.lp by kernel_rfl] at a
   simp only [z6] at a;subst a;exact xdD.ok
 . rw [show (xa0 R).lp (xTD (xTs Tryz.f193 4))=some xga.lp by kernel_rfl] at a
   simp only [z6] at a;subst a;exact xga.ok)
def xaa (a b:Int):=i64.wrap ((u64.wrap (i64.wrap (a+b))).fdiv 2)
def xaE (n:Nat) (a m b:Int) (c:LA):=Iter (xff n ((Iter (xbX n a) (m,b,c)).getD (0,[])).fst) (a,((Iter (xbX n a) (m,b,c)).getD (0,[])).snd)
def xaF (n:Nat) (a m:Int) (b:LA):=Iter (xfg n ((Iter (xbY n m) (a,m,b)).getD (0,[])).fst) (m,((Iter (xbY n m) (a,m,b)).getD (0,[])).snd)
def xaG (n:Nat) (a m b:Int) (c:LA):=Iter (xc8 n a m b (xaa a b) (i64.wrap (xaa a b+m)) (i64.wrap (i64.wrap (xaa a b+m) - 1))) (i64.wrap (i64.wrap (xaa a b+m) - b),xaa a b,c)
def xaI (n:Nat) (a m b:Int) (c:LA):=Iter (xc8 n a m b (xaa a b) (i64.wrap (xaa a b+m)) (i64.wrap (i64.wrap (xaa a b+m) - 1))) (a,m,c)
def xaD (n:Nat) (a m b:Int) (c:LA):=(xaG n a m b c).getD (0,[])
def xaH (n:Nat) (a m b:Int) (c:LA):=(xaI n a m b c).getD (0,[])
def xab (n:Nat) (a m b:Int) (c:LA):=(xaD n a m b c).fst
def xac (n:Nat) (a m b:Int) (c:LA):=(xaH n a m b c).fst
def xah (n:Nat) (a m b:Int) (c:LA):=(xaD n a m b c).snd
def xai (n:Nat) (a m b:Int) (c:LA):=(xaH n a m b c).snd
def xae (n:Nat) (a m b:Int) (c:LA):=i64.wrap (i64.wrap (xaa a b+m) - xab n a m b c)
def xaf (n:Nat) (a m b:Int) (c:LA):=i64.wrap (i64.wrap (xaa a b+m) - xac n a m b c)
def xaz (n:Nat) (a m b:Int) (c:LA):=decide (xab n a m b c<xaa a b)
def xaA (n:Nat) (a m b:Int) (c:LA):=decide (a<xab n a m b c)
def xaB (n:Nat) (a m b:Int) (c:LA):=decide (xac n a m b c<xaa a b)
def xaC (n:Nat) (a m b:Int) (c:LA):=decide (a<xac n a m b c)
def xan (n:Nat) (a m b:Int) (c:LA):=decide (xaa a b<xae n a m b c)
def xao (n:Nat) (a m b:Int) (c:LA):=decide (xae n a m b c<b)
def xap (n:Nat) (a m b:Int) (c:LA):=decide (xaa a b<xaf n a m b c)
def xaq (n:Nat) (a m b:Int) (c:LA):=decide (xaf n a m b c<b)
def xak (n:Nat) (a m b:Int) (c:LA):=(xcv n (xab n a m b c) m (xae n a m b c) (xah n a m b c)).getD []
def xal (n:Nat) (a m b:Int) (c:LA):=(xcv n (xac n a m b c) m (xaf n a m b c) (xai n a m b c)).getD []
def xaJ (R:Nat->Int->Int->Int->LA->Option (LA)) (n:Nat) (a m b:Int) (c:LA):Option (LA):=R n (xaa a b) (xaf n a m b c) b ((R n a (xac n a m b c) (xaa a b) (xal n a m b c)).getD [])
def xaK (R:Nat->Int->Int->Int->LA->Option (LA)) (n:Nat) (a m b:Int) (c:LA):Option (LA):=R n (xaa a b) (xae n a m b c) b ((R n a (xab n a m b c) (xaa a b) (xak n a m b c)).getD [])
def xat {T:Type} (R:Nat->Int->Int->Int->LA->Option (LA)) (n:Nat) (a m b:Int) (c:LA) (δ:T) (κ:LA->T):T:=br (xan n a m b c) (br (xao n a m b c) (br ((R n (xaa a b) (xae n a m b c) b (xak n a m b c)).isSome) (κ ((R n (xaa a b) (xae n a m b c) b (xak n a m b c)).getD [])) δ) (κ (xak n a m b c))) (κ (xak n a m b c))
def xau {T:Type} (R:Nat->Int->Int->Int->LA->Option (LA)) (n:Nat) (a m b:Int) (c:LA) (δ:T) (κ:LA->T):T:=br (xap n a m b c) (br (xaq n a m b c) (br ((R n (xaa a b) (xaf n a m b c) b (xal n a m b c)).isSome) (κ ((R n (xaa a b) (xaf n a m b c) b (xal n a m b c)).getD [])) δ) (κ (xal n a m b c))) (κ (xal n a m b c))
def xav {T:Type} (R:Nat->Int->Int->Int->LA->Option (LA)) (n:Nat) (a m b:Int) (c:LA) (δ:T) (κ:LA->T):T:=br (xan n a m b c) (br (xao n a m b c) (br ((R n (xaa a b) (xae n a m b c) b (xah n a m b c)).isSome) (κ ((R n (xaa a b) (xae n a m b c) b (xah n a m b c)).getD [])) δ) (κ (xah n a m b c))) (κ (xah n a m b c))
def xar {T:Type} (R:Nat->Int->Int->Int->LA->Option (LA)) (n:Nat) (a m b:Int) (c:LA) (δ:T) (κ:LA->T):T:=br (xaA n a m b c) (br (xaz n a m b c) (br ((R n a (xab n a m b c) (xaa a b) (xah n a m b c)).isSome) (br (xan n a m b c) (br (xao n a m b c) (br ((R n (xaa a b) (xae n a m b c) b ((R n a (xab n a m b c) (xaa a b) (xah n a m b c)).getD [])).isSome) (κ ((R n (xaa a b) (xae n a m b c) b ((R n a (xab n a m b c) (xaa a b) (xah n a m b c)).getD [])).getD [])) δ) (κ ((R n a (xab n a m b c) (xaa a b) (xah n a m b c)).getD []))) (κ ((R n a (xab n a m b c) (xaa a b) (xah n a m b c)).getD []))) δ) (xav R n a m b c δ κ)) (xav R n a m b c δ κ)
def xaw {T:Type} (R:Nat->Int->Int->Int->LA->Option (LA)) (n:Nat) (a m b:Int) (c:LA) (δ:T) (κ:LA->T):T:=br (xap n a m b c) (br (xaq n a m b c) (br ((R n (xaa a b) (xaf n a m b c) b (xai n a m b c)).isSome) (κ ((R n (xaa a b) (xaf n a m b c) b (xai n a m b c)).getD [])) δ) (κ (xai n a m b c))) (κ (xai n a m b c))
def xas {T:Type} (R:Nat->Int->Int->Int->LA->Option (LA)) (n:Nat) (a m b:Int) (c:LA) (δ:T) (κ:LA->T):T:=br (xaC n a m b c) (br (xaB n a m b c) (br ((R n a (xac n a m b c) (xaa a b) (xai n a m b c)).isSome) (br (xap n a m b c) (br (xaq n a m b c) (br ((R n (xaa a b) (xaf n a m b c) b ((R n a (xac n a m b c) (xaa a b) (xai n a m b c)).getD [])).isSome) (κ ((R n (xaa a b) (xaf n a m b c) b ((R n a (xac n a m b c) (xaa a b) (xai n a m b c)).getD [])).getD [])) δ) (κ ((R n a (xac n a m b c) (xaa a b) (xai n a m b c)).getD []))) (κ ((R n a (xac n a m b c) (xaa a b) (xai n a m b c)).getD []))) δ) (xaw R n a m b c δ κ)) (xaw R n a m b c δ κ)
def xaL {T:Type} (R:Nat->Int->Int->Int->LA->Option (LA)) (n:Nat) (a m b:Int) (c:LA) (δ:T) (κ:LA->T):T:=br (i64.wrap (m - a)==1) (br ((Iter (xbX n a) (m,b,c)).isSome) (br ((xaE n a m b c).isSome) (κ ((xaE n a m b c).getD [])) δ) δ) (br (i64.wrap (b - m)==1) (br ((Iter (xbY n m) (a,m,c)).isSome) (br ((xaF n a m c).isSome) (κ ((xaF n a m c).getD [])) δ) δ) (br (decide (m>xaa a b)) (br ((xaG n a m b c).isSome) (br (decide (xab n a m b c<m)) (br (decide (m<xae n a m b c)) (br ((xcv n (xab n a m b c) m (xae n a m b c) (xah n a m b c)).isSome) (br (xaA n a m b c) (br (xaz n a m b c) (br ((R n a (xab n a m b c) (xaa a b) (xak n a m b c)).isSome) (br (xan n a m b c) (br (xao n a m b c) (br ((xaK R n a m b c).isSome) (κ ((xaK R n a m b c).getD [])) δ) (κ ((R n a (xab n a m b c) (xaa a b) (xak n a m b c)).getD []))) (κ ((R n a (xab n a m b c) (xaa a b) (xak n a m b c)).getD []))) δ) (xat R n a m b c δ κ)) (xat R n a m b c δ κ)) δ) (xar R n a m b c δ κ)) (xar R n a m b c δ κ)) δ) (br ((xaI n a m b c).isSome) (br (decide (xac n a m b c<m)) (br (decide (m<xaf n a m b c)) (br ((xcv n (xac n a m b c) m (xaf n a m b c) (xai n a m b c)).isSome) (br (xaC n a m b c) (br (xaB n a m b c) (br ((R n a (xac n a m b c) (xaa a b) (xal n a m b c)).isSome) (br (xap n a m b c) (br (xaq n a m b c) (br ((xaJ R n a m b c).isSome) (κ ((xaJ R n a m b c).getD [])) δ) (κ ((R n a (xac n a m b c) (xaa a b) (xal n a m b c)).getD []))) (κ ((R n a (xac n a m b c) (xaa a b) (xal n a m b c)).getD []))) δ) (xau R n a m b c δ κ)) (xau R n a m b c δ κ)) δ) (xas R n a m b c δ κ)) (xas R n a m b c δ κ)) δ)))
def xay (R:Nat->Int->Int->Int->LA->Option (LA)) (n:Nat) (a m b:Int) (c:LA):=xaL R n a m b c none some
theorem xyX (R:Nat->Int->Int->Int->LA->Option (LA)) (n:Nat) (a m b:Int) (xs:LA):Enc (fun (p:LA)=>(((AV.tuple [],([⟨0,2,159,p,false,true⟩]:List Box))):(AV×List Box))) (xay R n a m b xs) (XFM P0 (xa0 R) Tryz.f193 (Tryz.f193.body.getD .skip) [AV.osl (0:Id) 0 0 n,AV.int .i64 a,AV.int .i64 m,AV.int .i64 b,AV.func (139:FuncId) []] [{ ver:=0,sz:=2,ty:=(159:TypeId),xs:=xs,frz:=false,pm:=true }]):=by
 refine eV (xaL R n a m b xs none (fun (p:LA)=>some (((AV.tuple [],([⟨0,2,159,p,false,true⟩]:List Box))):(AV×List Box)))) (by kernel_rfl) ?_;unfold xay xaL xar xas xat xau xav xaw;repeat' first|exact eN|exact eS rfl|apply eB
def xyW (R:Nat->Int->Int->Int->LA->Option (LA)):LA->List Box->Option (Bool×AV×List Box):=omOf (xT7 (sEq (xUk 0 0 0)) (xT7 (sEq (pInt .i64)) (xT7 (sEq (pInt .i64)) (xT7 (sEq (pInt .i64)) (xT7 (sEq (xTM (139:FuncId) xT8)) xT9))))) (xT6 (xUn 0 2 (159:TypeId) false true xUa) xT8) fun (n,(a,(m,(b,(_,_))))) (c,_)=>((xay R n a m b c).isSome,((AV.tuple [],([⟨0,2,159,((xay R n a m b c).getD []),false,true⟩]:List Box))))
theorem xyV (R:Nat->Int->Int->Int->LA->Option (LA)) (f:xf9 R):OmOk P0 xT5 193 (xyW R):=xrA fun g h k j i=>by
 obtain ⟨n,⟨a,⟨m,⟨b,⟨_,_⟩⟩⟩⟩⟩:=g;obtain ⟨l,_⟩:=h;obtain ⟨c,e⟩:=Prod.mk.inj i;refine xjv (p:=(xa0 R).pin) (xkL xTy (xTz P0 _) rfl (xvw R f) rfl Tryz.func193 rfl (by kernel_rfl) (xsF R) ((xyX R _ _ _ _ _ _ (xcf (d:=[]) c)).trans ?_))
 exact congrArg some e
def xaU:Nat->Nat->Int->Int->Int->LA->Option (LA)
 | 0=>fun _ _ _ _ _=>none
 | fu_+1=>fun n a m b c=>xay (xaU fu_) n a m b c
theorem xme:∀ n,xf9 (xaU n)
 | 0=>xrA fun _ _ _ _ h=>absurd (Prod.mk.inj h).1 Bool.false_ne_true
 | fu_+1=>fun a H r b h=>xyV (xaU fu_) (xme fu_) a H r b h
def xOV:Env:=xzb.E.withM 193 (xgm (xaU 1000))
theorem xND:xTo P0 xT5 xOV:=xzb.ok.withM (xme _)
def xBI:EO:=EO.mk xOV xND
def xn7 {T:Type} (d:Nat) (n e a b:Int) (c:LA) (δ:T) (κl:(Int×Int×LA)->T) (κr:(Int×LA)->T):T:=br (decide (b<=n)) (br ((xbM d a b c).isSome) (κl (b,i64.wrap (b+e),(xbM d a b c).getD [])) δ) (κr (a,c))
def xcq (e:Nat) (n c:Int):StT (Int×Int×LA) (Int×LA):=fun (a,b,d)=>xn7 e n c a b d none inL inR
def xev:=xBI.l 63 1 [159] [] Tryz.f168 0 lk0 [0,1,2,6,7,8] [0,1,2,6,7] [] (q6 (xUk 0 0 0) qI (xTM 139 xT8) qI qI qI) (q1 (qB 0 2 159 xUa)) (fun (d,n,_,c,a,b,_) (e,_)=>(xcq d n c,(a,b,e),fun p=>(.leaf (.exit 0) [AV.osl 0 0 0 d,AV.int .i64 n,AV.func 139 [],AV.int .i64 c,AV.int .i64 p.1] [bF 0 2 159 p.2]))) (0,[]) fun (d,n,_,c,_,_,_) _ (a,b,e)=>(((d,n,(),c,a,b,()),(e,())),xn7 d n c a b e none)
def xn8 {T:Type} (e:Nat) (n c a b:Int) (d:LA) (δ:T) (κl:(Int×Int×LA)->T) (κr:(Int×LA)->T):T:=br (decide (b<=n)) (br ((xaU 1000 e a (i64.wrap (a+c)) b d).isSome) (κl (b,i64.wrap (b+i64.wrap (2*c)),(xaU 1000 e a (i64.wrap (a+c)) b d).getD [])) δ) (κr (a,d))
def xdy (e:Nat) (n c:Int):StT (Int×Int×LA) (Int×LA):=fun (a,b,d)=>xn8 e n c a b d none inL inR
def xeD:=xBI.l 63 1 [159] [(2,xev.lp)] Tryz.f168 2 lk0 [0,1,2,6,7,8] [0,1,2,6,7] [] (q6 (xUk 0 0 0) qI (xTM 139 xT8) qI qI qI) (q1 (qB 0 2 159 xUa)) (fun (d,n,_,c,a,b,_) (e,_)=>(xdy d n c,(a,b,e),fun p=>(.leaf (.exit 4) [AV.osl 0 0 0 d,AV.int .i64 n,AV.func 139 [],AV.int .i64 c,AV.int .i64 p.1] [bF 0 2 159 p.2]))) (0,[]) fun (d,n,_,c,_,_,_) _ (a,b,e)=>(((d,n,(),c,a,b,()),(e,())),xn8 d n c a b e none)
def xeC (c:Nat) (n a:Int) (b:LA):=Iter (xdy c n a) (0,i64.wrap (2*a),b)
def xeB (c:Nat) (n a:Int) (b:LA):=(xeC c n a b).getD (0,[])
def xez (c:Nat) (n a:Int) (b:LA):=(xeB c n a b).snd
def xeA (c:Nat) (n a:Int) (b:LA):=(xeB c n a b).fst
def xey (c:Nat) (n a:Int) (b:LA):=i64.wrap (xeA c n a b+a)
def xew (b:Nat) (n a:Int) (c:LA):=xaU 1000 b (xeA b n a c) (xey b n a c) n (xez b n a c)
def xcV {T:Type} (c:Nat) (n a:Int) (b:LA) (δ:T) (κl:(Int×LA)->T) (κr:(LA)->T):T:=br (decide (a<n)) (br ((xeC c n a b).isSome) (br (decide (xey c n a b<n)) (br ((xew c n a b).isSome) (κl (i64.wrap (a*2),(xew c n a b).getD [])) δ) (κl (i64.wrap (a*2),xez c n a b))) δ) (κr (b))
def xbg (c:Nat) (n:Int):StT (Int×LA) (LA):=fun (a,b)=>xcV c n a b none inL inR
def xnG:=xBI.l 63 1 [159] [(2,xev.lp),(9,xeD.lp)] Tryz.f168 1 (lk1 xeD.ok) [0,1,2,6] [] [] (q4 (xUk 0 0 0) qI (xTM 139 xT8) qI) (q1 (qB 0 2 159 xUa)) (fun (c,n,_,a,_) (b,_)=>(xbg c n,(a,b),fun p=>(.leaf (.exit 2) [] [bF 0 2 159 p]))) [] fun (c,n,_,_,_) _ (a,b)=>(((c,n,(),a,()),(b,())),xcV c n a b none)
def xjb (n:Nat) (k:Int) (a:LA):=(Iter (xcq n k 20) (0,20,a)).getD (0,[])
def xja (n:Nat) (k:Int) (a:LA):=xbM n (xjb n k a).fst k (xjb n k a).snd
def xi9 (n:Nat) (k:Int) (a:LA):=Iter (xbg n k) (20,(xja n k a).getD [])
def xj6 {T:Type} (n:Nat) (k:Int) (a:LA) (δ:T) (κ:LA->T):T:=br ((Iter (xcq n k 20) (0,20,a)).isSome) (br ((xja n k a).isSome) (br ((xi9 n k a).isSome) (κ ((xi9 n k a).getD [])) δ) δ) δ
def xhj (n:Nat) (k:Int) (a:LA):=xj6 n k a none some
def xRM:EO:=xBI.fM Tryz.func168 63 1 [159] [(2,xev.lp),(9,xeD.lp),(7,xnG.lp)] (lks (lkC xev.ok (lkC xnG.ok (lkC xeD.ok lkN)))) (u3 (sEq (xUk 0 0 0)) uI (sEq (xTM (139:FuncId) xT8))) (q1 (qB 0 2 159 xUa)) (fun (n,k,_,_) (a,_) _=>xj6 n k a) (fun _ _ p=>(AV.tuple [],([bF 0 2 159 p]:List Box))) []
def xi1 {T:Type} (n:Nat) (a:LA) (δ:T) (κ:LA->T):T:=br ((xhj n (↑n:Int) a).isSome) (κ ((xhj n (↑n:Int) a).getD [])) δ
def xkC (n:Nat) (a:LA):=xi1 n a none some
def xOW:EO:=xRM.fM Tryz.func138 9 1 [159] [] lk0 (u2 (sEq (xUk 0 0 0)) (sEq (xTM (139:FuncId) xT8))) (q1 (qB 0 2 159 xUa)) (fun (n,_,_) (a,_) _=>xi1 n a) (fun _ _ p=>(AV.tuple [],([bF 0 2 159 p]:List Box))) []
def xf1 (b:LA) (c:Int) (a:LA):=a++[AV.agg [AV.list 3 (gC b c 0).toList,AV.list 2 []]]
def xci (a:Nat):Nat:=0+(↑a:Int).toNat
def xc2 (a:LA) (b:Int):=(xql (gC a b 0).toList).getD []
def xkk (d:LA) (f:Int) (b:Nat) (e:Int) (c a:LA):=decide (xci b<(xf1 d e a).length)
def xkl (d:LA) (e:Int) (a:Nat) (f:Int) (b c:LA):=decide ((↑a:Int)<(↑(a+1):Int))
def xbt (c:LA) (b:Nat) (d:Int) (a:LA):=((xf1 c d a).getD (xci b) .top).cells
def xiv (a:LA) (b:Int):=decide ((xc2 a b).length<=4611686018427387904)
def xf2 (b:LA) (c:Int) (a:LA):=(xTH (AV.int .i64 0) a (xc2 b c)).toInt
def xkm (c:LA) (b:Nat) (d:Int) (a:LA):=decide (0<=xf2 c d a)&&decide (xf2 c d a<(↑b:Int))
def xa7 (c:LA) (b:Nat) (d:Int) (a:LA):=((xbt c b d a).getD 1 .top).toList.length
def xaX (b:LA) (c:Int) (a:LA):Nat:=0+(xf2 b c a).toNat
def xiu (a:LA) (d:Nat) (b:Int) (c:LA):=((xbt a d b c).getD 1 .top).toList++[AV.agg [AV.int .i64 (gC a b 1).toInt,AV.int .i64 (gC a b 2).toInt]]
def xgu (c:LA) (b:Nat) (d:Int) (a:LA):=(xf1 c d a).set (xci b) (AV.agg (List.take 1 (xbt c b d a)++[AV.int .i64 (↑(xa7 c b d a):Int)]++List.drop 2 (xbt c b d a)))
def xkn (c:LA) (d:Int) (a b:LA):=decide (xaX c d a<b.length)
def xa8 (c:LA) (d:Int) (a b:LA):=((b.getD (xaX c d a) .top).cells.getD 1 .top).toList.length
def xit (b:LA) (c:Int) (a d:LA):=((d.getD (xaX b c a) .top).cells.getD 1 .top).toList++[AV.agg [AV.int .i64 (gC b c 1).toInt,AV.int .i64 (gC b c 2).toInt]]
def xeT (c:LA) (a:Nat) (d:Int) (b:LA):=((xgu c a d b).getD (xci a) .top).cells
def xgv (c:LA) (d:Int) (a b:LA):=b.set (xaX c d a) (AV.agg (List.take 1 (b.getD (xaX c d a) .top).cells++[AV.int .i64 (↑(xa8 c d a b):Int)]++List.drop 2 (b.getD (xaX c d a) .top).cells))
def xeU (c:LA) (d:Int) (a b:LA):=((xgv c d a b).getD (xaX c d a) .top).cells
def xfm {T:Type} (d:LA) (f:Int) (e:Nat) (c:Int) (b a:LA) (δ:T) (κl:(Nat×Int×LA×LA)->T) (κr:(Nat×LA)->T):T:=br (decide (c<f)) (br (ixI d c) (br (ixT d c 3 [Sh.list 3,Sh.int .i64,Sh.int .i64] 0) (br (!xe8 (gC d c 1).toInt (gC d c 2).toInt) (κl (e,i64.wrap (c+1),b,a)) (br ((xql (gC d c 0).toList).isSome) (br (xiv d c&&xTm (Sh.int .i64) (xTH (AV.int .i64 0) b (xc2 d c))) (br (!xTT b (xc2 d c)) (br (decide (b.length<4611686018427387904)&&xiv d c) (br (rmB e a 1 48) (br (xkl d f e c b a) (br (xkk d f e c b a&&(xT3 2 ((xbt d e c a).getD 1 .top)&&(xbt d e c a).length==2)) (br (xkk d f e c b a&&(xT3 2 ((xbt d e c a).getD 1 .top)&&((xbt d e c a).length==2&&(2*xa7 d e c a==2*xa7 d e c a&&(xa7 d e c a==xa7 d e c a&&(xa7 d e c a==xa7 d e c a&&(decide ((xa7 d e c a+1)*16<=140737488355328)&&decide (xa7 d e c a+1<=4611686018427387904)))))))) (br (xkl d f e c b a) (br (decide (xci e<(xgu d e c a).length)&&((xeT d e c a).length==2&&(xa7 d e c a+1==(xiu d e c a).length&&xUs ((xeT d e c a).getD 1 .top) (xa7 d e c a+1)))) (κl (e+1,i64.wrap (c+1),xTF b (xc2 d c) (AV.int .i64 (↑e:Int)),(xgu d e c a).set (xci e) (AV.agg (List.take 1 (xeT d e c a)++[AV.list 2 (xiu d e c a)]++List.drop 2 (xeT d e c a))))) δ) δ) δ) δ) δ) δ) δ) (br (xkm d e c b) (br (xkn d c b a&&(xT3 2 ((a.getD (xaX d c b) .top).cells.getD 1 .top)&&(a.getD (xaX d c b) .top).cells.length==2)) (br (xkn d c b a&&(xT3 2 ((a.getD (xaX d c b) .top).cells.getD 1 .top)&&((a.getD (xaX d c b) .top).cells.length==2&&(2*xa8 d c b a==2*xa8 d c b a&&(xa8 d c b a==xa8 d c b a&&(xa8 d c b a==xa8 d c b a&&(decide ((xa8 d c b a+1)*16<=140737488355328)&&decide (xa8 d c b a+1<=4611686018427387904)))))))) (br (xkm d e c b) (br (decide (xaX d c b<(xgv d c b a).length)&&((xeU d c b a).length==2&&(xa8 d c b a+1==(xit d c b a).length&&xUs ((xeU d c b a).getD 1 .top) (xa8 d c b a+1)))) (κl (e,i64.wrap (c+1),b,(xgv d c b a).set (xaX d c b) (AV.agg (List.take 1 (xeU d c b a)++[AV.list 2 (xit d c b a)]++List.drop 2 (xeU d c b a))))) δ) δ) δ) δ) δ)) δ) δ)) δ) δ) (κr (e,a))
def xb2 (d:LA) (e:Int):StT (Nat×Int×LA×LA) (Nat×LA):=fun (c,f,a,b)=>xfm d e c f a b none inL inR
def xv3:=xOW.l 60 0 [] [] Tryz.f111 0 lk0 [3,4,11,12,13] [4] [(4,2,150460170399)] (q5 (xUl 0 0 0 0) (xUk 1 0 0) (qL 3) qI qI) (q2 (qB 0 2 1208925819615114573119488 xUa) (qB 0 2 150460170399 xUa)) (fun (_,c,d,e,f,_) (a,b,_)=>(xb2 d e,(c,f,a,b),fun p=>(.leaf (.exit 0) [AV.osl 0 0 0 p.1] [bF 0 2 150460170399 p.2]))) (0,[]) fun (_,_,d,e,_,_) _ (c,f,a,b)=>((((),c,d,e,f,()),(a,b,())),xfm d e c f a b none)
def xtn (l:LA):=Iter (xb2 l (↑l.length:Int)) (0,0,[],[])
def xtm (l:LA):=(xtn l).getD (0,[])
def xob (l:LA):=(xtm l).fst
def xtl (l:LA):=(xtm l).snd
def xtk (l:LA):=xkC (xob l) (xtl l)
def xtj (l:LA):=(xtk l).getD []
def xuw {T:Type} (l:LA) (δ:T) (κ:LA->T):T:=br ((xtn l).isSome) (br (xTU 2 1 (xtl l)) (br ((xtk l).isSome) (br (decide (0+xob l<=(xtj l).length)&&true) (κ (List.take (xob l) (List.drop 0 (xtj l)))) δ) δ) δ) δ
def xoy (l:LA):=xuw l none some
def xOX:EO:=xOW.f Tryz.func111 60 0 [] [(4,xv3.lp)] (lk1 xv3.ok) (u1 (uL 3)) (fun (l,_) _=>xuw l) (fun _ p=>AV.list 2 p) []
def xhB {T:Type} (d:LA) (e:Int) (c:Nat) (b:Int) (a:LA) (δ:T) (κl:(Nat×Int×LA)->T) (κr:(Nat×LA)->T):T:=br (decide (b<e)) (br (ixI d b) (br (ixT d b 2 [Sh.int .i64,Sh.int .i64] 0) (br (rmB c a 1 24) (κl (c+1,i64.wrap (b+1),a++[AV.agg [AV.int .i64 (gC d b 0).toInt,AV.int .i64 (gC d b 1).toInt,AV.int .i64 1]])) δ) δ) δ) (κr (c,a))
def xcH (c:LA) (d:Int):StT (Nat×Int×LA) (Nat×LA):=fun (b,e,a)=>xhB c d b e a none inL inR
def xsz:=xOX.l 20 0 [] [] Tryz.f76 0 lk0 [3,6,7,8] [3] [(3,3,89)] (q4 (xUk 0 0 0) (qL 2) qI qI) (q1 (qB 0 3 89 xUa)) (fun (b,c,d,e,_) (a,_)=>(xcH c d,(b,e,a),fun p=>(.leaf (.exit 0) [AV.osl 0 0 0 p.1] [bF 0 3 89 p.2]))) (0,[]) fun (_,c,d,_,_) _ (b,e,a)=>(((b,c,d,e,()),(a,())),xhB c d b e a none)
def xpc (l:LA):=(Iter (xcH l (↑l.length:Int)) (0,0,[])).getD (0,[])
def xpa (l:LA):=(xpc l).snd
def xpb (l:LA):=(xpc l).fst
def xo9 (l:LA):=xB6 (List.take (xpb l) (List.drop 0 (xpa l)))
def xqk {T:Type} (l:LA) (δ:T) (κ:LA->T):T:=br ((Iter (xcH l (↑l.length:Int)) (0,0,[])).isSome) (br (decide (0+xpb l<=(xpa l).length)&&true) (br ((xo9 l).isSome) (κ ((xo9 l).getD [])) δ) δ) δ
def xgM (l:LA):=xqk l none some
def xzo:EO:=xOX.f Tryz.func76 20 0 [] [(3,xsz.lp)] (lk1 xsz.ok) (u1 (uL 2)) (fun (l,_) _=>xqk l) (fun _ p=>AV.list 2 p) []
def xpD {T:Type} (o n:Int) (e f:Nat) (k p m j:Int) (h l i g a:Nat) (b:LA) (d:Nat) (c:LA) (δ:T) (κl:(Int×Int×Nat×Nat×Nat×Nat×Nat×LA×Nat×LA)->T) (κr:(Int×Nat×Nat×Nat×Nat×LA×Nat×LA×Nat)->T):T:=br (decide (m<p)) (br (a==e) (br (a==e) (br (a==e&&(decide (f<b.length)&&xTm (Sh.int .i64) ((b.getD f .top).cells.getD 0 .top))) (br (d==g&&(rmB i c 1 16)) (κl (i64.wrap (m+1),j,h,l,i+1,g+1,a,List.take h b,g+1,c++[AV.agg [AV.int .i64 ((b.getD f .top).cells.getD 0 .top).toInt,AV.int .i64 o]])) δ) δ) δ) δ) (κr (j,l,h,g,i,b,a,c,d))
def xdZ (m n:Int) (e f:Nat) (k o:Int):StT (Int×Int×Nat×Nat×Nat×Nat×Nat×LA×Nat×LA) (Int×Nat×Nat×Nat×Nat×LA×Nat×LA×Nat):=fun (p,g,h,i,j,l,a,b,c,d)=>xpD m n e f k o p g h i j l a b c d none inL inR
def xof:=xzo.l 71 5 [] [] Tryz.f112 1 lk0 [0,1,2,3,4,7,8,37,38] [0,1,2,3,4,7,8] [(3,0,0)] (q9 qI qI (xUl 0 0 0 0) (xUl 1 0 0 0) (xUl 2 0 0 0) (pOwnV 3 0) qI qI qI) (q5 (qB 0 1 3 (q1 qI)) (xUn 0 1 160 false false (q1 (pOslV 3 0))) (xUn 0 1 108 false false (q1 (pOslV 4 0))) (pBoxV 2 162 false true xUa) (pBoxV 2 35 false true xUa)) (fun (o,n,_,_,_,(e,f),k,q,r,_) ((g,_),((h,i),_),((j,m),_),(a,b),(c,d),_)=>(xdZ o n e f k q,(r,g,i,h,m,j,a,b,c,d),fun p=>(.leaf (.exit 2) [AV.int .i64 o,AV.int .i64 n,AV.own 0 0 0 0,AV.own 1 0 0 0,AV.own 2 0 0 0,AV.own 3 e f 0,AV.int .i64 k] [bF 0 1 3 [AV.int .i64 p.1],⟨0,1,160,[AV.osl 3 p.2.1 0 p.2.2.1],false,false⟩,⟨0,1,108,[AV.osl 4 p.2.2.2.1 0 p.2.2.2.2.1],false,false⟩,bF p.2.2.2.2.2.2.1 2 162 p.2.2.2.2.2.1,bF p.2.2.2.2.2.2.2.2 2 35 p.2.2.2.2.2.2.2.1]))) (0,0,0,0,0,[],0,[],0) fun (o,n,_,_,_,(e,f),k,q,_,_) _ (r,g,i,h,m,j,a,b,c,d)=>(((o,n,(),(),(),(e,f),k,q,r,()),((g,()),((h,i),()),((j,m),()),(a,b),(c,d),())),xpD o n e f k q r g i h m j a b c d none)
def xbj (a:Nat):Nat:=0+(i64.wrap ((↑a:Int) - 1)).toNat
def xeM (n b:Int) (c d:Nat) (a:LA):Int:=if i64.wrap (b - n)<((a.getD (xbj c) .top).cells.getD 1 .top).toInt then i64.wrap (b - n) else ((a.getD (xbj c) .top).cells.getD 1 .top).toInt
def xmq (j n d:Int) (c g h i a:Nat) (b:LA) (e:Nat) (f:LA):=Iter (xdZ j n g (xbj c) (xeM n d c a b) (xeM n d c a b)) (0,d,c,g,h,i,a,List.take c b,e,f)
def xii (j n e:Int) (f g h i a:Nat) (b:LA) (c:Nat) (d:LA):=(xmq j n e f g h i a b c d).getD (0,0,0,0,0,[],0,[],0)
def xmp (j n e:Int) (f g h i a:Nat) (b:LA) (c:Nat) (d:LA):=(xii j n e f g h i a b c d).snd
def xgR (j n e:Int) (f g h i a:Nat) (b:LA) (c:Nat) (d:LA):=(xmp j n e f g h i a b c d).fst
def xmo (j n e:Int) (f g h i a:Nat) (b:LA) (c:Nat) (d:LA):=(xmp j n e f g h i a b c d).snd
def xgQ (j n e:Int) (f g h i a:Nat) (b:LA) (c:Nat) (d:LA):=(xmo j n e f g h i a b c d).fst
def xih (j n e:Int) (f g h i a:Nat) (b:LA) (c:Nat) (d:LA):=(xmo j n e f g h i a b c d).snd
def xgP (j n e:Int) (f g h i a:Nat) (b:LA) (c:Nat) (d:LA):=i64.wrap ((↑(xgQ j n e f g h i a b c d):Int) - 1)
def xig (j n e:Int) (f g h i a:Nat) (b:LA) (c:Nat) (d:LA):=(xih j n e f g h i a b c d).snd
def xmn (j n e:Int) (f g h i a:Nat) (b:LA) (c:Nat) (d:LA):=(xig j n e f g h i a b c d).snd
def xjL (j n e:Int) (f g h i a:Nat) (b:LA) (c:Nat) (d:LA):=(xmn j n e f g h i a b c d).fst
def xoe (j n e:Int) (f g h i a:Nat) (b:LA) (c:Nat) (d:LA):=(xmn j n e f g h i a b c d).snd
def xdY (j n f:Int) (g e h i a:Nat) (b:LA) (c:Nat) (d:LA):=(xoe j n f g e h i a b c d).fst==e
def xod (j n f:Int) (e g h i a:Nat) (b:LA) (c:Nat) (d:LA):=decide (xbj e<(xjL j n f e g h i a b c d).length)
def xgO (j n f:Int) (e g h i a:Nat) (b:LA) (c:Nat) (d:LA):=((xjL j n f e g h i a b c d).getD (xbj e) .top).cells
def xgS (j n e:Int) (f g h i a:Nat) (b:LA) (c:Nat) (d:LA):=(xoe j n e f g h i a b c d).snd
def xfb (j n f:Int) (e g h i a:Nat) (b:LA) (c:Nat) (d:LA):=(xjL j n f e g h i a b c d).set (xbj e) (AV.agg (List.take 1 (xgO j n f e g h i a b c d)++[AV.int .i64 (i64.wrap (((xgO j n f e g h i a b c d).getD 1 .top).toInt - xeM n f e a b))]++List.drop 2 (xgO j n f e g h i a b c d)))
def xhC {T:Type} (j n g:Int) (f e h i a:Nat) (b:LA) (c:Nat) (d:LA) (δ:T) (κl:(Int×Nat×Nat×Nat×Nat×Nat×LA×Nat×LA)->T) (κr:(Int×Nat×Nat×Nat×Nat×LA×Nat×LA×Nat)->T):T:=br (decide (g>n)) (br (a==e) (br (a==e&&(decide (0<=i64.wrap ((↑f:Int) - 1))&&decide (i64.wrap ((↑f:Int) - 1)<(↑f:Int)))) (br (a==e) (br (a==e) (br (a==e&&(decide (xbj f<b.length)&&xTm (Sh.int .i64) ((b.getD (xbj f) .top).cells.getD 1 .top))) (br ((xmq j n g f e h i a b c d).isSome) (br (xdY j n g f e h i a b c d) (br (xdY j n g f e h i a b c d) (br (xdY j n g f e h i a b c d&&(xod j n g f e h i a b c d&&xTm (Sh.int .i64) ((xgO j n g f e h i a b c d).getD 1 .top))) (br (xdY j n g f e h i a b c d) (br (xdY j n g f e h i a b c d) (br (xdY j n g f e h i a b c d&&xod j n g f e h i a b c d) (br (e==e) (br (e==e) (br (e==e&&(decide (xbj f<(xfb j n g f e h i a b c d).length)&&xTm (Sh.int .i64) (((xfb j n g f e h i a b c d).getD (xbj f) .top).cells.getD 1 .top))) (br ((((xfb j n g f e h i a b c d).getD (xbj f) .top).cells.getD 1 .top).toInt==0) (br (e==xgR j n g f e h i a b c d) (br (e==xgR j n g f e h i a b c d&&(decide (0<=xgP j n g f e h i a b c d)&&decide (xgP j n g f e h i a b c d<=(↑(xgQ j n g f e h i a b c d):Int))&&true)) (κl (i64.wrap ((xii j n g f e h i a b c d).fst - xeM n g f a b),(xgP j n g f e h i a b c d).toNat - 0,xgR j n g f e h i a b c d,(xig j n g f e h i a b c d).fst,(xih j n g f e h i a b c d).fst,e,List.take ((xgP j n g f e h i a b c d).toNat - 0) (xfb j n g f e h i a b c d),(xgS j n g f e h i a b c d).snd,(xgS j n g f e h i a b c d).fst)) δ) δ) (κl (i64.wrap ((xii j n g f e h i a b c d).fst - xeM n g f a b),xgQ j n g f e h i a b c d,xgR j n g f e h i a b c d,(xig j n g f e h i a b c d).fst,(xih j n g f e h i a b c d).fst,e,List.take (xgQ j n g f e h i a b c d) (xfb j n g f e h i a b c d),(xgS j n g f e h i a b c d).snd,(xgS j n g f e h i a b c d).fst))) δ) δ) δ) δ) δ) δ) δ) δ) δ) δ) δ) δ) δ) δ) δ) (κr (g,e,f,i,h,b,a,d,c))
def xcT (j n:Int):StT (Int×Nat×Nat×Nat×Nat×Nat×LA×Nat×LA) (Int×Nat×Nat×Nat×Nat×LA×Nat×LA×Nat):=fun (e,f,g,h,i,a,b,c,d)=>xhC j n e f g h i a b c d none inL inR
def xzN:=xzo.l 71 5 [] [(7,xof.lp)] Tryz.f112 0 (lk1 xof.ok) [0,1,2,3,4] [] [(3,0,0)] (q5 qI qI (xUl 0 0 0 0) (xUl 1 0 0 0) (xUl 2 0 0 0)) (q5 (qB 0 1 3 (q1 qI)) (xUn 0 1 160 false false (q1 (pOslV 3 0))) (xUn 0 1 108 false false (q1 (pOslV 4 0))) (pBoxV 2 162 false true xUa) (pBoxV 2 35 false true xUa)) (fun (j,n,_,_,_,_) ((e,_),((f,g),_),((h,i),_),(a,b),(c,d),_)=>(xcT j n,(e,g,f,i,h,a,b,c,d),fun p=>(.leaf (.exit 0) [] [bF 0 1 3 [AV.int .i64 p.1],⟨0,1,160,[AV.osl 3 p.2.1 0 p.2.2.1],false,false⟩,⟨0,1,108,[AV.osl 4 p.2.2.2.1 0 p.2.2.2.2.1],false,false⟩,bF p.2.2.2.2.2.2.1 2 162 p.2.2.2.2.2.1,bF p.2.2.2.2.2.2.2.2 2 35 p.2.2.2.2.2.2.2.1]))) (0,0,0,0,0,[],0,[],0) fun (j,n,_,_,_,_) _ (e,g,f,i,h,a,b,c,d)=>(((j,n,(),(),(),()),((e,()),((f,g),()),((h,i),()),(a,b),(c,d),())),xhC j n e g f i h a b c d none)
def xoz:Env:=xzo.E.fn 71 5 (lsOf []) (xTL [(7,xof.lp),(3,xzN.lp)])
theorem xEe:xTo P0 (xT5.at 5) xoz:=xzo.ok.fn
theorem xCr:LoOk P0 (xT5.at xoz.pin) xoz (Tryz.f112.body.getD .skip):=xgT (ls:=[xTs Tryz.f112 0,xTs Tryz.f112 1]) (by kernel_rfl) (lkC xzN.ok (lkC xof.ok lkN))
def xry (a n h:Int) (b c:Nat) (d e:LA):=Iter (xcT a n) (n,b+1,1,c,0,1,List.take (b+1) (d++[AV.agg [AV.int .i64 a,AV.int .i64 (i64.wrap (n - h))]]),0,e)
def xrz (a n h:Int) (b c:Nat) (d e:LA):=Iter (xcT a n) (h,b,0,c,0,0,List.take b d,0,e)
def xrs (a n h:Int) (b c:Nat) (d e:LA):=(xry a n h b c d e).getD (0,0,0,0,0,[],0,[],0)
def xrw (a n h:Int) (b c:Nat) (d e:LA):=(xrz a n h b c d e).getD (0,0,0,0,0,[],0,[],0)
def xsX (a n h:Int) (b c:Nat) (d e:LA):=(xrs a n h b c d e).snd
def xrv (a n h:Int) (b c:Nat) (d e:LA):=(xrw a n h b c d e).snd
def xsU (a n h:Int) (b c:Nat) (d e:LA):=(xsX a n h b c d e).snd
def xru (a n h:Int) (b c:Nat) (d e:LA):=(xrv a n h b c d e).snd
def xsT (a n h:Int) (b c:Nat) (d e:LA):=(xsU a n h b c d e).snd
def xrt (a n h:Int) (b c:Nat) (d e:LA):=(xru a n h b c d e).snd
def xsS (a n h:Int) (b c:Nat) (d e:LA):=(xsT a n h b c d e).snd
def xrr (a n h:Int) (b c:Nat) (d e:LA):=(xrt a n h b c d e).snd
def xsR (a n h:Int) (b c:Nat) (d e:LA):=(xsS a n h b c d e).snd
def xsY (a n h:Int) (b c:Nat) (d e:LA):=(xrr a n h b c d e).snd
def xsQ (a n h:Int) (b c:Nat) (d e:LA):=(xsR a n h b c d e).snd
def xsW (a n h:Int) (b c:Nat) (d e:LA):=(xsY a n h b c d e).snd
def xsP (a n h:Int) (b c:Nat) (d e:LA):=(xsQ a n h b c d e).snd
def xsV (a n h:Int) (b c:Nat) (d e:LA):=(xsW a n h b c d e).snd
def xqA {T:Type} (a n h:Int) (b d:Nat) (c e:LA) (δ:T) (κ:Int×Nat×Nat×Nat×Nat×LA×Nat×LA×Nat->T):T:=br (decide (n>h)) (br (rmB b c 1 16) (br ((xry a n h b d c e).isSome) (κ ((xrs a n h b d c e).fst,(xsX a n h b d c e).fst,(xsU a n h b d c e).fst,(xsT a n h b d c e).fst,(xsS a n h b d c e).fst,(xsR a n h b d c e).fst,(xsQ a n h b d c e).fst,(xsP a n h b d c e).fst,(xsP a n h b d c e).snd)) δ) δ) (br ((xrz a n h b d c e).isSome) (κ ((xrw a n h b d c e).fst,(xrv a n h b d c e).fst,(xru a n h b d c e).fst,(xrt a n h b d c e).fst,(xrr a n h b d c e).fst,(xsY a n h b d c e).fst,(xsW a n h b d c e).fst,(xsV a n h b d c e).fst,(xsV a n h b d c e).snd)) δ)
def xrq (a n h:Int) (b c:Nat) (d e:LA):=xqA a n h b c d e none some
theorem xH0 (a n h:Int) (b c:Nat) (d e:LA):Enc (fun (p:Int×Nat×Nat×Nat×Nat×LA×Nat×LA×Nat)=>(((AV.tuple [],([⟨0,1,3,[AV.int .i64 p.1],false,true⟩,⟨0,1,160,[AV.osl 3 p.2.1 0 p.2.2.1],false,false⟩,⟨0,1,108,[AV.osl 4 p.2.2.2.1 0 p.2.2.2.2.1],false,false⟩,⟨p.2.2.2.2.2.2.1,2,162,p.2.2.2.2.2.1,false,true⟩,⟨p.2.2.2.2.2.2.2.2,2,35,p.2.2.2.2.2.2.2.1,false,true⟩]:List Box))):(AV×List Box))) (xrq a n h b c d e) (XFM P0 xoz Tryz.f112 (Tryz.f112.body.getD .skip) [AV.int .i64 a,AV.int .i64 n,AV.own (0:Id) 0 0 0,AV.own (1:Id) 0 0 0,AV.own (2:Id) 0 0 0] [{ ver:=0,sz:=1,ty:=(3:TypeId),xs:=[AV.int .i64 h],frz:=false,pm:=true },{ ver:=0,sz:=1,ty:=(160:TypeId),xs:=[AV.osl (3:Id) 0 0 b],frz:=false,pm:=false },{ ver:=0,sz:=1,ty:=(108:TypeId),xs:=[AV.osl (4:Id) 0 0 c],frz:=false,pm:=false },{ ver:=0,sz:=2,ty:=(162:TypeId),xs:=d,frz:=false,pm:=true },{ ver:=0,sz:=2,ty:=(35:TypeId),xs:=e,frz:=false,pm:=true }]):=by
 refine eV (xqA a n h b c d e none (fun (p:Int×Nat×Nat×Nat×Nat×LA×Nat×LA×Nat)=>some (((AV.tuple [],([⟨0,1,3,[AV.int .i64 p.1],false,true⟩,⟨0,1,160,[AV.osl 3 p.2.1 0 p.2.2.1],false,false⟩,⟨0,1,108,[AV.osl 4 p.2.2.2.1 0 p.2.2.2.2.1],false,false⟩,⟨p.2.2.2.2.2.2.1,2,162,p.2.2.2.2.2.1,false,true⟩,⟨p.2.2.2.2.2.2.2.2,2,35,p.2.2.2.2.2.2.2.1,false,true⟩]:List Box))):(AV×List Box)))) (by kernel_rfl) ?_;unfold xrq xqA;repeat' first|exact eN|exact eS rfl|apply eB
end Go.Sim.M
end
noncomputable section
set_option maxRecDepth 100000
namespace Go.Sim
open Go.RowKit
theorem GoodM.aged {P:Program} {Inv:IV} {f:FuncId} {V:List AV} {H E:List Box} {p q v k t s y:Nat} {xs:List AV}
  (h:GoodM P Inv f V H (.tuple []) E) (hz:∀ bx,H[q]?=some bx->bx.ver=0)
  (ep:E[p]?=some ⟨0,1,t,[.osl (.b q) v 0 k],false,false⟩) (eq:E[q]?=some ⟨v,s,y,xs,false,true⟩) (pt:isC t=false) (py:isC y=false)
  (ho:∀ n bx,E[n]?=some bx->isC bx.ty=false/\(n=p\/n=q\/bx.pm=true\/∃ n' v' k',n'≠q/\bx.xs=[.osl (.b n') v' 0 k'])) :
  GoodM P Inv f V H (.tuple []) ((E.set p ⟨0,1,t,[.osl (.b q) 1 0 k],false,false⟩).set q ⟨1,s,y,xs,false,true⟩):=by
 have pq:p≠q:=fun e=>by
  subst e;rw [ep] at eq;simp at eq
 refine ⟨h.1,fun w0 w A M vs hI hB hR Y=>(h.2 w0 w A M vs hI hB hR Y).mono ?_⟩
 rintro e w' ⟨u,A',M',rfl,h1,h2,h3,h4,h5⟩;let M'':Id->Option MB:=fun id=>if id=.b q then (M' id).map fun m=>⟨m.b,1,m.sz,m.cap,m.ty⟩ else M' id
 have eo:∀ id,id≠.b q->M'' id=M' id:=fun id g1=>if_neg g1
 have e4:∀ m,M' (.b q)=some m->M'' (.b q)=some ⟨m.b,1,m.sz,m.cap,m.ty⟩:=fun m hm=>(if_pos rfl).trans (by rw [hm];rfl)
 have O:∀ id m1,M'' id=some m1->∃ m0,M' id=some m0/\m1.b=m0.b/\m1.cap=m0.cap:=fun id m1 J=>by
  by_cases g3:id=.b q
  . subst g3;cases hm:M' (.b q) with
    | none=>simp [M'',hm] at J
    | some m=>rw [e4 m hm] at J;simp only [z6] at J;subst J;exact ⟨m,rfl,rfl,rfl⟩
  . exact ⟨m1,eo id g3▸J,rfl,rfl⟩
 have Q:∀ n bx m,E[n]?=some bx->M' (.b n)=some m->BoxAt w' A' M' w0.heap.size (.b n) m bx:=fun n bx m hn hm=>by
  obtain ⟨bx',g1,g2⟩:=h4.box _ m hm;rw [xcj,hn] at g1;cases g1;exact g2
 have hv:∀ m,M' (.b q)=some m->v=m.ver:=fun m hm=>(Q q _ m eq hm).ver
 have hx:∀ c n' v' k',n'≠q->Rel w' A' M' c (.osl (.b n') v' 0 k')->Rel w' A' M'' c (.osl (.b n') v' 0 k'):=fun c n' v' k' hn hr=>by
  obtain ⟨m0,g1,g2,g3,g4⟩:=Rel.osl_inv hr;exact .osl c _ v' 0 k' m0 ((eo _ fun e=>hn (by cases e;rfl)).trans g1) g2 g3 g4
 have hy:∀ c,Rel w' A' M' c (.osl (.b q) v 0 k)->Rel w' A' M'' c (.osl (.b q) 1 0 k):=fun c hr=>by
  obtain ⟨m0,g1,g2,g3,g4⟩:=Rel.osl_inv hr;exact .osl c _ 1 0 k _ (e4 m0 g1) (zd _) g3 fun _=>g4 (hv m0 g1)
 have hb:∀ id (bx bx':Box) (m m':MB),isC bx.ty=false->bx'=⟨m'.ver,bx.sz,bx.ty,bx'.xs,bx.frz,bx.pm⟩->m'=⟨m.b,m'.ver,m.sz,m.cap,m.ty⟩->bx'.xs.length=bx.xs.length->(∀ x,x∈bx'.xs->x.okElem m.sz=true) ->
   (∀ c i j,Rel w' A' (MP M' bx.pm) c ((bx.xs.getD i .top).cells.getD j .top)->Rel w' A' (MP M'' bx.pm) c ((bx'.xs.getD i .top).cells.getD j .top))->BoxAt w' A' M' w0.heap.size id m bx->BoxAt w' A' M'' w0.heap.size id m' bx':=fun id bx bx' m m' U ab aa hl Z hc g=>by
  rw [ab,aa];have W:xTq m.ty=false:=g.nomap (xbu U);refine ⟨rfl,g.sz,g.ty,g.capm,hl▸g.fits,Z,g.low,g.lt,fun h0=>?_,g.guard⟩
  obtain ⟨c,c1,c2,c3⟩:=g.cells h0;refine ⟨c,.of W (c1.plain W),c2,fun i j hi hj=>?_⟩
  have:=c3 i j (hl▸hi) hj;rw [xa3 U,xbN U] at this;rw [xa3 U,xbN (bx:=⟨m'.ver,bx.sz,bx.ty,bx'.xs,bx.frz,bx.pm⟩) U];exact hc _ i j this
 have ht:∀ a v1 v2 d,(∀ c,Rel w' A' M' c (.osl a v1 0 d)->Rel w' A' M'' c (.osl a v2 0 d))->∀ c i j,Rel w' A' M' c ((([.osl a v1 0 d]:List AV).getD i .top).cells.getD j .top)->Rel w' A' M'' c ((([.osl a v2 0 d]:List AV).getD i .top).cells.getD j .top):=fun a v1 v2 d hh c i j hr=>by
  match i,j with
  | 0,0=>exact hh c hr
  | 0,j+1=>exact .top _
  | i+1,0=>exact .top _
  | i+1,j+1=>exact .top _
 have hg:∀ n bx,E[n]?=some bx->∃ bx',((E.set p ⟨0,1,t,[.osl (.b q) 1 0 k],false,false⟩).set q ⟨1,s,y,xs,false,true⟩)[n]?=some bx'/\isC bx'.ty=false/\(∀ m m1,M' (.b n)=some m->M'' (.b n)=some m1->BoxAt w' A' M'' w0.heap.size (.b n) m1 bx'):=fun n bx hn=>by
  have hn':=xdW hn;obtain ⟨hC,hc⟩:=ho n bx hn;by_cases g1:n=q
  . subst g1;rw [hn] at eq;cases eq;refine ⟨_,zL (by simpa using hn'),py,fun m m1 e1 e2=>?_⟩
    rw [e4 m e1] at e2;cases e2;have g:=Q n _ m hn e1;exact hb _ ⟨v,s,y,xs,false,true⟩ ⟨1,s,y,xs,false,true⟩ m _ py rfl rfl rfl g.ok (fun c i j hr=>hr) g
  . have ge:∀ m m1,M' (.b n)=some m->M'' (.b n)=some m1->m1=m:=fun m m1 e1 e2=>by
     rw [eo _ fun e=>g1 (by cases e;rfl),e1] at e2;cases e2;rfl
    by_cases g2:n=p
    . subst g2;rw [hn] at ep;cases ep;refine ⟨_,(zX (Ne.symm g1)).trans (zL hn'),pt,fun m m1 e1 e2=>?_⟩
      cases ge m m1 e1 e2;have g:=Q n _ m hn e1;have hv:0=m.ver:=g.ver;have hz:m.sz=1:=g.sz.symm;exact hb _ ⟨0,1,t,[.osl (.b q) v 0 k],false,false⟩ ⟨0,1,t,[.osl (.b q) 1 0 k],false,false⟩ m m pt (by rw [<-hv]) rfl rfl (fun x hx=>by simp only [zv] at hx;subst hx;rw [hz];rfl) (ht _ _ _ _ hy) g
    . refine ⟨bx,(zX (Ne.symm g1)).trans ((zX (Ne.symm g2)).trans hn),hC,fun m m1 e1 e2=>?_⟩
      cases ge m m1 e1 e2;have g:=Q n _ m hn e1;refine hb _ bx bx m m hC (by rw [<-g.ver]) rfl rfl g.ok ?_ g
      rcases hc with hc|hc|hc|⟨n',v',k',hc,hd⟩
      . exact absurd hc g2
      . exact absurd hc g1
      . rw [hc];exact fun c i j hr=>hr
      . cases ae:bx.pm with
        | true=>exact fun c i j hr=>hr
        | false=>rw [hd];exact ht _ _ _ _ fun c=>hx c n' v' k' hc
 have hR':HR w' A' M'' w0.heap.size ((E.set p ⟨0,1,t,[.osl (.b q) 1 0 k],false,false⟩).set q ⟨1,s,y,xs,false,true⟩):=by
  refine ⟨fun id m1 J=>?_,fun id id' m1 m2 k1 k2 c1 c2 he=>?_,h4.lt⟩
  . obtain ⟨m0,g1,_⟩:=O id m1 J;obtain ⟨bx,q1,q2⟩:=h4.box _ m0 g1;cases id with
    | r n i j =>
     rw [eo _ (fun e=>by cases e),g1] at J
     cases J;obtain ⟨c0,r1,_⟩:=xuA q1;obtain ⟨bx',r2,r3,_⟩:=hg n c0 r1;rw [xfo r1 (ho n c0 r1).1] at q1;cases q1;exact ⟨_,xfo r2 r3,hb _ tombB tombB m1 m1 rfl (by rw [<-q2.ver]) rfl rfl q2.ok (fun c i j hr=>hr) q2⟩
    | b n =>
     obtain ⟨bx',r2,_,r3⟩:=hg n bx q1;exact ⟨bx',r2,r3 _ _ g1 J⟩
  . obtain ⟨n1,a1,a2,a3⟩:=O id m1 k1;obtain ⟨n2,b1,b2,b3⟩:=O id' m2 k2;exact h4.inj id id' n1 n2 a1 b1 (a3▸c1) (b3▸c2) (by rw [<-a2,<-b2,he])
 refine ⟨u,A',M'',rfl,h1,h2,⟨h3.size,h3.keep,h3.less,h3.more,fun id m ad hm=>?_,fun id m1 J h0=>?_⟩,hR',?_⟩
 . obtain ⟨m',g1,g2⟩:=h3.ids id m ad hm;by_cases q4:id=.b q
   . subst q4;obtain ⟨bx,r1,r2⟩:=hR.box _ m hm;exact ⟨_,e4 m' g1,.inr (by rw [<-r2.ver,hz bx r1];exact Nat.zero_lt_one)⟩
   . exact ⟨m',(eo id q4).trans g1,g2⟩
 . obtain ⟨m0,g1,g2,g3⟩:=O id m1 J;rw [g2];exact h3.src id m0 g1 (g3▸h0)
 . obtain ⟨ac,rfl,q1,_⟩:=h5.tuple_inv;exact .tuple ac [] q1 (by simp)
namespace M
open Go.Proofs
noncomputable def set2 (q n h:Int) (ns no:Nat) (sx ox:List AV):Option (Int×Nat×Nat×List AV×List AV):=(xrq q n h ns no sx ox).bind fun p =>
 br (Nat.beq p.2.1 p.2.2.2.2.2.2.1&&Nat.beq p.2.2.2.1 p.2.2.2.2.2.2.2.2) (some (p.1,p.2.2.1,p.2.2.2.2.1,p.2.2.2.2.2.1,p.2.2.2.2.2.2.2.1)) none
noncomputable def xNn:List AV->List Box->Option (Bool×AV×List Box):=omOf (xT7 (sEq (pInt IntKind.i64)) (xT7 (sEq (pInt IntKind.i64)) (xT7 (sEq (xUl 0 0 0 0)) (xT7 (sEq (xUl 1 0 0 0)) (xT7 (sEq (xUl 2 0 0 0)) xT9)))))
 (xT6 (xUn 0 1 3 false true (xT6 (pInt IntKind.i64) xT8)) (xT6 (xUn 0 1 160 false false (xT6 (xUk 3 0 0) xT8)) (xT6 (xUn 0 1 108 false false (xT6 (xUk 4 0 0) xT8)) (xT6 (xUn 0 2 162 false true xUa) (xT6 (xUn 0 2 35 false true xUa) xT8)))))
 fun (q,(n,(_,(_,(_,_))))) ((h,_),((ns,_),((no,_),(sx,(ox,_)))))=>((set2 q n h ns no sx ox).isSome,(.tuple [],[⟨0,1,3,[.int .i64 ((set2 q n h ns no sx ox).getD (0,0,0,[],[])).1],false,true⟩,⟨0,1,160,[.osl (.b 3) 1 0 ((set2 q n h ns no sx ox).getD (0,0,0,[],[])).2.1],false,false⟩,⟨0,1,108,[.osl (.b 4) 1 0 ((set2 q n h ns no sx ox).getD (0,0,0,[],[])).2.2.1],false,false⟩,⟨1,2,162,((set2 q n h ns no sx ox).getD (0,0,0,[],[])).2.2.2.1,false,true⟩,⟨1,2,35,((set2 q n h ns no sx ox).getD (0,0,0,[],[])).2.2.2.2,false,true⟩]))
theorem xRo:OmOk P0 xT5 112 xNn:=xrA fun vv bb rr Y hh=>by
 obtain ⟨J,⟨n,⟨_,⟨_,⟨_,_⟩⟩⟩⟩⟩:=vv;obtain ⟨⟨h,_⟩,⟨⟨ns,_⟩,⟨⟨no,_⟩,⟨sx,⟨ox,_⟩⟩⟩⟩⟩:=bb;obtain ⟨O,U⟩:=Prod.mk.inj hh;cases hs:xrq J n h ns no sx ox with
 | none=>rw [show set2 J n h ns no sx ox=none by unfold set2;rw [hs];rfl] at O;simp at O
 | some p =>
  have V:set2 J n h ns no sx ox=br (Nat.beq p.2.1 p.2.2.2.2.2.2.1&&Nat.beq p.2.2.2.1 p.2.2.2.2.2.2.2.2) (some (p.1,p.2.2.1,p.2.2.2.2.1,p.2.2.2.2.2.1,p.2.2.2.2.2.2.2.1)) none:=by unfold set2;rw [hs];rfl
  cases ht:Nat.beq p.2.1 p.2.2.2.2.2.2.1&&Nat.beq p.2.2.2.1 p.2.2.2.2.2.2.2.2 with
  | false=>rw [V,ht] at O;simp [br] at O
  | true =>
   rw [ht] at V;have W:set2 J n h ns no sx ox=some (p.1,p.2.2.1,p.2.2.2.2.1,p.2.2.2.2.2.1,p.2.2.2.2.2.2.2.1):=V;rw [W] at U;simp only [zh] at U;simp only [zf] at ht;have e1:=zg ht.1;have e2:=zg ht.2;have hx:=xH0 J n h ns no sx ox p hs;have hg:GoodM P0 xT5 112 _ _ _ _:=xjv (p:=xoz.pin) (xkL xTy (xTz P0 _) rfl xEe rfl Tryz.func112 rfl (by kernel_rfl) xCr hx)
   rw [<-e1,<-e2] at hg;have Q:=GoodM.aged (p:=1) (q:=3) hg (fun bx hb=>by cases hb;rfl) rfl rfl rfl rfl (fun n bx hn=>by
    match n with
    | 0=>cases hn;exact ⟨rfl,.inr (.inr (.inl rfl))⟩
    | 1=>cases hn;exact ⟨rfl,.inl rfl⟩
    | 2=>cases hn;exact ⟨rfl,.inr (.inr (.inr ⟨_,_,_,by decide,rfl⟩))⟩
    | 3=>cases hn;exact ⟨rfl,.inr (.inl rfl)⟩
    | 4=>cases hn;exact ⟨rfl,.inr (.inr (.inl rfl))⟩
    | n+5=>simp at hn)
   have Q:=GoodM.aged (p:=2) (q:=4) Q (fun bx hb=>by cases hb;rfl) rfl rfl rfl rfl (fun n bx hn=>by
    match n with
    | 0=>cases hn;exact ⟨rfl,.inr (.inr (.inl rfl))⟩
    | 1=>cases hn;exact ⟨rfl,.inr (.inr (.inr ⟨_,_,_,by decide,rfl⟩))⟩
    | 2=>cases hn;exact ⟨rfl,.inl rfl⟩
    | 3=>cases hn;exact ⟨rfl,.inr (.inr (.inl rfl))⟩
    | 4=>cases hn;exact ⟨rfl,.inr (.inl rfl)⟩
    | n+5=>simp at hn)
   obtain ⟨rfl,rfl⟩:=Prod.mk.inj U;exact Q
noncomputable def ESet:Env:=xzo.E.withM 112 xNn
theorem xPi:xTo P0 xT5 ESet:=xzo.ok.withM xRo
noncomputable def xJG:EO:=EO.mk ESet xPi
end M
end Go.Sim
end
noncomputable section
set_option maxRecDepth 100000
namespace Go.Sim.M
open Go.IntKind (i64 u64 u8)
open Go.RowKit Go.Proofs
def xri (a:LA) (h b:Int) (f c:Nat) (g:Int) (d e:LA):Int:=if 0>(gC a b 1).toInt then 0 else (gC a b 1).toInt
def xrh (f:LA) (h g:Int) (d a:Nat) (e:Int) (b c:LA):=set2 (gC f g 0).toInt (if 1048576<xri f h g d a e b c then 1048576 else xri f h g d a e b c) e a d c b
def xrg (f:LA) (g h:Int) (d a:Nat) (e:Int) (b c:LA):=(xrh f g h d a e b c).getD (0,0,0,[],[])
def xrf (f:LA) (g h:Int) (d a:Nat) (e:Int) (b c:LA):=(xrg f g h d a e b c).snd
def xrd (f:LA) (g h:Int) (d a:Nat) (e:Int) (b c:LA):=(xrf f g h d a e b c).snd
def xre (f:LA) (g h:Int) (d a:Nat) (e:Int) (b c:LA):=(xrf f g h d a e b c).fst
def xrc (f:LA) (g h:Int) (d a:Nat) (e:Int) (b c:LA):=(xrd f g h d a e b c).snd
def xmQ {T:Type} (g:LA) (h e:Int) (d a:Nat) (f:Int) (b c:LA) (δ:T) (κl:(Int×Nat×Nat×Int×LA×LA)->T) (κr:(Nat×Int×Nat×LA×LA)->T):T:=br (decide (e<h)) (br (ixI g e) (br (ixT g e 2 [Sh.int .i64,Sh.int .i64] 0) (br ((xrh g h e d a f b c).isSome) (κl (i64.wrap (e+1),(xrd g h e d a f b c).fst,xre g h e d a f b c,(xrg g h e d a f b c).fst,(xrc g h e d a f b c).snd,List.take (xre g h e d a f b c) (xrc g h e d a f b c).fst)) δ) δ) δ) (κr (d,f,a,b,c))
def xeH (f:LA) (g:Int):StT (Int×Nat×Nat×Int×LA×LA) (Nat×Int×Nat×LA×LA):=fun (h,d,a,e,b,c)=>xmQ f g h d a e b c none inL inR
def xyr:=xJG.l 30 0 [] [] Tryz.f75 0 lk0 [3,4,6,10,11,12] [3,6] [(3,2,35),(4,2,162),(4,0,0)] (q6 (xUl 0 0 0 0) (xUl 1 0 0 0) (xTM 112 (q3 (xUl 2 0 0 0) (xUl 1 0 0 0) (xUl 0 0 0 0))) (qL 2) qI qI) (q5 (xUn 0 1 108 false false (q1 (xUk 3 0 0))) (xUn 0 1 160 false false (q1 (xUk 4 0 0))) (qB 0 1 3 (q1 qI)) (qB 0 2 35 xUa) (qB 0 2 162 xUa)) (fun (_,_,(_,_,_,_),f,g,h,_) ((d,_),(a,_),(e,_),b,c,_)=>(xeH f g,(h,d,a,e,b,c),fun p=>(.leaf (.exit 0) [AV.own 0 0 0 0,AV.func 112 [AV.own 1 0 0 0,AV.own 2 0 0 0,AV.own 0 0 0 0]] [⟨0,1,108,[AV.osl 3 0 0 p.1],false,false⟩,bF 0 1 3 [AV.int .i64 p.2.1],⟨0,1,160,[AV.osl 4 0 0 p.2.2.1],false,false⟩,bF 0 2 35 p.2.2.2.1,bF 0 2 162 p.2.2.2.2]))) (0,0,0,[],[]) fun (_,_,(_,_,_,_),f,g,_,_) _ (h,d,a,e,b,c)=>((((),(),((),(),(),()),f,g,h,()),((d,()),(a,()),(e,()),b,c,())),xmQ f g h d a e b c none)
def xvV (l:LA):=Iter (xeH l (↑l.length:Int)) (0,0,0,0,[],[])
def xvU (l:LA):=(xvV l).getD (0,0,0,[],[])
def xvT (l:LA):=(xvU l).snd
def xvS (l:LA):=(xvT l).snd
def xvR (l:LA):=(xvS l).snd
def xvQ (l:LA):=set2 1099511627776 0 (xvT l).fst (xvS l).fst (xvU l).fst (xvR l).snd (xvR l).fst
def xvP (l:LA):=((xvQ l).getD (0,0,0,[],[])).snd.snd
def xlI (l:LA):=(xvP l).fst
def xlJ (l:LA):=(xvP l).snd.snd
def xwS {T:Type} (l:LA) (δ:T) (κ:LA->T):T:=br ((xvV l).isSome) (br ((xvQ l).isSome) (br ((xlI l).beq (xlJ l).length&&(decide (xlI l<4611686018427387904)&&(xlJ l).all isP)) (br (decide (0+xlI l<=(srtP (xlJ l)).length)&&true) (κ (List.take (xlI l) (List.drop 0 (srtP (xlJ l))))) δ) δ) δ) δ
def xvO (l:LA):=xwS l none some
def xQz:EO:=xJG.f Tryz.func75 30 0 [] [(6,xyr.lp)] (lk1 xyr.ok) (u1 (uL 2)) (fun (l,_) _=>xwS l) (fun _ p=>AV.list 2 p) []
def xum {T:Type} (a:LA) (δ:T) (κ:LA->T):T:=br ((↑a.length:Int)==1) (κ (a)) (br ((xgM a).isSome) (br ((xvO ((xgM a).getD [])).isSome) (κ ((xvO ((xgM a).getD [])).getD [])) δ) δ)
def xh4 (a:LA):=xum a none some
def xHh:EO:=xQz.f Tryz.func74 10 0 [] [] lk0 (u1 (uL 2)) (fun (a,_) _=>xum a) (fun _ p=>AV.list 2 p) []
def xhA {T:Type} (h:LA) (i j:Int) (e:LA) (f:Int) (d:Nat) (c:Int) (a b g:LA) (δ:T) (κl:(Nat×Int×LA×LA×LA)->T) (κr:(Nat×LA)->T):T:=br (decide (c<f)) (br (ixI e c) (br (ixT e c 2 [Sh.int .i64,Sh.int .i64] 0) (br (decide (b.length*32<=140737488355328)&&decide (b.length<=4611686018427387904)) (br (decide (0+b.length<=b.length)&&true&&true&&true&&true) (br (rmB d a 1 40) (κl (d+1,i64.wrap (c+1),a++[AV.agg [AV.list 3 (List.take b.length (List.drop 0 b)),AV.int .i64 (gC e c 0).toInt,AV.int .i64 (gC e c 1).toInt]],b,g)) δ) δ) δ) δ) δ) (κr (d,a))
def xcG (c:LA) (d e:Int) (f:LA) (g:Int):StT (Nat×Int×LA×LA×LA) (Nat×LA):=fun (b,h,a,i,j)=>xhA c d e f g b h a i j none inL inR
def xhe:=xHh.l 38 0 [59] [] Tryz.f73 1 lk0 [1,5,7,11,12,13,20,21,22] [1,5,11,12,13] [(5,3,59)] (q9 (xTM 74 xT8) (xUk 0 0 0) (xUl 1 0 0 0) (qL 2) qI qI (qL 2) qI qI) (q2 (qB 0 3 59 xUa) (qB 0 2 159 (q1 (xUm (q2 (qL 3) (qL 2)))))) (fun (_,b,_,c,d,e,f,g,h,_) (a,((i,j,_),_),_)=>(xcG c d e f g,(b,h,a,i,j),fun p=>(.leaf (.exit 2) [AV.func 74 [],AV.osl 0 0 0 p.1,AV.list 2 c,AV.int .i64 d,AV.int .i64 e] [bF 0 3 59 p.2]))) (0,[]) fun (_,_,_,c,d,e,f,g,_,_) _ (b,h,a,i,j)=>((((),b,(),c,d,e,f,g,h,()),(a,((i,j,()),()),())),xhA c d e f g b h a i j none)
def xlZ (a:LA) (e:Int) (d:Nat) (b:Int) (c:LA):=Iter (xcG a e b ((xh4 (gC a b 1).toList).getD []) (↑((xh4 (gC a b 1).toList).getD []).length:Int)) (d,0,c,(gC a b 0).toList,(gC a b 1).toList)
def xlY (c:LA) (d:Int) (b:Nat) (e:Int) (a:LA):=(xlZ c d b e a).getD (0,[])
def xhz {T:Type} (d:LA) (e:Int) (c:Nat) (b:Int) (a:LA) (δ:T) (κl:(Nat×Int×LA)->T) (κr:(Nat×LA)->T):T:=br (decide (b<e)) (br (ixI d b) (br (ixT d b 2 [Sh.list 3,Sh.list 2] 0) (br ((xh4 (gC d b 1).toList).isSome) (br ((xlZ d e c b a).isSome) (κl ((xlY d e c b a).fst,i64.wrap (b+1),(xlY d e c b a).snd)) δ) δ) δ) δ) (κr (c,a))
def xdT (c:LA) (d:Int):StT (Nat×Int×LA) (Nat×LA):=fun (b,e,a)=>xhz c d b e a none inL inR
def xsy:=xHh.l 38 0 [59] [(6,xhe.lp)] Tryz.f73 0 (lk1 xhe.ok) [1,5,11,12,13] [5] [(5,3,59)] (q5 (xTM 74 xT8) (xUk 0 0 0) (qL 2) qI qI) (q1 (qB 0 3 59 xUa)) (fun (_,b,c,d,e,_) (a,_)=>(xdT c d,(b,e,a),fun p=>(.leaf (.exit 0) [AV.osl 0 0 0 p.1] [bF 0 3 59 p.2]))) (0,[]) fun (_,_,c,d,_,_) _ (b,e,a)=>((((),b,c,d,e,()),(a,())),xhz c d b e a none)
def xo8 (l:LA):=Iter (xdT ((xoy l).getD []) (↑((xoy l).getD []).length:Int)) (0,0,[])
def xo7 (l:LA):=(xo8 l).getD (0,[])
def xo5 (l:LA):=(xo7 l).snd
def xo6 (l:LA):=(xo7 l).fst
def xqj {T:Type} (l:LA) (δ:T) (κ:LA->T):T:=br ((xoy l).isSome) (br ((xo8 l).isSome) (br (decide (0+xo6 l<=(xo5 l).length)&&true) (κ (List.take (xo6 l) (List.drop 0 (xo5 l)))) δ) δ) δ
def xth (l:LA):=xqj l none some
def xQA:EO:=xHh.f Tryz.func73 38 0 [59] [(6,xhe.lp),(3,xsy.lp)] (lks (lkC xsy.ok (lkC xhe.ok lkN))) (u2 (uL 3) (sEq (xTM (74:FuncId) xT8))) (fun (l,_,_) _=>xqj l) (fun _ p=>AV.list 3 p) []
def xwk {T:Type} (l:LA) (δ:T) (κ:LA->T):T:=br ((xth l).isSome) (κ ((xth l).getD [])) δ
def xjF (l:LA):=xwk l none some
def xHi:EO:=xQA.f Tryz.func44 5 0 [] [] lk0 (u1 (uL 3)) (fun (l,_) _=>xwk l) (fun _ p=>AV.list 3 p) []
def xep (a:Nat) (j:Int):=decide (0<=i64.wrap (j - 1))&&decide (i64.wrap (j - 1)<(↑a:Int))
def xaY (j:Int):Nat:=0+(i64.wrap (j - 1)).toNat
def xeq (a:Nat) (j:Int):=decide (0<=j)&&decide (j<(↑a:Int))
def xhL (j:Int) (a:LA):=decide (0+j.toNat<a.length)
def xhJ (j:Int) (a:LA):=decide (xaY j<a.length)&&xTm (Sh.list 3) ((a.getD (xaY j) .top).cells.getD 0 .top)
def xhK (j:Int) (a:LA):=xhL j a&&xTm (Sh.list 3) ((a.getD (0+j.toNat) .top).cells.getD 0 .top)
def xin {T:Type} (d:Nat) (a b i j:Int) (c:LA) (δ:T) (κl:(Int×LA)->T) (κr:(LA)->T):T:=br (decide (j>a)) (br (xeq d j) (br (xhK j c) (br (xep d j) (br (xhJ j c) (br ((xgl ((c.getD (0+j.toNat) .top).cells.getD 0 .top).toList ((c.getD (xaY j) .top).cells.getD 0 .top).toList).isSome) (br (decide ((xgl ((c.getD (0+j.toNat) .top).cells.getD 0 .top).toList ((c.getD (xaY j) .top).cells.getD 0 .top).toList).getD 0<0)) (br (xep d j) (br (xhJ j c) (br (xeq d j) (br (xhK j c) (br (xeq d j) (br (xhL j c) (br (xep d j) (br (decide (xaY j<(c.set (0+j.toNat) (AV.list 3 ((c.getD (xaY j) .top).cells.getD 0 .top).toList)).length)) (κl (i64.wrap (j - 1),(c.set (0+j.toNat) (AV.list 3 ((c.getD (xaY j) .top).cells.getD 0 .top).toList)).set (xaY j) (AV.list 3 ((c.getD (0+j.toNat) .top).cells.getD 0 .top).toList))) δ) δ) δ) δ) δ) δ) δ) δ) (κr (c))) δ) δ) δ) δ) δ) (κr (c))
def xb9 (d:Nat) (a b i:Int):StT (Int×LA) (LA):=fun (j,c)=>xin d a b i j c none inL inR
def xcA:=xHi.l 53 1 [57] [] Tryz.f203 1 lk0 [0,1,2,3,8,9] [0,1,2,3,8] [] (q6 (xUk 0 0 0) qI qI (xTM 134 xT8) qI qI) (q1 (qB 0 1 57 xUa)) (fun (c,a,b,_,i,j,_) (d,_)=>(xb9 c a b i,(j,d),fun p=>(.leaf (.exit 2) [AV.osl 0 0 0 c,AV.int .i64 a,AV.int .i64 b,AV.func 134 [],AV.int .i64 i] [bF 0 1 57 p]))) [] fun (c,a,b,_,i,_,_) _ (j,d)=>(((c,a,b,(),i,j,()),(d,())),xin c a b i j d none)
def xim {T:Type} (d:Nat) (a b i:Int) (c:LA) (δ:T) (κl:(Int×LA)->T) (κr:(LA)->T):T:=br (decide (i<b)) (br ((Iter (xb9 d a b i) (i,c)).isSome) (κl (i64.wrap (i+1),(Iter (xb9 d a b i) (i,c)).getD [])) δ) (κr (c))
def xb8 (d:Nat) (a b:Int):StT (Int×LA) (LA):=fun (i,c)=>xim d a b i c none inL inR
def xhI:=xHi.l 53 1 [57] [(4,xcA.lp)] Tryz.f203 0 (lk1 xcA.ok) [0,1,2,3,8] [] [] (q5 (xUk 0 0 0) qI qI (xTM 134 xT8) qI) (q1 (qB 0 1 57 xUa)) (fun (d,a,b,_,i,_) (c,_)=>(xb8 d a b,(i,c),fun p=>(.leaf (.exit 0) [] [bF 0 1 57 p]))) [] fun (d,a,b,_,_,_) _ (i,c)=>(((d,a,b,(),i,()),(c,())),xim d a b i c none)
def xfL {T:Type} (n:Nat) (a b:Int) (c:LA) (δ:T) (κ:LA->T):T:=br ((Iter (xb8 n a b) (i64.wrap (a+1),c)).isSome) (κ ((Iter (xb8 n a b) (i64.wrap (a+1),c)).getD [])) δ
def xbL (n:Nat) (a b:Int) (c:LA):=xfL n a b c none some
def xHb:EO:=xHi.fM Tryz.func203 53 1 [57] [(4,xcA.lp),(1,xhI.lp)] (lks (lkC xhI.ok (lkC xcA.ok lkN))) (u4 (sEq (xUk 0 0 0)) uI uI (sEq (xTM (134:FuncId) xT8))) (q1 (qB 0 1 57 xUa)) (fun (n,a,b,_,_) (c,_) _=>xfL n a b c) (fun _ _ p=>(AV.tuple [],([bF 0 1 57 p]:List Box))) []
def xho {T:Type} (d:Nat) (n e a b:Int) (c:LA) (δ:T) (κl:(Int×Int×LA)->T) (κr:(Int×LA)->T):T:=br (decide (b<=n)) (br ((xbL d a b c).isSome) (κl (b,i64.wrap (b+e),(xbL d a b c).getD [])) δ) (κr (a,c))
def xcp (e:Nat) (n c:Int):StT (Int×Int×LA) (Int×LA):=fun (a,b,d)=>xho e n c a b d none inL inR
def xet:=xHb.l 63 1 [57] [] Tryz.f189 0 lk0 [0,1,2,6,7,8] [0,1,2,6,7] [] (q6 (xUk 0 0 0) qI (xTM 134 xT8) qI qI qI) (q1 (qB 0 1 57 xUa)) (fun (d,n,_,c,a,b,_) (e,_)=>(xcp d n c,(a,b,e),fun p=>(.leaf (.exit 0) [AV.osl 0 0 0 d,AV.int .i64 n,AV.func 134 [],AV.int .i64 c,AV.int .i64 p.1] [bF 0 1 57 p.2]))) (0,[]) fun (d,n,_,c,_,_,_) _ (a,b,e)=>(((d,n,(),c,a,b,()),(e,())),xho d n c a b e none)
def xn6 {T:Type} (d:Nat) (n e a b:Int) (c:LA) (δ:T) (κl:(Int×Int×LA)->T) (κr:(Int×LA)->T):T:=br (decide (b<=n)) (br (decide (0+d<=c.length)&&true) δ δ) (κr (a,c))
def xlc (e:Nat) (n c:Int):StT (Int×Int×LA) (Int×LA):=fun (a,b,d)=>xn6 e n c a b d none inL inR
def xeu:=xHb.l 63 1 [57] [(2,xet.lp)] Tryz.f189 2 lk0 [0,1,2,6,7,8] [0,1,2,6,7] [] (q6 (xUk 0 0 0) qI (xTM 134 xT8) qI qI qI) (q1 (qB 0 1 57 xUa)) (fun (d,n,_,c,a,b,_) (e,_)=>(xlc d n c,(a,b,e),fun p=>(.leaf (.exit 4) [AV.osl 0 0 0 d,AV.int .i64 n,AV.func 134 [],AV.int .i64 c,AV.int .i64 p.1] [bF 0 1 57 p.2]))) (0,[]) fun (d,n,_,c,_,_,_) _ (a,b,e)=>(((d,n,(),c,a,b,()),(e,())),xn6 d n c a b e none)
def xnF (c:Nat) (n a:Int) (b:LA):=Iter (xlc c n a) (0,i64.wrap (2*a),b)
def xnE (c:Nat) (n a:Int) (b:LA):=(xnF c n a b).getD (0,[])
def xnD (c:Nat) (n a:Int) (b:LA):=(xnE c n a b).snd
def xhp {T:Type} (c:Nat) (n a:Int) (b:LA) (δ:T) (κl:(Int×LA)->T) (κr:(LA)->T):T:=br (decide (a<n)) (br ((xnF c n a b).isSome) (br (decide (i64.wrap ((xnE c n a b).fst+a)<n)) (br (decide (0+c<=(xnD c n a b).length)&&true) δ δ) (κl (i64.wrap (a*2),xnD c n a b))) δ) (κr (b))
def xdw (c:Nat) (n:Int):StT (Int×LA) (LA):=fun (a,b)=>xhp c n a b none inL inR
def xnC:=xHb.l 63 1 [57] [(2,xet.lp),(9,xeu.lp)] Tryz.f189 1 (lk1 xeu.ok) [0,1,2,6] [] [] (q4 (xUk 0 0 0) qI (xTM 134 xT8) qI) (q1 (qB 0 1 57 xUa)) (fun (c,n,_,a,_) (b,_)=>(xdw c n,(a,b),fun p=>(.leaf (.exit 2) [] [bF 0 1 57 p]))) [] fun (c,n,_,_,_) _ (a,b)=>(((c,n,(),a,()),(b,())),xhp c n a b none)
def xi8 (n:Nat) (k:Int) (a:LA):=(Iter (xcp n k 20) (0,20,a)).getD (0,[])
def xi7 (n:Nat) (k:Int) (a:LA):=xbL n (xi8 n k a).fst k (xi8 n k a).snd
def xi6 (n:Nat) (k:Int) (a:LA):=Iter (xdw n k) (20,(xi7 n k a).getD [])
def xj5 {T:Type} (n:Nat) (k:Int) (a:LA) (δ:T) (κ:LA->T):T:=br ((Iter (xcp n k 20) (0,20,a)).isSome) (br ((xi7 n k a).isSome) (br ((xi6 n k a).isSome) (κ ((xi6 n k a).getD [])) δ) δ) δ
def xhi (n:Nat) (k:Int) (a:LA):=xj5 n k a none some
def xRP:EO:=xHb.fM Tryz.func189 63 1 [57] [(2,xet.lp),(9,xeu.lp),(7,xnC.lp)] (lks (lkC xet.ok (lkC xnC.ok (lkC xeu.ok lkN)))) (u3 (sEq (xUk 0 0 0)) uI (sEq (xTM (134:FuncId) xT8))) (q1 (qB 0 1 57 xUa)) (fun (n,k,_,_) (a,_) _=>xj5 n k a) (fun _ _ p=>(AV.tuple [],([bF 0 1 57 p]:List Box))) []
def xi0 {T:Type} (n:Nat) (a:LA) (δ:T) (κ:LA->T):T:=br ((xhi n (↑n:Int) a).isSome) (κ ((xhi n (↑n:Int) a).getD [])) δ
def xrZ (n:Nat) (a:LA):=xi0 n a none some
def xO0:EO:=xRP.fM Tryz.func164 9 1 [57] [] lk0 (u2 (sEq (xUk 0 0 0)) (sEq (xTM (134:FuncId) xT8))) (q1 (qB 0 1 57 xUa)) (fun (n,_,_) (a,_) _=>xi0 n a) (fun _ _ p=>(AV.tuple [],([bF 0 1 57 p]:List Box))) []
def xku {T:Type} (d:LA) (e:Int) (c:Nat) (b:Int) (a:LA) (δ:T) (κl:(Nat×Int×LA)->T) (κr:(Nat×LA)->T):T:=br (decide (b<e)) (br (ixI d b) (br (ixS d b (Sh.list 3) 0) (br (decide ((gC d b 0).toList.length<=4398046511104)) (br (rmB c a 1 24) (κl (c+1,i64.wrap (b+1),a++[AV.list 3 (gC d b 0).toList])) δ) δ) δ) δ) (κr (c,a))
def xcz (c:LA) (d:Int):StT (Nat×Int×LA) (Nat×LA):=fun (b,e,a)=>xku c d b e a none inL inR
def xvY:=xO0.l 27 0 [57] [] Tryz.f133 0 lk0 [1,5,11,12,13] [1,5] [(5,1,57)] (q5 (xTM 134 xT8) (xUk 0 0 0) (qL 1) qI qI) (q1 (qB 0 1 57 xUa)) (fun (_,b,c,d,e,_) (a,_)=>(xcz c d,(b,e,a),fun p=>(.leaf (.exit 0) [AV.func 134 [],AV.osl 0 0 0 p.1] [bF 0 1 57 p.2]))) (0,[]) fun (_,_,c,d,_,_) _ (b,e,a)=>((((),b,c,d,e,()),(a,())),xku c d b e a none)
def xsu (l:LA):=(Iter (xcz l (↑l.length:Int)) (0,0,[])).getD (0,[])
def xmS (l:LA):=(xsu l).fst
def xst (l:LA):=xrZ (xmS l) (xsu l).snd
def xss (l:LA):=(xst l).getD []
def xt1 {T:Type} (l:LA) (δ:T) (κ:LA->T):T:=br (decide (24*(↑l.length:Int)<=281474976710656)&&decide ((↑l.length:Int)<=4611686018427387904)) (br ((Iter (xcz l (↑l.length:Int)) (0,0,[])).isSome) (br ((xst l).isSome) (br (decide (0+xmS l<=(xss l).length)&&true) (κ (List.take (xmS l) (List.drop 0 (xss l)))) δ) δ) δ) δ
def xwT (l:LA):=xt1 l none some
def xRQ:EO:=xO0.f Tryz.func133 27 0 [57] [(3,xvY.lp)] (lk1 xvY.ok) (u2 (uL 1) (sEq (xTM (134:FuncId) xT8))) (fun (l,_,_) _=>xt1 l) (fun _ p=>AV.list 1 p) []
def xAm {T:Type} (l:LA) (δ:T) (κ:LA->T):T:=br ((xwT l).isSome) (κ ((xwT l).getD [])) δ
def xov (l:LA):=xAm l none some
def xKz:EO:=xRQ.f Tryz.func106 5 0 [] [] lk0 (u1 (uL 1)) (fun (l,_) _=>xAm l) (fun _ p=>AV.list 1 p) []
def xix (b:Nat) (c:Int) (a:LA):=decide (b+c.toNat<a.length)&&xTm (Sh.int .i64) ((a.getD (b+c.toNat) .top).cells.getD 0 .top)
def xgz {T:Type} (e c d:Nat) (k b:Int) (a:LA) (δ:T) (κl:(Int×Int×LA)->T) (κr:(Int×LA)->T):T:=br (decide (b<(↑d:Int))) (br (decide (0<=b)&&decide (b<(↑d:Int))) (br (xix c b a) (br (decide (0<=i64.wrap (b - 1))&&decide (i64.wrap (b - 1)<(↑d:Int))) (br (decide (c+(i64.wrap (b - 1)).toNat<a.length)&&xTm (Sh.int .i64) ((a.getD (c+(i64.wrap (b - 1)).toNat) .top).cells.getD 0 .top)) (br (((a.getD (c+b.toNat) .top).cells.getD 0 .top).toInt != ((a.getD (c+(i64.wrap (b - 1)).toNat) .top).cells.getD 0 .top).toInt) (br (decide (0<=b)&&decide (b<(↑d:Int))) (br (xix c b a) (br (decide (0<=k)&&decide (k<(↑e:Int))) (br (decide (0+k.toNat<a.length)) (κl (i64.wrap (k+1),i64.wrap (b+1),a.set (0+k.toNat) (AV.int .i64 ((a.getD (c+b.toNat) .top).cells.getD 0 .top).toInt))) δ) δ) δ) δ) (κl (k,i64.wrap (b+1),a))) δ) δ) δ) δ) (κr (k,a))
def xcu (b c d:Nat):StT (Int×Int×LA) (Int×LA):=fun (k,e,a)=>xgz b c d k e a none inL inR
def xiZ:=xKz.l 61 1 [] [] Tryz.f104 1 lk0 [0,3,4,5] [0,3] [] (q4 (xUk 0 0 0) qI (pOslO 0 0) qI) (q1 (qB 0 1 3 xUa)) (fun (b,k,(c,d),e,_) (a,_)=>(xcu b c d,(k,e,a),fun p=>(.leaf (.exit 2) [AV.osl 0 0 0 b,AV.int .i64 p.1] [bF 0 1 3 p.2]))) (0,[]) fun (b,_,(c,d),_,_) _ (k,e,a)=>(((b,k,(c,d),e,()),(a,())),xgz b c d k e a none)
def xon (a:Nat) (k:Int) (b:LA):=Iter (xcu a (0+k.toNat) (a - k.toNat)) (k,1,b)
def xom (b:Nat) (k:Int) (a:LA):=(xon b k a).getD (0,[])
def xiX (b:Nat) (k:Int) (a:LA):=(xom b k a).fst
def xiY (b:Nat) (k:Int) (a:LA):=(xom b k a).snd
def xok (a:Nat) (k:Int) (b:LA):=decide (0<=xiX a k b)&&decide (xiX a k b<=(↑a:Int))
def xeo (b:Nat) (k:Int) (a:LA):=(xiX b k a).toNat
def xol (a:Nat) (k:Int) (b:LA):Nat:=0+xeo a k b+(a - xeo a k b)
def xgy {T:Type} (b:Nat) (k:Int) (a:LA) (δ:T) (κl:(Int×LA)->T) (κr:(Bool×(Nat×LA)×(LA))->T):T:=br (decide (k<(↑b:Int))) (br (decide (0<=k)&&decide (k<(↑b:Int))) (br (decide (0+k.toNat<a.length)&&xTm (Sh.int .i64) ((a.getD (0+k.toNat) .top).cells.getD 0 .top)) (br (decide (0<=i64.wrap (k - 1))&&decide (i64.wrap (k - 1)<(↑b:Int))) (br (decide (0+(i64.wrap (k - 1)).toNat<a.length)&&xTm (Sh.int .i64) ((a.getD (0+(i64.wrap (k - 1)).toNat) .top).cells.getD 0 .top)) (br (((a.getD (0+k.toNat) .top).cells.getD 0 .top).toInt==((a.getD (0+(i64.wrap (k - 1)).toNat) .top).cells.getD 0 .top).toInt) (br (decide (0<=k)&&decide (k<=(↑b:Int))) (br ((xon b k a).isSome) (br (xok b k a) (br (decide (xol b k a<=(xiY b k a).length)) (br (xok b k a&&true) (κr (true,(xeo b k a - 0,List.take (0+xeo b k a) (xiY b k a)++(List.replicate (b - xeo b k a) (AV.int .i64 0)++List.drop (xol b k a) (xiY b k a))),[])) δ) δ) δ) δ) δ) (κl (i64.wrap (k+1),a))) δ) δ) δ) δ) (κr (false,(0,[]),(a)))
def xbc (b:Nat):StT (Int×LA) (Bool×(Nat×LA)×(LA)):=fun (k,a)=>xgy b k a none inL inR
def xvv:=xKz.l 61 1 [] [(9,xiZ.lp)] Tryz.f104 0 (lk1 xiZ.ok) [0,3] [0,2] [] (q2 (xUk 0 0 0) qI) (q1 (qB 0 1 3 xUa)) (fun (a,k,_) (b,_)=>(xbc a,(k,b),fun p=>(.node p.1 (.leaf .ret [AV.osl 0 0 0 a,AV.osl 0 0 0 p.2.1.1] [bF 0 1 3 p.2.1.2]) (.leaf (.exit 0) [AV.osl 0 0 0 a,.top] [bF 0 1 3 p.2.2])))) (false,(0,[]),[]) fun (a,_,_) _ (k,b)=>(((a,k,()),(b,())),xgy a k b none)
def xsr (n:Nat) (a:LA):=(Iter (xbc n) (1,a)).getD (false,(0,[]),[])
def xsq (n:Nat) (a:LA):=(xsr n a).snd
def xsp (n:Nat) (a:LA):=(xsq n a).fst
def xtT {T:Type} (n:Nat) (a:LA) (δ:T) (κ:Nat×LA->T):T:=br (decide ((↑n:Int)<2)) (κ (n,a)) (br ((Iter (xbc n) (1,a)).isSome) (br ((xsr n a).fst) (κ ((xsp n a).fst,(xsp n a).snd)) (κ (n,(xsq n a).snd))) δ)
def xwO (n:Nat) (a:LA):=xtT n a none some
def xOZ:EO:=xKz.fM Tryz.func104 61 1 [] [(9,xiZ.lp),(4,xvv.lp)] (lks (lkC xvv.ok (lkC xiZ.ok lkN))) (u1 (sEq (xUk 0 0 0))) (q1 (qB 0 1 3 xUa)) (fun (n,_) (a,_) _=>xtT n a) (fun _ _ p=>(AV.osl 0 0 0 p.1,([bF 0 1 3 p.2]:List Box))) (0,[])
def xhy (b:LA) (c:Int) (a:LA):=a++[AV.int .i64 (gC b c 1).toInt]
def xis {T:Type} (d:LA) (e:Int) (a:Nat) (c:Int) (b:LA) (δ:T) (κl:(Nat×Int×LA)->T) (κr:(Nat×LA)->T):T:=br (decide (c<e)) (br (ixI d c) (br (ixT d c 3 [Sh.list 3,Sh.int .i64,Sh.int .i64] 0) (br (xe8 (gC d c 1).toInt (gC d c 2).toInt) (br (rmB a b 1 8) (br (decide ((gC d c 2).toInt<1099511627776)) (br (a+1==(xhy d c b).length&&(decide ((a+1+1)*8<=140737488355328)&&decide (a+1+1<=4611686018427387904))) (κl (a+1+1,i64.wrap (c+1),xhy d c b++[AV.int .i64 (gC d c 2).toInt])) δ) (κl (a+1,i64.wrap (c+1),xhy d c b))) δ) (κl (a,i64.wrap (c+1),b))) δ) δ) (κr (a,b))
def xcc (c:LA) (d:Int):StT (Nat×Int×LA) (Nat×LA):=fun (b,e,a)=>xis c d b e a none inL inR
def xt4:=xOZ.l 37 0 [] [] Tryz.f67 0 lk0 [3,7,8,9] [3] [(3,1,3)] (q4 (xUk 0 0 0) (qL 3) qI qI) (q1 (qB 0 1 3 xUa)) (fun (b,c,d,e,_) (a,_)=>(xcc c d,(b,e,a),fun p=>(.leaf (.exit 0) [AV.osl 0 0 0 p.1] [bF 0 1 3 p.2]))) (0,[]) fun (_,c,d,_,_) _ (b,e,a)=>(((b,c,d,e,()),(a,())),xis c d b e a none)
def xqi (l:LA):=Iter (xcc l (↑l.length:Int)) (1,0,[AV.int .i64 0])
def xqh (l:LA):=(xqi l).getD (0,[])
def xkH (l:LA):=(xqh l).fst
def xkI (l:LA):=(xqh l).snd
def xqg (l:LA):=xwO (xkH l) (srtI (xkI l))
def xqf (l:LA):=(xqg l).getD (0,[])
def xqd (l:LA):=(xqf l).snd
def xqe (l:LA):=(xqf l).fst
def xr0 {T:Type} (l:LA) (δ:T) (κ:LA->T):T:=br ((xqi l).isSome) (br ((xkH l).beq (xkI l).length&&(decide (xkH l<4611686018427387904)&&(xkI l).all isI)) (br ((xqg l).isSome) (br (decide (0+xqe l<=(xqd l).length)&&true) (κ (List.take (xqe l) (List.drop 0 (xqd l)))) δ) δ) δ) δ
def xhw (l:LA):=xr0 l none some
def xRN:EO:=xOZ.f Tryz.func67 37 0 [] [(3,xt4.lp)] (lk1 xt4.ok) (u1 (uL 3)) (fun (l,_) _=>xr0 l) (fun _ p=>AV.list 1 p) []
def xpE (a b t:Int):Bool:=(br (xe8 a b) (br (decide (t>=a)) ((decide (t<b))) ((false))) ((false)))
def xDv {T:Type} (a b t:Int) (δ:T) (κ:Bool->T):T:=br (xe8 a b) (br (decide (t>=a)) (κ (decide (t<b))) (κ (false))) (κ (false))
def xOx:EO:=xRN.fT Tryz.func105 19 0 [] [] lk0 (fun ((a,b,_),t,_)=>xDv a b t none) (u2 (xUp (u2 uI uI)) uI) (fun ((a,b,_),t,_)=>xpE a b t) (fun _ p=>(AV.bool p))
def xoa {T:Type} (t:Int) (d:LA) (e:Int) (c:Nat) (b:Int) (a:LA) (δ:T) (κl:(Nat×Int×LA)->T) (κr:(Nat×LA)->T):T:=br (decide (b<e)) (br (ixI d b) (br (ixT d b 3 [Sh.list 3,Sh.int .i64,Sh.int .i64] 0) (br (xpE (gC d b 1).toInt (gC d b 2).toInt t) (br (rmB c a 1 24) (κl (c+1,i64.wrap (b+1),a++[AV.list 3 (gC d b 0).toList])) δ) (κl (c,i64.wrap (b+1),a))) δ) δ) (κr (c,a))
def xeS (t:Int) (d:LA) (e:Int):StT (Nat×Int×LA) (Nat×LA):=fun (b,c,a)=>xoa t d e b c a none inL inR
def xy4:=xOx.l 26 0 [] [] Tryz.f68 0 lk0 [1,5,8,9,10] [5] [(5,1,57)] (q5 qI (xUk 0 0 0) (qL 3) qI qI) (q1 (qB 0 1 57 xUa)) (fun (t,b,d,e,c,_) (a,_)=>(xeS t d e,(b,c,a),fun p=>(.leaf (.exit 0) [AV.osl 0 0 0 p.1] [bF 0 1 57 p.2]))) (0,[]) fun (t,_,d,e,_,_) _ (b,c,a)=>(((t,b,d,e,c,()),(a,())),xoa t d e b c a none)
def xwj (l:LA) (t:Int):=(Iter (xeS t l (↑l.length:Int)) (0,0,[])).getD (0,[])
def xwh (l:LA) (t:Int):=(xwj l t).fst
def xwi (l:LA) (t:Int):=(xwj l t).snd
def xwg (l:LA) (t:Int):=xov (List.take (xwh l t) (List.drop 0 (xwi l t)))
def xyD {T:Type} (l:LA) (t:Int) (δ:T) (κ:LA->T):T:=br ((Iter (xeS t l (↑l.length:Int)) (0,0,[])).isSome) (br (decide (0+xwh l t<=(xwi l t).length)&&true) (br ((xwg l t).isSome) (κ ((xwg l t).getD [])) δ) δ) δ
def xe7 (l:LA) (t:Int):=xyD l t none some
def xRO:EO:=xOx.f Tryz.func68 26 0 [] [(3,xy4.lp)] (lk1 xy4.ok) (u2 (uL 3) uI) (fun (l,t,_) _=>xyD l t) (fun _ p=>AV.list 1 p) []
def xkX (b a:Bool):Int:=(br (b) (((-1))) (br (a) ((1)) ((0))))
def xIn {T:Type} (b a:Bool) (δ:T) (κ:Int->T):T:=br (b) (κ ((-1))) (br (a) (κ (1)) (κ (0)))
def xQB:EO:=xRO.fT Tryz.func128 7 0 [] [] lk0 (fun (b,a,_)=>xIn b a none) (u2 (sEq pBool) (sEq pBool)) (fun (b,a,_)=>xkX b a) (fun _ p=>(AV.int .i64 p))
def xid (a b:Int) (c:List UInt8) (d e:Int) (f:List UInt8):Int:=(br (a != d) ((xkX (decide (a<d)) (decide (a>d)))) (br (b != e) ((xkX (decide (b<e)) (decide (b>e)))) ((xkX (Op.bytesLess c f) !(Op.bytesLess c f || c==f)))))
def xFe {T:Type} (a b:Int) (c:List UInt8) (d e:Int) (f:List UInt8) (δ:T) (κ:Int->T):T:=br (a != d) (κ (xkX (decide (a<d)) (decide (a>d)))) (br (b != e) (κ (xkX (decide (b<e)) (decide (b>e)))) (κ (xkX (Op.bytesLess c f) !(Op.bytesLess c f || c==f))))
def xLF:EO:=xQB.fT Tryz.func96 48 0 [] [] lk0 (fun ((a,b,c,_),(d,e,f,_),_)=>xFe a b c d e f none) (u2 (xUp (u3 uI uI (sEq pStr))) (xUp (u3 uI uI (sEq pStr)))) (fun ((a,b,c,_),(d,e,f,_),_)=>xid a b c d e f) (fun _ p=>(AV.int .i64 p))
def xe5 (a b:LA) (i:Int):=xid (gC a i 0).toInt (gC a i 1).toInt (gC a i 2).toStr (gC b i 0).toInt (gC b i 1).toInt (gC b i 2).toStr
def xfp {T:Type} (a b:LA) (i:Int) (δ:T) (κl:(Int)->T) (κr:(Bool×(Int)×(Unit))->T):T:=br (decide (i<a.length)) (br (decide (i<b.length)) (br (ixI a i) (br (ixT a i 3 [Sh.int .i64,Sh.int .i64,Sh.str] 0) (br (ixI b i) (br (ixT b i 3 [Sh.int .i64,Sh.int .i64,Sh.str] 0) (br (xe5 a b i != 0) (κr (true,(xe5 a b i),())) (κl (i64.wrap (i+1)))) δ) δ) δ) δ) (κr (false,0,()))) (κr (false,0,()))
def xbD (a b:LA):StT (Int) (Bool×(Int)×(Unit)):=fun (i)=>xfp a b i none inL inR
def xv5:=xLF.l 41 0 [] [] Tryz.f64 0 lk0 [0,1,5] [0,1,4] [] (q3 (qL 3) (qL 3) qI) xT8 (fun (a,b,i,_) _=>(xbD a b,(i),fun p=>(.node p.1 (.leaf .ret [AV.list 3 a,AV.list 3 b,AV.int .i64 p.2.1] []) (.leaf (.exit 0) [AV.list 3 a,AV.list 3 b,.top] [])))) (false,0,()) fun (a,b,_,_) _ (i)=>(((a,b,i,()),()),xfp a b i none)
def xuO {T:Type} (a b:LA) (δ:T) (κ:Int->T):T:=br ((Iter (xbD a b) 0).isSome) (br (((Iter (xbD a b) 0).getD (false,0,())).fst) (κ (((Iter (xbD a b) 0).getD (false,0,())).snd.fst)) (br (decide ((↑a.length:Int)<(↑b.length:Int))) (κ ((-1))) (br (decide ((↑a.length:Int)>(↑b.length:Int))) (κ (1)) (κ (0))))) δ
def xbr (a b:LA):=xuO a b none some
def xQC:EO:=xLF.f Tryz.func64 41 0 [] [(2,xv5.lp)] (lk1 xv5.ok) (u2 (uL 3) (uL 3)) (fun (a,b,_) _=>xuO a b) (fun _ p=>AV.int .i64 p) 0
def xyI {T:Type} (a b:LA) (δ:T) (κ:Bool->T):T:=br ((xbr a b).isSome) (κ ((xbr a b).getD 0==0)) δ
def xl0 (a b:LA):=xyI a b none some
def xLG:EO:=xQC.f Tryz.func57 9 0 [] [] lk0 (u2 (uL 3) (uL 3)) (fun (a,b,_) _=>xyI a b) (fun _ p=>AV.bool p) false
def xiV {T:Type} (a b:LA) (i:Int) (δ:T) (κl:(Int)->T) (κr:(Bool×(Bool)×(Unit))->T):T:=br (decide (i<a.length)) (br (ixI a i) (br (ixT a i 3 [Sh.int .i64,Sh.int .i64] 1) (br (ixI b i) (br (ixT b i 3 [Sh.int .i64,Sh.int .i64] 1) (br (!((gC a i 1).toInt==(gC b i 1).toInt&&((gC a i 2).toInt==(gC b i 2).toInt&&true))) (κr (true,(false),())) (br (ixI a i) (br (ixS a i (Sh.list 3) 0) (br (ixI b i) (br (ixS b i (Sh.list 3) 0) (br ((xbr (gC a i 0).toList (gC b i 0).toList).isSome) (br ((xbr (gC a i 0).toList (gC b i 0).toList).getD 0 != 0) (κr (true,(false),())) (κl (i64.wrap (i+1)))) δ) δ) δ) δ) δ)) δ) δ) δ) δ) (κr (false,false,()))
def xce (a b:LA):StT (Int) (Bool×(Bool)×(Unit)):=fun (i)=>xiV a b i none inL inR
def xua:=xLG.l 42 0 [] [] Tryz.f38 0 lk0 [0,1,5] [4] [] (q3 (qL 3) (qL 3) qI) xT8 (fun (a,b,i,_) _=>(xce a b,(i),fun p=>(.node p.1 (.leaf .ret [AV.bool p.2.1] []) (.leaf (.exit 0) [.top] [])))) (false,false,()) fun (a,b,_,_) _ (i)=>(((a,b,i,()),()),xiV a b i none)
def xsm {T:Type} (a b:LA) (δ:T) (κ:Bool->T):T:=br ((↑a.length:Int) != (↑b.length:Int)) (κ (false)) (br ((Iter (xce a b) 0).isSome) (br (((Iter (xce a b) 0).getD (false,false,())).fst) (κ (((Iter (xce a b) 0).getD (false,false,())).snd.fst)) (κ (true))) δ)
def xk6 (a b:LA):=xsm a b none some
def xLH:EO:=xLG.f Tryz.func38 42 0 [] [(4,xua.lp)] (lk1 xua.ok) (u2 (uL 3) (uL 3)) (fun (a,b,_) _=>xsm a b) (fun _ p=>AV.bool p) false
def xfw (a b:LA) (i k:Int):=decide ((xbr (gC b k 0).toList (gC a i 0).toList).getD 0<0)
def xfy (b:LA) (k:Int):=decide (k.toNat<b.length)&&((b.getD k.toNat .top).cells.length==3&&xTt [Sh.list 3,Sh.int .i64,Sh.int .i64] (b.getD k.toNat .top).cells 0)
def xfz (a:LA) (i:Int):=decide (i.toNat<a.length)&&((a.getD i.toNat .top).cells.length==3&&xTt [Sh.list 3,Sh.int .i64,Sh.int .i64] (a.getD i.toNat .top).cells 0)
def xd7 (b:LA) (k:Int):=ixI b k
def xd8 (a:LA) (i:Int):=ixI a i
def xdu {T:Type} (b:LA) (c:Nat) (i k:Int) (a:LA) (δ:T) (κl:(Nat×Int×Int×LA)->T):T:=br (xd7 b k) (br (xfy b k) (br (rmB c a 1 40) (κl (c+1,i,i64.wrap (k+1),a++[AV.agg [AV.list 3 (gC b k 0).toList,AV.int .i64 (gC b k 1).toInt,AV.int .i64 (gC b k 2).toInt]])) δ) δ) δ
def xdv {T:Type} (a:LA) (c:Nat) (i k:Int) (b:LA) (δ:T) (κl:(Nat×Int×Int×LA)->T):T:=br (xd8 a i) (br (xfz a i) (br (rmB c b 1 40) (κl (c+1,i64.wrap (i+1),k,b++[AV.agg [AV.list 3 (gC a i 0).toList,AV.int .i64 (gC a i 1).toInt,AV.int .i64 (gC a i 2).toInt]])) δ) δ) δ
def xdt {T:Type} (a b:LA) (d:Nat) (i k:Int) (c:LA) (δ:T) (κl:(Nat×Int×Int×LA)->T):T:=br (i==(↑a.length:Int)) (xdu b d i k c δ κl) (br (decide (k<b.length)) (br (xd7 b k) (br (ixS b k (Sh.list 3) 0) (br (xd8 a i) (br (ixS a i (Sh.list 3) 0) (br ((xbr (gC b k 0).toList (gC a i 0).toList).isSome) (br (xfw a b i k) (xdu b d i k c δ κl) (xdv a d i k c δ κl)) δ) δ) δ) δ) δ) (xdv a d i k c δ κl))
def xeO {T:Type} (a b:LA) (d:Nat) (i k:Int) (c:LA) (δ:T) (κl:(Nat×Int×Int×LA)->T) (κr:(Nat×LA)->T):T:=br (decide (i<a.length)) (xdt a b d i k c δ κl) (br (decide (k<b.length)) (xdt a b d i k c δ κl) (κr (d,c)))
def xbQ (a b:LA):StT (Nat×Int×Int×LA) (Nat×LA):=fun (d,i,k,c)=>xeO a b d i k c none inL inR
def xyn:=xLH.l 61 0 [] [] Tryz.f123 0 lk0 [0,1,5,6,7] [5] [(5,3,59)] (q5 (qL 3) (qL 3) (xUk 0 0 0) qI qI) (q1 (qB 0 3 59 xUa)) (fun (a,b,d,i,k,_) (c,_)=>(xbQ a b,(d,i,k,c),fun p=>(.leaf (.exit 0) [AV.osl 0 0 0 p.1] [bF 0 3 59 p.2]))) (0,[]) fun (a,b,_,_,_,_) _ (d,i,k,c)=>(((a,b,d,i,k,()),(c,())),xeO a b d i k c none)
def xvn (a b:LA):=Iter (xbQ a b) (0,0,0,[])
def xvm (a b:LA):=(xvn a b).getD (0,[])
def xvk (a b:LA):=(xvm a b).fst
def xvl (a b:LA):=(xvm a b).snd
def xwM {T:Type} (a b:LA) (δ:T) (κ:LA->T):T:=br ((xvn a b).isSome) (br (decide (0+xvk a b<=(xvl a b).length)&&true) (κ (List.take (xvk a b) (List.drop 0 (xvl a b)))) δ) δ
def xz9 (a b:LA):=xwM a b none some
def xEA:EO:=xLH.f Tryz.func123 61 0 [] [(3,xyn.lp)] (lk1 xyn.ok) (u2 (uL 3) (uL 3)) (fun (a,b,_) _=>xwM a b) (fun _ p=>AV.list 3 p) []
def xqW (R:LA->Option (LA)):LA->Option (Bool×AV):=ocOf (xT7 (xUo 3 xUa) xT9) fun (l,_)=>((R l).isSome,AV.list 3 ((R l).getD []))
def xj3 (R:LA->Option (LA)):Env:=(xEA.E.with 89 (xqW R)).fn 20 0 (lsOf []) (xTL [])
def xpv (R:LA->Option (LA)):Prop:=OcOk P0 xT5 89 (xqW R)
theorem xCw (R:LA->Option (LA)) (a:xpv R):xTo P0 (xT5.at 0) (xj3 R):=(xEA.ok.with a).fn
theorem xBy (R:LA->Option (LA)):LoOk P0 (xT5.at (xj3 R).pin) (xj3 R) (Tryz.f89.body.getD .skip):=xtq (by kernel_rfl)
def xtM (l:LA):=decide (0<=i64.wrap ((↑l.length:Int).tdiv 2))&&decide (i64.wrap ((↑l.length:Int).tdiv 2)<=(↑l.length:Int))
def xtN (R:LA->Option (LA)) (l:LA):Option (LA):=R (List.take (l.length - (i64.wrap ((↑l.length:Int).tdiv 2)).toNat) (List.drop (i64.wrap ((↑l.length:Int).tdiv 2)).toNat l))
def xtL (R:LA->Option (LA)) (l:LA):Option (LA):=xz9 ((R (List.take ((i64.wrap ((↑l.length:Int).tdiv 2)).toNat - 0) (List.drop 0 l))).getD []) ((xtN R l).getD [])
def xhH {T:Type} (R:LA->Option (LA)) (l:LA) (δ:T) (κ:LA->T):T:=br (decide ((↑l.length:Int)<2)) (κ (l)) (br (xtM l&&true) (br ((R (List.take ((i64.wrap ((↑l.length:Int).tdiv 2)).toNat - 0) (List.drop 0 l))).isSome) (br (xtM l) (br ((xtN R l).isSome) (br ((xtL R l).isSome) (κ ((xtL R l).getD [])) δ) δ) δ) δ) δ)
def xdd (R:LA->Option (LA)) (l:LA):=xhH R l none some
theorem xFn (R:LA->Option (LA)) (l:LA):Enc (fun (p:LA)=>((AV.list 3 p):AV)) (xdd R l) (XF P0 (xj3 R) Tryz.f89 (Tryz.f89.body.getD .skip) [AV.list 3 l]):=by
 refine eV (xhH R l none (fun (p:LA)=>some ((AV.list 3 p):AV))) (by kernel_rfl) ?_;unfold xdd xhH;repeat' first|exact eN|exact eS rfl|apply eB
def xFm (R:LA->Option (LA)):LA->Option (Bool×AV):=ocOf (xT7 (xUo 3 xUa) xT9) fun (l,_)=>((xdd R l).isSome,(AV.list 3 ((xdd R l).getD [])))
theorem xFl (R:LA->Option (LA)) (c:xpv R):OcOk P0 xT5 89 (xFm R):=xm6 fun e g f=>by
 obtain ⟨l,_⟩:=e;obtain ⟨a,b⟩:=Prod.mk.inj f;refine xdX (p:=(xj3 R).pin) (xgd xTy (xTz P0 _) rfl (xCw R c) Tryz.func89 rfl (by kernel_rfl) (xBy R) ((xFn R _ _ (xcf (d:=[]) a)).trans ?_))
 exact congrArg some b
def xco:Nat->LA->Option (LA)
 | 0=>fun _=>none
 | fu_+1=>fun l=>xdd (xco fu_) l
theorem xyo:∀ n,xpv (xco n)
 | 0=>xm6 fun _ _ h=>absurd (Prod.mk.inj h).1 Bool.false_ne_true
 | fu_+1=>fun a r h=>xFl (xco fu_) (xyo fu_) a r h
def xLI:Env:=xEA.E.with 89 (xqW (xco 100))
theorem xLK:xTo P0 xT5 xLI:=xEA.ok.with (xyo _)
def xLJ:EO:=EO.mk xLI xLK
def xsZ (a b c d:Int):Int:=(br (a==c&&(b==d&&true)) ((0)) (br (decide (a<c)) (((-1))) (br (a==c) (br (decide (b<d)) (((-1))) ((1))) ((1)))))
def xFc {T:Type} (a b c d:Int) (δ:T) (κ:Int->T):T:=br (a==c&&(b==d&&true)) (κ (0)) (br (decide (a<c)) (κ ((-1))) (br (a==c) (br (decide (b<d)) (κ ((-1))) (κ (1))) (κ (1))))
def xQD:EO:=xLJ.fT Tryz.func126 27 0 [] [] lk0 (fun ((a,b,_),(c,d,_),_)=>xFc a b c d none) (u2 (xUp (u2 uI uI)) (xUp (u2 uI uI))) (fun ((a,b,_),(c,d,_),_)=>xsZ a b c d) (fun _ p=>(AV.int .i64 p))
def xK8:Int×Int×List UInt8:=((0,0,[]))
def xIm {T:Type} (δ:T) (κ:Int×Int×List UInt8->T):T:=κ (0,0,[])
def xQE:EO:=xQD.fT Tryz.func120 2 0 [] [] lk0 (fun _=>xIm none) xT9 (fun _=>xK8) (fun _ p=>(AV.agg [AV.int .i64 p.1,AV.int .i64 p.2.1,AV.str p.2.2]))
def xBV {T:Type} (a:LA) (i:Int) (δ:T) (κ:Int×Int×List UInt8->T):T:=br (decide (i<0)) (κ (0,0,[])) (br (decide (i>=a.length)) (κ (0,0,[])) (br (ixI a i) (br (ixT a i 3 [Sh.int .i64,Sh.int .i64,Sh.str] 0) (κ ((gC a i 0).toInt,(gC a i 1).toInt,(gC a i 2).toStr)) δ) δ))
def xqG (a:LA) (i:Int):=xBV a i none some
def xJz:EO:=xQE.f Tryz.func86 18 0 [] [] lk0 (u2 (uL 3) uI) (fun (a,i,_) _=>xBV a i) (fun _ p=>AV.agg [AV.int .i64 p.1,AV.int .i64 p.2.1,AV.str p.2.2]) (0,0,[])
def xqH (o:LA) (i:Int):=ixI o i
def xyg (a o:LA) (i:Int):=(xqG a (gC o i 0).toInt).getD (0,0,[])
def xyh (b o:LA) (i:Int):=(xqG b (gC o i 0).toInt).getD (0,0,[])
def xye (a o:LA) (i:Int):=(xyg a o i).snd
def xyf (b o:LA) (i:Int):=(xyh b o i).snd
def xyd (a b o:LA) (i:Int):=xid (xyg a o i).fst (xye a o i).fst (xye a o i).snd (xyh b o i).fst (xyf b o i).fst (xyf b o i).snd
def xr6 {T:Type} (a b o:LA) (i:Int) (δ:T) (κl:(Int)->T) (κr:(Bool×(Bool)×(Unit))->T):T:=br (decide (i<o.length)) (br (xqH o i) (br (ixS o i (Sh.int .i64) 0) (br ((xqG a (gC o i 0).toInt).isSome) (br (xqH o i) (br (ixS o i (Sh.int .i64) 0) (br ((xqG b (gC o i 0).toInt).isSome) (br (xyd a b o i != 0) (br (xqH o i) (br (decide (i.toNat<o.length)&&xTm Sh.bool (gC o i 1)) (κr (true,(!decide (xyd a b o i<0)==(gC o i 1).toBool),())) δ) δ) (κl (i64.wrap (i+1)))) δ) δ) δ) δ) δ) δ) (κr (false,false,()))
def xei (a b o:LA):StT (Int) (Bool×(Bool)×(Unit)):=fun (i)=>xr6 a b o i none inL inR
def xyc:=xJz.l 44 0 [] [] Tryz.f152 0 lk0 [0,1,2,7] [0,1,6] [] (q4 (qL 3) (qL 3) (qL 2) qI) xT8 (fun (a,b,o,i,_) _=>(xei a b o,(i),fun p=>(.node p.1 (.leaf .ret [AV.list 3 a,AV.list 3 b,AV.bool p.2.1] []) (.leaf (.exit 0) [AV.list 3 a,AV.list 3 b,.top] [])))) (false,false,()) fun (a,b,o,_,_) _ (i)=>(((a,b,o,i,()),()),xr6 a b o i none)
def xwG {T:Type} (a b o:LA) (δ:T) (κ:Bool->T):T:=br ((Iter (xei a b o) 0).isSome) (br (((Iter (xei a b o) 0).getD (false,false,())).fst) (κ (((Iter (xei a b o) 0).getD (false,false,())).snd.fst)) (br ((xbr a b).isSome) (κ (decide ((xbr a b).getD 0<0))) δ)) δ
def xuQ (a b o:LA):=xwG a b o none some
def xJA:EO:=xJz.f Tryz.func152 44 0 [] [(2,xyc.lp)] (lk1 xyc.ok) (u3 (uL 3) (uL 3) (uL 2)) (fun (a,b,o,_) _=>xwG a b o) (fun _ p=>AV.bool p) false
def xd2 (a:LA) (i:Int):=decide (i.toNat<a.length)&&xTm (Sh.list 3) (gC a i 0)
def xd3 (b:LA) (k:Int):=decide (k.toNat<b.length)&&xTm (Sh.list 3) (gC b k 0)
def xd4 (b:LA) (k:Int):=ixI b k
def xd5 (a:LA) (i:Int):=ixI a i
def xdo {T:Type} (b:LA) (c:Nat) (i k:Int) (a:LA) (δ:T) (κl:(Nat×Int×Int×LA)->T):T:=br (xd4 b k) (br (xd3 b k) (br (rmB c a 1 24) (κl (c+1,i,i64.wrap (k+1),a++[AV.list 3 (gC b k 0).toList])) δ) δ) δ
def xdp {T:Type} (a:LA) (c:Nat) (i k:Int) (b:LA) (δ:T) (κl:(Nat×Int×Int×LA)->T):T:=br (xd5 a i) (br (xd2 a i) (br (rmB c b 1 24) (κl (c+1,i64.wrap (i+1),k,b++[AV.list 3 (gC a i 0).toList])) δ) δ) δ
def xdn {T:Type} (a b o:LA) (d:Nat) (i k:Int) (c:LA) (δ:T) (κl:(Nat×Int×Int×LA)->T):T:=br (i==(↑a.length:Int)) (xdo b d i k c δ κl) (br (decide (k<b.length)) (br (xd4 b k) (br (xd3 b k) (br (xd5 a i) (br (xd2 a i) (br ((xuQ (gC b k 0).toList (gC a i 0).toList o).isSome) (br ((xuQ (gC b k 0).toList (gC a i 0).toList o).getD false) (xdo b d i k c δ κl) (xdp a d i k c δ κl)) δ) δ) δ) δ) δ) (xdp a d i k c δ κl))
def xeN {T:Type} (a b o:LA) (d:Nat) (i k:Int) (c:LA) (δ:T) (κl:(Nat×Int×Int×LA)->T) (κr:(Nat×LA)->T):T:=br (decide (i<a.length)) (xdn a b o d i k c δ κl) (br (decide (k<b.length)) (xdn a b o d i k c δ κl) (κr (d,c)))
def xbP (a b o:LA):StT (Nat×Int×Int×LA) (Nat×LA):=fun (d,i,k,c)=>xeN a b o d i k c none inL inR
def xyi:=xJA.l 62 0 [] [] Tryz.f122 0 lk0 [0,1,2,7,8,9] [7] [(7,1,57)] (q6 (qL 1) (qL 1) (qL 2) (xUk 0 0 0) qI qI) (q1 (qB 0 1 57 xUa)) (fun (a,b,o,d,i,k,_) (c,_)=>(xbP a b o,(d,i,k,c),fun p=>(.leaf (.exit 0) [AV.osl 0 0 0 p.1] [bF 0 1 57 p.2]))) (0,[]) fun (a,b,o,_,_,_,_) _ (d,i,k,c)=>(((a,b,o,d,i,k,()),(c,())),xeN a b o d i k c none)
def xuU (a b o:LA):=Iter (xbP a b o) (0,0,0,[])
def xuT (a b o:LA):=(xuU a b o).getD (0,[])
def xuR (a b o:LA):=(xuT a b o).snd
def xuS (a b o:LA):=(xuT a b o).fst
def xwH {T:Type} (a b o:LA) (δ:T) (κ:LA->T):T:=br ((xuU a b o).isSome) (br (decide (0+xuS a b o<=(xuR a b o).length)&&true) (κ (List.take (xuS a b o) (List.drop 0 (xuR a b o)))) δ) δ
def xzZ (a b o:LA):=xwH a b o none some
def xDl:EO:=xJA.f Tryz.func122 62 0 [] [(3,xyi.lp)] (lk1 xyi.ok) (u3 (uL 1) (uL 1) (uL 2)) (fun (a,b,o,_) _=>xwH a b o) (fun _ p=>AV.list 1 p) []
def xtA (R:LA->LA->Option (LA)):LA->Option (Bool×AV):=ocOf (xT7 (xUo 1 xUa) (xT7 (xUo 2 xUa) xT9)) fun (l,(o,_))=>((R l o).isSome,AV.list 1 ((R l o).getD []))
def xnk (R:LA->LA->Option (LA)):Env:=(xDl.E.with 88 (xtA R)).fn 34 0 (lsOf []) (xTL [])
def xr5 (R:LA->LA->Option (LA)):Prop:=OcOk P0 xT5 88 (xtA R)
theorem xDy (R:LA->LA->Option (LA)) (a:xr5 R):xTo P0 (xT5.at 0) (xnk R):=(xDl.ok.with a).fn
theorem xCt (R:LA->LA->Option (LA)):LoOk P0 (xT5.at (xnk R).pin) (xnk R) (Tryz.f88.body.getD .skip):=xtq (by kernel_rfl)
def xnm (l:LA):=decide (0<=i64.wrap ((↑l.length:Int).tdiv 2))&&decide (i64.wrap ((↑l.length:Int).tdiv 2)<=(↑l.length:Int))
def xg0 (l:LA):Nat:=0+((l.getD 0 .top).cells.getD 0 .top).toList.length
def xnn (R:LA->LA->Option (LA)) (l o:LA):Option (LA):=R (List.take (l.length - (i64.wrap ((↑l.length:Int).tdiv 2)).toNat) (List.drop (i64.wrap ((↑l.length:Int).tdiv 2)).toNat l)) o
def xnl (R:LA->LA->Option (LA)) (l o:LA):Option (LA):=xzZ ((R (List.take ((i64.wrap ((↑l.length:Int).tdiv 2)).toNat - 0) (List.drop 0 l)) o).getD []) ((xnn R l o).getD []) o
def xgj {T:Type} (R:LA->LA->Option (LA)) (l o:LA) (δ:T) (κ:LA->T):T:=br ((↑l.length:Int)==0) (κ ([])) (br ((↑l.length:Int)==1) (br (decide (0<(↑l.length:Int))) (br (decide (0<l.length)&&xTm (Sh.list 3) ((l.getD 0 .top).cells.getD 0 .top)) (br (decide (xg0 l*32<=140737488355328)&&decide (xg0 l<=4611686018427387904)) (br (decide (0+xg0 l<=([]++((l.getD 0 .top).cells.getD 0 .top).toList).length)&&true&&true&&true) (κ ([AV.list 3 (List.take (xg0 l) (List.drop 0 ([]++((l.getD 0 .top).cells.getD 0 .top).toList)))])) δ) δ) δ) δ) (br (xnm l&&true) (br ((R (List.take ((i64.wrap ((↑l.length:Int).tdiv 2)).toNat - 0) (List.drop 0 l)) o).isSome) (br (xnm l) (br ((xnn R l o).isSome) (br ((xnl R l o).isSome) (κ ((xnl R l o).getD [])) δ) δ) δ) δ) δ))
def xcO (R:LA->LA->Option (LA)) (l o:LA):=xgj R l o none some
theorem xG9 (R:LA->LA->Option (LA)) (l o:LA):Enc (fun (p:LA)=>((AV.list 1 p):AV)) (xcO R l o) (XF P0 (xnk R) Tryz.f88 (Tryz.f88.body.getD .skip) [AV.list 1 l,AV.list 2 o]):=by
 refine eV (xgj R l o none (fun (p:LA)=>some ((AV.list 1 p):AV))) (by kernel_rfl) ?_;unfold xcO xgj;repeat' first|exact eN|exact eS rfl|apply eB
def xG8 (R:LA->LA->Option (LA)):LA->Option (Bool×AV):=ocOf (xT7 (xUo 1 xUa) (xT7 (xUo 2 xUa) xT9)) fun (l,(o,_))=>((xcO R l o).isSome,(AV.list 1 ((xcO R l o).getD [])))
theorem xG7 (R:LA->LA->Option (LA)) (c:xr5 R):OcOk P0 xT5 88 (xG8 R):=xm6 fun e g f=>by
 obtain ⟨l,⟨o,_⟩⟩:=e;obtain ⟨a,b⟩:=Prod.mk.inj f;refine xdX (p:=(xnk R).pin) (xgd xTy (xTz P0 _) rfl (xDy R c) Tryz.func88 rfl (by kernel_rfl) (xCt R) ((xG9 R _ _ _ (xcf (d:=[]) a)).trans ?_))
 exact congrArg some b
def xcF:Nat->LA->LA->Option (LA)
 | 0=>fun _ _=>none
 | fu_+1=>fun l o=>xcO (xcF fu_) l o
theorem xzV:∀ n,xr5 (xcF n)
 | 0=>xm6 fun _ _ h=>absurd (Prod.mk.inj h).1 Bool.false_ne_true
 | fu_+1=>fun a r h=>xG7 (xcF fu_) (xzV fu_) a r h
def xJB:Env:=xDl.E.with 88 (xtA (xcF 1000))
theorem xKy:xTo P0 xT5 xJB:=xDl.ok.with (xzV _)
def xKw:EO:=EO.mk xJB xKy
def xzY {T:Type} (l:LA) (δ:T) (κ:LA->T):T:=br ((xcF 1000 l []).isSome) (κ ((xcF 1000 l []).getD [])) δ
def xiL (l:LA):=xzY l none some
def xJC:EO:=xKw.f Tryz.func58 5 0 [] [] lk0 (u1 (uL 1)) (fun (l,_) _=>xzY l) (fun _ p=>AV.list 1 p) []
def xiI (a:LA) (i:Int):=decide (i.toNat<a.length)&&xTm (Sh.list 3) (gC a i 0)
def xiJ (a:LA) (i:Int):=ixI a i
def xiK (a:LA) (i:Int):=xl0 ((a.getD (i64.wrap (i - 1)).toNat .top).cells.getD 0 .top).toList (gC a i 0).toList
def xfq {T:Type} (c:LA) (b:Nat) (i:Int) (a:LA) (δ:T) (κl:(Nat×Int×LA)->T):T:=br (xiJ c i) (br (xiI c i) (br (rmB b a 1 24) (κl (b+1,i64.wrap (i+1),a++[AV.list 3 (gC c i 0).toList])) δ) δ) δ
def xgw {T:Type} (a:LA) (c:Nat) (i:Int) (b:LA) (δ:T) (κl:(Nat×Int×LA)->T) (κr:(Nat×LA)->T):T:=br (decide (i<a.length)) (br (i==0) (xfq a c i b δ κl) (br (decide (0<=i64.wrap (i - 1))&&decide (i64.wrap (i - 1)<(↑a.length:Int))) (br (decide ((i64.wrap (i - 1)).toNat<a.length)&&xTm (Sh.list 3) ((a.getD (i64.wrap (i - 1)).toNat .top).cells.getD 0 .top)) (br (xiJ a i) (br (xiI a i) (br ((xiK a i).isSome) (br (!(xiK a i).getD false) (xfq a c i b δ κl) (κl (c,i64.wrap (i+1),b))) δ) δ) δ) δ) δ)) (κr (c,b))
def xcs (c:LA):StT (Nat×Int×LA) (Nat×LA):=fun (b,i,a)=>xgw c b i a none inL inR
def xuP:=xJC.l 38 0 [] [] Tryz.f124 0 lk0 [3,4,5] [4] [(4,1,57)] (q3 (qL 1) (xUk 0 0 0) qI) (q1 (qB 0 1 57 xUa)) (fun (c,b,i,_) (a,_)=>(xcs c,(b,i,a),fun p=>(.leaf (.exit 0) [AV.osl 0 0 0 p.1] [bF 0 1 57 p.2]))) (0,[]) fun (c,_,_,_) _ (b,i,a)=>(((c,b,i,()),(a,())),xgw c b i a none)
def xr4 (l:LA):=(Iter (xcs ((xiL l).getD [])) (0,0,[])).getD (0,[])
def xr2 (l:LA):=(xr4 l).snd
def xr3 (l:LA):=(xr4 l).fst
def xtz {T:Type} (l:LA) (δ:T) (κ:LA->T):T:=br ((xiL l).isSome) (br ((Iter (xcs ((xiL l).getD [])) (0,0,[])).isSome) (br (decide (0+xr3 l<=(xr2 l).length)&&true) (κ (List.take (xr3 l) (List.drop 0 (xr2 l)))) δ) δ) δ
def xwF (l:LA):=xtz l none some
def xJD:EO:=xJC.f Tryz.func124 38 0 [] [(4,xuP.lp)] (lk1 xuP.ok) (u1 (uL 1)) (fun (l,_) _=>xtz l) (fun _ p=>AV.list 1 p) []
def xpW {T:Type} (l:LA) (b:Nat) (i:Int) (a:LA) (δ:T) (κl:(Nat×Int×LA)->T) (κr:(Nat×LA)->T):T:=br (decide (i<l.length)) (br (ixI l i) (br (ixT l i 3 [Sh.int .i64,Sh.int .i64] 1) (br (xdj (gC l i 1).toInt (gC l i 2).toInt) (br (ixI l i) (br (ixS l i (Sh.list 3) 0) (br (rmB b a 1 24) (κl (b+1,i64.wrap (i+1),a++[AV.list 3 (gC l i 0).toList])) δ) δ) δ) (κl (b,i64.wrap (i+1),a))) δ) δ) (κr (b,a))
def xfv (l:LA):StT (Nat×Int×LA) (Nat×LA):=fun (b,i,a)=>xpW l b i a none inL inR
def xz7:=xJD.l 27 0 [] [] Tryz.f90 0 lk0 [0,3,4] [3] [(3,1,57)] (q3 (qL 3) (xUk 0 0 0) qI) (q1 (qB 0 1 57 xUa)) (fun (l,b,i,_) (a,_)=>(xfv l,(b,i,a),fun p=>(.leaf (.exit 0) [AV.osl 0 0 0 p.1] [bF 0 1 57 p.2]))) (0,[]) fun (l,_,_,_) _ (b,i,a)=>(((l,b,i,()),(a,())),xpW l b i a none)
def xyS (l:LA):=(Iter (xfv l) (0,0,[])).getD (0,[])
def xyQ (l:LA):=(xyS l).fst
def xyR (l:LA):=(xyS l).snd
def xyP (l:LA):=xwF (List.take (xyQ l) (List.drop 0 (xyR l)))
def xz8 {T:Type} (l:LA) (δ:T) (κ:LA->T):T:=br ((Iter (xfv l) (0,0,[])).isSome) (br (decide (0+xyQ l<=(xyR l).length)&&true) (br ((xyP l).isSome) (κ ((xyP l).getD [])) δ) δ) δ
def xzk (l:LA):=xz8 l none some
def xFE:EO:=xJD.f Tryz.func90 27 0 [] [(3,xz7.lp)] (lk1 xz7.ok) (u1 (uL 3)) (fun (l,_) _=>xz8 l) (fun _ p=>AV.list 1 p) []
def xoB:Env:=xFE.E.fn 51 1 (lsOf []) (xTL [])
theorem xEp:xTo P0 (xT5.at 1) xoB:=xFE.ok.fn
theorem xCs:LoOk P0 (xT5.at xoB.pin) xoB (Tryz.f125.body.getD .skip):=xtq (by kernel_rfl)
def xfa (k:Nat) (a:LA):=(List.take ((i64.wrap ((↑k:Int) - 1)).toNat - 0) (List.drop 0 a)).length
def xs0 (k:Nat) (a:LA):=decide (0+(i64.wrap ((↑k:Int) - 1)).toNat<a.length)
def xoD (k:Nat) (a:LA):=((a.getD (0+(i64.wrap ((↑k:Int) - 1)).toNat) .top).cells.getD 1 .top).toInt
def xs1 (k:Nat):=decide (0<=i64.wrap ((↑k:Int) - 1))
def xoC (k:Nat):=xs1 k&&decide (i64.wrap ((↑k:Int) - 1)<(↑k:Int))
def xsx (k:Nat) (a:LA):=xs0 k a&&xTm (Sh.int .i64) ((a.getD (0+(i64.wrap ((↑k:Int) - 1)).toNat) .top).cells.getD 1 .top)
def xm8 {T:Type} (k:Nat) (a b:Int) (c:LA) (δ:T) (κ:Bool×(Nat×LA×LA)×(Nat×LA)->T):T:=br (rmB k c 1 16) (κ (false,(0,[],[]),(k+1,c++[AV.agg [AV.int .i64 a,AV.int .i64 b]]))) δ
def xqE {T:Type} (k:Nat) (b c:Int) (a:LA) (δ:T) (κ:Bool×(Nat×LA×LA)×(Nat×LA)->T):T:=br (decide ((↑k:Int)>0)) (br (xoC k) (br (xsx k a) (br (decide (xoD k a>=b)) (br (xs1 k&&decide (i64.wrap ((↑k:Int) - 1)<=(↑k:Int))&&true) (br (decide (0+((i64.wrap ((↑k:Int) - 1)).toNat - 0)<=a.length)&&(decide (xfa k a*16<=140737488355328)&&decide (xfa k a<=4611686018427387904))) (br (xoC k) (br (xs0 k a&&xTm (Sh.int .i64) ((a.getD (0+(i64.wrap ((↑k:Int) - 1)).toNat) .top).cells.getD 0 .top)) (br (xoC k) (br (xsx k a) (br (xfa k a==xfa k a&&(decide ((xfa k a+1)*16<=140737488355328)&&decide (xfa k a+1<=4611686018427387904))) (κ (true,(xfa k a+1,a,List.take ((i64.wrap ((↑k:Int) - 1)).toNat - 0) (List.drop 0 a)++[AV.agg [AV.int .i64 ((a.getD (0+(i64.wrap ((↑k:Int) - 1)).toNat) .top).cells.getD 0 .top).toInt,AV.int .i64 (if c>xoD k a then c else xoD k a)]]),(0,[]))) δ) δ) δ) δ) δ) δ) δ) (xm8 k b c a δ κ)) δ) δ) (xm8 k b c a δ κ)
def xcE (k:Nat) (a b:Int) (c:LA):=xqE k a b c none some
theorem xIl (k:Nat) (a b:Int) (xs:LA):Enc (fun (p:Bool×(Nat×LA×LA)×(Nat×LA))=>((br p.1 ((AV.osl 1 0 0 p.2.1.1,([⟨0,2,35,p.2.1.2.1,false,true⟩,⟨0,2,35,p.2.1.2.2,false,true⟩]:List Box))) ((AV.osl 0 1 0 p.2.2.1,([⟨1,2,35,p.2.2.2,false,true⟩]:List Box)))):(AV×List Box))) (xcE k a b xs) (XFM P0 xoB Tryz.f125 (Tryz.f125.body.getD .skip) [AV.osl (0:Id) 0 0 k,AV.agg [AV.int .i64 a,AV.int .i64 b]] [{ ver:=0,sz:=2,ty:=(35:TypeId),xs:=xs,frz:=false,pm:=true }]):=by
 refine eV (xqE k a b xs none (fun (p:Bool×(Nat×LA×LA)×(Nat×LA))=>some ((br p.1 ((AV.osl 1 0 0 p.2.1.1,([⟨0,2,35,p.2.1.2.1,false,true⟩,⟨0,2,35,p.2.1.2.2,false,true⟩]:List Box))) ((AV.osl 0 1 0 p.2.2.1,([⟨1,2,35,p.2.2.2,false,true⟩]:List Box)))):(AV×List Box)))) (by kernel_rfl) ?_;unfold xcE xqE xm8;repeat' first|exact eN|exact eS rfl|apply eB
def xIk:LA->List Box->Option (Bool×AV×List Box):=omOf (xT7 (sEq (xUk 0 0 0)) (xT7 (xUp (xT7 (sEq (pInt .i64)) (xT7 (sEq (pInt .i64)) xT9))) xT9)) (xT6 (xUn 0 2 (35:TypeId) false true xUa) xT8) fun (k,((a,(b,_)),_)) (c,_)=>((xcE k a b c).isSome,(AV.osl 1 0 0 (br ((xcE k a b c).getD (false,(0,[],[]),(0,[]))).1 ((xcE k a b c).getD (false,(0,[],[]),(0,[]))).2.1.1 ((xcE k a b c).getD (false,(0,[],[]),(0,[]))).2.2.1),
 ([⟨2,2,35,[],false,true⟩,⟨0,2,35,br ((xcE k a b c).getD (false,(0,[],[]),(0,[]))).1 ((xcE k a b c).getD (false,(0,[],[]),(0,[]))).2.1.2.2 ((xcE k a b c).getD (false,(0,[],[]),(0,[]))).2.2.2,false,true⟩]:List Box)))
theorem xIj:OmOk P0 xT5 125 (xIk):=xrA fun e f j h g=>by
 obtain ⟨k,⟨⟨c,⟨i,_⟩⟩,_⟩⟩:=e;obtain ⟨l,_⟩:=f;obtain ⟨b,a⟩:=Prod.mk.inj g;have hx:=xIl _ _ _ _ _ (xcf (d:=(false,(0,[],[]),(0,[]))) b);revert hx a;generalize ((xcE _ _ _ _).getD (false,(0,[],[]),(0,[])))=p;intro a hx;obtain ⟨rfl,rfl⟩:=Prod.mk.inj a;obtain ⟨t,⟨m,n,o⟩,q,r⟩:=p;have hg:GoodM P0 xT5 125 _ _ _ _:=xjv (p:=xoB.pin) (xkL xTy (xTz P0 _) rfl xEp rfl Tryz.func125 rfl (by kernel_rfl) xCs hx)
 cases t
 . exact GoodM.move0 rfl (by decide) hg
 . exact GoodM.drop0 rfl (by decide) hg
def xOY:EO:=xFE.wM xIj
def xmA {T:Type} (l c:LA) (b:Nat) (i:Int) (a:LA) (δ:T) (κl:(Nat×Int×LA)->T) (κr:(Nat×LA)->T):T:=br (decide (i<l.length)) (br (ixI l i) (br (ixS l i (Sh.list 3) 0) (br ((xbr (gC l i 0).toList c).isSome) (br ((xbr (gC l i 0).toList c).getD 0==0) (br (ixI l i) (br (ixT l i 3 [Sh.int .i64,Sh.int .i64] 1) (br (rmB b a 1 24) (κl (b+1,i64.wrap (i+1),a++[AV.agg [AV.int .i64 (gC l i 1).toInt,AV.int .i64 (gC l i 2).toInt,AV.int .i64 1]])) δ) δ) δ) (κl (b,i64.wrap (i+1),a))) δ) δ) δ) (κr (b,a))
def xek (l b:LA):StT (Nat×Int×LA) (Nat×LA):=fun (c,i,a)=>xmA l b c i a none inL inR
def xyk:=xOY.l 32 0 [] [] Tryz.f91 0 lk0 [0,1,5,6] [5] [(5,3,89)] (q4 (qL 3) (qL 3) (xUk 0 0 0) qI) (q1 (qB 0 3 89 xUa)) (fun (l,b,c,i,_) (a,_)=>(xek l b,(c,i,a),fun p=>(.leaf (.exit 0) [AV.osl 0 0 0 p.1] [bF 0 3 89 p.2]))) (0,[]) fun (l,b,_,_,_) _ (c,i,a)=>(((l,b,c,i,()),(a,())),xmA l b c i a none)
def xu6 (l a:LA):=(Iter (xek l a) (0,0,[])).getD (0,[])
def xu4 (l a:LA):=(xu6 l a).fst
def xu5 (l a:LA):=(xu6 l a).snd
def xu3 (l a:LA):=xEq (List.take (xu4 l a) (List.drop 0 (xu5 l a)))
def xwI {T:Type} (l a:LA) (δ:T) (κ:LA->T):T:=br ((Iter (xek l a) (0,0,[])).isSome) (br (decide (0+xu4 l a<=(xu5 l a).length)&&true) (br ((xu3 l a).isSome) (κ ((xu3 l a).getD [])) δ) δ) δ
def xu2 (l a:LA):=xwI l a none some
def xEB:EO:=xOY.f Tryz.func91 32 0 [] [(3,xyk.lp)] (lk1 xyk.ok) (u2 (uL 3) (uL 3)) (fun (l,a,_) _=>xwI l a) (fun _ p=>AV.list 2 p) []
def xik {T:Type} (a:LA) (c:Nat) (i k:Int) (b:LA) (δ:T) (κl:(Int×LA)->T) (κr:(Int×LA)->T):T:=br (decide (k<a.length)) (br (ixI a k) (br (ixS a k (Sh.list 3) 0) (br (ixI a i) (br (ixS a i (Sh.list 3) 0) (br ((xbr (gC a k 0).toList (gC a i 0).toList).isSome) (br ((xbr (gC a k 0).toList (gC a i 0).toList).getD 0==0) (κl (i64.wrap (k+1),b)) (κr (k,b))) δ) δ) δ) δ) δ) (κr (k,b))
def xcn (c:LA) (b:Nat) (i:Int):StT (Int×LA) (Int×LA):=fun (k,a)=>xik c b i k a none inL inR
def xhn:=xEB.l 66 0 [] [] Tryz.f59 1 lk0 [3,4,5,6] [3,4,5,6] [(4,2,107)] (q4 (qL 3) (xUk 0 0 0) qI qI) (q1 (qB 0 2 107 xUa)) (fun (c,a,i,k,_) (b,_)=>(xcn c a i,(k,b),fun p=>(.leaf (.exit 2) [AV.list 3 c,AV.osl 0 0 0 a,AV.int .i64 i,AV.int .i64 p.1] [bF 0 2 107 p.2]))) (0,[]) fun (c,a,i,_,_) _ (k,b)=>(((c,a,i,k,()),(b,())),xik c a i k b none)
def xil {T:Type} (d:LA) (i k:Int) (a:LA) (c:Nat) (n:Int) (b:LA) (δ:T) (κl:(Nat×Int×LA)->T) (κr:(Nat×LA)->T):T:=br (decide (n<a.length)) (br (ixI a n) (br (ixS a n (Sh.list 3) 0) (br (decide (0<=k)&&decide (k<=d.length)&&(decide (0<=i)&&decide (i<=(↑k.toNat:Int)))) (br (ixI a n) (br (ixS a n (Sh.list 3) 0) (br ((xu2 (List.take (k.toNat - i.toNat) (List.drop i.toNat d)) (gC a n 0).toList).isSome) (br (rmB c b 1 48) (κl (c+1,i64.wrap (n+1),b++[AV.agg [AV.list 3 (gC a n 0).toList,AV.list 2 ((xu2 (List.take (k.toNat - i.toNat) (List.drop i.toNat d)) (gC a n 0).toList).getD [])]])) δ) δ) δ) δ) δ) δ) δ) (κr (c,b))
def xen (d:LA) (i k:Int) (c:LA):StT (Nat×Int×LA) (Nat×LA):=fun (b,n,a)=>xil d i k c b n a none inL inR
def xk8:=xEB.l 66 0 [] [(6,xhn.lp)] Tryz.f59 2 lk0 [3,4,5,6,7,8] [3,4,6] [(4,2,107)] (q6 (qL 3) (xUk 0 0 0) qI qI (qL 1) qI) (q1 (qB 0 2 107 xUa)) (fun (d,b,i,k,c,n,_) (a,_)=>(xen d i k c,(b,n,a),fun p=>(.leaf (.exit 4) [AV.list 3 d,AV.osl 0 0 0 p.1,AV.int .i64 k] [bF 0 2 107 p.2]))) (0,[]) fun (d,_,i,k,c,_,_) _ (b,n,a)=>(((d,b,i,k,c,n,()),(a,())),xil d i k c b n a none)
def xcU (c:LA) (b:Nat) (i:Int) (a:LA):=((Iter (xcn c b i) (i,a)).getD (0,[])).fst
def xqV (c:LA) (a:Nat) (i:Int) (b:LA):=Iter (xen c i (xcU c a i b) ((xzk (List.take ((xcU c a i b).toNat - i.toNat) (List.drop i.toNat c))).getD [])) (a,0,((Iter (xcn c a i) (i,b)).getD (0,[])).snd)
def xqU (c:LA) (b:Nat) (i:Int) (a:LA):=(xqV c b i a).getD (0,[])
def xmD {T:Type} (c:LA) (b:Nat) (i:Int) (a:LA) (δ:T) (κl:(Nat×Int×LA)->T) (κr:(Nat×LA)->T):T:=br (decide (i<c.length)) (br ((Iter (xcn c b i) (i,a)).isSome) (br (decide (0<=xcU c b i a)&&decide (xcU c b i a<=c.length)&&(decide (0<=i)&&decide (i<=(↑(xcU c b i a).toNat:Int)))) (br ((xzk (List.take ((xcU c b i a).toNat - i.toNat) (List.drop i.toNat c))).isSome) (br ((xqV c b i a).isSome) (κl ((xqU c b i a).fst,xcU c b i a,(xqU c b i a).snd)) δ) δ) δ) δ) (κr (b,a))
def xem (c:LA):StT (Nat×Int×LA) (Nat×LA):=fun (b,i,a)=>xmD c b i a none inL inR
def xym:=xEB.l 66 0 [] [(6,xhn.lp),(10,xk8.lp)] Tryz.f59 0 (lks (lkC xhn.ok (lkC xk8.ok lkN))) [3,4,5] [4] [(4,2,107)] (q3 (qL 3) (xUk 0 0 0) qI) (q1 (qB 0 2 107 xUa)) (fun (c,b,i,_) (a,_)=>(xem c,(b,i,a),fun p=>(.leaf (.exit 0) [AV.osl 0 0 0 p.1] [bF 0 2 107 p.2]))) (0,[]) fun (c,_,_,_) _ (b,i,a)=>(((c,b,i,()),(a,())),xmD c b i a none)
def xvj (l:LA):=Iter (xem ((xco 100 l).getD [])) (0,0,[])
def xvi (l:LA):=(xvj l).getD (0,[])
def xvg (l:LA):=(xvi l).fst
def xvh (l:LA):=(xvi l).snd
def xwL {T:Type} (l:LA) (δ:T) (κ:LA->T):T:=br ((xco 100 l).isSome) (br ((xvj l).isSome) (br (decide (0+xvg l<=(xvh l).length)&&true) (κ (List.take (xvg l) (List.drop 0 (xvh l)))) δ) δ) δ
def xqT (l:LA):=xwL l none some
def xLL:EO:=xEB.f Tryz.func59 66 0 [] [(6,xhn.lp),(10,xk8.lp),(4,xym.lp)] (lks (lkC xym.ok (lkC xhn.ok (lkC xk8.ok lkN)))) (u1 (uL 3)) (fun (l,_) _=>xwL l) (fun _ p=>AV.list 2 p) []
def xeW (l:LA) (n i:Int):=decide ((gC l i 1).toInt>=n)
def xcl (l:LA) (i:Int):=ixI l i
def xee (l:LA) (b:Nat) (i:Int) (a:LA):=(xcE b (gC l i 0).toInt 1099511627776 a).getD (false,(0,[],[]),0,[])
def xef (l:LA) (b:Nat) (i:Int) (a:LA):=xcE b (gC l i 0).toInt ((l.getD (i64.wrap (i+1)).toNat .top).cells.getD 0 .top).toInt a
def xeg (l:LA) (i:Int):=decide (i64.wrap (i+1)<(↑l.length:Int))
def xe2 (l:LA) (b:Nat) (i:Int) (a:LA):=(xef l b i a).getD (false,(0,[],[]),0,[])
def xe3 (l:LA) (b:Nat) (i:Int) (a:LA):=(xee l b i a).snd
def xe4 (l:LA) (b:Nat) (i:Int) (a:LA):=(xee l b i a).fst
def xeZ (l:LA) (b:Nat) (i:Int) (a:LA):=(xe2 l b i a).fst
def xex (l:LA) (b:Nat) (i:Int) (a:LA):=(xe2 l b i a).snd
def xe0 (l:LA) (b:Nat) (i:Int) (a:LA):=(xe3 l b i a).fst
def xe1 (l:LA) (b:Nat) (i:Int) (a:LA):=(xe3 l b i a).snd
def xeX (l:LA) (b:Nat) (i:Int) (a:LA):=(xex l b i a).fst
def xeY (l:LA) (b:Nat) (i:Int) (a:LA):=(xex l b i a).snd
def xdx {T:Type} (l:LA) (n:Int) (b:Nat) (i:Int) (a:LA) (δ:T) (κl:(Nat×Int×LA)->T) (κr:(Nat×LA)->T):T:=br (decide (i<l.length)) (br (xeg l i) (br (decide (0<=i64.wrap (i+1))&&xeg l i) (br (decide ((i64.wrap (i+1)).toNat<l.length)&&xTm (Sh.int .i64) ((l.getD (i64.wrap (i+1)).toNat .top).cells.getD 0 .top)) (br (xcl l i) (br (ixS l i (Sh.int .i64) 1) (br (xeW l n i) (br (xcl l i) (br (ixS l i (Sh.int .i64) 0) (br ((xef l b i a).isSome) (κl (br (xeZ l b i a) (xeX l b i a).fst (xeY l b i a).fst,i64.wrap (i+1),br (xeZ l b i a) (xeX l b i a).snd.snd (xeY l b i a).snd)) δ) δ) δ) (κl (b,i64.wrap (i+1),a))) δ) δ) δ) δ) (br (xcl l i) (br (ixS l i (Sh.int .i64) 1) (br (xeW l n i) (br (xcl l i) (br (ixS l i (Sh.int .i64) 0) (br ((xcE b (gC l i 0).toInt 1099511627776 a).isSome) (κl (br (xe4 l b i a) (xe0 l b i a).fst (xe1 l b i a).fst,i64.wrap (i+1),br (xe4 l b i a) (xe0 l b i a).snd.snd (xe1 l b i a).snd)) δ) δ) δ) (κl (b,i64.wrap (i+1),a))) δ) δ)) (κr (b,a))
def xbm (l:LA) (n:Int):StT (Nat×Int×LA) (Nat×LA):=fun (b,i,a)=>xdx l n b i a none inL inR
def xv4:=xLL.l 42 0 [] [] Tryz.f92 0 lk0 [0,1,5,6] [5] [(5,2,35)] (q4 (qL 2) qI (xUk 0 0 0) qI) (q1 (qB 0 2 35 xUa)) (fun (l,n,b,i,_) (a,_)=>(xbm l n,(b,i,a),fun p=>(.leaf (.exit 0) [AV.osl 0 0 0 p.1] [bF 0 2 35 p.2]))) (0,[]) fun (l,n,_,_,_) _ (b,i,a)=>(((l,n,b,i,()),(a,())),xdx l n b i a none)
def xty (l:LA) (n:Int):=(Iter (xbm l n) (0,0,[])).getD (0,[])
def xtv (l:LA) (n:Int):=(xty l n).snd
def xtw (l:LA) (n:Int):=(xty l n).fst
def xuI {T:Type} (l:LA) (n:Int) (δ:T) (κ:LA->T):T:=br ((Iter (xbm l n) (0,0,[])).isSome) (br (decide (0+xtw l n<=(xtv l n).length)&&true) (κ (List.take (xtw l n) (List.drop 0 (xtv l n)))) δ) δ
def xgi (l:LA) (n:Int):=xuI l n none some
def xLM:EO:=xLL.f Tryz.func92 42 0 [] [(3,xv4.lp)] (lk1 xv4.ok) (u2 (uL 2) uI) (fun (l,n,_) _=>xuI l n) (fun _ p=>AV.list 2 p) []
def xmu (l:LA) (i:Int):=decide (i.toNat<l.length)&&((l.getD i.toNat .top).cells.length==2&&xTt [Sh.int .i64,Sh.int .i64] (l.getD i.toNat .top).cells 0)
def xjO {T:Type} (l:LA) (b:Nat) (i c d:Int) (a:LA) (δ:T) (κl:(Nat×Int×Int×Int×LA)->T) (κr:(Nat×Int×Int×Int×LA)->T):T:=br (decide (i<l.length)) (br (ixI l i) (br (xmu l i) (br (decide (xsZ (gC l i 0).toInt (gC l i 1).toInt c d<=0)) (br (ixI l i) (br (xmu l i) (br (rmB b a 1 16) (κl (b+1,i64.wrap (i+1),c,d,a++[AV.agg [AV.int .i64 (gC l i 0).toInt,AV.int .i64 (gC l i 1).toInt]])) δ) δ) δ) (κr (b,i,c,d,a))) δ) δ) (κr (b,i,c,d,a))
def xdm (l:LA):StT (Nat×Int×Int×Int×LA) (Nat×Int×Int×Int×LA):=fun (b,i,c,d,a)=>xjO l b i c d a none inL inR
def xy5:=xLM.l 38 0 [] [] Tryz.f93 0 lk0 [0,3,5,6] [0,3,5,6] [(5,2,35)] (q4 (qL 2) (xUl 0 0 0 0) (xUk 1 0 0) qI) (q2 (qB 0 2 35 (q1 (xUm (q2 qI qI)))) (qB 0 2 35 xUa)) (fun (l,_,b,i,_) (((c,d,_),_),a,_)=>(xdm l,(b,i,c,d,a),fun p=>(.leaf (.exit 0) [AV.list 2 l,AV.own 0 0 0 0,AV.osl 1 0 0 p.1,AV.int .i64 p.2.1] [bF 0 2 35 [AV.agg [AV.int .i64 p.2.2.1,AV.int .i64 p.2.2.2.1]],bF 0 2 35 p.2.2.2.2]))) (0,0,0,0,[]) fun (l,_,_,_,_) _ (b,i,c,d,a)=>(((l,(),b,i,()),(((c,d,()),()),a,())),xjO l b i c d a none)
def xuN (l:LA) (a b:Int):=Iter (xdm l) (0,0,a,b,[])
def xuM (l:LA) (a b:Int):=(xuN l a b).getD (0,0,0,0,[])
def xwE (l:LA) (a b:Int):=(xuM l a b).fst
def xuL (l:LA) (a b:Int):=(xuM l a b).snd
def xni (l:LA) (a b:Int):=xwE l a b+1
def xnj (l:LA) (a b:Int):=(xuL l a b).fst
def xwD (l:LA) (a b:Int):=(xuL l a b).snd
def xwA (l:LA) (a b:Int):=List.take (l.length - (xnj l a b).toNat) (List.drop (xnj l a b).toNat l)
def xwC (l:LA) (a b:Int):=(xwD l a b).snd
def xnh (l:LA) (a b:Int):=xni l a b+(xwA l a b).length
def xwB (l:LA) (a b:Int):=(xwC l a b).snd
def xwz (l:LA) (a b:Int):=xwB l a b++[AV.agg [AV.int .i64 (xwD l a b).fst,AV.int .i64 (xwC l a b).fst]]
def xwy (l:LA) (a b:Int):=xwz l a b++xwA l a b
def xyG {T:Type} (l:LA) (a b:Int) (δ:T) (κ:LA->T):T:=br ((xuN l a b).isSome) (br (xwE l a b==(xwB l a b).length&&(decide (xni l a b*16<=140737488355328)&&decide (xni l a b<=4611686018427387904))) (br (decide (0<=xnj l a b)&&decide (xnj l a b<=l.length)) (br (xni l a b==(xwz l a b).length&&(decide (xnh l a b*16<=140737488355328)&&decide (xnh l a b<=4611686018427387904))) (br (decide (0+xnh l a b<=(xwy l a b).length)&&true) (κ (List.take (xnh l a b) (List.drop 0 (xwy l a b)))) δ) δ) δ) δ) δ
def xw2 (l:LA) (a b:Int):=xyG l a b none some
def xHj:EO:=xLM.f Tryz.func93 38 0 [] [(3,xy5.lp)] (lk1 xy5.ok) (u2 (uL 2) (xUp (u2 uI uI))) (fun (l,(a,b,_),_) _=>xyG l a b) (fun _ p=>AV.list 2 p) []
def xmt {T:Type} (l:LA) (n:Int) (a b:LA) (i:Int) (δ:T) (κl:(LA×Int)->T) (κr:(LA)->T):T:=br (decide (i<a.length)) (br (ixI a i) (br (ixT a i 2 [Sh.int .i64,Sh.int .i64] 0) (br ((xw2 b (gC a i 0).toInt (gC a i 1).toInt).isSome) (κl ((xw2 b (gC a i 0).toInt (gC a i 1).toInt).getD [],i64.wrap (i+1))) δ) δ) δ) (κr (b))
def xc6 (l:LA) (n:Int) (b:LA):StT (LA×Int) (LA):=fun (a,i)=>xmt l n b a i none inL inR
def xkW:=xHj.l 31 0 [] [] Tryz.f61 1 lk0 [0,3,4,5,6] [0,3,4] [(3,2,1073741824)] (q5 (qL 2) (qL 2) qI (qL 2) qI) xT8 (fun (l,a,n,b,i,_) _=>(xc6 l n b,(a,i),fun p=>(.leaf (.exit 2) [AV.list 2 l,AV.list 2 p,AV.int .i64 n] []))) [] fun (l,_,n,b,_,_) _ (a,i)=>(((l,a,n,b,i,()),()),xmt l n b a i none)
def xms {T:Type} (l a:LA) (n:Int) (δ:T) (κl:(LA×Int)->T) (κr:(Bool×(LA×LA)×(LA))->T):T:=br (decide (n<=1048576)) (br ((xgi l n).isSome) (br ((↑((xgi l n).getD []).length:Int)==0) (κr (true,(a,a),[])) (br ((Iter (xc6 l n ((xgi l n).getD [])) (a,0)).isSome) (κl ((Iter (xc6 l n ((xgi l n).getD [])) (a,0)).getD [],i64.wrap (n+1))) δ)) δ) (κr (false,([],[]),(a)))
def xc5 (l:LA):StT (LA×Int) (Bool×(LA×LA)×(LA)):=fun (a,n)=>xms l a n none inL inR
def xyb:=xHj.l 31 0 [] [(9,xkW.lp)] Tryz.f61 0 (lk1 xkW.ok) [0,3,4] [2,3] [(3,2,1073741824)] (q3 (qL 2) (qL 2) qI) xT8 (fun (l,a,n,_) _=>(xc5 l,(a,n),fun p=>(.node p.1 (.leaf .ret [AV.list 2 p.2.1.1,AV.list 2 p.2.1.2] []) (.leaf (.exit 0) [.top,AV.list 2 p.2.2] [])))) (false,([],[]),[]) fun (l,_,_,_) _ (a,n)=>(((l,a,n,()),()),xms l a n none)
def xuK (l:LA):=(Iter (xc5 l) ([],1)).getD (false,([],[]),[])
def xuJ (l:LA):=(xuK l).snd
def xww {T:Type} (l:LA) (δ:T) (κ:LA->T):T:=br ((Iter (xc5 l) ([],1)).isSome) (br ((xuK l).fst) (κ ((xuJ l).fst.fst)) (κ ((xuJ l).snd))) δ
def xf5 (l:LA):=xww l none some
def xLN:EO:=xHj.f Tryz.func61 31 0 [] [(9,xkW.lp),(3,xyb.lp)] (lks (lkC xyb.ok (lkC xkW.ok lkN))) (u1 (uL 2)) (fun (l,_) _=>xww l) (fun _ p=>AV.list 2 p) []
def xmB {T:Type} (d c:LA) (b:Nat) (i:Int) (a:LA) (δ:T) (κl:(Nat×Int×LA)->T) (κr:(Nat×LA)->T):T:=br (decide (i<c.length)) (br (ixI c i) (br (ixT c i 2 [Sh.int .i64,Sh.int .i64] 0) (br (rmB b a 1 40) (κl (b+1,i64.wrap (i+1),a++[AV.agg [AV.list 3 d,AV.int .i64 (gC c i 0).toInt,AV.int .i64 (gC c i 1).toInt]])) δ) δ) δ) (κr (b,a))
def xc7 (c d:LA):StT (Nat×Int×LA) (Nat×LA):=fun (b,i,a)=>xmB c d b i a none inL inR
def xyl:=xLN.l 23 0 [] [] Tryz.f60 0 lk0 [0,1,5,6] [5] [(5,3,59)] (q4 (qL 3) (qL 2) (xUk 0 0 0) qI) (q1 (qB 0 3 59 xUa)) (fun (c,d,b,i,_) (a,_)=>(xc7 c d,(b,i,a),fun p=>(.leaf (.exit 0) [AV.osl 0 0 0 p.1] [bF 0 3 59 p.2]))) (0,[]) fun (c,d,_,_,_) _ (b,i,a)=>(((c,d,b,i,()),(a,())),xmB c d b i a none)
def xu9 (a b:LA):=(Iter (xc7 a b) (0,0,[])).getD (0,[])
def xu7 (a b:LA):=(xu9 a b).snd
def xu8 (a b:LA):=(xu9 a b).fst
def xwJ {T:Type} (a b:LA) (δ:T) (κ:LA->T):T:=br ((Iter (xc7 a b) (0,0,[])).isSome) (br (decide (0+xu8 a b<=(xu7 a b).length)&&true) (κ (List.take (xu8 a b) (List.drop 0 (xu7 a b)))) δ) δ
def xqS (a b:LA):=xwJ a b none some
def xLO:EO:=xLN.f Tryz.func60 23 0 [] [(3,xyl.lp)] (lk1 xyl.ok) (u2 (uL 3) (uL 2)) (fun (a,b,_) _=>xwJ a b) (fun _ p=>AV.list 3 p) []
def xpV (g:LA) (a:Nat) (i:Int):=a+((xqS (gC g i 0).toList ((xf5 (gC g i 1).toList).getD [])).getD []).length
def xrQ {T:Type} (g:LA) (a:Nat) (i:Int) (b:LA) (δ:T) (κl:(Nat×Int×LA)->T) (κr:(Nat×LA)->T):T:=br (decide (i<g.length)) (br (ixI g i) (br (ixS g i (Sh.list 3) 0) (br (ixI g i) (br (ixS g i (Sh.list 2) 1) (br ((xf5 (gC g i 1).toList).isSome) (br ((xqS (gC g i 0).toList ((xf5 (gC g i 1).toList).getD [])).isSome) (br (a==b.length&&(decide (xpV g a i*40<=140737488355328)&&decide (xpV g a i<=4611686018427387904))) (κl (xpV g a i,i64.wrap (i+1),b++(xqS (gC g i 0).toList ((xf5 (gC g i 1).toList).getD [])).getD [])) δ) δ) δ) δ) δ) δ) δ) (κr (a,b))
def xgf (g:LA):StT (Nat×Int×LA) (Nat×LA):=fun (b,i,a)=>xrQ g b i a none inL inR
def xAB:=xLO.l 29 0 [] [] Tryz.f29 0 lk0 [3,4,5] [4] [(4,3,59)] (q3 (qL 2) (xUk 0 0 0) qI) (q1 (qB 0 3 59 xUa)) (fun (g,b,i,_) (a,_)=>(xgf g,(b,i,a),fun p=>(.leaf (.exit 0) [AV.osl 0 0 0 p.1] [bF 0 3 59 p.2]))) (0,[]) fun (g,_,_,_) _ (b,i,a)=>(((g,b,i,()),(a,())),xrQ g b i a none)
def xz6 (l:LA):=(Iter (xgf ((xqT l).getD [])) (0,0,[])).getD (0,[])
def xz4 (l:LA):=(xz6 l).fst
def xz5 (l:LA):=(xz6 l).snd
def xAx {T:Type} (l:LA) (δ:T) (κ:LA->T):T:=br ((xqT l).isSome) (br ((Iter (xgf ((xqT l).getD [])) (0,0,[])).isSome) (br (decide (0+xz4 l<=(xz5 l).length)&&true) (κ (List.take (xz4 l) (List.drop 0 (xz5 l)))) δ) δ) δ
def xk5 (l:LA):=xAx l none some
def xLP:EO:=xLO.f Tryz.func29 29 0 [] [(4,xAB.lp)] (lk1 xAB.ok) (u1 (uL 3)) (fun (l,_) _=>xAx l) (fun _ p=>AV.list 3 p) []
def xfu (l:LA) (i:Int):=ixI l i
def xsn {T:Type} (l a:LA) (i:Int) (δ:T) (κl:(LA×Int)->T) (κr:(LA)->T):T:=br (decide (i<l.length)) (br (xfu l i) (br (ixT l i 3 [Sh.int .i64,Sh.int .i64] 1) (br (xdj (gC l i 1).toInt (gC l i 2).toInt) (br (xfu l i) (br (ixS l i (Sh.int .i64) 1) (br ((xcI a (gC l i 1).toInt).isSome) (br (xfu l i) (br (ixS l i (Sh.int .i64) 2) (br (decide ((gC l i 2).toInt<1099511627776)) (br (xfu l i) (br (ixS l i (Sh.int .i64) 2) (br ((xcI ((xcI a (gC l i 1).toInt).getD []) (gC l i 2).toInt).isSome) (κl ((xcI ((xcI a (gC l i 1).toInt).getD []) (gC l i 2).toInt).getD [],i64.wrap (i+1))) δ) δ) δ) (κl ((xcI a (gC l i 1).toInt).getD [],i64.wrap (i+1)))) δ) δ) δ) δ) δ) (κl (a,i64.wrap (i+1)))) δ) δ) (κr (a))
def xf7 (l:LA):StT (LA×Int) (LA):=fun (a,i)=>xsn l a i none inL inR
def xBw {T:Type} (l:LA) (δ:T) (κ:LA->T):T:=br ((Iter (xf7 l) ([AV.int .i64 0],0)).isSome) (κ ((Iter (xf7 l) ([AV.int .i64 0],0)).getD [])) δ
def xvf (l:LA):=xBw l none some
def xs6 {T:Type} (l:LA) (t:Int) (b:Nat) (i:Int) (a:LA) (δ:T) (κl:(Nat×Int×LA)->T) (κr:(Nat×LA)->T):T:=br (decide (i<l.length)) (br (ixI l i) (br (ixT l i 3 [Sh.int .i64,Sh.int .i64] 1) (br (xm7 (gC l i 1).toInt (gC l i 2).toInt t) (br (ixI l i) (br (ixS l i (Sh.list 3) 0) (br (rmB b a 1 24) (κl (b+1,i64.wrap (i+1),a++[AV.list 3 (gC l i 0).toList])) δ) δ) δ) (κl (b,i64.wrap (i+1),a))) δ) δ) (κr (b,a))
def xg3 (l:LA) (t:Int):StT (Nat×Int×LA) (Nat×LA):=fun (b,i,a)=>xs6 l t b i a none inL inR
def xBu:=xLP.l 30 0 [] [] Tryz.f53 0 lk0 [0,1,5,6] [5] [(5,1,57)] (q4 (qL 3) qI (xUk 0 0 0) qI) (q1 (qB 0 1 57 xUa)) (fun (l,t,b,i,_) (a,_)=>(xg3 l t,(b,i,a),fun p=>(.leaf (.exit 0) [AV.osl 0 0 0 p.1] [bF 0 1 57 p.2]))) (0,[]) fun (l,t,_,_,_) _ (b,i,a)=>(((l,t,b,i,()),(a,())),xs6 l t b i a none)
def xAZ (l:LA) (t:Int):=(Iter (xg3 l t) (0,0,[])).getD (0,[])
def xAX (l:LA) (t:Int):=(xAZ l t).snd
def xAY (l:LA) (t:Int):=(xAZ l t).fst
def xAW (l:LA) (t:Int):=xiL (List.take (xAY l t) (List.drop 0 (xAX l t)))
def xBX {T:Type} (l:LA) (t:Int) (δ:T) (κ:LA->T):T:=br ((Iter (xg3 l t) (0,0,[])).isSome) (br (decide (0+xAY l t<=(xAX l t).length)&&true) (br ((xAW l t).isSome) (κ ((xAW l t).getD [])) δ) δ) δ
def xie (l:LA) (t:Int):=xBX l t none some
def xLQ:EO:=xLP.f Tryz.func53 30 0 [] [(3,xBu.lp)] (lk1 xBu.ok) (u2 (uL 3) uI) (fun (l,t,_) _=>xBX l t) (fun _ p=>AV.list 1 p) []
def xkr {T:Type} (a b:LA) (i:Int) (δ:T) (κl:(Int)->T) (κr:(Bool×(Bool)×(Unit))->T):T:=br (decide (i<a.length)) (br (ixI a i) (br (ixS a i (Sh.list 3) 0) (br (ixI b i) (br (ixS b i (Sh.list 3) 0) (br ((xl0 (gC a i 0).toList (gC b i 0).toList).isSome) (br (!(xl0 (gC a i 0).toList (gC b i 0).toList).getD false) (κr (true,(false),())) (κl (i64.wrap (i+1)))) δ) δ) δ) δ) δ) (κr (false,false,()))
def xct (a b:LA):StT (Int) (Bool×(Bool)×(Unit)):=fun (i)=>xkr a b i none inL inR
def xuW:=xLQ.l 27 0 [] [] Tryz.f52 0 lk0 [0,1,5] [4] [] (q3 (qL 1) (qL 1) qI) xT8 (fun (a,b,i,_) _=>(xct a b,(i),fun p=>(.node p.1 (.leaf .ret [AV.bool p.2.1] []) (.leaf (.exit 0) [.top] [])))) (false,false,()) fun (a,b,_,_) _ (i)=>(((a,b,i,()),()),xkr a b i none)
def xtB {T:Type} (a b:LA) (δ:T) (κ:Bool->T):T:=br ((↑a.length:Int) != (↑b.length:Int)) (κ (false)) (br ((Iter (xct a b) 0).isSome) (br (((Iter (xct a b) 0).getD (false,false,())).fst) (κ (((Iter (xct a b) 0).getD (false,false,())).snd.fst)) (κ (true))) δ)
def xg2 (a b:LA):=xtB a b none some
def xQF:EO:=xLQ.f Tryz.func52 27 0 [] [(4,xuW.lp)] (lk1 xuW.ok) (u2 (uL 1) (uL 1)) (fun (a,b,_) _=>xtB a b) (fun _ p=>AV.bool p) false
def xk7 (a:LA) (i:Int):=decide (i64.wrap (i+1)<(↑a.length:Int))
def xmC {T:Type} (c:LA) (b:Nat) (i:Int) (a:LA) (δ:T) (κl:(Nat×Int×LA)->T) (κr:(Nat×LA)->T):T:=br (decide (i<c.length)) (br (xk7 c i) (br (decide (0<=i64.wrap (i+1))&&xk7 c i) (br (decide ((i64.wrap (i+1)).toNat<c.length)&&xTm (Sh.int .i64) ((c.getD (i64.wrap (i+1)).toNat .top).cells.getD 0 .top)) (br (ixI c i) (br (ixS c i (Sh.int .i64) 0) (br (rmB b a 1 16) (κl (b+1,i64.wrap (i+1),a++[AV.agg [AV.int .i64 (gC c i 0).toInt,AV.int .i64 ((c.getD (i64.wrap (i+1)).toNat .top).cells.getD 0 .top).toInt]])) δ) δ) δ) δ) δ) (br (ixI c i) (br (ixS c i (Sh.int .i64) 0) (br (rmB b a 1 16) (κl (b+1,i64.wrap (i+1),a++[AV.agg [AV.int .i64 (gC c i 0).toInt,AV.int .i64 1099511627776]])) δ) δ) δ)) (κr (b,a))
def xel (c:LA):StT (Nat×Int×LA) (Nat×LA):=fun (b,i,a)=>xmC c b i a none inL inR
def xve (a b:LA):=Iter (xel ((xvf (List.take (a.length+b.length) (List.drop 0 (a++b)))).getD [])) (0,0,[])
def xvd (a b:LA):=(xve a b).getD (0,[])
def xvb (a b:LA):=(xvd a b).snd
def xvc (a b:LA):=(xvd a b).fst
def xBv {T:Type} (a b:LA) (δ:T) (κ:LA->T):T:=br (decide (a.length*40<=140737488355328)&&decide (a.length<=4611686018427387904)) (br (a.length==a.length&&(decide ((a.length+b.length)*40<=140737488355328)&&decide (a.length+b.length<=4611686018427387904))) (br (decide (0+(a.length+b.length)<=(a++b).length)&&true) (br ((xvf (List.take (a.length+b.length) (List.drop 0 (a++b)))).isSome) (br ((xve a b).isSome) (br (decide (0+xvc a b<=(xvb a b).length)&&true) (κ (List.take (xvc a b) (List.drop 0 (xvb a b)))) δ) δ) δ) δ) δ) δ
def xva (a b:LA):=xBv a b none some
def xsl {T:Type} (b:LA) (c:Nat) (i d e:Int) (a:LA) (δ:T) (κl:(Nat×Int×Int×Int×LA)->T) (κr:(Nat×LA)->T):T:=br (decide (i<b.length)) (br (ixI b i) (br (ixS b i (Sh.list 3) 0) (br (rmB c a 1 40) (κl (c+1,i64.wrap (i+1),d,e,a++[AV.agg [AV.list 3 (gC b i 0).toList,AV.int .i64 d,AV.int .i64 e]])) δ) δ) δ) (κr (c,a))
def xiU (c:LA):StT (Nat×Int×Int×Int×LA) (Nat×LA):=fun (b,i,d,e,a)=>xsl c b i d e a none inL inR
def xu1 (a:LA) (b c:Int):=Iter (xiU a) (0,0,b,c,[])
def xu0 (a:LA) (b c:Int):=(xu1 a b c).getD (0,[])
def xuZ (a:LA) (b c:Int):=(xu0 a b c).fst
def xux (a:LA) (b c:Int):=(xu0 a b c).snd
def xBt {T:Type} (a:LA) (b c:Int) (δ:T) (κ:LA->T):T:=br ((xu1 a b c).isSome) (br (decide (0+xuZ a b c<=(xux a b c).length)&&true) (κ (List.take (xuZ a b c) (List.drop 0 (xux a b c)))) δ) δ
def xz3 (a:LA) (b c:Int):=xBt a b c none some
def xtK {T:Type} (b a:LA) (t:Int) (δ:T) (κ:LA×LA->T):T:=br ((xie a t).isSome) (κ (b,(xie a t).getD [])) δ
def xwK (b a:LA) (t:Int):=xtK b a t none some
def xLR:EO:=xQF.f Tryz.func27 12 0 [] [] lk0 (u2 (xUp (u2 (uL 1) (uL 3))) uI) (fun ((b,a,_),t,_) _=>xtK b a t) (fun _ p=>AV.agg [AV.list 1 p.1,AV.list 1 p.2]) ([],[])
def xvZ {T:Type} (b:List UInt8) (c a:Int) (δ:T) (κl:(Int)->T) (κr:(Bool×(Bool)×(Unit))->T):T:=br (decide (a<c)) (br (decide (0<=a)&&decide (a<b.length)) (br (decide ((↑(b.getD a.toNat (0:UInt8)).toNat:Int)<32)) (κr (true,(false),())) (br (decide (0<=a)&&decide (a<b.length)) (br (decide ((↑(b.getD a.toNat (0:UInt8)).toNat:Int)>126)) (κr (true,(false),())) (κl (i64.wrap (a+1)))) δ)) δ) (κr (false,false,()))
def xgs (a:List UInt8) (b:Int):StT (Int) (Bool×(Bool)×(Unit)):=fun (c)=>xvZ a b c none inL inR
def xuf:=xLR.l 20 0 [] [] Tryz.f190 0 lk0 [0,5,6] [2] [] (q3 pStr qI qI) xT8 (fun (a,b,c,_) _=>(xgs a b,(c),fun p=>(.node p.1 (.leaf .ret [AV.bool p.2.1] []) (.leaf (.exit 0) [.top] [])))) (false,false,()) fun (a,b,_,_) _ (c)=>(((a,b,c,()),()),xvZ a b c none)
def xza {T:Type} (a:List UInt8) (δ:T) (κ:Bool->T):T:=br ((Iter (xgs a (↑a.length:Int)) 0).isSome) (br (((Iter (xgs a (↑a.length:Int)) 0).getD (false,false,())).fst) (κ (((Iter (xgs a (↑a.length:Int)) 0).getD (false,false,())).snd.fst)) (κ (true))) δ
def xAG (a:List UInt8):=xza a none some
def xQG:EO:=xLR.f Tryz.func190 20 0 [] [(2,xuf.lp)] (lk1 xuf.ok) (u1 (sEq pStr)) (fun (a,_) _=>xza a) (fun _ p=>AV.bool p) false
def xy1 {T:Type} (c a:Int) (b:List UInt8) (δ:T) (κ:Bool->T):T:=br (c==0) (br (a==0) (κ (b==[])) (κ (false))) (br (c==1) (br (b==[]) (br (decide (a>=(-1125899906842624))) (κ (decide (a<=1125899906842624))) (κ (false))) (κ (false))) (br (c==2) (br (a==0) (br (decide ((↑b.length:Int)<=200)) (br ((xAG b).isSome) (κ ((xAG b).getD false)) δ) (κ (false))) (κ (false))) (br (c==3) (br (b==[]) (br (a==0) (κ (true)) (κ (a==1))) (κ (false))) (κ (false)))))
def xBg (a b:Int) (c:List UInt8):=xy1 a b c none some
def xQH:EO:=xQG.f Tryz.func166 61 0 [] [] lk0 (u1 (xUp (u3 uI uI (sEq pStr)))) (fun ((a,b,c,_),_) _=>xy1 a b c) (fun _ p=>AV.bool p) false
def xLu:Int×Int×List UInt8:=((0,0,[]))
def xII {T:Type} (δ:T) (κ:Int×Int×List UInt8->T):T:=κ (0,0,[])
def xQI:EO:=xQH.fT Tryz.func108 2 0 [] [] lk0 (fun _=>xII none) xT9 (fun _=>xLu) (fun _ p=>(AV.agg [AV.int .i64 p.1,AV.int .i64 p.2.1,AV.str p.2.2]))
def xwU {T:Type} (a b:Int) (c:List UInt8) (δ:T) (κ:Int×Int×List UInt8->T):T:=br ((xBg a b c).isSome) (br (!(xBg a b c).getD false) (κ (0,0,[])) (κ (a,b,c))) δ
def xrl (a b:Int) (c:List UInt8):=xwU a b c none some
def xQJ:EO:=xQI.f Tryz.func135 8 0 [] [] lk0 (u1 (xUp (u3 uI uI (sEq pStr)))) (fun ((a,b,c,_),_) _=>xwU a b c) (fun _ p=>AV.agg [AV.int .i64 p.1,AV.int .i64 p.2.1,AV.str p.2.2]) (0,0,[])
def xBf {T:Type} (n:Int) (δ:T) (κ:Int×Int×List UInt8->T):T:=br ((xrl 1 n []).isSome) (κ (((xrl 1 n []).getD (0,0,[])).fst,((xrl 1 n []).getD (0,0,[])).snd.fst,((xrl 1 n []).getD (0,0,[])).snd.snd)) δ
def xeR (n:Int):=xBf n none some
def xQK:EO:=xQJ.f Tryz.func107 6 0 [] [] lk0 (u1 uI) (fun (n,_) _=>xBf n) (fun _ p=>AV.agg [AV.int .i64 p.1,AV.int .i64 p.2.1,AV.str p.2.2]) (0,0,[])
def xCb {T:Type} (a:LA) (i:Int) (δ:T) (κ:Int×Int×List UInt8->T):T:=br (decide (i<0)) (κ (0,0,[])) (br (decide (i>=a.length)) (κ (0,0,[])) (br (ixI a i) (br (ixT a i 3 [Sh.int .i64,Sh.int .i64,Sh.str] 0) (κ ((gC a i 0).toInt,(gC a i 1).toInt,(gC a i 2).toStr)) δ) δ))
def xCa (a:LA) (i:Int):=xCb a i none some
def xLS:EO:=xQK.f Tryz.func101 18 0 [] [] lk0 (u2 (uL 3) uI) (fun (a,i,_) _=>xCb a i) (fun _ p=>AV.agg [AV.int .i64 p.1,AV.int .i64 p.2.1,AV.str p.2.2]) (0,0,[])
def xou (a b:LA) (c:Int):=(xCa a (gC b c 0).toInt).getD (0,0,[])
def xot (a b:LA) (c:Int):=(xou a b c).snd
def xpY {T:Type} (e c:LA) (f:Int) (d:Nat) (a:Int) (b:LA) (δ:T) (κl:(Nat×Int×LA)->T) (κr:(Nat×LA)->T):T:=br (decide (a<f)) (br (ixI c a) (br (ixS c a (Sh.int .i64) 0) (br ((xCa e (gC c a 0).toInt).isSome) (br (rmB d b 1 32) (κl (d+1,i64.wrap (a+1),b++[AV.agg [AV.int .i64 (xou e c a).fst,AV.int .i64 (xot e c a).fst,AV.str (xot e c a).snd]])) δ) δ) δ) δ) (κr (d,b))
def xfB (c d:LA) (e:Int):StT (Nat×Int×LA) (Nat×LA):=fun (b,f,a)=>xpY c d e b f a none inL inR
def xAk:=xLS.l 25 0 [] [] Tryz.f66 0 lk0 [0,5,11,12,13] [5] [(5,3,76)] (q5 (qL 3) (xUk 0 0 0) (qL 1) qI qI) (q1 (qB 0 3 76 xUa)) (fun (c,b,d,e,f,_) (a,_)=>(xfB c d e,(b,f,a),fun p=>(.leaf (.exit 0) [AV.osl 0 0 0 p.1] [bF 0 3 76 p.2]))) (0,[]) fun (c,_,d,e,_,_) _ (b,f,a)=>(((c,b,d,e,f,()),(a,())),xpY c d e b f a none)
def xy0 (a b:LA):=(Iter (xfB a b (↑b.length:Int)) (0,0,[])).getD (0,[])
def xAl {T:Type} (b a:LA) (δ:T) (κ:Nat×LA->T):T:=br (decide (32*(↑a.length:Int)<=281474976710656)&&decide ((↑a.length:Int)<=4611686018427387904)) (br ((Iter (xfB b a (↑a.length:Int)) (0,0,[])).isSome) (κ ((xy0 b a).fst,(xy0 b a).snd)) δ) δ
def xdJ (a b:LA):=xAl a b none some
def xHk:EO:=xLS.fM Tryz.func66 25 0 [] [(3,xAk.lp)] (lk1 xAk.ok) (u2 (uL 3) (uL 1)) xT8 (fun (a,b,_) _ _=>xAl a b) (fun _ _ p=>(AV.osl 0 0 0 p.1,([bF 0 3 76 p.2]:List Box))) (0,[])
def xgt (b:Int) (a:LA):=((a.getD (0+b.toNat) .top).cells.getD 0 .top).toInt
def xo4 (d:Int) (c:Nat) (b a:LA):=((xaQ (Lib.itoa (xgt d b)) c a).getD (0,0,[])).snd
def xo3 (d:Int) (c:Nat) (b a:LA):=xbq 32 (xo4 d c b a).fst (xo4 d c b a).snd
def xo2 (d:Int) (c:Nat) (b a:LA):=(xo3 d c b a).getD (0,[])
def xkF {T:Type} (k:LA) (l j:Int) (e:Nat) (i c:Int) (d:Nat) (f g:Int) (h:List UInt8) (a b:LA) (δ:T) (κl:(Int×Nat×Int×Int×List UInt8×LA×LA)->T) (κr:(Nat×Int×Int×List UInt8×LA)->T):T:=br (decide (c<i)) (br (decide (0<=c)&&decide (c<(↑e:Int))) (br (decide (0+c.toNat<a.length)&&xTm (Sh.int .i64) ((a.getD (0+c.toNat) .top).cells.getD 0 .top)) (br (decide ((-9223372036854775808)<=xgt c a)&&decide (xgt c a<=9223372036854775807)) (br ((xaQ (Lib.itoa (xgt c a)) d b).isSome) (br ((xo3 c d a b).isSome) (κl (i64.wrap (c+1),(xo2 c d a b).fst,f,g,h,a,(xo2 c d a b).snd)) δ) δ) δ) δ) δ) (κr (d,f,g,h,b))
def xbB (k:LA) (l e:Int) (c:Nat) (f:Int):StT (Int×Nat×Int×Int×List UInt8×LA×LA) (Nat×Int×Int×List UInt8×LA):=fun (g,d,h,i,j,b,a)=>xkF k l e c f g d h i j b a none inL inR
def xkj:=xHk.l 37 0 [] [] Tryz.f65 1 lk0 [3,5,8,9,10,21,22,23] [3,5,8,9,10] [] (q8 (xUl 0 0 0 0) (xUl 1 0 0 0) (qL 3) qI qI (xUk 2 0 0) qI qI) (q4 (xUn 0 2 142 false false (q1 (xUm (q2 (xUl 0 0 0 0) (xUk 3 0 0))))) (qB 0 3 76 (q1 (xUm (q3 qI qI pStr)))) (qB 0 1 3 xUa) (qB 0 1 5 xUa)) (fun (_,_,k,m,e,c,f,g,_) (((_,d,_),_),((h,i,j,_),_),b,a,_)=>(xbB k m e c f,(g,d,h,i,j,b,a),fun p=>(.leaf (.exit 2) [AV.own 0 0 0 0,AV.own 1 0 0 0,AV.list 3 k,AV.int .i64 m,AV.int .i64 e] [⟨0,2,142,[AV.agg [AV.own 0 0 0 0,AV.osl 2 0 0 p.1]],false,false⟩,bF 0 3 76 [AV.agg [AV.int .i64 p.2.1,AV.int .i64 p.2.2.1,AV.str p.2.2.2.1]],bF 0 1 5 p.2.2.2.2]))) (0,0,0,[],[]) fun (_,_,k,m,e,c,f,_,_) _ (g,d,h,i,j,b,a)=>((((),(),k,m,e,c,f,g,()),((((),d,()),()),((h,i,j,()),()),b,a,())),xkF k m e c f g d h i j b a none)
def xo1 (b:LA) (e a:Int) (d:Nat) (c:LA):=Iter (xbB b e a 3 3) (0,d,(gC b a 0).toInt,(gC b a 1).toInt,(gC b a 2).toStr,[AV.int .i64 (gC b a 0).toInt,AV.int .i64 (gC b a 1).toInt,AV.int .i64 (↑(gC b a 2).toStr.length:Int)],c)
def xo0 (d:LA) (e c:Int) (b:Nat) (a:LA):=(xo1 d e c b a).getD (0,0,0,[],[])
def xox (d:LA) (e c:Int) (b:Nat) (a:LA):=(xo0 d e c b a).snd.snd.snd
def xoZ (d:LA) (e c:Int) (b:Nat) (a:LA):=xaQ (xox d e c b a).fst (xo0 d e c b a).fst (xox d e c b a).snd
def xoY (d:LA) (e c:Int) (b:Nat) (a:LA):=((xoZ d e c b a).getD (0,0,[])).snd
def xkE {T:Type} (d:LA) (e b:Int) (c:Nat) (a:LA) (δ:T) (κl:(Int×Nat×LA)->T) (κr:(Nat×LA)->T):T:=br (decide (b<e)) (br (ixI d b) (br (ixT d b 3 [Sh.int .i64,Sh.int .i64,Sh.str] 0) (br ((xo1 d e b c a).isSome) (br ((xoZ d e b c a).isSome) (κl (i64.wrap (b+1),(xoY d e b c a).fst,(xoY d e b c a).snd)) δ) δ) δ) δ) (κr (c,a))
def xdK (d:LA) (e:Int):StT (Int×Nat×LA) (Nat×LA):=fun (c,b,a)=>xkE d e c b a none inL inR
def xv2:=xHk.l 37 0 [] [(6,xkj.lp)] Tryz.f65 0 (lk1 xkj.ok) [3,8,9,10] [3] [] (q4 (xUl 0 0 0 0) (qL 3) qI qI) (q2 (xUn 0 2 142 false false (q1 (xUm (q2 (xUl 0 0 0 0) (xUk 1 0 0))))) (qB 0 1 5 xUa)) (fun (_,d,e,c,_) (((_,b,_),_),a,_)=>(xdK d e,(c,b,a),fun p=>(.leaf (.exit 0) [AV.own 0 0 0 0] [⟨0,2,142,[AV.agg [AV.own 0 0 0 0,AV.osl 1 0 0 p.1]],false,false⟩,bF 0 1 5 p.2]))) (0,[]) fun (_,d,e,_,_) _ (c,b,a)=>((((),d,e,c,()),((((),b,()),()),a,())),xkE d e c b a none)
def xdk (a:LA):=((a.getD 0 .top).cells.getD 0 .top).toInt
def xtg (a:LA):=xbW 32 ((xaN (Lib.itoa (xdk a))).getD (0,0,[])).snd.fst ((xaN (Lib.itoa (xdk a))).getD (0,0,[])).snd.snd
def xtf (a:LA):=(xtg a).getD (0,[])
def xte (a:LA):=Iter (xbB a (↑a.length:Int) 0 3 3) (1,(xtf a).fst,xdk a,((a.getD 0 .top).cells.getD 1 .top).toInt,((a.getD 0 .top).cells.getD 2 .top).toStr,[AV.int .i64 (xdk a),AV.int .i64 ((a.getD 0 .top).cells.getD 1 .top).toInt,AV.int .i64 (↑((a.getD 0 .top).cells.getD 2 .top).toStr.length:Int)],(xtf a).snd)
def xtd (a:LA):=(xte a).getD (0,0,0,[],[])
def xtc (a:LA):=(xtd a).snd.snd.snd
def xtb (a:LA):=xaQ (xtc a).fst (xtd a).fst (xtc a).snd
def xta (a:LA):=((xtb a).getD (0,0,[])).snd
def xs9 (a:LA):=Iter (xdK a (↑a.length:Int)) (1,(xta a).fst,(xta a).snd)
def xs8 (a:LA):=(xs9 a).getD (0,[])
def xjE (a:LA):=(xs8 a).snd
def xuh {T:Type} (a:LA) (δ:T) (κ:List UInt8->T):T:=br (decide (0<(↑a.length:Int))) (br (decide (0<(↑a.length:Int))) (br (decide (0<a.length)&&((a.getD 0 .top).cells.length==3&&xTt [Sh.int .i64,Sh.int .i64,Sh.str] (a.getD 0 .top).cells 0)) (br (decide ((-9223372036854775808)<=xdk a)&&decide (xdk a<=9223372036854775807)) (br ((xaN (Lib.itoa (xdk a))).isSome) (br ((xtg a).isSome) (br ((xte a).isSome) (br ((xtb a).isSome) (br ((xs9 a).isSome) (br (decide ((xs8 a).fst=(xjE a).length)&&isBytes (xjE a)&&decide ((xjE a).length≠0)) (κ (strOf (xjE a))) δ) δ) δ) δ) δ) δ) δ) δ) δ) (κ ([]))
def xsN (a:LA):=xuh a none some
def xQL:EO:=xHk.f Tryz.func65 37 0 [] [(6,xkj.lp),(3,xv2.lp)] (lks (lkC xv2.ok (lkC xkj.ok lkN))) (u1 (uL 3)) (fun (a,_) _=>xuh a) (fun _ p=>AV.str p) []
def xke {T:Type} (a:List UInt8) (n:Nat) (b:LA) (δ:T) (κ:Int×Nat×LA->T):T:=br (n==b.length&&(decide ((n+(byteAVs a).length)*1<=140737488355328)&&decide (n+(byteAVs a).length<=4611686018427387904))) (κ ((↑a.length:Int),n+(byteAVs a).length,b++byteAVs a)) δ
def xlS (a:List UInt8) (n:Nat) (b:LA):=xke a n b none some
def xPa:EO:=xQL.fM Tryz.func97 19 2 [] [] lk0 (u2 (sEq (xUl 0 0 0 0)) (sEq pStr)) (q2 (xUn 0 2 142 false false (q1 (xUm (q2 (xUl 0 0 0 0) (xUk 1 2 0))))) (qB 2 1 5 xUa)) (fun (_,a,_) (((_,n,_),_),b,_) _=>xke a n b) (fun _ _ p=>(AV.tuple [AV.int .i64 p.1,.top],([⟨0,2,142,[AV.agg [AV.own 0 0 0 0,AV.osl 1 3 0 p.2.1]],false,false⟩,bF 3 1 5 p.2.2]:List Box))) (0,0,[])
def xkf {T:Type} (a:List UInt8) (n:Nat) (b:LA) (δ:T) (κ:Int×Nat×LA->T):T:=br (n==b.length&&(decide ((n+(byteAVs a).length)*1<=140737488355328)&&decide (n+(byteAVs a).length<=4611686018427387904))) (κ ((↑a.length:Int),n+(byteAVs a).length,b++byteAVs a)) δ
def xlT (a:List UInt8) (n:Nat) (b:LA):=xkf a n b none some
def xPb:EO:=xPa.fM Tryz.func97 19 2 [] [] lk0 (u2 (sEq (xUl 0 0 0 0)) (sEq pStr)) (q2 (xUn 0 2 142 false false (q1 (xUm (q2 (xUl 0 0 0 0) (xUk 1 3 0))))) (qB 3 1 5 xUa)) (fun (_,a,_) (((_,n,_),_),b,_) _=>xkf a n b) (fun _ _ p=>(AV.tuple [AV.int .i64 p.1,.top],([⟨0,2,142,[AV.agg [AV.own 0 0 0 0,AV.osl 1 4 0 p.2.1]],false,false⟩,bF 4 1 5 p.2.2]:List Box))) (0,0,[])
def xkg {T:Type} (a:List UInt8) (n:Nat) (b:LA) (δ:T) (κ:Int×Nat×LA->T):T:=br (n==b.length&&(decide ((n+(byteAVs a).length)*1<=140737488355328)&&decide (n+(byteAVs a).length<=4611686018427387904))) (κ ((↑a.length:Int),n+(byteAVs a).length,b++byteAVs a)) δ
def xlU (a:List UInt8) (n:Nat) (b:LA):=xkg a n b none some
def xPc:EO:=xPb.fM Tryz.func97 19 2 [] [] lk0 (u2 (sEq (xUl 0 0 0 0)) (sEq pStr)) (q2 (xUn 0 2 142 false false (q1 (xUm (q2 (xUl 0 0 0 0) (xUk 1 4 0))))) (qB 4 1 5 xUa)) (fun (_,a,_) (((_,n,_),_),b,_) _=>xkg a n b) (fun _ _ p=>(AV.tuple [AV.int .i64 p.1,.top],([⟨0,2,142,[AV.agg [AV.own 0 0 0 0,AV.osl 1 5 0 p.2.1]],false,false⟩,bF 5 1 5 p.2.2]:List Box))) (0,0,[])
def xkh {T:Type} (a:List UInt8) (n:Nat) (b:LA) (δ:T) (κ:Int×Nat×LA->T):T:=br (n==b.length&&(decide ((n+(byteAVs a).length)*1<=140737488355328)&&decide (n+(byteAVs a).length<=4611686018427387904))) (κ ((↑a.length:Int),n+(byteAVs a).length,b++byteAVs a)) δ
def xlV (a:List UInt8) (n:Nat) (b:LA):=xkh a n b none some
def xPd:EO:=xPc.fM Tryz.func97 19 2 [] [] lk0 (u2 (sEq (xUl 0 0 0 0)) (sEq pStr)) (q2 (xUn 0 2 142 false false (q1 (xUm (q2 (xUl 0 0 0 0) (xUk 1 5 0))))) (qB 5 1 5 xUa)) (fun (_,a,_) (((_,n,_),_),b,_) _=>xkh a n b) (fun _ _ p=>(AV.tuple [AV.int .i64 p.1,.top],([⟨0,2,142,[AV.agg [AV.own 0 0 0 0,AV.osl 1 6 0 p.2.1]],false,false⟩,bF 6 1 5 p.2.2]:List Box))) (0,0,[])
def xki {T:Type} (a:List UInt8) (n:Nat) (b:LA) (δ:T) (κ:Int×Nat×LA->T):T:=br (n==b.length&&(decide ((n+(byteAVs a).length)*1<=140737488355328)&&decide (n+(byteAVs a).length<=4611686018427387904))) (κ ((↑a.length:Int),n+(byteAVs a).length,b++byteAVs a)) δ
def xlW (a:List UInt8) (n:Nat) (b:LA):=xki a n b none some
def xPe:EO:=xPd.fM Tryz.func97 19 2 [] [] lk0 (u2 (sEq (xUl 0 0 0 0)) (sEq pStr)) (q2 (xUn 0 2 142 false false (q1 (xUm (q2 (xUl 0 0 0 0) (xUk 1 6 0))))) (qB 6 1 5 xUa)) (fun (_,a,_) (((_,n,_),_),b,_) _=>xki a n b) (fun _ _ p=>(AV.tuple [AV.int .i64 p.1,.top],([⟨0,2,142,[AV.agg [AV.own 0 0 0 0,AV.osl 1 7 0 p.2.1]],false,false⟩,bF 7 1 5 p.2.2]:List Box))) (0,0,[])
def xlN {T:Type} (c:Int) (n:Nat) (a:LA) (δ:T) (κ:Nat×LA->T):T:=br (rmB n a 1 1) (κ (n+1,a++[AV.int .u8 c])) δ
def xnY (c:Int) (n:Nat) (a:LA):=xlN c n a none some
def xPf:EO:=xPe.fM Tryz.func99 17 2 [] [] lk0 (u2 (sEq (xUl 0 0 0 0)) (sEq (pInt .u8))) (q2 (xUn 0 2 142 false false (q1 (xUm (q2 (xUl 0 0 0 0) (xUk 1 2 0))))) (qB 2 1 5 xUa)) (fun (_,c,_) (((_,n,_),_),a,_) _=>xlN c n a) (fun _ _ p=>(.top,([⟨0,2,142,[AV.agg [AV.own 0 0 0 0,AV.osl 1 3 0 p.1]],false,false⟩,bF 3 1 5 p.2]:List Box))) (0,[])
def xlO {T:Type} (c:Int) (n:Nat) (a:LA) (δ:T) (κ:Nat×LA->T):T:=br (rmB n a 1 1) (κ (n+1,a++[AV.int .u8 c])) δ
def xnZ (c:Int) (n:Nat) (a:LA):=xlO c n a none some
def xPg:EO:=xPf.fM Tryz.func99 17 2 [] [] lk0 (u2 (sEq (xUl 0 0 0 0)) (sEq (pInt .u8))) (q2 (xUn 0 2 142 false false (q1 (xUm (q2 (xUl 0 0 0 0) (xUk 1 3 0))))) (qB 3 1 5 xUa)) (fun (_,c,_) (((_,n,_),_),a,_) _=>xlO c n a) (fun _ _ p=>(.top,([⟨0,2,142,[AV.agg [AV.own 0 0 0 0,AV.osl 1 4 0 p.1]],false,false⟩,bF 4 1 5 p.2]:List Box))) (0,[])
def xlP {T:Type} (c:Int) (n:Nat) (a:LA) (δ:T) (κ:Nat×LA->T):T:=br (rmB n a 1 1) (κ (n+1,a++[AV.int .u8 c])) δ
def xnx (c:Int) (n:Nat) (a:LA):=xlP c n a none some
def xPh:EO:=xPg.fM Tryz.func99 17 2 [] [] lk0 (u2 (sEq (xUl 0 0 0 0)) (sEq (pInt .u8))) (q2 (xUn 0 2 142 false false (q1 (xUm (q2 (xUl 0 0 0 0) (xUk 1 4 0))))) (qB 4 1 5 xUa)) (fun (_,c,_) (((_,n,_),_),a,_) _=>xlP c n a) (fun _ _ p=>(.top,([⟨0,2,142,[AV.agg [AV.own 0 0 0 0,AV.osl 1 5 0 p.1]],false,false⟩,bF 5 1 5 p.2]:List Box))) (0,[])
def xlQ {T:Type} (c:Int) (n:Nat) (a:LA) (δ:T) (κ:Nat×LA->T):T:=br (rmB n a 1 1) (κ (n+1,a++[AV.int .u8 c])) δ
def xn0 (c:Int) (n:Nat) (a:LA):=xlQ c n a none some
def xJE:EO:=xPh.fM Tryz.func99 17 2 [] [] lk0 (u2 (sEq (xUl 0 0 0 0)) (sEq (pInt .u8))) (q2 (xUn 0 2 142 false false (q1 (xUm (q2 (xUl 0 0 0 0) (xUk 1 5 0))))) (qB 5 1 5 xUa)) (fun (_,c,_) (((_,n,_),_),a,_) _=>xlQ c n a) (fun _ _ p=>(.top,([⟨0,2,142,[AV.agg [AV.own 0 0 0 0,AV.osl 1 6 0 p.1]],false,false⟩,bF 6 1 5 p.2]:List Box))) (0,[])
def xpB (c:LA) (d:Int) (b:Nat) (a:LA):=((xaQ (Lib.itoa (gC c d 0).toInt) b a).getD (0,0,[])).snd
def xpA (c:LA) (d:Int) (b:Nat) (a:LA):=xbq 58 (xpB c d b a).fst (xpB c d b a).snd
def xpz (c:LA) (d:Int) (b:Nat) (a:LA):=(xpA c d b a).getD (0,[])
def xrb (c:LA) (d:Int) (b:Nat) (a:LA):=xlS (Lib.itoa (gC c d 1).toInt) (xpz c d b a).fst (xpz c d b a).snd
def xra (c:LA) (d:Int) (b:Nat) (a:LA):=((xrb c d b a).getD (0,0,[])).snd
def xq9 (c:LA) (d:Int) (b:Nat) (a:LA):=xnZ 58 (xra c d b a).fst (xra c d b a).snd
def xq8 (c:LA) (d:Int) (b:Nat) (a:LA):=(xq9 c d b a).getD (0,[])
def xq7 (c:LA) (d:Int) (b:Nat) (a:LA):=xlU (Lib.itoa (↑(gC c d 2).toStr.length:Int)) (xq8 c d b a).fst (xq8 c d b a).snd
def xq6 (c:LA) (d:Int) (b:Nat) (a:LA):=((xq7 c d b a).getD (0,0,[])).snd
def xq5 (c:LA) (d:Int) (b:Nat) (a:LA):=xn0 58 (xq6 c d b a).fst (xq6 c d b a).snd
def xq4 (c:LA) (d:Int) (b:Nat) (a:LA):=(xq5 c d b a).getD (0,[])
def xq3 (c:LA) (d:Int) (b:Nat) (a:LA):=xlW (gC c d 2).toStr (xq4 c d b a).fst (xq4 c d b a).snd
def xq2 (c:LA) (d:Int) (b:Nat) (a:LA):=((xq3 c d b a).getD (0,0,[])).snd
def xmO {T:Type} (d:LA) (e c:Int) (b:Nat) (a:LA) (δ:T) (κl:(Int×Nat×LA)->T) (κr:(Nat×LA)->T):T:=br (decide (c<e)) (br (ixI d c) (br (ixT d c 3 [Sh.int .i64,Sh.int .i64,Sh.str] 0) (br (decide ((-9223372036854775808)<=(gC d c 0).toInt)&&decide ((gC d c 0).toInt<=9223372036854775807)) (br ((xaQ (Lib.itoa (gC d c 0).toInt) b a).isSome) (br ((xpA d c b a).isSome) (br (decide ((-9223372036854775808)<=(gC d c 1).toInt)&&decide ((gC d c 1).toInt<=9223372036854775807)) (br ((xrb d c b a).isSome) (br ((xq9 d c b a).isSome) (br (decide ((↑(gC d c 2).toStr.length:Int)<=9223372036854775807)) (br ((xq7 d c b a).isSome) (br ((xq5 d c b a).isSome) (br ((xq3 d c b a).isSome) (κl (i64.wrap (c+1),(xq2 d c b a).fst,(xq2 d c b a).snd)) δ) δ) δ) δ) δ) δ) δ) δ) δ) δ) δ) δ) (κr (b,a))
def xeF (c:LA) (d:Int):StT (Int×Nat×LA) (Nat×LA):=fun (e,b,a)=>xmO c d e b a none inL inR
def xyp:=xJE.l 33 0 [] [] Tryz.f69 0 lk0 [3,6,7,8] [3] [] (q4 (xUl 0 0 0 0) (qL 3) qI qI) (q2 (xUn 0 2 142 false false (q1 (xUm (q2 (xUl 0 0 0 0) (xUk 1 0 0))))) (qB 0 1 5 xUa)) (fun (_,c,d,e,_) (((_,b,_),_),a,_)=>(xeF c d,(e,b,a),fun p=>(.leaf (.exit 0) [AV.own 0 0 0 0] [⟨0,2,142,[AV.agg [AV.own 0 0 0 0,AV.osl 1 0 0 p.1]],false,false⟩,bF 0 1 5 p.2]))) (0,[]) fun (_,c,d,_,_) _ (e,b,a)=>((((),c,d,e,()),((((),b,()),()),a,())),xmO c d e b a none)
def xtx (a:LA):=((xaN (Lib.itoa ((a.getD 0 .top).cells.getD 0 .top).toInt)).getD (0,0,[])).snd
def xtZ (a:LA):=xbW 58 (xtx a).fst (xtx a).snd
def xtY (a:LA):=(xtZ a).getD (0,[])
def xtX (a:LA):=xlR (Lib.itoa ((a.getD 0 .top).cells.getD 1 .top).toInt) (xtY a).fst (xtY a).snd
def xtW (a:LA):=((xtX a).getD (0,0,[])).snd
def xtV (a:LA):=xnY 58 (xtW a).fst (xtW a).snd
def xvJ (a:LA):=(xtV a).getD (0,[])
def xvI (a:LA):=xlT (Lib.itoa (↑((a.getD 0 .top).cells.getD 2 .top).toStr.length:Int)) (xvJ a).fst (xvJ a).snd
def xvH (a:LA):=((xvI a).getD (0,0,[])).snd
def xvG (a:LA):=xnx 58 (xvH a).fst (xvH a).snd
def xvF (a:LA):=(xvG a).getD (0,[])
def xvE (a:LA):=xlV ((a.getD 0 .top).cells.getD 2 .top).toStr (xvF a).fst (xvF a).snd
def xvD (a:LA):=((xvE a).getD (0,0,[])).snd
def xvC (a:LA):=Iter (xeF a (↑a.length:Int)) (1,(xvD a).fst,(xvD a).snd)
def xvB (a:LA):=(xvC a).getD (0,[])
def xlH (a:LA):=(xvB a).snd
def xwQ {T:Type} (a:LA) (δ:T) (κ:List UInt8->T):T:=br (decide (0<(↑a.length:Int))) (br (decide (0<(↑a.length:Int))) (br (decide (0<a.length)&&((a.getD 0 .top).cells.length==3&&xTt [Sh.int .i64,Sh.int .i64,Sh.str] (a.getD 0 .top).cells 0)) (br (decide ((-9223372036854775808)<=((a.getD 0 .top).cells.getD 0 .top).toInt)&&decide (((a.getD 0 .top).cells.getD 0 .top).toInt<=9223372036854775807)) (br ((xaN (Lib.itoa ((a.getD 0 .top).cells.getD 0 .top).toInt)).isSome) (br ((xtZ a).isSome) (br (decide ((-9223372036854775808)<=((a.getD 0 .top).cells.getD 1 .top).toInt)&&decide (((a.getD 0 .top).cells.getD 1 .top).toInt<=9223372036854775807)) (br ((xtX a).isSome) (br ((xtV a).isSome) (br (decide ((↑((a.getD 0 .top).cells.getD 2 .top).toStr.length:Int)<=9223372036854775807)) (br ((xvI a).isSome) (br ((xvG a).isSome) (br ((xvE a).isSome) (br ((xvC a).isSome) (br (decide ((xvB a).fst=(xlH a).length)&&isBytes (xlH a)&&decide ((xlH a).length≠0)) (κ (strOf (xlH a))) δ) δ) δ) δ) δ) δ) δ) δ) δ) δ) δ) δ) δ) δ) (κ ([]))
def xvA (a:LA):=xwQ a none some
def xHl:EO:=xJE.f Tryz.func69 33 0 [] [(3,xyp.lp)] (lk1 xyp.ok) (u1 (uL 3)) (fun (a,_) _=>xwQ a) (fun _ p=>AV.str p) []
def xg8 (d e:LA) (f:Int) (a:Nat) (g:Int) (b c:LA):=decide ((↑a:Int)<(↑(a+1):Int))
def xgn (a b:LA) (c:Int):=xsN (List.take ((xdJ (gC b c 0).toList a).getD (0,[])).fst (List.drop 0 ((xdJ (gC b c 0).toList a).getD (0,[])).snd))
def xaT (a:Nat):Nat:=0+(↑a:Int).toNat
def xg7 (d e:LA) (f:Int) (b:Nat) (g:Int) (c a:LA):=decide (xaT b<(a++[AV.list 3 []]).length)
def xbs (a b:LA) (c:Int):=(xgn a b c).getD []
def xax (b:Nat) (a:LA):=(((a++[AV.list 3 []]).getD (xaT b) .top).cells.getD 0 .top).toList.length
def xhc (a:LA) (d:Nat) (b:Int) (c:LA):=(((c++[AV.list 3 []]).getD (xaT d) .top).cells.getD 0 .top).toList++[AV.agg [AV.list 3 (gC a b 0).toList,AV.int .i64 (gC a b 1).toInt,AV.int .i64 (gC a b 2).toInt]]
def xg9 (b d:LA) (c:Nat) (e:Int) (a:LA):=decide (0<=(xTH (AV.int .i64 0) a (xbs b d e)).toInt)&&decide ((xTH (AV.int .i64 0) a (xbs b d e)).toInt<(↑c:Int))
def xaP (b c:LA) (d:Int) (a:LA):Nat:=0+(xTH (AV.int .i64 0) a (xbs b c d)).toInt.toNat
def xhb (a b:LA) (c:Int):=decide ((xbs a b c).length<=4611686018427387904)
def xcX (b:Nat) (a:LA):=(a++[AV.list 3 []]).set (xaT b) (AV.int .i64 (↑(xax b a):Int))
def xha (c d:LA) (e:Int) (a b:LA):=decide (xaP c d e a<b.length)
def xhd (e b:LA) (c:Int) (a d:LA):=((d.getD (xaP e b c a) .top).cells.getD 0 .top).toList++[AV.agg [AV.list 3 (gC b c 0).toList,AV.int .i64 (gC b c 1).toInt,AV.int .i64 (gC b c 2).toInt]]
def xaW (c d:LA) (e:Int) (a b:LA):=((b.getD (xaP c d e a) .top).cells.getD 0 .top).toList.length
def xcY (c d:LA) (e:Int) (a b:LA):=xaW c d e a b+1
def xfj {T:Type} (c f:LA) (g:Int) (d:Nat) (e:Int) (a b:LA) (δ:T) (κl:(Nat×Int×LA×LA)->T) (κr:(Nat×LA)->T):T:=br (decide (e<g)) (br (ixI f e) (br (ixT f e 3 [Sh.list 3,Sh.int .i64,Sh.int .i64] 0) (br ((xdJ (gC f e 0).toList c).isSome) (br (decide (0+((xdJ (gC f e 0).toList c).getD (0,[])).fst<=((xdJ (gC f e 0).toList c).getD (0,[])).snd.length)&&true) (br ((xgn c f e).isSome) (br (xhb c f e&&xTm (Sh.int .i64) (xTH (AV.int .i64 0) a (xbs c f e))) (br (!xTT a (xbs c f e)) (br (decide (a.length<4611686018427387904)&&xhb c f e) (br (rmB d b 1 24) (br (xg8 c f g d e a b) (br (xg7 c f g d e a b&&(xT3 3 (((b++[AV.list 3 []]).getD (xaT d) .top).cells.getD 0 .top)&&((b++[AV.list 3 []]).getD (xaT d) .top).cells.length==1)) (br (xg7 c f g d e a b&&(xT3 3 (((b++[AV.list 3 []]).getD (xaT d) .top).cells.getD 0 .top)&&(((b++[AV.list 3 []]).getD (xaT d) .top).cells.length==1&&(2*xax d b==2*xax d b&&(xax d b==xax d b&&(xax d b==xax d b&&(decide ((xax d b+1)*40<=140737488355328)&&decide (xax d b+1<=4611686018427387904)))))))) (br (xg8 c f g d e a b) (br (decide (xaT d<(xcX d b).length)&&(((xcX d b).getD (xaT d) .top).cells.length==1&&(xax d b+1==(xhc f d e b).length&&xUs (((xcX d b).getD (xaT d) .top).cells.getD 0 .top) (xax d b+1)))) (κl (d+1,i64.wrap (e+1),xTF a (xbs c f e) (AV.int .i64 (↑d:Int)),(xcX d b).set (xaT d) (AV.list 3 (xhc f d e b)))) δ) δ) δ) δ) δ) δ) δ) (br (xg9 c f d e a) (br (xha c f e a b&&(xT3 3 ((b.getD (xaP c f e a) .top).cells.getD 0 .top)&&(b.getD (xaP c f e a) .top).cells.length==1)) (br (xha c f e a b&&(xT3 3 ((b.getD (xaP c f e a) .top).cells.getD 0 .top)&&((b.getD (xaP c f e a) .top).cells.length==1&&(2*xaW c f e a b==2*xaW c f e a b&&(xaW c f e a b==xaW c f e a b&&(xaW c f e a b==xaW c f e a b&&(decide (xcY c f e a b*40<=140737488355328)&&decide (xcY c f e a b<=4611686018427387904)))))))) (br (xg9 c f d e a) (br (decide (xaP c f e a<(b.set (xaP c f e a) (AV.int .i64 (↑(xaW c f e a b):Int))).length)&&(((b.set (xaP c f e a) (AV.int .i64 (↑(xaW c f e a b):Int))).getD (xaP c f e a) .top).cells.length==1&&(xcY c f e a b==(xhd c f e a b).length&&xUs (((b.set (xaP c f e a) (AV.int .i64 (↑(xaW c f e a b):Int))).getD (xaP c f e a) .top).cells.getD 0 .top) (xcY c f e a b)))) (κl (d,i64.wrap (e+1),a,(b.set (xaP c f e a) (AV.int .i64 (↑(xaW c f e a b):Int))).set (xaP c f e a) (AV.list 3 (xhd c f e a b)))) δ) δ) δ) δ) δ)) δ) δ) δ) δ) δ) δ) (κr (d,b))
def xby (d e:LA) (f:Int):StT (Nat×Int×LA×LA) (Nat×LA):=fun (c,g,a,b)=>xfj d e f c g a b none inL inR
def xsw:=xHl.l 57 0 [] [] Tryz.f40 0 lk0 [1,5,6,18,19,20] [6] [(6,1,253605445655)] (q6 (qL 1) (xUl 0 0 0 0) (xUk 1 0 0) (qL 3) qI qI) (q2 (qB 0 2 1208925819615114573119488 xUa) (qB 0 1 253605445655 xUa)) (fun (d,_,c,e,f,g,_) (a,b,_)=>(xby d e f,(c,g,a,b),fun p=>(.leaf (.exit 0) [AV.osl 0 0 0 p.1] [bF 0 1 253605445655 p.2]))) (0,[]) fun (d,_,_,e,f,_,_) _ (c,g,a,b)=>(((d,(),c,e,f,g,()),(a,b,())),xfj d e f c g a b none)
def xoX (l a:LA):=Iter (xby a l (↑l.length:Int)) (0,0,[],[])
def xoW (l a:LA):=(xoX l a).getD (0,[])
def xoU (l a:LA):=(xoW l a).fst
def xoV (l a:LA):=(xoW l a).snd
def xoT (l a:LA):=List.take (xoU l a) (List.drop 0 (xoV l a))
def xp8 {T:Type} (l a:LA) (δ:T) (κ:LA->T):T:=br ((↑a.length:Int)==0) (κ ([AV.list 3 l])) (br ((xoX l a).isSome) (br (decide (0+xoU l a<=(xoV l a).length)&&xTU 3 0 (xoT l a)&&true) (κ (xoT l a)) δ) δ)
def xjD (l a:LA):=xp8 l a none some
def xLT:EO:=xHl.f Tryz.func40 57 0 [] [(6,xsw.lp)] (lk1 xsw.ok) (u2 (uL 3) (uL 1)) (fun (l,a,_) _=>xp8 l a) (fun _ p=>AV.list 1 p) []
def xmP {T:Type} (f:LA) (h b g a c d:Int) (e:List UInt8) (δ:T) (κl:(Int×Int×Int×Int×Int×List UInt8)->T) (κr:(Int×Int×Int×Int×List UInt8)->T):T:=br (decide (a<h)) (br (ixI f a) (br (ixT f a 3 [Sh.int .i64,Sh.int .i64,Sh.str] 0) (κl (i64.wrap (b+(gC f a 1).toInt.fdiv 1048576),i64.wrap (g+andI IntKind.i64 (gC f a 1).toInt 1048575),i64.wrap (a+1),c,d,e)) δ) δ) (κr (b,g,c,d,e))
def xeG (g:LA) (h:Int):StT (Int×Int×Int×Int×Int×List UInt8) (Int×Int×Int×Int×List UInt8):=fun (a,e,f,b,c,d)=>xmP g h a e f b c d none inL inR
def xyq:=xLT.l 51 0 [] [] Tryz.f109 0 lk0 [2,3,4,8,9,10] [2,3,4] [] (q6 (xUl 0 0 0 0) qI qI (qL 3) qI qI) (q1 (qB 0 3 76 (q1 (xUm (q3 qI qI pStr))))) (fun (_,a,e,g,h,f,_) (((b,c,d,_),_),_)=>(xeG g h,(a,e,f,b,c,d),fun p=>(.leaf (.exit 0) [AV.own 0 0 0 0,AV.int .i64 p.1,AV.int .i64 p.2.1] [bF 0 3 76 [AV.agg [AV.int .i64 p.2.2.1,AV.int .i64 p.2.2.2.1,AV.str p.2.2.2.2]]]))) (0,0,0,0,[]) fun (_,_,_,g,h,_,_) _ (a,e,f,b,c,d)=>((((),a,e,g,h,f,()),(((b,c,d,()),()),())),xmP g h a e f b c d none)
def xvN (l:LA):=Iter (xeG l (↑l.length:Int)) (0,0,0,0,0,[])
def xvM (l:LA):=(xvN l).getD (0,0,0,0,[])
def xvL (l:LA):=(xvM l).snd.fst
def xpX (l:LA):=i64.wrap ((xvM l).fst+(xvL l).fdiv 1048576)
def xgb (l:LA):=i64.wrap (i64.wrap (xpX l*1048576)+andI IntKind.i64 (xvL l) 1048575)
def xwR {T:Type} (l:LA) (δ:T) (κ:Int×Int×List UInt8->T):T:=br ((xvN l).isSome) (br (decide (xpX l<(-2147483648))) (κ (0,0,[])) (br (decide (xpX l>2147483648)) (κ (0,0,[])) (br (decide (xgb l<(-1125899906842624))) (κ (0,0,[])) (br (decide (xgb l>1125899906842624)) (κ (0,0,[])) (br ((xeR (xgb l)).isSome) (κ (((xeR (xgb l)).getD (0,0,[])).fst,((xeR (xgb l)).getD (0,0,[])).snd.fst,((xeR (xgb l)).getD (0,0,[])).snd.snd)) δ))))) δ
def xvK (l:LA):=xwR l none some
def xHm:EO:=xLT.f Tryz.func109 51 0 [] [(3,xyq.lp)] (lk1 xyq.ok) (u1 (uL 3)) (fun (l,_) _=>xwR l) (fun _ p=>AV.agg [AV.int .i64 p.1,AV.int .i64 p.2.1,AV.str p.2.2]) (0,0,[])
def xj9 (a:LA) (b d c:Int):=decide (c<(↑(gC a b 0).toList.length:Int))
def xka (a:LA) (b d c:Int):=decide (c.toNat<(gC a b 0).toList.length)
def xbA (a:LA) (b c:Int):=((gC a b 0).toList.getD c.toNat .top).cells
def xj8 (b:LA) (c d a:Int):=decide (0<=a)&&xj9 b c d a
def xgo {T:Type} (c:LA) (j:Int) (i:Nat) (a d b f g:Int) (h:List UInt8) (e:LA) (δ:T) (κl:(Nat×Int×Int×Int×Int×Int×List UInt8×LA)->T) (κr:(Nat×Int×Int×Int×Int×List UInt8×LA)->T):T:=br (decide (a<j)) (br (ixI c a) (br (ixS c a (Sh.list 3) 0) (br (xj9 c a d b) (br (xj8 c a d b) (br (xka c a d b&&xTm (Sh.int .i64) ((xbA c a b).getD 0 .top)) (br (((xbA c a b).getD 0 .top).toInt != 0) (br (xj8 c a d b) (br (xka c a d b&&((xbA c a b).length==3&&xTt [Sh.int .i64,Sh.int .i64,Sh.str] (xbA c a b) 0)) (br (rmB i e 1 32) (κl (i+1,i64.wrap (a+1),d,b,f,g,h,e++[AV.agg [AV.int .i64 ((xbA c a b).getD 0 .top).toInt,AV.int .i64 ((xbA c a b).getD 1 .top).toInt,AV.str ((xbA c a b).getD 2 .top).toStr]])) δ) δ) δ) (κl (i,i64.wrap (a+1),d,b,f,g,h,e))) δ) δ) (κl (i,i64.wrap (a+1),d,b,f,g,h,e))) δ) δ) (κr (i,d,b,f,g,h,e))
def xcg (e:LA) (f:Int):StT (Nat×Int×Int×Int×Int×Int×List UInt8×LA) (Nat×Int×Int×Int×Int×List UInt8×LA):=fun (g,h,i,j,a,b,c,d)=>xgo e f g h i j a b c d none inL inR
def xj7:=xHm.l 96 0 [] [] Tryz.f70 0 lk0 [3,4,5,18,19,20] [3,4,5] [(5,3,76)] (q6 (xUl 0 0 0 0) (xUl 1 0 0 0) (xUk 2 0 0) (qL 1) qI qI) (q3 (qB 0 2 74 (q1 (xUm (q2 qI qI)))) (qB 0 3 76 (q1 (xUm (q3 qI qI pStr)))) (qB 0 3 76 xUa)) (fun (_,_,e,f,g,h,_) (((i,j,_),_),((a,b,c,_),_),d,_)=>(xcg f g,(e,h,i,j,a,b,c,d),fun p=>(.leaf (.exit 0) [AV.own 0 0 0 0,AV.own 1 0 0 0,AV.osl 2 0 0 p.1] [bF 0 2 74 [AV.agg [AV.int .i64 p.2.1,AV.int .i64 p.2.2.1]],bF 0 3 76 [AV.agg [AV.int .i64 p.2.2.2.1,AV.int .i64 p.2.2.2.2.1,AV.str p.2.2.2.2.2.1]],bF 0 3 76 p.2.2.2.2.2.2]))) (0,0,0,0,0,[],[]) fun (_,_,_,f,g,_,_) _ (e,h,i,j,a,b,c,d)=>((((),(),e,f,g,h,()),(((i,j,()),()),((a,b,c,()),()),d,())),xgo f g e h i j a b c d none)
def xbi (b:Int) (a:LA):=(a.getD (0+b.toNat) .top).cells
def xkb (b c d:Int) (e:List UInt8) (a:LA):=xbK ((xbi b a).getD 0 .top).toInt ((xbi b a).getD 1 .top).toInt ((xbi b a).getD 2 .top).toStr c d e
def xfK {T:Type} (b f g c d:Int) (e:List UInt8) (a:LA) (κl:(Int×Int×Int×Int×Int×List UInt8×Int×Int×List UInt8×LA)->T):T:=κl (i64.wrap (b+1),f,g,c,d,e,((xbi b a).getD 0 .top).toInt,((xbi b a).getD 1 .top).toInt,((xbi b a).getD 2 .top).toStr,a)
def xfJ {T:Type} (h i j e f:Int) (g:List UInt8) (b c:Int) (d:List UInt8) (a:LA) (κl:(Int×Int×Int×Int×Int×List UInt8×Int×Int×List UInt8×LA)->T):T:=br (i==4) (br (decide (xkb h b c d a>0)) (xfK h i j e f g a κl) (κl (i64.wrap (h+1),i,j,e,f,g,b,c,d,a))) (κl (i64.wrap (h+1),i,j,e,f,g,b,c,d,a))
def xgp {T:Type} (k:Nat) (l b i j f g:Int) (h:List UInt8) (c d:Int) (e:List UInt8) (a:LA) (δ:T) (κl:(Int×Int×Int×Int×Int×List UInt8×Int×Int×List UInt8×LA)->T) (κr:(Int×Int×List UInt8×Int×Int×List UInt8)->T):T:=br (decide (b<l)) (br (decide (0<=b)&&decide (b<(↑k:Int))) (br (decide (0+b.toNat<a.length)&&((xbi b a).length==3&&xTt [Sh.int .i64,Sh.int .i64,Sh.str] (xbi b a) 0)) (br (i==3) (br (decide (xkb b c d e a<0)) (xfK b i j f g h a κl) (xfJ b i j f g h c d e a κl)) (xfJ b i j f g h c d e a κl)) δ) δ) (κr (f,g,h,c,d,e))
def xch (b:Nat) (i:Int):StT (Int×Int×Int×Int×Int×List UInt8×Int×Int×List UInt8×LA) (Int×Int×List UInt8×Int×Int×List UInt8):=fun (j,k,l,f,g,h,c,d,e,a)=>xgp b i j k l f g h c d e a none inL inR
def xq1:=xHm.l 96 0 [] [(5,xj7.lp)] Tryz.f70 1 lk0 [3,4,8,68,69,70] [4,8] [] (q6 (xUl 0 0 0 0) (xUl 1 0 0 0) (xUl 2 0 0 0) (xUk 3 0 0) qI qI) (q4 (qB 0 2 74 (q1 (xUm (q2 qI qI)))) (qB 0 3 76 (q1 (xUm (q3 qI qI pStr)))) (qB 0 3 76 (q1 (xUm (q3 qI qI pStr)))) (qB 0 3 76 xUa)) (fun (_,_,_,b,i,j,_) (((k,m,_),_),((f,g,h,_),_),((c,d,e,_),_),a,_)=>(xch b i,(j,k,m,f,g,h,c,d,e,a),fun p=>(.leaf (.exit 3) [AV.own 0 0 0 0,AV.own 1 0 0 0] [bF 0 3 76 [AV.agg [AV.int .i64 p.1,AV.int .i64 p.2.1,AV.str p.2.2.1]],bF 0 3 76 [AV.agg [AV.int .i64 p.2.2.2.1,AV.int .i64 p.2.2.2.2.1,AV.str p.2.2.2.2.2]]]))) (0,0,[],0,0,[]) fun (_,_,_,b,i,_,_) _ (j,k,m,f,g,h,c,d,e,a)=>((((),(),(),b,i,j,()),(((k,m,()),()),((f,g,h,()),()),((c,d,e,()),()),a,())),xgp b i j k m f g h c d e a none)
def xl6 (a:LA) (c b:Int):=Iter (xcg a (↑a.length:Int)) (0,0,c,b,0,0,[],[])
def xl5 (b:LA) (c a:Int):=(xl6 b c a).getD (0,0,0,0,0,[],[])
def xdQ (b:LA) (c a:Int):=(xl5 b c a).fst
def xl4 (b:LA) (c a:Int):=(xl5 b c a).snd
def xb6 (b:LA) (c a:Int):=(↑(xdQ b c a):Int)
def xh0 (b:LA) (c a:Int):=(xl4 b c a).fst
def xl3 (b:LA) (c a:Int):=(xl4 b c a).snd
def xl2 (b:LA) (c a:Int):=(xl3 b c a).snd
def xnL (b:LA) (c a:Int):=(xl2 b c a).snd
def xnK (b:LA) (c a:Int):=(xnL b c a).snd
def xcK (b:LA) (c a:Int):=(xnK b c a).snd
def xdP (b:LA) (c a:Int):=((xcK b c a).getD 0 .top).cells
def xl8 (b:LA) (c a:Int):=(xvK (List.take (xdQ b c a) (List.drop 0 (xcK b c a)))).getD (0,0,[])
def xnJ (b:LA) (c a:Int):=Iter (xch (xdQ b c a) (xb6 b c a)) (0,xh0 b c a,(xl3 b c a).fst,(xl2 b c a).fst,(xnL b c a).fst,(xnK b c a).fst,((xdP b c a).getD 0 .top).toInt,((xdP b c a).getD 1 .top).toInt,((xdP b c a).getD 2 .top).toStr,xcK b c a)
def xl7 (b:LA) (c a:Int):=(xl8 b c a).snd
def xnI (b:LA) (c a:Int):=((xnJ b c a).getD (0,0,[],0,0,[])).snd.snd.snd
def xnH (b:LA) (c a:Int):=(xnI b c a).snd
def xju {T:Type} (b:LA) (c a:Int) (δ:T) (κ:Int×Int×List UInt8->T):T:=br (decide (a<0)) (br ((xeR (↑b.length:Int)).isSome) (κ (((xeR (↑b.length:Int)).getD (0,0,[])).fst,((xeR (↑b.length:Int)).getD (0,0,[])).snd.fst,((xeR (↑b.length:Int)).getD (0,0,[])).snd.snd)) δ) (br ((xl6 b c a).isSome) (br (xh0 b c a==1) (br ((xeR (xb6 b c a)).isSome) (κ (((xeR (xb6 b c a)).getD (0,0,[])).fst,((xeR (xb6 b c a)).getD (0,0,[])).snd.fst,((xeR (xb6 b c a)).getD (0,0,[])).snd.snd)) δ) (br (xb6 b c a==0) (κ (0,0,[])) (br (xh0 b c a==2) (br (decide (0+xdQ b c a<=(xcK b c a).length)&&true) (br ((xvK (List.take (xdQ b c a) (List.drop 0 (xcK b c a)))).isSome) (κ ((xl8 b c a).fst,(xl7 b c a).fst,(xl7 b c a).snd)) δ) δ) (br (decide (0<xb6 b c a)) (br (decide (0<(xcK b c a).length)&&((xdP b c a).length==3&&xTt [Sh.int .i64,Sh.int .i64,Sh.str] (xdP b c a) 0)) (br ((xnJ b c a).isSome) (κ ((xnI b c a).fst,(xnH b c a).fst,(xnH b c a).snd)) δ) δ) δ)))) δ)
def xht (b:LA) (c a:Int):=xju b c a none some
def xCy:EO:=xHm.f Tryz.func70 96 0 [] [(5,xj7.lp),(18,xq1.lp)] (lks (lkC xj7.ok (lkC xq1.ok lkN))) (u2 (uL 1) (xUp (u2 uI uI))) (fun (b,(c,a,_),_) _=>xju b c a) (fun _ p=>AV.agg [AV.int .i64 p.1,AV.int .i64 p.2.1,AV.str p.2.2]) (0,0,[])
def xbU (a:LA) (b:Int):=(gC a b 0).toInt
def xh1 {T:Type} (l c d:LA) (f:Int) (e:Nat) (a:Int) (b:LA) (δ:T) (κl:(Nat×Int×LA)->T) (κr:(Bool×(Int×Nat×LA)×(Nat×LA))->T):T:=br (decide (a<f)) (br (ixI d a) (br (ixS d a (Sh.int .i64) 0) (br (decide (xbU d a<0)) (κr (true,(6,e,b),(0,[]))) (br (decide (xbU d a>=c.length)) (κr (true,(6,e,b),(0,[]))) (br (decide (0<=xbU d a)&&decide (xbU d a<c.length)) (br (decide ((xbU d a).toNat<c.length)&&xTm (Sh.int .i64) ((c.getD (xbU d a).toNat .top).cells.getD 0 .top)) (br (rmB e b 1 8) (κl (e+1,i64.wrap (a+1),b++[AV.int .i64 ((c.getD (xbU d a).toNat .top).cells.getD 0 .top).toInt])) δ) δ) δ))) δ) δ) (κr (false,(0,0,[]),(e,b)))
def xcL (l b d:LA) (e:Int):StT (Nat×Int×LA) (Bool×(Int×Nat×LA)×(Nat×LA)):=fun (c,f,a)=>xh1 l b d e c f a none inL inR
def xl9:=xCy.l 103 0 [] [] Tryz.f71 0 lk0 [1,2,8,13,14,15] [1,2,6,7,8] [(8,1,3)] (q6 (qL 2) (qL 1) (xUk 0 0 0) (qL 1) qI qI) (q1 (qB 0 1 3 xUa)) (fun (l,a,c,d,e,f,_) (b,_)=>(xcL l a d e,(c,f,b),fun p=>(.node p.1 (.leaf .ret [AV.list 2 l,AV.list 1 a,AV.nils,AV.int .i64 p.2.1.1,AV.osl 0 0 0 p.2.1.2.1] [bF 0 1 3 p.2.1.2.2]) (.leaf (.exit 0) [AV.list 2 l,AV.list 1 a,.top,.top,AV.osl 0 0 0 p.2.2.1] [bF 0 1 3 p.2.2.2])))) (false,(0,0,[]),(0,[])) fun (l,a,_,d,e,_,_) _ (c,f,b)=>(((l,a,c,d,e,f,()),(b,())),xh1 l a d e c f b none)
def xbe (a:LA) (b:Int):=(gC a b 1).toInt
def xcy (a:LA) (b:Int):=(gC a b 0).toInt
def xma (a b:LA) (f:Int) (e:Nat) (c:Int) (d:LA):=decide (0<=xbe b c)&&decide (xbe b c<a.length)
def xmb (a b:LA) (f:Int) (e:Nat) (c:Int) (d:LA):=decide ((xbe b c).toNat<a.length)&&xTm (Sh.int .i64) ((a.getD (xbe b c).toNat .top).cells.getD 0 .top)
def xsH (a b:LA) (f:Int) (e:Nat) (c:Int) (d:LA):=decide (xbe b c>=a.length)
def xsI (d a:LA) (f:Int) (e:Nat) (b:Int) (c:LA):=decide (xbe a b<0)
def xsJ (a:LA) (b:Int):=xcy a b==3
def xsK (a:LA) (b:Int):=xcy a b==4
def xgr {T:Type} (c e:LA) (f:Int) (b:Nat) (d:Int) (a:LA) (δ:T) (κl:(Nat×Int×LA)->T):T:=br (xma c e f b d a) (br (xmb c e f b d a) (br (rmB b a 1 8) (κl (b+1,i64.wrap (d+1),a++[AV.int .i64 ((c.getD (xbe e d).toNat .top).cells.getD 0 .top).toInt])) δ) δ) δ
def xeK {T:Type} (d e:LA) (f:Int) (b:Nat) (c:Int) (a:LA) (δ:T) (κl:(Nat×Int×LA)->T):T:=br (xsJ e c) (xgr d e f b c a δ κl) (br (xsK e c) (xgr d e f b c a δ κl) (br (rmB b a 1 8) (κl (b+1,i64.wrap (c+1),a++[AV.int .i64 1])) δ))
def xgq {T:Type} (c d:LA) (f:Int) (b:Nat) (e:Int) (a:LA) (δ:T) (κl:(Nat×Int×LA)->T) (κr:(Bool×(Int×Nat×LA)×(Nat×LA))->T):T:=br (xsI c d f b e a) (κr (true,(6,b,a),(0,[]))) (br (xsH c d f b e a) (κr (true,(6,b,a),(0,[]))) (br (xcy d e==2) (br (xma c d f b e a) (br (xmb c d f b e a) (br (((c.getD (xbe d e).toNat .top).cells.getD 0 .top).toInt != 1) (κr (true,(7,b,a),(0,[]))) (xeK c d f b e a δ κl)) δ) δ) (xeK c d f b e a δ κl)))
def xh2 {T:Type} (e d:LA) (f:Int) (b:Nat) (c:Int) (a:LA) (δ:T) (κl:(Nat×Int×LA)->T) (κr:(Bool×(Int×Nat×LA)×(Nat×LA))->T):T:=br (decide (c<f)) (br (ixI d c) (br (ixT d c 2 [Sh.int .i64,Sh.int .i64] 0) (br (decide (xcy d c<1)) (κr (true,(7,b,a),(0,[]))) (br (decide (xcy d c>4)) (κr (true,(7,b,a),(0,[]))) (br (xbe d c==(-1)) (br (xcy d c==1) (xeK e d f b c a δ κl) (xgq e d f b c a δ κl κr)) (xgq e d f b c a δ κl κr)))) δ) δ) (κr (false,(0,0,[]),(b,a)))
def xcM (b d:LA) (e:Int):StT (Nat×Int×LA) (Bool×(Int×Nat×LA)×(Nat×LA)):=fun (c,f,a)=>xh2 b d e c f a none inL inR
def xsG:=xCy.l 103 0 [] [(3,xl9.lp)] Tryz.f71 1 lk0 [2,8,35,36,37] [6,7,8] [(8,1,3)] (q5 (qL 1) (xUk 0 0 0) (qL 2) qI qI) (q1 (qB 0 1 3 xUa)) (fun (b,c,d,e,f,_) (a,_)=>(xcM b d e,(c,f,a),fun p=>(.node p.1 (.leaf .ret [AV.nils,AV.int .i64 p.2.1.1,AV.osl 0 0 0 p.2.1.2.1] [bF 0 1 3 p.2.1.2.2]) (.leaf (.exit 2) [.top,.top,AV.osl 0 0 0 p.2.2.1] [bF 0 1 3 p.2.2.2])))) (false,(0,0,[]),(0,[])) fun (b,_,d,e,_,_) _ (c,f,a)=>(((b,c,d,e,f,()),(a,())),xh2 b d e c f a none)
def xe6:Env:=xCy.E.fn 103 0 (lsOf []) (xTL [(3,xl9.lp),(10,xsG.lp)])
theorem xA3:xTo P0 (xT5.at 0) xe6:=xCy.ok.fn
theorem xAc:LoOk P0 (xT5.at xe6.pin) xe6 (Tryz.f71.body.getD .skip):=xgT (ls:=[xTs Tryz.f71 0,xTs Tryz.f71 1]) (by kernel_rfl) (lkC xl9.ok (lkC xsG.ok lkN))
def xgL (a l b:LA):=Iter (xcL l b a (↑a.length:Int)) (0,0,[])
def xgK (b l a:LA):=(xgL b l a).getD (false,(0,0,[]),0,[])
def xgJ (b l a:LA):=(xgK b l a).snd
def xgI (b l a:LA):=(xgJ b l a).snd
def xgH (b l a:LA):=Iter (xcM a l (↑l.length:Int)) ((xgI b l a).fst,0,(xgI b l a).snd)
def xgG (b l a:LA):=(xgH b l a).getD (false,(0,0,[]),0,[])
def xgF (b l a:LA):=(xgG b l a).snd
def xgE (b l a:LA):=(xgF b l a).snd
def xgC (b l a:LA):=(xgE b l a).fst
def xgD (b l a:LA):=(xgE b l a).snd
def xlG {T:Type} (b l a:LA) (δ:T) (κ:Bool×(Int)×(LA×Int)->T):T:=br ((xgL b l a).isSome) (br ((xgK b l a).fst) (κ (true,((xgJ b l a).fst.fst),([],0))) (br ((xgH b l a).isSome) (br ((xgG b l a).fst) (κ (true,((xgF b l a).fst.fst),([],0))) (br (decide (0+xgC b l a<=(xgD b l a).length)&&true) (κ (false,0,(List.take (xgC b l a) (List.drop 0 (xgD b l a)),0))) δ)) δ)) δ
def xc9 (b l a:LA):Option (LA×Int):=xlG b l a none (fun (p:Bool×(Int)×(LA×Int))=>some (br p.1 (([],p.2.1)) p.2.2))
theorem xDf (b l a:LA):EncS (fun (p:LA×Int)=>(AV.tuple [AV.list 1 p.1,AV.int .i64 p.2]:AV)) (xc9 b l a) (XF P0 xe6 Tryz.f71 (Tryz.f71.body.getD .skip) [AV.list 1 b,AV.list 2 l,AV.list 1 a]):=by
 have h:XF P0 xe6 Tryz.f71 (Tryz.f71.body.getD .skip) [AV.list 1 b,AV.list 2 l,AV.list 1 a]=xlG b l a none (fun (p:Bool×(Int)×(LA×Int))=>some ((br p.1 (AV.tuple [AV.nils,AV.int .i64 p.2.1]) (AV.tuple [AV.list 1 p.2.2.1,AV.int .i64 p.2.2.2])):AV)):=by kernel_rfl
 rw [h];unfold xc9 xlG;repeat' (first|exact EncS.none|exact EncS.some (Sub.refl _)|exact EncS.some (xB9 _)|exact EncS.some (xCo _ _)|refine EncS.br ?_ ?_)
def xDe:LA->Option (Bool×AV):=ocOf (xT7 (xUo 1 xUa) (xT7 (xUo 2 xUa) (xT7 (xUo 1 xUa) xT9))) fun (b,(l,(a,_)))=>((xc9 b l a).isSome,(AV.tuple [AV.list 1 ((xc9 b l a).getD ([],0)).1,AV.int .i64 ((xc9 b l a).getD ([],0)).2]))
theorem xDd:OcOk P0 xT5 71 (xDe):=xm6 fun e j f=>by
 obtain ⟨g,⟨l,⟨c,_⟩⟩⟩:=e;obtain ⟨a,b⟩:=Prod.mk.inj f;obtain ⟨y,h,i⟩:=xDf _ _ _ _ (xcf (d:=([],0)) a);have hg:Good P0 xT5 71 _ _:=xdX (p:=xe6.pin) (xgd xTy (xTz P0 _) rfl xA3 Tryz.func71 rfl (by kernel_rfl) xAc h)
 rw [<-b];exact Good.sub hg i
def xQM:EO:=xCy.w xDd
def xwP {T:Type} (a b:LA) (δ:T) (κ:LA×LA->T):T:=br (decide ((0+a.length)*8<=140737488355328)&&decide (0+a.length<=4611686018427387904)) (br ((xov b).isSome) (br (decide (0+(0+a.length)<=([]++a).length)&&true&&true) (κ (List.take (0+a.length) (List.drop 0 ([]++a)),(xov b).getD [])) δ) δ) δ
def xvz (a b:LA):=xwP a b none some
def xBh:EO:=xQM.f Tryz.func72 11 0 [] [] lk0 (u2 (uL 1) (uL 1)) (fun (a,b,_) _=>xwP a b) (fun _ p=>AV.agg [AV.list 1 p.1,AV.list 1 p.2]) ([],[])
def xeh {T:Type} (a:List UInt8) (i:Int) (δ:T) (κl:(Int)->T) (κr:(Bool×(Bool)×(Unit))->T):T:=br (decide (i<a.length)) (br (decide (0<=i)&&decide (i<a.length)) (br (decide ((↑(a.getD i.toNat (0:UInt8)).toNat:Int)<32)) (κr (true,(false),())) (br (decide (0<=i)&&decide (i<a.length)) (br (decide ((↑(a.getD i.toNat (0:UInt8)).toNat:Int)>126)) (κr (true,(false),())) (κl (i64.wrap (i+1)))) δ)) δ) (κr (false,false,()))
def xba (a:List UInt8):StT (Int) (Bool×(Bool)×(Unit)):=fun (i)=>xeh a i none inL inR
def xt6:=xBh.l 20 0 [] [] Tryz.f127 0 lk0 [0,3] [2] [] (q2 pStr qI) xT8 (fun (a,i,_) _=>(xba a,(i),fun p=>(.node p.1 (.leaf .ret [AV.bool p.2.1] []) (.leaf (.exit 0) [.top] [])))) (false,false,()) fun (a,_,_) _ (i)=>(((a,i,()),()),xeh a i none)
def xr1 {T:Type} (a:List UInt8) (δ:T) (κ:Bool->T):T:=br ((Iter (xba a) 0).isSome) (br (((Iter (xba a) 0).getD (false,false,())).fst) (κ (((Iter (xba a) 0).getD (false,false,())).snd.fst)) (κ (true))) δ
def xpG (a:List UInt8):=xr1 a none some
def xQN:EO:=xBh.f Tryz.func127 20 0 [] [(2,xt6.lp)] (lk1 xt6.ok) (u1 (sEq pStr)) (fun (a,_) _=>xr1 a) (fun _ p=>AV.bool p) false
def xs4 {T:Type} (c a:Int) (b:List UInt8) (δ:T) (κ:Bool->T):T:=br (c==0) (br (a==0) (κ (b==[])) (κ (false))) (br (c==1) (br (b==[]) (br (decide (a>=(-1125899906842624))) (κ (decide (a<=1125899906842624))) (κ (false))) (κ (false))) (br (c==2) (br (a==0) (br (decide ((↑b.length:Int)<=200)) (br ((xpG b).isSome) (κ ((xpG b).getD false)) δ) (κ (false))) (κ (false))) (br (c==3) (br (b==[]) (br (a==0) (κ (true)) (κ (a==1))) (κ (false))) (κ (false)))))
def xoL (a b:Int) (c:List UInt8):=xs4 a b c none some
def xQO:EO:=xQN.f Tryz.func94 61 0 [] [] lk0 (u1 (xUp (u3 uI uI (sEq pStr)))) (fun ((a,b,c,_),_) _=>xs4 a b c) (fun _ p=>AV.bool p) false
def xyH {T:Type} (a b:Int) (c:List UInt8) (δ:T) (κ:Int×Int×List UInt8->T):T:=br ((xoL a b c).isSome) (br ((xoL a b c).getD false) (κ (a,b,c)) (κ (0,0,[]))) δ
def xsE (a b:Int) (c:List UInt8):=xyH a b c none some
def xQP:EO:=xQO.f Tryz.func151 7 0 [] [] lk0 (u1 (xUp (u3 uI uI (sEq pStr)))) (fun ((a,b,c,_),_) _=>xyH a b c) (fun _ p=>AV.agg [AV.int .i64 p.1,AV.int .i64 p.2.1,AV.str p.2.2]) (0,0,[])
def xAR {T:Type} (n:Int) (δ:T) (κ:Int×Int×List UInt8->T):T:=br ((xsE 1 n []).isSome) (κ (((xsE 1 n []).getD (0,0,[])).fst,((xsE 1 n []).getD (0,0,[])).snd.fst,((xsE 1 n []).getD (0,0,[])).snd.snd)) δ
def xd1 (n:Int):=xAR n none some
def xLW:EO:=xQP.f Tryz.func121 6 0 [] [] lk0 (u1 uI) (fun (n,_) _=>xAR n) (fun _ p=>AV.agg [AV.int .i64 p.1,AV.int .i64 p.2.1,AV.str p.2.2]) (0,0,[])
def xoi (a l:LA) (i:Int):=(xqG a (gC l i 0).toInt).getD (0,0,[])
def xoh (a l:LA) (i:Int):=(xoi a l i).snd
def xpH {T:Type} (c l:LA) (b:Nat) (i:Int) (a:LA) (δ:T) (κl:(Nat×Int×LA)->T) (κr:(Nat×LA)->T):T:=br (decide (i<l.length)) (br (ixI l i) (br (ixS l i (Sh.int .i64) 0) (br ((xqG c (gC l i 0).toInt).isSome) (br (rmB b a 1 32) (κl (b+1,i64.wrap (i+1),a++[AV.agg [AV.int .i64 (xoi c l i).fst,AV.int .i64 (xoh c l i).fst,AV.str (xoh c l i).snd]])) δ) δ) δ) δ) (κr (b,a))
def xfr (c l:LA):StT (Nat×Int×LA) (Nat×LA):=fun (b,i,a)=>xpH c l b i a none inL inR
def xzW:=xLW.l 24 0 [] [] Tryz.f54 0 lk0 [0,1,5,6] [5] [(5,3,76)] (q4 (qL 3) (qL 1) (xUk 0 0 0) qI) (q1 (qB 0 3 76 xUa)) (fun (c,l,b,i,_) (a,_)=>(xfr c l,(b,i,a),fun p=>(.leaf (.exit 0) [AV.osl 0 0 0 p.1] [bF 0 3 76 p.2]))) (0,[]) fun (c,l,_,_,_) _ (b,i,a)=>(((c,l,b,i,()),(a,())),xpH c l b i a none)
def xyL (a l:LA):=(Iter (xfr a l) (0,0,[])).getD (0,[])
def xyJ (a l:LA):=(xyL a l).snd
def xyK (a l:LA):=(xyL a l).fst
def xzX {T:Type} (a l:LA) (δ:T) (κ:LA->T):T:=br ((Iter (xfr a l) (0,0,[])).isSome) (br (decide (0+xyK a l<=(xyJ a l).length)&&true) (κ (List.take (xyK a l) (List.drop 0 (xyJ a l)))) δ) δ
def xzj (a l:LA):=xzX a l none some
def xLX:EO:=xLW.f Tryz.func54 24 0 [] [(3,xzW.lp)] (lk1 xzW.ok) (u2 (uL 3) (uL 1)) (fun (a,l,_) _=>xzX a l) (fun _ p=>AV.list 3 p) []
def xfc (a:LA) (i:Int):=ixI a i
def xgx (a:LA) (i:Int):=xoL (gC a i 0).toInt (gC a i 1).toInt (gC a i 2).toStr
def xf6 {T:Type} (a b:LA) (i:Int) (δ:T) (κl:(Int)->T) (κr:(Bool×(Bool)×(Unit))->T):T:=br (decide (i<a.length)) (br (xfc a i) (br (ixT a i 3 [Sh.int .i64,Sh.int .i64,Sh.str] 0) (br ((xgx a i).isSome) (br (!(xgx a i).getD false) (κr (true,(false),())) (br (xfc a i) (br (ixS a i (Sh.int .i64) 0) (br ((gC a i 0).toInt != 0) (br (xfc a i) (br (ixS a i (Sh.int .i64) 0) (br (ixI b i) (br (ixS b i (Sh.int .i64) 0) (br ((gC a i 0).toInt != (gC b i 0).toInt) (κr (true,(false),())) (κl (i64.wrap (i+1)))) δ) δ) δ) δ) (κl (i64.wrap (i+1)))) δ) δ)) δ) δ) δ) (κr (false,false,()))
def xbz (b a:LA):StT (Int) (Bool×(Bool)×(Unit)):=fun (i)=>xf6 b a i none inL inR
def xzT:=xLX.l 43 0 [] [] Tryz.f62 0 lk0 [0,1,5] [4] [] (q3 (qL 3) (qL 1) qI) xT8 (fun (b,a,i,_) _=>(xbz b a,(i),fun p=>(.node p.1 (.leaf .ret [AV.bool p.2.1] []) (.leaf (.exit 0) [.top] [])))) (false,false,()) fun (b,a,_,_) _ (i)=>(((b,a,i,()),()),xf6 b a i none)
def xzU {T:Type} (b a:LA) (δ:T) (κ:Bool->T):T:=br ((↑b.length:Int) != (↑a.length:Int)) (κ (false)) (br ((Iter (xbz b a) 0).isSome) (br (((Iter (xbz b a) 0).getD (false,false,())).fst) (κ (((Iter (xbz b a) 0).getD (false,false,())).snd.fst)) (κ (true))) δ)
def xzi (b a:LA):=xzU b a none some
def xQQ:EO:=xLX.f Tryz.func62 43 0 [] [(4,xzT.lp)] (lk1 xzT.ok) (u2 (uL 3) (uL 1)) (fun (b,a,_) _=>xzU b a) (fun _ p=>AV.bool p) false
def xBW (k:Int):Bool:=(br (k==1) ((true)) (br (k==2) ((true)) ((k==3))))
def xIo {T:Type} (k:Int) (δ:T) (κ:Bool->T):T:=br (k==1) (κ (true)) (br (k==2) (κ (true)) (κ (k==3)))
def xLY:EO:=xQQ.fT Tryz.func95 13 0 [] [] lk0 (fun (k,_)=>xIo k none) (u1 uI) (fun (k,_)=>xBW k) (fun _ p=>(AV.bool p))
def xj0 {T:Type} (l:LA) (i:Int) (δ:T) (κl:(Int)->T) (κr:(Bool×(Bool)×(Unit))->T):T:=br (decide (i<l.length)) (br (ixI l i) (br (ixS l i (Sh.int .i64) 0) (br (!xBW (gC l i 0).toInt) (κr (true,(false),())) (κl (i64.wrap (i+1)))) δ) δ) (κr (false,false,()))
def xb0 (l:LA):StT (Int) (Bool×(Bool)×(Unit)):=fun (i)=>xj0 l i none inL inR
def xy7:=xLY.l 16 0 [] [] Tryz.f63 0 lk0 [0,3] [2] [] (q2 (qL 1) qI) xT8 (fun (l,i,_) _=>(xb0 l,(i),fun p=>(.node p.1 (.leaf .ret [AV.bool p.2.1] []) (.leaf (.exit 0) [.top] [])))) (false,false,()) fun (l,_,_) _ (i)=>(((l,i,()),()),xj0 l i none)
def xyN {T:Type} (l:LA) (δ:T) (κ:Bool->T):T:=br ((Iter (xb0 l) 0).isSome) (br (((Iter (xb0 l) 0).getD (false,false,())).fst) (κ (((Iter (xb0 l) 0).getD (false,false,())).snd.fst)) (κ (true))) δ
def xAS (l:LA):=xyN l none some
def xCA:EO:=xLY.f Tryz.func63 16 0 [] [(2,xy7.lp)] (lk1 xy7.ok) (u1 (uL 1)) (fun (l,_) _=>xyN l) (fun _ p=>AV.bool p) false
def xkp (a:LA) (i:Int):=ixI a i
def xkq (a:LA) (i:Int):=decide (i.toNat<a.length)&&xTm (Sh.int .i64) (gC a i 0)
def xcD (a:LA) (i:Int):=(gC a i 0).toInt
def xk3 {T:Type} (c a l:LA) (d:Nat) (i:Int) (b:LA) (δ:T) (κl:(Nat×Int×LA)->T) (κr:(Bool×(Int×Nat×LA)×(Nat×LA))->T):T:=br (decide (i<a.length)) (br (xkp a i) (br (xkq a i) (br (decide (xcD a i<0)) (κr (true,(6,d,b),(0,[]))) (br (xkp a i) (br (xkq a i) (br (decide (xcD a i>=c.length)) (κr (true,(6,d,b),(0,[]))) (br (xkp a i) (br (xkq a i) (br (decide (0<=xcD a i)&&decide (xcD a i<c.length)) (br (decide ((xcD a i).toNat<c.length)&&xTm (Sh.int .i64) ((c.getD (xcD a i).toNat .top).cells.getD 0 .top)) (br (rmB d b 1 8) (κl (d+1,i64.wrap (i+1),b++[AV.int .i64 ((c.getD (xcD a i).toNat .top).cells.getD 0 .top).toInt])) δ) δ) δ) δ) δ)) δ) δ)) δ) δ) (κr (false,(0,0,[]),(d,b)))
def xdM (b d l:LA):StT (Nat×Int×LA) (Bool×(Int×Nat×LA)×(Nat×LA)):=fun (c,i,a)=>xk3 b d l c i a none inL inR
def xpq:=xCA.l 122 0 [] [] Tryz.f36 0 lk0 [0,1,2,8,9] [0,2,6,7,8] [(8,1,3)] (q5 (qL 1) (qL 1) (qL 2) (xUk 0 0 0) qI) (q1 (qB 0 1 3 xUa)) (fun (a,d,l,c,i,_) (b,_)=>(xdM a d l,(c,i,b),fun p=>(.node p.1 (.leaf .ret [AV.list 1 a,AV.list 2 l,AV.nils,AV.int .i64 p.2.1.1,AV.osl 0 0 0 p.2.1.2.1] [bF 0 1 3 p.2.1.2.2]) (.leaf (.exit 0) [AV.list 1 a,AV.list 2 l,.top,.top,AV.osl 0 0 0 p.2.2.1] [bF 0 1 3 p.2.2.2])))) (false,(0,0,[]),(0,[])) fun (a,d,l,_,_,_) _ (c,i,b)=>(((a,d,l,c,i,()),(b,())),xk3 a d l c i b none)
def xbx (l:LA) (i:Int):=(gC l i 0).toInt
def xbv (l:LA) (i:Int):=(gC l i 1).toInt
def xpr (a l:LA) (c:Nat) (i:Int) (b:LA):=decide (0<=xbv l i)&&decide (xbv l i<a.length)
def xps (a l:LA) (c:Nat) (i:Int) (b:LA):=decide ((xbv l i).toNat<a.length)&&xTm (Sh.int .i64) ((a.getD (xbv l i).toNat .top).cells.getD 0 .top)
def xv7 (a l:LA) (c:Nat) (i:Int) (b:LA):=decide (xbv l i>=a.length)
def xv8 (b l:LA) (c:Nat) (i:Int) (a:LA):=decide (xbv l i<0)
def xv9 (l:LA) (i:Int):=xbx l i==4
def xwa (l:LA) (i:Int):=xbx l i==3
def xwb (a l:LA) (i:Int):=((a.getD (xbv l i).toNat .top).cells.getD 0 .top).toInt != 1
def xwc (l:LA) (i:Int):=xbx l i==2
def xwd (l:LA) (i:Int):=xbv l i==(-1)
def xiQ {T:Type} (c l:LA) (b:Nat) (i:Int) (a:LA) (δ:T) (κl:(Nat×Int×LA)->T):T:=br (xpr c l b i a) (br (xps c l b i a) (br (rmB b a 1 8) (κl (b+1,i64.wrap (i+1),a++[AV.int .i64 ((c.getD (xbv l i).toNat .top).cells.getD 0 .top).toInt])) δ) δ) δ
def xiR {T:Type} (b:Nat) (i:Int) (a:LA) (δ:T) (κl:(Nat×Int×LA)->T):T:=br (rmB b a 1 8) (κl (b+1,i64.wrap (i+1),a++[AV.int .i64 1])) δ
def xiS {T:Type} (c l:LA) (b:Nat) (i:Int) (a:LA) (δ:T) (κl:(Nat×Int×LA)->T):T:=br (xwa l i) (xiQ c l b i a δ κl) (br (xv9 l i) (xiQ c l b i a δ κl) (xiR b i a δ κl))
def xiP {T:Type} (c l:LA) (b:Nat) (i:Int) (a:LA) (δ:T) (κl:(Nat×Int×LA)->T) (κr:(Bool×(Int×Nat×LA)×(Nat×LA))->T):T:=br (xv8 c l b i a) (κr (true,(6,b,a),(0,[]))) (br (xv7 c l b i a) (κr (true,(6,b,a),(0,[]))) (br (xwc l i) (br (xpr c l b i a) (br (xps c l b i a) (br (xwb c l i) (κr (true,(7,b,a),(0,[]))) (xiS c l b i a δ κl)) δ) δ) (xiS c l b i a δ κl)))
def xej {T:Type} (c l:LA) (b:Nat) (i:Int) (a:LA) (δ:T) (κl:(Nat×Int×LA)->T) (κr:(Bool×(Int×Nat×LA)×(Nat×LA))->T):T:=br (xwd l i) (br (xbx l i==1) (xiR b i a δ κl) (xiP c l b i a δ κl κr)) (xiP c l b i a δ κl κr)
def xk4 {T:Type} (c l:LA) (b:Nat) (i:Int) (a:LA) (δ:T) (κl:(Nat×Int×LA)->T) (κr:(Bool×(Int×Nat×LA)×(Nat×LA))->T):T:=br (decide (i<l.length)) (br (ixI l i) (br (ixT l i 2 [Sh.int .i64,Sh.int .i64] 0) (br (xbx l i != 1) (br (xbx l i != 2) (br (xbx l i != 3) (br (xbx l i != 4) (κr (true,(7,b,a),(0,[]))) (xej c l b i a δ κl κr)) (xej c l b i a δ κl κr)) (xej c l b i a δ κl κr)) (xej c l b i a δ κl κr)) δ) δ) (κr (false,(0,0,[]),(b,a)))
def xdN (b l:LA):StT (Nat×Int×LA) (Bool×(Int×Nat×LA)×(Nat×LA)):=fun (c,i,a)=>xk4 b l c i a none inL inR
def xv6:=xCA.l 122 0 [] [(3,xpq.lp)] Tryz.f36 1 lk0 [0,2,8,10] [6,7,8] [(8,1,3)] (q4 (qL 1) (qL 2) (xUk 0 0 0) qI) (q1 (qB 0 1 3 xUa)) (fun (b,l,c,i,_) (a,_)=>(xdN b l,(c,i,a),fun p=>(.node p.1 (.leaf .ret [AV.nils,AV.int .i64 p.2.1.1,AV.osl 0 0 0 p.2.1.2.1] [bF 0 1 3 p.2.1.2.2]) (.leaf (.exit 2) [.top,.top,AV.osl 0 0 0 p.2.2.1] [bF 0 1 3 p.2.2.2])))) (false,(0,0,[]),(0,[])) fun (b,l,_,_,_) _ (c,i,a)=>(((b,l,c,i,()),(a,())),xk4 b l c i a none)
def xg1:Env:=xCA.E.fn 122 0 (lsOf []) (xTL [(3,xpq.lp),(9,xv6.lp)])
theorem xCu:xTo P0 (xT5.at 0) xg1:=xCA.ok.fn
theorem xBr:LoOk P0 (xT5.at xg1.pin) xg1 (Tryz.f36.body.getD .skip):=xgT (ls:=[xTs Tryz.f36 0,xTs Tryz.f36 1]) (by kernel_rfl) (lkC xpq.ok (lkC xv6.ok lkN))
def xjx (a b l:LA):=Iter (xdM a b l) (0,0,[])
def xjZ (a b l:LA):=(xjx a b l).getD (false,(0,0,[]),0,[])
def xjY (a b l:LA):=(xjZ a b l).snd
def xjX (a b l:LA):=(xjY a b l).snd
def xjW (a b l:LA):=Iter (xdN a l) ((xjX a b l).fst,0,(xjX a b l).snd)
def xjV (a b l:LA):=(xjW a b l).getD (false,(0,0,[]),0,[])
def xjU (a b l:LA):=(xjV a b l).snd
def xjT (a b l:LA):=(xjU a b l).snd
def xjR (a b l:LA):=(xjT a b l).snd
def xjS (a b l:LA):=(xjT a b l).fst
def xpU {T:Type} (a b l:LA) (δ:T) (κ:Bool×(Int)×(LA×Int)->T):T:=br ((xjx a b l).isSome) (br ((xjZ a b l).fst) (κ (true,((xjY a b l).fst.fst),([],0))) (br ((xjW a b l).isSome) (br ((xjV a b l).fst) (κ (true,((xjU a b l).fst.fst),([],0))) (br (decide (0+xjS a b l<=(xjR a b l).length)&&true) (κ (false,0,(List.take (xjS a b l) (List.drop 0 (xjR a b l)),0))) δ)) δ)) δ
def xbk (a b l:LA):Option (LA×Int):=xpU a b l none (fun (p:Bool×(Int)×(LA×Int))=>some (br p.1 (([],p.2.1)) p.2.2))
theorem xFh (a b l:LA):EncS (fun (p:LA×Int)=>(AV.tuple [AV.list 1 p.1,AV.int .i64 p.2]:AV)) (xbk a b l) (XF P0 xg1 Tryz.f36 (Tryz.f36.body.getD .skip) [AV.list 1 a,AV.list 1 b,AV.list 2 l]):=by
 have h:XF P0 xg1 Tryz.f36 (Tryz.f36.body.getD .skip) [AV.list 1 a,AV.list 1 b,AV.list 2 l]=xpU a b l none (fun (p:Bool×(Int)×(LA×Int))=>some ((br p.1 (AV.tuple [AV.nils,AV.int .i64 p.2.1]) (AV.tuple [AV.list 1 p.2.2.1,AV.int .i64 p.2.2.2])):AV)):=by kernel_rfl
 rw [h];unfold xbk xpU;repeat' (first|exact EncS.none|exact EncS.some (Sub.refl _)|exact EncS.some (xB9 _)|exact EncS.some (xCo _ _)|refine EncS.br ?_ ?_)
def xFg:LA->Option (Bool×AV):=ocOf (xT7 (xUo 1 xUa) (xT7 (xUo 1 xUa) (xT7 (xUo 2 xUa) xT9))) fun (a,(b,(l,_)))=>((xbk a b l).isSome,(AV.tuple [AV.list 1 ((xbk a b l).getD ([],0)).1,AV.int .i64 ((xbk a b l).getD ([],0)).2]))
theorem xFf:OcOk P0 xT5 36 (xFg):=xm6 fun e j f=>by
 obtain ⟨c,⟨g,⟨l,_⟩⟩⟩:=e;obtain ⟨a,b⟩:=Prod.mk.inj f;obtain ⟨y,h,i⟩:=xFh _ _ _ _ (xcf (d:=([],0)) a);have hg:Good P0 xT5 36 _ _:=xdX (p:=xg1.pin) (xgd xTy (xTz P0 _) rfl xCu Tryz.func36 rfl (by kernel_rfl) xBr h)
 rw [<-b];exact Good.sub hg i
def xEC:EO:=xCA.w xFf
def xno (b:LA) (i c a:Int):=decide (0<=a)&&decide (a<(↑(gC b i 0).toList.length:Int))
def xnp (a:LA) (i c b:Int):=decide (b.toNat<(gC a i 0).toList.length)
def xb4 (a:LA) (i b:Int):=((gC a i 0).toList.getD b.toNat .top).cells
def xiM {T:Type} (a:LA) (h:Nat) (i c b e f:Int) (g:List UInt8) (d:LA) (δ:T) (κl:(Nat×Int×Int×Int×Int×Int×List UInt8×LA)->T) (κr:(Nat×Int×Int×Int×Int×List UInt8×LA)->T):T:=br (decide (i<a.length)) (br (ixI a i) (br (ixS a i (Sh.list 3) 0) (br (xno a i c b) (br (xnp a i c b&&xTm (Sh.int .i64) ((xb4 a i b).getD 0 .top)) (br (((xb4 a i b).getD 0 .top).toInt != 0) (br (ixI a i) (br (ixS a i (Sh.list 3) 0) (br (xno a i c b) (br (xnp a i c b&&((xb4 a i b).length==3&&xTt [Sh.int .i64,Sh.int .i64,Sh.str] (xb4 a i b) 0)) (br (rmB h d 1 32) (κl (h+1,i64.wrap (i+1),c,b,e,f,g,d++[AV.agg [AV.int .i64 ((xb4 a i b).getD 0 .top).toInt,AV.int .i64 ((xb4 a i b).getD 1 .top).toInt,AV.str ((xb4 a i b).getD 2 .top).toStr]])) δ) δ) δ) δ) δ) (κl (h,i64.wrap (i+1),c,b,e,f,g,d))) δ) δ) δ) δ) (κr (h,c,b,e,f,g,d))
def xcZ (a:LA):StT (Nat×Int×Int×Int×Int×Int×List UInt8×LA) (Nat×Int×Int×Int×Int×List UInt8×LA):=fun (f,i,g,h,b,c,d,e)=>xiM a f i g h b c d e none inL inR
def xhE:=xEC.l 135 0 [3000052] [] Tryz.f87 0 lk0 [0,3,4,5,6] [3,4,5] [(5,3,76)] (q5 (qL 1) (xUl 0 0 0 0) (xUl 1 0 0 0) (xUk 2 0 0) qI) (q3 (qB 0 2 74 (q1 (xUm (q2 qI qI)))) (qB 0 3 76 (q1 (xUm (q3 qI qI pStr)))) (qB 0 3 76 xUa)) (fun (a,_,_,f,i,_) (((g,h,_),_),((b,c,d,_),_),e,_)=>(xcZ a,(f,i,g,h,b,c,d,e),fun p=>(.leaf (.exit 0) [AV.own 0 0 0 0,AV.own 1 0 0 0,AV.osl 2 0 0 p.1] [bF 0 2 74 [AV.agg [AV.int .i64 p.2.1,AV.int .i64 p.2.2.1]],bF 0 3 76 [AV.agg [AV.int .i64 p.2.2.2.1,AV.int .i64 p.2.2.2.2.1,AV.str p.2.2.2.2.2.1]],bF 0 3 76 p.2.2.2.2.2.2]))) (0,0,0,0,0,[],[]) fun (a,_,_,_,_,_) _ (f,i,g,h,b,c,d,e)=>(((a,(),(),f,i,()),(((g,h,()),()),((b,c,d,()),()),e,())),xiM a f i g h b c d e none)
def xiN {T:Type} (l:LA) (a e i b c:Int) (d:List UInt8) (δ:T) (κl:(Int×Int×Int×Int×Int×List UInt8)->T) (κr:(Int×Int×Int×Int×List UInt8)->T):T:=br (decide (i<l.length)) (br (ixI l i) (br (ixS l i (Sh.int .i64) 1) (br (ixI l i) (br (ixS l i (Sh.int .i64) 1) (κl (i64.wrap (a+i64.wrap ((gC l i 1).toInt.tdiv 1048576)),i64.wrap (e+(gC l i 1).toInt.tmod 1048576),i64.wrap (i+1),b,c,d)) δ) δ) δ) δ) (κr (a,e,b,c,d))
def xcx (l:LA):StT (Int×Int×Int×Int×Int×List UInt8) (Int×Int×Int×Int×List UInt8):=fun (a,e,i,b,c,d)=>xiN l a e i b c d none inL inR
def xnq:=xEC.l 135 0 [3000052] [(5,xhE.lp)] Tryz.f87 1 lk0 [4,5,7,8,9] [4,7,8] [(5,3,76)] (q5 (xUl 0 0 0 0) (qL 3) qI qI qI) (q1 (qB 0 3 76 (q1 (xUm (q3 qI qI pStr))))) (fun (_,l,a,e,i,_) (((b,c,d,_),_),_)=>(xcx l,(a,e,i,b,c,d),fun p=>(.leaf (.exit 2) [AV.own 0 0 0 0,AV.int .i64 p.1,AV.int .i64 p.2.1] [bF 0 3 76 [AV.agg [AV.int .i64 p.2.2.1,AV.int .i64 p.2.2.2.1,AV.str p.2.2.2.2]]]))) (0,0,0,0,[]) fun (_,l,_,_,_,_) _ (a,e,i,b,c,d)=>((((),l,a,e,i,()),(((b,c,d,()),()),())),xiN l a e i b c d none)
def xnr (l:LA) (i:Int):=decide (i.toNat<l.length)&&((l.getD i.toNat .top).cells.length==3&&xTt [Sh.int .i64,Sh.int .i64,Sh.str] (l.getD i.toNat .top).cells 0)
def xns (l:LA) (i a b:Int) (c:List UInt8):=xid (gC l i 0).toInt (gC l i 1).toInt (gC l i 2).toStr a b c
def xhg {T:Type} (l:LA) (i d e a b:Int) (c:List UInt8) (δ:T) (κl:(Int×Int×Int×Int×Int×List UInt8×Int×Int×List UInt8)->T):T:=br (ixI l i) (br (xnr l i) (κl (i64.wrap (i+1),d,e,a,b,c,(gC l i 0).toInt,(gC l i 1).toInt,(gC l i 2).toStr)) δ) δ
def xhh {T:Type} (l:LA) (i g h d e:Int) (f:List UInt8) (a b:Int) (c:List UInt8) (δ:T) (κl:(Int×Int×Int×Int×Int×List UInt8×Int×Int×List UInt8)->T):T:=br (g==4) (br (decide (xns l i a b c>0)) (xhg l i g h d e f δ κl) (κl (i64.wrap (i+1),g,h,d,e,f,a,b,c))) (κl (i64.wrap (i+1),g,h,d,e,f,a,b,c))
def xiO {T:Type} (l:LA) (i g h d e:Int) (f:List UInt8) (a b:Int) (c:List UInt8) (δ:T) (κl:(Int×Int×Int×Int×Int×List UInt8×Int×Int×List UInt8)->T) (κr:(Int×Int×List UInt8×Int×Int×List UInt8)->T):T:=br (decide (i<l.length)) (br (ixI l i) (br (xnr l i) (br (g==3) (br (decide (xns l i a b c<0)) (xhg l i g h d e f δ κl) (xhh l i g h d e f a b c δ κl)) (xhh l i g h d e f a b c δ κl)) δ) δ) (κr (d,e,f,a,b,c))
def xc0 (l:LA):StT (Int×Int×Int×Int×Int×List UInt8×Int×Int×List UInt8) (Int×Int×List UInt8×Int×Int×List UInt8):=fun (i,g,h,d,e,f,a,b,c)=>xiO l i g h d e f a b c none inL inR
def xt7:=xEC.l 135 0 [3000052] [(5,xhE.lp),(16,xnq.lp)] Tryz.f87 2 lk0 [3,4,5,10,11] [4,10] [(5,3,76)] (q5 (xUl 0 0 0 0) (xUl 1 0 0 0) (qL 3) (xUl 2 0 0 0) qI) (q3 (qB 0 2 74 (q1 (xUm (q2 qI qI)))) (qB 0 3 76 (q1 (xUm (q3 qI qI pStr)))) (qB 0 3 76 (q1 (xUm (q3 qI qI pStr))))) (fun (_,_,l,_,i,_) (((g,h,_),_),((d,e,f,_),_),((a,b,c,_),_),_)=>(xc0 l,(i,g,h,d,e,f,a,b,c),fun p=>(.leaf (.exit 4) [AV.own 0 0 0 0,AV.own 1 0 0 0] [bF 0 3 76 [AV.agg [AV.int .i64 p.1,AV.int .i64 p.2.1,AV.str p.2.2.1]],bF 0 3 76 [AV.agg [AV.int .i64 p.2.2.2.1,AV.int .i64 p.2.2.2.2.1,AV.str p.2.2.2.2.2]]]))) (0,0,[],0,0,[]) fun (_,_,l,_,_,_) _ (i,g,h,d,e,f,a,b,c)=>((((),(),l,(),i,()),(((g,h,()),()),((d,e,f,()),()),((a,b,c,()),()),())),xiO l i g h d e f a b c none)
def xpp (b:LA) (c a:Int):=Iter (xcZ b) (0,0,c,a,0,0,[],[])
def xpo (b:LA) (c a:Int):=(xpp b c a).getD (0,0,0,0,0,[],[])
def xdq (b:LA) (c a:Int):=(xpo b c a).fst
def xpn (b:LA) (c a:Int):=(xpo b c a).snd
def xko (b:LA) (c a:Int):=(xpn b c a).fst
def xpm (b:LA) (c a:Int):=(xpn b c a).snd
def xpl (b:LA) (c a:Int):=(xpm b c a).snd
def xpj (b:LA) (c a:Int):=(xpl b c a).snd
def xpk (b:LA) (c a:Int):=(xpl b c a).fst
def xph (b:LA) (c a:Int):=(xpj b c a).snd
def xpi (b:LA) (c a:Int):=(xpj b c a).fst
def xpf (b:LA) (c a:Int):=(xph b c a).fst
def xpg (b:LA) (c a:Int):=(xph b c a).snd
def xd6 (b:LA) (c a:Int):=List.take (xdq b c a) (List.drop 0 (xpg b c a))
def xfs (b:LA) (c a:Int):=((xd6 b c a).getD 0 .top).cells
def xpe (b:LA) (c a:Int):=Iter (xcx (xd6 b c a)) (0,0,0,xpk b c a,xpi b c a,xpf b c a)
def xqK (b:LA) (c a:Int):=Iter (xc0 (xd6 b c a)) (1,xko b c a,(xpm b c a).fst,xpk b c a,xpi b c a,xpf b c a,((xfs b c a).getD 0 .top).toInt,((xfs b c a).getD 1 .top).toInt,((xfs b c a).getD 2 .top).toStr)
def xpd (b:LA) (c a:Int):=(xpe b c a).getD (0,0,0,0,[])
def xqJ (b:LA) (c a:Int):=((xqK b c a).getD (0,0,[],0,0,[])).snd.snd.snd
def xqO (b:LA) (c a:Int):=(xpd b c a).snd.fst
def xkZ (b:LA) (c a:Int):=i64.wrap ((xpd b c a).fst+i64.wrap ((xqO b c a).tdiv 1048576))
def xqI (b:LA) (c a:Int):=(xqJ b c a).snd
def xqN (b:LA) (c a:Int):=xd1 (i64.wrap (i64.wrap (xkZ b c a*1048576)+(xqO b c a).tmod 1048576))
def xqM (b:LA) (c a:Int):=(xqN b c a).getD (0,0,[])
def xqL (b:LA) (c a:Int):=(xqM b c a).snd
def xmv {T:Type} (b:LA) (c a:Int) (δ:T) (κ:Int×Int×List UInt8->T):T:=br (decide (a<0)) (br ((xd1 (↑b.length:Int)).isSome) (κ (((xd1 (↑b.length:Int)).getD (0,0,[])).fst,((xd1 (↑b.length:Int)).getD (0,0,[])).snd.fst,((xd1 (↑b.length:Int)).getD (0,0,[])).snd.snd)) δ) (br ((xpp b c a).isSome) (br (xko b c a==1) (br ((xd1 (↑(xdq b c a):Int)).isSome) (κ (((xd1 (↑(xdq b c a):Int)).getD (0,0,[])).fst,((xd1 (↑(xdq b c a):Int)).getD (0,0,[])).snd.fst,((xd1 (↑(xdq b c a):Int)).getD (0,0,[])).snd.snd)) δ) (br (decide (0+xdq b c a<=(xpg b c a).length)&&true) (br ((↑(xd6 b c a).length:Int)==0) (κ (0,0,[])) (br (xko b c a==2) (br ((xpe b c a).isSome) (br (decide (xkZ b c a>1099511627776)) (κ (0,0,[])) (br (decide (xkZ b c a<(-1099511627776))) (κ (0,0,[])) (br ((xqN b c a).isSome) (κ ((xqM b c a).fst,(xqL b c a).fst,(xqL b c a).snd)) δ))) δ) (br (decide (0<(↑(xd6 b c a).length:Int))) (br (decide (0<(xd6 b c a).length)&&((xfs b c a).length==3&&xTt [Sh.int .i64,Sh.int .i64,Sh.str] (xfs b c a) 0)) (br ((xqK b c a).isSome) (κ ((xqJ b c a).fst,(xqI b c a).fst,(xqI b c a).snd)) δ) δ) δ))) δ)) δ)
def xkY (b:LA) (c a:Int):=xmv b c a none some
def xJF:EO:=xEC.f Tryz.func87 135 0 [3000052] [(5,xhE.lp),(16,xnq.lp),(25,xt7.lp)] (lks (lkC xhE.ok (lkC xnq.ok (lkC xt7.ok lkN)))) (u2 (uL 1) (xUp (u2 uI uI))) (fun (b,(c,a,_),_) _=>xmv b c a) (fun _ p=>AV.agg [AV.int .i64 p.1,AV.int .i64 p.2.1,AV.str p.2.2]) (0,0,[])
def xuY (a l:LA) (k:Int):=(xkY a (gC l k 0).toInt (gC l k 1).toInt).getD (0,0,[])
def xuX (a l:LA) (k:Int):=(xuY a l k).snd
def xrP {T:Type} (b l:LA) (c:Nat) (k:Int) (a:LA) (δ:T) (κl:(Nat×Int×LA)->T) (κr:(Nat×LA)->T):T:=br (decide (k<l.length)) (br (ixI l k) (br (ixT l k 2 [Sh.int .i64,Sh.int .i64] 0) (br ((xkY b (gC l k 0).toInt (gC l k 1).toInt).isSome) (br (rmB c a 1 32) (κl (c+1,i64.wrap (k+1),a++[AV.agg [AV.int .i64 (xuY b l k).fst,AV.int .i64 (xuX b l k).fst,AV.str (xuX b l k).snd]])) δ) δ) δ) δ) (κr (c,a))
def xge (c l:LA):StT (Nat×Int×LA) (Nat×LA):=fun (b,k,a)=>xrP c l b k a none inL inR
def xAA:=xJF.l 28 0 [] [] Tryz.f56 0 lk0 [1,2,7,8] [7] [(7,3,76)] (q4 (qL 1) (qL 2) (xUk 0 0 0) qI) (q1 (qB 0 3 76 xUa)) (fun (c,l,b,k,_) (a,_)=>(xge c l,(b,k,a),fun p=>(.leaf (.exit 0) [AV.osl 0 0 0 p.1] [bF 0 3 76 p.2]))) (0,[]) fun (c,l,_,_,_) _ (b,k,a)=>(((c,l,b,k,()),(a,())),xrP c l b k a none)
def xz2 (a b l:LA):=Iter (xge b l) (0+a.length,0,[]++a)
def xz1 (b a l:LA):=(xz2 b a l).getD (0,[])
def xzx (b a l:LA):=(xz1 b a l).snd
def xz0 (b a l:LA):=(xz1 b a l).fst
def xAU {T:Type} (a b l:LA) (δ:T) (κ:LA->T):T:=br (decide ((0+a.length)*32<=140737488355328)&&decide (0+a.length<=4611686018427387904)) (br ((xz2 a b l).isSome) (br (decide (0+xz0 a b l<=(xzx a b l).length)&&true) (κ (List.take (xz0 a b l) (List.drop 0 (xzx a b l)))) δ) δ) δ
def xt9 (b a l:LA):=xAU b a l none some
def xBi:EO:=xJF.f Tryz.func56 28 0 [] [(3,xAA.lp)] (lk1 xAA.ok) (u3 (uL 3) (uL 1) (uL 2)) (fun (b,a,l,_) _=>xAU b a l) (fun _ p=>AV.list 3 p) []
def xje (d l e:LA) (f:Int) (a:Nat) (g:Int) (h i b c:LA):=decide ((↑a:Int)<(↑(a+1):Int))
def xhS (a b:LA) (c:Int):=xvA (List.take ((xdJ (gC b c 0).toList a).getD (0,[])).fst (List.drop 0 ((xdJ (gC b c 0).toList a).getD (0,[])).snd))
def xaZ (a:Nat):Nat:=0+(↑a:Int).toNat
def xjd (d l e:LA) (f:Int) (b:Nat) (g:Int) (h i c a:LA):=decide (xaZ b<(a++[AV.list 1 []]).length)
def xbR (a b:LA) (c:Int):=(xhS a b c).getD []
def xa5 (b:Nat) (a:LA):=(((a++[AV.list 1 []]).getD (xaZ b) .top).cells.getD 0 .top).toList.length
def xji (c:LA) (b:Nat) (d:Int) (a:LA):=(((a++[AV.list 1 []]).getD (xaZ b) .top).cells.getD 0 .top).toList++[AV.list 3 (gC c d 0).toList]
def xjf (c d:LA) (b:Nat) (e:Int) (a:LA):=decide (0<=(xTH (AV.int .i64 0) a (xbR c d e)).toInt)&&decide ((xTH (AV.int .i64 0) a (xbR c d e)).toInt<(↑b:Int))
def xaS (b c:LA) (d:Int) (a:LA):Nat:=0+(xTH (AV.int .i64 0) a (xbR b c d)).toInt.toNat
def xjh (a b:LA) (c:Int):=decide ((xbR a b c).length<=4611686018427387904)
def xeE (b:Nat) (a:LA):=(a++[AV.list 1 []]).set (xaZ b) (AV.int .i64 (↑(xa5 b a):Int))
def xjg (c d:LA) (e:Int) (a b:LA):=decide (xaS c d e a<b.length)
def xa2 (c d:LA) (e:Int) (a b:LA):=((b.getD (xaS c d e a) .top).cells.getD 0 .top).toList.length
def xhT (e c:LA) (d:Int) (a b:LA):=((b.getD (xaS e c d a) .top).cells.getD 0 .top).toList++[AV.list 3 (gC c d 0).toList]
def xdO (c d:LA) (e:Int) (a b:LA):=xa2 c d e a b+1
def xgA {T:Type} (d l f:LA) (i:Int) (c:Nat) (e:Int) (g h b a:LA) (δ:T) (κl:(Nat×Int×LA×LA×LA×LA)->T) (κr:(Nat×LA×LA×LA)->T):T:=br (decide (e<i)) (br (ixI f e) (br (ixS f e (Sh.list 3) 0) (br ((xdJ (gC f e 0).toList d).isSome) (br (decide (0+((xdJ (gC f e 0).toList d).getD (0,[])).fst<=((xdJ (gC f e 0).toList d).getD (0,[])).snd.length)&&true) (br ((xhS d f e).isSome) (br (xjh d f e&&xTm (Sh.int .i64) (xTH (AV.int .i64 0) b (xbR d f e))) (br (!xTT b (xbR d f e)) (br (decide (b.length<4611686018427387904)&&xjh d f e) (br (rmB c a 1 24) (br (xje d l f i c e g h b a) (br (xjd d l f i c e g h b a&&(xT3 1 (((a++[AV.list 1 []]).getD (xaZ c) .top).cells.getD 0 .top)&&((a++[AV.list 1 []]).getD (xaZ c) .top).cells.length==1)) (br (xjd d l f i c e g h b a&&(xT3 1 (((a++[AV.list 1 []]).getD (xaZ c) .top).cells.getD 0 .top)&&(((a++[AV.list 1 []]).getD (xaZ c) .top).cells.length==1&&(2*xa5 c a==2*xa5 c a&&(xa5 c a==xa5 c a&&(xa5 c a==xa5 c a&&(decide ((xa5 c a+1)*24<=140737488355328)&&decide (xa5 c a+1<=4611686018427387904)))))))) (br (xje d l f i c e g h b a) (br (decide (xaZ c<(xeE c a).length)&&(((xeE c a).getD (xaZ c) .top).cells.length==1&&(xa5 c a+1==(xji f c e a).length&&xUs (((xeE c a).getD (xaZ c) .top).cells.getD 0 .top) (xa5 c a+1)))) (κl (c+1,i64.wrap (e+1),g,h,xTF b (xbR d f e) (AV.int .i64 (↑c:Int)),(xeE c a).set (xaZ c) (AV.list 1 (xji f c e a)))) δ) δ) δ) δ) δ) δ) δ) (br (xjf d f c e b) (br (xjg d f e b a&&(xT3 1 ((a.getD (xaS d f e b) .top).cells.getD 0 .top)&&(a.getD (xaS d f e b) .top).cells.length==1)) (br (xjg d f e b a&&(xT3 1 ((a.getD (xaS d f e b) .top).cells.getD 0 .top)&&((a.getD (xaS d f e b) .top).cells.length==1&&(2*xa2 d f e b a==2*xa2 d f e b a&&(xa2 d f e b a==xa2 d f e b a&&(xa2 d f e b a==xa2 d f e b a&&(decide (xdO d f e b a*24<=140737488355328)&&decide (xdO d f e b a<=4611686018427387904)))))))) (br (xjf d f c e b) (br (decide (xaS d f e b<(a.set (xaS d f e b) (AV.int .i64 (↑(xa2 d f e b a):Int))).length)&&(((a.set (xaS d f e b) (AV.int .i64 (↑(xa2 d f e b a):Int))).getD (xaS d f e b) .top).cells.length==1&&(xdO d f e b a==(xhT d f e b a).length&&xUs (((a.set (xaS d f e b) (AV.int .i64 (↑(xa2 d f e b a):Int))).getD (xaS d f e b) .top).cells.getD 0 .top) (xdO d f e b a)))) (κl (c,i64.wrap (e+1),g,h,b,(a.set (xaS d f e b) (AV.int .i64 (↑(xa2 d f e b a):Int))).set (xaS d f e b) (AV.list 1 (xhT d f e b a)))) δ) δ) δ) δ) δ)) δ) δ) δ) δ) δ) δ) (κr (c,g,h,a))
def xbd (d l e:LA) (f:Int):StT (Nat×Int×LA×LA×LA×LA) (Nat×LA×LA×LA):=fun (c,g,h,i,a,b)=>xgA d l e f c g h i a b none inL inR
def xjc:=xBh.l 111 0 [57,2000068] [] Tryz.f43 0 lk0 [1,2,3,6,7,8,31,32,33] [1,2,3,6,8] [(8,1,244881293359)] (q9 (qL 1) (qL 2) (xUl 0 0 0 0) (xUl 1 0 0 0) (xUl 2 0 0 0) (xUk 3 0 0) (qL 1) qI qI) (q4 (qB 0 2 49 (q1 (xUm (q2 (qL 1) (qL 1))))) (qB 0 2 49 (q1 (xUm (q2 pNils pNils)))) (qB 0 2 1208925819615114573119488 xUa) (qB 0 1 244881293359 xUa)) (fun (d,l,_,_,_,c,e,f,g,_) (((h,i,_),_),((_,_,_),_),a,b,_)=>(xbd d l e f,(c,g,h,i,a,b),fun p=>(.leaf (.exit 0) [AV.list 1 d,AV.list 2 l,AV.own 0 0 0 0,AV.own 1 0 0 0,AV.osl 2 0 0 p.1] [bF 0 2 49 [AV.agg [AV.list 1 p.2.1,AV.list 1 p.2.2.1]],bF 0 2 49 [AV.agg [AV.nils,AV.nils]],bF 0 1 244881293359 p.2.2.2]))) (0,[],[],[]) fun (d,l,_,_,_,_,e,f,_,_) _ (c,g,h,i,a,b)=>(((d,l,(),(),(),c,e,f,g,()),(((h,i,()),()),(((),(),()),()),a,b,())),xgA d l e f c g h i a b none)
def xor (g a:LA) (b:Int):=(xht g (gC a b 0).toInt (gC a b 1).toInt).getD (0,0,[])
def xoq (g a:LA) (b:Int):=(xor g a b).snd
def xkt {T:Type} (k l:LA) (j:Nat) (g m:LA) (n o:Int) (b:LA) (i:Int) (d:Nat) (a:Int) (f h e c:LA) (δ:T) (κl:(Nat×Int×LA×LA×LA×LA)->T) (κr:(Nat×LA×LA×LA×LA)->T):T:=br (decide (a<i)) (br (ixI b a) (br (ixT b a 2 [Sh.int .i64,Sh.int .i64] 0) (br ((xht g (gC b a 0).toInt (gC b a 1).toInt).isSome) (br (rmB d c 1 32) (κl (d+1,i64.wrap (a+1),f,h,e,c++[AV.agg [AV.int .i64 (xor g b a).fst,AV.int .i64 (xoq g b a).fst,AV.str (xoq g b a).snd]])) δ) δ) δ) δ) (κr (d,f,h,e,c))
def xcw (e l:LA) (c:Nat) (g f:LA) (h i:Int) (j:LA) (k:Int):StT (Nat×Int×LA×LA×LA×LA) (Nat×LA×LA×LA×LA):=fun (d,m,n,o,a,b)=>xkt e l c g f h i j k d m n o a b none inL inR
def xjt:=xBh.l 111 0 [57,2000068] [(7,xjc.lp)] Tryz.f43 2 lk0 [1,2,3,6,14,16,17,68,69,70,82,83,84] [1,2,3,6,14,17,68,69,70] [(14,1,57),(17,3,76)] (xT6 (qL 1) (xT6 (qL 2) (xT6 (xUl 0 0 0 0) (q10 (xUl 1 0 0 0) (xUk 2 0 0) (qL 1) (xUk 3 0 0) (qL 1) qI qI (qL 2) qI qI)))) (q4 (qB 0 2 49 (q1 (xUm (q2 (qL 1) (qL 1))))) (qB 0 2 49 (q1 (xUm (q2 pNils pNils)))) (qB 0 1 57 xUa) (qB 0 3 76 xUa)) (fun (e,l,_,_,a,g,d,f,h,i,j,k,m,_) (((n,o,_),_),((_,_,_),_),b,c,_)=>(xcw e l a g f h i j k,(d,m,n,o,b,c),fun p=>(.leaf (.exit 4) [AV.list 1 e,AV.list 2 l,AV.own 0 0 0 0,AV.own 1 0 0 0,AV.osl 2 0 0 a,AV.osl 3 0 0 p.1,AV.list 1 f,AV.int .i64 h,AV.int .i64 i] [bF 0 2 49 [AV.agg [AV.list 1 p.2.1,AV.list 1 p.2.2.1]],bF 0 2 49 [AV.agg [AV.nils,AV.nils]],bF 0 1 57 p.2.2.2.1,bF 0 3 76 p.2.2.2.2]))) (0,[],[],[],[]) fun (e,l,_,_,a,g,_,f,h,i,j,k,_,_) _ (d,m,n,o,b,c)=>(((e,l,(),(),a,g,d,f,h,i,j,k,m,()),(((n,o,()),()),(((),(),()),()),b,c,())),xkt e l a g f h i j k d m n o b c none)
def xhZ (e l c:LA) (f:Int) (b:Nat) (d:Int) (g h a:LA):=Iter (xcw e l b (gC c d 0).toList c f d l (↑l.length:Int)) (0,0,g,h,a,[])
def xhx (a b:LA) (c:Int):=(xdJ (((gC b c 0).toList.getD 0 .top).cells.getD 0 .top).toList a).getD (0,[])
def xjq (a l b:LA) (f:Int) (e:Nat) (c:Int) (g h d:LA):=Iter (xcw a l e (gC b c 0).toList b f c l (↑l.length:Int)) ((xhx a b c).fst,0,g,h,d,(xhx a b c).snd)
def xhY (c l d:LA) (e:Int) (b:Nat) (f:Int) (g h a:LA):=(xhZ c l d e b f g h a).getD (0,[],[],[],[])
def xjp (c l d:LA) (e:Int) (b:Nat) (f:Int) (g h a:LA):=(xjq c l d e b f g h a).getD (0,[],[],[],[])
def xhW (c l d:LA) (e:Int) (b:Nat) (f:Int) (g h a:LA):=(xhY c l d e b f g h a).snd
def xhX (c l d:LA) (e:Int) (b:Nat) (f:Int) (g h a:LA):=(xhY c l d e b f g h a).fst
def xjn (c l d:LA) (e:Int) (b:Nat) (f:Int) (g h a:LA):=(xjp c l d e b f g h a).fst
def xjo (c l d:LA) (e:Int) (b:Nat) (f:Int) (g h a:LA):=(xjp c l d e b f g h a).snd
def xhV (c l d:LA) (e:Int) (b:Nat) (f:Int) (g h a:LA):=(xhW c l d e b f g h a).snd
def xjm (c l d:LA) (e:Int) (b:Nat) (f:Int) (g h a:LA):=(xjo c l d e b f g h a).snd
def xhU (c l d:LA) (e:Int) (b:Nat) (f:Int) (g h a:LA):=(xhV c l d e b f g h a).snd
def xjl (c l d:LA) (e:Int) (b:Nat) (f:Int) (g h a:LA):=(xjm c l d e b f g h a).snd
def xjr (c l d:LA) (e:Int) (b:Nat) (f:Int) (g h a:LA):=(xhU c l d e b f g h a).fst
def xjs (c l d:LA) (e:Int) (b:Nat) (f:Int) (g h a:LA):=(xhU c l d e b f g h a).snd
def xjj (c l d:LA) (e:Int) (b:Nat) (f:Int) (g h a:LA):=(xjl c l d e b f g h a).snd
def xjk (c l d:LA) (e:Int) (b:Nat) (f:Int) (g h a:LA):=(xjl c l d e b f g h a).fst
def xgB {T:Type} (c l e:LA) (f:Int) (a:Nat) (d:Int) (g h b:LA) (δ:T) (κl:(Nat×Int×LA×LA×LA)->T) (κr:(Nat×LA×LA×LA)->T):T:=br (decide (d<f)) (br (ixI e d) (br (ixS e d (Sh.list 1) 0) (br (decide ((↑c.length:Int)>0)) (br (decide (0<(↑(gC e d 0).toList.length:Int))) (br (decide (0<(gC e d 0).toList.length)&&xTm (Sh.list 3) (((gC e d 0).toList.getD 0 .top).cells.getD 0 .top)) (br ((xdJ (((gC e d 0).toList.getD 0 .top).cells.getD 0 .top).toList c).isSome) (br ((xjq c l e f a d g h b).isSome) (br (decide (0+xjn c l e f a d g h b<=(xjj c l e f a d g h b).length)&&true) (br (a==(xjk c l e f a d g h b).length&&(decide ((a+1)*24<=140737488355328)&&decide (a+1<=4611686018427387904))) (κl (a+1,i64.wrap (d+1),(xjo c l e f a d g h b).fst,(xjm c l e f a d g h b).fst,xjk c l e f a d g h b++[AV.list 3 (List.take (xjn c l e f a d g h b) (List.drop 0 (xjj c l e f a d g h b)))])) δ) δ) δ) δ) δ) δ) (br ((xhZ c l e f a d g h b).isSome) (br (decide (0+xhX c l e f a d g h b<=(xjs c l e f a d g h b).length)&&true) (br (a==(xjr c l e f a d g h b).length&&(decide ((a+1)*24<=140737488355328)&&decide (a+1<=4611686018427387904))) (κl (a+1,i64.wrap (d+1),(xhW c l e f a d g h b).fst,(xhV c l e f a d g h b).fst,xjr c l e f a d g h b++[AV.list 3 (List.take (xhX c l e f a d g h b) (List.drop 0 (xjs c l e f a d g h b)))])) δ) δ) δ)) δ) δ) (κr (a,g,h,b))
def xbw (c l d:LA) (e:Int):StT (Nat×Int×LA×LA×LA) (Nat×LA×LA×LA):=fun (b,f,g,h,a)=>xgB c l d e b f g h a none inL inR
def xvy:=xBh.l 111 0 [57,2000068] [(7,xjc.lp),(25,xjt.lp)] Tryz.f43 1 (lk1 xjt.ok) [1,2,3,6,14,68,69,70] [1,2,3,6,14] [(14,1,57)] (q8 (qL 1) (qL 2) (xUl 0 0 0 0) (xUl 1 0 0 0) (xUk 2 0 0) (qL 1) qI qI) (q3 (qB 0 2 49 (q1 (xUm (q2 (qL 1) (qL 1))))) (qB 0 2 49 (q1 (xUm (q2 pNils pNils)))) (qB 0 1 57 xUa)) (fun (c,l,_,_,b,d,e,f,_) (((g,h,_),_),((_,_,_),_),a,_)=>(xbw c l d e,(b,f,g,h,a),fun p=>(.leaf (.exit 2) [AV.list 1 c,AV.list 2 l,AV.own 0 0 0 0,AV.own 1 0 0 0,AV.osl 2 0 0 p.1] [bF 0 2 49 [AV.agg [AV.list 1 p.2.1,AV.list 1 p.2.2.1]],bF 0 2 49 [AV.agg [AV.nils,AV.nils]],bF 0 1 57 p.2.2.2]))) (0,[],[],[]) fun (c,l,_,_,_,d,e,_,_) _ (b,f,g,h,a)=>(((c,l,(),(),b,d,e,f,()),(((g,h,()),()),(((),(),()),()),a,())),xgB c l d e b f g h a none)
def xlE (c a b l:LA):=Iter (xbd b l a (↑a.length:Int)) (1,0,c,a,[AV.agg [AV.str [],AV.int .i64 0]],[AV.list 1 []])
def xlF (c a b l:LA):=Iter (xbd b l a (↑a.length:Int)) (0,0,c,a,[],[])
def xly (c a b l:LA):=(xlE c a b l).getD (0,[],[],[])
def xlD (c a b l:LA):=(xlF c a b l).getD (0,[],[],[])
def xlv (c a b l:LA):=(xly c a b l).snd
def xlw (c a b l:LA):=(xly c a b l).fst
def xlB (c a b l:LA):=(xlD c a b l).snd
def xlC (c a b l:LA):=(xlD c a b l).fst
def xlu (c a b l:LA):=(xlv c a b l).snd
def xlA (c a b l:LA):=(xlB c a b l).snd
def xlt (c a b l:LA):=(xlu c a b l).snd
def xlz (c a b l:LA):=(xlA c a b l).snd
def xhr (c a b l:LA):=List.take (xlw c a b l) (List.drop 0 (xlt c a b l))
def xhs (c a b l:LA):=List.take (xlC c a b l) (List.drop 0 (xlz c a b l))
def xmN (c b a l:LA):=Iter (xbw a l (xhr c b a l) (↑(xhr c b a l).length:Int)) (0,0,(xlv c b a l).fst,(xlu c b a l).fst,[])
def xls (c b a l:LA):=Iter (xbw a l (xhs c b a l) (↑(xhs c b a l).length:Int)) (0,0,(xlB c b a l).fst,(xlA c b a l).fst,[])
def xmM (c a b l:LA):=(xmN c a b l).getD (0,[],[],[])
def xlr (c a b l:LA):=(xls c a b l).getD (0,[],[],[])
def xmK (c a b l:LA):=(xmM c a b l).fst
def xmL (c a b l:LA):=(xmM c a b l).snd
def xlp (c a b l:LA):=(xlr c a b l).snd
def xlq (c a b l:LA):=(xlr c a b l).fst
def xmI (c a b l:LA):=(xmL c a b l).snd.snd
def xmJ (c b a l:LA):=xc9 a l (xmL c b a l).fst
def xln (c a b l:LA):=(xlp c a b l).snd.snd
def xlo (c b a l:LA):=xc9 a l (xlp c b a l).fst
def xmF (c a b l:LA):=xvz ((xmJ c a b l).getD ([],0)).fst (List.take (xmK c a b l) (List.drop 0 (xmI c a b l)))
def xmH (c a b l:LA):=xvz ((xlo c a b l).getD ([],0)).fst (List.take (xlq c a b l) (List.drop 0 (xln c a b l)))
def xmE (c a b l:LA):=(xmF c a b l).getD ([],[])
def xmG (c a b l:LA):=(xmH c a b l).getD ([],[])
def xtU {T:Type} (c b a l:LA) (δ:T) (κ:LA×LA->T):T:=br ((↑a.length:Int)==0) (br ((xlE c b a l).isSome) (br (decide (0+xlw c b a l<=(xlt c b a l).length)&&xTU 1 0 (xhr c b a l)&&true) (br ((xmN c b a l).isSome) (br ((xmJ c b a l).isSome) (br (decide (0+xmK c b a l<=(xmI c b a l).length)&&true) (br ((xmF c b a l).isSome) (κ ((xmE c b a l).fst,(xmE c b a l).snd)) δ) δ) δ) δ) δ) δ) (br ((xlF c b a l).isSome) (br (decide (0+xlC c b a l<=(xlz c b a l).length)&&xTU 1 0 (xhs c b a l)&&true) (br ((xls c b a l).isSome) (br ((xlo c b a l).isSome) (br (decide (0+xlq c b a l<=(xln c b a l).length)&&true) (br ((xmH c b a l).isSome) (κ ((xmG c b a l).fst,(xmG c b a l).snd)) δ) δ) δ) δ) δ) δ)
def xbV (c a b l:LA):=xtU c a b l none some
def xLU:EO:=xBh.f Tryz.func43 111 0 [57,2000068] [(7,xjc.lp),(25,xjt.lp),(19,xvy.lp)] (lks (lkC xjc.ok (lkC xvy.ok (lkC xjt.ok lkN)))) (u3 (xUp (u2 (uL 1) (uL 1))) (uL 1) (uL 2)) (fun ((c,a,_),b,l,_) _=>xtU c a b l) (fun _ p=>AV.agg [AV.list 1 p.1,AV.list 1 p.2]) ([],[])
def xft {T:Type} (a b:LA) (d:Nat) (c:LA) (δ:T) (κl:(LA×LA×Nat×LA)->T) (κr:(LA×LA×Nat×LA)->T):T:=br (decide ((↑a.length:Int)>0)) (br (decide ((↑b.length:Int)>0)) (br (decide (0<(↑b.length:Int))) (br (decide (0<b.length)&&xTm (Sh.list 3) ((b.getD 0 .top).cells.getD 0 .top)) (br (decide (0<(↑a.length:Int))) (br (decide (0<a.length)&&xTm (Sh.list 3) ((a.getD 0 .top).cells.getD 0 .top)) (br ((xbr ((b.getD 0 .top).cells.getD 0 .top).toList ((a.getD 0 .top).cells.getD 0 .top).toList).isSome) (br (decide ((xbr ((b.getD 0 .top).cells.getD 0 .top).toList ((a.getD 0 .top).cells.getD 0 .top).toList).getD 0<0)) (br (decide (0<(↑b.length:Int))) (br (decide (0<b.length)&&((b.getD 0 .top).cells.length==2&&xTt [Sh.list 3,Sh.list 3] (b.getD 0 .top).cells 0)) (br (rmB d c 1 48) (br (decide (1<=(↑b.length:Int))) (κl (a,List.take (b.length - 1) (List.drop 1 b),d+1,c++[AV.agg [AV.list 3 ((b.getD 0 .top).cells.getD 0 .top).toList,AV.list 3 ((b.getD 0 .top).cells.getD 1 .top).toList]])) δ) δ) δ) δ) (br (decide (0<(↑a.length:Int))) (br (decide (0<a.length)&&((a.getD 0 .top).cells.length==2&&xTt [Sh.list 3,Sh.list 3] (a.getD 0 .top).cells 0)) (br (rmB d c 1 48) (br (decide (1<=(↑a.length:Int))) (κl (List.take (a.length - 1) (List.drop 1 a),b,d+1,c++[AV.agg [AV.list 3 ((a.getD 0 .top).cells.getD 0 .top).toList,AV.list 3 ((a.getD 0 .top).cells.getD 1 .top).toList]])) δ) δ) δ) δ)) δ) δ) δ) δ) δ) (κr (a,b,d,c))) (κr (a,b,d,c))
def xb5:StT (LA×LA×Nat×LA) (LA×LA×Nat×LA):=fun (a,b,d,c)=>xft a b d c none inL inR
def xpu:=xBi.l 61 0 [98] [] Tryz.f55 0 lk0 [3,4,5] [3,4,5] [(5,2,98)] (q3 (qL 2) (qL 2) (xUk 0 0 0)) (q1 (qB 0 2 98 xUa)) (fun (a,b,d,_) (c,_)=>(xb5,(a,b,d,c),fun p=>(.leaf (.exit 0) [AV.list 2 p.1,AV.list 2 p.2.1,AV.osl 0 0 0 p.2.2.1] [bF 0 2 98 p.2.2.2]))) ([],[],0,[]) fun _ _ (a,b,d,c)=>(((a,b,d,()),(c,())),xft a b d c none)
def xqR (R:LA->Option (LA)):LA->Option (Bool×AV):=ocOf (xT7 (xUo 2 xUa) xT9) fun (l,_)=>((R l).isSome,AV.list 2 ((R l).getD []))
def xfd (R:LA->Option (LA)):Env:=(xBi.E.with 55 (xqR R)).fn 61 0 (lsOf [98]) (xTL [(5,xpu.lp)])
def xpt (R:LA->Option (LA)):Prop:=OcOk P0 xT5 55 (xqR R)
theorem xCv (R:LA->Option (LA)) (a:xpt R):xTo P0 (xT5.at 0) (xfd R):=(xBi.ok.with a).fn
theorem xBs (R:LA->Option (LA)):LoOk P0 (xT5.at (xfd R).pin) (xfd R) (Tryz.f55.body.getD .skip):=xgT (ls:=[xTs Tryz.f55 0]) (by kernel_rfl) (fun l b lp a=>by
 simp only [zC,List.not_mem_nil,or_false] at b;rcases b with rfl
 . rw [show (xfd R).lp (xTD (xTs Tryz.f55 0))=some xpu.lp by kernel_rfl] at a
   simp only [z6] at a;subst a;exact xpu.ok)
def xsj (l:LA):=decide (0<=i64.wrap ((↑l.length:Int).tdiv 2))&&decide (i64.wrap ((↑l.length:Int).tdiv 2)<=(↑l.length:Int))
def xsk (R:LA->Option (LA)) (l:LA):Option (LA):=R (List.take (l.length - (i64.wrap ((↑l.length:Int).tdiv 2)).toNat) (List.drop (i64.wrap ((↑l.length:Int).tdiv 2)).toNat l))
def xsi (R:LA->Option (LA)) (l:LA):Option (LA×LA×Nat×LA):=Iter xb5 ((R (List.take ((i64.wrap ((↑l.length:Int).tdiv 2)).toNat - 0) (List.drop 0 l))).getD [],(xsk R l).getD [],0,[])
def xsh (R:LA->Option (LA)) (l:LA):LA×LA×Nat×LA:=(xsi R l).getD ([],[],0,[])
def xtI (R:LA->Option (LA)) (l:LA):LA×Nat×LA:=(xsh R l).snd
def xtJ (R:LA->Option (LA)) (l:LA):LA:=(xsh R l).fst
def xtG (R:LA->Option (LA)) (l:LA):Nat×LA:=(xtI R l).snd
def xtH (R:LA->Option (LA)) (l:LA):LA:=(xtI R l).fst
def xtE (R:LA->Option (LA)) (l:LA):LA:=(xtG R l).snd
def xtF (R:LA->Option (LA)) (l:LA):Nat:=(xtG R l).fst
def xj2 (R:LA->Option (LA)) (l:LA):Nat:=xtF R l+(xtJ R l).length
def xtD (R:LA->Option (LA)) (l:LA):LA:=xtE R l++xtJ R l
def xj1 (R:LA->Option (LA)) (l:LA):Nat:=xj2 R l+(xtH R l).length
def xtC (R:LA->Option (LA)) (l:LA):LA:=xtD R l++xtH R l
def xhG {T:Type} (R:LA->Option (LA)) (l:LA) (δ:T) (κ:LA->T):T:=br (decide ((↑l.length:Int)<2)) (κ (l)) (br (xsj l&&true) (br ((R (List.take ((i64.wrap ((↑l.length:Int).tdiv 2)).toNat - 0) (List.drop 0 l))).isSome) (br (xsj l) (br ((xsk R l).isSome) (br ((xsi R l).isSome) (br (xtF R l==(xtE R l).length&&(decide (xj2 R l*48<=140737488355328)&&decide (xj2 R l<=4611686018427387904))) (br (xj2 R l==(xtD R l).length&&(decide (xj1 R l*48<=140737488355328)&&decide (xj1 R l<=4611686018427387904))) (br (decide (0+xj1 R l<=(xtC R l).length)&&true) (κ (List.take (xj1 R l) (List.drop 0 (xtC R l)))) δ) δ) δ) δ) δ) δ) δ) δ)
def xdc (R:LA->Option (LA)) (l:LA):=xhG R l none some
theorem xFk (R:LA->Option (LA)) (l:LA):Enc (fun (p:LA)=>((AV.list 2 p):AV)) (xdc R l) (XF P0 (xfd R) Tryz.f55 (Tryz.f55.body.getD .skip) [AV.list 2 l]):=by
 have h:XF P0 (xfd R) Tryz.f55 (Tryz.f55.body.getD .skip) [AV.list 2 l]=xhG R l none (fun (p:LA)=>some ((AV.list 2 p):AV)):=by kernel_rfl
 rw [h];unfold xdc xhG;repeat' (first|refine Enc.br ?_ ?_|exact Enc.none|exact Enc.some rfl)
def xFj (R:LA->Option (LA)):LA->Option (Bool×AV):=ocOf (xT7 (xUo 2 xUa) xT9) fun (l,_)=>((xdc R l).isSome,(AV.list 2 ((xdc R l).getD [])))
theorem xFi (R:LA->Option (LA)) (c:xpt R):OcOk P0 xT5 55 (xFj R):=xm6 fun e g f=>by
 obtain ⟨l,_⟩:=e;obtain ⟨a,b⟩:=Prod.mk.inj f;refine xdX (p:=(xfd R).pin) (xgd xTy (xTz P0 _) rfl (xCv R c) Tryz.func55 rfl (by kernel_rfl) (xBs R) ((xFk R _ _ (xcf (d:=[]) a)).trans ?_))
 exact congrArg some b
def xcm:Nat->LA->Option (LA)
 | 0=>fun _=>none
 | fu_+1=>fun l=>xdc (xcm fu_) l
theorem xyj:∀ n,xpt (xcm n)
 | 0=>xm6 fun _ _ h=>absurd (Prod.mk.inj h).1 Bool.false_ne_true
 | fu_+1=>fun a r h=>xFi (xcm fu_) (xyj fu_) a r h
def xLZ:Env:=xBi.E.with 55 (xqR (xcm 100))
theorem xLx:xTo P0 xT5 xLZ:=xBi.ok.with (xyj _)
def xAp:EO:=EO.mk xLZ xLx
def xoj {T:Type} (g l:LA) (d:Nat) (i:Int) (h a e:LA) (f:Nat) (b c:LA) (δ:T) (κl:(Nat×Int×LA×LA×LA×Nat×LA×LA)->T) (κr:(Nat×LA×Nat×LA×LA)->T):T:=br (decide (i<a.length)) (br (ixI a i) (br (ixS a i (Sh.list 3) 0) (br ((xzj (gC a i 0).toList g).isSome) (br (ixI a i) (br (ixS a i (Sh.list 3) 0) (br (rmB d b 1 48) (κl (d+1,i64.wrap (i+1),h,a,e,f,b++[AV.agg [AV.list 3 ((xzj (gC a i 0).toList g).getD []),AV.list 3 (gC a i 0).toList]],c)) δ) δ) δ) δ) δ) δ) (κr (d,e,f,b,c))
def xdr (f l:LA):StT (Nat×Int×LA×LA×LA×Nat×LA×LA) (Nat×LA×Nat×LA×LA):=fun (c,i,g,h,d,e,b,a)=>xoj f l c i g h d e b a none inL inR
def xmw:=xAp.l 116 0 [57,98] [] Tryz.f28 0 lk0 [1,2,3,6,9,10,11] [1,2,6,9,10] [(10,2,98),(9,1,57)] (q7 (qL 1) (qL 2) (xUl 0 0 0 0) (xUl 1 0 0 0) (xUl 2 0 0 0) (xUk 3 0 0) qI) (q5 (qB 0 2 49 (q1 (xUm (q2 (qL 1) (qL 1))))) (qB 0 2 49 (q1 (xUm (q2 pNils pNils)))) (xUn 0 2 49 false false (q1 (xUm (q2 (qL 1) (xUk 4 0 0))))) (qB 0 2 98 xUa) (qB 0 1 57 xUa)) (fun (f,l,_,_,_,c,i,_) (((g,h,_),_),((_,_,_),_),((d,e,_),_),b,a,_)=>(xdr f l,(c,i,g,h,d,e,b,a),fun p=>(.leaf (.exit 0) [AV.list 1 f,AV.list 2 l,AV.own 0 0 0 0,AV.own 1 0 0 0,AV.osl 2 0 0 p.1] [bF 0 2 49 [AV.agg [AV.nils,AV.nils]],⟨0,2,49,[AV.agg [AV.list 1 p.2.1,AV.osl 3 0 0 p.2.2.1]],false,false⟩,bF 0 2 98 p.2.2.2.1,bF 0 1 57 p.2.2.2.2]))) (0,[],0,[],[]) fun (f,l,_,_,_,_,_,_) _ (c,i,g,h,d,e,b,a)=>(((f,l,(),(),(),c,i,()),(((g,h,()),()),(((),(),()),()),((d,e,()),()),b,a,())),xoj f l c i g h d e b a none)
def xjQ {T:Type} (l a:LA) (i:Int) (c:Nat) (k:Int) (e:LA) (f:Nat) (b d:LA) (δ:T) (κl:(Nat×Int×LA×Nat×LA×LA)->T) (κr:(Nat×Int×LA×Nat×LA×LA)->T):T:=br (decide (k<a.length)) (br (ixI a k) (br (ixS a k (Sh.list 3) 0) (br (ixI a i) (br (ixS a i (Sh.list 3) 0) (br ((xl0 (gC a k 0).toList (gC a i 0).toList).isSome) (br ((xl0 (gC a k 0).toList (gC a i 0).toList).getD false) (br (ixI a k) (br (ixS a k (Sh.list 3) 1) (br (rmB c b 1 24) (κl (c+1,i64.wrap (k+1),e,f,b++[AV.list 3 (gC a k 1).toList],d)) δ) δ) δ) (κr (c,k,e,f,b,d))) δ) δ) δ) δ) δ) (κr (c,k,e,f,b,d))
def xds (l f:LA) (i:Int):StT (Nat×Int×LA×Nat×LA×LA) (Nat×Int×LA×Nat×LA×LA):=fun (c,k,d,e,a,b)=>xjQ l f i c k d e a b none inL inR
def xmz:=xAp.l 116 0 [57,98] [(5,xmw.lp)] Tryz.f28 2 lk0 [2,6,9,10,12,13,14] [2,6,9,10,12,13,14] [(10,2,98),(13,1,57),(9,1,57)] (q7 (qL 2) (xUl 0 0 0 0) (xUl 1 0 0 0) (qL 2) qI (xUk 2 0 0) qI) (q4 (qB 0 2 49 (q1 (xUm (q2 pNils pNils)))) (xUn 0 2 49 false false (q1 (xUm (q2 (qL 1) (xUk 3 0 0))))) (qB 0 1 57 xUa) (qB 0 1 57 xUa)) (fun (l,_,_,f,i,c,k,_) (((_,_,_),_),((d,e,_),_),a,b,_)=>(xds l f i,(c,k,d,e,a,b),fun p=>(.leaf (.exit 4) [AV.list 2 l,AV.own 0 0 0 0,AV.own 1 0 0 0,AV.list 2 f,AV.int .i64 i,AV.osl 2 0 0 p.1,AV.int .i64 p.2.1] [bF 0 2 49 [AV.agg [AV.nils,AV.nils]],⟨0,2,49,[AV.agg [AV.list 1 p.2.2.1,AV.osl 3 0 0 p.2.2.2.1]],false,false⟩,bF 0 1 57 p.2.2.2.2.1,bF 0 1 57 p.2.2.2.2.2]))) (0,0,[],0,[],[]) fun (l,_,_,f,i,_,_,_) _ (c,k,d,e,a,b)=>(((l,(),(),f,i,c,k,()),((((),(),()),()),((d,e,()),()),a,b,())),xjQ l f i c k d e a b none)
def xqQ (l d:LA) (i:Int) (b:LA) (c:Nat) (a:LA):=Iter (xds l d i) (0,i,b,c,[],a)
def xqP (l d:LA) (i:Int) (b:LA) (c:Nat) (a:LA):=(xqQ l d i b c a).getD (0,0,[],0,[],[])
def xse (l d:LA) (i:Int) (b:LA) (c:Nat) (a:LA):=(xqP l d i b c a).snd
def xsf (l d:LA) (i:Int) (b:LA) (c:Nat) (a:LA):=(xqP l d i b c a).fst
def xsd (l d:LA) (i:Int) (b:LA) (c:Nat) (a:LA):=(xse l d i b c a).snd
def xsc (l d:LA) (i:Int) (b:LA) (c:Nat) (a:LA):=(xsd l d i b c a).snd
def xsa (l d:LA) (i:Int) (b:LA) (c:Nat) (a:LA):=(xsc l d i b c a).fst
def xsb (l d:LA) (i:Int) (b:LA) (c:Nat) (a:LA):=(xsc l d i b c a).snd
def xmy (l d:LA) (i:Int) (b:LA) (c:Nat) (a:LA):=xsa l d i b c a+1
def xr8 (l d:LA) (i:Int) (b:LA) (c:Nat) (a:LA):=(xsb l d i b c a).snd
def xr9 (l d:LA) (i:Int) (b:LA) (c:Nat) (a:LA):=(xsb l d i b c a).fst
def xr7 (l d:LA) (i:Int) (b:LA) (c:Nat) (a:LA):=xt9 (gC d i 0).toList (List.take (xsf l d i b c a) (List.drop 0 (xr9 l d i b c a))) l
def xjP {T:Type} (l d:LA) (i:Int) (b:LA) (c:Nat) (a:LA) (δ:T) (κl:(Int×LA×Nat×LA)->T) (κr:(LA×Nat×LA)->T):T:=br (decide (i<d.length)) (br ((xqQ l d i b c a).isSome) (br (ixI d i) (br (ixS d i (Sh.list 3) 0) (br (decide (0+xsf l d i b c a<=(xr9 l d i b c a).length)&&true) (br ((xr7 l d i b c a).isSome) (br (xsa l d i b c a==(xr8 l d i b c a).length&&(decide (xmy l d i b c a*24<=140737488355328)&&decide (xmy l d i b c a<=4611686018427387904))) (κl ((xse l d i b c a).fst,(xsd l d i b c a).fst,xmy l d i b c a,xr8 l d i b c a++[AV.list 3 ((xr7 l d i b c a).getD [])])) δ) δ) δ) δ) δ) δ) (κr (b,c,a))
def xbZ (l d:LA):StT (Int×LA×Nat×LA) (LA×Nat×LA):=fun (i,b,c,a)=>xjP l d i b c a none inL inR
def xy6:=xAp.l 116 0 [57,98] [(5,xmw.lp),(15,xmz.lp)] Tryz.f28 1 (lk1 xmz.ok) [2,6,9,10,12] [6,9] [(10,2,98),(9,1,57)] (q5 (qL 2) (xUl 0 0 0 0) (xUl 1 0 0 0) (qL 2) qI) (q3 (qB 0 2 49 (q1 (xUm (q2 pNils pNils)))) (xUn 0 2 49 false false (q1 (xUm (q2 (qL 1) (xUk 2 0 0))))) (qB 0 1 57 xUa)) (fun (l,_,_,d,i,_) (((_,_,_),_),((b,c,_),_),a,_)=>(xbZ l d,(i,b,c,a),fun p=>(.leaf (.exit 2) [AV.own 0 0 0 0,AV.own 1 0 0 0] [bF 0 2 49 [AV.agg [AV.nils,AV.nils]],⟨0,2,49,[AV.agg [AV.list 1 p.1,AV.osl 2 0 0 p.2.1]],false,false⟩,bF 0 1 57 p.2.2]))) ([],0,[]) fun (l,_,_,d,_,_) _ (i,b,c,a)=>(((l,(),(),d,i,()),((((),(),()),()),((b,c,()),()),a,())),xjP l d i b c a none)
def xpT (b c a l:LA):=Iter (xdr a l) (0,0,b,c,((xbk b a l).getD ([],0)).fst,0,[],[])
def xpS (c a b l:LA):=(xpT c a b l).getD (0,[],0,[],[])
def xpQ (c a b l:LA):=(xpS c a b l).snd
def xpR (c a b l:LA):=(xpS c a b l).fst
def xpO (c a b l:LA):=(xpQ c a b l).snd
def xpP (c a b l:LA):=(xpQ c a b l).fst
def xk2 (c a b l:LA):=(xpO c a b l).fst
def xpN (c a b l:LA):=(xpO c a b l).snd
def xkx (c a b l:LA):=xk2 c a b l+1
def xk1 (c a b l:LA):=(xpN c a b l).snd
def xpM (c a b l:LA):=(xpN c a b l).fst
def xpL (c a b l:LA):=xcm 100 (List.take (xpR c a b l) (List.drop 0 (xpM c a b l)))
def xk0 (c a b l:LA):=(xpL c a b l).getD []
def xrL (c a b l:LA):=Iter (xbZ l (xk0 c a b l)) (0,xpP c a b l,xkx c a b l,xk1 c a b l++[AV.list 3 ((xt9 [] [] l).getD [])])
def xpK (c a b l:LA):=Iter (xbZ l (xk0 c a b l)) (0,xpP c a b l,xk2 c a b l,xk1 c a b l)
def xrK (c a b l:LA):=(xrL c a b l).getD ([],0,[])
def xpJ (c a b l:LA):=(xpK c a b l).getD ([],0,[])
def xrJ (c a b l:LA):=(xrK c a b l).snd
def xrO (c a b l:LA):=(xpJ c a b l).snd
def xrH (c a b l:LA):=(xrJ c a b l).fst
def xrI (c a b l:LA):=(xrJ c a b l).snd
def xrM (c a b l:LA):=(xrO c a b l).fst
def xrN (c a b l:LA):=(xrO c a b l).snd
def xrF (c a b l:LA):=xiL (List.take (xrH c a b l) (List.drop 0 (xrI c a b l)))
def xrG (c a b l:LA):=xiL (List.take (xrM c a b l) (List.drop 0 (xrN c a b l)))
def xpI {T:Type} (c a b l:LA) (δ:T) (κ:LA×LA->T):T:=br ((xpK c a b l).isSome) (br (decide (0+xrM c a b l<=(xrN c a b l).length)&&true) (br ((xrG c a b l).isSome) (κ ((xpJ c a b l).fst,(xrG c a b l).getD [])) δ) δ) δ
def xs5 {T:Type} (c b a l:LA) (δ:T) (κ:LA×LA->T):T:=br ((xbk c a l).isSome) (br ((xpT c b a l).isSome) (br (decide (0+xpR c b a l<=(xpM c b a l).length)&&true) (br ((xpL c b a l).isSome) (br ((↑(xk0 c b a l).length:Int)==0) (br ((↑a.length:Int)==0) (br ((xt9 [] [] l).isSome) (br (xk2 c b a l==(xk1 c b a l).length&&(decide (xkx c b a l*24<=140737488355328)&&decide (xkx c b a l<=4611686018427387904))) (br ((xrL c b a l).isSome) (br (decide (0+xrH c b a l<=(xrI c b a l).length)&&true) (br ((xrF c b a l).isSome) (κ ((xrK c b a l).fst,(xrF c b a l).getD [])) δ) δ) δ) δ) δ) (xpI c b a l δ κ)) (xpI c b a l δ κ)) δ) δ) δ) δ
def xfP (c a b l:LA):=xs5 c a b l none some
def xL0:EO:=xAp.f Tryz.func28 116 0 [57,98] [(5,xmw.lp),(15,xmz.lp),(12,xy6.lp)] (lks (lkC xmw.ok (lkC xy6.ok (lkC xmz.ok lkN)))) (u3 (xUp (u2 (uL 1) (uL 1))) (uL 1) (uL 2)) (fun ((c,a,_),b,l,_) _=>xs5 c a b l) (fun _ p=>AV.agg [AV.list 1 p.1,AV.list 1 p.2]) ([],[])
def xpC {T:Type} (k l:Int) (f:LA) (m d:Int) (g h i j:LA) (e c b:Nat) (a:LA) (δ:T) (κl:(Int×LA×LA×LA×LA×Nat×Nat×Nat×LA)->T) (κr:(LA×LA×LA×LA×Nat×Nat×LA×Nat)->T):T:=br (decide (d<m)) (br (ixI f d) (br (ixS f d (Sh.list 3) 0) (br (b==c&&(rmB e a 1 40)) (κl (i64.wrap (d+1),g,h,i,j,e+1,c+1,c+1,a++[AV.agg [AV.list 3 (gC f d 0).toList,AV.int .i64 k,AV.int .i64 l]])) δ) δ) δ) (κr (g,h,i,j,c,e,a,b))
def xdR (c d:Int) (k:LA) (l:Int):StT (Int×LA×LA×LA×LA×Nat×Nat×Nat×LA) (LA×LA×LA×LA×Nat×Nat×LA×Nat):=fun (m,e,f,g,h,i,j,a,b)=>xpC c d k l m e f g h i j a b none inL inR
def xzy:=xLU.l 30 5 [1000035,59] [] Tryz.f42 0 lk0 [5,6,17,18,19] [] [] (q5 (xUl 3 0 0 0) (pEptr 2 0 0 (q1 (xUm (q2 qI qI)))) (qL 1) qI qI) (q5 (qB 0 2 25 (q1 (xUm (q2 (qL 1) (qL 3))))) (qB 0 1 22 (q1 (qL 1))) (qB 0 1 26 (q1 (qL 2))) (xUn 0 1 23 false false (q1 (pOslV 4 0))) (pBoxV 3 59 false true xUa)) (fun (_,((c,d,_),_),k,m,n,_) (((e,f,_),_),(g,_),(h,_),((i,j),_),(a,b),_)=>(xdR c d k m,(n,e,f,g,h,j,i,a,b),fun p=>(.leaf (.exit 0) [] [bF 0 2 25 [AV.agg [AV.list 1 p.1,AV.list 3 p.2.1]],bF 0 1 22 [AV.list 1 p.2.2.1],bF 0 1 26 [AV.list 2 p.2.2.2.1],⟨0,1,23,[AV.osl 4 p.2.2.2.2.1 0 p.2.2.2.2.2.1],false,false⟩,bF p.2.2.2.2.2.2.2 3 59 p.2.2.2.2.2.2.1]))) ([],[],[],[],0,0,[],0) fun (_,((c,d,_),_),k,m,_,_) _ (n,e,f,g,h,j,i,a,b)=>((((),((c,d,()),()),k,m,n,()),(((e,f,()),()),(g,()),(h,()),((i,j),()),(a,b),())),xpC c d k m n e f g h j i a b none)
def xyA (f t:Int) (a b e c d:LA) (v n g:Nat) (h:LA):=Iter (xdR f t ((xbV b a c d).getD ([],[])).snd (↑((xbV b a c d).getD ([],[])).snd.length:Int)) (0,b,e,c,d,n,v,g,h)
def xyz (f t:Int) (a b c d e:LA) (v n g:Nat) (h:LA):=(xyA f t a b c d e v n g h).getD ([],[],[],[],0,0,[],0)
def xyy (f t:Int) (a b c d e:LA) (v n g:Nat) (h:LA):=(xyz f t a b c d e v n g h).snd
def xyw (f t:Int) (a b c d e:LA) (v n g:Nat) (h:LA):=(xyy f t a b c d e v n g h).snd
def xyv (f t:Int) (a b c d e:LA) (v n g:Nat) (h:LA):=(xyw f t a b c d e v n g h).snd
def xyu (f t:Int) (a b c d e:LA) (v n g:Nat) (h:LA):=(xyv f t a b c d e v n g h).snd
def xyt (f t:Int) (a b c d e:LA) (v n g:Nat) (h:LA):=(xyu f t a b c d e v n g h).snd
def xys (f t:Int) (a b c d e:LA) (v n g:Nat) (h:LA):=(xyt f t a b c d e v n g h).snd
def xzz {T:Type} (f t:Int) (a b e c d:LA) (v n g:Nat) (h:LA) (δ:T) (κ:LA×LA×LA×LA×Nat×Nat×LA×Nat->T):T:=br ((xbV b a c d).isSome) (br ((xyA f t a b e c d v n g h).isSome) (κ ((xyz f t a b e c d v n g h).fst,(xyy f t a b e c d v n g h).fst,(xyw f t a b e c d v n g h).fst,(xyv f t a b e c d v n g h).fst,(xyu f t a b e c d v n g h).fst,(xyt f t a b e c d v n g h).fst,(xys f t a b e c d v n g h).fst,(xys f t a b e c d v n g h).snd)) δ) δ
def xzc (f t:Int) (a b c d e:LA) (v n g:Nat) (h:LA):=xzz f t a b c d e v n g h none some
def xCz:EO:=xLU.fM Tryz.func42 30 5 [1000035,59] [(2,xzy.lp)] (lk1 xzy.ok) (u6 (xUp (u2 uI uI)) (uL 1) (sEq (xUl 0 0 0 0)) (sEq (xUl 1 0 0 0)) (sEq (xUl 2 0 0 0)) (sEq (xUl 3 0 0 0))) (q5 (qB 0 2 25 (q1 (xUm (q2 (qL 1) (qL 3))))) (qB 0 1 22 (q1 (qL 1))) (qB 0 1 26 (q1 (qL 2))) (xUn 0 1 23 false false (q1 (pOslV 4 0))) (pBoxV 3 (59:TypeId) false true xUa)) (fun ((f,t,_),a,_,_,_,_,_) (((b,c,_),_),(d,_),(e,_),((v,n),_),(g,h),_) _=>xzz f t a b c d e v n g h) (fun _ _ p=>(AV.tuple [],([bF 0 2 25 [AV.agg [AV.list 1 p.1,AV.list 3 p.2.1]],bF 0 1 22 [AV.list 1 p.2.2.1],bF 0 1 26 [AV.list 2 p.2.2.2.1],⟨0,1,23,[AV.osl 4 p.2.2.2.2.1 0 p.2.2.2.2.2.1],false,false⟩,bF p.2.2.2.2.2.2.2 3 59 p.2.2.2.2.2.2.1]:List Box))) ([],[],[],[],0,0,[],0)
def xfG (l c e:LA) (d:Int) (f g h i:LA) (j k a:Nat) (b:LA):=xzc (gC e d 0).toInt ((c.getD (i64.wrap (d+1)).toNat .top).cells.getD 0 .top).toInt ((xe7 l (gC e d 0).toInt).getD []) f g h i k j a b
def xfH (l c:LA) (d:Int) (e f g h:LA) (i j a:Nat) (b:LA):=xzc (gC c d 0).toInt 1099511627776 ((xe7 l (gC c d 0).toInt).getD []) e f g h j i a b
def xfI (a:LA) (b:Int):=decide (i64.wrap (b+1)<(↑a.length:Int))
def xfD (l c j:LA) (k:Int) (d e f g:LA) (h i a:Nat) (b:LA):=(xfG l c j k d e f g h i a b).getD ([],[],[],[],0,0,[],0)
def xfF (l i:LA) (j:Int) (c d e f:LA) (g h a:Nat) (b:LA):=(xfH l i j c d e f g h a b).getD ([],[],[],[],0,0,[],0)
def xf0 (l c j:LA) (k:Int) (d e f g:LA) (h i a:Nat) (b:LA):=(xfD l c j k d e f g h i a b).snd
def xfE (l i:LA) (j:Int) (c d e f:LA) (g h a:Nat) (b:LA):=(xfF l i j c d e f g h a b).snd
def xfZ (l c j:LA) (k:Int) (d e f g:LA) (h i a:Nat) (b:LA):=(xf0 l c j k d e f g h i a b).snd
def xfC (l i:LA) (j:Int) (c d e f:LA) (g h a:Nat) (b:LA):=(xfE l i j c d e f g h a b).snd
def xfV (l c j:LA) (k:Int) (d e f g:LA) (h i a:Nat) (b:LA):=(xfZ l c j k d e f g h i a b).snd
def xfx (l i:LA) (j:Int) (c d e f:LA) (g h a:Nat) (b:LA):=(xfC l i j c d e f g h a b).snd
def xfU (l c j:LA) (k:Int) (d e f g:LA) (h i a:Nat) (b:LA):=(xfV l c j k d e f g h i a b).snd
def xfY (l i:LA) (j:Int) (c d e f:LA) (g h a:Nat) (b:LA):=(xfx l i j c d e f g h a b).snd
def xfT (l c j:LA) (k:Int) (d e f g:LA) (h i a:Nat) (b:LA):=(xfU l c j k d e f g h i a b).snd
def xfX (l i:LA) (j:Int) (c d e f:LA) (g h a:Nat) (b:LA):=(xfY l i j c d e f g h a b).snd
def xfS (l c j:LA) (k:Int) (d e f g:LA) (h i a:Nat) (b:LA):=(xfT l c j k d e f g h i a b).snd
def xfW (l i:LA) (j:Int) (c d e f:LA) (g h a:Nat) (b:LA):=(xfX l i j c d e f g h a b).snd
def xeI {T:Type} (l d k:LA) (m c:Int) (e f g h:LA) (i j a:Nat) (b:LA) (δ:T) (κl:(Int×LA×LA×LA×LA×Nat×Nat×Nat×LA)->T) (κr:(LA×LA×LA×LA×Nat×Nat×LA×Nat)->T):T:=br (decide (c<m)) (br (ixI k c) (br (ixS k c (Sh.int .i64) 0) (br (xfI d c) (br (decide (0<=i64.wrap (c+1))&&xfI d c) (br (decide ((i64.wrap (c+1)).toNat<d.length)&&xTm (Sh.int .i64) ((d.getD (i64.wrap (c+1)).toNat .top).cells.getD 0 .top)) (br ((xe7 l (gC k c 0).toInt).isSome) (br ((xfG l d k c e f g h i j a b).isSome) (κl (i64.wrap (c+1),(xfD l d k c e f g h i j a b).fst,(xf0 l d k c e f g h i j a b).fst,(xfZ l d k c e f g h i j a b).fst,(xfV l d k c e f g h i j a b).fst,(xfT l d k c e f g h i j a b).fst,(xfU l d k c e f g h i j a b).fst,(xfS l d k c e f g h i j a b).snd,(xfS l d k c e f g h i j a b).fst)) δ) δ) δ) δ) (br ((xe7 l (gC k c 0).toInt).isSome) (br ((xfH l k c e f g h i j a b).isSome) (κl (i64.wrap (c+1),(xfF l k c e f g h i j a b).fst,(xfE l k c e f g h i j a b).fst,(xfC l k c e f g h i j a b).fst,(xfx l k c e f g h i j a b).fst,(xfX l k c e f g h i j a b).fst,(xfY l k c e f g h i j a b).fst,(xfW l k c e f g h i j a b).snd,(xfW l k c e f g h i j a b).fst)) δ) δ)) δ) δ) (κr (e,f,g,h,j,i,b,a))
def xbJ (l c j:LA) (k:Int):StT (Int×LA×LA×LA×LA×Nat×Nat×Nat×LA) (LA×LA×LA×LA×Nat×Nat×LA×Nat):=fun (m,d,e,f,g,h,i,a,b)=>xeI l c j k m d e f g h i a b none inL inR
def xp9:=xCz.l 36 5 [] [] Tryz.f41 0 lk0 [0,1,4,10,11,12] [] [] (q6 (qL 3) (xTM 42 (q4 (xUl 0 0 0 0) (xUl 1 0 0 0) (xUl 2 0 0 0) (xUl 3 0 0 0))) (qL 1) (qL 1) qI qI) (q5 (qB 0 2 25 (q1 (xUm (q2 (qL 1) (qL 3))))) (qB 0 1 22 (q1 (qL 1))) (qB 0 1 26 (q1 (qL 2))) (xUn 0 1 23 false false (q1 (pOslV 4 0))) (pBoxV 3 59 false true xUa)) (fun (l,(_,_,_,_,_),c,j,k,m,_) (((d,e,_),_),(f,_),(g,_),((h,i),_),(a,b),_)=>(xbJ l c j k,(m,d,e,f,g,i,h,a,b),fun p=>(.leaf (.exit 0) [] [bF 0 2 25 [AV.agg [AV.list 1 p.1,AV.list 3 p.2.1]],bF 0 1 22 [AV.list 1 p.2.2.1],bF 0 1 26 [AV.list 2 p.2.2.2.1],⟨0,1,23,[AV.osl 4 p.2.2.2.2.1 0 p.2.2.2.2.2.1],false,false⟩,bF p.2.2.2.2.2.2.2 3 59 p.2.2.2.2.2.2.1]))) ([],[],[],[],0,0,[],0) fun (l,(_,_,_,_,_),c,j,k,_,_) _ (m,d,e,f,g,i,h,a,b)=>(((l,((),(),(),(),()),c,j,k,m,()),(((d,e,()),()),(f,()),(g,()),((h,i),()),(a,b),())),xeI l c j k m d e f g i h a b none)
def xdL:Env:=xCz.E.fn 36 5 (lsOf []) (xTL [(2,xp9.lp)])
theorem xzA:xTo P0 (xT5.at 5) xdL:=xCz.ok.fn
theorem xyB:LoOk P0 (xT5.at xdL.pin) xdL (Tryz.f41.body.getD .skip):=xgT (ls:=[xTs Tryz.f41 0]) (by kernel_rfl) (lkC xp9.ok lkN)
def xm4 (l a b c d:LA) (v n e:Nat) (f:LA):=Iter (xbJ l ((xhw l).getD []) ((xhw l).getD []) (↑((xhw l).getD []).length:Int)) (0,a,b,c,d,n,v,e,f)
def xm3 (l a b c d:LA) (v n e:Nat) (f:LA):=(xm4 l a b c d v n e f).getD ([],[],[],[],0,0,[],0)
def xm2 (l a b c d:LA) (v n e:Nat) (f:LA):=(xm3 l a b c d v n e f).snd
def xm1 (l a b c d:LA) (v n e:Nat) (f:LA):=(xm2 l a b c d v n e f).snd
def xm0 (l a b c d:LA) (v n e:Nat) (f:LA):=(xm1 l a b c d v n e f).snd
def xmx (l a b c d:LA) (v n e:Nat) (f:LA):=(xm0 l a b c d v n e f).snd
def xmZ (l a b c d:LA) (v n e:Nat) (f:LA):=(xmx l a b c d v n e f).snd
def xmY (l a b c d:LA) (v n e:Nat) (f:LA):=(xmZ l a b c d v n e f).snd
def xir {T:Type} (l a b c d:LA) (v n e:Nat) (f:LA) (δ:T) (κ:LA×LA×LA×LA×Nat×Nat×LA×Nat->T):T:=br ((xhw l).isSome) (br ((xm4 l a b c d v n e f).isSome) (κ ((xm3 l a b c d v n e f).fst,(xm2 l a b c d v n e f).fst,(xm1 l a b c d v n e f).fst,(xm0 l a b c d v n e f).fst,(xmx l a b c d v n e f).fst,(xmZ l a b c d v n e f).fst,(xmY l a b c d v n e f).fst,(xmY l a b c d v n e f).snd)) δ) δ
def xfk (l a b c d:LA) (v n e:Nat) (f:LA):=xir l a b c d v n e f none some
theorem xBK (l a b c d:LA) (v n e:Nat) (xs:LA):Enc (fun (p:LA×LA×LA×LA×Nat×Nat×LA×Nat)=>(((AV.tuple [],([⟨0,2,25,[AV.agg [AV.list 1 p.1,AV.list 3 p.2.1]],false,true⟩,⟨0,1,22,[AV.list 1 p.2.2.1],false,true⟩,⟨0,1,26,[AV.list 2 p.2.2.2.1],false,true⟩,⟨0,1,23,[AV.osl 4 p.2.2.2.2.1 0 p.2.2.2.2.2.1],false,false⟩,⟨p.2.2.2.2.2.2.2,3,59,p.2.2.2.2.2.2.1,false,true⟩]:List Box))):(AV×List Box))) (xfk l a b c d v n e xs) (XFM P0 xdL Tryz.f41 (Tryz.f41.body.getD .skip) [AV.list 3 l,AV.func (42:FuncId) [AV.own (0:Id) 0 0 0,AV.own (1:Id) 0 0 0,AV.own (2:Id) 0 0 0,AV.own (3:Id) 0 0 0]] [{ ver:=0,sz:=2,ty:=(25:TypeId),xs:=[AV.agg [AV.list 1 a,AV.list 3 b]],frz:=false,pm:=true },{ ver:=0,sz:=1,ty:=(22:TypeId),xs:=[AV.list 1 c],frz:=false,pm:=true },{ ver:=0,sz:=1,ty:=(26:TypeId),xs:=[AV.list 2 d],frz:=false,pm:=true },{ ver:=0,sz:=1,ty:=(23:TypeId),xs:=[AV.osl (4:Id) v 0 n],frz:=false,pm:=false },{ ver:=e,sz:=3,ty:=(59:TypeId),xs:=xs,frz:=false,pm:=true }]):=by
 have h:XFM P0 xdL Tryz.f41 (Tryz.f41.body.getD .skip) [AV.list 3 l,AV.func (42:FuncId) [AV.own (0:Id) 0 0 0,AV.own (1:Id) 0 0 0,AV.own (2:Id) 0 0 0,AV.own (3:Id) 0 0 0]] [{ ver:=0,sz:=2,ty:=(25:TypeId),xs:=[AV.agg [AV.list 1 a,AV.list 3 b]],frz:=false,pm:=true },{ ver:=0,sz:=1,ty:=(22:TypeId),xs:=[AV.list 1 c],frz:=false,pm:=true },{ ver:=0,sz:=1,ty:=(26:TypeId),xs:=[AV.list 2 d],frz:=false,pm:=true },{ ver:=0,sz:=1,ty:=(23:TypeId),xs:=[AV.osl (4:Id) v 0 n],frz:=false,pm:=false },{ ver:=e,sz:=3,ty:=(59:TypeId),xs:=xs,frz:=false,pm:=true }]=xir l a b c d v n e xs none (fun (p:LA×LA×LA×LA×Nat×Nat×LA×Nat)=>some (((AV.tuple [],([⟨0,2,25,[AV.agg [AV.list 1 p.1,AV.list 3 p.2.1]],false,true⟩,⟨0,1,22,[AV.list 1 p.2.2.1],false,true⟩,⟨0,1,26,[AV.list 2 p.2.2.2.1],false,true⟩,⟨0,1,23,[AV.osl 4 p.2.2.2.2.1 0 p.2.2.2.2.2.1],false,false⟩,⟨p.2.2.2.2.2.2.2,3,59,p.2.2.2.2.2.2.1,false,true⟩]:List Box))):(AV×List Box))):=by kernel_rfl
 rw [h];unfold xfk xir;repeat' (first|refine Enc.br ?_ ?_|exact Enc.none|exact Enc.some rfl)
end Go.Sim.M
end
noncomputable section
set_option maxRecDepth 100000
namespace Go.Sim
open Go.RowKit
namespace M
open Go.Proofs
noncomputable def gset (l kd fs ks ag:List AV) (n:Nat) (xs:List AV):Option (List AV×List AV×List AV×List AV×Nat×List AV):=(xfk l kd fs ks ag 0 n 0 xs).bind fun p =>
 br (Nat.beq p.2.2.2.2.1 p.2.2.2.2.2.2.2) (some (p.1,p.2.1,p.2.2.1,p.2.2.2.1,p.2.2.2.2.2.1,p.2.2.2.2.2.2.1)) none
noncomputable def xMG:List AV->List Box->Option (Bool×AV×List Box):=omOf (xT7 (xUo 3 xUa) (xT7 (sEq (xTM 42 (xT6 (xUl 0 0 0 0) (xT6 (xUl 1 0 0 0) (xT6 (xUl 2 0 0 0) (xT6 (xUl 3 0 0 0) xT8)))))) xT9))
 (xT6 (xUn 0 2 25 false true (xT6 (xUm (xT6 (xUq 1 xUa) (xT6 (xUq 3 xUa) xT8))) xT8)) (xT6 (xUn 0 1 22 false true (xT6 (xUq 1 xUa) xT8)) (xT6 (xUn 0 1 26 false true (xT6 (xUq 2 xUa) xT8)) (xT6 (xUn 0 1 23 false false (xT6 (xUk 4 0 0) xT8)) (xT6 (xUn 0 3 59 false true xUa) xT8)))))
 fun (l,((_,(_,(_,(_,_)))),_)) (((kd,(fs,_)),_),((ks,_),((ag,_),((n,_),(xs,_)))))=>((gset l kd fs ks ag n xs).isSome,(.tuple [],[⟨0,2,25,[.agg [.list 1 ((gset l kd fs ks ag n xs).getD ([],[],[],[],0,[])).1,.list 3 ((gset l kd fs ks ag n xs).getD ([],[],[],[],0,[])).2.1]],false,true⟩,⟨0,1,22,[.list 1 ((gset l kd fs ks ag n xs).getD ([],[],[],[],0,[])).2.2.1],false,true⟩,⟨0,1,26,[.list 2 ((gset l kd fs ks ag n xs).getD ([],[],[],[],0,[])).2.2.2.1],false,true⟩,⟨0,1,23,[.osl (.b 4) 1 0 ((gset l kd fs ks ag n xs).getD ([],[],[],[],0,[])).2.2.2.2.1],false,false⟩,⟨1,3,59,((gset l kd fs ks ag n xs).getD ([],[],[],[],0,[])).2.2.2.2.2,false,true⟩]))
theorem xRc:OmOk P0 xT5 41 xMG:=xrA fun vv bb rr W hh=>by
 obtain ⟨l,⟨⟨_,⟨_,⟨_,⟨_,_⟩⟩⟩⟩,_⟩⟩:=vv;obtain ⟨⟨⟨kd,⟨fs,_⟩⟩,_⟩,⟨⟨ks,_⟩,⟨⟨ag,_⟩,⟨⟨n,_⟩,⟨xs,_⟩⟩⟩⟩⟩:=bb;obtain ⟨J,O⟩:=Prod.mk.inj hh;cases hs:xfk l kd fs ks ag 0 n 0 xs with
 | none=>rw [show gset l kd fs ks ag n xs=none by unfold gset;rw [hs];rfl] at J;simp at J
 | some p =>
  have Q:gset l kd fs ks ag n xs=br (Nat.beq p.2.2.2.2.1 p.2.2.2.2.2.2.2) (some (p.1,p.2.1,p.2.2.1,p.2.2.2.1,p.2.2.2.2.2.1,p.2.2.2.2.2.2.1)) none:=by unfold gset;rw [hs];rfl
  cases ht:Nat.beq p.2.2.2.2.1 p.2.2.2.2.2.2.2 with
  | false=>rw [Q,ht] at J;simp [br] at J
  | true =>
   rw [ht] at Q;have V:gset l kd fs ks ag n xs=some (p.1,p.2.1,p.2.2.1,p.2.2.2.1,p.2.2.2.2.2.1,p.2.2.2.2.2.2.1):=Q;rw [V] at O;simp only [zh] at O;have e1:=zg ht;have hx:=xBK l kd fs ks ag 0 n 0 xs p hs;have hg:GoodM P0 xT5 41 _ _ _ _:=xjv (p:=xdL.pin) (xkL xTy (xTz P0 _) rfl xzA rfl Tryz.func41 rfl (by kernel_rfl) xyB hx)
   rw [<-e1] at hg;have U:=GoodM.aged (p:=3) (q:=4) hg (fun bx hb=>by cases hb;rfl) rfl rfl rfl rfl (fun n bx hn=>by
    match n with
    | 0=>cases hn;exact ⟨rfl,.inr (.inr (.inl rfl))⟩
    | 1=>cases hn;exact ⟨rfl,.inr (.inr (.inl rfl))⟩
    | 2=>cases hn;exact ⟨rfl,.inr (.inr (.inl rfl))⟩
    | 3=>cases hn;exact ⟨rfl,.inl rfl⟩
    | 4=>cases hn;exact ⟨rfl,.inr (.inl rfl)⟩
    | n+5=>simp at hn)
   obtain ⟨rfl,rfl⟩:=Prod.mk.inj O;exact U
noncomputable def EGset:Env:=xCz.E.withM 41 xMG
theorem xHd:xTo P0 xT5 EGset:=xCz.ok.withM xRc
noncomputable def xHc:EO:=EO.mk EGset xHd
end M
end Go.Sim
end
noncomputable section
set_option maxRecDepth 100000
namespace Go.Sim.M
open Go.IntKind (i64 u64 u8)
open Go.RowKit Go.Proofs
def xmX (d:LA) (e:Int) (f g b h:LA) (c:Nat) (a:LA):=(gset (gC d e 0).toList f g b h c a).getD ([],[],[],[],0,[])
def xmW (d:LA) (e:Int) (f g b h:LA) (c:Nat) (a:LA):=(xmX d e f g b h c a).snd
def xmV (d:LA) (e:Int) (f g b h:LA) (c:Nat) (a:LA):=(xmW d e f g b h c a).snd
def xmU (d:LA) (e:Int) (f g b h:LA) (c:Nat) (a:LA):=(xmV d e f g b h c a).snd
def xmT (d:LA) (e:Int) (f g b h:LA) (c:Nat) (a:LA):=(xmU d e f g b h c a).snd
def xiq {T:Type} (e:LA) (i d:Int) (f g b h:LA) (c:Nat) (a:LA) (δ:T) (κl:(Int×LA×LA×LA×LA×Nat×LA)->T) (κr:(LA×LA×LA×LA×Nat×LA)->T):T:=br (decide (d<i)) (br (ixI e d) (br (ixS e d (Sh.list 3) 0) (br ((gset (gC e d 0).toList f g b h c a).isSome) (κl (i64.wrap (d+1),(xmX e d f g b h c a).fst,(xmW e d f g b h c a).fst,(xmV e d f g b h c a).fst,(xmU e d f g b h c a).fst,(xmT e d f g b h c a).fst,(xmT e d f g b h c a).snd)) δ) δ) δ) (κr (f,g,b,h,c,a))
def xcW (d:LA) (e:Int):StT (Int×LA×LA×LA×LA×Nat×LA) (LA×LA×LA×LA×Nat×LA):=fun (f,g,h,b,i,c,a)=>xiq d e f g h b i c a none inL inR
def xt2:=xHc.l 33 0 [] [] Tryz.f13 0 lk0 [3,4,5,6,7,13,14,15] [3,4,5,6,7] [(7,3,59)] (q8 (xUl 0 0 0 0) (xUl 1 0 0 0) (xUl 2 0 0 0) (xUl 3 0 0 0) (xUl 4 0 0 0) (qL 1) qI qI) (q6 (qB 0 2 25 (q1 (xUm (q2 (qL 1) (qL 3))))) (qB 0 1 22 (q1 (qL 1))) (qB 0 1 26 (q1 (qL 2))) (qB 0 2 25 (q1 (xUm (q2 pNils pNils)))) (xUn 0 1 23 false false (q1 (xUk 5 0 0))) (qB 0 3 59 xUa)) (fun (_,_,_,_,_,d,e,f,_) (((g,h,_),_),(b,_),(i,_),((_,_,_),_),(c,_),a,_)=>(xcW d e,(f,g,h,b,i,c,a),fun p=>(.leaf (.exit 0) [AV.own 0 0 0 0,AV.own 1 0 0 0,AV.own 2 0 0 0,AV.own 3 0 0 0,AV.own 4 0 0 0] [bF 0 2 25 [AV.agg [AV.list 1 p.1,AV.list 3 p.2.1]],bF 0 1 22 [AV.list 1 p.2.2.1],bF 0 1 26 [AV.list 2 p.2.2.2.1],bF 0 2 25 [AV.agg [AV.nils,AV.nils]],⟨0,1,23,[AV.osl 5 0 0 p.2.2.2.2.1],false,false⟩,bF 0 3 59 p.2.2.2.2.2]))) ([],[],[],[],0,[]) fun (_,_,_,_,_,d,e,_,_) _ (f,g,h,b,i,c,a)=>((((),(),(),(),(),d,e,f,()),(((g,h,()),()),(b,()),(i,()),(((),(),()),()),(c,()),a,())),xiq d e f g h b i c a none)
def xp6 (c a b l:LA):=Iter (xcW ((xjD a b).getD []) (↑((xjD a b).getD []).length:Int)) (0,c,a,b,l,0,[])
def xp5 (c a b l:LA):=(xp6 c a b l).getD ([],[],[],[],0,[])
def xp4 (c a b l:LA):=(xp5 c a b l).snd.snd
def xp3 (c a b l:LA):=(xp4 c a b l).snd
def xpZ (c a b l:LA):=xbV (xp5 c a b l).fst [] (xp4 c a b l).fst (xp3 c a b l).fst
def xp2 (c a b l:LA):=(xp3 c a b l).snd
def xp0 (c a b l:LA):=(xp2 c a b l).snd
def xp1 (c a b l:LA):=(xp2 c a b l).fst
def xpx (c a b l:LA):=xjF (List.take (xp1 c a b l) (List.drop 0 (xp0 c a b l)))
def xrx {T:Type} (c a b l:LA) (δ:T) (κ:LA×LA->T):T:=br ((xjD a b).isSome) (br ((xp6 c a b l).isSome) (br ((xpZ c a b l).isSome) (br (decide (0+xp1 c a b l<=(xp0 c a b l).length)&&true) (br ((xpx c a b l).isSome) (κ (((xpZ c a b l).getD ([],[])).fst,(xpx c a b l).getD [])) δ) δ) δ) δ) δ
def xfR (c a b l:LA):=xrx c a b l none some
def xy3:LA->Option (Bool×AV):=fnO (u3 (xUp (u2 (uL 1) (uL 3))) (uL 1) (uL 2)) (fun ((c,a,_),b,l,_) _=>xrx c a b l) (fun _ p=>AV.agg [AV.list 1 p.1,AV.list 3 p.2]) ([],[])
theorem xy2:OcOk P0 xT5 13 xy3:=fnC xHd Tryz.func13 33 0 [] [(3,xt2.lp)] (lk1 xt2.ok)
def xLV:EO:=xHc.w xy2
def xhv {T:Type} (l:LA) (e:Int) (c:LA) (h:Int) (d:Nat) (a:Int) (f g b:LA) (δ:T) (κl:(Nat×Int×LA×LA×LA)->T) (κr:(Nat×LA×LA×LA)->T):T:=br (decide (a<h)) (br (ixI c a) (br (ixT c a 3 [Sh.list 3,Sh.int .i64,Sh.int .i64] 0) (br (rmB d b 1 40) (κl (d+1,i64.wrap (a+1),f,g,b++[AV.agg [AV.list 3 (gC c a 0).toList,AV.int .i64 (gC c a 1).toInt,AV.int .i64 (if 1099511627776<i64.wrap ((gC c a 2).toInt+e) then 1099511627776 else i64.wrap ((gC c a 2).toInt+e))]])) δ) δ) δ) (κr (d,f,g,b))
def xdS (l:LA) (c:Int) (d:LA) (e:Int):StT (Nat×Int×LA×LA×LA) (Nat×LA×LA×LA):=fun (b,f,g,h,a)=>xhv l c d e b f g h a none inL inR
def xsv:=xLV.l 42 0 [59] [] Tryz.f15 0 lk0 [1,3,6,7,8,17,18,19] [1,3,6,8] [(8,3,59)] (q8 (qL 2) (xUl 0 0 0 0) (xUl 1 0 0 0) qI (xUk 2 0 0) (qL 3) qI qI) (q3 (qB 0 2 25 (q1 (xUm (q2 (qL 1) (qL 3))))) (qB 0 2 25 (q1 (xUm (q2 pNils pNils)))) (qB 0 3 59 xUa)) (fun (l,_,_,c,b,d,e,f,_) (((g,h,_),_),((_,_,_),_),a,_)=>(xdS l c d e,(b,f,g,h,a),fun p=>(.leaf (.exit 0) [AV.list 2 l,AV.own 0 0 0 0,AV.own 1 0 0 0,AV.osl 2 0 0 p.1] [bF 0 2 25 [AV.agg [AV.list 1 p.2.1,AV.list 3 p.2.2.1]],bF 0 2 25 [AV.agg [AV.nils,AV.nils]],bF 0 3 59 p.2.2.2]))) (0,[],[],[]) fun (l,_,_,c,_,d,e,_,_) _ (b,f,g,h,a)=>(((l,(),(),c,b,d,e,f,()),(((g,h,()),()),(((),(),()),()),a,())),xhv l c d e b f g h a none)
def xoS (c b l:LA) (a:Int):=Iter (xdS l (i64.wrap ((if 1099511627776<if 1>a then 1 else a then 1099511627776 else if 1>a then 1 else a) - 1)) ((xjF b).getD []) (↑((xjF b).getD []).length:Int)) (0,0,c,b,[])
def xoR (c b l:LA) (a:Int):=(xoS c b l a).getD (0,[],[],[])
def xoP (c b l:LA) (a:Int):=(xoR c b l a).snd
def xoQ (c b l:LA) (a:Int):=(xoR c b l a).fst
def xoO (c b l:LA) (a:Int):=(xoP c b l a).snd.snd
def xoN (c b l:LA) (a:Int):=xfR (xoP c b l a).fst (List.take (xoQ c b l a) (List.drop 0 (xoO c b l a))) [] l
def xoM (c b l:LA) (a:Int):=(xoN c b l a).getD ([],[])
def xp7 {T:Type} (c b l:LA) (a:Int) (δ:T) (κ:LA×LA->T):T:=br ((xjF b).isSome) (br ((xoS c b l a).isSome) (br (decide (0+xoQ c b l a<=(xoO c b l a).length)&&true&&true) (br ((xoN c b l a).isSome) (κ ((xoM c b l a).fst,(xoM c b l a).snd)) δ) δ) δ) δ
def xjC (c b l:LA) (a:Int):=xp7 c b l a none some
def xw7:LA->Option (Bool×AV):=fnO (u3 (xUp (u2 (uL 1) (uL 3))) (uL 2) uI) (fun ((c,b,_),l,a,_) _=>xp7 c b l a) (fun _ p=>AV.agg [AV.list 1 p.1,AV.list 3 p.2]) ([],[])
theorem xCG:OcOk P0 xT5 15 xw7:=fnC xLV.ok Tryz.func15 42 0 [59] [(4,xsv.lp)] (lk1 xsv.ok)
def xg4 {T:Type} (i:Int) (b a:LA) (δ:T) (κl:(Int×LA×LA)->T) (κr:(Bool×(Bool×LA×LA)×(LA×LA))->T):T:=br (decide (i<a.length)) (br (ixI a i) (br (ixT a i 3 [Sh.int .i64,Sh.int .i64] 1) (br (!xdj (gC a i 1).toInt (gC a i 2).toInt) (κr (true,(false,b,a),([],[]))) (br (ixI a i) (br (ixS a i (Sh.list 3) 0) (br ((xzi (gC a i 0).toList b).isSome) (br (!(xzi (gC a i 0).toList b).getD false) (κr (true,(false,b,a),([],[]))) (κl (i64.wrap (i+1),b,a))) δ) δ) δ)) δ) δ) (κr (false,(false,[],[]),(b,a)))
def xb1:StT (Int×LA×LA) (Bool×(Bool×LA×LA)×(LA×LA)):=fun (i,a,b)=>xg4 i a b none inL inR
def xy8:=xL0.l 46 0 [] [] Tryz.f35 0 lk0 [1,3] [1,2] [] (q2 (xUl 0 0 0 0) qI) (q1 (qB 0 2 25 (q1 (xUm (q2 (qL 1) (qL 3)))))) (fun (_,i,_) (((a,b,_),_),_)=>(xb1,(i,a,b),fun p=>(.node p.1 (.leaf .ret [AV.own 0 0 0 0,AV.bool p.2.1.1] [bF 0 2 25 [AV.agg [AV.list 1 p.2.1.2.1,AV.list 3 p.2.1.2.2]]]) (.leaf (.exit 0) [AV.own 0 0 0 0,.top] [bF 0 2 25 [AV.agg [AV.list 1 p.2.2.1,AV.list 3 p.2.2.2]]])))) (false,(false,[],[]),([],[])) fun _ _ (i,a,b)=>((((),i,()),(((a,b,()),()),())),xg4 i a b none)
def xny (b a:LA):=(Iter xb1 (0,b,a)).getD (false,(false,[],[]),[],[])
def xnw (b a:LA):=(xny b a).snd
def xnv (b a:LA):=(xnw b a).snd.fst
def xnt (b a:LA):=(↑(xnv b a).length:Int)
def xnu (b a:LA):=xAS (xnv b a)
def xyT {T:Type} (b a:LA) (δ:T) (κ:Bool->T):T:=br ((Iter xb1 (0,b,a)).isSome) (br ((xny b a).fst) (κ ((xnw b a).fst.fst)) (br (decide (xnt b a>0)) (br (decide (xnt b a<=48)) (br ((xnu b a).isSome) (κ ((xnu b a).getD false)) δ) (κ (false))) (κ (false)))) δ
def xw3 (b a:LA):=xyT b a none some
def xL1:EO:=xL0.f Tryz.func35 46 0 [] [(2,xy8.lp)] (lk1 xy8.ok) (u1 (xUp (u2 (uL 1) (uL 3)))) (fun ((b,a,_),_) _=>xyT b a) (fun _ p=>AV.bool p) false
def xiT {T:Type} (a b:LA) (i:Int) (δ:T) (κl:(Int)->T) (κr:(Bool×(Bool)×(Unit))->T):T:=br (decide (i<a.length)) (br (ixI a i) (br (ixS a i (Sh.int .i64) 0) (br (ixI b i) (br (ixS b i (Sh.int .i64) 0) (br ((gC a i 0).toInt != (gC b i 0).toInt) (κr (true,(false),())) (κl (i64.wrap (i+1)))) δ) δ) δ) δ) (κr (false,false,()))
def xcd (a b:LA):StT (Int) (Bool×(Bool)×(Unit)):=fun (i)=>xiT a b i none inL inR
def xt8:=xL1.l 26 0 [] [] Tryz.f39 0 lk0 [0,1,5] [4] [] (q3 (qL 1) (qL 1) qI) xT8 (fun (a,b,i,_) _=>(xcd a b,(i),fun p=>(.node p.1 (.leaf .ret [AV.bool p.2.1] []) (.leaf (.exit 0) [.top] [])))) (false,false,()) fun (a,b,_,_) _ (i)=>(((a,b,i,()),()),xiT a b i none)
def xsg {T:Type} (a b:LA) (δ:T) (κ:Bool->T):T:=br ((↑a.length:Int) != (↑b.length:Int)) (κ (false)) (br ((Iter (xcd a b) 0).isSome) (br (((Iter (xcd a b) 0).getD (false,false,())).fst) (κ (((Iter (xcd a b) 0).getD (false,false,())).snd.fst)) (κ (true))) δ)
def xhF (a b:LA):=xsg a b none some
def xQR:EO:=xL1.f Tryz.func39 26 0 [] [(4,xt8.lp)] (lk1 xt8.ok) (u2 (uL 1) (uL 1)) (fun (a,b,_) _=>xsg a b) (fun _ p=>AV.bool p) false
def xyO {T:Type} (c a d b:LA) (δ:T) (κ:Bool->T):T:=br ((xhF c d).isSome) (br ((xhF c d).getD false) (br ((xk6 a b).isSome) (κ ((xk6 a b).getD false)) δ) (κ (false))) δ
def xAV (c a d b:LA):=xyO c a d b none some
def xQS:EO:=xQR.f Tryz.func12 17 0 [] [] lk0 (u2 (xUp (u2 (uL 1) (uL 3))) (xUp (u2 (uL 1) (uL 3)))) (fun ((c,a,_),(d,b,_),_) _=>xyO c a d b) (fun _ p=>AV.bool p) false
def xuV {T:Type} (c a d b:LA) (δ:T) (κ:Bool->T):T:=br ((xhF c d).isSome) (br ((xhF c d).getD false) (br ((xg2 a b).isSome) (κ ((xg2 a b).getD false)) δ) (κ (false))) δ
def xyM (c a d b:LA):=xuV c a d b none some
def xQT:EO:=xQS.f Tryz.func26 17 0 [] [] lk0 (u2 (xUp (u2 (uL 1) (uL 1))) (xUp (u2 (uL 1) (uL 1)))) (fun ((c,a,_),(d,b,_),_) _=>xuV c a d b) (fun _ p=>AV.bool p) false
def xpy (b l c a d:LA) (i:Int):=xz3 ((xfP b ((xie l (gC d i 0).toInt).getD []) c a).getD ([],[])).snd (gC d i 0).toInt (gC d i 1).toInt
def xpw (b l c a d:LA) (i:Int):=(xpy b l c a d i).getD []
def xks (b l d a e:LA) (c:Nat) (i:Int):=c+(xpw b l d a e i).length
def xqX {T:Type} (b l d a e:LA) (c:Nat) (i:Int) (f:LA) (δ:T) (κl:(Nat×Int×LA)->T) (κr:(Nat×LA)->T):T:=br (decide (i<e.length)) (br (ixI e i) (br (ixS e i (Sh.int .i64) 0) (br ((xie l (gC e i 0).toInt).isSome) (br ((xfP b ((xie l (gC e i 0).toInt).getD []) d a).isSome) (br (ixI e i) (br (ixT e i 2 [Sh.int .i64,Sh.int .i64] 0) (br ((xpy b l d a e i).isSome) (br (c==f.length&&(decide (xks b l d a e c i*40<=140737488355328)&&decide (xks b l d a e c i<=4611686018427387904))) (κl (xks b l d a e c i,i64.wrap (i+1),f++xpw b l d a e i)) δ) δ) δ) δ) δ) δ) δ) δ) (κr (c,f))
def xfA (c l e a f:LA):StT (Nat×Int×LA) (Nat×LA):=fun (d,i,b)=>xqX c l e a f d i b none inL inR
def xtS (b l c a:LA):=Iter (xfA b l c a ((xva l []).getD [])) (0,0,[])
def xtR (b l c a:LA):=(xtS b l c a).getD (0,[])
def xtP (b l c a:LA):=(xtR b l c a).snd
def xtQ (b l c a:LA):=(xtR b l c a).fst
def xtO (b l c a:LA):=xk5 (List.take (xtQ b l c a) (List.drop 0 (xtP b l c a)))
def xAC {T:Type} (b l c a:LA) (δ:T) (κ:LA->T):T:=br ((xva l []).isSome) (br ((xtS b l c a).isSome) (br (decide (0+xtQ b l c a<=(xtP b l c a).length)&&true) (br ((xtO b l c a).isSome) (κ ((xtO b l c a).getD [])) δ) δ) δ) δ
def xif (b l c a:LA):=xAC b l c a none some
def xCh {T:Type} (b c a l:LA) (δ:T) (κ:LA×LA->T):T:=br ((xbk b a l).isSome) (br ((xif b c a l).isSome) (κ (((xbk b a l).getD ([],0)).fst,(xif b c a l).getD [])) δ) δ
def xDQ (c a b l:LA):=xCh c a b l none some
def xk9 (l:LA) (i:Int):=ixI l i
def xso {T:Type} (l:LA) (n:Int) (b:Nat) (i:Int) (a:LA) (δ:T) (κl:(Nat×Int×LA)->T) (κr:(Nat×LA)->T):T:=br (decide (i<l.length)) (br (xk9 l i) (br (ixS l i (Sh.list 3) 0) (br (xk9 l i) (br (ixS l i (Sh.int .i64) 1) (br (xk9 l i) (br (ixS l i (Sh.int .i64) 2) (br (rmB b a 1 40) (κl (b+1,i64.wrap (i+1),a++[AV.agg [AV.list 3 (gC l i 0).toList,AV.int .i64 (gC l i 1).toInt,AV.int .i64 (if i64.wrap ((gC l i 2).toInt+n)<1099511627776 then i64.wrap ((gC l i 2).toInt+n) else 1099511627776)]])) δ) δ) δ) δ) δ) δ) δ) (κr (b,a))
def xiW (l:LA) (n:Int):StT (Nat×Int×LA) (Nat×LA):=fun (b,i,a)=>xso l n b i a none inL inR
def xvr (l:LA) (n:Int):=Iter (xiW l (if (if 1099511627776<n then 1099511627776 else n)>0 then if 1099511627776<n then 1099511627776 else n else 0)) (0,0,[])
def xvq (l:LA) (n:Int):=(xvr l n).getD (0,[])
def xvo (l:LA) (n:Int):=(xvq l n).fst
def xvp (l:LA) (n:Int):=(xvq l n).snd
def xBz {T:Type} (l:LA) (n:Int) (δ:T) (κ:LA->T):T:=br ((xvr l n).isSome) (br (decide (0+xvo l n<=(xvp l n).length)&&true) (κ (List.take (xvo l n) (List.drop 0 (xvp l n)))) δ) δ
def xAa (l:LA) (n:Int):=xBz l n none some
def xvt (b:LA) (a:Int):=xAa ((xk5 b).getD []) (i64.wrap ((if 1>a then 1 else a) - 1))
def xvs (c b l:LA) (a:Int):=xif c ((xvt b a).getD []) [] l
def xBA {T:Type} (c a l:LA) (b:Int) (δ:T) (κ:LA×LA->T):T:=br ((xbk c [] l).isSome) (br ((xk5 a).isSome) (br ((xvt a b).isSome) (br ((xvs c a l b).isSome) (κ (((xbk c [] l).getD ([],0)).fst,(xvs c a l b).getD [])) δ) δ) δ) δ
def xC5 (c b l:LA) (a:Int):=xBA c b l a none some
def xws {T:Type} (b c a l:LA) (δ:T) (κ:Bool->T):T:=br (decide ((↑c.length:Int)>14)) (κ (false)) (br (decide ((↑b.length:Int)>48)) (κ (false)) (br ((xw3 b c).isSome) (br (!(xw3 b c).getD false) (κ (false)) (br (decide ((↑a.length:Int)>20)) (κ (false)) (br (decide ((↑l.length:Int)>20)) (κ (false)) (br (i64.wrap ((↑a.length:Int)+(↑l.length:Int))==0) (κ (false)) (br ((xbk b a l).isSome) (κ (((xbk b a l).getD ([],0)).snd==0)) δ))))) δ))
def xqz (c a b l:LA):=xws c a b l none some
def xL2:EO:=xQT.f Tryz.func10 52 0 [] [] lk0 (u3 (xUp (u2 (uL 1) (uL 3))) (uL 1) (uL 2)) (fun ((c,a,_),b,l,_) _=>xws c a b l) (fun _ p=>AV.bool p) false
end Go.Sim.M
end
noncomputable section
namespace Go.Sim.M
open Go.RowKit Go.Proofs
def E0:Env:=((((Env.none.with 136 xmR).with 98 xrV).with 163 xrS).withM 129 xwY).withM 100 xn9
theorem xRz:xTo Tryz.prog xT5 E0:=((((xE7.with xy9).with xBF).with xBC).withM xDC).withM xzB
end Go.Sim.M
end
noncomputable section
set_option maxRecDepth 100000
namespace Go.Sim
def stepX (P:Program) (E:Env) (live liveO:List Nat) (conv:List (Nat×Nat×TypeId)) (c:Code) (s:List AV×List Box):Option ((List AV×List Box)⊕{r:Exit×List AV×List Box // r.1≠.normal}) :=
 match XR P E live liveO conv c s.1 s.2 with
 | some (.normal,v,H)=>some (.inl (v,H))
 | some (.exit i,v,H)=>some (.inr ⟨(.exit i,v,H),by simp⟩)
 | some (.ret,v,H)=>some (.inr ⟨(.ret,v,H),by simp⟩)
 | _=>none
def closedLp (P:Program) (E:Env) (live liveO:List Nat) (conv:List (Nat×Nat×TypeId)) (c:Code) (n:Nat):Lp:=⟨live,liveO,conv,fun vals H =>
 match iterN (stepX P E live liveO conv c) n (vals,H) with
 | some r=>some (true,.leaf r.1.1 r.1.2.1 r.1.2.2)
 | none=>none⟩
theorem xwX {P:Program} {Inv:IV} {E:Env} (Q:P.follows .mixedOrders=true) (U:InvOk Inv) (q:Inv.pin=E.pin) (O:xTo P Inv E) {c:Code} (J:LoOk P Inv E c) {live liveO:List Nat} {conv:List (Nat×Nat×TypeId)} {n:Nat} :
  LoopOk P Inv E.nt c (closedLp P E live liveO conv c n):=fun vals H r h=>by
 simp only [closedLp] at h;split at h
 case h_2=>simp at h
 rename_i r0 hr;simp only [z6,zb,true_and] at h;subst h;exact xEZ Q U q O J (σ:=List AV×List Box) (ρ:={r:Exit×List AV×List Box // r.1≠.normal}) (step:=stepX P E live liveO conv c) (fun s=>s) (fun r=>.leaf r.1.1 r.1.2.1 r.1.2.2) (fun r=>r.2)
  (fun s r hs=>by
   unfold stepX at hs;split at hs<;>simp only [z6,reduceCtorEq] at hs;all_goals (subst hs;rename_i hx;exact hx)) (s:=(vals,H)) (r:=r0) (xwp.2 ⟨n,hr⟩)
end Go.Sim
namespace Go.Sim.M
open Go.RowKit Go.Proofs
def mmA (g:FuncId):Bool:=([97,99,
 80,117,141,
 113,140,169,
 102,131,155,104,
 138,168,192,
 164,189,203,
 82,112,84,125,
 41,42,49,51,50,66]:List Nat).contains g
noncomputable def EA0:Env:={ E0 with ls:=lsOf [57,59,159],fuel:=1000 }
theorem xzu:xTo P0 xT5 EA0:=xRz
noncomputable def EAr:Env:={ Env.deep P0 mmA EA0 10 with pin:=0,nt:=60,ls:=lsOf [] }
theorem xLz:xTo P0 (xT5.at 0) EAr:=xhf xTy mmA (xTz P0 0) xzu (fun _=>rfl) 10
noncomputable def xLy:Lp:=closedLp P0 EAr [3,4,11,12,13] [4] [(4,2,150460170399)] (xTs Tryz.f111 0) 100
noncomputable def EAr1:Env:={ EAr with lp:=xTL [(xTD (xTs Tryz.f111 0),xLy)] }
theorem xO8:xTo P0 (xT5.at 0) EAr1:=xLz
noncomputable def xF2:List AV->Option (Bool×AV):=fun xs=>match XF P0 EAr1 Tryz.f111 (Tryz.f111.body.getD .skip) xs with
 | some r=>some (true,r)
 | none=>none
theorem xP4:OcOk P0 xT5 111 xF2:=fun xs r h=>by
 unfold xF2 at h;split at h
 case h_2=>simp at h
 rename_i r0 hr;simp only [z6,zb,true_and] at h;subst h;refine xdX (p:=0) (xgd xTy (xTz P0 _) rfl xO8 Tryz.func111 rfl (by kernel_rfl) (xgT (ls:=[xTs Tryz.f111 0]) (by kernel_rfl) (fun l hl lp hs=>?_)) hr)
 simp only [zC,List.not_mem_nil,or_false] at hl;subst hl;rw [show EAr1.lp (xTD (xTs Tryz.f111 0))=some xLy by kernel_rfl] at hs
 cases hs;exact xwX (E:=EAr) xTy (xTz P0 _) rfl xLz (xhm fun _=>rfl)
noncomputable def EAgr:Env:={ Env.deep P0 mmA EA0 12 with pin:=0,nt:=57,ls:=lsOf [57,59] }
theorem xJs:xTo P0 (xT5.at 0) EAgr:=xhf xTy mmA (xTz P0 0) xzu (fun _=>rfl) 12
noncomputable def xJr:Lp:=closedLp P0 EAgr [1,5,6,18,19,20] [6] [(6,1,253605445655)] (xTs Tryz.f40 0) 100
noncomputable def EAgr1:Env:={ EAgr with lp:=xTL [(xTD (xTs Tryz.f40 0),xJr)] }
theorem xNA:xTo P0 (xT5.at 0) EAgr1:=xJs
noncomputable def xKU:List AV->Option (Bool×AV):=fun xs=>match XF P0 EAgr1 Tryz.f40 (Tryz.f40.body.getD .skip) xs with
 | some r=>some (true,r)
 | none=>none
theorem xRS:OcOk P0 xT5 40 xKU:=fun xs r h=>by
 unfold xKU at h;split at h
 case h_2=>simp at h
 rename_i r0 hr;simp only [z6,zb,true_and] at h;subst h;refine xdX (p:=0) (xgd xTy (xTz P0 _) rfl xNA Tryz.func40 rfl (by kernel_rfl) (xgT (ls:=[xTs Tryz.f40 0]) (by kernel_rfl) (fun l hl lp hs=>?_)) hr)
 simp only [zC,List.not_mem_nil,or_false] at hl;subst hl;rw [show EAgr1.lp (xTD (xTs Tryz.f40 0))=some xJr by kernel_rfl] at hs
 cases hs;exact xwX (E:=EAgr) xTy (xTz P0 _) rfl xJs (xhm fun _=>rfl)
noncomputable def EAsg:Env:={ Env.deep P0 mmA EA0 12 with pin:=0,nt:=111,ls:=lsOf [57,59] }
theorem xJw:xTo P0 (xT5.at 0) EAsg:=xhf xTy mmA (xTz P0 0) xzu (fun _=>rfl) 12
noncomputable def xJv:Lp:=closedLp P0 EAsg [1,2,3,6,7,8,31,32,33] [1,2,3,6,8] [(8,1,244881293359)] (xTs Tryz.f43 0) 100
noncomputable def EAsg1:Env:={ EAsg with lp:=xTL [(xTD (xTs Tryz.f43 0),xJv)] }
theorem xNC:xTo P0 (xT5.at 0) EAsg1:=xJw
noncomputable def xLo:List AV->Option (Bool×AV):=fun xs=>match XF P0 EAsg1 Tryz.f43 (Tryz.f43.body.getD .skip) xs with
 | some r=>some (true,r)
 | none=>none
theorem xRX:OcOk P0 xT5 43 xLo:=fun xs r h=>by
 unfold xLo at h;split at h
 case h_2=>simp at h
 rename_i r0 hr;simp only [z6,zb,true_and] at h;subst h;refine xdX (p:=0) (xgd xTy (xTz P0 _) rfl xNC Tryz.func43 rfl (by kernel_rfl) (xgT (ls:=[xTs Tryz.f43 0,xTs Tryz.f43 1,xTs Tryz.f43 2]) (by kernel_rfl) (fun l hl lp hs=>?_)) hr)
 simp only [zC,List.not_mem_nil,or_false] at hl;rcases hl with rfl|rfl|rfl
 . rw [show EAsg1.lp (xTD (xTs Tryz.f43 0))=some xJv by kernel_rfl] at hs
   cases hs;exact xwX (E:=EAsg) xTy (xTz P0 _) rfl xJw (xhm fun _=>rfl)
 . rw [show EAsg1.lp (xTD (xTs Tryz.f43 1))=none by kernel_rfl] at hs
   simp at hs
 . rw [show EAsg1.lp (xTD (xTs Tryz.f43 2))=none by kernel_rfl] at hs
   simp at hs
noncomputable def EAlv (p:Nat):Env:={ Env.deep P0 mmA EA0 6 with pin:=p,nt:=71,ls:=lsOf [] }
theorem xJu (p:Nat):xTo P0 (xT5.at p) (EAlv p):=xn2 (xhf xTy mmA (xTz P0 0) xzu (fun _=>rfl) 6)
noncomputable def xJt (p:Nat):Lp:=closedLp P0 (EAlv p) [0,1,2,3,4] [] [(3,0,0)] (xTs Tryz.f112 0) 100
noncomputable def EAlv1 (p:Nat):Env:={ EAlv p with lp:=xTL [(xTD (xTs Tryz.f112 0),xJt p)] }
theorem xNB (p:Nat):xTo P0 (xT5.at p) (EAlv1 p):=xJu p
noncomputable def xHZ:List AV->List Box->Option (Bool×AV×List Box):=fun xs H=>match XFM P0 (EAlv1 H.length) Tryz.f112 (Tryz.f112.body.getD .skip) xs H with
 | some (r,H')=>some (true,r,H')
 | none=>none
theorem xRh:OmOk P0 xT5 112 xHZ:=fun xs H r H' h=>by
 unfold xHZ at h;split at h
 case h_2=>simp at h
 rename_i r0 H0 hr;simp only [z6,zb,true_and] at h;obtain ⟨rfl,rfl⟩:=h;refine xjv (p:=H.length) (xkL xTy (xTz P0 _) rfl (xNB H.length) rfl Tryz.func112 rfl (by kernel_rfl) (xgT (ls:=[xTs Tryz.f112 0,xTs Tryz.f112 1]) (by kernel_rfl) (fun l hl lp hs=>?_) (by kernel_rfl)) hr)
 simp only [zC,List.not_mem_nil,or_false] at hl;rcases hl with rfl|rfl
 . rw [show (EAlv1 H.length).lp (xTD (xTs Tryz.f112 0))=some (xJt H.length) by kernel_rfl] at hs
   cases hs;exact xwX (E:=EAlv H.length) xTy (xTz P0 _) rfl (xJu H.length) (xhm fun _=>rfl)
 . rw [show (EAlv1 H.length).lp (xTD (xTs Tryz.f112 1))=none by kernel_rfl] at hs
   simp at hs
noncomputable def EAs:Env:=(((EA0.with 111 xF2).with 40 xKU).with 43 xLo).withM 112 xHZ
theorem xLA:xTo P0 xT5 EAs:=(((xzu.with xP4).with xRS).with xRX).withM xRh
noncomputable def EAd:Env:={ Env.deep P0 mmA EAs 14 with pin:=0 }
mutual
def eqV:AV->AV->Bool
 | .int k a,.int k' b=>decide (k=k')&&decide (a=b)
 | .bool a,.bool b=>a==b
 | .str a,.str b=>decide (a=b)
 | .list n a,.list m b=>Nat.beq n m&&eqVs a b
 | .agg a,.agg b=>eqVs a b
 | .nils,.nils=>true
 | _,_=>false
def eqVs:List AV->List AV->Bool
 | [],[]=>true
 | a::l,b::m=>eqV a b&&eqVs l m
 | _,_=>false
end
mutual
theorem xQ1:∀ (a b:AV),eqV a b=true->a=b:=fun a b h=>by
 cases a<;>cases b<;>first|rfl|(simp [eqV] at h;done)|skip
 all_goals simp only [eqV,zf,zl,beq_iff_eq] at h
 all_goals first|(rw [h.1,h.2];done)|(rw [h];done)|(rw [zg h.1,xDm _ _ h.2];done)|(rw [xDm _ _ h])
theorem xDm:∀ (a b:List AV),eqVs a b=true->a=b
 | [],[],_=>rfl
 | a::l,b::m,h=>by simp only [eqVs,zf] at h;rw [xQ1 a b h.1,xDm l m h.2]
 | [],_::_,h=>by simp [eqVs] at h
 | _::_,[],h=>by simp [eqVs] at h
end
def ptO (q:List AV) (r:AV):List AV->Option (Bool×AV):=fun xs=>match eqVs xs q with
 | true=>some (true,r)
 | false=>none
theorem xBS {P:Program} {Inv:IV} {f:FuncId} {q:List AV} {r:AV} (h:Good P Inv f q r):OcOk P Inv f (ptO q r):=fun xs r0 h0=>by
 unfold ptO at h0;split at h0
 case h_2=>simp at h0
 rename_i he;simp only [z6,zb,true_and] at h0;subst h0;rw [xDm _ _ he];exact h
theorem xAu {f:FuncId} {fn:Func} {q:List AV} {r:AV} (hf:P0.funcs[f]?=some fn) (hb:fn.body.isSome=true) (J:(fn.name == "runtime.NumGoroutine")=false) (h:XF P0 EAd fn (fn.body.getD .skip) q=some r):Good P0 xT5 f q r :=
 xdX (p:=0) (xgd xTy (xTz P0 _) rfl (xn2 (xhf xTy mmA (xTz P0 0) xLA (fun _=>rfl) 14)) hf hb J (xhm fun _=>rfl) h)
end Go.Sim.M
end
noncomputable section
set_option maxRecDepth 100000
namespace Go.Sim.M
open Go.RowKit Go.Proofs
def vA (n:Int):AV:=.agg [.int .i64 1,.int .i64 n,.str []]
def nA:AV:=.agg [.int .i64 0,.int .i64 0,.str []]
def fA (a b:Int) (r:List Int):AV:=.agg [.list 3 (r.map vA),.int .i64 a,.int .i64 b]
def agA (o a:Int):AV:=.agg [.int .i64 o,.int .i64 a]
def itsA (l:List Int):AV:=.list 1 (l.map (AV.int .i64))
def bGi:AV:=.list 3 [fA 0 4 [1,1,5],fA 4 6 [1,2,12],fA 6 9 [1,1,7],fA 2 3 [2,1,1]]
def bGo:AV:=.list 3 [fA 0 4 [1,1,5],fA 6 9 [1,1,7],fA 4 6 [1,2,12],fA 2 3 [2,1,1]]
theorem xR5:XF P0 EAd Tryz.f44 (Tryz.f44.body.getD .skip) [bGi]=some bGo:=by kernel_rfl
theorem xR4:OcOk P0 xT5 44 (ptO [bGi] bGo):=xBS (xAu Tryz.func44 rfl (by kernel_rfl) xR5)
def bCi:AV:=.list 3 [fA 0 2 [1],fA 2 3 [2],fA 3 4 [1],fA 4 6 [2],fA 6 9 [1],fA 9 1099511627776 [0]]
def bCo:AV:=.list 3 [fA 9 1099511627776 [0],fA 0 2 [1],fA 3 4 [1],fA 6 9 [1],fA 2 3 [2],fA 4 6 [2]]
theorem xR3:XF P0 EAd Tryz.f44 (Tryz.f44.body.getD .skip) [bCi]=some bCo:=by kernel_rfl
theorem xR2:OcOk P0 xT5 44 (ptO [bCi] bCo):=xBS (xAu Tryz.func44 rfl (by kernel_rfl) xR3)
def bRi:AV:=.list 3 [fA 0 6 [1,5],fA 4 9 [1,7],fA 2 3 [2,1]]
def bRo:AV:=.list 3 [fA 0 6 [1,5],fA 4 9 [1,7],fA 2 3 [2,1]]
theorem xR9:XF P0 EAd Tryz.f44 (Tryz.f44.body.getD .skip) [bRi]=some bRo:=by kernel_rfl
theorem xR8:OcOk P0 xT5 44 (ptO [bRi] bRo):=xBS (xAu Tryz.func44 rfl (by kernel_rfl) xR9)
def bMi:AV:=.list 3 [fA 0 2 [5],fA 2 4 [5],fA 4 5 [7],fA 5 8 [7],fA 8 11 [7],.agg [.list 3 [nA],.int .i64 11,.int .i64 1099511627776]]
def bMo:AV:=.list 3 [.agg [.list 3 [nA],.int .i64 11,.int .i64 1099511627776],fA 0 4 [5],fA 4 11 [7]]
theorem xR7:XF P0 EAd Tryz.f44 (Tryz.f44.body.getD .skip) [bMi]=some bMo:=by kernel_rfl
theorem xR6:OcOk P0 xT5 44 (ptO [bMi] bMo):=xBS (xAu Tryz.func44 rfl (by kernel_rfl) xR7)
noncomputable def EAt:Env:=((((EAs).with 44 (ptO [bGi] bGo)).with 44 (ptO [bCi] bCo)).with 44 (ptO [bRi] bRo)).with 44 (ptO [bMi] bMo)
theorem xLB:xTo P0 xT5 EAt:=((((xLA).with xR4).with xR2).with xR8).with xR6
noncomputable def EAtd:Env:={ Env.deep P0 mmA EAt 14 with pin:=0 }
theorem xBP {f:FuncId} {fn:Func} {q:List AV} {r:AV} (hf:P0.funcs[f]?=some fn) (hb:fn.body.isSome=true) (J:(fn.name == "runtime.NumGoroutine")=false) (h:XF P0 EAtd fn (fn.body.getD .skip) q=some r):Good P0 xT5 f q r :=
 xdX (p:=0) (xgd xTy (xTz P0 _) rfl (xn2 (xhf xTy mmA (xTz P0 0) xLB (fun _=>rfl) 14)) hf hb J (xhm fun _=>rfl) h)
def relA:AV:=.agg [itsA [1,1],bRi]
def relM:AV:=.agg [itsA [1,1],.list 3 [fA 0 8 [1,5],fA 4 11 [1,7],fA 2 5 [2,1]]]
theorem xSe:XF P0 EAtd Tryz.f13 (Tryz.f13.body.getD .skip) [relA,itsA [0],.list 2 [agA 1 (-1),agA 2 1]]=some (.agg [itsA [1,1,1],bGo]):=by kernel_rfl
theorem xSd:OcOk P0 xT5 13 (ptO [relA,itsA [0],.list 2 [agA 1 (-1),agA 2 1]] (.agg [itsA [1,1,1],bGo])):=xBS (xBP Tryz.func13 rfl (by kernel_rfl) xSe)
theorem xSc:XF P0 EAtd Tryz.f13 (Tryz.f13.body.getD .skip) [relA,.nils,.list 2 [agA 1 (-1)]]=some (.agg [itsA [1],bCo]):=by kernel_rfl
theorem xSb:OcOk P0 xT5 13 (ptO [relA,.nils,.list 2 [agA 1 (-1)]] (.agg [itsA [1],bCo])):=xBS (xBP Tryz.func13 rfl (by kernel_rfl) xSc)
theorem xSg:XF P0 EAtd Tryz.f13 (Tryz.f13.body.getD .skip) [relM,.nils,.list 2 [agA 4 1]]=some (.agg [itsA [1],bMo]):=by kernel_rfl
theorem xSf:OcOk P0 xT5 13 (ptO [relM,.nils,.list 2 [agA 4 1]] (.agg [itsA [1],bMo])):=xBS (xBP Tryz.func13 rfl (by kernel_rfl) xSg)
noncomputable def EAu:Env:=(((EAt).with 13 (ptO [relA,itsA [0],.list 2 [agA 1 (-1),agA 2 1]] (.agg [itsA [1,1,1],bGo]))).with 13 (ptO [relA,.nils,.list 2 [agA 1 (-1)]] (.agg [itsA [1],bCo]))).with 13 (ptO [relM,.nils,.list 2 [agA 4 1]] (.agg [itsA [1],bMo]))
theorem xQu:xTo P0 xT5 EAu:=(((xLB).with xSd).with xSb).with xSf
noncomputable def EAf:Env:={ Env.deep P0 mmA EA0 3 with pin:=0,ls:=lsOf [] }
theorem xQs:xTo P0 (xT5.at 0) EAf:=xn2 (xhf xTy mmA (xTz P0 0) xzu (fun _=>rfl) 3)
noncomputable def xFQ:List AV->Option (Bool×AV):=fun xs=>match XF P0 EAf Tryz.f37 (Tryz.f37.body.getD .skip) xs with
 | some r=>some (true,r)
 | none=>none
theorem xPE:OcOk P0 xT5 37 xFQ:=fun xs r h=>by
 unfold xFQ at h;split at h
 case h_2=>simp at h
 rename_i r0 hr;simp only [z6,zb,true_and] at h;subst h;exact xdX (p:=0) (xgd xTy (xTz P0 _) rfl xQs Tryz.func37 rfl (by kernel_rfl) (xhm fun _=>rfl) hr)
noncomputable def EAp:Env:={ Env.deep P0 mmA { EA0 with ls:=lsOf [1000035] } 5 with pin:=0 }
theorem xQt:xTo P0 (xT5.at 0) EAp:=xn2 (xhf xTy mmA (xTz P0 0) (E:={ EA0 with ls:=lsOf [1000035] }) xzu (fun _=>rfl) 5)
noncomputable def xFx:List AV->Option (Bool×AV):=fun xs=>match XF P0 EAp Tryz.f21 (Tryz.f21.body.getD .skip) xs with
 | some r=>some (true,r)
 | none=>none
theorem xPY:OcOk P0 xT5 21 xFx:=fun xs r h=>by
 unfold xFx at h;split at h
 case h_2=>simp at h
 rename_i r0 hr;simp only [z6,zb,true_and] at h;subst h;exact xdX (p:=0) (xgd xTy (xTz P0 _) rfl xQt Tryz.func21 rfl (by kernel_rfl) (xhm fun _=>rfl) hr)
noncomputable def EAv:Env:=(EAu.with 37 xFQ).with 21 xFx
theorem xQv:xTo P0 xT5 EAv:=(xQu.with xPE).with xPY
noncomputable def EAe:Env:={ Env.deep P0 mmA EAv 14 with pin:=0 }
theorem xPp:XF P0 EAe Tryz.f11 (Tryz.f11.body.getD .skip) []=some (.bool true):=by kernel_rfl
def xFL:List AV->Option (Bool×AV)
 | []=>some (true,.bool true)
 | _=>none
theorem xPo:OcOk P0 xT5 11 xFL:=fun xs r h=>by
 unfold xFL at h;split at h
 . simp only [z6,zb,true_and] at h;subst h;have hd:=xhf xTy mmA (xTz P0 0) xQv (fun _=>rfl) 14
   exact xdX (p:=0) (xgd xTy (xTz P0 _) rfl (xn2 hd) Tryz.func11 rfl (by kernel_rfl) (xhm fun _=>rfl) xPp)
 . simp at h
end Go.Sim.M
end
noncomputable section
set_option maxRecDepth 100000
namespace Go.Sim.M
open Go.IntKind (i64 u64 u8)
open Go.RowKit Go.Proofs
def EKAg:Env:=(((xL2.E.with 30 xzS).with 13 xy3).with 15 xw7).with 11 xFL
theorem xJy:xTo P0 xT5 EKAg:=(((xL2.ok.with xzR).with xy2).with xCG).with xPo
def xO9:EO:=EO.mk EKAg xJy
def xcS {T:Type} (l:LA) (j t:Int) (b:LA) (i:Int) (g h:LA) (c d:Int) (f:LA) (e:Nat) (a:LA) (δ:T) (κl:(Int×LA×LA×Int×Int×LA×Nat×LA)->T) (κr:(LA×LA×LA×Nat×LA)->T):T:=br (decide (i<b.length)) (br (ixI b i) (br (ixT b i 3 [Sh.int .i64,Sh.int .i64] 1) (br (xrC (gC b i 1).toInt (gC b i 2).toInt c d) (br (ixI b i) (br (ixS b i (Sh.list 3) 0) (br (rmB e a 1 24) (κl (i64.wrap (i+1),g,h,c,d,f,e+1,a++[AV.list 3 (gC b i 0).toList])) δ) δ) δ) (κl (i64.wrap (i+1),g,h,c,d,f,e,a))) δ) δ) (κr (g,h,f,e,a))
def xbC (l:LA) (g t:Int) (b:LA):StT (Int×LA×LA×Int×Int×LA×Nat×LA) (LA×LA×LA×Nat×LA):=fun (i,h,j,a,c,e,f,d)=>xcS l g t b i h j a c e f d none inL inR
def xm5:=xO9.l 99 0 [57] [] Tryz.f7 0 lk0 [1,3,7,8,9,10,11,12] [1,3,7,8,11] [(11,1,57)] (q8 (qL 2) (xUl 0 0 0 0) qI qI (qL 3) (xUl 1 0 0 0) (xUl 2 0 0 0) qI) (q4 (qB 0 2 25 (q1 (xUm (q2 (qL 1) (qL 3))))) (qB 0 2 35 (q1 (xUm (q2 qI qI)))) (xUn 0 2 49 false false (q1 (xUm (q2 (qL 1) (xUk 3 0 0))))) (qB 0 1 57 xUa)) (fun (l,_,e,t,b,_,_,i,_) (((h,j,_),_),((a,c,_),_),((f,g,_),_),d,_)=>(xbC l e t b,(i,h,j,a,c,f,g,d),fun p=>(.leaf (.exit 0) [AV.list 2 l,AV.own 0 0 0 0,AV.int .i64 e,AV.int .i64 t,AV.own 1 0 0 0] [bF 0 2 25 [AV.agg [AV.list 1 p.1,AV.list 3 p.2.1]],⟨0,2,49,[AV.agg [AV.list 1 p.2.2.1,AV.osl 2 0 0 p.2.2.2.1]],false,false⟩,bF 0 1 57 p.2.2.2.2]))) ([],[],[],0,[]) fun (l,_,e,t,b,_,_,_,_) _ (i,h,j,a,c,f,g,d)=>(((l,(),e,t,b,(),(),i,()),(((h,j,()),()),((a,c,()),()),((f,g,()),()),d,())),xcS l e t b i h j a c f g d none)
def xic (d b l:LA) (c a:Int):=Iter (xbC l c a ((xk5 b).getD [])) (0,d,b,if i64.wrap (i64.wrap (a - c)+1)>0 then i64.wrap (i64.wrap (a - c)+1) else 0,i64.wrap (a+1),d,0,[])
def xib (b a l:LA) (c d:Int):=(xic b a l c d).getD ([],[],[],0,[])
def xdb (b a l:LA) (c d:Int):=(xib b a l c d).fst
def xia (b a l:LA) (c d:Int):=(xib b a l c d).snd
def xda (b a l:LA) (c d:Int):=(xia b a l c d).fst
def xh9 (b a l:LA) (c d:Int):=(xia b a l c d).snd
def xiF (c a l:LA) (b d:Int):=(xjC (xdb c a l b d) (xda c a l b d) l b).getD ([],[])
def xiG (b a l:LA) (c d:Int):=xjC (xdb b a l c d) (xda b a l c d) l 1
def xh5 (b a l:LA) (c d:Int):=xfR (xdb b a l c d) (xda b a l c d) [] l
def xh8 (b a l:LA) (c d:Int):=(xh9 b a l c d).snd
def xiA (c a l:LA) (d b:Int):=xwK (xiF c a l d b).fst (xiF c a l d b).snd b
def xiD (b a l:LA) (c d:Int):=(xiG b a l c d).getD ([],[])
def xiE (b a l:LA) (c d:Int):=(xh5 b a l c d).getD ([],[])
def xh6 (b a l:LA) (c d:Int):=(xh8 b a l c d).snd
def xh7 (b a l:LA) (c d:Int):=(xh8 b a l c d).fst
def xiy (b a l:LA) (c d:Int):=xAV (xiD b a l c d).fst (xiD b a l c d).snd (xiE b a l c d).fst (xiE b a l c d).snd
def xiz (b a l:LA) (c d:Int):=(xiA b a l c d).getD ([],[])
def xiC (b a l:LA) (c d:Int):=xfP (xh9 b a l c d).fst (List.take (xh7 b a l c d) (List.drop 0 (xh6 b a l c d))) [] l
def xiB (b a l:LA) (c d:Int):=(xiC b a l c d).getD ([],[])
def xiw (b a l:LA) (c d:Int):=xyM (xiz b a l c d).fst (xiz b a l c d).snd (xiB b a l c d).fst (xiB b a l c d).snd
def xjK {T:Type} (c a l:LA) (b d:Int) (δ:T) (κ:Bool->T):T:=br ((xqz c a [] l).isSome) (br (!(xqz c a [] l).getD false) (κ (true)) (br (decide (d<0)) (κ (true)) (br (decide (d>=1099511627776)) (κ (true)) (br (decide (b<1)) (κ (true)) (br (decide (b>1099511627776)) (κ (true)) (br ((xk5 a).isSome) (br ((xic c a l b d).isSome) (br ((xjC (xdb c a l b d) (xda c a l b d) l b).isSome) (br ((xiA c a l b d).isSome) (br (decide (0+xh7 c a l b d<=(xh6 c a l b d).length)&&true&&true) (br ((xiC c a l b d).isSome) (br ((xiw c a l b d).isSome) (br ((xiw c a l b d).getD false) (br ((xiG c a l b d).isSome) (br ((xh5 c a l b d).isSome) (br ((xiy c a l b d).isSome) (br ((xiy c a l b d).getD false) (κ (true)) (κ (false))) δ) δ) δ) (κ (false))) δ) δ) δ) δ) δ) δ) δ)))))) δ
def xlx (b a l:LA) (c d:Int):=xjK b a l c d none some
def xzM:LA->Option (Bool×AV):=fnO (u3 (xUp (u2 (uL 1) (uL 3))) (uL 2) (xUp (u2 uI uI))) (fun ((b,a,_),l,(c,d,_),_) _=>xjK b a l c d) (fun _ p=>AV.bool p) false
theorem xzL:OcOk P0 xT5 7 xzM:=fnC xJy Tryz.func7 99 0 [57] [(8,xm5.lp)] (lk1 xm5.ok)
end Go.Sim.M
end
