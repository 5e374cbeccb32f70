/- Part 15 of the proof of the law. -/
import Derived.Test.YtcekkkdjdfiipaaGreatDoorUF14
import Derived.Deep.LoopGhost
import Derived.Lib.SliceRun
set_option linter.unusedVariables false
set_option linter.unusedSimpArgs false
set_option maxRecDepth 100000
noncomputable section
namespace Go.Proofs
open Go.RowKit Go.Lib Go.Shelf
set_option maxHeartbeats 2000000 in
set_option maxRecDepth 100000 in
theorem Tryz.clone_nil (n c:Nat) (w:World) :
  Calls Tryz.prog 121 #[.slice none n c] w fun e w'=>e=.returned (.slice none 0 0)/\w'=w:=by
 have q22:∀ (w:World) (a:Option Addr) (n c n' c':Nat),(binOp .eql 34 (.slice a n c) (.slice none n' c')).run Tryz.prog w=.ok (.bool a.isNone) w:=fun w a n c n' c'=>Lib.run_eql_slice_nil w 34 64 a n c n' c' (by kernel_rfl)
 go_enter Tryz.func121,Tryz.ntmps121
 go_wp2
 go_ret
 exact ⟨rfl,rfl⟩
set_option maxHeartbeats 2000000 in
set_option maxRecDepth 100000 in
theorem Tryz.clone_some (i0:TypeInfo) (z:Value) (hi:Tryz.prog.info? 64=some i0) (Z:i0.zero=some z) (U:i0.size=3) (Y:i0.bytes=32) (W:z.cells.size=3)
  (a:Addr) (n c:Nat) (news:List Value) (w:World) (hl:news.length=n*3) (hn:n<=maxLen) (O:n*32<=140737488355328)
  (hc:∀ j u,news[j]?=some u->w.cell? (a.add j)=some u) (h1:∀ u∈news,u.oneCell'=true) :
  Calls Tryz.prog 121 #[.slice (some a) n c] w fun e w'=>∃ v',e=.returned v'/\w'.ownsRow w.heap.size 64 3 v' n news/\Below w.heap.size w w':=by
 have q:Tryz.prog.underlying 34=some (.slice 64):=by kernel_rfl
 have q22:∀ (w:World) (a:Option Addr) (n c n' c':Nat),(binOp .eql 34 (.slice a n c) (.slice none n' c')).run Tryz.prog w=.ok (.bool a.isNone) w:=fun w a n c n' c'=>Lib.run_eql_slice_nil w 34 64 a n c n' c' q
 have u22:∀ w,Sem.run Tryz.prog (underlying 34) w=.ok (TypeDesc.slice 64) w:=run_underlying q;have A:Aside (∀ j u,news[j]?=some u->w.cell? (a.add j)=some u):=hc;clear hc
 go_enter Tryz.func121,Tryz.ntmps121
 go_wp2_with (at_builtin;refine wpList_append_own _ rfl _ _ 34 rfl w.heap.size 64 i0 z 3 32 q hi Z U Y W (by decide) _ _ _ rfl (World.ownsRow_made w #[] 0 (Nat.le_refl _) (Nat.zero_le _) (by simp)) a n c news rfl ?qc1 ?qc2 ?qc3 ?qc4 ?qc5 ?qc6 ?_)
 case qc1=>exact hl
 case qc2 =>
  intro j u hj;exact Lib.cell?_alloc_some _ (A.out j u hj)
 case qc3=>exact h1
 case qc4=>rw [Nat.zero_add];exact hn
 case qc5=>rw [Nat.zero_add];exact O
 case qc6=>simp
 intro v' w1 Q J aa
 go_wp2
 go_ret
 refine ⟨v',rfl,by simpa using Q,?_⟩
 exact ((Below.refl _ w).alloc (Nat.le_refl _) _).grown J (by simp) (by intro k hk;simp [Value.ownBlock] at hk;omega)
end Go.Proofs
namespace Go.Sim
open Go.RowKit Go.Proofs
def xrg:List AV->Option (Bool×AV)
 | [.list 3 xs]=>some (decide (xs.length<=4398046511104),.list 3 xs)
 | _=>none
theorem xsM {w w':World} {A:Nat->Prop} {e:TypeId} {sz:Nat} {v:Value} {xs:List AV} {news:List Value} (hl:∀ b,A b->b<w.heap.size) (Q:w'.ownsRow w.heap.size e sz v xs.length news) (W:∀ x,x∈xs->x.okElem sz=true)
  (hr:∀ i j,i<xs.length->j<sz->Rel w' A xKW (news.getD (i*sz+j) undef) ((xs.getD i .top).cells.getD j .top)):Rel w' A xKW v (.list sz xs):=by
 obtain ⟨aa,h⟩:=Q;rcases h with ⟨rfl,h0⟩|⟨g,cap,cur,rfl,hg,hh,O,ab,U,Z⟩
 . have:xs=[]:=List.eq_nil_of_length_eq_zero h0;subst this;exact .list0 _ _ _
 . by_cases hne:xs=[]
   . subst hne;exact .list0 _ _ _
   . have Y:g<w'.heap.size:=by
      rcases Nat.lt_or_ge g w'.heap.size with h|h
      . exact h
      . rw [Array.getElem?_eq_none h] at hh;simp at hh
     have q:∀ i j,i<xs.length->j<sz->w'.cell? ⟨g,0+i*sz+j,none⟩=some (news.getD (i*sz+j) undef):=fun i j hi hj=>by
      have hk:i*sz+j<xs.length*sz:=xcw hi hj;have J:i*sz+j<cur.size:=by
       rw [U];exact Nat.lt_of_lt_of_le hk (Nat.mul_le_mul_right _ O)
      have e1:news.getD (i*sz+j) undef=cur[i*sz+j]:=by
       rw [<-Z];simp [List.getD_eq_getElem?_getD,List.getElem?_take,hk,J]
      rw [e1,Nat.zero_add];simp [World.cell?,hh,J]
     exact .list g 0 cap sz xs (fun i j=>news.getD (i*sz+j) undef) (fun hA=>by have:=hl g hA;omega) Y hne O W q hr
theorem xwa:OcOk Tryz.prog xLp 121 xrg:=fun xs r h=>by
 unfold xrg at h;split at h
 . rename_i xs;simp only [Option.some.injEq,Prod.mk.injEq,decide_eq_true_eq] at h;obtain ⟨ab,rfl⟩:=h;refine ⟨xd5 Tryz.func121 rfl (by kernel_rfl),fun w A vs hI hA aa=>?_⟩
   obtain ⟨v,rfl,h1⟩:=rc1 aa;have J:∃ ti,xKI Tryz.prog 64=some ti/\ti.sz=3/\ti.bytes=32/\ti.zero.okElem 3=true:=by
    have h:(match xKI Tryz.prog 64 with|some ti=>(ti.sz==3)&&((ti.bytes==32)&&ti.zero.okElem 3)|none=>false)=true:=by kernel_rfl
    split at h
    . rename_i ti J;simp only [Bool.and_eq_true,beq_iff_eq] at h;exact ⟨ti,J,h.1,h.2.1,h.2.2⟩
    . simp at h
   obtain ⟨ti,J,s1,s2,s3⟩:=J;obtain ⟨i,z,g1,g2,g3,g4,g5,g6,_⟩:=xaW J;have W:z.cells.size=3:=by
    have Z:Rel w A xKW z ti.zero:=by rw [g6];exact xcf w A xKW z
    rw [(Z.cells (xaC s3)).1,xao s3]
   have Y:∀ n c,v=.slice none n c->xs=[]->Calls Tryz.prog 121 [v].toArray w fun e w'=>∃ v,e=.returned v/\Below w.heap.size w w'/\Rel w' A xKW v (.list 3 xs):=by
    rintro n c rfl rfl;refine (Tryz.clone_nil n c w).mono ?_;rintro e w' ⟨rfl,rfl⟩;exact ⟨_,rfl,Below.refl _ _,.list0 _ _ _⟩
   have Q:∀ b off c (val:Nat->Nat->Value),v=.slice (some ⟨b,off,none⟩) xs.length c->(∀ x,x∈xs->x.okElem 3=true)->(∀ i j,i<xs.length->j<3->w.cell? ⟨b,off+i*3+j,none⟩=some (val i j))->(∀ i j,i<xs.length->j<3->Rel w A xKW (val i j) ((xs.getD i .top).cells.getD j .top)) ->
     Calls Tryz.prog 121 [v].toArray w fun e w'=>∃ v,e=.returned v/\Below w.heap.size w w'/\Rel w' A xKW v (.list 3 xs):=by
    rintro b off c val rfl U hc hr;have hs:∀ i j,i<xs.length->j<3->∃ u,w.cell? ⟨b,off+(i*3+j),none⟩=some u/\Rel w A xKW u ((xs.getD i .top).cells.getD j .top):=fun i j hi hj=>⟨val i j,by rw [<-Nat.add_assoc];exact hc i j hi hj,hr i j hi hj⟩
    refine (Tryz.clone_some i z g1 g3 (by rw [<-g4,s1]) (by rw [<-g5,s2]) W ⟨b,off,none⟩ xs.length c (xK7 w b off (xs.length*3)) w (xfm _ _ _ _) (by unfold maxLen;omega) (by omega)
     (fun j u hj=>xrT (by decide) hs j u hj) (xBM (by decide) hs U)).mono ?_
    rintro e w' ⟨v',rfl,O,q⟩;exact ⟨v',rfl,q,xsM hA O U fun i j hi hj=>(xBN hs hi hj).grow q⟩
   have h1':=h1;generalize hx:AV.list 3 xs=x at h1;cases h1 with
   | list0 a cap sz =>
    simp only [AV.list.injEq] at hx;obtain ⟨rfl,rfl⟩:=hx;cases a with
    | none=>exact Y 0 cap rfl rfl
    | some a =>
     refine (Tryz.clone_some i z g1 g3 (by rw [<-g4,s1]) (by rw [<-g5,s2]) W a 0 cap [] w rfl (Nat.zero_le _) (by omega) (by simp) (by simp)).mono ?_
     rintro e w' ⟨v',rfl,O,q⟩;exact ⟨v',rfl,q,xsM hA (xs:=[]) O (by simp) (by simp)⟩
   | list b off cap sz ys val ha hb hne hcap hsz hc hr =>
    simp only [AV.list.injEq] at hx;obtain ⟨rfl,rfl⟩:=hx;exact Q b off cap val rfl hsz hc hr
   | _=>simp at hx
 . simp at h
end Go.Sim
namespace Go.Sim.M
open Go.IntKind (i64 u64 u8)
open Go.RowKit Go.Proofs
def xy4:EO:=xHP.w xwa
def xcn (a:Nat) (j:Int):=decide (0<=i64.wrap (j - 1))&&decide (i64.wrap (j - 1)<(↑a:Int))
def xak (j:Int):Nat:=0+(i64.wrap (j - 1)).toNat
def xco (a:Nat) (j:Int):=decide (0<=j)&&decide (j<(↑a:Int))
def xeo (j:Int) (a:LA):=decide (0+j.toNat<a.length)
def xem (j:Int) (a:LA):=decide (xak j<a.length)&&xKH (Sh.list 3) ((a.getD (xak j) .top).cells.getD 0 .top)
def xen (j:Int) (a:LA):=xeo j a&&xKH (Sh.list 3) ((a.getD (0+j.toNat) .top).cells.getD 0 .top)
def xeE {T:Type} (d:Nat) (a b i j:Int) (c:LA) (δ:T) (κl:(Int×LA)->T) (κr:(LA)->T):T:=br (decide (j>a)) (br (xco d j) (br (xen j c) (br (xcn d j) (br (xem j c) (br ((xch ((c.getD (0+j.toNat) .top).cells.getD 0 .top).toList ((c.getD (xak j) .top).cells.getD 0 .top).toList).isSome) (br (decide ((xch ((c.getD (0+j.toNat) .top).cells.getD 0 .top).toList ((c.getD (xak j) .top).cells.getD 0 .top).toList).getD 0<0)) (br (xcn d j) (br (xem j c) (br (xco d j) (br (xen j c) (br (xco d j) (br (xeo j c) (br (xcn d j) (br (decide (xak j<(c.set (0+j.toNat) (AV.list 3 ((c.getD (xak j) .top).cells.getD 0 .top).toList)).length)) (κl (i64.wrap (j - 1),(c.set (0+j.toNat) (AV.list 3 ((c.getD (xak j) .top).cells.getD 0 .top).toList)).set (xak j) (AV.list 3 ((c.getD (0+j.toNat) .top).cells.getD 0 .top).toList))) δ) δ) δ) δ) δ) δ) δ) δ) (κr (c))) δ) δ) δ) δ) δ) (κr (c))
def xa2 (d:Nat) (a b i:Int):StT (Int×LA) (LA):=fun (j,c)=>xeE d a b i j c none inL inR
def xbm:=xy4.l 53 1 [34] [] Tryz.f171 1 lk0 [0,1,2,3,8,9] [0,1,2,3,8] [] (q6 (xLD 0 0 0) qI qI (xK5 99 xLs) qI qI) (q1 (qB 0 1 34 xLu)) (fun (c,a,b,_,i,j,_) (d,_)=>(xa2 c a b i,(j,d),fun p=>(.leaf (.exit 2) [AV.osl 0 0 0 c,AV.int .i64 a,AV.int .i64 b,AV.func 99 [],AV.int .i64 i] [bF 0 1 34 p]))) [] fun (c,a,b,_,i,_,_) _ (j,d)=>(((c,a,b,(),i,j,()),(d,())),xeE c a b i j d none)
def xeD {T:Type} (d:Nat) (a b i:Int) (c:LA) (δ:T) (κl:(Int×LA)->T) (κr:(LA)->T):T:=br (decide (i<b)) (br ((Iter (xa2 d a b i) (i,c)).isSome) (κl (i64.wrap (i+1),(Iter (xa2 d a b i) (i,c)).getD [])) δ) (κr (c))
def xa1 (d:Nat) (a b:Int):StT (Int×LA) (LA):=fun (i,c)=>xeD d a b i c none inL inR
def xel:=xy4.l 53 1 [34] [(4,xbm.lp)] Tryz.f171 0 (lk1 xbm.ok) [0,1,2,3,8] [] [] (q5 (xLD 0 0 0) qI qI (xK5 99 xLs) qI) (q1 (qB 0 1 34 xLu)) (fun (d,a,b,_,i,_) (c,_)=>(xa1 d a b,(i,c),fun p=>(.leaf (.exit 0) [] [bF 0 1 34 p]))) [] fun (d,a,b,_,_,_) _ (i,c)=>(((d,a,b,(),i,()),(c,())),xeD d a b i c none)
def xda {T:Type} (n:Nat) (a b:Int) (c:LA) (δ:T) (κ:LA->T):T:=br ((Iter (xa1 n a b) (i64.wrap (a+1),c)).isSome) (κ ((Iter (xa1 n a b) (i64.wrap (a+1),c)).getD [])) δ
def xaQ (n:Nat) (a b:Int) (c:LA):=xda n a b c none some
def xyW:EO:=xy4.fM Tryz.func171 53 1 [34] [(4,xbm.lp),(1,xel.lp)] (lks (lkC xel.ok (lkC xbm.ok lkN))) (u4 (sEq (xLD 0 0 0)) uI uI (sEq (xK5 (99:FuncId) xLs))) (q1 (qB 0 1 34 xLu)) (fun (n,a,b,_,_) (c,_) _=>xda n a b c) (fun _ _ p=>(AV.tuple [],([bF 0 1 34 p]:List Box))) []
def xd9 {T:Type} (d:Nat) (n e a b:Int) (c:LA) (δ:T) (κl:(Int×Int×LA)->T) (κr:(Int×LA)->T):T:=br (decide (b<=n)) (br ((xaQ d a b c).isSome) (κl (b,i64.wrap (b+e),(xaQ d a b c).getD [])) δ) (κr (a,c))
def xbb (e:Nat) (n c:Int):StT (Int×Int×LA) (Int×LA):=fun (a,b,d)=>xd9 e n c a b d none inL inR
def xcr:=xyW.l 63 1 [34] [] Tryz.f145 0 lk0 [0,1,2,6,7,8] [0,1,2,6,7] [] (q6 (xLD 0 0 0) qI (xK5 99 xLs) qI qI qI) (q1 (qB 0 1 34 xLu)) (fun (d,n,_,c,a,b,_) (e,_)=>(xbb d n c,(a,b,e),fun p=>(.leaf (.exit 0) [AV.osl 0 0 0 d,AV.int .i64 n,AV.func 99 [],AV.int .i64 c,AV.int .i64 p.1] [bF 0 1 34 p.2]))) (0,[]) fun (d,n,_,c,_,_,_) _ (a,b,e)=>(((d,n,(),c,a,b,()),(e,())),xd9 d n c a b e none)
def xhg {T:Type} (d:Nat) (n e a b:Int) (c:LA) (δ:T) (κl:(Int×Int×LA)->T) (κr:(Int×LA)->T):T:=br (decide (b<=n)) (br (decide (0+d<=c.length)&&true) δ δ) (κr (a,c))
def xf4 (e:Nat) (n c:Int):StT (Int×Int×LA) (Int×LA):=fun (a,b,d)=>xhg e n c a b d none inL inR
def xcs:=xyW.l 63 1 [34] [(2,xcr.lp)] Tryz.f145 2 lk0 [0,1,2,6,7,8] [0,1,2,6,7] [] (q6 (xLD 0 0 0) qI (xK5 99 xLs) qI qI qI) (q1 (qB 0 1 34 xLu)) (fun (d,n,_,c,a,b,_) (e,_)=>(xf4 d n c,(a,b,e),fun p=>(.leaf (.exit 4) [AV.osl 0 0 0 d,AV.int .i64 n,AV.func 99 [],AV.int .i64 c,AV.int .i64 p.1] [bF 0 1 34 p.2]))) (0,[]) fun (d,n,_,c,_,_,_) _ (a,b,e)=>(((d,n,(),c,a,b,()),(e,())),xhg d n c a b e none)
def xgT (c:Nat) (n a:Int) (b:LA):=Iter (xf4 c n a) (0,i64.wrap (2*a),b)
def xgS (c:Nat) (n a:Int) (b:LA):=(xgT c n a b).getD (0,[])
def xgR (c:Nat) (n a:Int) (b:LA):=(xgS c n a b).snd
def xea {T:Type} (c:Nat) (n a:Int) (b:LA) (δ:T) (κl:(Int×LA)->T) (κr:(LA)->T):T:=br (decide (a<n)) (br ((xgT c n a b).isSome) (br (decide (i64.wrap ((xgS c n a b).fst+a)<n)) (br (decide (0+c<=(xgR c n a b).length)&&true) δ δ) (κl (i64.wrap (a*2),xgR c n a b))) δ) (κr (b))
def xbY (c:Nat) (n:Int):StT (Int×LA) (LA):=fun (a,b)=>xea c n a b none inL inR
def xgQ:=xyW.l 63 1 [34] [(2,xcr.lp),(9,xcs.lp)] Tryz.f145 1 (lk1 xcs.ok) [0,1,2,6] [] [] (q4 (xLD 0 0 0) qI (xK5 99 xLs) qI) (q1 (qB 0 1 34 xLu)) (fun (c,n,_,a,_) (b,_)=>(xbY c n,(a,b),fun p=>(.leaf (.exit 2) [] [bF 0 1 34 p]))) [] fun (c,n,_,_,_) _ (a,b)=>(((c,n,(),a,()),(b,())),xea c n a b none)
def xeW (n:Nat) (k:Int) (a:LA):=(Iter (xbb n k 20) (0,20,a)).getD (0,[])
def xeV (n:Nat) (k:Int) (a:LA):=xaQ n (xeW n k a).fst k (xeW n k a).snd
def xeU (n:Nat) (k:Int) (a:LA):=Iter (xbY n k) (20,(xeV n k a).getD [])
def xfk {T:Type} (n:Nat) (k:Int) (a:LA) (δ:T) (κ:LA->T):T:=br ((Iter (xbb n k 20) (0,20,a)).isSome) (br ((xeV n k a).isSome) (br ((xeU n k a).isSome) (κ ((xeU n k a).getD [])) δ) δ) δ
def xdx (n:Nat) (k:Int) (a:LA):=xfk n k a none some
def xIX:EO:=xyW.fM Tryz.func145 63 1 [34] [(2,xcr.lp),(9,xcs.lp),(7,xgQ.lp)] (lks (lkC xcr.ok (lkC xgQ.ok (lkC xcs.ok lkN)))) (u3 (sEq (xLD 0 0 0)) uI (sEq (xK5 (99:FuncId) xLs))) (q1 (qB 0 1 34 xLu)) (fun (n,k,_,_) (a,_) _=>xfk n k a) (fun _ _ p=>(AV.tuple [],([bF 0 1 34 p]:List Box))) []
def xeS {T:Type} (n:Nat) (a:LA) (δ:T) (κ:LA->T):T:=br ((xdx n (↑n:Int) a).isSome) (κ ((xdx n (↑n:Int) a).getD [])) δ
def xjB (n:Nat) (a:LA):=xeS n a none some
def xGa:EO:=xIX.fM Tryz.func122 9 1 [34] [] lk0 (u2 (sEq (xLD 0 0 0)) (sEq (xK5 (99:FuncId) xLs))) (q1 (qB 0 1 34 xLu)) (fun (n,_,_) (a,_) _=>xeS n a) (fun _ _ p=>(AV.tuple [],([bF 0 1 34 p]:List Box))) []
def xft {T:Type} (d:LA) (e:Int) (c:Nat) (b:Int) (a:LA) (δ:T) (κl:(Nat×Int×LA)->T) (κr:(Nat×LA)->T):T:=br (decide (b<e)) (br (ixI d b) (br (ixS d b (Sh.list 3) 0) (br (decide ((gC d b 0).toList.length<=4398046511104)) (br (rmB c a 1 24) (κl (c+1,i64.wrap (b+1),a++[AV.list 3 (gC d b 0).toList])) δ) δ) δ) δ) (κr (c,a))
def xbj (c:LA) (d:Int):StT (Nat×Int×LA) (Nat×LA):=fun (b,e,a)=>xft c d b e a none inL inR
def xma:=xGa.l 27 0 [34] [] Tryz.f98 0 lk0 [1,5,11,12,13] [1,5] [(5,1,34)] (q5 (xK5 99 xLs) (xLD 0 0 0) (qL 1) qI qI) (q1 (qB 0 1 34 xLu)) (fun (_,b,c,d,e,_) (a,_)=>(xbj c d,(b,e,a),fun p=>(.leaf (.exit 0) [AV.func 99 [],AV.osl 0 0 0 p.1] [bF 0 1 34 p.2]))) (0,[]) fun (_,_,c,d,_,_) _ (b,e,a)=>((((),b,c,d,e,()),(a,())),xft c d b e a none)
def xjY (l:LA):=(Iter (xbj l (↑l.length:Int)) (0,0,[])).getD (0,[])
def xgB (l:LA):=(xjY l).fst
def xjX (l:LA):=xjB (xgB l) (xjY l).snd
def xjW (l:LA):=(xjX l).getD []
def xkW {T:Type} (l:LA) (δ:T) (κ:LA->T):T:=br (decide (24*(↑l.length:Int)<=281474976710656)&&decide ((↑l.length:Int)<=4611686018427387904)) (br ((Iter (xbj l (↑l.length:Int)) (0,0,[])).isSome) (br ((xjX l).isSome) (br (decide (0+xgB l<=(xjW l).length)&&true) (κ (List.take (xgB l) (List.drop 0 (xjW l)))) δ) δ) δ) δ
def xnc (l:LA):=xkW l none some
def xIY:EO:=xGa.f Tryz.func98 27 0 [34] [(3,xma.lp)] (lk1 xma.ok) (u2 (uL 1) (sEq (xK5 (99:FuncId) xLs))) (fun (l,_,_) _=>xkW l) (fun _ p=>AV.list 1 p) []
def xpZ {T:Type} (l:LA) (δ:T) (κ:LA->T):T:=br ((xnc l).isSome) (κ ((xnc l).getD [])) δ
def xo2 (l:LA):=xpZ l none some
def xGb:EO:=xIY.f Tryz.func70 5 0 [] [] lk0 (u1 (uL 1)) (fun (l,_) _=>xpZ l) (fun _ p=>AV.list 1 p) []
def xhj {T:Type} (t:Int) (d:LA) (e:Int) (c:Nat) (b:Int) (a:LA) (δ:T) (κl:(Nat×Int×LA)->T) (κr:(Nat×LA)->T):T:=br (decide (b<e)) (br (ixI d b) (br (ixT d b 3 [Sh.list 3,Sh.int .i64,Sh.int .i64] 0) (br (xlF (gC d b 1).toInt (gC d b 2).toInt t) (br (rmB c a 1 24) (κl (c+1,i64.wrap (b+1),a++[AV.list 3 (gC d b 0).toList])) δ) (κl (c,i64.wrap (b+1),a))) δ) δ) (κr (c,a))
def xcH (t:Int) (d:LA) (e:Int):StT (Nat×Int×LA) (Nat×LA):=fun (b,c,a)=>xhj t d e b c a none inL inR
def xoD:=xGb.l 26 0 [] [] Tryz.f39 0 lk0 [1,5,8,9,10] [5] [(5,1,34)] (q5 qI (xLD 0 0 0) (qL 3) qI qI) (q1 (qB 0 1 34 xLu)) (fun (t,b,d,e,c,_) (a,_)=>(xcH t d e,(b,c,a),fun p=>(.leaf (.exit 0) [AV.osl 0 0 0 p.1] [bF 0 1 34 p.2]))) (0,[]) fun (t,_,d,e,_,_) _ (b,c,a)=>(((t,b,d,e,c,()),(a,())),xhj t d e b c a none)
def xmB (l:LA) (t:Int):=(Iter (xcH t l (↑l.length:Int)) (0,0,[])).getD (0,[])
def xmz (l:LA) (t:Int):=(xmB l t).snd
def xmA (l:LA) (t:Int):=(xmB l t).fst
def xmy (l:LA) (t:Int):=xo2 (List.take (xmA l t) (List.drop 0 (xmz l t)))
def xoa {T:Type} (l:LA) (t:Int) (δ:T) (κ:LA->T):T:=br ((Iter (xcH t l (↑l.length:Int)) (0,0,[])).isSome) (br (decide (0+xmA l t<=(xmz l t).length)&&true) (br ((xmy l t).isSome) (κ ((xmy l t).getD [])) δ) δ) δ
def xe1 (l:LA) (t:Int):=xoa l t none some
def xDv:EO:=xGb.f Tryz.func39 26 0 [] [(3,xoD.lp)] (lk1 xoD.ok) (u2 (uL 3) uI) (fun (l,t,_) _=>xoa l t) (fun _ p=>AV.list 1 p) []
def xhb:Env:=xDv.E.fn 23 0 (lsOf []) (xK4 [])
theorem xvD:xKJ P0 (xLp.at 0) xhb:=xDv.ok.fn
theorem xtw:LoOk P0 (xLp.at xhb.pin) xhb (Tryz.f15.body.getD .skip):=xgk (by kernel_rfl)
def xka {T:Type} (e:List UInt8) (b a c d l f:LA) (g:Int) (δ:T) (κ:Bool×(Bool)×(LA×Bool)->T):T:=br ((xci e b a c d l f).isSome) (br ((xe1 ((xci e b a c d l f).getD []) g).isSome) (br ((↑((xe1 ((xci e b a c d l f).getD []) g).getD []).length:Int)==0) (κ (true,(false),([],false))) (br (decide (0<(↑((xe1 ((xci e b a c d l f).getD []) g).getD []).length:Int))) (br (decide (0<((xe1 ((xci e b a c d l f).getD []) g).getD []).length)&&xKH (Sh.list 3) ((((xe1 ((xci e b a c d l f).getD []) g).getD []).getD 0 .top).cells.getD 0 .top)) (κ (false,false,(((((xe1 ((xci e b a c d l f).getD []) g).getD []).getD 0 .top).cells.getD 0 .top).toList,true))) δ) δ)) δ) δ
def xc9 (e:List UInt8) (b a c d l f:LA) (g:Int):Option (LA×Bool):=xka e b a c d l f g none (fun (p:Bool×(Bool)×(LA×Bool))=>some (br p.1 (([],p.2.1)) p.2.2))
theorem xBd (e:List UInt8) (b a c d l f:LA) (g:Int):EncS (fun (p:LA×Bool)=>(AV.tuple [AV.list 3 p.1,AV.bool p.2]:AV)) (xc9 e b a c d l f g) (XF P0 xhb Tryz.f15 (Tryz.f15.body.getD .skip) [AV.agg [AV.str e,AV.list 3 b,AV.list 1 a,AV.list 2 c,AV.list 7 d],AV.list 3 l,AV.list 3 f,AV.int .i64 g]):=by
 have h:XF P0 xhb Tryz.f15 (Tryz.f15.body.getD .skip) [AV.agg [AV.str e,AV.list 3 b,AV.list 1 a,AV.list 2 c,AV.list 7 d],AV.list 3 l,AV.list 3 f,AV.int .i64 g]=xka e b a c d l f g none (fun (p:Bool×(Bool)×(LA×Bool))=>some ((br p.1 (AV.tuple [AV.nils,AV.bool p.2.1]) (AV.tuple [AV.list 3 p.2.2.1,AV.bool p.2.2.2])):AV)):=by kernel_rfl
 rw [h];unfold xc9 xka;repeat' (first|exact EncS.none|exact EncS.some (Sub.refl _)|exact EncS.some (xrV _)|exact EncS.some (xsh _ _)|refine EncS.br ?_ ?_)
def xBc:LA->Option (Bool×AV):=ocOf (xLr (xLI (xLr (sEq pStr) (xLr (xLH 3 xLu) (xLr (xLH 1 xLu) (xLr (xLH 2 xLu) (xLr (xLH 7 xLu) xLt)))))) (xLr (xLH 3 xLu) (xLr (xLH 3 xLu) (xLr (sEq (pInt .i64)) xLt)))) fun ((e,(b,(a,(c,(d,_))))),(l,(f,(g,_))))=>((xc9 e b a c d l f g).isSome,(AV.tuple [AV.list 3 ((xc9 e b a c d l f g).getD ([],false)).1,AV.bool ((xc9 e b a c d l f g).getD ([],false)).2]))
theorem xBb:OcOk P0 xLp 15 (xBc):=xfF fun h q i=>by
 obtain ⟨⟨j,⟨e,⟨a,⟨f,⟨g,_⟩⟩⟩⟩⟩,⟨l,⟨n,⟨o,_⟩⟩⟩⟩:=h;obtain ⟨b,c⟩:=Prod.mk.inj i;obtain ⟨y,k,m⟩:=xBd _ _ _ _ _ _ _ _ _ (xaL (d:=([],false)) b);have hg:Good P0 xLp 15 _ _:=xhl (p:=xhb.pin) (xjf xKS (xKT P0 _) rfl xvD Tryz.func15 rfl (by kernel_rfl) xtw k)
 rw [<-c];exact Good.sub hg m
def xHm:EO:=xHL.w xrl
def xHn:EO:=xHm.w xmn
def xHo:EO:=xHn.w xoM
def xHp:EO:=xHo.w xBb
def xCp (n:Int) (c:List UInt8) (a b:Int):LA×Int×Int:=(([AV.agg [AV.int .i64 1,AV.int .i64 n,AV.str []],AV.agg [AV.int .i64 2,AV.int .i64 0,AV.str c]],a,b))
def xzI {T:Type} (n:Int) (c:List UInt8) (a b:Int) (δ:T) (κ:LA×Int×Int->T):T:=κ ([AV.agg [AV.int .i64 1,AV.int .i64 n,AV.str []],AV.agg [AV.int .i64 2,AV.int .i64 0,AV.str c]],a,b)
def xHk:EO:=xHp.fT Tryz.func29 18 0 [] [] lk0 (fun (n,c,a,b,_)=>xzI n c a b none) (u4 uI (sEq pStr) uI uI) (fun (n,c,a,b,_)=>xCp n c a b) (fun _ p=>(AV.agg [AV.list 3 p.1,AV.int .i64 p.2.1,AV.int .i64 p.2.2]))
def xlv:=xc9 [(116:UInt8)] [AV.agg [AV.str [(97:UInt8)],AV.int .i64 1,AV.bool false],AV.agg [AV.str [(98:UInt8)],AV.int .i64 2,AV.bool false]] [AV.int .i64 0] [] [] [AV.agg [AV.list 3 [AV.agg [AV.int .i64 1,AV.int .i64 1,AV.str []],AV.agg [AV.int .i64 2,AV.int .i64 0,AV.str [(120:UInt8)]]],AV.int .i64 0,AV.int .i64 5],AV.agg [AV.list 3 [AV.agg [AV.int .i64 1,AV.int .i64 1,AV.str []],AV.agg [AV.int .i64 2,AV.int .i64 0,AV.str [(121:UInt8)]]],AV.int .i64 4,AV.int .i64 9]] [AV.agg [AV.int .i64 1,AV.int .i64 1,AV.str []]] 4
def xlw:=xdn [(116:UInt8)] [AV.agg [AV.str [(97:UInt8)],AV.int .i64 1,AV.bool false],AV.agg [AV.str [(98:UInt8)],AV.int .i64 2,AV.bool false]] [AV.int .i64 0] [] [] [AV.agg [AV.list 3 [AV.agg [AV.int .i64 1,AV.int .i64 1,AV.str []],AV.agg [AV.int .i64 2,AV.int .i64 0,AV.str [(120:UInt8)]]],AV.int .i64 0,AV.int .i64 5],AV.agg [AV.list 3 [AV.agg [AV.int .i64 1,AV.int .i64 1,AV.str []],AV.agg [AV.int .i64 2,AV.int .i64 0,AV.str [(121:UInt8)]]],AV.int .i64 5,AV.int .i64 9]] [AV.agg [AV.int .i64 1,AV.int .i64 1,AV.str []]]
def xly:=xgC [(116:UInt8)] [AV.agg [AV.str [(97:UInt8)],AV.int .i64 1,AV.bool false],AV.agg [AV.str [(98:UInt8)],AV.int .i64 2,AV.bool false]] [AV.int .i64 0] [] [] [AV.agg [AV.list 3 [AV.agg [AV.int .i64 1,AV.int .i64 1,AV.str []],AV.agg [AV.int .i64 2,AV.int .i64 0,AV.str [(120:UInt8)]]],AV.int .i64 0,AV.int .i64 5],AV.agg [AV.list 3 [AV.agg [AV.int .i64 1,AV.int .i64 1,AV.str []],AV.agg [AV.int .i64 2,AV.int .i64 0,AV.str [(121:UInt8)]]],AV.int .i64 4,AV.int .i64 9]]
def xlz:=xcQ [(116:UInt8)] [AV.agg [AV.str [(97:UInt8)],AV.int .i64 1,AV.bool false],AV.agg [AV.str [(98:UInt8)],AV.int .i64 2,AV.bool false]] [AV.int .i64 0] [] [] [AV.agg [AV.list 3 [AV.agg [AV.int .i64 1,AV.int .i64 1,AV.str []],AV.agg [AV.int .i64 2,AV.int .i64 0,AV.str [(120:UInt8)]]],AV.int .i64 0,AV.int .i64 5],AV.agg [AV.list 3 [AV.agg [AV.int .i64 1,AV.int .i64 1,AV.str []],AV.agg [AV.int .i64 2,AV.int .i64 0,AV.str [(121:UInt8)]]],AV.int .i64 5,AV.int .i64 9]]
def xlA:=xcQ [(116:UInt8)] [AV.agg [AV.str [(97:UInt8)],AV.int .i64 1,AV.bool false],AV.agg [AV.str [(98:UInt8)],AV.int .i64 2,AV.bool false]] [AV.int .i64 0] [] [] [AV.agg [AV.list 3 [AV.agg [AV.int .i64 1,AV.int .i64 1,AV.str []],AV.agg [AV.int .i64 2,AV.int .i64 0,AV.str [(120:UInt8)]]],AV.int .i64 0,AV.int .i64 5],AV.agg [AV.list 3 [AV.agg [AV.int .i64 1,AV.int .i64 1,AV.str []],AV.agg [AV.int .i64 2,AV.int .i64 0,AV.str [(121:UInt8)]]],AV.int .i64 4,AV.int .i64 9]]
def xjl:=xly.getD []
def xjn:=xlJ (xlw.getD []) [AV.agg [AV.int .i64 0,AV.int .i64 9]]
def xjo:=xlv.getD ([],false)
def xck:=(xjl.getD 1 .top).cells
def xgF:=(xjl.getD 0 .top).cells
def xjk:=xjl.length
def xjm:=xcg xjo.fst [AV.agg [AV.int .i64 1,AV.int .i64 1,AV.str []],AV.agg [AV.int .i64 2,AV.int .i64 0,AV.str [(120:UInt8)]]]
def xji:=decide (1<xjk)
def xjj:=(↑xjk:Int)
def xjh:=decide (1<xjj)
def xob {T:Type} (δ:T) (κ:Bool->T):T:=br (xly.isSome) (br (xlv.isSome) (br (xlz.isSome) (br (!xlz.getD false) (κ (false)) (br (xlA.isSome) (br (xlA.getD false) (κ (false)) (br (xjj != 2) (κ (false)) (br (!xjo.snd) (κ (false)) (br (xjm.isSome) (br (xjm.getD 0 != 0) (κ (false)) (br (decide (0<xjj)) (br (decide (0<xjk)&&(xgF.length==6&&xKO [Sh.int .i64,Sh.int .i64] xgF 4)) (br ((xgF.getD 4 .top).toInt==4&&((xgF.getD 5 .top).toInt==5&&true)) (br (xjh) (br (xji&&(xck.length==6&&xKO [Sh.int .i64,Sh.int .i64] xck 4)) (br ((xck.getD 4 .top).toInt==4&&((xck.getD 5 .top).toInt==5&&true)) (br (xjh) (br (xji&&xKH (Sh.int .i64) (xck.getD 0 .top)) (br ((xck.getD 0 .top).toInt==2) (br (xjh) (br (xji&&xKH Sh.str (xck.getD 1 .top)) (br ((xck.getD 1 .top).toStr==[(116:UInt8)]) (br (xlw.isSome) (br (xjn.isSome) (κ (xjn.getD false)) δ) δ) (κ (false))) δ) δ) (κ (false))) δ) δ) (κ (false))) δ) δ) (κ (false))) δ) δ)) δ)))) δ)) δ) δ) δ
def xe2:Option (Bool):=xob none some
def xHl:EO:=xHk.f Tryz.func9 97 0 [] [] lk0 xLt (fun _ _=>xob) (fun _ p=>AV.bool p) false
def xlB {T:Type} (e:List UInt8) (a b c d l:LA) (δ:T) (κ:Bool->T):T:=br (decide ((↑a.length:Int)<=12)) (br ((xqk l 16).isSome) (br ((xqk l 16).getD false) (br ((xkj e a b c d l).isSome) (κ ((xkj e a b c d l).getD false)) δ) (κ (false))) δ) (κ (false))
def xkb (e:List UInt8) (b a c d l:LA):=xlB e b a c d l none some
def xHj:EO:=xHl.f Tryz.func8 18 0 [] [] lk0 (u2 (xLI (u5 (sEq pStr) (uL 3) (uL 1) (uL 2) (uL 7))) (uL 3)) (fun ((e,b,a,c,d,_),l,_) _=>xlB e b a c d l) (fun _ p=>AV.bool p) false
def xhm (f:List UInt8) (b a c d l e:LA) (g:Int):=xcg ((xc9 f b a c d l e g).getD ([],false)).fst ((xfj f b a c d l e g).getD ([],false)).fst
def xid {T:Type} (f:List UInt8) (b a c d l e:LA) (g:Int) (δ:T) (κ:Bool->T):T:=br ((xkb f b a c d l).isSome) (br (!(xkb f b a c d l).getD false) (br (xe2.isSome) (κ (xe2.getD false)) δ) (br (decide ((↑e.length:Int)>60)) (br (xe2.isSome) (κ (xe2.getD false)) δ) (br ((xc9 f b a c d l e g).isSome) (br ((xfj f b a c d l e g).isSome) (br (((xc9 f b a c d l e g).getD ([],false)).snd==((xfj f b a c d l e g).getD ([],false)).snd) (br ((xhm f b a c d l e g).isSome) (br ((xhm f b a c d l e g).getD 0==0) (br ((xdn f b a c d l e).isSome) (br ((xgN f b a c d l e).isSome) (br ((xlJ ((xdn f b a c d l e).getD []) ((xgN f b a c d l e).getD [])).isSome) (br ((xlJ ((xdn f b a c d l e).getD []) ((xgN f b a c d l e).getD [])).getD false) (br (xe2.isSome) (κ (xe2.getD false)) δ) (κ (false))) δ) δ) δ) (κ (false))) δ) (κ (false))) δ) δ))) δ
def xjD (f:List UInt8) (b a c d l e:LA) (g:Int):=xid f b a c d l e g none some
def xsm:LA->Option (Bool×AV):=fnO (u3 (xLI (u5 (sEq pStr) (uL 3) (uL 1) (uL 2) (uL 7))) (uL 3) (xLI (u2 (uL 3) uI))) (fun ((f,b,a,c,d,_),l,(e,g,_),_) _=>xid f b a c d l e g) (fun _ p=>AV.bool p) false
theorem xsl:OcOk P0 xLp 4 xsm:=fnC xHj.ok Tryz.func4 67 0 [] [] lk0
end Go.Sim.M
