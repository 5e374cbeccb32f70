/- Part 15 of the proof of the law. -/
import Derived.Test.YtcekkkdjdfiipaaGreatDoorUW14
import Derived.Deep.LoopGhost
import Derived.Lib.SliceRun
set_option linter.unusedVariables false
set_option linter.unusedSimpArgs false
set_option maxRecDepth 100000
noncomputable section
namespace Go.Proofs
open Go.RowKit Go.Lib Go.Shelf
set_option maxHeartbeats 2000000 in
set_option maxRecDepth 100000 in
theorem Tryz.clone_nil (n c:Nat) (w:World) :
  Calls Tryz.prog 121 #[.slice none n c] w fun e w'=>e=.returned (.slice none 0 0)/\w'=w:=by
 have q22:∀ (w:World) (a:Option Addr) (n c n' c':Nat),(binOp .eql 34 (.slice a n c) (.slice none n' c')).run Tryz.prog w=.ok (.bool a.isNone) w:=fun w a n c n' c'=>Lib.run_eql_slice_nil w 34 64 a n c n' c' (by kernel_rfl)
 go_enter Tryz.func121,Tryz.ntmps121
 go_wp2
 go_ret
 exact ⟨rfl,rfl⟩
set_option maxHeartbeats 2000000 in
set_option maxRecDepth 100000 in
theorem Tryz.clone_some (i0:TypeInfo) (z:Value) (hi:Tryz.prog.info? 64=some i0) (Z:i0.zero=some z) (U:i0.size=3) (Y:i0.bytes=32) (W:z.cells.size=3)
  (a:Addr) (n c:Nat) (news:List Value) (w:World) (hl:news.length=n*3) (hn:n<=maxLen) (Q:n*32<=140737488355328)
  (hc:∀ j u,news[j]?=some u->w.cell? (a.add j)=some u) (h1:∀ u∈news,u.oneCell'=true) :
  Calls Tryz.prog 121 #[.slice (some a) n c] w fun e w'=>∃ v',e=.returned v'/\w'.ownsRow w.heap.size 64 3 v' n news/\Below w.heap.size w w':=by
 have q:Tryz.prog.underlying 34=some (.slice 64):=by kernel_rfl
 have q22:∀ (w:World) (a:Option Addr) (n c n' c':Nat),(binOp .eql 34 (.slice a n c) (.slice none n' c')).run Tryz.prog w=.ok (.bool a.isNone) w:=fun w a n c n' c'=>Lib.run_eql_slice_nil w 34 64 a n c n' c' q
 have u22:∀ w,Sem.run Tryz.prog (underlying 34) w=.ok (TypeDesc.slice 64) w:=run_underlying q;have A:Aside (∀ j u,news[j]?=some u->w.cell? (a.add j)=some u):=hc;clear hc
 go_enter Tryz.func121,Tryz.ntmps121
 go_wp2_with (at_builtin;refine wpList_append_own _ rfl _ _ 34 rfl w.heap.size 64 i0 z 3 32 q hi Z U Y W (by decide) _ _ _ rfl (World.ownsRow_made w #[] 0 (Nat.le_refl _) (Nat.zero_le _) (by simp)) a n c news rfl ?qc1 ?qc2 ?qc3 ?qc4 ?qc5 ?qc6 ?_)
 case qc1=>exact hl
 case qc2 =>
  intro j u hj;exact Lib.cell?_alloc_some _ (A.out j u hj)
 case qc3=>exact h1
 case qc4=>rw [Nat.zero_add];exact hn
 case qc5=>rw [Nat.zero_add];exact Q
 case qc6=>simp
 intro v' w1 O J aa
 go_wp2
 go_ret
 refine ⟨v',rfl,by simpa using O,?_⟩
 exact ((Below.refl _ w).alloc (Nat.le_refl _) _).grown J (by simp) (by intro k hk;simp [Value.ownBlock] at hk;omega)
end Go.Proofs
namespace Go.Sim
open Go.RowKit Go.Proofs
def xrm:List AV->Option (Bool×AV)
 | [.list 3 xs]=>some (decide (xs.length<=4398046511104),.list 3 xs)
 | _=>none
theorem xsR {w w':World} {A:Nat->Prop} {e:TypeId} {sz:Nat} {v:Value} {xs:List AV} {news:List Value} (hl:∀ b,A b->b<w.heap.size) (O:w'.ownsRow w.heap.size e sz v xs.length news) (Y:∀ x,x∈xs->x.okElem sz=true)
  (hr:∀ i j,i<xs.length->j<sz->Rel w' A xKU (news.getD (i*sz+j) undef) ((xs.getD i .top).cells.getD j .top)):Rel w' A xKU v (.list sz xs):=by
 obtain ⟨aa,h⟩:=O;rcases h with ⟨rfl,h0⟩|⟨g,cap,cur,rfl,hg,hh,Q,ab,Z,W⟩
 . have:xs=[]:=List.eq_nil_of_length_eq_zero h0;subst this;exact .list0 _ _ _
 . by_cases hne:xs=[]
   . subst hne;exact .list0 _ _ _
   . have U:g<w'.heap.size:=by
      rcases Nat.lt_or_ge g w'.heap.size with h|h
      . exact h
      . rw [Array.getElem?_eq_none h] at hh;simp at hh
     have q:∀ i j,i<xs.length->j<sz->w'.cell? ⟨g,0+i*sz+j,none⟩=some (news.getD (i*sz+j) undef):=fun i j hi hj=>by
      have hk:i*sz+j<xs.length*sz:=xcz hi hj;have J:i*sz+j<cur.size:=by
       rw [Z];exact Nat.lt_of_lt_of_le hk (Nat.mul_le_mul_right _ Q)
      have e1:news.getD (i*sz+j) undef=cur[i*sz+j]:=by
       rw [<-W];simp [List.getD_eq_getElem?_getD,List.getElem?_take,hk,J]
      rw [e1,Nat.zero_add];simp [World.cell?,hh,J]
     exact .list g 0 cap sz xs (fun i j=>news.getD (i*sz+j) undef) (fun hA=>by have:=hl g hA;omega) U hne Q Y q hr
theorem xwj:OcOk Tryz.prog xLn 121 xrm:=fun xs r h=>by
 unfold xrm at h;split at h
 . rename_i xs;simp only [Option.some.injEq,Prod.mk.injEq,decide_eq_true_eq] at h;obtain ⟨ab,rfl⟩:=h;refine ⟨xeo Tryz.func121 rfl (by kernel_rfl),fun w A vs hI hA Z=>?_⟩
   obtain ⟨v,rfl,h1⟩:=rc1 Z;have J:∃ ti,xKG Tryz.prog 64=some ti/\ti.sz=3/\ti.bytes=32/\ti.zero.okElem 3=true:=by
    have h:(match xKG Tryz.prog 64 with|some ti=>(ti.sz==3)&&((ti.bytes==32)&&ti.zero.okElem 3)|none=>false)=true:=by kernel_rfl
    split at h
    . rename_i ti J;simp only [Bool.and_eq_true,beq_iff_eq] at h;exact ⟨ti,J,h.1,h.2.1,h.2.2⟩
    . simp at h
   obtain ⟨ti,J,s1,s2,s3⟩:=J;obtain ⟨i,z,g1,g2,g3,g4,g5,g6,_⟩:=xaS J;have U:z.cells.size=3:=by
    have aa:Rel w A xKU z ti.zero:=by rw [g6];exact xce w A xKU z
    rw [(aa.cells (xaC s3)).1,xan s3]
   have Y:∀ n c,v=.slice none n c->xs=[]->Calls Tryz.prog 121 [v].toArray w fun e w'=>∃ v,e=.returned v/\Below w.heap.size w w'/\Rel w' A xKU v (.list 3 xs):=by
    rintro n c rfl rfl;refine (Tryz.clone_nil n c w).mono ?_;rintro e w' ⟨rfl,rfl⟩;exact ⟨_,rfl,Below.refl _ _,.list0 _ _ _⟩
   have Q:∀ b off c (val:Nat->Nat->Value),v=.slice (some ⟨b,off,none⟩) xs.length c->(∀ x,x∈xs->x.okElem 3=true)->(∀ i j,i<xs.length->j<3->w.cell? ⟨b,off+i*3+j,none⟩=some (val i j))->(∀ i j,i<xs.length->j<3->Rel w A xKU (val i j) ((xs.getD i .top).cells.getD j .top)) ->
     Calls Tryz.prog 121 [v].toArray w fun e w'=>∃ v,e=.returned v/\Below w.heap.size w w'/\Rel w' A xKU v (.list 3 xs):=by
    rintro b off c val rfl W hc hr;have hs:∀ i j,i<xs.length->j<3->∃ u,w.cell? ⟨b,off+(i*3+j),none⟩=some u/\Rel w A xKU u ((xs.getD i .top).cells.getD j .top):=fun i j hi hj=>⟨val i j,by rw [<-Nat.add_assoc];exact hc i j hi hj,hr i j hi hj⟩
    refine (Tryz.clone_some i z g1 g3 (by rw [<-g4,s1]) (by rw [<-g5,s2]) U ⟨b,off,none⟩ xs.length c (xK5 w b off (xs.length*3)) w (xfD _ _ _ _) (by unfold maxLen;omega) (by omega)
     (fun j u hj=>xr1 (by decide) hs j u hj) (xBS (by decide) hs W)).mono ?_
    rintro e w' ⟨v',rfl,O,q⟩;exact ⟨v',rfl,q,xsR hA O W fun i j hi hj=>(xBT hs hi hj).grow q⟩
   have h1':=h1;generalize hx:AV.list 3 xs=x at h1;cases h1 with
   | list0 a cap sz =>
    simp only [AV.list.injEq] at hx;obtain ⟨rfl,rfl⟩:=hx;cases a with
    | none=>exact Y 0 cap rfl rfl
    | some a =>
     refine (Tryz.clone_some i z g1 g3 (by rw [<-g4,s1]) (by rw [<-g5,s2]) U a 0 cap [] w rfl (Nat.zero_le _) (by omega) (by simp) (by simp)).mono ?_
     rintro e w' ⟨v',rfl,O,q⟩;exact ⟨v',rfl,q,xsR hA (xs:=[]) O (by simp) (by simp)⟩
   | list b off cap sz ys val ha hb hne hcap hsz hc hr =>
    simp only [AV.list.injEq] at hx;obtain ⟨rfl,rfl⟩:=hx;exact Q b off cap val rfl hsz hc hr
   | _=>simp at hx
 . simp at h
end Go.Sim
namespace Go.Sim.M
open Go.IntKind (i64 u64 u8)
open Go.RowKit Go.Proofs
def xzd:EO:=xHK.w xwj
def xco (a:Nat) (j:Int):=decide (0<=i64.wrap (j - 1))&&decide (i64.wrap (j - 1)<(↑a:Int))
def xak (j:Int):Nat:=0+(i64.wrap (j - 1)).toNat
def xcp (a:Nat) (j:Int):=decide (0<=j)&&decide (j<(↑a:Int))
def xeJ (j:Int) (a:LA):=decide (0+j.toNat<a.length)
def xeH (j:Int) (a:LA):=decide (xak j<a.length)&&xKF (Sh.list 3) ((a.getD (xak j) .top).cells.getD 0 .top)
def xeI (j:Int) (a:LA):=xeJ j a&&xKF (Sh.list 3) ((a.getD (0+j.toNat) .top).cells.getD 0 .top)
def xeX {T:Type} (d:Nat) (a b i j:Int) (c:LA) (δ:T) (κl:(Int×LA)->T) (κr:(LA)->T):T:=br (decide (j>a)) (br (xcp d j) (br (xeI j c) (br (xco d j) (br (xeH j c) (br ((xch ((c.getD (0+j.toNat) .top).cells.getD 0 .top).toList ((c.getD (xak j) .top).cells.getD 0 .top).toList).isSome) (br (decide ((xch ((c.getD (0+j.toNat) .top).cells.getD 0 .top).toList ((c.getD (xak j) .top).cells.getD 0 .top).toList).getD 0<0)) (br (xco d j) (br (xeH j c) (br (xcp d j) (br (xeI j c) (br (xcp d j) (br (xeJ j c) (br (xco d j) (br (decide (xak j<(c.set (0+j.toNat) (AV.list 3 ((c.getD (xak j) .top).cells.getD 0 .top).toList)).length)) (κl (i64.wrap (j - 1),(c.set (0+j.toNat) (AV.list 3 ((c.getD (xak j) .top).cells.getD 0 .top).toList)).set (xak j) (AV.list 3 ((c.getD (0+j.toNat) .top).cells.getD 0 .top).toList))) δ) δ) δ) δ) δ) δ) δ) δ) (κr (c))) δ) δ) δ) δ) δ) (κr (c))
def xa1 (d:Nat) (a b i:Int):StT (Int×LA) (LA):=fun (j,c)=>xeX d a b i j c none inL inR
def xbn:=xzd.l 53 1 [34] [] Tryz.f171 1 lk0 [0,1,2,3,8,9] [0,1,2,3,8] [] (q6 (xLB 0 0 0) qI qI (xK3 99 xLq) qI qI) (q1 (qB 0 1 34 xLs)) (fun (c,a,b,_,i,j,_) (d,_)=>(xa1 c a b i,(j,d),fun p=>(.leaf (.exit 2) [AV.osl 0 0 0 c,AV.int .i64 a,AV.int .i64 b,AV.func 99 [],AV.int .i64 i] [bF 0 1 34 p]))) [] fun (c,a,b,_,i,_,_) _ (j,d)=>(((c,a,b,(),i,j,()),(d,())),xeX c a b i j d none)
def xeW {T:Type} (d:Nat) (a b i:Int) (c:LA) (δ:T) (κl:(Int×LA)->T) (κr:(LA)->T):T:=br (decide (i<b)) (br ((Iter (xa1 d a b i) (i,c)).isSome) (κl (i64.wrap (i+1),(Iter (xa1 d a b i) (i,c)).getD [])) δ) (κr (c))
def xa0 (d:Nat) (a b:Int):StT (Int×LA) (LA):=fun (i,c)=>xeW d a b i c none inL inR
def xeG:=xzd.l 53 1 [34] [(4,xbn.lp)] Tryz.f171 0 (lk1 xbn.ok) [0,1,2,3,8] [] [] (q5 (xLB 0 0 0) qI qI (xK3 99 xLq) qI) (q1 (qB 0 1 34 xLs)) (fun (d,a,b,_,i,_) (c,_)=>(xa0 d a b,(i,c),fun p=>(.leaf (.exit 0) [] [bF 0 1 34 p]))) [] fun (d,a,b,_,_,_) _ (i,c)=>(((d,a,b,(),i,()),(c,())),xeW d a b i c none)
def xde {T:Type} (n:Nat) (a b:Int) (c:LA) (δ:T) (κ:LA->T):T:=br ((Iter (xa0 n a b) (i64.wrap (a+1),c)).isSome) (κ ((Iter (xa0 n a b) (i64.wrap (a+1),c)).getD [])) δ
def xaN (n:Nat) (a b:Int) (c:LA):=xde n a b c none some
def xy4:EO:=xzd.fM Tryz.func171 53 1 [34] [(4,xbn.lp),(1,xeG.lp)] (lks (lkC xeG.ok (lkC xbn.ok lkN))) (u4 (sEq (xLB 0 0 0)) uI uI (sEq (xK3 (99:FuncId) xLq))) (q1 (qB 0 1 34 xLs)) (fun (n,a,b,_,_) (c,_) _=>xde n a b c) (fun _ _ p=>(AV.tuple [],([bF 0 1 34 p]:List Box))) []
def xet {T:Type} (d:Nat) (n e a b:Int) (c:LA) (δ:T) (κl:(Int×Int×LA)->T) (κr:(Int×LA)->T):T:=br (decide (b<=n)) (br ((xaN d a b c).isSome) (κl (b,i64.wrap (b+e),(xaN d a b c).getD [])) δ) (κr (a,c))
def xbd (e:Nat) (n c:Int):StT (Int×Int×LA) (Int×LA):=fun (a,b,d)=>xet e n c a b d none inL inR
def xcs:=xy4.l 63 1 [34] [] Tryz.f145 0 lk0 [0,1,2,6,7,8] [0,1,2,6,7] [] (q6 (xLB 0 0 0) qI (xK3 99 xLq) qI qI qI) (q1 (qB 0 1 34 xLs)) (fun (d,n,_,c,a,b,_) (e,_)=>(xbd d n c,(a,b,e),fun p=>(.leaf (.exit 0) [AV.osl 0 0 0 d,AV.int .i64 n,AV.func 99 [],AV.int .i64 c,AV.int .i64 p.1] [bF 0 1 34 p.2]))) (0,[]) fun (d,n,_,c,_,_,_) _ (a,b,e)=>(((d,n,(),c,a,b,()),(e,())),xet d n c a b e none)
def xhq {T:Type} (d:Nat) (n e a b:Int) (c:LA) (δ:T) (κl:(Int×Int×LA)->T) (κr:(Int×LA)->T):T:=br (decide (b<=n)) (br (decide (0+d<=c.length)&&true) δ δ) (κr (a,c))
def xgj (e:Nat) (n c:Int):StT (Int×Int×LA) (Int×LA):=fun (a,b,d)=>xhq e n c a b d none inL inR
def xct:=xy4.l 63 1 [34] [(2,xcs.lp)] Tryz.f145 2 lk0 [0,1,2,6,7,8] [0,1,2,6,7] [] (q6 (xLB 0 0 0) qI (xK3 99 xLq) qI qI qI) (q1 (qB 0 1 34 xLs)) (fun (d,n,_,c,a,b,_) (e,_)=>(xgj d n c,(a,b,e),fun p=>(.leaf (.exit 4) [AV.osl 0 0 0 d,AV.int .i64 n,AV.func 99 [],AV.int .i64 c,AV.int .i64 p.1] [bF 0 1 34 p.2]))) (0,[]) fun (d,n,_,c,_,_,_) _ (a,b,e)=>(((d,n,(),c,a,b,()),(e,())),xhq d n c a b e none)
def xg3 (c:Nat) (n a:Int) (b:LA):=Iter (xgj c n a) (0,i64.wrap (2*a),b)
def xg2 (c:Nat) (n a:Int) (b:LA):=(xg3 c n a b).getD (0,[])
def xg1 (c:Nat) (n a:Int) (b:LA):=(xg2 c n a b).snd
def xeu {T:Type} (c:Nat) (n a:Int) (b:LA) (δ:T) (κl:(Int×LA)->T) (κr:(LA)->T):T:=br (decide (a<n)) (br ((xg3 c n a b).isSome) (br (decide (i64.wrap ((xg2 c n a b).fst+a)<n)) (br (decide (0+c<=(xg1 c n a b).length)&&true) δ δ) (κl (i64.wrap (a*2),xg1 c n a b))) δ) (κr (b))
def xbX (c:Nat) (n:Int):StT (Int×LA) (LA):=fun (a,b)=>xeu c n a b none inL inR
def xg0:=xy4.l 63 1 [34] [(2,xcs.lp),(9,xct.lp)] Tryz.f145 1 (lk1 xct.ok) [0,1,2,6] [] [] (q4 (xLB 0 0 0) qI (xK3 99 xLq) qI) (q1 (qB 0 1 34 xLs)) (fun (c,n,_,a,_) (b,_)=>(xbX c n,(a,b),fun p=>(.leaf (.exit 2) [] [bF 0 1 34 p]))) [] fun (c,n,_,_,_) _ (a,b)=>(((c,n,(),a,()),(b,())),xeu c n a b none)
def xfe (n:Nat) (k:Int) (a:LA):=(Iter (xbd n k 20) (0,20,a)).getD (0,[])
def xfd (n:Nat) (k:Int) (a:LA):=xaN n (xfe n k a).fst k (xfe n k a).snd
def xfc (n:Nat) (k:Int) (a:LA):=Iter (xbX n k) (20,(xfd n k a).getD [])
def xfB {T:Type} (n:Nat) (k:Int) (a:LA) (δ:T) (κ:LA->T):T:=br ((Iter (xbd n k 20) (0,20,a)).isSome) (br ((xfd n k a).isSome) (br ((xfc n k a).isSome) (κ ((xfc n k a).getD [])) δ) δ) δ
def xei (n:Nat) (k:Int) (a:LA):=xfB n k a none some
def xIT:EO:=xy4.fM Tryz.func145 63 1 [34] [(2,xcs.lp),(9,xct.lp),(7,xg0.lp)] (lks (lkC xcs.ok (lkC xg0.ok (lkC xct.ok lkN)))) (u3 (sEq (xLB 0 0 0)) uI (sEq (xK3 (99:FuncId) xLq))) (q1 (qB 0 1 34 xLs)) (fun (n,k,_,_) (a,_) _=>xfB n k a) (fun _ _ p=>(AV.tuple [],([bF 0 1 34 p]:List Box))) []
def xfa {T:Type} (n:Nat) (a:LA) (δ:T) (κ:LA->T):T:=br ((xei n (↑n:Int) a).isSome) (κ ((xei n (↑n:Int) a).getD [])) δ
def xjJ (n:Nat) (a:LA):=xfa n a none some
def xF7:EO:=xIT.fM Tryz.func122 9 1 [34] [] lk0 (u2 (sEq (xLB 0 0 0)) (sEq (xK3 (99:FuncId) xLq))) (q1 (qB 0 1 34 xLs)) (fun (n,_,_) (a,_) _=>xfa n a) (fun _ _ p=>(AV.tuple [],([bF 0 1 34 p]:List Box))) []
def xfL {T:Type} (d:LA) (e:Int) (c:Nat) (b:Int) (a:LA) (δ:T) (κl:(Nat×Int×LA)->T) (κr:(Nat×LA)->T):T:=br (decide (b<e)) (br (ixI d b) (br (ixS d b (Sh.list 3) 0) (br (decide ((gC d b 0).toList.length<=4398046511104)) (br (rmB c a 1 24) (κl (c+1,i64.wrap (b+1),a++[AV.list 3 (gC d b 0).toList])) δ) δ) δ) δ) (κr (c,a))
def xbk (c:LA) (d:Int):StT (Nat×Int×LA) (Nat×LA):=fun (b,e,a)=>xfL c d b e a none inL inR
def xmg:=xF7.l 27 0 [34] [] Tryz.f98 0 lk0 [1,5,11,12,13] [1,5] [(5,1,34)] (q5 (xK3 99 xLq) (xLB 0 0 0) (qL 1) qI qI) (q1 (qB 0 1 34 xLs)) (fun (_,b,c,d,e,_) (a,_)=>(xbk c d,(b,e,a),fun p=>(.leaf (.exit 0) [AV.func 99 [],AV.osl 0 0 0 p.1] [bF 0 1 34 p.2]))) (0,[]) fun (_,_,c,d,_,_) _ (b,e,a)=>((((),b,c,d,e,()),(a,())),xfL c d b e a none)
def xj6 (l:LA):=(Iter (xbk l (↑l.length:Int)) (0,0,[])).getD (0,[])
def xgO (l:LA):=(xj6 l).fst
def xj5 (l:LA):=xjJ (xgO l) (xj6 l).snd
def xj4 (l:LA):=(xj5 l).getD []
def xk3 {T:Type} (l:LA) (δ:T) (κ:LA->T):T:=br (decide (24*(↑l.length:Int)<=281474976710656)&&decide ((↑l.length:Int)<=4611686018427387904)) (br ((Iter (xbk l (↑l.length:Int)) (0,0,[])).isSome) (br ((xj5 l).isSome) (br (decide (0+xgO l<=(xj4 l).length)&&true) (κ (List.take (xgO l) (List.drop 0 (xj4 l)))) δ) δ) δ) δ
def xnc (l:LA):=xk3 l none some
def xIU:EO:=xF7.f Tryz.func98 27 0 [34] [(3,xmg.lp)] (lk1 xmg.ok) (u2 (uL 1) (sEq (xK3 (99:FuncId) xLq))) (fun (l,_,_) _=>xk3 l) (fun _ p=>AV.list 1 p) []
def xpX {T:Type} (l:LA) (δ:T) (κ:LA->T):T:=br ((xnc l).isSome) (κ ((xnc l).getD [])) δ
def xoU (l:LA):=xpX l none some
def xF8:EO:=xIU.f Tryz.func70 5 0 [] [] lk0 (u1 (uL 1)) (fun (l,_) _=>xpX l) (fun _ p=>AV.list 1 p) []
def xht {T:Type} (t:Int) (d:LA) (e:Int) (c:Nat) (b:Int) (a:LA) (δ:T) (κl:(Nat×Int×LA)->T) (κr:(Nat×LA)->T):T:=br (decide (b<e)) (br (ixI d b) (br (ixT d b 3 [Sh.list 3,Sh.int .i64,Sh.int .i64] 0) (br (xlO (gC d b 1).toInt (gC d b 2).toInt t) (br (rmB c a 1 24) (κl (c+1,i64.wrap (b+1),a++[AV.list 3 (gC d b 0).toList])) δ) (κl (c,i64.wrap (b+1),a))) δ) δ) (κr (c,a))
def xcJ (t:Int) (d:LA) (e:Int):StT (Nat×Int×LA) (Nat×LA):=fun (b,c,a)=>xht t d e b c a none inL inR
def xot:=xF8.l 26 0 [] [] Tryz.f39 0 lk0 [1,5,8,9,10] [5] [(5,1,34)] (q5 qI (xLB 0 0 0) (qL 3) qI qI) (q1 (qB 0 1 34 xLs)) (fun (t,b,d,e,c,_) (a,_)=>(xcJ t d e,(b,c,a),fun p=>(.leaf (.exit 0) [AV.osl 0 0 0 p.1] [bF 0 1 34 p.2]))) (0,[]) fun (t,_,d,e,_,_) _ (b,c,a)=>(((t,b,d,e,c,()),(a,())),xht t d e b c a none)
def xmG (l:LA) (t:Int):=(Iter (xcJ t l (↑l.length:Int)) (0,0,[])).getD (0,[])
def xmE (l:LA) (t:Int):=(xmG l t).snd
def xmF (l:LA) (t:Int):=(xmG l t).fst
def xmD (l:LA) (t:Int):=xoU (List.take (xmF l t) (List.drop 0 (xmE l t)))
def xn1 {T:Type} (l:LA) (t:Int) (δ:T) (κ:LA->T):T:=br ((Iter (xcJ t l (↑l.length:Int)) (0,0,[])).isSome) (br (decide (0+xmF l t<=(xmE l t).length)&&true) (br ((xmD l t).isSome) (κ ((xmD l t).getD [])) δ) δ) δ
def xfk (l:LA) (t:Int):=xn1 l t none some
def xDv:EO:=xF8.f Tryz.func39 26 0 [] [(3,xot.lp)] (lk1 xot.ok) (u2 (uL 3) uI) (fun (l,t,_) _=>xn1 l t) (fun _ p=>AV.list 1 p) []
def xhm:Env:=xDv.E.fn 23 0 (lsOf []) (xK2 [])
theorem xvM:xKH P0 (xLn.at 0) xhm:=xDv.ok.fn
theorem xtF:LoOk P0 (xLn.at xhm.pin) xhm (Tryz.f15.body.getD .skip):=xhw (by kernel_rfl)
def xki {T:Type} (e:List UInt8) (b a c d l f:LA) (g:Int) (δ:T) (κ:Bool×(Bool)×(LA×Bool)->T):T:=br ((xci e b a c d l f).isSome) (br ((xfk ((xci e b a c d l f).getD []) g).isSome) (br ((↑((xfk ((xci e b a c d l f).getD []) g).getD []).length:Int)==0) (κ (true,(false),([],false))) (br (decide (0<(↑((xfk ((xci e b a c d l f).getD []) g).getD []).length:Int))) (br (decide (0<((xfk ((xci e b a c d l f).getD []) g).getD []).length)&&xKF (Sh.list 3) ((((xfk ((xci e b a c d l f).getD []) g).getD []).getD 0 .top).cells.getD 0 .top)) (κ (false,false,(((((xfk ((xci e b a c d l f).getD []) g).getD []).getD 0 .top).cells.getD 0 .top).toList,true))) δ) δ)) δ) δ
def xbG (e:List UInt8) (b a c d l f:LA) (g:Int):Option (LA×Bool):=xki e b a c d l f g none (fun (p:Bool×(Bool)×(LA×Bool))=>some (br p.1 (([],p.2.1)) p.2.2))
theorem xBj (e:List UInt8) (b a c d l f:LA) (g:Int):EncS (fun (p:LA×Bool)=>(AV.tuple [AV.list 3 p.1,AV.bool p.2]:AV)) (xbG e b a c d l f g) (XF P0 xhm Tryz.f15 (Tryz.f15.body.getD .skip) [AV.agg [AV.str e,AV.list 3 b,AV.list 1 a,AV.list 2 c,AV.list 7 d],AV.list 3 l,AV.list 3 f,AV.int .i64 g]):=by
 have h:XF P0 xhm Tryz.f15 (Tryz.f15.body.getD .skip) [AV.agg [AV.str e,AV.list 3 b,AV.list 1 a,AV.list 2 c,AV.list 7 d],AV.list 3 l,AV.list 3 f,AV.int .i64 g]=xki e b a c d l f g none (fun (p:Bool×(Bool)×(LA×Bool))=>some ((br p.1 (AV.tuple [AV.nils,AV.bool p.2.1]) (AV.tuple [AV.list 3 p.2.2.1,AV.bool p.2.2.2])):AV)):=by kernel_rfl
 rw [h];unfold xbG xki;repeat' (first|exact EncS.none|exact EncS.some (Sub.refl _)|exact EncS.some (xuO _)|exact EncS.some (xy1 _ _)|refine EncS.br ?_ ?_)
def xBi:LA->Option (Bool×AV):=ocOf (xLp (xLG (xLp (sEq pStr) (xLp (xLF 3 xLs) (xLp (xLF 1 xLs) (xLp (xLF 2 xLs) (xLp (xLF 7 xLs) xLr)))))) (xLp (xLF 3 xLs) (xLp (xLF 3 xLs) (xLp (sEq (pInt .i64)) xLr)))) fun ((e,(b,(a,(c,(d,_))))),(l,(f,(g,_))))=>((xbG e b a c d l f g).isSome,(AV.tuple [AV.list 3 ((xbG e b a c d l f g).getD ([],false)).1,AV.bool ((xbG e b a c d l f g).getD ([],false)).2]))
theorem xBh:OcOk P0 xLn 15 (xBi):=xgT fun h q i=>by
 obtain ⟨⟨j,⟨e,⟨a,⟨f,⟨g,_⟩⟩⟩⟩⟩,⟨l,⟨n,⟨o,_⟩⟩⟩⟩:=h;obtain ⟨b,c⟩:=Prod.mk.inj i;obtain ⟨y,k,m⟩:=xBj _ _ _ _ _ _ _ _ _ (xa6 (d:=([],false)) b);have hg:Good P0 xLn 15 _ _:=xiZ (p:=xhm.pin) (xk7 xKQ (xKR P0 _) rfl xvM Tryz.func15 rfl (by kernel_rfl) xtF k)
 rw [<-c];exact Good.sub hg m
def xHk:EO:=xHG.w xrr
def xHl:EO:=xHk.w xms
def xHm:EO:=xHl.w xoD
def xHn:EO:=xHm.w xBh
def xCu (n:Int) (c:List UInt8) (a b:Int):LA×Int×Int:=(([AV.agg [AV.int .i64 1,AV.int .i64 n,AV.str []],AV.agg [AV.int .i64 2,AV.int .i64 0,AV.str c]],a,b))
def xzQ {T:Type} (n:Int) (c:List UInt8) (a b:Int) (δ:T) (κ:LA×Int×Int->T):T:=κ ([AV.agg [AV.int .i64 1,AV.int .i64 n,AV.str []],AV.agg [AV.int .i64 2,AV.int .i64 0,AV.str c]],a,b)
def xHi:EO:=xHn.fT Tryz.func29 18 0 [] [] lk0 (fun (n,c,a,b,_)=>xzQ n c a b none) (u4 uI (sEq pStr) uI uI) (fun (n,c,a,b,_)=>xCu n c a b) (fun _ p=>(AV.agg [AV.list 3 p.1,AV.int .i64 p.2.1,AV.int .i64 p.2.2]))
def xlF:=xbG [(116:UInt8)] [AV.agg [AV.str [(97:UInt8)],AV.int .i64 1,AV.bool false],AV.agg [AV.str [(98:UInt8)],AV.int .i64 2,AV.bool false]] [AV.int .i64 0] [] [] [AV.agg [AV.list 3 [AV.agg [AV.int .i64 1,AV.int .i64 1,AV.str []],AV.agg [AV.int .i64 2,AV.int .i64 0,AV.str [(120:UInt8)]]],AV.int .i64 0,AV.int .i64 5],AV.agg [AV.list 3 [AV.agg [AV.int .i64 1,AV.int .i64 1,AV.str []],AV.agg [AV.int .i64 2,AV.int .i64 0,AV.str [(121:UInt8)]]],AV.int .i64 4,AV.int .i64 9]] [AV.agg [AV.int .i64 1,AV.int .i64 1,AV.str []]] 4
def xlG:=xdz [(116:UInt8)] [AV.agg [AV.str [(97:UInt8)],AV.int .i64 1,AV.bool false],AV.agg [AV.str [(98:UInt8)],AV.int .i64 2,AV.bool false]] [AV.int .i64 0] [] [] [AV.agg [AV.list 3 [AV.agg [AV.int .i64 1,AV.int .i64 1,AV.str []],AV.agg [AV.int .i64 2,AV.int .i64 0,AV.str [(120:UInt8)]]],AV.int .i64 0,AV.int .i64 5],AV.agg [AV.list 3 [AV.agg [AV.int .i64 1,AV.int .i64 1,AV.str []],AV.agg [AV.int .i64 2,AV.int .i64 0,AV.str [(121:UInt8)]]],AV.int .i64 5,AV.int .i64 9]] [AV.agg [AV.int .i64 1,AV.int .i64 1,AV.str []]]
def xlH:=xgP [(116:UInt8)] [AV.agg [AV.str [(97:UInt8)],AV.int .i64 1,AV.bool false],AV.agg [AV.str [(98:UInt8)],AV.int .i64 2,AV.bool false]] [AV.int .i64 0] [] [] [AV.agg [AV.list 3 [AV.agg [AV.int .i64 1,AV.int .i64 1,AV.str []],AV.agg [AV.int .i64 2,AV.int .i64 0,AV.str [(120:UInt8)]]],AV.int .i64 0,AV.int .i64 5],AV.agg [AV.list 3 [AV.agg [AV.int .i64 1,AV.int .i64 1,AV.str []],AV.agg [AV.int .i64 2,AV.int .i64 0,AV.str [(121:UInt8)]]],AV.int .i64 4,AV.int .i64 9]]
def xlI:=xcf [(116:UInt8)] [AV.agg [AV.str [(97:UInt8)],AV.int .i64 1,AV.bool false],AV.agg [AV.str [(98:UInt8)],AV.int .i64 2,AV.bool false]] [AV.int .i64 0] [] [] [AV.agg [AV.list 3 [AV.agg [AV.int .i64 1,AV.int .i64 1,AV.str []],AV.agg [AV.int .i64 2,AV.int .i64 0,AV.str [(120:UInt8)]]],AV.int .i64 0,AV.int .i64 5],AV.agg [AV.list 3 [AV.agg [AV.int .i64 1,AV.int .i64 1,AV.str []],AV.agg [AV.int .i64 2,AV.int .i64 0,AV.str [(121:UInt8)]]],AV.int .i64 5,AV.int .i64 9]]
def xlJ:=xcf [(116:UInt8)] [AV.agg [AV.str [(97:UInt8)],AV.int .i64 1,AV.bool false],AV.agg [AV.str [(98:UInt8)],AV.int .i64 2,AV.bool false]] [AV.int .i64 0] [] [] [AV.agg [AV.list 3 [AV.agg [AV.int .i64 1,AV.int .i64 1,AV.str []],AV.agg [AV.int .i64 2,AV.int .i64 0,AV.str [(120:UInt8)]]],AV.int .i64 0,AV.int .i64 5],AV.agg [AV.list 3 [AV.agg [AV.int .i64 1,AV.int .i64 1,AV.str []],AV.agg [AV.int .i64 2,AV.int .i64 0,AV.str [(121:UInt8)]]],AV.int .i64 4,AV.int .i64 9]]
def xjs:=xlH.getD []
def xju:=xrP (xlG.getD []) [AV.agg [AV.int .i64 0,AV.int .i64 9]]
def xjv:=xlF.getD ([],false)
def xck:=(xjs.getD 1 .top).cells
def xgS:=(xjs.getD 0 .top).cells
def xjr:=xjs.length
def xjt:=xaW xjv.fst [AV.agg [AV.int .i64 1,AV.int .i64 1,AV.str []],AV.agg [AV.int .i64 2,AV.int .i64 0,AV.str [(120:UInt8)]]]
def xjp:=decide (1<xjr)
def xjq:=(↑xjr:Int)
def xjo:=decide (1<xjq)
def xn2 {T:Type} (δ:T) (κ:Bool->T):T:=br (xlH.isSome) (br (xlF.isSome) (br (xlI.isSome) (br (!xlI.getD false) (κ (false)) (br (xlJ.isSome) (br (xlJ.getD false) (κ (false)) (br (xjq != 2) (κ (false)) (br (!xjv.snd) (κ (false)) (br (xjt.isSome) (br (xjt.getD 0 != 0) (κ (false)) (br (decide (0<xjq)) (br (decide (0<xjr)&&(xgS.length==6&&xKM [Sh.int .i64,Sh.int .i64] xgS 4)) (br ((xgS.getD 4 .top).toInt==4&&((xgS.getD 5 .top).toInt==5&&true)) (br (xjo) (br (xjp&&(xck.length==6&&xKM [Sh.int .i64,Sh.int .i64] xck 4)) (br ((xck.getD 4 .top).toInt==4&&((xck.getD 5 .top).toInt==5&&true)) (br (xjo) (br (xjp&&xKF (Sh.int .i64) (xck.getD 0 .top)) (br ((xck.getD 0 .top).toInt==2) (br (xjo) (br (xjp&&xKF Sh.str (xck.getD 1 .top)) (br ((xck.getD 1 .top).toStr==[(116:UInt8)]) (br (xlG.isSome) (br (xju.isSome) (κ (xju.getD false)) δ) δ) (κ (false))) δ) δ) (κ (false))) δ) δ) (κ (false))) δ) δ) (κ (false))) δ) δ)) δ)))) δ)) δ) δ) δ
def xcg:Option (Bool):=xn2 none some
def xHj:EO:=xHi.f Tryz.func9 97 0 [] [] lk0 xLr (fun _ _=>xn2) (fun _ p=>AV.bool p) false
def xlK {T:Type} (e:List UInt8) (a b c d l:LA) (δ:T) (κ:Bool->T):T:=br (decide ((↑a.length:Int)<=12)) (br ((xql l 16).isSome) (br ((xql l 16).getD false) (br ((xkr e a b c d l).isSome) (κ ((xkr e a b c d l).getD false)) δ) (κ (false))) δ) (κ (false))
def xkj (e:List UInt8) (b a c d l:LA):=xlK e b a c d l none some
def xC8:EO:=xHj.f Tryz.func8 18 0 [] [] lk0 (u2 (xLG (u5 (sEq pStr) (uL 3) (uL 1) (uL 2) (uL 7))) (uL 3)) (fun ((e,b,a,c,d,_),l,_) _=>xlK e b a c d l) (fun _ p=>AV.bool p) false
def xbN (a:LA) (i:Int):=decide (i.toNat<a.length)&&xKF (Sh.list 3) (gC a i 0)
def xbO (a:LA) (i:Int):=ixI a i
def xc3 {T:Type} (l k a:LA) (n:Int) (h:Bool) (i:Int) (b:List UInt8) (c d e f g:LA) (j:Int) (δ:T) (κl:(Int×Bool×Int×List UInt8×LA×LA×LA×LA×LA×Int)->T) (κr:(Int×Bool×List UInt8×LA×LA×LA×LA×LA×Int)->T):T:=br (decide (i<a.length)) (br (xbO a i) (br (xbN a i) (br ((xgh b c d e f (gC a i 0).toList).isSome) (br ((xaW ((xgh b c d e f (gC a i 0).toList).getD []) g).isSome) (br ((xaW ((xgh b c d e f (gC a i 0).toList).getD []) g).getD 0==0) (br (h) (κl (i64.wrap (n+1),true,i64.wrap (i+1),b,c,d,e,f,g,j)) (br (xbO a i) (br (xbN a i) (br ((xaW (gC a i 0).toList k).isSome) (κl (i64.wrap (n+1),(xaW (gC a i 0).toList k).getD 0==0,i64.wrap (i+1),b,c,d,e,f,g,j)) δ) δ) δ)) (br (h) (κl (n,true,i64.wrap (i+1),b,c,d,e,f,g,j)) (br (xbO a i) (br (xbN a i) (br ((xaW (gC a i 0).toList k).isSome) (κl (n,(xaW (gC a i 0).toList k).getD 0==0,i64.wrap (i+1),b,c,d,e,f,g,j)) δ) δ) δ))) δ) δ) δ) δ) (κr (n,h,b,c,d,e,f,g,j))
def xaY (l c b:LA):StT (Int×Bool×Int×List UInt8×LA×LA×LA×LA×LA×Int) (Int×Bool×List UInt8×LA×LA×LA×LA×LA×Int):=fun (n,a,i,d,e,f,g,h,j,k)=>xc3 l c b n a i d e f g h j k none inL inR
def xkb:=xC8.l 115 0 [] [] Tryz.f6 0 lk0 [1,3,5,7,9,10,11,12] [1,3,5,7,10,11] [] (q8 (qL 3) (xLC 0 0 0 0) (xLC 1 0 0 0) (qL 3) (qL 1) qI pBool qI) (q2 (qB 0 5 27 (q1 (xLD (q5 pStr (qL 3) (qL 1) (qL 2) (qL 7))))) (qB 0 2 36 (q1 (xLD (q2 (qL 3) qI))))) (fun (l,_,_,c,b,n,a,i,_) (((d,e,f,g,h,_),_),((j,k,_),_),_)=>(xaY l c b,(n,a,i,d,e,f,g,h,j,k),fun p=>(.leaf (.exit 0) [AV.list 3 l,AV.own 0 0 0 0,AV.own 1 0 0 0,AV.list 3 c,AV.int .i64 p.1,AV.bool p.2.1] [bF 0 5 27 [AV.agg [AV.str p.2.2.1,AV.list 3 p.2.2.2.1,AV.list 1 p.2.2.2.2.1,AV.list 2 p.2.2.2.2.2.1,AV.list 7 p.2.2.2.2.2.2.1]],bF 0 2 36 [AV.agg [AV.list 3 p.2.2.2.2.2.2.2.1,AV.int .i64 p.2.2.2.2.2.2.2.2]]]))) (0,false,[],[],[],[],[],[],0) fun (l,_,_,c,b,_,_,_,_) _ (n,a,i,d,e,f,g,h,j,k)=>(((l,(),(),c,b,n,a,i,()),(((d,e,f,g,h,()),()),((j,k,()),()),())),xc3 l c b n a i d e f g h j k none)
def xdq (g:List UInt8) (c a d e l f:LA) (b:Int):=Iter (xaY l ((xbG g c a d e l f b).getD ([],false)).fst ((xrV l b).getD [])) (0,false,0,g,c,a,d,e,f,b)
def xdp (f:List UInt8) (b a c d l e:LA) (g:Int):=(xdq f b a c d l e g).getD (0,false,[],[],[],[],[],[],0)
def xdo (f:List UInt8) (b a c d l e:LA) (g:Int):=(xdp f b a c d l e g).snd
def xdn (f:List UInt8) (b a c d l e:LA) (g:Int):=(xdo f b a c d l e g).snd
def xdl (f:List UInt8) (b a c d l e:LA) (g:Int):=(xdn f b a c d l e g).fst
def xdm (f:List UInt8) (b a c d l e:LA) (g:Int):=(xdn f b a c d l e g).snd
def xcM (f:List UInt8) (b a c d l e:LA) (g:Int):=(xdm f b a c d l e g).fst
def xdX (f:List UInt8) (b a c d l e:LA) (g:Int):=(xdm f b a c d l e g).snd
def xdV (f:List UInt8) (b a c d l e:LA) (g:Int):=(xdX f b a c d l e g).fst
def xdW (f:List UInt8) (b a c d l e:LA) (g:Int):=(xdX f b a c d l e g).snd
def xdT (f:List UInt8) (b a c d l e:LA) (g:Int):=(xdW f b a c d l e g).snd
def xdU (f:List UInt8) (b a c d l e:LA) (g:Int):=(xdW f b a c d l e g).fst
def xdS (f:List UInt8) (b a c d l e:LA) (g:Int):=(xdT f b a c d l e g).fst
def xdQ (f:List UInt8) (b a c d l e:LA) (g:Int):=xgh (xdl f b a c d l e g) (xcM f b a c d l e g) (xdV f b a c d l e g) (xdU f b a c d l e g) (xdS f b a c d l e g) ((xbG f b a c d l e g).getD ([],false)).fst
def xdR (f:List UInt8) (b a c d l e:LA) (g:Int):=xcf (xdl f b a c d l e g) (xcM f b a c d l e g) (xdV f b a c d l e g) (xdU f b a c d l e g) (xdS f b a c d l e g) l
def xdP (f:List UInt8) (b a c d l e:LA) (g:Int):=xaW ((xdQ f b a c d l e g).getD []) (xdT f b a c d l e g).snd.fst
def xi0 {T:Type} (f:List UInt8) (b a c d l e:LA) (g:Int) (δ:T) (κ:Bool->T):T:=br ((xkj f b a c d l).isSome) (br (!(xkj f b a c d l).getD false) (br (xcg.isSome) (κ (xcg.getD false)) δ) (br (decide ((↑e.length:Int)>60)) (br (xcg.isSome) (κ (xcg.getD false)) δ) (br ((xbG f b a c d l e g).isSome) (br ((xdz f b a c d l e).isSome) (br ((xc4 ((xdz f b a c d l e).getD []) g).isSome) (br (!((xbG f b a c d l e g).getD ([],false)).snd==(xc4 ((xdz f b a c d l e).getD []) g).getD false) (κ (false)) (br (!((xbG f b a c d l e g).getD ([],false)).snd) (br ((↑((xbG f b a c d l e g).getD ([],false)).fst.length:Int)==0) (br (xcg.isSome) (κ (xcg.getD false)) δ) (κ (false))) (br ((xrV l g).isSome) (br ((xdq f b a c d l e g).isSome) (br ((xdo f b a c d l e g).fst) (br ((↑((xbG f b a c d l e g).getD ([],false)).fst.length:Int)==(↑(xcM f b a c d l e g).length:Int)) (br ((xdQ f b a c d l e g).isSome) (br ((xdP f b a c d l e g).isSome) (br ((xdP f b a c d l e g).getD 0==0) (br ((xdR f b a c d l e g).isSome) (br (!(xdR f b a c d l e g).getD false) (br (xcg.isSome) (κ (xcg.getD false)) δ) (br ((xdp f b a c d l e g).fst==1) (br (xcg.isSome) (κ (xcg.getD false)) δ) (κ (false)))) δ) (κ (false))) δ) δ) (κ (false))) (κ (false))) δ) δ))) δ) δ) δ))) δ
def xkI (f:List UInt8) (b a c d l e:LA) (g:Int):=xi0 f b a c d l e g none some
def xsN:LA->Option (Bool×AV):=fnO (u3 (xLG (u5 (sEq pStr) (uL 3) (uL 1) (uL 2) (uL 7))) (uL 3) (xLG (u2 (uL 3) uI))) (fun ((f,b,a,c,d,_),l,(e,g,_),_) _=>xi0 f b a c d l e g) (fun _ p=>AV.bool p) false
theorem xsM:OcOk P0 xLn 6 xsN:=fnC xC8.ok Tryz.func6 115 0 [] [(11,xkb.lp)] (lk1 xkb.ok)
end Go.Sim.M
