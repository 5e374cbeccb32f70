/- Part 15 of the proof of the law. -/
import Derived.Test.YtcekkkdjdfiipaaGreatDoorUV14
import Derived.Deep.LoopGhost
import Derived.Lib.SliceRun
set_option linter.unusedVariables false
set_option linter.unusedSimpArgs false
set_option maxRecDepth 100000
noncomputable section
namespace Go.Proofs
open Go.RowKit Go.Lib Go.Shelf
set_option maxHeartbeats 2000000 in
set_option maxRecDepth 100000 in
theorem Tryz.clone_nil (n c:Nat) (w:World) :
  Calls Tryz.prog 121 #[.slice none n c] w fun e w'=>e=.returned (.slice none 0 0)/\w'=w:=by
 have q22:∀ (w:World) (a:Option Addr) (n c n' c':Nat),(binOp .eql 34 (.slice a n c) (.slice none n' c')).run Tryz.prog w=.ok (.bool a.isNone) w:=fun w a n c n' c'=>Lib.run_eql_slice_nil w 34 64 a n c n' c' (by kernel_rfl)
 go_enter Tryz.func121,Tryz.ntmps121
 go_wp2
 go_ret
 exact ⟨rfl,rfl⟩
set_option maxHeartbeats 2000000 in
set_option maxRecDepth 100000 in
theorem Tryz.clone_some (i0:TypeInfo) (z:Value) (hi:Tryz.prog.info? 64=some i0) (Z:i0.zero=some z) (U:i0.size=3) (Y:i0.bytes=32) (W:z.cells.size=3)
  (a:Addr) (n c:Nat) (news:List Value) (w:World) (hl:news.length=n*3) (hn:n<=maxLen) (Q:n*32<=140737488355328)
  (hc:∀ j u,news[j]?=some u->w.cell? (a.add j)=some u) (h1:∀ u∈news,u.oneCell'=true) :
  Calls Tryz.prog 121 #[.slice (some a) n c] w fun e w'=>∃ v',e=.returned v'/\w'.ownsRow w.heap.size 64 3 v' n news/\Below w.heap.size w w':=by
 have J:Tryz.prog.underlying 34=some (.slice 64):=by kernel_rfl
 have q22:∀ (w:World) (a:Option Addr) (n c n' c':Nat),(binOp .eql 34 (.slice a n c) (.slice none n' c')).run Tryz.prog w=.ok (.bool a.isNone) w:=fun w a n c n' c'=>Lib.run_eql_slice_nil w 34 64 a n c n' c' J
 have u22:∀ w,Sem.run Tryz.prog (underlying 34) w=.ok (TypeDesc.slice 64) w:=run_underlying J;have A:Aside (∀ j u,news[j]?=some u->w.cell? (a.add j)=some u):=hc;clear hc
 go_enter Tryz.func121,Tryz.ntmps121
 go_wp2_with (at_builtin;refine wpList_append_own _ rfl _ _ 34 rfl w.heap.size 64 i0 z 3 32 J hi Z U Y W (by decide) _ _ _ rfl (World.ownsRow_made w #[] 0 (Nat.le_refl _) (Nat.zero_le _) (by simp)) a n c news rfl ?qc1 ?qc2 ?qc3 ?qc4 ?qc5 ?qc6 ?_)
 case qc1=>exact hl
 case qc2 =>
  intro j u hj;exact Lib.cell?_alloc_some _ (A.out j u hj)
 case qc3=>exact h1
 case qc4=>rw [Nat.zero_add];exact hn
 case qc5=>rw [Nat.zero_add];exact Q
 case qc6=>simp
 intro v' w1 O q aa
 go_wp2
 go_ret
 refine ⟨v',rfl,by simpa using O,?_⟩
 exact ((Below.refl _ w).alloc (Nat.le_refl _) _).grown q (by simp) (by intro k hk;simp [Value.ownBlock] at hk;omega)
end Go.Proofs
namespace Go.Sim
open Go.RowKit Go.Proofs
def xuo:List AV->Option (Bool×AV)
 | [.list 3 xs]=>some (decide (xs.length<=4398046511104),.list 3 xs)
 | _=>none
theorem xvT {w w':World} {A:Nat->Prop} {e:TypeId} {sz:Nat} {v:Value} {xs:List AV} {news:List Value} (hl:∀ b,A b->b<w.heap.size) (J:w'.ownsRow w.heap.size e sz v xs.length news) (U:∀ x,x∈xs->x.okElem sz=true)
  (hr:∀ i j,i<xs.length->j<sz->Rel w' A xOX (news.getD (i*sz+j) undef) ((xs.getD i .top).cells.getD j .top)):Rel w' A xOX v (.list sz xs):=by
 obtain ⟨aa,h⟩:=J;rcases h with ⟨rfl,h0⟩|⟨g,cap,cur,rfl,hg,hh,Q,ab,Y,Z⟩
 . have:xs=[]:=List.eq_nil_of_length_eq_zero h0;subst this;exact .list0 _ _ _
 . by_cases hne:xs=[]
   . subst hne;exact .list0 _ _ _
   . have W:g<w'.heap.size:=by
      rcases Nat.lt_or_ge g w'.heap.size with h|h
      . exact h
      . rw [Array.getElem?_eq_none h] at hh;simp at hh
     have q:∀ i j,i<xs.length->j<sz->w'.cell? ⟨g,0+i*sz+j,none⟩=some (news.getD (i*sz+j) undef):=fun i j hi hj=>by
      have hk:i*sz+j<xs.length*sz:=xc3 hi hj;have O:i*sz+j<cur.size:=by
       rw [Y];exact Nat.lt_of_lt_of_le hk (Nat.mul_le_mul_right _ Q)
      have e1:news.getD (i*sz+j) undef=cur[i*sz+j]:=by
       rw [<-Z];simp [List.getD_eq_getElem?_getD,List.getElem?_take,hk,O]
      rw [e1,Nat.zero_add];simp [World.cell?,hh,O]
     exact .list g 0 cap sz xs (fun i j=>news.getD (i*sz+j) undef) (fun hA=>by have:=hl g hA;omega) W hne Q U q hr
theorem xAs:OcOk Tryz.prog xPq 121 xuo:=fun xs r h=>by
 unfold xuo at h;split at h
 . rename_i xs;simp only [Option.some.injEq,Prod.mk.injEq,decide_eq_true_eq] at h;obtain ⟨ab,rfl⟩:=h;refine ⟨xfq Tryz.func121 rfl (by kernel_rfl),fun w A vs hI hA Z=>?_⟩
   obtain ⟨v,rfl,h1⟩:=rc1 Z;have O:∃ ti,xOJ Tryz.prog 64=some ti/\ti.sz=3/\ti.bytes=32/\ti.zero.okElem 3=true:=by
    have h:(match xOJ Tryz.prog 64 with|some ti=>(ti.sz==3)&&((ti.bytes==32)&&ti.zero.okElem 3)|none=>false)=true:=by kernel_rfl
    split at h
    . rename_i ti O;simp only [Bool.and_eq_true,beq_iff_eq] at h;exact ⟨ti,O,h.1,h.2.1,h.2.2⟩
    . simp at h
   obtain ⟨ti,O,s1,s2,s3⟩:=O;obtain ⟨i,z,g1,g2,g3,g4,g5,g6,_⟩:=xax O;have Y:z.cells.size=3:=by
    have aa:Rel w A xOX z ti.zero:=by rw [g6];exact xcH w A xOX z
    rw [(aa.cells (xaF s3)).1,xao s3]
   have U:∀ n c,v=.slice none n c->xs=[]->Calls Tryz.prog 121 [v].toArray w fun e w'=>∃ v,e=.returned v/\Below w.heap.size w w'/\Rel w' A xOX v (.list 3 xs):=by
    rintro n c rfl rfl;refine (Tryz.clone_nil n c w).mono ?_;rintro e w' ⟨rfl,rfl⟩;exact ⟨_,rfl,Below.refl _ _,.list0 _ _ _⟩
   have Q:∀ b off c (val:Nat->Nat->Value),v=.slice (some ⟨b,off,none⟩) xs.length c->(∀ x,x∈xs->x.okElem 3=true)->(∀ i j,i<xs.length->j<3->w.cell? ⟨b,off+i*3+j,none⟩=some (val i j))->(∀ i j,i<xs.length->j<3->Rel w A xOX (val i j) ((xs.getD i .top).cells.getD j .top)) ->
     Calls Tryz.prog 121 [v].toArray w fun e w'=>∃ v,e=.returned v/\Below w.heap.size w w'/\Rel w' A xOX v (.list 3 xs):=by
    rintro b off c val rfl W hc hr;have hs:∀ i j,i<xs.length->j<3->∃ u,w.cell? ⟨b,off+(i*3+j),none⟩=some u/\Rel w A xOX u ((xs.getD i .top).cells.getD j .top):=fun i j hi hj=>⟨val i j,by rw [<-Nat.add_assoc];exact hc i j hi hj,hr i j hi hj⟩
    refine (Tryz.clone_some i z g1 g3 (by rw [<-g4,s1]) (by rw [<-g5,s2]) Y ⟨b,off,none⟩ xs.length c (xO8 w b off (xs.length*3)) w (xgT _ _ _ _) (by unfold maxLen;omega) (by omega)
     (fun j u hj=>xu3 (by decide) hs j u hj) (xFn (by decide) hs W)).mono ?_
    rintro e w' ⟨v',rfl,J,q⟩;exact ⟨v',rfl,q,xvT hA J W fun i j hi hj=>(xFo hs hi hj).grow q⟩
   have h1':=h1;generalize hx:AV.list 3 xs=x at h1;cases h1 with
   | list0 a cap sz =>
    simp only [AV.list.injEq] at hx;obtain ⟨rfl,rfl⟩:=hx;cases a with
    | none=>exact U 0 cap rfl rfl
    | some a =>
     refine (Tryz.clone_some i z g1 g3 (by rw [<-g4,s1]) (by rw [<-g5,s2]) Y a 0 cap [] w rfl (Nat.zero_le _) (by omega) (by simp) (by simp)).mono ?_
     rintro e w' ⟨v',rfl,J,q⟩;exact ⟨v',rfl,q,xvT hA (xs:=[]) J (by simp) (by simp)⟩
   | list b off cap sz ys val ha hb hne hcap hsz hc hr =>
    simp only [AV.list.injEq] at hx;obtain ⟨rfl,rfl⟩:=hx;exact Q b off cap val rfl hsz hc hr
   | _=>simp at hx
 . simp at h
end Go.Sim
namespace Go.Sim.M
open Go.IntKind (i64 u64 u8)
open Go.RowKit Go.Proofs
def xCn:EO:=xLJ.w xAs
def xcV (a:Nat) (j:Int):=decide (0<=i64.wrap (j - 1))&&decide (i64.wrap (j - 1)<(↑a:Int))
def xal (j:Int):Nat:=0+(i64.wrap (j - 1)).toNat
def xcW (a:Nat) (j:Int):=decide (0<=j)&&decide (j<(↑a:Int))
def xfP (j:Int) (a:LA):=decide (0+j.toNat<a.length)
def xfN (j:Int) (a:LA):=decide (xal j<a.length)&&xOI (Sh.list 3) ((a.getD (xal j) .top).cells.getD 0 .top)
def xfO (j:Int) (a:LA):=xfP j a&&xOI (Sh.list 3) ((a.getD (0+j.toNat) .top).cells.getD 0 .top)
def xf6 {T:Type} (d:Nat) (a b i j:Int) (c:LA) (δ:T) (κl:(Int×LA)->T) (κr:(LA)->T):T:=br (decide (j>a)) (br (xcW d j) (br (xfO j c) (br (xcV d j) (br (xfN j c) (br ((xcJ ((c.getD (0+j.toNat) .top).cells.getD 0 .top).toList ((c.getD (xal j) .top).cells.getD 0 .top).toList).isSome) (br (decide ((xcJ ((c.getD (0+j.toNat) .top).cells.getD 0 .top).toList ((c.getD (xal j) .top).cells.getD 0 .top).toList).getD 0<0)) (br (xcV d j) (br (xfN j c) (br (xcW d j) (br (xfO j c) (br (xcW d j) (br (xfP j c) (br (xcV d j) (br (decide (xal j<(c.set (0+j.toNat) (AV.list 3 ((c.getD (xal j) .top).cells.getD 0 .top).toList)).length)) (κl (i64.wrap (j - 1),(c.set (0+j.toNat) (AV.list 3 ((c.getD (xal j) .top).cells.getD 0 .top).toList)).set (xal j) (AV.list 3 ((c.getD (0+j.toNat) .top).cells.getD 0 .top).toList))) δ) δ) δ) δ) δ) δ) δ) δ) (κr (c))) δ) δ) δ) δ) δ) (κr (c))
def xa8 (d:Nat) (a b i:Int):StT (Int×LA) (LA):=fun (j,c)=>xf6 d a b i j c none inL inR
def xbz:=xCn.l 53 1 [34] [] Tryz.f171 1 lk0 [0,1,2,3,8,9] [0,1,2,3,8] [] (q6 (xPE 0 0 0) qI qI (xO6 99 xPt) qI qI) (q1 (qB 0 1 34 xPv)) (fun (c,a,b,_,i,j,_) (d,_)=>(xa8 c a b i,(j,d),fun p=>(.leaf (.exit 2) [AV.osl 0 0 0 c,AV.int .i64 a,AV.int .i64 b,AV.func 99 [],AV.int .i64 i] [bF 0 1 34 p]))) [] fun (c,a,b,_,i,_,_) _ (j,d)=>(((c,a,b,(),i,j,()),(d,())),xf6 c a b i j d none)
def xf5 {T:Type} (d:Nat) (a b i:Int) (c:LA) (δ:T) (κl:(Int×LA)->T) (κr:(LA)->T):T:=br (decide (i<b)) (br ((Iter (xa8 d a b i) (i,c)).isSome) (κl (i64.wrap (i+1),(Iter (xa8 d a b i) (i,c)).getD [])) δ) (κr (c))
def xa7 (d:Nat) (a b:Int):StT (Int×LA) (LA):=fun (i,c)=>xf5 d a b i c none inL inR
def xfM:=xCn.l 53 1 [34] [(4,xbz.lp)] Tryz.f171 0 (lk1 xbz.ok) [0,1,2,3,8] [] [] (q5 (xPE 0 0 0) qI qI (xO6 99 xPt) qI) (q1 (qB 0 1 34 xPv)) (fun (d,a,b,_,i,_) (c,_)=>(xa7 d a b,(i,c),fun p=>(.leaf (.exit 0) [] [bF 0 1 34 p]))) [] fun (d,a,b,_,_,_) _ (i,c)=>(((d,a,b,(),i,()),(c,())),xf5 d a b i c none)
def xd5 {T:Type} (n:Nat) (a b:Int) (c:LA) (δ:T) (κ:LA->T):T:=br ((Iter (xa7 n a b) (i64.wrap (a+1),c)).isSome) (κ ((Iter (xa7 n a b) (i64.wrap (a+1),c)).getD [])) δ
def xaU (n:Nat) (a b:Int) (c:LA):=xd5 n a b c none some
def xCd:EO:=xCn.fM Tryz.func171 53 1 [34] [(4,xbz.lp),(1,xfM.lp)] (lks (lkC xfM.ok (lkC xbz.ok lkN))) (u4 (sEq (xPE 0 0 0)) uI uI (sEq (xO6 (99:FuncId) xPt))) (q1 (qB 0 1 34 xPv)) (fun (n,a,b,_,_) (c,_) _=>xd5 n a b c) (fun _ _ p=>(AV.tuple [],([bF 0 1 34 p]:List Box))) []
def xfv {T:Type} (d:Nat) (n e a b:Int) (c:LA) (δ:T) (κl:(Int×Int×LA)->T) (κr:(Int×LA)->T):T:=br (decide (b<=n)) (br ((xaU d a b c).isSome) (κl (b,i64.wrap (b+e),(xaU d a b c).getD [])) δ) (κr (a,c))
def xbm (e:Nat) (n c:Int):StT (Int×Int×LA) (Int×LA):=fun (a,b,d)=>xfv e n c a b d none inL inR
def xcZ:=xCd.l 63 1 [34] [] Tryz.f145 0 lk0 [0,1,2,6,7,8] [0,1,2,6,7] [] (q6 (xPE 0 0 0) qI (xO6 99 xPt) qI qI qI) (q1 (qB 0 1 34 xPv)) (fun (d,n,_,c,a,b,_) (e,_)=>(xbm d n c,(a,b,e),fun p=>(.leaf (.exit 0) [AV.osl 0 0 0 d,AV.int .i64 n,AV.func 99 [],AV.int .i64 c,AV.int .i64 p.1] [bF 0 1 34 p.2]))) (0,[]) fun (d,n,_,c,_,_,_) _ (a,b,e)=>(((d,n,(),c,a,b,()),(e,())),xfv d n c a b e none)
def xiY {T:Type} (d:Nat) (n e a b:Int) (c:LA) (δ:T) (κl:(Int×Int×LA)->T) (κr:(Int×LA)->T):T:=br (decide (b<=n)) (br (decide (0+d<=c.length)&&true) δ δ) (κr (a,c))
def xhD (e:Nat) (n c:Int):StT (Int×Int×LA) (Int×LA):=fun (a,b,d)=>xiY e n c a b d none inL inR
def xcx:=xCd.l 63 1 [34] [(2,xcZ.lp)] Tryz.f145 2 lk0 [0,1,2,6,7,8] [0,1,2,6,7] [] (q6 (xPE 0 0 0) qI (xO6 99 xPt) qI qI qI) (q1 (qB 0 1 34 xPv)) (fun (d,n,_,c,a,b,_) (e,_)=>(xhD d n c,(a,b,e),fun p=>(.leaf (.exit 4) [AV.osl 0 0 0 d,AV.int .i64 n,AV.func 99 [],AV.int .i64 c,AV.int .i64 p.1] [bF 0 1 34 p.2]))) (0,[]) fun (d,n,_,c,_,_,_) _ (a,b,e)=>(((d,n,(),c,a,b,()),(e,())),xiY d n c a b e none)
def xiA (c:Nat) (n a:Int) (b:LA):=Iter (xhD c n a) (0,i64.wrap (2*a),b)
def xiz (c:Nat) (n a:Int) (b:LA):=(xiA c n a b).getD (0,[])
def xiy (c:Nat) (n a:Int) (b:LA):=(xiz c n a b).snd
def xfw {T:Type} (c:Nat) (n a:Int) (b:LA) (δ:T) (κl:(Int×LA)->T) (κr:(LA)->T):T:=br (decide (a<n)) (br ((xiA c n a b).isSome) (br (decide (i64.wrap ((xiz c n a b).fst+a)<n)) (br (decide (0+c<=(xiy c n a b).length)&&true) δ δ) (κl (i64.wrap (a*2),xiy c n a b))) δ) (κr (b))
def xci (c:Nat) (n:Int):StT (Int×LA) (LA):=fun (a,b)=>xfw c n a b none inL inR
def xiw:=xCd.l 63 1 [34] [(2,xcZ.lp),(9,xcx.lp)] Tryz.f145 1 (lk1 xcx.ok) [0,1,2,6] [] [] (q4 (xPE 0 0 0) qI (xO6 99 xPt) qI) (q1 (qB 0 1 34 xPv)) (fun (c,n,_,a,_) (b,_)=>(xci c n,(a,b),fun p=>(.leaf (.exit 2) [] [bF 0 1 34 p]))) [] fun (c,n,_,_,_) _ (a,b)=>(((c,n,(),a,()),(b,())),xfw c n a b none)
def xgs (n:Nat) (k:Int) (a:LA):=(Iter (xbm n k 20) (0,20,a)).getD (0,[])
def xgr (n:Nat) (k:Int) (a:LA):=xaU n (xgs n k a).fst k (xgs n k a).snd
def xgq (n:Nat) (k:Int) (a:LA):=Iter (xci n k) (20,(xgr n k a).getD [])
def xgR {T:Type} (n:Nat) (k:Int) (a:LA) (δ:T) (κ:LA->T):T:=br ((Iter (xbm n k 20) (0,20,a)).isSome) (br ((xgr n k a).isSome) (br ((xgq n k a).isSome) (κ ((xgq n k a).getD [])) δ) δ) δ
def xfk (n:Nat) (k:Int) (a:LA):=xgR n k a none some
def xMS:EO:=xCd.fM Tryz.func145 63 1 [34] [(2,xcZ.lp),(9,xcx.lp),(7,xiw.lp)] (lks (lkC xcZ.ok (lkC xiw.ok (lkC xcx.ok lkN)))) (u3 (sEq (xPE 0 0 0)) uI (sEq (xO6 (99:FuncId) xPt))) (q1 (qB 0 1 34 xPv)) (fun (n,k,_,_) (a,_) _=>xgR n k a) (fun _ _ p=>(AV.tuple [],([bF 0 1 34 p]:List Box))) []
def xgo {T:Type} (n:Nat) (a:LA) (δ:T) (κ:LA->T):T:=br ((xfk n (↑n:Int) a).isSome) (κ ((xfk n (↑n:Int) a).getD [])) δ
def xlG (n:Nat) (a:LA):=xgo n a none some
def xJ0:EO:=xMS.fM Tryz.func122 9 1 [34] [] lk0 (u2 (sEq (xPE 0 0 0)) (sEq (xO6 (99:FuncId) xPt))) (q1 (qB 0 1 34 xPv)) (fun (n,_,_) (a,_) _=>xgo n a) (fun _ _ p=>(AV.tuple [],([bF 0 1 34 p]:List Box))) []
def xg0 {T:Type} (d:LA) (e:Int) (c:Nat) (b:Int) (a:LA) (δ:T) (κl:(Nat×Int×LA)->T) (κr:(Nat×LA)->T):T:=br (decide (b<e)) (br (ixI d b) (br (ixS d b (Sh.list 3) 0) (br (decide ((gC d b 0).toList.length<=4398046511104)) (br (rmB c a 1 24) (κl (c+1,i64.wrap (b+1),a++[AV.list 3 (gC d b 0).toList])) δ) δ) δ) δ) (κr (c,a))
def xbv (c:LA) (d:Int):StT (Nat×Int×LA) (Nat×LA):=fun (b,e,a)=>xg0 c d b e a none inL inR
def xoO:=xJ0.l 27 0 [34] [] Tryz.f98 0 lk0 [1,5,11,12,13] [1,5] [(5,1,34)] (q5 (xO6 99 xPt) (xPE 0 0 0) (qL 1) qI qI) (q1 (qB 0 1 34 xPv)) (fun (_,b,c,d,e,_) (a,_)=>(xbv c d,(b,e,a),fun p=>(.leaf (.exit 0) [AV.func 99 [],AV.osl 0 0 0 p.1] [bF 0 1 34 p.2]))) (0,[]) fun (_,_,c,d,_,_) _ (b,e,a)=>((((),b,c,d,e,()),(a,())),xg0 c d b e a none)
def xl5 (l:LA):=(Iter (xbv l (↑l.length:Int)) (0,0,[])).getD (0,[])
def xib (l:LA):=(xl5 l).fst
def xl4 (l:LA):=xlG (xib l) (xl5 l).snd
def xl3 (l:LA):=(xl4 l).getD []
def xna {T:Type} (l:LA) (δ:T) (κ:LA->T):T:=br (decide (24*(↑l.length:Int)<=281474976710656)&&decide ((↑l.length:Int)<=4611686018427387904)) (br ((Iter (xbv l (↑l.length:Int)) (0,0,[])).isSome) (br ((xl4 l).isSome) (br (decide (0+xib l<=(xl3 l).length)&&true) (κ (List.take (xib l) (List.drop 0 (xl3 l)))) δ) δ) δ) δ
def xp1 (l:LA):=xna l none some
def xMT:EO:=xJ0.f Tryz.func98 27 0 [34] [(3,xoO.lp)] (lk1 xoO.ok) (u2 (uL 1) (sEq (xO6 (99:FuncId) xPt))) (fun (l,_,_) _=>xna l) (fun _ p=>AV.list 1 p) []
def xsX {T:Type} (l:LA) (δ:T) (κ:LA->T):T:=br ((xp1 l).isSome) (κ ((xp1 l).getD [])) δ
def xrU (l:LA):=xsX l none some
def xJ1:EO:=xMT.f Tryz.func70 5 0 [] [] lk0 (u1 (uL 1)) (fun (l,_) _=>xsX l) (fun _ p=>AV.list 1 p) []
def xi0 {T:Type} (t:Int) (d:LA) (e:Int) (c:Nat) (b:Int) (a:LA) (δ:T) (κl:(Nat×Int×LA)->T) (κr:(Nat×LA)->T):T:=br (decide (b<e)) (br (ixI d b) (br (ixT d b 3 [Sh.list 3,Sh.int .i64,Sh.int .i64] 0) (br (xnX (gC d b 1).toInt (gC d b 2).toInt t) (br (rmB c a 1 24) (κl (c+1,i64.wrap (b+1),a++[AV.list 3 (gC d b 0).toList])) δ) (κl (c,i64.wrap (b+1),a))) δ) δ) (κr (c,a))
def xdj (t:Int) (d:LA) (e:Int):StT (Nat×Int×LA) (Nat×LA):=fun (b,c,a)=>xi0 t d e b c a none inL inR
def xrt:=xJ1.l 26 0 [] [] Tryz.f39 0 lk0 [1,5,8,9,10] [5] [(5,1,34)] (q5 qI (xPE 0 0 0) (qL 3) qI qI) (q1 (qB 0 1 34 xPv)) (fun (t,b,d,e,c,_) (a,_)=>(xdj t d e,(b,c,a),fun p=>(.leaf (.exit 0) [AV.osl 0 0 0 p.1] [bF 0 1 34 p.2]))) (0,[]) fun (t,_,d,e,_,_) _ (b,c,a)=>(((t,b,d,e,c,()),(a,())),xi0 t d e b c a none)
def xpf (l:LA) (t:Int):=(Iter (xdj t l (↑l.length:Int)) (0,0,[])).getD (0,[])
def xpd (l:LA) (t:Int):=(xpf l t).snd
def xpe (l:LA) (t:Int):=(xpf l t).fst
def xpc (l:LA) (t:Int):=xrU (List.take (xpe l t) (List.drop 0 (xpd l t)))
def xqW {T:Type} (l:LA) (t:Int) (δ:T) (κ:LA->T):T:=br ((Iter (xdj t l (↑l.length:Int)) (0,0,[])).isSome) (br (decide (0+xpe l t<=(xpd l t).length)&&true) (br ((xpc l t).isSome) (κ ((xpc l t).getD [])) δ) δ) δ
def xgz (l:LA) (t:Int):=xqW l t none some
def xHj:EO:=xJ1.f Tryz.func39 26 0 [] [(3,xrt.lp)] (lk1 xrt.ok) (u2 (uL 3) uI) (fun (l,t,_) _=>xqW l t) (fun _ p=>AV.list 1 p) []
def xiT:Env:=xHj.E.fn 23 0 (lsOf []) (xO5 [])
theorem xzV:xOK P0 (xPq.at 0) xiT:=xHj.ok.fn
theorem xwG:LoOk P0 (xPq.at xiT.pin) xiT (Tryz.f15.body.getD .skip):=xfx (by kernel_rfl)
def xmh {T:Type} (e:List UInt8) (b a c d l f:LA) (g:Int) (δ:T) (κ:Bool×(Bool)×(LA×Bool)->T):T:=br ((xcK e b a c d l f).isSome) (br ((xgz ((xcK e b a c d l f).getD []) g).isSome) (br ((↑((xgz ((xcK e b a c d l f).getD []) g).getD []).length:Int)==0) (κ (true,(false),([],false))) (br (decide (0<(↑((xgz ((xcK e b a c d l f).getD []) g).getD []).length:Int))) (br (decide (0<((xgz ((xcK e b a c d l f).getD []) g).getD []).length)&&xOI (Sh.list 3) ((((xgz ((xcK e b a c d l f).getD []) g).getD []).getD 0 .top).cells.getD 0 .top)) (κ (false,false,(((((xgz ((xcK e b a c d l f).getD []) g).getD []).getD 0 .top).cells.getD 0 .top).toList,true))) δ) δ)) δ) δ
def xgC (e:List UInt8) (b a c d l f:LA) (g:Int):Option (LA×Bool):=xmh e b a c d l f g none (fun (p:Bool×(Bool)×(LA×Bool))=>some (br p.1 (([],p.2.1)) p.2.2))
theorem xEN (e:List UInt8) (b a c d l f:LA) (g:Int):EncS (fun (p:LA×Bool)=>(AV.tuple [AV.list 3 p.1,AV.bool p.2]:AV)) (xgC e b a c d l f g) (XF P0 xiT Tryz.f15 (Tryz.f15.body.getD .skip) [AV.agg [AV.str e,AV.list 3 b,AV.list 1 a,AV.list 2 c,AV.list 7 d],AV.list 3 l,AV.list 3 f,AV.int .i64 g]):=by
 have h:XF P0 xiT Tryz.f15 (Tryz.f15.body.getD .skip) [AV.agg [AV.str e,AV.list 3 b,AV.list 1 a,AV.list 2 c,AV.list 7 d],AV.list 3 l,AV.list 3 f,AV.int .i64 g]=xmh e b a c d l f g none (fun (p:Bool×(Bool)×(LA×Bool))=>some ((br p.1 (AV.tuple [AV.nils,AV.bool p.2.1]) (AV.tuple [AV.list 3 p.2.2.1,AV.bool p.2.2.2])):AV)):=by kernel_rfl
 rw [h];unfold xgC xmh;repeat' (first|exact EncS.none|exact EncS.some (Sub.refl _)|exact EncS.some (xyO _)|exact EncS.some (xCa _ _)|refine EncS.br ?_ ?_)
def xEM:LA->Option (Bool×AV):=ocOf (xPs (xPJ (xPs (sEq pStr) (xPs (xPI 3 xPv) (xPs (xPI 1 xPv) (xPs (xPI 2 xPv) (xPs (xPI 7 xPv) xPu)))))) (xPs (xPI 3 xPv) (xPs (xPI 3 xPv) (xPs (sEq (pInt .i64)) xPu)))) fun ((e,(b,(a,(c,(d,_))))),(l,(f,(g,_))))=>((xgC e b a c d l f g).isSome,(AV.tuple [AV.list 3 ((xgC e b a c d l f g).getD ([],false)).1,AV.bool ((xgC e b a c d l f g).getD ([],false)).2]))
theorem xEL:OcOk P0 xPq 15 (xEM):=xgE fun h q i=>by
 obtain ⟨⟨j,⟨e,⟨a,⟨f,⟨g,_⟩⟩⟩⟩⟩,⟨l,⟨n,⟨o,_⟩⟩⟩⟩:=h;obtain ⟨b,c⟩:=Prod.mk.inj i;obtain ⟨y,k,m⟩:=xEN _ _ _ _ _ _ _ _ _ (xaJ (d:=([],false)) b);have hg:Good P0 xPq 15 _ _:=xi3 (p:=xiT.pin) (xlf xOT (xOU P0 _) rfl xzV Tryz.func15 rfl (by kernel_rfl) xwG k)
 rw [<-c];exact Good.sub hg m
def xLg:EO:=xLF.w xut
def xLh:EO:=xLg.w xo1
def xLi:EO:=xLh.w xrD
def xLj:EO:=xLi.w xEL
def xF3 (n:Int) (c:List UInt8) (a b:Int):LA×Int×Int:=(([AV.agg [AV.int .i64 1,AV.int .i64 n,AV.str []],AV.agg [AV.int .i64 2,AV.int .i64 0,AV.str c]],a,b))
def xC2 {T:Type} (n:Int) (c:List UInt8) (a b:Int) (δ:T) (κ:LA×Int×Int->T):T:=κ ([AV.agg [AV.int .i64 1,AV.int .i64 n,AV.str []],AV.agg [AV.int .i64 2,AV.int .i64 0,AV.str c]],a,b)
def xLe:EO:=xLj.fT Tryz.func29 18 0 [] [] lk0 (fun (n,c,a,b,_)=>xC2 n c a b none) (u4 uI (sEq pStr) uI uI) (fun (n,c,a,b,_)=>xF3 n c a b) (fun _ p=>(AV.agg [AV.list 3 p.1,AV.int .i64 p.2.1,AV.int .i64 p.2.2]))
def xnO:=xgC [(116:UInt8)] [AV.agg [AV.str [(97:UInt8)],AV.int .i64 1,AV.bool false],AV.agg [AV.str [(98:UInt8)],AV.int .i64 2,AV.bool false]] [AV.int .i64 0] [] [] [AV.agg [AV.list 3 [AV.agg [AV.int .i64 1,AV.int .i64 1,AV.str []],AV.agg [AV.int .i64 2,AV.int .i64 0,AV.str [(120:UInt8)]]],AV.int .i64 0,AV.int .i64 5],AV.agg [AV.list 3 [AV.agg [AV.int .i64 1,AV.int .i64 1,AV.str []],AV.agg [AV.int .i64 2,AV.int .i64 0,AV.str [(121:UInt8)]]],AV.int .i64 4,AV.int .i64 9]] [AV.agg [AV.int .i64 1,AV.int .i64 1,AV.str []]] 4
def xnP:=xku [(116:UInt8)] [AV.agg [AV.str [(97:UInt8)],AV.int .i64 1,AV.bool false],AV.agg [AV.str [(98:UInt8)],AV.int .i64 2,AV.bool false]] [AV.int .i64 0] [] [] [AV.agg [AV.list 3 [AV.agg [AV.int .i64 1,AV.int .i64 1,AV.str []],AV.agg [AV.int .i64 2,AV.int .i64 0,AV.str [(120:UInt8)]]],AV.int .i64 0,AV.int .i64 5],AV.agg [AV.list 3 [AV.agg [AV.int .i64 1,AV.int .i64 1,AV.str []],AV.agg [AV.int .i64 2,AV.int .i64 0,AV.str [(121:UInt8)]]],AV.int .i64 5,AV.int .i64 9]] [AV.agg [AV.int .i64 1,AV.int .i64 1,AV.str []]]
def xnQ:=xdf [(116:UInt8)] [AV.agg [AV.str [(97:UInt8)],AV.int .i64 1,AV.bool false],AV.agg [AV.str [(98:UInt8)],AV.int .i64 2,AV.bool false]] [AV.int .i64 0] [] [] [AV.agg [AV.list 3 [AV.agg [AV.int .i64 1,AV.int .i64 1,AV.str []],AV.agg [AV.int .i64 2,AV.int .i64 0,AV.str [(120:UInt8)]]],AV.int .i64 0,AV.int .i64 5],AV.agg [AV.list 3 [AV.agg [AV.int .i64 1,AV.int .i64 1,AV.str []],AV.agg [AV.int .i64 2,AV.int .i64 0,AV.str [(121:UInt8)]]],AV.int .i64 4,AV.int .i64 9]]
def xnR:=xb5 [(116:UInt8)] [AV.agg [AV.str [(97:UInt8)],AV.int .i64 1,AV.bool false],AV.agg [AV.str [(98:UInt8)],AV.int .i64 2,AV.bool false]] [AV.int .i64 0] [] [] [AV.agg [AV.list 3 [AV.agg [AV.int .i64 1,AV.int .i64 1,AV.str []],AV.agg [AV.int .i64 2,AV.int .i64 0,AV.str [(120:UInt8)]]],AV.int .i64 0,AV.int .i64 5],AV.agg [AV.list 3 [AV.agg [AV.int .i64 1,AV.int .i64 1,AV.str []],AV.agg [AV.int .i64 2,AV.int .i64 0,AV.str [(121:UInt8)]]],AV.int .i64 5,AV.int .i64 9]]
def xnS:=xb5 [(116:UInt8)] [AV.agg [AV.str [(97:UInt8)],AV.int .i64 1,AV.bool false],AV.agg [AV.str [(98:UInt8)],AV.int .i64 2,AV.bool false]] [AV.int .i64 0] [] [] [AV.agg [AV.list 3 [AV.agg [AV.int .i64 1,AV.int .i64 1,AV.str []],AV.agg [AV.int .i64 2,AV.int .i64 0,AV.str [(120:UInt8)]]],AV.int .i64 0,AV.int .i64 5],AV.agg [AV.list 3 [AV.agg [AV.int .i64 1,AV.int .i64 1,AV.str []],AV.agg [AV.int .i64 2,AV.int .i64 0,AV.str [(121:UInt8)]]],AV.int .i64 4,AV.int .i64 9]]
def xll:=xnQ.getD []
def xln:=xuS (xnP.getD []) [AV.agg [AV.int .i64 0,AV.int .i64 9]]
def xlo:=xnO.getD ([],false)
def xcM:=(xll.getD 1 .top).cells
def xie:=(xll.getD 0 .top).cells
def xlk:=xll.length
def xlm:=xat xlo.fst [AV.agg [AV.int .i64 1,AV.int .i64 1,AV.str []],AV.agg [AV.int .i64 2,AV.int .i64 0,AV.str [(120:UInt8)]]]
def xli:=decide (1<xlk)
def xlj:=(↑xlk:Int)
def xlh:=decide (1<xlj)
def xqX {T:Type} (δ:T) (κ:Bool->T):T:=br (xnQ.isSome) (br (xnO.isSome) (br (xnR.isSome) (br (!xnR.getD false) (κ (false)) (br (xnS.isSome) (br (xnS.getD false) (κ (false)) (br (xlj != 2) (κ (false)) (br (!xlo.snd) (κ (false)) (br (xlm.isSome) (br (xlm.getD 0 != 0) (κ (false)) (br (decide (0<xlj)) (br (decide (0<xlk)&&(xie.length==6&&xOP [Sh.int .i64,Sh.int .i64] xie 4)) (br ((xie.getD 4 .top).toInt==4&&((xie.getD 5 .top).toInt==5&&true)) (br (xlh) (br (xli&&(xcM.length==6&&xOP [Sh.int .i64,Sh.int .i64] xcM 4)) (br ((xcM.getD 4 .top).toInt==4&&((xcM.getD 5 .top).toInt==5&&true)) (br (xlh) (br (xli&&xOI (Sh.int .i64) (xcM.getD 0 .top)) (br ((xcM.getD 0 .top).toInt==2) (br (xlh) (br (xli&&xOI Sh.str (xcM.getD 1 .top)) (br ((xcM.getD 1 .top).toStr==[(116:UInt8)]) (br (xnP.isSome) (br (xln.isSome) (κ (xln.getD false)) δ) δ) (κ (false))) δ) δ) (κ (false))) δ) δ) (κ (false))) δ) δ) (κ (false))) δ) δ)) δ)))) δ)) δ) δ) δ
def xjS:Option (Bool):=xqX none some
def xLf:EO:=xLe.f Tryz.func9 97 0 [] [] lk0 xPu (fun _ _=>xqX) (fun _ p=>AV.bool p) false
def xnT {T:Type} (e:List UInt8) (a b c d l:LA) (δ:T) (κ:Bool->T):T:=br (decide ((↑a.length:Int)<=12)) (br ((xtj l 16).isSome) (br ((xtj l 16).getD false) (br ((xmr e a b c d l).isSome) (κ ((xmr e a b c d l).getD false)) δ) (κ (false))) δ) (κ (false))
def xmi (e:List UInt8) (b a c d l:LA):=xnT e b a c d l none some
def xLd:EO:=xLf.f Tryz.func8 18 0 [] [] lk0 (u2 (xPJ (u5 (sEq pStr) (uL 3) (uL 1) (uL 2) (uL 7))) (uL 3)) (fun ((e,b,a,c,d,_),l,_) _=>xnT e b a c d l) (fun _ p=>AV.bool p) false
def xgM {T:Type} (e:List UInt8) (b a c d l:LA) (δ:T) (κ:Bool->T):T:=br ((xmi e b a c d l).isSome) (br (!(xmi e b a c d l).getD false) (br (xjS.isSome) (κ (xjS.getD false)) δ) (br ((xb5 e b a c d l).isSome) (br ((xqg e b a c d l).isSome) (br ((xb5 e b a c d l).getD false==(xqg e b a c d l).getD false) (br ((xdf e b a c d l).isSome) (br ((xcG e b a c d l).isSome) (br ((xgn ((xdf e b a c d l).getD []) ((xcG e b a c d l).getD [])).isSome) (br ((xgn ((xdf e b a c d l).getD []) ((xcG e b a c d l).getD [])).getD false) (br (xjS.isSome) (κ (xjS.getD false)) δ) (κ (false))) δ) δ) δ) (κ (false))) δ) δ)) δ
def xhT (e:List UInt8) (b a c d l:LA):=xgM e b a c d l none some
def xr9:LA->Option (Bool×AV):=fnO (u2 (xPJ (u5 (sEq pStr) (uL 3) (uL 1) (uL 2) (uL 7))) (uL 3)) (fun ((e,b,a,c,d,_),l,_) _=>xgM e b a c d l) (fun _ p=>AV.bool p) false
theorem xr8:OcOk P0 xPq 3 xr9:=fnC xLd.ok Tryz.func3 29 0 [] [] lk0
end Go.Sim.M
