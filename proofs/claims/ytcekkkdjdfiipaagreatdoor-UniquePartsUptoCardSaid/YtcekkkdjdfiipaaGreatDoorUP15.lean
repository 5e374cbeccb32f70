/- Part 15 of the proof of the law. -/
import Derived.Test.YtcekkkdjdfiipaaGreatDoorUP14
import Derived.Deep.LoopGhost
import Derived.Lib.SliceRun
set_option linter.unusedVariables false
set_option linter.unusedSimpArgs false
set_option maxRecDepth 100000
noncomputable section
namespace Go.Proofs
open Go.RowKit Go.Lib Go.Shelf
set_option maxHeartbeats 2000000 in
set_option maxRecDepth 100000 in
theorem Tryz.clone_nil (n c:Nat) (w:World) :
  Calls Tryz.prog 121 #[.slice none n c] w fun e w'=>e=.returned (.slice none 0 0)/\w'=w:=by
 have q22:∀ (w:World) (a:Option Addr) (n c n' c':Nat),(binOp .eql 34 (.slice a n c) (.slice none n' c')).run Tryz.prog w=.ok (.bool a.isNone) w:=fun w a n c n' c'=>Lib.run_eql_slice_nil w 34 64 a n c n' c' (by kernel_rfl)
 go_enter Tryz.func121,Tryz.ntmps121
 go_wp2
 go_ret
 exact ⟨rfl,rfl⟩
set_option maxHeartbeats 2000000 in
set_option maxRecDepth 100000 in
theorem Tryz.clone_some (i0:TypeInfo) (z:Value) (hi:Tryz.prog.info? 64=some i0) (Z:i0.zero=some z) (W:i0.size=3) (U:i0.bytes=32) (Y:z.cells.size=3)
  (a:Addr) (n c:Nat) (news:List Value) (w:World) (hl:news.length=n*3) (hn:n<=maxLen) (O:n*32<=140737488355328)
  (hc:∀ j u,news[j]?=some u->w.cell? (a.add j)=some u) (h1:∀ u∈news,u.oneCell'=true) :
  Calls Tryz.prog 121 #[.slice (some a) n c] w fun e w'=>∃ v',e=.returned v'/\w'.ownsRow w.heap.size 64 3 v' n news/\Below w.heap.size w w':=by
 have q:Tryz.prog.underlying 34=some (.slice 64):=by kernel_rfl
 have q22:∀ (w:World) (a:Option Addr) (n c n' c':Nat),(binOp .eql 34 (.slice a n c) (.slice none n' c')).run Tryz.prog w=.ok (.bool a.isNone) w:=fun w a n c n' c'=>Lib.run_eql_slice_nil w 34 64 a n c n' c' q
 have u22:∀ w,Sem.run Tryz.prog (underlying 34) w=.ok (TypeDesc.slice 64) w:=run_underlying q;have A:Aside (∀ j u,news[j]?=some u->w.cell? (a.add j)=some u):=hc;clear hc
 go_enter Tryz.func121,Tryz.ntmps121
 go_wp2_with (at_builtin;refine wpList_append_own _ rfl _ _ 34 rfl w.heap.size 64 i0 z 3 32 q hi Z W U Y (by decide) _ _ _ rfl (World.ownsRow_made w #[] 0 (Nat.le_refl _) (Nat.zero_le _) (by simp)) a n c news rfl ?qc1 ?qc2 ?qc3 ?qc4 ?qc5 ?qc6 ?_)
 case qc1=>exact hl
 case qc2 =>
  intro j u hj;exact Lib.cell?_alloc_some _ (A.out j u hj)
 case qc3=>exact h1
 case qc4=>rw [Nat.zero_add];exact hn
 case qc5=>rw [Nat.zero_add];exact O
 case qc6=>simp
 intro v' w1 Q J aa
 go_wp2
 go_ret
 refine ⟨v',rfl,by simpa using Q,?_⟩
 exact ((Below.refl _ w).alloc (Nat.le_refl _) _).grown J (by simp) (by intro k hk;simp [Value.ownBlock] at hk;omega)
end Go.Proofs
namespace Go.Sim
open Go.RowKit Go.Proofs
def xp8:List AV->Option (Bool×AV)
 | [.list 3 xs]=>some (decide (xs.length<=4398046511104),.list 3 xs)
 | _=>none
theorem xry {w w':World} {A:Nat->Prop} {e:TypeId} {sz:Nat} {v:Value} {xs:List AV} {news:List Value} (hl:∀ b,A b->b<w.heap.size) (J:w'.ownsRow w.heap.size e sz v xs.length news) (W:∀ x,x∈xs->x.okElem sz=true)
  (hr:∀ i j,i<xs.length->j<sz->Rel w' A xIx (news.getD (i*sz+j) undef) ((xs.getD i .top).cells.getD j .top)):Rel w' A xIx v (.list sz xs):=by
 obtain ⟨aa,h⟩:=J;rcases h with ⟨rfl,h0⟩|⟨g,cap,cur,rfl,hg,hh,Q,ab,U,Y⟩
 . have:xs=[]:=List.eq_nil_of_length_eq_zero h0;subst this;exact .list0 _ _ _
 . by_cases hne:xs=[]
   . subst hne;exact .list0 _ _ _
   . have Z:g<w'.heap.size:=by
      rcases Nat.lt_or_ge g w'.heap.size with h|h
      . exact h
      . rw [Array.getElem?_eq_none h] at hh;simp at hh
     have q:∀ i j,i<xs.length->j<sz->w'.cell? ⟨g,0+i*sz+j,none⟩=some (news.getD (i*sz+j) undef):=fun i j hi hj=>by
      have hk:i*sz+j<xs.length*sz:=xcg hi hj;have O:i*sz+j<cur.size:=by
       rw [U];exact Nat.lt_of_lt_of_le hk (Nat.mul_le_mul_right _ Q)
      have e1:news.getD (i*sz+j) undef=cur[i*sz+j]:=by
       rw [<-Y];simp [List.getD_eq_getElem?_getD,List.getElem?_take,hk,O]
      rw [e1,Nat.zero_add];simp [World.cell?,hh,O]
     exact .list g 0 cap sz xs (fun i j=>news.getD (i*sz+j) undef) (fun hA=>by have:=hl g hA;omega) Z hne Q W q hr
theorem xuO:OcOk Tryz.prog xJt 121 xp8:=fun xs r h=>by
 unfold xp8 at h;split at h
 . rename_i xs;simp only [Option.some.injEq,Prod.mk.injEq,decide_eq_true_eq] at h;obtain ⟨ab,rfl⟩:=h;refine ⟨xdO Tryz.func121 rfl (by kernel_rfl),fun w A vs hI hA aa=>?_⟩
   obtain ⟨v,rfl,h1⟩:=rc1 aa;have J:∃ ti,xIM Tryz.prog 64=some ti/\ti.sz=3/\ti.bytes=32/\ti.zero.okElem 3=true:=by
    have h:(match xIM Tryz.prog 64 with|some ti=>(ti.sz==3)&&((ti.bytes==32)&&ti.zero.okElem 3)|none=>false)=true:=by kernel_rfl
    split at h
    . rename_i ti J;simp only [Bool.and_eq_true,beq_iff_eq] at h;exact ⟨ti,J,h.1,h.2.1,h.2.2⟩
    . simp at h
   obtain ⟨ti,J,s1,s2,s3⟩:=J;obtain ⟨i,z,g1,g2,g3,g4,g5,g6,_⟩:=xaQ J;have W:z.cells.size=3:=by
    have Z:Rel w A xIx z ti.zero:=by rw [g6];exact xbx w A xIx z
    rw [(Z.cells (xaC s3)).1,xan s3]
   have U:∀ n c,v=.slice none n c->xs=[]->Calls Tryz.prog 121 [v].toArray w fun e w'=>∃ v,e=.returned v/\Below w.heap.size w w'/\Rel w' A xIx v (.list 3 xs):=by
    rintro n c rfl rfl;refine (Tryz.clone_nil n c w).mono ?_;rintro e w' ⟨rfl,rfl⟩;exact ⟨_,rfl,Below.refl _ _,.list0 _ _ _⟩
   have Q:∀ b off c (val:Nat->Nat->Value),v=.slice (some ⟨b,off,none⟩) xs.length c->(∀ x,x∈xs->x.okElem 3=true)->(∀ i j,i<xs.length->j<3->w.cell? ⟨b,off+i*3+j,none⟩=some (val i j))->(∀ i j,i<xs.length->j<3->Rel w A xIx (val i j) ((xs.getD i .top).cells.getD j .top)) ->
     Calls Tryz.prog 121 [v].toArray w fun e w'=>∃ v,e=.returned v/\Below w.heap.size w w'/\Rel w' A xIx v (.list 3 xs):=by
    rintro b off c val rfl Y hc hr;have hs:∀ i j,i<xs.length->j<3->∃ u,w.cell? ⟨b,off+(i*3+j),none⟩=some u/\Rel w A xIx u ((xs.getD i .top).cells.getD j .top):=fun i j hi hj=>⟨val i j,by rw [<-Nat.add_assoc];exact hc i j hi hj,hr i j hi hj⟩
    refine (Tryz.clone_some i z g1 g3 (by rw [<-g4,s1]) (by rw [<-g5,s2]) W ⟨b,off,none⟩ xs.length c (xJb w b off (xs.length*3)) w (xfd _ _ _ _) (by unfold maxLen;omega) (by omega)
     (fun j u hj=>xqK (by decide) hs j u hj) (xAc (by decide) hs Y)).mono ?_
    rintro e w' ⟨v',rfl,O,q⟩;exact ⟨v',rfl,q,xry hA O Y fun i j hi hj=>(xAd hs hi hj).grow q⟩
   have h1':=h1;generalize hx:AV.list 3 xs=x at h1;cases h1 with
   | list0 a cap sz =>
    simp only [AV.list.injEq] at hx;obtain ⟨rfl,rfl⟩:=hx;cases a with
    | none=>exact U 0 cap rfl rfl
    | some a =>
     refine (Tryz.clone_some i z g1 g3 (by rw [<-g4,s1]) (by rw [<-g5,s2]) W a 0 cap [] w rfl (Nat.zero_le _) (by omega) (by simp) (by simp)).mono ?_
     rintro e w' ⟨v',rfl,O,q⟩;exact ⟨v',rfl,q,xry hA (xs:=[]) O (by simp) (by simp)⟩
   | list b off cap sz ys val ha hb hne hcap hsz hc hr =>
    simp only [AV.list.injEq] at hx;obtain ⟨rfl,rfl⟩:=hx;exact Q b off cap val rfl hsz hc hr
   | _=>simp at hx
 . simp at h
end Go.Sim
namespace Go.Sim.M
open Go.IntKind (i64 u64 u8)
open Go.RowKit Go.Proofs
def xwD:EO:=xFS.w xuO
def xb6 (a:Nat) (j:Int):=decide (0<=i64.wrap (j - 1))&&decide (i64.wrap (j - 1)<(↑a:Int))
def xak (j:Int):Nat:=0+(i64.wrap (j - 1)).toNat
def xb7 (a:Nat) (j:Int):=decide (0<=j)&&decide (j<(↑a:Int))
def xee (j:Int) (a:LA):=decide (0+j.toNat<a.length)
def xec (j:Int) (a:LA):=decide (xak j<a.length)&&xIL (Sh.list 3) ((a.getD (xak j) .top).cells.getD 0 .top)
def xed (j:Int) (a:LA):=xee j a&&xIL (Sh.list 3) ((a.getD (0+j.toNat) .top).cells.getD 0 .top)
def xes {T:Type} (d:Nat) (a b i j:Int) (c:LA) (δ:T) (κl:(Int×LA)->T) (κr:(LA)->T):T:=br (decide (j>a)) (br (xb7 d j) (br (xed j c) (br (xb6 d j) (br (xec j c) (br ((xb0 ((c.getD (0+j.toNat) .top).cells.getD 0 .top).toList ((c.getD (xak j) .top).cells.getD 0 .top).toList).isSome) (br (decide ((xb0 ((c.getD (0+j.toNat) .top).cells.getD 0 .top).toList ((c.getD (xak j) .top).cells.getD 0 .top).toList).getD 0<0)) (br (xb6 d j) (br (xec j c) (br (xb7 d j) (br (xed j c) (br (xb7 d j) (br (xee j c) (br (xb6 d j) (br (decide (xak j<(c.set (0+j.toNat) (AV.list 3 ((c.getD (xak j) .top).cells.getD 0 .top).toList)).length)) (κl (i64.wrap (j - 1),(c.set (0+j.toNat) (AV.list 3 ((c.getD (xak j) .top).cells.getD 0 .top).toList)).set (xak j) (AV.list 3 ((c.getD (0+j.toNat) .top).cells.getD 0 .top).toList))) δ) δ) δ) δ) δ) δ) δ) δ) (κr (c))) δ) δ) δ) δ) δ) (κr (c))
def xaX (d:Nat) (a b i:Int):StT (Int×LA) (LA):=fun (j,c)=>xes d a b i j c none inL inR
def xbk:=xwD.l 53 1 [34] [] Tryz.f171 1 lk0 [0,1,2,3,8,9] [0,1,2,3,8] [] (q6 (xJH 0 0 0) qI qI (xI9 99 xJw) qI qI) (q1 (qB 0 1 34 xJz)) (fun (c,a,b,_,i,j,_) (d,_)=>(xaX c a b i,(j,d),fun p=>(.leaf (.exit 2) [AV.osl 0 0 0 c,AV.int .i64 a,AV.int .i64 b,AV.func 99 [],AV.int .i64 i] [bF 0 1 34 p]))) [] fun (c,a,b,_,i,_,_) _ (j,d)=>(((c,a,b,(),i,j,()),(d,())),xes c a b i j d none)
def xer {T:Type} (d:Nat) (a b i:Int) (c:LA) (δ:T) (κl:(Int×LA)->T) (κr:(LA)->T):T:=br (decide (i<b)) (br ((Iter (xaX d a b i) (i,c)).isSome) (κl (i64.wrap (i+1),(Iter (xaX d a b i) (i,c)).getD [])) δ) (κr (c))
def xaW (d:Nat) (a b:Int):StT (Int×LA) (LA):=fun (i,c)=>xer d a b i c none inL inR
def xeb:=xwD.l 53 1 [34] [(4,xbk.lp)] Tryz.f171 0 (lk1 xbk.ok) [0,1,2,3,8] [] [] (q5 (xJH 0 0 0) qI qI (xI9 99 xJw) qI) (q1 (qB 0 1 34 xJz)) (fun (d,a,b,_,i,_) (c,_)=>(xaW d a b,(i,c),fun p=>(.leaf (.exit 0) [] [bF 0 1 34 p]))) [] fun (d,a,b,_,_,_) _ (i,c)=>(((d,a,b,(),i,()),(c,())),xer d a b i c none)
def xcR {T:Type} (n:Nat) (a b:Int) (c:LA) (δ:T) (κ:LA->T):T:=br ((Iter (xaW n a b) (i64.wrap (a+1),c)).isSome) (κ ((Iter (xaW n a b) (i64.wrap (a+1),c)).getD [])) δ
def xaN (n:Nat) (a b:Int) (c:LA):=xcR n a b c none some
def xwt:EO:=xwD.fM Tryz.func171 53 1 [34] [(4,xbk.lp),(1,xeb.lp)] (lks (lkC xeb.ok (lkC xbk.ok lkN))) (u4 (sEq (xJH 0 0 0)) uI uI (sEq (xI9 (99:FuncId) xJw))) (q1 (qB 0 1 34 xJz)) (fun (n,a,b,_,_) (c,_) _=>xcR n a b c) (fun _ _ p=>(AV.tuple [],([bF 0 1 34 p]:List Box))) []
def xdT {T:Type} (d:Nat) (n e a b:Int) (c:LA) (δ:T) (κl:(Int×Int×LA)->T) (κr:(Int×LA)->T):T:=br (decide (b<=n)) (br ((xaN d a b c).isSome) (κl (b,i64.wrap (b+e),(xaN d a b c).getD [])) δ) (κr (a,c))
def xa7 (e:Nat) (n c:Int):StT (Int×Int×LA) (Int×LA):=fun (a,b,d)=>xdT e n c a b d none inL inR
def xca:=xwt.l 63 1 [34] [] Tryz.f145 0 lk0 [0,1,2,6,7,8] [0,1,2,6,7] [] (q6 (xJH 0 0 0) qI (xI9 99 xJw) qI qI qI) (q1 (qB 0 1 34 xJz)) (fun (d,n,_,c,a,b,_) (e,_)=>(xa7 d n c,(a,b,e),fun p=>(.leaf (.exit 0) [AV.osl 0 0 0 d,AV.int .i64 n,AV.func 99 [],AV.int .i64 c,AV.int .i64 p.1] [bF 0 1 34 p.2]))) (0,[]) fun (d,n,_,c,_,_,_) _ (a,b,e)=>(((d,n,(),c,a,b,()),(e,())),xdT d n c a b e none)
def xgU {T:Type} (d:Nat) (n e a b:Int) (c:LA) (δ:T) (κl:(Int×Int×LA)->T) (κr:(Int×LA)->T):T:=br (decide (b<=n)) (br (decide (0+d<=c.length)&&true) δ δ) (κr (a,c))
def xfT (e:Nat) (n c:Int):StT (Int×Int×LA) (Int×LA):=fun (a,b,d)=>xgU e n c a b d none inL inR
def xcb:=xwt.l 63 1 [34] [(2,xca.lp)] Tryz.f145 2 lk0 [0,1,2,6,7,8] [0,1,2,6,7] [] (q6 (xJH 0 0 0) qI (xI9 99 xJw) qI qI qI) (q1 (qB 0 1 34 xJz)) (fun (d,n,_,c,a,b,_) (e,_)=>(xfT d n c,(a,b,e),fun p=>(.leaf (.exit 4) [AV.osl 0 0 0 d,AV.int .i64 n,AV.func 99 [],AV.int .i64 c,AV.int .i64 p.1] [bF 0 1 34 p.2]))) (0,[]) fun (d,n,_,c,_,_,_) _ (a,b,e)=>(((d,n,(),c,a,b,()),(e,())),xgU d n c a b e none)
def xgw (c:Nat) (n a:Int) (b:LA):=Iter (xfT c n a) (0,i64.wrap (2*a),b)
def xgv (c:Nat) (n a:Int) (b:LA):=(xgw c n a b).getD (0,[])
def xgu (c:Nat) (n a:Int) (b:LA):=(xgv c n a b).snd
def xdU {T:Type} (c:Nat) (n a:Int) (b:LA) (δ:T) (κl:(Int×LA)->T) (κr:(LA)->T):T:=br (decide (a<n)) (br ((xgw c n a b).isSome) (br (decide (i64.wrap ((xgv c n a b).fst+a)<n)) (br (decide (0+c<=(xgu c n a b).length)&&true) δ δ) (κl (i64.wrap (a*2),xgu c n a b))) δ) (κr (b))
def xbO (c:Nat) (n:Int):StT (Int×LA) (LA):=fun (a,b)=>xdU c n a b none inL inR
def xgt:=xwt.l 63 1 [34] [(2,xca.lp),(9,xcb.lp)] Tryz.f145 1 (lk1 xcb.ok) [0,1,2,6] [] [] (q4 (xJH 0 0 0) qI (xI9 99 xJw) qI) (q1 (qB 0 1 34 xJz)) (fun (c,n,_,a,_) (b,_)=>(xbO c n,(a,b),fun p=>(.leaf (.exit 2) [] [bF 0 1 34 p]))) [] fun (c,n,_,_,_) _ (a,b)=>(((c,n,(),a,()),(b,())),xdU c n a b none)
def xeQ (n:Nat) (k:Int) (a:LA):=(Iter (xa7 n k 20) (0,20,a)).getD (0,[])
def xeP (n:Nat) (k:Int) (a:LA):=xaN n (xeQ n k a).fst k (xeQ n k a).snd
def xeO (n:Nat) (k:Int) (a:LA):=Iter (xbO n k) (20,(xeP n k a).getD [])
def xfb {T:Type} (n:Nat) (k:Int) (a:LA) (δ:T) (κ:LA->T):T:=br ((Iter (xa7 n k 20) (0,20,a)).isSome) (br ((xeP n k a).isSome) (br ((xeO n k a).isSome) (κ ((xeO n k a).getD [])) δ) δ) δ
def xdJ (n:Nat) (k:Int) (a:LA):=xfb n k a none some
def xG0:EO:=xwt.fM Tryz.func145 63 1 [34] [(2,xca.lp),(9,xcb.lp),(7,xgt.lp)] (lks (lkC xca.ok (lkC xgt.ok (lkC xcb.ok lkN)))) (u3 (sEq (xJH 0 0 0)) uI (sEq (xI9 (99:FuncId) xJw))) (q1 (qB 0 1 34 xJz)) (fun (n,k,_,_) (a,_) _=>xfb n k a) (fun _ _ p=>(AV.tuple [],([bF 0 1 34 p]:List Box))) []
def xeM {T:Type} (n:Nat) (a:LA) (δ:T) (κ:LA->T):T:=br ((xdJ n (↑n:Int) a).isSome) (κ ((xdJ n (↑n:Int) a).getD [])) δ
def xja (n:Nat) (a:LA):=xeM n a none some
def xEh:EO:=xG0.fM Tryz.func122 9 1 [34] [] lk0 (u2 (sEq (xJH 0 0 0)) (sEq (xI9 (99:FuncId) xJw))) (q1 (qB 0 1 34 xJz)) (fun (n,_,_) (a,_) _=>xeM n a) (fun _ _ p=>(AV.tuple [],([bF 0 1 34 p]:List Box))) []
def xfk {T:Type} (d:LA) (e:Int) (c:Nat) (b:Int) (a:LA) (δ:T) (κl:(Nat×Int×LA)->T) (κr:(Nat×LA)->T):T:=br (decide (b<e)) (br (ixI d b) (br (ixS d b (Sh.list 3) 0) (br (decide ((gC d b 0).toList.length<=4398046511104)) (br (rmB c a 1 24) (κl (c+1,i64.wrap (b+1),a++[AV.list 3 (gC d b 0).toList])) δ) δ) δ) δ) (κr (c,a))
def xbg (c:LA) (d:Int):StT (Nat×Int×LA) (Nat×LA):=fun (b,e,a)=>xfk c d b e a none inL inR
def xlq:=xEh.l 27 0 [34] [] Tryz.f98 0 lk0 [1,5,11,12,13] [1,5] [(5,1,34)] (q5 (xI9 99 xJw) (xJH 0 0 0) (qL 1) qI qI) (q1 (qB 0 1 34 xJz)) (fun (_,b,c,d,e,_) (a,_)=>(xbg c d,(b,e,a),fun p=>(.leaf (.exit 0) [AV.func 99 [],AV.osl 0 0 0 p.1] [bF 0 1 34 p.2]))) (0,[]) fun (_,_,c,d,_,_) _ (b,e,a)=>((((),b,c,d,e,()),(a,())),xfk c d b e a none)
def xjz (l:LA):=(Iter (xbg l (↑l.length:Int)) (0,0,[])).getD (0,[])
def xgk (l:LA):=(xjz l).fst
def xjy (l:LA):=xja (xgk l) (xjz l).snd
def xjw (l:LA):=(xjy l).getD []
def xkl {T:Type} (l:LA) (δ:T) (κ:LA->T):T:=br (decide (24*(↑l.length:Int)<=281474976710656)&&decide ((↑l.length:Int)<=4611686018427387904)) (br ((Iter (xbg l (↑l.length:Int)) (0,0,[])).isSome) (br ((xjy l).isSome) (br (decide (0+xgk l<=(xjw l).length)&&true) (κ (List.take (xgk l) (List.drop 0 (xjw l)))) δ) δ) δ) δ
def xml (l:LA):=xkl l none some
def xG1:EO:=xEh.f Tryz.func98 27 0 [34] [(3,xlq.lp)] (lk1 xlq.ok) (u2 (uL 1) (sEq (xI9 (99:FuncId) xJw))) (fun (l,_,_) _=>xkl l) (fun _ p=>AV.list 1 p) []
def xoQ {T:Type} (l:LA) (δ:T) (κ:LA->T):T:=br ((xml l).isSome) (κ ((xml l).getD [])) δ
def xnR (l:LA):=xoQ l none some
def xEi:EO:=xG1.f Tryz.func70 5 0 [] [] lk0 (u1 (uL 1)) (fun (l,_) _=>xoQ l) (fun _ p=>AV.list 1 p) []
def xgX {T:Type} (t:Int) (d:LA) (e:Int) (c:Nat) (b:Int) (a:LA) (δ:T) (κl:(Nat×Int×LA)->T) (κr:(Nat×LA)->T):T:=br (decide (b<e)) (br (ixI d b) (br (ixT d b 3 [Sh.list 3,Sh.int .i64,Sh.int .i64] 0) (br (xk3 (gC d b 1).toInt (gC d b 2).toInt t) (br (rmB c a 1 24) (κl (c+1,i64.wrap (b+1),a++[AV.list 3 (gC d b 0).toList])) δ) (κl (c,i64.wrap (b+1),a))) δ) δ) (κr (c,a))
def xcp (t:Int) (d:LA) (e:Int):StT (Nat×Int×LA) (Nat×LA):=fun (b,c,a)=>xgX t d e b c a none inL inR
def xnr:=xEi.l 26 0 [] [] Tryz.f39 0 lk0 [1,5,8,9,10] [5] [(5,1,34)] (q5 qI (xJH 0 0 0) (qL 3) qI qI) (q1 (qB 0 1 34 xJz)) (fun (t,b,d,e,c,_) (a,_)=>(xcp t d e,(b,c,a),fun p=>(.leaf (.exit 0) [AV.osl 0 0 0 p.1] [bF 0 1 34 p.2]))) (0,[]) fun (t,_,d,e,_,_) _ (b,c,a)=>(((t,b,d,e,c,()),(a,())),xgX t d e b c a none)
def xlQ (l:LA) (t:Int):=(Iter (xcp t l (↑l.length:Int)) (0,0,[])).getD (0,[])
def xlO (l:LA) (t:Int):=(xlQ l t).snd
def xlP (l:LA) (t:Int):=(xlQ l t).fst
def xlN (l:LA) (t:Int):=xnR (List.take (xlP l t) (List.drop 0 (xlO l t)))
def xm2 {T:Type} (l:LA) (t:Int) (δ:T) (κ:LA->T):T:=br ((Iter (xcp t l (↑l.length:Int)) (0,0,[])).isSome) (br (decide (0+xlP l t<=(xlO l t).length)&&true) (br ((xlN l t).isSome) (κ ((xlN l t).getD [])) δ) δ) δ
def xeW (l:LA) (t:Int):=xm2 l t none some
def xBM:EO:=xEi.f Tryz.func39 26 0 [] [(3,xnr.lp)] (lk1 xnr.ok) (u2 (uL 3) uI) (fun (l,t,_) _=>xm2 l t) (fun _ p=>AV.list 1 p) []
def xgQ:Env:=xBM.E.fn 23 0 (lsOf []) (xI8 [])
theorem xuh:xIN P0 (xJt.at 0) xgQ:=xBM.ok.fn
theorem xsh:LoOk P0 (xJt.at xgQ.pin) xgQ (Tryz.f15.body.getD .skip):=xit (by kernel_rfl)
def xjK {T:Type} (e:List UInt8) (b a c d l f:LA) (g:Int) (δ:T) (κ:Bool×(Bool)×(LA×Bool)->T):T:=br ((xb1 e b a c d l f).isSome) (br ((xeW ((xb1 e b a c d l f).getD []) g).isSome) (br ((↑((xeW ((xb1 e b a c d l f).getD []) g).getD []).length:Int)==0) (κ (true,(false),([],false))) (br (decide (0<(↑((xeW ((xb1 e b a c d l f).getD []) g).getD []).length:Int))) (br (decide (0<((xeW ((xb1 e b a c d l f).getD []) g).getD []).length)&&xIL (Sh.list 3) ((((xeW ((xb1 e b a c d l f).getD []) g).getD []).getD 0 .top).cells.getD 0 .top)) (κ (false,false,(((((xeW ((xb1 e b a c d l f).getD []) g).getD []).getD 0 .top).cells.getD 0 .top).toList,true))) δ) δ)) δ) δ
def xex (e:List UInt8) (b a c d l f:LA) (g:Int):Option (LA×Bool):=xjK e b a c d l f g none (fun (p:Bool×(Bool)×(LA×Bool))=>some (br p.1 (([],p.2.1)) p.2.2))
theorem xzK (e:List UInt8) (b a c d l f:LA) (g:Int):EncS (fun (p:LA×Bool)=>(AV.tuple [AV.list 3 p.1,AV.bool p.2]:AV)) (xex e b a c d l f g) (XF P0 xgQ Tryz.f15 (Tryz.f15.body.getD .skip) [AV.agg [AV.str e,AV.list 3 b,AV.list 1 a,AV.list 2 c,AV.list 7 d],AV.list 3 l,AV.list 3 f,AV.int .i64 g]):=by
 have h:XF P0 xgQ Tryz.f15 (Tryz.f15.body.getD .skip) [AV.agg [AV.str e,AV.list 3 b,AV.list 1 a,AV.list 2 c,AV.list 7 d],AV.list 3 l,AV.list 3 f,AV.int .i64 g]=xjK e b a c d l f g none (fun (p:Bool×(Bool)×(LA×Bool))=>some ((br p.1 (AV.tuple [AV.nils,AV.bool p.2.1]) (AV.tuple [AV.list 3 p.2.2.1,AV.bool p.2.2.2])):AV)):=by kernel_rfl
 rw [h];unfold xex xjK;repeat' (first|exact EncS.none|exact EncS.some (Sub.refl _)|exact EncS.some (xtm _)|exact EncS.some (xwq _ _)|refine EncS.br ?_ ?_)
def xzJ:LA->Option (Bool×AV):=ocOf (xJv (xJM (xJv (sEq pStr) (xJv (xJL 3 xJz) (xJv (xJL 1 xJz) (xJv (xJL 2 xJz) (xJv (xJL 7 xJz) xJy)))))) (xJv (xJL 3 xJz) (xJv (xJL 3 xJz) (xJv (sEq (pInt .i64)) xJy)))) fun ((e,(b,(a,(c,(d,_))))),(l,(f,(g,_))))=>((xex e b a c d l f g).isSome,(AV.tuple [AV.list 3 ((xex e b a c d l f g).getD ([],false)).1,AV.bool ((xex e b a c d l f g).getD ([],false)).2]))
theorem xzI:OcOk P0 xJt 15 (xzJ):=xiX fun h q i=>by
 obtain ⟨⟨j,⟨e,⟨a,⟨f,⟨g,_⟩⟩⟩⟩⟩,⟨l,⟨n,⟨o,_⟩⟩⟩⟩:=h;obtain ⟨b,c⟩:=Prod.mk.inj i;obtain ⟨y,k,m⟩:=xzK _ _ _ _ _ _ _ _ _ (xbt (d:=([],false)) b);have hg:Good P0 xJt 15 _ _:=xj6 (p:=xgQ.pin) (xlU xIW (xIX P0 _) rfl xuh Tryz.func15 rfl (by kernel_rfl) xsh k)
 rw [<-c];exact Good.sub hg m
def xFu:EO:=xFO.w xqd
def xFv:EO:=xFu.w xlD
def xFw:EO:=xFv.w xnB
def xFy:EO:=xFw.w xzI
def xAO (n:Int) (c:List UInt8) (a b:Int):LA×Int×Int:=(([AV.agg [AV.int .i64 1,AV.int .i64 n,AV.str []],AV.agg [AV.int .i64 2,AV.int .i64 0,AV.str c]],a,b))
def xyi {T:Type} (n:Int) (c:List UInt8) (a b:Int) (δ:T) (κ:LA×Int×Int->T):T:=κ ([AV.agg [AV.int .i64 1,AV.int .i64 n,AV.str []],AV.agg [AV.int .i64 2,AV.int .i64 0,AV.str c]],a,b)
def xFs:EO:=xFy.fT Tryz.func29 18 0 [] [] lk0 (fun (n,c,a,b,_)=>xyi n c a b none) (u4 uI (sEq pStr) uI uI) (fun (n,c,a,b,_)=>xAO n c a b) (fun _ p=>(AV.agg [AV.list 3 p.1,AV.int .i64 p.2.1,AV.int .i64 p.2.2]))
def xkV:=xex [(116:UInt8)] [AV.agg [AV.str [(97:UInt8)],AV.int .i64 1,AV.bool false],AV.agg [AV.str [(98:UInt8)],AV.int .i64 2,AV.bool false]] [AV.int .i64 0] [] [] [AV.agg [AV.list 3 [AV.agg [AV.int .i64 1,AV.int .i64 1,AV.str []],AV.agg [AV.int .i64 2,AV.int .i64 0,AV.str [(120:UInt8)]]],AV.int .i64 0,AV.int .i64 5],AV.agg [AV.list 3 [AV.agg [AV.int .i64 1,AV.int .i64 1,AV.str []],AV.agg [AV.int .i64 2,AV.int .i64 0,AV.str [(121:UInt8)]]],AV.int .i64 4,AV.int .i64 9]] [AV.agg [AV.int .i64 1,AV.int .i64 1,AV.str []]] 4
def xkW:=xib [(116:UInt8)] [AV.agg [AV.str [(97:UInt8)],AV.int .i64 1,AV.bool false],AV.agg [AV.str [(98:UInt8)],AV.int .i64 2,AV.bool false]] [AV.int .i64 0] [] [] [AV.agg [AV.list 3 [AV.agg [AV.int .i64 1,AV.int .i64 1,AV.str []],AV.agg [AV.int .i64 2,AV.int .i64 0,AV.str [(120:UInt8)]]],AV.int .i64 0,AV.int .i64 5],AV.agg [AV.list 3 [AV.agg [AV.int .i64 1,AV.int .i64 1,AV.str []],AV.agg [AV.int .i64 2,AV.int .i64 0,AV.str [(121:UInt8)]]],AV.int .i64 5,AV.int .i64 9]] [AV.agg [AV.int .i64 1,AV.int .i64 1,AV.str []]]
def xkX:=xgl [(116:UInt8)] [AV.agg [AV.str [(97:UInt8)],AV.int .i64 1,AV.bool false],AV.agg [AV.str [(98:UInt8)],AV.int .i64 2,AV.bool false]] [AV.int .i64 0] [] [] [AV.agg [AV.list 3 [AV.agg [AV.int .i64 1,AV.int .i64 1,AV.str []],AV.agg [AV.int .i64 2,AV.int .i64 0,AV.str [(120:UInt8)]]],AV.int .i64 0,AV.int .i64 5],AV.agg [AV.list 3 [AV.agg [AV.int .i64 1,AV.int .i64 1,AV.str []],AV.agg [AV.int .i64 2,AV.int .i64 0,AV.str [(121:UInt8)]]],AV.int .i64 4,AV.int .i64 9]]
def xkY:=xbd [(116:UInt8)] [AV.agg [AV.str [(97:UInt8)],AV.int .i64 1,AV.bool false],AV.agg [AV.str [(98:UInt8)],AV.int .i64 2,AV.bool false]] [AV.int .i64 0] [] [] [AV.agg [AV.list 3 [AV.agg [AV.int .i64 1,AV.int .i64 1,AV.str []],AV.agg [AV.int .i64 2,AV.int .i64 0,AV.str [(120:UInt8)]]],AV.int .i64 0,AV.int .i64 5],AV.agg [AV.list 3 [AV.agg [AV.int .i64 1,AV.int .i64 1,AV.str []],AV.agg [AV.int .i64 2,AV.int .i64 0,AV.str [(121:UInt8)]]],AV.int .i64 5,AV.int .i64 9]]
def xkZ:=xbd [(116:UInt8)] [AV.agg [AV.str [(97:UInt8)],AV.int .i64 1,AV.bool false],AV.agg [AV.str [(98:UInt8)],AV.int .i64 2,AV.bool false]] [AV.int .i64 0] [] [] [AV.agg [AV.list 3 [AV.agg [AV.int .i64 1,AV.int .i64 1,AV.str []],AV.agg [AV.int .i64 2,AV.int .i64 0,AV.str [(120:UInt8)]]],AV.int .i64 0,AV.int .i64 5],AV.agg [AV.list 3 [AV.agg [AV.int .i64 1,AV.int .i64 1,AV.str []],AV.agg [AV.int .i64 2,AV.int .i64 0,AV.str [(121:UInt8)]]],AV.int .i64 4,AV.int .i64 9]]
def xiT:=xkX.getD []
def xiV:=xqB (xkW.getD []) [AV.agg [AV.int .i64 0,AV.int .i64 9]]
def xiW:=xkV.getD ([],false)
def xb3:=(xiT.getD 1 .top).cells
def xgp:=(xiT.getD 0 .top).cells
def xiS:=xiT.length
def xiU:=xm7 xiW.fst [AV.agg [AV.int .i64 1,AV.int .i64 1,AV.str []],AV.agg [AV.int .i64 2,AV.int .i64 0,AV.str [(120:UInt8)]]]
def xiQ:=decide (1<xiS)
def xiR:=(↑xiS:Int)
def xiP:=decide (1<xiR)
def xm3 {T:Type} (δ:T) (κ:Bool->T):T:=br (xkX.isSome) (br (xkV.isSome) (br (xkY.isSome) (br (!xkY.getD false) (κ (false)) (br (xkZ.isSome) (br (xkZ.getD false) (κ (false)) (br (xiR != 2) (κ (false)) (br (!xiW.snd) (κ (false)) (br (xiU.isSome) (br (xiU.getD 0 != 0) (κ (false)) (br (decide (0<xiR)) (br (decide (0<xiS)&&(xgp.length==6&&xIS [Sh.int .i64,Sh.int .i64] xgp 4)) (br ((xgp.getD 4 .top).toInt==4&&((xgp.getD 5 .top).toInt==5&&true)) (br (xiP) (br (xiQ&&(xb3.length==6&&xIS [Sh.int .i64,Sh.int .i64] xb3 4)) (br ((xb3.getD 4 .top).toInt==4&&((xb3.getD 5 .top).toInt==5&&true)) (br (xiP) (br (xiQ&&xIL (Sh.int .i64) (xb3.getD 0 .top)) (br ((xb3.getD 0 .top).toInt==2) (br (xiP) (br (xiQ&&xIL Sh.str (xb3.getD 1 .top)) (br ((xb3.getD 1 .top).toStr==[(116:UInt8)]) (br (xkW.isSome) (br (xiV.isSome) (κ (xiV.getD false)) δ) δ) (κ (false))) δ) δ) (κ (false))) δ) δ) (κ (false))) δ) δ) (κ (false))) δ) δ)) δ)))) δ)) δ) δ) δ
def xhF:Option (Bool):=xm3 none some
def xFt:EO:=xFs.f Tryz.func9 97 0 [] [] lk0 xJy (fun _ _=>xm3) (fun _ p=>AV.bool p) false
def xkx {T:Type} (e:List UInt8) (a b c d l:LA) (δ:T) (κ:Bool->T):T:=br (decide ((↑a.length:Int)<=12)) (br ((xpg l 16).isSome) (br ((xpg l 16).getD false) (br ((xjS e a b c d l).isSome) (κ ((xjS e a b c d l).getD false)) δ) (κ (false))) δ) (κ (false))
def xjL (e:List UInt8) (b a c d l:LA):=xkx e b a c d l none some
def xBr:EO:=xFt.f Tryz.func8 18 0 [] [] lk0 (u2 (xJM (u5 (sEq pStr) (uL 3) (uL 1) (uL 2) (uL 7))) (uL 3)) (fun ((e,b,a,c,d,_),l,_) _=>xkx e b a c d l) (fun _ p=>AV.bool p) false
def xdG {T:Type} (l:LA) (c:Int) (b:Nat) (i:Int) (d:List UInt8) (e f g h a:LA) (δ:T) (κl:(Int×Nat×Int×List UInt8×LA×LA×LA×LA×LA)->T) (κr:(Nat×List UInt8×LA×LA×LA×LA×LA)->T):T:=br (decide (i<l.length)) (br (c.tmod 2==1) (br (ixI l i) (br (ixT l i 3 [Sh.list 3,Sh.int .i64,Sh.int .i64] 0) (br (rmB b a 1 40) (κl (IntKind.u16.wrap (c.tdiv 2),b+1,i64.wrap (i+1),d,e,f,g,h,a++[AV.agg [AV.list 3 (gC l i 0).toList,AV.int .i64 (gC l i 1).toInt,AV.int .i64 (gC l i 2).toInt]])) δ) δ) δ) (κl (IntKind.u16.wrap (c.tdiv 2),b,i64.wrap (i+1),d,e,f,g,h,a))) (κr (b,d,e,f,g,h,a))
def xbh (l:LA):StT (Int×Nat×Int×List UInt8×LA×LA×LA×LA×LA) (Nat×List UInt8×LA×LA×LA×LA×LA):=fun (c,b,i,d,e,f,g,h,a)=>xdG l c b i d e f g h a none inL inR
def xi8:=xBr.l 48 0 [] [] Tryz.f7 0 lk0 [1,2,3,7,8] [1,3,7] [(7,3,58)] (q5 (qL 3) (pInt .u16) (xJI 0 0 0 0) (xJH 1 0 0) qI) (q2 (qB 0 5 27 (q1 (xJJ (q5 pStr (qL 3) (qL 1) (qL 2) (qL 7))))) (qB 0 3 58 xJz)) (fun (l,c,_,b,i,_) (((d,e,f,g,h,_),_),a,_)=>(xbh l,(c,b,i,d,e,f,g,h,a),fun p=>(.leaf (.exit 0) [AV.list 3 l,AV.own 0 0 0 0,AV.osl 1 0 0 p.1] [bF 0 5 27 [AV.agg [AV.str p.2.1,AV.list 3 p.2.2.1,AV.list 1 p.2.2.2.1,AV.list 2 p.2.2.2.2.1,AV.list 7 p.2.2.2.2.2.1]],bF 0 3 58 p.2.2.2.2.2.2]))) (0,[],[],[],[],[],[]) fun (l,_,_,_,_,_) _ (c,b,i,d,e,f,g,h,a)=>(((l,c,(),b,i,()),(((d,e,f,g,h,()),()),a,())),xdG l c b i d e f g h a none)
def xd8 (e:List UInt8) (b a c d l:LA) (f:Int):=Iter (xbh l) (f,0,0,e,b,a,c,d,[])
def xd7 (e:List UInt8) (b a c d l:LA) (f:Int):=(xd8 e b a c d l f).getD (0,[],[],[],[],[],[])
def xd5 (e:List UInt8) (b a c d l:LA) (f:Int):=(xd7 e b a c d l f).snd
def xd6 (e:List UInt8) (b a c d l:LA) (f:Int):=(xd7 e b a c d l f).fst
def xc1 (e:List UInt8) (b a c d l:LA) (f:Int):=(xd5 e b a c d l f).fst
def xd4 (e:List UInt8) (b a c d l:LA) (f:Int):=(xd5 e b a c d l f).snd
def xc0 (e:List UInt8) (b a c d l:LA) (f:Int):=(xd4 e b a c d l f).fst
def xd3 (e:List UInt8) (b a c d l:LA) (f:Int):=(xd4 e b a c d l f).snd
def xcx (e:List UInt8) (b a c d l:LA) (f:Int):=(xd3 e b a c d l f).fst
def xd2 (e:List UInt8) (b a c d l:LA) (f:Int):=(xd3 e b a c d l f).snd
def xcZ (e:List UInt8) (b a c d l:LA) (f:Int):=(xd2 e b a c d l f).fst
def xeD (e:List UInt8) (b a c d l:LA) (f:Int):=(xd2 e b a c d l f).snd
def xcY (e:List UInt8) (b a c d l:LA) (f:Int):=(xeD e b a c d l f).fst
def xeC (e:List UInt8) (b a c d l:LA) (f:Int):=(xeD e b a c d l f).snd
def xez (e:List UInt8) (b a c d l:LA) (f:Int):=xbd (xc1 e b a c d l f) (xc0 e b a c d l f) (xcx e b a c d l f) (xcZ e b a c d l f) (xcY e b a c d l f) (List.take (xd6 e b a c d l f) (List.drop 0 (xeC e b a c d l f)))
def xeA (e:List UInt8) (b a c d l:LA) (f:Int):=xbd (xc1 e b a c d l f) (xc0 e b a c d l f) (xcx e b a c d l f) (xcZ e b a c d l f) (xcY e b a c d l f) []
def xeB (e:List UInt8) (b a c d l:LA) (f:Int):=xbd (xc1 e b a c d l f) (xc0 e b a c d l f) (xcx e b a c d l f) (xcZ e b a c d l f) (xcY e b a c d l f) l
def xgo {T:Type} (e:List UInt8) (b a c d l:LA) (f:Int) (δ:T) (κ:Bool->T):T:=br ((xeA e b a c d l f).isSome) (br ((xeA e b a c d l f).getD false) (br (xhF.isSome) (κ (xhF.getD false)) δ) (κ (false))) δ
def xhO {T:Type} (e:List UInt8) (b a c d l:LA) (f:Int) (δ:T) (κ:Bool->T):T:=br ((xjL e b a c d l).isSome) (br (!(xjL e b a c d l).getD false) (br (xhF.isSome) (κ (xhF.getD false)) δ) (br ((xd8 e b a c d l f).isSome) (br ((xeB e b a c d l f).isSome) (br (!(xeB e b a c d l f).getD false) (xgo e b a c d l f δ κ) (br (decide (0+xd6 e b a c d l f<=(xeC e b a c d l f).length)&&true) (br ((xez e b a c d l f).isSome) (br ((xez e b a c d l f).getD false) (xgo e b a c d l f δ κ) (κ (false))) δ) δ)) δ) δ)) δ
def xjc (e:List UInt8) (b a c d l:LA) (f:Int):=xhO e b a c d l f none some
def xrb:LA->Option (Bool×AV):=fnO (u3 (xJM (u5 (sEq pStr) (uL 3) (uL 1) (uL 2) (uL 7))) (uL 3) (sEq (pInt .u16))) (fun ((e,b,a,c,d,_),l,f,_) _=>xhO e b a c d l f) (fun _ p=>AV.bool p) false
theorem xra:OcOk P0 xJt 7 xrb:=fnC xBr.ok Tryz.func7 48 0 [] [(5,xi8.lp)] (lk1 xi8.ok)
end Go.Sim.M
