/- Part 15 of the proof of the law. -/
import Derived.Test.YtcekkkdjdfiipaaGreatDoorUI14
import Derived.Deep.LoopGhost
import Derived.Lib.SliceRun
set_option linter.unusedVariables false
set_option linter.unusedSimpArgs false
set_option maxRecDepth 100000
noncomputable section
namespace Go.Proofs
open Go.RowKit Go.Lib Go.Shelf
set_option maxHeartbeats 2000000 in
set_option maxRecDepth 100000 in
theorem Tryz.clone_nil (n c:Nat) (w:World) :
  Calls Tryz.prog 121 #[.slice none n c] w fun e w'=>e=.returned (.slice none 0 0)/\w'=w:=by
 have q22:∀ (w:World) (a:Option Addr) (n c n' c':Nat),(binOp .eql 34 (.slice a n c) (.slice none n' c')).run Tryz.prog w=.ok (.bool a.isNone) w:=fun w a n c n' c'=>Lib.run_eql_slice_nil w 34 64 a n c n' c' (by kernel_rfl)
 go_enter Tryz.func121,Tryz.ntmps121
 go_wp2
 go_ret
 exact ⟨rfl,rfl⟩
set_option maxHeartbeats 2000000 in
set_option maxRecDepth 100000 in
theorem Tryz.clone_some (i0:TypeInfo) (z:Value) (hi:Tryz.prog.info? 64=some i0) (Z:i0.zero=some z) (U:i0.size=3) (Y:i0.bytes=32) (W:z.cells.size=3)
  (a:Addr) (n c:Nat) (news:List Value) (w:World) (hl:news.length=n*3) (hn:n<=maxLen) (O:n*32<=140737488355328)
  (hc:∀ j u,news[j]?=some u->w.cell? (a.add j)=some u) (h1:∀ u∈news,u.oneCell'=true) :
  Calls Tryz.prog 121 #[.slice (some a) n c] w fun e w'=>∃ v',e=.returned v'/\w'.ownsRow w.heap.size 64 3 v' n news/\Below w.heap.size w w':=by
 have q:Tryz.prog.underlying 34=some (.slice 64):=by kernel_rfl
 have q22:∀ (w:World) (a:Option Addr) (n c n' c':Nat),(binOp .eql 34 (.slice a n c) (.slice none n' c')).run Tryz.prog w=.ok (.bool a.isNone) w:=fun w a n c n' c'=>Lib.run_eql_slice_nil w 34 64 a n c n' c' q
 have u22:∀ w,Sem.run Tryz.prog (underlying 34) w=.ok (TypeDesc.slice 64) w:=run_underlying q;have A:Aside (∀ j u,news[j]?=some u->w.cell? (a.add j)=some u):=hc;clear hc
 go_enter Tryz.func121,Tryz.ntmps121
 go_wp2_with (at_builtin;refine wpList_append_own _ rfl _ _ 34 rfl w.heap.size 64 i0 z 3 32 q hi Z U Y W (by decide) _ _ _ rfl (World.ownsRow_made w #[] 0 (Nat.le_refl _) (Nat.zero_le _) (by simp)) a n c news rfl ?qc1 ?qc2 ?qc3 ?qc4 ?qc5 ?qc6 ?_)
 case qc1=>exact hl
 case qc2 =>
  intro j u hj;exact Lib.cell?_alloc_some _ (A.out j u hj)
 case qc3=>exact h1
 case qc4=>rw [Nat.zero_add];exact hn
 case qc5=>rw [Nat.zero_add];exact O
 case qc6=>simp
 intro v' w1 Q J aa
 go_wp2
 go_ret
 refine ⟨v',rfl,by simpa using Q,?_⟩
 exact ((Below.refl _ w).alloc (Nat.le_refl _) _).grown J (by simp) (by intro k hk;simp [Value.ownBlock] at hk;omega)
end Go.Proofs
namespace Go.Sim
open Go.RowKit Go.Proofs
def xrR:List AV->Option (Bool×AV)
 | [.list 3 xs]=>some (decide (xs.length<=4398046511104),.list 3 xs)
 | _=>none
theorem xtj {w w':World} {A:Nat->Prop} {e:TypeId} {sz:Nat} {v:Value} {xs:List AV} {news:List Value} (hl:∀ b,A b->b<w.heap.size) (Q:w'.ownsRow w.heap.size e sz v xs.length news) (W:∀ x,x∈xs->x.okElem sz=true)
  (hr:∀ i j,i<xs.length->j<sz->Rel w' A xLz (news.getD (i*sz+j) undef) ((xs.getD i .top).cells.getD j .top)):Rel w' A xLz v (.list sz xs):=by
 obtain ⟨aa,h⟩:=Q;rcases h with ⟨rfl,h0⟩|⟨g,cap,cur,rfl,hg,hh,O,ab,Z,U⟩
 . have:xs=[]:=List.eq_nil_of_length_eq_zero h0;subst this;exact .list0 _ _ _
 . by_cases hne:xs=[]
   . subst hne;exact .list0 _ _ _
   . have Y:g<w'.heap.size:=by
      rcases Nat.lt_or_ge g w'.heap.size with h|h
      . exact h
      . rw [Array.getElem?_eq_none h] at hh;simp at hh
     have q:∀ i j,i<xs.length->j<sz->w'.cell? ⟨g,0+i*sz+j,none⟩=some (news.getD (i*sz+j) undef):=fun i j hi hj=>by
      have hk:i*sz+j<xs.length*sz:=xcz hi hj;have J:i*sz+j<cur.size:=by
       rw [Z];exact Nat.lt_of_lt_of_le hk (Nat.mul_le_mul_right _ O)
      have e1:news.getD (i*sz+j) undef=cur[i*sz+j]:=by
       rw [<-U];simp [List.getD_eq_getElem?_getD,List.getElem?_take,hk,J]
      rw [e1,Nat.zero_add];simp [World.cell?,hh,J]
     exact .list g 0 cap sz xs (fun i j=>news.getD (i*sz+j) undef) (fun hA=>by have:=hl g hA;omega) Y hne O W q hr
theorem xwL:OcOk Tryz.prog xL2 121 xrR:=fun xs r h=>by
 unfold xrR at h;split at h
 . rename_i xs;simp only [Option.some.injEq,Prod.mk.injEq,decide_eq_true_eq] at h;obtain ⟨ab,rfl⟩:=h;refine ⟨xd7 Tryz.func121 rfl (by kernel_rfl),fun w A vs hI hA Z=>?_⟩
   obtain ⟨v,rfl,h1⟩:=rc1 Z;have J:∃ ti,xLk Tryz.prog 64=some ti/\ti.sz=3/\ti.bytes=32/\ti.zero.okElem 3=true:=by
    have h:(match xLk Tryz.prog 64 with|some ti=>(ti.sz==3)&&((ti.bytes==32)&&ti.zero.okElem 3)|none=>false)=true:=by kernel_rfl
    split at h
    . rename_i ti J;simp only [Bool.and_eq_true,beq_iff_eq] at h;exact ⟨ti,J,h.1,h.2.1,h.2.2⟩
    . simp at h
   obtain ⟨ti,J,s1,s2,s3⟩:=J;obtain ⟨i,z,g1,g2,g3,g4,g5,g6,_⟩:=xaS J;have W:z.cells.size=3:=by
    have aa:Rel w A xLz z ti.zero:=by rw [g6];exact xce w A xLz z
    rw [(aa.cells (xaC s3)).1,xan s3]
   have U:∀ n c,v=.slice none n c->xs=[]->Calls Tryz.prog 121 [v].toArray w fun e w'=>∃ v,e=.returned v/\Below w.heap.size w w'/\Rel w' A xLz v (.list 3 xs):=by
    rintro n c rfl rfl;refine (Tryz.clone_nil n c w).mono ?_;rintro e w' ⟨rfl,rfl⟩;exact ⟨_,rfl,Below.refl _ _,.list0 _ _ _⟩
   have Q:∀ b off c (val:Nat->Nat->Value),v=.slice (some ⟨b,off,none⟩) xs.length c->(∀ x,x∈xs->x.okElem 3=true)->(∀ i j,i<xs.length->j<3->w.cell? ⟨b,off+i*3+j,none⟩=some (val i j))->(∀ i j,i<xs.length->j<3->Rel w A xLz (val i j) ((xs.getD i .top).cells.getD j .top)) ->
     Calls Tryz.prog 121 [v].toArray w fun e w'=>∃ v,e=.returned v/\Below w.heap.size w w'/\Rel w' A xLz v (.list 3 xs):=by
    rintro b off c val rfl Y hc hr;have hs:∀ i j,i<xs.length->j<3->∃ u,w.cell? ⟨b,off+(i*3+j),none⟩=some u/\Rel w A xLz u ((xs.getD i .top).cells.getD j .top):=fun i j hi hj=>⟨val i j,by rw [<-Nat.add_assoc];exact hc i j hi hj,hr i j hi hj⟩
    refine (Tryz.clone_some i z g1 g3 (by rw [<-g4,s1]) (by rw [<-g5,s2]) W ⟨b,off,none⟩ xs.length c (xLL w b off (xs.length*3)) w (xfI _ _ _ _) (by unfold maxLen;omega) (by omega)
     (fun j u hj=>xsw (by decide) hs j u hj) (xCo (by decide) hs Y)).mono ?_
    rintro e w' ⟨v',rfl,O,q⟩;exact ⟨v',rfl,q,xtj hA O Y fun i j hi hj=>(xCp hs hi hj).grow q⟩
   have h1':=h1;generalize hx:AV.list 3 xs=x at h1;cases h1 with
   | list0 a cap sz =>
    simp only [AV.list.injEq] at hx;obtain ⟨rfl,rfl⟩:=hx;cases a with
    | none=>exact U 0 cap rfl rfl
    | some a =>
     refine (Tryz.clone_some i z g1 g3 (by rw [<-g4,s1]) (by rw [<-g5,s2]) W a 0 cap [] w rfl (Nat.zero_le _) (by omega) (by simp) (by simp)).mono ?_
     rintro e w' ⟨v',rfl,O,q⟩;exact ⟨v',rfl,q,xtj hA (xs:=[]) O (by simp) (by simp)⟩
   | list b off cap sz ys val ha hb hne hcap hsz hc hr =>
    simp only [AV.list.injEq] at hx;obtain ⟨rfl,rfl⟩:=hx;exact Q b off cap val rfl hsz hc hr
   | _=>simp at hx
 . simp at h
end Go.Sim
namespace Go.Sim.M
open Go.IntKind (i64 u64 u8)
open Go.RowKit Go.Proofs
def xzI:EO:=xIq.w xwL
def xco (a:Nat) (j:Int):=decide (0<=i64.wrap (j - 1))&&decide (i64.wrap (j - 1)<(↑a:Int))
def xak (j:Int):Nat:=0+(i64.wrap (j - 1)).toNat
def xcp (a:Nat) (j:Int):=decide (0<=j)&&decide (j<(↑a:Int))
def xer (j:Int) (a:LA):=decide (0+j.toNat<a.length)
def xep (j:Int) (a:LA):=decide (xak j<a.length)&&xLj (Sh.list 3) ((a.getD (xak j) .top).cells.getD 0 .top)
def xeq (j:Int) (a:LA):=xer j a&&xLj (Sh.list 3) ((a.getD (0+j.toNat) .top).cells.getD 0 .top)
def xeI {T:Type} (d:Nat) (a b i j:Int) (c:LA) (δ:T) (κl:(Int×LA)->T) (κr:(LA)->T):T:=br (decide (j>a)) (br (xcp d j) (br (xeq j c) (br (xco d j) (br (xep j c) (br ((xcg ((c.getD (0+j.toNat) .top).cells.getD 0 .top).toList ((c.getD (xak j) .top).cells.getD 0 .top).toList).isSome) (br (decide ((xcg ((c.getD (0+j.toNat) .top).cells.getD 0 .top).toList ((c.getD (xak j) .top).cells.getD 0 .top).toList).getD 0<0)) (br (xco d j) (br (xep j c) (br (xcp d j) (br (xeq j c) (br (xcp d j) (br (xer j c) (br (xco d j) (br (decide (xak j<(c.set (0+j.toNat) (AV.list 3 ((c.getD (xak j) .top).cells.getD 0 .top).toList)).length)) (κl (i64.wrap (j - 1),(c.set (0+j.toNat) (AV.list 3 ((c.getD (xak j) .top).cells.getD 0 .top).toList)).set (xak j) (AV.list 3 ((c.getD (0+j.toNat) .top).cells.getD 0 .top).toList))) δ) δ) δ) δ) δ) δ) δ) δ) (κr (c))) δ) δ) δ) δ) δ) (κr (c))
def xa0 (d:Nat) (a b i:Int):StT (Int×LA) (LA):=fun (j,c)=>xeI d a b i j c none inL inR
def xbo:=xzI.l 53 1 [34] [] Tryz.f171 1 lk0 [0,1,2,3,8,9] [0,1,2,3,8] [] (q6 (xMf 0 0 0) qI qI (xLJ 99 xL5) qI qI) (q1 (qB 0 1 34 xL7)) (fun (c,a,b,_,i,j,_) (d,_)=>(xa0 c a b i,(j,d),fun p=>(.leaf (.exit 2) [AV.osl 0 0 0 c,AV.int .i64 a,AV.int .i64 b,AV.func 99 [],AV.int .i64 i] [bF 0 1 34 p]))) [] fun (c,a,b,_,i,_,_) _ (j,d)=>(((c,a,b,(),i,j,()),(d,())),xeI c a b i j d none)
def xeH {T:Type} (d:Nat) (a b i:Int) (c:LA) (δ:T) (κl:(Int×LA)->T) (κr:(LA)->T):T:=br (decide (i<b)) (br ((Iter (xa0 d a b i) (i,c)).isSome) (κl (i64.wrap (i+1),(Iter (xa0 d a b i) (i,c)).getD [])) δ) (κr (c))
def xax (d:Nat) (a b:Int):StT (Int×LA) (LA):=fun (i,c)=>xeH d a b i c none inL inR
def xeo:=xzI.l 53 1 [34] [(4,xbo.lp)] Tryz.f171 0 (lk1 xbo.ok) [0,1,2,3,8] [] [] (q5 (xMf 0 0 0) qI qI (xLJ 99 xL5) qI) (q1 (qB 0 1 34 xL7)) (fun (d,a,b,_,i,_) (c,_)=>(xax d a b,(i,c),fun p=>(.leaf (.exit 0) [] [bF 0 1 34 p]))) [] fun (d,a,b,_,_,_) _ (i,c)=>(((d,a,b,(),i,()),(c,())),xeH d a b i c none)
def xdc {T:Type} (n:Nat) (a b:Int) (c:LA) (δ:T) (κ:LA->T):T:=br ((Iter (xax n a b) (i64.wrap (a+1),c)).isSome) (κ ((Iter (xax n a b) (i64.wrap (a+1),c)).getD [])) δ
def xaN (n:Nat) (a b:Int) (c:LA):=xdc n a b c none some
def xzw:EO:=xzI.fM Tryz.func171 53 1 [34] [(4,xbo.lp),(1,xeo.lp)] (lks (lkC xeo.ok (lkC xbo.ok lkN))) (u4 (sEq (xMf 0 0 0)) uI uI (sEq (xLJ (99:FuncId) xL5))) (q1 (qB 0 1 34 xL7)) (fun (n,a,b,_,_) (c,_) _=>xdc n a b c) (fun _ _ p=>(AV.tuple [],([bF 0 1 34 p]:List Box))) []
def xec {T:Type} (d:Nat) (n e a b:Int) (c:LA) (δ:T) (κl:(Int×Int×LA)->T) (κr:(Int×LA)->T):T:=br (decide (b<=n)) (br ((xaN d a b c).isSome) (κl (b,i64.wrap (b+e),(xaN d a b c).getD [])) δ) (κr (a,c))
def xbd (e:Nat) (n c:Int):StT (Int×Int×LA) (Int×LA):=fun (a,b,d)=>xec e n c a b d none inL inR
def xcs:=xzw.l 63 1 [34] [] Tryz.f145 0 lk0 [0,1,2,6,7,8] [0,1,2,6,7] [] (q6 (xMf 0 0 0) qI (xLJ 99 xL5) qI qI qI) (q1 (qB 0 1 34 xL7)) (fun (d,n,_,c,a,b,_) (e,_)=>(xbd d n c,(a,b,e),fun p=>(.leaf (.exit 0) [AV.osl 0 0 0 d,AV.int .i64 n,AV.func 99 [],AV.int .i64 c,AV.int .i64 p.1] [bF 0 1 34 p.2]))) (0,[]) fun (d,n,_,c,_,_,_) _ (a,b,e)=>(((d,n,(),c,a,b,()),(e,())),xec d n c a b e none)
def xhP {T:Type} (d:Nat) (n e a b:Int) (c:LA) (δ:T) (κl:(Int×Int×LA)->T) (κr:(Int×LA)->T):T:=br (decide (b<=n)) (br (decide (0+d<=c.length)&&true) δ δ) (κr (a,c))
def xgH (e:Nat) (n c:Int):StT (Int×Int×LA) (Int×LA):=fun (a,b,d)=>xhP e n c a b d none inL inR
def xct:=xzw.l 63 1 [34] [(2,xcs.lp)] Tryz.f145 2 lk0 [0,1,2,6,7,8] [0,1,2,6,7] [] (q6 (xMf 0 0 0) qI (xLJ 99 xL5) qI qI qI) (q1 (qB 0 1 34 xL7)) (fun (d,n,_,c,a,b,_) (e,_)=>(xgH d n c,(a,b,e),fun p=>(.leaf (.exit 4) [AV.osl 0 0 0 d,AV.int .i64 n,AV.func 99 [],AV.int .i64 c,AV.int .i64 p.1] [bF 0 1 34 p.2]))) (0,[]) fun (d,n,_,c,_,_,_) _ (a,b,e)=>(((d,n,(),c,a,b,()),(e,())),xhP d n c a b e none)
def xhr (c:Nat) (n a:Int) (b:LA):=Iter (xgH c n a) (0,i64.wrap (2*a),b)
def xhq (c:Nat) (n a:Int) (b:LA):=(xhr c n a b).getD (0,[])
def xhp (c:Nat) (n a:Int) (b:LA):=(xhq c n a b).snd
def xed {T:Type} (c:Nat) (n a:Int) (b:LA) (δ:T) (κl:(Int×LA)->T) (κr:(LA)->T):T:=br (decide (a<n)) (br ((xhr c n a b).isSome) (br (decide (i64.wrap ((xhq c n a b).fst+a)<n)) (br (decide (0+c<=(xhp c n a b).length)&&true) δ δ) (κl (i64.wrap (a*2),xhp c n a b))) δ) (κr (b))
def xbY (c:Nat) (n:Int):StT (Int×LA) (LA):=fun (a,b)=>xed c n a b none inL inR
def xho:=xzw.l 63 1 [34] [(2,xcs.lp),(9,xct.lp)] Tryz.f145 1 (lk1 xct.ok) [0,1,2,6] [] [] (q4 (xMf 0 0 0) qI (xLJ 99 xL5) qI) (q1 (qB 0 1 34 xL7)) (fun (c,n,_,a,_) (b,_)=>(xbY c n,(a,b),fun p=>(.leaf (.exit 2) [] [bF 0 1 34 p]))) [] fun (c,n,_,_,_) _ (a,b)=>(((c,n,(),a,()),(b,())),xed c n a b none)
def xe0 (n:Nat) (k:Int) (a:LA):=(Iter (xbd n k 20) (0,20,a)).getD (0,[])
def xex (n:Nat) (k:Int) (a:LA):=xaN n (xe0 n k a).fst k (xe0 n k a).snd
def xeZ (n:Nat) (k:Int) (a:LA):=Iter (xbY n k) (20,(xex n k a).getD [])
def xfG {T:Type} (n:Nat) (k:Int) (a:LA) (δ:T) (κ:LA->T):T:=br ((Iter (xbd n k 20) (0,20,a)).isSome) (br ((xex n k a).isSome) (br ((xeZ n k a).isSome) (κ ((xeZ n k a).getD [])) δ) δ) δ
def xd2 (n:Nat) (k:Int) (a:LA):=xfG n k a none some
def xJz:EO:=xzw.fM Tryz.func145 63 1 [34] [(2,xcs.lp),(9,xct.lp),(7,xho.lp)] (lks (lkC xcs.ok (lkC xho.ok (lkC xct.ok lkN)))) (u3 (sEq (xMf 0 0 0)) uI (sEq (xLJ (99:FuncId) xL5))) (q1 (qB 0 1 34 xL7)) (fun (n,k,_,_) (a,_) _=>xfG n k a) (fun _ _ p=>(AV.tuple [],([bF 0 1 34 p]:List Box))) []
def xeX {T:Type} (n:Nat) (a:LA) (δ:T) (κ:LA->T):T:=br ((xd2 n (↑n:Int) a).isSome) (κ ((xd2 n (↑n:Int) a).getD [])) δ
def xkb (n:Nat) (a:LA):=xeX n a none some
def xGL:EO:=xJz.fM Tryz.func122 9 1 [34] [] lk0 (u2 (sEq (xMf 0 0 0)) (sEq (xLJ (99:FuncId) xL5))) (q1 (qB 0 1 34 xL7)) (fun (n,_,_) (a,_) _=>xeX n a) (fun _ _ p=>(AV.tuple [],([bF 0 1 34 p]:List Box))) []
def xfP {T:Type} (d:LA) (e:Int) (c:Nat) (b:Int) (a:LA) (δ:T) (κl:(Nat×Int×LA)->T) (κr:(Nat×LA)->T):T:=br (decide (b<e)) (br (ixI d b) (br (ixS d b (Sh.list 3) 0) (br (decide ((gC d b 0).toList.length<=4398046511104)) (br (rmB c a 1 24) (κl (c+1,i64.wrap (b+1),a++[AV.list 3 (gC d b 0).toList])) δ) δ) δ) δ) (κr (c,a))
def xbl (c:LA) (d:Int):StT (Nat×Int×LA) (Nat×LA):=fun (b,e,a)=>xfP c d b e a none inL inR
def xmH:=xGL.l 27 0 [34] [] Tryz.f98 0 lk0 [1,5,11,12,13] [1,5] [(5,1,34)] (q5 (xLJ 99 xL5) (xMf 0 0 0) (qL 1) qI qI) (q1 (qB 0 1 34 xL7)) (fun (_,b,c,d,e,_) (a,_)=>(xbl c d,(b,e,a),fun p=>(.leaf (.exit 0) [AV.func 99 [],AV.osl 0 0 0 p.1] [bF 0 1 34 p.2]))) (0,[]) fun (_,_,c,d,_,_) _ (b,e,a)=>((((),b,c,d,e,()),(a,())),xfP c d b e a none)
def xkz (l:LA):=(Iter (xbl l (↑l.length:Int)) (0,0,[])).getD (0,[])
def xhd (l:LA):=(xkz l).fst
def xky (l:LA):=xkb (xhd l) (xkz l).snd
def xkw (l:LA):=(xky l).getD []
def xlq {T:Type} (l:LA) (δ:T) (κ:LA->T):T:=br (decide (24*(↑l.length:Int)<=281474976710656)&&decide ((↑l.length:Int)<=4611686018427387904)) (br ((Iter (xbl l (↑l.length:Int)) (0,0,[])).isSome) (br ((xky l).isSome) (br (decide (0+xhd l<=(xkw l).length)&&true) (κ (List.take (xhd l) (List.drop 0 (xkw l)))) δ) δ) δ) δ
def xnI (l:LA):=xlq l none some
def xJA:EO:=xGL.f Tryz.func98 27 0 [34] [(3,xmH.lp)] (lk1 xmH.ok) (u2 (uL 1) (sEq (xLJ (99:FuncId) xL5))) (fun (l,_,_) _=>xlq l) (fun _ p=>AV.list 1 p) []
def xqo {T:Type} (l:LA) (δ:T) (κ:LA->T):T:=br ((xnI l).isSome) (κ ((xnI l).getD [])) δ
def xpq (l:LA):=xqo l none some
def xGM:EO:=xJA.f Tryz.func70 5 0 [] [] lk0 (u1 (uL 1)) (fun (l,_) _=>xqo l) (fun _ p=>AV.list 1 p) []
def xhS {T:Type} (t:Int) (d:LA) (e:Int) (c:Nat) (b:Int) (a:LA) (δ:T) (κl:(Nat×Int×LA)->T) (κr:(Nat×LA)->T):T:=br (decide (b<e)) (br (ixI d b) (br (ixT d b 3 [Sh.list 3,Sh.int .i64,Sh.int .i64] 0) (br (xmd (gC d b 1).toInt (gC d b 2).toInt t) (br (rmB c a 1 24) (κl (c+1,i64.wrap (b+1),a++[AV.list 3 (gC d b 0).toList])) δ) (κl (c,i64.wrap (b+1),a))) δ) δ) (κr (c,a))
def xcI (t:Int) (d:LA) (e:Int):StT (Nat×Int×LA) (Nat×LA):=fun (b,c,a)=>xhS t d e b c a none inL inR
def xo0:=xGM.l 26 0 [] [] Tryz.f39 0 lk0 [1,5,8,9,10] [5] [(5,1,34)] (q5 qI (xMf 0 0 0) (qL 3) qI qI) (q1 (qB 0 1 34 xL7)) (fun (t,b,d,e,c,_) (a,_)=>(xcI t d e,(b,c,a),fun p=>(.leaf (.exit 0) [AV.osl 0 0 0 p.1] [bF 0 1 34 p.2]))) (0,[]) fun (t,_,d,e,_,_) _ (b,c,a)=>(((t,b,d,e,c,()),(a,())),xhS t d e b c a none)
def xm5 (l:LA) (t:Int):=(Iter (xcI t l (↑l.length:Int)) (0,0,[])).getD (0,[])
def xm3 (l:LA) (t:Int):=(xm5 l t).snd
def xm4 (l:LA) (t:Int):=(xm5 l t).fst
def xm2 (l:LA) (t:Int):=xpq (List.take (xm4 l t) (List.drop 0 (xm3 l t)))
def xoA {T:Type} (l:LA) (t:Int) (δ:T) (κ:LA->T):T:=br ((Iter (xcI t l (↑l.length:Int)) (0,0,[])).isSome) (br (decide (0+xm4 l t<=(xm3 l t).length)&&true) (br ((xm2 l t).isSome) (κ ((xm2 l t).getD [])) δ) δ) δ
def xe6 (l:LA) (t:Int):=xoA l t none some
def xD3:EO:=xGM.f Tryz.func39 26 0 [] [(3,xo0.lp)] (lk1 xo0.ok) (u2 (uL 3) uI) (fun (l,t,_) _=>xoA l t) (fun _ p=>AV.list 1 p) []
def xhL:Env:=xD3.E.fn 23 0 (lsOf []) (xLI [])
theorem xwc:xLl P0 (xL2.at 0) xhL:=xD3.ok.fn
theorem xt9:LoOk P0 (xL2.at xhL.pin) xhL (Tryz.f15.body.getD .skip):=xhW (by kernel_rfl)
def xkK {T:Type} (e:List UInt8) (b a c d l f:LA) (g:Int) (δ:T) (κ:Bool×(Bool)×(LA×Bool)->T):T:=br ((xch e b a c d l f).isSome) (br ((xe6 ((xch e b a c d l f).getD []) g).isSome) (br ((↑((xe6 ((xch e b a c d l f).getD []) g).getD []).length:Int)==0) (κ (true,(false),([],false))) (br (decide (0<(↑((xe6 ((xch e b a c d l f).getD []) g).getD []).length:Int))) (br (decide (0<((xe6 ((xch e b a c d l f).getD []) g).getD []).length)&&xLj (Sh.list 3) ((((xe6 ((xch e b a c d l f).getD []) g).getD []).getD 0 .top).cells.getD 0 .top)) (κ (false,false,(((((xe6 ((xch e b a c d l f).getD []) g).getD []).getD 0 .top).cells.getD 0 .top).toList,true))) δ) δ)) δ) δ
def xfb (e:List UInt8) (b a c d l f:LA) (g:Int):Option (LA×Bool):=xkK e b a c d l f g none (fun (p:Bool×(Bool)×(LA×Bool))=>some (br p.1 (([],p.2.1)) p.2.2))
theorem xBT (e:List UInt8) (b a c d l f:LA) (g:Int):EncS (fun (p:LA×Bool)=>(AV.tuple [AV.list 3 p.1,AV.bool p.2]:AV)) (xfb e b a c d l f g) (XF P0 xhL Tryz.f15 (Tryz.f15.body.getD .skip) [AV.agg [AV.str e,AV.list 3 b,AV.list 1 a,AV.list 2 c,AV.list 7 d],AV.list 3 l,AV.list 3 f,AV.int .i64 g]):=by
 have h:XF P0 xhL Tryz.f15 (Tryz.f15.body.getD .skip) [AV.agg [AV.str e,AV.list 3 b,AV.list 1 a,AV.list 2 c,AV.list 7 d],AV.list 3 l,AV.list 3 f,AV.int .i64 g]=xkK e b a c d l f g none (fun (p:Bool×(Bool)×(LA×Bool))=>some ((br p.1 (AV.tuple [AV.nils,AV.bool p.2.1]) (AV.tuple [AV.list 3 p.2.2.1,AV.bool p.2.2.2])):AV)):=by kernel_rfl
 rw [h];unfold xfb xkK;repeat' (first|exact EncS.none|exact EncS.some (Sub.refl _)|exact EncS.some (xve _)|exact EncS.some (xzt _ _)|refine EncS.br ?_ ?_)
def xBS:LA->Option (Bool×AV):=ocOf (xL4 (xMk (xL4 (sEq pStr) (xL4 (xMj 3 xL7) (xL4 (xMj 1 xL7) (xL4 (xMj 2 xL7) (xL4 (xMj 7 xL7) xL6)))))) (xL4 (xMj 3 xL7) (xL4 (xMj 3 xL7) (xL4 (sEq (pInt .i64)) xL6)))) fun ((e,(b,(a,(c,(d,_))))),(l,(f,(g,_))))=>((xfb e b a c d l f g).isSome,(AV.tuple [AV.list 3 ((xfb e b a c d l f g).getD ([],false)).1,AV.bool ((xfb e b a c d l f g).getD ([],false)).2]))
theorem xBR:OcOk P0 xL2 15 (xBS):=xhh fun h q i=>by
 obtain ⟨⟨j,⟨e,⟨a,⟨f,⟨g,_⟩⟩⟩⟩⟩,⟨l,⟨n,⟨o,_⟩⟩⟩⟩:=h;obtain ⟨b,c⟩:=Prod.mk.inj i;obtain ⟨y,k,m⟩:=xBT _ _ _ _ _ _ _ _ _ (xa6 (d:=([],false)) b);have hg:Good P0 xL2 15 _ _:=xjq (p:=xhL.pin) (xlu xLu (xLv P0 _) rfl xwc Tryz.func15 rfl (by kernel_rfl) xt9 k)
 rw [<-c];exact Good.sub hg m
def xH1:EO:=xIm.w xrW
def xH2:EO:=xH1.w xmT
def xH3:EO:=xH2.w xo9
def xH4:EO:=xH3.w xBR
def xC1 (n:Int) (c:List UInt8) (a b:Int):LA×Int×Int:=(([AV.agg [AV.int .i64 1,AV.int .i64 n,AV.str []],AV.agg [AV.int .i64 2,AV.int .i64 0,AV.str c]],a,b))
def xAn {T:Type} (n:Int) (c:List UInt8) (a b:Int) (δ:T) (κ:LA×Int×Int->T):T:=κ ([AV.agg [AV.int .i64 1,AV.int .i64 n,AV.str []],AV.agg [AV.int .i64 2,AV.int .i64 0,AV.str c]],a,b)
def xHx:EO:=xH4.fT Tryz.func29 18 0 [] [] lk0 (fun (n,c,a,b,_)=>xAn n c a b none) (u4 uI (sEq pStr) uI uI) (fun (n,c,a,b,_)=>xC1 n c a b) (fun _ p=>(AV.agg [AV.list 3 p.1,AV.int .i64 p.2.1,AV.int .i64 p.2.2]))
def xl2:=xfb [(116:UInt8)] [AV.agg [AV.str [(97:UInt8)],AV.int .i64 1,AV.bool false],AV.agg [AV.str [(98:UInt8)],AV.int .i64 2,AV.bool false]] [AV.int .i64 0] [] [] [AV.agg [AV.list 3 [AV.agg [AV.int .i64 1,AV.int .i64 1,AV.str []],AV.agg [AV.int .i64 2,AV.int .i64 0,AV.str [(120:UInt8)]]],AV.int .i64 0,AV.int .i64 5],AV.agg [AV.list 3 [AV.agg [AV.int .i64 1,AV.int .i64 1,AV.str []],AV.agg [AV.int .i64 2,AV.int .i64 0,AV.str [(121:UInt8)]]],AV.int .i64 4,AV.int .i64 9]] [AV.agg [AV.int .i64 1,AV.int .i64 1,AV.str []]] 4
def xl3:=xja [(116:UInt8)] [AV.agg [AV.str [(97:UInt8)],AV.int .i64 1,AV.bool false],AV.agg [AV.str [(98:UInt8)],AV.int .i64 2,AV.bool false]] [AV.int .i64 0] [] [] [AV.agg [AV.list 3 [AV.agg [AV.int .i64 1,AV.int .i64 1,AV.str []],AV.agg [AV.int .i64 2,AV.int .i64 0,AV.str [(120:UInt8)]]],AV.int .i64 0,AV.int .i64 5],AV.agg [AV.list 3 [AV.agg [AV.int .i64 1,AV.int .i64 1,AV.str []],AV.agg [AV.int .i64 2,AV.int .i64 0,AV.str [(121:UInt8)]]],AV.int .i64 5,AV.int .i64 9]] [AV.agg [AV.int .i64 1,AV.int .i64 1,AV.str []]]
def xl4:=xeL [(116:UInt8)] [AV.agg [AV.str [(97:UInt8)],AV.int .i64 1,AV.bool false],AV.agg [AV.str [(98:UInt8)],AV.int .i64 2,AV.bool false]] [AV.int .i64 0] [] [] [AV.agg [AV.list 3 [AV.agg [AV.int .i64 1,AV.int .i64 1,AV.str []],AV.agg [AV.int .i64 2,AV.int .i64 0,AV.str [(120:UInt8)]]],AV.int .i64 0,AV.int .i64 5],AV.agg [AV.list 3 [AV.agg [AV.int .i64 1,AV.int .i64 1,AV.str []],AV.agg [AV.int .i64 2,AV.int .i64 0,AV.str [(121:UInt8)]]],AV.int .i64 4,AV.int .i64 9]]
def xl5:=xcf [(116:UInt8)] [AV.agg [AV.str [(97:UInt8)],AV.int .i64 1,AV.bool false],AV.agg [AV.str [(98:UInt8)],AV.int .i64 2,AV.bool false]] [AV.int .i64 0] [] [] [AV.agg [AV.list 3 [AV.agg [AV.int .i64 1,AV.int .i64 1,AV.str []],AV.agg [AV.int .i64 2,AV.int .i64 0,AV.str [(120:UInt8)]]],AV.int .i64 0,AV.int .i64 5],AV.agg [AV.list 3 [AV.agg [AV.int .i64 1,AV.int .i64 1,AV.str []],AV.agg [AV.int .i64 2,AV.int .i64 0,AV.str [(121:UInt8)]]],AV.int .i64 5,AV.int .i64 9]]
def xl6:=xcf [(116:UInt8)] [AV.agg [AV.str [(97:UInt8)],AV.int .i64 1,AV.bool false],AV.agg [AV.str [(98:UInt8)],AV.int .i64 2,AV.bool false]] [AV.int .i64 0] [] [] [AV.agg [AV.list 3 [AV.agg [AV.int .i64 1,AV.int .i64 1,AV.str []],AV.agg [AV.int .i64 2,AV.int .i64 0,AV.str [(120:UInt8)]]],AV.int .i64 0,AV.int .i64 5],AV.agg [AV.list 3 [AV.agg [AV.int .i64 1,AV.int .i64 1,AV.str []],AV.agg [AV.int .i64 2,AV.int .i64 0,AV.str [(121:UInt8)]]],AV.int .i64 4,AV.int .i64 9]]
def xjV:=xl4.getD []
def xjX:=xsl (xl3.getD []) [AV.agg [AV.int .i64 0,AV.int .i64 9]]
def xjY:=xl2.getD ([],false)
def xcj:=(xjV.getD 1 .top).cells
def xhg:=(xjV.getD 0 .top).cells
def xjU:=xjV.length
def xjW:=xga xjY.fst [AV.agg [AV.int .i64 1,AV.int .i64 1,AV.str []],AV.agg [AV.int .i64 2,AV.int .i64 0,AV.str [(120:UInt8)]]]
def xjS:=decide (1<xjU)
def xjT:=(↑xjU:Int)
def xjR:=decide (1<xjT)
def xoB {T:Type} (δ:T) (κ:Bool->T):T:=br (xl4.isSome) (br (xl2.isSome) (br (xl5.isSome) (br (!xl5.getD false) (κ (false)) (br (xl6.isSome) (br (xl6.getD false) (κ (false)) (br (xjT != 2) (κ (false)) (br (!xjY.snd) (κ (false)) (br (xjW.isSome) (br (xjW.getD 0 != 0) (κ (false)) (br (decide (0<xjT)) (br (decide (0<xjU)&&(xhg.length==6&&xLq [Sh.int .i64,Sh.int .i64] xhg 4)) (br ((xhg.getD 4 .top).toInt==4&&((xhg.getD 5 .top).toInt==5&&true)) (br (xjR) (br (xjS&&(xcj.length==6&&xLq [Sh.int .i64,Sh.int .i64] xcj 4)) (br ((xcj.getD 4 .top).toInt==4&&((xcj.getD 5 .top).toInt==5&&true)) (br (xjR) (br (xjS&&xLj (Sh.int .i64) (xcj.getD 0 .top)) (br ((xcj.getD 0 .top).toInt==2) (br (xjR) (br (xjS&&xLj Sh.str (xcj.getD 1 .top)) (br ((xcj.getD 1 .top).toStr==[(116:UInt8)]) (br (xl3.isSome) (br (xjX.isSome) (κ (xjX.getD false)) δ) δ) (κ (false))) δ) δ) (κ (false))) δ) δ) (κ (false))) δ) δ) (κ (false))) δ) δ)) δ)))) δ)) δ) δ) δ
def xiF:Option (Bool):=xoB none some
def xH0:EO:=xHx.f Tryz.func9 97 0 [] [] lk0 xL6 (fun _ _=>xoB) (fun _ p=>AV.bool p) false
def xl7 {T:Type} (e:List UInt8) (a b c d l:LA) (δ:T) (κ:Bool->T):T:=br (decide ((↑a.length:Int)<=12)) (br ((xqQ l 16).isSome) (br ((xqQ l 16).getD false) (br ((xkT e a b c d l).isSome) (κ ((xkT e a b c d l).getD false)) δ) (κ (false))) δ) (κ (false))
def xkL (e:List UInt8) (b a c d l:LA):=xl7 e b a c d l none some
def xzy:EO:=xH0.f Tryz.func8 18 0 [] [] lk0 (u2 (xMk (u5 (sEq pStr) (uL 3) (uL 1) (uL 2) (uL 7))) (uL 3)) (fun ((e,b,a,c,d,_),l,_) _=>xl7 e b a c d l) (fun _ p=>AV.bool p) false
def xgr (a:LA) (i k:Int) (b:List UInt8) (c d e f:LA):=xga ((xlz b c d e f (gC a i 0).toList).getD []) ((xlz b c d e f (gC a k 0).toList).getD [])
def xg6 {T:Type} (a:LA) (i k:Int) (b:List UInt8) (c d e f:LA) (δ:T) (κl:(Int×List UInt8×LA×LA×LA×LA)->T) (κr:(Bool×(Bool×List UInt8×LA×LA×LA×LA)×(List UInt8×LA×LA×LA×LA))->T):T:=br (decide (k<i)) (br (ixI a i) (br (ixS a i (Sh.list 3) 0) (br ((xlz b c d e f (gC a i 0).toList).isSome) (br (ixI a k) (br (ixS a k (Sh.list 3) 0) (br ((xlz b c d e f (gC a k 0).toList).isSome) (br ((xgr a i k b c d e f).isSome) (br ((xgr a i k b c d e f).getD 0==0) (κr (true,(true,b,c,d,e,f),([],[],[],[],[]))) (κl (i64.wrap (k+1),b,c,d,e,f))) δ) δ) δ) δ) δ) δ) δ) (κr (false,(false,[],[],[],[],[]),(b,c,d,e,f)))
def xcl (a:LA) (i:Int):StT (Int×List UInt8×LA×LA×LA×LA) (Bool×(Bool×List UInt8×LA×LA×LA×LA)×(List UInt8×LA×LA×LA×LA)):=fun (k,b,c,d,e,f)=>xg6 a i k b c d e f none inL inR
def xgq:=xzy.l 32 0 [] [] Tryz.f22 1 lk0 [1,2,5,6] [1,2,4,5] [] (q4 (qL 1) (xMg 0 0 0 0) qI qI) (q1 (qB 0 5 27 (q1 (xMh (q5 pStr (qL 3) (qL 1) (qL 2) (qL 7)))))) (fun (a,_,i,k,_) (((b,c,d,e,f,_),_),_)=>(xcl a i,(k,b,c,d,e,f),fun p=>(.node p.1 (.leaf .ret [AV.list 1 a,AV.own 0 0 0 0,AV.bool p.2.1.1,AV.int .i64 i] [bF 0 5 27 [AV.agg [AV.str p.2.1.2.1,AV.list 3 p.2.1.2.2.1,AV.list 1 p.2.1.2.2.2.1,AV.list 2 p.2.1.2.2.2.2.1,AV.list 7 p.2.1.2.2.2.2.2]]]) (.leaf (.exit 2) [AV.list 1 a,AV.own 0 0 0 0,.top,AV.int .i64 i] [bF 0 5 27 [AV.agg [AV.str p.2.2.1,AV.list 3 p.2.2.2.1,AV.list 1 p.2.2.2.2.1,AV.list 2 p.2.2.2.2.2.1,AV.list 7 p.2.2.2.2.2.2]]])))) (false,(false,[],[],[],[],[]),([],[],[],[],[])) fun (a,_,i,_,_) _ (k,b,c,d,e,f)=>(((a,(),i,k,()),(((b,c,d,e,f,()),()),())),xg6 a i k b c d e f none)
def xgp (a:LA) (i:Int) (b:List UInt8) (c d e f:LA):=Iter (xcl a i) (0,b,c,d,e,f)
def xgo (a:LA) (i:Int) (b:List UInt8) (c d e f:LA):=(xgp a i b c d e f).getD (false,(false,[],[],[],[],[]),[],[],[],[],[])
def xgn (a:LA) (i:Int) (b:List UInt8) (c d e f:LA):=(xgo a i b c d e f).snd
def xgm (a:LA) (i:Int) (b:List UInt8) (c d e f:LA):=(xgn a i b c d e f).snd
def xgl (a:LA) (i:Int) (b:List UInt8) (c d e f:LA):=(xgm a i b c d e f).snd
def xgk (a:LA) (i:Int) (b:List UInt8) (c d e f:LA):=(xgl a i b c d e f).snd
def xgj (a:LA) (i:Int) (b:List UInt8) (c d e f:LA):=(xgk a i b c d e f).snd
def xg5 {T:Type} (a:LA) (i:Int) (b:List UInt8) (c d e f:LA) (δ:T) (κl:(Int×List UInt8×LA×LA×LA×LA)->T) (κr:(Bool×(Bool)×(Unit))->T):T:=br (decide (i<a.length)) (br ((xgp a i b c d e f).isSome) (br ((xgo a i b c d e f).fst) (κr (true,((xgn a i b c d e f).fst.fst),())) (κl (i64.wrap (i+1),(xgm a i b c d e f).fst,(xgl a i b c d e f).fst,(xgk a i b c d e f).fst,(xgj a i b c d e f).fst,(xgj a i b c d e f).snd))) δ) (κr (false,false,()))
def xck (a:LA):StT (Int×List UInt8×LA×LA×LA×LA) (Bool×(Bool)×(Unit)):=fun (i,b,c,d,e,f)=>xg5 a i b c d e f none inL inR
def xn7:=xzy.l 32 0 [] [(5,xgq.lp)] Tryz.f22 0 (lk1 xgq.ok) [1,2,5] [4] [] (q3 (qL 1) (xMg 0 0 0 0) qI) (q1 (qB 0 5 27 (q1 (xMh (q5 pStr (qL 3) (qL 1) (qL 2) (qL 7)))))) (fun (a,_,i,_) (((b,c,d,e,f,_),_),_)=>(xck a,(i,b,c,d,e,f),fun p=>(.node p.1 (.leaf .ret [AV.bool p.2.1] []) (.leaf (.exit 0) [.top] [])))) (false,false,()) fun (a,_,_,_) _ (i,b,c,d,e,f)=>(((a,(),i,()),(((b,c,d,e,f,()),()),())),xg5 a i b c d e f none)
def xl9 (e:List UInt8) (b a c d f:LA):=Iter (xck f) (0,e,b,a,c,d)
def xl8 (e:List UInt8) (b a c d f:LA):=(xl9 e b a c d f).getD (false,false,())
def xnc {T:Type} (e:List UInt8) (b a c d f:LA) (δ:T) (κ:Bool->T):T:=br ((xl9 e b a c d f).isSome) (br ((xl8 e b a c d f).fst) (κ ((xl8 e b a c d f).snd.fst)) (κ (false))) δ
def xjt (e:List UInt8) (b a c d f:LA):=xnc e b a c d f none some
def xzz:EO:=xzy.f Tryz.func22 32 0 [] [(5,xgq.lp),(2,xn7.lp)] (lks (lkC xn7.ok (lkC xgq.ok lkN))) (u2 (xMk (u5 (sEq pStr) (uL 3) (uL 1) (uL 2) (uL 7))) (uL 1)) (fun ((e,b,a,c,d,_),g,_) _=>xnc e b a c d g) (fun _ p=>AV.bool p) false
def xda {T:Type} (l:LA) (h:Int) (f:LA) (g:Bool) (i:Int) (a:List UInt8) (b c d e:LA) (δ:T) (κl:(Bool×Int×List UInt8×LA×LA×LA×LA)->T) (κr:(Bool×List UInt8×LA×LA×LA×LA)->T):T:=br (decide (i<f.length)) (br (g) (br (ixI f i) (br (ixS f i (Sh.int .i64) 0) (br ((xlj l (gC f i 0).toInt).isSome) (br ((xjt a b c d e ((xlj l (gC f i 0).toInt).getD [])).isSome) (κl (!(xjt a b c d e ((xlj l (gC f i 0).toInt).getD [])).getD false,i64.wrap (i+1),a,b,c,d,e)) δ) δ) δ) δ) (κl (false,i64.wrap (i+1),a,b,c,d,e))) (κr (g,a,b,c,d,e))
def xaV (l:LA) (b:Int) (h:LA):StT (Bool×Int×List UInt8×LA×LA×LA×LA) (Bool×List UInt8×LA×LA×LA×LA):=fun (a,i,c,d,e,f,g)=>xda l b h a i c d e f g none inL inR
def xeD:=xzz.l 81 0 [] [] Tryz.f5 0 lk0 [1,2,3,7,8,9] [1,2,3,8] [] (q6 (qL 3) qI (xMg 0 0 0 0) (qL 1) pBool qI) (q1 (qB 0 5 27 (q1 (xMh (q5 pStr (qL 3) (qL 1) (qL 2) (qL 7)))))) (fun (l,b,_,h,a,i,_) (((c,d,e,f,g,_),_),_)=>(xaV l b h,(a,i,c,d,e,f,g),fun p=>(.leaf (.exit 0) [AV.list 3 l,AV.int .i64 b,AV.own 0 0 0 0,AV.bool p.1] [bF 0 5 27 [AV.agg [AV.str p.2.1,AV.list 3 p.2.2.1,AV.list 1 p.2.2.2.1,AV.list 2 p.2.2.2.2.1,AV.list 7 p.2.2.2.2.2]]]))) (false,[],[],[],[],[]) fun (l,b,_,h,_,_,_) _ (a,i,c,d,e,f,g)=>(((l,b,(),h,a,i,()),(((c,d,e,f,g,()),()),())),xda l b h a i c d e f g none)
def xdb {T:Type} (l:LA) (g:Int) (h:Bool) (v:LA) (f:Bool) (i:Int) (a:List UInt8) (b c d e:LA) (δ:T) (κl:(Bool×Int×List UInt8×LA×LA×LA×LA)->T) (κr:(Bool×List UInt8×LA×LA×LA×LA)->T):T:=br (decide (i<v.length)) (br (f) (κl (true,i64.wrap (i+1),a,b,c,d,e)) (br (ixI v i) (br (ixT v i 6 [Sh.int .i64,Sh.int .i64] 4) (κl (xfd (gC v i 4).toInt (gC v i 5).toInt g,i64.wrap (i+1),a,b,c,d,e)) δ) δ)) (κr (f,a,b,c,d,e))
def xaW (l:LA) (b:Int) (a:Bool) (v:LA):StT (Bool×Int×List UInt8×LA×LA×LA×LA) (Bool×List UInt8×LA×LA×LA×LA):=fun (c,i,d,e,f,g,h)=>xdb l b a v c i d e f g h none inL inR
def xiu:=xzz.l 81 0 [] [(6,xeD.lp)] Tryz.f5 1 lk0 [1,2,3,8,10,11,12] [1,2,3,8,10,11] [] (q7 (qL 3) qI (xMg 0 0 0 0) pBool (qL 6) pBool qI) (q1 (qB 0 5 27 (q1 (xMh (q5 pStr (qL 3) (qL 1) (qL 2) (qL 7)))))) (fun (l,b,_,a,v,c,i,_) (((d,e,f,g,h,_),_),_)=>(xaW l b a v,(c,i,d,e,f,g,h),fun p=>(.leaf (.exit 2) [AV.list 3 l,AV.int .i64 b,AV.own 0 0 0 0,AV.bool a,AV.list 6 v,AV.bool p.1] [bF 0 5 27 [AV.agg [AV.str p.2.1,AV.list 3 p.2.2.1,AV.list 1 p.2.2.2.1,AV.list 2 p.2.2.2.2.1,AV.list 7 p.2.2.2.2.2]]]))) (false,[],[],[],[],[]) fun (l,b,_,a,v,_,_,_) _ (c,i,d,e,f,g,h)=>(((l,b,(),a,v,c,i,()),(((d,e,f,g,h,()),()),())),xdb l b a v c i d e f g h none)
def xfB (e:List UInt8) (b a c d l:LA) (f:Int):=Iter (xaV l f ((xmy l).getD [])) (true,0,e,b,a,c,d)
def xfA (e:List UInt8) (b a c d l:LA) (f:Int):=(xfB e b a c d l f).getD (false,[],[],[],[],[])
def xdj (e:List UInt8) (b a c d l:LA) (f:Int):=(xfA e b a c d l f).fst
def xfz (e:List UInt8) (b a c d l:LA) (f:Int):=(xfA e b a c d l f).snd
def xfw (e:List UInt8) (b a c d l:LA) (f:Int):=(xfz e b a c d l f).snd
def xfy (e:List UInt8) (b a c d l:LA) (f:Int):=(xfz e b a c d l f).fst
def xfu (e:List UInt8) (b a c d l:LA) (f:Int):=(xfw e b a c d l f).snd
def xfv (e:List UInt8) (b a c d l:LA) (f:Int):=(xfw e b a c d l f).fst
def xfs (e:List UInt8) (b a c d l:LA) (f:Int):=(xfu e b a c d l f).snd
def xft (e:List UInt8) (b a c d l:LA) (f:Int):=(xfu e b a c d l f).fst
def xfq (e:List UInt8) (b a c d l:LA) (f:Int):=(xfs e b a c d l f).fst
def xfr (e:List UInt8) (b a c d l:LA) (f:Int):=(xfs e b a c d l f).snd
def xfp (e:List UInt8) (b a c d l:LA) (f:Int):=xeL (xfy e b a c d l f) (xfv e b a c d l f) (xft e b a c d l f) (xfq e b a c d l f) (xfr e b a c d l f) l
def xfo (e:List UInt8) (b a c d l:LA) (f:Int):=(xfp e b a c d l f).getD []
def xfn (e:List UInt8) (b a c d l:LA) (f:Int):=Iter (xaW l f (xdj e b a c d l f) (xfo e b a c d l f)) (false,0,xfy e b a c d l f,xfv e b a c d l f,xft e b a c d l f,xfq e b a c d l f,xfr e b a c d l f)
def xfm (e:List UInt8) (b a c d l:LA) (f:Int):=(xfn e b a c d l f).getD (false,[],[],[],[],[])
def xfl (e:List UInt8) (b a c d l:LA) (f:Int):=(xfm e b a c d l f).snd
def xf0 (e:List UInt8) (b a c d l:LA) (f:Int):=(xfl e b a c d l f).fst
def xf1 (e:List UInt8) (b a c d l:LA) (f:Int):=(xfl e b a c d l f).snd
def xfZ (e:List UInt8) (b a c d l:LA) (f:Int):=(xf1 e b a c d l f).fst
def xfx (e:List UInt8) (b a c d l:LA) (f:Int):=(xf1 e b a c d l f).snd
def xfX (e:List UInt8) (b a c d l:LA) (f:Int):=(xfx e b a c d l f).fst
def xfY (e:List UInt8) (b a c d l:LA) (f:Int):=(xfx e b a c d l f).snd
def xfV (e:List UInt8) (b a c d l:LA) (f:Int):=(xfY e b a c d l f).snd
def xfW (e:List UInt8) (b a c d l:LA) (f:Int):=(xfY e b a c d l f).fst
def xfT (e:List UInt8) (b a c d l:LA) (f:Int):=xjt (xf0 e b a c d l f) (xfZ e b a c d l f) (xfX e b a c d l f) (xfW e b a c d l f) (xfV e b a c d l f) ((xlj l f).getD [])
def xfU (e:List UInt8) (b a c d l:LA) (f:Int):=xcf (xf0 e b a c d l f) (xfZ e b a c d l f) (xfX e b a c d l f) (xfW e b a c d l f) (xfV e b a c d l f) l
def xgX {T:Type} (e:List UInt8) (b a c d l:LA) (f:Int) (δ:T) (κ:Bool->T):T:=br ((xkL e b a c d l).isSome) (br (!(xkL e b a c d l).getD false) (br (xiF.isSome) (κ (xiF.getD false)) δ) (br ((xmy l).isSome) (br ((xfB e b a c d l f).isSome) (br ((xfp e b a c d l f).isSome) (br ((xfn e b a c d l f).isSome) (br ((xfU e b a c d l f).isSome) (br ((xfU e b a c d l f).getD false==xdj e b a c d l f) (br (xdj e b a c d l f==((↑(xfo e b a c d l f).length:Int)==0)) (br ((xlj l f).isSome) (br ((xfT e b a c d l f).isSome) (br ((xfm e b a c d l f).fst==(xfT e b a c d l f).getD false) (br (xiF.isSome) (κ (xiF.getD false)) δ) (κ (false))) δ) δ) (κ (false))) (κ (false))) δ) δ) δ) δ) δ)) δ
def xhV (e:List UInt8) (b a c d l:LA) (f:Int):=xgX e b a c d l f none some
def xrd:LA->Option (Bool×AV):=fnO (u3 (xMk (u5 (sEq pStr) (uL 3) (uL 1) (uL 2) (uL 7))) (uL 3) uI) (fun ((e,b,a,c,d,_),l,f,_) _=>xgX e b a c d l f) (fun _ p=>AV.bool p) false
theorem xrc:OcOk P0 xL2 5 xrd:=fnC xzz.ok Tryz.func5 81 0 [] [(6,xeD.lp),(12,xiu.lp)] (lks (lkC xeD.ok (lkC xiu.ok lkN)))
end Go.Sim.M
